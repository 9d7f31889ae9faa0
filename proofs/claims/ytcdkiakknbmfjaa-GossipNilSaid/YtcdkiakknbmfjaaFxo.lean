/-
  A region that draws its order and makes one new variable: reads, calls, one alloc, one store into it.
-/
import Derived.Test.YtcdkiakknbmfjaaFxd
namespace Go.Proofs.Ytcdkiakknbmfjaa
open Go.RowKit
namespace Fx
section
variable {P : Program} {n : Nat} {Q : Post} {f : Nat → Value} {w : World} {ops : List Oper}
/-- the values: g is the new variable's block -/
def vOne (ia : Nat) (vs : Array Value) : Gh → Nat → Value := fun r i => bif Nat.beq i ia then .pointer (some ⟨(r 0).1, 0, none⟩) else vs.getD i undef
def sOne (w : World) (m : Nat) (z y : Nat → Value) (T : TypeId) : Nat → Gh → World → Prop := fun k r w1 => Below w.heap.size w w1 ∧ (match k with | 0 => True | 1 => w.heap.size ≤ (r 0).1 ∧ Blk w1 (r 0).1 m z T | _ => w.heap.size ≤ (r 0).1 ∧ Blk w1 (r 0).1 m y T)
theorem sOne.up {m : Nat} {z y : Nat → Value} {T : TypeId} {k : Nat} {r : Gh} {w1 w2 : World} (h : sOne w m z y T k r w1) (hb : Below w1.heap.size w1 w2) : sOne w m z y T k r w2 := by
  refine ⟨bch h.1 hb, ?_⟩
  have h2 := h.2
  cases k with
  | zero => trivial
  | succ k => cases k with
    | zero => exact ⟨h2.1, h2.2.stp (Stp.of_below hb) (Nat.ne_of_lt h2.2.lt)⟩
    | succ k => exact ⟨h2.1, h2.2.stp (Stp.of_below hb) (Nat.ne_of_lt h2.2.lt)⟩
/-- an operation that only reads, or calls what only makes memory -/
def QB (P : Program) (ρ : Operand → Value) (o : Oper) (w : World) (v : Value) : Prop := ∀ w1, Below w.heap.size w w1 → (execOp ρ o).run P w1 = .ok (.value v) w1 ∨ ∃ g args, (execOp ρ o).run P w1 = .ok (.enter g args) w1 ∧ Calls P g args w1 fun e w2 => e = .returned v ∧ Below w1.heap.size w1 w2
/-- what is owed of each operation of the region, in the text's order; f' the frame behind it -/
def qbAll (P : Program) (f' : Nat → Value) (ops : Array Oper) (w : World) (ia st : Nat) (vs : Array Value) : List Oper → Nat → Prop
  | [], _ => True
  | o :: l, i => (Nat.beq i ia = true ∨ Nat.beq i st = true ∨ (if Region.wanted o (yf ops f') then QB P (ev f') o w (vs.getD i undef) else vs.getD i undef = undef)) ∧ qbAll P f' ops w ia st vs l (i + 1)
theorem qbAll_at {f' : Nat → Value} {opsA : Array Oper} {ia st : Nat} {vs : Array Value} : ∀ {l : List Oper} {k : Nat}, qbAll P f' opsA w ia st vs l k → ∀ i, i < l.length → (k + i = ia ∨ k + i = st ∨ (if Region.wanted (opAt l i) (yf opsA f') then QB P (ev f') (opAt l i) w (vs.getD (k + i) undef) else vs.getD (k + i) undef = undef))
  | [], _, _, i, hi => absurd hi (by simp)
  | o :: l, k, h, 0, _ => by
    rcases h.1 with h1 | h1 | h1
    · exact .inl (Nat.eq_of_beq_eq_true h1)
    · exact .inr (.inl (Nat.eq_of_beq_eq_true h1))
    · exact .inr (.inr h1)
  | o :: l, k, h, i + 1, hi => by
    have := qbAll_at h.2 i (by simpa using hi)
    rwa [show k + 1 + i = k + (i + 1) by omega] at this
/-- the frame behind the region -/
def fOne (ops : List Oper) (f : Nat → Value) (ia : Nat) (vs : Array Value) (g : Nat) : Nat → Value := full ops f (fun i => bif Nat.beq i ia then .pointer (some ⟨g, 0, none⟩) else vs.getD i undef)
theorem W.one {id : Nat} {T T' : TypeId} {a v : Operand} {m : Nat} {z y : Nat → Value} {u : Value} (ia st : Nat) (sp : List Span) (vs : Array Value) (hm : P.follows .mixedOrders = true) (hok : opsOk n ops = true) (hsel : Region.noSelect ops.toArray = true) (hch : chainOk ops [ia, st] = true) (hsp : spanOk ops [ia, st] sp = true)
    (hes : [ia, st].all (fun e => Nat.blt e ops.length && (match (opAt ops e).guard with | none => true | _ => false)) = true)
    (hia : (opAt ops ia).op = .alloc T) (hz : ((P.info? T).bind (·.zero)).map (·.cells) = some (varr m z))
    (hst : (opAt ops st).op = .store T' a v) (hsd : (opAt ops st).dst = none) (hsz : (P.info? T').map (·.size) = some m) (ha : ∀ g, ev (fOne ops f ia vs g) a = .pointer (some ⟨g, 0, none⟩)) (hv : ∀ g, ev (fOne ops f ia vs g) v = u) (hu : u.cells = varr m y) (h1 : ∀ j, j < m → (y j).oneCell' = true) (hvs : vs.getD st undef = undef)
    (hq : ∀ g, qbAll P (fOne ops f ia vs g) ops.toArray w ia st vs ops 0)
    (h : ∀ g w' f', f' = fOne ops f ia vs g → w.heap.size ≤ g → Blk w' g m y T → Below w.heap.size w w' → Q .normal f' w') : W P n (.region id ops.toArray true) Q f w := by
  have hne : ia ≠ st := by
    unfold chainOk at hch
    simp only [Bool.and_eq_true] at hch
    intro e; subst e; rw [Nat.beq_refl] at hch; exact absurd hch.1.2 (by simp)
  have hval : ∀ r i, vOne ia vs r i = (fun i => bif Nat.beq i ia then Value.pointer (some ⟨(r 0).1, 0, none⟩) else vs.getD i undef) i := fun _ _ => rfl
  have hbia : Nat.beq ia ia = true := Nat.beq_refl _
  have hbst : Nat.beq st ia = false := by
    cases hq : Nat.beq st ia
    · rfl
    · exact absurd (Nat.eq_of_beq_eq_true hq).symm hne
  refine W.drawn [ia, st] sp (vOne ia vs) (sOne w m z y T) hm hok hsel hch hsp hes (by simp [hne]) (fun w1 hb _ => ⟨fun _ => (0, 0), hb, trivial⟩) ?_ ?_ ?_ ?_ ?_
  · intro i hi hni r k w1 _ _ hS
    have hni' : i ≠ ia ∧ i ≠ st := by simpa using hni
    have hb : Nat.beq i ia = false := by
      cases hq : Nat.beq i ia
      · rfl
      · exact absurd (Nat.eq_of_beq_eq_true hq) hni'.1
    have hv' : vOne ia vs r i = vs.getD i undef := by unfold vOne; rw [hb]; rfl
    rcases qbAll_at (hq (r 0).1) i hi with h2 | h2 | h2
    · exact absurd h2 (by omega)
    · exact absurd h2 (by omega)
    · rw [Nat.zero_add] at h2
      have hff : full ops f (vOne ia vs r) = fOne ops f ia vs (r 0).1 := rfl
      rw [hff, hv']
      by_cases hw : Region.wanted (opAt ops i) (yf ops.toArray (fOne ops f ia vs (r 0).1)) = true
      · rw [if_pos hw] at h2 ⊢
        rcases h2 w1 hS.1 with h3 | ⟨g, args, h3, h4⟩
        · rw [h3]; exact ⟨rfl, rfl⟩
        · rw [h3]; exact ⟨rfl, h4.mono fun e w2 ⟨he, hb2⟩ => ⟨he, hS.up hb2⟩⟩
      · rw [if_neg hw] at h2 ⊢; exact h2
  · intro k i hk
    cases k with
    | zero =>
      simp at hk; subst hk
      intro r w1 b K hS hb hK
      obtain ⟨zz, hz1, hz2⟩ := Option.map_eq_some_iff.1 hz
      obtain ⟨ti, hi1, hz3⟩ := Option.bind_eq_some_iff.1 hz1
      have hrun : (execOp b.eval (opAt ops ia)).run P w1 = .ok (.value (.pointer (some ⟨w1.heap.size, 0, none⟩))) (w1.alloc (.cells zz.cells T)) := by
        unfold execOp
        simp [hia, Instr.alloc, zeroValue, typeInfo, hi1, hz3, newVar, newRow]
      unfold Oper.wp
      rw [hrun]
      have := hK (w1.heap.size, 0) (w1.alloc (.cells zz.cells T)) ⟨bch hS.1 (Stp.alloc _ _).old, hS.1.size, by
        show (w1.alloc _).heap[w1.heap.size]? = _
        rw [alloc_at, if_pos rfl, hz2]⟩
      unfold vOne at this
      rw [hbia, updr_same] at this
      exact this
    | succ k =>
      cases k with
      | zero =>
        simp at hk; subst hk
        intro r w1 b K hS hb hK
        obtain ⟨hS1, hS2, hS3⟩ := hS
        have ea : b.eval a = .pointer (some ⟨(r 0).1, 0, none⟩) := (hb a (by rw [hst]; simp [Op.operands])).trans (ha (r 0).1)
        have ev' : b.eval v = u := (hb v (by rw [hst]; simp [Op.operands])).trans (hv (r 0).1)
        have hg : w1.heap[(r 0).1]? = some (.cells (varr m z) T (0, 0)) := hS3
        have hall : (varr m y).all (·.oneCell') = true := by
          rw [Array.all_eq_true_iff_forall_mem]
          intro q hqm
          obtain ⟨j, hj, he⟩ := Array.getElem_of_mem hqm
          have hj' : j < m := by simpa [varr_size] using hj
          have h5 := varr_get y hj'
          rw [Array.getElem?_eq_getElem hj, he] at h5
          rw [Option.some.inj h5]; exact h1 j hj'
        have hstv : (storeVar T' ⟨(r 0).1, 0, none⟩ u).run P w1 = .ok () (w1.setRow (r 0).1 (varr m y)) := by
          have h6 := run_storeCells_at (P := P) (r 0).1 0 T (varr m y).toList 0 (varr m z) w1 hg (by simp [varr_size]) (fun q hq => (Array.all_eq_true_iff_forall_mem.1 hall) q (by simpa using hq))
          have h7 : ((varr m z).toList.take (0 + 0) ++ (varr m y).toList ++ (varr m z).toList.drop (0 + 0 + (varr m y).toList.length)).toArray = varr m y := by
            rw [List.drop_eq_nil_of_le (by simp [varr_size])]; simp
          rw [h7] at h6
          cases hq : P.info? T' with
          | none => simp [hq] at hsz
          | some ti =>
            have hz' : ti.size = m := by simp [hq] at hsz; omega
            simp only [storeVar, sizeOf, typeInfo, Sem.run_bind, run_program, hq, hu, varr_size, hz', ne_eq, not_true_eq_false, if_false, Result.andThen_ok, Sem.run_pure, h6]
        have hrun : (execOp b.eval (opAt ops st)).run P w1 = .ok .skip (w1.setRow (r 0).1 (varr m y)) := by
          unfold execOp
          simp only [hst, ea, ev', Instr.storeAt, Instr.sureAddr, Sem.run_bind, Sem.run_pure, Result.andThen_ok, hstv]
        obtain ⟨s1, s2, s3⟩ := setRow_stp (w := w1) (cs := varr m y) hg
        unfold Oper.wp
        rw [hrun]
        show K (b.put (opAt ops st).dst undef) _
        rw [hsd]
        have := hK (0, 0) (w1.setRow (r 0).1 (varr m y)) ⟨s1.below hS1 hS1.size hS2, by rw [updr_ne (by omega)]; exact hS2, by rw [updr_ne (by omega)]; exact s2⟩
        rw [hsd] at this
        exact this
      | succ k => simp at hk
  · intro i hi hni k r p _
    have hni' : i ≠ ia ∧ i ≠ st := by simpa using hni
    have hb : Nat.beq i ia = false := by
      cases hq : Nat.beq i ia
      · rfl
      · exact absurd (Nat.eq_of_beq_eq_true hq) hni'.1
    unfold vOne; rw [hb]; rfl
  · intro k i hk q r p hq
    cases k with
    | zero => simp at hk; subst hk; unfold vOne; rw [hbia, updr_ne (by omega)]
    | succ k =>
      cases k with
      | zero => simp at hk; subst hk; unfold vOne; rw [hbst]; rfl
      | succ k => simp at hk
  · intro r w' hS
    exact h (r 0).1 w' _ rfl hS.2.1 hS.2.2 hS.1
theorem fOne_out {ia : Nat} {vs : Array Value} {g s : Nat} (h : writer ops s = none) : ev (fOne ops f ia vs g) (.tmp s) = f s := by
  show full ops f _ s = f s
  unfold full; rw [h]
theorem qbV {ρ : Operand → Value} {o : Oper} {v : Value} (h : ∀ w1, Below w.heap.size w w1 → (execOp ρ o).run P w1 = .ok (.value v) w1) : QB P ρ o w v := fun w1 hb => .inl (h w1 hb)
theorem qbC {ρ : Operand → Value} {o : Oper} {v : Value} {g : FuncId} {args : Array Value} (h : ∀ w1, Below w.heap.size w w1 → (execOp ρ o).run P w1 = .ok (.enter g args) w1) (hc : ∀ w1, Below w.heap.size w w1 → Calls P g args w1 fun e w2 => e = .returned v ∧ Below w1.heap.size w1 w2) : QB P ρ o w v := fun w1 hb => .inr ⟨g, args, h w1 hb, hc w1 hb⟩
theorem qb_yes {o : Oper} {ops : Array Oper} {f' : Nat → Value} {v v' : Value} {p : Prop} (hw : Region.wanted o (yf ops f') = true) (e : v' = v) (h : QB P (ev f') o w v) : (if Region.wanted o (yf ops f') then QB P (ev f') o w v' else p) := by rw [if_pos hw, e]; exact h
theorem qb_no {o : Oper} {ops : Array Oper} {f' : Nat → Value} {v : Value} {p : Prop} (hw : Region.wanted o (yf ops f') = false) (e : v = undef) : (if Region.wanted o (yf ops f') then p else v = undef) := by rw [if_neg (by rw [hw]; decide)]; exact e
end
end Fx
end Go.Proofs.Ytcdkiakknbmfjaa
