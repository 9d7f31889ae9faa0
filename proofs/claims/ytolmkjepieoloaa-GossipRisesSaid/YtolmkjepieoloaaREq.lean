/-
  Rights compared: x == y on two rows.
-/
import Derived.Test.YtolmkjepieoloaaRMath
import Derived.Test.YtolmkjepieoloaaFlat
import Derived.Laws.StructEq
namespace Go.Proofs.Ytolmkjepieoloaa
open Go.RowKit
theorem wp_binOp_run {P : Program} {o : Oper} {a : Act} {w : World} {K : Act → World → Prop} {Q : Exit → Act → World → Prop} {op : BinOp} {t t' : TypeId} {x y : Operand} {vx vy v : Value} (ho : o.op = .binOp op t x y t') (hx : a.eval x = vx) (hy : a.eval y = vy)
    (hrun : (binOp op t vx vy).run P w = .ok v w) (hg : (eqGuard op t x y vx vy).run P w = .ok () w) (h : K (a.put o.dst v) w) : o.wp P a w K Q := by
  unfold Oper.wp execOp
  simp only [ho, hx, hy, Sem.run_bind, Sem.run_pure, Result.andThen_ok, hrun, hg]
  exact h
namespace Rt
def In64 (x : Nat → Int) : Prop := ∀ p, p < 54 → -9223372036854775808 ≤ x p ∧ x p ≤ 9223372036854775807
theorem Ent.in64 {x : Nat → Int} (h : Ent x) : In64 x := fun p hp => by have := h p hp; omega
theorem zero_in64 : In64 zero := fun _ _ => by unfold zero; omega
def lits (n : Nat) (x : Nat → Int) : List Lit := (List.range n).map fun p => .int .i64 (x p)
def eqR (x y : Nat → Int) : Bool := (List.range 54).all fun p => x p == y p
end Rt
theorem fit_row (x : Nat → Int) : ∀ (n : Nat), (∀ p, p < n → -9223372036854775808 ≤ x p ∧ x p ≤ 9223372036854775807) → Fit (List.replicate n (some .i64)) ((List.range n).map fun p => .int .i64 (x p)) (Rt.lits n x) := by
  intro n hb
  have gen : ∀ (l : List Nat), (∀ p ∈ l, -9223372036854775808 ≤ x p ∧ x p ≤ 9223372036854775807) → Fit (List.replicate l.length (some .i64)) (l.map fun p => .int .i64 (x p)) (l.map fun p => .int .i64 (x p)) := by
    intro l
    induction l with
    | nil => intro _; exact trivial
    | cons p l ih =>
      intro h
      refine ⟨?_, ih fun q hq => h q (by simp [hq])⟩
      have := h p (by simp)
      show (if IntKind.i64 = IntKind.i64 ∧ (Lit.int .i64 (x p)).wf = true then some (Lit.int .i64 (x p)) else none) = _
      rw [if_pos ⟨rfl, by simp [Lit.wf, IntKind.min, IntKind.max, IntKind.bits, IntKind.signed]; omega⟩]
  have := gen (List.range n) (fun p hp => hb p (by simpa using hp))
  rw [List.length_range] at this
  exact this
theorem iarr_list (k : IntKind) (n : Nat) (x : Nat → Int) : (iarr k n x).toList = (List.range n).map fun p => .int k (x p) := by
  apply List.ext_getElem?
  intro i
  by_cases h : i < n
  · rw [Array.getElem?_toList, iarr_get k n x i h]; simp [h]
  · rw [List.getElem?_eq_none (by rw [Array.length_toList, iarr_size]; omega), List.getElem?_eq_none (by simp; omega)]
theorem flatR : flatK Try.prog 8 48 = some (List.replicate 54 (some .i64)) := by kernel_rfl
theorem keyR : Try.prog.keyTypeAt 8 48 = true := by kernel_rfl
theorem lits_eq (x y : Nat → Int) (n : Nat) : Rt.lits n x = Rt.lits n y ↔ ∀ p, p < n → x p = y p := by
  unfold Rt.lits
  rw [List.map_inj_left]
  constructor
  · intro h p hp; have := h p (by simpa using hp); simpa using this
  · intro h p hp; rw [h p (by simpa using hp)]
theorem run_eqR (w : World) {x y : Nat → Int} (hx : Rt.In64 x) (hy : Rt.In64 y) : (binOp .eql 48 (.agg (iarr .i64 54 x)) (.agg (iarr .i64 54 y))).run Try.prog w = .ok (.bool (Rt.eqR x y)) w := by
  refine run_eql_flat w 8 (by omega) _ _ _ _ (Rt.lits 54 x) (Rt.lits 54 y) keyR flatR (by kernel_rfl) (by rw [iarr_list]; exact fit_row x 54 hx) (by rw [iarr_list]; exact fit_row y 54 hy) _ ?_
  rw [lits_eq]; unfold Rt.eqR; rw [List.all_eq_true]; simp
theorem run_neR (w : World) {x y : Nat → Int} (hx : Rt.In64 x) (hy : Rt.In64 y) : (binOp .neq 48 (.agg (iarr .i64 54 x)) (.agg (iarr .i64 54 y))).run Try.prog w = .ok (.bool (!Rt.eqR x y)) w := by
  refine run_neq_flat w 8 (by omega) _ _ _ _ (Rt.lits 54 x) (Rt.lits 54 y) keyR flatR (by kernel_rfl) (by rw [iarr_list]; exact fit_row x 54 hx) (by rw [iarr_list]; exact fit_row y 54 hy) _ ?_
  rw [lits_eq]; unfold Rt.eqR; rw [List.all_eq_true]; simp
theorem eqR_of {x y : Nat → Int} (h : ∀ p, p < 54 → x p = y p) : Rt.eqR x y = true := by unfold Rt.eqR; rw [List.all_eq_true]; simpa using h
theorem guardR (op : BinOp) (x y : Operand) (a b : Array Value) (w : World) : (eqGuard op 48 x y (.agg a) (.agg b)).run Try.prog w = .ok () w := by
  exact run_eqGuard_agg w op _ x y a b (by kernel_rfl)
theorem wpList_eqR {ops : Array Oper} {rest : List Oper} {o : Oper} {a : Act} {w : World} {Q : Exit → Act → World → Prop} {t' : TypeId} {x y : Operand} {fx fy : Nat → Int} {b : Bool} (hw : Region.wanted o (yielded ops a.tmps) = true) (ho : o.op = .binOp .eql 48 x y t')
    (hx : a.eval x = .agg (iarr .i64 54 fx)) (hy : a.eval y = .agg (iarr .i64 54 fy)) (bx : Rt.In64 fx) (bY : Rt.In64 fy) (hb : Rt.eqR fx fy = b) (h : wpList Try.prog ops Q rest (a.put o.dst (.bool b)) w) : wpList Try.prog ops Q (o :: rest) a w :=
  wpList_wanted hw (wp_binOp_run ho hx hy (by rw [run_eqR w bx bY, hb]) (guardR _ _ _ _ _ _) h)
theorem wpList_neR {ops : Array Oper} {rest : List Oper} {o : Oper} {a : Act} {w : World} {Q : Exit → Act → World → Prop} {t' : TypeId} {x y : Operand} {fx fy : Nat → Int} {b : Bool} (hw : Region.wanted o (yielded ops a.tmps) = true) (ho : o.op = .binOp .neq 48 x y t')
    (hx : a.eval x = .agg (iarr .i64 54 fx)) (hy : a.eval y = .agg (iarr .i64 54 fy)) (bx : Rt.In64 fx) (bY : Rt.In64 fy) (hb : (!Rt.eqR fx fy) = b) (h : wpList Try.prog ops Q rest (a.put o.dst (.bool b)) w) : wpList Try.prog ops Q (o :: rest) a w :=
  wpList_wanted hw (wp_binOp_run ho hx hy (by rw [run_neR w bx bY, hb]) (guardR _ _ _ _ _ _) h)
/-- rows of rights that stay, in a world that has grown -/
def Rws (w0 : World) (l : List (Nat × (Nat → Int))) (w' : World) : Prop := (∀ p ∈ l, w'.heap[p.1]? = some (.cells (iarr .i64 54 p.2) 48 (0, 0))) ∧ Below w0.heap.size w0 w'
theorem Rws.up {w0 w w' : World} {l : List (Nat × (Nat → Int))} (h : Rws w0 l w) (hb : Below w.heap.size w w') : Rws w0 l w' := ⟨fun p hp => row_kept (h.1 p hp) hb, bch h.2 hb⟩
theorem Rws.drew {w0 w : World} {l : List (Nat × (Nat → Int))} (h : Rws w0 l w) : Rws w0 l w.drew := ⟨h.1, bN h.2 1⟩
theorem Rws.drop {w0 w : World} {p : Nat × (Nat → Int)} {l : List (Nat × (Nat → Int))} (h : Rws w0 (p :: l) w) : Rws w0 l w := ⟨fun q hq => h.1 q (by simp [hq]), h.2⟩
theorem Rws.row {w0 w : World} {l : List (Nat × (Nat → Int))} (h : Rws w0 l w) (g : Nat) (x : Nat → Int) (hm : (g, x) ∈ l) : w.heap[g]? = some (.cells (iarr .i64 54 x) 48 (0, 0)) := h.1 (g, x) hm
theorem Rws.add {w0 w : World} {l : List (Nat × (Nat → Int))} (h : Rws w0 l w) {g : Nat} {x : Nat → Int} (c : w.heap[g]? = some (.cells (iarr .i64 54 x) 48 (0, 0))) : Rws w0 ((g, x) :: l) w :=
  ⟨fun p hp => by
    rcases List.mem_cons.1 hp with rfl | hp
    · exact c
    · exact h.1 p hp, h.2⟩
theorem Rws.start (w : World) (x : Nat → Int) : Rws w [(w.heap.size, x)] (w.alloc (.cells (iarr .i64 54 x) 48)) := ⟨fun p hp => by
    obtain rfl : p = (w.heap.size, x) := by simpa using hp
    exact heap_alloc_new w _, (Below.refl _ _).alloc (Nat.le_refl _) _⟩
end Go.Proofs.Ytolmkjepieoloaa
