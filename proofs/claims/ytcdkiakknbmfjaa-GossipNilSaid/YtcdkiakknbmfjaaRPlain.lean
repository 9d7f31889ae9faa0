/-
  Rights, as plain functions: x is the row of 54 numbers (G at 0, C at 6, F at 12, R at 18).
-/
import Derived.Test.YtcdkiakknbmfjaaBase
namespace Go.Proofs.Ytcdkiakknbmfjaa
open Go.RowKit
namespace Rt
def mx : Int := 1125899906842624
def okN (n : Int) : Bool := decide (0 ≤ n) && decide (n ≤ 1125899906842624)
def sumOk (l : List Int) : Bool := l.all okN
def sumI (l : List Int) : Int × Bool := if sumOk l then (l.sum, true) else (0, false)
theorem sumOk_take_succ (l : List Int) (k : Nat) (h : k < l.length) : sumOk (l.take (k + 1)) = (sumOk (l.take k) && okN l[k]) := by
  unfold sumOk; rw [List.take_succ_eq_append_getElem h, List.all_append]; simp
theorem sum_take_succ (l : List Int) (k : Nat) (h : k < l.length) : (l.take (k + 1)).sum = (l.take k).sum + l[k] := by
  rw [List.take_succ_eq_append_getElem h, List.sum_append]; simp
theorem sum_bound : ∀ (l : List Int), sumOk l = true → 0 ≤ l.sum ∧ l.sum ≤ 1125899906842624 * (l.length : Int)
  | [], _ => by simp
  | x :: l, h => by
    unfold sumOk at h
    rw [List.all_cons, Bool.and_eq_true] at h
    have := sum_bound l h.2
    have hx := h.1
    unfold okN at hx
    simp at hx
    rw [List.sum_cons, List.length_cons]
    omega
theorem sumI_bound (l : List Int) : 0 ≤ (sumI l).1 ∧ (sumI l).1 ≤ 1125899906842624 * (l.length : Int) := by
  unfold sumI
  by_cases h : sumOk l = true
  · rw [if_pos h]; exact sum_bound l h
  · rw [if_neg h]; simp; omega
theorem sumOk_of_take {l : List Int} {k : Nat} (hk : k < l.length) (h : okN l[k] = false) : sumOk l = false := by
  unfold sumOk
  rw [List.all_eq_false]
  exact ⟨l[k], List.getElem_mem hk, by simpa using h⟩
def G (x : Nat → Int) (i : Nat) : Int := x i
def C (x : Nat → Int) (i : Nat) : Int := x (6 + i)
def F (x : Nat → Int) (i : Nat) : Int := x (12 + i)
def R (x : Nat → Int) (i j : Nat) : Int := x (18 + i * 6 + j)
def outs (x : Nat → Int) (k : Nat) : Nat → List Int
  | 0 => [C x k]
  | j + 1 => outs x k j ++ [R x k j]
def ins (x : Nat → Int) (k : Nat) : Nat → List Int
  | 0 => [G x k, F x k]
  | j + 1 => ins x k j ++ [R x j k]
def localM (x : Nat → Int) (k : Nat) : Int × Bool := ((sumI (ins x k 6)).1 - (sumI (outs x k 6)).1, (sumI (outs x k 6)).2 && (sumI (ins x k 6)).2)
theorem outs_len' (x : Nat → Int) (k : Nat) : (outs x k 6).length = 7 := rfl
theorem ins_len' (x : Nat → Int) (k : Nat) : (ins x k 6).length = 8 := rfl
end Rt
/-- integers in memory -/
def RdI (k : IntKind) (w : World) (a : Option Addr) (l : List Int) : Prop :=
  ∀ i (h : i < l.length), ∃ b off, a = some ⟨b, off, none⟩ ∧ w.cell? ⟨b, off + i, none⟩ = some (.int k l[i])
theorem rdI_kept {k : IntKind} {w w' : World} (h : Below w.heap.size w w') {a : Option Addr} {l : List Int} (hr : RdI k w a l) : RdI k w' a l := by
  intro i hi
  obtain ⟨b, o, e, hc⟩ := hr i hi
  subst e
  exact ⟨b, o, rfl, by rw [h.cell (p := ⟨b, o + i, none⟩) (block_lt_of_cell hc)]; exact hc⟩
end Go.Proofs.Ytcdkiakknbmfjaa
