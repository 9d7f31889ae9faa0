/-
  GossipRises, from flat slices.
-/
import Derived.Test.Ytolmkjepieoloaa17F
import Derived.Test.YtolmkjepieoloaaOpenF
namespace Go.Proofs.Ytolmkjepieoloaa
open Go.RowKit Rt
namespace Rt
def K7 : List IntKind := [.i64, .u64, .u64, .u64, .u64, .u64, .u64]
theorem flat_stx (X : Nat → Nat → Int) : flatX K7 X = stx (fun i => X i 0) (fun i j => X i (j + 1)) := by
  funext p
  show Value.int (K7.getD (p % 7) .i64) (X (p / 7) (p % 7)) = _
  unfold stx
  by_cases h : p % 7 = 0
  · rw [if_pos h, h]; rfl
  · rw [if_neg h]
    show _ = Value.int .u64 (X (p / 7) (p % 7 - 1 + 1))
    rw [show p % 7 - 1 + 1 = p % 7 by omega]
    have h7 : p % 7 < 7 := Nat.mod_lt _ (by omega)
    have : K7.getD (p % 7) .i64 = .u64 := by
      revert h h7; generalize p % 7 = r; intro h h7
      rcases r with _|_|_|_|_|_|_|r
      · exact absurd rfl h
      all_goals first | rfl | omega
    rw [this]
theorem flat_ints (X : Nat → Nat → Int) : flatX [.i64] X = Fx.rv .i64 (fun i => X i 0) := by
  funext p
  show Value.int (([.i64] : List IntKind).getD (p % 1) .i64) (X (p / 1) (p % 1)) = Value.int .i64 (X p 0)
  rw [Nat.mod_one, Nat.div_one]; rfl
theorem u64_bd {n : Int} (h : (Lit.int .u64 n).wf = true) : 0 ≤ n ∧ n ≤ 18446744073709551615 := by
  simp [Lit.wf, IntKind.min, IntKind.max, IntKind.bits, IntKind.signed] at h; omega
theorem k7_u : ∀ j, j < 6 → K7[j + 1]? = some .u64 := by decide
theorem rises_flat (a0 : Option Addr) (l0 c0 : Nat) (X0 : Nat → Nat → Int) (a1 : Option Addr) (l1 c1 : Nat) (X1 : Nat → Nat → Int) (W : World)
    (wf0 : ∀ i, i < l0 → ∀ (j : Nat) (k : IntKind), K7[j]? = some k → (Lit.int k (X0 i j)).wf = true) (st0 : 0 < l0 → ∃ b off, a0 = some ⟨b, off, none⟩ ∧ Fx.Cel W b off (K7.length * l0) (flatX K7 X0))
    (st1 : 0 < l1 → ∃ b off, a1 = some ⟨b, off, none⟩ ∧ Fx.Cel W b off (([.i64] : List IntKind).length * l1) (flatX [.i64] X1)) :
    Calls Try.prog 3 #[.slice a0 l0 c0, .slice a1 l1 c1] W fun e w' => e = .returned (.bool true) ∧ Below W.heap.size W w' := by
  refine rises_any a0 a1 l0 c0 l1 c1 (fun i => X0 i 0) (fun i => X1 i 0) (fun i j => X0 i (j + 1)) W (fun h => ?_) (fun h => ?_) (fun i hi j hj => u64_bd (wf0 i hi (j + 1) .u64 (k7_u j hj)))
  · obtain ⟨b, off, e, hc⟩ := st0 h
    rw [flat_stx] at hc; exact ⟨b, off, e, hc⟩
  · obtain ⟨b, off, e, hc⟩ := st1 h
    rw [flat_ints, show ([.i64] : List IntKind).length * l1 = l1 from Nat.one_mul _] at hc; exact ⟨b, off, e, hc⟩
end Rt
end Go.Proofs.Ytolmkjepieoloaa
