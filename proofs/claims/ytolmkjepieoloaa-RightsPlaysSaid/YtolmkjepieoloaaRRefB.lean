/-
  The walk of leatref07.local.
-/
import Derived.Test.YtolmkjepieoloaaRRefA
namespace Go.Proofs.Ytolmkjepieoloaa
open Go.RowKit Rt
namespace Rt
def lref (x : Nat → Int) (k : Nat) : Nat → Int
  | 0 => G x k - C x k + F x k
  | j + 1 => lref x k j + R x j k - R x k j
theorem lref_L (x : Nat → Int) (k : Nat) : lref x k 6 = L x k := by simp only [lref, L]; omega
theorem lref_bd {x : Nat → Int} (h : Ent x) (k : Nat) (hk : k < 6) : ∀ j : Nat, j ≤ 6 → -(1125899906842624 * ((j : Int) + 1)) ≤ lref x k j ∧ lref x k j ≤ 1125899906842624 * ((j : Int) + 2)
  | 0, _ => by
    have a := h k (by omega); have b := h (6 + k) (by omega); have c := h (12 + k) (by omega)
    simp only [lref, G, C, F]; omega
  | j + 1, hj => by
    have := lref_bd h k hk j (by omega)
    have a := h (18 + j * 6 + k) (by omega); have b := h (18 + k * 6 + j) (by omega)
    simp only [lref, R]; omega
end Rt
end Go.Proofs.Ytolmkjepieoloaa
