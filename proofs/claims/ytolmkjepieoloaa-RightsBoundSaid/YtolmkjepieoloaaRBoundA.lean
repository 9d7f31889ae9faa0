/-
  leatlaw07.RightsBound, by numbers.
-/
import Derived.Test.YtolmkjepieoloaaRJoins
namespace Go.Proofs.Ytolmkjepieoloaa
open Go.RowKit
namespace Rt
theorem does_ok2 {x : Nat → Int} {d i j n : Int} (h : (doesM x d i j n).2 = 0) : may (doesM x d i j n).1 = true ∧ gSum (doesM x d i j n).1 = gSum x + (if d % 4 = 0 then n else 0) ∧ (∀ p, x p ≤ (doesM x d i j n).1 p) ∧ 1 ≤ n ∧ n ≤ 1125899906842624 := by
  unfold doesM at *
  by_cases h0 : d % 4 = 0
  · rw [if_pos h0] at *
    obtain ⟨a, _, _, h1, h2, _, my, _, hg, _, he⟩ := give_ok h
    exact ⟨my, by rw [if_pos h0]; exact hg, by rw [he]; exact upd_le x _ n h1, h1, h2⟩
  · simp only [if_neg h0] at *
    by_cases h1' : d % 4 = 1
    · simp only [if_pos h1'] at *
      obtain ⟨a, _, _, h1, h2, _, _, my, _, hg, _, he⟩ := take_ok h
      exact ⟨my, by omega, by rw [he]; exact upd_le x _ n h1, h1, h2⟩
    · simp only [if_neg h1'] at *
      by_cases h2' : d % 4 = 2
      · simp only [if_pos h2'] at *
        obtain ⟨a, _, _, h1, h2, _, my, _, hg, _, he⟩ := free_ok h
        exact ⟨my, by omega, by rw [he]; exact upd_le x _ n h1, h1, h2⟩
      · simp only [if_neg h2'] at *
        obtain ⟨a, b, _, _, _, _, _, h1, h2, _, hM, he⟩ := move_ok h
        exact ⟨hM.may, by have := hM.g; omega, by rw [he]; exact upd_le x _ n h1, h1, h2⟩
theorem does_no {x : Nat → Int} {d i j n : Int} (h : (doesM x d i j n).2 ≠ 0) : (doesM x d i j n).1 = zero := by
  unfold doesM at *
  split at h
  · rename_i hd; rw [if_pos hd]; exact give_no h
  · rename_i hd; rw [if_neg hd]
    split at h
    · rename_i hd; rw [if_pos hd]; exact take_no h
    · rename_i hd; rw [if_neg hd]
      split at h
      · rename_i hd; rw [if_pos hd]; exact free_no h
      · rename_i hd; rw [if_neg hd]; exact move_no h
theorem may_zero : may zero = true := by kernel_rfl
theorem g_zero : gSum zero = 0 := by kernel_rfl
def lsum (x : Nat → Int) : Nat → Int
  | 0 => 0
  | k + 1 => lsum x k + L x k
theorem lsum_all (x : Nat → Int) : uSum x + lsum x 6 = gSum x := by
  simp only [lsum, L, uSum, gSum]; omega
theorem L_bd {x : Nat → Int} (h : may x = true) (k : Nat) (hk : k < 6) : 0 ≤ L x k ∧ L x k ≤ 9007199254740992 := by
  refine ⟨(((may_iff x).1 h).2.1 k hk).1, ?_⟩
  have := localV_bd x ((k : Int) + 1); rw [localV_L h k hk] at this; omega
theorem lsum_bd {x : Nat → Int} (h : may x = true) : ∀ k, k ≤ 6 → 0 ≤ lsum x k ∧ lsum x k ≤ 9007199254740992 * (k : Int)
  | 0, _ => by simp [lsum]
  | k + 1, hk => by have := lsum_bd h k (by omega); have := L_bd h k (by omega); simp only [lsum]; omega
theorem u_bd {x : Nat → Int} (h : may x = true) : 0 ≤ uSum x ∧ uSum x ≤ gSum x ∧ 0 ≤ gSum x ∧ gSum x ≤ 1125899906842624 := by
  have a := lsum_all x
  have b := lsum_bd h 6 (by omega)
  have c := ((may_iff x).1 h).2.2
  have d := (sums_bd x).2
  rw [sums_eq h] at d
  exact ⟨d.1, by omega, by have := d.1; omega, c⟩
theorem mxI_ge {a b : Int} (h : a ≤ b) : mxI a b = b := by unfold mxI; split <;> omega
end Rt
end Go.Proofs.Ytolmkjepieoloaa
