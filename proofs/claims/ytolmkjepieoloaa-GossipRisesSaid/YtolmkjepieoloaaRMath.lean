/-
  Rights: what may be, said by numbers; what a call turns.
-/
import Derived.Test.YtolmkjepieoloaaRJoin
import Derived.Test.YtolmkjepieoloaaRMove
namespace Go.Proofs.Ytolmkjepieoloaa
open Go.RowKit
namespace Rt
def L (x : Nat → Int) (k : Nat) : Int := G x k + F x k + R x 0 k + R x 1 k + R x 2 k + R x 3 k + R x 4 k + R x 5 k - C x k - R x k 0 - R x k 1 - R x k 2 - R x k 3 - R x k 4 - R x k 5
def Ent (x : Nat → Int) : Prop := ∀ p, p < 54 → 0 ≤ x p ∧ x p ≤ 1125899906842624
def All (x : Nat → Int) : Prop := ∀ k, k < 6 → 0 ≤ L x k ∧ F x k ≤ C x k ∧ R x k k = 0
def gSum (x : Nat → Int) : Int := G x 0 + G x 1 + G x 2 + G x 3 + G x 4 + G x 5
theorem sumI_eq {l : List Int} (h : sumOk l = true) : sumI l = (l.sum, true) := by unfold sumI; rw [if_pos h]
theorem Ent.outs {x : Nat → Int} (h : Ent x) (k : Nat) (hk : k < 6) : sumOk (outs x k 6) = true := by
  have e := fun j (hj : j < 6) => h (18 + k * 6 + j) (by omega)
  have c := h (6 + k) (by omega)
  unfold sumOk
  rw [List.all_eq_true]
  intro n hn
  have : n = x (6 + k) ∨ n = x (18 + k * 6 + 0) ∨ n = x (18 + k * 6 + 1) ∨ n = x (18 + k * 6 + 2) ∨ n = x (18 + k * 6 + 3) ∨ n = x (18 + k * 6 + 4) ∨ n = x (18 + k * 6 + 5) := by
    simpa [Rt.outs, C, R, or_assoc] using hn
  unfold okN
  rw [Bool.and_eq_true, decide_eq_true_eq, decide_eq_true_eq]
  rcases this with h | h | h | h | h | h | h <;> subst h
  · exact c
  all_goals exact e _ (by omega)
theorem Ent.ins {x : Nat → Int} (h : Ent x) (k : Nat) (hk : k < 6) : sumOk (ins x k 6) = true := by
  have e := fun j (hj : j < 6) => h (18 + j * 6 + k) (by omega)
  have c := h k (by omega)
  have f := h (12 + k) (by omega)
  unfold sumOk
  rw [List.all_eq_true]
  intro n hn
  have : n = x k ∨ n = x (12 + k) ∨ n = x (18 + 0 * 6 + k) ∨ n = x (18 + 1 * 6 + k) ∨ n = x (18 + 2 * 6 + k) ∨ n = x (18 + 3 * 6 + k) ∨ n = x (18 + 4 * 6 + k) ∨ n = x (18 + 5 * 6 + k) := by
    simpa [Rt.ins, G, F, R, or_assoc] using hn
  unfold okN
  rw [Bool.and_eq_true, decide_eq_true_eq, decide_eq_true_eq]
  rcases this with h | h | h | h | h | h | h | h <;> subst h
  · exact c
  · exact f
  all_goals exact e _ (by omega)
theorem outs_sum (x : Nat → Int) (k : Nat) : (Rt.outs x k 6).sum = C x k + R x k 0 + R x k 1 + R x k 2 + R x k 3 + R x k 4 + R x k 5 := by simp [Rt.outs]; omega
theorem ins_sum (x : Nat → Int) (k : Nat) : (Rt.ins x k 6).sum = G x k + F x k + R x 0 k + R x 1 k + R x 2 k + R x 3 k + R x 4 k + R x 5 k := by simp [Rt.ins]; omega
theorem localM_eq {x : Nat → Int} (h : Ent x) (k : Nat) (hk : k < 6) : localM x k = (L x k, true) := by
  unfold localM
  rw [sumI_eq (h.outs k hk), sumI_eq (h.ins k hk), outs_sum, ins_sum]
  unfold L
  refine Prod.ext ?_ rfl
  dsimp only
  omega
theorem may_ent {x : Nat → Int} (h : may x = true) : Ent x := by
  intro p hp
  by_cases h1 : p < 6
  · exact (may_ok h p h1).g
  · by_cases h2 : p < 12
    · have := (may_ok h (p - 6) (by omega)).c
      unfold C at this; rwa [show 6 + (p - 6) = p by omega] at this
    · by_cases h3 : p < 18
      · have := (may_ok h (p - 12) (by omega)).f
        unfold F at this; rwa [show 12 + (p - 12) = p by omega] at this
      · have := (may_ok h ((p - 18) / 6) (by omega)).r ((p - 18) % 6) (by omega)
        unfold R at this; rwa [show 18 + (p - 18) / 6 * 6 + (p - 18) % 6 = p by omega] at this
theorem gs_ok {x : Nat → Int} (h : Ent x) : sumOk (gs x) = true := by
  unfold sumOk
  rw [List.all_eq_true]
  intro n hn
  have : n = x 0 ∨ n = x 1 ∨ n = x 2 ∨ n = x 3 ∨ n = x 4 ∨ n = x 5 := by simpa [gs, or_assoc] using hn
  unfold okN
  rw [Bool.and_eq_true, decide_eq_true_eq, decide_eq_true_eq]
  rcases this with e | e | e | e | e | e <;> subst e <;> exact h _ (by omega)
theorem gs_sum (x : Nat → Int) : (gs x).sum = gSum x := by simp [gs, gSum, G]; omega
theorem may_iff (x : Nat → Int) : may x = true ↔ Ent x ∧ All x ∧ gSum x ≤ 1125899906842624 := by
  constructor
  · intro h
    have he := may_ent h
    refine ⟨he, fun k hk => ?_, ?_⟩
    · have o := may_ok h k hk
      have := o.l
      rw [localM_eq he k hk] at this
      exact ⟨this, o.fc, o.rkk⟩
    · unfold may at h
      rw [Bool.and_eq_true, Bool.and_eq_true, sumI_eq (gs_ok he), gs_sum] at h
      simpa using h.2.2
  · rintro ⟨he, ha, hg⟩
    have hk : ∀ k, k < 6 → mayK x k = true := by
      intro k hk
      obtain ⟨a, b, c⟩ := ha k hk
      unfold mayK
      rw [localM_eq he k hk]
      simp only [Bool.and_eq_true, decide_eq_true_eq, beq_iff_eq]
      exact ⟨⟨⟨trivial, a⟩, b⟩, c⟩
    have hn : ∀ n, n ≤ 6 → mayN x n = true := by
      intro n
      induction n with
      | zero => intro _; rfl
      | succ n ih => intro hn; rw [show mayN x (n + 1) = (mayN x n && mayK x n) from rfl, ih (by omega), hk n (by omega)]; rfl
    unfold may
    rw [hn 6 (by omega), sumI_eq (gs_ok he), gs_sum, decide_eq_true hg]
    rfl
theorem localV_L {x : Nat → Int} (h : may x = true) (k : Nat) (hk : k < 6) : localV x ((k : Int) + 1) = L x k := by
  unfold localV
  rw [h, Bool.and_true, if_pos (by unfold regB; simp; omega), show ((k : Int) + 1).toNat - 1 = k by omega, localM_eq (may_ent h) k hk]
def uSum (x : Nat → Int) : Int := (C x 0 - F x 0) + (C x 1 - F x 1) + (C x 2 - F x 2) + (C x 3 - F x 3) + (C x 4 - F x 4) + (C x 5 - F x 5)
theorem sums_eq {x : Nat → Int} (h : may x = true) : sums x = (gSum x, uSum x) := by
  unfold sums
  rw [if_pos h]
  refine Prod.ext ?_ ?_
  · simp [limN, gSum]
  · simp [usedN, uSum]
/-! ### one number more -/
theorem R_upd (x : Nat → Int) (i j : Nat) (hi : i < 6) (hj : j < 6) (d : Int) (a b : Nat) (ha : a < 6) (hb : b < 6) :
    R (upd x (18 + i * 6 + j) (x (18 + i * 6 + j) + d)) a b = R x a b + (if a = i then if b = j then d else 0 else 0) := by
  unfold R upd
  by_cases h1 : a = i
  · by_cases h2 : b = j
    · subst h1 h2; simp
    · rw [if_neg (by omega), if_pos h1, if_neg h2]; omega
  · rw [if_neg (by omega), if_neg h1]; omega
theorem L_move (x : Nat → Int) (i j : Nat) (hi : i < 6) (hj : j < 6) (d : Int) (k : Nat) (hk : k < 6) :
    L (upd x (18 + i * 6 + j) (x (18 + i * 6 + j) + d)) k = L x k + (if k = j then d else 0) - (if k = i then d else 0) := by
  have hG : G (upd x (18 + i * 6 + j) (x (18 + i * 6 + j) + d)) k = G x k := upd_other _ _ _ _ (by omega)
  have hC : C (upd x (18 + i * 6 + j) (x (18 + i * 6 + j) + d)) k = C x k := upd_other _ _ _ _ (by omega)
  have hF : F (upd x (18 + i * 6 + j) (x (18 + i * 6 + j) + d)) k = F x k := upd_other _ _ _ _ (by omega)
  unfold L
  rw [hG, hC, hF, R_upd x i j hi hj d 0 k (by omega) hk, R_upd x i j hi hj d 1 k (by omega) hk, R_upd x i j hi hj d 2 k (by omega) hk, R_upd x i j hi hj d 3 k (by omega) hk, R_upd x i j hi hj d 4 k (by omega) hk, R_upd x i j hi hj d 5 k (by omega) hk,
    R_upd x i j hi hj d k 0 hk (by omega), R_upd x i j hi hj d k 1 hk (by omega), R_upd x i j hi hj d k 2 hk (by omega), R_upd x i j hi hj d k 3 hk (by omega), R_upd x i j hi hj d k 4 hk (by omega), R_upd x i j hi hj d k 5 hk (by omega)]
  have e1 : (if 0 = i then if k = j then d else 0 else 0) + (if 1 = i then if k = j then d else 0 else 0) + (if 2 = i then if k = j then d else 0 else 0) + (if 3 = i then if k = j then d else 0 else 0) + (if 4 = i then if k = j then d else 0 else 0) + (if 5 = i then if k = j then d else 0 else 0) = (if k = j then d else 0) := by
    have : i = 0 ∨ i = 1 ∨ i = 2 ∨ i = 3 ∨ i = 4 ∨ i = 5 := by omega
    rcases this with h | h | h | h | h | h <;> subst h <;> simp
  have e2 : (if k = i then if 0 = j then d else 0 else 0) + (if k = i then if 1 = j then d else 0 else 0) + (if k = i then if 2 = j then d else 0 else 0) + (if k = i then if 3 = j then d else 0 else 0) + (if k = i then if 4 = j then d else 0 else 0) + (if k = i then if 5 = j then d else 0 else 0) = (if k = i then d else 0) := by
    have : j = 0 ∨ j = 1 ∨ j = 2 ∨ j = 3 ∨ j = 4 ∨ j = 5 := by omega
    rcases this with h | h | h | h | h | h <;> subst h <;> simp
  generalize (if 0 = i then if k = j then d else 0 else 0) = a0 at *
  generalize (if 1 = i then if k = j then d else 0 else 0) = a1 at *
  generalize (if 2 = i then if k = j then d else 0 else 0) = a2 at *
  generalize (if 3 = i then if k = j then d else 0 else 0) = a3 at *
  generalize (if 4 = i then if k = j then d else 0 else 0) = a4 at *
  generalize (if 5 = i then if k = j then d else 0 else 0) = a5 at *
  generalize (if k = i then if 0 = j then d else 0 else 0) = b0 at *
  generalize (if k = i then if 1 = j then d else 0 else 0) = b1 at *
  generalize (if k = i then if 2 = j then d else 0 else 0) = b2 at *
  generalize (if k = i then if 3 = j then d else 0 else 0) = b3 at *
  generalize (if k = i then if 4 = j then d else 0 else 0) = b4 at *
  generalize (if k = i then if 5 = j then d else 0 else 0) = b5 at *
  rw [← e1, ← e2]
  omega
end Rt
end Go.Proofs.Ytolmkjepieoloaa
