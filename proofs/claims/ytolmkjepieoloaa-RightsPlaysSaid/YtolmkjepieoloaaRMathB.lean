/-
  Rights: what each call does, by numbers.
-/
import Derived.Test.YtolmkjepieoloaaRMath
namespace Go.Proofs.Ytolmkjepieoloaa
open Go.RowKit
namespace Rt
theorem turned_cases (x : Nat → Int) (n : Int) (is : Bool) (em : Int) (off : Nat) :
    ((turnedM x n is em off).1 = zero ∧ (turnedM x n is em off).2 ≠ 0 ∧ ¬ (may x = true ∧ 1 ≤ n ∧ n ≤ 1125899906842624 ∧ is = true ∧ em = 0 ∧ x off + n ≤ 1125899906842624)) ∨
    ((may x = true ∧ 1 ≤ n ∧ n ≤ 1125899906842624 ∧ is = true ∧ em = 0 ∧ x off + n ≤ 1125899906842624) ∧ turnedM x n is em off = (upd x off (x off + n), 0)) := by
  unfold turnedM
  by_cases h1 : may x = true
  · by_cases h2 : 1 ≤ n
    · by_cases h3 : n ≤ 1125899906842624
      · rw [h1, decide_eq_true h2, decide_eq_true h3]
        simp only [Bool.and_self, if_true]
        cases is
        · left; exact ⟨rfl, (by show (10 : Int) ≠ 0; decide), fun h => by cases h.2.2.2.1⟩
        · by_cases h4 : em = 0
          · by_cases h5 : x off + n ≤ 1125899906842624
            · right; exact ⟨⟨trivial, h2, h3, rfl, h4, h5⟩, by rw [if_pos rfl, if_pos h4, if_pos h5]⟩
            · left; rw [if_pos rfl, if_pos h4, if_neg h5]; exact ⟨rfl, by decide, fun h => h5 h.2.2.2.2.2⟩
          · left; rw [if_pos rfl, if_neg h4]; exact ⟨rfl, h4, fun h => h4 h.2.2.2.2.1⟩
      · left; rw [decide_eq_false h3, Bool.and_false, if_neg (by decide)]; exact ⟨rfl, by decide, fun h => h3 h.2.2.1⟩
    · left; rw [decide_eq_false h2, Bool.and_false, Bool.false_and, if_neg (by decide)]; exact ⟨rfl, by decide, fun h => h2 h.2.1⟩
  · left; rw [show may x = false by simpa using h1, Bool.false_and, Bool.false_and, if_neg (by decide)]; exact ⟨rfl, by decide, fun h => by cases h.1⟩
theorem upd_bd {x : Nat → Int} (h : Ent x) {off : Nat} {n : Int} (h1 : 1 ≤ n) (h2 : x off + n ≤ 1125899906842624) (ho : off < 54) : Ent (upd x off (x off + n)) := by
  intro p hp
  unfold upd
  split
  · have := h off ho; omega
  · exact h p hp
theorem reg_nat {i : Int} (h : regB i = true) : ∃ a : Nat, a < 6 ∧ i = (a : Int) + 1 ∧ i.toNat - 1 = a := by
  have : 1 ≤ i ∧ i ≤ 6 := by unfold regB at h; simpa using h
  exact ⟨(i - 1).toNat, by omega, by omega, by omega⟩
/-- what a move that is done does -/
structure Moved (x y : Nat → Int) (a b : Nat) (n : Int) : Prop where
  may : may y = true
  l : ∀ k, k < 6 → L y k = L x k + (if k = b then n else 0) - (if k = a then n else 0)
  g : gSum y = gSum x
  u : uSum y = uSum x
theorem move_ok {x : Nat → Int} {i j n : Int} (h : (moveM x i j n).2 = 0) : ∃ a b : Nat, a < 6 ∧ b < 6 ∧ a ≠ b ∧ i = (a : Int) + 1 ∧ j = (b : Int) + 1 ∧ 1 ≤ n ∧ n ≤ 1125899906842624 ∧ n ≤ L x a ∧ Moved x (moveM x i j n).1 a b n ∧ (moveM x i j n).1 = upd x (18 + a * 6 + b) (x (18 + a * 6 + b) + n) := by
  unfold moveM at *
  rcases turned_cases x n (regB i && regB j) (moveE x i j n) (moveO i j) with ⟨_, h2, _⟩ | ⟨⟨hm, h1, h2, hr, he, hx⟩, heq⟩
  · exact absurd h h2
  · rw [Bool.and_eq_true] at hr
    obtain ⟨a, ha, hia, hta⟩ := reg_nat hr.1
    obtain ⟨b, hb, hjb, htb⟩ := reg_nat hr.2
    have ho : moveO i j = 18 + a * 6 + b := by unfold moveO; rw [hta, htb]
    rw [ho] at heq hx
    rw [ho]
    have hne : a ≠ b := by
      intro hab
      unfold moveE at he
      rw [if_pos (by rw [hia, hjb, hab])] at he
      cases he
    have hL : n ≤ L x a := by
      unfold moveE at he
      rw [if_neg (by omega)] at he
      by_cases hl : localV x i < n
      · rw [decide_eq_true hl] at he; cases he
      · rw [hia, localV_L hm a ha] at hl; omega
    obtain ⟨e, al, gs⟩ := (may_iff x).1 hm
    have hl := L_move x a b ha hb n
    have o1 : ∀ p, p < 18 → upd x (18 + a * 6 + b) (x (18 + a * 6 + b) + n) p = x p := fun p hp => upd_other _ _ _ _ (by omega)
    have hg : gSum (upd x (18 + a * 6 + b) (x (18 + a * 6 + b) + n)) = gSum x := by unfold gSum G; rw [o1 0 (by omega), o1 1 (by omega), o1 2 (by omega), o1 3 (by omega), o1 4 (by omega), o1 5 (by omega)]
    have hfst : (turnedM x n (regB i && regB j) (moveE x i j n) (18 + a * 6 + b)).1 = upd x (18 + a * 6 + b) (x (18 + a * 6 + b) + n) := by rw [heq]
    rw [hfst]
    refine ⟨a, b, ha, hb, hne, hia, hjb, h1, h2, hL, ⟨?_, hl, hg, ?_⟩, rfl⟩
    · rw [may_iff]
      refine ⟨upd_bd e h1 hx (by omega), fun k hk => ?_, by rw [hg]; exact gs⟩
      obtain ⟨c1, c2, c3⟩ := al k hk
      refine ⟨?_, ?_, ?_⟩
      · rw [hl k hk]
        split
        · split <;> omega
        · split
          · rename_i hka; subst hka; omega
          · omega
      · unfold F C at *; rw [o1 _ (by omega), o1 _ (by omega)]; exact c2
      · unfold R at *; rw [upd_other _ _ _ _ (by omega)]; exact c3
    · unfold uSum C F; simp only [o1 _ (show 6 + 0 < 18 by omega), o1 _ (show 6 + 1 < 18 by omega), o1 _ (show 6 + 2 < 18 by omega), o1 _ (show 6 + 3 < 18 by omega), o1 _ (show 6 + 4 < 18 by omega), o1 _ (show 6 + 5 < 18 by omega), o1 _ (show 12 + 0 < 18 by omega), o1 _ (show 12 + 1 < 18 by omega), o1 _ (show 12 + 2 < 18 by omega), o1 _ (show 12 + 3 < 18 by omega), o1 _ (show 12 + 4 < 18 by omega), o1 _ (show 12 + 5 < 18 by omega)]
theorem move_no {x : Nat → Int} {i j n : Int} (h : (moveM x i j n).2 ≠ 0) : (moveM x i j n).1 = zero := by
  unfold moveM at *
  rcases turned_cases x n (regB i && regB j) (moveE x i j n) (moveO i j) with ⟨h1, _, _⟩ | ⟨_, heq⟩
  · exact h1
  · rw [heq] at h; exact absurd rfl h
/-! ### a number of the first three rows -/
theorem upd_rows (x : Nat → Int) (off : Nat) (ho : off < 18) (v : Int) (a b : Nat) : R (upd x off v) a b = R x a b := upd_other _ _ _ _ (by omega)
theorem L_low (x : Nat → Int) (off : Nat) (ho : off < 18) (v : Int) (k : Nat) : L (upd x off v) k = L x k + (G (upd x off v) k - G x k) + (F (upd x off v) k - F x k) - (C (upd x off v) k - C x k) := by
  unfold L
  simp only [upd_rows x off ho v]
  omega
theorem C_upd (x : Nat → Int) (a : Nat) (n : Int) (k : Nat) : C (upd x (6 + a) (x (6 + a) + n)) k = C x k + (if k = a then n else 0) := by
  unfold C upd
  by_cases h : k = a
  · subst h; simp
  · rw [if_neg (by omega), if_neg h]; omega
theorem F_upd (x : Nat → Int) (a : Nat) (n : Int) (k : Nat) : F (upd x (12 + a) (x (12 + a) + n)) k = F x k + (if k = a then n else 0) := by
  unfold F upd
  by_cases h : k = a
  · subst h; simp
  · rw [if_neg (by omega), if_neg h]; omega
theorem G_upd (x : Nat → Int) (a : Nat) (n : Int) (k : Nat) : G (upd x a (x a + n)) k = G x k + (if k = a then n else 0) := by
  unfold G upd
  by_cases h : k = a
  · subst h; simp
  · rw [if_neg h, if_neg h]; omega
theorem six (a : Nat) (ha : a < 6) (n : Int) : (if 0 = a then n else 0) + (if 1 = a then n else 0) + (if 2 = a then n else 0) + (if 3 = a then n else 0) + (if 4 = a then n else 0) + (if 5 = a then n else 0) = n := by
  have : a = 0 ∨ a = 1 ∨ a = 2 ∨ a = 3 ∨ a = 4 ∨ a = 5 := by omega
  rcases this with h | h | h | h | h | h <;> subst h <;> simp
theorem take_ok {x : Nat → Int} {i n : Int} (h : (takeM x i n).2 = 0) : ∃ a : Nat, a < 6 ∧ i = (a : Int) + 1 ∧ 1 ≤ n ∧ n ≤ 1125899906842624 ∧ n ≤ L x a ∧ C x a + n ≤ 1125899906842624 ∧ may (takeM x i n).1 = true ∧
    (∀ k, k < 6 → L (takeM x i n).1 k = L x k - (if k = a then n else 0)) ∧ gSum (takeM x i n).1 = gSum x ∧ uSum (takeM x i n).1 = uSum x + n ∧ (takeM x i n).1 = upd x (6 + a) (x (6 + a) + n) := by
  unfold takeM at *
  rcases turned_cases x n (regB i) (takeE x i n) (6 + (i.toNat - 1)) with ⟨_, h2, _⟩ | ⟨⟨hm, h1, h2, hr, he, hx⟩, heq⟩
  · exact absurd h h2
  · obtain ⟨a, ha, hia, hta⟩ := reg_nat hr
    rw [hta] at heq hx
    rw [hta]
    have hL : n ≤ L x a := by
      unfold takeE at he
      by_cases hl : localV x i < n
      · rw [decide_eq_true hl] at he; cases he
      · rw [hia, localV_L hm a ha] at hl; omega
    obtain ⟨e, al, gs⟩ := (may_iff x).1 hm
    have hfst : (turnedM x n (regB i) (takeE x i n) (6 + a)).1 = upd x (6 + a) (x (6 + a) + n) := by rw [heq]
    rw [hfst]
    have hC := C_upd x a n
    have hG : ∀ k, k < 6 → G (upd x (6 + a) (x (6 + a) + n)) k = G x k := fun k hk => upd_other _ _ _ _ (by omega)
    have hF : ∀ k, k < 6 → F (upd x (6 + a) (x (6 + a) + n)) k = F x k := fun k hk => upd_other _ _ _ _ (by omega)
    have hl : ∀ k, k < 6 → L (upd x (6 + a) (x (6 + a) + n)) k = L x k - (if k = a then n else 0) := by
      intro k hk
      rw [L_low x (6 + a) (by omega), hG k hk, hF k hk, hC k]; omega
    have hg : gSum (upd x (6 + a) (x (6 + a) + n)) = gSum x := by unfold gSum; rw [hG 0 (by omega), hG 1 (by omega), hG 2 (by omega), hG 3 (by omega), hG 4 (by omega), hG 5 (by omega)]
    refine ⟨a, ha, hia, h1, h2, hL, hx, ?_, hl, hg, ?_, rfl⟩
    · rw [may_iff]
      refine ⟨upd_bd e h1 hx (by omega), fun k hk => ?_, by rw [hg]; exact gs⟩
      obtain ⟨c1, c2, c3⟩ := al k hk
      refine ⟨?_, ?_, ?_⟩
      · rw [hl k hk]
        split
        · rename_i hka; subst hka; omega
        · omega
      · rw [hF k hk, hC k]; split <;> omega
      · rw [upd_rows x (6 + a) (by omega)]; exact c3
    · unfold uSum
      rw [hF 0 (by omega), hF 1 (by omega), hF 2 (by omega), hF 3 (by omega), hF 4 (by omega), hF 5 (by omega), hC 0, hC 1, hC 2, hC 3, hC 4, hC 5]
      have := six a ha n
      omega
theorem take_no {x : Nat → Int} {i n : Int} (h : (takeM x i n).2 ≠ 0) : (takeM x i n).1 = zero := by
  unfold takeM at *
  rcases turned_cases x n (regB i) (takeE x i n) (6 + (i.toNat - 1)) with ⟨h1, _, _⟩ | ⟨_, heq⟩
  · exact h1
  · rw [heq] at h; exact absurd rfl h
theorem free_ok {x : Nat → Int} {i n : Int} (h : (freeM x i n).2 = 0) : ∃ a : Nat, a < 6 ∧ i = (a : Int) + 1 ∧ 1 ≤ n ∧ n ≤ 1125899906842624 ∧ n ≤ C x a - F x a ∧ may (freeM x i n).1 = true ∧
    (∀ k, k < 6 → L (freeM x i n).1 k = L x k + (if k = a then n else 0)) ∧ gSum (freeM x i n).1 = gSum x ∧ uSum (freeM x i n).1 = uSum x - n ∧ (freeM x i n).1 = upd x (12 + a) (x (12 + a) + n) := by
  unfold freeM at *
  rcases turned_cases x n (regB i) (freeE x i n) (12 + (i.toNat - 1)) with ⟨_, h2, _⟩ | ⟨⟨hm, h1, h2, hr, he, hx⟩, heq⟩
  · exact absurd h h2
  · obtain ⟨a, ha, hia, hta⟩ := reg_nat hr
    rw [hta] at heq hx
    rw [hta]
    have hL : n ≤ C x a - F x a := by
      unfold freeE at he
      rw [hta] at he
      by_cases hl : C x a - F x a < n
      · rw [decide_eq_true hl] at he; cases he
      · omega
    obtain ⟨e, al, gs⟩ := (may_iff x).1 hm
    have hfst : (turnedM x n (regB i) (freeE x i n) (12 + a)).1 = upd x (12 + a) (x (12 + a) + n) := by rw [heq]
    rw [hfst]
    have hF := F_upd x a n
    have hG : ∀ k, k < 6 → G (upd x (12 + a) (x (12 + a) + n)) k = G x k := fun k hk => upd_other _ _ _ _ (by omega)
    have hC : ∀ k, k < 6 → C (upd x (12 + a) (x (12 + a) + n)) k = C x k := fun k hk => upd_other _ _ _ _ (by omega)
    have hl : ∀ k, k < 6 → L (upd x (12 + a) (x (12 + a) + n)) k = L x k + (if k = a then n else 0) := by
      intro k hk
      rw [L_low x (12 + a) (by omega), hG k hk, hF k, hC k hk]; omega
    have hg : gSum (upd x (12 + a) (x (12 + a) + n)) = gSum x := by unfold gSum; rw [hG 0 (by omega), hG 1 (by omega), hG 2 (by omega), hG 3 (by omega), hG 4 (by omega), hG 5 (by omega)]
    refine ⟨a, ha, hia, h1, h2, hL, ?_, hl, hg, ?_, rfl⟩
    · rw [may_iff]
      refine ⟨upd_bd e h1 hx (by omega), fun k hk => ?_, by rw [hg]; exact gs⟩
      obtain ⟨c1, c2, c3⟩ := al k hk
      refine ⟨?_, ?_, ?_⟩
      · rw [hl k hk]; split <;> omega
      · rw [hF k, hC k hk]
        split
        · rename_i hka; subst hka; omega
        · omega
      · rw [upd_rows x (12 + a) (by omega)]; exact c3
    · unfold uSum
      rw [hC 0 (by omega), hC 1 (by omega), hC 2 (by omega), hC 3 (by omega), hC 4 (by omega), hC 5 (by omega), hF 0, hF 1, hF 2, hF 3, hF 4, hF 5]
      have := six a ha n
      omega
theorem free_no {x : Nat → Int} {i n : Int} (h : (freeM x i n).2 ≠ 0) : (freeM x i n).1 = zero := by
  unfold freeM at *
  rcases turned_cases x n (regB i) (freeE x i n) (12 + (i.toNat - 1)) with ⟨h1, _, _⟩ | ⟨_, heq⟩
  · exact h1
  · rw [heq] at h; exact absurd rfl h
theorem give_ok {x : Nat → Int} {i n : Int} (h : (giveM x i n).2 = 0) : ∃ a : Nat, a < 6 ∧ i = (a : Int) + 1 ∧ 1 ≤ n ∧ n ≤ 1125899906842624 ∧ gSum x + n ≤ 1125899906842624 ∧ may (giveM x i n).1 = true ∧
    (∀ k, k < 6 → L (giveM x i n).1 k = L x k + (if k = a then n else 0)) ∧ gSum (giveM x i n).1 = gSum x + n ∧ uSum (giveM x i n).1 = uSum x ∧ (giveM x i n).1 = upd x a (x a + n) := by
  unfold giveM at *
  rcases turned_cases x n (regB i) (giveE x n) (i.toNat - 1) with ⟨_, h2, _⟩ | ⟨⟨hm, h1, h2, hr, he, hx⟩, heq⟩
  · exact absurd h h2
  · obtain ⟨a, ha, hia, hta⟩ := reg_nat hr
    rw [hta] at heq hx
    rw [hta]
    have hL : gSum x + n ≤ 1125899906842624 := by
      unfold giveE at he
      rw [sums_eq hm] at he
      by_cases hl : 1125899906842624 < gSum x + n
      · rw [decide_eq_true hl] at he; cases he
      · omega
    obtain ⟨e, al, gs⟩ := (may_iff x).1 hm
    have hfst : (turnedM x n (regB i) (giveE x n) a).1 = upd x a (x a + n) := by rw [heq]
    rw [hfst]
    have hG := G_upd x a n
    have hF : ∀ k, k < 6 → F (upd x a (x a + n)) k = F x k := fun k hk => upd_other _ _ _ _ (by omega)
    have hC : ∀ k, k < 6 → C (upd x a (x a + n)) k = C x k := fun k hk => upd_other _ _ _ _ (by omega)
    have hl : ∀ k, k < 6 → L (upd x a (x a + n)) k = L x k + (if k = a then n else 0) := by
      intro k hk
      rw [L_low x a (by omega), hG k, hF k hk, hC k hk]; omega
    have hg : gSum (upd x a (x a + n)) = gSum x + n := by
      unfold gSum
      rw [hG 0, hG 1, hG 2, hG 3, hG 4, hG 5]
      have := six a ha n
      omega
    refine ⟨a, ha, hia, h1, h2, hL, ?_, hl, hg, ?_, rfl⟩
    · rw [may_iff]
      refine ⟨upd_bd e h1 hx (by omega), fun k hk => ?_, by rw [hg]; exact hL⟩
      obtain ⟨c1, c2, c3⟩ := al k hk
      refine ⟨?_, ?_, ?_⟩
      · rw [hl k hk]; split <;> omega
      · rw [hF k hk, hC k hk]; exact c2
      · rw [upd_rows x a (by omega)]; exact c3
    · unfold uSum
      rw [hC 0 (by omega), hC 1 (by omega), hC 2 (by omega), hC 3 (by omega), hC 4 (by omega), hC 5 (by omega), hF 0 (by omega), hF 1 (by omega), hF 2 (by omega), hF 3 (by omega), hF 4 (by omega), hF 5 (by omega)]
theorem give_no {x : Nat → Int} {i n : Int} (h : (giveM x i n).2 ≠ 0) : (giveM x i n).1 = zero := by
  unfold giveM at *
  rcases turned_cases x n (regB i) (giveE x n) (i.toNat - 1) with ⟨h1, _, _⟩ | ⟨_, heq⟩
  · exact h1
  · rw [heq] at h; exact absurd rfl h
end Rt
end Go.Proofs.Ytolmkjepieoloaa
