/-
  What the proof of the law rests on, part 3: walks of functions, and plain laws; each says its conditions itself.
-/
import Derived.Laws.StructEq
import Derived.Test.YtolmkjepieoloaaZF2
namespace Go.Proofs.Ytolmkjepieoloaa
open Go.RowKit
namespace Rt
theorem turned_cases (x : Nat → Int) (n : Int) (is : Bool) (em : Int) (off : Nat) :
    ((turnedM x n is em off).1 = zero ∧ (turnedM x n is em off).2 ≠ 0 ∧ ¬ (may x = true ∧ 1 ≤ n ∧ n ≤ 1125899906842624 ∧ is = true ∧ em = 0 ∧ x off + n ≤ 1125899906842624)) ∨
    ((may x = true ∧ 1 ≤ n ∧ n ≤ 1125899906842624 ∧ is = true ∧ em = 0 ∧ x off + n ≤ 1125899906842624) ∧ turnedM x n is em off = (upd x off (x off + n), 0)) := by
  unfold turnedM
  by_cases h1 : may x = true
  · by_cases h2 : 1 ≤ n
    · by_cases h3 : n ≤ 1125899906842624
      · rw [h1, decide_eq_true h2, decide_eq_true h3]
        simp only [Bool.and_self, if_true]
        cases is
        · left; exact ⟨rfl, (by show (10 : Int) ≠ 0; decide), fun h => by cases h.2.2.2.1⟩
        · by_cases h4 : em = 0
          · by_cases h5 : x off + n ≤ 1125899906842624
            · right; exact ⟨⟨trivial, h2, h3, rfl, h4, h5⟩, by rw [if_pos rfl, if_pos h4, if_pos h5]⟩
            · left; rw [if_pos rfl, if_pos h4, if_neg h5]; exact ⟨rfl, by decide, fun h => h5 h.2.2.2.2.2⟩
          · left; rw [if_pos rfl, if_neg h4]; exact ⟨rfl, h4, fun h => h4 h.2.2.2.2.1⟩
      · left; rw [decide_eq_false h3, Bool.and_false, if_neg (by decide)]; exact ⟨rfl, by decide, fun h => h3 h.2.2.1⟩
    · left; rw [decide_eq_false h2, Bool.and_false, Bool.false_and, if_neg (by decide)]; exact ⟨rfl, by decide, fun h => h2 h.2.1⟩
  · left; rw [show may x = false by simpa using h1, Bool.false_and, Bool.false_and, if_neg (by decide)]; exact ⟨rfl, by decide, fun h => by cases h.1⟩
theorem upd_bd {x : Nat → Int} (h : Ent x) {off : Nat} {n : Int} (h1 : 1 ≤ n) (h2 : x off + n ≤ 1125899906842624) (ho : off < 54) : Ent (upd x off (x off + n)) := by
  intro p hp
  unfold upd
  split
  · have := h off ho; omega
  · exact h p hp
theorem reg_nat {i : Int} (h : regB i = true) : ∃ a : Nat, a < 6 ∧ i = (a : Int) + 1 ∧ i.toNat - 1 = a := by
  have : 1 ≤ i ∧ i ≤ 6 := by unfold regB at h; simpa using h
  exact ⟨(i - 1).toNat, by omega, by omega, by omega⟩
structure Moved (x y : Nat → Int) (a b : Nat) (n : Int) : Prop where
  may : may y = true
  l : ∀ k, k < 6 → L y k = L x k + (if k = b then n else 0) - (if k = a then n else 0)
  g : gSum y = gSum x
  u : uSum y = uSum x
theorem move_ok {x : Nat → Int} {i j n : Int} (h : (moveM x i j n).2 = 0) : ∃ a b : Nat, a < 6 ∧ b < 6 ∧ a ≠ b ∧ i = (a : Int) + 1 ∧ j = (b : Int) + 1 ∧ 1 ≤ n ∧ n ≤ 1125899906842624 ∧ n ≤ L x a ∧ Moved x (moveM x i j n).1 a b n ∧ (moveM x i j n).1 = upd x (18 + a * 6 + b) (x (18 + a * 6 + b) + n) := by
  unfold moveM at *
  rcases turned_cases x n (regB i && regB j) (moveE x i j n) (moveO i j) with ⟨_, h2, _⟩ | ⟨⟨hm, h1, h2, hr, he, hx⟩, heq⟩
  · exact absurd h h2
  · rw [Bool.and_eq_true] at hr
    obtain ⟨a, ha, hia, hta⟩ := reg_nat hr.1
    obtain ⟨b, hb, hjb, htb⟩ := reg_nat hr.2
    have ho : moveO i j = 18 + a * 6 + b := by unfold moveO; rw [hta, htb]
    rw [ho] at heq hx
    rw [ho]
    have hne : a ≠ b := by
      intro hab
      unfold moveE at he
      rw [if_pos (by rw [hia, hjb, hab])] at he
      cases he
    have hL : n ≤ L x a := by
      unfold moveE at he
      rw [if_neg (by omega)] at he
      by_cases hl : localV x i < n
      · rw [decide_eq_true hl] at he; cases he
      · rw [hia, localV_L hm a ha] at hl; omega
    obtain ⟨e, al, gs⟩ := (may_iff x).1 hm
    have hl := L_move x a b ha hb n
    have o1 : ∀ p, p < 18 → upd x (18 + a * 6 + b) (x (18 + a * 6 + b) + n) p = x p := fun p hp => upd_other _ _ _ _ (by omega)
    have hg : gSum (upd x (18 + a * 6 + b) (x (18 + a * 6 + b) + n)) = gSum x := by unfold gSum G; rw [o1 0 (by omega), o1 1 (by omega), o1 2 (by omega), o1 3 (by omega), o1 4 (by omega), o1 5 (by omega)]
    have hfst : (turnedM x n (regB i && regB j) (moveE x i j n) (18 + a * 6 + b)).1 = upd x (18 + a * 6 + b) (x (18 + a * 6 + b) + n) := by rw [heq]
    rw [hfst]
    refine ⟨a, b, ha, hb, hne, hia, hjb, h1, h2, hL, ⟨?_, hl, hg, ?_⟩, rfl⟩
    · rw [may_iff]
      refine ⟨upd_bd e h1 hx (by omega), fun k hk => ?_, by rw [hg]; exact gs⟩
      obtain ⟨c1, c2, c3⟩ := al k hk
      refine ⟨?_, ?_, ?_⟩
      · rw [hl k hk]
        split
        · split <;> omega
        · split
          · rename_i hka; subst hka; omega
          · omega
      · unfold F C at *; rw [o1 _ (by omega), o1 _ (by omega)]; exact c2
      · unfold R at *; rw [upd_other _ _ _ _ (by omega)]; exact c3
    · unfold uSum C F; simp only [o1 _ (show 6 + 0 < 18 by omega), o1 _ (show 6 + 1 < 18 by omega), o1 _ (show 6 + 2 < 18 by omega), o1 _ (show 6 + 3 < 18 by omega), o1 _ (show 6 + 4 < 18 by omega), o1 _ (show 6 + 5 < 18 by omega), o1 _ (show 12 + 0 < 18 by omega), o1 _ (show 12 + 1 < 18 by omega), o1 _ (show 12 + 2 < 18 by omega), o1 _ (show 12 + 3 < 18 by omega), o1 _ (show 12 + 4 < 18 by omega), o1 _ (show 12 + 5 < 18 by omega)]
theorem upd_rows (x : Nat → Int) (off : Nat) (ho : off < 18) (v : Int) (a b : Nat) : R (upd x off v) a b = R x a b := upd_other _ _ _ _ (by omega)
theorem L_low (x : Nat → Int) (off : Nat) (ho : off < 18) (v : Int) (k : Nat) : L (upd x off v) k = L x k + (G (upd x off v) k - G x k) + (F (upd x off v) k - F x k) - (C (upd x off v) k - C x k) := by
  unfold L
  simp only [upd_rows x off ho v]
  omega
theorem C_upd (x : Nat → Int) (a : Nat) (n : Int) (k : Nat) : C (upd x (6 + a) (x (6 + a) + n)) k = C x k + (if k = a then n else 0) := by
  unfold C upd
  by_cases h : k = a
  · subst h; simp
  · rw [if_neg (by omega), if_neg h]; omega
theorem F_upd (x : Nat → Int) (a : Nat) (n : Int) (k : Nat) : F (upd x (12 + a) (x (12 + a) + n)) k = F x k + (if k = a then n else 0) := by
  unfold F upd
  by_cases h : k = a
  · subst h; simp
  · rw [if_neg (by omega), if_neg h]; omega
theorem G_upd (x : Nat → Int) (a : Nat) (n : Int) (k : Nat) : G (upd x a (x a + n)) k = G x k + (if k = a then n else 0) := by
  unfold G upd
  by_cases h : k = a
  · subst h; simp
  · rw [if_neg h, if_neg h]; omega
theorem six (a : Nat) (ha : a < 6) (n : Int) : (if 0 = a then n else 0) + (if 1 = a then n else 0) + (if 2 = a then n else 0) + (if 3 = a then n else 0) + (if 4 = a then n else 0) + (if 5 = a then n else 0) = n := by
  have : a = 0 ∨ a = 1 ∨ a = 2 ∨ a = 3 ∨ a = 4 ∨ a = 5 := by omega
  rcases this with h | h | h | h | h | h <;> subst h <;> simp
theorem take_ok {x : Nat → Int} {i n : Int} (h : (takeM x i n).2 = 0) : ∃ a : Nat, a < 6 ∧ i = (a : Int) + 1 ∧ 1 ≤ n ∧ n ≤ 1125899906842624 ∧ n ≤ L x a ∧ C x a + n ≤ 1125899906842624 ∧ may (takeM x i n).1 = true ∧
    (∀ k, k < 6 → L (takeM x i n).1 k = L x k - (if k = a then n else 0)) ∧ gSum (takeM x i n).1 = gSum x ∧ uSum (takeM x i n).1 = uSum x + n ∧ (takeM x i n).1 = upd x (6 + a) (x (6 + a) + n) := by
  unfold takeM at *
  rcases turned_cases x n (regB i) (takeE x i n) (6 + (i.toNat - 1)) with ⟨_, h2, _⟩ | ⟨⟨hm, h1, h2, hr, he, hx⟩, heq⟩
  · exact absurd h h2
  · obtain ⟨a, ha, hia, hta⟩ := reg_nat hr
    rw [hta] at heq hx
    rw [hta]
    have hL : n ≤ L x a := by
      unfold takeE at he
      by_cases hl : localV x i < n
      · rw [decide_eq_true hl] at he; cases he
      · rw [hia, localV_L hm a ha] at hl; omega
    obtain ⟨e, al, gs⟩ := (may_iff x).1 hm
    have hfst : (turnedM x n (regB i) (takeE x i n) (6 + a)).1 = upd x (6 + a) (x (6 + a) + n) := by rw [heq]
    rw [hfst]
    have hC := C_upd x a n
    have hG : ∀ k, k < 6 → G (upd x (6 + a) (x (6 + a) + n)) k = G x k := fun k hk => upd_other _ _ _ _ (by omega)
    have hF : ∀ k, k < 6 → F (upd x (6 + a) (x (6 + a) + n)) k = F x k := fun k hk => upd_other _ _ _ _ (by omega)
    have hl : ∀ k, k < 6 → L (upd x (6 + a) (x (6 + a) + n)) k = L x k - (if k = a then n else 0) := by
      intro k hk
      rw [L_low x (6 + a) (by omega), hG k hk, hF k hk, hC k]; omega
    have hg : gSum (upd x (6 + a) (x (6 + a) + n)) = gSum x := by unfold gSum; rw [hG 0 (by omega), hG 1 (by omega), hG 2 (by omega), hG 3 (by omega), hG 4 (by omega), hG 5 (by omega)]
    refine ⟨a, ha, hia, h1, h2, hL, hx, ?_, hl, hg, ?_, rfl⟩
    · rw [may_iff]
      refine ⟨upd_bd e h1 hx (by omega), fun k hk => ?_, by rw [hg]; exact gs⟩
      obtain ⟨c1, c2, c3⟩ := al k hk
      refine ⟨?_, ?_, ?_⟩
      · rw [hl k hk]
        split
        · rename_i hka; subst hka; omega
        · omega
      · rw [hF k hk, hC k]; split <;> omega
      · rw [upd_rows x (6 + a) (by omega)]; exact c3
    · unfold uSum
      rw [hF 0 (by omega), hF 1 (by omega), hF 2 (by omega), hF 3 (by omega), hF 4 (by omega), hF 5 (by omega), hC 0, hC 1, hC 2, hC 3, hC 4, hC 5]
      have := six a ha n
      omega
theorem free_ok {x : Nat → Int} {i n : Int} (h : (freeM x i n).2 = 0) : ∃ a : Nat, a < 6 ∧ i = (a : Int) + 1 ∧ 1 ≤ n ∧ n ≤ 1125899906842624 ∧ n ≤ C x a - F x a ∧ may (freeM x i n).1 = true ∧
    (∀ k, k < 6 → L (freeM x i n).1 k = L x k + (if k = a then n else 0)) ∧ gSum (freeM x i n).1 = gSum x ∧ uSum (freeM x i n).1 = uSum x - n ∧ (freeM x i n).1 = upd x (12 + a) (x (12 + a) + n) := by
  unfold freeM at *
  rcases turned_cases x n (regB i) (freeE x i n) (12 + (i.toNat - 1)) with ⟨_, h2, _⟩ | ⟨⟨hm, h1, h2, hr, he, hx⟩, heq⟩
  · exact absurd h h2
  · obtain ⟨a, ha, hia, hta⟩ := reg_nat hr
    rw [hta] at heq hx
    rw [hta]
    have hL : n ≤ C x a - F x a := by
      unfold freeE at he
      rw [hta] at he
      by_cases hl : C x a - F x a < n
      · rw [decide_eq_true hl] at he; cases he
      · omega
    obtain ⟨e, al, gs⟩ := (may_iff x).1 hm
    have hfst : (turnedM x n (regB i) (freeE x i n) (12 + a)).1 = upd x (12 + a) (x (12 + a) + n) := by rw [heq]
    rw [hfst]
    have hF := F_upd x a n
    have hG : ∀ k, k < 6 → G (upd x (12 + a) (x (12 + a) + n)) k = G x k := fun k hk => upd_other _ _ _ _ (by omega)
    have hC : ∀ k, k < 6 → C (upd x (12 + a) (x (12 + a) + n)) k = C x k := fun k hk => upd_other _ _ _ _ (by omega)
    have hl : ∀ k, k < 6 → L (upd x (12 + a) (x (12 + a) + n)) k = L x k + (if k = a then n else 0) := by
      intro k hk
      rw [L_low x (12 + a) (by omega), hG k hk, hF k, hC k hk]; omega
    have hg : gSum (upd x (12 + a) (x (12 + a) + n)) = gSum x := by unfold gSum; rw [hG 0 (by omega), hG 1 (by omega), hG 2 (by omega), hG 3 (by omega), hG 4 (by omega), hG 5 (by omega)]
    refine ⟨a, ha, hia, h1, h2, hL, ?_, hl, hg, ?_, rfl⟩
    · rw [may_iff]
      refine ⟨upd_bd e h1 hx (by omega), fun k hk => ?_, by rw [hg]; exact gs⟩
      obtain ⟨c1, c2, c3⟩ := al k hk
      refine ⟨?_, ?_, ?_⟩
      · rw [hl k hk]; split <;> omega
      · rw [hF k, hC k hk]
        split
        · rename_i hka; subst hka; omega
        · omega
      · rw [upd_rows x (12 + a) (by omega)]; exact c3
    · unfold uSum
      rw [hC 0 (by omega), hC 1 (by omega), hC 2 (by omega), hC 3 (by omega), hC 4 (by omega), hC 5 (by omega), hF 0, hF 1, hF 2, hF 3, hF 4, hF 5]
      have := six a ha n
      omega
end Rt
end Go.Proofs.Ytolmkjepieoloaa
namespace Go.Proofs.Ytolmkjepieoloaa
open Go.RowKit Rt
open Fx (x_move x_assign x_field x_load1 x_pickF x_pickT x_nil x_conv x_indexS x_index x_leqF x_loadA x_len x_gtrF x_build x_eqlF x_eqlT)
section
namespace Rt
def walkR (f : (Nat → Int) → (Nat → Int) × Int) (idx : Nat → Nat) (R : Nat → Nat → Int) : Nat → (Nat → Nat → Int) × Int
  | 0 => (R, 0)
  | j + 1 => if (walkR f idx R j).2 = 0 then (if (f ((walkR f idx R j).1 (idx j))).2 = 0 then (updA (walkR f idx R j).1 (idx j) (f ((walkR f idx R j).1 (idx j))).1, 0) else ((walkR f idx R j).1, (f ((walkR f idx R j).1 (idx j))).2)) else walkR f idx R j
section
variable {f : (Nat → Int) → (Nat → Int) × Int} {idx : Nat → Nat} {R Rk : Nat → Nat → Int} {k q : Nat}
theorem walkR_step (h : walkR f idx R k = (Rk, 0)) (e : idx k = q) (h0 : (f (Rk q)).2 = 0) : walkR f idx R (k + 1) = (updA Rk q (f (Rk q)).1, 0) := by
  unfold walkR; rw [h, if_pos rfl, e, if_pos h0]
theorem walkR_err (h : walkR f idx R k = (Rk, 0)) (e : idx k = q) (h0 : ¬ (f (Rk q)).2 = 0) : (walkR f idx R (k + 1)).2 = (f (Rk q)).2 := by
  unfold walkR; rw [h, if_pos rfl, e, if_neg h0]
theorem walkR_stop (h0 : ¬ (walkR f idx R k).2 = 0) : ∀ n, k ≤ n → walkR f idx R n = walkR f idx R k
  | 0, h => by obtain rfl : k = 0 := by omega
               rfl
  | n + 1, h => by
    by_cases e : k = n + 1
    · rw [e]
    · have := walkR_stop h0 n (by omega)
      rw [walkR, this, if_neg h0]
end
def lead (P : Nat → Bool) : Nat → Nat
  | 0 => 0
  | n + 1 => if lead P n = n ∧ P n = true then n + 1 else lead P n
theorem lead_le (P : Nat → Bool) : ∀ n, lead P n ≤ n
  | 0 => Nat.le_refl _
  | n + 1 => by
    unfold lead; split
    · exact Nat.le_refl _
    · have := lead_le P n; omega
theorem lead_all {P : Nat → Bool} : ∀ {n : Nat}, (∀ i, i < n → P i = true) → lead P n = n
  | 0, _ => rfl
  | n + 1, h => by unfold lead; rw [if_pos ⟨lead_all fun i hi => h i (by omega), h n (by omega)⟩]
theorem lead_eq {P : Nat → Bool} {K : Nat} (h1 : ∀ i, i < K → P i = true) (h2 : P K = false) : ∀ {n : Nat}, K ≤ n → lead P n = K
  | 0, h => by unfold lead; omega
  | n + 1, h => by
    unfold lead
    by_cases e : K = n + 1
    · rw [if_pos ⟨lead_all fun i hi => h1 i (by omega), h1 n (by omega)⟩]; exact e.symm
    · rw [lead_eq h1 h2 (n := n) (by omega), if_neg]
      rintro ⟨h3, h4⟩
      subst h3; rw [h2] at h4; cases h4
def pathK (t : Nat → Nat → Int) (tn : Nat) (x : Int) : Nat := lead (fun i => decide (0 ≤ findT t tn (iterT t tn i x))) 1000
theorem pathK_eq {t : Nat → Nat → Int} {tn K D : Nat} {x : Int} (h1 : ∀ i, i < K → 0 ≤ findT t tn (iterT t tn i x)) (h2 : findT t tn (iterT t tn K x) < 0) (hD : findT t tn (iterT t tn D x) < 0) (hD2 : D ≤ 1000) : K = pathK t tn x := by
  have hK : K ≤ 1000 := by
    rcases Nat.lt_or_ge D K with h | h
    · have := h1 D h; omega
    · omega
  exact (lead_eq (fun i hi => decide_eq_true (h1 i hi)) (decide_eq_false (by omega)) hK).symm
end Rt
def LdC.node (L : LdC) (x : Int) : Int := firstI (fun i => decide (L.id i = x)) L.nn
def LdC.grant (L : LdC) (o r : Int) : Int := firstI (fun i => decide (L.g i 0 = o) && decide (L.g i 1 = r)) L.gn
def LdC.askedN (L : LdC) (a : Nat) (r : Int) : Int := firstI (fun i => decide (L.rq a i = r)) (L.rn a)
namespace Rt
def idxT (L : LdC) (x : Int) (i : Nat) : Nat := (L.node (iterT L.t L.tn i x)).toNat
def grN (v : EvM) : Nat → Int := fun j => if j = 0 then v.o else if j = 1 then v.req else if j = 2 then v.node else if j = 3 then v.amt else 0
def gtG (v : EvM) (x : Nat → Int) : Bool := decide (v.o < x 0) || (decide (x 0 = v.o) && decide (v.req < x 1))
def regN (v : EvM) : Nat := (v.o - 1).toNat
def takesW (L : LdC) (v : EvM) : (Nat → Nat → Int) × Int := walkR (fun x => takeM x v.o v.amt) (idxT L v.node) L.R (pathK L.t L.tn v.node)
def takesE (L : LdC) (v : EvM) : Int := if 0 ≤ L.askedN (regN v) v.req then 14 else if pathK L.t L.tn v.node = 0 then 9 else (takesW L v).2
def addReq (L : LdC) (a : Nat) (r : Int) : LdC := { L with rn := updA L.rn a (L.rn a + 1), rq := updA L.rq a (updA (L.rq a) (L.rn a) r) }
def takesC (L : LdC) (v : EvM) : LdC :=
  addReq { L with R := (takesW L v).1, gn := L.gn + 1, g := Fx.insI L.g (Fx.down (fun i => gtG v (L.g i)) L.gn) (grN v) } (regN v) v.req
theorem ndR_store {n q : Nat} {id par : Nat → Int} {R : Nat → Nat → Int} {r : Nat → Int} : ∀ i, i < n → ∀ j, j < 56 → Fx.updF (fun kq => ndY (id kq) (par kq) (R kq)) q (Fx.ovr (ndY (id q) (par q) (R q)) 2 54 (Fx.rv .i64 r)) i j = ndY (id i) (par i) (updA R q r i) j := fun i _ j hj => by
  unfold Fx.updF updA
  by_cases h : i = q
  · subst h
    rw [if_pos rfl, if_pos rfl]
    unfold Fx.ovr ndY Fx.rv
    by_cases h0 : j = 0
    · subst h0; rfl
    · by_cases h1 : j = 1
      · subst h1; rfl
      · rw [if_pos (by omega), if_neg h0, if_neg h1]
  · rw [if_neg h, if_neg h]
theorem insF_gr {g : Nat → Nat → Int} {k : Nat} {x : Nat → Int} : Fx.insF (fun kq => grY (g kq)) k (grY x) = fun kq => grY (Fx.insI g k x kq) := by
  funext i
  unfold Fx.insF Fx.insI
  by_cases h : i < k
  · simp only [if_pos h]
  · by_cases h2 : i = k
    · simp only [if_neg h, if_pos h2]
    · simp only [if_neg h, if_neg h2]
theorem ldY_grants (m : LdM) (a : Option Addr) (n c : Nat) : Fx.updV (ldY m) 19 (.slice a n c) = ldY { m with s := { m.s with ga := a, gn := n, gc := c } } := by
  funext p
  unfold Fx.updV ldY
  by_cases h : p = 19
  · subst h; rfl
  · rw [if_neg h]
    by_cases h2 : p < 20
    · rw [if_pos h2, if_pos h2]; unfold stY
      by_cases h3 : p < 6
      · rw [if_pos h3, if_pos h3]
      · by_cases h4 : p < 12
        · rw [if_neg h3, if_pos h4, if_neg h3, if_pos h4]
        · by_cases h5 : p < 18
          · rw [if_neg h3, if_neg h4, if_pos h5, if_neg h3, if_neg h4, if_pos h5]
          · rw [if_neg h3, if_neg h4, if_neg h5, if_pos (by omega), if_neg h3, if_neg h4, if_neg h5, if_pos (by omega)]
    · rw [if_neg h2, if_neg h2]
theorem ldY_reqs (m : LdM) {i q : Nat} (hq : q = i + 21) (a : Option Addr) (n c : Nat) : Fx.updV (ldY m) q (.slice a n c) = ldY { m with ra := updA m.ra i a, rn := updA m.rn i n, rc := updA m.rc i c } := by
  subst hq
  funext p
  unfold Fx.updV ldY
  by_cases h : p = i + 21
  · subst h
    rw [if_pos rfl, if_neg (by omega), if_neg (by omega), Nat.add_sub_cancel]
    simp [updA]
  · rw [if_neg h]
    by_cases h2 : p < 20
    · rw [if_pos h2, if_pos h2]
    · rw [if_neg h2, if_neg h2]
      by_cases h3 : p = 20
      · rw [if_pos h3, if_pos h3]
      · rw [if_neg h3, if_neg h3]
        have h4 : ¬ p - 21 = i := by omega
        simp [updA, h4]
theorem Rqs.app {w w' : World} {B a g cap : Nat} {r : Int} {m m' : LdM} (h : Rqs w B 6 m) (_ha : a < 6) (h1 : m'.ra = updA m.ra a (some ⟨g, 0, none⟩)) (h2 : m'.rn = updA m.rn a (m.rn a + 1)) (h3 : m'.rc = updA m.rc a cap) (h4 : m'.rq = updA m.rq a (updA (m.rq a) (m.rn a) r))
    (hO : Fx.Own w' B 27 1 (.slice (some ⟨g, 0, none⟩) (m.rn a + 1) cap) (m.rn a + 1) (Fx.rv .u64 (updA (m.rq a) (m.rn a) r))) (hg : w.grownBy w' (reqV m a).ownBlock) (hgv : (reqV m a).ownBlock = some g ∨ g = w.heap.size) : Rqs w' B 6 m' := by
  have e1 : ∀ i, i ≠ a → reqV m' i = reqV m i := fun i hi => by unfold reqV; rw [h1, h2, h3]; simp [updA, hi]
  have e2 : reqV m' a = .slice (some ⟨g, 0, none⟩) (m.rn a + 1) cap := by unfold reqV; rw [h1, h2, h3]; simp [updA]
  have hne : ∀ i, i < 6 → i ≠ a → ∀ q, (reqV m i).ownBlock = some q → q ≠ g := fun i hi hia q hq e => by
    subst e
    rcases hgv with e3 | e3
    · exact h.2 i a hi _ha hia q hq e3
    · have := ((h.1 i hi).ge hq).2; omega
  refine ⟨fun i hi => ?_, fun i j hi hj hij q hq => ?_⟩
  · by_cases e : i = a
    · subst e; rw [e2, h2, h4]; simp only [updA, if_true]; exact hO
    · rw [e1 i e, h2, h4]
      simp only [updA, if_neg e]
      refine World.ownsRow.kept (h.1 i hi) hg ?_
      by_cases hn : (reqV m i).ownBlock = none
      · exact .inl hn
      · right
        intro e3
        cases hq : (reqV m i).ownBlock with
        | none => exact hn hq
        | some q => rw [hq] at e3; exact h.2 i a hi _ha e q hq e3.symm
  · by_cases e : i = a
    · subst e
      rw [e2] at hq
      rw [e1 j (fun e => hij e.symm)]
      intro h5
      exact hne j hj (fun e => hij e.symm) q h5 (Option.some.inj hq).symm
    · rw [e1 i e] at hq
      by_cases e4 : j = a
      · subst e4; rw [e2]; intro h5; exact hne i hi e q hq (Option.some.inj h5).symm
      · rw [e1 j e4]; exact h.2 i j hi hj hij q hq
end Rt
end
end Go.Proofs.Ytolmkjepieoloaa
namespace Go.Proofs.Ytolmkjepieoloaa
open Go.RowKit
def Rws (w0 : World) (l : List (Nat × (Nat → Int))) (w' : World) : Prop := (∀ p ∈ l, w'.heap[p.1]? = some (.cells (iarr .i64 54 p.2) 48 (0, 0))) ∧ Below w0.heap.size w0 w'
theorem Rws.up {w0 w w' : World} {l : List (Nat × (Nat → Int))} (h : Rws w0 l w) (hb : Below w.heap.size w w') : Rws w0 l w' := ⟨fun p hp => row_kept (h.1 p hp) hb, bch h.2 hb⟩
theorem Rws.drew {w0 w : World} {l : List (Nat × (Nat → Int))} (h : Rws w0 l w) : Rws w0 l w.drew := ⟨h.1, bN h.2 1⟩
theorem Rws.drop {w0 w : World} {p : Nat × (Nat → Int)} {l : List (Nat × (Nat → Int))} (h : Rws w0 (p :: l) w) : Rws w0 l w := ⟨fun q hq => h.1 q (by simp [hq]), h.2⟩
theorem Rws.row {w0 w : World} {l : List (Nat × (Nat → Int))} (h : Rws w0 l w) (g : Nat) (x : Nat → Int) (hm : (g, x) ∈ l) : w.heap[g]? = some (.cells (iarr .i64 54 x) 48 (0, 0)) := h.1 (g, x) hm
theorem Rws.add {w0 w : World} {l : List (Nat × (Nat → Int))} (h : Rws w0 l w) {g : Nat} {x : Nat → Int} (c : w.heap[g]? = some (.cells (iarr .i64 54 x) 48 (0, 0))) : Rws w0 ((g, x) :: l) w :=
  ⟨fun p hp => by
    rcases List.mem_cons.1 hp with rfl | hp
    · exact c
    · exact h.1 p hp, h.2⟩
theorem Rws.start (w : World) (x : Nat → Int) : Rws w [(w.heap.size, x)] (w.alloc (.cells (iarr .i64 54 x) 48)) := ⟨fun p hp => by
    obtain rfl : p = (w.heap.size, x) := by simpa using hp
    exact heap_alloc_new w _, (Below.refl _ _).alloc (Nat.le_refl _) _⟩
end Go.Proofs.Ytolmkjepieoloaa
namespace Go.Proofs.Ytolmkjepieoloaa
open Go.RowKit Rt
open Fx (x_move x_assign x_field x_load1 x_pickF x_pickT x_nil x_conv x_indexS x_index x_leqF x_loadA x_len x_gtrF x_build x_eqlF x_eqlT)
namespace Rt
def lref (x : Nat → Int) (k : Nat) : Nat → Int
  | 0 => G x k - C x k + F x k
  | j + 1 => lref x k j + R x j k - R x k j
theorem lref_L (x : Nat → Int) (k : Nat) : lref x k 6 = L x k := by simp only [lref, L]; omega
theorem lref_bd {x : Nat → Int} (h : Ent x) (k : Nat) (hk : k < 6) : ∀ j : Nat, j ≤ 6 → -(1125899906842624 * ((j : Int) + 1)) ≤ lref x k j ∧ lref x k j ≤ 1125899906842624 * ((j : Int) + 2)
  | 0, _ => by
    have a := h k (by omega); have b := h (6 + k) (by omega); have c := h (12 + k) (by omega)
    simp only [lref, G, C, F]; omega
  | j + 1, hj => by
    have := lref_bd h k hk j (by omega)
    have a := h (18 + j * 6 + k) (by omega); have b := h (18 + k * 6 + j) (by omega)
    simp only [lref, R]; omega
end Rt
theorem f7_number (n : Int) (w : World) :
    Calls Try.prog 90 #[.int .i64 (n)] w fun e w' => e = .returned (.bool (okN n)) ∧ w' = w := by
 refine Fx.enter Try.func90 rfl (n := 9) rfl (by rfl) ?_
 refine Fx.W.seq (Fx.W.list (Fx.L.v (.bool false) (x_assign rfl rfl) (Fx.L.nil (Fx.seqN (Fx.W.seq (Fx.W.list (Fx.L.v (.int .i64 (n)) (x_move rfl rfl) ?_)))))))
 by_cases c4 : 0 ≤ n
 ·refine Fx.L.v (.bool true) (Fx.x_geqT rfl rfl rfl c4) (Fx.L.v (.bool true) (x_move rfl rfl) (Fx.L.v (.int .i64 (n)) (x_move rfl rfl) ?_))
  by_cases c7 : n ≤ 1125899906842624
  ·refine Fx.L.v (.bool true) (Fx.x_leqT rfl rfl rfl c7) (Fx.L.v (.bool true) (x_pickT rfl rfl rfl) (Fx.L.v (.bool true) (x_assign rfl rfl) (Fx.L.nil (Fx.seqN (Fx.W.ret (⟨.bool true, Fx.retV1 Try.results90 (by exact rfl), ?_⟩))))))
   exact ⟨congrArg (fun q => Ending.returned (Value.bool q)) (by simp only [okN]; first | (symm; simp; omega) | (symm; simp; done)), rfl⟩
  ·refine Fx.L.v (.bool false) (x_leqF rfl rfl rfl c7) (Fx.L.v (.bool false) (x_pickT rfl rfl rfl) (Fx.L.v (.bool false) (x_assign rfl rfl) (Fx.L.nil (Fx.seqN (Fx.W.ret (⟨.bool false, Fx.retV1 Try.results90 (by exact rfl), ?_⟩))))))
   exact ⟨congrArg (fun q => Ending.returned (Value.bool q)) (by simp only [okN]; first | (symm; simp; omega) | (symm; simp; done)), rfl⟩
 ·refine Fx.L.v (.bool false) (Fx.x_geqF rfl rfl rfl c4) (Fx.L.v (.bool false) (x_move rfl rfl) (Fx.L.skip (by rfl) rfl (Fx.L.skip (by rfl) rfl (Fx.L.v (.bool false) (x_pickF rfl rfl rfl) (Fx.L.v (.bool false) (x_assign rfl rfl) (Fx.L.nil (Fx.seqN (Fx.W.ret (⟨.bool false, Fx.retV1 Try.results90 (by exact rfl), ?_⟩)))))))))
  exact ⟨congrArg (fun q => Ending.returned (Value.bool q)) (by simp only [okN]; first | (symm; simp; omega) | (symm; simp; done)), rfl⟩
theorem f7_region (n : Int) (w : World) :
    Calls Try.prog 96 #[.int .i64 (n)] w fun e w' => e = .returned (.bool (regB n)) ∧ w' = w := by
 refine Fx.enter Try.func96 rfl (n := 9) rfl (by rfl) ?_
 refine Fx.W.seq (Fx.W.list (Fx.L.v (.bool false) (x_assign rfl rfl) (Fx.L.nil (Fx.seqN (Fx.W.seq (Fx.W.list (Fx.L.v (.int .i64 (n)) (x_move rfl rfl) ?_)))))))
 by_cases c4 : 1 ≤ n
 ·refine Fx.L.v (.bool true) (Fx.x_geqT rfl rfl rfl c4) (Fx.L.v (.bool true) (x_move rfl rfl) (Fx.L.v (.int .i64 (n)) (x_move rfl rfl) ?_))
  by_cases c7 : n ≤ 6
  ·refine Fx.L.v (.bool true) (Fx.x_leqT rfl rfl rfl c7) (Fx.L.v (.bool true) (x_pickT rfl rfl rfl) (Fx.L.v (.bool true) (x_assign rfl rfl) (Fx.L.nil (Fx.seqN (Fx.W.ret (⟨.bool true, Fx.retV1 Try.results96 (by exact rfl), ?_⟩))))))
   exact ⟨congrArg (fun q => Ending.returned (Value.bool q)) (by simp only [regB]; first | (symm; simp; omega) | (symm; simp; done)), rfl⟩
  ·refine Fx.L.v (.bool false) (x_leqF rfl rfl rfl c7) (Fx.L.v (.bool false) (x_pickT rfl rfl rfl) (Fx.L.v (.bool false) (x_assign rfl rfl) (Fx.L.nil (Fx.seqN (Fx.W.ret (⟨.bool false, Fx.retV1 Try.results96 (by exact rfl), ?_⟩))))))
   exact ⟨congrArg (fun q => Ending.returned (Value.bool q)) (by simp only [regB]; first | (symm; simp; omega) | (symm; simp; done)), rfl⟩
 ·refine Fx.L.v (.bool false) (Fx.x_geqF rfl rfl rfl c4) (Fx.L.v (.bool false) (x_move rfl rfl) (Fx.L.skip (by rfl) rfl (Fx.L.skip (by rfl) rfl (Fx.L.v (.bool false) (x_pickF rfl rfl rfl) (Fx.L.v (.bool false) (x_assign rfl rfl) (Fx.L.nil (Fx.seqN (Fx.W.ret (⟨.bool false, Fx.retV1 Try.results96 (by exact rfl), ?_⟩)))))))))
  exact ⟨congrArg (fun q => Ending.returned (Value.bool q)) (by simp only [regB]; first | (symm; simp; omega) | (symm; simp; done)), rfl⟩
theorem Rt.lref_succ (x : Nat → Int) (k j : Nat) : lref x k (j + 1) = lref x k j + x (18 + j * 6 + k) - x (18 + k * 6 + j) := rfl
theorem Rt.lref_zero (x : Nat → Int) (k : Nat) : lref x k 0 = x k - x (6 + k) + x (12 + k) := rfl
theorem f7_local (x : Nat → Int) (k : Nat) (w : World) (hk : k < 6) (he : Ent x) :
    Calls Try.prog 91 #[.agg (Fx.varr 54 (Fx.rv .i64 x)), .int .i64 ((k : Int) + 1)] w fun e w' => e = .returned (.int .i64 (L x k)) ∧ Below w.heap.size w w' := by
 have HL : lref x k 6 = L x k := lref_L x k
 have HB := fun j => lref_bd he k hk j
 have h0 : lref x k 0 = x k - x (k + 6) + x (k + 12) := by rw [lref_zero, Nat.add_comm 6 k, Nat.add_comm 12 k]
 have a1 := he k (by omega)
 have a2 := he (k + 6) (by omega)
 have a3 := he (k + 12) (by omega)
 refine Fx.enter Try.func91 rfl (n := 44) rfl (by rfl) ?_
 refine Fx.W.seq (Fx.W.list (Fx.L.box (m := 54) (y := Fx.rv .i64 x) (by rfl) rfl rfl (Fx.cells_agg _ _) rfl fun g1 w1 eg1 m1 s1 z1 => ?_))
 have b1 := s1.below (Below.refl w.heap.size w) (Below.refl w.heap.size w).size (Below.refl w.heap.size w).size
 have lg1 : w.heap.size ≤ g1 := by rw [eg1]; exact (Below.refl w.heap.size w).size
 have tg1 : g1 < w1.heap.size := m1.lt
 clear eg1
 refine Fx.L.v (.int .i64 (0)) (x_assign rfl rfl) (Fx.L.nil (Fx.seqN (Fx.W.seq (Fx.W.list (Fx.L.v (.int .i64 ((k : Int) + 1)) (x_move rfl rfl) (Fx.L.v (.int .i64 ((k : Int))) (Fx.x_sub rfl rfl rfl (Fx.i64e (by omega) (by omega))) (Fx.L.v (.int .i64 ((k : Int))) (x_assign rfl rfl) (Fx.L.nil (Fx.seqN (Fx.W.seq ?_))))))))))
 -- region 2 draws
 refine Fx.W.quiet (fun v1 => ∃ q, v1 = World.drewN w1 q) (by kernel_rfl) (by kernel_rfl) ⟨1, rfl⟩ ?_
 refine Fx.Qt.v (.int .i64 ((k : Int))) (fun v1 hv1 => x_move rfl rfl) (Fx.Qt.v (.pointer (some ⟨g1, 0, none⟩)) (fun v1 hv1 => x_field rfl rfl Try.underlying48 rfl (s := 6) (by kernel_rfl) rfl rfl) (Fx.Qt.v (.pointer (some ⟨g1, k, none⟩)) (fun v1 hv1 => x_index rfl rfl rfl Try.underlying45 (s := 1) (by kernel_rfl) (by omega) (by omega) (by omega)) (Fx.Qt.v (.int .i64 (x k)) (fun v1 hv1 => x_load1 (x := Fx.rv .i64 x) rfl rfl (by kernel_rfl) (by obtain ⟨qd, rfl⟩ := hv1; exact m1.cel) (i := k) (by omega) (by omega) rfl) (Fx.Qt.v (.int .i64 ((k : Int))) (fun v1 hv1 => x_move rfl rfl) (Fx.Qt.v (.pointer (some ⟨g1, 6, none⟩)) (fun v1 hv1 => x_field rfl rfl Try.underlying48 rfl (s := 6) (by kernel_rfl) rfl (by show _ + 6 = _; omega)) (Fx.Qt.v (.pointer (some ⟨g1, k + 6, none⟩)) (fun v1 hv1 => x_index rfl rfl rfl Try.underlying45 (s := 1) (by kernel_rfl) (by omega) (by omega) (by omega)) (Fx.Qt.v (.int .i64 (x (k + 6))) (fun v1 hv1 => x_load1 (x := Fx.rv .i64 x) rfl rfl (by kernel_rfl) (by obtain ⟨qd, rfl⟩ := hv1; exact m1.cel) (i := k + 6) (by omega) (by omega) rfl) (Fx.Qt.v (.int .i64 ((x k) - (x (k + 6)))) (fun v1 hv1 => Fx.x_sub rfl rfl rfl (Fx.i64e (by omega) (by omega))) (Fx.Qt.v (.int .i64 ((k : Int))) (fun v1 hv1 => x_move rfl rfl) (Fx.Qt.v (.pointer (some ⟨g1, 12, none⟩)) (fun v1 hv1 => x_field rfl rfl Try.underlying48 rfl (s := 6) (by kernel_rfl) rfl (by show _ + 12 = _; omega)) (Fx.Qt.v (.pointer (some ⟨g1, k + 12, none⟩)) (fun v1 hv1 => x_index rfl rfl rfl Try.underlying45 (s := 1) (by kernel_rfl) (by omega) (by omega) (by omega)) (Fx.Qt.v (.int .i64 (x (k + 12))) (fun v1 hv1 => x_load1 (x := Fx.rv .i64 x) rfl rfl (by kernel_rfl) (by obtain ⟨qd, rfl⟩ := hv1; exact m1.cel) (i := k + 12) (by omega) (by omega) rfl) (Fx.Qt.v (.int .i64 (((x k) - (x (k + 6))) + (x (k + 12)))) (fun v1 hv1 => Fx.x_add rfl rfl rfl (Fx.i64e (by omega) (by omega))) (Fx.Qt.v (.int .i64 (((x k) - (x (k + 6))) + (x (k + 12)))) (fun v1 hv1 => x_assign rfl rfl) (Fx.Qt.nil ?_)))))))))))))))
 rintro _ ⟨qd, rfl⟩
 obtain ⟨wq1, ewq1⟩ : ∃ v1, v1 = World.drewN w1 qd := ⟨_, rfl⟩
 rw [← ewq1]
 have s2 : Fx.Stp w1.heap.size w1 wq1 := by rw [ewq1]; exact Fx.Stp.of_below (bdrN w1 qd)
 have m2 := m1.stp s2 (Nat.ne_of_lt (m1.lt))
 have b2 := s2.below b1 b1.size b1.size
 clear ewq1
 refine Fx.seqN (Fx.W.seq (Fx.W.seq (Fx.W.list (Fx.L.v (.int .i64 (0)) (x_assign rfl rfl) (Fx.L.nil (Fx.seqN (Fx.W.block (Fx.W.loop (fun f w_ => ∃ j : Nat, j ≤ 6 ∧ f 2 = .pointer (some ⟨g1, 0, none⟩) ∧ f 5 = .int .i64 ((k : Int)) ∧ f 6 = .int .i64 (lref x k j) ∧ f 7 = .int .i64 ((j : Int)) ∧ Fx.Blk w_ g1 54 (Fx.rv .i64 x) 48 ∧ Below w.heap.size w w_) (fun f _ => (6 - (intOf (f 7)).toNat)) ⟨0, by omega, (by rfl), (by first | rfl | exact congrArg (Value.int .i64) (by omega)), (by first | rfl | exact congrArg (Value.int .i64) (by omega)), (by first | rfl | exact congrArg (Value.int .i64) (by omega)), m2, b2⟩ ?_))))))))
 rintro f1 w2 ⟨j, p1, h1, h2, h3, h4, m3, b3⟩
 have hB := HB j (by omega)
 have HS : lref x k (j + 1) = lref x k j + x (6 * j + k + 18) - x (j + 6 * k + 18) := by rw [lref_succ, show 18 + j * 6 + k = 6 * j + k + 18 by omega, show 18 + k * 6 + j = j + 6 * k + 18 by omega]
 have b1 := he (6 * j + k + 18)
 have b2 := he (j + 6 * k + 18)
 refine Fx.W.seq (Fx.W.seq (Fx.W.list (Fx.L.v (.int .i64 ((j : Int))) (x_move rfl h4) ?_)))
 by_cases c25 : (j : Int) < 6
 ·refine Fx.L.v (.bool true) (Fx.x_lssT rfl rfl rfl c25) (Fx.L.nil (Fx.seqN (Fx.W.cond (b := true) rfl (fun _ => Fx.W.skip (Fx.seqN (Fx.W.seq (Fx.W.block ?_)))) (fun h => nomatch h))))
  -- region 6 draws
  refine Fx.W.quiet (fun v1 => ∃ q, v1 = World.drewN w2 q) (by kernel_rfl) (by kernel_rfl) ⟨1, rfl⟩ ?_
  refine Fx.Qt.v (.int .i64 (lref x k j)) (fun v1 hv1 => x_move rfl h3) (Fx.Qt.v (.int .i64 ((j : Int))) (fun v1 hv1 => x_move rfl h4) (Fx.Qt.v (.int .i64 ((k : Int))) (fun v1 hv1 => x_move rfl h2) (Fx.Qt.v (.pointer (some ⟨g1, 18, none⟩)) (fun v1 hv1 => x_field rfl h1 Try.underlying48 rfl (s := 36) (by kernel_rfl) rfl (by show _ + 18 = _; omega)) (Fx.Qt.v (.pointer (some ⟨g1, 6 * j + 18, none⟩)) (fun v1 hv1 => x_index rfl rfl rfl Try.underlying46 (s := 6) (by kernel_rfl) (by omega) (by omega) (by omega)) (Fx.Qt.v (.pointer (some ⟨g1, 6 * j + k + 18, none⟩)) (fun v1 hv1 => x_index rfl rfl rfl Try.underlying45 (s := 1) (by kernel_rfl) (by omega) (by omega) (by omega)) (Fx.Qt.v (.int .i64 (x (6 * j + k + 18))) (fun v1 hv1 => x_load1 (x := Fx.rv .i64 x) rfl rfl (by kernel_rfl) (by obtain ⟨qd, rfl⟩ := hv1; exact m3.cel) (i := 6 * j + k + 18) (by omega) (by omega) rfl) (Fx.Qt.v (.int .i64 ((lref x k j) + (x (6 * j + k + 18)))) (fun v1 hv1 => Fx.x_add rfl rfl rfl (Fx.i64e (by omega) (by omega))) (Fx.Qt.v (.int .i64 ((k : Int))) (fun v1 hv1 => x_move rfl h2) (Fx.Qt.v (.int .i64 ((j : Int))) (fun v1 hv1 => x_move rfl h4) (Fx.Qt.v (.pointer (some ⟨g1, 18, none⟩)) (fun v1 hv1 => x_field rfl h1 Try.underlying48 rfl (s := 36) (by kernel_rfl) rfl (by show _ + 18 = _; omega)) (Fx.Qt.v (.pointer (some ⟨g1, 6 * k + 18, none⟩)) (fun v1 hv1 => x_index rfl rfl rfl Try.underlying46 (s := 6) (by kernel_rfl) (by omega) (by omega) (by omega)) (Fx.Qt.v (.pointer (some ⟨g1, j + 6 * k + 18, none⟩)) (fun v1 hv1 => x_index rfl rfl rfl Try.underlying45 (s := 1) (by kernel_rfl) (by omega) (by omega) (by omega)) (Fx.Qt.v (.int .i64 (x (j + 6 * k + 18))) (fun v1 hv1 => x_load1 (x := Fx.rv .i64 x) rfl rfl (by kernel_rfl) (by obtain ⟨qd, rfl⟩ := hv1; exact m3.cel) (i := j + 6 * k + 18) (by omega) (by omega) rfl) (Fx.Qt.v (.int .i64 (((lref x k j) + (x (6 * j + k + 18))) - (x (j + 6 * k + 18)))) (fun v1 hv1 => Fx.x_sub rfl rfl rfl (Fx.i64e (by omega) (by omega))) (Fx.Qt.v (.int .i64 (((lref x k j) + (x (6 * j + k + 18))) - (x (j + 6 * k + 18)))) (fun v1 hv1 => x_assign rfl rfl) (Fx.Qt.nil ?_))))))))))))))))
  rintro _ ⟨qd, rfl⟩
  obtain ⟨wq2, ewq2⟩ : ∃ v1, v1 = World.drewN w2 qd := ⟨_, rfl⟩
  rw [← ewq2]
  have s3 : Fx.Stp w2.heap.size w2 wq2 := by rw [ewq2]; exact Fx.Stp.of_below (bdrN w2 qd)
  have m4 := m3.stp s3 (Nat.ne_of_lt (m3.lt))
  have b4 := s3.below b3 b3.size b3.size
  clear ewq2
  refine Fx.blkN (Fx.seqN (Fx.W.list (Fx.L.v (.int .i64 ((j : Int))) (x_move rfl h4) (Fx.L.v (.int .i64 ((j : Int) + 1)) (Fx.x_add rfl rfl rfl (Fx.i64e (by omega) (by omega))) (Fx.L.v (.int .i64 ((j : Int) + 1)) (x_assign rfl rfl) (Fx.L.nil (Fx.lpN ⟨j + 1, by omega, h1, (h2.trans (by first | rfl | exact congrArg (Value.int .i64) (by omega))), (by first | rfl | exact congrArg (Value.int .i64) (by omega)), (by first | rfl | exact congrArg (Value.int .i64) (by omega)), m4, b4⟩ ?_)))))))
  show (6 - (intOf ((.int .i64 ((j : Int) + 1)))).toNat) < _
  simp only [h4, intOf]; omega
 ·refine Fx.L.v (.bool false) (Fx.x_lssF rfl rfl rfl c25) (Fx.L.nil (Fx.seqN (Fx.W.cond (b := false) rfl (fun h => nomatch h) (fun _ => Fx.W.exit (Fx.seqX (Fx.lpX (Fx.blkX (Fx.seqN (Fx.W.seq (Fx.W.list (Fx.L.v (.int .i64 (lref x k j)) (x_move rfl h3) (Fx.L.v (.int .i64 (lref x k j)) (x_assign rfl rfl) (Fx.L.nil (Fx.seqN (Fx.W.ret (⟨.int .i64 (lref x k j), Fx.retV1 Try.results91 (by exact rfl), ?_⟩))))))))))))))))
  exact ⟨congrArg (fun q => Ending.returned (Value.int .i64 q)) (by rw [← HL]; exact congrArg _ (by omega)), b3⟩
namespace Rt
def RowOk (x : Nat → Int) (i : Nat) : Prop := okN (x i) = true ∧ okN (x (i + 6)) = true ∧ okN (x (i + 12)) = true ∧ x (i + 12) ≤ x (i + 6) ∧ x (7 * i + 18) = 0
def RowTo (x : Nat → Int) (i j : Nat) : Prop := ∀ q, q < j → okN (x (6 * i + q + 18)) = true
def OkTo (x : Nat → Int) (i : Nat) : Prop := ∀ k, k < i → RowOk x k ∧ RowTo x k 6
def sumG (x : Nat → Int) : Nat → Int
  | 0 => 0
  | i + 1 => sumG x i + x i
theorem okTo_zero (x : Nat → Int) : OkTo x 0 := fun _ h => absurd h (by omega)
theorem rowTo_zero (x : Nat → Int) (i : Nat) : RowTo x i 0 := fun _ h => absurd h (by omega)
theorem rowTo_succ {x : Nat → Int} {i j : Nat} (h : RowTo x i j) (hn : okN (x (6 * i + j + 18)) = true) : RowTo x i (j + 1) := fun q hq => by
  by_cases e : q = j
  · subst e; exact hn
  · exact h q (by omega)
theorem okTo_succ {x : Nat → Int} {i : Nat} (h : OkTo x i) (hr : RowOk x i) (ht : RowTo x i 6) : OkTo x (i + 1) := fun k hk => by
  by_cases e : k = i
  · subst e; exact ⟨hr, ht⟩
  · exact h k (by omega)
theorem okTo_ent {x : Nat → Int} (h : OkTo x 6) : Ent x := fun p hp => by
  by_cases h1 : p < 6
  · exact okN_bd (h p h1).1.1
  · by_cases h2 : p < 12
    · have := okN_bd (h (p - 6) (by omega)).1.2.1; rwa [show p - 6 + 6 = p by omega] at this
    · by_cases h3 : p < 18
      · have := okN_bd (h (p - 12) (by omega)).1.2.2.1; rwa [show p - 12 + 12 = p by omega] at this
      · have := okN_bd ((h ((p - 18) / 6) (by omega)).2 ((p - 18) % 6) (by omega)); rwa [show 6 * ((p - 18) / 6) + (p - 18) % 6 + 18 = p by omega] at this
theorem sumG_bd {x : Nat → Int} : ∀ {i : Nat}, OkTo x i → 0 ≤ sumG x i ∧ sumG x i ≤ 1125899906842624 * (i : Int)
  | 0, _ => by simp [sumG]
  | i + 1, h => by
    have a := sumG_bd (i := i) (fun k hk => h k (by omega))
    have b := okN_bd (h i (by omega)).1.1
    simp only [sumG]; omega
theorem no_ent {x : Nat → Int} {p : Nat} (hp : p < 54) (h : okN (x p) = false) : may x = false := by
  cases hm : may x
  · rfl
  · have := (may_iff x).1 hm |>.1 p hp
    unfold okN at h; simp at h; omega
theorem no_fc {x : Nat → Int} {i : Nat} (hi : i < 6) (h : x (i + 6) < x (i + 12)) : may x = false := by
  cases hm : may x
  · rfl
  · have := ((may_iff x).1 hm |>.2.1 i hi).2.1
    unfold F C at this; rw [Nat.add_comm 12 i, Nat.add_comm 6 i] at this; omega
theorem no_rr {x : Nat → Int} {i : Nat} (hi : i < 6) (h : ¬ x (7 * i + 18) = 0) : may x = false := by
  cases hm : may x
  · rfl
  · have := ((may_iff x).1 hm |>.2.1 i hi).2.2
    unfold R at this; rw [show 18 + i * 6 + i = 7 * i + 18 by omega] at this; exact absurd this h
theorem no_loc {x : Nat → Int} {i : Nat} (hi : i < 6) (h : L x i < 0) : may x = false := by
  cases hm : may x
  · rfl
  · have := ((may_iff x).1 hm |>.2.1 i hi).1
    omega
theorem loc_succ {x : Nat → Int} {m : Nat} (h : ∀ k, k < m → 0 ≤ L x k) (hm : 0 ≤ L x m) : ∀ k, k < m + 1 → 0 ≤ L x k := fun k hk => by
  by_cases e : k = m
  · rw [e]; exact hm
  · exact h k (by omega)
theorem may_fin {x : Nat → Int} (ha : OkTo x 6) (hl : ∀ k, k < 6 → 0 ≤ L x k) : may x = decide (sumG x 6 ≤ 1125899906842624) := by
  have hs : sumG x 6 = gSum x := by simp only [sumG, gSum, G]; omega
  rw [hs, Bool.eq_iff_iff, may_iff, decide_eq_true_iff]
  refine ⟨fun h => h.2.2, fun h => ⟨okTo_ent ha, fun k hk => ⟨hl k hk, ?_, ?_⟩, h⟩⟩
  · have := (ha k hk).1.2.2.2.1; unfold F C; rwa [Nat.add_comm 12 k, Nat.add_comm 6 k]
  · have := (ha k hk).1.2.2.2.2; unfold R; rwa [show 18 + k * 6 + k = 7 * k + 18 by omega]
end Rt
set_option maxRecDepth 10000 in
set_option maxHeartbeats 1000000 in
theorem f7_may (x : Nat → Int) (w : World) :
    Calls Try.prog 46 #[.agg (Fx.varr 54 (Fx.rv .i64 x))] w fun e w' => e = .returned (.bool (may x)) ∧ Below w.heap.size w w' := by
 refine Fx.enter Try.func46 rfl (n := 81) rfl (by rfl) ?_
 refine Fx.W.seq (Fx.W.list (Fx.L.box (m := 54) (y := Fx.rv .i64 x) (by rfl) rfl rfl (Fx.cells_agg _ _) rfl fun g1 w1 eg1 m1 s1 z1 => ?_))
 have b1 := s1.below (Below.refl w.heap.size w) (Below.refl w.heap.size w).size (Below.refl w.heap.size w).size
 have lg1 : w.heap.size ≤ g1 := by rw [eg1]; exact (Below.refl w.heap.size w).size
 have tg1 : g1 < w1.heap.size := m1.lt
 clear eg1
 refine Fx.L.v (.bool false) (x_assign rfl rfl) (Fx.L.nil (Fx.seqN (Fx.W.seq (Fx.W.list (Fx.L.v (.int .i64 (0)) (x_assign rfl rfl) (Fx.L.nil (Fx.seqN (Fx.W.seq (Fx.W.seq (Fx.W.list (Fx.L.v (.int .i64 (0)) (x_assign rfl rfl) (Fx.L.nil (Fx.seqN (Fx.W.block (Fx.W.loop (fun f w_ => ∃ i : Nat, i ≤ 6 ∧ OkTo x i ∧ f 1 = .pointer (some ⟨g1, 0, none⟩) ∧ f 3 = .int .i64 (sumG x i) ∧ f 4 = .int .i64 ((i : Int)) ∧ Fx.Blk w_ g1 54 (Fx.rv .i64 x) 48 ∧ Below w.heap.size w w_) (fun f _ => (6 - (intOf (f 4)).toNat)) ⟨0, by omega, okTo_zero x, (by rfl), (by first | rfl | exact congrArg (Value.int .i64) (by omega)), (by first | rfl | exact congrArg (Value.int .i64) (by omega)), m1, b1⟩ ?_)))))))))))))))
 rintro f1 w2 ⟨i, hi, hA, h1, h2, h3, m2, b2⟩
 have hG := sumG_bd hA
 have HG : sumG x (i + 1) = sumG x i + x i := rfl
 refine Fx.W.seq (Fx.W.seq (Fx.W.list (Fx.L.v (.int .i64 ((i : Int))) (x_move rfl h3) ?_)))
 by_cases c8 : (i : Int) < 6
 ·refine Fx.L.v (.bool true) (Fx.x_lssT rfl rfl rfl c8) (Fx.L.nil (Fx.seqN (Fx.W.cond (b := true) rfl (fun _ => Fx.W.skip (Fx.seqN (Fx.W.seq (Fx.W.block (Fx.W.seq (Fx.W.seq ?_)))))) (fun h => nomatch h))))
  -- region 5 draws
  refine Fx.W.quiet (fun v1 => ∃ q, v1 = World.drewN w2 q) (by kernel_rfl) (by kernel_rfl) ⟨1, rfl⟩ ?_
  refine Fx.Qt.v (.int .i64 ((i : Int))) (fun v1 hv1 => x_move rfl h3) (Fx.Qt.v (.pointer (some ⟨g1, 0, none⟩)) (fun v1 hv1 => x_field rfl h1 Try.underlying48 rfl (s := 6) (by kernel_rfl) rfl rfl) (Fx.Qt.v (.pointer (some ⟨g1, i, none⟩)) (fun v1 hv1 => x_index rfl rfl rfl Try.underlying45 (s := 1) (by kernel_rfl) (by omega) (by omega) (by omega)) (Fx.Qt.v (.int .i64 (x i)) (fun v1 hv1 => x_load1 (x := Fx.rv .i64 x) rfl rfl (by kernel_rfl) (by obtain ⟨qd, rfl⟩ := hv1; exact m2.cel) (i := i) (by omega) (by omega) rfl) ?_)))
  by_cases c15 : (okN (x i)) = true
  ·refine Fx.Qt.call (v := .bool true) (by rfl) (fun v1 hv1 => Fx.r_call (args := [.int .i64 (x i)]) rfl rfl Try.func90 rfl rfl) rfl (fun v1 hv1 => (f7_number (x i) _).mono fun e v2 h => ⟨by rw [h.1, c15], by rw [h.2]; exact hv1⟩) ?_
   refine Fx.Qt.v (.bool false) (fun v1 hv1 => Fx.x_notF rfl rfl) (Fx.Qt.v (.bool false) (fun v1 hv1 => x_move rfl rfl) (Fx.Qt.v (.int .i64 ((i : Int))) (fun v1 hv1 => x_move rfl h3) (Fx.Qt.v (.pointer (some ⟨g1, 6, none⟩)) (fun v1 hv1 => x_field rfl h1 Try.underlying48 rfl (s := 6) (by kernel_rfl) rfl (by show _ + 6 = _; omega)) (Fx.Qt.v (.pointer (some ⟨g1, i + 6, none⟩)) (fun v1 hv1 => x_index rfl rfl rfl Try.underlying45 (s := 1) (by kernel_rfl) (by omega) (by omega) (by omega)) (Fx.Qt.v (.int .i64 (x (i + 6))) (fun v1 hv1 => x_load1 (x := Fx.rv .i64 x) rfl rfl (by kernel_rfl) (by obtain ⟨qd, rfl⟩ := hv1; exact m2.cel) (i := i + 6) (by omega) (by omega) rfl) ?_)))))
   by_cases c22 : (okN (x (i + 6))) = true
   ·refine Fx.Qt.call (v := .bool true) (by rfl) (fun v1 hv1 => Fx.r_call (args := [.int .i64 (x (i + 6))]) rfl rfl Try.func90 rfl rfl) rfl (fun v1 hv1 => (f7_number (x (i + 6)) _).mono fun e v2 h => ⟨by rw [h.1, c22], by rw [h.2]; exact hv1⟩) ?_
    refine Fx.Qt.v (.bool false) (fun v1 hv1 => Fx.x_notF rfl rfl) (Fx.Qt.v (.bool false) (fun v1 hv1 => x_pickF rfl rfl rfl) (Fx.Qt.v (.bool false) (fun v1 hv1 => x_move rfl rfl) (Fx.Qt.v (.int .i64 ((i : Int))) (fun v1 hv1 => x_move rfl h3) (Fx.Qt.v (.pointer (some ⟨g1, 12, none⟩)) (fun v1 hv1 => x_field rfl h1 Try.underlying48 rfl (s := 6) (by kernel_rfl) rfl (by show _ + 12 = _; omega)) (Fx.Qt.v (.pointer (some ⟨g1, i + 12, none⟩)) (fun v1 hv1 => x_index rfl rfl rfl Try.underlying45 (s := 1) (by kernel_rfl) (by omega) (by omega) (by omega)) (Fx.Qt.v (.int .i64 (x (i + 12))) (fun v1 hv1 => x_load1 (x := Fx.rv .i64 x) rfl rfl (by kernel_rfl) (by obtain ⟨qd, rfl⟩ := hv1; exact m2.cel) (i := i + 12) (by omega) (by omega) rfl) ?_))))))
    by_cases c30 : (okN (x (i + 12))) = true
    ·refine Fx.Qt.call (v := .bool true) (by rfl) (fun v1 hv1 => Fx.r_call (args := [.int .i64 (x (i + 12))]) rfl rfl Try.func90 rfl rfl) rfl (fun v1 hv1 => (f7_number (x (i + 12)) _).mono fun e v2 h => ⟨by rw [h.1, c30], by rw [h.2]; exact hv1⟩) ?_
     refine Fx.Qt.v (.bool false) (fun v1 hv1 => Fx.x_notF rfl rfl) (Fx.Qt.v (.bool false) (fun v1 hv1 => x_pickF rfl rfl rfl) (Fx.Qt.v (.bool false) (fun v1 hv1 => x_move rfl rfl) (Fx.Qt.v (.int .i64 ((i : Int))) (fun v1 hv1 => x_move rfl h3) (Fx.Qt.v (.pointer (some ⟨g1, 12, none⟩)) (fun v1 hv1 => x_field rfl h1 Try.underlying48 rfl (s := 6) (by kernel_rfl) rfl (by show _ + 12 = _; omega)) (Fx.Qt.v (.pointer (some ⟨g1, i + 12, none⟩)) (fun v1 hv1 => x_index rfl rfl rfl Try.underlying45 (s := 1) (by kernel_rfl) (by omega) (by omega) (by omega)) (Fx.Qt.v (.int .i64 (x (i + 12))) (fun v1 hv1 => x_load1 (x := Fx.rv .i64 x) rfl rfl (by kernel_rfl) (by obtain ⟨qd, rfl⟩ := hv1; exact m2.cel) (i := i + 12) (by omega) (by omega) rfl) (Fx.Qt.v (.int .i64 ((i : Int))) (fun v1 hv1 => x_move rfl h3) (Fx.Qt.v (.pointer (some ⟨g1, 6, none⟩)) (fun v1 hv1 => x_field rfl h1 Try.underlying48 rfl (s := 6) (by kernel_rfl) rfl (by show _ + 6 = _; omega)) (Fx.Qt.v (.pointer (some ⟨g1, i + 6, none⟩)) (fun v1 hv1 => x_index rfl rfl rfl Try.underlying45 (s := 1) (by kernel_rfl) (by omega) (by omega) (by omega)) (Fx.Qt.v (.int .i64 (x (i + 6))) (fun v1 hv1 => x_load1 (x := Fx.rv .i64 x) rfl rfl (by kernel_rfl) (by obtain ⟨qd, rfl⟩ := hv1; exact m2.cel) (i := i + 6) (by omega) (by omega) rfl) ?_))))))))))
     by_cases c42 : (x (i + 6)) < (x (i + 12))
     ·refine Fx.Qt.v (.bool true) (fun v1 hv1 => Fx.x_gtrT rfl rfl rfl c42) (Fx.Qt.v (.bool true) (fun v1 hv1 => x_pickF rfl rfl rfl) (Fx.Qt.v (.bool true) (fun v1 hv1 => x_move rfl rfl) (Fx.Qt.skip (by rfl) rfl (Fx.Qt.skip (by rfl) rfl (Fx.Qt.skip (by rfl) rfl (Fx.Qt.skip (by rfl) rfl (Fx.Qt.skip (by rfl) rfl (Fx.Qt.skip (by rfl) rfl (Fx.Qt.skip (by rfl) rfl (Fx.Qt.v (.bool true) (fun v1 hv1 => x_pickT rfl rfl rfl) (Fx.Qt.nil ?_)))))))))))
      rintro _ ⟨qd, rfl⟩
      obtain ⟨wq1, ewq1⟩ : ∃ v1, v1 = World.drewN w2 qd := ⟨_, rfl⟩
      rw [← ewq1]
      have s2 : Fx.Stp w2.heap.size w2 wq1 := by rw [ewq1]; exact Fx.Stp.of_below (bdrN w2 qd)
      have b3 := s2.below b2 b2.size b2.size
      clear ewq1
      refine Fx.seqN (Fx.W.cond (b := true) rfl (fun _ => Fx.W.seq (Fx.W.list (Fx.L.v (.bool false) (x_assign rfl rfl) ?_))) (fun h => nomatch h))
      refine Fx.L.nil (Fx.seqN (Fx.W.ret (Fx.seqR (Fx.blkR (Fx.seqR (Fx.lpR (Fx.blkR (Fx.seqR (⟨.bool false, Fx.retV1 Try.results46 (by exact rfl), ?_⟩)))))))))
      refine ⟨congrArg (fun q => Ending.returned (Value.bool q)) (Eq.symm ?_), b3⟩
      exact no_fc (i := i) (by omega) c42
     ·refine Fx.Qt.v (.bool false) (fun v1 hv1 => x_gtrF rfl rfl rfl c42) (Fx.Qt.v (.bool false) (fun v1 hv1 => x_pickF rfl rfl rfl) (Fx.Qt.v (.bool false) (fun v1 hv1 => x_move rfl rfl) (Fx.Qt.v (.int .i64 ((i : Int))) (fun v1 hv1 => x_move rfl h3) (Fx.Qt.v (.int .i64 ((i : Int))) (fun v1 hv1 => x_move rfl h3) (Fx.Qt.v (.pointer (some ⟨g1, 18, none⟩)) (fun v1 hv1 => x_field rfl h1 Try.underlying48 rfl (s := 36) (by kernel_rfl) rfl (by show _ + 18 = _; omega)) (Fx.Qt.v (.pointer (some ⟨g1, 6 * i + 18, none⟩)) (fun v1 hv1 => x_index rfl rfl rfl Try.underlying46 (s := 6) (by kernel_rfl) (by omega) (by omega) (by omega)) (Fx.Qt.v (.pointer (some ⟨g1, 7 * i + 18, none⟩)) (fun v1 hv1 => x_index rfl rfl rfl Try.underlying45 (s := 1) (by kernel_rfl) (by omega) (by omega) (by omega)) (Fx.Qt.v (.int .i64 (x (7 * i + 18))) (fun v1 hv1 => x_load1 (x := Fx.rv .i64 x) rfl rfl (by kernel_rfl) (by obtain ⟨qd, rfl⟩ := hv1; exact m2.cel) (i := 7 * i + 18) (by omega) (by omega) rfl) ?_))))))))
      by_cases c51 : (x (7 * i + 18)) = 0
      ·refine Fx.Qt.v (.bool false) (fun v1 hv1 => Fx.x_neqF rfl rfl rfl c51) (Fx.Qt.v (.bool false) (fun v1 hv1 => x_pickF rfl rfl rfl) (Fx.Qt.nil ?_))
       rintro _ ⟨qd, rfl⟩
       obtain ⟨wq2, ewq2⟩ : ∃ v1, v1 = World.drewN w2 qd := ⟨_, rfl⟩
       rw [← ewq2]
       have s3 : Fx.Stp w2.heap.size w2 wq2 := by rw [ewq2]; exact Fx.Stp.of_below (bdrN w2 qd)
       have m4 := m2.stp s3 (Nat.ne_of_lt (m2.lt))
       have b4 := s3.below b2 b2.size b2.size
       clear ewq2
       refine Fx.seqN (Fx.W.cond (b := false) rfl (fun h => nomatch h) (fun _ => Fx.W.skip (Fx.seqN (Fx.W.seq ?_))))
       have hR : RowOk x i := ⟨c15, c22, c30, by omega, c51⟩
       have b15 := okN_bd c15
       refine Fx.W.list (Fx.L.v (.int .i64 (sumG x i)) (x_move rfl h2) (Fx.L.v (.int .i64 ((i : Int))) (x_move rfl h3) (Fx.L.v (.pointer (some ⟨g1, 0, none⟩)) (x_field rfl h1 Try.underlying48 rfl (s := 6) (by kernel_rfl) rfl rfl) (Fx.L.v (.pointer (some ⟨g1, i, none⟩)) (x_index rfl rfl rfl Try.underlying45 (s := 1) (by kernel_rfl) (by omega) (by omega) (by omega)) (Fx.L.v (.int .i64 (x i)) (x_load1 (x := Fx.rv .i64 x) rfl rfl (by kernel_rfl) m4.cel (i := i) (by omega) (by omega) rfl) (Fx.L.v (.int .i64 ((sumG x i) + (x i))) (Fx.x_add rfl rfl rfl (Fx.i64e (by omega) (by omega))) (Fx.L.v (.int .i64 ((sumG x i) + (x i))) (x_assign rfl rfl) (Fx.L.nil (Fx.seqN (Fx.W.seq (Fx.W.list (Fx.L.v (.int .i64 (0)) (x_assign rfl rfl) (Fx.L.nil (Fx.seqN (Fx.W.block (Fx.W.loop (fun f w_ => ∃ j : Nat, j ≤ 6 ∧ RowTo x i j ∧ f 1 = .pointer (some ⟨g1, 0, none⟩) ∧ f 3 = .int .i64 (sumG x (i + 1)) ∧ f 4 = .int .i64 ((i : Int)) ∧ f 5 = .int .i64 ((j : Int)) ∧ Fx.Blk w_ g1 54 (Fx.rv .i64 x) 48 ∧ Below w.heap.size w w_) (fun f _ => (6 - (intOf (f 5)).toNat)) ⟨0, by omega, rowTo_zero x i, h1, (by first | rfl | exact congrArg (Value.int .i64) (by omega)), (h3.trans (by first | rfl | exact congrArg (Value.int .i64) (by omega))), (by first | rfl | exact congrArg (Value.int .i64) (by omega)), m4, b4⟩ ?_))))))))))))))))
       rintro f2 w3 ⟨j, hj, hT, h4, h5, h6, h7, m5, b5⟩
       refine Fx.W.seq (Fx.W.seq (Fx.W.list (Fx.L.v (.int .i64 ((j : Int))) (x_move rfl h7) ?_)))
       by_cases c60 : (j : Int) < 6
       ·refine Fx.L.v (.bool true) (Fx.x_lssT rfl rfl rfl c60) (Fx.L.nil (Fx.seqN (Fx.W.cond (b := true) rfl (fun _ => Fx.W.skip (Fx.seqN (Fx.W.seq (Fx.W.block (Fx.W.seq (Fx.W.list (Fx.L.v (.int .i64 ((i : Int))) (x_move rfl h6) ?_))))))) (fun h => nomatch h))))
        refine Fx.L.v (.int .i64 ((j : Int))) (x_move rfl h7) (Fx.L.v (.pointer (some ⟨g1, 18, none⟩)) (x_field rfl h4 Try.underlying48 rfl (s := 36) (by kernel_rfl) rfl (by show _ + 18 = _; omega)) (Fx.L.v (.pointer (some ⟨g1, 6 * i + 18, none⟩)) (x_index rfl rfl rfl Try.underlying46 (s := 6) (by kernel_rfl) (by omega) (by omega) (by omega)) (Fx.L.v (.pointer (some ⟨g1, 6 * i + j + 18, none⟩)) (x_index rfl rfl rfl Try.underlying45 (s := 1) (by kernel_rfl) (by omega) (by omega) (by omega)) (Fx.L.v (.int .i64 (x (6 * i + j + 18))) (x_load1 (x := Fx.rv .i64 x) rfl rfl (by kernel_rfl) m5.cel (i := 6 * i + j + 18) (by omega) (by omega) rfl) ?_))))
        by_cases c69 : (okN (x (6 * i + j + 18))) = true
        ·refine Fx.L.call (by rfl) (Fx.r_call (args := [.int .i64 (x (6 * i + j + 18))]) rfl rfl Try.func90 rfl rfl) rfl ((f7_number (x (6 * i + j + 18)) _).mono ?_)
         rintro e v1 ⟨he, hv1⟩
         subst v1
         refine ⟨.bool true, by rw [he, c69], ?_⟩
         clear he
         refine Fx.L.v (.bool false) (Fx.x_notF rfl rfl) (Fx.L.nil (Fx.seqN (Fx.W.cond (b := false) rfl (fun h => nomatch h) (fun _ => Fx.W.skip (Fx.blkN (Fx.seqN (Fx.W.list (Fx.L.v (.int .i64 ((j : Int))) (x_move rfl h7) (Fx.L.v (.int .i64 ((j : Int) + 1)) (Fx.x_add rfl rfl rfl (Fx.i64e (by omega) (by omega))) (Fx.L.v (.int .i64 ((j : Int) + 1)) (x_assign rfl rfl) (Fx.L.nil (Fx.lpN ⟨j + 1, by omega, rowTo_succ hT c69, h4, (h5.trans (by first | rfl | exact congrArg (Value.int .i64) (by omega))), (h6.trans (by first | rfl | exact congrArg (Value.int .i64) (by omega))), (by first | rfl | exact congrArg (Value.int .i64) (by omega)), m5, b5⟩ ?_))))))))))))
         show (6 - (intOf ((.int .i64 ((j : Int) + 1)))).toNat) < _
         simp only [h7, intOf]; omega
        ·rw [Bool.not_eq_true] at c69
         refine Fx.L.call (by rfl) (Fx.r_call (args := [.int .i64 (x (6 * i + j + 18))]) rfl rfl Try.func90 rfl rfl) rfl ((f7_number (x (6 * i + j + 18)) _).mono ?_)
         rintro e v1 ⟨he, hv1⟩
         subst v1
         refine ⟨.bool false, by rw [he, c69], ?_⟩
         clear he
         refine Fx.L.v (.bool true) (Fx.x_notT rfl rfl) (Fx.L.nil (Fx.seqN (Fx.W.cond (b := true) rfl (fun _ => Fx.W.seq (Fx.W.list (Fx.L.v (.bool false) (x_assign rfl rfl) ?_))) (fun h => nomatch h))))
         refine Fx.L.nil (Fx.seqN (Fx.W.ret (Fx.blkR (Fx.seqR (Fx.lpR (Fx.blkR (Fx.blkR (Fx.seqR (Fx.lpR (Fx.blkR (Fx.seqR (⟨.bool false, Fx.retV1 Try.results46 (by exact rfl), ?_⟩))))))))))))
         refine ⟨congrArg (fun q => Ending.returned (Value.bool q)) (Eq.symm ?_), b5⟩
         exact no_ent (p := 6 * i + j + 18) (by omega) c69
       ·refine Fx.L.v (.bool false) (Fx.x_lssF rfl rfl rfl c60) (Fx.L.nil (Fx.seqN (Fx.W.cond (b := false) rfl (fun h => nomatch h) (fun _ => Fx.W.exit (Fx.seqX (Fx.lpX (Fx.blkX (Fx.blkN (Fx.seqN (Fx.W.list (Fx.L.v (.int .i64 ((i : Int))) (x_move rfl h6) (Fx.L.v (.int .i64 ((i : Int) + 1)) (Fx.x_add rfl rfl rfl (Fx.i64e (by omega) (by omega))) (Fx.L.v (.int .i64 ((i : Int) + 1)) (x_assign rfl rfl) (Fx.L.nil ?_))))))))))))))
        have e6 : j = 6 := by omega
        have hT6 : RowTo x i 6 := by rw [e6] at hT; exact hT
        refine Fx.lpN ⟨i + 1, by omega, okTo_succ hA hR hT6, h4, (h5.trans (by first | rfl | exact congrArg (Value.int .i64) (by omega))), (by first | rfl | exact congrArg (Value.int .i64) (by omega)), m5, b5⟩ ?_
        show (6 - (intOf ((.int .i64 ((i : Int) + 1)))).toNat) < _
        simp only [h3, intOf]; omega
      ·refine Fx.Qt.v (.bool true) (fun v1 hv1 => Fx.x_neqT rfl rfl rfl c51) (Fx.Qt.v (.bool true) (fun v1 hv1 => x_pickF rfl rfl rfl) (Fx.Qt.nil ?_))
       rintro _ ⟨qd, rfl⟩
       obtain ⟨wq3, ewq3⟩ : ∃ v1, v1 = World.drewN w2 qd := ⟨_, rfl⟩
       rw [← ewq3]
       have s4 : Fx.Stp w2.heap.size w2 wq3 := by rw [ewq3]; exact Fx.Stp.of_below (bdrN w2 qd)
       have b6 := s4.below b2 b2.size b2.size
       clear ewq3
       refine Fx.seqN (Fx.W.cond (b := true) rfl (fun _ => Fx.W.seq (Fx.W.list (Fx.L.v (.bool false) (x_assign rfl rfl) ?_))) (fun h => nomatch h))
       refine Fx.L.nil (Fx.seqN (Fx.W.ret (Fx.seqR (Fx.blkR (Fx.seqR (Fx.lpR (Fx.blkR (Fx.seqR (⟨.bool false, Fx.retV1 Try.results46 (by exact rfl), ?_⟩)))))))))
       refine ⟨congrArg (fun q => Ending.returned (Value.bool q)) (Eq.symm ?_), b6⟩
       exact no_rr (i := i) (by omega) c51
    ·rw [Bool.not_eq_true] at c30
     refine Fx.Qt.call (v := .bool false) (by rfl) (fun v1 hv1 => Fx.r_call (args := [.int .i64 (x (i + 12))]) rfl rfl Try.func90 rfl rfl) rfl (fun v1 hv1 => (f7_number (x (i + 12)) _).mono fun e v2 h => ⟨by rw [h.1, c30], by rw [h.2]; exact hv1⟩) ?_
     refine Fx.Qt.v (.bool true) (fun v1 hv1 => Fx.x_notT rfl rfl) (Fx.Qt.v (.bool true) (fun v1 hv1 => x_pickF rfl rfl rfl) (Fx.Qt.v (.bool true) (fun v1 hv1 => x_move rfl rfl) (Fx.Qt.skip (by rfl) rfl (Fx.Qt.skip (by rfl) rfl (Fx.Qt.skip (by rfl) rfl (Fx.Qt.skip (by rfl) rfl (Fx.Qt.skip (by rfl) rfl (Fx.Qt.skip (by rfl) rfl (Fx.Qt.skip (by rfl) rfl (Fx.Qt.skip (by rfl) rfl (Fx.Qt.skip (by rfl) rfl (Fx.Qt.v (.bool true) (fun v1 hv1 => x_pickT rfl rfl rfl) (Fx.Qt.v (.bool true) (fun v1 hv1 => x_move rfl rfl) (Fx.Qt.skip (by rfl) rfl (Fx.Qt.skip (by rfl) rfl (Fx.Qt.skip (by rfl) rfl (Fx.Qt.skip (by rfl) rfl (Fx.Qt.skip (by rfl) rfl (Fx.Qt.skip (by rfl) rfl (Fx.Qt.skip (by rfl) rfl (Fx.Qt.v (.bool true) (fun v1 hv1 => x_pickT rfl rfl rfl) (Fx.Qt.nil ?_))))))))))))))))))))))
     rintro _ ⟨qd, rfl⟩
     obtain ⟨wq4, ewq4⟩ : ∃ v1, v1 = World.drewN w2 qd := ⟨_, rfl⟩
     rw [← ewq4]
     have s5 : Fx.Stp w2.heap.size w2 wq4 := by rw [ewq4]; exact Fx.Stp.of_below (bdrN w2 qd)
     have b7 := s5.below b2 b2.size b2.size
     clear ewq4
     refine Fx.seqN (Fx.W.cond (b := true) rfl (fun _ => Fx.W.seq (Fx.W.list (Fx.L.v (.bool false) (x_assign rfl rfl) ?_))) (fun h => nomatch h))
     refine Fx.L.nil (Fx.seqN (Fx.W.ret (Fx.seqR (Fx.blkR (Fx.seqR (Fx.lpR (Fx.blkR (Fx.seqR (⟨.bool false, Fx.retV1 Try.results46 (by exact rfl), ?_⟩)))))))))
     refine ⟨congrArg (fun q => Ending.returned (Value.bool q)) (Eq.symm ?_), b7⟩
     exact no_ent (p := i + 12) (by omega) c30
   ·rw [Bool.not_eq_true] at c22
    refine Fx.Qt.call (v := .bool false) (by rfl) (fun v1 hv1 => Fx.r_call (args := [.int .i64 (x (i + 6))]) rfl rfl Try.func90 rfl rfl) rfl (fun v1 hv1 => (f7_number (x (i + 6)) _).mono fun e v2 h => ⟨by rw [h.1, c22], by rw [h.2]; exact hv1⟩) ?_
    refine Fx.Qt.v (.bool true) (fun v1 hv1 => Fx.x_notT rfl rfl) (Fx.Qt.v (.bool true) (fun v1 hv1 => x_pickF rfl rfl rfl) (Fx.Qt.v (.bool true) (fun v1 hv1 => x_move rfl rfl) (Fx.Qt.skip (by rfl) rfl (Fx.Qt.skip (by rfl) rfl (Fx.Qt.skip (by rfl) rfl (Fx.Qt.skip (by rfl) rfl (Fx.Qt.skip (by rfl) rfl (Fx.Qt.skip (by rfl) rfl (Fx.Qt.v (.bool true) (fun v1 hv1 => x_pickT rfl rfl rfl) (Fx.Qt.v (.bool true) (fun v1 hv1 => x_move rfl rfl) (Fx.Qt.skip (by rfl) rfl (Fx.Qt.skip (by rfl) rfl (Fx.Qt.skip (by rfl) rfl (Fx.Qt.skip (by rfl) rfl (Fx.Qt.skip (by rfl) rfl (Fx.Qt.skip (by rfl) rfl (Fx.Qt.skip (by rfl) rfl (Fx.Qt.skip (by rfl) rfl (Fx.Qt.skip (by rfl) rfl (Fx.Qt.v (.bool true) (fun v1 hv1 => x_pickT rfl rfl rfl) (Fx.Qt.v (.bool true) (fun v1 hv1 => x_move rfl rfl) (Fx.Qt.skip (by rfl) rfl (Fx.Qt.skip (by rfl) rfl (Fx.Qt.skip (by rfl) rfl ?_))))))))))))))))))))))))
    refine Fx.Qt.skip (by rfl) rfl (Fx.Qt.skip (by rfl) rfl (Fx.Qt.skip (by rfl) rfl (Fx.Qt.skip (by rfl) rfl (Fx.Qt.v (.bool true) (fun v1 hv1 => x_pickT rfl rfl rfl) (Fx.Qt.nil ?_)))))
    rintro _ ⟨qd, rfl⟩
    obtain ⟨wq5, ewq5⟩ : ∃ v1, v1 = World.drewN w2 qd := ⟨_, rfl⟩
    rw [← ewq5]
    have s6 : Fx.Stp w2.heap.size w2 wq5 := by rw [ewq5]; exact Fx.Stp.of_below (bdrN w2 qd)
    have b8 := s6.below b2 b2.size b2.size
    clear ewq5
    refine Fx.seqN (Fx.W.cond (b := true) rfl (fun _ => Fx.W.seq (Fx.W.list (Fx.L.v (.bool false) (x_assign rfl rfl) ?_))) (fun h => nomatch h))
    refine Fx.L.nil (Fx.seqN (Fx.W.ret (Fx.seqR (Fx.blkR (Fx.seqR (Fx.lpR (Fx.blkR (Fx.seqR (⟨.bool false, Fx.retV1 Try.results46 (by exact rfl), ?_⟩)))))))))
    refine ⟨congrArg (fun q => Ending.returned (Value.bool q)) (Eq.symm ?_), b8⟩
    exact no_ent (p := i + 6) (by omega) c22
  ·rw [Bool.not_eq_true] at c15
   refine Fx.Qt.call (v := .bool false) (by rfl) (fun v1 hv1 => Fx.r_call (args := [.int .i64 (x i)]) rfl rfl Try.func90 rfl rfl) rfl (fun v1 hv1 => (f7_number (x i) _).mono fun e v2 h => ⟨by rw [h.1, c15], by rw [h.2]; exact hv1⟩) ?_
   refine Fx.Qt.v (.bool true) (fun v1 hv1 => Fx.x_notT rfl rfl) (Fx.Qt.v (.bool true) (fun v1 hv1 => x_move rfl rfl) (Fx.Qt.skip (by rfl) rfl (Fx.Qt.skip (by rfl) rfl (Fx.Qt.skip (by rfl) rfl (Fx.Qt.skip (by rfl) rfl (Fx.Qt.skip (by rfl) rfl (Fx.Qt.skip (by rfl) rfl (Fx.Qt.v (.bool true) (fun v1 hv1 => x_pickT rfl rfl rfl) (Fx.Qt.v (.bool true) (fun v1 hv1 => x_move rfl rfl) (Fx.Qt.skip (by rfl) rfl (Fx.Qt.skip (by rfl) rfl (Fx.Qt.skip (by rfl) rfl (Fx.Qt.skip (by rfl) rfl (Fx.Qt.skip (by rfl) rfl (Fx.Qt.skip (by rfl) rfl (Fx.Qt.v (.bool true) (fun v1 hv1 => x_pickT rfl rfl rfl) (Fx.Qt.v (.bool true) (fun v1 hv1 => x_move rfl rfl) (Fx.Qt.skip (by rfl) rfl (Fx.Qt.skip (by rfl) rfl (Fx.Qt.skip (by rfl) rfl (Fx.Qt.skip (by rfl) rfl (Fx.Qt.skip (by rfl) rfl (Fx.Qt.skip (by rfl) rfl (Fx.Qt.skip (by rfl) rfl ?_))))))))))))))))))))))))
   refine Fx.Qt.skip (by rfl) rfl (Fx.Qt.skip (by rfl) rfl (Fx.Qt.v (.bool true) (fun v1 hv1 => x_pickT rfl rfl rfl) (Fx.Qt.v (.bool true) (fun v1 hv1 => x_move rfl rfl) (Fx.Qt.skip (by rfl) rfl (Fx.Qt.skip (by rfl) rfl (Fx.Qt.skip (by rfl) rfl (Fx.Qt.skip (by rfl) rfl (Fx.Qt.skip (by rfl) rfl (Fx.Qt.skip (by rfl) rfl (Fx.Qt.skip (by rfl) rfl (Fx.Qt.v (.bool true) (fun v1 hv1 => x_pickT rfl rfl rfl) (Fx.Qt.nil ?_))))))))))))
   rintro _ ⟨qd, rfl⟩
   obtain ⟨wq6, ewq6⟩ : ∃ v1, v1 = World.drewN w2 qd := ⟨_, rfl⟩
   rw [← ewq6]
   have s7 : Fx.Stp w2.heap.size w2 wq6 := by rw [ewq6]; exact Fx.Stp.of_below (bdrN w2 qd)
   have b9 := s7.below b2 b2.size b2.size
   clear ewq6
   refine Fx.seqN (Fx.W.cond (b := true) rfl (fun _ => Fx.W.seq (Fx.W.list (Fx.L.v (.bool false) (x_assign rfl rfl) ?_))) (fun h => nomatch h))
   refine Fx.L.nil (Fx.seqN (Fx.W.ret (Fx.seqR (Fx.blkR (Fx.seqR (Fx.lpR (Fx.blkR (Fx.seqR (⟨.bool false, Fx.retV1 Try.results46 (by exact rfl), ?_⟩)))))))))
   refine ⟨congrArg (fun q => Ending.returned (Value.bool q)) (Eq.symm ?_), b9⟩
   exact no_ent (p := i) (by omega) c15
 ·refine Fx.L.v (.bool false) (Fx.x_lssF rfl rfl rfl c8) (Fx.L.nil (Fx.seqN (Fx.W.cond (b := false) rfl (fun h => nomatch h) (fun _ => Fx.W.exit (Fx.seqX (Fx.lpX (Fx.blkX (Fx.seqN (Fx.W.seq (Fx.W.seq (Fx.W.list (Fx.L.v (.int .i64 (1)) (x_assign rfl rfl) (Fx.L.nil (Fx.seqN (Fx.W.block ?_)))))))))))))))
  have e6 : i = 6 := by omega
  rw [e6] at hA
  have HE := okTo_ent hA
  have HA : OkTo x 6 := hA
  refine Fx.W.loop (fun f w_ => ∃ m : Nat, m ≤ 6 ∧ (∀ k, k < m → 0 ≤ L x k) ∧ f 1 = .pointer (some ⟨g1, 0, none⟩) ∧ f 3 = .int .i64 (sumG x i) ∧ f 6 = .int .i64 ((m : Int) + 1) ∧ Fx.Blk w_ g1 54 (Fx.rv .i64 x) 48 ∧ Below w.heap.size w w_) (fun f _ => (7 - (intOf (f 6)).toNat)) ⟨0, by omega, (fun _ h => absurd h (by omega)), h1, (h2.trans (by first | rfl | exact congrArg (Value.int .i64) (by omega))), (by first | rfl | exact congrArg (Value.int .i64) (by omega)), m2, b2⟩ ?_
  rintro f3 w4 ⟨m, hm, HL, h8, h9, h10, m10, b10⟩
  refine Fx.W.seq (Fx.W.seq (Fx.W.list (Fx.L.v (.int .i64 ((m : Int) + 1)) (x_move rfl h10) ?_)))
  by_cases c72 : ((m : Int) + 1) ≤ 6
  ·refine Fx.L.v (.bool true) (Fx.x_leqT rfl rfl rfl c72) (Fx.L.nil (Fx.seqN (Fx.W.cond (b := true) rfl (fun _ => Fx.W.skip (Fx.seqN (Fx.W.seq (Fx.W.block (Fx.W.seq (Fx.W.list (Fx.L.v (.agg (Fx.varr 54 (Fx.rv .i64 x))) (x_loadA (x := Fx.rv .i64 x) (y := Fx.rv .i64 x) rfl h8 (by kernel_rfl) (by kernel_rfl) m10.cel (i := 0) (by omega) (by omega) (fun j _ => by rw [Nat.zero_add])) ?_))))))) (fun h => nomatch h))))
   refine Fx.L.v (.int .i64 ((m : Int) + 1)) (x_move rfl h10) (Fx.L.call (by rfl) (Fx.r_call (args := [.agg (Fx.varr 54 (Fx.rv .i64 x)), .int .i64 ((m : Int) + 1)]) rfl rfl Try.func91 rfl rfl) rfl ((f7_local x m _ (by omega) HE).mono ?_))
   rintro e w5 ⟨he, hb1⟩
   refine ⟨.int .i64 (L x m), by rw [he], ?_⟩
   clear he
   have s8 := Fx.Stp.of_below hb1
   have m11 := m10.stp s8 (Nat.ne_of_lt (m10.lt))
   have b11 := s8.below b10 b10.size b10.size
   by_cases c78 : (L x m) < 0
   ·refine Fx.L.v (.bool true) (Fx.x_lssT rfl rfl rfl c78) (Fx.L.nil (Fx.seqN (Fx.W.cond (b := true) rfl (fun _ => Fx.W.seq (Fx.W.list (Fx.L.v (.bool false) (x_assign rfl rfl) ?_))) (fun h => nomatch h))))
    refine Fx.L.nil (Fx.seqN (Fx.W.ret (Fx.blkR (Fx.seqR (Fx.lpR (Fx.blkR (Fx.seqR (⟨.bool false, Fx.retV1 Try.results46 (by exact rfl), ?_⟩))))))))
    refine ⟨congrArg (fun q => Ending.returned (Value.bool q)) (Eq.symm ?_), b11⟩
    exact no_loc (i := m) (by omega) c78
   ·refine Fx.L.v (.bool false) (Fx.x_lssF rfl rfl rfl c78) (Fx.L.nil (Fx.seqN (Fx.W.cond (b := false) rfl (fun h => nomatch h) (fun _ => Fx.W.skip (Fx.blkN (Fx.seqN (Fx.W.list (Fx.L.v (.int .i64 ((m : Int) + 1)) (x_move rfl h10) (Fx.L.v (.int .i64 ((m : Int) + 2)) (Fx.x_add rfl rfl rfl (Fx.i64e (by omega) (by omega))) (Fx.L.v (.int .i64 ((m : Int) + 2)) (x_assign rfl rfl) (Fx.L.nil (Fx.lpN ⟨m + 1, by omega, loc_succ HL (by omega), h8, (h9.trans (by first | rfl | exact congrArg (Value.int .i64) (by omega))), (by first | rfl | exact congrArg (Value.int .i64) (by omega)), m11, b11⟩ ?_))))))))))))
    show (7 - (intOf ((.int .i64 ((m : Int) + 2)))).toNat) < _
    simp only [h10, intOf]; omega
  ·refine Fx.L.v (.bool false) (x_leqF rfl rfl rfl c72) (Fx.L.nil (Fx.seqN (Fx.W.cond (b := false) rfl (fun h => nomatch h) (fun _ => Fx.W.exit (Fx.seqX (Fx.lpX (Fx.blkX (Fx.seqN (Fx.W.seq (Fx.W.list (Fx.L.v (.int .i64 (sumG x i)) (x_move rfl h9) ?_)))))))))))
   by_cases c80 : (sumG x i) ≤ 1125899906842624
   ·refine Fx.L.v (.bool true) (Fx.x_leqT rfl rfl rfl c80) (Fx.L.v (.bool true) (x_assign rfl rfl) (Fx.L.nil (Fx.seqN (Fx.W.ret (⟨.bool true, Fx.retV1 Try.results46 (by exact rfl), ?_⟩)))))
    refine ⟨congrArg (fun q => Ending.returned (Value.bool q)) (Eq.symm ?_), b10⟩
    have e7 : m = 6 := by omega
    rw [e7] at HL
    rw [e6] at c80
    rw [may_fin HA HL]; exact decide_eq_true c80
   ·refine Fx.L.v (.bool false) (x_leqF rfl rfl rfl c80) (Fx.L.v (.bool false) (x_assign rfl rfl) (Fx.L.nil (Fx.seqN (Fx.W.ret (⟨.bool false, Fx.retV1 Try.results46 (by exact rfl), ?_⟩)))))
    refine ⟨congrArg (fun q => Ending.returned (Value.bool q)) (Eq.symm ?_), b10⟩
    have e7 : m = 6 := by omega
    rw [e7] at HL
    rw [e6] at c80
    rw [may_fin HA HL]; exact decide_eq_false c80
namespace Rt
def rightE (x : Nat → Int) (i n : Int) : Int := if may x && decide (1 ≤ n) && decide (n ≤ 1125899906842624) then (if regB i then 0 else 10) else 1
theorem limN_le {x : Nat → Int} (h : may x = true) (k : Nat) (hk : k ≤ 6) : 0 ≤ limN x k ∧ limN x k ≤ 1125899906842624 * (k : Int) := limN_bd (fun k hk => may_ok h k hk) k hk
theorem usedN_le {x : Nat → Int} (h : may x = true) (k : Nat) (hk : k ≤ 6) : 0 ≤ usedN x k ∧ usedN x k ≤ 1125899906842624 * (k : Int) := usedN_bd (fun k hk => may_ok h k hk) k hk
theorem localV_reg {x : Nat → Int} {i : Int} (h : may x = true) (hi : regB i = true) : ∃ k : Nat, k < 6 ∧ i = (k : Int) + 1 ∧ localV x i = L x k := by
  obtain ⟨a, ha, he, _⟩ := reg_nat hi
  exact ⟨a, ha, he, by rw [he]; exact localV_L h a ha⟩
end Rt
theorem f7_sums (x : Nat → Int) (w : World) :
    Calls Try.prog 51 #[.agg (Fx.varr 54 (Fx.rv .i64 x))] w fun e w' => e = .returned (.tuple #[.int .i64 (sums x).1, .int .i64 (sums x).2]) ∧ Below w.heap.size w w' := by
 refine Fx.enter Try.func51 rfl (n := 33) rfl (by rfl) ?_
 refine Fx.W.seq (Fx.W.list (Fx.L.box (m := 54) (y := Fx.rv .i64 x) (by rfl) rfl rfl (Fx.cells_agg _ _) rfl fun g1 w1 eg1 m1 s1 z1 => ?_))
 have b1 := s1.below (Below.refl w.heap.size w) (Below.refl w.heap.size w).size (Below.refl w.heap.size w).size
 have lg1 : w.heap.size ≤ g1 := by rw [eg1]; exact (Below.refl w.heap.size w).size
 have tg1 : g1 < w1.heap.size := m1.lt
 clear eg1
 refine Fx.L.v (.int .i64 (0)) (x_assign rfl rfl) (Fx.L.v (.int .i64 (0)) (x_assign rfl rfl) (Fx.L.nil (Fx.seqN (Fx.W.seq (Fx.W.seq (Fx.W.list (Fx.L.v (.agg (Fx.varr 54 (Fx.rv .i64 x))) (x_loadA (x := Fx.rv .i64 x) (y := Fx.rv .i64 x) rfl rfl (by kernel_rfl) (by kernel_rfl) m1.cel (i := 0) (by omega) (by omega) (fun j _ => by rw [Nat.zero_add])) ?_)))))))
 by_cases c8 : (may x) = true
 ·refine Fx.L.call (by rfl) (Fx.r_call (args := [.agg (Fx.varr 54 (Fx.rv .i64 x))]) rfl rfl Try.func46 rfl rfl) rfl ((f7_may x _).mono ?_)
  rintro e w2 ⟨he, hb1⟩
  refine ⟨.bool true, by rw [he, c8], ?_⟩
  clear he
  have s2 := Fx.Stp.of_below hb1
  have m2 := m1.stp s2 (Nat.ne_of_lt (m1.lt))
  have b2 := s2.below b1 b1.size b1.size
  refine Fx.L.v (.bool false) (Fx.x_notF rfl rfl) (Fx.L.nil (Fx.seqN (Fx.W.cond (b := false) rfl (fun h => nomatch h) (fun _ => Fx.W.skip (Fx.seqN (Fx.W.seq ?_))))))
  have HE := may_ent c8
  refine Fx.W.list (Fx.L.v (.int .i64 (0)) (x_assign rfl rfl) (Fx.L.nil (Fx.seqN (Fx.W.seq (Fx.W.list (Fx.L.v (.int .i64 (0)) (x_assign rfl rfl) (Fx.L.nil (Fx.seqN (Fx.W.seq (Fx.W.seq (Fx.W.list (Fx.L.v (.int .i64 (0)) (x_assign rfl rfl) (Fx.L.nil (Fx.seqN (Fx.W.block (Fx.W.loop (fun f w_ => ∃ k : Nat, k ≤ 6 ∧ f 1 = .pointer (some ⟨g1, 0, none⟩) ∧ f 4 = .int .i64 (limN x k) ∧ f 5 = .int .i64 (usedN x k) ∧ f 6 = .int .i64 ((k : Int)) ∧ Fx.Blk w_ g1 54 (Fx.rv .i64 x) 48 ∧ Below w.heap.size w w_) (fun f _ => (6 - (intOf (f 6)).toNat)) ⟨0, by omega, (by rfl), (by first | rfl | exact congrArg (Value.int .i64) (by omega)), (by first | rfl | exact congrArg (Value.int .i64) (by omega)), (by first | rfl | exact congrArg (Value.int .i64) (by omega)), m2, b2⟩ ?_))))))))))))))))
  rintro f1 w3 ⟨k, hk, h1, h2, h3, h4, m3, b3⟩
  have l1 := limN_le c8 k hk
  have l2 := usedN_le c8 k hk
  have q1 := HE k
  have q2 := HE (k + 6)
  have q3 := HE (k + 12)
  have l3 : limN x (k + 1) = limN x k + x k := rfl
  have l4 : usedN x (k + 1) = usedN x k + (x (k + 6) - x (k + 12)) := by rw [Nat.add_comm k 6, Nat.add_comm k 12]; rfl
  refine Fx.W.seq (Fx.W.seq (Fx.W.list (Fx.L.v (.int .i64 ((k : Int))) (x_move rfl h4) ?_)))
  by_cases c11 : (k : Int) < 6
  ·refine Fx.L.v (.bool true) (Fx.x_lssT rfl rfl rfl c11) (Fx.L.nil (Fx.seqN (Fx.W.cond (b := true) rfl (fun _ => Fx.W.skip (Fx.seqN (Fx.W.seq (Fx.W.block (Fx.W.seq (Fx.W.list (Fx.L.v (.int .i64 (limN x k)) (x_move rfl h2) ?_))))))) (fun h => nomatch h))))
   refine Fx.L.v (.int .i64 ((k : Int))) (x_move rfl h4) (Fx.L.v (.pointer (some ⟨g1, 0, none⟩)) (x_field rfl h1 Try.underlying48 rfl (s := 6) (by kernel_rfl) rfl rfl) (Fx.L.v (.pointer (some ⟨g1, k, none⟩)) (x_index rfl rfl rfl Try.underlying45 (s := 1) (by kernel_rfl) (by omega) (by omega) (by omega)) (Fx.L.v (.int .i64 (x k)) (x_load1 (x := Fx.rv .i64 x) rfl rfl (by kernel_rfl) m3.cel (i := k) (by omega) (by omega) rfl) (Fx.L.v (.int .i64 ((limN x k) + (x k))) (Fx.x_add rfl rfl rfl (Fx.i64e (by omega) (by omega))) (Fx.L.v (.int .i64 ((limN x k) + (x k))) (x_assign rfl rfl) (Fx.L.nil (Fx.seqN ?_)))))))
   -- region 9 draws
   refine Fx.W.quiet (fun v1 => ∃ q, v1 = World.drewN w3 q) (by kernel_rfl) (by kernel_rfl) ⟨1, rfl⟩ ?_
   refine Fx.Qt.v (.int .i64 (usedN x k)) (fun v1 hv1 => x_move rfl h3) (Fx.Qt.v (.int .i64 ((k : Int))) (fun v1 hv1 => x_move rfl h4) (Fx.Qt.v (.pointer (some ⟨g1, 6, none⟩)) (fun v1 hv1 => x_field rfl h1 Try.underlying48 rfl (s := 6) (by kernel_rfl) rfl (by show _ + 6 = _; omega)) (Fx.Qt.v (.pointer (some ⟨g1, k + 6, none⟩)) (fun v1 hv1 => x_index rfl rfl rfl Try.underlying45 (s := 1) (by kernel_rfl) (by omega) (by omega) (by omega)) (Fx.Qt.v (.int .i64 (x (k + 6))) (fun v1 hv1 => x_load1 (x := Fx.rv .i64 x) rfl rfl (by kernel_rfl) (by obtain ⟨qd, rfl⟩ := hv1; exact m3.cel) (i := k + 6) (by omega) (by omega) rfl) (Fx.Qt.v (.int .i64 ((k : Int))) (fun v1 hv1 => x_move rfl h4) (Fx.Qt.v (.pointer (some ⟨g1, 12, none⟩)) (fun v1 hv1 => x_field rfl h1 Try.underlying48 rfl (s := 6) (by kernel_rfl) rfl (by show _ + 12 = _; omega)) (Fx.Qt.v (.pointer (some ⟨g1, k + 12, none⟩)) (fun v1 hv1 => x_index rfl rfl rfl Try.underlying45 (s := 1) (by kernel_rfl) (by omega) (by omega) (by omega)) (Fx.Qt.v (.int .i64 (x (k + 12))) (fun v1 hv1 => x_load1 (x := Fx.rv .i64 x) rfl rfl (by kernel_rfl) (by obtain ⟨qd, rfl⟩ := hv1; exact m3.cel) (i := k + 12) (by omega) (by omega) rfl) (Fx.Qt.v (.int .i64 ((x (k + 6)) - (x (k + 12)))) (fun v1 hv1 => Fx.x_sub rfl rfl rfl (Fx.i64e (by omega) (by omega))) (Fx.Qt.v (.int .i64 ((usedN x k) + ((x (k + 6)) - (x (k + 12))))) (fun v1 hv1 => Fx.x_add rfl rfl rfl (Fx.i64e (by omega) (by omega))) (Fx.Qt.v (.int .i64 ((usedN x k) + ((x (k + 6)) - (x (k + 12))))) (fun v1 hv1 => x_assign rfl rfl) (Fx.Qt.nil ?_))))))))))))
   rintro _ ⟨qd, rfl⟩
   obtain ⟨wq1, ewq1⟩ : ∃ v1, v1 = World.drewN w3 qd := ⟨_, rfl⟩
   rw [← ewq1]
   have s3 : Fx.Stp w3.heap.size w3 wq1 := by rw [ewq1]; exact Fx.Stp.of_below (bdrN w3 qd)
   have m4 := m3.stp s3 (Nat.ne_of_lt (m3.lt))
   have b4 := s3.below b3 b3.size b3.size
   clear ewq1
   refine Fx.blkN (Fx.seqN (Fx.W.list (Fx.L.v (.int .i64 ((k : Int))) (x_move rfl h4) (Fx.L.v (.int .i64 ((k : Int) + 1)) (Fx.x_add rfl rfl rfl (Fx.i64e (by omega) (by omega))) (Fx.L.v (.int .i64 ((k : Int) + 1)) (x_assign rfl rfl) (Fx.L.nil (Fx.lpN ⟨k + 1, by omega, h1, (by first | rfl | exact congrArg (Value.int .i64) (by omega)), (by first | rfl | exact congrArg (Value.int .i64) (by omega)), (by first | rfl | exact congrArg (Value.int .i64) (by omega)), m4, b4⟩ ?_)))))))
   show (6 - (intOf ((.int .i64 ((k : Int) + 1)))).toNat) < _
   simp only [h4, intOf]; omega
  ·refine Fx.L.v (.bool false) (Fx.x_lssF rfl rfl rfl c11) (Fx.L.nil (Fx.seqN (Fx.W.cond (b := false) rfl (fun h => nomatch h) (fun _ => Fx.W.exit (Fx.seqX (Fx.lpX (Fx.blkX (Fx.seqN (Fx.W.seq (Fx.W.list (Fx.L.v (.int .i64 (limN x k)) (x_move rfl h2) (Fx.L.v (.int .i64 (usedN x k)) (x_move rfl h3) (Fx.L.v (.int .i64 (limN x k)) (x_assign rfl rfl) (Fx.L.v (.int .i64 (usedN x k)) (x_assign rfl rfl) (Fx.L.nil (Fx.seqN (Fx.W.ret (⟨.tuple #[.int .i64 (limN x k), .int .i64 (usedN x k)], Fx.retV2 Try.results51 (by exact rfl) (by exact rfl), ?_⟩))))))))))))))))))
   refine ⟨?_, b3⟩
   have e6 : k = 6 := by omega
   unfold sums; rw [c8, e6]; rfl
 ·rw [Bool.not_eq_true] at c8
  refine Fx.L.call (by rfl) (Fx.r_call (args := [.agg (Fx.varr 54 (Fx.rv .i64 x))]) rfl rfl Try.func46 rfl rfl) rfl ((f7_may x _).mono ?_)
  rintro e w4 ⟨he, hb2⟩
  refine ⟨.bool false, by rw [he, c8], ?_⟩
  clear he
  have s4 := Fx.Stp.of_below hb2
  have b5 := s4.below b1 b1.size b1.size
  refine Fx.L.v (.bool true) (Fx.x_notT rfl rfl) (Fx.L.nil (Fx.seqN (Fx.W.cond (b := true) rfl (fun _ => Fx.W.seq (Fx.W.list (Fx.L.v (.int .i64 (0)) (x_assign rfl rfl) ?_))) (fun h => nomatch h))))
  refine Fx.L.v (.int .i64 (0)) (x_assign rfl rfl) (Fx.L.nil (Fx.seqN (Fx.W.ret (Fx.seqR (⟨.tuple #[.int .i64 (0), .int .i64 (0)], Fx.retV2 Try.results51 (by exact rfl) (by exact rfl), ?_⟩)))))
  refine ⟨?_, b5⟩
  unfold sums; rw [c8]; rfl
theorem f7_localV (x : Nat → Int) (i : Int) (w : World) :
    Calls Try.prog 52 #[.agg (Fx.varr 54 (Fx.rv .i64 x)), .int .i64 (i)] w fun e w' => e = .returned (.int .i64 (localV x i)) ∧ Below w.heap.size w w' := by
 refine Fx.enter Try.func52 rfl (n := 16) rfl (by rfl) ?_
 refine Fx.W.seq (Fx.W.list (Fx.L.box (m := 54) (y := Fx.rv .i64 x) (by rfl) rfl rfl (Fx.cells_agg _ _) rfl fun g1 w1 eg1 m1 s1 z1 => ?_))
 have b1 := s1.below (Below.refl w.heap.size w) (Below.refl w.heap.size w).size (Below.refl w.heap.size w).size
 have lg1 : w.heap.size ≤ g1 := by rw [eg1]; exact (Below.refl w.heap.size w).size
 have tg1 : g1 < w1.heap.size := m1.lt
 clear eg1
 refine Fx.L.v (.int .i64 (0)) (x_assign rfl rfl) (Fx.L.nil (Fx.seqN (Fx.W.seq (Fx.W.seq (Fx.W.list (Fx.L.v (.agg (Fx.varr 54 (Fx.rv .i64 x))) (x_loadA (x := Fx.rv .i64 x) (y := Fx.rv .i64 x) rfl rfl (by kernel_rfl) (by kernel_rfl) m1.cel (i := 0) (by omega) (by omega) (fun j _ => by rw [Nat.zero_add])) ?_))))))
 by_cases c6 : (may x) = true
 ·refine Fx.L.call (by rfl) (Fx.r_call (args := [.agg (Fx.varr 54 (Fx.rv .i64 x))]) rfl rfl Try.func46 rfl rfl) rfl ((f7_may x _).mono ?_)
  rintro e w2 ⟨he, hb1⟩
  refine ⟨.bool true, by rw [he, c6], ?_⟩
  clear he
  have s2 := Fx.Stp.of_below hb1
  have m2 := m1.stp s2 (Nat.ne_of_lt (m1.lt))
  have b2 := s2.below b1 b1.size b1.size
  refine Fx.L.v (.bool false) (Fx.x_notF rfl rfl) (Fx.L.v (.bool false) (x_move rfl rfl) (Fx.L.v (.int .i64 (i)) (x_move rfl rfl) ?_))
  by_cases c10 : (regB i) = true
  ·refine Fx.L.call (by rfl) (Fx.r_call (args := [.int .i64 (i)]) rfl rfl Try.func96 rfl rfl) rfl ((f7_region i _).mono ?_)
   rintro e v1 ⟨he, hv1⟩
   subst v1
   refine ⟨.bool true, by rw [he, c10], ?_⟩
   clear he
   refine Fx.L.v (.bool false) (Fx.x_notF rfl rfl) (Fx.L.v (.bool false) (x_pickF rfl rfl rfl) (Fx.L.nil (Fx.seqN (Fx.W.cond (b := false) rfl (fun h => nomatch h) (fun _ => Fx.W.skip (Fx.seqN (Fx.W.seq ?_)))))))
   have HM := c6
   obtain ⟨k, hk, ei, hL⟩ := localV_reg c6 c10
   subst ei
   refine Fx.W.list (Fx.L.v (.agg (Fx.varr 54 (Fx.rv .i64 x))) (x_loadA (x := Fx.rv .i64 x) (y := Fx.rv .i64 x) rfl rfl (by kernel_rfl) (by kernel_rfl) m2.cel (i := 0) (by omega) (by omega) (fun j _ => by rw [Nat.zero_add])) (Fx.L.v (.int .i64 ((k : Int) + 1)) (x_move rfl rfl) (Fx.L.call (by rfl) (Fx.r_call (args := [.agg (Fx.varr 54 (Fx.rv .i64 x)), .int .i64 ((k : Int) + 1)]) rfl rfl Try.func91 rfl rfl) rfl ((f7_local x k _ (by omega) (may_ent HM)).mono ?_))))
   rintro e w3 ⟨he, hb2⟩
   refine ⟨.int .i64 (L x k), by rw [he], ?_⟩
   clear he
   have s3 := Fx.Stp.of_below hb2
   have b3 := s3.below b2 b2.size b2.size
   refine Fx.L.v (.int .i64 (L x k)) (x_assign rfl rfl) (Fx.L.nil (Fx.seqN (Fx.W.ret (⟨.int .i64 (L x k), Fx.retV1 Try.results52 (by exact rfl), ?_⟩))))
   refine ⟨?_, b3⟩
   rw [hL]
  ·rw [Bool.not_eq_true] at c10
   refine Fx.L.call (by rfl) (Fx.r_call (args := [.int .i64 (i)]) rfl rfl Try.func96 rfl rfl) rfl ((f7_region i _).mono ?_)
   rintro e v1 ⟨he, hv1⟩
   subst v1
   refine ⟨.bool false, by rw [he, c10], ?_⟩
   clear he
   refine Fx.L.v (.bool true) (Fx.x_notT rfl rfl) (Fx.L.v (.bool true) (x_pickF rfl rfl rfl) (Fx.L.nil (Fx.seqN (Fx.W.cond (b := true) rfl (fun _ => Fx.W.seq (Fx.W.list (Fx.L.v (.int .i64 (0)) (x_assign rfl rfl) ?_))) (fun h => nomatch h)))))
   refine Fx.L.nil (Fx.seqN (Fx.W.ret (Fx.seqR (⟨.int .i64 (0), Fx.retV1 Try.results52 (by exact rfl), ?_⟩))))
   refine ⟨?_, b2⟩
   rw [localV_no x i (by rw [c10, Bool.false_and])]
 ·rw [Bool.not_eq_true] at c6
  refine Fx.L.call (by rfl) (Fx.r_call (args := [.agg (Fx.varr 54 (Fx.rv .i64 x))]) rfl rfl Try.func46 rfl rfl) rfl ((f7_may x _).mono ?_)
  rintro e w4 ⟨he, hb3⟩
  refine ⟨.bool false, by rw [he, c6], ?_⟩
  clear he
  have s4 := Fx.Stp.of_below hb3
  have b4 := s4.below b1 b1.size b1.size
  refine Fx.L.v (.bool true) (Fx.x_notT rfl rfl) (Fx.L.v (.bool true) (x_move rfl rfl) (Fx.L.skip (by rfl) rfl (Fx.L.skip (by rfl) rfl (Fx.L.skip (by rfl) rfl (Fx.L.v (.bool true) (x_pickT rfl rfl rfl) (Fx.L.nil (Fx.seqN (Fx.W.cond (b := true) rfl (fun _ => Fx.W.seq (Fx.W.list (Fx.L.v (.int .i64 (0)) (x_assign rfl rfl) ?_))) (fun h => nomatch h)))))))))
  refine Fx.L.nil (Fx.seqN (Fx.W.ret (Fx.seqR (⟨.int .i64 (0), Fx.retV1 Try.results52 (by exact rfl), ?_⟩))))
  refine ⟨?_, b4⟩
  rw [localV_no x i (by rw [c6, Bool.and_false])]
theorem f7_right (x : Nat → Int) (i n : Int) (w : World) :
    Calls Try.prog 116 #[.agg (Fx.varr 54 (Fx.rv .i64 x)), .int .i64 (i), .int .i64 (n)] w fun e w' => e = .returned (.int .i64 (rightE x i n)) ∧ Below w.heap.size w w' := by
 refine Fx.enter Try.func116 rfl (n := 21) rfl (by rfl) ?_
 refine Fx.W.seq (Fx.W.list (Fx.L.box (m := 54) (y := Fx.rv .i64 x) (by rfl) rfl rfl (Fx.cells_agg _ _) rfl fun g1 w1 eg1 m1 s1 z1 => ?_))
 have b1 := s1.below (Below.refl w.heap.size w) (Below.refl w.heap.size w).size (Below.refl w.heap.size w).size
 have lg1 : w.heap.size ≤ g1 := by rw [eg1]; exact (Below.refl w.heap.size w).size
 have tg1 : g1 < w1.heap.size := m1.lt
 clear eg1
 refine Fx.L.v (.int .i64 (0)) (x_assign rfl rfl) (Fx.L.nil (Fx.seqN (Fx.W.seq (Fx.W.seq (Fx.W.list (Fx.L.v (.agg (Fx.varr 54 (Fx.rv .i64 x))) (x_loadA (x := Fx.rv .i64 x) (y := Fx.rv .i64 x) rfl rfl (by kernel_rfl) (by kernel_rfl) m1.cel (i := 0) (by omega) (by omega) (fun j _ => by rw [Nat.zero_add])) ?_))))))
 by_cases c8 : (may x) = true
 ·refine Fx.L.call (by rfl) (Fx.r_call (args := [.agg (Fx.varr 54 (Fx.rv .i64 x))]) rfl rfl Try.func46 rfl rfl) rfl ((f7_may x _).mono ?_)
  rintro e w2 ⟨he, hb1⟩
  refine ⟨.bool true, by rw [he, c8], ?_⟩
  clear he
  have s2 := Fx.Stp.of_below hb1
  have b2 := s2.below b1 b1.size b1.size
  refine Fx.L.v (.bool false) (Fx.x_notF rfl rfl) (Fx.L.v (.bool false) (x_move rfl rfl) (Fx.L.v (.int .i64 (n)) (x_move rfl rfl) ?_))
  by_cases c12 : n < 1
  ·refine Fx.L.v (.bool true) (Fx.x_lssT rfl rfl rfl c12) (Fx.L.v (.bool true) (x_pickF rfl rfl rfl) (Fx.L.v (.bool true) (x_move rfl rfl) (Fx.L.skip (by rfl) rfl (Fx.L.skip (by rfl) rfl (Fx.L.v (.bool true) (x_pickT rfl rfl rfl) (Fx.L.nil (Fx.seqN (Fx.W.cond (b := true) rfl (fun _ => Fx.W.seq (Fx.W.list (Fx.L.v (.int .i64 (1)) (x_assign rfl rfl) ?_))) (fun h => nomatch h)))))))))
   refine Fx.L.nil (Fx.seqN (Fx.W.ret (Fx.seqR (⟨.int .i64 (1), Fx.retV1 Try.results116 (by exact rfl), ?_⟩))))
   refine ⟨congrArg (fun q => Ending.returned (Value.int .i64 q)) ?_, b2⟩
   unfold rightE; rw [c8, decide_eq_false (show ¬ 1 ≤ n by omega)]; simp
  ·refine Fx.L.v (.bool false) (Fx.x_lssF rfl rfl rfl c12) (Fx.L.v (.bool false) (x_pickF rfl rfl rfl) (Fx.L.v (.bool false) (x_move rfl rfl) (Fx.L.v (.int .i64 (n)) (x_move rfl rfl) ?_)))
   by_cases c16 : 1125899906842624 < n
   ·refine Fx.L.v (.bool true) (Fx.x_gtrT rfl rfl rfl c16) (Fx.L.v (.bool true) (x_pickF rfl rfl rfl) (Fx.L.nil (Fx.seqN (Fx.W.cond (b := true) rfl (fun _ => Fx.W.seq (Fx.W.list (Fx.L.v (.int .i64 (1)) (x_assign rfl rfl) ?_))) (fun h => nomatch h)))))
    refine Fx.L.nil (Fx.seqN (Fx.W.ret (Fx.seqR (⟨.int .i64 (1), Fx.retV1 Try.results116 (by exact rfl), ?_⟩))))
    refine ⟨congrArg (fun q => Ending.returned (Value.int .i64 q)) ?_, b2⟩
    unfold rightE; rw [c8, decide_eq_true (show 1 ≤ n by omega), decide_eq_false (show ¬ n ≤ 1125899906842624 by omega)]; simp
   ·refine Fx.L.v (.bool false) (x_gtrF rfl rfl rfl c16) (Fx.L.v (.bool false) (x_pickF rfl rfl rfl) (Fx.L.nil (Fx.seqN (Fx.W.cond (b := false) rfl (fun h => nomatch h) (fun _ => Fx.W.skip (Fx.seqN (Fx.W.seq (Fx.W.seq (Fx.W.list (Fx.L.v (.int .i64 (i)) (x_move rfl rfl) ?_))))))))))
    by_cases c19 : (regB i) = true
    ·refine Fx.L.call (by rfl) (Fx.r_call (args := [.int .i64 (i)]) rfl rfl Try.func96 rfl rfl) rfl ((f7_region i _).mono ?_)
     rintro e v1 ⟨he, hv1⟩
     subst v1
     refine ⟨.bool true, by rw [he, c19], ?_⟩
     clear he
     refine Fx.L.v (.bool false) (Fx.x_notF rfl rfl) (Fx.L.nil (Fx.seqN (Fx.W.cond (b := false) rfl (fun h => nomatch h) (fun _ => Fx.W.skip (Fx.seqN (Fx.W.seq (Fx.W.list (Fx.L.v (.int .i64 (0)) (x_assign rfl rfl) (Fx.L.nil (Fx.seqN (Fx.W.ret (⟨.int .i64 (0), Fx.retV1 Try.results116 (by exact rfl), ?_⟩))))))))))))
     refine ⟨congrArg (fun q => Ending.returned (Value.int .i64 q)) ?_, b2⟩
     unfold rightE; rw [c8, decide_eq_true (show 1 ≤ n by omega), decide_eq_true (show n ≤ 1125899906842624 by omega), c19]; simp
    ·rw [Bool.not_eq_true] at c19
     refine Fx.L.call (by rfl) (Fx.r_call (args := [.int .i64 (i)]) rfl rfl Try.func96 rfl rfl) rfl ((f7_region i _).mono ?_)
     rintro e v1 ⟨he, hv1⟩
     subst v1
     refine ⟨.bool false, by rw [he, c19], ?_⟩
     clear he
     refine Fx.L.v (.bool true) (Fx.x_notT rfl rfl) (Fx.L.nil (Fx.seqN (Fx.W.cond (b := true) rfl (fun _ => Fx.W.seq (Fx.W.list (Fx.L.v (.int .i64 (10)) (x_assign rfl rfl) ?_))) (fun h => nomatch h))))
     refine Fx.L.nil (Fx.seqN (Fx.W.ret (Fx.seqR (⟨.int .i64 (10), Fx.retV1 Try.results116 (by exact rfl), ?_⟩))))
     refine ⟨congrArg (fun q => Ending.returned (Value.int .i64 q)) ?_, b2⟩
     unfold rightE; rw [c8, decide_eq_true (show 1 ≤ n by omega), decide_eq_true (show n ≤ 1125899906842624 by omega), c19]; simp
 ·rw [Bool.not_eq_true] at c8
  refine Fx.L.call (by rfl) (Fx.r_call (args := [.agg (Fx.varr 54 (Fx.rv .i64 x))]) rfl rfl Try.func46 rfl rfl) rfl ((f7_may x _).mono ?_)
  rintro e w3 ⟨he, hb2⟩
  refine ⟨.bool false, by rw [he, c8], ?_⟩
  clear he
  have s3 := Fx.Stp.of_below hb2
  have b3 := s3.below b1 b1.size b1.size
  refine Fx.L.v (.bool true) (Fx.x_notT rfl rfl) (Fx.L.v (.bool true) (x_move rfl rfl) (Fx.L.skip (by rfl) rfl (Fx.L.skip (by rfl) rfl (Fx.L.v (.bool true) (x_pickT rfl rfl rfl) (Fx.L.v (.bool true) (x_move rfl rfl) (Fx.L.skip (by rfl) rfl (Fx.L.skip (by rfl) rfl (Fx.L.v (.bool true) (x_pickT rfl rfl rfl) (Fx.L.nil (Fx.seqN (Fx.W.cond (b := true) rfl (fun _ => Fx.W.seq (Fx.W.list (Fx.L.v (.int .i64 (1)) (x_assign rfl rfl) ?_))) (fun h => nomatch h))))))))))))
  refine Fx.L.nil (Fx.seqN (Fx.W.ret (Fx.seqR (⟨.int .i64 (1), Fx.retV1 Try.results116 (by exact rfl), ?_⟩))))
  refine ⟨congrArg (fun q => Ending.returned (Value.int .i64 q)) ?_, b3⟩
  unfold rightE; rw [c8]; simp
namespace Rt
theorem right_ok {x : Nat → Int} {i n : Int} (h : rightE x i n = 0) : may x = true ∧ 1 ≤ n ∧ n ≤ 1125899906842624 ∧ regB i = true := by
  unfold rightE at h
  by_cases h1 : may x = true
  · by_cases h2 : 1 ≤ n
    · by_cases h3 : n ≤ 1125899906842624
      · rw [h1, decide_eq_true h2, decide_eq_true h3] at h
        cases h4 : regB i
        · rw [h4] at h; simp at h
        · exact ⟨h1, h2, h3, rfl⟩
      · rw [decide_eq_false h3] at h; simp at h
    · rw [decide_eq_false h2] at h; simp at h
  · rw [show may x = false by simpa using h1] at h; simp at h
theorem right_no {x : Nat → Int} {i n em : Int} {off : Nat} (h : ¬ rightE x i n = 0) : turnedM x n (regB i) em off = (zero, rightE x i n) := by
  unfold rightE at *
  unfold turnedM
  by_cases h1 : (may x && decide (1 ≤ n) && decide (n ≤ 1125899906842624)) = true
  · simp only [if_pos h1] at *
    cases h4 : regB i
    · simp
    · simp [h4] at h
  · simp only [if_neg h1] at *
theorem turned_y2 {x : Nat → Int} {n em : Int} {is : Bool} {off : Nat} (h1 : may x = true) (h2 : 1 ≤ n) (h3 : n ≤ 1125899906842624) (h4 : is = true) :
    turnedM x n is em off = if em = 0 then (if x off + n ≤ 1125899906842624 then (upd x off (x off + n), 0) else (zero, 6)) else (zero, em) := by
  unfold turnedM; rw [h1, decide_eq_true h2, decide_eq_true h3, h4]; simp
theorem turned_fin {x : Nat → Int} {n em : Int} {is : Bool} {off : Nat} (h1 : may x = true) (h2 : 1 ≤ n) (h3 : n ≤ 1125899906842624) (h4 : is = true) (h5 : em = 0) (h6 : x off + n ≤ 1125899906842624) : turnedM x n is em off = (upd x off (x off + n), 0) := by
  rw [turned_y2 h1 h2 h3 h4, if_pos h5, if_pos h6]
theorem turned_many {x : Nat → Int} {n em : Int} {is : Bool} {off : Nat} (h1 : may x = true) (h2 : 1 ≤ n) (h3 : n ≤ 1125899906842624) (h4 : is = true) (h5 : em = 0) (h6 : ¬ x off + n ≤ 1125899906842624) : turnedM x n is em off = (zero, 6) := by
  rw [turned_y2 h1 h2 h3 h4, if_pos h5, if_neg h6]
theorem turned_err {x : Nat → Int} {n em e : Int} {is : Bool} {off : Nat} (h1 : may x = true) (h2 : 1 ≤ n) (h3 : n ≤ 1125899906842624) (h4 : is = true) (h5 : em = e) (h6 : e ≠ 0) : turnedM x n is em off = (zero, e) := by
  rw [turned_y2 h1 h2 h3 h4, h5, if_neg h6]
theorem turned_is {x : Nat → Int} {n em : Int} {off : Nat} (h1 : may x = true) (h2 : 1 ≤ n) (h3 : n ≤ 1125899906842624) : turnedM x n false em off = (zero, 10) := by
  unfold turnedM; rw [h1, decide_eq_true h2, decide_eq_true h3]; simp
theorem pl (k : Nat) : ((k : Int) + 1).toNat - 1 = k := by omega
theorem right_no2 {x : Nat → Int} {i j n : Int} (h : ¬ rightE x i n = 0) : moveM x i j n = (zero, rightE x i n) := by
  unfold moveM
  unfold rightE at *
  unfold turnedM
  by_cases h1 : (may x && decide (1 ≤ n) && decide (n ≤ 1125899906842624)) = true
  · simp only [if_pos h1] at *
    cases h4 : regB i
    · simp
    · simp [h4] at h
  · simp only [if_neg h1] at *
theorem moveO_at (k q : Nat) : moveO ((k : Int) + 1) ((q : Int) + 1) = 6 * k + q + 18 := by unfold moveO; omega
theorem free_fit {x : Nat → Int} {k : Nat} (HM : may x = true) (hk : k < 6) : x (k + 6) ≤ 1125899906842624 := (may_ent HM (k + 6) (by omega)).2
end Rt
set_option maxRecDepth 10000 in
theorem f7_take (x : Nat → Int) (i n : Int) (w : World) :
    Calls Try.prog 93 #[.agg (Fx.varr 54 (Fx.rv .i64 x)), .int .i64 (i), .int .i64 (n)] w fun e w' => e = .returned (.tuple #[.agg (Fx.varr 54 (Fx.rv .i64 (takeM x i n).1)), .int .i64 (takeM x i n).2]) ∧ Below w.heap.size w w' := by
 refine Fx.enter Try.func93 rfl (n := 42) rfl (by rfl) ?_
 refine Fx.W.seq (Fx.W.list (Fx.L.box (m := 54) (y := Fx.rv .i64 x) (by rfl) rfl rfl (Fx.cells_agg _ _) rfl fun g1 w1 eg1 m1 s1 z1 => ?_))
 have b1 := s1.below (Below.refl w.heap.size w) (Below.refl w.heap.size w).size (Below.refl w.heap.size w).size
 have lg1 : w.heap.size ≤ g1 := by rw [eg1]; exact (Below.refl w.heap.size w).size
 have tg1 : g1 < w1.heap.size := m1.lt
 clear eg1
 refine Fx.L.new (m := 54) (y := Fx.rv .i64 (fun _ => 0)) (by rfl) rfl (by kernel_rfl) rfl fun g2 w2 eg2 m2 s2 z2 => ?_
 have m3 := m1.stp s2 (Nat.ne_of_lt (m1.lt))
 have b2 := s2.below b1 b1.size b1.size
 have lg2 : w.heap.size ≤ g2 := by rw [eg2]; exact b1.size
 have ng2m3 : g1 ≠ g2 := by rw [eg2]; exact Nat.ne_of_lt (m1.lt)
 have tg2 : g2 < w2.heap.size := m2.lt
 clear eg2
 refine Fx.L.v (.int .i64 (0)) (x_assign rfl rfl) (Fx.L.nil (Fx.seqN (Fx.W.seq (Fx.W.list (Fx.L.v (.agg (Fx.varr 54 (Fx.rv .i64 x))) (x_loadA (x := Fx.rv .i64 x) (y := Fx.rv .i64 x) rfl rfl (by kernel_rfl) (by kernel_rfl) m3.cel (i := 0) (by omega) (by omega) (fun j _ => by rw [Nat.zero_add])) (Fx.L.v (.int .i64 (i)) (x_move rfl rfl) (Fx.L.v (.int .i64 (n)) (x_move rfl rfl) (Fx.L.call (by rfl) (Fx.r_call (args := [.agg (Fx.varr 54 (Fx.rv .i64 x)), .int .i64 (i), .int .i64 (n)]) rfl rfl Try.func116 rfl rfl) rfl ((f7_right x i n _).mono ?_)))))))))
 rintro e w3 ⟨he, hb1⟩
 refine ⟨.int .i64 (rightE x i n), by rw [he], ?_⟩
 clear he
 have s3 := Fx.Stp.of_below hb1
 have m4 := m3.stp s3 (Nat.ne_of_lt (m3.lt))
 have m5 := m2.stp s3 (Nat.ne_of_lt (m2.lt))
 have b3 := s3.below b2 b2.size b2.size
 refine Fx.L.v (.int .i64 (rightE x i n)) (x_assign rfl rfl) (Fx.L.nil (Fx.seqN (Fx.W.seq (Fx.W.seq (Fx.W.list (Fx.L.v (.int .i64 (rightE x i n)) (x_move rfl rfl) ?_))))))
 by_cases c14 : (rightE x i n) = 0
 ·refine Fx.L.v (.bool false) (Fx.x_neqF rfl rfl rfl c14) (Fx.L.nil (Fx.seqN (Fx.W.cond (b := false) rfl (fun h => nomatch h) (fun _ => Fx.W.skip (Fx.seqN (Fx.W.seq (Fx.W.seq ?_)))))))
  obtain ⟨HM, n1, n2, HR⟩ := right_ok c14
  have HE := may_ent HM
  obtain ⟨k, hk, ei, _⟩ := reg_nat HR
  subst ei
  refine Fx.W.list (Fx.L.v (.int .i64 (n)) (x_move rfl rfl) (Fx.L.v (.agg (Fx.varr 54 (Fx.rv .i64 x))) (x_loadA (x := Fx.rv .i64 x) (y := Fx.rv .i64 x) rfl rfl (by kernel_rfl) (by kernel_rfl) m4.cel (i := 0) (by omega) (by omega) (fun j _ => by rw [Nat.zero_add])) (Fx.L.v (.int .i64 ((k : Int) + 1)) (x_move rfl rfl) (Fx.L.call (by rfl) (Fx.r_call (args := [.agg (Fx.varr 54 (Fx.rv .i64 x)), .int .i64 ((k : Int) + 1)]) rfl rfl Try.func91 rfl rfl) rfl ((f7_local x k _ (by omega) (may_ent HM)).mono ?_)))))
  rintro e w4 ⟨he, hb2⟩
  refine ⟨.int .i64 (L x k), by rw [he], ?_⟩
  clear he
  have s4 := Fx.Stp.of_below hb2
  have m6 := m4.stp s4 (Nat.ne_of_lt (m4.lt))
  have m7 := m5.stp s4 (Nat.ne_of_lt (m5.lt))
  have b4 := s4.below b3 b3.size b3.size
  by_cases c21 : (L x k) < n
  ·refine Fx.L.v (.bool true) (Fx.x_gtrT rfl rfl rfl c21) (Fx.L.nil (Fx.seqN (Fx.W.cond (b := true) rfl (fun _ => Fx.W.seq (Fx.W.list (Fx.L.v (.agg (Fx.varr 54 (Fx.rv .i64 (fun _ => 0)))) (x_build (vs := []) (places := #[(0, 6), (6, 6), (12, 6), (18, 36)]) (m := 54) (x := Fx.rv .i64 (fun _ => 0)) rfl rfl Try.underlying48 (by kernel_rfl) (by kernel_rfl) (by rfl)) ?_))) (fun h => nomatch h))))
   refine Fx.L.storeA (x := Fx.rv .i64 (fun _ => 0)) (y := Fx.rv .i64 (fun _ => 0)) (by rfl) rfl rfl rfl rfl (fun _ _ => rfl) (by kernel_rfl) m7 (i := 0) (by omega) fun w5 m8 s5 z3 => ?_
   have m9 : Fx.Blk w5 g2 54 (Fx.rv .i64 (fun _ => 0)) 48 := Fx.ovr_all m8
   have m10 := m6.stp s5 (by omega)
   have b5 := s5.below b4 b4.size (by omega)
   refine Fx.L.v (.int .i64 (11)) (x_assign rfl rfl) (Fx.L.nil (Fx.seqN (Fx.W.ret (Fx.seqR (⟨.tuple #[.agg (Fx.varr 54 (Fx.rv .i64 (fun _ => 0))), .int .i64 (11)], Fx.retV2 Try.results93 ⟨_, rfl, Fx.run_loadV m9.cel (by kernel_rfl) (by kernel_rfl)⟩ (by exact rfl), ?_⟩)))))
   refine ⟨?_, b5⟩
   have hM : takeM x ((k : Int) + 1) n = (zero, 11) := by
    unfold takeM takeE
    rw [localV_L HM k hk, decide_eq_true c21]
    exact turned_err HM n1 n2 HR rfl (by decide)
   rw [hM]
   all_goals rfl
  ·refine Fx.L.v (.bool false) (x_gtrF rfl rfl rfl c21) (Fx.L.nil (Fx.seqN (Fx.W.cond (b := false) rfl (fun h => nomatch h) (fun _ => Fx.W.skip (Fx.seqN (Fx.W.seq (Fx.W.seq ?_)))))))
   have q1 := HE (k + 6)
   refine Fx.W.list (Fx.L.v (.int .i64 ((k : Int) + 1)) (x_move rfl rfl) (Fx.L.v (.int .i64 ((k : Int))) (Fx.x_sub rfl rfl rfl (Fx.i64e (by omega) (by omega))) (Fx.L.v (.pointer (some ⟨g1, 6, none⟩)) (x_field rfl rfl Try.underlying48 rfl (s := 6) (by kernel_rfl) rfl (by show _ + 6 = _; omega)) (Fx.L.v (.pointer (some ⟨g1, k + 6, none⟩)) (x_index rfl rfl rfl Try.underlying45 (s := 1) (by kernel_rfl) (by omega) (by omega) (by omega)) (Fx.L.v (.int .i64 (x (k + 6))) (x_load1 (x := Fx.rv .i64 x) rfl rfl (by kernel_rfl) m6.cel (i := k + 6) (by omega) (by omega) rfl) (Fx.L.v (.int .i64 (n)) (x_move rfl rfl) (Fx.L.v (.int .i64 ((x (k + 6)) + n)) (Fx.x_add rfl rfl rfl (Fx.i64e (by omega) (by omega))) ?_)))))))
   by_cases c30 : 1125899906842624 < ((x (k + 6)) + n)
   ·refine Fx.L.v (.bool true) (Fx.x_gtrT rfl rfl rfl c30) (Fx.L.nil (Fx.seqN (Fx.W.cond (b := true) rfl (fun _ => Fx.W.seq (Fx.W.list (Fx.L.v (.agg (Fx.varr 54 (Fx.rv .i64 (fun _ => 0)))) (x_build (vs := []) (places := #[(0, 6), (6, 6), (12, 6), (18, 36)]) (m := 54) (x := Fx.rv .i64 (fun _ => 0)) rfl rfl Try.underlying48 (by kernel_rfl) (by kernel_rfl) (by rfl)) ?_))) (fun h => nomatch h))))
    refine Fx.L.storeA (x := Fx.rv .i64 (fun _ => 0)) (y := Fx.rv .i64 (fun _ => 0)) (by rfl) rfl rfl rfl rfl (fun _ _ => rfl) (by kernel_rfl) m7 (i := 0) (by omega) fun w6 m11 s6 z4 => ?_
    have m12 : Fx.Blk w6 g2 54 (Fx.rv .i64 (fun _ => 0)) 48 := Fx.ovr_all m11
    have m13 := m6.stp s6 (by omega)
    have b6 := s6.below b4 b4.size (by omega)
    refine Fx.L.v (.int .i64 (6)) (x_assign rfl rfl) (Fx.L.nil (Fx.seqN (Fx.W.ret (Fx.seqR (⟨.tuple #[.agg (Fx.varr 54 (Fx.rv .i64 (fun _ => 0))), .int .i64 (6)], Fx.retV2 Try.results93 ⟨_, rfl, Fx.run_loadV m12.cel (by kernel_rfl) (by kernel_rfl)⟩ (by exact rfl), ?_⟩)))))
    refine ⟨?_, b6⟩
    have hM : takeM x ((k : Int) + 1) n = (zero, 6) := by
     unfold takeM takeE
     rw [localV_L HM k hk, decide_eq_false c21, pl, Nat.add_comm 6 k]
     exact turned_many HM n1 n2 HR rfl (by omega)
    rw [hM]
    all_goals rfl
   ·refine Fx.L.v (.bool false) (x_gtrF rfl rfl rfl c30) (Fx.L.nil (Fx.seqN (Fx.W.cond (b := false) rfl (fun h => nomatch h) (fun _ => Fx.W.skip (Fx.seqN (Fx.W.seq (Fx.W.list (Fx.L.v (.int .i64 ((k : Int) + 1)) (x_move rfl rfl) (Fx.L.v (.int .i64 ((k : Int))) (Fx.x_sub rfl rfl rfl (Fx.i64e (by omega) (by omega))) (Fx.L.v (.pointer (some ⟨g1, 6, none⟩)) (x_field rfl rfl Try.underlying48 rfl (s := 6) (by kernel_rfl) rfl (by show _ + 6 = _; omega)) (Fx.L.v (.pointer (some ⟨g1, k + 6, none⟩)) (x_index rfl rfl rfl Try.underlying45 (s := 1) (by kernel_rfl) (by omega) (by omega) (by omega)) (Fx.L.v (.int .i64 (x (k + 6))) (x_load1 (x := Fx.rv .i64 x) rfl rfl (by kernel_rfl) m6.cel (i := k + 6) (by omega) (by omega) rfl) (Fx.L.v (.int .i64 (n)) (x_move rfl rfl) (Fx.L.v (.int .i64 ((x (k + 6)) + n)) (Fx.x_add rfl rfl rfl (Fx.i64e (by omega) (by omega))) (Fx.L.v (.pointer (some ⟨g1, 6, none⟩)) (x_field rfl rfl Try.underlying48 rfl (s := 6) (by kernel_rfl) rfl (by show _ + 6 = _; omega)) (Fx.L.v (.pointer (some ⟨g1, k + 6, none⟩)) (x_index rfl rfl rfl Try.underlying45 (s := 1) (by kernel_rfl) (by omega) (by omega) (by omega)) (Fx.L.store1 (x := Fx.rv .i64 x) (u := .int .i64 ((x (k + 6)) + n)) (by rfl) rfl rfl rfl rfl (by rfl) (by kernel_rfl) m6 (i := k + 6) (by omega) fun w7 m14 s7 z5 => ?_)))))))))))))))))
    have m15 : Fx.Blk w7 g1 54 (Fx.rv .i64 (upd x (k + 6) ((x (k + 6)) + n))) 48 := m14.to (Fx.updV_rv _ _ _ _)
    have m16 := m7.stp s7 (by omega)
    have b7 := s7.below b4 b4.size (by omega)
    refine Fx.L.nil (Fx.seqN (Fx.W.seq (Fx.W.list (Fx.L.v (.agg (Fx.varr 54 (Fx.rv .i64 (upd x (k + 6) ((x (k + 6)) + n))))) (x_loadA (x := Fx.rv .i64 (upd x (k + 6) ((x (k + 6)) + n))) (y := Fx.rv .i64 (upd x (k + 6) ((x (k + 6)) + n))) rfl rfl (by kernel_rfl) (by kernel_rfl) m15.cel (i := 0) (by omega) (by omega) (fun j _ => by rw [Nat.zero_add])) (Fx.L.storeA (x := Fx.rv .i64 (fun _ => 0)) (y := Fx.rv .i64 (upd x (k + 6) ((x (k + 6)) + n))) (by rfl) rfl rfl rfl rfl (fun _ _ => rfl) (by kernel_rfl) m16 (i := 0) (by omega) fun w8 m17 s8 z6 => ?_)))))
    have m18 : Fx.Blk w8 g2 54 (Fx.rv .i64 (upd x (k + 6) ((x (k + 6)) + n))) 48 := Fx.ovr_all m17
    have m19 := m15.stp s8 (by omega)
    have b8 := s8.below b7 b7.size (by omega)
    refine Fx.L.v (.int .i64 (0)) (x_assign rfl rfl) (Fx.L.nil (Fx.seqN (Fx.W.ret (⟨.tuple #[.agg (Fx.varr 54 (Fx.rv .i64 (upd x (k + 6) ((x (k + 6)) + n)))), .int .i64 (0)], Fx.retV2 Try.results93 ⟨_, rfl, Fx.run_loadV m18.cel (by kernel_rfl) (by kernel_rfl)⟩ (by exact rfl), ?_⟩))))
    refine ⟨?_, b8⟩
    have hM : takeM x ((k : Int) + 1) n = (upd x (k + 6) (x (k + 6) + n), 0) := by
     unfold takeM takeE
     rw [localV_L HM k hk, decide_eq_false c21, pl, Nat.add_comm 6 k]
     exact turned_fin HM n1 n2 HR rfl (by omega)
    rw [hM]
    all_goals rfl
 ·refine Fx.L.v (.bool true) (Fx.x_neqT rfl rfl rfl c14) (Fx.L.nil (Fx.seqN (Fx.W.cond (b := true) rfl (fun _ => Fx.W.seq (Fx.W.list (Fx.L.v (.agg (Fx.varr 54 (Fx.rv .i64 (fun _ => 0)))) (x_build (vs := []) (places := #[(0, 6), (6, 6), (12, 6), (18, 36)]) (m := 54) (x := Fx.rv .i64 (fun _ => 0)) rfl rfl Try.underlying48 (by kernel_rfl) (by kernel_rfl) (by rfl)) ?_))) (fun h => nomatch h))))
  refine Fx.L.v (.int .i64 (rightE x i n)) (x_move rfl rfl) (Fx.L.storeA (x := Fx.rv .i64 (fun _ => 0)) (y := Fx.rv .i64 (fun _ => 0)) (by rfl) rfl rfl rfl rfl (fun _ _ => rfl) (by kernel_rfl) m5 (i := 0) (by omega) fun w9 m20 s9 z7 => ?_)
  have m21 : Fx.Blk w9 g2 54 (Fx.rv .i64 (fun _ => 0)) 48 := Fx.ovr_all m20
  have m22 := m4.stp s9 (by omega)
  have b9 := s9.below b3 b3.size (by omega)
  refine Fx.L.v (.int .i64 (rightE x i n)) (x_assign rfl rfl) (Fx.L.nil (Fx.seqN (Fx.W.ret (Fx.seqR (⟨.tuple #[.agg (Fx.varr 54 (Fx.rv .i64 (fun _ => 0))), .int .i64 (rightE x i n)], Fx.retV2 Try.results93 ⟨_, rfl, Fx.run_loadV m21.cel (by kernel_rfl) (by kernel_rfl)⟩ (by exact rfl), ?_⟩)))))
  refine ⟨?_, b9⟩
  have hM : takeM x i n = (zero, rightE x i n) := by
   exact right_no c14
  rw [hM]
  all_goals rfl
set_option maxRecDepth 10000 in
theorem f7_free (x : Nat → Int) (i n : Int) (w : World) :
    Calls Try.prog 94 #[.agg (Fx.varr 54 (Fx.rv .i64 x)), .int .i64 (i), .int .i64 (n)] w fun e w' => e = .returned (.tuple #[.agg (Fx.varr 54 (Fx.rv .i64 (freeM x i n).1)), .int .i64 (freeM x i n).2]) ∧ Below w.heap.size w w' := by
 refine Fx.enter Try.func94 rfl (n := 41) rfl (by rfl) ?_
 refine Fx.W.seq (Fx.W.list (Fx.L.box (m := 54) (y := Fx.rv .i64 x) (by rfl) rfl rfl (Fx.cells_agg _ _) rfl fun g1 w1 eg1 m1 s1 z1 => ?_))
 have b1 := s1.below (Below.refl w.heap.size w) (Below.refl w.heap.size w).size (Below.refl w.heap.size w).size
 have lg1 : w.heap.size ≤ g1 := by rw [eg1]; exact (Below.refl w.heap.size w).size
 have tg1 : g1 < w1.heap.size := m1.lt
 clear eg1
 refine Fx.L.new (m := 54) (y := Fx.rv .i64 (fun _ => 0)) (by rfl) rfl (by kernel_rfl) rfl fun g2 w2 eg2 m2 s2 z2 => ?_
 have m3 := m1.stp s2 (Nat.ne_of_lt (m1.lt))
 have b2 := s2.below b1 b1.size b1.size
 have lg2 : w.heap.size ≤ g2 := by rw [eg2]; exact b1.size
 have ng2m3 : g1 ≠ g2 := by rw [eg2]; exact Nat.ne_of_lt (m1.lt)
 have tg2 : g2 < w2.heap.size := m2.lt
 clear eg2
 refine Fx.L.v (.int .i64 (0)) (x_assign rfl rfl) (Fx.L.nil (Fx.seqN (Fx.W.seq (Fx.W.list (Fx.L.v (.agg (Fx.varr 54 (Fx.rv .i64 x))) (x_loadA (x := Fx.rv .i64 x) (y := Fx.rv .i64 x) rfl rfl (by kernel_rfl) (by kernel_rfl) m3.cel (i := 0) (by omega) (by omega) (fun j _ => by rw [Nat.zero_add])) (Fx.L.v (.int .i64 (i)) (x_move rfl rfl) (Fx.L.v (.int .i64 (n)) (x_move rfl rfl) (Fx.L.call (by rfl) (Fx.r_call (args := [.agg (Fx.varr 54 (Fx.rv .i64 x)), .int .i64 (i), .int .i64 (n)]) rfl rfl Try.func116 rfl rfl) rfl ((f7_right x i n _).mono ?_)))))))))
 rintro e w3 ⟨he, hb1⟩
 refine ⟨.int .i64 (rightE x i n), by rw [he], ?_⟩
 clear he
 have s3 := Fx.Stp.of_below hb1
 have m4 := m3.stp s3 (Nat.ne_of_lt (m3.lt))
 have m5 := m2.stp s3 (Nat.ne_of_lt (m2.lt))
 have b3 := s3.below b2 b2.size b2.size
 refine Fx.L.v (.int .i64 (rightE x i n)) (x_assign rfl rfl) (Fx.L.nil (Fx.seqN (Fx.W.seq (Fx.W.seq (Fx.W.list (Fx.L.v (.int .i64 (rightE x i n)) (x_move rfl rfl) ?_))))))
 by_cases c14 : (rightE x i n) = 0
 ·refine Fx.L.v (.bool false) (Fx.x_neqF rfl rfl rfl c14) (Fx.L.nil (Fx.seqN (Fx.W.cond (b := false) rfl (fun h => nomatch h) (fun _ => Fx.W.skip (Fx.seqN (Fx.W.seq (Fx.W.seq ?_)))))))
  obtain ⟨HM, n1, n2, HR⟩ := right_ok c14
  have HE := may_ent HM
  obtain ⟨k, hk, ei, _⟩ := reg_nat HR
  subst ei
  have q1 := HE (k + 6)
  have q2 := HE (k + 12)
  -- region 4 draws
  refine Fx.W.quiet (fun v1 => ∃ q, v1 = World.drewN w3 q) (by kernel_rfl) (by kernel_rfl) ⟨1, rfl⟩ ?_
  refine Fx.Qt.v (.int .i64 (n)) (fun v1 hv1 => x_move rfl rfl) (Fx.Qt.v (.int .i64 ((k : Int) + 1)) (fun v1 hv1 => x_move rfl rfl) (Fx.Qt.v (.int .i64 ((k : Int))) (fun v1 hv1 => Fx.x_sub rfl rfl rfl (Fx.i64e (by omega) (by omega))) (Fx.Qt.v (.pointer (some ⟨g1, 6, none⟩)) (fun v1 hv1 => x_field rfl rfl Try.underlying48 rfl (s := 6) (by kernel_rfl) rfl (by show _ + 6 = _; omega)) (Fx.Qt.v (.pointer (some ⟨g1, k + 6, none⟩)) (fun v1 hv1 => x_index rfl rfl rfl Try.underlying45 (s := 1) (by kernel_rfl) (by omega) (by omega) (by omega)) (Fx.Qt.v (.int .i64 (x (k + 6))) (fun v1 hv1 => x_load1 (x := Fx.rv .i64 x) rfl rfl (by kernel_rfl) (by obtain ⟨qd, rfl⟩ := hv1; exact m4.cel) (i := k + 6) (by omega) (by omega) rfl) (Fx.Qt.v (.int .i64 ((k : Int) + 1)) (fun v1 hv1 => x_move rfl rfl) (Fx.Qt.v (.int .i64 ((k : Int))) (fun v1 hv1 => Fx.x_sub rfl rfl rfl (Fx.i64e (by omega) (by omega))) (Fx.Qt.v (.pointer (some ⟨g1, 12, none⟩)) (fun v1 hv1 => x_field rfl rfl Try.underlying48 rfl (s := 6) (by kernel_rfl) rfl (by show _ + 12 = _; omega)) (Fx.Qt.v (.pointer (some ⟨g1, k + 12, none⟩)) (fun v1 hv1 => x_index rfl rfl rfl Try.underlying45 (s := 1) (by kernel_rfl) (by omega) (by omega) (by omega)) (Fx.Qt.v (.int .i64 (x (k + 12))) (fun v1 hv1 => x_load1 (x := Fx.rv .i64 x) rfl rfl (by kernel_rfl) (by obtain ⟨qd, rfl⟩ := hv1; exact m4.cel) (i := k + 12) (by omega) (by omega) rfl) (Fx.Qt.v (.int .i64 ((x (k + 6)) - (x (k + 12)))) (fun v1 hv1 => Fx.x_sub rfl rfl rfl (Fx.i64e (by omega) (by omega))) ?_)))))))))))
  by_cases c29 : ((x (k + 6)) - (x (k + 12))) < n
  ·refine Fx.Qt.v (.bool true) (fun v1 hv1 => Fx.x_gtrT rfl rfl rfl c29) (Fx.Qt.nil ?_)
   rintro _ ⟨qd, rfl⟩
   obtain ⟨wq1, ewq1⟩ : ∃ v1, v1 = World.drewN w3 qd := ⟨_, rfl⟩
   rw [← ewq1]
   have s4 : Fx.Stp w3.heap.size w3 wq1 := by rw [ewq1]; exact Fx.Stp.of_below (bdrN w3 qd)
   have m6 := m4.stp s4 (Nat.ne_of_lt (m4.lt))
   have m7 := m5.stp s4 (Nat.ne_of_lt (m5.lt))
   have b4 := s4.below b3 b3.size b3.size
   clear ewq1
   refine Fx.seqN (Fx.W.cond (b := true) rfl (fun _ => Fx.W.seq (Fx.W.list (Fx.L.v (.agg (Fx.varr 54 (Fx.rv .i64 (fun _ => 0)))) (x_build (vs := []) (places := #[(0, 6), (6, 6), (12, 6), (18, 36)]) (m := 54) (x := Fx.rv .i64 (fun _ => 0)) rfl rfl Try.underlying48 (by kernel_rfl) (by kernel_rfl) (by rfl)) ?_))) (fun h => nomatch h))
   refine Fx.L.storeA (x := Fx.rv .i64 (fun _ => 0)) (y := Fx.rv .i64 (fun _ => 0)) (by rfl) rfl rfl rfl rfl (fun _ _ => rfl) (by kernel_rfl) m7 (i := 0) (by omega) fun w4 m8 s5 z3 => ?_
   have m9 : Fx.Blk w4 g2 54 (Fx.rv .i64 (fun _ => 0)) 48 := Fx.ovr_all m8
   have m10 := m6.stp s5 (by omega)
   have b5 := s5.below b4 b4.size (by omega)
   refine Fx.L.v (.int .i64 (12)) (x_assign rfl rfl) (Fx.L.nil (Fx.seqN (Fx.W.ret (Fx.seqR (⟨.tuple #[.agg (Fx.varr 54 (Fx.rv .i64 (fun _ => 0))), .int .i64 (12)], Fx.retV2 Try.results94 ⟨_, rfl, Fx.run_loadV m9.cel (by kernel_rfl) (by kernel_rfl)⟩ (by exact rfl), ?_⟩)))))
   refine ⟨?_, b5⟩
   have hM : freeM x ((k : Int) + 1) n = (zero, 12) := by
    unfold freeM freeE C F
    rw [pl, Nat.add_comm 6 k, Nat.add_comm 12 k, decide_eq_true c29]
    exact turned_err HM n1 n2 HR rfl (by decide)
   rw [hM]
   all_goals rfl
  ·refine Fx.Qt.v (.bool false) (fun v1 hv1 => x_gtrF rfl rfl rfl c29) (Fx.Qt.nil ?_)
   rintro _ ⟨qd, rfl⟩
   obtain ⟨wq2, ewq2⟩ : ∃ v1, v1 = World.drewN w3 qd := ⟨_, rfl⟩
   rw [← ewq2]
   have s6 : Fx.Stp w3.heap.size w3 wq2 := by rw [ewq2]; exact Fx.Stp.of_below (bdrN w3 qd)
   have m11 := m4.stp s6 (Nat.ne_of_lt (m4.lt))
   have m12 := m5.stp s6 (Nat.ne_of_lt (m5.lt))
   have b6 := s6.below b3 b3.size b3.size
   clear ewq2
   refine Fx.seqN (Fx.W.cond (b := false) rfl (fun h => nomatch h) (fun _ => Fx.W.skip (Fx.seqN (Fx.W.seq (Fx.W.list (Fx.L.v (.int .i64 ((k : Int) + 1)) (x_move rfl rfl) (Fx.L.v (.int .i64 ((k : Int))) (Fx.x_sub rfl rfl rfl (Fx.i64e (by omega) (by omega))) (Fx.L.v (.pointer (some ⟨g1, 12, none⟩)) (x_field rfl rfl Try.underlying48 rfl (s := 6) (by kernel_rfl) rfl (by show _ + 12 = _; omega)) (Fx.L.v (.pointer (some ⟨g1, k + 12, none⟩)) (x_index rfl rfl rfl Try.underlying45 (s := 1) (by kernel_rfl) (by omega) (by omega) (by omega)) (Fx.L.v (.int .i64 (x (k + 12))) (x_load1 (x := Fx.rv .i64 x) rfl rfl (by kernel_rfl) m11.cel (i := k + 12) (by omega) (by omega) rfl) (Fx.L.v (.int .i64 (n)) (x_move rfl rfl) (Fx.L.v (.int .i64 ((x (k + 12)) + n)) (Fx.x_add rfl rfl rfl (Fx.i64e (by omega) (by omega))) (Fx.L.v (.pointer (some ⟨g1, 12, none⟩)) (x_field rfl rfl Try.underlying48 rfl (s := 6) (by kernel_rfl) rfl (by show _ + 12 = _; omega)) (Fx.L.v (.pointer (some ⟨g1, k + 12, none⟩)) (x_index rfl rfl rfl Try.underlying45 (s := 1) (by kernel_rfl) (by omega) (by omega) (by omega)) (Fx.L.store1 (x := Fx.rv .i64 x) (u := .int .i64 ((x (k + 12)) + n)) (by rfl) rfl rfl rfl rfl (by rfl) (by kernel_rfl) m11 (i := k + 12) (by omega) fun w5 m13 s7 z4 => ?_)))))))))))))))
   have m14 : Fx.Blk w5 g1 54 (Fx.rv .i64 (upd x (k + 12) ((x (k + 12)) + n))) 48 := m13.to (Fx.updV_rv _ _ _ _)
   have m15 := m12.stp s7 (by omega)
   have b7 := s7.below b6 b6.size (by omega)
   refine Fx.L.nil (Fx.seqN (Fx.W.seq (Fx.W.list (Fx.L.v (.agg (Fx.varr 54 (Fx.rv .i64 (upd x (k + 12) ((x (k + 12)) + n))))) (x_loadA (x := Fx.rv .i64 (upd x (k + 12) ((x (k + 12)) + n))) (y := Fx.rv .i64 (upd x (k + 12) ((x (k + 12)) + n))) rfl rfl (by kernel_rfl) (by kernel_rfl) m14.cel (i := 0) (by omega) (by omega) (fun j _ => by rw [Nat.zero_add])) (Fx.L.storeA (x := Fx.rv .i64 (fun _ => 0)) (y := Fx.rv .i64 (upd x (k + 12) ((x (k + 12)) + n))) (by rfl) rfl rfl rfl rfl (fun _ _ => rfl) (by kernel_rfl) m15 (i := 0) (by omega) fun w6 m16 s8 z5 => ?_)))))
   have m17 : Fx.Blk w6 g2 54 (Fx.rv .i64 (upd x (k + 12) ((x (k + 12)) + n))) 48 := Fx.ovr_all m16
   have m18 := m14.stp s8 (by omega)
   have b8 := s8.below b7 b7.size (by omega)
   refine Fx.L.v (.int .i64 (0)) (x_assign rfl rfl) (Fx.L.nil (Fx.seqN (Fx.W.ret (⟨.tuple #[.agg (Fx.varr 54 (Fx.rv .i64 (upd x (k + 12) ((x (k + 12)) + n)))), .int .i64 (0)], Fx.retV2 Try.results94 ⟨_, rfl, Fx.run_loadV m17.cel (by kernel_rfl) (by kernel_rfl)⟩ (by exact rfl), ?_⟩))))
   refine ⟨?_, b8⟩
   have hM : freeM x ((k : Int) + 1) n = (upd x (k + 12) (x (k + 12) + n), 0) := by
    unfold freeM freeE C F
    rw [pl, Nat.add_comm 6 k, Nat.add_comm 12 k, decide_eq_false c29]
    exact turned_fin HM n1 n2 HR rfl (by have := free_fit HM hk; omega)
   rw [hM]
   all_goals rfl
 ·refine Fx.L.v (.bool true) (Fx.x_neqT rfl rfl rfl c14) (Fx.L.nil (Fx.seqN (Fx.W.cond (b := true) rfl (fun _ => Fx.W.seq (Fx.W.list (Fx.L.v (.agg (Fx.varr 54 (Fx.rv .i64 (fun _ => 0)))) (x_build (vs := []) (places := #[(0, 6), (6, 6), (12, 6), (18, 36)]) (m := 54) (x := Fx.rv .i64 (fun _ => 0)) rfl rfl Try.underlying48 (by kernel_rfl) (by kernel_rfl) (by rfl)) ?_))) (fun h => nomatch h))))
  refine Fx.L.v (.int .i64 (rightE x i n)) (x_move rfl rfl) (Fx.L.storeA (x := Fx.rv .i64 (fun _ => 0)) (y := Fx.rv .i64 (fun _ => 0)) (by rfl) rfl rfl rfl rfl (fun _ _ => rfl) (by kernel_rfl) m5 (i := 0) (by omega) fun w7 m19 s9 z6 => ?_)
  have m20 : Fx.Blk w7 g2 54 (Fx.rv .i64 (fun _ => 0)) 48 := Fx.ovr_all m19
  have m21 := m4.stp s9 (by omega)
  have b9 := s9.below b3 b3.size (by omega)
  refine Fx.L.v (.int .i64 (rightE x i n)) (x_assign rfl rfl) (Fx.L.nil (Fx.seqN (Fx.W.ret (Fx.seqR (⟨.tuple #[.agg (Fx.varr 54 (Fx.rv .i64 (fun _ => 0))), .int .i64 (rightE x i n)], Fx.retV2 Try.results94 ⟨_, rfl, Fx.run_loadV m20.cel (by kernel_rfl) (by kernel_rfl)⟩ (by exact rfl), ?_⟩)))))
  refine ⟨?_, b9⟩
  have hM : freeM x i n = (zero, rightE x i n) := by
   exact right_no c14
  rw [hM]
  all_goals rfl
set_option maxRecDepth 10000 in
theorem f7_move (x : Nat → Int) (i j n : Int) (w : World) :
    Calls Try.prog 95 #[.agg (Fx.varr 54 (Fx.rv .i64 x)), .int .i64 (i), .int .i64 (j), .int .i64 (n)] w fun e w' => e = .returned (.tuple #[.agg (Fx.varr 54 (Fx.rv .i64 (moveM x i j n).1)), .int .i64 (moveM x i j n).2]) ∧ Below w.heap.size w w' := by
 refine Fx.enter Try.func95 rfl (n := 59) rfl (by rfl) ?_
 refine Fx.W.seq (Fx.W.list (Fx.L.box (m := 54) (y := Fx.rv .i64 x) (by rfl) rfl rfl (Fx.cells_agg _ _) rfl fun g1 w1 eg1 m1 s1 z1 => ?_))
 have b1 := s1.below (Below.refl w.heap.size w) (Below.refl w.heap.size w).size (Below.refl w.heap.size w).size
 have lg1 : w.heap.size ≤ g1 := by rw [eg1]; exact (Below.refl w.heap.size w).size
 have tg1 : g1 < w1.heap.size := m1.lt
 clear eg1
 refine Fx.L.new (m := 54) (y := Fx.rv .i64 (fun _ => 0)) (by rfl) rfl (by kernel_rfl) rfl fun g2 w2 eg2 m2 s2 z2 => ?_
 have m3 := m1.stp s2 (Nat.ne_of_lt (m1.lt))
 have b2 := s2.below b1 b1.size b1.size
 have lg2 : w.heap.size ≤ g2 := by rw [eg2]; exact b1.size
 have ng2m3 : g1 ≠ g2 := by rw [eg2]; exact Nat.ne_of_lt (m1.lt)
 have tg2 : g2 < w2.heap.size := m2.lt
 clear eg2
 refine Fx.L.v (.int .i64 (0)) (x_assign rfl rfl) (Fx.L.nil (Fx.seqN (Fx.W.seq (Fx.W.list (Fx.L.v (.agg (Fx.varr 54 (Fx.rv .i64 x))) (x_loadA (x := Fx.rv .i64 x) (y := Fx.rv .i64 x) rfl rfl (by kernel_rfl) (by kernel_rfl) m3.cel (i := 0) (by omega) (by omega) (fun j _ => by rw [Nat.zero_add])) (Fx.L.v (.int .i64 (i)) (x_move rfl rfl) (Fx.L.v (.int .i64 (n)) (x_move rfl rfl) (Fx.L.call (by rfl) (Fx.r_call (args := [.agg (Fx.varr 54 (Fx.rv .i64 x)), .int .i64 (i), .int .i64 (n)]) rfl rfl Try.func116 rfl rfl) rfl ((f7_right x i n _).mono ?_)))))))))
 rintro e w3 ⟨he, hb1⟩
 refine ⟨.int .i64 (rightE x i n), by rw [he], ?_⟩
 clear he
 have s3 := Fx.Stp.of_below hb1
 have m4 := m3.stp s3 (Nat.ne_of_lt (m3.lt))
 have m5 := m2.stp s3 (Nat.ne_of_lt (m2.lt))
 have b3 := s3.below b2 b2.size b2.size
 refine Fx.L.v (.int .i64 (rightE x i n)) (x_assign rfl rfl) (Fx.L.nil (Fx.seqN (Fx.W.seq (Fx.W.seq (Fx.W.list (Fx.L.v (.int .i64 (rightE x i n)) (x_move rfl rfl) ?_))))))
 by_cases c16 : (rightE x i n) = 0
 ·refine Fx.L.v (.bool false) (Fx.x_neqF rfl rfl rfl c16) (Fx.L.nil (Fx.seqN (Fx.W.cond (b := false) rfl (fun h => nomatch h) (fun _ => Fx.W.skip (Fx.seqN (Fx.W.seq (Fx.W.seq ?_)))))))
  obtain ⟨HM, n1, n2, HR⟩ := right_ok c16
  have HE := may_ent HM
  obtain ⟨k, hk, ei, _⟩ := reg_nat HR
  subst ei
  refine Fx.W.list (Fx.L.v (.int .i64 (j)) (x_move rfl rfl) ?_)
  by_cases c20 : (regB j) = true
  ·refine Fx.L.call (by rfl) (Fx.r_call (args := [.int .i64 (j)]) rfl rfl Try.func96 rfl rfl) rfl ((f7_region j _).mono ?_)
   rintro e v1 ⟨he, hv1⟩
   subst v1
   refine ⟨.bool true, by rw [he, c20], ?_⟩
   clear he
   refine Fx.L.v (.bool false) (Fx.x_notF rfl rfl) (Fx.L.nil (Fx.seqN (Fx.W.cond (b := false) rfl (fun h => nomatch h) (fun _ => Fx.W.skip (Fx.seqN (Fx.W.seq (Fx.W.seq ?_)))))))
   obtain ⟨q, hq, ej, _⟩ := reg_nat c20
   subst ej
   refine Fx.W.list (Fx.L.v (.int .i64 ((k : Int) + 1)) (x_move rfl rfl) (Fx.L.v (.int .i64 ((q : Int) + 1)) (x_move rfl rfl) ?_))
   by_cases c25 : ((k : Int) + 1) = ((q : Int) + 1)
   ·refine Fx.L.v (.bool true) (x_eqlT rfl rfl rfl c25) (Fx.L.nil (Fx.seqN (Fx.W.cond (b := true) rfl (fun _ => Fx.W.seq (Fx.W.list (Fx.L.v (.agg (Fx.varr 54 (Fx.rv .i64 (fun _ => 0)))) (x_build (vs := []) (places := #[(0, 6), (6, 6), (12, 6), (18, 36)]) (m := 54) (x := Fx.rv .i64 (fun _ => 0)) rfl rfl Try.underlying48 (by kernel_rfl) (by kernel_rfl) (by rfl)) ?_))) (fun h => nomatch h))))
    refine Fx.L.storeA (x := Fx.rv .i64 (fun _ => 0)) (y := Fx.rv .i64 (fun _ => 0)) (by rfl) rfl rfl rfl rfl (fun _ _ => rfl) (by kernel_rfl) m5 (i := 0) (by omega) fun w4 m6 s4 z3 => ?_
    have m7 : Fx.Blk w4 g2 54 (Fx.rv .i64 (fun _ => 0)) 48 := Fx.ovr_all m6
    have m8 := m4.stp s4 (by omega)
    have b4 := s4.below b3 b3.size (by omega)
    refine Fx.L.v (.int .i64 (1)) (x_assign rfl rfl) (Fx.L.nil (Fx.seqN (Fx.W.ret (Fx.seqR (⟨.tuple #[.agg (Fx.varr 54 (Fx.rv .i64 (fun _ => 0))), .int .i64 (1)], Fx.retV2 Try.results95 ⟨_, rfl, Fx.run_loadV m7.cel (by kernel_rfl) (by kernel_rfl)⟩ (by exact rfl), ?_⟩)))))
    refine ⟨?_, b4⟩
    have hM : moveM x ((k : Int) + 1) ((q : Int) + 1) n = (zero, 1) := by
     unfold moveM moveE
     rw [if_pos c25]
     exact turned_err HM n1 n2 (by rw [HR, c20]; rfl) rfl (by decide)
    rw [hM]
    all_goals rfl
   ·refine Fx.L.v (.bool false) (x_eqlF rfl rfl rfl c25) (Fx.L.nil (Fx.seqN (Fx.W.cond (b := false) rfl (fun h => nomatch h) (fun _ => Fx.W.skip (Fx.seqN (Fx.W.seq (Fx.W.seq (Fx.W.list (Fx.L.v (.int .i64 (n)) (x_move rfl rfl) (Fx.L.v (.agg (Fx.varr 54 (Fx.rv .i64 x))) (x_loadA (x := Fx.rv .i64 x) (y := Fx.rv .i64 x) rfl rfl (by kernel_rfl) (by kernel_rfl) m4.cel (i := 0) (by omega) (by omega) (fun j _ => by rw [Nat.zero_add])) (Fx.L.v (.int .i64 ((k : Int) + 1)) (x_move rfl rfl) (Fx.L.call (by rfl) (Fx.r_call (args := [.agg (Fx.varr 54 (Fx.rv .i64 x)), .int .i64 ((k : Int) + 1)]) rfl rfl Try.func91 rfl rfl) rfl ((f7_local x k _ (by omega) (may_ent HM)).mono ?_)))))))))))))
    rintro e w5 ⟨he, hb2⟩
    refine ⟨.int .i64 (L x k), by rw [he], ?_⟩
    clear he
    have s5 := Fx.Stp.of_below hb2
    have m9 := m4.stp s5 (Nat.ne_of_lt (m4.lt))
    have m10 := m5.stp s5 (Nat.ne_of_lt (m5.lt))
    have b5 := s5.below b3 b3.size b3.size
    by_cases c31 : (L x k) < n
    ·refine Fx.L.v (.bool true) (Fx.x_gtrT rfl rfl rfl c31) (Fx.L.nil (Fx.seqN (Fx.W.cond (b := true) rfl (fun _ => Fx.W.seq (Fx.W.list (Fx.L.v (.agg (Fx.varr 54 (Fx.rv .i64 (fun _ => 0)))) (x_build (vs := []) (places := #[(0, 6), (6, 6), (12, 6), (18, 36)]) (m := 54) (x := Fx.rv .i64 (fun _ => 0)) rfl rfl Try.underlying48 (by kernel_rfl) (by kernel_rfl) (by rfl)) ?_))) (fun h => nomatch h))))
     refine Fx.L.storeA (x := Fx.rv .i64 (fun _ => 0)) (y := Fx.rv .i64 (fun _ => 0)) (by rfl) rfl rfl rfl rfl (fun _ _ => rfl) (by kernel_rfl) m10 (i := 0) (by omega) fun w6 m11 s6 z4 => ?_
     have m12 : Fx.Blk w6 g2 54 (Fx.rv .i64 (fun _ => 0)) 48 := Fx.ovr_all m11
     have m13 := m9.stp s6 (by omega)
     have b6 := s6.below b5 b5.size (by omega)
     refine Fx.L.v (.int .i64 (11)) (x_assign rfl rfl) (Fx.L.nil (Fx.seqN (Fx.W.ret (Fx.seqR (⟨.tuple #[.agg (Fx.varr 54 (Fx.rv .i64 (fun _ => 0))), .int .i64 (11)], Fx.retV2 Try.results95 ⟨_, rfl, Fx.run_loadV m12.cel (by kernel_rfl) (by kernel_rfl)⟩ (by exact rfl), ?_⟩)))))
     refine ⟨?_, b6⟩
     have hM : moveM x ((k : Int) + 1) ((q : Int) + 1) n = (zero, 11) := by
      unfold moveM moveE
      rw [if_neg c25, localV_L HM k hk, decide_eq_true c31]
      exact turned_err HM n1 n2 (by rw [HR, c20]; rfl) rfl (by decide)
     rw [hM]
     all_goals rfl
    ·refine Fx.L.v (.bool false) (x_gtrF rfl rfl rfl c31) (Fx.L.nil (Fx.seqN (Fx.W.cond (b := false) rfl (fun h => nomatch h) (fun _ => Fx.W.skip (Fx.seqN (Fx.W.seq (Fx.W.seq ?_)))))))
     have q1 := HE (6 * k + q + 18)
     refine Fx.W.list (Fx.L.v (.int .i64 ((k : Int) + 1)) (x_move rfl rfl) (Fx.L.v (.int .i64 ((k : Int))) (Fx.x_sub rfl rfl rfl (Fx.i64e (by omega) (by omega))) (Fx.L.v (.int .i64 ((q : Int) + 1)) (x_move rfl rfl) (Fx.L.v (.int .i64 ((q : Int))) (Fx.x_sub rfl rfl rfl (Fx.i64e (by omega) (by omega))) (Fx.L.v (.pointer (some ⟨g1, 18, none⟩)) (x_field rfl rfl Try.underlying48 rfl (s := 36) (by kernel_rfl) rfl (by show _ + 18 = _; omega)) (Fx.L.v (.pointer (some ⟨g1, 6 * k + 18, none⟩)) (x_index rfl rfl rfl Try.underlying46 (s := 6) (by kernel_rfl) (by omega) (by omega) (by omega)) (Fx.L.v (.pointer (some ⟨g1, 6 * k + q + 18, none⟩)) (x_index rfl rfl rfl Try.underlying45 (s := 1) (by kernel_rfl) (by omega) (by omega) (by omega)) (Fx.L.v (.int .i64 (x (6 * k + q + 18))) (x_load1 (x := Fx.rv .i64 x) rfl rfl (by kernel_rfl) m9.cel (i := 6 * k + q + 18) (by omega) (by omega) rfl) (Fx.L.v (.int .i64 (n)) (x_move rfl rfl) (Fx.L.v (.int .i64 ((x (6 * k + q + 18)) + n)) (Fx.x_add rfl rfl rfl (Fx.i64e (by omega) (by omega))) ?_))))))))))
     by_cases c43 : 1125899906842624 < ((x (6 * k + q + 18)) + n)
     ·refine Fx.L.v (.bool true) (Fx.x_gtrT rfl rfl rfl c43) (Fx.L.nil (Fx.seqN (Fx.W.cond (b := true) rfl (fun _ => Fx.W.seq (Fx.W.list (Fx.L.v (.agg (Fx.varr 54 (Fx.rv .i64 (fun _ => 0)))) (x_build (vs := []) (places := #[(0, 6), (6, 6), (12, 6), (18, 36)]) (m := 54) (x := Fx.rv .i64 (fun _ => 0)) rfl rfl Try.underlying48 (by kernel_rfl) (by kernel_rfl) (by rfl)) ?_))) (fun h => nomatch h))))
      refine Fx.L.storeA (x := Fx.rv .i64 (fun _ => 0)) (y := Fx.rv .i64 (fun _ => 0)) (by rfl) rfl rfl rfl rfl (fun _ _ => rfl) (by kernel_rfl) m10 (i := 0) (by omega) fun w7 m14 s7 z5 => ?_
      have m15 : Fx.Blk w7 g2 54 (Fx.rv .i64 (fun _ => 0)) 48 := Fx.ovr_all m14
      have m16 := m9.stp s7 (by omega)
      have b7 := s7.below b5 b5.size (by omega)
      refine Fx.L.v (.int .i64 (6)) (x_assign rfl rfl) (Fx.L.nil (Fx.seqN (Fx.W.ret (Fx.seqR (⟨.tuple #[.agg (Fx.varr 54 (Fx.rv .i64 (fun _ => 0))), .int .i64 (6)], Fx.retV2 Try.results95 ⟨_, rfl, Fx.run_loadV m15.cel (by kernel_rfl) (by kernel_rfl)⟩ (by exact rfl), ?_⟩)))))
      refine ⟨?_, b7⟩
      have hM : moveM x ((k : Int) + 1) ((q : Int) + 1) n = (zero, 6) := by
       unfold moveM moveE
       rw [if_neg c25, localV_L HM k hk, decide_eq_false c31, moveO_at]
       exact turned_many HM n1 n2 (by rw [HR, c20]; rfl) rfl (by omega)
      rw [hM]
      all_goals rfl
     ·refine Fx.L.v (.bool false) (x_gtrF rfl rfl rfl c43) (Fx.L.nil (Fx.seqN (Fx.W.cond (b := false) rfl (fun h => nomatch h) (fun _ => Fx.W.skip (Fx.seqN (Fx.W.seq ?_))))))
      -- region 12 draws
      refine Fx.W.tail 13 (by kernel_rfl) (by kernel_rfl) fun wt1 hbwt1 hzwt1 => ?_
      have s8 : Fx.Stp w5.heap.size w5 wt1 := Fx.Stp.of_below hbwt1
      have m17 := m9.stp s8 (Nat.ne_of_lt (m9.lt))
      have m18 := m10.stp s8 (Nat.ne_of_lt (m10.lt))
      have b8 := s8.below b5 b5.size b5.size
      refine Fx.St.v (.int .i64 ((k : Int) + 1)) (x_move rfl rfl) (Fx.St.v (.int .i64 ((k : Int))) (Fx.x_sub rfl rfl rfl (Fx.i64e (by omega) (by omega))) (Fx.St.v (.int .i64 ((q : Int) + 1)) (x_move rfl rfl) (Fx.St.v (.int .i64 ((q : Int))) (Fx.x_sub rfl rfl rfl (Fx.i64e (by omega) (by omega))) (Fx.St.v (.pointer (some ⟨g1, 18, none⟩)) (x_field rfl rfl Try.underlying48 rfl (s := 36) (by kernel_rfl) rfl (by show _ + 18 = _; omega)) (Fx.St.v (.pointer (some ⟨g1, 6 * k + 18, none⟩)) (x_index rfl rfl rfl Try.underlying46 (s := 6) (by kernel_rfl) (by omega) (by omega) (by omega)) (Fx.St.v (.pointer (some ⟨g1, 6 * k + q + 18, none⟩)) (x_index rfl rfl rfl Try.underlying45 (s := 1) (by kernel_rfl) (by omega) (by omega) (by omega)) (Fx.St.v (.int .i64 (x (6 * k + q + 18))) (x_load1 (x := Fx.rv .i64 x) rfl rfl (by kernel_rfl) m17.cel (i := 6 * k + q + 18) (by omega) (by omega) rfl) (Fx.St.v (.int .i64 (n)) (x_move rfl rfl) (Fx.St.v (.int .i64 ((x (6 * k + q + 18)) + n)) (Fx.x_add rfl rfl rfl (Fx.i64e (by omega) (by omega))) (Fx.St.v (.pointer (some ⟨g1, 18, none⟩)) (x_field rfl rfl Try.underlying48 rfl (s := 36) (by kernel_rfl) rfl (by show _ + 18 = _; omega)) (Fx.St.v (.pointer (some ⟨g1, 6 * k + 18, none⟩)) (x_index rfl rfl rfl Try.underlying46 (s := 6) (by kernel_rfl) (by omega) (by omega) (by omega)) (Fx.St.v (.pointer (some ⟨g1, 6 * k + q + 18, none⟩)) (x_index rfl rfl rfl Try.underlying45 (s := 1) (by kernel_rfl) (by omega) (by omega) (by omega)) (Fx.St.nil ?_)))))))))))))
      refine Fx.L.store1 (x := Fx.rv .i64 x) (u := .int .i64 ((x (6 * k + q + 18)) + n)) (by rfl) rfl rfl rfl rfl (by rfl) (by kernel_rfl) m17 (i := 6 * k + q + 18) (by omega) fun w8 m19 s9 z6 => ?_
      have m20 : Fx.Blk w8 g1 54 (Fx.rv .i64 (upd x (6 * k + q + 18) ((x (6 * k + q + 18)) + n))) 48 := m19.to (Fx.updV_rv _ _ _ _)
      have m21 := m18.stp s9 (by omega)
      have b9 := s9.below b8 b8.size (by omega)
      refine Fx.L.nil (Fx.seqN (Fx.W.seq (Fx.W.list (Fx.L.v (.agg (Fx.varr 54 (Fx.rv .i64 (upd x (6 * k + q + 18) ((x (6 * k + q + 18)) + n))))) (x_loadA (x := Fx.rv .i64 (upd x (6 * k + q + 18) ((x (6 * k + q + 18)) + n))) (y := Fx.rv .i64 (upd x (6 * k + q + 18) ((x (6 * k + q + 18)) + n))) rfl rfl (by kernel_rfl) (by kernel_rfl) m20.cel (i := 0) (by omega) (by omega) (fun j _ => by rw [Nat.zero_add])) (Fx.L.storeA (x := Fx.rv .i64 (fun _ => 0)) (y := Fx.rv .i64 (upd x (6 * k + q + 18) ((x (6 * k + q + 18)) + n))) (by rfl) rfl rfl rfl rfl (fun _ _ => rfl) (by kernel_rfl) m21 (i := 0) (by omega) fun w9 m22 s10 z7 => ?_)))))
      have m23 : Fx.Blk w9 g2 54 (Fx.rv .i64 (upd x (6 * k + q + 18) ((x (6 * k + q + 18)) + n))) 48 := Fx.ovr_all m22
      have m24 := m20.stp s10 (by omega)
      have b10 := s10.below b9 b9.size (by omega)
      refine Fx.L.v (.int .i64 (0)) (x_assign rfl rfl) (Fx.L.nil (Fx.seqN (Fx.W.ret (⟨.tuple #[.agg (Fx.varr 54 (Fx.rv .i64 (upd x (6 * k + q + 18) ((x (6 * k + q + 18)) + n)))), .int .i64 (0)], Fx.retV2 Try.results95 ⟨_, rfl, Fx.run_loadV m23.cel (by kernel_rfl) (by kernel_rfl)⟩ (by exact rfl), ?_⟩))))
      refine ⟨?_, b10⟩
      have hM : moveM x ((k : Int) + 1) ((q : Int) + 1) n = (upd x (6 * k + q + 18) (x (6 * k + q + 18) + n), 0) := by
       unfold moveM moveE
       rw [if_neg c25, localV_L HM k hk, decide_eq_false c31, moveO_at]
       exact turned_fin HM n1 n2 (by rw [HR, c20]; rfl) rfl (by omega)
      rw [hM]
      all_goals rfl
  ·rw [Bool.not_eq_true] at c20
   refine Fx.L.call (by rfl) (Fx.r_call (args := [.int .i64 (j)]) rfl rfl Try.func96 rfl rfl) rfl ((f7_region j _).mono ?_)
   rintro e v1 ⟨he, hv1⟩
   subst v1
   refine ⟨.bool false, by rw [he, c20], ?_⟩
   clear he
   refine Fx.L.v (.bool true) (Fx.x_notT rfl rfl) (Fx.L.nil (Fx.seqN (Fx.W.cond (b := true) rfl (fun _ => Fx.W.seq (Fx.W.list (Fx.L.v (.agg (Fx.varr 54 (Fx.rv .i64 (fun _ => 0)))) (x_build (vs := []) (places := #[(0, 6), (6, 6), (12, 6), (18, 36)]) (m := 54) (x := Fx.rv .i64 (fun _ => 0)) rfl rfl Try.underlying48 (by kernel_rfl) (by kernel_rfl) (by rfl)) ?_))) (fun h => nomatch h))))
   refine Fx.L.storeA (x := Fx.rv .i64 (fun _ => 0)) (y := Fx.rv .i64 (fun _ => 0)) (by rfl) rfl rfl rfl rfl (fun _ _ => rfl) (by kernel_rfl) m5 (i := 0) (by omega) fun w10 m25 s11 z8 => ?_
   have m26 : Fx.Blk w10 g2 54 (Fx.rv .i64 (fun _ => 0)) 48 := Fx.ovr_all m25
   have m27 := m4.stp s11 (by omega)
   have b11 := s11.below b3 b3.size (by omega)
   refine Fx.L.v (.int .i64 (10)) (x_assign rfl rfl) (Fx.L.nil (Fx.seqN (Fx.W.ret (Fx.seqR (⟨.tuple #[.agg (Fx.varr 54 (Fx.rv .i64 (fun _ => 0))), .int .i64 (10)], Fx.retV2 Try.results95 ⟨_, rfl, Fx.run_loadV m26.cel (by kernel_rfl) (by kernel_rfl)⟩ (by exact rfl), ?_⟩)))))
   refine ⟨?_, b11⟩
   have hM : moveM x ((k : Int) + 1) j n = (zero, 10) := by
    unfold moveM
    rw [c20, Bool.and_false]
    exact turned_is HM n1 n2
   rw [hM]
   all_goals rfl
 ·refine Fx.L.v (.bool true) (Fx.x_neqT rfl rfl rfl c16) (Fx.L.nil (Fx.seqN (Fx.W.cond (b := true) rfl (fun _ => Fx.W.seq (Fx.W.list (Fx.L.v (.agg (Fx.varr 54 (Fx.rv .i64 (fun _ => 0)))) (x_build (vs := []) (places := #[(0, 6), (6, 6), (12, 6), (18, 36)]) (m := 54) (x := Fx.rv .i64 (fun _ => 0)) rfl rfl Try.underlying48 (by kernel_rfl) (by kernel_rfl) (by rfl)) ?_))) (fun h => nomatch h))))
  refine Fx.L.v (.int .i64 (rightE x i n)) (x_move rfl rfl) (Fx.L.storeA (x := Fx.rv .i64 (fun _ => 0)) (y := Fx.rv .i64 (fun _ => 0)) (by rfl) rfl rfl rfl rfl (fun _ _ => rfl) (by kernel_rfl) m5 (i := 0) (by omega) fun w11 m28 s12 z9 => ?_)
  have m29 : Fx.Blk w11 g2 54 (Fx.rv .i64 (fun _ => 0)) 48 := Fx.ovr_all m28
  have m30 := m4.stp s12 (by omega)
  have b12 := s12.below b3 b3.size (by omega)
  refine Fx.L.v (.int .i64 (rightE x i n)) (x_assign rfl rfl) (Fx.L.nil (Fx.seqN (Fx.W.ret (Fx.seqR (⟨.tuple #[.agg (Fx.varr 54 (Fx.rv .i64 (fun _ => 0))), .int .i64 (rightE x i n)], Fx.retV2 Try.results95 ⟨_, rfl, Fx.run_loadV m29.cel (by kernel_rfl) (by kernel_rfl)⟩ (by exact rfl), ?_⟩)))))
  refine ⟨?_, b12⟩
  have hM : moveM x i j n = (zero, rightE x i n) := by
   exact right_no2 c16
  rw [hM]
  all_goals rfl
namespace Rt
theorem node_at {m : LdM} {x : Int} (h : 0 ≤ m.node x) : ∃ q : Nat, q < m.s.nn ∧ firstI (fun i => decide (m.id i = x)) m.s.nn = (q : Int) ∧ m.id q = x := by
  rcases firstI_spec (fun i => decide (m.id i = x)) m.s.nn with ⟨q, hq, e, hp⟩ | ⟨e, _⟩
  · exact ⟨q, hq, e, of_decide_eq_true hp⟩
  · unfold LdM.node at h; omega
theorem req_app {n : Nat} {x : Nat → Int} {r : Int} : ∀ j, j < (n + 1) * 1 → Fx.appX (Fx.rv .u64 x) (n * 1) (Fx.ovr (fun j => Fx.rv .u64 (fun _ => 0) (j % 1)) (0 * 1) 1 (fun _ => .int .u64 r)) j = Fx.rv .u64 (updA x n r) j := by
  intro j hj
  unfold Fx.appX Fx.rv updA
  by_cases h : j < n * 1
  · rw [if_pos h, if_neg (by omega)]
  · rw [if_neg h, if_pos (by omega)]
    unfold Fx.ovr
    rw [if_pos (by omega)]
theorem gtB_step {P : Nat → Bool} {n k j : Nat} (e : k = j + 1) (h : ∀ i, k ≤ i → i < n → P i = true) (hj : P j = true) : ∀ i, j ≤ i → i < n → P i = true := fun i h1 h2 => by
  by_cases e2 : i = j
  · subst e2; exact hj
  · exact h i (by omega) h2
end Rt
theorem l_asked2 (m : LdM) (p a : Nat) (o r : Int) (w : World) (h : Ldg w p m) (ha : a < 6) (ho : o = (a : Int) + 1) :
    Calls Try.prog 129 #[.pointer (some ⟨p, 0, none⟩), .int .i64 (o), .int .u64 (r)] w fun e w' => e = .returned (.bool (decide (0 ≤ m.askedN a r))) ∧ Below w.heap.size w w' := by
  subst ho; exact l_asked m p a r w h ha
set_option maxRecDepth 20000 in
set_option maxHeartbeats 2000000 in
theorem l_takes (m : LdM) (B p a D : Nat) (v : EvM) (w : World) (hL : LdO w B p m) (hB : B ≤ w.heap.size) (ha : a < 6) (ho : v.o = (a : Int) + 1) (bgg : m.s.gn ≤ 900000) (brr : ∀ i, i < 6 → m.rn i ≤ 900000) (hTN : ∀ x, m.node x = findT m.t m.tn x) (hD : findT m.t m.tn (iterT m.t m.tn D v.node) < 0) (hD2 : D ≤ 1000) :
    Calls Try.prog 122 #[.pointer (some ⟨p, 0, none⟩), .agg (Fx.varr 14 (evY v))] w fun e w' => e = .returned (.int .i64 (takesE m.core v)) ∧ Below B w w' ∧ (takesE m.core v = 0 → ∃ m', m'.core = takesC m.core v ∧ LdO w' B p m') := by
 have hLc := hL.c
 have hLn := hL.n
 have hLg := hL.g
 have hLt := hL.tc
 have hLtr := hL.t
 have hLr := hL.r
 have hLp := hL.pB
 have hLtb := hL.tB
 have bn := hL.bn
 have bg := hL.bg
 have bt := hL.bt
 have lpp : p < w.heap.size := hLc.lt
 have ltb : m.tb < w.heap.size := hLt.lt
 refine Fx.enter Try.func122 rfl (n := 188) rfl (by rfl) ?_
 refine Fx.W.seq (Fx.W.list (Fx.L.box (m := 14) (y := evY v) (by rfl) rfl rfl (Fx.cells_agg _ _) rfl fun g1 w1 eg1 m1 s1 z1 => ?_))
 have m2 := hLc.stp s1 (Nat.ne_of_lt (hLc.lt))
 have m3 := hLn.stp s1 (hLn.notNew (Nat.le_refl _))
 have m4 := hLg.stp s1 (hLg.notNew (Nat.le_refl _))
 have m5 := hLt.stp s1 (Nat.ne_of_lt (hLt.lt))
 have m6 := hLtr.stp s1 (hLtr.notNew (Nat.le_refl _))
 have m7 := hLr.up s1.old
 have b1 := s1.below (Below.refl B w) (Nat.le_trans hB (Below.refl B w).size) (Nat.le_trans hB (Below.refl B w).size)
 have lg1 : w.heap.size ≤ g1 := by rw [eg1]; exact (Below.refl B w).size
 have ng1m2 : p ≠ g1 := by rw [eg1]; exact Nat.ne_of_lt (hLc.lt)
 have ng1m5 : m.tb ≠ g1 := by rw [eg1]; exact Nat.ne_of_lt (hLt.lt)
 have tg1 : g1 < w1.heap.size := m1.lt
 clear eg1
 refine Fx.L.v (.int .i64 (0)) (x_assign rfl rfl) (Fx.L.nil (Fx.seqN (Fx.W.seq (Fx.W.seq (Fx.W.list (Fx.L.v (.pointer (some ⟨p, 0, none⟩)) (x_move rfl rfl) (Fx.L.v (.pointer (some ⟨g1, 0, none⟩)) (x_field rfl rfl Try.underlying54 rfl (s := 1) (by kernel_rfl) rfl rfl) (Fx.L.v (.int .i64 (v.o)) (x_load1 (x := evY v) rfl rfl (by kernel_rfl) m1.cel (i := 0) (by omega) (by omega) rfl) (Fx.L.v (.pointer (some ⟨g1, 12, none⟩)) (x_field rfl rfl Try.underlying54 rfl (s := 1) (by kernel_rfl) rfl (by show _ + 12 = _; omega)) (Fx.L.v (.int .u64 (v.req)) (x_load1 (x := evY v) rfl rfl (by kernel_rfl) m1.cel (i := 12) (by omega) (by omega) rfl) ?_))))))))))
 have hld1 : Ldg w1 p m := { c := m2.cel, an := m3.arr, ag := m4.arr, tc := m5.cel, at2 := m6.arr, ar := fun i hi => (m7.1 i hi).arr, bn := (by show m.s.nn ≤ 1000000; omega), bg := bg, bt := (by show m.tn ≤ 1000000; omega), br := hL.br }
 by_cases c17 : (decide (0 ≤ m.askedN a v.req)) = true
 ·refine Fx.L.call (by rfl) (Fx.r_call (args := [.pointer (some ⟨p, 0, none⟩), .int .i64 (v.o), .int .u64 (v.req)]) rfl rfl Try.func129 rfl rfl) rfl ((l_asked2 m p a v.o v.req _ hld1 ha ho).mono ?_)
  rintro e w2 ⟨he, hb1⟩
  refine ⟨.bool true, by rw [he, c17], ?_⟩
  clear he
  have s2 := Fx.Stp.of_below hb1
  have b2 := s2.below b1 (Nat.le_trans hB b1.size) (Nat.le_trans hB b1.size)
  refine Fx.L.nil (Fx.seqN (Fx.W.cond (b := true) rfl (fun _ => Fx.W.seq (Fx.W.list (Fx.L.v (.int .i64 (14)) (x_assign rfl rfl) ?_))) (fun h => nomatch h)))
  refine Fx.L.nil (Fx.seqN (Fx.W.ret (Fx.seqR (⟨.int .i64 (14), Fx.retV1 Try.results122 (by exact rfl), ?_⟩))))
  have eN : regN v = a := by unfold regN; omega
  have ee : takesE m.core v = 14 := by unfold takesE; rw [eN]; exact if_pos (of_decide_eq_true c17)
  exact ⟨congrArg (fun q => Ending.returned (Value.int .i64 q)) ee.symm, b2, fun h0 => by rw [ee] at h0; cases h0⟩
 ·rw [Bool.not_eq_true] at c17
  refine Fx.L.call (by rfl) (Fx.r_call (args := [.pointer (some ⟨p, 0, none⟩), .int .i64 (v.o), .int .u64 (v.req)]) rfl rfl Try.func129 rfl rfl) rfl ((l_asked2 m p a v.o v.req _ hld1 ha ho).mono ?_)
  rintro e w3 ⟨he, hb2⟩
  refine ⟨.bool false, by rw [he, c17], ?_⟩
  clear he
  have s3 := Fx.Stp.of_below hb2
  have m15 := m2.stp s3 (Nat.ne_of_lt (m2.lt))
  have m16 := m3.stp s3 (m3.notNew (Nat.le_refl _))
  have m17 := m4.stp s3 (m4.notNew (Nat.le_refl _))
  have m18 := m5.stp s3 (Nat.ne_of_lt (m5.lt))
  have m19 := m6.stp s3 (m6.notNew (Nat.le_refl _))
  have m20 := m7.up s3.old
  have m21 := m1.stp s3 (Nat.ne_of_lt (m1.lt))
  have b3 := s3.below b1 (Nat.le_trans hB b1.size) (Nat.le_trans hB b1.size)
  refine Fx.L.nil (Fx.seqN (Fx.W.cond (b := false) rfl (fun h => nomatch h) (fun _ => Fx.W.skip (Fx.seqN (Fx.W.seq ?_)))))
  -- region 3 draws
  refine Fx.W.reord [0, 1, 2, 4, 3, 5, 6, 7] [0, 0, 0, 4, 0, 4, 3, 0] Fx.Mk Fx.Mk.refl Fx.Mk.trans (certs := [(6, 3, [3]), (6, 5, [5]), (7, 6, [6])]) (by kernel_rfl) (by kernel_rfl) (by kernel_rfl) (by kernel_rfl) (by kernel_rfl) fun wt1 hbwt1 hzwt1 => ?_
  have s4 : Fx.Stp w3.heap.size w3 wt1 := Fx.Stp.of_below hbwt1
  have m22 := m15.stp s4 (Nat.ne_of_lt (m15.lt))
  have m23 := m16.stp s4 (m16.notNew (Nat.le_refl _))
  have m24 := m17.stp s4 (m17.notNew (Nat.le_refl _))
  have m25 := m18.stp s4 (Nat.ne_of_lt (m18.lt))
  have m26 := m19.stp s4 (m19.notNew (Nat.le_refl _))
  have m27 := m20.up s4.old
  have m28 := m21.stp s4 (Nat.ne_of_lt (m21.lt))
  have b4 := s4.below b3 (Nat.le_trans hB b3.size) (Nat.le_trans hB b3.size)
  refine Fx.R.p (.pointer (some ⟨p, 0, none⟩)) (fun v1 => x_move rfl rfl) (Fx.R.p (.pointer (some ⟨p, 0, none⟩)) (fun v1 => x_nil rfl rfl) (Fx.R.p (.pointer (some ⟨p, 20, none⟩)) (fun v1 => x_field rfl rfl Try.underlying71 rfl (s := 1) (by kernel_rfl) rfl (by show _ + 20 = _; omega)) (Fx.R.p (.pointer (some ⟨g1, 9, none⟩)) (fun v1 => x_field rfl rfl Try.underlying54 rfl (s := 1) (by kernel_rfl) rfl (by show _ + 9 = _; omega)) (Fx.R.s (.pointer (some ⟨m.tb, 0, none⟩)) (x_load1 (x := ldY m) rfl rfl (by kernel_rfl) m22.cel (i := 20) (by omega) (by omega) rfl) ?_))))
  refine Fx.R.s (.int .u64 (v.node)) (x_load1 (x := evY v) rfl rfl (by kernel_rfl) m28.cel (i := 9) (by omega) (by omega) rfl) ?_
  refine Fx.R.eff (by rfl) ?_
  refine Fx.L.call (by rfl) (Fx.r_call (args := [.pointer (some ⟨m.tb, 0, none⟩), .int .u64 (v.node)]) rfl rfl Try.func130 rfl rfl) rfl ((l_path m.tb m.ta m.tn m.tc m.t v.node D _ (ownTree m25 m26 bt) hD hD2).mono ?_)
  rintro e w4 ⟨K, vv, he, hown, hall1, hK1, hb3⟩
  obtain ⟨a1, cap1, rfl⟩ := hown.val
  refine ⟨.slice a1 K cap1, he, ?_⟩
  clear he
  have hKp : K = pathK m.t m.tn v.node := pathK_eq hall1 hK1 hD hD2
  have hKD : K ≤ 1000 := by rw [hKp]; exact lead_le _ _
  have s5 := Fx.Stp.of_below hb3
  have m29 := m22.stp s5 (Nat.ne_of_lt (m22.lt))
  have m30 := m23.stp s5 (m23.notNew (Nat.le_refl _))
  have m31 := m24.stp s5 (m24.notNew (Nat.le_refl _))
  have m32 := m25.stp s5 (Nat.ne_of_lt (m25.lt))
  have m33 := m26.stp s5 (m26.notNew (Nat.le_refl _))
  have m34 := m27.up s5.old
  have m35 := m28.stp s5 (Nat.ne_of_lt (m28.lt))
  have b5 := s5.below b4 (Nat.le_trans hB b4.size) (Nat.le_trans hB b4.size)
  refine Fx.L.nil (Fx.R.p (.slice a1 (K) (cap1)) (fun v1 => x_assign rfl rfl) (Fx.R.nil (Fx.seqN (Fx.W.seq (Fx.W.seq (Fx.W.list (Fx.L.v (.slice a1 (K) (cap1)) (x_move rfl rfl) ?_)))))))
  refine Fx.L.v (.int .i64 ((K : Int))) (x_len rfl rfl rfl (by kernel_rfl)) ?_
  by_cases c27 : (K : Int) = 0
  ·refine Fx.L.v (.bool true) (x_eqlT rfl rfl rfl c27) (Fx.L.nil (Fx.seqN (Fx.W.cond (b := true) rfl (fun _ => Fx.W.seq (Fx.W.list (Fx.L.v (.int .i64 (9)) (x_assign rfl rfl) ?_))) (fun h => nomatch h))))
   refine Fx.L.nil (Fx.seqN (Fx.W.ret (Fx.seqR (⟨.int .i64 (9), Fx.retV1 Try.results122 (by exact rfl), ?_⟩))))
   have eN : regN v = a := by unfold regN; omega
   have ne1 : ¬ 0 ≤ m.core.askedN (regN v) v.req := by rw [eN]; exact of_decide_eq_false c17
   have ee : takesE m.core v = 9 := by unfold takesE; rw [if_neg ne1]; exact if_pos (hKp.symm.trans (by omega))
   exact ⟨congrArg (fun q => Ending.returned (Value.int .i64 q)) ee.symm, b5, fun h0 => by rw [ee] at h0; cases h0⟩
  ·refine Fx.L.v (.bool false) (x_eqlF rfl rfl rfl c27) (Fx.L.nil (Fx.seqN (Fx.W.cond (b := false) rfl (fun h => nomatch h) (fun _ => Fx.W.skip (Fx.seqN (Fx.W.seq (Fx.W.seq (Fx.W.list (Fx.L.v (.int .i64 (0)) (x_assign rfl rfl) (Fx.L.nil (Fx.seqN (Fx.W.block (Fx.W.loop (fun f w_ => ∃ k : Nat, ∃ Rk : Nat → Nat → Int, k ≤ K ∧ walkR (fun x => takeM x v.o v.amt) (idxT m.core v.node) m.R k = (Rk, 0) ∧ f 0 = .pointer (some ⟨p, 0, none⟩) ∧ f 3 = .pointer (some ⟨g1, 0, none⟩) ∧ f 5 = .slice a1 (K) (cap1) ∧ f 6 = .int .i64 ((k : Int)) ∧ Fx.Blk w_ p 27 (ldY m) 71 ∧ Fx.Own w_ B 88 5 (.slice m.s.ga (m.s.gn) (m.s.gc)) m.s.gn (grX m) ∧ Fx.Blk w_ m.tb 1 (fun _ => .slice m.ta m.tn m.tc) 163 ∧ Fx.Own w_ B 178 2 (.slice m.ta (m.tn) (m.tc)) m.tn (trX m.t) ∧ Rqs w_ B 6 m ∧ Fx.Blk w_ g1 14 (evY v) 54 ∧ Fx.Own w_ wt1.heap.size 27 1 (.slice a1 (K) (cap1)) K (Fx.rv .u64 (fun i => iterT m.t m.tn i v.node)) ∧ Fx.Own w_ B 50 56 (.slice m.s.na (m.s.nn) (m.s.nc)) m.s.nn (Fx.flat 56 (fun kq => ndY (m.id kq) (m.par kq) (Rk kq))) ∧ Below B w w_) (fun f _ => (K - (intOf (f 6)).toNat)) ⟨0, m.R, by omega, rfl, (by rfl), (by rfl), (by rfl), (by first | rfl | exact congrArg (Value.int .i64) (by omega)), m29, m31, m32, m33, m34, m35, hown, m30, b5⟩ ?_)))))))))))))
   rintro f1 w5 ⟨k, Rk, hk, hRk, h1, h2, h3, h4, m36, m37, m38, m39, m40, m41, m42, m43, b6⟩
   refine Fx.W.seq (Fx.W.seq (Fx.W.list (Fx.L.v (.int .i64 ((k : Int))) (x_move rfl h4) (Fx.L.v (.slice a1 (K) (cap1)) (x_move rfl h3) (Fx.L.v (.int .i64 ((K : Int))) (x_len rfl rfl rfl (by kernel_rfl)) ?_)))))
   by_cases c31 : (k : Int) < (K : Int)
   ·refine Fx.L.v (.bool true) (Fx.x_lssT rfl rfl rfl c31) (Fx.L.nil (Fx.seqN (Fx.W.cond (b := true) rfl (fun _ => Fx.W.skip (Fx.seqN (Fx.W.seq (Fx.W.block (Fx.W.seq ?_))))) (fun h => nomatch h))))
    obtain ⟨q, hq, eq0, _⟩ := node_at (m := m) (x := iterT m.t m.tn k v.node) (by rw [hTN]; exact hall1 k (by omega))
    have ex1 : idxT m.core v.node k = q := by show (firstI (fun i => decide (m.id i = iterT m.t m.tn k v.node)) m.s.nn).toNat = q; rw [eq0]; rfl
    refine Fx.W.list (Fx.L.v (.pointer (some ⟨p, 0, none⟩)) (x_move rfl h1) (Fx.L.v (.slice a1 (K) (cap1)) (x_move rfl h3) (Fx.L.v (.int .i64 ((k : Int))) (x_move rfl h4) ?_)))
    obtain ⟨gq1, eq1⟩ := m42.addr (by omega)
    have m44 : Fx.Own w5 wt1.heap.size 27 1 (.slice (some ⟨gq1, 0, none⟩) K cap1) K (Fx.rv .u64 (fun i => iterT m.t m.tn i v.node)) := m42.congV (congrArg (fun q => Value.slice q K cap1) eq1)
    refine Fx.L.v (.pointer (some ⟨gq1, k, none⟩)) (x_indexS rfl (rfl.trans (congrArg (fun q => Value.slice q (K) (cap1)) eq1)) rfl Try.underlying68 (s := 1) (by kernel_rfl) (by omega) (by omega) (by omega)) (Fx.L.v (.int .u64 (iterT m.t m.tn k v.node)) (x_load1 (x := Fx.rv .u64 (fun i => iterT m.t m.tn i v.node)) rfl rfl (by kernel_rfl) m44.cel (i := k) (by omega) (by omega) rfl) ?_)
    have m45 : Fx.Own w5 wt1.heap.size 27 1 (.slice a1 (K) (cap1)) K (Fx.rv .u64 (fun i => iterT m.t m.tn i v.node)) := m44.congV (congrArg (fun q => Value.slice q K cap1) eq1.symm)
    have hld2 : Ldg w5 p { m with R := Rk } := { c := m36.cel, an := m43.arr, ag := m37.arr, tc := m38.cel, at2 := m39.arr, ar := fun i hi => (m40.1 i hi).arr, bn := (by show m.s.nn ≤ 1000000; omega), bg := bg, bt := (by show m.tn ≤ 1000000; omega), br := hL.br }
    refine Fx.L.call (by rfl) (Fx.r_call (args := [.pointer (some ⟨p, 0, none⟩), .int .u64 (iterT m.t m.tn k v.node)]) rfl rfl Try.func121 rfl rfl) rfl (((l_node { m with R := Rk } p (iterT m.t m.tn k v.node) _ hld2).mono (fun e w2 h2 => (⟨h2.1.trans (congrArg (fun z => Ending.returned (Value.int .i64 z)) eq0), h2.2⟩ : e = .returned (.int .i64 (q : Int)) ∧ _))).mono ?_)
    rintro e w6 ⟨he, hb4⟩
    refine ⟨.int .i64 ((q : Int)), by rw [he], ?_⟩
    clear he
    have s6 := Fx.Stp.of_below hb4
    have m46 := m36.stp s6 (Nat.ne_of_lt (m36.lt))
    have m47 := m37.stp s6 (m37.notNew (Nat.le_refl _))
    have m48 := m38.stp s6 (Nat.ne_of_lt (m38.lt))
    have m49 := m39.stp s6 (m39.notNew (Nat.le_refl _))
    have m50 := m40.up s6.old
    have m51 := m41.stp s6 (Nat.ne_of_lt (m41.lt))
    have m52 := m43.stp s6 (m43.notNew (Nat.le_refl _))
    have m53 := m45.stp s6 (m45.notNew (Nat.le_refl _))
    have b7 := s6.below b6 (Nat.le_trans hB b6.size) (Nat.le_trans hB b6.size)
    refine Fx.L.v (.int .i64 ((q : Int))) (x_assign rfl rfl) (Fx.L.nil (Fx.seqN (Fx.W.seq ?_)))
    -- region 10 draws
    obtain ⟨gq2, eq2⟩ := m52.addr (by omega)
    have m54 : Fx.Own w6 B 50 56 (.slice (some ⟨gq2, 0, none⟩) m.s.nn m.s.nc) m.s.nn (Fx.flat 56 (fun kq => ndY (m.id kq) (m.par kq) (Rk kq))) := m52.congV (congrArg (fun q => Value.slice q m.s.nn m.s.nc) eq2)
    refine Fx.W.one (T := 48) (T' := 48) (a := .tmp 8) (v := .tmp 55) (m := 54) (z := Fx.rv .i64 (fun _ => 0)) (y := Fx.rv .i64 ((takeM (Rk q) v.o v.amt).1)) (u := .agg (Fx.varr 54 (Fx.rv .i64 ((takeM (Rk q) v.o v.amt).1)))) 17 18 (List.replicate 20 (0, 2, [], [])) #[.pointer (some ⟨p, 0, none⟩), .pointer (some ⟨p, 0, none⟩), .pointer (some ⟨p, 0, none⟩), .pointer (some ⟨p, 18, none⟩), .slice m.s.na (m.s.nn) (m.s.nc), .int .i64 ((q : Int)), .pointer (some ⟨gq2, 56 * q, none⟩), .pointer (some ⟨gq2, 56 * q + 2, none⟩), .agg (Fx.varr 54 (Fx.rv .i64 (Rk q))), .pointer (some ⟨g1, 0, none⟩), .int .i64 (v.o), .pointer (some ⟨g1, 11, none⟩), .int .i64 (v.amt), .tuple #[.agg (Fx.varr 54 (Fx.rv .i64 ((takeM (Rk q) v.o v.amt).1))), .int .i64 ((takeM (Rk q) v.o v.amt).2)], .tuple #[.agg (Fx.varr 54 (Fx.rv .i64 ((takeM (Rk q) v.o v.amt).1))), .int .i64 ((takeM (Rk q) v.o v.amt).2)], .agg (Fx.varr 54 (Fx.rv .i64 ((takeM (Rk q) v.o v.amt).1))), .int .i64 ((takeM (Rk q) v.o v.amt).2), undef, undef, .int .i64 ((takeM (Rk q) v.o v.amt).2)] (by kernel_rfl) (by kernel_rfl) (by kernel_rfl) (by kernel_rfl) (by kernel_rfl) (by kernel_rfl) rfl (by kernel_rfl) rfl rfl (by kernel_rfl) (fun g2 => (show Fx.ev _ (.tmp 8) = .pointer (some ⟨g2, 0, none⟩) from by kernel_rfl)) (fun g2 => (show Fx.ev _ (.tmp 55) = .agg (Fx.varr 54 (Fx.rv .i64 ((takeM (Rk q) v.o v.amt).1))) from by kernel_rfl)) (Fx.cells_agg _ _) (fun _ _ => rfl) (by kernel_rfl) (fun g2 => ?_) ?_
    ·refine ⟨?_, ?_, ?_, ?_, ?_, ?_, ?_, ?_, ?_, ?_, ?_, ?_, ?_, ?_, ?_, ?_, ?_, ?_, ?_, ?_, trivial⟩
     ·exact .inr (.inr (Fx.qb_yes (v := .pointer (some ⟨p, 0, none⟩)) (by kernel_rfl) (by kernel_rfl) (Fx.qbV fun v1 hv1 => x_move rfl ((Fx.fOne_out (by kernel_rfl)).trans h1))))
     ·exact .inr (.inr (Fx.qb_yes (v := .pointer (some ⟨p, 0, none⟩)) (by kernel_rfl) (by kernel_rfl) (Fx.qbV fun v1 hv1 => x_nil rfl (show Fx.ev _ (.tmp 41) = .pointer (some ⟨p, 0, none⟩) from by kernel_rfl))))
     ·exact .inr (.inr (Fx.qb_yes (v := .pointer (some ⟨p, 0, none⟩)) (by kernel_rfl) (by kernel_rfl) (Fx.qbV fun v1 hv1 => x_field rfl (show Fx.ev _ (.tmp 42) = .pointer (some ⟨p, 0, none⟩) from by kernel_rfl) Try.underlying71 rfl (s := 20) (by kernel_rfl) rfl rfl)))
     ·exact .inr (.inr (Fx.qb_yes (v := .pointer (some ⟨p, 18, none⟩)) (by kernel_rfl) (by kernel_rfl) (Fx.qbV fun v1 hv1 => x_field rfl (show Fx.ev _ (.tmp 43) = .pointer (some ⟨p, 0, none⟩) from by kernel_rfl) Try.underlying43 rfl (s := 1) (by kernel_rfl) rfl (by show _ + 18 = _; omega))))
     ·exact .inr (.inr (Fx.qb_yes (v := .slice m.s.na (m.s.nn) (m.s.nc)) (by kernel_rfl) (by kernel_rfl) (Fx.qbV fun v1 hv1 => x_load1 (x := ldY m) rfl (show Fx.ev _ (.tmp 44) = .pointer (some ⟨p, 18, none⟩) from by kernel_rfl) (by kernel_rfl) (m46.cel.below hv1 (by have := m46.lt; omega)) (i := 18) (by omega) (by omega) rfl)))
     ·exact .inr (.inr (Fx.qb_yes (v := .int .i64 ((q : Int))) (by kernel_rfl) (by kernel_rfl) (Fx.qbV fun v1 hv1 => x_move rfl (show Fx.ev _ (.tmp 7) = .int .i64 ((q : Int)) from by kernel_rfl))))
     ·exact .inr (.inr (Fx.qb_yes (v := .pointer (some ⟨gq2, 56 * q, none⟩)) (by kernel_rfl) (by kernel_rfl) (Fx.qbV fun v1 hv1 => x_indexS rfl ((show Fx.ev _ (.tmp 45) = .slice m.s.na (m.s.nn) (m.s.nc) from by kernel_rfl).trans (congrArg (fun q => Value.slice q (m.s.nn) (m.s.nc)) eq2)) (show Fx.ev _ (.tmp 46) = .int .i64 ((q : Int)) from by kernel_rfl) Try.underlying40 (s := 56) (by kernel_rfl) (by omega) (by omega) (by omega))))
     ·exact .inr (.inr (Fx.qb_yes (v := .pointer (some ⟨gq2, 56 * q + 2, none⟩)) (by kernel_rfl) (by kernel_rfl) (Fx.qbV fun v1 hv1 => x_field rfl (show Fx.ev _ (.tmp 47) = .pointer (some ⟨gq2, 56 * q, none⟩) from by kernel_rfl) Try.underlying50 rfl (s := 54) (by kernel_rfl) rfl (by show _ + 2 = _; omega))))
     ·exact .inr (.inr (Fx.qb_yes (v := .agg (Fx.varr 54 (Fx.rv .i64 (Rk q)))) (by kernel_rfl) (by kernel_rfl) (Fx.qbV fun v1 hv1 => x_loadA (x := Fx.flat 56 (fun kq => ndY (m.id kq) (m.par kq) (Rk kq))) (y := Fx.rv .i64 (Rk q)) rfl (show Fx.ev _ (.tmp 48) = .pointer (some ⟨gq2, 56 * q + 2, none⟩) from by kernel_rfl) (by kernel_rfl) (by kernel_rfl) (m54.cel.below hv1 (by have := m54.lt; omega)) (i := 56 * q + 2) (by omega) (by omega) (fun jq hjq => (Fx.flat_at (k := q) (j := 2 + jq) (by omega) (by omega)).trans ((fun jq _ => ndY_row _ _ _ jq) jq hjq)))))
     ·exact .inr (.inr (Fx.qb_yes (v := .pointer (some ⟨g1, 0, none⟩)) (by kernel_rfl) (by kernel_rfl) (Fx.qbV fun v1 hv1 => x_field rfl ((Fx.fOne_out (by kernel_rfl)).trans h2) Try.underlying54 rfl (s := 1) (by kernel_rfl) rfl rfl)))
     ·exact .inr (.inr (Fx.qb_yes (v := .int .i64 (v.o)) (by kernel_rfl) (by kernel_rfl) (Fx.qbV fun v1 hv1 => x_load1 (x := evY v) rfl (show Fx.ev _ (.tmp 50) = .pointer (some ⟨g1, 0, none⟩) from by kernel_rfl) (by kernel_rfl) (m51.cel.below hv1 (by have := m51.lt; omega)) (i := 0) (by omega) (by omega) rfl)))
     ·exact .inr (.inr (Fx.qb_yes (v := .pointer (some ⟨g1, 11, none⟩)) (by kernel_rfl) (by kernel_rfl) (Fx.qbV fun v1 hv1 => x_field rfl ((Fx.fOne_out (by kernel_rfl)).trans h2) Try.underlying54 rfl (s := 1) (by kernel_rfl) rfl (by show _ + 11 = _; omega))))
     ·exact .inr (.inr (Fx.qb_yes (v := .int .i64 (v.amt)) (by kernel_rfl) (by kernel_rfl) (Fx.qbV fun v1 hv1 => x_load1 (x := evY v) rfl (show Fx.ev _ (.tmp 52) = .pointer (some ⟨g1, 11, none⟩) from by kernel_rfl) (by kernel_rfl) (m51.cel.below hv1 (by have := m51.lt; omega)) (i := 11) (by omega) (by omega) rfl)))
     ·exact .inr (.inr (Fx.qb_yes (v := .tuple #[.agg (Fx.varr 54 (Fx.rv .i64 ((takeM (Rk q) v.o v.amt).1))), .int .i64 ((takeM (Rk q) v.o v.amt).2)]) (by kernel_rfl) (by kernel_rfl) (Fx.qbC (fun v1 hv1 => Fx.r_call (args := [.agg (Fx.varr 54 (Fx.rv .i64 (Rk q))), .int .i64 (v.o), .int .i64 (v.amt)]) rfl (Fx.args3 (show Fx.ev _ (.tmp 49) = .agg (Fx.varr 54 (Fx.rv .i64 (Rk q))) from by kernel_rfl) (show Fx.ev _ (.tmp 51) = .int .i64 (v.o) from by kernel_rfl) (show Fx.ev _ (.tmp 53) = .int .i64 (v.amt) from by kernel_rfl)) Try.func93 rfl rfl) (fun v1 hv1 => (f7_take (Rk q) v.o v.amt _).mono fun e v2 h => ⟨h.1, h.2⟩))))
     ·exact .inr (.inr (Fx.qb_yes (v := .tuple #[.agg (Fx.varr 54 (Fx.rv .i64 ((takeM (Rk q) v.o v.amt).1))), .int .i64 ((takeM (Rk q) v.o v.amt).2)]) (by kernel_rfl) (by kernel_rfl) (Fx.qbV fun v1 hv1 => x_move rfl (show Fx.ev _ (.tmp 54) = .tuple #[.agg (Fx.varr 54 (Fx.rv .i64 ((takeM (Rk q) v.o v.amt).1))), .int .i64 ((takeM (Rk q) v.o v.amt).2)] from by kernel_rfl))))
     ·exact .inr (.inr (Fx.qb_yes (v := .agg (Fx.varr 54 (Fx.rv .i64 ((takeM (Rk q) v.o v.amt).1)))) (by kernel_rfl) (by kernel_rfl) (Fx.qbV fun v1 hv1 => Fx.x_extract rfl (show Fx.ev _ (.tmp 40) = .tuple #[.agg (Fx.varr 54 (Fx.rv .i64 ((takeM (Rk q) v.o v.amt).1))), .int .i64 ((takeM (Rk q) v.o v.amt).2)] from by kernel_rfl) rfl)))
     ·exact .inr (.inr (Fx.qb_yes (v := .int .i64 ((takeM (Rk q) v.o v.amt).2)) (by kernel_rfl) (by kernel_rfl) (Fx.qbV fun v1 hv1 => Fx.x_extract rfl (show Fx.ev _ (.tmp 40) = .tuple #[.agg (Fx.varr 54 (Fx.rv .i64 ((takeM (Rk q) v.o v.amt).1))), .int .i64 ((takeM (Rk q) v.o v.amt).2)] from by kernel_rfl) rfl)))
     ·exact .inl rfl
     ·exact .inr (.inl rfl)
     ·exact .inr (.inr (Fx.qb_yes (v := .int .i64 ((takeM (Rk q) v.o v.amt).2)) (by kernel_rfl) (by kernel_rfl) (Fx.qbV fun v1 hv1 => x_assign rfl (show Fx.ev _ (.tmp 56) = .int .i64 ((takeM (Rk q) v.o v.amt).2) from by kernel_rfl))))
    ·rintro g2 w7 f2 hf1 lg2 m55 hb5
     have s7 := Fx.Stp.of_below hb5
     have ng2m46 : p ≠ g2 := Nat.ne_of_lt (Nat.lt_of_lt_of_le (m46.lt) lg2)
     have ng2m48 : m.tb ≠ g2 := Nat.ne_of_lt (Nat.lt_of_lt_of_le (m48.lt) lg2)
     have ng2m51 : g1 ≠ g2 := Nat.ne_of_lt (Nat.lt_of_lt_of_le (m51.lt) lg2)
     have ng2m54 : gq2 ≠ g2 := Nat.ne_of_lt (Nat.lt_of_lt_of_le (m54.lt) lg2)
     have m56 := m46.stp s7 (Nat.ne_of_lt (m46.lt))
     have m57 := m47.stp s7 (m47.notNew (Nat.le_refl _))
     have m58 := m48.stp s7 (Nat.ne_of_lt (m48.lt))
     have m59 := m49.stp s7 (m49.notNew (Nat.le_refl _))
     have m60 := m50.up s7.old
     have m61 := m51.stp s7 (Nat.ne_of_lt (m51.lt))
     have m62 := m53.stp s7 (m53.notNew (Nat.le_refl _))
     have m63 := m54.stpB s7 (Nat.ne_of_lt (m54.lt))
     have b8 := s7.below b7 (Nat.le_trans hB b7.size) (Nat.le_trans hB b7.size)
     have lg2 : w.heap.size ≤ g2 := Nat.le_trans b7.size lg2
     have tg2 : g2 < w7.heap.size := m55.lt
     have q1 : f2 0 = .pointer (some ⟨p, 0, none⟩) := by rw [hf1]; exact (Fx.fOne_out (by kernel_rfl)).trans h1
     have q2 : f2 3 = .pointer (some ⟨g1, 0, none⟩) := by rw [hf1]; exact (Fx.fOne_out (by kernel_rfl)).trans h2
     have q3 : f2 5 = .slice a1 (K) (cap1) := by rw [hf1]; exact (Fx.fOne_out (by kernel_rfl)).trans h3
     have q4 : f2 6 = .int .i64 ((k : Int)) := by rw [hf1]; exact (Fx.fOne_out (by kernel_rfl)).trans h4
     have q5 : f2 28 = .int .i64 ((k : Int)) := by rw [hf1]; kernel_rfl
     have q6 : f2 29 = .slice a1 (K) (cap1) := by rw [hf1]; kernel_rfl
     have q7 : f2 30 = .int .i64 ((K : Int)) := by rw [hf1]; kernel_rfl
     have q8 : f2 31 = .bool true := by rw [hf1]; kernel_rfl
     have q9 : f2 34 = .pointer (some ⟨p, 0, none⟩) := by rw [hf1]; kernel_rfl
     have q10 : f2 35 = .slice a1 (K) (cap1) := by rw [hf1]; kernel_rfl
     have q11 : f2 36 = .int .i64 ((k : Int)) := by rw [hf1]; kernel_rfl
     have q12 : f2 37 = .pointer (some ⟨gq1, k, none⟩) := by rw [hf1]; kernel_rfl
     have q13 : f2 38 = .int .u64 (iterT m.t m.tn k v.node) := by rw [hf1]; kernel_rfl
     have q14 : f2 39 = .int .i64 ((q : Int)) := by rw [hf1]; kernel_rfl
     have q15 : f2 7 = .int .i64 ((q : Int)) := by rw [hf1]; kernel_rfl
     have q16 : f2 41 = .pointer (some ⟨p, 0, none⟩) := by rw [hf1]; kernel_rfl
     have q17 : f2 42 = .pointer (some ⟨p, 0, none⟩) := by rw [hf1]; kernel_rfl
     have q18 : f2 43 = .pointer (some ⟨p, 0, none⟩) := by rw [hf1]; kernel_rfl
     have q19 : f2 44 = .pointer (some ⟨p, 18, none⟩) := by rw [hf1]; kernel_rfl
     have q20 : f2 45 = .slice m.s.na (m.s.nn) (m.s.nc) := by rw [hf1]; kernel_rfl
     have q21 : f2 46 = .int .i64 ((q : Int)) := by rw [hf1]; kernel_rfl
     have q22 : f2 47 = .pointer (some ⟨gq2, 56 * q, none⟩) := by rw [hf1]; kernel_rfl
     have q23 : f2 48 = .pointer (some ⟨gq2, 56 * q + 2, none⟩) := by rw [hf1]; kernel_rfl
     have q24 : f2 49 = .agg (Fx.varr 54 (Fx.rv .i64 (Rk q))) := by rw [hf1]; kernel_rfl
     have q25 : f2 50 = .pointer (some ⟨g1, 0, none⟩) := by rw [hf1]; kernel_rfl
     have q26 : f2 51 = .int .i64 (v.o) := by rw [hf1]; kernel_rfl
     have q27 : f2 52 = .pointer (some ⟨g1, 11, none⟩) := by rw [hf1]; kernel_rfl
     have q28 : f2 53 = .int .i64 (v.amt) := by rw [hf1]; kernel_rfl
     have q29 : f2 54 = .tuple #[.agg (Fx.varr 54 (Fx.rv .i64 ((takeM (Rk q) v.o v.amt).1))), .int .i64 ((takeM (Rk q) v.o v.amt).2)] := by rw [hf1]; kernel_rfl
     have q30 : f2 40 = .tuple #[.agg (Fx.varr 54 (Fx.rv .i64 ((takeM (Rk q) v.o v.amt).1))), .int .i64 ((takeM (Rk q) v.o v.amt).2)] := by rw [hf1]; kernel_rfl
     have q31 : f2 55 = .agg (Fx.varr 54 (Fx.rv .i64 ((takeM (Rk q) v.o v.amt).1))) := by rw [hf1]; kernel_rfl
     have q32 : f2 56 = .int .i64 ((takeM (Rk q) v.o v.amt).2) := by rw [hf1]; kernel_rfl
     have q33 : f2 8 = .pointer (some ⟨g2, 0, none⟩) := by rw [hf1]; kernel_rfl
     have q34 : f2 9 = .int .i64 ((takeM (Rk q) v.o v.amt).2) := by rw [hf1]; kernel_rfl
     clear hf1
     refine Fx.seqN (Fx.W.seq (Fx.W.seq (Fx.W.list (Fx.L.v (.int .i64 ((takeM (Rk q) v.o v.amt).2)) (x_move rfl q34) ?_))))
     by_cases c58 : ((takeM (Rk q) v.o v.amt).2) = 0
     ·refine Fx.L.v (.bool false) (Fx.x_neqF rfl rfl rfl c58) (Fx.L.nil (Fx.seqN (Fx.W.cond (b := false) rfl (fun h => nomatch h) (fun _ => Fx.W.skip (Fx.seqN ?_)))))
      -- region 13 draws
      refine Fx.W.reord [0, 1, 2, 3, 5, 4, 6, 7, 8, 9] [0, 0, 0, 0, 4, 0, 4, 0, 0, 3] Fx.Mk Fx.Mk.refl Fx.Mk.trans (certs := [(9, 4, [4]), (9, 6, [6])]) (by kernel_rfl) (by kernel_rfl) (by kernel_rfl) (by kernel_rfl) (by kernel_rfl) fun wt2 hbwt2 hzwt2 => ?_
      have s8 : Fx.Stp w7.heap.size w7 wt2 := Fx.Stp.of_below hbwt2
      have m64 := m56.stp s8 (Nat.ne_of_lt (m56.lt))
      have m65 := m57.stp s8 (m57.notNew (Nat.le_refl _))
      have m66 := m58.stp s8 (Nat.ne_of_lt (m58.lt))
      have m67 := m59.stp s8 (m59.notNew (Nat.le_refl _))
      have m68 := m60.up s8.old
      have m69 := m61.stp s8 (Nat.ne_of_lt (m61.lt))
      have m70 := m62.stp s8 (m62.notNew (Nat.le_refl _))
      have m71 := m63.stpB s8 (Nat.ne_of_lt (m63.lt))
      have m72 := m55.stp s8 (Nat.ne_of_lt (m55.lt))
      have b9 := s8.below b8 (Nat.le_trans hB b8.size) (Nat.le_trans hB b8.size)
      refine Fx.R.p (.pointer (some ⟨p, 0, none⟩)) (fun v1 => x_move rfl q1) (Fx.R.p (.pointer (some ⟨p, 0, none⟩)) (fun v1 => x_nil rfl rfl) (Fx.R.p (.pointer (some ⟨p, 0, none⟩)) (fun v1 => x_field rfl rfl Try.underlying71 rfl (s := 20) (by kernel_rfl) rfl rfl) (Fx.R.p (.pointer (some ⟨p, 18, none⟩)) (fun v1 => x_field rfl rfl Try.underlying43 rfl (s := 1) (by kernel_rfl) rfl (by show _ + 18 = _; omega)) (Fx.R.p (.int .i64 ((q : Int))) (fun v1 => x_move rfl q15) (Fx.R.s (.slice m.s.na (m.s.nn) (m.s.nc)) (x_load1 (x := ldY m) rfl rfl (by kernel_rfl) m64.cel (i := 18) (by omega) (by omega) rfl) ?_)))))
      refine Fx.R.s (.agg (Fx.varr 54 (Fx.rv .i64 ((takeM (Rk q) v.o v.amt).1)))) (x_loadA (x := Fx.rv .i64 ((takeM (Rk q) v.o v.amt).1)) (y := Fx.rv .i64 ((takeM (Rk q) v.o v.amt).1)) rfl q33 (by kernel_rfl) (by kernel_rfl) m72.cel (i := 0) (by omega) (by omega) (fun j _ => by rw [Nat.zero_add])) ?_
      refine Fx.R.p (.pointer (some ⟨gq2, 56 * q, none⟩)) (fun v1 => x_indexS rfl (rfl.trans (congrArg (fun q => Value.slice q (m.s.nn) (m.s.nc)) eq2)) rfl Try.underlying40 (s := 56) (by kernel_rfl) (by omega) (by omega) (by omega)) (Fx.R.p (.pointer (some ⟨gq2, 56 * q + 2, none⟩)) (fun v1 => x_field rfl rfl Try.underlying50 rfl (s := 54) (by kernel_rfl) rfl (by show _ + 2 = _; omega)) (Fx.R.eff (by rfl) ?_))
      refine Fx.L.ownA (x := Fx.flat 56 (fun kq => ndY (m.id kq) (m.par kq) (Rk kq))) (y := Fx.rv .i64 ((takeM (Rk q) v.o v.amt).1)) (by rfl) rfl rfl rfl rfl (fun _ _ => rfl) (by kernel_rfl) m71 (i := 56 * q + 2) (by omega) fun w8 m73 s9 z2 => ?_
      have hct1 := Fx.ChT.of_stp s9 m71.tyB
      have m74 := m64.chT hct1 (by decide)
      have m75 := m65.chT hct1 (by decide)
      have m76 := m66.chT hct1 (by decide)
      have m77 := m67.chT hct1 (by decide)
      have m78 := m68.chT hct1 (by decide)
      have m79 := m69.chT hct1 (by decide)
      have m80 := m70.chT hct1 (by decide)
      have b10 := s9.below b9 (Nat.le_trans hB b9.size) m71.blk.1
      have m82 : Fx.Own w8 B 50 56 (.slice (some ⟨gq2, 0, none⟩) m.s.nn m.s.nc) m.s.nn (Fx.flat 56 (fun kq => ndY (m.id kq) (m.par kq) (updA Rk q ((takeM (Rk q) v.o v.amt).1) kq))) := m73.congr (fun pq hp => (Fx.ovrS_flat (k := q) (j := 2) (by omega) (by omega) pq hp).trans (Fx.flat_cong (fun i hi j hj => ndR_store i hi j hj) pq hp))
      refine Fx.L.nil (Fx.R.nil (Fx.blkN (Fx.seqN (Fx.W.list (Fx.L.v (.int .i64 ((k : Int))) (x_move rfl q4) (Fx.L.v (.int .i64 ((k : Int) + 1)) (Fx.x_add rfl rfl rfl (Fx.i64e (by omega) (by omega))) (Fx.L.v (.int .i64 ((k : Int) + 1)) (x_assign rfl rfl) (Fx.L.nil ?_))))))))
      have m83 : Fx.Own w8 B 50 56 (.slice m.s.na (m.s.nn) (m.s.nc)) m.s.nn (Fx.flat 56 (fun kq => ndY (m.id kq) (m.par kq) (updA Rk q ((takeM (Rk q) v.o v.amt).1) kq))) := m82.congV (congrArg (fun q => Value.slice q m.s.nn m.s.nc) eq2.symm)
      refine Fx.lpN ⟨k + 1, (updA Rk q (takeM (Rk q) v.o v.amt).1), by omega, (walkR_step hRk ex1 (by first | exact c58 | exact Classical.not_not.1 c58)), q1, q2, q3, (by first | rfl | exact congrArg (Value.int .i64) (by omega)), m74, m75, m76, m77, m78, m79, m80, m83, b10⟩ ?_
      show (K - (intOf ((.int .i64 ((k : Int) + 1)))).toNat) < _
      simp only [h4, intOf]; omega
     ·refine Fx.L.v (.bool true) (Fx.x_neqT rfl rfl rfl c58) (Fx.L.nil (Fx.seqN (Fx.W.cond (b := true) rfl (fun _ => Fx.W.seq (Fx.W.list (Fx.L.v (.int .i64 ((takeM (Rk q) v.o v.amt).2)) (x_move rfl q34) ?_))) (fun h => nomatch h))))
      refine Fx.L.v (.int .i64 ((takeM (Rk q) v.o v.amt).2)) (x_assign rfl rfl) (Fx.L.nil (Fx.seqN (Fx.W.ret (Fx.seqR (Fx.blkR (Fx.seqR (Fx.lpR (Fx.blkR (Fx.seqR (⟨.int .i64 ((takeM (Rk q) v.o v.amt).2), Fx.retV1 Try.results122 (by exact rfl), ?_⟩))))))))))
      have eN : regN v = a := by unfold regN; omega
      have ne1 : ¬ 0 ≤ m.core.askedN (regN v) v.req := by rw [eN]; exact of_decide_eq_false c17
      have ne2 : ¬ pathK m.core.t m.core.tn v.node = 0 := fun e => c27 (by rw [show K = 0 from hKp.trans e]; rfl)
      have ew : takesW m.core v = walkR (fun x => takeM x v.o v.amt) (idxT m.core v.node) m.R K := by unfold takesW; rw [show pathK m.core.t m.core.tn v.node = K from hKp.symm]; rfl
      have ee : takesE m.core v = (takeM (Rk q) v.o v.amt).2 := by
       unfold takesE; rw [if_neg ne1, if_neg ne2, ew]
       have e1 := walkR_err hRk ex1 c58
       rw [walkR_stop (k := k + 1) (by rw [e1]; exact c58) K (by omega)]; exact e1
      exact ⟨congrArg (fun q => Ending.returned (Value.int .i64 q)) ee.symm, b8, fun h0 => absurd (ee.symm.trans h0) c58⟩
   ·refine Fx.L.v (.bool false) (Fx.x_lssF rfl rfl rfl c31) (Fx.L.nil (Fx.seqN (Fx.W.cond (b := false) rfl (fun h => nomatch h) (fun _ => Fx.W.exit (Fx.seqX (Fx.lpX (Fx.blkX (Fx.seqN (Fx.W.seq ?_)))))))))
    have hRK : walkR (fun x => takeM x v.o v.amt) (idxT m.core v.node) m.R K = (Rk, 0) := by rw [show K = k by omega]; exact hRk
    refine Fx.W.list (Fx.L.v (.pointer (some ⟨g1, 0, none⟩)) (x_field rfl h2 Try.underlying54 rfl (s := 1) (by kernel_rfl) rfl rfl) (Fx.L.v (.int .i64 (v.o)) (x_load1 (x := evY v) rfl rfl (by kernel_rfl) m41.cel (i := 0) (by omega) (by omega) rfl) (Fx.L.v (.pointer (some ⟨g1, 12, none⟩)) (x_field rfl h2 Try.underlying54 rfl (s := 1) (by kernel_rfl) rfl (by show _ + 12 = _; omega)) (Fx.L.v (.int .u64 (v.req)) (x_load1 (x := evY v) rfl rfl (by kernel_rfl) m41.cel (i := 12) (by omega) (by omega) rfl) (Fx.L.v (.pointer (some ⟨g1, 9, none⟩)) (x_field rfl h2 Try.underlying54 rfl (s := 1) (by kernel_rfl) rfl (by show _ + 9 = _; omega)) (Fx.L.v (.int .u64 (v.node)) (x_load1 (x := evY v) rfl rfl (by kernel_rfl) m41.cel (i := 9) (by omega) (by omega) rfl) (Fx.L.v (.pointer (some ⟨g1, 11, none⟩)) (x_field rfl h2 Try.underlying54 rfl (s := 1) (by kernel_rfl) rfl (by show _ + 11 = _; omega)) (Fx.L.v (.int .i64 (v.amt)) (x_load1 (x := evY v) rfl rfl (by kernel_rfl) m41.cel (i := 11) (by omega) (by omega) rfl) (Fx.L.v (.agg (Fx.varr 5 (Fx.ovr (Fx.ovr (Fx.ovr (Fx.ovr (fun zq => if zq < 1 then .int .i64 (0) else if zq < 3 then .int .u64 (0) else if zq < 4 then .int .i64 (0) else .int .u64 (0)) 0 1 (fun _ => .int .i64 (v.o))) 1 1 (fun _ => .int .u64 (v.req))) 2 1 (fun _ => .int .u64 (v.node))) 3 1 (fun _ => .int .i64 (v.amt))))) (x_build (vs := [(0, .int .i64 (v.o)), (1, .int .u64 (v.req)), (2, .int .u64 (v.node)), (3, .int .i64 (v.amt))]) (places := #[(0, 1), (1, 1), (2, 1), (3, 1), (4, 1)]) (m := 5) (x := fun zq => if zq < 1 then .int .i64 (0) else if zq < 3 then .int .u64 (0) else if zq < 4 then .int .i64 (0) else .int .u64 (0)) rfl rfl Try.underlying88 (by kernel_rfl) (by kernel_rfl) (by rw [Fx.fill_step (off := 0) (s := 1) (y := fun _ => .int .i64 (v.o)) (by kernel_rfl) (Fx.cells_one (by rfl)) (by rfl)]; rw [Fx.fill_step (off := 1) (s := 1) (y := fun _ => .int .u64 (v.req)) (by kernel_rfl) (Fx.cells_one (by rfl)) (by rfl)]; rw [Fx.fill_step (off := 2) (s := 1) (y := fun _ => .int .u64 (v.node)) (by kernel_rfl) (Fx.cells_one (by rfl)) (by rfl)]; rw [Fx.fill_step (off := 3) (s := 1) (y := fun _ => .int .i64 (v.amt)) (by kernel_rfl) (Fx.cells_one (by rfl)) (by rfl)]; rfl)) (Fx.L.new (m := 5) (y := fun zq => if zq < 1 then .int .i64 (0) else if zq < 3 then .int .u64 (0) else if zq < 4 then .int .i64 (0) else .int .u64 (0)) (by rfl) rfl (by kernel_rfl) rfl fun g3 w9 eg3 m84 s10 z3 => ?_))))))))))
    have m85 := m36.stp s10 (Nat.ne_of_lt (m36.lt))
    have m86 := m37.stp s10 (m37.notNew (Nat.le_refl _))
    have m87 := m38.stp s10 (Nat.ne_of_lt (m38.lt))
    have m88 := m39.stp s10 (m39.notNew (Nat.le_refl _))
    have m89 := m40.up s10.old
    have m90 := m41.stp s10 (Nat.ne_of_lt (m41.lt))
    have m92 := m43.stp s10 (m43.notNew (Nat.le_refl _))
    have b11 := s10.below b6 (Nat.le_trans hB b6.size) (Nat.le_trans hB b6.size)
    have lg3 : w.heap.size ≤ g3 := by rw [eg3]; exact b6.size
    have ng3m85 : p ≠ g3 := by rw [eg3]; exact Nat.ne_of_lt (m36.lt)
    have ng3m86 : (.slice m.s.ga (m.s.gn) (m.s.gc) : Value).ownBlock ≠ some g3 := by rw [eg3]; exact m37.notNew (Nat.le_refl _)
    have ng3m87 : m.tb ≠ g3 := by rw [eg3]; exact Nat.ne_of_lt (m38.lt)
    have ng3m90 : g1 ≠ g3 := by rw [eg3]; exact Nat.ne_of_lt (m41.lt)
    have tg3 : g3 < w9.heap.size := m84.lt
    clear eg3
    refine Fx.L.storeA (x := fun zq => if zq < 1 then .int .i64 (0) else if zq < 3 then .int .u64 (0) else if zq < 4 then .int .i64 (0) else .int .u64 (0)) (y := Fx.ovr (Fx.ovr (Fx.ovr (Fx.ovr (fun zq => if zq < 1 then .int .i64 (0) else if zq < 3 then .int .u64 (0) else if zq < 4 then .int .i64 (0) else .int .u64 (0)) 0 1 (fun _ => .int .i64 (v.o))) 1 1 (fun _ => .int .u64 (v.req))) 2 1 (fun _ => .int .u64 (v.node))) 3 1 (fun _ => .int .i64 (v.amt))) (by rfl) rfl rfl rfl rfl (Fx.ovr_ones (Fx.ovr_ones (Fx.ovr_ones (Fx.ovr_ones (fun jq _ => by show ((fun zq => if zq < 1 then .int .i64 (0) else if zq < 3 then .int .u64 (0) else if zq < 4 then .int .i64 (0) else .int .u64 (0) : Nat → Value) jq).oneCell' = true; simp only []; repeat (first | rfl | split)) (fun _ _ => rfl)) (fun _ _ => rfl)) (fun _ _ => rfl)) (fun _ _ => rfl)) (by kernel_rfl) m84 (i := 0) (by omega) fun w10 m93 s11 z4 => ?_
    have m94 : Fx.Blk w10 g3 5 (Fx.ovr (Fx.ovr (Fx.ovr (Fx.ovr (fun zq => if zq < 1 then .int .i64 (0) else if zq < 3 then .int .u64 (0) else if zq < 4 then .int .i64 (0) else .int .u64 (0)) 0 1 (fun _ => .int .i64 (v.o))) 1 1 (fun _ => .int .u64 (v.req))) 2 1 (fun _ => .int .u64 (v.node))) 3 1 (fun _ => .int .i64 (v.amt))) 88 := Fx.ovr_all m93
    have hct2 := Fx.ChT.of_stp s11 m84.ty
    have m95 := m85.chT hct2 (by decide)
    have m96 := m86.stp s11 ng3m86
    have m97 := m87.chT hct2 (by decide)
    have m98 := m88.chT hct2 (by decide)
    have m99 := m89.chT hct2 (by decide)
    have m100 := m90.chT hct2 (by decide)
    have m102 := m92.chT hct2 (by decide)
    have b12 := s11.below b11 (Nat.le_trans hB b11.size) (by omega)
    refine Fx.L.nil (Fx.seqN (Fx.W.seq ?_))
    have m103 : Fx.Blk w10 g3 5 (grY (grN v)) 88 := m94.congr (fun j hj => by rcases j with _|_|_|_|_|j <;> first | rfl | omega)
    refine Fx.W.list (Fx.L.v (.pointer (some ⟨p, 0, none⟩)) (x_move rfl h1) (Fx.L.v (.pointer (some ⟨p, 0, none⟩)) (x_nil rfl rfl) (Fx.L.v (.pointer (some ⟨p, 0, none⟩)) (x_field rfl rfl Try.underlying71 rfl (s := 20) (by kernel_rfl) rfl rfl) (Fx.L.v (.pointer (some ⟨p, 19, none⟩)) (x_field rfl rfl Try.underlying43 rfl (s := 1) (by kernel_rfl) rfl (by show _ + 19 = _; omega)) (Fx.L.v (.slice m.s.ga (m.s.gn) (m.s.gc)) (x_load1 (x := ldY m) rfl rfl (by kernel_rfl) m95.cel (i := 19) (by omega) (by omega) rfl) (Fx.L.v (.int .i64 ((m.s.gn : Int))) (x_len rfl rfl rfl (by kernel_rfl)) (Fx.L.v (.int .i64 ((m.s.gn : Int))) (x_assign rfl rfl) (Fx.L.nil (Fx.seqN (Fx.W.seq ?_))))))))))
    -- region 16 draws
    refine Fx.W.reord [0, 1, 2, 3, 4, 5, 6, 7, 8, 9, 10, 11, 12] [0, 0, 0, 0, 0, 1, 4, 2, 2, 0, 0, 0, 3] (Fx.ChT [88]) Fx.ChT.refl Fx.ChT.trans (certs := [(12, 5, [5]), (7, 6, [6]), (8, 6, [7, 6]), (12, 6, [6]), (8, 7, [7]), (9, 7, [7]), (10, 7, [7]), (11, 7, [7]), (12, 7, [7]), (9, 8, [8]), (10, 8, [8]), (11, 8, [8]), (12, 8, [8])]) (by kernel_rfl) (by kernel_rfl) (by kernel_rfl) (by kernel_rfl) (by kernel_rfl) fun wt3 hbwt3 hzwt3 => ?_
    have s12 : Fx.Stp w10.heap.size w10 wt3 := Fx.Stp.of_below hbwt3
    have m104 := m95.stp s12 (Nat.ne_of_lt (m95.lt))
    have m105 := m96.stp s12 (m96.notNew (Nat.le_refl _))
    have m106 := m97.stp s12 (Nat.ne_of_lt (m97.lt))
    have m107 := m98.stp s12 (m98.notNew (Nat.le_refl _))
    have m108 := m99.up s12.old
    have m109 := m100.stp s12 (Nat.ne_of_lt (m100.lt))
    have m110 := m102.stp s12 (m102.notNew (Nat.le_refl _))
    have m111 := m103.stp s12 (Nat.ne_of_lt (m103.lt))
    have b13 := s12.below b12 (Nat.le_trans hB b12.size) (Nat.le_trans hB b12.size)
    refine Fx.R.p (.pointer (some ⟨p, 0, none⟩)) (fun v1 => x_move rfl h1) (Fx.R.p (.pointer (some ⟨p, 0, none⟩)) (fun v1 => x_move rfl h1) (Fx.R.p (.pointer (some ⟨p, 0, none⟩)) (fun v1 => x_nil rfl rfl) (Fx.R.p (.pointer (some ⟨p, 0, none⟩)) (fun v1 => x_field rfl rfl Try.underlying71 rfl (s := 20) (by kernel_rfl) rfl rfl) (Fx.R.p (.pointer (some ⟨p, 19, none⟩)) (fun v1 => x_field rfl rfl Try.underlying43 rfl (s := 1) (by kernel_rfl) rfl (by show _ + 19 = _; omega)) (Fx.R.read (v := .slice m.s.ga (m.s.gn) (m.s.gc)) (by rfl) (by rfl) (Fx.ChT.refl _) (fun v1 hv1 => x_load1 (x := ldY m) rfl rfl (by kernel_rfl) (m104.chT hv1 (by decide)).cel (i := 19) (by omega) (by omega) rfl) ?_)))))
    refine Fx.R.s (.agg (Fx.varr 5 (grY (grN v)))) (x_loadA (x := grY (grN v)) (y := grY (grN v)) rfl rfl (by kernel_rfl) (by kernel_rfl) m111.cel (i := 0) (by omega) (by omega) (fun j _ => by rw [Nat.zero_add])) ?_
    refine Fx.R.make (by rfl) ?_
    refine Fx.L.bslice (vs := [(0, .agg (Fx.varr 5 (grY (grN v))))]) (s := 5) (zc := fun zq => if zq < 1 then .int .i64 (0) else if zq < 3 then .int .u64 (0) else if zq < 4 then .int .i64 (0) else .int .u64 (0)) (y := Fx.ovr (fun j => (fun zq => if zq < 1 then .int .i64 (0) else if zq < 3 then .int .u64 (0) else if zq < 4 then .int .i64 (0) else .int .u64 (0)) (j % 5)) (0 * 5) 5 (grY (grN v))) (by rfl) rfl rfl Try.underlying41 (by kernel_rfl) (by rfl) (by rfl) (by kernel_rfl) (by rw [Fx.fill_step (off := 0 * 5) (s := 5) (y := grY (grN v)) rfl (Fx.cells_agg _ _) (by rfl)]; rfl) rfl fun g4 w11 eg4 m112 s13 z5 => ?_
    have m113 := m104.stp s13 (Nat.ne_of_lt (m104.lt))
    have m114 := m105.stp s13 (m105.notNew (Nat.le_refl _))
    have m115 := m106.stp s13 (Nat.ne_of_lt (m106.lt))
    have m116 := m107.stp s13 (m107.notNew (Nat.le_refl _))
    have m117 := m108.up s13.old
    have m118 := m109.stp s13 (Nat.ne_of_lt (m109.lt))
    have m119 := m110.stp s13 (m110.notNew (Nat.le_refl _))
    have m120 := m111.stp s13 (Nat.ne_of_lt (m111.lt))
    have b14 := s13.below b13 (Nat.le_trans hB b13.size) (Nat.le_trans hB b13.size)
    have lg4 : w.heap.size ≤ g4 := by rw [eg4]; exact b13.size
    have ng4m113 : p ≠ g4 := by rw [eg4]; exact Nat.ne_of_lt (m104.lt)
    have ng4m114 : (.slice m.s.ga (m.s.gn) (m.s.gc) : Value).ownBlock ≠ some g4 := by rw [eg4]; exact m105.notNew (Nat.le_refl _)
    have ng4m115 : m.tb ≠ g4 := by rw [eg4]; exact Nat.ne_of_lt (m106.lt)
    have ng4m118 : g1 ≠ g4 := by rw [eg4]; exact Nat.ne_of_lt (m109.lt)
    have ng4m120 : g3 ≠ g4 := by rw [eg4]; exact Nat.ne_of_lt (m111.lt)
    have tg4 : g4 < w11.heap.size := m112.lt
    clear eg4
    refine Fx.L.nil ⟨Fx.ChT.of_below s13.old, ?_⟩
    refine Fx.R.make (by rfl) ?_
    refine Fx.L.app (B := B) (s := 5) (bytes := 40) (k := m.s.gn) (m := 1) (v := .slice m.s.ga (m.s.gn) (m.s.gc)) (x := grX m) (by rfl) rfl rfl rfl Try.underlying41 (by kernel_rfl) (by kernel_rfl) rfl rfl m114 m112.cel (ovr_one (grY_one _)) (by omega) (by omega) (by omega) (Nat.le_trans hB b14.size) fun g5 cap1 w12 ho1 hg1 hgv1 hlt1 => ?_
    have hct3 := Fx.ChT.of_grown hg1 m114
    have m122 := m113.chT hct3 (by decide)
    have m123 := m115.chT hct3 (by decide)
    have m124 := m116.chT hct3 (by decide)
    have m125 := m117.chT hct3 (by decide)
    have m126 := m118.chT hct3 (by decide)
    have m127 := m119.chT hct3 (by decide)
    have m128 := m120.grown hg1 ng3m86
    have ng5m128 : g3 ≠ g5 := fun e => hgv1.elim (fun e2 => ng3m86 (by rw [e]; exact e2)) (fun e2 => by have := m120.lt; omega)
    have m121 : Fx.Own w12 B 88 5 (.slice (some ⟨g5, 0, none⟩) (m.s.gn + 1) cap1) (m.s.gn + 1) (Fx.flat 5 (Fx.shF (fun kq => grY (m.g kq)) (grY (grN v)) m.s.gn m.s.gn)) := (ho1.congr (fun j hj => (Fx.app_flat j hj).trans (Fx.flat_cong (fun i hi q _ => Fx.sh_start i hi q) j hj)))
    have b15 : Below B w w12 := Fx.Below.grow b14 hg1 (Nat.le_trans hB b14.size) (fun q hq => (m114.ge hq).1)
    refine Fx.L.nil ⟨hct3, ?_⟩
    refine Fx.R.p (.pointer (some ⟨p, 0, none⟩)) (fun v1 => x_nil rfl rfl) (Fx.R.p (.pointer (some ⟨p, 0, none⟩)) (fun v1 => x_field rfl rfl Try.underlying71 rfl (s := 20) (by kernel_rfl) rfl rfl) (Fx.R.p (.pointer (some ⟨p, 19, none⟩)) (fun v1 => x_field rfl rfl Try.underlying43 rfl (s := 1) (by kernel_rfl) rfl (by show _ + 19 = _; omega)) (Fx.R.eff (by rfl) ?_)))
    refine Fx.L.store1 (x := ldY m) (u := .slice (some ⟨g5, 0, none⟩) (m.s.gn + 1) (cap1)) (by rfl) rfl rfl rfl rfl (by rfl) (by kernel_rfl) m122 (i := 19) (by omega) fun w13 m129 s14 z6 => ?_
    have hct4 := Fx.ChT.of_stp s14 m122.ty
    have m130 := m123.chT hct4 (by decide)
    have m131 := m124.chT hct4 (by decide)
    have m132 := m125.chT hct4 (by decide)
    have m133 := m126.chT hct4 (by decide)
    have m134 := m127.chT hct4 (by decide)
    have m135 := m128.chT hct4 (by decide)
    have m136 := m121.chT hct4 (by decide)
    have b16 := s14.below b15 (Nat.le_trans hB b15.size) (by omega)
    refine Fx.L.nil (Fx.R.nil (Fx.seqN (Fx.W.seqJ (fun f w_ => ∃ k : Nat, k ≤ m.s.gn ∧ k = Fx.down (fun i => gtG v (m.g i)) m.s.gn ∧ f 0 = .pointer (some ⟨p, 0, none⟩) ∧ f 3 = .pointer (some ⟨g1, 0, none⟩) ∧ f 10 = .pointer (some ⟨g3, 0, none⟩) ∧ f 11 = .int .i64 ((k : Int)) ∧ Fx.Blk w_ m.tb 1 (fun _ => .slice m.ta m.tn m.tc) 163 ∧ Fx.Own w_ B 178 2 (.slice m.ta (m.tn) (m.tc)) m.tn (trX m.t) ∧ Rqs w_ B 6 m ∧ Fx.Blk w_ g1 14 (evY v) 54 ∧ Fx.Own w_ B 50 56 (.slice m.s.na (m.s.nn) (m.s.nc)) m.s.nn (Fx.flat 56 (fun kq => ndY (m.id kq) (m.par kq) (Rk kq))) ∧ Fx.Blk w_ g3 5 (grY (grN v)) 88 ∧ Fx.Blk w_ p 27 (Fx.updV (ldY m) 19 (.slice (some ⟨g5, 0, none⟩) (m.s.gn + 1) (cap1))) 71 ∧ Fx.Own w_ B 88 5 (.slice (some ⟨g5, 0, none⟩) (m.s.gn + 1) cap1) (m.s.gn + 1) (Fx.flat 5 (Fx.shF (fun kq => grY (m.g kq)) (grY (grN v)) m.s.gn k)) ∧ Below B w w_) ?_ ?_)))
    ·refine Fx.W.block (Fx.W.loop (fun f w_ => ∃ k : Nat, k ≤ m.s.gn ∧ (∀ i, k ≤ i → i < m.s.gn → gtG v (m.g i) = true) ∧ f 0 = .pointer (some ⟨p, 0, none⟩) ∧ f 3 = .pointer (some ⟨g1, 0, none⟩) ∧ f 10 = .pointer (some ⟨g3, 0, none⟩) ∧ f 11 = .int .i64 ((k : Int)) ∧ Fx.Blk w_ m.tb 1 (fun _ => .slice m.ta m.tn m.tc) 163 ∧ Fx.Own w_ B 178 2 (.slice m.ta (m.tn) (m.tc)) m.tn (trX m.t) ∧ Rqs w_ B 6 m ∧ Fx.Blk w_ g1 14 (evY v) 54 ∧ Fx.Own w_ B 50 56 (.slice m.s.na (m.s.nn) (m.s.nc)) m.s.nn (Fx.flat 56 (fun kq => ndY (m.id kq) (m.par kq) (Rk kq))) ∧ Fx.Blk w_ g3 5 (grY (grN v)) 88 ∧ Fx.Blk w_ p 27 (Fx.updV (ldY m) 19 (.slice (some ⟨g5, 0, none⟩) (m.s.gn + 1) (cap1))) 71 ∧ Fx.Own w_ B 88 5 (.slice (some ⟨g5, 0, none⟩) (m.s.gn + 1) cap1) (m.s.gn + 1) (Fx.flat 5 (Fx.shF (fun kq => grY (m.g kq)) (grY (grN v)) m.s.gn k)) ∧ Below B w w_) (fun f _ => (intOf (f 11)).toNat) ⟨m.s.gn, by omega, (fun i h1 h2 => absurd h1 (by omega)), h1, h2, (by rfl), (by first | rfl | exact congrArg (Value.int .i64) (by omega)), m130, m131, m132, m133, m134, m135, m129, m136, b16⟩ ?_)
     rintro f3 w14 ⟨k, hk, hgt, h5, h6, h7, h8, m137, m138, m139, m140, m141, m142, m143, m144, b17⟩
     refine Fx.W.seq (Fx.W.seq ?_)
     -- region 17 draws
     refine Fx.W.quiet (fun v1 => ∃ q, v1 = World.drewN w14 q) (by kernel_rfl) (by kernel_rfl) ⟨1, rfl⟩ ?_
     refine Fx.Qt.v (.int .i64 ((k : Int))) (fun v1 hv1 => x_move rfl h8) ?_
     by_cases c97 : 0 < (k : Int)
     ·obtain ⟨j, ej⟩ : ∃ j, k = j + 1 := ⟨k - 1, by omega⟩
      refine Fx.Qt.v (.bool true) (fun v1 hv1 => Fx.x_gtrT rfl rfl rfl c97) (Fx.Qt.v (.bool true) (fun v1 hv1 => x_move rfl rfl) (Fx.Qt.v (.pointer (some ⟨p, 0, none⟩)) (fun v1 hv1 => x_move rfl h5) (Fx.Qt.v (.pointer (some ⟨p, 0, none⟩)) (fun v1 hv1 => x_nil rfl rfl) (Fx.Qt.v (.pointer (some ⟨p, 0, none⟩)) (fun v1 hv1 => x_field rfl rfl Try.underlying71 rfl (s := 20) (by kernel_rfl) rfl rfl) (Fx.Qt.v (.pointer (some ⟨p, 19, none⟩)) (fun v1 hv1 => x_field rfl rfl Try.underlying43 rfl (s := 1) (by kernel_rfl) rfl (by show _ + 19 = _; omega)) (Fx.Qt.v (.slice (some ⟨g5, 0, none⟩) (m.s.gn + 1) (cap1)) (fun v1 hv1 => x_load1 (x := Fx.updV (ldY m) 19 (.slice (some ⟨g5, 0, none⟩) (m.s.gn + 1) (cap1))) rfl rfl (by kernel_rfl) (by obtain ⟨qd, rfl⟩ := hv1; exact m143.cel) (i := 19) (by omega) (by omega) (Fx.updV_eq (by omega))) (Fx.Qt.v (.int .i64 ((k : Int))) (fun v1 hv1 => x_move rfl h8) (Fx.Qt.v (.int .i64 ((j : Int))) (fun v1 hv1 => Fx.x_sub rfl rfl rfl (Fx.i64e (by omega) (by omega))) (Fx.Qt.v (.pointer (some ⟨g5, 5 * j, none⟩)) (fun v1 hv1 => x_indexS rfl rfl rfl Try.underlying41 (s := 5) (by kernel_rfl) (by omega) (by omega) (by omega)) (Fx.Qt.v (.pointer (some ⟨g5, 5 * j, none⟩)) (fun v1 hv1 => x_field rfl rfl Try.underlying88 rfl (s := 1) (by kernel_rfl) rfl rfl) (Fx.Qt.v (.int .i64 ((m.g j) 0)) (fun v1 hv1 => x_load1 (x := Fx.flat 5 (Fx.shF (fun kq => grY (m.g kq)) (grY (grN v)) m.s.gn k)) rfl rfl (by kernel_rfl) (by obtain ⟨qd, rfl⟩ := hv1; exact m144.cel) (i := 5 * j) (by omega) (by omega) (Fx.flat_cell (k := j) (j := 0) (by omega) (by omega) ((congrFun (Fx.sh_at (by omega) (by omega)) 0).trans rfl))) (Fx.Qt.v (.pointer (some ⟨g3, 0, none⟩)) (fun v1 hv1 => x_field rfl h7 Try.underlying88 rfl (s := 1) (by kernel_rfl) rfl rfl) (Fx.Qt.v (.int .i64 (v.o)) (fun v1 hv1 => x_load1 (x := grY (grN v)) rfl rfl (by kernel_rfl) (by obtain ⟨qd, rfl⟩ := hv1; exact m142.cel) (i := 0) (by omega) (by omega) rfl) ?_)))))))))))))
      by_cases c111 : v.o < ((m.g j) 0)
      ·refine Fx.Qt.v (.bool true) (fun v1 hv1 => Fx.x_gtrT rfl rfl rfl c111) (Fx.Qt.v (.bool true) (fun v1 hv1 => x_move rfl rfl) (Fx.Qt.skip (by rfl) rfl (Fx.Qt.skip (by rfl) rfl (Fx.Qt.skip (by rfl) rfl (Fx.Qt.skip (by rfl) rfl (Fx.Qt.skip (by rfl) rfl (Fx.Qt.skip (by rfl) rfl (Fx.Qt.skip (by rfl) rfl (Fx.Qt.skip (by rfl) rfl (Fx.Qt.skip (by rfl) rfl (Fx.Qt.skip (by rfl) rfl (Fx.Qt.skip (by rfl) rfl (Fx.Qt.skip (by rfl) rfl (Fx.Qt.skip (by rfl) rfl (Fx.Qt.skip (by rfl) rfl (Fx.Qt.skip (by rfl) rfl (Fx.Qt.skip (by rfl) rfl (Fx.Qt.skip (by rfl) rfl (Fx.Qt.skip (by rfl) rfl (Fx.Qt.skip (by rfl) rfl (Fx.Qt.skip (by rfl) rfl (Fx.Qt.skip (by rfl) rfl (Fx.Qt.skip (by rfl) rfl (Fx.Qt.skip (by rfl) rfl ?_))))))))))))))))))))))))
       refine Fx.Qt.skip (by rfl) rfl (Fx.Qt.skip (by rfl) rfl (Fx.Qt.skip (by rfl) rfl (Fx.Qt.skip (by rfl) rfl (Fx.Qt.skip (by rfl) rfl (Fx.Qt.v (.bool true) (fun v1 hv1 => x_pickT rfl rfl rfl) (Fx.Qt.v (.bool true) (fun v1 hv1 => x_pickT rfl rfl rfl) (Fx.Qt.nil ?_)))))))
       rintro _ ⟨qd, rfl⟩
       obtain ⟨wq1, ewq1⟩ : ∃ v1, v1 = World.drewN w14 qd := ⟨_, rfl⟩
       rw [← ewq1]
       have s15 : Fx.Stp w14.heap.size w14 wq1 := by rw [ewq1]; exact Fx.Stp.of_below (bdrN w14 qd)
       have m145 := m137.stp s15 (Nat.ne_of_lt (m137.lt))
       have m146 := m138.stp s15 (m138.notNew (Nat.le_refl _))
       have m147 := m139.up s15.old
       have m148 := m140.stp s15 (Nat.ne_of_lt (m140.lt))
       have m149 := m141.stp s15 (m141.notNew (Nat.le_refl _))
       have m150 := m142.stp s15 (Nat.ne_of_lt (m142.lt))
       have m151 := m143.stp s15 (Nat.ne_of_lt (m143.lt))
       have m152 := m144.stpB s15 (Nat.ne_of_lt (m144.lt))
       have b18 := s15.below b17 (Nat.le_trans hB b17.size) (Nat.le_trans hB b17.size)
       clear ewq1
       refine Fx.seqN (Fx.W.cond (b := true) rfl (fun _ => Fx.W.skip (Fx.seqN (Fx.W.block (Fx.W.seq ?_)))) (fun h => nomatch h))
       -- region 18 draws
       refine Fx.W.reord [0, 1, 2, 3, 5, 6, 7, 8, 9, 11, 12, 4, 10, 13, 14, 15, 16] [0, 0, 0, 0, 4, 0, 0, 0, 0, 0, 4, 0, 0, 0, 4, 0, 3] Fx.Mk Fx.Mk.refl Fx.Mk.trans (certs := [(16, 4, [4]), (16, 10, [10]), (16, 14, [14])]) (by kernel_rfl) (by kernel_rfl) (by kernel_rfl) (by kernel_rfl) (by kernel_rfl) fun wt4 hbwt4 hzwt4 => ?_
       have s16 : Fx.Stp wq1.heap.size wq1 wt4 := Fx.Stp.of_below hbwt4
       have m153 := m145.stp s16 (Nat.ne_of_lt (m145.lt))
       have m154 := m146.stp s16 (m146.notNew (Nat.le_refl _))
       have m155 := m147.up s16.old
       have m156 := m148.stp s16 (Nat.ne_of_lt (m148.lt))
       have m157 := m149.stp s16 (m149.notNew (Nat.le_refl _))
       have m158 := m150.stp s16 (Nat.ne_of_lt (m150.lt))
       have m159 := m151.stp s16 (Nat.ne_of_lt (m151.lt))
       have m160 := m152.stpB s16 (Nat.ne_of_lt (m152.lt))
       have b19 := s16.below b18 (Nat.le_trans hB b18.size) (Nat.le_trans hB b18.size)
       refine Fx.R.p (.pointer (some ⟨p, 0, none⟩)) (fun v1 => x_move rfl h5) (Fx.R.p (.pointer (some ⟨p, 0, none⟩)) (fun v1 => x_nil rfl rfl) (Fx.R.p (.pointer (some ⟨p, 0, none⟩)) (fun v1 => x_field rfl rfl Try.underlying71 rfl (s := 20) (by kernel_rfl) rfl rfl) (Fx.R.p (.pointer (some ⟨p, 19, none⟩)) (fun v1 => x_field rfl rfl Try.underlying43 rfl (s := 1) (by kernel_rfl) rfl (by show _ + 19 = _; omega)) (Fx.R.p (.int .i64 ((k : Int))) (fun v1 => x_move rfl h8) (Fx.R.p (.pointer (some ⟨p, 0, none⟩)) (fun v1 => x_move rfl h5) (Fx.R.p (.pointer (some ⟨p, 0, none⟩)) (fun v1 => x_nil rfl rfl) (Fx.R.p (.pointer (some ⟨p, 0, none⟩)) (fun v1 => x_field rfl rfl Try.underlying71 rfl (s := 20) (by kernel_rfl) rfl rfl) (Fx.R.p (.pointer (some ⟨p, 19, none⟩)) (fun v1 => x_field rfl rfl Try.underlying43 rfl (s := 1) (by kernel_rfl) rfl (by show _ + 19 = _; omega)) (Fx.R.p (.int .i64 ((k : Int))) (fun v1 => x_move rfl h8) (Fx.R.p (.int .i64 ((j : Int))) (fun v1 => Fx.x_sub rfl rfl rfl (Fx.i64e (by omega) (by omega))) (Fx.R.s (.slice (some ⟨g5, 0, none⟩) (m.s.gn + 1) (cap1)) (x_load1 (x := Fx.updV (ldY m) 19 (.slice (some ⟨g5, 0, none⟩) (m.s.gn + 1) (cap1))) rfl rfl (by kernel_rfl) m159.cel (i := 19) (by omega) (by omega) (Fx.updV_eq (by omega))) ?_)))))))))))
       refine Fx.R.s (.slice (some ⟨g5, 0, none⟩) (m.s.gn + 1) (cap1)) (x_load1 (x := Fx.updV (ldY m) 19 (.slice (some ⟨g5, 0, none⟩) (m.s.gn + 1) (cap1))) rfl rfl (by kernel_rfl) m159.cel (i := 19) (by omega) (by omega) (Fx.updV_eq (by omega))) ?_
       refine Fx.R.p (.pointer (some ⟨g5, 5 * j, none⟩)) (fun v1 => x_indexS rfl rfl rfl Try.underlying41 (s := 5) (by kernel_rfl) (by omega) (by omega) (by omega)) (Fx.R.s (.agg (Fx.varr 5 (grY (m.g j)))) (x_loadA (x := Fx.flat 5 (Fx.shF (fun kq => grY (m.g kq)) (grY (grN v)) m.s.gn k)) (y := grY (m.g j)) rfl rfl (by kernel_rfl) (by kernel_rfl) m160.cel (i := 5 * j) (by omega) (by omega) (fun jq hjq => (Fx.flat_at (k := j) (by omega) hjq).trans (congrFun (Fx.sh_at (by omega) (by omega)) jq))) ?_)
       refine Fx.R.p (.pointer (some ⟨g5, 5 * k, none⟩)) (fun v1 => x_indexS rfl rfl rfl Try.underlying41 (s := 5) (by kernel_rfl) (by omega) (by omega) (by omega)) (Fx.R.eff (by rfl) ?_)
       refine Fx.L.ownA (x := Fx.flat 5 (Fx.shF (fun kq => grY (m.g kq)) (grY (grN v)) m.s.gn k)) (y := grY (m.g j)) (by rfl) rfl rfl rfl rfl (fun j _ => grY_one _ j) (by kernel_rfl) m160 (i := 5 * k) (by omega) fun w15 m161 s17 z7 => ?_
       have hct5 := Fx.ChT.of_stp s17 m160.tyB
       have m162 := m153.chT hct5 (by decide)
       have m163 := m154.chT hct5 (by decide)
       have m164 := m155.chT hct5 (by decide)
       have m165 := m156.chT hct5 (by decide)
       have m166 := m157.chT hct5 (by decide)
       have m167 := m158.stp s17 (by omega)
       have m168 := m159.chT hct5 (by decide)
       have b20 := s17.below b19 (Nat.le_trans hB b19.size) m160.blk.1
       have m169 : Fx.Own w15 B 88 5 (.slice (some ⟨g5, 0, none⟩) (m.s.gn + 1) cap1) (m.s.gn + 1) (Fx.flat 5 (Fx.shF (fun kq => grY (m.g kq)) (grY (grN v)) m.s.gn j)) := m161.congr (fun pq hp => (Fx.ovr_flat (k := k) (by omega) pq hp).trans (Fx.flat_cong (fun i hi q _ => Fx.sh_step ej (by omega) i hi q) pq hp))
       refine Fx.L.nil (Fx.R.nil (Fx.seqN (Fx.W.list (Fx.L.v (.int .i64 ((k : Int))) (x_move rfl h8) (Fx.L.v (.int .i64 ((j : Int))) (Fx.x_sub rfl rfl rfl (Fx.i64e (by omega) (by omega))) (Fx.L.v (.int .i64 ((j : Int))) (x_assign rfl rfl) (Fx.L.nil (Fx.blkN (Fx.lpN ⟨j, by omega, (gtB_step ej hgt (by unfold gtG; rw [decide_eq_true c111]; rfl)), h5, h6, h7, (by first | rfl | exact congrArg (Value.int .i64) (by omega)), m162, m163, m164, m165, m166, m167, m168, m169, b20⟩ ?_)))))))))
       show (intOf ((.int .i64 ((j : Int))))).toNat < _
       simp only [h8, intOf]; omega
      ·refine Fx.Qt.v (.bool false) (fun v1 hv1 => x_gtrF rfl rfl rfl c111) (Fx.Qt.v (.bool false) (fun v1 hv1 => x_move rfl rfl) (Fx.Qt.v (.pointer (some ⟨p, 0, none⟩)) (fun v1 hv1 => x_move rfl h5) (Fx.Qt.v (.pointer (some ⟨p, 0, none⟩)) (fun v1 hv1 => x_nil rfl rfl) (Fx.Qt.v (.pointer (some ⟨p, 0, none⟩)) (fun v1 hv1 => x_field rfl rfl Try.underlying71 rfl (s := 20) (by kernel_rfl) rfl rfl) (Fx.Qt.v (.pointer (some ⟨p, 19, none⟩)) (fun v1 hv1 => x_field rfl rfl Try.underlying43 rfl (s := 1) (by kernel_rfl) rfl (by show _ + 19 = _; omega)) (Fx.Qt.v (.slice (some ⟨g5, 0, none⟩) (m.s.gn + 1) (cap1)) (fun v1 hv1 => x_load1 (x := Fx.updV (ldY m) 19 (.slice (some ⟨g5, 0, none⟩) (m.s.gn + 1) (cap1))) rfl rfl (by kernel_rfl) (by obtain ⟨qd, rfl⟩ := hv1; exact m143.cel) (i := 19) (by omega) (by omega) (Fx.updV_eq (by omega))) (Fx.Qt.v (.int .i64 ((k : Int))) (fun v1 hv1 => x_move rfl h8) (Fx.Qt.v (.int .i64 ((j : Int))) (fun v1 hv1 => Fx.x_sub rfl rfl rfl (Fx.i64e (by omega) (by omega))) (Fx.Qt.v (.pointer (some ⟨g5, 5 * j, none⟩)) (fun v1 hv1 => x_indexS rfl rfl rfl Try.underlying41 (s := 5) (by kernel_rfl) (by omega) (by omega) (by omega)) (Fx.Qt.v (.pointer (some ⟨g5, 5 * j, none⟩)) (fun v1 hv1 => x_field rfl rfl Try.underlying88 rfl (s := 1) (by kernel_rfl) rfl rfl) (Fx.Qt.v (.int .i64 ((m.g j) 0)) (fun v1 hv1 => x_load1 (x := Fx.flat 5 (Fx.shF (fun kq => grY (m.g kq)) (grY (grN v)) m.s.gn k)) rfl rfl (by kernel_rfl) (by obtain ⟨qd, rfl⟩ := hv1; exact m144.cel) (i := 5 * j) (by omega) (by omega) (Fx.flat_cell (k := j) (j := 0) (by omega) (by omega) ((congrFun (Fx.sh_at (by omega) (by omega)) 0).trans rfl))) (Fx.Qt.v (.pointer (some ⟨g3, 0, none⟩)) (fun v1 hv1 => x_field rfl h7 Try.underlying88 rfl (s := 1) (by kernel_rfl) rfl rfl) (Fx.Qt.v (.int .i64 (v.o)) (fun v1 hv1 => x_load1 (x := grY (grN v)) rfl rfl (by kernel_rfl) (by obtain ⟨qd, rfl⟩ := hv1; exact m142.cel) (i := 0) (by omega) (by omega) rfl) ?_)))))))))))))
       by_cases c125 : ((m.g j) 0) = v.o
       ·refine Fx.Qt.v (.bool true) (fun v1 hv1 => x_eqlT rfl rfl rfl c125) (Fx.Qt.v (.bool true) (fun v1 hv1 => x_move rfl rfl) (Fx.Qt.v (.pointer (some ⟨p, 0, none⟩)) (fun v1 hv1 => x_move rfl h5) (Fx.Qt.v (.pointer (some ⟨p, 0, none⟩)) (fun v1 hv1 => x_nil rfl rfl) (Fx.Qt.v (.pointer (some ⟨p, 0, none⟩)) (fun v1 hv1 => x_field rfl rfl Try.underlying71 rfl (s := 20) (by kernel_rfl) rfl rfl) (Fx.Qt.v (.pointer (some ⟨p, 19, none⟩)) (fun v1 hv1 => x_field rfl rfl Try.underlying43 rfl (s := 1) (by kernel_rfl) rfl (by show _ + 19 = _; omega)) (Fx.Qt.v (.slice (some ⟨g5, 0, none⟩) (m.s.gn + 1) (cap1)) (fun v1 hv1 => x_load1 (x := Fx.updV (ldY m) 19 (.slice (some ⟨g5, 0, none⟩) (m.s.gn + 1) (cap1))) rfl rfl (by kernel_rfl) (by obtain ⟨qd, rfl⟩ := hv1; exact m143.cel) (i := 19) (by omega) (by omega) (Fx.updV_eq (by omega))) (Fx.Qt.v (.int .i64 ((k : Int))) (fun v1 hv1 => x_move rfl h8) (Fx.Qt.v (.int .i64 ((j : Int))) (fun v1 hv1 => Fx.x_sub rfl rfl rfl (Fx.i64e (by omega) (by omega))) (Fx.Qt.v (.pointer (some ⟨g5, 5 * j, none⟩)) (fun v1 hv1 => x_indexS rfl rfl rfl Try.underlying41 (s := 5) (by kernel_rfl) (by omega) (by omega) (by omega)) (Fx.Qt.v (.pointer (some ⟨g5, 5 * j + 1, none⟩)) (fun v1 hv1 => x_field rfl rfl Try.underlying88 rfl (s := 1) (by kernel_rfl) rfl (by show _ + 1 = _; omega)) (Fx.Qt.v (.int .u64 ((m.g j) 1)) (fun v1 hv1 => x_load1 (x := Fx.flat 5 (Fx.shF (fun kq => grY (m.g kq)) (grY (grN v)) m.s.gn k)) rfl rfl (by kernel_rfl) (by obtain ⟨qd, rfl⟩ := hv1; exact m144.cel) (i := 5 * j + 1) (by omega) (by omega) (Fx.flat_cell (k := j) (j := 1) (by omega) (by omega) ((congrFun (Fx.sh_at (by omega) (by omega)) 1).trans rfl))) (Fx.Qt.v (.pointer (some ⟨g3, 1, none⟩)) (fun v1 hv1 => x_field rfl h7 Try.underlying88 rfl (s := 1) (by kernel_rfl) rfl (by show _ + 1 = _; omega)) (Fx.Qt.v (.int .u64 (v.req)) (fun v1 hv1 => x_load1 (x := grY (grN v)) rfl rfl (by kernel_rfl) (by obtain ⟨qd, rfl⟩ := hv1; exact m142.cel) (i := 1) (by omega) (by omega) rfl) ?_)))))))))))))
        by_cases c139 : v.req < ((m.g j) 1)
        ·refine Fx.Qt.v (.bool true) (fun v1 hv1 => Fx.x_gtrT rfl rfl rfl c139) (Fx.Qt.v (.bool true) (fun v1 hv1 => x_pickT rfl rfl rfl) (Fx.Qt.v (.bool true) (fun v1 hv1 => x_pickF rfl rfl rfl) (Fx.Qt.v (.bool true) (fun v1 hv1 => x_pickT rfl rfl rfl) (Fx.Qt.nil ?_))))
         rintro _ ⟨qd, rfl⟩
         obtain ⟨wq2, ewq2⟩ : ∃ v1, v1 = World.drewN w14 qd := ⟨_, rfl⟩
         rw [← ewq2]
         have s18 : Fx.Stp w14.heap.size w14 wq2 := by rw [ewq2]; exact Fx.Stp.of_below (bdrN w14 qd)
         have m170 := m137.stp s18 (Nat.ne_of_lt (m137.lt))
         have m171 := m138.stp s18 (m138.notNew (Nat.le_refl _))
         have m172 := m139.up s18.old
         have m173 := m140.stp s18 (Nat.ne_of_lt (m140.lt))
         have m174 := m141.stp s18 (m141.notNew (Nat.le_refl _))
         have m175 := m142.stp s18 (Nat.ne_of_lt (m142.lt))
         have m176 := m143.stp s18 (Nat.ne_of_lt (m143.lt))
         have m177 := m144.stpB s18 (Nat.ne_of_lt (m144.lt))
         have b21 := s18.below b17 (Nat.le_trans hB b17.size) (Nat.le_trans hB b17.size)
         clear ewq2
         refine Fx.seqN (Fx.W.cond (b := true) rfl (fun _ => Fx.W.skip (Fx.seqN (Fx.W.block (Fx.W.seq ?_)))) (fun h => nomatch h))
         -- region 18 draws
         refine Fx.W.reord [0, 1, 2, 3, 5, 6, 7, 8, 9, 11, 12, 4, 10, 13, 14, 15, 16] [0, 0, 0, 0, 4, 0, 0, 0, 0, 0, 4, 0, 0, 0, 4, 0, 3] Fx.Mk Fx.Mk.refl Fx.Mk.trans (certs := [(16, 4, [4]), (16, 10, [10]), (16, 14, [14])]) (by kernel_rfl) (by kernel_rfl) (by kernel_rfl) (by kernel_rfl) (by kernel_rfl) fun wt5 hbwt5 hzwt5 => ?_
         have s19 : Fx.Stp wq2.heap.size wq2 wt5 := Fx.Stp.of_below hbwt5
         have m178 := m170.stp s19 (Nat.ne_of_lt (m170.lt))
         have m179 := m171.stp s19 (m171.notNew (Nat.le_refl _))
         have m180 := m172.up s19.old
         have m181 := m173.stp s19 (Nat.ne_of_lt (m173.lt))
         have m182 := m174.stp s19 (m174.notNew (Nat.le_refl _))
         have m183 := m175.stp s19 (Nat.ne_of_lt (m175.lt))
         have m184 := m176.stp s19 (Nat.ne_of_lt (m176.lt))
         have m185 := m177.stpB s19 (Nat.ne_of_lt (m177.lt))
         have b22 := s19.below b21 (Nat.le_trans hB b21.size) (Nat.le_trans hB b21.size)
         refine Fx.R.p (.pointer (some ⟨p, 0, none⟩)) (fun v1 => x_move rfl h5) (Fx.R.p (.pointer (some ⟨p, 0, none⟩)) (fun v1 => x_nil rfl rfl) (Fx.R.p (.pointer (some ⟨p, 0, none⟩)) (fun v1 => x_field rfl rfl Try.underlying71 rfl (s := 20) (by kernel_rfl) rfl rfl) (Fx.R.p (.pointer (some ⟨p, 19, none⟩)) (fun v1 => x_field rfl rfl Try.underlying43 rfl (s := 1) (by kernel_rfl) rfl (by show _ + 19 = _; omega)) (Fx.R.p (.int .i64 ((k : Int))) (fun v1 => x_move rfl h8) (Fx.R.p (.pointer (some ⟨p, 0, none⟩)) (fun v1 => x_move rfl h5) (Fx.R.p (.pointer (some ⟨p, 0, none⟩)) (fun v1 => x_nil rfl rfl) (Fx.R.p (.pointer (some ⟨p, 0, none⟩)) (fun v1 => x_field rfl rfl Try.underlying71 rfl (s := 20) (by kernel_rfl) rfl rfl) (Fx.R.p (.pointer (some ⟨p, 19, none⟩)) (fun v1 => x_field rfl rfl Try.underlying43 rfl (s := 1) (by kernel_rfl) rfl (by show _ + 19 = _; omega)) (Fx.R.p (.int .i64 ((k : Int))) (fun v1 => x_move rfl h8) (Fx.R.p (.int .i64 ((j : Int))) (fun v1 => Fx.x_sub rfl rfl rfl (Fx.i64e (by omega) (by omega))) (Fx.R.s (.slice (some ⟨g5, 0, none⟩) (m.s.gn + 1) (cap1)) (x_load1 (x := Fx.updV (ldY m) 19 (.slice (some ⟨g5, 0, none⟩) (m.s.gn + 1) (cap1))) rfl rfl (by kernel_rfl) m184.cel (i := 19) (by omega) (by omega) (Fx.updV_eq (by omega))) ?_)))))))))))
         refine Fx.R.s (.slice (some ⟨g5, 0, none⟩) (m.s.gn + 1) (cap1)) (x_load1 (x := Fx.updV (ldY m) 19 (.slice (some ⟨g5, 0, none⟩) (m.s.gn + 1) (cap1))) rfl rfl (by kernel_rfl) m184.cel (i := 19) (by omega) (by omega) (Fx.updV_eq (by omega))) ?_
         refine Fx.R.p (.pointer (some ⟨g5, 5 * j, none⟩)) (fun v1 => x_indexS rfl rfl rfl Try.underlying41 (s := 5) (by kernel_rfl) (by omega) (by omega) (by omega)) (Fx.R.s (.agg (Fx.varr 5 (grY (m.g j)))) (x_loadA (x := Fx.flat 5 (Fx.shF (fun kq => grY (m.g kq)) (grY (grN v)) m.s.gn k)) (y := grY (m.g j)) rfl rfl (by kernel_rfl) (by kernel_rfl) m185.cel (i := 5 * j) (by omega) (by omega) (fun jq hjq => (Fx.flat_at (k := j) (by omega) hjq).trans (congrFun (Fx.sh_at (by omega) (by omega)) jq))) ?_)
         refine Fx.R.p (.pointer (some ⟨g5, 5 * k, none⟩)) (fun v1 => x_indexS rfl rfl rfl Try.underlying41 (s := 5) (by kernel_rfl) (by omega) (by omega) (by omega)) (Fx.R.eff (by rfl) ?_)
         refine Fx.L.ownA (x := Fx.flat 5 (Fx.shF (fun kq => grY (m.g kq)) (grY (grN v)) m.s.gn k)) (y := grY (m.g j)) (by rfl) rfl rfl rfl rfl (fun j _ => grY_one _ j) (by kernel_rfl) m185 (i := 5 * k) (by omega) fun w16 m186 s20 z8 => ?_
         have hct6 := Fx.ChT.of_stp s20 m185.tyB
         have m187 := m178.chT hct6 (by decide)
         have m188 := m179.chT hct6 (by decide)
         have m189 := m180.chT hct6 (by decide)
         have m190 := m181.chT hct6 (by decide)
         have m191 := m182.chT hct6 (by decide)
         have m192 := m183.stp s20 (by omega)
         have m193 := m184.chT hct6 (by decide)
         have b23 := s20.below b22 (Nat.le_trans hB b22.size) m185.blk.1
         have m194 : Fx.Own w16 B 88 5 (.slice (some ⟨g5, 0, none⟩) (m.s.gn + 1) cap1) (m.s.gn + 1) (Fx.flat 5 (Fx.shF (fun kq => grY (m.g kq)) (grY (grN v)) m.s.gn j)) := m186.congr (fun pq hp => (Fx.ovr_flat (k := k) (by omega) pq hp).trans (Fx.flat_cong (fun i hi q _ => Fx.sh_step ej (by omega) i hi q) pq hp))
         refine Fx.L.nil (Fx.R.nil (Fx.seqN (Fx.W.list (Fx.L.v (.int .i64 ((k : Int))) (x_move rfl h8) (Fx.L.v (.int .i64 ((j : Int))) (Fx.x_sub rfl rfl rfl (Fx.i64e (by omega) (by omega))) (Fx.L.v (.int .i64 ((j : Int))) (x_assign rfl rfl) (Fx.L.nil (Fx.blkN (Fx.lpN ⟨j, by omega, (gtB_step ej hgt (by unfold gtG; rw [decide_eq_true c125, decide_eq_true c139]; cases decide (v.o < m.g j 0) <;> rfl)), h5, h6, h7, (by first | rfl | exact congrArg (Value.int .i64) (by omega)), m187, m188, m189, m190, m191, m192, m193, m194, b23⟩ ?_)))))))))
         show (intOf ((.int .i64 ((j : Int))))).toNat < _
         simp only [h8, intOf]; omega
        ·refine Fx.Qt.v (.bool false) (fun v1 hv1 => x_gtrF rfl rfl rfl c139) (Fx.Qt.v (.bool false) (fun v1 hv1 => x_pickT rfl rfl rfl) (Fx.Qt.v (.bool false) (fun v1 hv1 => x_pickF rfl rfl rfl) (Fx.Qt.v (.bool false) (fun v1 hv1 => x_pickT rfl rfl rfl) (Fx.Qt.nil ?_))))
         rintro _ ⟨qd, rfl⟩
         obtain ⟨wq3, ewq3⟩ : ∃ v1, v1 = World.drewN w14 qd := ⟨_, rfl⟩
         rw [← ewq3]
         have s21 : Fx.Stp w14.heap.size w14 wq3 := by rw [ewq3]; exact Fx.Stp.of_below (bdrN w14 qd)
         have m195 := m137.stp s21 (Nat.ne_of_lt (m137.lt))
         have m196 := m138.stp s21 (m138.notNew (Nat.le_refl _))
         have m197 := m139.up s21.old
         have m198 := m140.stp s21 (Nat.ne_of_lt (m140.lt))
         have m199 := m141.stp s21 (m141.notNew (Nat.le_refl _))
         have m200 := m142.stp s21 (Nat.ne_of_lt (m142.lt))
         have m201 := m143.stp s21 (Nat.ne_of_lt (m143.lt))
         have m202 := m144.stpB s21 (Nat.ne_of_lt (m144.lt))
         have b24 := s21.below b17 (Nat.le_trans hB b17.size) (Nat.le_trans hB b17.size)
         clear ewq3
         refine Fx.seqN (Fx.W.cond (b := false) rfl (fun h => nomatch h) (fun _ => Fx.W.exit (Fx.seqX (Fx.lpX (Fx.blkX ?_)))))
         exact Fx.jnN ⟨k, hk, (Fx.down_eq hk hgt (.inr (fun j2 e => by rw [show j2 = j by omega]; unfold gtG; rw [decide_eq_false c111, decide_eq_false c139, Bool.and_false]; rfl))), h5, h6, h7, (h8.trans (by first | rfl | exact congrArg (Value.int .i64) (by omega))), m195, m196, m197, m198, m199, m200, m201, m202, b24⟩
       ·refine Fx.Qt.v (.bool false) (fun v1 hv1 => x_eqlF rfl rfl rfl c125) (Fx.Qt.v (.bool false) (fun v1 hv1 => x_move rfl rfl) (Fx.Qt.skip (by rfl) rfl (Fx.Qt.skip (by rfl) rfl (Fx.Qt.skip (by rfl) rfl (Fx.Qt.skip (by rfl) rfl (Fx.Qt.skip (by rfl) rfl (Fx.Qt.skip (by rfl) rfl (Fx.Qt.skip (by rfl) rfl (Fx.Qt.skip (by rfl) rfl (Fx.Qt.skip (by rfl) rfl (Fx.Qt.skip (by rfl) rfl (Fx.Qt.skip (by rfl) rfl (Fx.Qt.skip (by rfl) rfl (Fx.Qt.skip (by rfl) rfl (Fx.Qt.v (.bool false) (fun v1 hv1 => x_pickF rfl rfl rfl) (Fx.Qt.v (.bool false) (fun v1 hv1 => x_pickF rfl rfl rfl) (Fx.Qt.v (.bool false) (fun v1 hv1 => x_pickT rfl rfl rfl) (Fx.Qt.nil ?_))))))))))))))))))
        rintro _ ⟨qd, rfl⟩
        obtain ⟨wq4, ewq4⟩ : ∃ v1, v1 = World.drewN w14 qd := ⟨_, rfl⟩
        rw [← ewq4]
        have s22 : Fx.Stp w14.heap.size w14 wq4 := by rw [ewq4]; exact Fx.Stp.of_below (bdrN w14 qd)
        have m203 := m137.stp s22 (Nat.ne_of_lt (m137.lt))
        have m204 := m138.stp s22 (m138.notNew (Nat.le_refl _))
        have m205 := m139.up s22.old
        have m206 := m140.stp s22 (Nat.ne_of_lt (m140.lt))
        have m207 := m141.stp s22 (m141.notNew (Nat.le_refl _))
        have m208 := m142.stp s22 (Nat.ne_of_lt (m142.lt))
        have m209 := m143.stp s22 (Nat.ne_of_lt (m143.lt))
        have m210 := m144.stpB s22 (Nat.ne_of_lt (m144.lt))
        have b25 := s22.below b17 (Nat.le_trans hB b17.size) (Nat.le_trans hB b17.size)
        clear ewq4
        refine Fx.seqN (Fx.W.cond (b := false) rfl (fun h => nomatch h) (fun _ => Fx.W.exit (Fx.seqX (Fx.lpX (Fx.blkX ?_)))))
        exact Fx.jnN ⟨k, hk, (Fx.down_eq hk hgt (.inr (fun j2 e => by rw [show j2 = j by omega]; unfold gtG; rw [decide_eq_false c111, decide_eq_false c125]; rfl))), h5, h6, h7, (h8.trans (by first | rfl | exact congrArg (Value.int .i64) (by omega))), m203, m204, m205, m206, m207, m208, m209, m210, b25⟩
     ·refine Fx.Qt.v (.bool false) (fun v1 hv1 => x_gtrF rfl rfl rfl c97) (Fx.Qt.v (.bool false) (fun v1 hv1 => x_move rfl rfl) (Fx.Qt.skip (by rfl) rfl (Fx.Qt.skip (by rfl) rfl (Fx.Qt.skip (by rfl) rfl (Fx.Qt.skip (by rfl) rfl (Fx.Qt.skip (by rfl) rfl (Fx.Qt.skip (by rfl) rfl (Fx.Qt.skip (by rfl) rfl (Fx.Qt.skip (by rfl) rfl (Fx.Qt.skip (by rfl) rfl (Fx.Qt.skip (by rfl) rfl (Fx.Qt.skip (by rfl) rfl (Fx.Qt.skip (by rfl) rfl (Fx.Qt.skip (by rfl) rfl (Fx.Qt.skip (by rfl) rfl (Fx.Qt.skip (by rfl) rfl (Fx.Qt.skip (by rfl) rfl (Fx.Qt.skip (by rfl) rfl (Fx.Qt.skip (by rfl) rfl (Fx.Qt.skip (by rfl) rfl (Fx.Qt.skip (by rfl) rfl (Fx.Qt.skip (by rfl) rfl (Fx.Qt.skip (by rfl) rfl (Fx.Qt.skip (by rfl) rfl ?_))))))))))))))))))))))))
      refine Fx.Qt.skip (by rfl) rfl (Fx.Qt.skip (by rfl) rfl (Fx.Qt.skip (by rfl) rfl (Fx.Qt.skip (by rfl) rfl (Fx.Qt.skip (by rfl) rfl (Fx.Qt.skip (by rfl) rfl (Fx.Qt.skip (by rfl) rfl (Fx.Qt.skip (by rfl) rfl (Fx.Qt.skip (by rfl) rfl (Fx.Qt.skip (by rfl) rfl (Fx.Qt.skip (by rfl) rfl (Fx.Qt.skip (by rfl) rfl (Fx.Qt.skip (by rfl) rfl (Fx.Qt.skip (by rfl) rfl (Fx.Qt.skip (by rfl) rfl (Fx.Qt.skip (by rfl) rfl (Fx.Qt.skip (by rfl) rfl (Fx.Qt.skip (by rfl) rfl (Fx.Qt.skip (by rfl) rfl (Fx.Qt.skip (by rfl) rfl (Fx.Qt.v (.bool false) (fun v1 hv1 => x_pickF rfl rfl rfl) (Fx.Qt.nil ?_)))))))))))))))))))))
      rintro _ ⟨qd, rfl⟩
      obtain ⟨wq5, ewq5⟩ : ∃ v1, v1 = World.drewN w14 qd := ⟨_, rfl⟩
      rw [← ewq5]
      have s23 : Fx.Stp w14.heap.size w14 wq5 := by rw [ewq5]; exact Fx.Stp.of_below (bdrN w14 qd)
      have m211 := m137.stp s23 (Nat.ne_of_lt (m137.lt))
      have m212 := m138.stp s23 (m138.notNew (Nat.le_refl _))
      have m213 := m139.up s23.old
      have m214 := m140.stp s23 (Nat.ne_of_lt (m140.lt))
      have m215 := m141.stp s23 (m141.notNew (Nat.le_refl _))
      have m216 := m142.stp s23 (Nat.ne_of_lt (m142.lt))
      have m217 := m143.stp s23 (Nat.ne_of_lt (m143.lt))
      have m218 := m144.stpB s23 (Nat.ne_of_lt (m144.lt))
      have b26 := s23.below b17 (Nat.le_trans hB b17.size) (Nat.le_trans hB b17.size)
      clear ewq5
      refine Fx.seqN (Fx.W.cond (b := false) rfl (fun h => nomatch h) (fun _ => Fx.W.exit (Fx.seqX (Fx.lpX (Fx.blkX ?_)))))
      exact Fx.jnN ⟨k, hk, (Fx.down_eq hk hgt (.inl (by omega))), h5, h6, h7, (h8.trans (by first | rfl | exact congrArg (Value.int .i64) (by omega))), m211, m212, m213, m214, m215, m216, m217, m218, b26⟩
    ·rintro f4 w17 ⟨k, hk, ek, h9, h10, h11, h12, m219, m220, m221, m222, m223, m224, m225, m226, b27⟩
     refine Fx.W.seq ?_
     -- region 20 draws
     refine Fx.W.reord [0, 1, 2, 3, 5, 4, 6, 7, 8] [0, 0, 0, 0, 4, 0, 4, 0, 3] Fx.Mk Fx.Mk.refl Fx.Mk.trans (certs := [(8, 4, [4]), (8, 6, [6])]) (by kernel_rfl) (by kernel_rfl) (by kernel_rfl) (by kernel_rfl) (by kernel_rfl) fun wt6 hbwt6 hzwt6 => ?_
     have s24 : Fx.Stp w17.heap.size w17 wt6 := Fx.Stp.of_below hbwt6
     have m227 := m219.stp s24 (Nat.ne_of_lt (m219.lt))
     have m228 := m220.stp s24 (m220.notNew (Nat.le_refl _))
     have m229 := m221.up s24.old
     have m230 := m222.stp s24 (Nat.ne_of_lt (m222.lt))
     have m231 := m223.stp s24 (m223.notNew (Nat.le_refl _))
     have m232 := m224.stp s24 (Nat.ne_of_lt (m224.lt))
     have m233 := m225.stp s24 (Nat.ne_of_lt (m225.lt))
     have m234 := m226.stpB s24 (Nat.ne_of_lt (m226.lt))
     have b28 := s24.below b27 (Nat.le_trans hB b27.size) (Nat.le_trans hB b27.size)
     refine Fx.R.p (.pointer (some ⟨p, 0, none⟩)) (fun v1 => x_move rfl h9) (Fx.R.p (.pointer (some ⟨p, 0, none⟩)) (fun v1 => x_nil rfl rfl) (Fx.R.p (.pointer (some ⟨p, 0, none⟩)) (fun v1 => x_field rfl rfl Try.underlying71 rfl (s := 20) (by kernel_rfl) rfl rfl) (Fx.R.p (.pointer (some ⟨p, 19, none⟩)) (fun v1 => x_field rfl rfl Try.underlying43 rfl (s := 1) (by kernel_rfl) rfl (by show _ + 19 = _; omega)) (Fx.R.p (.int .i64 ((k : Int))) (fun v1 => x_move rfl h12) (Fx.R.s (.slice (some ⟨g5, 0, none⟩) (m.s.gn + 1) (cap1)) (x_load1 (x := Fx.updV (ldY m) 19 (.slice (some ⟨g5, 0, none⟩) (m.s.gn + 1) (cap1))) rfl rfl (by kernel_rfl) m233.cel (i := 19) (by omega) (by omega) (Fx.updV_eq (by omega))) ?_)))))
     refine Fx.R.s (.agg (Fx.varr 5 (grY (grN v)))) (x_loadA (x := grY (grN v)) (y := grY (grN v)) rfl h11 (by kernel_rfl) (by kernel_rfl) m232.cel (i := 0) (by omega) (by omega) (fun j _ => by rw [Nat.zero_add])) ?_
     refine Fx.R.p (.pointer (some ⟨g5, 5 * k, none⟩)) (fun v1 => x_indexS rfl rfl rfl Try.underlying41 (s := 5) (by kernel_rfl) (by omega) (by omega) (by omega)) (Fx.R.eff (by rfl) ?_)
     refine Fx.L.ownA (x := Fx.flat 5 (Fx.shF (fun kq => grY (m.g kq)) (grY (grN v)) m.s.gn k)) (y := grY (grN v)) (by rfl) rfl rfl rfl rfl (fun j _ => grY_one _ j) (by kernel_rfl) m234 (i := 5 * k) (by omega) fun w18 m235 s25 z9 => ?_
     have hct7 := Fx.ChT.of_stp s25 m234.tyB
     have m236 := m227.chT hct7 (by decide)
     have m237 := m228.chT hct7 (by decide)
     have m238 := m229.chT hct7 (by decide)
     have m239 := m230.chT hct7 (by decide)
     have m240 := m231.chT hct7 (by decide)
     have m241 := m232.stp s25 (by omega)
     have m242 := m233.chT hct7 (by decide)
     have b29 := s25.below b28 (Nat.le_trans hB b28.size) m234.blk.1
     have m243 : Fx.Own w18 B 88 5 (.slice (some ⟨g5, 0, none⟩) (m.s.gn + 1) cap1) (m.s.gn + 1) (Fx.flat 5 (Fx.insF (fun kq => grY (m.g kq)) k (grY (grN v)))) := m235.congr (fun pq hp => (Fx.ovr_flat (k := k) (by omega) pq hp).trans (Fx.flat_cong (fun i hi q _ => Fx.ins_end (by omega) i hi q) pq hp))
     refine Fx.L.nil (Fx.R.nil (Fx.seqN (Fx.W.seq ?_)))
     have m244 : Fx.Own w18 B 27 1 (.slice (m.ra a) ((m.rn a)) ((m.rc a))) (m.rn a) (Fx.rv .u64 (m.rq a)) := m238.1 a ha
     have bra := hL.br a ha
     -- region 21 draws
     refine Fx.W.reord [0, 1, 4, 5, 8, 9, 12, 16, 17, 2, 3, 6, 7, 10, 11, 13, 14, 15, 18, 19] [0, 0, 1, 0, 0, 0, 1, 0, 0, 0, 0, 1, 0, 4, 2, 2, 0, 0, 0, 3] (Fx.ChT [27]) Fx.ChT.refl Fx.ChT.trans (certs := [(19, 2, [2]), (19, 6, [6]), (19, 11, [11]), (14, 13, [13]), (15, 13, [14, 13]), (19, 13, [13]), (15, 14, [14]), (18, 14, [14]), (19, 14, [14]), (18, 15, [15]), (19, 15, [15])]) (by kernel_rfl) (by kernel_rfl) (by kernel_rfl) (by kernel_rfl) (by kernel_rfl) fun wt7 hbwt7 hzwt7 => ?_
     have s26 : Fx.Stp w18.heap.size w18 wt7 := Fx.Stp.of_below hbwt7
     have m245 := m236.stp s26 (Nat.ne_of_lt (m236.lt))
     have m246 := m237.stp s26 (m237.notNew (Nat.le_refl _))
     have m247 := m238.up s26.old
     have m248 := m239.stp s26 (Nat.ne_of_lt (m239.lt))
     have m249 := m240.stp s26 (m240.notNew (Nat.le_refl _))
     have m250 := m241.stp s26 (Nat.ne_of_lt (m241.lt))
     have m251 := m242.stp s26 (Nat.ne_of_lt (m242.lt))
     have m252 := m243.stpB s26 (Nat.ne_of_lt (m243.lt))
     have m253 := m244.stp s26 (m244.notNew (Nat.le_refl _))
     have b30 := s26.below b29 (Nat.le_trans hB b29.size) (Nat.le_trans hB b29.size)
     refine Fx.R.p (.pointer (some ⟨p, 0, none⟩)) (fun v1 => x_move rfl h9) (Fx.R.p (.pointer (some ⟨g1, 0, none⟩)) (fun v1 => x_field rfl h10 Try.underlying54 rfl (s := 1) (by kernel_rfl) rfl rfl) (Fx.R.p (.pointer (some ⟨p, 0, none⟩)) (fun v1 => x_move rfl h9) (Fx.R.p (.pointer (some ⟨g1, 0, none⟩)) (fun v1 => x_field rfl h10 Try.underlying54 rfl (s := 1) (by kernel_rfl) rfl rfl) (Fx.R.p (.pointer (some ⟨p, 0, none⟩)) (fun v1 => x_nil rfl rfl) (Fx.R.p (.pointer (some ⟨p, 21, none⟩)) (fun v1 => x_field rfl rfl Try.underlying71 rfl (s := 6) (by kernel_rfl) rfl (by show _ + 21 = _; omega)) (Fx.R.p (.pointer (some ⟨g1, 12, none⟩)) (fun v1 => x_field rfl h10 Try.underlying54 rfl (s := 1) (by kernel_rfl) rfl (by show _ + 12 = _; omega)) (Fx.R.p (.pointer (some ⟨p, 0, none⟩)) (fun v1 => x_nil rfl rfl) (Fx.R.p (.pointer (some ⟨p, 21, none⟩)) (fun v1 => x_field rfl rfl Try.underlying71 rfl (s := 6) (by kernel_rfl) rfl (by show _ + 21 = _; omega)) (Fx.R.read (v := .int .i64 (v.o)) (by rfl) (by rfl) (Fx.ChT.refl _) (fun v1 hv1 => x_load1 (x := evY v) rfl rfl (by kernel_rfl) (m248.chT hv1 (by decide)).cel (i := 0) (by omega) (by omega) rfl) ?_)))))))))
     refine Fx.R.p (.int .i64 ((a : Int))) (fun v1 => Fx.x_sub rfl rfl rfl (Fx.i64e (by omega) (by omega))) (Fx.R.read (v := .int .i64 (v.o)) (by rfl) (by rfl) (Fx.ChT.refl _) (fun v1 hv1 => x_load1 (x := evY v) rfl rfl (by kernel_rfl) (m248.chT hv1 (by decide)).cel (i := 0) (by omega) (by omega) rfl) ?_)
     refine Fx.R.p (.int .i64 ((a : Int))) (fun v1 => Fx.x_sub rfl rfl rfl (Fx.i64e (by omega) (by omega))) (Fx.R.p (.pointer (some ⟨p, a + 21, none⟩)) (fun v1 => x_index rfl rfl rfl Try.underlying69 (s := 1) (by kernel_rfl) (by omega) (by omega) (by omega)) (Fx.R.read (v := .slice (m.ra a) ((m.rn a)) ((m.rc a))) (by rfl) (by rfl) (Fx.ChT.refl _) (fun v1 hv1 => x_load1 (x := Fx.updV (ldY m) 19 (.slice (some ⟨g5, 0, none⟩) (m.s.gn + 1) (cap1))) rfl rfl (by kernel_rfl) (m251.chT hv1 (by decide)).cel (i := a + 21) (by omega) (by omega) (Fx.updV_ne (by omega) (ldY_req _ (by omega)))) ?_))
     refine Fx.R.s (.int .u64 (v.req)) (x_load1 (x := evY v) rfl rfl (by kernel_rfl) m248.cel (i := 12) (by omega) (by omega) rfl) ?_
     refine Fx.R.make (by rfl) ?_
     refine Fx.L.bslice (vs := [(0, .int .u64 (v.req))]) (s := 1) (zc := Fx.rv .u64 (fun _ => 0)) (y := Fx.ovr (fun j => (Fx.rv .u64 (fun _ => 0)) (j % 1)) (0 * 1) 1 (fun _ => .int .u64 (v.req))) (by rfl) rfl rfl Try.underlying68 (by kernel_rfl) (by rfl) (by rfl) (by kernel_rfl) (by rw [Fx.fill_step (off := 0 * 1) (s := 1) (y := fun _ => .int .u64 (v.req)) rfl (Fx.cells_one (by rfl)) (by rfl)]; rfl) rfl fun g6 w19 eg6 m254 s27 z10 => ?_
     have m255 := m245.stp s27 (Nat.ne_of_lt (m245.lt))
     have m256 := m246.stp s27 (m246.notNew (Nat.le_refl _))
     have m257 := m247.up s27.old
     have m259 := m249.stp s27 (m249.notNew (Nat.le_refl _))
     have m261 := m251.stp s27 (Nat.ne_of_lt (m251.lt))
     have m262 := m252.stpB s27 (Nat.ne_of_lt (m252.lt))
     have m263 := m253.stp s27 (m253.notNew (Nat.le_refl _))
     have b31 := s27.below b30 (Nat.le_trans hB b30.size) (Nat.le_trans hB b30.size)
     have lg6 : w.heap.size ≤ g6 := by rw [eg6]; exact b30.size
     have ng6m255 : m.tb ≠ g6 := by rw [eg6]; exact Nat.ne_of_lt (m245.lt)
     have ng6m258 : g1 ≠ g6 := by rw [eg6]; exact Nat.ne_of_lt (m248.lt)
     have ng6m260 : g3 ≠ g6 := by rw [eg6]; exact Nat.ne_of_lt (m250.lt)
     have ng6m261 : p ≠ g6 := by rw [eg6]; exact Nat.ne_of_lt (m251.lt)
     have ng6m262 : g5 ≠ g6 := by rw [eg6]; exact Nat.ne_of_lt (m252.lt)
     have ng6m263 : (.slice (m.ra a) ((m.rn a)) ((m.rc a)) : Value).ownBlock ≠ some g6 := by rw [eg6]; exact m253.notNew (Nat.le_refl _)
     have tg6 : g6 < w19.heap.size := m254.lt
     clear eg6
     refine Fx.L.nil ⟨Fx.ChT.of_below s27.old, ?_⟩
     refine Fx.R.make (by rfl) ?_
     refine Fx.L.app (B := B) (s := 1) (bytes := 8) (k := (m.rn a)) (m := 1) (v := .slice (m.ra a) ((m.rn a)) ((m.rc a))) (x := Fx.rv .u64 (m.rq a)) (by rfl) rfl rfl rfl Try.underlying68 (by kernel_rfl) (by kernel_rfl) rfl rfl m263 m254.cel (ovr_one (fun _ => rfl)) (by omega) (by omega) (by omega) (Nat.le_trans hB b31.size) fun g7 cap2 w20 ho2 hg2 hgv2 hlt2 => ?_
     have hct8 := Fx.ChT.of_grown hg2 m263
     have m265 := m255.chT hct8 (by decide)
     have m266 := m256.chT hct8 (by decide)
     have m268 := m259.chT hct8 (by decide)
     have m270 := m261.chT hct8 (by decide)
     have m271 := m262.chT hct8 (by decide)
     have m264 : Fx.Own w20 B 27 1 (.slice (some ⟨g7, 0, none⟩) ((m.rn a) + 1) cap2) ((m.rn a) + 1) (Fx.rv .u64 (updA (m.rq a) (m.rn a) v.req)) := (ho2.congr (fun j hj => req_app j hj))
     have b32 : Below B w w20 := Fx.Below.grow b31 hg2 (Nat.le_trans hB b31.size) (fun q hq => (m263.ge hq).1)
     have m272 : Rqs w20 B 6 { m with ra := updA m.ra a (some ⟨g7, 0, none⟩), rn := updA m.rn a (m.rn a + 1), rc := updA m.rc a cap2, rq := updA m.rq a (updA (m.rq a) (m.rn a) v.req) } := Rqs.app m257 ha rfl rfl rfl rfl m264 hg2 hgv2
     refine Fx.L.nil ⟨hct8, ?_⟩
     refine Fx.R.p (.pointer (some ⟨p, a + 21, none⟩)) (fun v1 => x_index rfl rfl rfl Try.underlying69 (s := 1) (by kernel_rfl) (by omega) (by omega) (by omega)) (Fx.R.eff (by rfl) ?_)
     refine Fx.L.store1 (x := Fx.updV (ldY m) 19 (.slice (some ⟨g5, 0, none⟩) (m.s.gn + 1) (cap1))) (u := .slice (some ⟨g7, 0, none⟩) ((m.rn a) + 1) (cap2)) (by rfl) rfl rfl rfl rfl (by rfl) (by kernel_rfl) m270 (i := a + 21) (by omega) fun w21 m273 s28 z11 => ?_
     have hct9 := Fx.ChT.of_stp s28 m270.ty
     have m274 := m265.chT hct9 (by decide)
     have m275 := m266.chT hct9 (by decide)
     have m277 := m268.chT hct9 (by decide)
     have m279 := m271.chT hct9 (by decide)
     have m281 := m272.chT hct9 (by decide)
     have b33 := s28.below b32 (Nat.le_trans hB b32.size) (by omega)
     refine Fx.L.nil (Fx.R.nil (Fx.seqN (Fx.W.seq (Fx.W.list (Fx.L.v (.int .i64 (0)) (x_assign rfl rfl) (Fx.L.nil (Fx.seqN (Fx.W.ret (⟨.int .i64 (0), Fx.retV1 Try.results122 (by exact rfl), ?_⟩)))))))))
     have eN : regN v = a := by unfold regN; omega
     have ne1 : ¬ 0 ≤ m.core.askedN (regN v) v.req := by rw [eN]; exact of_decide_eq_false c17
     have ne2 : ¬ pathK m.core.t m.core.tn v.node = 0 := fun e => c27 (by rw [show K = 0 from hKp.trans e]; rfl)
     have ew : takesW m.core v = walkR (fun x => takeM x v.o v.amt) (idxT m.core v.node) m.R K := by unfold takesW; rw [show pathK m.core.t m.core.tn v.node = K from hKp.symm]; rfl
     have ee : takesE m.core v = 0 := by unfold takesE; rw [if_neg ne1, if_neg ne2, ew, hRK]
     have eW : takesW m.core v = (Rk, 0) := ew.trans hRK
     have m282 : Fx.Own w21 B 88 5 (.slice (some ⟨g5, 0, none⟩) (m.s.gn + 1) (cap1)) (m.s.gn + 1) (Fx.flat 5 fun kq => grY (Fx.insI m.g k (grN v) kq)) := by rw [← insF_gr]; exact m279
     refine ⟨congrArg (fun q => Ending.returned (Value.int .i64 q)) ee.symm, b33, fun _ => ⟨{ m with s := { m.s with ga := some ⟨g5, 0, none⟩, gn := m.s.gn + 1, gc := cap1 }, R := Rk, g := Fx.insI m.g k (grN v), ra := updA m.ra a (some ⟨g7, 0, none⟩), rn := updA m.rn a (m.rn a + 1), rc := updA m.rc a cap2, rq := updA m.rq a (updA (m.rq a) (m.rn a) v.req) }, ?_, ?_⟩⟩
     ·unfold takesC addReq; rw [eW, eN]; rw [show Fx.down (fun i => gtG v (m.core.g i)) m.core.gn = k from ek.symm]; rfl
     ·exact { c := m273.to ((congrArg (fun z => Fx.updV z (a + 21) _) (ldY_grants m _ _ _)).trans (ldY_reqs _ rfl _ _ _)), n := m277, g := m282, tc := m274, t := m275, r := m281, pB := hLp, tB := hLtb, bn := bn, bg := (by show m.s.gn + 1 ≤ 1000000; omega), bt := bt, br := (fun i hi => by show updA m.rn a (m.rn a + 1) i ≤ 1000000; have := brr i hi; have := brr a ha; unfold updA; split <;> omega) }
namespace Rt
def kgN (L : LdC) (v : EvM) : Nat := (L.grant v.o v.of).toNat
def freesW (L : LdC) (v : EvM) : (Nat → Nat → Int) × Int := walkR (fun x => freeM x v.o (L.g (kgN L v) 3)) (idxT L (L.g (kgN L v) 2)) L.R (pathK L.t L.tn (L.g (kgN L v) 2))
def freesE (L : LdC) (v : EvM) : Int := if 0 ≤ L.askedN (regN v) v.req then 14 else if L.grant v.o v.of < 0 ∨ L.g (kgN L v) 4 ≠ 0 then 12 else (freesW L v).2
def freesC (L : LdC) (v : EvM) : LdC := addReq { L with R := (freesW L v).1, g := updA L.g (kgN L v) (updA (L.g (kgN L v)) 4 v.req) } (regN v) v.req
theorem grant_at {m : LdM} {o r : Int} (h : ¬ m.grant o r < 0) : ∃ q : Nat, q < m.s.gn ∧ m.grant o r = (q : Int) ∧ m.g q 0 = o ∧ m.g q 1 = r := by
  rcases firstI_spec (fun i => decide (m.g i 0 = o) && decide (m.g i 1 = r)) m.s.gn with ⟨q, hq, e, hp⟩ | ⟨e, _⟩
  · rw [Bool.and_eq_true] at hp
    exact ⟨q, hq, e, of_decide_eq_true hp.1, of_decide_eq_true hp.2⟩
  · unfold LdM.grant at h; omega
theorem grB_store {n q : Nat} {g : Nat → Nat → Int} {r : Int} : ∀ i, i < n → ∀ j, j < 5 → Fx.updF (fun kq => grY (g kq)) q (Fx.updV (grY (g q)) 4 (.int .u64 r)) i j = grY (updA g q (updA (g q) 4 r) i) j := fun i _ j hj => by
  unfold Fx.updF
  by_cases h : i = q
  · subst h
    rw [if_pos rfl]
    unfold updA Fx.updV grY
    rw [if_pos rfl]
    rcases j with _|_|_|_|_|j <;> first | rfl | omega
  · rw [if_neg h]; unfold updA; rw [if_neg h]
end Rt
set_option maxRecDepth 20000 in
set_option maxHeartbeats 2000000 in
theorem l_frees (m : LdM) (B p a : Nat) (v : EvM) (w : World) (hL : LdO w B p m) (hB : B ≤ w.heap.size) (ha : a < 6) (ho : v.o = (a : Int) + 1) (bgg : m.s.gn ≤ 900000) (brr : ∀ i, i < 6 → m.rn i ≤ 900000) (hTN : ∀ x, m.node x = findT m.t m.tn x) (hDx : ∀ x, ∃ D, D ≤ 1000 ∧ findT m.t m.tn (iterT m.t m.tn D x) < 0) :
    Calls Try.prog 123 #[.pointer (some ⟨p, 0, none⟩), .agg (Fx.varr 14 (evY v))] w fun e w' => e = .returned (.int .i64 (freesE m.core v)) ∧ Below B w w' ∧ (freesE m.core v = 0 → ∃ m', m'.core = freesC m.core v ∧ LdO w' B p m') := by
 have hLc := hL.c
 have hLn := hL.n
 have hLg := hL.g
 have hLt := hL.tc
 have hLtr := hL.t
 have hLr := hL.r
 have hLp := hL.pB
 have hLtb := hL.tB
 have bn := hL.bn
 have bg := hL.bg
 have bt := hL.bt
 have lpp : p < w.heap.size := hLc.lt
 have ltb : m.tb < w.heap.size := hLt.lt
 refine Fx.enter Try.func123 rfl (n := 128) rfl (by rfl) ?_
 refine Fx.W.seq (Fx.W.list (Fx.L.box (m := 14) (y := evY v) (by rfl) rfl rfl (Fx.cells_agg _ _) rfl fun g1 w1 eg1 m1 s1 z1 => ?_))
 have m2 := hLc.stp s1 (Nat.ne_of_lt (hLc.lt))
 have m3 := hLn.stp s1 (hLn.notNew (Nat.le_refl _))
 have m4 := hLg.stp s1 (hLg.notNew (Nat.le_refl _))
 have m5 := hLt.stp s1 (Nat.ne_of_lt (hLt.lt))
 have m6 := hLtr.stp s1 (hLtr.notNew (Nat.le_refl _))
 have m7 := hLr.up s1.old
 have b1 := s1.below (Below.refl B w) (Nat.le_trans hB (Below.refl B w).size) (Nat.le_trans hB (Below.refl B w).size)
 have lg1 : w.heap.size ≤ g1 := by rw [eg1]; exact (Below.refl B w).size
 have ng1m2 : p ≠ g1 := by rw [eg1]; exact Nat.ne_of_lt (hLc.lt)
 have ng1m5 : m.tb ≠ g1 := by rw [eg1]; exact Nat.ne_of_lt (hLt.lt)
 have tg1 : g1 < w1.heap.size := m1.lt
 clear eg1
 refine Fx.L.v (.int .i64 (0)) (x_assign rfl rfl) (Fx.L.nil (Fx.seqN (Fx.W.seq (Fx.W.seq (Fx.W.list (Fx.L.v (.pointer (some ⟨p, 0, none⟩)) (x_move rfl rfl) (Fx.L.v (.pointer (some ⟨g1, 0, none⟩)) (x_field rfl rfl Try.underlying54 rfl (s := 1) (by kernel_rfl) rfl rfl) (Fx.L.v (.int .i64 (v.o)) (x_load1 (x := evY v) rfl rfl (by kernel_rfl) m1.cel (i := 0) (by omega) (by omega) rfl) (Fx.L.v (.pointer (some ⟨g1, 12, none⟩)) (x_field rfl rfl Try.underlying54 rfl (s := 1) (by kernel_rfl) rfl (by show _ + 12 = _; omega)) (Fx.L.v (.int .u64 (v.req)) (x_load1 (x := evY v) rfl rfl (by kernel_rfl) m1.cel (i := 12) (by omega) (by omega) rfl) ?_))))))))))
 have hld1 : Ldg w1 p m := { c := m2.cel, an := m3.arr, ag := m4.arr, tc := m5.cel, at2 := m6.arr, ar := fun i hi => (m7.1 i hi).arr, bn := (by show m.s.nn ≤ 1000000; omega), bg := bg, bt := (by show m.tn ≤ 1000000; omega), br := hL.br }
 by_cases c16 : (decide (0 ≤ m.askedN a v.req)) = true
 ·refine Fx.L.call (by rfl) (Fx.r_call (args := [.pointer (some ⟨p, 0, none⟩), .int .i64 (v.o), .int .u64 (v.req)]) rfl rfl Try.func129 rfl rfl) rfl ((l_asked2 m p a v.o v.req _ hld1 ha ho).mono ?_)
  rintro e w2 ⟨he, hb1⟩
  refine ⟨.bool true, by rw [he, c16], ?_⟩
  clear he
  have s2 := Fx.Stp.of_below hb1
  have b2 := s2.below b1 (Nat.le_trans hB b1.size) (Nat.le_trans hB b1.size)
  refine Fx.L.nil (Fx.seqN (Fx.W.cond (b := true) rfl (fun _ => Fx.W.seq (Fx.W.list (Fx.L.v (.int .i64 (14)) (x_assign rfl rfl) ?_))) (fun h => nomatch h)))
  refine Fx.L.nil (Fx.seqN (Fx.W.ret (Fx.seqR (⟨.int .i64 (14), Fx.retV1 Try.results123 (by exact rfl), ?_⟩))))
  have eN : regN v = a := by unfold regN; omega
  have ee : freesE m.core v = 14 := by unfold freesE; rw [eN]; exact if_pos (of_decide_eq_true c16)
  exact ⟨congrArg (fun q => Ending.returned (Value.int .i64 q)) ee.symm, b2, fun h0 => by rw [ee] at h0; cases h0⟩
 ·rw [Bool.not_eq_true] at c16
  refine Fx.L.call (by rfl) (Fx.r_call (args := [.pointer (some ⟨p, 0, none⟩), .int .i64 (v.o), .int .u64 (v.req)]) rfl rfl Try.func129 rfl rfl) rfl ((l_asked2 m p a v.o v.req _ hld1 ha ho).mono ?_)
  rintro e w3 ⟨he, hb2⟩
  refine ⟨.bool false, by rw [he, c16], ?_⟩
  clear he
  have s3 := Fx.Stp.of_below hb2
  have m15 := m2.stp s3 (Nat.ne_of_lt (m2.lt))
  have m16 := m3.stp s3 (m3.notNew (Nat.le_refl _))
  have m17 := m4.stp s3 (m4.notNew (Nat.le_refl _))
  have m18 := m5.stp s3 (Nat.ne_of_lt (m5.lt))
  have m19 := m6.stp s3 (m6.notNew (Nat.le_refl _))
  have m20 := m7.up s3.old
  have m21 := m1.stp s3 (Nat.ne_of_lt (m1.lt))
  have b3 := s3.below b1 (Nat.le_trans hB b1.size) (Nat.le_trans hB b1.size)
  refine Fx.L.nil (Fx.seqN (Fx.W.cond (b := false) rfl (fun h => nomatch h) (fun _ => Fx.W.skip (Fx.seqN (Fx.W.seq (Fx.W.list (Fx.L.v (.pointer (some ⟨p, 0, none⟩)) (x_move rfl rfl) (Fx.L.v (.pointer (some ⟨g1, 0, none⟩)) (x_field rfl rfl Try.underlying54 rfl (s := 1) (by kernel_rfl) rfl rfl) (Fx.L.v (.int .i64 (v.o)) (x_load1 (x := evY v) rfl rfl (by kernel_rfl) m21.cel (i := 0) (by omega) (by omega) rfl) (Fx.L.v (.pointer (some ⟨g1, 13, none⟩)) (x_field rfl rfl Try.underlying54 rfl (s := 1) (by kernel_rfl) rfl (by show _ + 13 = _; omega)) (Fx.L.v (.int .u64 (v.of)) (x_load1 (x := evY v) rfl rfl (by kernel_rfl) m21.cel (i := 13) (by omega) (by omega) rfl) ?_)))))))))))
  have hld2 : Ldg w3 p m := { c := m15.cel, an := m16.arr, ag := m17.arr, tc := m18.cel, at2 := m19.arr, ar := fun i hi => (m20.1 i hi).arr, bn := (by show m.s.nn ≤ 1000000; omega), bg := bg, bt := (by show m.tn ≤ 1000000; omega), br := hL.br }
  refine Fx.L.call (by rfl) (Fx.r_call (args := [.pointer (some ⟨p, 0, none⟩), .int .i64 (v.o), .int .u64 (v.of)]) rfl rfl Try.func131 rfl rfl) rfl ((l_grant m p v.o v.of _ hld2).mono ?_)
  rintro e w4 ⟨he, hb3⟩
  refine ⟨.int .i64 (m.grant v.o v.of), by rw [he], ?_⟩
  clear he
  have s4 := Fx.Stp.of_below hb3
  have m22 := m15.stp s4 (Nat.ne_of_lt (m15.lt))
  have m23 := m16.stp s4 (m16.notNew (Nat.le_refl _))
  have m24 := m17.stp s4 (m17.notNew (Nat.le_refl _))
  have m25 := m18.stp s4 (Nat.ne_of_lt (m18.lt))
  have m26 := m19.stp s4 (m19.notNew (Nat.le_refl _))
  have m27 := m20.up s4.old
  have m28 := m21.stp s4 (Nat.ne_of_lt (m21.lt))
  have b4 := s4.below b3 (Nat.le_trans hB b3.size) (Nat.le_trans hB b3.size)
  refine Fx.L.v (.int .i64 (m.grant v.o v.of)) (x_assign rfl rfl) (Fx.L.nil (Fx.seqN (Fx.W.seq (Fx.W.seq (Fx.W.list (Fx.L.v (.int .i64 (m.grant v.o v.of)) (x_move rfl rfl) ?_))))))
  by_cases c24 : (m.grant v.o v.of) < 0
  ·refine Fx.L.v (.bool true) (Fx.x_lssT rfl rfl rfl c24) (Fx.L.v (.bool true) (x_move rfl rfl) (Fx.L.skip (by rfl) rfl (Fx.L.skip (by rfl) rfl (Fx.L.skip (by rfl) rfl (Fx.L.skip (by rfl) rfl (Fx.L.skip (by rfl) rfl (Fx.L.skip (by rfl) rfl (Fx.L.skip (by rfl) rfl (Fx.L.skip (by rfl) rfl (Fx.L.skip (by rfl) rfl (Fx.L.skip (by rfl) rfl (Fx.L.v (.bool true) (x_pickT rfl rfl rfl) (Fx.L.nil (Fx.seqN (Fx.W.cond (b := true) rfl (fun _ => Fx.W.seq (Fx.W.list (Fx.L.v (.int .i64 (12)) (x_assign rfl rfl) ?_))) (fun h => nomatch h))))))))))))))))
   refine Fx.L.nil (Fx.seqN (Fx.W.ret (Fx.seqR (⟨.int .i64 (12), Fx.retV1 Try.results123 (by exact rfl), ?_⟩))))
   have eN : regN v = a := by unfold regN; omega
   have ne1 : ¬ 0 ≤ m.core.askedN (regN v) v.req := by rw [eN]; exact of_decide_eq_false c16
   have ee : freesE m.core v = 12 := by unfold freesE; rw [if_neg ne1]; exact if_pos (.inl c24)
   exact ⟨congrArg (fun q => Ending.returned (Value.int .i64 q)) ee.symm, b4, fun h0 => by rw [ee] at h0; cases h0⟩
  ·obtain ⟨kg, hkg, ekg, _, _⟩ := grant_at c24
   have ekN : kgN m.core v = kg := by show (m.grant v.o v.of).toNat = kg; rw [ekg]; rfl
   refine Fx.L.v (.bool false) (Fx.x_lssF rfl rfl rfl c24) (Fx.L.v (.bool false) (x_move rfl rfl) (Fx.L.v (.pointer (some ⟨p, 0, none⟩)) (x_move rfl rfl) (Fx.L.v (.pointer (some ⟨p, 0, none⟩)) (x_nil rfl rfl) (Fx.L.v (.pointer (some ⟨p, 0, none⟩)) (x_field rfl rfl Try.underlying71 rfl (s := 20) (by kernel_rfl) rfl rfl) (Fx.L.v (.pointer (some ⟨p, 19, none⟩)) (x_field rfl rfl Try.underlying43 rfl (s := 1) (by kernel_rfl) rfl (by show _ + 19 = _; omega)) (Fx.L.v (.slice m.s.ga (m.s.gn) (m.s.gc)) (x_load1 (x := ldY m) rfl rfl (by kernel_rfl) m22.cel (i := 19) (by omega) (by omega) rfl) (Fx.L.v (.int .i64 ((kg : Int))) (x_move rfl (congrArg (Value.int .i64) ekg)) ?_)))))))
   obtain ⟨gq1, eq1⟩ := m24.addr (by omega)
   have m29 : Fx.Own w4 B 88 5 (.slice (some ⟨gq1, 0, none⟩) m.s.gn m.s.gc) m.s.gn (grX m) := m24.congV (congrArg (fun q => Value.slice q m.s.gn m.s.gc) eq1)
   refine Fx.L.v (.pointer (some ⟨gq1, 5 * kg, none⟩)) (x_indexS rfl (rfl.trans (congrArg (fun q => Value.slice q (m.s.gn) (m.s.gc)) eq1)) rfl Try.underlying41 (s := 5) (by kernel_rfl) (by omega) (by omega) (by omega)) (Fx.L.v (.pointer (some ⟨gq1, 5 * kg + 4, none⟩)) (x_field rfl rfl Try.underlying88 rfl (s := 1) (by kernel_rfl) rfl (by show _ + 4 = _; omega)) (Fx.L.v (.int .u64 ((m.g kg) 4)) (x_load1 (x := grX m) rfl rfl (by kernel_rfl) m29.cel (i := 5 * kg + 4) (by omega) (by omega) (Fx.flat_cell (k := kg) (j := 4) (by omega) (by omega) rfl)) ?_))
   by_cases c35 : ((m.g kg) 4) = 0
   ·refine Fx.L.v (.bool false) (Fx.x_neqF rfl rfl rfl c35) (Fx.L.v (.bool false) (x_pickF rfl rfl rfl) (Fx.L.nil (Fx.seqN (Fx.W.cond (b := false) rfl (fun h => nomatch h) (fun _ => Fx.W.skip (Fx.seqN (Fx.W.seq ?_)))))))
    obtain ⟨D, hD2, hD⟩ := hDx (m.g kg 2)
    -- region 6 draws
    refine Fx.W.reord [0, 1, 2, 4, 5, 6, 7, 9, 3, 8, 10, 11, 12, 13, 14] [0, 0, 0, 4, 0, 0, 0, 0, 4, 0, 0, 0, 4, 3, 0] Fx.Mk Fx.Mk.refl Fx.Mk.trans (certs := [(13, 3, [3]), (13, 8, [12, 11, 10, 8]), (13, 12, [12]), (14, 13, [13])]) (by kernel_rfl) (by kernel_rfl) (by kernel_rfl) (by kernel_rfl) (by kernel_rfl) fun wt1 hbwt1 hzwt1 => ?_
    have s5 : Fx.Stp w4.heap.size w4 wt1 := Fx.Stp.of_below hbwt1
    have m30 := m22.stp s5 (Nat.ne_of_lt (m22.lt))
    have m31 := m23.stp s5 (m23.notNew (Nat.le_refl _))
    have m32 := m25.stp s5 (Nat.ne_of_lt (m25.lt))
    have m33 := m26.stp s5 (m26.notNew (Nat.le_refl _))
    have m34 := m27.up s5.old
    have m35 := m28.stp s5 (Nat.ne_of_lt (m28.lt))
    have m36 := m29.stpB s5 (Nat.ne_of_lt (m29.lt))
    have b5 := s5.below b4 (Nat.le_trans hB b4.size) (Nat.le_trans hB b4.size)
    refine Fx.R.p (.pointer (some ⟨p, 0, none⟩)) (fun v1 => x_move rfl rfl) (Fx.R.p (.pointer (some ⟨p, 0, none⟩)) (fun v1 => x_nil rfl rfl) (Fx.R.p (.pointer (some ⟨p, 20, none⟩)) (fun v1 => x_field rfl rfl Try.underlying71 rfl (s := 1) (by kernel_rfl) rfl (by show _ + 20 = _; omega)) (Fx.R.p (.pointer (some ⟨p, 0, none⟩)) (fun v1 => x_move rfl rfl) (Fx.R.p (.pointer (some ⟨p, 0, none⟩)) (fun v1 => x_nil rfl rfl) (Fx.R.p (.pointer (some ⟨p, 0, none⟩)) (fun v1 => x_field rfl rfl Try.underlying71 rfl (s := 20) (by kernel_rfl) rfl rfl) (Fx.R.p (.pointer (some ⟨p, 19, none⟩)) (fun v1 => x_field rfl rfl Try.underlying43 rfl (s := 1) (by kernel_rfl) rfl (by show _ + 19 = _; omega)) (Fx.R.p (.int .i64 ((kg : Int))) (fun v1 => x_move rfl (congrArg (Value.int .i64) ekg)) (Fx.R.s (.pointer (some ⟨m.tb, 0, none⟩)) (x_load1 (x := ldY m) rfl rfl (by kernel_rfl) m30.cel (i := 20) (by omega) (by omega) rfl) ?_))))))))
    refine Fx.R.s (.slice m.s.ga (m.s.gn) (m.s.gc)) (x_load1 (x := ldY m) rfl rfl (by kernel_rfl) m30.cel (i := 19) (by omega) (by omega) rfl) ?_
    refine Fx.R.p (.pointer (some ⟨gq1, 5 * kg, none⟩)) (fun v1 => x_indexS rfl (rfl.trans (congrArg (fun q => Value.slice q (m.s.gn) (m.s.gc)) eq1)) rfl Try.underlying41 (s := 5) (by kernel_rfl) (by omega) (by omega) (by omega)) (Fx.R.p (.pointer (some ⟨gq1, 5 * kg + 2, none⟩)) (fun v1 => x_field rfl rfl Try.underlying88 rfl (s := 1) (by kernel_rfl) rfl (by show _ + 2 = _; omega)) (Fx.R.s (.int .u64 ((m.g kg) 2)) (x_load1 (x := grX m) rfl rfl (by kernel_rfl) m36.cel (i := 5 * kg + 2) (by omega) (by omega) (Fx.flat_cell (k := kg) (j := 2) (by omega) (by omega) rfl)) ?_))
    refine Fx.R.eff (by rfl) ?_
    refine Fx.L.call (by rfl) (Fx.r_call (args := [.pointer (some ⟨m.tb, 0, none⟩), .int .u64 ((m.g kg) 2)]) rfl rfl Try.func130 rfl rfl) rfl ((l_path m.tb m.ta m.tn m.tc m.t (m.g kg 2) D _ (ownTree m32 m33 bt) hD hD2).mono ?_)
    rintro e w5 ⟨K, vv, he, hown, hall1, hK1, hb4⟩
    obtain ⟨a1, cap1, rfl⟩ := hown.val
    refine ⟨.slice a1 K cap1, he, ?_⟩
    clear he
    have hKp : K = pathK m.t m.tn (m.g kg 2) := pathK_eq hall1 hK1 hD hD2
    have hKD : K ≤ 1000 := by rw [hKp]; exact lead_le _ _
    have s6 := Fx.Stp.of_below hb4
    have m37 := m30.stp s6 (Nat.ne_of_lt (m30.lt))
    have m38 := m31.stp s6 (m31.notNew (Nat.le_refl _))
    have m39 := m32.stp s6 (Nat.ne_of_lt (m32.lt))
    have m40 := m33.stp s6 (m33.notNew (Nat.le_refl _))
    have m41 := m34.up s6.old
    have m42 := m35.stp s6 (Nat.ne_of_lt (m35.lt))
    have m43 := m36.stpB s6 (Nat.ne_of_lt (m36.lt))
    have b6 := s6.below b5 (Nat.le_trans hB b5.size) (Nat.le_trans hB b5.size)
    refine Fx.L.nil (Fx.R.p (.slice a1 (K) (cap1)) (fun v1 => x_assign rfl rfl) (Fx.R.nil (Fx.seqN (Fx.W.seq (Fx.W.seq (Fx.W.list (Fx.L.v (.int .i64 (0)) (x_assign rfl rfl) ?_)))))))
    refine Fx.L.nil (Fx.seqN (Fx.W.block ?_))
    have m44 : Fx.Own w5 B 88 5 (.slice m.s.ga (m.s.gn) (m.s.gc)) m.s.gn (grX m) := m43.congV (congrArg (fun q => Value.slice q m.s.gn m.s.gc) eq1.symm)
    refine Fx.W.loop (fun f w_ => ∃ k : Nat, ∃ Rk : Nat → Nat → Int, k ≤ K ∧ walkR (fun x => freeM x v.o (m.g kg 3)) (idxT m.core (m.g kg 2)) m.R k = (Rk, 0) ∧ f 0 = .pointer (some ⟨p, 0, none⟩) ∧ f 3 = .pointer (some ⟨g1, 0, none⟩) ∧ f 6 = .slice a1 (K) (cap1) ∧ f 7 = .int .i64 ((k : Int)) ∧ f 5 = .int .i64 ((kg : Int)) ∧ Fx.Blk w_ p 27 (ldY m) 71 ∧ Fx.Blk w_ m.tb 1 (fun _ => .slice m.ta m.tn m.tc) 163 ∧ Fx.Own w_ B 178 2 (.slice m.ta (m.tn) (m.tc)) m.tn (trX m.t) ∧ Rqs w_ B 6 m ∧ Fx.Blk w_ g1 14 (evY v) 54 ∧ Fx.Own w_ B 88 5 (.slice m.s.ga (m.s.gn) (m.s.gc)) m.s.gn (grX m) ∧ Fx.Own w_ wt1.heap.size 27 1 (.slice a1 (K) (cap1)) K (Fx.rv .u64 (fun i => iterT m.t m.tn i (m.g kg 2))) ∧ Fx.Own w_ B 50 56 (.slice m.s.na (m.s.nn) (m.s.nc)) m.s.nn (Fx.flat 56 (fun kq => ndY (m.id kq) (m.par kq) (Rk kq))) ∧ Below B w w_) (fun f _ => (K - (intOf (f 7)).toNat)) ⟨0, m.R, by omega, rfl, (by rfl), (by rfl), (by rfl), (by first | rfl | exact congrArg (Value.int .i64) (by omega)), ((congrArg (Value.int .i64) ekg).trans (by first | rfl | exact congrArg (Value.int .i64) (by omega))), m37, m39, m40, m41, m42, m44, hown, m38, b6⟩ ?_
    rintro f1 w6 ⟨k, Rk, hk, hRk, h1, h2, h3, h4, h5, m45, m46, m47, m48, m49, m50, m51, m52, b7⟩
    refine Fx.W.seq (Fx.W.seq (Fx.W.list (Fx.L.v (.int .i64 ((k : Int))) (x_move rfl h4) (Fx.L.v (.slice a1 (K) (cap1)) (x_move rfl h3) (Fx.L.v (.int .i64 ((K : Int))) (x_len rfl rfl rfl (by kernel_rfl)) ?_)))))
    by_cases c54 : (k : Int) < (K : Int)
    ·refine Fx.L.v (.bool true) (Fx.x_lssT rfl rfl rfl c54) (Fx.L.nil (Fx.seqN (Fx.W.cond (b := true) rfl (fun _ => Fx.W.skip (Fx.seqN (Fx.W.seq (Fx.W.block (Fx.W.seq ?_))))) (fun h => nomatch h))))
     obtain ⟨q, hq, eq0, _⟩ := node_at (m := m) (x := iterT m.t m.tn k (m.g kg 2)) (by rw [hTN]; exact hall1 k (by omega))
     have ex1 : idxT m.core (m.g kg 2) k = q := by show (firstI (fun i => decide (m.id i = iterT m.t m.tn k (m.g kg 2))) m.s.nn).toNat = q; rw [eq0]; rfl
     refine Fx.W.list (Fx.L.v (.pointer (some ⟨p, 0, none⟩)) (x_move rfl h1) (Fx.L.v (.slice a1 (K) (cap1)) (x_move rfl h3) (Fx.L.v (.int .i64 ((k : Int))) (x_move rfl h4) ?_)))
     obtain ⟨gq2, eq2⟩ := m51.addr (by omega)
     have m53 : Fx.Own w6 wt1.heap.size 27 1 (.slice (some ⟨gq2, 0, none⟩) K cap1) K (Fx.rv .u64 (fun i => iterT m.t m.tn i (m.g kg 2))) := m51.congV (congrArg (fun q => Value.slice q K cap1) eq2)
     refine Fx.L.v (.pointer (some ⟨gq2, k, none⟩)) (x_indexS rfl (rfl.trans (congrArg (fun q => Value.slice q (K) (cap1)) eq2)) rfl Try.underlying68 (s := 1) (by kernel_rfl) (by omega) (by omega) (by omega)) (Fx.L.v (.int .u64 ((fun i => iterT m.t m.tn i (m.g kg 2)) k)) (x_load1 (x := Fx.rv .u64 (fun i => iterT m.t m.tn i (m.g kg 2))) rfl rfl (by kernel_rfl) m53.cel (i := k) (by omega) (by omega) rfl) ?_)
     have m54 : Fx.Own w6 wt1.heap.size 27 1 (.slice a1 (K) (cap1)) K (Fx.rv .u64 (fun i => iterT m.t m.tn i (m.g kg 2))) := m53.congV (congrArg (fun q => Value.slice q K cap1) eq2.symm)
     have hld3 : Ldg w6 p { m with R := Rk } := { c := m45.cel, an := m52.arr, ag := m50.arr, tc := m46.cel, at2 := m47.arr, ar := fun i hi => (m48.1 i hi).arr, bn := (by show m.s.nn ≤ 1000000; omega), bg := bg, bt := (by show m.tn ≤ 1000000; omega), br := hL.br }
     refine Fx.L.call (by rfl) (Fx.r_call (args := [.pointer (some ⟨p, 0, none⟩), .int .u64 ((fun i => iterT m.t m.tn i (m.g kg 2)) k)]) rfl rfl Try.func121 rfl rfl) rfl (((l_node { m with R := Rk } p (iterT m.t m.tn k (m.g kg 2)) _ hld3).mono (fun e w2 h2 => (⟨h2.1.trans (congrArg (fun z => Ending.returned (Value.int .i64 z)) eq0), h2.2⟩ : e = .returned (.int .i64 (q : Int)) ∧ _))).mono ?_)
     rintro e w7 ⟨he, hb5⟩
     refine ⟨.int .i64 ((q : Int)), by rw [he], ?_⟩
     clear he
     have s7 := Fx.Stp.of_below hb5
     have m55 := m45.stp s7 (Nat.ne_of_lt (m45.lt))
     have m56 := m46.stp s7 (Nat.ne_of_lt (m46.lt))
     have m57 := m47.stp s7 (m47.notNew (Nat.le_refl _))
     have m58 := m48.up s7.old
     have m59 := m49.stp s7 (Nat.ne_of_lt (m49.lt))
     have m60 := m50.stp s7 (m50.notNew (Nat.le_refl _))
     have m61 := m52.stp s7 (m52.notNew (Nat.le_refl _))
     have m62 := m54.stp s7 (m54.notNew (Nat.le_refl _))
     have b8 := s7.below b7 (Nat.le_trans hB b7.size) (Nat.le_trans hB b7.size)
     refine Fx.L.v (.int .i64 ((q : Int))) (x_assign rfl rfl) (Fx.L.nil (Fx.seqN (Fx.W.seq ?_)))
     -- region 11 draws
     obtain ⟨gq3, eq3⟩ := m61.addr (by omega)
     have m63 : Fx.Own w7 B 50 56 (.slice (some ⟨gq3, 0, none⟩) m.s.nn m.s.nc) m.s.nn (Fx.flat 56 (fun kq => ndY (m.id kq) (m.par kq) (Rk kq))) := m61.congV (congrArg (fun q => Value.slice q m.s.nn m.s.nc) eq3)
     obtain ⟨gq4, eq4⟩ := m60.addr (by omega)
     have m64 : Fx.Own w7 B 88 5 (.slice (some ⟨gq4, 0, none⟩) m.s.gn m.s.gc) m.s.gn (grX m) := m60.congV (congrArg (fun q => Value.slice q m.s.gn m.s.gc) eq4)
     refine Fx.W.one (T := 48) (T' := 48) (a := .tmp 9) (v := .tmp 85) (m := 54) (z := Fx.rv .i64 (fun _ => 0)) (y := Fx.rv .i64 ((freeM (Rk q) v.o ((m.g kg) 3)).1)) (u := .agg (Fx.varr 54 (Fx.rv .i64 ((freeM (Rk q) v.o ((m.g kg) 3)).1)))) 24 25 (List.replicate 27 (0, 2, [], [])) #[.pointer (some ⟨p, 0, none⟩), .pointer (some ⟨p, 0, none⟩), .pointer (some ⟨p, 0, none⟩), .pointer (some ⟨p, 18, none⟩), .slice m.s.na (m.s.nn) (m.s.nc), .int .i64 ((q : Int)), .pointer (some ⟨gq3, 56 * q, none⟩), .pointer (some ⟨gq3, 56 * q + 2, none⟩), .agg (Fx.varr 54 (Fx.rv .i64 (Rk q))), .pointer (some ⟨g1, 0, none⟩), .int .i64 (v.o), .pointer (some ⟨p, 0, none⟩), .pointer (some ⟨p, 0, none⟩), .pointer (some ⟨p, 0, none⟩), .pointer (some ⟨p, 19, none⟩), .slice m.s.ga (m.s.gn) (m.s.gc), .int .i64 ((kg : Int)), .pointer (some ⟨gq4, 5 * kg, none⟩), .pointer (some ⟨gq4, 5 * kg + 3, none⟩), .int .i64 ((m.g kg) 3), .tuple #[.agg (Fx.varr 54 (Fx.rv .i64 ((freeM (Rk q) v.o ((m.g kg) 3)).1))), .int .i64 ((freeM (Rk q) v.o ((m.g kg) 3)).2)], .tuple #[.agg (Fx.varr 54 (Fx.rv .i64 ((freeM (Rk q) v.o ((m.g kg) 3)).1))), .int .i64 ((freeM (Rk q) v.o ((m.g kg) 3)).2)], .agg (Fx.varr 54 (Fx.rv .i64 ((freeM (Rk q) v.o ((m.g kg) 3)).1))), .int .i64 ((freeM (Rk q) v.o ((m.g kg) 3)).2), undef, undef, .int .i64 ((freeM (Rk q) v.o ((m.g kg) 3)).2)] (by kernel_rfl) (by kernel_rfl) (by kernel_rfl) (by kernel_rfl) (by kernel_rfl) (by kernel_rfl) rfl (by kernel_rfl) rfl rfl (by kernel_rfl) (fun g2 => (show Fx.ev _ (.tmp 9) = .pointer (some ⟨g2, 0, none⟩) from by kernel_rfl)) (fun g2 => (show Fx.ev _ (.tmp 85) = .agg (Fx.varr 54 (Fx.rv .i64 ((freeM (Rk q) v.o ((m.g kg) 3)).1))) from by kernel_rfl)) (Fx.cells_agg _ _) (fun _ _ => rfl) (by kernel_rfl) (fun g2 => ?_) ?_
     ·refine ⟨?_, ?_, ?_, ?_, ?_, ?_, ?_, ?_, ?_, ?_, ?_, ?_, ?_, ?_, ?_, ?_, ?_, ?_, ?_, ?_, ?_, ?_, ?_, ?_, ?_, ?_, ?_, trivial⟩
      ·exact .inr (.inr (Fx.qb_yes (v := .pointer (some ⟨p, 0, none⟩)) (by kernel_rfl) (by kernel_rfl) (Fx.qbV fun v1 hv1 => x_move rfl ((Fx.fOne_out (by kernel_rfl)).trans h1))))
      ·exact .inr (.inr (Fx.qb_yes (v := .pointer (some ⟨p, 0, none⟩)) (by kernel_rfl) (by kernel_rfl) (Fx.qbV fun v1 hv1 => x_nil rfl (show Fx.ev _ (.tmp 64) = .pointer (some ⟨p, 0, none⟩) from by kernel_rfl))))
      ·exact .inr (.inr (Fx.qb_yes (v := .pointer (some ⟨p, 0, none⟩)) (by kernel_rfl) (by kernel_rfl) (Fx.qbV fun v1 hv1 => x_field rfl (show Fx.ev _ (.tmp 65) = .pointer (some ⟨p, 0, none⟩) from by kernel_rfl) Try.underlying71 rfl (s := 20) (by kernel_rfl) rfl rfl)))
      ·exact .inr (.inr (Fx.qb_yes (v := .pointer (some ⟨p, 18, none⟩)) (by kernel_rfl) (by kernel_rfl) (Fx.qbV fun v1 hv1 => x_field rfl (show Fx.ev _ (.tmp 66) = .pointer (some ⟨p, 0, none⟩) from by kernel_rfl) Try.underlying43 rfl (s := 1) (by kernel_rfl) rfl (by show _ + 18 = _; omega))))
      ·exact .inr (.inr (Fx.qb_yes (v := .slice m.s.na (m.s.nn) (m.s.nc)) (by kernel_rfl) (by kernel_rfl) (Fx.qbV fun v1 hv1 => x_load1 (x := ldY m) rfl (show Fx.ev _ (.tmp 67) = .pointer (some ⟨p, 18, none⟩) from by kernel_rfl) (by kernel_rfl) (m55.cel.below hv1 (by have := m55.lt; omega)) (i := 18) (by omega) (by omega) rfl)))
      ·exact .inr (.inr (Fx.qb_yes (v := .int .i64 ((q : Int))) (by kernel_rfl) (by kernel_rfl) (Fx.qbV fun v1 hv1 => x_move rfl (show Fx.ev _ (.tmp 8) = .int .i64 ((q : Int)) from by kernel_rfl))))
      ·exact .inr (.inr (Fx.qb_yes (v := .pointer (some ⟨gq3, 56 * q, none⟩)) (by kernel_rfl) (by kernel_rfl) (Fx.qbV fun v1 hv1 => x_indexS rfl ((show Fx.ev _ (.tmp 68) = .slice m.s.na (m.s.nn) (m.s.nc) from by kernel_rfl).trans (congrArg (fun q => Value.slice q (m.s.nn) (m.s.nc)) eq3)) (show Fx.ev _ (.tmp 69) = .int .i64 ((q : Int)) from by kernel_rfl) Try.underlying40 (s := 56) (by kernel_rfl) (by omega) (by omega) (by omega))))
      ·exact .inr (.inr (Fx.qb_yes (v := .pointer (some ⟨gq3, 56 * q + 2, none⟩)) (by kernel_rfl) (by kernel_rfl) (Fx.qbV fun v1 hv1 => x_field rfl (show Fx.ev _ (.tmp 70) = .pointer (some ⟨gq3, 56 * q, none⟩) from by kernel_rfl) Try.underlying50 rfl (s := 54) (by kernel_rfl) rfl (by show _ + 2 = _; omega))))
      ·exact .inr (.inr (Fx.qb_yes (v := .agg (Fx.varr 54 (Fx.rv .i64 (Rk q)))) (by kernel_rfl) (by kernel_rfl) (Fx.qbV fun v1 hv1 => x_loadA (x := Fx.flat 56 (fun kq => ndY (m.id kq) (m.par kq) (Rk kq))) (y := Fx.rv .i64 (Rk q)) rfl (show Fx.ev _ (.tmp 71) = .pointer (some ⟨gq3, 56 * q + 2, none⟩) from by kernel_rfl) (by kernel_rfl) (by kernel_rfl) (m63.cel.below hv1 (by have := m63.lt; omega)) (i := 56 * q + 2) (by omega) (by omega) (fun jq hjq => (Fx.flat_at (k := q) (j := 2 + jq) (by omega) (by omega)).trans ((fun jq _ => ndY_row _ _ _ jq) jq hjq)))))
      ·exact .inr (.inr (Fx.qb_yes (v := .pointer (some ⟨g1, 0, none⟩)) (by kernel_rfl) (by kernel_rfl) (Fx.qbV fun v1 hv1 => x_field rfl ((Fx.fOne_out (by kernel_rfl)).trans h2) Try.underlying54 rfl (s := 1) (by kernel_rfl) rfl rfl)))
      ·exact .inr (.inr (Fx.qb_yes (v := .int .i64 (v.o)) (by kernel_rfl) (by kernel_rfl) (Fx.qbV fun v1 hv1 => x_load1 (x := evY v) rfl (show Fx.ev _ (.tmp 73) = .pointer (some ⟨g1, 0, none⟩) from by kernel_rfl) (by kernel_rfl) (m59.cel.below hv1 (by have := m59.lt; omega)) (i := 0) (by omega) (by omega) rfl)))
      ·exact .inr (.inr (Fx.qb_yes (v := .pointer (some ⟨p, 0, none⟩)) (by kernel_rfl) (by kernel_rfl) (Fx.qbV fun v1 hv1 => x_move rfl ((Fx.fOne_out (by kernel_rfl)).trans h1))))
      ·exact .inr (.inr (Fx.qb_yes (v := .pointer (some ⟨p, 0, none⟩)) (by kernel_rfl) (by kernel_rfl) (Fx.qbV fun v1 hv1 => x_nil rfl (show Fx.ev _ (.tmp 75) = .pointer (some ⟨p, 0, none⟩) from by kernel_rfl))))
      ·exact .inr (.inr (Fx.qb_yes (v := .pointer (some ⟨p, 0, none⟩)) (by kernel_rfl) (by kernel_rfl) (Fx.qbV fun v1 hv1 => x_field rfl (show Fx.ev _ (.tmp 76) = .pointer (some ⟨p, 0, none⟩) from by kernel_rfl) Try.underlying71 rfl (s := 20) (by kernel_rfl) rfl rfl)))
      ·exact .inr (.inr (Fx.qb_yes (v := .pointer (some ⟨p, 19, none⟩)) (by kernel_rfl) (by kernel_rfl) (Fx.qbV fun v1 hv1 => x_field rfl (show Fx.ev _ (.tmp 77) = .pointer (some ⟨p, 0, none⟩) from by kernel_rfl) Try.underlying43 rfl (s := 1) (by kernel_rfl) rfl (by show _ + 19 = _; omega))))
      ·exact .inr (.inr (Fx.qb_yes (v := .slice m.s.ga (m.s.gn) (m.s.gc)) (by kernel_rfl) (by kernel_rfl) (Fx.qbV fun v1 hv1 => x_load1 (x := ldY m) rfl (show Fx.ev _ (.tmp 78) = .pointer (some ⟨p, 19, none⟩) from by kernel_rfl) (by kernel_rfl) (m55.cel.below hv1 (by have := m55.lt; omega)) (i := 19) (by omega) (by omega) rfl)))
      ·exact .inr (.inr (Fx.qb_yes (v := .int .i64 ((kg : Int))) (by kernel_rfl) (by kernel_rfl) (Fx.qbV fun v1 hv1 => x_move rfl ((Fx.fOne_out (by kernel_rfl)).trans h5))))
      ·exact .inr (.inr (Fx.qb_yes (v := .pointer (some ⟨gq4, 5 * kg, none⟩)) (by kernel_rfl) (by kernel_rfl) (Fx.qbV fun v1 hv1 => x_indexS rfl ((show Fx.ev _ (.tmp 79) = .slice m.s.ga (m.s.gn) (m.s.gc) from by kernel_rfl).trans (congrArg (fun q => Value.slice q (m.s.gn) (m.s.gc)) eq4)) (show Fx.ev _ (.tmp 80) = .int .i64 ((kg : Int)) from by kernel_rfl) Try.underlying41 (s := 5) (by kernel_rfl) (by omega) (by omega) (by omega))))
      ·exact .inr (.inr (Fx.qb_yes (v := .pointer (some ⟨gq4, 5 * kg + 3, none⟩)) (by kernel_rfl) (by kernel_rfl) (Fx.qbV fun v1 hv1 => x_field rfl (show Fx.ev _ (.tmp 81) = .pointer (some ⟨gq4, 5 * kg, none⟩) from by kernel_rfl) Try.underlying88 rfl (s := 1) (by kernel_rfl) rfl (by show _ + 3 = _; omega))))
      ·exact .inr (.inr (Fx.qb_yes (v := .int .i64 ((m.g kg) 3)) (by kernel_rfl) (by kernel_rfl) (Fx.qbV fun v1 hv1 => x_load1 (x := grX m) rfl (show Fx.ev _ (.tmp 82) = .pointer (some ⟨gq4, 5 * kg + 3, none⟩) from by kernel_rfl) (by kernel_rfl) (m64.cel.below hv1 (by have := m64.lt; omega)) (i := 5 * kg + 3) (by omega) (by omega) (Fx.flat_cell (k := kg) (j := 3) (by omega) (by omega) rfl))))
      ·exact .inr (.inr (Fx.qb_yes (v := .tuple #[.agg (Fx.varr 54 (Fx.rv .i64 ((freeM (Rk q) v.o ((m.g kg) 3)).1))), .int .i64 ((freeM (Rk q) v.o ((m.g kg) 3)).2)]) (by kernel_rfl) (by kernel_rfl) (Fx.qbC (fun v1 hv1 => Fx.r_call (args := [.agg (Fx.varr 54 (Fx.rv .i64 (Rk q))), .int .i64 (v.o), .int .i64 ((m.g kg) 3)]) rfl (Fx.args3 (show Fx.ev _ (.tmp 72) = .agg (Fx.varr 54 (Fx.rv .i64 (Rk q))) from by kernel_rfl) (show Fx.ev _ (.tmp 74) = .int .i64 (v.o) from by kernel_rfl) (show Fx.ev _ (.tmp 83) = .int .i64 ((m.g kg) 3) from by kernel_rfl)) Try.func94 rfl rfl) (fun v1 hv1 => (f7_free (Rk q) v.o ((m.g kg) 3) _).mono fun e v2 h => ⟨h.1, h.2⟩))))
      ·exact .inr (.inr (Fx.qb_yes (v := .tuple #[.agg (Fx.varr 54 (Fx.rv .i64 ((freeM (Rk q) v.o ((m.g kg) 3)).1))), .int .i64 ((freeM (Rk q) v.o ((m.g kg) 3)).2)]) (by kernel_rfl) (by kernel_rfl) (Fx.qbV fun v1 hv1 => x_move rfl (show Fx.ev _ (.tmp 84) = .tuple #[.agg (Fx.varr 54 (Fx.rv .i64 ((freeM (Rk q) v.o ((m.g kg) 3)).1))), .int .i64 ((freeM (Rk q) v.o ((m.g kg) 3)).2)] from by kernel_rfl))))
      ·exact .inr (.inr (Fx.qb_yes (v := .agg (Fx.varr 54 (Fx.rv .i64 ((freeM (Rk q) v.o ((m.g kg) 3)).1)))) (by kernel_rfl) (by kernel_rfl) (Fx.qbV fun v1 hv1 => Fx.x_extract rfl (show Fx.ev _ (.tmp 63) = .tuple #[.agg (Fx.varr 54 (Fx.rv .i64 ((freeM (Rk q) v.o ((m.g kg) 3)).1))), .int .i64 ((freeM (Rk q) v.o ((m.g kg) 3)).2)] from by kernel_rfl) rfl)))
      ·exact .inr (.inr (Fx.qb_yes (v := .int .i64 ((freeM (Rk q) v.o ((m.g kg) 3)).2)) (by kernel_rfl) (by kernel_rfl) (Fx.qbV fun v1 hv1 => Fx.x_extract rfl (show Fx.ev _ (.tmp 63) = .tuple #[.agg (Fx.varr 54 (Fx.rv .i64 ((freeM (Rk q) v.o ((m.g kg) 3)).1))), .int .i64 ((freeM (Rk q) v.o ((m.g kg) 3)).2)] from by kernel_rfl) rfl)))
      ·exact .inl rfl
      ·exact .inr (.inl rfl)
      ·exact .inr (.inr (Fx.qb_yes (v := .int .i64 ((freeM (Rk q) v.o ((m.g kg) 3)).2)) (by kernel_rfl) (by kernel_rfl) (Fx.qbV fun v1 hv1 => x_assign rfl (show Fx.ev _ (.tmp 86) = .int .i64 ((freeM (Rk q) v.o ((m.g kg) 3)).2) from by kernel_rfl))))
     ·rintro g2 w8 f2 hf1 lg2 m65 hb6
      have s8 := Fx.Stp.of_below hb6
      have ng2m55 : p ≠ g2 := Nat.ne_of_lt (Nat.lt_of_lt_of_le (m55.lt) lg2)
      have ng2m56 : m.tb ≠ g2 := Nat.ne_of_lt (Nat.lt_of_lt_of_le (m56.lt) lg2)
      have ng2m59 : g1 ≠ g2 := Nat.ne_of_lt (Nat.lt_of_lt_of_le (m59.lt) lg2)
      have ng2m63 : gq3 ≠ g2 := Nat.ne_of_lt (Nat.lt_of_lt_of_le (m63.lt) lg2)
      have ng2m64 : gq4 ≠ g2 := Nat.ne_of_lt (Nat.lt_of_lt_of_le (m64.lt) lg2)
      have m66 := m55.stp s8 (Nat.ne_of_lt (m55.lt))
      have m67 := m56.stp s8 (Nat.ne_of_lt (m56.lt))
      have m68 := m57.stp s8 (m57.notNew (Nat.le_refl _))
      have m69 := m58.up s8.old
      have m70 := m59.stp s8 (Nat.ne_of_lt (m59.lt))
      have m71 := m62.stp s8 (m62.notNew (Nat.le_refl _))
      have m72 := m63.stpB s8 (Nat.ne_of_lt (m63.lt))
      have m73 := m64.stpB s8 (Nat.ne_of_lt (m64.lt))
      have b9 := s8.below b8 (Nat.le_trans hB b8.size) (Nat.le_trans hB b8.size)
      have lg2 : w.heap.size ≤ g2 := Nat.le_trans b8.size lg2
      have tg2 : g2 < w8.heap.size := m65.lt
      have q1 : f2 0 = .pointer (some ⟨p, 0, none⟩) := by rw [hf1]; exact (Fx.fOne_out (by kernel_rfl)).trans h1
      have q2 : f2 3 = .pointer (some ⟨g1, 0, none⟩) := by rw [hf1]; exact (Fx.fOne_out (by kernel_rfl)).trans h2
      have q3 : f2 6 = .slice a1 (K) (cap1) := by rw [hf1]; exact (Fx.fOne_out (by kernel_rfl)).trans h3
      have q4 : f2 7 = .int .i64 ((k : Int)) := by rw [hf1]; exact (Fx.fOne_out (by kernel_rfl)).trans h4
      have q5 : f2 5 = .int .i64 ((kg : Int)) := by rw [hf1]; exact (Fx.fOne_out (by kernel_rfl)).trans h5
      have q6 : f2 51 = .int .i64 ((k : Int)) := by rw [hf1]; kernel_rfl
      have q7 : f2 52 = .slice a1 (K) (cap1) := by rw [hf1]; kernel_rfl
      have q8 : f2 53 = .int .i64 ((K : Int)) := by rw [hf1]; kernel_rfl
      have q9 : f2 54 = .bool true := by rw [hf1]; kernel_rfl
      have q10 : f2 57 = .pointer (some ⟨p, 0, none⟩) := by rw [hf1]; kernel_rfl
      have q11 : f2 58 = .slice a1 (K) (cap1) := by rw [hf1]; kernel_rfl
      have q12 : f2 59 = .int .i64 ((k : Int)) := by rw [hf1]; kernel_rfl
      have q13 : f2 60 = .pointer (some ⟨gq2, k, none⟩) := by rw [hf1]; kernel_rfl
      have q14 : f2 61 = .int .u64 ((fun i => iterT m.t m.tn i (m.g kg 2)) k) := by rw [hf1]; kernel_rfl
      have q15 : f2 62 = .int .i64 ((q : Int)) := by rw [hf1]; kernel_rfl
      have q16 : f2 8 = .int .i64 ((q : Int)) := by rw [hf1]; kernel_rfl
      have q17 : f2 64 = .pointer (some ⟨p, 0, none⟩) := by rw [hf1]; kernel_rfl
      have q18 : f2 65 = .pointer (some ⟨p, 0, none⟩) := by rw [hf1]; kernel_rfl
      have q19 : f2 66 = .pointer (some ⟨p, 0, none⟩) := by rw [hf1]; kernel_rfl
      have q20 : f2 67 = .pointer (some ⟨p, 18, none⟩) := by rw [hf1]; kernel_rfl
      have q21 : f2 68 = .slice m.s.na (m.s.nn) (m.s.nc) := by rw [hf1]; kernel_rfl
      have q22 : f2 69 = .int .i64 ((q : Int)) := by rw [hf1]; kernel_rfl
      have q23 : f2 70 = .pointer (some ⟨gq3, 56 * q, none⟩) := by rw [hf1]; kernel_rfl
      have q24 : f2 71 = .pointer (some ⟨gq3, 56 * q + 2, none⟩) := by rw [hf1]; kernel_rfl
      have q25 : f2 72 = .agg (Fx.varr 54 (Fx.rv .i64 (Rk q))) := by rw [hf1]; kernel_rfl
      have q26 : f2 73 = .pointer (some ⟨g1, 0, none⟩) := by rw [hf1]; kernel_rfl
      have q27 : f2 74 = .int .i64 (v.o) := by rw [hf1]; kernel_rfl
      have q28 : f2 75 = .pointer (some ⟨p, 0, none⟩) := by rw [hf1]; kernel_rfl
      have q29 : f2 76 = .pointer (some ⟨p, 0, none⟩) := by rw [hf1]; kernel_rfl
      have q30 : f2 77 = .pointer (some ⟨p, 0, none⟩) := by rw [hf1]; kernel_rfl
      have q31 : f2 78 = .pointer (some ⟨p, 19, none⟩) := by rw [hf1]; kernel_rfl
      have q32 : f2 79 = .slice m.s.ga (m.s.gn) (m.s.gc) := by rw [hf1]; kernel_rfl
      have q33 : f2 80 = .int .i64 ((kg : Int)) := by rw [hf1]; kernel_rfl
      have q34 : f2 81 = .pointer (some ⟨gq4, 5 * kg, none⟩) := by rw [hf1]; kernel_rfl
      have q35 : f2 82 = .pointer (some ⟨gq4, 5 * kg + 3, none⟩) := by rw [hf1]; kernel_rfl
      have q36 : f2 83 = .int .i64 ((m.g kg) 3) := by rw [hf1]; kernel_rfl
      have q37 : f2 84 = .tuple #[.agg (Fx.varr 54 (Fx.rv .i64 ((freeM (Rk q) v.o ((m.g kg) 3)).1))), .int .i64 ((freeM (Rk q) v.o ((m.g kg) 3)).2)] := by rw [hf1]; kernel_rfl
      have q38 : f2 63 = .tuple #[.agg (Fx.varr 54 (Fx.rv .i64 ((freeM (Rk q) v.o ((m.g kg) 3)).1))), .int .i64 ((freeM (Rk q) v.o ((m.g kg) 3)).2)] := by rw [hf1]; kernel_rfl
      have q39 : f2 85 = .agg (Fx.varr 54 (Fx.rv .i64 ((freeM (Rk q) v.o ((m.g kg) 3)).1))) := by rw [hf1]; kernel_rfl
      have q40 : f2 86 = .int .i64 ((freeM (Rk q) v.o ((m.g kg) 3)).2) := by rw [hf1]; kernel_rfl
      have q41 : f2 9 = .pointer (some ⟨g2, 0, none⟩) := by rw [hf1]; kernel_rfl
      have q42 : f2 10 = .int .i64 ((freeM (Rk q) v.o ((m.g kg) 3)).2) := by rw [hf1]; kernel_rfl
      clear hf1
      refine Fx.seqN (Fx.W.seq (Fx.W.seq (Fx.W.list (Fx.L.v (.int .i64 ((freeM (Rk q) v.o ((m.g kg) 3)).2)) (x_move rfl q42) ?_))))
      by_cases c88 : ((freeM (Rk q) v.o ((m.g kg) 3)).2) = 0
      ·refine Fx.L.v (.bool false) (Fx.x_neqF rfl rfl rfl c88) (Fx.L.nil (Fx.seqN (Fx.W.cond (b := false) rfl (fun h => nomatch h) (fun _ => Fx.W.skip (Fx.seqN ?_)))))
       -- region 14 draws
       refine Fx.W.reord [0, 1, 2, 3, 5, 4, 6, 7, 8, 9] [0, 0, 0, 0, 4, 0, 4, 0, 0, 3] Fx.Mk Fx.Mk.refl Fx.Mk.trans (certs := [(9, 4, [4]), (9, 6, [6])]) (by kernel_rfl) (by kernel_rfl) (by kernel_rfl) (by kernel_rfl) (by kernel_rfl) fun wt2 hbwt2 hzwt2 => ?_
       have s9 : Fx.Stp w8.heap.size w8 wt2 := Fx.Stp.of_below hbwt2
       have m74 := m66.stp s9 (Nat.ne_of_lt (m66.lt))
       have m75 := m67.stp s9 (Nat.ne_of_lt (m67.lt))
       have m76 := m68.stp s9 (m68.notNew (Nat.le_refl _))
       have m77 := m69.up s9.old
       have m78 := m70.stp s9 (Nat.ne_of_lt (m70.lt))
       have m79 := m71.stp s9 (m71.notNew (Nat.le_refl _))
       have m80 := m72.stpB s9 (Nat.ne_of_lt (m72.lt))
       have m81 := m73.stpB s9 (Nat.ne_of_lt (m73.lt))
       have m82 := m65.stp s9 (Nat.ne_of_lt (m65.lt))
       have b10 := s9.below b9 (Nat.le_trans hB b9.size) (Nat.le_trans hB b9.size)
       refine Fx.R.p (.pointer (some ⟨p, 0, none⟩)) (fun v1 => x_move rfl q1) (Fx.R.p (.pointer (some ⟨p, 0, none⟩)) (fun v1 => x_nil rfl rfl) (Fx.R.p (.pointer (some ⟨p, 0, none⟩)) (fun v1 => x_field rfl rfl Try.underlying71 rfl (s := 20) (by kernel_rfl) rfl rfl) (Fx.R.p (.pointer (some ⟨p, 18, none⟩)) (fun v1 => x_field rfl rfl Try.underlying43 rfl (s := 1) (by kernel_rfl) rfl (by show _ + 18 = _; omega)) (Fx.R.p (.int .i64 ((q : Int))) (fun v1 => x_move rfl q16) (Fx.R.s (.slice m.s.na (m.s.nn) (m.s.nc)) (x_load1 (x := ldY m) rfl rfl (by kernel_rfl) m74.cel (i := 18) (by omega) (by omega) rfl) ?_)))))
       refine Fx.R.s (.agg (Fx.varr 54 (Fx.rv .i64 ((freeM (Rk q) v.o ((m.g kg) 3)).1)))) (x_loadA (x := Fx.rv .i64 ((freeM (Rk q) v.o ((m.g kg) 3)).1)) (y := Fx.rv .i64 ((freeM (Rk q) v.o ((m.g kg) 3)).1)) rfl q41 (by kernel_rfl) (by kernel_rfl) m82.cel (i := 0) (by omega) (by omega) (fun j _ => by rw [Nat.zero_add])) ?_
       refine Fx.R.p (.pointer (some ⟨gq3, 56 * q, none⟩)) (fun v1 => x_indexS rfl (rfl.trans (congrArg (fun q => Value.slice q (m.s.nn) (m.s.nc)) eq3)) rfl Try.underlying40 (s := 56) (by kernel_rfl) (by omega) (by omega) (by omega)) (Fx.R.p (.pointer (some ⟨gq3, 56 * q + 2, none⟩)) (fun v1 => x_field rfl rfl Try.underlying50 rfl (s := 54) (by kernel_rfl) rfl (by show _ + 2 = _; omega)) (Fx.R.eff (by rfl) ?_))
       refine Fx.L.ownA (x := Fx.flat 56 (fun kq => ndY (m.id kq) (m.par kq) (Rk kq))) (y := Fx.rv .i64 ((freeM (Rk q) v.o ((m.g kg) 3)).1)) (by rfl) rfl rfl rfl rfl (fun _ _ => rfl) (by kernel_rfl) m80 (i := 56 * q + 2) (by omega) fun w9 m83 s10 z2 => ?_
       have hct1 := Fx.ChT.of_stp s10 m80.tyB
       have m84 := m74.chT hct1 (by decide)
       have m85 := m75.chT hct1 (by decide)
       have m86 := m76.chT hct1 (by decide)
       have m87 := m77.chT hct1 (by decide)
       have m88 := m78.chT hct1 (by decide)
       have m89 := m79.chT hct1 (by decide)
       have m90 := m81.chT hct1 (by decide)
       have b11 := s10.below b10 (Nat.le_trans hB b10.size) m80.blk.1
       have m92 : Fx.Own w9 B 50 56 (.slice (some ⟨gq3, 0, none⟩) m.s.nn m.s.nc) m.s.nn (Fx.flat 56 (fun kq => ndY (m.id kq) (m.par kq) (updA Rk q ((freeM (Rk q) v.o ((m.g kg) 3)).1) kq))) := m83.congr (fun pq hp => (Fx.ovrS_flat (k := q) (j := 2) (by omega) (by omega) pq hp).trans (Fx.flat_cong (fun i hi j hj => ndR_store i hi j hj) pq hp))
       refine Fx.L.nil (Fx.R.nil (Fx.blkN (Fx.seqN (Fx.W.list (Fx.L.v (.int .i64 ((k : Int))) (x_move rfl q4) (Fx.L.v (.int .i64 ((k : Int) + 1)) (Fx.x_add rfl rfl rfl (Fx.i64e (by omega) (by omega))) (Fx.L.v (.int .i64 ((k : Int) + 1)) (x_assign rfl rfl) (Fx.L.nil ?_))))))))
       have m93 : Fx.Own w9 B 88 5 (.slice m.s.ga (m.s.gn) (m.s.gc)) m.s.gn (grX m) := m90.congV (congrArg (fun q => Value.slice q m.s.gn m.s.gc) eq4.symm)
       have m94 : Fx.Own w9 B 50 56 (.slice m.s.na (m.s.nn) (m.s.nc)) m.s.nn (Fx.flat 56 (fun kq => ndY (m.id kq) (m.par kq) (updA Rk q ((freeM (Rk q) v.o ((m.g kg) 3)).1) kq))) := m92.congV (congrArg (fun q => Value.slice q m.s.nn m.s.nc) eq3.symm)
       refine Fx.lpN ⟨k + 1, (updA Rk q (freeM (Rk q) v.o (m.g kg 3)).1), by omega, (walkR_step hRk ex1 (by first | exact c88 | exact Classical.not_not.1 c88)), q1, q2, q3, (by first | rfl | exact congrArg (Value.int .i64) (by omega)), (q5.trans (by first | rfl | exact congrArg (Value.int .i64) (by omega))), m84, m85, m86, m87, m88, m93, m89, m94, b11⟩ ?_
       show (K - (intOf ((.int .i64 ((k : Int) + 1)))).toNat) < _
       simp only [h4, intOf]; omega
      ·refine Fx.L.v (.bool true) (Fx.x_neqT rfl rfl rfl c88) (Fx.L.nil (Fx.seqN (Fx.W.cond (b := true) rfl (fun _ => Fx.W.seq (Fx.W.list (Fx.L.v (.int .i64 ((freeM (Rk q) v.o ((m.g kg) 3)).2)) (x_move rfl q42) ?_))) (fun h => nomatch h))))
       refine Fx.L.v (.int .i64 ((freeM (Rk q) v.o ((m.g kg) 3)).2)) (x_assign rfl rfl) (Fx.L.nil (Fx.seqN (Fx.W.ret (Fx.seqR (Fx.blkR (Fx.seqR (Fx.lpR (Fx.blkR (Fx.seqR (⟨.int .i64 ((freeM (Rk q) v.o ((m.g kg) 3)).2), Fx.retV1 Try.results123 (by exact rfl), ?_⟩))))))))))
       have eN : regN v = a := by unfold regN; omega
       have ne1 : ¬ 0 ≤ m.core.askedN (regN v) v.req := by rw [eN]; exact of_decide_eq_false c16
       have ne2 : ¬ (m.core.grant v.o v.of < 0 ∨ m.core.g (kgN m.core v) 4 ≠ 0) := by rw [ekN]; exact fun h => h.elim c24 (fun h => h c35)
       have ew : freesW m.core v = walkR (fun x => freeM x v.o (m.g kg 3)) (idxT m.core (m.g kg 2)) m.R K := by unfold freesW; rw [ekN, show pathK m.core.t m.core.tn (m.core.g kg 2) = K from hKp.symm]; rfl
       have ee : freesE m.core v = (freeM (Rk q) v.o (m.g kg 3)).2 := by
        unfold freesE; rw [if_neg ne1, if_neg ne2, ew]
        have e1 := walkR_err hRk ex1 c88
        rw [walkR_stop (k := k + 1) (by rw [e1]; exact c88) K (by omega)]; exact e1
       exact ⟨congrArg (fun q => Ending.returned (Value.int .i64 q)) ee.symm, b9, fun h0 => absurd (ee.symm.trans h0) c88⟩
    ·refine Fx.L.v (.bool false) (Fx.x_lssF rfl rfl rfl c54) (Fx.L.nil (Fx.seqN (Fx.W.cond (b := false) rfl (fun h => nomatch h) (fun _ => Fx.W.exit (Fx.seqX (Fx.lpX (Fx.blkX (Fx.seqN (Fx.W.seq ?_)))))))))
     have hRK : walkR (fun x => freeM x v.o (m.g kg 3)) (idxT m.core (m.g kg 2)) m.R K = (Rk, 0) := by rw [show K = k by omega]; exact hRk
     -- region 15 draws
     refine Fx.W.reord [0, 1, 2, 3, 5, 6, 4, 7, 8, 9, 10] [0, 0, 0, 0, 4, 0, 0, 4, 0, 0, 3] Fx.Mk Fx.Mk.refl Fx.Mk.trans (certs := [(10, 4, [4]), (10, 7, [7])]) (by kernel_rfl) (by kernel_rfl) (by kernel_rfl) (by kernel_rfl) (by kernel_rfl) fun wt3 hbwt3 hzwt3 => ?_
     have s11 : Fx.Stp w6.heap.size w6 wt3 := Fx.Stp.of_below hbwt3
     have m95 := m45.stp s11 (Nat.ne_of_lt (m45.lt))
     have m96 := m46.stp s11 (Nat.ne_of_lt (m46.lt))
     have m97 := m47.stp s11 (m47.notNew (Nat.le_refl _))
     have m98 := m48.up s11.old
     have m99 := m49.stp s11 (Nat.ne_of_lt (m49.lt))
     have m100 := m50.stp s11 (m50.notNew (Nat.le_refl _))
     have m102 := m52.stp s11 (m52.notNew (Nat.le_refl _))
     have b12 := s11.below b7 (Nat.le_trans hB b7.size) (Nat.le_trans hB b7.size)
     refine Fx.R.p (.pointer (some ⟨p, 0, none⟩)) (fun v1 => x_move rfl h1) (Fx.R.p (.pointer (some ⟨p, 0, none⟩)) (fun v1 => x_nil rfl rfl) (Fx.R.p (.pointer (some ⟨p, 0, none⟩)) (fun v1 => x_field rfl rfl Try.underlying71 rfl (s := 20) (by kernel_rfl) rfl rfl) (Fx.R.p (.pointer (some ⟨p, 19, none⟩)) (fun v1 => x_field rfl rfl Try.underlying43 rfl (s := 1) (by kernel_rfl) rfl (by show _ + 19 = _; omega)) (Fx.R.p (.int .i64 ((kg : Int))) (fun v1 => x_move rfl h5) (Fx.R.p (.pointer (some ⟨g1, 12, none⟩)) (fun v1 => x_field rfl h2 Try.underlying54 rfl (s := 1) (by kernel_rfl) rfl (by show _ + 12 = _; omega)) (Fx.R.s (.slice m.s.ga (m.s.gn) (m.s.gc)) (x_load1 (x := ldY m) rfl rfl (by kernel_rfl) m95.cel (i := 19) (by omega) (by omega) rfl) ?_))))))
     refine Fx.R.s (.int .u64 (v.req)) (x_load1 (x := evY v) rfl rfl (by kernel_rfl) m99.cel (i := 12) (by omega) (by omega) rfl) ?_
     obtain ⟨gq5, eq5⟩ := m100.addr (by omega)
     have m103 : Fx.Own wt3 B 88 5 (.slice (some ⟨gq5, 0, none⟩) m.s.gn m.s.gc) m.s.gn (grX m) := m100.congV (congrArg (fun q => Value.slice q m.s.gn m.s.gc) eq5)
     refine Fx.R.p (.pointer (some ⟨gq5, 5 * kg, none⟩)) (fun v1 => x_indexS rfl (rfl.trans (congrArg (fun q => Value.slice q (m.s.gn) (m.s.gc)) eq5)) rfl Try.underlying41 (s := 5) (by kernel_rfl) (by omega) (by omega) (by omega)) (Fx.R.p (.pointer (some ⟨gq5, 5 * kg + 4, none⟩)) (fun v1 => x_field rfl rfl Try.underlying88 rfl (s := 1) (by kernel_rfl) rfl (by show _ + 4 = _; omega)) (Fx.R.eff (by rfl) ?_))
     refine Fx.L.own1 (x := grX m) (u := .int .u64 (v.req)) (by rfl) rfl rfl rfl rfl (by rfl) (by kernel_rfl) m103 (i := 5 * kg + 4) (by omega) fun w10 m104 s12 z3 => ?_
     have hct2 := Fx.ChT.of_stp s12 m103.tyB
     have m105 := m95.chT hct2 (by decide)
     have m106 := m96.chT hct2 (by decide)
     have m107 := m97.chT hct2 (by decide)
     have m108 := m98.chT hct2 (by decide)
     have m109 := m99.chT hct2 (by decide)
     have m111 := m102.chT hct2 (by decide)
     have b13 := s12.below b12 (Nat.le_trans hB b12.size) m103.blk.1
     have m112 : Fx.Own w10 B 88 5 (.slice (some ⟨gq5, 0, none⟩) m.s.gn m.s.gc) m.s.gn (Fx.flat 5 (fun kq => grY (updA m.g kg (updA (m.g kg) 4 v.req) kq))) := m104.congr (fun pq hp => (Fx.updV_flat (k := kg) (j := 4) (by omega) (by omega) pq hp).trans (Fx.flat_cong (fun i hi j hj => grB_store i hi j hj) pq hp))
     refine Fx.L.nil (Fx.R.nil (Fx.seqN (Fx.W.seq ?_)))
     have m113 : Fx.Own w10 B 88 5 (.slice m.s.ga (m.s.gn) (m.s.gc)) m.s.gn (Fx.flat 5 (fun kq => grY (updA m.g kg (updA (m.g kg) 4 v.req) kq))) := m112.congV (congrArg (fun q => Value.slice q m.s.gn m.s.gc) eq5.symm)
     have m114 : Fx.Own w10 B 27 1 (.slice (m.ra a) ((m.rn a)) ((m.rc a))) (m.rn a) (Fx.rv .u64 (m.rq a)) := m108.1 a ha
     have bra := hL.br a ha
     -- region 16 draws
     refine Fx.W.reord [0, 1, 4, 5, 8, 9, 12, 16, 17, 2, 3, 6, 7, 10, 11, 13, 14, 15, 18, 19] [0, 0, 1, 0, 0, 0, 1, 0, 0, 0, 0, 1, 0, 4, 2, 2, 0, 0, 0, 3] (Fx.ChT [27]) Fx.ChT.refl Fx.ChT.trans (certs := [(19, 2, [2]), (19, 6, [6]), (19, 11, [11]), (14, 13, [13]), (15, 13, [14, 13]), (19, 13, [13]), (15, 14, [14]), (18, 14, [14]), (19, 14, [14]), (18, 15, [15]), (19, 15, [15])]) (by kernel_rfl) (by kernel_rfl) (by kernel_rfl) (by kernel_rfl) (by kernel_rfl) fun wt4 hbwt4 hzwt4 => ?_
     have s13 : Fx.Stp w10.heap.size w10 wt4 := Fx.Stp.of_below hbwt4
     have m115 := m105.stp s13 (Nat.ne_of_lt (m105.lt))
     have m116 := m106.stp s13 (Nat.ne_of_lt (m106.lt))
     have m117 := m107.stp s13 (m107.notNew (Nat.le_refl _))
     have m118 := m108.up s13.old
     have m119 := m109.stp s13 (Nat.ne_of_lt (m109.lt))
     have m120 := m111.stp s13 (m111.notNew (Nat.le_refl _))
     have m121 := m113.stp s13 (m113.notNew (Nat.le_refl _))
     have m122 := m114.stp s13 (m114.notNew (Nat.le_refl _))
     have b14 := s13.below b13 (Nat.le_trans hB b13.size) (Nat.le_trans hB b13.size)
     refine Fx.R.p (.pointer (some ⟨p, 0, none⟩)) (fun v1 => x_move rfl h1) (Fx.R.p (.pointer (some ⟨g1, 0, none⟩)) (fun v1 => x_field rfl h2 Try.underlying54 rfl (s := 1) (by kernel_rfl) rfl rfl) (Fx.R.p (.pointer (some ⟨p, 0, none⟩)) (fun v1 => x_move rfl h1) (Fx.R.p (.pointer (some ⟨g1, 0, none⟩)) (fun v1 => x_field rfl h2 Try.underlying54 rfl (s := 1) (by kernel_rfl) rfl rfl) (Fx.R.p (.pointer (some ⟨p, 0, none⟩)) (fun v1 => x_nil rfl rfl) (Fx.R.p (.pointer (some ⟨p, 21, none⟩)) (fun v1 => x_field rfl rfl Try.underlying71 rfl (s := 6) (by kernel_rfl) rfl (by show _ + 21 = _; omega)) (Fx.R.p (.pointer (some ⟨g1, 12, none⟩)) (fun v1 => x_field rfl h2 Try.underlying54 rfl (s := 1) (by kernel_rfl) rfl (by show _ + 12 = _; omega)) (Fx.R.p (.pointer (some ⟨p, 0, none⟩)) (fun v1 => x_nil rfl rfl) (Fx.R.p (.pointer (some ⟨p, 21, none⟩)) (fun v1 => x_field rfl rfl Try.underlying71 rfl (s := 6) (by kernel_rfl) rfl (by show _ + 21 = _; omega)) (Fx.R.read (v := .int .i64 (v.o)) (by rfl) (by rfl) (Fx.ChT.refl _) (fun v1 hv1 => x_load1 (x := evY v) rfl rfl (by kernel_rfl) (m119.chT hv1 (by decide)).cel (i := 0) (by omega) (by omega) rfl) ?_)))))))))
     refine Fx.R.p (.int .i64 ((a : Int))) (fun v1 => Fx.x_sub rfl rfl rfl (Fx.i64e (by omega) (by omega))) (Fx.R.read (v := .int .i64 (v.o)) (by rfl) (by rfl) (Fx.ChT.refl _) (fun v1 hv1 => x_load1 (x := evY v) rfl rfl (by kernel_rfl) (m119.chT hv1 (by decide)).cel (i := 0) (by omega) (by omega) rfl) ?_)
     refine Fx.R.p (.int .i64 ((a : Int))) (fun v1 => Fx.x_sub rfl rfl rfl (Fx.i64e (by omega) (by omega))) (Fx.R.p (.pointer (some ⟨p, a + 21, none⟩)) (fun v1 => x_index rfl rfl rfl Try.underlying69 (s := 1) (by kernel_rfl) (by omega) (by omega) (by omega)) (Fx.R.read (v := .slice (m.ra a) ((m.rn a)) ((m.rc a))) (by rfl) (by rfl) (Fx.ChT.refl _) (fun v1 hv1 => x_load1 (x := ldY m) rfl rfl (by kernel_rfl) (m115.chT hv1 (by decide)).cel (i := a + 21) (by omega) (by omega) (ldY_req _ (by omega))) ?_))
     refine Fx.R.s (.int .u64 (v.req)) (x_load1 (x := evY v) rfl rfl (by kernel_rfl) m119.cel (i := 12) (by omega) (by omega) rfl) ?_
     refine Fx.R.make (by rfl) ?_
     refine Fx.L.bslice (vs := [(0, .int .u64 (v.req))]) (s := 1) (zc := Fx.rv .u64 (fun _ => 0)) (y := Fx.ovr (fun j => (Fx.rv .u64 (fun _ => 0)) (j % 1)) (0 * 1) 1 (fun _ => .int .u64 (v.req))) (by rfl) rfl rfl Try.underlying68 (by kernel_rfl) (by rfl) (by rfl) (by kernel_rfl) (by rw [Fx.fill_step (off := 0 * 1) (s := 1) (y := fun _ => .int .u64 (v.req)) rfl (Fx.cells_one (by rfl)) (by rfl)]; rfl) rfl fun g3 w11 eg3 m123 s14 z4 => ?_
     have m124 := m115.stp s14 (Nat.ne_of_lt (m115.lt))
     have m125 := m116.stp s14 (Nat.ne_of_lt (m116.lt))
     have m126 := m117.stp s14 (m117.notNew (Nat.le_refl _))
     have m127 := m118.up s14.old
     have m129 := m120.stp s14 (m120.notNew (Nat.le_refl _))
     have m130 := m121.stp s14 (m121.notNew (Nat.le_refl _))
     have m131 := m122.stp s14 (m122.notNew (Nat.le_refl _))
     have b15 := s14.below b14 (Nat.le_trans hB b14.size) (Nat.le_trans hB b14.size)
     have lg3 : w.heap.size ≤ g3 := by rw [eg3]; exact b14.size
     have ng3m124 : p ≠ g3 := by rw [eg3]; exact Nat.ne_of_lt (m115.lt)
     have ng3m125 : m.tb ≠ g3 := by rw [eg3]; exact Nat.ne_of_lt (m116.lt)
     have ng3m128 : g1 ≠ g3 := by rw [eg3]; exact Nat.ne_of_lt (m119.lt)
     have ng3m131 : (.slice (m.ra a) ((m.rn a)) ((m.rc a)) : Value).ownBlock ≠ some g3 := by rw [eg3]; exact m122.notNew (Nat.le_refl _)
     have tg3 : g3 < w11.heap.size := m123.lt
     clear eg3
     refine Fx.L.nil ⟨Fx.ChT.of_below s14.old, ?_⟩
     refine Fx.R.make (by rfl) ?_
     refine Fx.L.app (B := B) (s := 1) (bytes := 8) (k := (m.rn a)) (m := 1) (v := .slice (m.ra a) ((m.rn a)) ((m.rc a))) (x := Fx.rv .u64 (m.rq a)) (by rfl) rfl rfl rfl Try.underlying68 (by kernel_rfl) (by kernel_rfl) rfl rfl m131 m123.cel (ovr_one (fun _ => rfl)) (by omega) (by omega) (by omega) (Nat.le_trans hB b15.size) fun g4 cap1 w12 ho1 hg1 hgv1 hlt1 => ?_
     have hct3 := Fx.ChT.of_grown hg1 m131
     have m133 := m124.chT hct3 (by decide)
     have m134 := m125.chT hct3 (by decide)
     have m135 := m126.chT hct3 (by decide)
     have m137 := m129.chT hct3 (by decide)
     have m138 := m130.chT hct3 (by decide)
     have m132 : Fx.Own w12 B 27 1 (.slice (some ⟨g4, 0, none⟩) ((m.rn a) + 1) cap1) ((m.rn a) + 1) (Fx.rv .u64 (updA (m.rq a) (m.rn a) v.req)) := (ho1.congr (fun j hj => req_app j hj))
     have b16 : Below B w w12 := Fx.Below.grow b15 hg1 (Nat.le_trans hB b15.size) (fun q hq => (m131.ge hq).1)
     have m139 : Rqs w12 B 6 { m with ra := updA m.ra a (some ⟨g4, 0, none⟩), rn := updA m.rn a (m.rn a + 1), rc := updA m.rc a cap1, rq := updA m.rq a (updA (m.rq a) (m.rn a) v.req) } := Rqs.app m127 ha rfl rfl rfl rfl m132 hg1 hgv1
     refine Fx.L.nil ⟨hct3, ?_⟩
     refine Fx.R.p (.pointer (some ⟨p, a + 21, none⟩)) (fun v1 => x_index rfl rfl rfl Try.underlying69 (s := 1) (by kernel_rfl) (by omega) (by omega) (by omega)) (Fx.R.eff (by rfl) ?_)
     refine Fx.L.store1 (x := ldY m) (u := .slice (some ⟨g4, 0, none⟩) ((m.rn a) + 1) (cap1)) (by rfl) rfl rfl rfl rfl (by rfl) (by kernel_rfl) m133 (i := a + 21) (by omega) fun w13 m140 s15 z5 => ?_
     have hct4 := Fx.ChT.of_stp s15 m133.ty
     have m141 := m134.chT hct4 (by decide)
     have m142 := m135.chT hct4 (by decide)
     have m144 := m137.chT hct4 (by decide)
     have m145 := m138.chT hct4 (by decide)
     have m147 := m139.chT hct4 (by decide)
     have b17 := s15.below b16 (Nat.le_trans hB b16.size) (by omega)
     refine Fx.L.nil (Fx.R.nil (Fx.seqN (Fx.W.seq (Fx.W.list (Fx.L.v (.int .i64 (0)) (x_assign rfl rfl) (Fx.L.nil (Fx.seqN (Fx.W.ret (⟨.int .i64 (0), Fx.retV1 Try.results123 (by exact rfl), ?_⟩)))))))))
     have eN : regN v = a := by unfold regN; omega
     have ne1 : ¬ 0 ≤ m.core.askedN (regN v) v.req := by rw [eN]; exact of_decide_eq_false c16
     have ne2 : ¬ (m.core.grant v.o v.of < 0 ∨ m.core.g (kgN m.core v) 4 ≠ 0) := by rw [ekN]; exact fun h => h.elim c24 (fun h => h c35)
     have ew : freesW m.core v = walkR (fun x => freeM x v.o (m.g kg 3)) (idxT m.core (m.g kg 2)) m.R K := by unfold freesW; rw [ekN, show pathK m.core.t m.core.tn (m.core.g kg 2) = K from hKp.symm]; rfl
     have ee : freesE m.core v = 0 := by unfold freesE; rw [if_neg ne1, if_neg ne2, ew, hRK]
     have eW : freesW m.core v = (Rk, 0) := ew.trans hRK
     refine ⟨congrArg (fun q => Ending.returned (Value.int .i64 q)) ee.symm, b17, fun _ => ⟨{ m with s := { m.s with ga := m.s.ga, gn := m.s.gn, gc := m.s.gc }, R := Rk, g := updA m.g kg (updA (m.g kg) 4 v.req), ra := updA m.ra a (some ⟨g4, 0, none⟩), rn := updA m.rn a (m.rn a + 1), rc := updA m.rc a cap1, rq := updA m.rq a (updA (m.rq a) (m.rn a) v.req) }, ?_, ?_⟩⟩
     ·unfold freesC addReq; rw [eW, eN]; rw [ekN]; rfl
     ·exact { c := m140.to (ldY_reqs _ rfl _ _ _), n := m144, g := m145, tc := m141, t := m142, r := m147, pB := hLp, tB := hLtb, bn := bn, bg := (by show m.s.gn ≤ 1000000; omega), bt := bt, br := (fun i hi => by show updA m.rn a (m.rn a + 1) i ≤ 1000000; have := brr i hi; have := brr a ha; unfold updA; split <;> omega) }
   ·refine Fx.L.v (.bool true) (Fx.x_neqT rfl rfl rfl c35) (Fx.L.v (.bool true) (x_pickF rfl rfl rfl) (Fx.L.nil (Fx.seqN (Fx.W.cond (b := true) rfl (fun _ => Fx.W.seq (Fx.W.list (Fx.L.v (.int .i64 (12)) (x_assign rfl rfl) ?_))) (fun h => nomatch h)))))
    refine Fx.L.nil (Fx.seqN (Fx.W.ret (Fx.seqR (⟨.int .i64 (12), Fx.retV1 Try.results123 (by exact rfl), ?_⟩))))
    have eN : regN v = a := by unfold regN; omega
    have ne1 : ¬ 0 ≤ m.core.askedN (regN v) v.req := by rw [eN]; exact of_decide_eq_false c16
    have ee : freesE m.core v = 12 := by unfold freesE; rw [if_neg ne1, ekN]; exact if_pos (.inr c35)
    exact ⟨congrArg (fun q => Ending.returned (Value.int .i64 q)) ee.symm, b4, fun h0 => by rw [ee] at h0; cases h0⟩
end Go.Proofs.Ytolmkjepieoloaa
