/-
  Streams of bits; a row of 32 bits turned; the rest.
-/
import Derived.Test.YtenkbgcmmmdhmaaMath
namespace Go.Proofs.Ytenkbgcmmmdhmaa
namespace Crc
theorem stp_inj0 (s : W32) (h : stp s = 0#32) : s = 0#32 := by
  rw [stp_bit] at h
  by_cases hb : s.getLsbD 0 = true
  · rw [if_pos hb] at h
    exfalso
    have : ((s >>> 1) ^^^ pat).getLsbD 31 = (0#32).getLsbD 31 := by rw [h]
    rw [BitVec.getLsbD_xor, show pat.getLsbD 31 = true from rfl] at this
    simp at this
  · rw [if_neg hb, BitVec.xor_zero] at h
    apply BitVec.eq_of_getLsbD_eq
    intro i hi
    cases i with
    | zero => simpa using hb
    | succ i =>
      have : (s >>> 1).getLsbD i = (0#32).getLsbD i := by rw [h]
      simpa [Nat.add_comm] using this
theorem stpN_inj0 : ∀ (n : Nat) (s : W32), stpN n s = 0#32 → s = 0#32
  | 0, _, h => h
  | n + 1, s, h => stpN_inj0 n s (stp_inj0 _ h)
theorem xor_eq_zero {a b : W32} (h : a ^^^ b = 0#32) : a = b := by
  calc a = a ^^^ (b ^^^ b) := by rw [BitVec.xor_self, BitVec.xor_zero]
    _ = (a ^^^ b) ^^^ b := by rw [BitVec.xor_assoc]
    _ = b := by rw [h, BitVec.zero_xor]
theorem stpN_inj (n : Nat) (a b : W32) (h : stpN n a = stpN n b) : a = b := by
  apply xor_eq_zero
  apply stpN_inj0 n
  rw [stpN_xor, h, BitVec.xor_self]
/-- a bit as a word -/
def bw (x : Bool) : W32 := if x then 1#32 else 0#32
theorem bw_xor (x y : Bool) : bw (x ^^ y) = bw x ^^^ bw y := by cases x <;> cases y <;> rfl
/-- the state behind n bits of a stream -/
def S (t : W32) (x : Nat → Bool) : Nat → W32
  | 0 => t
  | n + 1 => stp (S t x n ^^^ bw (x n))
theorem S_xor (t u : W32) (x y : Nat → Bool) : ∀ n, S (t ^^^ u) (fun i => x i ^^ y i) n = S t x n ^^^ S u y n
  | 0 => rfl
  | n + 1 => by
    rw [S, S, S, S_xor t u x y n, bw_xor, ← stp_xor]
    congr 1; ac_rfl
theorem S_congr (t : W32) (x y : Nat → Bool) : ∀ n, (∀ i, i < n → x i = y i) → S t x n = S t y n
  | 0, _ => rfl
  | n + 1, h => by rw [S, S, S_congr t x y n (fun i hi => h i (by omega)), h n (by omega)]
theorem S_zeros (x : Nat → Bool) : ∀ n, (∀ i, i < n → x i = false) → S 0#32 x n = 0#32
  | 0, _ => rfl
  | n + 1, h => by rw [S, S_zeros x n (fun i hi => h i (by omega)), h n (by omega)]; rfl
theorem S_tail (t : W32) (x : Nat → Bool) (m : Nat) : ∀ n, (∀ i, m ≤ i → i < m + n → x i = false) → S t x (m + n) = stpN n (S t x m)
  | 0, _ => rfl
  | n + 1, h => by
    rw [← Nat.add_assoc, S, S_tail t x m n (fun i h1 h2 => h i h1 (by omega)), h (m + n) (by omega) (by omega)]
    rw [show bw false = 0#32 from rfl, BitVec.xor_zero]; rfl
theorem stp_shl (j : Nat) (hj : j + 1 < 32) : stp (1#32 <<< (j + 1)) = 1#32 <<< j := by
  have : ((1#32 <<< (j + 1)) >>> 1) <<< 1 = 1#32 <<< (j + 1) := by
    apply BitVec.eq_of_getLsbD_eq
    intro i hi
    simp only [BitVec.getLsbD_shiftLeft, BitVec.getLsbD_ushiftRight, BitVec.getLsbD_one]
    by_cases h0 : i = 0
    · subst h0; simp
    · rw [show 1 + (i - 1) = i by omega]
      simp [hi, h0]
  rw [← this, stp_even]
  apply BitVec.eq_of_toNat_eq
  rw [BitVec.toNat_ushiftRight, BitVec.toNat_shiftLeft, BitVec.toNat_shiftLeft, Nat.shiftRight_eq_div_pow, Nat.shiftLeft_eq, Nat.shiftLeft_eq]
  have h1 : 2 ^ (j + 1) < 2 ^ 32 := Nat.pow_lt_pow_right (by omega) hj
  have h2 : 2 ^ j < 2 ^ 32 := Nat.pow_lt_pow_right (by omega) (by omega)
  rw [BitVec.toNat_ofNat, show 1 % 2 ^ 32 = 1 by decide, Nat.one_mul, Nat.one_mul, Nat.mod_eq_of_lt h1, Nat.mod_eq_of_lt h2, Nat.pow_succ]
  omega
theorem stpN_shl : ∀ j, j < 32 → stpN j (1#32 <<< j) = 1#32
  | 0, _ => by rw [BitVec.shiftLeft_zero]; rfl
  | j + 1, h => by
    rw [show j + 1 = j + 1 from rfl, stpN_add j 1, show stpN 1 (1#32 <<< (j + 1)) = stp (1#32 <<< (j + 1)) from rfl, stp_shl j h]
    exact stpN_shl j (by omega)
/-- a row of 32 bits, from 'at' on -/
theorem S_row (x : Nat → Bool) (at_ : Nat) (row : W32) (h0 : ∀ i, i < at_ → x i = false) (h1 : ∀ j, j < 32 → x (at_ + j) = row.getLsbD j) :
    ∀ j, j ≤ 32 → S 0#32 x (at_ + j) = stpN j (low row j)
  | 0, _ => by rw [Nat.add_zero, S_zeros x at_ h0, low_zero]; rfl
  | j + 1, hj => by
    rw [← Nat.add_assoc, S, S_row x at_ row h0 h1 j (by omega), h1 j (by omega), low_succ row j (by omega)]
    have hb : ((row >>> j) &&& 1#32 = 1#32) ↔ row.getLsbD j = true := by rw [and1]; simp
    by_cases h : row.getLsbD j = true
    · rw [if_pos (hb.2 h), h, stpN, stpN_xor, stpN_shl j (by omega)]; rfl
    · rw [if_neg (fun e => h (hb.1 e)), show row.getLsbD j = false by simpa using h, show bw false = 0#32 from rfl, BitVec.xor_zero]; rfl
/-- the stream of bytes -/
def str (l : List UInt8) (i : Nat) : Bool := (B (l.getD (i / 8) 0)).getLsbD (i % 8)
theorem rbyteN_S (c : UInt8) (s : W32) (x : Nat → Bool) (m : Nat) (t : W32) (hs : S t x m = s) (hx : ∀ j, j < 8 → x (m + j) = (B c).getLsbD j) :
    ∀ n, n ≤ 8 → S t x (m + n) = rbyteN c n s
  | 0, _ => hs
  | n + 1, hn => by
    rw [← Nat.add_assoc, S, rbyteN_S c s x m t hs hx n (by omega), hx n (by omega), rbyteN, rstep_bit]
    congr 2
    unfold bw
    by_cases h : (B c).getLsbD n = true
    · rw [if_pos h]; exact ((and1 _).2 (by simpa using h)).symm
    · rw [if_neg h]
      rcases and_one (B c >>> n) with h1 | h1
      · exact h1.symm
      · exact absurd ((and1 _).1 h1) (by simpa using h)
theorem fold_S (t : W32) (l : List UInt8) : ∀ k, k ≤ l.length → (l.take k).foldl byteStep t = S t (str l) (8 * k)
  | 0, _ => rfl
  | k + 1, hk => by
    rw [take_succ_foldl _ _ _ _ (by omega), fold_S t l k (by omega), byteStep_eq]
    unfold rbyte
    rw [Nat.mul_succ]
    refine (rbyteN_S l[k] _ (str l) (8 * k) t rfl ?_ 8 (Nat.le_refl _)).symm
    intro j hj
    unfold str
    rw [show (8 * k + j) / 8 = k by omega, show (8 * k + j) % 8 = j by omega]
    simp [List.getD, show k < l.length by omega]
theorem sum_S (l : List UInt8) : sum l = ~~~ (S (~~~ 0#32) (str l) (8 * l.length)) := by
  unfold sum more
  rw [← fold_S _ l l.length (Nat.le_refl _), List.take_length]
/-- THE THEOREM: bytes that differ in a row of 32 bits have another sum -/
theorem row_differs (b own : List UInt8) (at_ : Nat) (row : W32) (hl : own.length = b.length) (hat : at_ + 32 ≤ 8 * b.length) (hrow : row ≠ 0#32)
    (hx : ∀ i, i < 8 * b.length → str own i = (str b i ^^ (decide (at_ ≤ i ∧ i < at_ + 32) && row.getLsbD (i - at_)))) : sum own ≠ sum b := by
  intro e
  rw [sum_S, sum_S, hl] at e
  have e2 : S (~~~ 0#32) (str own) (8 * b.length) = S (~~~ 0#32) (str b) (8 * b.length) := by
    have := congrArg (fun x => ~~~ x) e; simpa using this
  rw [S_congr _ _ _ _ hx] at e2
  have e3 : S (~~~ 0#32) (fun i => str b i ^^ (decide (at_ ≤ i ∧ i < at_ + 32) && row.getLsbD (i - at_))) (8 * b.length)
      = S (~~~ 0#32) (str b) (8 * b.length) ^^^ S 0#32 (fun i => decide (at_ ≤ i ∧ i < at_ + 32) && row.getLsbD (i - at_)) (8 * b.length) := by
    rw [← S_xor, BitVec.xor_zero]
  rw [e3] at e2
  have e4 : S 0#32 (fun i => decide (at_ ≤ i ∧ i < at_ + 32) && row.getLsbD (i - at_)) (8 * b.length) = 0#32 := by
    generalize S (~~~ 0#32) (str b) (8 * b.length) = q at e2
    generalize S 0#32 (fun i => decide (at_ ≤ i ∧ i < at_ + 32) && row.getLsbD (i - at_)) (8 * b.length) = d at e2
    calc d = (q ^^^ q) ^^^ d := by rw [BitVec.xor_self, BitVec.zero_xor]
      _ = q ^^^ (q ^^^ d) := by rw [BitVec.xor_assoc]
      _ = 0#32 := by rw [e2, BitVec.xor_self]
  have e5 := S_tail 0#32 (fun i => decide (at_ ≤ i ∧ i < at_ + 32) && row.getLsbD (i - at_)) (at_ + 32) (8 * b.length - (at_ + 32)) (by
    intro i h1 h2
    simp; omega)
  rw [show at_ + 32 + (8 * b.length - (at_ + 32)) = 8 * b.length by omega, e4] at e5
  have e6 := stpN_inj0 _ _ e5.symm
  rw [S_row _ at_ row (by intro i hi; simp; omega) (by intro j hj; simp [hj, show at_ + j - at_ = j by omega]) 32 (Nat.le_refl _), low_all] at e6
  exact hrow (stpN_inj0 _ _ e6)
end Crc
end Go.Proofs.Ytenkbgcmmmdhmaa
