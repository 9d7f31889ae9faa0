/-
  The algebra of CRC-32: steps are linear, and so on.
-/
import Derived.Test.YtenkbgcmmmdhmaaPlain
namespace Go.Proofs.Ytenkbgcmmmdhmaa
namespace Crc
theorem and1 (s : W32) : (s &&& 1#32 = 1#32) ↔ s.getLsbD 0 = true := by
  constructor
  · intro h
    have : (s &&& 1#32).getLsbD 0 = (1#32).getLsbD 0 := by rw [h]
    simpa using this
  · intro h
    rcases and_one s with h0 | h1
    · exfalso
      have : (s &&& 1#32).getLsbD 0 = (0#32).getLsbD 0 := by rw [h0]
      rw [BitVec.getLsbD_and, h] at this
      exact absurd this (by decide)
    · exact h1
theorem stp_bit (s : W32) : stp s = (s >>> 1) ^^^ (if s.getLsbD 0 = true then pat else 0#32) := by
  unfold stp
  by_cases h : s.getLsbD 0 = true
  · rw [if_pos ((and1 s).2 h), if_pos h]
  · rw [if_neg (fun e => h ((and1 s).1 e)), if_neg h]
theorem stp_xor (a b : W32) : stp (a ^^^ b) = stp a ^^^ stp b := by
  rw [stp_bit, stp_bit, stp_bit, BitVec.getLsbD_xor, BitVec.ushiftRight_xor_distrib]
  generalize a >>> 1 = x
  generalize b >>> 1 = y
  cases a.getLsbD 0 <;> cases b.getLsbD 0
  · simp
  · simp only [if_true, if_false, Bool.false_eq_true, BitVec.xor_zero, Bool.false_xor]; ac_rfl
  · simp only [if_true, if_false, Bool.false_eq_true, BitVec.xor_zero, Bool.xor_false]; ac_rfl
  · simp only [if_true, if_false, Bool.false_eq_true, Bool.xor_self]
    calc x ^^^ y ^^^ 0#32 = x ^^^ y ^^^ (pat ^^^ pat) := by rw [BitVec.xor_self]
      _ = x ^^^ pat ^^^ (y ^^^ pat) := by ac_rfl
theorem stpN_xor : ∀ (n : Nat) (a b : W32), stpN n (a ^^^ b) = stpN n a ^^^ stpN n b
  | 0, _, _ => rfl
  | n + 1, a, b => by rw [stpN, stpN, stpN, stpN_xor n, stp_xor]
theorem stpN_add : ∀ (m n : Nat) (a : W32), stpN (m + n) a = stpN m (stpN n a)
  | 0, n, a => by rw [Nat.zero_add]; rfl
  | m + 1, n, a => by rw [show m + 1 + n = (m + n) + 1 by omega, stpN, stpN, stpN_add m n a]
theorem stp_zero : stp 0#32 = 0#32 := rfl
theorem stpN_zero : ∀ n, stpN n 0#32 = 0#32
  | 0 => rfl
  | n + 1 => by rw [stpN, stpN_zero n, stp_zero]
/-! the document's step -/
theorem rstep_bit (s : W32) (y : W32) : rstep s (y &&& 1#32) = stp (s ^^^ (y &&& 1#32)) := by
  have hs : (s ^^^ (y &&& 1#32)) >>> 1 = s >>> 1 := by
    rw [BitVec.ushiftRight_xor_distrib]
    rcases and_one y with h | h <;> rw [h] <;> simp
  have hb : (s ^^^ (y &&& 1#32)) &&& 1#32 = (s &&& 1#32) ^^^ (y &&& 1#32) := by
    ext i hi; simp only [BitVec.getElem_and, BitVec.getElem_xor]; cases s[i] <;> cases y[i] <;> cases (1#32)[i] <;> rfl
  unfold rstep stp
  rw [hs, hb]
  by_cases h : (s &&& 1#32) ^^^ (y &&& 1#32) = 1#32
  · rw [if_pos h, if_pos h]
  · rw [if_neg h, if_neg h, BitVec.xor_zero]
theorem stp_even (y : W32) : stp ((y >>> 1) <<< 1) = y >>> 1 := by
  rw [stp_bit, if_neg (by simp), BitVec.xor_zero]
  apply BitVec.eq_of_toNat_eq
  simp [Nat.shiftRight_eq_div_pow, Nat.shiftLeft_eq]
  have := y.isLt
  omega
theorem split1 (y : W32) : y = (y &&& 1#32) ^^^ ((y >>> 1) <<< 1) := by
  ext i hi
  rw [BitVec.getElem_xor, BitVec.getElem_and, BitVec.getElem_shiftLeft]
  by_cases h : i = 0
  · subst h; simp
  · rw [show (1#32)[i] = false by rw [BitVec.getElem_one]; simp [h], show decide (i < 1) = false by simp; omega]
    simp only [Bool.and_false, Bool.false_xor, Bool.not_false, Bool.true_and, BitVec.getElem_ushiftRight]
    rw [← BitVec.getLsbD_eq_getElem]
    congr 1; omega
theorem rbyteN_eq (c : UInt8) (s : W32) : ∀ n, stpN n (s ^^^ B c) = rbyteN c n s ^^^ (B c >>> n)
  | 0 => by rw [BitVec.ushiftRight_zero]; rfl
  | n + 1 => by
    rw [stpN, rbyteN_eq c s n, rbyteN, rstep_bit, BitVec.shiftRight_add]
    generalize B c >>> n = y
    generalize rbyteN c n s = r
    calc stp (r ^^^ y) = stp ((r ^^^ (y &&& 1#32)) ^^^ ((y >>> 1) <<< 1)) := by rw [BitVec.xor_assoc, ← split1]
      _ = stp (r ^^^ (y &&& 1#32)) ^^^ y >>> 1 := by rw [stp_xor, stp_even]
theorem byteStep_eq (s : W32) (c : UInt8) : byteStep s c = rbyte s c := by
  unfold byteStep rbyte
  rw [rbyteN_eq]
  have : B c >>> 8 = 0#32 := by
    apply BitVec.eq_of_toNat_eq
    unfold B
    simp [Nat.shiftRight_eq_div_pow]
    have := c.toNat_lt
    omega
  rw [this, BitVec.xor_zero]
theorem more_eq (s : W32) (l : List UInt8) : more s l = rmore s l := by
  unfold more rmore
  congr 2
  funext s c; exact byteStep_eq s c
theorem sum_eq (l : List UInt8) : sum l = rsum l := more_eq _ l
end Crc
end Go.Proofs.Ytenkbgcmmmdhmaa
