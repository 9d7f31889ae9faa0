/-
  CrcRest: the plain law of the rest.
-/
import Derived.Test.YtenkbgcmmmdhmaaRows1
namespace Go.Proofs.Ytenkbgcmmmdhmaa
open Go.RowKit Crc
def lowb (x : W32) : UInt8 := UInt8.ofNat x.toNat
theorem lowb_I (x : W32) : I x % (256 : Int) = J (lowb x) := by
  unfold I J lowb; rw [UInt8.toNat_ofNat']; omega
theorem shr8 (x : W32) : I x / (256 : Int) = I (x >>> 8) := by
  unfold I; rw [BitVec.toNat_ushiftRight, Nat.shiftRight_eq_div_pow]; omega
theorem shr16 (x : W32) : I x / (65536 : Int) = I (x >>> 16) := by
  unfold I; rw [BitVec.toNat_ushiftRight, Nat.shiftRight_eq_div_pow]; omega
theorem shr24 (x : W32) : I x / (16777216 : Int) = I (x >>> 24) := by
  unfold I; rw [BitVec.toNat_ushiftRight, Nat.shiftRight_eq_div_pow]; omega
def four (s : W32) : List UInt8 := [lowb s, lowb (s >>> 8), lowb (s >>> 16), lowb (s >>> 24)]
namespace Crc
theorem low_rest (y : W32) : y = (y &&& 255#32) ^^^ ((y >>> 8) <<< 8) := by
  apply BitVec.eq_of_getLsbD_eq
  intro i hi
  rw [BitVec.getLsbD_xor, BitVec.getLsbD_and, BitVec.getLsbD_shiftLeft, BitVec.getLsbD_ushiftRight]
  have h255 : (255#32).getLsbD i = decide (i < 8) := by
    have : ∀ i, i < 32 → (255#32).getLsbD i = decide (i < 8) := by decide
    exact this i hi
  rw [h255]
  by_cases h : i < 8
  · simp [h]
  · simp [h, hi, show 8 + (i - 8) = i by omega]
theorem B_lowb (y : W32) : B (lowb y) = y &&& 255#32 := by
  apply BitVec.eq_of_toNat_eq
  unfold B lowb
  rw [BitVec.toNat_ofNat, UInt8.toNat_ofNat', BitVec.toNat_and, show (255#32).toNat = 2 ^ 8 - 1 from rfl, Nat.and_two_pow_sub_one_eq_mod]
  omega
theorem stp_shr (y : W32) : ∀ n, n ≤ 8 → stpN n ((y >>> 8) <<< n) = y >>> 8
  | 0, _ => by rw [BitVec.shiftLeft_zero]; rfl
  | n + 1, hn => by
    have e : (((y >>> 8) <<< (n + 1)) >>> 1) = (y >>> 8) <<< n := by
      apply BitVec.eq_of_getLsbD_eq
      intro i hi
      simp only [BitVec.getLsbD_shiftLeft, BitVec.getLsbD_ushiftRight]
      by_cases h : i < n
      · simp [h, show 1 + i < n + 1 by omega]
      · by_cases h2 : 1 + i < 32
        · simp [h, hi, h2, show ¬ (1 + i < n + 1) by omega, show 1 + i - (n + 1) = i - n by omega]
        · have : y.getLsbD (8 + (i - n)) = false := BitVec.getLsbD_of_ge _ _ (by omega)
          simp [h2, this]
    have e2 : ((y >>> 8) <<< n) <<< 1 = (y >>> 8) <<< (n + 1) := by rw [← BitVec.shiftLeft_add]
    rw [stpN_add n 1, show stpN 1 ((y >>> 8) <<< (n + 1)) = stp ((y >>> 8) <<< (n + 1)) from rfl]
    have : stp ((y >>> 8) <<< (n + 1)) = (y >>> 8) <<< n := by
      rw [← e2, ← e, stp_even]
    rw [this]; exact stp_shr y n (by omega)
theorem byte_word (t y : W32) : byteStep t (lowb y) = stpN 8 (t ^^^ y) ^^^ (y >>> 8) := by
  unfold byteStep
  rw [B_lowb]
  have h := stp_shr y 8 (Nat.le_refl _)
  calc stpN 8 (t ^^^ (y &&& 255#32)) = stpN 8 (t ^^^ (y &&& 255#32)) ^^^ (y >>> 8 ^^^ y >>> 8) := by rw [BitVec.xor_self, BitVec.xor_zero]
    _ = stpN 8 (t ^^^ (y &&& 255#32)) ^^^ stpN 8 ((y >>> 8) <<< 8) ^^^ y >>> 8 := by rw [h, BitVec.xor_assoc]
    _ = stpN 8 (t ^^^ y) ^^^ (y >>> 8) := by
      rw [← stpN_xor, BitVec.xor_assoc, ← low_rest]
theorem fold_four (t s : W32) : (four s).foldl byteStep t = stpN 32 (t ^^^ s) := by
  show byteStep (byteStep (byteStep (byteStep t (lowb s)) (lowb (s >>> 8))) (lowb (s >>> 16))) (lowb (s >>> 24)) = _
  rw [byte_word t s, byte_word _ (s >>> 8), byte_word _ (s >>> 16), byte_word _ (s >>> 24)]
  rw [← BitVec.shiftRight_add, ← BitVec.shiftRight_add, ← BitVec.shiftRight_add, show s >>> (24 + 8) = 0#32 from BitVec.ushiftRight_eq_zero (by omega), BitVec.xor_zero]
  rw [BitVec.xor_assoc, BitVec.xor_self, BitVec.xor_zero, BitVec.xor_assoc, BitVec.xor_self, BitVec.xor_zero, BitVec.xor_assoc, BitVec.xor_self, BitVec.xor_zero]
  rw [← stpN_add, ← stpN_add, ← stpN_add]
theorem more_four (s o : W32) : more s (four o) = ~~~ (stpN 32 (~~~ s ^^^ o)) := by unfold more; rw [fold_four]
theorem rest_const : ~~~ (stpN 32 (~~~ (0#32 : W32))) = 0x2144df1c#32 := by kernel_rfl
theorem rest_own (s : W32) : more s (four s) = 0x2144df1c#32 := by
  rw [more_four, not_xor s, BitVec.xor_assoc, BitVec.xor_comm (~~~ 0#32) s, ← BitVec.xor_assoc, BitVec.xor_self, BitVec.zero_xor]
  exact rest_const
theorem rest_iff (s o : W32) : (more s (four o) == 0x2144df1c#32) = (o == s) := by
  by_cases h : o = s
  · subst h; rw [rest_own]; simp
  · rw [beq_eq_false_iff_ne.2 h, beq_eq_false_iff_ne]
    intro e
    apply h
    rw [← rest_own s, more_four, more_four] at e
    have e1 : stpN 32 (~~~ s ^^^ o) = stpN 32 (~~~ s ^^^ s) := by
      have := congrArg (fun x => ~~~ x) e; simpa using this
    have e2 := stpN_inj _ _ _ e1
    have e3 : ~~~ s ^^^ (~~~ s ^^^ o) = ~~~ s ^^^ (~~~ s ^^^ s) := by rw [e2]
    rw [← BitVec.xor_assoc, ← BitVec.xor_assoc, BitVec.xor_self, BitVec.zero_xor, BitVec.zero_xor] at e3
    exact e3
theorem rest_sum (b : List UInt8) : sum (b ++ four (sum b)) = 0x2144df1c#32 := by
  have : sum (b ++ four (sum b)) = more (sum b) (four (sum b)) := (more_append 0#32 b _).symm
  rw [this, rest_own]
end Crc
end Go.Proofs.Ytenkbgcmmmdhmaa
