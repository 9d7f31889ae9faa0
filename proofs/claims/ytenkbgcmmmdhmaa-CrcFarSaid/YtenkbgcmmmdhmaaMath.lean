/-
  The algebra of CRC-32: steps are linear, and so on.
-/
import Derived.Test.YtenkbgcmmmdhmaaPlain
namespace Go.Proofs.Ytenkbgcmmmdhmaa
namespace Crc
theorem and1 (s : W32) : (s &&& 1#32 = 1#32) ↔ s.getLsbD 0 = true := by
  constructor
  · intro h
    have : (s &&& 1#32).getLsbD 0 = (1#32).getLsbD 0 := by rw [h]
    simpa using this
  · intro h
    rcases and_one s with h0 | h1
    · exfalso
      have : (s &&& 1#32).getLsbD 0 = (0#32).getLsbD 0 := by rw [h0]
      rw [BitVec.getLsbD_and, h] at this
      exact absurd this (by decide)
    · exact h1
theorem stp_bit (s : W32) : stp s = (s >>> 1) ^^^ (if s.getLsbD 0 = true then pat else 0#32) := by
  unfold stp
  by_cases h : s.getLsbD 0 = true
  · rw [if_pos ((and1 s).2 h), if_pos h]
  · rw [if_neg (fun e => h ((and1 s).1 e)), if_neg h]
theorem stp_xor (a b : W32) : stp (a ^^^ b) = stp a ^^^ stp b := by
  rw [stp_bit, stp_bit, stp_bit, BitVec.getLsbD_xor, BitVec.ushiftRight_xor_distrib]
  generalize a >>> 1 = x
  generalize b >>> 1 = y
  cases a.getLsbD 0 <;> cases b.getLsbD 0
  · simp
  · simp only [if_true, if_false, Bool.false_eq_true, BitVec.xor_zero, Bool.false_xor]; ac_rfl
  · simp only [if_true, if_false, Bool.false_eq_true, BitVec.xor_zero, Bool.xor_false]; ac_rfl
  · simp only [if_true, if_false, Bool.false_eq_true, Bool.xor_self]
    calc x ^^^ y ^^^ 0#32 = x ^^^ y ^^^ (pat ^^^ pat) := by rw [BitVec.xor_self]
      _ = x ^^^ pat ^^^ (y ^^^ pat) := by ac_rfl
theorem stpN_xor : ∀ (n : Nat) (a b : W32), stpN n (a ^^^ b) = stpN n a ^^^ stpN n b
  | 0, _, _ => rfl
  | n + 1, a, b => by rw [stpN, stpN, stpN, stpN_xor n, stp_xor]
theorem stpN_add : ∀ (m n : Nat) (a : W32), stpN (m + n) a = stpN m (stpN n a)
  | 0, n, a => by rw [Nat.zero_add]; rfl
  | m + 1, n, a => by rw [show m + 1 + n = (m + n) + 1 by omega, stpN, stpN, stpN_add m n a]
theorem stp_zero : stp 0#32 = 0#32 := rfl
theorem stpN_zero : ∀ n, stpN n 0#32 = 0#32
  | 0 => rfl
  | n + 1 => by rw [stpN, stpN_zero n, stp_zero]
/-! the document's step -/
theorem rstep_bit (s : W32) (y : W32) : rstep s (y &&& 1#32) = stp (s ^^^ (y &&& 1#32)) := by
  have hs : (s ^^^ (y &&& 1#32)) >>> 1 = s >>> 1 := by
    rw [BitVec.ushiftRight_xor_distrib]
    rcases and_one y with h | h <;> rw [h] <;> simp
  have hb : (s ^^^ (y &&& 1#32)) &&& 1#32 = (s &&& 1#32) ^^^ (y &&& 1#32) := by
    ext i hi; simp only [BitVec.getElem_and, BitVec.getElem_xor]; cases s[i] <;> cases y[i] <;> cases (1#32)[i] <;> rfl
  unfold rstep stp
  rw [hs, hb]
  by_cases h : (s &&& 1#32) ^^^ (y &&& 1#32) = 1#32
  · rw [if_pos h, if_pos h]
  · rw [if_neg h, if_neg h, BitVec.xor_zero]
theorem stp_even (y : W32) : stp ((y >>> 1) <<< 1) = y >>> 1 := by
  rw [stp_bit, if_neg (by simp), BitVec.xor_zero]
  apply BitVec.eq_of_toNat_eq
  simp [Nat.shiftRight_eq_div_pow, Nat.shiftLeft_eq]
  have := y.isLt
  omega
theorem split1 (y : W32) : y = (y &&& 1#32) ^^^ ((y >>> 1) <<< 1) := by
  ext i hi
  rw [BitVec.getElem_xor, BitVec.getElem_and, BitVec.getElem_shiftLeft]
  by_cases h : i = 0
  · subst h; simp
  · rw [show (1#32)[i] = false by rw [BitVec.getElem_one]; simp [h], show decide (i < 1) = false by simp; omega]
    simp only [Bool.and_false, Bool.false_xor, Bool.not_false, Bool.true_and, BitVec.getElem_ushiftRight]
    rw [← BitVec.getLsbD_eq_getElem]
    congr 1; omega
theorem rbyteN_eq (c : UInt8) (s : W32) : ∀ n, stpN n (s ^^^ B c) = rbyteN c n s ^^^ (B c >>> n)
  | 0 => by rw [BitVec.ushiftRight_zero]; rfl
  | n + 1 => by
    rw [stpN, rbyteN_eq c s n, rbyteN, rstep_bit, BitVec.shiftRight_add]
    generalize B c >>> n = y
    generalize rbyteN c n s = r
    calc stp (r ^^^ y) = stp ((r ^^^ (y &&& 1#32)) ^^^ ((y >>> 1) <<< 1)) := by rw [BitVec.xor_assoc, ← split1]
      _ = stp (r ^^^ (y &&& 1#32)) ^^^ y >>> 1 := by rw [stp_xor, stp_even]
theorem byteStep_eq (s : W32) (c : UInt8) : byteStep s c = rbyte s c := by
  unfold byteStep rbyte
  rw [rbyteN_eq]
  have : B c >>> 8 = 0#32 := by
    apply BitVec.eq_of_toNat_eq
    unfold B
    simp [Nat.shiftRight_eq_div_pow]
    have := c.toNat_lt
    omega
  rw [this, BitVec.xor_zero]
theorem more_eq (s : W32) (l : List UInt8) : more s l = rmore s l := by
  unfold more rmore
  congr 2
  funext s c; exact byteStep_eq s c
theorem sum_eq (l : List UInt8) : sum l = rsum l := more_eq _ l
/-! ### columns -/
/-- the lowest n bits -/
def low (s : W32) (n : Nat) : W32 := (s.setWidth n).setWidth 32
theorem low_zero (s : W32) : low s 0 = 0#32 := by unfold low; ext i hi; simp
theorem low_all (s : W32) : low s 32 = s := by unfold low; simp
theorem low_succ (s : W32) (n : Nat) (hn : n < 32) : low s (n + 1) = if (s >>> n) &&& 1#32 = 1#32 then low s n ^^^ (1#32 <<< n) else low s n := by
  have hb : ((s >>> n) &&& 1#32 = 1#32) ↔ s.getLsbD n = true := by rw [and1]; simp
  by_cases h : s.getLsbD n = true
  · rw [if_pos (hb.2 h)]
    apply BitVec.eq_of_getLsbD_eq
    intro i hi
    unfold low
    rw [BitVec.getLsbD_xor, BitVec.getLsbD_setWidth, BitVec.getLsbD_setWidth, BitVec.getLsbD_setWidth, BitVec.getLsbD_setWidth, BitVec.getLsbD_shiftLeft, BitVec.getLsbD_one]
    by_cases h1 : i < n
    · simp [h1, hi, show i < n + 1 by omega]
    · by_cases h2 : i = n
      · subst h2; simp [hi, h]
      · simp [hi, h1, show ¬ i < n + 1 by omega, show ¬ i - n = 0 by omega]
  · rw [if_neg (fun e => h (hb.1 e))]
    apply BitVec.eq_of_getLsbD_eq
    intro i hi
    unfold low
    rw [BitVec.getLsbD_setWidth, BitVec.getLsbD_setWidth, BitVec.getLsbD_setWidth, BitVec.getLsbD_setWidth]
    by_cases h1 : i < n
    · simp [h1, hi, show i < n + 1 by omega]
    · by_cases h2 : i = n
      · subst h2; simp [hi] at h ⊢; exact h
      · simp [hi, h1, show ¬ i < n + 1 by omega]
theorem ofN_low (L : W32 → W32) (h0 : L 0#32 = 0#32) (hl : ∀ a b, L (a ^^^ b) = L a ^^^ L b) (c : Nat → W32) (hc : ∀ k, k < 32 → c k = L (1#32 <<< k)) (s : W32) :
    ∀ n, n ≤ 32 → ofN c s n = L (low s n)
  | 0, _ => by rw [low_zero, h0]; rfl
  | n + 1, hn => by
    rw [ofN, low_succ s n (by omega), ofN_low L h0 hl c hc s n (by omega)]
    by_cases h : (s >>> n) &&& 1#32 = 1#32
    · rw [if_pos h, if_pos h, hl, hc n (by omega)]
    · rw [if_neg h, if_neg h]
theorem ofC_eq (L : W32 → W32) (h0 : L 0#32 = 0#32) (hl : ∀ a b, L (a ^^^ b) = L a ^^^ L b) (c : Nat → W32) (hc : ∀ k, k < 32 → c k = L (1#32 <<< k)) (s : W32) :
    ofC c s = L s := by
  unfold ofC; rw [ofN_low L h0 hl c hc s 32 (by omega), low_all]
theorem ngo_eq : ∀ (f m : Nat) (c : Nat → W32), (∀ k, k < 32 → c k = stpN m (1#32 <<< k)) → ∀ (s : W32) (n : Nat), n < 2 ^ f → ngo f c s n = stpN (m * n) s
  | 0, m, c, _, s, n, hn => by
    obtain rfl : n = 0 := by simpa using hn
    rfl
  | f + 1, m, c, hc, s, n, hn => by
    have hof : ∀ s, ofC c s = stpN m s := ofC_eq (stpN m) (stpN_zero m) (stpN_xor m) c hc
    rw [ngo, ngo_eq f (m + m) (twice c) (fun k hk => by unfold twice; rw [hof, hc k hk, stpN_add]) _ (n / 2) (by rw [Nat.pow_succ] at hn; omega)]
    by_cases h : n % 2 = 1
    · rw [if_pos h, hof, ← stpN_add]
      congr 1
      have : n = n / 2 + n / 2 + 1 := by omega
      generalize n / 2 = q at *
      subst this
      rw [Nat.add_mul, Nat.mul_add, Nat.mul_add, Nat.mul_one]
    · rw [if_neg h]
      congr 1
      have : n = n / 2 + n / 2 := by omega
      generalize n / 2 = q at *
      subst this
      rw [Nat.add_mul, Nat.mul_add]
theorem noughts_eq (s : W32) (n : Nat) (hn : n < 2 ^ 64) : noughts s n = stpN (8 * n) s := ngo_eq 64 8 col0 (fun _ _ => rfl) s n hn
theorem noughts_add (s : W32) (m n : Nat) (h : m + n < 2 ^ 64) : noughts (noughts s m) n = noughts s (m + n) := by
  rw [noughts_eq _ _ (by omega), noughts_eq _ _ (by omega), noughts_eq _ _ (by omega), ← stpN_add]
  congr 1; omega
theorem noughts_zero (s : W32) : noughts s 0 = s := ngo_zero _ _ _
theorem turn_add (s : W32) (m n : Nat) (h : m + n < 2 ^ 64) : turn (turn s m) n = turn s (m + n) := by
  unfold turn; rw [BitVec.not_not, noughts_add _ _ _ h]
theorem turn_zero (s : W32) : turn s 0 = s := by unfold turn; rw [noughts_zero, BitVec.not_not]
theorem join_zero (s : W32) : join s 0#32 0 = s := by unfold join; rw [noughts_zero, BitVec.xor_zero]
theorem byteStep_zero (s : W32) : byteStep s 0 = stpN 8 s := by unfold byteStep; rw [show B 0 = 0#32 from rfl, BitVec.xor_zero]
theorem fold_zeros : ∀ (n : Nat) (s : W32), (List.replicate n (0 : UInt8)).foldl byteStep s = stpN (8 * n) s
  | 0, _ => rfl
  | n + 1, s => by
    rw [List.replicate_succ, List.foldl_cons, byteStep_zero, fold_zeros n, ← stpN_add]
    congr 1
theorem turn_more (s : W32) (n : Nat) (h : n < 2 ^ 64) : turn s n = rmore s (List.replicate n 0) := by
  rw [← more_eq]; unfold turn more; rw [fold_zeros, noughts_eq _ _ h]
/-! ### bytes one behind the other -/
theorem byteStep_xor (a b : W32) (c : UInt8) : byteStep (a ^^^ b) c = stpN 8 a ^^^ byteStep b c := by
  unfold byteStep; rw [BitVec.xor_assoc, stpN_xor]
theorem fold_xor : ∀ (l : List UInt8) (a b : W32), l.foldl byteStep (a ^^^ b) = stpN (8 * l.length) a ^^^ l.foldl byteStep b
  | [], _, _ => rfl
  | c :: l, a, b => by
    rw [List.foldl_cons, byteStep_xor, fold_xor l, ← stpN_add, List.foldl_cons]
    congr 2
theorem more_append (s : W32) (a b : List UInt8) : more (more s a) b = more s (a ++ b) := by
  unfold more; rw [BitVec.not_not, List.foldl_append]
theorem not_xor (a : W32) : ~~~ a = a ^^^ ~~~ 0#32 := by
  rw [show ~~~ (0#32 : W32) = BitVec.allOnes 32 from rfl, BitVec.xor_allOnes]
theorem join_eq (s : W32) (b : List UInt8) (h : b.length < 2 ^ 64) : join s (sum b) b.length = more s b := by
  unfold join sum more
  rw [noughts_eq _ _ h, not_xor s, fold_xor b s (~~~ 0#32)]
  generalize stpN (8 * b.length) s = x
  generalize b.foldl byteStep (~~~ 0#32) = y
  rw [not_xor y, not_xor (x ^^^ y), BitVec.xor_assoc]
theorem join_append (a b : List UInt8) (h : b.length < 2 ^ 64) : join (sum a) (sum b) b.length = sum (a ++ b) := by
  rw [join_eq _ _ h]; exact more_append _ _ _
end Crc
end Go.Proofs.Ytenkbgcmmmdhmaa
