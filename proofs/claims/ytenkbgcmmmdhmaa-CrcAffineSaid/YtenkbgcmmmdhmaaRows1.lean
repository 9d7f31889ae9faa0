/-
  CrcRows: bits that are turned in a list of bytes.
-/
import Derived.Test.YtenkbgcmmmdhmaaBytes
import Derived.Test.YtenkbgcmmmdhmaaMathB
namespace Go.Proofs.Ytenkbgcmmmdhmaa
open Go.RowKit Crc
/-- behind k bits of a row -/
def flipN (b : List UInt8) (at_ : Nat) (row : W32) : Nat → List UInt8
  | 0 => b
  | k + 1 => if (row >>> k) &&& 1#32 = 1#32 then (flipN b at_ row k).set ((at_ + k) / 8) ((flipN b at_ row k).getD ((at_ + k) / 8) 0 ^^^ UInt8.ofNat (2 ^ ((at_ + k) % 8))) else flipN b at_ row k
theorem flipN_length (b : List UInt8) (at_ : Nat) (row : W32) : ∀ k, (flipN b at_ row k).length = b.length
  | 0 => rfl
  | k + 1 => by rw [flipN]; split <;> simp [flipN_length b at_ row k]
theorem flipN_hi (b : List UInt8) (at_ : Nat) (row : W32) (k : Nat) (h : (I ((row >>> k) &&& 1#32) == 1) = true) :
    flipN b at_ row (k + 1) = (flipN b at_ row k).set ((at_ + k) / 8) ((flipN b at_ row k).getD ((at_ + k) / 8) 0 ^^^ UInt8.ofNat (2 ^ ((at_ + k) % 8))) := by
  have h1 : (row >>> k) &&& 1#32 = 1#32 := I_inj ((by simpa using h : I ((row >>> k) &&& 1#32) = 1).trans rfl)
  rw [flipN, if_pos h1]
theorem flipN_lo (b : List UInt8) (at_ : Nat) (row : W32) (k : Nat) (h : (I ((row >>> k) &&& 1#32) == 1) = false) : flipN b at_ row (k + 1) = flipN b at_ row k := by
  have h1 : ¬ ((row >>> k) &&& 1#32 = 1#32) := by intro e; rw [e] at h; exact absurd h (by decide)
  rw [flipN, if_neg h1]
theorem B_xor (a c : UInt8) : B (a ^^^ c) = B a ^^^ B c := by
  apply BitVec.eq_of_toNat_eq
  unfold B
  have h1 := a.toNat_lt; have h2 := c.toNat_lt
  have h3 : a.toNat ^^^ c.toNat < 2 ^ 8 := Nat.xor_lt_two_pow (by omega) (by omega)
  rw [BitVec.toNat_xor, BitVec.toNat_ofNat, BitVec.toNat_ofNat, BitVec.toNat_ofNat, UInt8.toNat_xor, Nat.mod_eq_of_lt (by omega), Nat.mod_eq_of_lt (by omega), Nat.mod_eq_of_lt (by omega)]
theorem B_pow (m j : Nat) (hm : m < 8) (hj : j < 8) : (B (UInt8.ofNat (2 ^ m))).getLsbD j = decide (j = m) := by
  have : ∀ m, m < 8 → ∀ j, j < 8 → (B (UInt8.ofNat (2 ^ m))).getLsbD j = decide (j = m) := by decide
  exact this m hm j hj
theorem str_set (l : List UInt8) (p m i : Nat) (hp : p < l.length) (hm : m < 8) :
    str (l.set p (l.getD p 0 ^^^ UInt8.ofNat (2 ^ m))) i = (str l i ^^ decide (i = 8 * p + m)) := by
  unfold str
  by_cases h : i / 8 = p
  · have hg : (l.set p (l.getD p 0 ^^^ UInt8.ofNat (2 ^ m))).getD (i / 8) 0 = l.getD p 0 ^^^ UInt8.ofNat (2 ^ m) := by
      rw [h]; simp [List.getD, hp]
    rw [hg, B_xor, BitVec.getLsbD_xor, B_pow m _ hm (by omega), h]
    congr 1
    by_cases h2 : i % 8 = m
    · rw [decide_eq_true h2, decide_eq_true (by omega)]
    · rw [decide_eq_false h2, decide_eq_false (by omega)]
  · have hg : (l.set p (l.getD p 0 ^^^ UInt8.ofNat (2 ^ m))).getD (i / 8) 0 = l.getD (i / 8) 0 := by
      simp [List.getD, Ne.symm h]
    rw [hg, decide_eq_false (by omega), Bool.xor_false]
theorem str_flip (b : List UInt8) (at_ : Nat) (row : W32) (hat : at_ + 32 ≤ 8 * b.length) (i : Nat) :
    ∀ k, k ≤ 32 → str (flipN b at_ row k) i = (str b i ^^ (decide (at_ ≤ i ∧ i < at_ + k) && row.getLsbD (i - at_)))
  | 0, _ => by rw [decide_eq_false (by omega), Bool.false_and, Bool.xor_false]; rfl
  | k + 1, hk => by
    have ih := str_flip b at_ row hat i k (by omega)
    have hb : ((row >>> k) &&& 1#32 = 1#32) ↔ row.getLsbD k = true := by rw [and1]; simp
    by_cases h : row.getLsbD k = true
    · rw [flipN, if_pos (hb.2 h), str_set _ _ _ _ (by rw [flipN_length]; omega) (by omega), ih, show 8 * ((at_ + k) / 8) + (at_ + k) % 8 = at_ + k by omega]
      by_cases h2 : i = at_ + k
      · subst h2
        rw [decide_eq_false (show ¬ (at_ ≤ at_ + k ∧ at_ + k < at_ + k) by omega), decide_eq_true (show at_ ≤ at_ + k ∧ at_ + k < at_ + (k + 1) by omega), decide_eq_true rfl, show at_ + k - at_ = k by omega, h]
        simp
      · rw [decide_eq_false h2, Bool.xor_false]
        congr 2
        by_cases h3 : at_ ≤ i ∧ i < at_ + k
        · rw [decide_eq_true h3, decide_eq_true (by omega)]
        · rw [decide_eq_false h3, decide_eq_false (by omega)]
    · rw [flipN, if_neg (fun e => h (hb.1 e)), ih]
      congr 1
      by_cases h2 : i = at_ + k
      · subst h2
        rw [show at_ + k - at_ = k by omega, show row.getLsbD k = false by simpa using h]
        simp
      · by_cases h3 : at_ ≤ i ∧ i < at_ + k
        · rw [decide_eq_true h3, decide_eq_true (by omega)]
        · rw [decide_eq_false h3, decide_eq_false (by omega)]
theorem flip_differs (b : List UInt8) (at_ : Nat) (row : W32) (hat : at_ + 32 ≤ 8 * b.length) (hrow : row ≠ 0#32) : sum (flipN b at_ row 32) ≠ sum b :=
  row_differs b _ at_ row (flipN_length b at_ row 32) hat hrow (fun i _ => str_flip b at_ row hat i 32 (Nat.le_refl _))
/-! the walk's spelling -/
theorem bx8 (c : UInt8) (m : Nat) (hm : m < 8) : bits .xor .u8 (J c) ((2 : Int) ^ m % (256 : Int)) = J (c ^^^ UInt8.ofNat (2 ^ m)) := by
  have h2 : 2 ^ m < 2 ^ 8 := Nat.pow_lt_pow_right (by omega) hm
  have e : (2 : Int) ^ m % 256 = ((2 ^ m : Nat) : Int) := by
    rw [show (2 : Int) ^ m = ((2 ^ m : Nat) : Int) by simp]; exact Int.emod_eq_of_lt (Int.natCast_nonneg _) (Int.ofNat_lt.2 h2)
  rw [e]; unfold J
  rw [u8_xor_nat _ _ c.toNat_lt (by omega), UInt8.toNat_xor, UInt8.toNat_ofNat', Nat.mod_eq_of_lt (by omega)]
/-- bytes of the call's own at a block that is named -/
def OwnL (w : World) (base g cap len : Nat) (bs : List UInt8) : Prop := w.ownsRow base 5 1 (.slice (some ⟨g, 0, none⟩) len cap) len (cellsOf bs)
theorem OwnL.cell {w : World} {base g cap len : Nat} {bs : List UInt8} (h : OwnL w base g cap len bs) (k : Nat) (hk : k < len) : w.cell? ⟨g, k, none⟩ = some (.int .u8 (J (bs.getD k 0))) := by
  have hl : bs.length = len := by have := h.1; rw [cellsOf_length] at this; omega
  rw [World.ownsRow.cellAt h k (by omega), cellsOf_get bs k (by omega)]
  simp [List.getD, show k < bs.length by omega]
theorem OwnL.fz {w : World} {base g cap len : Nat} {bs : List UInt8} (h : OwnL w base g cap len bs) (k : Nat) : w.frozen? ⟨g, k, none⟩ = false := World.ownsRow.frozenAt h k
theorem OwnL.set {w : World} {base g cap len : Nat} {bs : List UInt8} (h : OwnL w base g cap len bs) (k : Nat) (c : UInt8) : OwnL (w.setCell ⟨g, k, none⟩ (.int .u8 (J c))) base g cap len (bs.set k c) := by
  have := (World.ownsRow.stored h k (.int .u8 (J c))).1
  unfold OwnL cellsOf; rw [List.map_set]; exact this
theorem OwnL.lt {w : World} {base g cap len : Nat} {bs : List UInt8} (h : OwnL w base g cap len bs) : base ≤ g ∧ g < w.heap.size := World.ownsRow.lt h g rfl
theorem OwnL.len {w : World} {base g cap len : Nat} {bs : List UInt8} (h : OwnL w base g cap len bs) : bs.length = len := by have := h.1; rw [cellsOf_length] at this; omega
theorem OwnL.rd {w : World} {base g cap len : Nat} {bs : List UInt8} (h : OwnL w base g cap len bs) : Rd w (some ⟨g, 0, none⟩) bs := by
  intro k hk
  refine ⟨g, 0, rfl, ?_⟩
  rw [Nat.zero_add, h.cell k (by have := h.len; omega)]
  simp [List.getD, hk]
theorem OwnB.named {w : World} {base : Nat} {A : Option Addr} {cap : Nat} {bs : List UInt8} (h : OwnB w base A cap bs) (hl : 0 < bs.length) : ∃ g, A = some ⟨g, 0, none⟩ ∧ OwnL w base g cap bs.length bs := by
  rcases h.2 with ⟨hv, hn⟩ | ⟨g, cp, cur, hv, hb, hg, h1, h2, h3, ht⟩
  · omega
  · injection hv with hv _ _
    subst hv
    exact ⟨g, rfl, h⟩
theorem rd_setCell {w : World} {a : Option Addr} {bs : List UInt8} (hr : Rd w a bs) (g k : Nat) (v : Value) (hne : ∀ ad, a = some ad → ad.block ≠ g) : Rd (w.setCell ⟨g, k, none⟩ v) a bs := by
  intro i hi
  obtain ⟨b, o, e, hc⟩ := hr i hi
  refine ⟨b, o, e, ?_⟩
  rw [World.cell?_of_block (w := w) (heap_setCell_other w _ _ _ (hne _ e))]
  exact hc
end Go.Proofs.Ytenkbgcmmmdhmaa
