/-
  The plain law of CRC-32 over BitVec 32: no program in sight.
-/
import Derived.WalkKit
namespace Go.Proofs.Ytenkbgcmmmdhmaa
namespace Crc
abbrev W32 := BitVec 32
def pat : W32 := 0xedb88320#32
/-- one step by a bit 0 -/
def stp (s : W32) : W32 := (s >>> 1) ^^^ (if s &&& 1#32 = 1#32 then pat else 0#32)
def stpN : Nat → W32 → W32
  | 0, s => s
  | n + 1, s => stp (stpN n s)
/-- a byte as a word -/
def B (c : UInt8) : W32 := BitVec.ofNat 32 c.toNat
def byteStep (s : W32) (c : UInt8) : W32 := stpN 8 (s ^^^ B c)
def more (sum : W32) (l : List UInt8) : W32 := ~~~ (l.foldl byteStep (~~~ sum))
def sum (l : List UInt8) : W32 := more 0#32 l
/-- the document's: a step by a bit -/
def rstep (s : W32) (x : W32) : W32 :=
  if (s &&& 1#32) ^^^ x = 1#32 then (s >>> 1) ^^^ pat else s >>> 1
def rbyteN (c : UInt8) : Nat → W32 → W32
  | 0, s => s
  | n + 1, s => rstep (rbyteN c n s) ((B c >>> n) &&& 1#32)
def rbyte (s : W32) (c : UInt8) : W32 := rbyteN c 8 s
def rmore (sum : W32) (l : List UInt8) : W32 := ~~~ (l.foldl rbyte (~~~ sum))
def rsum (l : List UInt8) : W32 := rmore 0#32 l

/-! the walk's spelling: a word as an integer, behind a name -/
def I (x : W32) : Int := x.toNat
def J (c : UInt8) : Int := c.toNat
theorem I_lo (x : W32) : 0 ≤ I x := by unfold I; omega
theorem I_hi (x : W32) : I x ≤ 4294967295 := by unfold I; have := x.isLt; omega
theorem J_lo (x : UInt8) : 0 ≤ J x := by unfold J; omega
theorem J_hi (x : UInt8) : J x ≤ 255 := by unfold J; have := x.toNat_lt; omega
theorem I_inj {a b : W32} (h : I a = I b) : a = b := BitVec.eq_of_toNat_eq (by unfold I at h; omega)
theorem I_beq (a b : W32) : (I a == I b) = (a == b) := by
  by_cases h : a = b
  · subst h; rw [beq_self_eq_true, beq_self_eq_true]
  · have : ¬ I a = I b := fun e => h (I_inj e)
    rw [beq_eq_false_iff_ne.2 this, beq_eq_false_iff_ne.2 h]
theorem J_I (c : UInt8) : J c = I (B c) := by
  unfold I J B; rw [BitVec.toNat_ofNat]; have := c.toNat_lt; omega
theorem J_inj {a b : UInt8} (h : J a = J b) : a = b := UInt8.toNat_inj.1 (by unfold J at h; omega)
theorem bxor (a b : W32) : bits .xor .u32 (I a) (I b) = I (a ^^^ b) := by
  unfold I; rw [u32_xor _ _ (by omega) (by omega) (by omega) (by omega)]; simp
theorem band (a b : W32) : bits .and .u32 (I a) (I b) = I (a &&& b) := by
  unfold I; rw [u32_and _ _ (by omega) (by omega) (by omega) (by omega)]; simp
theorem bnotm (a : W32) : bits .xor .u32 IntKind.u32.max (I a) = I (~~~ a) := by
  have := bxor 0xffffffff#32 a
  exact this.trans (congrArg I (BitVec.allOnes_xor (w := 32)))
theorem signed_u32 : IntKind.u32.signed = false := rfl
theorem bshr (a : W32) : I a / (2 : Int) = I (a >>> 1) := by
  unfold I; simp [Nat.shiftRight_eq_div_pow]
theorem bone (a : W32) : bits .and .u32 (I a) 1 = I (a &&& 1#32) := band a 1#32
theorem bxorb (a : W32) (c : UInt8) : bits .xor .u32 (I a) (J c) = I (a ^^^ B c) := by rw [J_I, bxor]
theorem wrap_I (a : W32) : IntKind.u32.wrap (I a) = I a := by
  rw [IntKind.wrap_u32']; have := I_lo a; have := I_hi a; omega
theorem wrap_J (a : UInt8) : IntKind.u32.wrap (J a) = J a := by
  rw [IntKind.wrap_u32']; have := J_lo a; have := J_hi a; omega
theorem and_one (s : W32) : s &&& 1#32 = 0#32 ∨ s &&& 1#32 = 1#32 := by
  have h : (s &&& 1#32).toNat < 2 := by
    rw [BitVec.toNat_and]; exact Nat.lt_of_le_of_lt Nat.and_le_right (by decide)
  rcases (show (s &&& 1#32).toNat = 0 ∨ (s &&& 1#32).toNat = 1 by omega) with h | h
  · left; exact BitVec.eq_of_toNat_eq (by simpa using h)
  · right; exact BitVec.eq_of_toNat_eq (by simpa using h)
/-- the pattern times the lowest bit -/
theorem stp_mul (s : W32) : IntKind.u32.wrap (3988292384 * I (s &&& 1#32)) = I (if s &&& 1#32 = 1#32 then pat else 0#32) := by
  rcases and_one s with h | h
  · rw [h]; rfl
  · rw [h]; rfl
theorem stp_walk (s : W32) : I (s >>> 1 ^^^ (if s &&& 1#32 = 1#32 then pat else 0#32)) = I (stp s) := rfl
theorem bpat (s : W32) : bits .xor .u32 (I s) 3988292384 = I (s ^^^ pat) := bxor s pat
theorem take_succ_foldl {α β : Type} (f : β → α → β) (s : β) (l : List α) (k : Nat) (h : k < l.length) :
    (l.take (k + 1)).foldl f s = f ((l.take k).foldl f s) l[k] := by
  rw [List.take_succ_eq_append_getElem h, List.foldl_append]; rfl
/-- bytes in memory -/
def Rd (w : World) (a : Option Addr) (l : List UInt8) : Prop :=
  ∀ k (h : k < l.length), ∃ b off, a = some ⟨b, off, none⟩ ∧ w.cell? ⟨b, off + k, none⟩ = some (.int .u8 (J l[k]))
theorem rd_at {w : World} {a : Option Addr} {l : List UInt8} (h : Rd w a l) (k : Nat) (hk : k < l.length) :
    ∃ b off, a = some ⟨b, off, none⟩ ∧ w.cell? ⟨b, off + k, none⟩ = some (.int .u8 (J l[k])) := h k hk
theorem more_all (s : W32) (bs : List UInt8) (k : Nat) (h : ¬ k < bs.length) :
    (~~~ ((bs.take k).foldl byteStep (~~~ s))) = more s bs := by
  rw [List.take_of_length_le (by omega)]; rfl
theorem rmore_all (s : W32) (bs : List UInt8) (k : Nat) (h : ¬ k < bs.length) :
    (~~~ ((bs.take k).foldl rbyte (~~~ s))) = rmore s bs := by
  rw [List.take_of_length_le (by omega)]; rfl
theorem rstep_hi (s : W32) (x : W32) (h : (I ((s &&& 1#32) ^^^ x) == 1) = true) : (s >>> 1) ^^^ pat = rstep s x := by
  have h1 : (s &&& 1#32) ^^^ x = 1#32 := I_inj ((by simpa using h : I ((s &&& 1#32) ^^^ x) = 1).trans rfl)
  unfold rstep; rw [if_pos h1]
theorem rstep_lo (s : W32) (x : W32) (h : (I ((s &&& 1#32) ^^^ x) == 1) = false) : s >>> 1 = rstep s x := by
  have h1 : ¬ ((s &&& 1#32) ^^^ x = 1#32) := by
    intro e; rw [e] at h; exact absurd h (by decide)
  unfold rstep; rw [if_neg h1]
theorem bshb (c : UInt8) (m : Nat) : J c / (2 : Int) ^ m % (4294967296 : Int) = I (B c >>> m) := by
  rw [J_I]; unfold I
  rw [BitVec.toNat_ushiftRight, Nat.shiftRight_eq_div_pow]
  have h : ((B c).toNat : Int) / (2 : Int) ^ m = (((B c).toNat / 2 ^ m : Nat) : Int) := by
    rw [Int.natCast_ediv, Int.natCast_pow]; rfl
  rw [h]
  have h2 : (B c).toNat / 2 ^ m < 4294967296 := Nat.lt_of_le_of_lt (Nat.div_le_self _ _) (B c).isLt
  have h3 : (((B c).toNat / 2 ^ m : Nat) : Int) < 4294967296 := Int.ofNat_lt.2 h2
  exact Int.emod_eq_of_lt (Int.natCast_nonneg _) h3
/-! columns -/
def arr (f : Nat → W32) : Array Value := Array.ofFn (fun i : Fin 32 => .int .u32 (I (f i)))
theorem arr_size (f : Nat → W32) : (arr f).size = 32 := by unfold arr; simp
theorem arr_get (f : Nat → W32) (k : Nat) (hk : k < 32) : (arr f)[k]? = some (.int .u32 (I (f k))) := by
  unfold arr; simp [hk]
theorem arr_cell {w : World} {b : Nat} {f : Nat → W32} {t : TypeId} {fz : Nat × Nat} (h : w.heap[b]? = some (.cells (arr f) t fz)) (k : Nat) (hk : k < 32) :
    w.cell? ⟨b, k, none⟩ = some (.int .u32 (I (f k))) := by
  rw [cell_of_row w b k _ _ _ h]; exact arr_get f k hk
theorem arr_set (f : Nat → W32) (k : Nat) (x : W32) : (arr f).setIfInBounds k (.int .u32 (I x)) = arr (fun j => if j = k then x else f j) := by
  apply Array.ext_getElem?
  intro i
  by_cases hi : i < 32
  · rw [arr_get _ i hi, Array.getElem?_setIfInBounds, arr_size]
    by_cases h : k = i
    · subst h; simp [hi]
    · have h' : ¬ i = k := fun e => h e.symm
      simp [h, h', arr_get f i hi]
  · rw [Array.getElem?_eq_none (by rw [Array.size_setIfInBounds, arr_size]; omega), Array.getElem?_eq_none (by rw [arr_size]; omega)]
theorem arr_one (f : Nat → W32) : (arr f).all (·.oneCell') = true := by
  rw [Array.all_eq_true]; intro i hi
  have h : i < 32 := by rw [arr_size] at hi; exact hi
  have := arr_get f i h
  rw [Array.getElem?_eq_getElem hi] at this
  rw [Option.some.inj this]; rfl
def ofN (f : Nat → W32) (s : W32) : Nat → W32
  | 0 => 0#32
  | n + 1 => if (s >>> n) &&& 1#32 = 1#32 then ofN f s n ^^^ f n else ofN f s n
def ofC (f : Nat → W32) (s : W32) : W32 := ofN f s 32
theorem ofN_end (f : Nat → W32) (s : W32) (n : Nat) (h : s >>> n = 0#32) : ∀ m, ofN f s (n + m) = ofN f s n
  | 0 => rfl
  | m + 1 => by
    have e : s >>> (n + m) = 0#32 := by rw [BitVec.shiftRight_add, h]; simp
    rw [← Nat.add_assoc, ofN, e, if_neg (by decide)]
    exact ofN_end f s n h m
theorem ofC_end (f : Nat → W32) (s : W32) (n : Nat) (hn : n ≤ 32) (h : s >>> n = 0#32) : ofN f s n = ofC f s := by
  have := ofN_end f s n h (32 - n)
  rw [show n + (32 - n) = 32 by omega] at this
  exact this.symm
theorem ofN_hi (f : Nat → W32) (s : W32) (n : Nat) (h : (I ((s >>> n) &&& 1#32) == 1) = true) : ofN f s (n + 1) = ofN f s n ^^^ f n := by
  have h1 : (s >>> n) &&& 1#32 = 1#32 := I_inj ((by simpa using h : I ((s >>> n) &&& 1#32) = 1).trans rfl)
  rw [ofN, if_pos h1]
theorem ofN_lo (f : Nat → W32) (s : W32) (n : Nat) (h : (I ((s >>> n) &&& 1#32) == 1) = false) : ofN f s (n + 1) = ofN f s n := by
  have h1 : ¬ ((s >>> n) &&& 1#32 = 1#32) := by intro e; rw [e] at h; exact absurd h (by decide)
  rw [ofN, if_neg h1]
theorem shr_succ (s : W32) (n : Nat) : s >>> n >>> 1 = s >>> (n + 1) := by rw [BitVec.shiftRight_add]
theorem I_pos {s : W32} (h : 0 < I s) : s ≠ 0#32 := by intro e; subst e; exact absurd h (by decide)
theorem I_zero {s : W32} (h : ¬ 0 < I s) : s = 0#32 := I_inj (by have := I_lo s; have : I 0#32 = 0 := rfl; omega)
theorem shr_lt {s : W32} {n : Nat} (h : s >>> n ≠ 0#32) : n < 32 := by
  by_cases hn : n < 32
  · exact hn
  · exact absurd (BitVec.ushiftRight_eq_zero (by omega)) h
def twice (f : Nat → W32) : Nat → W32 := fun k => ofC f (f k)
def twN (f : Nat → W32) (n : Nat) : Nat → W32 := fun k => if k < n then ofC f (f k) else 0#32
theorem twN_succ (f : Nat → W32) (n : Nat) : (fun j => if j = n then ofC f (f n) else twN f n j) = twN f (n + 1) := by
  funext j; unfold twN
  by_cases h : j = n
  · subst h; simp
  · simp only [if_neg h]
    by_cases h2 : j < n
    · rw [if_pos h2, if_pos (by omega)]
    · rw [if_neg h2, if_neg (by omega)]
theorem arr_congr {f g : Nat → W32} (h : ∀ k, k < 32 → f k = g k) : arr f = arr g := by
  unfold arr; congr 1; funext i; rw [h i.1 i.2]
theorem arr_twN (f : Nat → W32) : arr (twN f 32) = arr (twice f) := arr_congr fun k hk => by unfold twN twice; rw [if_pos hk]
theorem zeros (T : TypeId) : Obj.cells (arr (fun _ => 0#32)) T = .cells #[.int .u32 0, .int .u32 0, .int .u32 0, .int .u32 0, .int .u32 0, .int .u32 0, .int .u32 0, .int .u32 0, .int .u32 0, .int .u32 0, .int .u32 0, .int .u32 0, .int .u32 0, .int .u32 0, .int .u32 0, .int .u32 0, .int .u32 0, .int .u32 0, .int .u32 0, .int .u32 0, .int .u32 0, .int .u32 0, .int .u32 0, .int .u32 0, .int .u32 0, .int .u32 0, .int .u32 0, .int .u32 0, .int .u32 0, .int .u32 0, .int .u32 0, .int .u32 0] T := by rfl
def col0 : Nat → W32 := fun k => stpN 8 (1#32 <<< k)
def fillN (n : Nat) : Nat → W32 := fun k => if k < n then col0 k else 0#32
theorem fillN_succ (n : Nat) : (fun j => if j = n then col0 n else fillN n j) = fillN (n + 1) := by
  funext j; unfold fillN
  by_cases h : j = n
  · subst h; simp
  · simp only [if_neg h]
    by_cases h2 : j < n
    · rw [if_pos h2, if_pos (by omega)]
    · rw [if_neg h2, if_neg (by omega)]
theorem arr_fillN : arr (fillN 32) = arr col0 := arr_congr fun k hk => by unfold fillN; rw [if_pos hk]
def ngo : Nat → (Nat → W32) → W32 → Nat → W32
  | 0, _, s, _ => s
  | f + 1, c, s, n => ngo f (twice c) (if n % 2 = 1 then ofC c s else s) (n / 2)
theorem ngo_zero : ∀ (f : Nat) (c : Nat → W32) (s : W32), ngo f c s 0 = s
  | 0, _, _ => rfl
  | f + 1, c, s => by rw [ngo, if_neg (by decide)]; exact ngo_zero f _ _
def noughts (s : W32) (n : Nat) : W32 := ngo 64 col0 s n
def turn (s : W32) (n : Nat) : W32 := ~~~ (noughts (~~~ s) n)
def join (a b : W32) (n : Nat) : W32 := noughts a n ^^^ b
theorem one_shl (k : Nat) : (2 : Int) ^ k % (4294967296 : Int) = I (1#32 <<< k) := by
  unfold I
  rw [BitVec.toNat_shiftLeft, Nat.shiftLeft_eq]
  simp
theorem and1_i64 (x : Int) (h0 : 0 < x) (h1 : x ≤ 9223372036854775807) : bits .and .i64 x 1 = x % 2 := by
  obtain ⟨n, rfl⟩ := Int.eq_ofNat_of_zero_le (Int.le_of_lt h0)
  have e1 : (BitVec.ofInt 64 (n : Int)).toNat = n := by
    rw [BitVec.ofInt_natCast, BitVec.toNat_ofNat]; exact Nat.mod_eq_of_lt (by omega)
  show IntKind.i64.wrap ((BitVec.ofInt 64 (n : Int) &&& BitVec.ofInt 64 1).toNat : Int) = _
  rw [BitVec.toNat_and, e1, show (BitVec.ofInt 64 1).toNat = 1 from rfl, Nat.and_one_is_mod, IntKind.wrap_i64]
  omega
theorem ngo_hi (f : Nat) (c : Nat → W32) (s : W32) (x : Int) (h0 : 0 < x) (hf : x.toNat < 2 ^ f) (hb : (x % 2 == 1) = true) :
    ∃ g, (x / 2).toNat < 2 ^ g ∧ ngo f c s x.toNat = ngo g (twice c) (ofC c s) (x / 2).toNat := by
  have hb' : x % 2 = 1 := by simpa using hb
  cases f with
  | zero => exact absurd hf (by simp; omega)
  | succ f =>
    refine ⟨f, by rw [Nat.pow_succ] at hf; omega, ?_⟩
    rw [ngo, if_pos (by omega), show x.toNat / 2 = (x / 2).toNat by omega]
theorem ngo_lo (f : Nat) (c : Nat → W32) (s : W32) (x : Int) (h0 : 0 < x) (hf : x.toNat < 2 ^ f) (hb : (x % 2 == 1) = false) :
    ∃ g, (x / 2).toNat < 2 ^ g ∧ ngo f c s x.toNat = ngo g (twice c) s (x / 2).toNat := by
  have hb' : ¬ x % 2 = 1 := by simpa using hb
  cases f with
  | zero => exact absurd hf (by simp; omega)
  | succ f =>
    refine ⟨f, by rw [Nat.pow_succ] at hf; omega, ?_⟩
    rw [ngo, if_neg (by omega), show x.toNat / 2 = (x / 2).toNat by omega]
end Crc
end Go.Proofs.Ytenkbgcmmmdhmaa
