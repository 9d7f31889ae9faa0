/-
  CrcAffine: the plain law.
-/
import Derived.Test.YtenkbgcmmmdhmaaRows1
namespace Go.Proofs.Ytenkbgcmmmdhmaa
open Go.RowKit Crc
/-- the first k are f's, the others stay -/
def mix (l : List UInt8) (f : Nat → UInt8) (k : Nat) : List UInt8 := (List.range l.length).map fun i => if i < k then f i else l.getD i 0
theorem mix_length (l : List UInt8) (f : Nat → UInt8) (k : Nat) : (mix l f k).length = l.length := by unfold mix; simp
theorem mix_get (l : List UInt8) (f : Nat → UInt8) (k i : Nat) (hi : i < l.length) : (mix l f k).getD i 0 = if i < k then f i else l.getD i 0 := by
  unfold mix; simp [List.getD, hi]
theorem mix_zero (l : List UInt8) (f : Nat → UInt8) : mix l f 0 = l := by
  apply List.ext_getElem (by rw [mix_length])
  intro i h1 h2
  unfold mix; simp [List.getD, h2]
theorem mix_at (l : List UInt8) (f : Nat → UInt8) (k i : Nat) (h : i < (mix l f k).length) : (mix l f k)[i] = if i < k then f i else l.getD i 0 := by
  have h2 : i < l.length := by rw [mix_length] at h; exact h
  have := mix_get l f k i h2
  rw [List.getD, List.getElem?_eq_getElem h] at this
  exact this
theorem mix_set (l : List UInt8) (f : Nat → UInt8) (k : Nat) : (mix l f k).set k (f k) = mix l f (k + 1) := by
  apply List.ext_getElem (by simp [mix_length])
  intro i h1 h2
  rw [List.getElem_set, mix_at _ _ (k + 1) i h2]
  by_cases h : k = i
  · subst h; simp
  · rw [if_neg h, mix_at]
    by_cases h3 : i < k
    · rw [if_pos h3, if_pos (by omega)]
    · rw [if_neg h3, if_neg (by omega)]
theorem mix_same (l : List UInt8) (f : Nat → UInt8) (k : Nat) (h : f k = l.getD k 0) : mix l f (k + 1) = mix l f k := by
  unfold mix
  congr 1; funext i
  by_cases h2 : i = k
  · subst h2; rw [if_pos (by omega), if_neg (by omega), h]
  · by_cases h3 : i < k
    · rw [if_pos h3, if_pos (by omega)]
    · rw [if_neg h3, if_neg (by omega)]
def fb (a t : List UInt8) (i : Nat) : UInt8 := if i < t.length then a.getD i 0 ^^^ t.getD i 0 else a.getD i 0
def fc (a o : List UInt8) (i : Nat) : UInt8 := if i < o.length then o.getD i 0 else a.getD i 0
def fd (a t o : List UInt8) (i : Nat) : UInt8 := a.getD i 0 ^^^ fb a t i ^^^ fc a o i
namespace Crc
theorem fold3 : ∀ (a b c d : List UInt8) (s t u : W32), b.length = a.length → c.length = a.length → d.length = a.length → (∀ i, i < a.length → d.getD i 0 = a.getD i 0 ^^^ b.getD i 0 ^^^ c.getD i 0) →
    d.foldl byteStep (s ^^^ t ^^^ u) = a.foldl byteStep s ^^^ b.foldl byteStep t ^^^ c.foldl byteStep u
  | [], b, c, d, s, t, u, hb, hc, hd, _ => by
    obtain rfl : b = [] := List.length_eq_zero_iff.1 hb
    obtain rfl : c = [] := List.length_eq_zero_iff.1 hc
    obtain rfl : d = [] := List.length_eq_zero_iff.1 hd
    rfl
  | x :: a, [], c, d, s, t, u, hb, _, _, _ => by simp at hb
  | x :: a, y :: b, [], d, s, t, u, _, hc, _, _ => by simp at hc
  | x :: a, y :: b, z :: c, [], s, t, u, _, _, hd, _ => by simp at hd
  | x :: a, y :: b, z :: c, v :: d, s, t, u, hb, hc, hd, h => by
    have h0 := h 0 (by simp)
    simp only [List.getD_cons_zero] at h0
    rw [List.foldl_cons, List.foldl_cons, List.foldl_cons, List.foldl_cons]
    have e : byteStep (s ^^^ t ^^^ u) v = byteStep s x ^^^ byteStep t y ^^^ byteStep u z := by
      unfold byteStep
      rw [← stpN_xor, ← stpN_xor, h0, B_xor, B_xor]
      congr 1
      ac_rfl
    rw [e]
    exact fold3 a b c d _ _ _ (by simpa using hb) (by simpa using hc) (by simpa using hd) (fun i hi => by
      have := h (i + 1) (by simpa using hi)
      simpa using this)
theorem sum3 (a b c d : List UInt8) (hb : b.length = a.length) (hc : c.length = a.length) (hd : d.length = a.length) (h : ∀ i, i < a.length → d.getD i 0 = a.getD i 0 ^^^ b.getD i 0 ^^^ c.getD i 0) :
    sum a ^^^ sum b ^^^ sum c = sum d := by
  unfold sum more
  have e := fold3 a b c d (~~~ 0#32) (~~~ 0#32) (~~~ 0#32) hb hc hd h
  rw [BitVec.xor_self, BitVec.zero_xor] at e
  rw [e]
  generalize a.foldl byteStep (~~~ 0#32) = x
  generalize b.foldl byteStep (~~~ 0#32) = y
  generalize c.foldl byteStep (~~~ 0#32) = z
  rw [not_xor x, not_xor y, not_xor z, not_xor (x ^^^ y ^^^ z)]
  generalize ~~~ (0#32 : W32) = q
  calc x ^^^ q ^^^ (y ^^^ q) ^^^ (z ^^^ q) = x ^^^ y ^^^ z ^^^ q ^^^ (q ^^^ q) := by ac_rfl
    _ = _ := by rw [BitVec.xor_self, BitVec.xor_zero]
end Crc
theorem affine_eq (a t o : List UInt8) : (I (sum a ^^^ sum (mix a (fb a t) a.length) ^^^ sum (mix a (fc a o) a.length)) == I (sum (mix a (fd a t o) a.length))) = true := by
  rw [sum3 a (mix a (fb a t) a.length) (mix a (fc a o) a.length) (mix a (fd a t o) a.length) (mix_length _ _ _) (mix_length _ _ _) (mix_length _ _ _)]
  · exact beq_self_eq_true _
  · intro i hi
    rw [mix_get _ _ _ i hi, mix_get _ _ _ i hi, mix_get _ _ _ i hi, if_pos hi, if_pos hi, if_pos hi]; rfl
theorem OwnL.other {w : World} {base g cap len : Nat} {bs : List UInt8} (h : OwnL w base g cap len bs) (g2 k : Nat) (v : Value) (hne : g ≠ g2) : OwnL (w.setCell ⟨g2, k, none⟩ v) base g cap len bs :=
  World.ownsRow.kept (row := some g2) h ⟨rfl, rfl, rfl, by simp [World.setCell], fun i _ hi => heap_setCell_other w ⟨g2, k, none⟩ i v (by intro e; apply hi; rw [e])⟩ (.inr (by simpa [Value.ownBlock] using hne))
theorem OwnL.drew {w : World} {base g cap len : Nat} {bs : List UInt8} (h : OwnL w base g cap len bs) : OwnL w.drew base g cap len bs := h
theorem rd_cellAt {w : World} {a : Option Addr} {bs : List UInt8} (h : Rd w a bs) (k : Nat) (hk : k < bs.length) : ∃ b off, a = some ⟨b, off, none⟩ ∧ w.cell? ⟨b, off + k, none⟩ = some (.int .u8 (J (bs.getD k 0))) := by
  obtain ⟨b, off, e, hc⟩ := h k hk
  refine ⟨b, off, e, ?_⟩
  rw [hc]; simp [List.getD, hk]
theorem bxor8 (a b : UInt8) : bits .xor .u8 (J a) (J b) = J (a ^^^ b) := by
  unfold J; rw [u8_xor_nat _ _ a.toNat_lt b.toNat_lt, UInt8.toNat_xor]
end Go.Proofs.Ytenkbgcmmmdhmaa
