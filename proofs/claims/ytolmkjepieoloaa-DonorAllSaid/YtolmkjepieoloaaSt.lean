/-
  States and nodes, as they lie in memory.
-/
import Derived.Test.YtolmkjepieoloaaFxs
import Derived.Test.YtolmkjepieoloaaRMath
namespace Go.Proofs.Ytolmkjepieoloaa
open Go.RowKit Rt
/-- a state's fields: who is in, who left, what is known, the slices of nodes and grants -/
structure StM where
  inn : Nat → Bool
  left : Nat → Bool
  known : Nat → Int
  na : Option Addr
  nn : Nat
  nc : Nat
  ga : Option Addr
  gn : Nat
  gc : Nat
def stY (s : StM) : Nat → Value := fun p => if p < 6 then .bool (s.inn p) else if p < 12 then .bool (s.left (p - 6)) else if p < 18 then .int .u64 (s.known (p - 12)) else if p = 18 then .slice s.na s.nn s.nc else .slice s.ga s.gn s.gc
theorem stY_in (s : StM) {p : Nat} (h : p < 6) : stY s p = .bool (s.inn p) := by unfold stY; rw [if_pos h]
theorem stY_left (s : StM) {p q : Nat} (h : p < 6) (e : q = p + 6) : stY s q = .bool (s.left p) := by subst e; unfold stY; rw [if_neg (by omega), if_pos (by omega), Nat.add_sub_cancel]
theorem stY_known (s : StM) {p q : Nat} (h : p < 6) (e : q = p + 12) : stY s q = .int .u64 (s.known p) := by subst e; unfold stY; rw [if_neg (by omega), if_neg (by omega), if_pos (by omega), Nat.add_sub_cancel]
/-- a node -/
def ndY (id par : Int) (R : Nat → Int) : Nat → Value := fun p => if p = 0 then .int .u64 id else if p = 1 then .int .u64 par else .int .i64 (R (p - 2))
theorem ndY_row (id par : Int) (R : Nat → Int) (q : Nat) : ndY id par R (2 + q) = Fx.rv .i64 R q := by unfold ndY Fx.rv; rw [if_neg (by omega), if_neg (by omega), Nat.add_sub_cancel_left]
/-- nodes in memory -/
def Nds (w : World) (a : Option Addr) (n : Nat) (id par : Nat → Int) (R : Nat → Nat → Int) : Prop := ∀ k, k < n → ∃ b off, a = some ⟨b, off, none⟩ ∧ Fx.Cel w b (off + 56 * k) 56 (ndY (id k) (par k) (R k))
theorem Nds.below {w w' : World} {a : Option Addr} {n : Nat} {id par : Nat → Int} {R : Nat → Nat → Int} (h : Nds w a n id par R) (hb : Below w.heap.size w w') : Nds w' a n id par R := fun k hk => by
  obtain ⟨b, off, e, hc⟩ := h k hk
  exact ⟨b, off, e, hc.below hb (hc.lt (by omega))⟩
end Go.Proofs.Ytolmkjepieoloaa
