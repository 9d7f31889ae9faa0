/-
  The walks of leatref07's small functions.
-/
import Derived.Test.YtolmkjepieoloaaRMathB
import Derived.Test.YtolmkjepieoloaaREq
namespace Go.Proofs.Ytolmkjepieoloaa
open Go.RowKit Rt
set_option maxHeartbeats 400000 in
theorem refregion_any (i : Int) (w : World) (hi : -9223372036854775808 ≤ i ∧ i ≤ 9223372036854775807) :
    Calls Try.prog 96 #[.int .i64 i] w fun e w' => e = .returned (.bool (regB i)) ∧ w' = w := by
  unfold regB
  by_cases h1 : i < 1
  · have d1 : decide (1 ≤ i) = false := by simp; omega
    have D1 : Hid _ := d1
    go_enter Try.func96, Try.ntmps96
    go_wp2
    go_ret
    first | exact ⟨rfl, rfl⟩ | (rw [D1.out]; exact ⟨rfl, rfl⟩)
  · have d1 : decide (1 ≤ i) = true := by simp; omega
    have D1 : Hid _ := d1
    go_enter Try.func96, Try.ntmps96
    go_wp2
    go_ret
    first | exact ⟨rfl, rfl⟩ | (rw [D1.out]; exact ⟨rfl, rfl⟩)
set_option maxHeartbeats 400000 in
theorem refnumber_any (i : Int) (w : World) (hi : -9223372036854775808 ≤ i ∧ i ≤ 9223372036854775807) :
    Calls Try.prog 90 #[.int .i64 i] w fun e w' => e = .returned (.bool (okN i)) ∧ w' = w := by
  unfold okN
  by_cases h1 : i < 0
  · have d1 : decide (0 ≤ i) = false := by simp; omega
    have D1 : Hid _ := d1
    go_enter Try.func90, Try.ntmps90
    go_wp2
    go_ret
    first | exact ⟨rfl, rfl⟩ | (rw [D1.out]; exact ⟨rfl, rfl⟩)
  · have d1 : decide (0 ≤ i) = true := by simp; omega
    have D1 : Hid _ := d1
    go_enter Try.func90, Try.ntmps90
    go_wp2
    go_ret
    first | exact ⟨rfl, rfl⟩ | (rw [D1.out]; exact ⟨rfl, rfl⟩)
end Go.Proofs.Ytolmkjepieoloaa
