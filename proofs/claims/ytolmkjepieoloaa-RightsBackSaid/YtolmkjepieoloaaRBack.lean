/-
  The walk of leatlaw07.RightsBack.
-/
import Derived.Test.YtolmkjepieoloaaRBackB
namespace Go.Proofs.Ytolmkjepieoloaa
open Go.RowKit Rt
attribute [local irreducible] Oper.wp Code.wp
set_option maxRecDepth 100000 in
set_option maxHeartbeats 4000000 in
theorem back_any (x : Nat → Int) (i j k n : Int) (w : World) (hi : -9223372036854775808 ≤ i ∧ i ≤ 9223372036854775807) (hj : -9223372036854775808 ≤ j ∧ j ≤ 9223372036854775807) (hk : -9223372036854775808 ≤ k ∧ k ≤ 9223372036854775807) :
    Calls Try.prog 8 #[.agg (iarr .i64 54 x), .int .i64 i, .int .i64 j, .int .i64 k, .int .i64 n] w fun e w' => e = .returned (.bool true) ∧ Below w.heap.size w w' := by
  by_cases he : may x = true ∧ (moveM x i j n).2 = 0
  · obtain ⟨hm, h0⟩ := he
    obtain ⟨a, b, ha, hb, hab, rfl, rfl, h1, h2, y, z, c, d, f, g, f0, g0, h0, hT⟩ := told_of (k := k) hm h0 hi hj hk
    exact back_walk x y z c d f g k n f0 g0 h0 a b w ha hb hab h1 h2 hT
  have HR : Hid (Rws w [(w.heap.size, x)] (w.alloc (.cells (iarr .i64 54 x) 48))) := Rws.start w x
  have hmay : Hid (∀ w', Calls Try.prog 39 #[.agg (iarr .i64 54 x)] w' fun e w'' => e = .returned (.bool (may x)) ∧ Below w'.heap.size w' w'') := fun w' => may_any x w'
  by_cases hm : may x = false
  · rw [hm] at hmay
    clear hm he
    go_enter Try.func8, Try.ntmps8
    go_wp2_with (refine wpList_load_row (o := ⟨some 27, _, _, _, _, _⟩) (by rfl) 48 (.tmp 5) (by rfl) w.heap.size (by rfl) 48 (iarr .i64 54 x) (0, 0) _ (HR.out.row w.heap.size x (by simp)) Try.underlying48 (by rfl) (by rw [iarr_size]; exact infoR) ?_)
    refine (hmay.out _).mono ?_
    rintro e w1 ⟨rfl, hb⟩
    replace HR : Hid (Rws w [(w.heap.size, x)] w1) := HR.out.up hb
    clear hb
    go_wp2_with fail
    refine (works7_any _).mono ?_
    rintro e w2 ⟨rfl, hb⟩
    replace HR : Hid (Rws w [(w.heap.size, x)] w2) := HR.out.up hb
    clear hb
    go_wp2_with fail
    go_ret
    exact ⟨rfl, HR.out.2⟩
  have hm1 : may x = true := by simpa using hm
  have he1 : (moveM x i j n).2 ≠ 0 := fun h => he ⟨hm1, h⟩
  rw [hm1] at hmay
  clear hm he
  have hsum : Hid (∀ w', Calls Try.prog 41 #[.agg (iarr .i64 54 x)] w' fun e w'' => e = .returned (.tuple #[.int .i64 (gSum x), .int .i64 (uSum x)]) ∧ Below w'.heap.size w' w'') := fun w' => by
    have := sums_any x w'; rw [sums_eq hm1] at this; exact this
  have hmv : Hid (∀ w', Calls Try.prog 42 #[.agg (iarr .i64 54 x), .int .i64 i, .int .i64 j, .int .i64 n] w' (rpost ((moveM x i j n).1, (moveM x i j n).2) w')) := fun w' => move_any x i j n w' hi hj
  have hz := move_no he1
  rw [hz] at hmv
  have he2 : ((moveM x i j n).2 != 0) = true := by simpa using he1
  clear hz he1 hm1
  generalize (moveM x i j n).2 = e0 at *
  go_enter Try.func8, Try.ntmps8
  go_wp2_with (refine wpList_load_row (o := ⟨some 27, _, _, _, _, _⟩) (by rfl) 48 (.tmp 5) (by rfl) w.heap.size (by rfl) 48 (iarr .i64 54 x) (0, 0) _ (HR.out.row w.heap.size x (by simp)) Try.underlying48 (by rfl) (by rw [iarr_size]; exact infoR) ?_)
  refine (hmay.out _).mono ?_
  rintro e w1 ⟨rfl, hb⟩
  replace HR : Hid (Rws w [(w.heap.size, x)] w1) := HR.out.up hb
  clear hb
  go_wp2_with (refine wpList_load_row (o := ⟨some 32, _, _, _, _, _⟩) (by rfl) 48 (.tmp 5) (by rfl) w.heap.size (by rfl) 48 (iarr .i64 54 x) (0, 0) _ (HR.out.row w.heap.size x (by simp)) Try.underlying48 (by rfl) (by rw [iarr_size]; exact infoR) ?_)
  refine (hsum.out _).mono ?_
  rintro e w2 ⟨rfl, hb⟩
  replace HR : Hid (Rws w [(w.heap.size, x)] w2) := HR.out.up hb
  clear hb
  go_wp2_with (refine wpList_load_row (o := ⟨some 37, _, _, _, _, _⟩) (by rfl) 48 (.tmp 5) (by rfl) w.heap.size (by rfl) 48 (iarr .i64 54 x) (0, 0) _ (HR.out.row w.heap.size x (by simp)) Try.underlying48 (by rfl) (by rw [iarr_size]; exact infoR) ?_)
  refine (hmv.out _).mono ?_
  rintro e w3 ⟨rfl, hb⟩
  replace HR : Hid (Rws w [(w.heap.size, x)] w3) := HR.out.up hb
  clear hb
  go_wp2_with (first
    | (refine wpList_store_new (o := ⟨none, .store 48 (.tmp 13) (.tmp 42), _, _, _, _⟩) (by rfl) 48 (.tmp 13) (.tmp 42) (by rfl) (iarr .i64 54 zero) (by rfl) (by rfl) (by rw [iarr_size]; exact infoR) (by rw [iarr_size]; rfl) (iarr_one _ _ _) ?_; intro vgy cgy hvgy; replace HR : Hid (Rws w [(w3.heap.size, zero), (w.heap.size, x)] vgy) := (HR.out.up hvgy).add cgy; clear cgy hvgy; generalize w3.heap.size = gy at *)
    | (refine wpList_load_row (o := ⟨some 46, _, _, _, _, _⟩) (by rfl) 48 (.tmp 13) (by rfl) gy (by rfl) 48 (iarr .i64 54 zero) (0, 0) _ (HR.out.row gy zero (by simp)) Try.underlying48 (by rfl) (by rw [iarr_size]; exact infoR) ?_)
    | (refine wpList_eqR (fx := zero) (fy := zero) (b := true) (by rfl) (by rfl) (by rfl) (by kernel_rfl) zero_in64 zero_in64 (by kernel_rfl) ?_))
  refine (works7_any _).mono ?_
  rintro e w4 ⟨rfl, hb⟩
  replace HR : Hid (Rws w [(gy, zero), (w.heap.size, x)] w4) := HR.out.up hb
  clear hb
  go_wp2_with fail
  go_ret
  exact ⟨rfl, HR.out.2⟩
end Go.Proofs.Ytolmkjepieoloaa
