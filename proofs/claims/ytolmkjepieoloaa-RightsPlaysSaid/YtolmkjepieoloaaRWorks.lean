/-
  The walk of leatlaw07.works: the chapter's example is as it says.
-/
import Derived.Test.YtolmkjepieoloaaRMove
import Derived.Test.YtolmkjepieoloaaBaseT
namespace Go.Proofs.Ytolmkjepieoloaa
open Go.RowKit Rt
namespace Rt
def wk1 : Nat → Int := (giveM zero 1 10).1
def wk2 : Nat → Int := (moveM wk1 1 2 4).1
def wk3 : Nat → Int := (takeM wk2 2 4).1
theorem wk_a : giveM zero 1 10 = (wk1, 0) := Prod.ext rfl (by kernel_rfl)
theorem wk_b : (takeM wk1 1 11).2 = 11 := by kernel_rfl
theorem wk_c : moveM wk1 1 2 4 = (wk2, 0) := Prod.ext rfl (by kernel_rfl)
theorem wk_d : takeM wk2 2 4 = (wk3, 0) := Prod.ext rfl (by kernel_rfl)
theorem wk_e : sums wk3 = (10, 4) := Prod.ext (by kernel_rfl) (by kernel_rfl)
theorem wk_f : localV wk3 1 = 6 := by kernel_rfl
theorem wk_g : localV wk3 2 = 0 := by kernel_rfl
end Rt
theorem zagg : Value.agg #[.int .i64 0, .int .i64 0, .int .i64 0, .int .i64 0, .int .i64 0, .int .i64 0, .int .i64 0, .int .i64 0, .int .i64 0, .int .i64 0, .int .i64 0, .int .i64 0, .int .i64 0, .int .i64 0, .int .i64 0, .int .i64 0, .int .i64 0, .int .i64 0, .int .i64 0, .int .i64 0, .int .i64 0, .int .i64 0, .int .i64 0, .int .i64 0, .int .i64 0, .int .i64 0, .int .i64 0, .int .i64 0, .int .i64 0, .int .i64 0, .int .i64 0, .int .i64 0, .int .i64 0, .int .i64 0, .int .i64 0, .int .i64 0, .int .i64 0, .int .i64 0, .int .i64 0, .int .i64 0, .int .i64 0, .int .i64 0, .int .i64 0, .int .i64 0, .int .i64 0, .int .i64 0, .int .i64 0, .int .i64 0, .int .i64 0, .int .i64 0, .int .i64 0, .int .i64 0, .int .i64 0, .int .i64 0] = .agg (iarr .i64 54 zero) := by rfl
theorem wk1_any (w : World) : Calls Try.prog 80 #[.agg (iarr .i64 54 zero), .int .i64 1, .int .i64 10] w (rpost (wk1, 0) w) := by rw [← wk_a]; exact give_any zero 1 10 w (by omega)
theorem wk2_any (w : World) : Calls Try.prog 44 #[.agg (iarr .i64 54 wk1), .int .i64 1, .int .i64 11] w (rpost ((takeM wk1 1 11).1, 11) w) := by
  have h : takeM wk1 1 11 = ((takeM wk1 1 11).1, 11) := Prod.ext rfl wk_b
  rw [← h]; exact take_any wk1 1 11 w (by omega)
theorem wk3_any (w : World) : Calls Try.prog 42 #[.agg (iarr .i64 54 wk1), .int .i64 1, .int .i64 2, .int .i64 4] w (rpost (wk2, 0) w) := by rw [← wk_c]; exact move_any wk1 1 2 4 w (by omega) (by omega)
theorem wk4_any (w : World) : Calls Try.prog 44 #[.agg (iarr .i64 54 wk2), .int .i64 2, .int .i64 4] w (rpost (wk3, 0) w) := by rw [← wk_d]; exact take_any wk2 2 4 w (by omega)
theorem wk5_any (w : World) : Calls Try.prog 41 #[.agg (iarr .i64 54 wk3)] w fun e w' => e = .returned (.tuple #[.int .i64 10, .int .i64 4]) ∧ Below w.heap.size w w' := by
  have := sums_any wk3 w; rw [wk_e] at this; exact this
theorem wk6_any (w : World) : Calls Try.prog 43 #[.agg (iarr .i64 54 wk3), .int .i64 1] w fun e w' => e = .returned (.int .i64 6) ∧ Below w.heap.size w w' := by
  have := localV_any wk3 1 w (by omega); rw [wk_f] at this; exact this
theorem wk7_any (w : World) : Calls Try.prog 43 #[.agg (iarr .i64 54 wk3), .int .i64 2] w fun e w' => e = .returned (.int .i64 0) ∧ Below w.heap.size w w' := by
  have := localV_any wk3 2 w (by omega); rw [wk_g] at this; exact this
attribute [local irreducible] Oper.wp Code.wp wk1 wk2 wk3
set_option maxRecDepth 100000 in
set_option maxHeartbeats 2000000 in
theorem works7_any (w : World) : Calls Try.prog 40 #[] w fun e w' => e = .returned (.bool true) ∧ Below w.heap.size w w' := by
  go_enter Try.func40, Try.ntmps40
  go_wp2_with fail
  rw [zagg]
  refine (wk1_any _).mono ?_
  rintro e w1 ⟨rfl, hb1⟩
  go_wp2_with (first
    | (refine wpList_store_new (o := ⟨none, .store 48 (.tmp 1) (.tmp 14), _, _, _, _⟩) (by rfl) 48 (.tmp 1) (.tmp 14) (by rfl) (iarr .i64 54 wk1) (by rfl) (by rfl) (by rw [iarr_size]; exact infoR) (by rw [iarr_size]; rfl) (iarr_one _ _ _) ?_; intro v1 c1 hv1; have h1 : Below w.heap.size w v1 := bch hb1 hv1; have C1 : Hid (v1.heap[w1.heap.size]? = some (.cells (iarr .i64 54 wk1) 48 (0, 0))) := c1; clear c1 hv1 hb1; generalize w1.heap.size = g1 at *)
    | (refine wpList_load_row (o := ⟨some 17, _, _, _, _, _⟩) (by rfl) 48 (.tmp 1) (by rfl) g1 (by rfl) 48 (iarr .i64 54 wk1) (0, 0) _ C1.out Try.underlying48 (by rfl) (by rw [iarr_size]; exact infoR) ?_))
  refine (wk2_any _).mono ?_
  rintro e w2 ⟨rfl, hb2⟩
  generalize (takeM wk1 1 11).1 = y2 at *
  have hb2' := bch h1 hb2
  go_wp2_with (first
    | (refine wpList_store_new (o := ⟨none, .store 48 (.tmp 3) (.tmp 19), _, _, _, _⟩) (by rfl) 48 (.tmp 3) (.tmp 19) (by rfl) (iarr .i64 54 y2) (by rfl) (by rfl) (by rw [iarr_size]; exact infoR) (by rw [iarr_size]; rfl) (iarr_one _ _ _) ?_; intro v2 c2 hv2; have h2 : Below w.heap.size w v2 := bch hb2' hv2; have C2 : Hid (v2.heap[g1]? = some (.cells (iarr .i64 54 wk1) 48 (0, 0))) := row_kept (row_kept C1.out hb2) hv2; clear c2 hv2 hb2 hb2' C1 h1; generalize w2.heap.size = g2 at *)
    | (refine wpList_load_row (o := ⟨some 22, _, _, _, _, _⟩) (by rfl) 48 (.tmp 1) (by rfl) g1 (by rfl) 48 (iarr .i64 54 wk1) (0, 0) _ C2.out Try.underlying48 (by rfl) (by rw [iarr_size]; exact infoR) ?_))
  refine (wk3_any _).mono ?_
  rintro e w3 ⟨rfl, hb3⟩
  have hb3' := bch h2 hb3
  go_wp2_with (first
    | (refine wpList_store_new (o := ⟨none, .store 48 (.tmp 5) (.tmp 24), _, _, _, _⟩) (by rfl) 48 (.tmp 5) (.tmp 24) (by rfl) (iarr .i64 54 wk2) (by rfl) (by rfl) (by rw [iarr_size]; exact infoR) (by rw [iarr_size]; rfl) (iarr_one _ _ _) ?_; intro v3 c3 hv3; have h3 : Below w.heap.size w v3 := bch hb3' hv3; have C3 : Hid (v3.heap[w3.heap.size]? = some (.cells (iarr .i64 54 wk2) 48 (0, 0))) := c3; clear c3 hv3 hb3 hb3' C2 h2; generalize w3.heap.size = g3 at *)
    | (refine wpList_load_row (o := ⟨some 27, _, _, _, _, _⟩) (by rfl) 48 (.tmp 5) (by rfl) g3 (by rfl) 48 (iarr .i64 54 wk2) (0, 0) _ C3.out Try.underlying48 (by rfl) (by rw [iarr_size]; exact infoR) ?_))
  refine (wk4_any _).mono ?_
  rintro e w4 ⟨rfl, hb4⟩
  have hb4' := bch h3 hb4
  go_wp2_with (first
    | (refine wpList_store_new (o := ⟨none, .store 48 (.tmp 7) (.tmp 29), _, _, _, _⟩) (by rfl) 48 (.tmp 7) (.tmp 29) (by rfl) (iarr .i64 54 wk3) (by rfl) (by rfl) (by rw [iarr_size]; exact infoR) (by rw [iarr_size]; rfl) (iarr_one _ _ _) ?_; intro v4 c4 hv4; have h4 : Below w.heap.size w v4 := bch hb4' hv4; have C4 : Hid (v4.heap[w4.heap.size]? = some (.cells (iarr .i64 54 wk3) 48 (0, 0))) := c4; clear c4 hv4 hb4 hb4' C3 h3; generalize w4.heap.size = g4 at *)
    | (refine wpList_load_row (o := ⟨some 32, _, _, _, _, _⟩) (by rfl) 48 (.tmp 7) (by rfl) g4 (by rfl) 48 (iarr .i64 54 wk3) (0, 0) _ C4.out Try.underlying48 (by rfl) (by rw [iarr_size]; exact infoR) ?_))
  refine (wk5_any _).mono ?_
  rintro e w5 ⟨rfl, hb5⟩
  have h5 := bch h4 hb5
  have C5 : Hid (w5.heap[g4]? = some (.cells (iarr .i64 54 wk3) 48 (0, 0))) := row_kept C4.out hb5
  clear C4 h4 hb5
  go_wp2_with (refine wpList_wanted (by rfl) (wp_load_row (o := ⟨some 51, _, _, _, _, _⟩) 48 (.tmp 7) (by rfl) g4 (by rfl) 48 (iarr .i64 54 wk3) (0, 0) _ C5.out Try.underlying48 (by rfl) (by rw [iarr_size]; exact infoR) ?_))
  refine (wk6_any _).mono ?_
  rintro e w6 ⟨rfl, hb6⟩
  have h6 := bch h5 hb6
  have C6 : Hid (w6.heap[g4]? = some (.cells (iarr .i64 54 wk3) 48 (0, 0))) := row_kept C5.out hb6
  clear C5 h5 hb6
  go_wp2_with (refine wpList_wanted (by rfl) (wp_load_row (o := ⟨some 56, _, _, _, _, _⟩) 48 (.tmp 7) (by rfl) g4 (by rfl) 48 (iarr .i64 54 wk3) (0, 0) _ C6.out Try.underlying48 (by rfl) (by rw [iarr_size]; exact infoR) ?_))
  refine (wk7_any _).mono ?_
  rintro e w7 ⟨rfl, hb7⟩
  have h7 := bch h6 hb7
  clear C6 h6 hb7
  go_wp2_with fail
  go_ret
  exact ⟨rfl, h7⟩
end Go.Proofs.Ytolmkjepieoloaa
