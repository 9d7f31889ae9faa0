/-
  The walk of leatlaw07.RightsTakes.
-/
import Derived.Test.YtolmkjepieoloaaRWorks
import Derived.Test.YtolmkjepieoloaaRMathB
import Derived.Test.YtolmkjepieoloaaREq
import Derived.Test.YtolmkjepieoloaaRFree
namespace Go.Proofs.Ytolmkjepieoloaa
open Go.RowKit Rt
namespace Rt
theorem take_iff {x : Nat → Int} {a : Nat} {n : Int} (hm : may x = true) (ha : a < 6) (h1 : 1 ≤ n) (h2 : n ≤ 1125899906842624) : (takeM x ((a : Int) + 1) n).2 = 0 ↔ n ≤ L x a ∧ C x a + n ≤ 1125899906842624 := by
  have hr : regB ((a : Int) + 1) = true := by unfold regB; simp; omega
  have ho : ((a : Int) + 1).toNat - 1 = a := by omega
  unfold takeM
  rcases turned_cases x n (regB ((a : Int) + 1)) (takeE x ((a : Int) + 1) n) (6 + (((a : Int) + 1).toNat - 1)) with ⟨_, h3, h4⟩ | ⟨⟨_, _, _, _, he, hx⟩, heq⟩
  · constructor
    · intro h; exact absurd h h3
    · rintro ⟨h5, h6⟩
      refine absurd ⟨hm, h1, h2, hr, ?_, by rw [ho]; exact h6⟩ h4
      unfold takeE; rw [localV_L hm a ha, decide_eq_false (by omega)]; rfl
  · rw [heq, ho] at *
    constructor
    · intro _
      refine ⟨?_, hx⟩
      unfold takeE at he
      rw [localV_L hm a ha] at he
      by_cases hl : L x a < n
      · rw [decide_eq_true hl] at he; cases he
      · omega
    · intro _; rfl
theorem take_bad {x : Nat → Int} {i n : Int} (h : ¬ (1 ≤ i ∧ i ≤ 6 ∧ 1 ≤ n ∧ n ≤ 1125899906842624)) : (takeM x i n).2 ≠ 0 := by
  intro h0
  obtain ⟨a, ha, hia, h1, h2, _⟩ := take_ok h0
  exact h ⟨by omega, by omega, h1, h2⟩
end Rt
/-- what the walk is told, where i and n are good -/
structure TToldA (x y : Nat → Int) (lx n e0 : Int) (a : Nat) : Prop where
  may : ∀ w', Calls Try.prog 39 #[.agg (iarr .i64 54 x)] w' fun e w'' => e = .returned (.bool true) ∧ Below w'.heap.size w' w''
  tk : ∀ w', Calls Try.prog 44 #[.agg (iarr .i64 54 x), .int .i64 ((a : Int) + 1), .int .i64 n] w' (rpost (y, e0) w')
  lx : ∀ w', Calls Try.prog 43 #[.agg (iarr .i64 54 x), .int .i64 ((a : Int) + 1)] w' fun e w'' => e = .returned (.int .i64 lx) ∧ Below w'.heap.size w' w''
structure TToldB (x y z : Nat → Int) (lx n u gg f0 : Int) (a : Nat) : Prop where
  fr : ∀ w', Calls Try.prog 45 #[.agg (iarr .i64 54 y), .int .i64 ((a : Int) + 1), .int .i64 n] w' (rpost (z, f0) w')
  sx : ∀ w', Calls Try.prog 41 #[.agg (iarr .i64 54 x)] w' fun e w'' => e = .returned (.tuple #[.int .i64 gg, .int .i64 u]) ∧ Below w'.heap.size w' w''
  sy : ∀ w', Calls Try.prog 41 #[.agg (iarr .i64 54 y)] w' fun e w'' => e = .returned (.tuple #[.int .i64 gg, .int .i64 (u + n)]) ∧ Below w'.heap.size w' w''
  ly : ∀ w', Calls Try.prog 43 #[.agg (iarr .i64 54 y), .int .i64 ((a : Int) + 1)] w' fun e w'' => e = .returned (.int .i64 (lx - n)) ∧ Below w'.heap.size w' w''
  sz : f0 = 0 → ∀ w', Calls Try.prog 41 #[.agg (iarr .i64 54 z)] w' fun e w'' => e = .returned (.tuple #[.int .i64 gg, .int .i64 u]) ∧ Below w'.heap.size w' w''
  lz : f0 = 0 → ∀ w', Calls Try.prog 43 #[.agg (iarr .i64 54 z), .int .i64 ((a : Int) + 1)] w' fun e w'' => e = .returned (.int .i64 lx) ∧ Below w'.heap.size w' w''
theorem sums_may {x : Nat → Int} (hm : may x = true) (w : World) : Calls Try.prog 41 #[.agg (iarr .i64 54 x)] w fun e w'' => e = .returned (.tuple #[.int .i64 (gSum x), .int .i64 (uSum x)]) ∧ Below w.heap.size w w'' := by
  have := sums_any x w; rw [sums_eq hm] at this; exact this
theorem local_may {x : Nat → Int} (hm : may x = true) (a : Nat) (ha : a < 6) (w : World) : Calls Try.prog 43 #[.agg (iarr .i64 54 x), .int .i64 ((a : Int) + 1)] w fun e w'' => e = .returned (.int .i64 (L x a)) ∧ Below w.heap.size w w'' := by
  have := localV_any x ((a : Int) + 1) w (by omega); rw [localV_L hm a ha] at this; exact this
theorem may_true {x : Nat → Int} (hm : may x = true) (w : World) : Calls Try.prog 39 #[.agg (iarr .i64 54 x)] w fun e w'' => e = .returned (.bool true) ∧ Below w.heap.size w w'' := by
  have := may_any x w; rw [hm] at this; exact this
theorem ttoldA {x : Nat → Int} {n : Int} {a : Nat} (hm : may x = true) (ha : a < 6) : TToldA x (takeM x ((a : Int) + 1) n).1 (L x a) n (takeM x ((a : Int) + 1) n).2 a :=
  ⟨may_true hm, fun w' => take_any x _ n w' (by omega), local_may hm a ha⟩
theorem ttoldB {x : Nat → Int} {n : Int} {a : Nat} (hm : may x = true) (ha : a < 6) (h0 : (takeM x ((a : Int) + 1) n).2 = 0) :
    TToldB x (takeM x ((a : Int) + 1) n).1 (freeM (takeM x ((a : Int) + 1) n).1 ((a : Int) + 1) n).1 (L x a) n (uSum x) (gSum x) (freeM (takeM x ((a : Int) + 1) n).1 ((a : Int) + 1) n).2 a := by
  obtain ⟨a', ha', hia, h1, h2, hL, _, my, hl, hg, hu, _⟩ := take_ok h0
  obtain rfl : a' = a := by omega
  generalize (takeM x ((a' : Int) + 1) n).1 = y at *
  refine ⟨fun w' => free_any y _ n w' (by omega), sums_may hm, fun w' => ?_, fun w' => ?_, fun h3 w' => ?_, fun h3 w' => ?_⟩
  · have := sums_may my w'; rw [hg, hu] at this; exact this
  · have := local_may my a' ha w'; rw [hl a' ha, if_pos rfl] at this; exact this
  · obtain ⟨a2, ha2, hia2, _, _, _, mz, hlz, hgz, huz, _⟩ := free_ok h3
    have := sums_may mz w'; rw [hgz, huz, hg, hu, show uSum x + n - n = uSum x by omega] at this; exact this
  · obtain ⟨a2, ha2, hia2, _, _, _, mz, hlz, hgz, huz, _⟩ := free_ok h3
    have := local_may mz a' ha w'
    rw [hlz a' ha, hl a' ha, if_pos rfl, if_pos (by omega), show L x a' - n + n = L x a' by omega] at this; exact this
attribute [local irreducible] Oper.wp Code.wp
set_option maxRecDepth 100000 in
set_option maxHeartbeats 4000000 in
theorem takes_no (x : Nat → Int) (i n : Int) (w : World) (hm : may x = false) :
    Calls Try.prog 9 #[.agg (iarr .i64 54 x), .int .i64 i, .int .i64 n] w fun e w' => e = .returned (.bool true) ∧ Below w.heap.size w w' := by
  have HR : Hid (Rws w [(w.heap.size, x)] (w.alloc (.cells (iarr .i64 54 x) 48))) := Rws.start w x
  have hmay : Hid (∀ w', Calls Try.prog 39 #[.agg (iarr .i64 54 x)] w' fun e w'' => e = .returned (.bool (may x)) ∧ Below w'.heap.size w' w'') := fun w' => may_any x w'
  rw [hm] at hmay
  clear hm
  go_enter Try.func9, Try.ntmps9
  go_wp2_with (refine wpList_load_row (o := ⟨some 18, _, _, _, _, _⟩) (by rfl) 48 (.tmp 3) (by rfl) w.heap.size (by rfl) 48 (iarr .i64 54 x) (0, 0) _ (HR.out.row w.heap.size x (by simp)) Try.underlying48 (by rfl) (by rw [iarr_size]; exact infoR) ?_)
  refine (hmay.out _).mono ?_
  rintro e w1 ⟨rfl, hb⟩
  replace HR : Hid (Rws w [(w.heap.size, x)] w1) := HR.out.up hb
  clear hb
  go_wp2_with fail
  refine (works7_any _).mono ?_
  rintro e w2 ⟨rfl, hb⟩
  replace HR : Hid (Rws w [(w.heap.size, x)] w2) := HR.out.up hb
  clear hb
  go_wp2_with fail
  go_ret
  exact ⟨rfl, HR.out.2⟩
set_option maxRecDepth 100000 in
set_option maxHeartbeats 4000000 in
theorem takes_bad (x : Nat → Int) (i n : Int) (w : World) (hm : may x = true) (hi : -9223372036854775808 ≤ i ∧ i ≤ 9223372036854775807) (hbad : ¬ (1 ≤ i ∧ i ≤ 6 ∧ 1 ≤ n ∧ n ≤ 1125899906842624)) :
    Calls Try.prog 9 #[.agg (iarr .i64 54 x), .int .i64 i, .int .i64 n] w fun e w' => e = .returned (.bool true) ∧ Below w.heap.size w w' := by
  have HR : Hid (Rws w [(w.heap.size, x)] (w.alloc (.cells (iarr .i64 54 x) 48))) := Rws.start w x
  have HT : Hid (∀ w', Calls Try.prog 44 #[.agg (iarr .i64 54 x), .int .i64 i, .int .i64 n] w' (rpost ((takeM x i n).1, (takeM x i n).2) w')) := fun w' => take_any x i n w' hi
  have HL : Hid (∀ w', Calls Try.prog 43 #[.agg (iarr .i64 54 x), .int .i64 i] w' fun e w'' => e = .returned (.int .i64 (localV x i)) ∧ Below w'.heap.size w' w'') := fun w' => localV_any x i w' hi
  have HM : Hid (∀ w', Calls Try.prog 39 #[.agg (iarr .i64 54 x)] w' fun e w'' => e = .returned (.bool true) ∧ Below w'.heap.size w' w'') := may_true hm
  have hne := take_bad (x := x) hbad
  rw [take_no hne] at HT
  have he2 : ((takeM x i n).2 != 0) = true := by simpa using hne
  clear hne hm
  generalize (takeM x i n).2 = e0 at *
  generalize localV x i = lv at *
  by_cases c0 : i < 1
  · have d0 : decide (i < 1) = true := by simpa using c0
    clear hbad hi
    go_enter Try.func9, Try.ntmps9
    go_wp2_with (refine wpList_load_row (o := ⟨some 18, _, _, _, _, _⟩) (by rfl) 48 (.tmp 3) (by rfl) w.heap.size (by rfl) 48 (iarr .i64 54 x) (0, 0) _ (HR.out.row w.heap.size x (by simp)) Try.underlying48 (by rfl) (by rw [iarr_size]; exact infoR) ?_)
    refine (HM.out _).mono ?_
    rintro e w1 ⟨rfl, hb⟩
    replace HR : Hid (Rws w [(w.heap.size, x)] w1) := HR.out.up hb
    clear hb
    go_wp2_with (refine wpList_load_row (o := ⟨some 23, _, _, _, _, _⟩) (by rfl) 48 (.tmp 3) (by rfl) w.heap.size (by rfl) 48 (iarr .i64 54 x) (0, 0) _ (HR.out.row w.heap.size x (by simp)) Try.underlying48 (by rfl) (by rw [iarr_size]; exact infoR) ?_)
    refine (HT.out _).mono ?_
    rintro e w2 ⟨rfl, hb⟩
    replace HR : Hid (Rws w [(w.heap.size, x)] w2) := HR.out.up hb
    clear hb
    go_wp2_with (first
      | (refine wpList_store_new (o := ⟨none, .store 48 (.tmp 7) (.tmp 27), _, _, _, _⟩) (by rfl) 48 (.tmp 7) (.tmp 27) (by rfl) (iarr .i64 54 zero) (by rfl) (by rfl) (by rw [iarr_size]; exact infoR) (by rw [iarr_size]; rfl) (iarr_one _ _ _) ?_; intro vgy cgy hvgy; replace HR : Hid (Rws w [(w2.heap.size, zero), (w.heap.size, x)] vgy) := (HR.out.up hvgy).add cgy; clear cgy hvgy; generalize w2.heap.size = gy at *)
      | (refine wpList_load_row (o := ⟨some 29, _, _, _, _, _⟩) (by rfl) 48 (.tmp 3) (by rfl) w.heap.size (by rfl) 48 (iarr .i64 54 x) (0, 0) _ (HR.out.row w.heap.size x (by simp)) Try.underlying48 (by rfl) (by rw [iarr_size]; exact infoR) ?_))
    refine (HL.out _).mono ?_
    rintro e w3 ⟨rfl, hb⟩
    replace HR : Hid (Rws w [(gy, zero), (w.heap.size, x)] w3) := HR.out.up hb
    clear hb
    go_wp2_with (first
      | (refine wpList_wanted (by rfl) (wp_load_row (o := ⟨some 49, _, _, _, _, _⟩) 48 (.tmp 7) (by rfl) gy (by rfl) 48 (iarr .i64 54 zero) (0, 0) _ (HR.out.row gy zero (by simp)) Try.underlying48 (by rfl) (by rw [iarr_size]; exact infoR) ?_))
      | (refine wpList_eqR (fx := zero) (fy := zero) (b := true) (by rfl) (by rfl) (by rfl) (by kernel_rfl) zero_in64 zero_in64 (by kernel_rfl) ?_))
    refine (works7_any _).mono ?_
    rintro e w4 ⟨rfl, hb⟩
    replace HR : Hid (Rws w [(gy, zero), (w.heap.size, x)] w4) := HR.out.up hb
    clear hb
    go_wp2_with fail
    go_ret
    exact ⟨rfl, HR.out.2⟩
  have d0 : decide (i < 1) = false := by simp; omega
  by_cases c1 : 6 < i
  · have d1 : decide (6 < i) = true := by simpa using c1
    clear hbad hi
    go_enter Try.func9, Try.ntmps9
    go_wp2_with (refine wpList_load_row (o := ⟨some 18, _, _, _, _, _⟩) (by rfl) 48 (.tmp 3) (by rfl) w.heap.size (by rfl) 48 (iarr .i64 54 x) (0, 0) _ (HR.out.row w.heap.size x (by simp)) Try.underlying48 (by rfl) (by rw [iarr_size]; exact infoR) ?_)
    refine (HM.out _).mono ?_
    rintro e w1 ⟨rfl, hb⟩
    replace HR : Hid (Rws w [(w.heap.size, x)] w1) := HR.out.up hb
    clear hb
    go_wp2_with (refine wpList_load_row (o := ⟨some 23, _, _, _, _, _⟩) (by rfl) 48 (.tmp 3) (by rfl) w.heap.size (by rfl) 48 (iarr .i64 54 x) (0, 0) _ (HR.out.row w.heap.size x (by simp)) Try.underlying48 (by rfl) (by rw [iarr_size]; exact infoR) ?_)
    refine (HT.out _).mono ?_
    rintro e w2 ⟨rfl, hb⟩
    replace HR : Hid (Rws w [(w.heap.size, x)] w2) := HR.out.up hb
    clear hb
    go_wp2_with (first
      | (refine wpList_store_new (o := ⟨none, .store 48 (.tmp 7) (.tmp 27), _, _, _, _⟩) (by rfl) 48 (.tmp 7) (.tmp 27) (by rfl) (iarr .i64 54 zero) (by rfl) (by rfl) (by rw [iarr_size]; exact infoR) (by rw [iarr_size]; rfl) (iarr_one _ _ _) ?_; intro vgy cgy hvgy; replace HR : Hid (Rws w [(w2.heap.size, zero), (w.heap.size, x)] vgy) := (HR.out.up hvgy).add cgy; clear cgy hvgy; generalize w2.heap.size = gy at *)
      | (refine wpList_load_row (o := ⟨some 29, _, _, _, _, _⟩) (by rfl) 48 (.tmp 3) (by rfl) w.heap.size (by rfl) 48 (iarr .i64 54 x) (0, 0) _ (HR.out.row w.heap.size x (by simp)) Try.underlying48 (by rfl) (by rw [iarr_size]; exact infoR) ?_))
    refine (HL.out _).mono ?_
    rintro e w3 ⟨rfl, hb⟩
    replace HR : Hid (Rws w [(gy, zero), (w.heap.size, x)] w3) := HR.out.up hb
    clear hb
    go_wp2_with (first
      | (refine wpList_wanted (by rfl) (wp_load_row (o := ⟨some 49, _, _, _, _, _⟩) 48 (.tmp 7) (by rfl) gy (by rfl) 48 (iarr .i64 54 zero) (0, 0) _ (HR.out.row gy zero (by simp)) Try.underlying48 (by rfl) (by rw [iarr_size]; exact infoR) ?_))
      | (refine wpList_eqR (fx := zero) (fy := zero) (b := true) (by rfl) (by rfl) (by rfl) (by kernel_rfl) zero_in64 zero_in64 (by kernel_rfl) ?_))
    refine (works7_any _).mono ?_
    rintro e w4 ⟨rfl, hb⟩
    replace HR : Hid (Rws w [(gy, zero), (w.heap.size, x)] w4) := HR.out.up hb
    clear hb
    go_wp2_with fail
    go_ret
    exact ⟨rfl, HR.out.2⟩
  have d1 : decide (6 < i) = false := by simp; omega
  by_cases c2 : n < 1
  · have d2 : decide (n < 1) = true := by simpa using c2
    clear hbad hi
    go_enter Try.func9, Try.ntmps9
    go_wp2_with (refine wpList_load_row (o := ⟨some 18, _, _, _, _, _⟩) (by rfl) 48 (.tmp 3) (by rfl) w.heap.size (by rfl) 48 (iarr .i64 54 x) (0, 0) _ (HR.out.row w.heap.size x (by simp)) Try.underlying48 (by rfl) (by rw [iarr_size]; exact infoR) ?_)
    refine (HM.out _).mono ?_
    rintro e w1 ⟨rfl, hb⟩
    replace HR : Hid (Rws w [(w.heap.size, x)] w1) := HR.out.up hb
    clear hb
    go_wp2_with (refine wpList_load_row (o := ⟨some 23, _, _, _, _, _⟩) (by rfl) 48 (.tmp 3) (by rfl) w.heap.size (by rfl) 48 (iarr .i64 54 x) (0, 0) _ (HR.out.row w.heap.size x (by simp)) Try.underlying48 (by rfl) (by rw [iarr_size]; exact infoR) ?_)
    refine (HT.out _).mono ?_
    rintro e w2 ⟨rfl, hb⟩
    replace HR : Hid (Rws w [(w.heap.size, x)] w2) := HR.out.up hb
    clear hb
    go_wp2_with (first
      | (refine wpList_store_new (o := ⟨none, .store 48 (.tmp 7) (.tmp 27), _, _, _, _⟩) (by rfl) 48 (.tmp 7) (.tmp 27) (by rfl) (iarr .i64 54 zero) (by rfl) (by rfl) (by rw [iarr_size]; exact infoR) (by rw [iarr_size]; rfl) (iarr_one _ _ _) ?_; intro vgy cgy hvgy; replace HR : Hid (Rws w [(w2.heap.size, zero), (w.heap.size, x)] vgy) := (HR.out.up hvgy).add cgy; clear cgy hvgy; generalize w2.heap.size = gy at *)
      | (refine wpList_load_row (o := ⟨some 29, _, _, _, _, _⟩) (by rfl) 48 (.tmp 3) (by rfl) w.heap.size (by rfl) 48 (iarr .i64 54 x) (0, 0) _ (HR.out.row w.heap.size x (by simp)) Try.underlying48 (by rfl) (by rw [iarr_size]; exact infoR) ?_))
    refine (HL.out _).mono ?_
    rintro e w3 ⟨rfl, hb⟩
    replace HR : Hid (Rws w [(gy, zero), (w.heap.size, x)] w3) := HR.out.up hb
    clear hb
    go_wp2_with (first
      | (refine wpList_wanted (by rfl) (wp_load_row (o := ⟨some 49, _, _, _, _, _⟩) 48 (.tmp 7) (by rfl) gy (by rfl) 48 (iarr .i64 54 zero) (0, 0) _ (HR.out.row gy zero (by simp)) Try.underlying48 (by rfl) (by rw [iarr_size]; exact infoR) ?_))
      | (refine wpList_eqR (fx := zero) (fy := zero) (b := true) (by rfl) (by rfl) (by rfl) (by kernel_rfl) zero_in64 zero_in64 (by kernel_rfl) ?_))
    refine (works7_any _).mono ?_
    rintro e w4 ⟨rfl, hb⟩
    replace HR : Hid (Rws w [(gy, zero), (w.heap.size, x)] w4) := HR.out.up hb
    clear hb
    go_wp2_with fail
    go_ret
    exact ⟨rfl, HR.out.2⟩
  have d2 : decide (n < 1) = false := by simp; omega
  have d3 : decide (1125899906842624 < n) = true := by simp; omega
  clear hbad hi
  go_enter Try.func9, Try.ntmps9
  go_wp2_with (refine wpList_load_row (o := ⟨some 18, _, _, _, _, _⟩) (by rfl) 48 (.tmp 3) (by rfl) w.heap.size (by rfl) 48 (iarr .i64 54 x) (0, 0) _ (HR.out.row w.heap.size x (by simp)) Try.underlying48 (by rfl) (by rw [iarr_size]; exact infoR) ?_)
  refine (HM.out _).mono ?_
  rintro e w1 ⟨rfl, hb⟩
  replace HR : Hid (Rws w [(w.heap.size, x)] w1) := HR.out.up hb
  clear hb
  go_wp2_with (refine wpList_load_row (o := ⟨some 23, _, _, _, _, _⟩) (by rfl) 48 (.tmp 3) (by rfl) w.heap.size (by rfl) 48 (iarr .i64 54 x) (0, 0) _ (HR.out.row w.heap.size x (by simp)) Try.underlying48 (by rfl) (by rw [iarr_size]; exact infoR) ?_)
  refine (HT.out _).mono ?_
  rintro e w2 ⟨rfl, hb⟩
  replace HR : Hid (Rws w [(w.heap.size, x)] w2) := HR.out.up hb
  clear hb
  go_wp2_with (first
    | (refine wpList_store_new (o := ⟨none, .store 48 (.tmp 7) (.tmp 27), _, _, _, _⟩) (by rfl) 48 (.tmp 7) (.tmp 27) (by rfl) (iarr .i64 54 zero) (by rfl) (by rfl) (by rw [iarr_size]; exact infoR) (by rw [iarr_size]; rfl) (iarr_one _ _ _) ?_; intro vgy cgy hvgy; replace HR : Hid (Rws w [(w2.heap.size, zero), (w.heap.size, x)] vgy) := (HR.out.up hvgy).add cgy; clear cgy hvgy; generalize w2.heap.size = gy at *)
    | (refine wpList_load_row (o := ⟨some 29, _, _, _, _, _⟩) (by rfl) 48 (.tmp 3) (by rfl) w.heap.size (by rfl) 48 (iarr .i64 54 x) (0, 0) _ (HR.out.row w.heap.size x (by simp)) Try.underlying48 (by rfl) (by rw [iarr_size]; exact infoR) ?_))
  refine (HL.out _).mono ?_
  rintro e w3 ⟨rfl, hb⟩
  replace HR : Hid (Rws w [(gy, zero), (w.heap.size, x)] w3) := HR.out.up hb
  clear hb
  go_wp2_with (first
    | (refine wpList_wanted (by rfl) (wp_load_row (o := ⟨some 49, _, _, _, _, _⟩) 48 (.tmp 7) (by rfl) gy (by rfl) 48 (iarr .i64 54 zero) (0, 0) _ (HR.out.row gy zero (by simp)) Try.underlying48 (by rfl) (by rw [iarr_size]; exact infoR) ?_))
    | (refine wpList_eqR (fx := zero) (fy := zero) (b := true) (by rfl) (by rfl) (by rfl) (by kernel_rfl) zero_in64 zero_in64 (by kernel_rfl) ?_))
  refine (works7_any _).mono ?_
  rintro e w4 ⟨rfl, hb⟩
  replace HR : Hid (Rws w [(gy, zero), (w.heap.size, x)] w4) := HR.out.up hb
  clear hb
  go_wp2_with fail
  go_ret
  exact ⟨rfl, HR.out.2⟩
end Go.Proofs.Ytolmkjepieoloaa
