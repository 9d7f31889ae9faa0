/-
  The walk of leatlaw07.RightsTakes, on.
-/
import Derived.Test.YtolmkjepieoloaaRTakesA
namespace Go.Proofs.Ytolmkjepieoloaa
open Go.RowKit Rt
theorem int_zero2 (f : Int) : f = 0 ∨ (f == 0) = false := by
  by_cases h : f = 0
  · exact .inl h
  · exact .inr (by simpa using h)
attribute [local irreducible] Oper.wp Code.wp
set_option maxRecDepth 100000 in
set_option maxHeartbeats 4000000 in
theorem takes_few (x y : Nat → Int) (lx n e0 : Int) (a : Nat) (w : World) (HT : Hid (TToldA x y lx n e0 a)) (ha : a < 6) (h1 : 1 ≤ n) (h2 : n ≤ 1125899906842624) (hc : 0 ≤ C x a ∧ C x a ≤ 1125899906842624) (hl : 0 ≤ lx ∧ lx ≤ 9007199254740992) (he : e0 ≠ 0) (hy : y = zero) (hn : lx < n) :
    Calls Try.prog 9 #[.agg (iarr .i64 54 x), .int .i64 ((a : Int) + 1), .int .i64 n] w fun e w' => e = .returned (.bool true) ∧ Below w.heap.size w w' := by
  have HR : Hid (Rws w [(w.heap.size, x)] (w.alloc (.cells (iarr .i64 54 x) 48))) := Rws.start w x
  have d0 : decide ((a : Int) + 1 < 1) = false := by simp; omega
  have d1 : decide (6 < (a : Int) + 1) = false := by simp; omega
  have d2 : decide (n < 1) = false := by simp; omega
  have d3 : decide (1125899906842624 < n) = false := by simp; omega
  have ha6 : (a : Int) < 6 := by omega
  subst hy
  have he1 : (e0 == 0) = false := by simpa using he
  have he2 : (e0 != 0) = true := by simpa using he
  have dn : decide (n ≤ lx) = false := by simp; omega
  go_enter Try.func9, Try.ntmps9
  go_wp2_with (refine wpList_load_row (o := ⟨some 18, _, _, _, _, _⟩) (by rfl) 48 (.tmp 3) (by rfl) w.heap.size (by rfl) 48 (iarr .i64 54 x) (0, 0) _ (HR.out.row w.heap.size x (by simp)) Try.underlying48 (by rfl) (by rw [iarr_size]; exact infoR) ?_)
  refine (HT.out.may _).mono ?_
  rintro e w1 ⟨rfl, hb⟩
  replace HR : Hid (Rws w [(w.heap.size, x)] w1) := HR.out.up hb
  clear hb
  go_wp2_with (refine wpList_load_row (o := ⟨some 23, _, _, _, _, _⟩) (by rfl) 48 (.tmp 3) (by rfl) w.heap.size (by rfl) 48 (iarr .i64 54 x) (0, 0) _ (HR.out.row w.heap.size x (by simp)) Try.underlying48 (by rfl) (by rw [iarr_size]; exact infoR) ?_)
  refine (HT.out.tk _).mono ?_
  rintro e w2 ⟨rfl, hb⟩
  replace HR : Hid (Rws w [(w.heap.size, x)] w2) := HR.out.up hb
  clear hb
  go_wp2_with (first
    | (refine wpList_store_new (o := ⟨none, .store 48 (.tmp 7) (.tmp 27), _, _, _, _⟩) (by rfl) 48 (.tmp 7) (.tmp 27) (by rfl) (iarr .i64 54 zero) (by rfl) (by rfl) (by rw [iarr_size]; exact infoR) (by rw [iarr_size]; rfl) (iarr_one _ _ _) ?_; intro vgy cgy hvgy; replace HR : Hid (Rws w [(w2.heap.size, zero), (w.heap.size, x)] vgy) := (HR.out.up hvgy).add cgy; clear cgy hvgy; generalize w2.heap.size = gy at *)
    | (refine wpList_load_row (o := ⟨some 29, _, _, _, _, _⟩) (by rfl) 48 (.tmp 3) (by rfl) w.heap.size (by rfl) 48 (iarr .i64 54 x) (0, 0) _ (HR.out.row w.heap.size x (by simp)) Try.underlying48 (by rfl) (by rw [iarr_size]; exact infoR) ?_))
  refine (HT.out.lx _).mono ?_
  rintro e w3 ⟨rfl, hb⟩
  replace HR : Hid (Rws w [(gy, zero), (w.heap.size, x)] w3) := HR.out.up hb
  clear hb
  have hx6 : w3.cell? ⟨w.heap.size, 6 + a, none⟩ = some (.int .i64 (C x a)) := iarr_cell (HR.out.row w.heap.size x (by simp)) (6 + a) (by omega)
  generalize C x a = c at *
  go_wp2_with (first
    | (refine wpList_load_row (o := ⟨some 74, _, _, _, _, _⟩) (by rfl) 48 (.tmp 7) (by rfl) gy (by rfl) 48 (iarr .i64 54 zero) (0, 0) _ (HR.out.row gy zero (by simp)) Try.underlying48 (by rfl) (by rw [iarr_size]; exact infoR) ?_)
    | (refine wpList_eqR (fx := zero) (fy := zero) (b := true) (by rfl) (by rfl) (by rfl) (by kernel_rfl) zero_in64 zero_in64 (by kernel_rfl) ?_))
  refine (works7_any _).mono ?_
  rintro e w4 ⟨rfl, hb⟩
  replace HR : Hid (Rws w [(gy, zero), (w.heap.size, x)] w4) := HR.out.up hb
  clear hb
  go_wp2_with fail
  go_ret
  exact ⟨rfl, HR.out.2⟩
set_option maxRecDepth 100000 in
set_option maxHeartbeats 4000000 in
theorem takes_many (x y : Nat → Int) (lx n e0 : Int) (a : Nat) (w : World) (HT : Hid (TToldA x y lx n e0 a)) (ha : a < 6) (h1 : 1 ≤ n) (h2 : n ≤ 1125899906842624) (hc : 0 ≤ C x a ∧ C x a ≤ 1125899906842624) (hl : 0 ≤ lx ∧ lx ≤ 9007199254740992) (he : e0 ≠ 0) (hy : y = zero) (hn : n ≤ lx) (hm : 1125899906842624 < C x a + n) :
    Calls Try.prog 9 #[.agg (iarr .i64 54 x), .int .i64 ((a : Int) + 1), .int .i64 n] w fun e w' => e = .returned (.bool true) ∧ Below w.heap.size w w' := by
  have HR : Hid (Rws w [(w.heap.size, x)] (w.alloc (.cells (iarr .i64 54 x) 48))) := Rws.start w x
  have d0 : decide ((a : Int) + 1 < 1) = false := by simp; omega
  have d1 : decide (6 < (a : Int) + 1) = false := by simp; omega
  have d2 : decide (n < 1) = false := by simp; omega
  have d3 : decide (1125899906842624 < n) = false := by simp; omega
  have ha6 : (a : Int) < 6 := by omega
  subst hy
  have he1 : (e0 == 0) = false := by simpa using he
  have he2 : (e0 != 0) = true := by simpa using he
  have dn : decide (n ≤ lx) = true := by simp; omega
  have dm : decide (C x a + n ≤ 1125899906842624) = false := by simp; omega
  go_enter Try.func9, Try.ntmps9
  go_wp2_with (refine wpList_load_row (o := ⟨some 18, _, _, _, _, _⟩) (by rfl) 48 (.tmp 3) (by rfl) w.heap.size (by rfl) 48 (iarr .i64 54 x) (0, 0) _ (HR.out.row w.heap.size x (by simp)) Try.underlying48 (by rfl) (by rw [iarr_size]; exact infoR) ?_)
  refine (HT.out.may _).mono ?_
  rintro e w1 ⟨rfl, hb⟩
  replace HR : Hid (Rws w [(w.heap.size, x)] w1) := HR.out.up hb
  clear hb
  go_wp2_with (refine wpList_load_row (o := ⟨some 23, _, _, _, _, _⟩) (by rfl) 48 (.tmp 3) (by rfl) w.heap.size (by rfl) 48 (iarr .i64 54 x) (0, 0) _ (HR.out.row w.heap.size x (by simp)) Try.underlying48 (by rfl) (by rw [iarr_size]; exact infoR) ?_)
  refine (HT.out.tk _).mono ?_
  rintro e w2 ⟨rfl, hb⟩
  replace HR : Hid (Rws w [(w.heap.size, x)] w2) := HR.out.up hb
  clear hb
  go_wp2_with (first
    | (refine wpList_store_new (o := ⟨none, .store 48 (.tmp 7) (.tmp 27), _, _, _, _⟩) (by rfl) 48 (.tmp 7) (.tmp 27) (by rfl) (iarr .i64 54 zero) (by rfl) (by rfl) (by rw [iarr_size]; exact infoR) (by rw [iarr_size]; rfl) (iarr_one _ _ _) ?_; intro vgy cgy hvgy; replace HR : Hid (Rws w [(w2.heap.size, zero), (w.heap.size, x)] vgy) := (HR.out.up hvgy).add cgy; clear cgy hvgy; generalize w2.heap.size = gy at *)
    | (refine wpList_load_row (o := ⟨some 29, _, _, _, _, _⟩) (by rfl) 48 (.tmp 3) (by rfl) w.heap.size (by rfl) 48 (iarr .i64 54 x) (0, 0) _ (HR.out.row w.heap.size x (by simp)) Try.underlying48 (by rfl) (by rw [iarr_size]; exact infoR) ?_))
  refine (HT.out.lx _).mono ?_
  rintro e w3 ⟨rfl, hb⟩
  replace HR : Hid (Rws w [(gy, zero), (w.heap.size, x)] w3) := HR.out.up hb
  clear hb
  have hx6 : w3.cell? ⟨w.heap.size, 6 + a, none⟩ = some (.int .i64 (C x a)) := iarr_cell (HR.out.row w.heap.size x (by simp)) (6 + a) (by omega)
  generalize C x a = c at *
  go_wp2_with (first
    | (refine wpList_load_row (o := ⟨some 74, _, _, _, _, _⟩) (by rfl) 48 (.tmp 7) (by rfl) gy (by rfl) 48 (iarr .i64 54 zero) (0, 0) _ (HR.out.row gy zero (by simp)) Try.underlying48 (by rfl) (by rw [iarr_size]; exact infoR) ?_)
    | (refine wpList_eqR (fx := zero) (fy := zero) (b := true) (by rfl) (by rfl) (by rfl) (by kernel_rfl) zero_in64 zero_in64 (by kernel_rfl) ?_))
  refine (works7_any _).mono ?_
  rintro e w4 ⟨rfl, hb⟩
  replace HR : Hid (Rws w [(gy, zero), (w.heap.size, x)] w4) := HR.out.up hb
  clear hb
  go_wp2_with fail
  go_ret
  exact ⟨rfl, HR.out.2⟩
set_option maxRecDepth 100000 in
set_option maxHeartbeats 4000000 in
theorem takes_well (x y : Nat → Int) (lx n e0 : Int) (a : Nat) (w : World) (HT : Hid (TToldA x y lx n e0 a)) (ha : a < 6) (h1 : 1 ≤ n) (h2 : n ≤ 1125899906842624) (hc : 0 ≤ C x a ∧ C x a ≤ 1125899906842624) (hl : 0 ≤ lx ∧ lx ≤ 9007199254740992) (z : Nat → Int) (u gg f0 : Int) (HB : Hid (TToldB x y z lx n u gg f0 a)) (hu : 0 ≤ u ∧ u ≤ 1125899906842624 * 6) (he : e0 = 0) (hn : n ≤ lx) (hm : C x a + n ≤ 1125899906842624) :
    Calls Try.prog 9 #[.agg (iarr .i64 54 x), .int .i64 ((a : Int) + 1), .int .i64 n] w fun e w' => e = .returned (.bool true) ∧ Below w.heap.size w w' := by
  have HR : Hid (Rws w [(w.heap.size, x)] (w.alloc (.cells (iarr .i64 54 x) 48))) := Rws.start w x
  have d0 : decide ((a : Int) + 1 < 1) = false := by simp; omega
  have d1 : decide (6 < (a : Int) + 1) = false := by simp; omega
  have d2 : decide (n < 1) = false := by simp; omega
  have d3 : decide (1125899906842624 < n) = false := by simp; omega
  have ha6 : (a : Int) < 6 := by omega
  subst he
  have dn : decide (n ≤ lx) = true := by simp; omega
  have dm : decide (C x a + n ≤ 1125899906842624) = true := by simp; omega
  have hEF : Hid (f0 = 0 ∨ (f0 == 0) = false) := int_zero2 f0
  go_enter Try.func9, Try.ntmps9
  go_wp2_with (refine wpList_load_row (o := ⟨some 18, _, _, _, _, _⟩) (by rfl) 48 (.tmp 3) (by rfl) w.heap.size (by rfl) 48 (iarr .i64 54 x) (0, 0) _ (HR.out.row w.heap.size x (by simp)) Try.underlying48 (by rfl) (by rw [iarr_size]; exact infoR) ?_)
  refine (HT.out.may _).mono ?_
  rintro e w1 ⟨rfl, hb⟩
  replace HR : Hid (Rws w [(w.heap.size, x)] w1) := HR.out.up hb
  clear hb
  go_wp2_with (refine wpList_load_row (o := ⟨some 23, _, _, _, _, _⟩) (by rfl) 48 (.tmp 3) (by rfl) w.heap.size (by rfl) 48 (iarr .i64 54 x) (0, 0) _ (HR.out.row w.heap.size x (by simp)) Try.underlying48 (by rfl) (by rw [iarr_size]; exact infoR) ?_)
  refine (HT.out.tk _).mono ?_
  rintro e w2 ⟨rfl, hb⟩
  replace HR : Hid (Rws w [(w.heap.size, x)] w2) := HR.out.up hb
  clear hb
  go_wp2_with (first
    | (refine wpList_store_new (o := ⟨none, .store 48 (.tmp 7) (.tmp 27), _, _, _, _⟩) (by rfl) 48 (.tmp 7) (.tmp 27) (by rfl) (iarr .i64 54 y) (by rfl) (by rfl) (by rw [iarr_size]; exact infoR) (by rw [iarr_size]; rfl) (iarr_one _ _ _) ?_; intro vgy cgy hvgy; replace HR : Hid (Rws w [(w2.heap.size, y), (w.heap.size, x)] vgy) := (HR.out.up hvgy).add cgy; clear cgy hvgy; generalize w2.heap.size = gy at *)
    | (refine wpList_load_row (o := ⟨some 29, _, _, _, _, _⟩) (by rfl) 48 (.tmp 3) (by rfl) w.heap.size (by rfl) 48 (iarr .i64 54 x) (0, 0) _ (HR.out.row w.heap.size x (by simp)) Try.underlying48 (by rfl) (by rw [iarr_size]; exact infoR) ?_))
  refine (HT.out.lx _).mono ?_
  rintro e w3 ⟨rfl, hb⟩
  replace HR : Hid (Rws w [(gy, y), (w.heap.size, x)] w3) := HR.out.up hb
  clear hb
  have hx6 : w3.cell? ⟨w.heap.size, 6 + a, none⟩ = some (.int .i64 (C x a)) := iarr_cell (HR.out.row w.heap.size x (by simp)) (6 + a) (by omega)
  generalize C x a = c at *
  go_wp2_with (refine wpList_load_row (o := ⟨some 81, _, _, _, _, _⟩) (by rfl) 48 (.tmp 7) (by rfl) gy (by rfl) 48 (iarr .i64 54 y) (0, 0) _ (HR.out.row gy y (by simp)) Try.underlying48 (by rfl) (by rw [iarr_size]; exact infoR) ?_)
  refine (HB.out.fr _).mono ?_
  rintro e w4 ⟨rfl, hb⟩
  replace HR : Hid (Rws w [(gy, y), (w.heap.size, x)] w4) := HR.out.up hb
  clear hb
  go_wp2_with (first
    | (refine wpList_store_new (o := ⟨none, .store 48 (.tmp 10) (.tmp 85), _, _, _, _⟩) (by rfl) 48 (.tmp 10) (.tmp 85) (by rfl) (iarr .i64 54 z) (by rfl) (by rfl) (by rw [iarr_size]; exact infoR) (by rw [iarr_size]; rfl) (iarr_one _ _ _) ?_; intro vgz cgz hvgz; replace HR : Hid (Rws w [(w4.heap.size, z), (gy, y), (w.heap.size, x)] vgz) := (HR.out.up hvgz).add cgz; clear cgz hvgz; generalize w4.heap.size = gz at *)
    | (refine wpList_load_row (o := ⟨some 88, _, _, _, _, _⟩) (by rfl) 48 (.tmp 3) (by rfl) w.heap.size (by rfl) 48 (iarr .i64 54 x) (0, 0) _ (HR.out.row w.heap.size x (by simp)) Try.underlying48 (by rfl) (by rw [iarr_size]; exact infoR) ?_))
  refine (HB.out.sx _).mono ?_
  rintro e w5 ⟨rfl, hb⟩
  replace HR : Hid (Rws w [(gz, z), (gy, y), (w.heap.size, x)] w5) := HR.out.up hb
  clear hb
  go_wp2_with (refine wpList_load_row (o := ⟨some 93, _, _, _, _, _⟩) (by rfl) 48 (.tmp 7) (by rfl) gy (by rfl) 48 (iarr .i64 54 y) (0, 0) _ (HR.out.row gy y (by simp)) Try.underlying48 (by rfl) (by rw [iarr_size]; exact infoR) ?_)
  refine (HB.out.sy _).mono ?_
  rintro e w6 ⟨rfl, hb⟩
  replace HR : Hid (Rws w [(gz, z), (gy, y), (w.heap.size, x)] w6) := HR.out.up hb
  clear hb
  go_wp2_with (refine wpList_load_row (o := ⟨some 97, _, _, _, _, _⟩) (by rfl) 48 (.tmp 7) (by rfl) gy (by rfl) 48 (iarr .i64 54 y) (0, 0) _ (HR.out.row gy y (by simp)) Try.underlying48 (by rfl) (by rw [iarr_size]; exact infoR) ?_)
  refine (HB.out.ly _).mono ?_
  rintro e w7 ⟨rfl, hb⟩
  replace HR : Hid (Rws w [(gz, z), (gy, y), (w.heap.size, x)] w7) := HR.out.up hb
  clear hb
  rcases hEF.out with hf | hf
  · subst hf
    go_wp2_with (refine wpList_load_row (o := ⟨some 115, _, _, _, _, _⟩) (by rfl) 48 (.tmp 10) (by rfl) gz (by rfl) 48 (iarr .i64 54 z) (0, 0) _ (HR.out.row gz z (by simp)) Try.underlying48 (by rfl) (by rw [iarr_size]; exact infoR) ?_)
    refine (HB.out.sz rfl _).mono ?_
    rintro e w8 ⟨rfl, hb⟩
    replace HR : Hid (Rws w [(gz, z), (gy, y), (w.heap.size, x)] w8) := HR.out.up hb
    clear hb
    go_wp2_with (refine wpList_load_row (o := ⟨some 119, _, _, _, _, _⟩) (by rfl) 48 (.tmp 10) (by rfl) gz (by rfl) 48 (iarr .i64 54 z) (0, 0) _ (HR.out.row gz z (by simp)) Try.underlying48 (by rfl) (by rw [iarr_size]; exact infoR) ?_)
    refine (HB.out.lz rfl _).mono ?_
    rintro e w9 ⟨rfl, hb⟩
    replace HR : Hid (Rws w [(gz, z), (gy, y), (w.heap.size, x)] w9) := HR.out.up hb
    clear hb
    go_wp2_with fail
    refine (works7_any _).mono ?_
    rintro e w10 ⟨rfl, hb⟩
    replace HR : Hid (Rws w [(gz, z), (gy, y), (w.heap.size, x)] w10) := HR.out.up hb
    clear hb
    go_wp2_with fail
    go_ret
    exact ⟨rfl, HR.out.2⟩
  · have hf2 : (f0 != 0) = true := by simpa using hf
    go_wp2_with fail
    refine (works7_any _).mono ?_
    rintro e w8 ⟨rfl, hb⟩
    replace HR : Hid (Rws w [(gz, z), (gy, y), (w.heap.size, x)] w8) := HR.out.up hb
    clear hb
    go_wp2_with fail
    go_ret
    exact ⟨rfl, HR.out.2⟩
theorem takes_any (x : Nat → Int) (i n : Int) (w : World) (hi : -9223372036854775808 ≤ i ∧ i ≤ 9223372036854775807) :
    Calls Try.prog 9 #[.agg (iarr .i64 54 x), .int .i64 i, .int .i64 n] w fun e w' => e = .returned (.bool true) ∧ Below w.heap.size w w' := by
  by_cases hm : may x = true
  · by_cases hb : 1 ≤ i ∧ i ≤ 6 ∧ 1 ≤ n ∧ n ≤ 1125899906842624
    · obtain ⟨k, hk⟩ := Int.eq_ofNat_of_zero_le (show 0 ≤ i - 1 by omega)
      obtain rfl : i = (k : Int) + 1 := by omega
      have ha : k < 6 := by omega
      obtain ⟨e, al, gs⟩ := (may_iff x).1 hm
      have hc := e (6 + k) (by omega)
      have hl0 := (al k ha).1
      have hl1 : L x k ≤ 9007199254740992 := by have := localV_bd x ((k : Int) + 1); rw [localV_L hm k ha] at this; omega
      have it := take_iff (x := x) (a := k) hm ha hb.2.2.1 hb.2.2.2
      have hu : 0 ≤ uSum x ∧ uSum x ≤ 1125899906842624 * 6 := by have := (sums_bd x).2; rw [sums_eq hm] at this; omega
      by_cases h3 : n ≤ L x k
      · by_cases h4 : C x k + n ≤ 1125899906842624
        · exact takes_well x _ (L x k) n _ k w (ttoldA hm ha) ha hb.2.2.1 hb.2.2.2 hc ⟨hl0, hl1⟩ _ (uSum x) (gSum x) _ (ttoldB hm ha (it.2 ⟨h3, h4⟩)) hu (it.2 ⟨h3, h4⟩) h3 h4
        · have h5 : (takeM x ((k : Int) + 1) n).2 ≠ 0 := fun h => h4 (it.1 h).2
          exact takes_many x _ (L x k) n _ k w (ttoldA hm ha) ha hb.2.2.1 hb.2.2.2 hc ⟨hl0, hl1⟩ h5 (take_no h5) h3 (by omega)
      · have h5 : (takeM x ((k : Int) + 1) n).2 ≠ 0 := fun h => h3 (it.1 h).1
        exact takes_few x _ (L x k) n _ k w (ttoldA hm ha) ha hb.2.2.1 hb.2.2.2 hc ⟨hl0, hl1⟩ h5 (take_no h5) (by omega)
    · exact takes_bad x i n w hm hi hb
  · exact takes_no x i n w (by simpa using hm)
end Go.Proofs.Ytolmkjepieoloaa
