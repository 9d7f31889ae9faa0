/-
  The walk of leatlaw07.RightsBack: all is as it is told.
-/
import Derived.Test.YtolmkjepieoloaaRBackA
namespace Go.Proofs.Ytolmkjepieoloaa
open Go.RowKit Rt
theorem int_zero (f : Int) : f = 0 ∨ (f == 0) = false := by
  by_cases h : f = 0
  · exact .inl h
  · exact .inr (by simpa using h)
attribute [local irreducible] Oper.wp Code.wp
set_option maxRecDepth 100000 in
set_option maxHeartbeats 8000000 in
theorem back_walk (x y z c d f g : Nat → Int) (kk n f0 g0 h0 : Int) (a b : Nat) (w : World) (ha : a < 6) (hb6 : b < 6) (hab : a ≠ b) (hn1 : 1 ≤ n) (hn2 : n ≤ 1125899906842624)
    (HT : Hid (Told x y z c d f g ((a : Int) + 1) ((b : Int) + 1) kk n f0 g0 h0 a b)) :
    Calls Try.prog 8 #[.agg (iarr .i64 54 x), .int .i64 ((a : Int) + 1), .int .i64 ((b : Int) + 1), .int .i64 kk, .int .i64 n] w fun e w' => e = .returned (.bool true) ∧ Below w.heap.size w w' := by
  have HR : Hid (Rws w [(w.heap.size, x)] (w.alloc (.cells (iarr .i64 54 x) 48))) := Rws.start w x
  have hEF : Hid (f0 = 0 ∨ (f0 == 0) = false) := int_zero f0
  have hEG : Hid (g0 = 0 ∨ (g0 == 0) = false) := int_zero g0
  have hEH : Hid (h0 = 0 ∨ (h0 == 0) = false) := int_zero h0
  go_enter Try.func8, Try.ntmps8
  go_wp2_with (refine wpList_load_row (o := ⟨some 27, _, _, _, _, _⟩) (by rfl) 48 (.tmp 5) (by rfl) w.heap.size (by rfl) 48 (iarr .i64 54 x) (0, 0) _ (HR.out.row w.heap.size x (by simp)) Try.underlying48 (by rfl) (by rw [iarr_size]; exact infoR) ?_)
  refine (HT.out.may _).mono ?_
  rintro e w1 ⟨rfl, hb⟩
  replace HR : Hid (Rws w [(w.heap.size, x)] w1) := HR.out.up hb
  clear hb
  go_wp2_with (refine wpList_load_row (o := ⟨some 32, _, _, _, _, _⟩) (by rfl) 48 (.tmp 5) (by rfl) w.heap.size (by rfl) 48 (iarr .i64 54 x) (0, 0) _ (HR.out.row w.heap.size x (by simp)) Try.underlying48 (by rfl) (by rw [iarr_size]; exact infoR) ?_)
  refine (HT.out.sum _).mono ?_
  rintro e w2 ⟨rfl, hb⟩
  replace HR : Hid (Rws w [(w.heap.size, x)] w2) := HR.out.up hb
  clear hb
  go_wp2_with (refine wpList_load_row (o := ⟨some 37, _, _, _, _, _⟩) (by rfl) 48 (.tmp 5) (by rfl) w.heap.size (by rfl) 48 (iarr .i64 54 x) (0, 0) _ (HR.out.row w.heap.size x (by simp)) Try.underlying48 (by rfl) (by rw [iarr_size]; exact infoR) ?_)
  refine (HT.out.mv _).mono ?_
  rintro e w3 ⟨rfl, hb⟩
  replace HR : Hid (Rws w [(w.heap.size, x)] w3) := HR.out.up hb
  clear hb
  go_wp2_with (refine wpList_store_new (o := ⟨none, .store 48 (.tmp 13) (.tmp 42), _, _, _, _⟩) (by rfl) 48 (.tmp 13) (.tmp 42) (by rfl) (iarr .i64 54 y) (by rfl) (by rfl) (by rw [iarr_size]; exact infoR) (by rw [iarr_size]; rfl) (iarr_one _ _ _) ?_; intro vgy cgy hvgy; replace HR : Hid (Rws w [(w3.heap.size, y), (w.heap.size, x)] vgy) := (HR.out.up hvgy).add cgy; clear cgy hvgy; generalize w3.heap.size = gy at *)
  go_loopw [15, 16] (fun q _ wq => ∃ k : Nat, k ≤ 6 ∧ q = .int .i64 ((k : Int) + 1) ∧ Rws w [(gy, y), (w.heap.size, x)] wq) (fun q _ _ => 7 - (intOf q).toNat)
  case atStart => exact ⟨0, by omega, rfl, HR.out⟩
  case round =>
    obtain ⟨k, hk, rfl, hrw⟩ := hrel
    replace HR : Hid (Rws w [(gy, y), (w.heap.size, x)] wr) := hrw
    clear hrw
    by_cases hk2 : k < 6
    · have hki : (k : Int) + 1 ≤ 6 := by omega
      have hfb := HT.out.bd k
      have hlx : Hid _ := HT.out.lx k hk2
      have hly := HT.out.ly k hk2
      generalize f k = fk at *
      by_cases ka : k = a
      · rw [if_pos ka, if_neg (by omega), Int.add_zero] at hly
        subst ka
        have hq2 : ((k : Int) + 1 == (b : Int) + 1) = false := by simp; omega
        replace hly : Hid _ := hly
        go_wp2_with (refine wpList_load_row (o := ⟨some 56, _, _, _, _, _⟩) (by rfl) 48 (.tmp 5) (by rfl) w.heap.size (by rfl) 48 (iarr .i64 54 x) (0, 0) _ (HR.out.row w.heap.size x (by simp)) Try.underlying48 (by rfl) (by rw [iarr_size]; exact infoR) ?_)
        refine (hlx.out _).mono ?_
        rintro e w4 ⟨rfl, hb⟩
        replace HR : Hid (Rws w [(gy, y), (w.heap.size, x)] w4) := HR.out.up hb
        clear hb
        go_wp2_with (refine wpList_load_row (o := ⟨some 71, _, _, _, _, _⟩) (by rfl) 48 (.tmp 13) (by rfl) gy (by rfl) 48 (iarr .i64 54 y) (0, 0) _ (HR.out.row gy y (by simp)) Try.underlying48 (by rfl) (by rw [iarr_size]; exact infoR) ?_)
        refine (hly.out _).mono ?_
        rintro e w5 ⟨rfl, hb⟩
        replace HR : Hid (Rws w [(gy, y), (w.heap.size, x)] w5) := HR.out.up hb
        clear hb
        go_wp2_with fail
        go_roundw
        case rel => exact ⟨k + 1, by omega, by go_num, HR.out⟩
        case measure => simp [intOf]; omega
      by_cases kb : k = b
      · rw [if_pos kb, if_neg ka, Int.sub_zero] at hly
        subst kb
        have hq1 : ((k : Int) + 1 == (a : Int) + 1) = false := by simp; omega
        replace hly : Hid _ := hly
        go_wp2_with (refine wpList_load_row (o := ⟨some 56, _, _, _, _, _⟩) (by rfl) 48 (.tmp 5) (by rfl) w.heap.size (by rfl) 48 (iarr .i64 54 x) (0, 0) _ (HR.out.row w.heap.size x (by simp)) Try.underlying48 (by rfl) (by rw [iarr_size]; exact infoR) ?_)
        refine (hlx.out _).mono ?_
        rintro e w4 ⟨rfl, hb⟩
        replace HR : Hid (Rws w [(gy, y), (w.heap.size, x)] w4) := HR.out.up hb
        clear hb
        go_wp2_with (refine wpList_load_row (o := ⟨some 71, _, _, _, _, _⟩) (by rfl) 48 (.tmp 13) (by rfl) gy (by rfl) 48 (iarr .i64 54 y) (0, 0) _ (HR.out.row gy y (by simp)) Try.underlying48 (by rfl) (by rw [iarr_size]; exact infoR) ?_)
        refine (hly.out _).mono ?_
        rintro e w5 ⟨rfl, hb⟩
        replace HR : Hid (Rws w [(gy, y), (w.heap.size, x)] w5) := HR.out.up hb
        clear hb
        go_wp2_with fail
        go_roundw
        case rel => exact ⟨k + 1, by omega, by go_num, HR.out⟩
        case measure => simp [intOf]; omega
      rw [if_neg kb, if_neg ka, Int.sub_zero, Int.add_zero] at hly
      have hq1 : ((k : Int) + 1 == (a : Int) + 1) = false := by simp; omega
      have hq2 : ((k : Int) + 1 == (b : Int) + 1) = false := by simp; omega
      replace hly : Hid _ := hly
      clear ka kb
      go_wp2_with (refine wpList_load_row (o := ⟨some 56, _, _, _, _, _⟩) (by rfl) 48 (.tmp 5) (by rfl) w.heap.size (by rfl) 48 (iarr .i64 54 x) (0, 0) _ (HR.out.row w.heap.size x (by simp)) Try.underlying48 (by rfl) (by rw [iarr_size]; exact infoR) ?_)
      refine (hlx.out _).mono ?_
      rintro e w4 ⟨rfl, hb⟩
      replace HR : Hid (Rws w [(gy, y), (w.heap.size, x)] w4) := HR.out.up hb
      clear hb
      go_wp2_with (refine wpList_load_row (o := ⟨some 71, _, _, _, _, _⟩) (by rfl) 48 (.tmp 13) (by rfl) gy (by rfl) 48 (iarr .i64 54 y) (0, 0) _ (HR.out.row gy y (by simp)) Try.underlying48 (by rfl) (by rw [iarr_size]; exact infoR) ?_)
      refine (hly.out _).mono ?_
      rintro e w5 ⟨rfl, hb⟩
      replace HR : Hid (Rws w [(gy, y), (w.heap.size, x)] w5) := HR.out.up hb
      clear hb
      go_wp2_with fail
      go_roundw
      case rel => exact ⟨k + 1, by omega, by go_num, HR.out⟩
      case measure => simp [intOf]; omega
    · obtain rfl : k = 6 := by omega
      go_wp2_with (refine wpList_load_row (o := ⟨some 77, _, _, _, _, _⟩) (by rfl) 48 (.tmp 13) (by rfl) gy (by rfl) 48 (iarr .i64 54 y) (0, 0) _ (HR.out.row gy y (by simp)) Try.underlying48 (by rfl) (by rw [iarr_size]; exact infoR) ?_)
      refine (HT.out.sumY _).mono ?_
      rintro e w4 ⟨rfl, hb⟩
      replace HR : Hid (Rws w [(gy, y), (w.heap.size, x)] w4) := HR.out.up hb
      clear hb
      go_wp2_with (refine wpList_wanted (by rfl) (wp_load_row (o := ⟨some 90, _, _, _, _, _⟩) 48 (.tmp 13) (by rfl) gy (by rfl) 48 (iarr .i64 54 y) (0, 0) _ (HR.out.row gy y (by simp)) Try.underlying48 (by rfl) (by rw [iarr_size]; exact infoR) ?_))
      refine (HT.out.mayY _).mono ?_
      rintro e w5 ⟨rfl, hb⟩
      replace HR : Hid (Rws w [(gy, y), (w.heap.size, x)] w5) := HR.out.up hb
      clear hb
      go_wp2_with (refine wpList_load_row (o := ⟨some 95, _, _, _, _, _⟩) (by rfl) 48 (.tmp 13) (by rfl) gy (by rfl) 48 (iarr .i64 54 y) (0, 0) _ (HR.out.row gy y (by simp)) Try.underlying48 (by rfl) (by rw [iarr_size]; exact infoR) ?_)
      refine (HT.out.mv2 _).mono ?_
      rintro e w6 ⟨rfl, hb⟩
      replace HR : Hid (Rws w [(gy, y), (w.heap.size, x)] w6) := HR.out.up hb
      clear hb
      rcases hEF.out with hf | hf
      · subst hf
        clear hEF
        go_wp2_with (refine wpList_store_new (o := ⟨none, .store 48 (.tmp 19) (.tmp 100), _, _, _, _⟩) (by rfl) 48 (.tmp 19) (.tmp 100) (by rfl) (iarr .i64 54 z) (by rfl) (by rfl) (by rw [iarr_size]; exact infoR) (by rw [iarr_size]; rfl) (iarr_one _ _ _) ?_; intro vgz cgz hvgz; replace HR : Hid (Rws w [(w6.heap.size, z), (gy, y), (w.heap.size, x)] vgz) := (HR.out.up hvgz).add cgz; clear cgz hvgz; generalize w6.heap.size = gz at *)
        go_loopw [21] (fun q wq => ∃ k : Nat, k ≤ 6 ∧ q = .int .i64 ((k : Int) + 1) ∧ Rws w [(gz, z), (gy, y), (w.heap.size, x)] wq) (fun q _ => 7 - (intOf q).toNat)
        case atStart => exact ⟨0, by omega, rfl, HR.out⟩
        case round =>
          obtain ⟨k, hk, rfl, hrw⟩ := hrel
          replace HR : Hid (Rws w [(gz, z), (gy, y), (w.heap.size, x)] wr) := hrw
          clear hrw
          by_cases hk2 : k < 6
          · have hki : (k : Int) + 1 ≤ 6 := by omega
            have hl1 : Hid _ := HT.out.lz rfl k hk2
            have hl2 : Hid _ := HT.out.lx k hk2
            go_upto_region 25 with (fail)
            rename_i K0 hK0
            have hS0 : Rws w [(gz, z), (gy, y), (w.heap.size, x)] wr.drew := HR.out.drew
            clear HR
            refine wp_region_noPanic (wp_region_held_drew (S := Rws w [(gz, z), (gy, y), (w.heap.size, x)]) (by kernel_rfl) hS0 fun hS => ?_)
            refine wpAnyH_at (i := 0) (d := (some 108)) (v := .agg (iarr .i64 54 z)) rfl (by rfl) (by kernel_rfl) (by kernel_rfl) (by kernel_rfl) (fun _ _ _ h => h) (.inl ⟨by rfl, fun w' hw => ?_⟩) hS ?_
            · exact exec_load_row 48 (.tmp 19) (by rfl) gz (by rfl) 48 (iarr .i64 54 z) (0, 0) _ (hw.row gz z (by simp)) Try.underlying48 (by rfl) (by rw [iarr_size]; exact infoR)
            refine wpAnyH_at (i := 1) (d := (some 109)) (v := .int .i64 ((k : Int) + 1)) rfl (by rfl) (by kernel_rfl) (by kernel_rfl) (by kernel_rfl) (fun _ _ _ h => h) (.inl ⟨by rfl, fun w' hw => ?_⟩) hS ?_
            · clear hw
              go_simp
            refine wpAnyH_at (i := 3) (d := (some 111)) (v := .agg (iarr .i64 54 x)) rfl (by rfl) (by kernel_rfl) (by kernel_rfl) (by kernel_rfl) (fun _ _ _ h => h) (.inl ⟨by rfl, fun w' hw => ?_⟩) hS ?_
            · exact exec_load_row 48 (.tmp 5) (by rfl) w.heap.size (by rfl) 48 (iarr .i64 54 x) (0, 0) _ (hw.row w.heap.size x (by simp)) Try.underlying48 (by rfl) (by rw [iarr_size]; exact infoR)
            refine wpAnyH_at (i := 4) (d := (some 112)) (v := .int .i64 ((k : Int) + 1)) rfl (by rfl) (by kernel_rfl) (by kernel_rfl) (by kernel_rfl) (fun _ _ _ h => h) (.inl ⟨by rfl, fun w' hw => ?_⟩) hS ?_
            · clear hw
              go_simp
            refine wpAnyH_all (rs := [2]) (by kernel_rfl) (by decide) ?_
            intro j hj
            obtain rfl : j = 2 := by simpa using hj
            refine wpOp_step rfl (fun K hK => ?_)
            clear hj
            go_simp
            refine (hl1.out _).mono ?_
            rintro e u1 ⟨rfl, hb1⟩
            replace hS := hS.up hb1
            clear hb1
            refine hK _ _ ⟨hS, ?_⟩
            clear hK K
            refine wpAnyH_all (rs := [5]) (by kernel_rfl) (by decide) ?_
            intro j hj
            obtain rfl : j = 5 := by simpa using hj
            refine wpOp_step rfl (fun K hK => ?_)
            clear hj
            go_simp
            refine (hl2.out _).mono ?_
            rintro e u2 ⟨rfl, hb2⟩
            replace hS := hS.up hb2
            clear hb2
            refine hK _ _ ⟨hS, ?_⟩
            clear hK K
            refine wpAnyH_at (i := 6) (d := (some 114)) (v := .bool false) rfl (by rfl) (by kernel_rfl) (by kernel_rfl) (by kernel_rfl) (fun _ _ _ h => h) (.inl ⟨by rfl, fun w' hw => ?_⟩) hS ?_
            · clear hw
              go_simp
            refine wpAnyH_done (by kernel_rfl) ?_ _
            refine hK0 _ _ ?_
            have HR : Hid (Rws w [(gz, z), (gy, y), (w.heap.size, x)] u2) := hS
            clear hS hK0 K0 hS0 hl1 hl2
            go_wp2
            go_roundw
            case rel => exact ⟨k + 1, by omega, by go_num, HR.out⟩
            case measure => simp [intOf]; omega
          · obtain rfl : k = 6 := by omega
            go_wp2_with (refine wpList_load_row (o := ⟨some 116, _, _, _, _, _⟩) (by rfl) 48 (.tmp 13) (by rfl) gy (by rfl) 48 (iarr .i64 54 y) (0, 0) _ (HR.out.row gy y (by simp)) Try.underlying48 (by rfl) (by rw [iarr_size]; exact infoR) ?_)
            refine (HT.out.mv3 _).mono ?_
            rintro e w8 ⟨rfl, hb⟩
            replace HR : Hid (Rws w [(gz, z), (gy, y), (w.heap.size, x)] w8) := HR.out.up hb
            clear hb
            go_wp2_with (first
              | (refine wpList_store_new (o := ⟨none, .store 48 (.tmp 22) (.tmp 121), _, _, _, _⟩) (by rfl) 48 (.tmp 22) (.tmp 121) (by rfl) (iarr .i64 54 c) (by rfl) (by rfl) (by rw [iarr_size]; exact infoR) (by rw [iarr_size]; rfl) (iarr_one _ _ _) ?_; intro vgc cgc hvgc; replace HR : Hid (Rws w [(w8.heap.size, c), (gz, z), (gy, y), (w.heap.size, x)] vgc) := (HR.out.up hvgc).add cgc; clear cgc hvgc; generalize w8.heap.size = gc at *)
              | (refine wpList_load_row (o := ⟨some 124, _, _, _, _, _⟩) (by rfl) 48 (.tmp 5) (by rfl) w.heap.size (by rfl) 48 (iarr .i64 54 x) (0, 0) _ (HR.out.row w.heap.size x (by simp)) Try.underlying48 (by rfl) (by rw [iarr_size]; exact infoR) ?_))
            refine (HT.out.mv4 _).mono ?_
            rintro e w9 ⟨rfl, hb⟩
            replace HR : Hid (Rws w [(gc, c), (gz, z), (gy, y), (w.heap.size, x)] w9) := HR.out.up hb
            clear hb
            rcases hEG.out with hg | hg
            · subst hg
              clear hEG
              rcases hEH.out with hh | hh
              · subst hh
                clear hEH
                go_wp2_with (refine wpList_store_new (o := ⟨none, .store 48 (.tmp 24) (.tmp 129), _, _, _, _⟩) (by rfl) 48 (.tmp 24) (.tmp 129) (by rfl) (iarr .i64 54 d) (by rfl) (by rfl) (by rw [iarr_size]; exact infoR) (by rw [iarr_size]; rfl) (iarr_one _ _ _) ?_; intro vgd cgd hvgd; replace HR : Hid (Rws w [(w9.heap.size, d), (gc, c), (gz, z), (gy, y), (w.heap.size, x)] vgd) := (HR.out.up hvgd).add cgd; clear cgd hvgd; generalize w9.heap.size = gd at *)
                go_loopw [26] (fun q wq => ∃ k : Nat, k ≤ 6 ∧ q = .int .i64 ((k : Int) + 1) ∧ Rws w [(gd, d), (gc, c), (gz, z), (gy, y), (w.heap.size, x)] wq) (fun q _ => 7 - (intOf q).toNat)
                case atStart => exact ⟨0, by omega, rfl, HR.out⟩
                case round =>
                  obtain ⟨k, hk, rfl, hrw⟩ := hrel
                  replace HR : Hid (Rws w [(gd, d), (gc, c), (gz, z), (gy, y), (w.heap.size, x)] wr) := hrw
                  clear hrw
                  by_cases hk2 : k < 6
                  · have hki : (k : Int) + 1 ≤ 6 := by omega
                    have hl1 : Hid _ := HT.out.lc rfl rfl k hk2
                    have hl2 : Hid _ := HT.out.ld rfl rfl k hk2
                    go_upto_region 33 with (fail)
                    rename_i K0 hK0
                    have hS0 : Rws w [(gd, d), (gc, c), (gz, z), (gy, y), (w.heap.size, x)] wr.drew := HR.out.drew
                    clear HR
                    refine wp_region_noPanic (wp_region_held_drew (S := Rws w [(gd, d), (gc, c), (gz, z), (gy, y), (w.heap.size, x)]) (by kernel_rfl) hS0 fun hS => ?_)
                    refine wpAnyH_at (i := 0) (d := (some 141)) (v := .agg (iarr .i64 54 c)) rfl (by rfl) (by kernel_rfl) (by kernel_rfl) (by kernel_rfl) (fun _ _ _ h => h) (.inl ⟨by rfl, fun w' hw => ?_⟩) hS ?_
                    · exact exec_load_row 48 (.tmp 22) (by rfl) gc (by rfl) 48 (iarr .i64 54 c) (0, 0) _ (hw.row gc c (by simp)) Try.underlying48 (by rfl) (by rw [iarr_size]; exact infoR)
                    refine wpAnyH_at (i := 1) (d := (some 142)) (v := .int .i64 ((k : Int) + 1)) rfl (by rfl) (by kernel_rfl) (by kernel_rfl) (by kernel_rfl) (fun _ _ _ h => h) (.inl ⟨by rfl, fun w' hw => ?_⟩) hS ?_
                    · clear hw
                      go_simp
                    refine wpAnyH_at (i := 3) (d := (some 144)) (v := .agg (iarr .i64 54 d)) rfl (by rfl) (by kernel_rfl) (by kernel_rfl) (by kernel_rfl) (fun _ _ _ h => h) (.inl ⟨by rfl, fun w' hw => ?_⟩) hS ?_
                    · exact exec_load_row 48 (.tmp 24) (by rfl) gd (by rfl) 48 (iarr .i64 54 d) (0, 0) _ (hw.row gd d (by simp)) Try.underlying48 (by rfl) (by rw [iarr_size]; exact infoR)
                    refine wpAnyH_at (i := 4) (d := (some 145)) (v := .int .i64 ((k : Int) + 1)) rfl (by rfl) (by kernel_rfl) (by kernel_rfl) (by kernel_rfl) (fun _ _ _ h => h) (.inl ⟨by rfl, fun w' hw => ?_⟩) hS ?_
                    · clear hw
                      go_simp
                    refine wpAnyH_all (rs := [2]) (by kernel_rfl) (by decide) ?_
                    intro j hj
                    obtain rfl : j = 2 := by simpa using hj
                    refine wpOp_step rfl (fun K hK => ?_)
                    clear hj
                    go_simp
                    refine (hl1.out _).mono ?_
                    rintro e u1 ⟨rfl, hb1⟩
                    replace hS := hS.up hb1
                    clear hb1
                    refine hK _ _ ⟨hS, ?_⟩
                    clear hK K
                    refine wpAnyH_all (rs := [5]) (by kernel_rfl) (by decide) ?_
                    intro j hj
                    obtain rfl : j = 5 := by simpa using hj
                    refine wpOp_step rfl (fun K hK => ?_)
                    clear hj
                    go_simp
                    refine (hl2.out _).mono ?_
                    rintro e u2 ⟨rfl, hb2⟩
                    replace hS := hS.up hb2
                    clear hb2
                    refine hK _ _ ⟨hS, ?_⟩
                    clear hK K
                    refine wpAnyH_at (i := 6) (d := (some 147)) (v := .bool false) rfl (by rfl) (by kernel_rfl) (by kernel_rfl) (by kernel_rfl) (fun _ _ _ h => h) (.inl ⟨by rfl, fun w' hw => ?_⟩) hS ?_
                    · clear hw
                      go_simp
                    refine wpAnyH_done (by kernel_rfl) ?_ _
                    refine hK0 _ _ ?_
                    have HR : Hid (Rws w [(gd, d), (gc, c), (gz, z), (gy, y), (w.heap.size, x)] u2) := hS
                    clear hS hK0 K0 hS0 hl1 hl2
                    go_wp2
                    go_roundw
                    case rel => exact ⟨k + 1, by omega, by go_num, HR.out⟩
                    case measure => simp [intOf]; omega
                  · obtain rfl : k = 6 := by omega
                    go_wp2_with fail
                    refine (works7_any _).mono ?_
                    rintro e w10 ⟨rfl, hb⟩
                    replace HR : Hid (Rws w [(gd, d), (gc, c), (gz, z), (gy, y), (w.heap.size, x)] w10) := HR.out.up hb
                    clear hb
                    go_wp2_with fail
                    go_ret
                    exact ⟨rfl, HR.out.2⟩
              · clear hEH
                go_wp2_with (refine wpList_store_new (o := ⟨none, .store 48 (.tmp 24) (.tmp 129), _, _, _, _⟩) (by rfl) 48 (.tmp 24) (.tmp 129) (by rfl) (iarr .i64 54 d) (by rfl) (by rfl) (by rw [iarr_size]; exact infoR) (by rw [iarr_size]; rfl) (iarr_one _ _ _) ?_; intro vgd cgd hvgd; replace HR : Hid (Rws w [(w9.heap.size, d), (gc, c), (gz, z), (gy, y), (w.heap.size, x)] vgd) := (HR.out.up hvgd).add cgd; clear cgd hvgd; generalize w9.heap.size = gd at *)
                refine (works7_any _).mono ?_
                rintro e w10 ⟨rfl, hb⟩
                replace HR : Hid (Rws w [(gd, d), (gc, c), (gz, z), (gy, y), (w.heap.size, x)] w10) := HR.out.up hb
                clear hb
                go_wp2_with fail
                go_ret
                exact ⟨rfl, HR.out.2⟩
            · clear hEG hEH
              go_wp2_with (refine wpList_store_new (o := ⟨none, .store 48 (.tmp 24) (.tmp 129), _, _, _, _⟩) (by rfl) 48 (.tmp 24) (.tmp 129) (by rfl) (iarr .i64 54 d) (by rfl) (by rfl) (by rw [iarr_size]; exact infoR) (by rw [iarr_size]; rfl) (iarr_one _ _ _) ?_; intro vgd cgd hvgd; replace HR : Hid (Rws w [(w9.heap.size, d), (gc, c), (gz, z), (gy, y), (w.heap.size, x)] vgd) := (HR.out.up hvgd).add cgd; clear cgd hvgd; generalize w9.heap.size = gd at *)
              refine (works7_any _).mono ?_
              rintro e w10 ⟨rfl, hb⟩
              replace HR : Hid (Rws w [(gd, d), (gc, c), (gz, z), (gy, y), (w.heap.size, x)] w10) := HR.out.up hb
              clear hb
              go_wp2_with fail
              go_ret
              exact ⟨rfl, HR.out.2⟩
      · clear hEF
        go_wp2_with (first
          | (refine wpList_store_new (o := ⟨none, .store 48 (.tmp 19) (.tmp 100), _, _, _, _⟩) (by rfl) 48 (.tmp 19) (.tmp 100) (by rfl) (iarr .i64 54 z) (by rfl) (by rfl) (by rw [iarr_size]; exact infoR) (by rw [iarr_size]; rfl) (iarr_one _ _ _) ?_; intro vgz cgz hvgz; replace HR : Hid (Rws w [(w6.heap.size, z), (gy, y), (w.heap.size, x)] vgz) := (HR.out.up hvgz).add cgz; clear cgz hvgz; generalize w6.heap.size = gz at *)
          | (refine wpList_load_row (o := ⟨some 116, _, _, _, _, _⟩) (by rfl) 48 (.tmp 13) (by rfl) gy (by rfl) 48 (iarr .i64 54 y) (0, 0) _ (HR.out.row gy y (by simp)) Try.underlying48 (by rfl) (by rw [iarr_size]; exact infoR) ?_))
        refine (HT.out.mv3 _).mono ?_
        rintro e w8 ⟨rfl, hb⟩
        replace HR : Hid (Rws w [(gz, z), (gy, y), (w.heap.size, x)] w8) := HR.out.up hb
        clear hb
        go_wp2_with (first
          | (refine wpList_store_new (o := ⟨none, .store 48 (.tmp 22) (.tmp 121), _, _, _, _⟩) (by rfl) 48 (.tmp 22) (.tmp 121) (by rfl) (iarr .i64 54 c) (by rfl) (by rfl) (by rw [iarr_size]; exact infoR) (by rw [iarr_size]; rfl) (iarr_one _ _ _) ?_; intro vgc cgc hvgc; replace HR : Hid (Rws w [(w8.heap.size, c), (gz, z), (gy, y), (w.heap.size, x)] vgc) := (HR.out.up hvgc).add cgc; clear cgc hvgc; generalize w8.heap.size = gc at *)
          | (refine wpList_load_row (o := ⟨some 124, _, _, _, _, _⟩) (by rfl) 48 (.tmp 5) (by rfl) w.heap.size (by rfl) 48 (iarr .i64 54 x) (0, 0) _ (HR.out.row w.heap.size x (by simp)) Try.underlying48 (by rfl) (by rw [iarr_size]; exact infoR) ?_))
        refine (HT.out.mv4 _).mono ?_
        rintro e w9 ⟨rfl, hb⟩
        replace HR : Hid (Rws w [(gc, c), (gz, z), (gy, y), (w.heap.size, x)] w9) := HR.out.up hb
        clear hb
        rcases hEG.out with hg | hg
        · subst hg
          clear hEG
          rcases hEH.out with hh | hh
          · subst hh
            clear hEH
            go_wp2_with (refine wpList_store_new (o := ⟨none, .store 48 (.tmp 24) (.tmp 129), _, _, _, _⟩) (by rfl) 48 (.tmp 24) (.tmp 129) (by rfl) (iarr .i64 54 d) (by rfl) (by rfl) (by rw [iarr_size]; exact infoR) (by rw [iarr_size]; rfl) (iarr_one _ _ _) ?_; intro vgd cgd hvgd; replace HR : Hid (Rws w [(w9.heap.size, d), (gc, c), (gz, z), (gy, y), (w.heap.size, x)] vgd) := (HR.out.up hvgd).add cgd; clear cgd hvgd; generalize w9.heap.size = gd at *)
            go_loopw [26] (fun q wq => ∃ k : Nat, k ≤ 6 ∧ q = .int .i64 ((k : Int) + 1) ∧ Rws w [(gd, d), (gc, c), (gz, z), (gy, y), (w.heap.size, x)] wq) (fun q _ => 7 - (intOf q).toNat)
            case atStart => exact ⟨0, by omega, rfl, HR.out⟩
            case round =>
              obtain ⟨k, hk, rfl, hrw⟩ := hrel
              replace HR : Hid (Rws w [(gd, d), (gc, c), (gz, z), (gy, y), (w.heap.size, x)] wr) := hrw
              clear hrw
              by_cases hk2 : k < 6
              · have hki : (k : Int) + 1 ≤ 6 := by omega
                have hl1 : Hid _ := HT.out.lc rfl rfl k hk2
                have hl2 : Hid _ := HT.out.ld rfl rfl k hk2
                go_upto_region 33 with (fail)
                rename_i K0 hK0
                have hS0 : Rws w [(gd, d), (gc, c), (gz, z), (gy, y), (w.heap.size, x)] wr.drew := HR.out.drew
                clear HR
                refine wp_region_noPanic (wp_region_held_drew (S := Rws w [(gd, d), (gc, c), (gz, z), (gy, y), (w.heap.size, x)]) (by kernel_rfl) hS0 fun hS => ?_)
                refine wpAnyH_at (i := 0) (d := (some 141)) (v := .agg (iarr .i64 54 c)) rfl (by rfl) (by kernel_rfl) (by kernel_rfl) (by kernel_rfl) (fun _ _ _ h => h) (.inl ⟨by rfl, fun w' hw => ?_⟩) hS ?_
                · exact exec_load_row 48 (.tmp 22) (by rfl) gc (by rfl) 48 (iarr .i64 54 c) (0, 0) _ (hw.row gc c (by simp)) Try.underlying48 (by rfl) (by rw [iarr_size]; exact infoR)
                refine wpAnyH_at (i := 1) (d := (some 142)) (v := .int .i64 ((k : Int) + 1)) rfl (by rfl) (by kernel_rfl) (by kernel_rfl) (by kernel_rfl) (fun _ _ _ h => h) (.inl ⟨by rfl, fun w' hw => ?_⟩) hS ?_
                · clear hw
                  go_simp
                refine wpAnyH_at (i := 3) (d := (some 144)) (v := .agg (iarr .i64 54 d)) rfl (by rfl) (by kernel_rfl) (by kernel_rfl) (by kernel_rfl) (fun _ _ _ h => h) (.inl ⟨by rfl, fun w' hw => ?_⟩) hS ?_
                · exact exec_load_row 48 (.tmp 24) (by rfl) gd (by rfl) 48 (iarr .i64 54 d) (0, 0) _ (hw.row gd d (by simp)) Try.underlying48 (by rfl) (by rw [iarr_size]; exact infoR)
                refine wpAnyH_at (i := 4) (d := (some 145)) (v := .int .i64 ((k : Int) + 1)) rfl (by rfl) (by kernel_rfl) (by kernel_rfl) (by kernel_rfl) (fun _ _ _ h => h) (.inl ⟨by rfl, fun w' hw => ?_⟩) hS ?_
                · clear hw
                  go_simp
                refine wpAnyH_all (rs := [2]) (by kernel_rfl) (by decide) ?_
                intro j hj
                obtain rfl : j = 2 := by simpa using hj
                refine wpOp_step rfl (fun K hK => ?_)
                clear hj
                go_simp
                refine (hl1.out _).mono ?_
                rintro e u1 ⟨rfl, hb1⟩
                replace hS := hS.up hb1
                clear hb1
                refine hK _ _ ⟨hS, ?_⟩
                clear hK K
                refine wpAnyH_all (rs := [5]) (by kernel_rfl) (by decide) ?_
                intro j hj
                obtain rfl : j = 5 := by simpa using hj
                refine wpOp_step rfl (fun K hK => ?_)
                clear hj
                go_simp
                refine (hl2.out _).mono ?_
                rintro e u2 ⟨rfl, hb2⟩
                replace hS := hS.up hb2
                clear hb2
                refine hK _ _ ⟨hS, ?_⟩
                clear hK K
                refine wpAnyH_at (i := 6) (d := (some 147)) (v := .bool false) rfl (by rfl) (by kernel_rfl) (by kernel_rfl) (by kernel_rfl) (fun _ _ _ h => h) (.inl ⟨by rfl, fun w' hw => ?_⟩) hS ?_
                · clear hw
                  go_simp
                refine wpAnyH_done (by kernel_rfl) ?_ _
                refine hK0 _ _ ?_
                have HR : Hid (Rws w [(gd, d), (gc, c), (gz, z), (gy, y), (w.heap.size, x)] u2) := hS
                clear hS hK0 K0 hS0 hl1 hl2
                go_wp2
                go_roundw
                case rel => exact ⟨k + 1, by omega, by go_num, HR.out⟩
                case measure => simp [intOf]; omega
              · obtain rfl : k = 6 := by omega
                go_wp2_with fail
                refine (works7_any _).mono ?_
                rintro e w10 ⟨rfl, hb⟩
                replace HR : Hid (Rws w [(gd, d), (gc, c), (gz, z), (gy, y), (w.heap.size, x)] w10) := HR.out.up hb
                clear hb
                go_wp2_with fail
                go_ret
                exact ⟨rfl, HR.out.2⟩
          · clear hEH
            go_wp2_with (refine wpList_store_new (o := ⟨none, .store 48 (.tmp 24) (.tmp 129), _, _, _, _⟩) (by rfl) 48 (.tmp 24) (.tmp 129) (by rfl) (iarr .i64 54 d) (by rfl) (by rfl) (by rw [iarr_size]; exact infoR) (by rw [iarr_size]; rfl) (iarr_one _ _ _) ?_; intro vgd cgd hvgd; replace HR : Hid (Rws w [(w9.heap.size, d), (gc, c), (gz, z), (gy, y), (w.heap.size, x)] vgd) := (HR.out.up hvgd).add cgd; clear cgd hvgd; generalize w9.heap.size = gd at *)
            refine (works7_any _).mono ?_
            rintro e w10 ⟨rfl, hb⟩
            replace HR : Hid (Rws w [(gd, d), (gc, c), (gz, z), (gy, y), (w.heap.size, x)] w10) := HR.out.up hb
            clear hb
            go_wp2_with fail
            go_ret
            exact ⟨rfl, HR.out.2⟩
        · clear hEG hEH
          go_wp2_with (refine wpList_store_new (o := ⟨none, .store 48 (.tmp 24) (.tmp 129), _, _, _, _⟩) (by rfl) 48 (.tmp 24) (.tmp 129) (by rfl) (iarr .i64 54 d) (by rfl) (by rfl) (by rw [iarr_size]; exact infoR) (by rw [iarr_size]; rfl) (iarr_one _ _ _) ?_; intro vgd cgd hvgd; replace HR : Hid (Rws w [(w9.heap.size, d), (gc, c), (gz, z), (gy, y), (w.heap.size, x)] vgd) := (HR.out.up hvgd).add cgd; clear cgd hvgd; generalize w9.heap.size = gd at *)
          refine (works7_any _).mono ?_
          rintro e w10 ⟨rfl, hb⟩
          replace HR : Hid (Rws w [(gd, d), (gc, c), (gz, z), (gy, y), (w.heap.size, x)] w10) := HR.out.up hb
          clear hb
          go_wp2_with fail
          go_ret
          exact ⟨rfl, HR.out.2⟩
end Go.Proofs.Ytolmkjepieoloaa
