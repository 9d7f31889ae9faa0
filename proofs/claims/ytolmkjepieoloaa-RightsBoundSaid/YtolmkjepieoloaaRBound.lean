/-
  The walk of leatlaw07.RightsBound.
-/
import Derived.Test.YtolmkjepieoloaaRBoundA
import Derived.Test.YtolmkjepieoloaaRTakesA
namespace Go.Proofs.Ytolmkjepieoloaa
open Go.RowKit Rt
attribute [local irreducible] Oper.wp Code.wp wpList wpOp Region.wanted yielded
set_option maxRecDepth 100000 in
set_option maxHeartbeats 8000000 in
theorem bound_big (a : Option Addr) (len cap : Nat) (w : World) (hlen : 200 < len) :
    Calls Try.prog 11 #[.slice a len cap] w fun e w' => e = .returned (.bool true) ∧ Below w.heap.size w w' := by
  have HR : Hid (Rws w [] w) := ⟨nofun, Below.refl _ _⟩
  have hd : decide ((200 : Int) < (len : Int)) = true := by simp; omega
  clear hlen
  go_enter Try.func11, Try.ntmps11
  go_wp2_with fail
  refine (works7_any _).mono ?_
  rintro e w1 ⟨rfl, hb⟩
  replace HR : Hid (Rws w [] w1) := HR.out.up hb
  clear hb
  go_wp2_with fail
  go_ret
  exact ⟨rfl, HR.out.2⟩
set_option maxRecDepth 100000 in
set_option maxHeartbeats 8000000 in
theorem bound_walk (a : Option Addr) (len cap : Nat) (D I J N : Nat → Int) (w : World) (hlen : len ≤ 200) (hst : Hid (Steps w a len D I J N)) :
    Calls Try.prog 11 #[.slice a len cap] w fun e w' => e = .returned (.bool true) ∧ Below w.heap.size w w' := by
  have hd : decide ((200 : Int) < (len : Int)) = false := by simp; omega
  have HR2 : Hid (Rws w [(w.heap.size, zero)] (w.alloc (.cells (iarr .i64 54 zero) 48))) := Rws.start w zero
  go_enter Try.func11, Try.ntmps11
  go_wp2
  rw [← zeros54]
  go_loopw [4, 5, 6, 7, 8, 9, 10, 11, 12] (fun gv i _ _ _ _ _ _ _ wq => ∃ (k : Nat) (r : Nat → Int), k ≤ len ∧ i = .int .i64 k ∧ gv = .int .i64 (gSum r) ∧ may r = true ∧ Rws w [(w.heap.size, r)] wq) (fun _ i _ _ _ _ _ _ _ _ => len - (intOf i).toNat)
  case atStart => exact ⟨0, zero, by omega, rfl, by rw [g_zero], may_zero, HR2.out⟩
  case round =>
    clear HR2
    obtain ⟨k, r, hk, rfl, rfl, hm, hrw⟩ := hrel
    have HR : Hid (Rws w [(w.heap.size, r)] wr) := hrw
    clear hrw
    by_cases hk2 : k < len
    · obtain ⟨⟨b, off, rfl, q0, q1, q2, q3⟩, w0, w1, w2, w3⟩ := (hst.out.up HR.out.2) k hk2
      have hki : (k : Int) < (len : Int) := by omega
      have hbl := block_lt_of_cell q0
      dsimp only at hbl
      have HD : Hid (∀ w', Calls Try.prog 49 #[.agg #[.int .u8 (D k), .int .i64 (I k), .int .i64 (J k), .int .i64 (N k)], .agg (iarr .i64 54 r)] w' (rpost (doesM r (D k) (I k) (J k) (N k)) w')) := fun w' => does_any r _ _ _ _ w' (wf_u8 w0) (wf_i64 w1) (wf_i64 w2)
      have HO : Hid ((doesM r (D k) (I k) (J k) (N k)).2 = 0 → may (doesM r (D k) (I k) (J k) (N k)).1 = true ∧ gSum (doesM r (D k) (I k) (J k) (N k)).1 = gSum r + (if D k % 4 = 0 then N k else 0) ∧ (∀ p, r p ≤ (doesM r (D k) (I k) (J k) (N k)).1 p) ∧ 1 ≤ N k ∧ N k ≤ 1125899906842624) := does_ok2
      have HN : Hid ((doesM r (D k) (I k) (J k) (N k)).2 ≠ 0 → (doesM r (D k) (I k) (J k) (N k)).1 = zero) := does_no
      have hd0 := wf_u8 w0
      have Hd0 : Hid _ := hd0
      clear hd0
      generalize doesM r (D k) (I k) (J k) (N k) = R at *
      obtain ⟨rr, re⟩ := R
      clear w0 w1 w2 w3
      have hrow := HR.out.row w.heap.size r (by simp)
      have Hrow : Hid (wr.heap[w.heap.size]? = some (.cells (iarr .i64 54 r) 48 (0, 0))) := hrow
      have hgl : w.heap.size < wr.heap.size := (Array.getElem?_eq_some_iff.1 hrow).1
      clear hrow
      have Hq : Hid (At4 .u8 .i64 .i64 .i64 wr b (off + k * 4) (D k) (I k) (J k) (N k)) := ⟨q0, q1, q2, q3⟩
      go_upto_region 8 with (fail)
      rename_i K0 hK0
      refine wp_region_noPanic (wp_region_held_drew (S := Below wr.heap.size wr) (by kernel_rfl) (bdrN wr 1) fun hS => ?_)
      refine wpAnyH_at (i := 0) (d := (some 24)) (v := .slice (some ⟨b, off, none⟩) len cap) rfl (by rfl) (by kernel_rfl) (by kernel_rfl) (by kernel_rfl) (fun _ _ _ h => h) (.inl ⟨by kernel_rfl, fun w' hw => ?_⟩) hS ?_
      · clear hw
        go_simp
      refine wpAnyH_at (i := 1) (d := (some 25)) (v := .int .i64 (k : Int)) rfl (by rfl) (by kernel_rfl) (by kernel_rfl) (by kernel_rfl) (fun _ _ _ h => h) (.inl ⟨by kernel_rfl, fun w' hw => ?_⟩) hS ?_
      · clear hw
        go_simp
      refine wpAnyH_at (i := 2) (d := (some 26)) (v := .pointer (some ⟨b, off + k * 4, none⟩)) rfl (by rfl) (by kernel_rfl) (by kernel_rfl) (by kernel_rfl) (fun _ _ _ h => h) (.inl ⟨by kernel_rfl, fun w' hw => ?_⟩) hS ?_
      · clear hw
        go_simp
      refine wpAnyH_at (i := 3) (d := (some 27)) (v := .agg #[.int .u8 (D k), .int .i64 (I k), .int .i64 (J k), .int .i64 (N k)]) rfl (by rfl) (by kernel_rfl) (by kernel_rfl) (by kernel_rfl) (fun _ _ _ h => h) (.inl ⟨by kernel_rfl, fun w' hw => ?_⟩) hS ?_
      · have g0 := (hw.cell (p := ⟨b, off + k * 4, none⟩) hbl).trans q0
        have g1 := (hw.cell (p := ⟨b, off + k * 4 + 1, none⟩) hbl).trans q1
        have g2 := (hw.cell (p := ⟨b, off + k * 4 + 2, none⟩) hbl).trans q2
        have g3 := (hw.cell (p := ⟨b, off + k * 4 + 3, none⟩) hbl).trans q3
        clear hw q0 q1 q2 q3
        go_simp
      refine wpAnyH_at (i := 4) (d := (some 28)) (v := .agg (iarr .i64 54 r)) rfl (by rfl) (by kernel_rfl) (by kernel_rfl) (by kernel_rfl) (fun _ _ _ h => h) (.inl ⟨by kernel_rfl, fun w' hw => ?_⟩) hS ?_
      · exact exec_load_row 48 (.tmp 3) (by rfl) w.heap.size (by kernel_rfl) 48 (iarr .i64 54 r) (0, 0) _ ((hw.block w.heap.size hgl).trans Hrow.out) Try.underlying48 (by rfl) (by rw [iarr_size]; exact infoR)
      clear q0 q1 q2 q3
      refine wpAnyH_all (rs := [5, 9]) (by kernel_rfl) (by decide) ?_
      intro j hj
      rcases (show j = 5 ∨ j = 9 by simpa using hj) with rfl | rfl
      · clear hj
        refine wpOp_wanted rfl (by kernel_rfl) (fun K hK => ?_)
        go_simp
        refine (HD.out _).mono ?_
        rintro e v5 ⟨rfl, hb⟩
        have hS' := bch hS hb
        replace hS := hS'
        clear hS' hb
        refine hK _ _ ⟨hS, ?_⟩
        clear hK K
        refine wpAnyH_at (i := 6) (d := (some 23)) (v := .tuple #[.agg (iarr .i64 54 rr), .int .i64 re]) rfl (by rfl) (by kernel_rfl) (by kernel_rfl) (by kernel_rfl) (fun _ _ _ h => h) (.inl ⟨by kernel_rfl, fun w' hw => ?_⟩) hS ?_
        · clear hw
          go_simp
        refine wpAnyH_at (i := 7) (d := (some 30)) (v := .agg (iarr .i64 54 rr)) rfl (by rfl) (by kernel_rfl) (by kernel_rfl) (by kernel_rfl) (fun _ _ _ h => h) (.inl ⟨by kernel_rfl, fun w' hw => ?_⟩) hS ?_
        · clear hw
          go_simp
        refine wpAnyH_at (i := 8) (d := (some 31)) (v := .int .i64 re) rfl (by rfl) (by kernel_rfl) (by kernel_rfl) (by kernel_rfl) (fun _ _ _ h => h) (.inl ⟨by kernel_rfl, fun w' hw => ?_⟩) hS ?_
        · clear hw
          go_simp
        refine wpAnyH_all (rs := [9]) (by kernel_rfl) (by decide) ?_
        intro j hj
        obtain rfl : j = 9 := by simpa using hj
        clear hj
        refine wpOp_wanted rfl (by kernel_rfl) (fun K hK => ?_)
        go_simp
        rw [← zeros54]
        have hz := heap_alloc_new v5 (.cells (iarr .i64 54 zero) 48)
        have hS1 : Below wr.heap.size wr (v5.alloc (.cells (iarr .i64 54 zero) 48)) := hS.alloc hS.size _
        refine hK _ _ ⟨hS1, ?_⟩
        clear hK K
        generalize v5.alloc (.cells (iarr .i64 54 zero) 48) = v6 at *
        refine wpAnyH_all (rs := [10]) (by kernel_rfl) (by decide) ?_
        intro j hj
        obtain rfl : j = 10 := by simpa using hj
        clear hj
        refine wpOp_wanted rfl (by kernel_rfl) (fun K hK => ?_)
        refine wp_store_row 48 (.tmp 6) (.tmp 30) (by rfl) (v5.heap.size) (iarr .i64 54 rr) (by kernel_rfl) (by kernel_rfl) 48 (iarr .i64 54 zero) hz (by rw [iarr_size]; exact infoR) (by rw [iarr_size, iarr_size]) (iarr_one _ _ _) ?_
        have c11 := setRow_heap v6 v5.heap.size (iarr .i64 54 zero) (iarr .i64 54 rr) 48 (0, 0) hz
        have hS2 : Below wr.heap.size wr (v6.setRow v5.heap.size (iarr .i64 54 rr)) := brow hS1 hS.size
        refine hK _ _ ⟨hS2, ?_⟩
        clear hK K hz hS1 hS
        have hS := hS2
        generalize v6.setRow v5.heap.size (iarr .i64 54 rr) = v7 at *
        generalize v5.heap.size = g11 at *
        refine wpAnyH_at (i := 11) (d := (some 7)) (v := .int .i64 re) rfl (by rfl) (by kernel_rfl) (by kernel_rfl) (by kernel_rfl) (fun _ _ _ h => h) (.inl ⟨by kernel_rfl, fun w' hw => ?_⟩) hS ?_
        · clear hw
          go_simp
        replace HR : Hid (Rws w [(g11, rr), (w.heap.size, r)] v7) := (HR.out.up hS2).add c11
        clear hS2 c11
        refine wpAnyH_done (by kernel_rfl) ?_ _
        refine hK0 _ _ ?_
        clear hK0 K0 HD
        rcases int_zero3 re with h0 | h0
        · subst h0
          obtain ⟨my, hg, hle, hn1, hn2⟩ := HO.out rfl
          clear HO HN
          have Hm : Hid (may rr = true) := my
          have hub := u_bd hm
          have huy := u_bd my
          have hji : eqR (joinM r rr) rr = true := eqR_of fun p _ => mxI_ge (hle p)
          have HJ : Hid ((!eqR (joinM r rr) rr) = false) := by unfold Hid; rw [hji]; rfl
          have br : Hid (In64 r) := (may_ent hm).in64
          have by' : Hid (In64 rr) := (may_ent my).in64
          clear hji hle
          have Hq3 : Hid (At4 .u8 .i64 .i64 .i64 v7 b (off + k * 4) (D k) (I k) (J k) (N k)) := ⟨(hS.cell (p := ⟨b, off + k * 4, none⟩) hbl).trans Hq.out.1, (hS.cell (p := ⟨b, off + k * 4 + 1, none⟩) hbl).trans Hq.out.2.1, (hS.cell (p := ⟨b, off + k * 4 + 2, none⟩) hbl).trans Hq.out.2.2.1, (hS.cell (p := ⟨b, off + k * 4 + 3, none⟩) hbl).trans Hq.out.2.2.2⟩
          clear hS Hq
          go_upto_region 12 with (fail)
          rename_i K0 hK0
          refine wp_region_noPanic (wp_region_held_drew (S := fun v => Rws w [(g11, rr), (w.heap.size, r)] v ∧ Below v7.heap.size v7 v) (by kernel_rfl) ⟨HR.out.drew, bdrN _ 1⟩ fun hS => ?_)
          refine wpAnyH_at (i := 0) (d := (some 37)) (v := .agg (iarr .i64 54 r)) rfl (by rfl) (by kernel_rfl) (by kernel_rfl) (by kernel_rfl) (fun _ _ _ h => h) (.inl ⟨by kernel_rfl, fun w' hw => ?_⟩) hS ?_
          · exact exec_load_row 48 (.tmp 3) (by rfl) (w.heap.size) (by kernel_rfl) 48 (iarr .i64 54 r) (0, 0) _ (hw.1.row (w.heap.size) r (by simp)) Try.underlying48 (by rfl) (by rw [iarr_size]; exact infoR)
          refine wpAnyH_at (i := 1) (d := (some 38)) (v := .agg (iarr .i64 54 rr)) rfl (by rfl) (by kernel_rfl) (by kernel_rfl) (by kernel_rfl) (fun _ _ _ h => h) (.inl ⟨by kernel_rfl, fun w' hw => ?_⟩) hS ?_
          · exact exec_load_row 48 (.tmp 6) (by rfl) (g11) (by kernel_rfl) 48 (iarr .i64 54 rr) (0, 0) _ (hw.1.row (g11) rr (by simp)) Try.underlying48 (by rfl) (by rw [iarr_size]; exact infoR)
          refine wpAnyH_at (i := 3) (d := (some 40)) (v := .agg (iarr .i64 54 rr)) rfl (by rfl) (by kernel_rfl) (by kernel_rfl) (by kernel_rfl) (fun _ _ _ h => h) (.inl ⟨by kernel_rfl, fun w' hw => ?_⟩) hS ?_
          · exact exec_load_row 48 (.tmp 6) (by rfl) (g11) (by kernel_rfl) 48 (iarr .i64 54 rr) (0, 0) _ (hw.1.row (g11) rr (by simp)) Try.underlying48 (by rfl) (by rw [iarr_size]; exact infoR)
          refine wpAnyH_all (rs := [2]) (by kernel_rfl) (by decide) ?_
          intro j hj
          obtain rfl : j = 2 := by simpa using hj
          refine wpOp_wanted rfl (by kernel_rfl) (fun K hK => ?_)
          clear hj
          go_simp
          refine (join_any r rr _).mono ?_
          rintro e s1 ⟨rfl, hb⟩
          replace hS := And.intro (hS.1.up hb) (bch hS.2 hb)
          clear hb
          refine hK _ _ ⟨hS, ?_⟩
          clear hK K
          refine wpAnyH_at (i := 4) (d := (some 41)) (v := .bool false) rfl (by rfl) (by kernel_rfl) (by kernel_rfl) (by kernel_rfl) (fun _ _ _ h => h) (.inl ⟨by kernel_rfl, fun w' hw => ?_⟩) hS ?_
          · have hrn := run_neR w' (x := joinM r rr) (y := rr) (join_in br.out by'.out) by'.out
            rw [HJ.out] at hrn
            exact exec_binOp_run (op := .neq) (t' := 48) (x := .tmp 39) (y := .tmp 40) (by kernel_rfl) (by kernel_rfl) (by kernel_rfl) hrn (guardR .neq (.tmp 39) (.tmp 40) _ _ _)
          refine wpAnyH_at (i := 5) (d := (some 42)) (v := .bool false) rfl (by rfl) (by kernel_rfl) (by kernel_rfl) (by kernel_rfl) (fun _ _ _ h => h) (.inl ⟨by kernel_rfl, fun w' hw => ?_⟩) hS ?_
          · clear hw
            go_simp
          refine wpAnyH_at (i := 6) (d := (some 43)) (v := .agg (iarr .i64 54 rr)) rfl (by rfl) (by kernel_rfl) (by kernel_rfl) (by kernel_rfl) (fun _ _ _ h => h) (.inl ⟨by kernel_rfl, fun w' hw => ?_⟩) hS ?_
          · exact exec_load_row 48 (.tmp 6) (by rfl) (g11) (by kernel_rfl) 48 (iarr .i64 54 rr) (0, 0) _ (hw.1.row (g11) rr (by simp)) Try.underlying48 (by rfl) (by rw [iarr_size]; exact infoR)
          refine wpAnyH_all (rs := [7]) (by kernel_rfl) (by decide) ?_
          intro j hj
          obtain rfl : j = 7 := by simpa using hj
          refine wpOp_wanted rfl (by kernel_rfl) (fun K hK => ?_)
          clear hj
          go_simp
          refine (may_any rr _).mono ?_
          rw [Hm.out]
          rintro e s2 ⟨rfl, hb⟩
          replace hS := And.intro (hS.1.up hb) (bch hS.2 hb)
          clear hb
          refine hK _ _ ⟨hS, ?_⟩
          clear hK K
          refine wpAnyH_at (i := 8) (d := (some 45)) (v := .bool false) rfl (by rfl) (by kernel_rfl) (by kernel_rfl) (by kernel_rfl) (fun _ _ _ h => h) (.inl ⟨by kernel_rfl, fun w' hw => ?_⟩) hS ?_
          · clear hw
            go_simp
          refine wpAnyH_at (i := 9) (d := (some 46)) (v := .bool false) rfl (by rfl) (by kernel_rfl) (by kernel_rfl) (by kernel_rfl) (fun _ _ _ h => h) (.inl ⟨by kernel_rfl, fun w' hw => ?_⟩) hS ?_
          · clear hw
            go_simp
          refine wpAnyH_done (by kernel_rfl) ?_ _
          refine hK0 _ _ ?_
          clear hK0 K0 HJ br by'
          have HR : Hid (Rws w [(g11, rr), (w.heap.size, r)] s2) := hS.1
          have hbl3 := block_lt_of_cell Hq3.out.1
          dsimp only at hbl3
          have p0 := (hS.2.cell (p := ⟨b, off + k * 4, none⟩) hbl3).trans Hq3.out.1
          have p3 := (hS.2.cell (p := ⟨b, off + k * 4 + 3, none⟩) hbl3).trans Hq3.out.2.2.2
          clear hS Hq3
          have hg0 := hub.2.2.1
          have hg1 := hub.2.2.2
          clear hub
          dsimp only at my hg huy
          have Huy : Hid _ := huy
          have HLb : Hid (∀ m, m < 6 → 0 ≤ L rr m ∧ L rr m ≤ 9007199254740992) := fun m hm => L_bd my m hm
          have HSb : Hid (∀ m, m ≤ 6 → 0 ≤ lsum rr m ∧ lsum rr m ≤ 9007199254740992 * (m : Int)) := fun m hm => lsum_bd my m hm
          have HAll : Hid (uSum rr + lsum rr 6 = gSum rr) := lsum_all rr
          have HSum : Hid (∀ w', Calls Try.prog 41 #[.agg (iarr .i64 54 rr)] w' fun e w'' => e = .returned (.tuple #[.int .i64 (gSum rr), .int .i64 (uSum rr)]) ∧ Below w'.heap.size w' w'') := sums_may my
          have HLoc : Hid (∀ m : Nat, m < 6 → ∀ w', Calls Try.prog 43 #[.agg (iarr .i64 54 rr), .int .i64 ((m : Int) + 1)] w' fun e w'' => e = .returned (.int .i64 (L rr m)) ∧ Below w'.heap.size w' w'') := fun m hm => local_may my m hm
          have Hg : Hid (s2.heap[w.heap.size]? = some (.cells (iarr .i64 54 r) 48 (0, 0))) := HR.out.row w.heap.size r (by simp)
          have hd1 := Hd0.out
          have htm : (D k).tmod 4 = D k % 4 := Int.tmod_eq_emod_of_nonneg hd1.1
          have hu0 := huy.1
          have hu1 := huy.2.1
          have hu2 := huy.2.2.2
          clear huy my hm
          by_cases h4 : D k % 4 = 0
          · rw [if_pos h4] at hg
            rw [h4] at htm
            clear h4
            have Hgs : Hid (gSum rr = gSum r + N k) := hg
            have HSum2 := HSum.out
            have HAll2 := HAll.out
            rw [hg] at HSum2 HAll2 hu1 hu2
            have HS2 : Hid _ := HSum2
            have HA2 : Hid _ := HAll2
            clear HSum2 HAll2 HSum HAll Huy hg hd1
            generalize uSum rr = U at *
            have d1 : decide (U < 0) = false := by simp; omega
            have d2 : decide (gSum r + N k < U) = false := by simp; omega
            go_wp2_with (first
              | (refine wpList_load_row (o := ⟨some 61, _, _, _, _, _⟩) (by rfl) 48 (.tmp 6) (by rfl) g11 (by rfl) 48 (iarr .i64 54 rr) (0, 0) _ (HR.out.row g11 rr (by simp)) Try.underlying48 (by rfl) (by rw [iarr_size]; exact infoR) ?_)
              | (refine wpList_store_row (o := ⟨none, .store 48 (.tmp 3) (.tmp 61), _, _, _, _⟩) (by rfl) 48 (.tmp 3) (.tmp 61) (by rfl) (w.heap.size) (iarr .i64 54 rr) (by rfl) (by rfl) 48 (iarr .i64 54 r) Hg.out (by rw [iarr_size]; exact infoR) (by rw [iarr_size, iarr_size]) (iarr_one _ _ _) ?_; replace HR : Hid (Rws w [(w.heap.size, rr)] (s2.setRow w.heap.size (iarr .i64 54 rr))) := Rws.set (x := r) ⟨fun p hp => HR.out.1 p (by simp at hp; simp [hp]), HR.out.2⟩ (Nat.le_refl _) (fun p hp => by simp at hp) rr; clear Hg p0 p3; generalize s2.setRow w.heap.size (iarr .i64 54 rr) = s3 at *)
              | (refine wpList_load_row (o := ⟨some 63, _, _, _, _, _⟩) (by rfl) 48 (.tmp 3) (by rfl) w.heap.size (by rfl) 48 (iarr .i64 54 rr) (0, 0) _ (HR.out.row w.heap.size rr (by simp)) Try.underlying48 (by rfl) (by rw [iarr_size]; exact infoR) ?_))
            refine (HS2.out _).mono ?_
            rintro e s4 ⟨rfl, hb⟩
            replace HR : Hid (Rws w [(w.heap.size, rr)] s4) := HR.out.up hb
            clear hb
            go_wp2_with fail
            go_loopw [10, 11, 12] (fun al q _ wq => ∃ m : Nat, m ≤ 6 ∧ q = .int .i64 ((m : Int) + 1) ∧ al = .int .i64 (U + lsum rr m) ∧ Rws w [(w.heap.size, rr)] wq) (fun _ q _ _ => 7 - (intOf q).toNat)
            case atStart => exact ⟨0, by omega, rfl, by simp [lsum], HR.out⟩
            case round =>
              obtain ⟨m, hm6, rfl, hal, hrw⟩ := hrel
              replace HR : Hid (Rws w [(w.heap.size, rr)] _) := hrw
              clear hrw
              by_cases hm2 : m < 6
              · subst hal
                have hmi : (m : Int) + 1 ≤ 6 := by omega
                have HL : Hid _ := HLoc.out m hm2
                have b1 := HLb.out m hm2
                have b2 := HSb.out m (by omega)
                have HLS : Hid (lsum rr (m + 1) = lsum rr m + L rr m) := rfl
                generalize L rr m = lv at *
                generalize lsum rr m = ls at *
                have dl : decide (lv < 0) = false := by simp; omega
                go_wp2_with (refine wpList_load_row (o := ⟨some 72, _, _, _, _, _⟩) (by rfl) 48 (.tmp 3) (by rfl) w.heap.size (by rfl) 48 (iarr .i64 54 rr) (0, 0) _ (HR.out.row w.heap.size rr (by simp)) Try.underlying48 (by rfl) (by rw [iarr_size]; exact infoR) ?_)
                refine (HL.out _).mono ?_
                rintro e s6 ⟨rfl, hb⟩
                replace HR : Hid (Rws w [(w.heap.size, rr)] s6) := HR.out.up hb
                clear hb
                go_wp2_with fail
                go_roundw
                case rel => exact ⟨m + 1, by omega, by go_num, by rw [HLS.out, ← Int.add_assoc], HR.out⟩
                case measure => simp [intOf]; omega
              · obtain rfl : m = 6 := by omega
                rw [HA2.out] at hal
                subst hal
                clear hd
                go_wp2_with fail
                go_roundw
                case rel => exact ⟨k + 1, rr, by omega, by go_num, by rw [Hgs.out], Hm.out, HR.out⟩
                case measure => simp [intOf]; omega
          · rw [if_neg h4, Int.add_zero] at hg
            rcases (show D k % 4 = 1 ∨ D k % 4 = 2 ∨ D k % 4 = 3 by omega) with h5 | h5 | h5
            all_goals
              rw [h5] at htm
              clear h4 h5
              have Hgs : Hid (gSum rr = gSum r) := hg
              have HSum2 := HSum.out
              have HAll2 := HAll.out
              rw [hg] at HSum2 HAll2 hu1 hu2
              have HS2 : Hid _ := HSum2
              have HA2 : Hid _ := HAll2
              clear HSum2 HAll2 HSum HAll Huy hg hd1
              generalize uSum rr = U at *
              have d1 : decide (U < 0) = false := by simp; omega
              have d2 : decide (gSum r < U) = false := by simp; omega
              go_wp2_with (first
                | (refine wpList_load_row (o := ⟨some 61, _, _, _, _, _⟩) (by rfl) 48 (.tmp 6) (by rfl) g11 (by rfl) 48 (iarr .i64 54 rr) (0, 0) _ (HR.out.row g11 rr (by simp)) Try.underlying48 (by rfl) (by rw [iarr_size]; exact infoR) ?_)
                | (refine wpList_store_row (o := ⟨none, .store 48 (.tmp 3) (.tmp 61), _, _, _, _⟩) (by rfl) 48 (.tmp 3) (.tmp 61) (by rfl) (w.heap.size) (iarr .i64 54 rr) (by rfl) (by rfl) 48 (iarr .i64 54 r) Hg.out (by rw [iarr_size]; exact infoR) (by rw [iarr_size, iarr_size]) (iarr_one _ _ _) ?_; replace HR : Hid (Rws w [(w.heap.size, rr)] (s2.setRow w.heap.size (iarr .i64 54 rr))) := Rws.set (x := r) ⟨fun p hp => HR.out.1 p (by simp at hp; simp [hp]), HR.out.2⟩ (Nat.le_refl _) (fun p hp => by simp at hp) rr; clear Hg p0 p3; generalize s2.setRow w.heap.size (iarr .i64 54 rr) = s3 at *)
                | (refine wpList_load_row (o := ⟨some 63, _, _, _, _, _⟩) (by rfl) 48 (.tmp 3) (by rfl) w.heap.size (by rfl) 48 (iarr .i64 54 rr) (0, 0) _ (HR.out.row w.heap.size rr (by simp)) Try.underlying48 (by rfl) (by rw [iarr_size]; exact infoR) ?_))
              refine (HS2.out _).mono ?_
              rintro e s4 ⟨rfl, hb⟩
              replace HR : Hid (Rws w [(w.heap.size, rr)] s4) := HR.out.up hb
              clear hb
              go_wp2_with fail
              go_loopw [10, 11, 12] (fun al q _ wq => ∃ m : Nat, m ≤ 6 ∧ q = .int .i64 ((m : Int) + 1) ∧ al = .int .i64 (U + lsum rr m) ∧ Rws w [(w.heap.size, rr)] wq) (fun _ q _ _ => 7 - (intOf q).toNat)
              case atStart => exact ⟨0, by omega, rfl, by simp [lsum], HR.out⟩
              case round =>
                obtain ⟨m, hm6, rfl, hal, hrw⟩ := hrel
                replace HR : Hid (Rws w [(w.heap.size, rr)] _) := hrw
                clear hrw
                by_cases hm2 : m < 6
                · subst hal
                  have hmi : (m : Int) + 1 ≤ 6 := by omega
                  have HL : Hid _ := HLoc.out m hm2
                  have b1 := HLb.out m hm2
                  have b2 := HSb.out m (by omega)
                  have HLS : Hid (lsum rr (m + 1) = lsum rr m + L rr m) := rfl
                  generalize L rr m = lv at *
                  generalize lsum rr m = ls at *
                  have dl : decide (lv < 0) = false := by simp; omega
                  go_wp2_with (refine wpList_load_row (o := ⟨some 72, _, _, _, _, _⟩) (by rfl) 48 (.tmp 3) (by rfl) w.heap.size (by rfl) 48 (iarr .i64 54 rr) (0, 0) _ (HR.out.row w.heap.size rr (by simp)) Try.underlying48 (by rfl) (by rw [iarr_size]; exact infoR) ?_)
                  refine (HL.out _).mono ?_
                  rintro e s6 ⟨rfl, hb⟩
                  replace HR : Hid (Rws w [(w.heap.size, rr)] s6) := HR.out.up hb
                  clear hb
                  go_wp2_with fail
                  go_roundw
                  case rel => exact ⟨m + 1, by omega, by go_num, by rw [HLS.out, ← Int.add_assoc], HR.out⟩
                  case measure => simp [intOf]; omega
                · obtain rfl : m = 6 := by omega
                  rw [HA2.out] at hal
                  subst hal
                  clear hd
                  go_wp2_with fail
                  go_roundw
                  case rel => exact ⟨k + 1, rr, by omega, by go_num, by rw [Hgs.out], Hm.out, HR.out⟩
                  case measure => simp [intOf]; omega
        · have hre : (re != 0) = true := by simpa using h0
          have hz := HN.out (by simpa using h0)
          dsimp only at hz
          subst hz
          clear HO HN hS Hq
          go_wp2_with (first
            | (refine wpList_load_row (o := ⟨some 34, _, _, _, _, _⟩) (by rfl) 48 (.tmp 6) (by rfl) g11 (by rfl) 48 (iarr .i64 54 zero) (0, 0) _ (HR.out.row g11 zero (by simp)) Try.underlying48 (by rfl) (by rw [iarr_size]; exact infoR) ?_)
            | (refine wpList_neR (fx := zero) (fy := zero) (b := false) (by kernel_rfl) (by rfl) (by kernel_rfl) (by kernel_rfl) zero_in64 zero_in64 (by kernel_rfl) ?_))
          go_roundw
          case rel => exact ⟨k + 1, r, by omega, by go_num, rfl, hm, fun p hp => HR.out.1 p (by simp [hp]), HR.out.2⟩
          case measure => simp [intOf]; omega
      · clear hj
        refine wpOp_wanted rfl (by kernel_rfl) (fun K hK => ?_)
        go_simp
        rw [← zeros54]
        have hz : (wr.alloc (.cells (iarr .i64 54 zero) 48)).drew.heap[wr.heap.size]? = some (.cells (iarr .i64 54 zero) 48 (0, 0)) := heap_alloc_new wr (.cells (iarr .i64 54 zero) 48)
        have hS1 : Below wr.heap.size wr (wr.alloc (.cells (iarr .i64 54 zero) 48)).drew := bN ((Below.refl _ _).alloc (Nat.le_refl _) _) 1
        refine hK _ _ ⟨hS1, ?_⟩
        clear hK K hS
        have hS := hS1
        clear hS1
        generalize (wr.alloc (.cells (iarr .i64 54 zero) 48)).drew = v4 at *
        refine wpAnyH_all (rs := [5]) (by kernel_rfl) (by decide) ?_
        intro j hj
        obtain rfl : j = 5 := by simpa using hj
        clear hj
        refine wpOp_wanted rfl (by kernel_rfl) (fun K hK => ?_)
        go_simp
        refine (HD.out _).mono ?_
        rintro e v5 ⟨rfl, hb⟩
        have hS' := bch hS hb
        replace hS := hS'
        have hz5 := row_kept hz hb
        clear hS' hb hz
        refine hK _ _ ⟨hS, ?_⟩
        clear hK K
        refine wpAnyH_at (i := 6) (d := (some 23)) (v := .tuple #[.agg (iarr .i64 54 rr), .int .i64 re]) rfl (by rfl) (by kernel_rfl) (by kernel_rfl) (by kernel_rfl) (fun _ _ _ h => h) (.inl ⟨by kernel_rfl, fun w' hw => ?_⟩) hS ?_
        · clear hw
          go_simp
        refine wpAnyH_at (i := 7) (d := (some 30)) (v := .agg (iarr .i64 54 rr)) rfl (by rfl) (by kernel_rfl) (by kernel_rfl) (by kernel_rfl) (fun _ _ _ h => h) (.inl ⟨by kernel_rfl, fun w' hw => ?_⟩) hS ?_
        · clear hw
          go_simp
        refine wpAnyH_at (i := 8) (d := (some 31)) (v := .int .i64 re) rfl (by rfl) (by kernel_rfl) (by kernel_rfl) (by kernel_rfl) (fun _ _ _ h => h) (.inl ⟨by kernel_rfl, fun w' hw => ?_⟩) hS ?_
        · clear hw
          go_simp
        refine wpAnyH_all (rs := [10]) (by kernel_rfl) (by decide) ?_
        intro j hj
        obtain rfl : j = 10 := by simpa using hj
        clear hj
        refine wpOp_wanted rfl (by kernel_rfl) (fun K hK => ?_)
        refine wp_store_row 48 (.tmp 6) (.tmp 30) (by rfl) (wr.heap.size) (iarr .i64 54 rr) (by kernel_rfl) (by kernel_rfl) 48 (iarr .i64 54 zero) hz5 (by rw [iarr_size]; exact infoR) (by rw [iarr_size, iarr_size]) (iarr_one _ _ _) ?_
        have c11 := setRow_heap v5 wr.heap.size (iarr .i64 54 zero) (iarr .i64 54 rr) 48 (0, 0) hz5
        have hS2 : Below wr.heap.size wr (v5.setRow wr.heap.size (iarr .i64 54 rr)) := brow hS (Nat.le_refl _)
        refine hK _ _ ⟨hS2, ?_⟩
        clear hK K hz5 hS
        have hS := hS2
        generalize v5.setRow wr.heap.size (iarr .i64 54 rr) = v7 at *
        refine wpAnyH_at (i := 11) (d := (some 7)) (v := .int .i64 re) rfl (by rfl) (by kernel_rfl) (by kernel_rfl) (by kernel_rfl) (fun _ _ _ h => h) (.inl ⟨by kernel_rfl, fun w' hw => ?_⟩) hS ?_
        · clear hw
          go_simp
        replace HR : Hid (Rws w [(wr.heap.size, rr), (w.heap.size, r)] v7) := (HR.out.up hS2).add c11
        clear hS2 c11
        refine wpAnyH_done (by kernel_rfl) ?_ _
        refine hK0 _ _ ?_
        clear hK0 K0 HD
        rcases int_zero3 re with h0 | h0
        · subst h0
          obtain ⟨my, hg, hle, hn1, hn2⟩ := HO.out rfl
          clear HO HN
          have Hm : Hid (may rr = true) := my
          have hub := u_bd hm
          have huy := u_bd my
          have hji : eqR (joinM r rr) rr = true := eqR_of fun p _ => mxI_ge (hle p)
          have HJ : Hid ((!eqR (joinM r rr) rr) = false) := by unfold Hid; rw [hji]; rfl
          have br : Hid (In64 r) := (may_ent hm).in64
          have by' : Hid (In64 rr) := (may_ent my).in64
          clear hji hle
          have Hq3 : Hid (At4 .u8 .i64 .i64 .i64 v7 b (off + k * 4) (D k) (I k) (J k) (N k)) := ⟨(hS.cell (p := ⟨b, off + k * 4, none⟩) hbl).trans Hq.out.1, (hS.cell (p := ⟨b, off + k * 4 + 1, none⟩) hbl).trans Hq.out.2.1, (hS.cell (p := ⟨b, off + k * 4 + 2, none⟩) hbl).trans Hq.out.2.2.1, (hS.cell (p := ⟨b, off + k * 4 + 3, none⟩) hbl).trans Hq.out.2.2.2⟩
          clear hS Hq
          go_upto_region 12 with (fail)
          rename_i K0 hK0
          refine wp_region_noPanic (wp_region_held_drew (S := fun v => Rws w [(wr.heap.size, rr), (w.heap.size, r)] v ∧ Below v7.heap.size v7 v) (by kernel_rfl) ⟨HR.out.drew, bdrN _ 1⟩ fun hS => ?_)
          refine wpAnyH_at (i := 0) (d := (some 37)) (v := .agg (iarr .i64 54 r)) rfl (by rfl) (by kernel_rfl) (by kernel_rfl) (by kernel_rfl) (fun _ _ _ h => h) (.inl ⟨by kernel_rfl, fun w' hw => ?_⟩) hS ?_
          · exact exec_load_row 48 (.tmp 3) (by rfl) (w.heap.size) (by kernel_rfl) 48 (iarr .i64 54 r) (0, 0) _ (hw.1.row (w.heap.size) r (by simp)) Try.underlying48 (by rfl) (by rw [iarr_size]; exact infoR)
          refine wpAnyH_at (i := 1) (d := (some 38)) (v := .agg (iarr .i64 54 rr)) rfl (by rfl) (by kernel_rfl) (by kernel_rfl) (by kernel_rfl) (fun _ _ _ h => h) (.inl ⟨by kernel_rfl, fun w' hw => ?_⟩) hS ?_
          · exact exec_load_row 48 (.tmp 6) (by rfl) (wr.heap.size) (by kernel_rfl) 48 (iarr .i64 54 rr) (0, 0) _ (hw.1.row (wr.heap.size) rr (by simp)) Try.underlying48 (by rfl) (by rw [iarr_size]; exact infoR)
          refine wpAnyH_at (i := 3) (d := (some 40)) (v := .agg (iarr .i64 54 rr)) rfl (by rfl) (by kernel_rfl) (by kernel_rfl) (by kernel_rfl) (fun _ _ _ h => h) (.inl ⟨by kernel_rfl, fun w' hw => ?_⟩) hS ?_
          · exact exec_load_row 48 (.tmp 6) (by rfl) (wr.heap.size) (by kernel_rfl) 48 (iarr .i64 54 rr) (0, 0) _ (hw.1.row (wr.heap.size) rr (by simp)) Try.underlying48 (by rfl) (by rw [iarr_size]; exact infoR)
          refine wpAnyH_all (rs := [2]) (by kernel_rfl) (by decide) ?_
          intro j hj
          obtain rfl : j = 2 := by simpa using hj
          refine wpOp_wanted rfl (by kernel_rfl) (fun K hK => ?_)
          clear hj
          go_simp
          refine (join_any r rr _).mono ?_
          rintro e s1 ⟨rfl, hb⟩
          replace hS := And.intro (hS.1.up hb) (bch hS.2 hb)
          clear hb
          refine hK _ _ ⟨hS, ?_⟩
          clear hK K
          refine wpAnyH_at (i := 4) (d := (some 41)) (v := .bool false) rfl (by rfl) (by kernel_rfl) (by kernel_rfl) (by kernel_rfl) (fun _ _ _ h => h) (.inl ⟨by kernel_rfl, fun w' hw => ?_⟩) hS ?_
          · have hrn := run_neR w' (x := joinM r rr) (y := rr) (join_in br.out by'.out) by'.out
            rw [HJ.out] at hrn
            exact exec_binOp_run (op := .neq) (t' := 48) (x := .tmp 39) (y := .tmp 40) (by kernel_rfl) (by kernel_rfl) (by kernel_rfl) hrn (guardR .neq (.tmp 39) (.tmp 40) _ _ _)
          refine wpAnyH_at (i := 5) (d := (some 42)) (v := .bool false) rfl (by rfl) (by kernel_rfl) (by kernel_rfl) (by kernel_rfl) (fun _ _ _ h => h) (.inl ⟨by kernel_rfl, fun w' hw => ?_⟩) hS ?_
          · clear hw
            go_simp
          refine wpAnyH_at (i := 6) (d := (some 43)) (v := .agg (iarr .i64 54 rr)) rfl (by rfl) (by kernel_rfl) (by kernel_rfl) (by kernel_rfl) (fun _ _ _ h => h) (.inl ⟨by kernel_rfl, fun w' hw => ?_⟩) hS ?_
          · exact exec_load_row 48 (.tmp 6) (by rfl) (wr.heap.size) (by kernel_rfl) 48 (iarr .i64 54 rr) (0, 0) _ (hw.1.row (wr.heap.size) rr (by simp)) Try.underlying48 (by rfl) (by rw [iarr_size]; exact infoR)
          refine wpAnyH_all (rs := [7]) (by kernel_rfl) (by decide) ?_
          intro j hj
          obtain rfl : j = 7 := by simpa using hj
          refine wpOp_wanted rfl (by kernel_rfl) (fun K hK => ?_)
          clear hj
          go_simp
          refine (may_any rr _).mono ?_
          rw [Hm.out]
          rintro e s2 ⟨rfl, hb⟩
          replace hS := And.intro (hS.1.up hb) (bch hS.2 hb)
          clear hb
          refine hK _ _ ⟨hS, ?_⟩
          clear hK K
          refine wpAnyH_at (i := 8) (d := (some 45)) (v := .bool false) rfl (by rfl) (by kernel_rfl) (by kernel_rfl) (by kernel_rfl) (fun _ _ _ h => h) (.inl ⟨by kernel_rfl, fun w' hw => ?_⟩) hS ?_
          · clear hw
            go_simp
          refine wpAnyH_at (i := 9) (d := (some 46)) (v := .bool false) rfl (by rfl) (by kernel_rfl) (by kernel_rfl) (by kernel_rfl) (fun _ _ _ h => h) (.inl ⟨by kernel_rfl, fun w' hw => ?_⟩) hS ?_
          · clear hw
            go_simp
          refine wpAnyH_done (by kernel_rfl) ?_ _
          refine hK0 _ _ ?_
          clear hK0 K0 HJ br by'
          have HR : Hid (Rws w [(wr.heap.size, rr), (w.heap.size, r)] s2) := hS.1
          have hbl3 := block_lt_of_cell Hq3.out.1
          dsimp only at hbl3
          have p0 := (hS.2.cell (p := ⟨b, off + k * 4, none⟩) hbl3).trans Hq3.out.1
          have p3 := (hS.2.cell (p := ⟨b, off + k * 4 + 3, none⟩) hbl3).trans Hq3.out.2.2.2
          clear hS Hq3
          have hg0 := hub.2.2.1
          have hg1 := hub.2.2.2
          clear hub
          dsimp only at my hg huy
          have Huy : Hid _ := huy
          have HLb : Hid (∀ m, m < 6 → 0 ≤ L rr m ∧ L rr m ≤ 9007199254740992) := fun m hm => L_bd my m hm
          have HSb : Hid (∀ m, m ≤ 6 → 0 ≤ lsum rr m ∧ lsum rr m ≤ 9007199254740992 * (m : Int)) := fun m hm => lsum_bd my m hm
          have HAll : Hid (uSum rr + lsum rr 6 = gSum rr) := lsum_all rr
          have HSum : Hid (∀ w', Calls Try.prog 41 #[.agg (iarr .i64 54 rr)] w' fun e w'' => e = .returned (.tuple #[.int .i64 (gSum rr), .int .i64 (uSum rr)]) ∧ Below w'.heap.size w' w'') := sums_may my
          have HLoc : Hid (∀ m : Nat, m < 6 → ∀ w', Calls Try.prog 43 #[.agg (iarr .i64 54 rr), .int .i64 ((m : Int) + 1)] w' fun e w'' => e = .returned (.int .i64 (L rr m)) ∧ Below w'.heap.size w' w'') := fun m hm => local_may my m hm
          have Hg : Hid (s2.heap[w.heap.size]? = some (.cells (iarr .i64 54 r) 48 (0, 0))) := HR.out.row w.heap.size r (by simp)
          have hd1 := Hd0.out
          have htm : (D k).tmod 4 = D k % 4 := Int.tmod_eq_emod_of_nonneg hd1.1
          have hu0 := huy.1
          have hu1 := huy.2.1
          have hu2 := huy.2.2.2
          clear huy my hm
          by_cases h4 : D k % 4 = 0
          · rw [if_pos h4] at hg
            rw [h4] at htm
            clear h4
            have Hgs : Hid (gSum rr = gSum r + N k) := hg
            have HSum2 := HSum.out
            have HAll2 := HAll.out
            rw [hg] at HSum2 HAll2 hu1 hu2
            have HS2 : Hid _ := HSum2
            have HA2 : Hid _ := HAll2
            clear HSum2 HAll2 HSum HAll Huy hg hd1
            generalize uSum rr = U at *
            have d1 : decide (U < 0) = false := by simp; omega
            have d2 : decide (gSum r + N k < U) = false := by simp; omega
            go_wp2_with (first
              | (refine wpList_load_row (o := ⟨some 61, _, _, _, _, _⟩) (by rfl) 48 (.tmp 6) (by rfl) wr.heap.size (by rfl) 48 (iarr .i64 54 rr) (0, 0) _ (HR.out.row wr.heap.size rr (by simp)) Try.underlying48 (by rfl) (by rw [iarr_size]; exact infoR) ?_)
              | (refine wpList_store_row (o := ⟨none, .store 48 (.tmp 3) (.tmp 61), _, _, _, _⟩) (by rfl) 48 (.tmp 3) (.tmp 61) (by rfl) (w.heap.size) (iarr .i64 54 rr) (by rfl) (by rfl) 48 (iarr .i64 54 r) Hg.out (by rw [iarr_size]; exact infoR) (by rw [iarr_size, iarr_size]) (iarr_one _ _ _) ?_; replace HR : Hid (Rws w [(w.heap.size, rr)] (s2.setRow w.heap.size (iarr .i64 54 rr))) := Rws.set (x := r) ⟨fun p hp => HR.out.1 p (by simp at hp; simp [hp]), HR.out.2⟩ (Nat.le_refl _) (fun p hp => by simp at hp) rr; clear Hg p0 p3; generalize s2.setRow w.heap.size (iarr .i64 54 rr) = s3 at *)
              | (refine wpList_load_row (o := ⟨some 63, _, _, _, _, _⟩) (by rfl) 48 (.tmp 3) (by rfl) w.heap.size (by rfl) 48 (iarr .i64 54 rr) (0, 0) _ (HR.out.row w.heap.size rr (by simp)) Try.underlying48 (by rfl) (by rw [iarr_size]; exact infoR) ?_))
            refine (HS2.out _).mono ?_
            rintro e s4 ⟨rfl, hb⟩
            replace HR : Hid (Rws w [(w.heap.size, rr)] s4) := HR.out.up hb
            clear hb
            go_wp2_with fail
            go_loopw [10, 11, 12] (fun al q _ wq => ∃ m : Nat, m ≤ 6 ∧ q = .int .i64 ((m : Int) + 1) ∧ al = .int .i64 (U + lsum rr m) ∧ Rws w [(w.heap.size, rr)] wq) (fun _ q _ _ => 7 - (intOf q).toNat)
            case atStart => exact ⟨0, by omega, rfl, by simp [lsum], HR.out⟩
            case round =>
              obtain ⟨m, hm6, rfl, hal, hrw⟩ := hrel
              replace HR : Hid (Rws w [(w.heap.size, rr)] _) := hrw
              clear hrw
              by_cases hm2 : m < 6
              · subst hal
                have hmi : (m : Int) + 1 ≤ 6 := by omega
                have HL : Hid _ := HLoc.out m hm2
                have b1 := HLb.out m hm2
                have b2 := HSb.out m (by omega)
                have HLS : Hid (lsum rr (m + 1) = lsum rr m + L rr m) := rfl
                generalize L rr m = lv at *
                generalize lsum rr m = ls at *
                have dl : decide (lv < 0) = false := by simp; omega
                go_wp2_with (refine wpList_load_row (o := ⟨some 72, _, _, _, _, _⟩) (by rfl) 48 (.tmp 3) (by rfl) w.heap.size (by rfl) 48 (iarr .i64 54 rr) (0, 0) _ (HR.out.row w.heap.size rr (by simp)) Try.underlying48 (by rfl) (by rw [iarr_size]; exact infoR) ?_)
                refine (HL.out _).mono ?_
                rintro e s6 ⟨rfl, hb⟩
                replace HR : Hid (Rws w [(w.heap.size, rr)] s6) := HR.out.up hb
                clear hb
                go_wp2_with fail
                go_roundw
                case rel => exact ⟨m + 1, by omega, by go_num, by rw [HLS.out, ← Int.add_assoc], HR.out⟩
                case measure => simp [intOf]; omega
              · obtain rfl : m = 6 := by omega
                rw [HA2.out] at hal
                subst hal
                clear hd
                go_wp2_with fail
                go_roundw
                case rel => exact ⟨k + 1, rr, by omega, by go_num, by rw [Hgs.out], Hm.out, HR.out⟩
                case measure => simp [intOf]; omega
          · rw [if_neg h4, Int.add_zero] at hg
            rcases (show D k % 4 = 1 ∨ D k % 4 = 2 ∨ D k % 4 = 3 by omega) with h5 | h5 | h5
            all_goals
              rw [h5] at htm
              clear h4 h5
              have Hgs : Hid (gSum rr = gSum r) := hg
              have HSum2 := HSum.out
              have HAll2 := HAll.out
              rw [hg] at HSum2 HAll2 hu1 hu2
              have HS2 : Hid _ := HSum2
              have HA2 : Hid _ := HAll2
              clear HSum2 HAll2 HSum HAll Huy hg hd1
              generalize uSum rr = U at *
              have d1 : decide (U < 0) = false := by simp; omega
              have d2 : decide (gSum r < U) = false := by simp; omega
              go_wp2_with (first
                | (refine wpList_load_row (o := ⟨some 61, _, _, _, _, _⟩) (by rfl) 48 (.tmp 6) (by rfl) wr.heap.size (by rfl) 48 (iarr .i64 54 rr) (0, 0) _ (HR.out.row wr.heap.size rr (by simp)) Try.underlying48 (by rfl) (by rw [iarr_size]; exact infoR) ?_)
                | (refine wpList_store_row (o := ⟨none, .store 48 (.tmp 3) (.tmp 61), _, _, _, _⟩) (by rfl) 48 (.tmp 3) (.tmp 61) (by rfl) (w.heap.size) (iarr .i64 54 rr) (by rfl) (by rfl) 48 (iarr .i64 54 r) Hg.out (by rw [iarr_size]; exact infoR) (by rw [iarr_size, iarr_size]) (iarr_one _ _ _) ?_; replace HR : Hid (Rws w [(w.heap.size, rr)] (s2.setRow w.heap.size (iarr .i64 54 rr))) := Rws.set (x := r) ⟨fun p hp => HR.out.1 p (by simp at hp; simp [hp]), HR.out.2⟩ (Nat.le_refl _) (fun p hp => by simp at hp) rr; clear Hg p0 p3; generalize s2.setRow w.heap.size (iarr .i64 54 rr) = s3 at *)
                | (refine wpList_load_row (o := ⟨some 63, _, _, _, _, _⟩) (by rfl) 48 (.tmp 3) (by rfl) w.heap.size (by rfl) 48 (iarr .i64 54 rr) (0, 0) _ (HR.out.row w.heap.size rr (by simp)) Try.underlying48 (by rfl) (by rw [iarr_size]; exact infoR) ?_))
              refine (HS2.out _).mono ?_
              rintro e s4 ⟨rfl, hb⟩
              replace HR : Hid (Rws w [(w.heap.size, rr)] s4) := HR.out.up hb
              clear hb
              go_wp2_with fail
              go_loopw [10, 11, 12] (fun al q _ wq => ∃ m : Nat, m ≤ 6 ∧ q = .int .i64 ((m : Int) + 1) ∧ al = .int .i64 (U + lsum rr m) ∧ Rws w [(w.heap.size, rr)] wq) (fun _ q _ _ => 7 - (intOf q).toNat)
              case atStart => exact ⟨0, by omega, rfl, by simp [lsum], HR.out⟩
              case round =>
                obtain ⟨m, hm6, rfl, hal, hrw⟩ := hrel
                replace HR : Hid (Rws w [(w.heap.size, rr)] _) := hrw
                clear hrw
                by_cases hm2 : m < 6
                · subst hal
                  have hmi : (m : Int) + 1 ≤ 6 := by omega
                  have HL : Hid _ := HLoc.out m hm2
                  have b1 := HLb.out m hm2
                  have b2 := HSb.out m (by omega)
                  have HLS : Hid (lsum rr (m + 1) = lsum rr m + L rr m) := rfl
                  generalize L rr m = lv at *
                  generalize lsum rr m = ls at *
                  have dl : decide (lv < 0) = false := by simp; omega
                  go_wp2_with (refine wpList_load_row (o := ⟨some 72, _, _, _, _, _⟩) (by rfl) 48 (.tmp 3) (by rfl) w.heap.size (by rfl) 48 (iarr .i64 54 rr) (0, 0) _ (HR.out.row w.heap.size rr (by simp)) Try.underlying48 (by rfl) (by rw [iarr_size]; exact infoR) ?_)
                  refine (HL.out _).mono ?_
                  rintro e s6 ⟨rfl, hb⟩
                  replace HR : Hid (Rws w [(w.heap.size, rr)] s6) := HR.out.up hb
                  clear hb
                  go_wp2_with fail
                  go_roundw
                  case rel => exact ⟨m + 1, by omega, by go_num, by rw [HLS.out, ← Int.add_assoc], HR.out⟩
                  case measure => simp [intOf]; omega
                · obtain rfl : m = 6 := by omega
                  rw [HA2.out] at hal
                  subst hal
                  clear hd
                  go_wp2_with fail
                  go_roundw
                  case rel => exact ⟨k + 1, rr, by omega, by go_num, by rw [Hgs.out], Hm.out, HR.out⟩
                  case measure => simp [intOf]; omega
        · have hre : (re != 0) = true := by simpa using h0
          have hz := HN.out (by simpa using h0)
          dsimp only at hz
          subst hz
          clear HO HN hS Hq
          go_wp2_with (first
            | (refine wpList_load_row (o := ⟨some 34, _, _, _, _, _⟩) (by rfl) 48 (.tmp 6) (by rfl) wr.heap.size (by rfl) 48 (iarr .i64 54 zero) (0, 0) _ (HR.out.row wr.heap.size zero (by simp)) Try.underlying48 (by rfl) (by rw [iarr_size]; exact infoR) ?_)
            | (refine wpList_neR (fx := zero) (fy := zero) (b := false) (by kernel_rfl) (by rfl) (by kernel_rfl) (by kernel_rfl) zero_in64 zero_in64 (by kernel_rfl) ?_))
          go_roundw
          case rel => exact ⟨k + 1, r, by omega, by go_num, rfl, hm, fun p hp => HR.out.1 p (by simp [hp]), HR.out.2⟩
          case measure => simp [intOf]; omega
    · obtain rfl : k = len := by omega
      go_wp2_with fail
      refine (works7_any _).mono ?_
      rintro e w9 ⟨rfl, hb⟩
      replace HR : Hid (Rws w [(w.heap.size, r)] w9) := HR.out.up hb
      clear hb
      go_wp2_with fail
      go_ret
      exact ⟨rfl, HR.out.2⟩
end Go.Proofs.Ytolmkjepieoloaa
