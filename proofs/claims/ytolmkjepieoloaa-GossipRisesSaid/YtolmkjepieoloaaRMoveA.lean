/-
  The closures of rights.Move.
-/
import Derived.Test.YtolmkjepieoloaaRFree
namespace Go.Proofs.Ytolmkjepieoloaa
open Go.RowKit Rt
namespace Rt
def moveE (x : Nat → Int) (i j n : Int) : Int := if i = j then 1 else if decide (localV x i < n) then 11 else 0
def moveO (i j : Int) : Nat := 18 + (i.toNat - 1) * 6 + (j.toNat - 1)
def moveM (x : Nat → Int) (i j n : Int) : (Nat → Int) × Int := turnedM x n (regB i && regB j) (moveE x i j n) (moveO i j)
end Rt
attribute [local irreducible] Oper.wp wpList Code.wp in
set_option maxRecDepth 100000 in
set_option maxHeartbeats 1000000 in
theorem move1_any (x : Nat → Int) (i j0 n : Int) (g h hi hj : Nat) (w : World) (hn : 1 ≤ n ∧ n ≤ 1125899906842624) (hib : -9223372036854775808 ≤ i ∧ i ≤ 9223372036854775807) (hjb : -9223372036854775808 ≤ j0 ∧ j0 ≤ 9223372036854775807) (hx : Hid (w.heap[g]? = some (.cells (iarr .i64 54 x) 48 (0, 0)))) (hc : w.cell? ⟨h, 0, none⟩ = some (.int .i64 n)) (hci : w.cell? ⟨hi, 0, none⟩ = some (.int .i64 i)) (hcj : w.cell? ⟨hj, 0, none⟩ = some (.int .i64 j0)) :
    Calls Try.prog 83 #[.pointer (some ⟨hi, 0, none⟩), .pointer (some ⟨hj, 0, none⟩), .pointer (some ⟨h, 0, none⟩), .pointer (some ⟨g, 0, none⟩)] w fun e w' => e = .returned (.int .i64 (moveE x i j0 n)) ∧ Below w.heap.size w w' := by
  have HE : Hid (moveE x i j0 n = if i = j0 then 1 else if decide (localV x i < n) then 11 else 0) := rfl
  have hb := localV_bd x i
  have hlh := block_lt_of_cell hc
  have hli := block_lt_of_cell hci
  have hlg : g < w.heap.size := (Array.getElem?_eq_some_iff.1 hx.out).1
  dsimp only at hlh hli
  have hB0 : Below w.heap.size w w.drew := bdrN w 1
  have hs : Hid (∀ w', Calls Try.prog 43 #[.agg (iarr .i64 54 x), .int .i64 i] w' fun e w'' => e = .returned (.int .i64 (localV x i)) ∧ Below w'.heap.size w' w'') := fun w' => localV_any x i w' hib
  generalize localV x i = s1 at *
  by_cases he : i = j0
  · rw [if_pos he] at HE
    subst he
    go_enter Try.func83, Try.ntmps83
    go_wp2
    go_ret
    rw [HE.out]
    exact ⟨rfl, Below.refl _ _⟩
  rw [if_neg he] at HE
  have hne : (i == j0) = false := by simpa using he
  clear he
  by_cases hd : s1 < n
  · rw [decide_eq_true hd, if_pos rfl] at HE
    go_enter Try.func83, Try.ntmps83
    go_upto_region 3 with (fail)
    rename_i K0 hK0
    refine wp_region_noPanic (wp_region_held_drew (S := Below w.heap.size w) (by kernel_rfl) hB0 fun hS => ?_)
    refine wpAnyH_take (i := 0) (v := .int .i64 n) rfl (by kernel_rfl) (by kernel_rfl) (by kernel_rfl) (fun _ _ _ h => h) (.inl ⟨by rfl, fun w' hw => ?_⟩) hS ?_
    · have h2 := (hw.cell (p := ⟨h, 0, none⟩) hlh).trans hc
      clear hw hc hci
      go_simp
    refine wpAnyH_take (i := 1) (v := .agg (iarr .i64 54 x)) rfl (by kernel_rfl) (by kernel_rfl) (by kernel_rfl) (fun _ _ _ h => h) (.inl ⟨by rfl, fun w' hw => ?_⟩) hS ?_
    · exact exec_load_row 48 (.tmp 3) (by rfl) g (by rfl) 48 (iarr .i64 54 x) (0, 0) _ ((hw.block _ hlg).trans hx.out) Try.underlying48 (by rfl) (by rw [iarr_size]; exact infoR)
    refine wpAnyH_take (i := 2) (v := .int .i64 i) rfl (by kernel_rfl) (by kernel_rfl) (by kernel_rfl) (fun _ _ _ h => h) (.inl ⟨by rfl, fun w' hw => ?_⟩) hS ?_
    · have h2 := (hw.cell (p := ⟨hi, 0, none⟩) hli).trans hci
      clear hw hc hci
      go_simp
    refine wpAnyH_all (rs := [3]) (by kernel_rfl) (by decide) ?_
    intro j hj
    obtain rfl : j = 3 := by simpa using hj
    refine wpOp_step rfl (fun K hK => ?_)
    clear hj
    go_simp
    refine (hs.out _).mono ?_
    rintro e w1 ⟨rfl, hb1⟩
    have hS := bch hS hb1
    refine hK _ _ ⟨hS, ?_⟩
    clear hK K
    refine wpAnyH_take (i := 4) (v := .bool true) rfl (by kernel_rfl) (by kernel_rfl) (by kernel_rfl) (fun _ _ _ h => h) (.inl ⟨by rfl, fun w' hw => ?_⟩) hS ?_
    · clear hw hc hci
      go_simp
    refine wpAnyH_all (rs := [5]) (by kernel_rfl) (by decide) ?_
    intro j hj
    obtain rfl : j = 5 := by simpa using hj
    refine wpOp_step rfl (fun K hK => ?_)
    clear hj
    go_simp
    refine (when_any _ _ _).mono ?_
    rintro e w2 ⟨rfl, rfl⟩
    refine hK _ _ ⟨hS, ?_⟩
    clear hK K
    refine wpAnyH_take (i := 6) (v := .int .i64 11) rfl (by kernel_rfl) (by kernel_rfl) (by kernel_rfl) (fun _ _ _ h => h) (.inl ⟨by rfl, fun w' hw => ?_⟩) hS ?_
    · clear hw hc hci
      go_simp
    refine wpAnyH_done (by kernel_rfl) ?_ _
    refine hK0 _ _ ?_
    go_wp2
    go_ret
    rw [HE.out]
    exact ⟨rfl, hS⟩
  · rw [decide_eq_false hd, if_neg (by decide)] at HE
    go_enter Try.func83, Try.ntmps83
    go_upto_region 3 with (fail)
    rename_i K0 hK0
    refine wp_region_noPanic (wp_region_held_drew (S := Below w.heap.size w) (by kernel_rfl) hB0 fun hS => ?_)
    refine wpAnyH_take (i := 0) (v := .int .i64 n) rfl (by kernel_rfl) (by kernel_rfl) (by kernel_rfl) (fun _ _ _ h => h) (.inl ⟨by rfl, fun w' hw => ?_⟩) hS ?_
    · have h2 := (hw.cell (p := ⟨h, 0, none⟩) hlh).trans hc
      clear hw hc hci
      go_simp
    refine wpAnyH_take (i := 1) (v := .agg (iarr .i64 54 x)) rfl (by kernel_rfl) (by kernel_rfl) (by kernel_rfl) (fun _ _ _ h => h) (.inl ⟨by rfl, fun w' hw => ?_⟩) hS ?_
    · exact exec_load_row 48 (.tmp 3) (by rfl) g (by rfl) 48 (iarr .i64 54 x) (0, 0) _ ((hw.block _ hlg).trans hx.out) Try.underlying48 (by rfl) (by rw [iarr_size]; exact infoR)
    refine wpAnyH_take (i := 2) (v := .int .i64 i) rfl (by kernel_rfl) (by kernel_rfl) (by kernel_rfl) (fun _ _ _ h => h) (.inl ⟨by rfl, fun w' hw => ?_⟩) hS ?_
    · have h2 := (hw.cell (p := ⟨hi, 0, none⟩) hli).trans hci
      clear hw hc hci
      go_simp
    refine wpAnyH_all (rs := [3]) (by kernel_rfl) (by decide) ?_
    intro j hj
    obtain rfl : j = 3 := by simpa using hj
    refine wpOp_step rfl (fun K hK => ?_)
    clear hj
    go_simp
    refine (hs.out _).mono ?_
    rintro e w1 ⟨rfl, hb1⟩
    have hS := bch hS hb1
    refine hK _ _ ⟨hS, ?_⟩
    clear hK K
    refine wpAnyH_take (i := 4) (v := .bool false) rfl (by kernel_rfl) (by kernel_rfl) (by kernel_rfl) (fun _ _ _ h => h) (.inl ⟨by rfl, fun w' hw => ?_⟩) hS ?_
    · clear hw hc hci
      go_simp
    refine wpAnyH_all (rs := [5]) (by kernel_rfl) (by decide) ?_
    intro j hj
    obtain rfl : j = 5 := by simpa using hj
    refine wpOp_step rfl (fun K hK => ?_)
    clear hj
    go_simp
    refine (when_any _ _ _).mono ?_
    rintro e w2 ⟨rfl, rfl⟩
    refine hK _ _ ⟨hS, ?_⟩
    clear hK K
    refine wpAnyH_take (i := 6) (v := .int .i64 0) rfl (by kernel_rfl) (by kernel_rfl) (by kernel_rfl) (fun _ _ _ h => h) (.inl ⟨by rfl, fun w' hw => ?_⟩) hS ?_
    · clear hw hc hci
      go_simp
    refine wpAnyH_done (by kernel_rfl) ?_ _
    refine hK0 _ _ ?_
    go_wp2
    go_ret
    rw [HE.out]
    exact ⟨rfl, hS⟩
set_option maxHeartbeats 400000 in
theorem move2_any (g h1 h2 : Nat) (i j : Int) (w : World) (hi : 1 ≤ i ∧ i ≤ 6) (hj : 1 ≤ j ∧ j ≤ 6) (hci : w.cell? ⟨h1, 0, none⟩ = some (.int .i64 i)) (hcj : w.cell? ⟨h2, 0, none⟩ = some (.int .i64 j)) :
    Calls Try.prog 85 #[.pointer (some ⟨g, 0, none⟩), .pointer (some ⟨h1, 0, none⟩), .pointer (some ⟨h2, 0, none⟩)] w fun e w' => e = .returned (.pointer (some ⟨g, moveO i j, none⟩)) ∧ Below w.heap.size w w' := by
  obtain ⟨k, hk⟩ := Int.eq_ofNat_of_zero_le (show 0 ≤ i - 1 by omega)
  obtain rfl : i = (k : Int) + 1 := by omega
  obtain ⟨l, hl⟩ := Int.eq_ofNat_of_zero_le (show 0 ≤ j - 1 by omega)
  obtain rfl : j = (l : Int) + 1 := by omega
  have hk6 : (k : Int) < 6 := by omega
  have hl6 : (l : Int) < 6 := by omega
  have HE : Hid (moveO ((k : Int) + 1) ((l : Int) + 1) = 18 + k * 6 + l) := by unfold Hid moveO; omega
  clear hk hl
  go_enter Try.func85, Try.ntmps85
  go_wp2_with fail
  go_quiet (fail)
  go_wp2
  go_ret
  rw [HE.out]
  exact ⟨rfl, bN (Below.refl _ _) _⟩
theorem enter_m1 (args : Array Value) (w : World) : (callFunc 83 args).run Try.prog w = .ok (.enter 83 args) w := run_enter Try.func83 rfl rfl args w
theorem enter_m2 (args : Array Value) (w : World) : (callFunc 85 args).run Try.prog w = .ok (.enter 85 args) w := run_enter Try.func85 rfl rfl args w
end Go.Proofs.Ytolmkjepieoloaa
