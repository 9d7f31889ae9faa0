/-
  The walk of rights.Move.
-/
import Derived.Test.YtolmkjepieoloaaRMoveA
namespace Go.Proofs.Ytolmkjepieoloaa
open Go.RowKit Rt
def RS3 (x : Nat → Int) (g : Nat) (i j n : Int) (w' : World) : Prop := w'.heap[g]? = some (.cells (iarr .i64 54 x) 48 (0, 0)) ∧ w'.cell? ⟨g + 1, 0, none⟩ = some (.int .i64 i) ∧ w'.cell? ⟨g + 1 + 1, 0, none⟩ = some (.int .i64 j) ∧ w'.cell? ⟨g + 1 + 1 + 1, 0, none⟩ = some (.int .i64 n)
theorem RS3.up {x : Nat → Int} {g : Nat} {i j n : Int} {w w' : World} (h : RS3 x g i j n w) (hb : Below w.heap.size w w') : RS3 x g i j n w' := by
  obtain ⟨a, b, c, d⟩ := h
  exact ⟨(hb.block _ (Array.getElem?_eq_some_iff.1 a).1).trans a, (hb.cell (p := ⟨g + 1, 0, none⟩) (block_lt_of_cell b)).trans b, (hb.cell (p := ⟨g + 1 + 1, 0, none⟩) (block_lt_of_cell c)).trans c, (hb.cell (p := ⟨g + 1 + 1 + 1, 0, none⟩) (block_lt_of_cell d)).trans d⟩
theorem RS3.row {x : Nat → Int} {g : Nat} {i j n : Int} {w : World} (h : RS3 x g i j n w) (cs : Array Value) : RS3 x g i j n (w.setRow (g + 1 + 1 + 1 + 1) cs) := by
  obtain ⟨a, b, c, d⟩ := h
  exact ⟨(setRow_other _ _ _ _ (by omega)).trans a, (World.cell?_of_block (setRow_other _ _ _ _ (by show g + 1 ≠ _; omega))).trans b, (World.cell?_of_block (setRow_other _ _ _ _ (by show g + 1 + 1 ≠ _; omega))).trans c, (World.cell?_of_block (setRow_other _ _ _ _ (by show g + 1 + 1 + 1 ≠ _; omega))).trans d⟩
attribute [local irreducible] Oper.wp wpList Code.wp
set_option maxRecDepth 100000 in
set_option maxHeartbeats 2000000 in
theorem move_any (x : Nat → Int) (i j n : Int) (w : World) (hi : -9223372036854775808 ≤ i ∧ i ≤ 9223372036854775807) (hj0 : -9223372036854775808 ≤ j ∧ j ≤ 9223372036854775807) :
    Calls Try.prog 42 #[.agg (iarr .i64 54 x), .int .i64 i, .int .i64 j, .int .i64 n] w (rpost (moveM x i j n) w) := by
  have HM : Hid (moveM x i j n = turnedM x n (regB i && regB j) (moveE x i j n) (moveO i j)) := rfl
  have hri := regB_iff i
  have hrj := regB_iff j
  have hreg : Hid (∀ w', Calls Try.prog 82 #[.int .i64 i] w' fun e w'' => e = .returned (.bool (regB i)) ∧ w'' = w') := fun w' => region_any i w' hi
  have hregj : Hid (∀ w', Calls Try.prog 82 #[.int .i64 j] w' fun e w'' => e = .returned (.bool (regB j)) ∧ w'' = w') := fun w' => region_any j w' hj0
  generalize regB i = bi at *
  generalize regB j = bj at *
  have Hri : Hid _ := hri
  have Hrj : Hid _ := hrj
  clear hri hrj
  have hmf : ∀ (fn : Fn) (first cap : Array Value) (w : World), (Instr.makeFunc fn first cap).run Try.prog w = .ok (.func fn first cap) w := fun _ _ _ _ => rfl
  cases bi
  all_goals
    go_enter Try.func42, Try.ntmps42
    go_upto_region 1 with (fail)
    rename_i K0 hK0
    rw [← zeros54]
    have ha := alloc5 w (.cells (iarr .i64 54 x) 48) (.cells #[.int .i64 i] 3) (.cells #[.int .i64 j] 3) (.cells #[.int .i64 n] 2) (.cells (iarr .i64 54 zero) 48)
    generalize ((((w.alloc (.cells (iarr .i64 54 x) 48)).alloc (.cells #[.int .i64 i] 3)).alloc (.cells #[.int .i64 j] 3)).alloc (.cells #[.int .i64 n] 2)).alloc (.cells (iarr .i64 54 zero) 48) = W at *
    obtain ⟨hx, hI, hJ, hN, hz, hs, hB⟩ := ha
    have hS0 : RS3 x w.heap.size i j n W.drew := ⟨hx, cell_one (w := W) hI, cell_one (w := W) hJ, cell_one (w := W) hN⟩
    have Hz : Hid _ := hz
    have Hs : Hid _ := hs
    clear hx hz hI hJ hN hs
    refine wp_region_noPanic (wp_region_held_drew (S := RS3 x w.heap.size i j n) (by kernel_rfl) hS0 fun hS => ?_)
    refine wpAnyH_take (i := 0) (v := .agg (iarr .i64 54 x)) rfl (by kernel_rfl) (by kernel_rfl) (by kernel_rfl) (fun _ _ _ h => h) (.inl ⟨by rfl, fun w' hw => ?_⟩) hS ?_
    · exact exec_load_row 48 (.tmp 4) (by rfl) w.heap.size (by rfl) 48 (iarr .i64 54 x) (0, 0) _ hw.1 Try.underlying48 (by rfl) (by rw [iarr_size]; exact infoR)
    refine wpAnyH_take (i := 1) (v := .int .i64 n) rfl (by kernel_rfl) (by kernel_rfl) (by kernel_rfl) (fun _ _ _ h => h) (.inl ⟨by rfl, fun w' hw => ?_⟩) hS ?_
    · have h2 := hw.2.2.2
      clear hw
      go_simp
    refine wpAnyH_take (i := 2) (v := .int .i64 i) rfl (by kernel_rfl) (by kernel_rfl) (by kernel_rfl) (fun _ _ _ h => h) (.inl ⟨by rfl, fun w' hw => ?_⟩) hS ?_
    · have h2 := hw.2.1
      clear hw
      go_simp
    refine wpAnyH_take (i := 8) (v := .func (.func 83) #[] #[.pointer (some ⟨w.heap.size + 1, 0, none⟩), .pointer (some ⟨w.heap.size + 1 + 1, 0, none⟩), .pointer (some ⟨w.heap.size + 1 + 1 + 1, 0, none⟩), .pointer (some ⟨w.heap.size, 0, none⟩)]) rfl (by kernel_rfl) (by kernel_rfl) (by kernel_rfl) (fun _ _ _ h => h) (.inl ⟨by rfl, fun w' hw => ?_⟩) hS ?_
    · clear hw
      go_simp
    refine wpAnyH_take (i := 9) (v := .func (.func 85) #[] #[.pointer (some ⟨w.heap.size + 1, 0, none⟩), .pointer (some ⟨w.heap.size + 1 + 1, 0, none⟩)]) rfl (by kernel_rfl) (by kernel_rfl) (by kernel_rfl) (fun _ _ _ h => h) (.inl ⟨by rfl, fun w' hw => ?_⟩) hS ?_
    · clear hw
      go_simp
    refine wpAnyH_all (rs := [3]) (by kernel_rfl) (by decide) ?_
    intro j hj
    obtain rfl : j = 3 := by simpa using hj
    refine wpOp_step rfl (fun K hK => ?_)
    clear hj
    go_simp
    refine (hreg.out _).mono ?_
    rintro e w' ⟨rfl, rfl⟩
    refine hK _ _ ⟨hS, ?_⟩
    clear hK K
  · have hoff : false = true → moveO i j < 54 := nofun
    have hcell : false = true → may x = true → 0 ≤ x (moveO i j) ∧ x (moveO i j) ≤ 1125899906842624 := nofun
    have hbd : false = true → (1 ≤ i ∧ i ≤ 6) ∧ (1 ≤ j ∧ j ≤ 6) := nofun
    refine wpAnyH_take (i := 4) (v := .bool false) rfl (by kernel_rfl) (by kernel_rfl) (by kernel_rfl) (fun _ _ _ h => h) (.inl ⟨by rfl, fun w' hw => ?_⟩) hS ?_
    · clear hw
      go_simp
    refine wpAnyH_take (i := 5) (v := undef) rfl (by kernel_rfl) (by kernel_rfl) (by kernel_rfl) (fun _ _ _ h => h) (.inr ⟨by rfl, rfl⟩) hS ?_
    refine wpAnyH_take (i := 6) (v := undef) rfl (by kernel_rfl) (by kernel_rfl) (by kernel_rfl) (fun _ _ _ h => h) (.inr ⟨by rfl, rfl⟩) hS ?_
    refine wpAnyH_take (i := 7) (v := .bool false) rfl (by kernel_rfl) (by kernel_rfl) (by kernel_rfl) (fun _ _ _ h => h) (.inl ⟨by rfl, fun w' hw => ?_⟩) hS ?_
    · clear hw
      go_simp
    have HM : Hid (moveM x i j n = turnedM x n false (moveE x i j n) (moveO i j)) := HM
    refine wpAnyH_all (rs := [10]) (by kernel_rfl) (by decide) ?_
    intro j hj
    obtain rfl : j = 10 := by simpa using hj
    refine wpOp_step rfl (fun K hK => ?_)
    clear hj
    go_simp
    have hlz : w.heap.size + 1 + 1 + 1 + 1 < W.drew.heap.size := by show _ < W.heap.size; have := Hs.out; omega
    refine (turned_any x n false 83 85 _ _ (moveE x i j n) (moveO i j) W.drew ?o1 ?o2 enter_m1 enter_m2 ?o3 ?o4).mono ?_
    case o1 => exact hoff
    case o2 => exact hcell
    case o3 => exact fun hm h1 h2 h3 w' hb => have hq := RS3.up hS hb; move1_any x i j n _ _ _ _ w' ⟨h1, h2⟩ hi hj0 hq.1 hq.2.2.2 hq.2.1 hq.2.2.1
    case o4 => exact fun h w' g hb => have hq := RS3.up hS hb; move2_any g _ _ i j w' (hbd h).1 (hbd h).2 hq.2.1 hq.2.2.1
    rintro e w2 ⟨rfl, hb2⟩
    generalize turnedM x n false (moveE x i j n) (moveO i j) = r at *
    have hz2 : Hid (w2.heap[w.heap.size + 1 + 1 + 1 + 1]? = some (.cells (iarr .i64 54 zero) 48 (0, 0))) := (hb2.block _ hlz).trans Hz.out
    have hB2 : Below w.heap.size w w2 := hB.trans ((bdr hb2).mono hB.size)
    have hS := RS3.up hS hb2
    refine hK _ _ ⟨hS, ?_⟩
    clear hK K
    clear hb2
    refine wpAnyH_take (i := 11) (v := .agg (iarr .i64 54 r.1)) rfl (by kernel_rfl) (by kernel_rfl) (by kernel_rfl) (fun _ _ _ h => h) (.inl ⟨by rfl, fun w' hw => ?_⟩) hS ?_
    · clear hw
      go_simp
    refine wpAnyH_take (i := 12) (v := .int .i64 r.2) rfl (by kernel_rfl) (by kernel_rfl) (by kernel_rfl) (fun _ _ _ h => h) (.inl ⟨by rfl, fun w' hw => ?_⟩) hS ?_
    · clear hw
      go_simp
    refine wpAnyH_all (rs := [13]) (by kernel_rfl) (by decide) ?_
    intro j' hj'
    obtain rfl : j' = 13 := by simpa using hj'
    clear hj'
    refine wpOp_plain (by rfl) (by rfl) (fun K hK => ?_)
    refine wp_store_row 48 (.tmp 8) (.tmp 21) (by rfl) (w.heap.size + 1 + 1 + 1 + 1) (iarr .i64 54 r.1) (by rfl) (by rfl) 48 (iarr .i64 54 zero) hz2.out (by rw [iarr_size]; exact infoR) (by rw [iarr_size, iarr_size]) (iarr_one _ _ _) ?_
    have hend := turned_end hB2 (by omega) hz2.out r.1
    have hS := hS.row (iarr .i64 54 r.1)
    refine hK _ _ ⟨hS, ?_⟩
    clear hK K hz2 hB2
    generalize w2.setRow (w.heap.size + 1 + 1 + 1 + 1) (iarr .i64 54 r.1) = w3 at *
    refine wpAnyH_take (i := 14) (v := .int .i64 r.2) rfl (by kernel_rfl) (by kernel_rfl) (by kernel_rfl) (fun _ _ _ h => h) (.inl ⟨by rfl, fun w' hw => ?_⟩) hS ?_
    · clear hw
      go_simp
    refine wpAnyH_done (by kernel_rfl) ?_ _
    refine hK0 _ _ (wp_ret ?_)
    rw [HM.out]
    exact results_fin (p := 8) (q := 9) (by kernel_rfl) (by kernel_rfl) (by kernel_rfl) (by kernel_rfl) hend.1 hend.2
  · have hi6 := Hri.out.1 rfl
    have hbd : bj = true → (1 ≤ i ∧ i ≤ 6) ∧ (1 ≤ j ∧ j ≤ 6) := fun h => ⟨hi6, Hrj.out.1 h⟩
    have hoff : bj = true → moveO i j < 54 := fun h => by have := hbd h; unfold moveO; omega
    have hcell : bj = true → may x = true → 0 ≤ x (moveO i j) ∧ x (moveO i j) ≤ 1125899906842624 := fun h hm => by
      have := hbd h
      exact (may_ok hm (i.toNat - 1) (by omega)).r (j.toNat - 1) (by omega)
    refine wpAnyH_take (i := 4) (v := .bool true) rfl (by kernel_rfl) (by kernel_rfl) (by kernel_rfl) (fun _ _ _ h => h) (.inl ⟨by rfl, fun w' hw => ?_⟩) hS ?_
    · clear hw
      go_simp
    refine wpAnyH_take (i := 5) (v := .int .i64 j) rfl (by kernel_rfl) (by kernel_rfl) (by kernel_rfl) (fun _ _ _ h => h) (.inl ⟨by rfl, fun w' hw => ?_⟩) hS ?_
    · have h2 := hw.2.2.1
      clear hw
      go_simp
    refine wpAnyH_all (rs := [6]) (by kernel_rfl) (by decide) ?_
    intro j hj
    obtain rfl : j = 6 := by simpa using hj
    refine wpOp_step rfl (fun K hK => ?_)
    clear hj
    go_simp
    refine (hregj.out _).mono ?_
    rintro e w' ⟨rfl, rfl⟩
    refine hK _ _ ⟨hS, ?_⟩
    clear hK K
    refine wpAnyH_take (i := 7) (v := .bool bj) rfl (by kernel_rfl) (by kernel_rfl) (by kernel_rfl) (fun _ _ _ h => h) (.inl ⟨by rfl, fun w' hw => ?_⟩) hS ?_
    · clear hw
      go_simp
    have HM : Hid (moveM x i j n = turnedM x n bj (moveE x i j n) (moveO i j)) := HM
    refine wpAnyH_all (rs := [10]) (by kernel_rfl) (by decide) ?_
    intro j hj
    obtain rfl : j = 10 := by simpa using hj
    refine wpOp_step rfl (fun K hK => ?_)
    clear hj
    go_simp
    have hlz : w.heap.size + 1 + 1 + 1 + 1 < W.drew.heap.size := by show _ < W.heap.size; have := Hs.out; omega
    refine (turned_any x n bj 83 85 _ _ (moveE x i j n) (moveO i j) W.drew ?o1 ?o2 enter_m1 enter_m2 ?o3 ?o4).mono ?_
    case o1 => exact hoff
    case o2 => exact hcell
    case o3 => exact fun hm h1 h2 h3 w' hb => have hq := RS3.up hS hb; move1_any x i j n _ _ _ _ w' ⟨h1, h2⟩ hi hj0 hq.1 hq.2.2.2 hq.2.1 hq.2.2.1
    case o4 => exact fun h w' g hb => have hq := RS3.up hS hb; move2_any g _ _ i j w' (hbd h).1 (hbd h).2 hq.2.1 hq.2.2.1
    rintro e w2 ⟨rfl, hb2⟩
    generalize turnedM x n bj (moveE x i j n) (moveO i j) = r at *
    have hz2 : Hid (w2.heap[w.heap.size + 1 + 1 + 1 + 1]? = some (.cells (iarr .i64 54 zero) 48 (0, 0))) := (hb2.block _ hlz).trans Hz.out
    have hB2 : Below w.heap.size w w2 := hB.trans ((bdr hb2).mono hB.size)
    have hS := RS3.up hS hb2
    refine hK _ _ ⟨hS, ?_⟩
    clear hK K
    clear hb2
    refine wpAnyH_take (i := 11) (v := .agg (iarr .i64 54 r.1)) rfl (by kernel_rfl) (by kernel_rfl) (by kernel_rfl) (fun _ _ _ h => h) (.inl ⟨by rfl, fun w' hw => ?_⟩) hS ?_
    · clear hw
      go_simp
    refine wpAnyH_take (i := 12) (v := .int .i64 r.2) rfl (by kernel_rfl) (by kernel_rfl) (by kernel_rfl) (fun _ _ _ h => h) (.inl ⟨by rfl, fun w' hw => ?_⟩) hS ?_
    · clear hw
      go_simp
    refine wpAnyH_all (rs := [13]) (by kernel_rfl) (by decide) ?_
    intro j' hj'
    obtain rfl : j' = 13 := by simpa using hj'
    clear hj'
    refine wpOp_plain (by rfl) (by rfl) (fun K hK => ?_)
    refine wp_store_row 48 (.tmp 8) (.tmp 21) (by rfl) (w.heap.size + 1 + 1 + 1 + 1) (iarr .i64 54 r.1) (by rfl) (by rfl) 48 (iarr .i64 54 zero) hz2.out (by rw [iarr_size]; exact infoR) (by rw [iarr_size, iarr_size]) (iarr_one _ _ _) ?_
    have hend := turned_end hB2 (by omega) hz2.out r.1
    have hS := hS.row (iarr .i64 54 r.1)
    refine hK _ _ ⟨hS, ?_⟩
    clear hK K hz2 hB2
    generalize w2.setRow (w.heap.size + 1 + 1 + 1 + 1) (iarr .i64 54 r.1) = w3 at *
    refine wpAnyH_take (i := 14) (v := .int .i64 r.2) rfl (by kernel_rfl) (by kernel_rfl) (by kernel_rfl) (fun _ _ _ h => h) (.inl ⟨by rfl, fun w' hw => ?_⟩) hS ?_
    · clear hw
      go_simp
    refine wpAnyH_done (by kernel_rfl) ?_ _
    refine hK0 _ _ (wp_ret ?_)
    rw [HM.out]
    exact results_fin (p := 8) (q := 9) (by kernel_rfl) (by kernel_rfl) (by kernel_rfl) (by kernel_rfl) hend.1 hend.2
end Go.Proofs.Ytolmkjepieoloaa
