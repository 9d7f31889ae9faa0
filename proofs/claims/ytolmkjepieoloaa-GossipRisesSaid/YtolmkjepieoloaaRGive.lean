/-
  The walks of rights.when, Give.
-/
import Derived.Test.YtolmkjepieoloaaRTurned
namespace Go.Proofs.Ytolmkjepieoloaa
open Go.RowKit Rt
set_option maxHeartbeats 400000 in
theorem when_any (is : Bool) (e : Int) (w : World) :
    Calls Try.prog 84 #[.bool is, .int .i64 e] w fun r w' => r = .returned (.int .i64 (if is then e else 0)) ∧ w' = w := by
  cases is
  all_goals
    go_enter Try.func84, Try.ntmps84
    go_wp2
    go_ret
    exact ⟨rfl, rfl⟩
namespace Rt
def giveE (x : Nat → Int) (n : Int) : Int := if decide (1125899906842624 < (sums x).1 + n) then 6 else 0
def giveM (x : Nat → Int) (i n : Int) : (Nat → Int) × Int := turnedM x n (regB i) (giveE x n) (i.toNat - 1)
theorem sums_bd (x : Nat → Int) : (0 ≤ (sums x).1 ∧ (sums x).1 ≤ 1125899906842624 * 6) ∧ 0 ≤ (sums x).2 ∧ (sums x).2 ≤ 1125899906842624 * 6 := by
  unfold sums
  by_cases h : may x = true
  · rw [if_pos h]
    have a := limN_bd (fun k hk => may_ok h k hk) 6 (by omega)
    have b := usedN_bd (fun k hk => may_ok h k hk) 6 (by omega)
    exact ⟨a, b⟩
  · rw [if_neg h]; simp
end Rt
set_option maxRecDepth 100000 in
set_option maxHeartbeats 1000000 in
theorem give1_any (x : Nat → Int) (n : Int) (g h : Nat) (w : World) (hn : 1 ≤ n ∧ n ≤ 1125899906842624) (hx : Hid (w.heap[g]? = some (.cells (iarr .i64 54 x) 48 (0, 0)))) (hc : w.cell? ⟨h, 0, none⟩ = some (.int .i64 n)) :
    Calls Try.prog 114 #[.pointer (some ⟨g, 0, none⟩), .pointer (some ⟨h, 0, none⟩)] w fun e w' => e = .returned (.int .i64 (giveE x n)) ∧ Below w.heap.size w w' := by
  have hlt := block_lt_of_cell hc
  dsimp only at hlt
  have HE : Hid (giveE x n = if decide (1125899906842624 < (sums x).1 + n) then 6 else 0) := rfl
  have hb := (sums_bd x).1
  have hs : Hid (∀ w', Calls Try.prog 41 #[.agg (iarr .i64 54 x)] w' fun e w'' => e = .returned (.tuple #[.int .i64 (sums x).1, .int .i64 (sums x).2]) ∧ Below w'.heap.size w' w'') := fun w' => sums_any x w'
  generalize (sums x).1 = s1 at *
  generalize (sums x).2 = s2 at *
  by_cases hd : 1125899906842624 < s1 + n
  · rw [decide_eq_true hd, if_pos rfl] at HE
    go_enter Try.func114, Try.ntmps114
    go_wp2_with (first
      | (refine wpList_load_row (o := ⟨some 6, _, _, _, _, _⟩) (by rfl) 48 (.tmp 0) (by rfl) g (by rfl) 48 (iarr .i64 54 x) (0, 0) _ hx.out Try.underlying48 (by rfl) (by rw [iarr_size]; exact infoR) ?_)
      | (go_at_call 41; refine (hs.out _).mono ?_; rintro e w1 ⟨rfl, hb1⟩; have hc1 := (hb1.cell (p := ⟨h, 0, none⟩) hlt).trans hc)
      | (go_at_call 84; refine (when_any _ _ _).mono ?_; rintro e w2 ⟨rfl, rfl⟩))
    go_ret
    rw [HE.out]; exact ⟨rfl, hb1⟩
  · rw [decide_eq_false hd, if_neg (by decide)] at HE
    go_enter Try.func114, Try.ntmps114
    go_wp2_with (first
      | (refine wpList_load_row (o := ⟨some 6, _, _, _, _, _⟩) (by rfl) 48 (.tmp 0) (by rfl) g (by rfl) 48 (iarr .i64 54 x) (0, 0) _ hx.out Try.underlying48 (by rfl) (by rw [iarr_size]; exact infoR) ?_)
      | (go_at_call 41; refine (hs.out _).mono ?_; rintro e w1 ⟨rfl, hb1⟩; have hc1 := (hb1.cell (p := ⟨h, 0, none⟩) hlt).trans hc)
      | (go_at_call 84; refine (when_any _ _ _).mono ?_; rintro e w2 ⟨rfl, rfl⟩))
    go_ret
    rw [HE.out]; exact ⟨rfl, hb1⟩
set_option maxHeartbeats 400000 in
theorem give2_any (g h : Nat) (i : Int) (w : World) (hi : 1 ≤ i ∧ i ≤ 6) (hc : w.cell? ⟨h, 0, none⟩ = some (.int .i64 i)) :
    Calls Try.prog 115 #[.pointer (some ⟨g, 0, none⟩), .pointer (some ⟨h, 0, none⟩)] w fun e w' => e = .returned (.pointer (some ⟨g, i.toNat - 1, none⟩)) ∧ Below w.heap.size w w' := by
  obtain ⟨k, hk⟩ := Int.eq_ofNat_of_zero_le (show 0 ≤ i - 1 by omega)
  obtain rfl : i = (k : Int) + 1 := by omega
  have hk6 : (k : Int) < 6 := by omega
  have HE : Hid (((k : Int) + 1).toNat - 1 = k) := by unfold Hid; omega
  clear hk
  go_enter Try.func115, Try.ntmps115
  go_wp2_with fail
  go_quiet (fail)
  go_wp2
  go_ret
  rw [HE.out]
  exact ⟨rfl, bN (Below.refl _ _) _⟩
def rpost (r : (Nat → Int) × Int) (w : World) (e : Ending) (w' : World) : Prop :=
  e = .returned (.tuple #[.agg (iarr .i64 54 r.1), .int .i64 r.2]) ∧ Below w.heap.size w w'
theorem results_fin {fn : Func} {p q : Tmp} (hres : fn.results = #[.cell p 48, .tmp q]) {w0 w : World} {a : Act} {g : Nat} {r : (Nat → Int) × Int} (hd : a.defers = [])
    (hp : a.tmps.getD p undef = .pointer (some ⟨g, 0, none⟩)) (hq : a.tmps.getD q undef = .int .i64 r.2) (hg : w.heap[g]? = some (.cells (iarr .i64 54 r.1) 48 (0, 0))) (hb : Below w0.heap.size w0 w) :
    bodyPost Try.prog fn (rpost r w0) .ret a w :=
  bodyPost_ret (by rw [results_cell_tmp hres a.tmps w g 48 _ (0, 0) _ hp hg Try.underlying48 rfl (by rw [iarr_size]; exact infoR), hq]) hd ⟨rfl, hb⟩
def RS2 (x : Nat → Int) (g : Nat) (i n : Int) (w' : World) : Prop := w'.heap[g]? = some (.cells (iarr .i64 54 x) 48 (0, 0)) ∧ w'.cell? ⟨g + 1, 0, none⟩ = some (.int .i64 i) ∧ w'.cell? ⟨g + 1 + 1, 0, none⟩ = some (.int .i64 n)
theorem enter_g1 (args : Array Value) (w : World) : (callFunc 114 args).run Try.prog w = .ok (.enter 114 args) w := run_enter Try.func114 rfl rfl args w
theorem enter_g2 (args : Array Value) (w : World) : (callFunc 115 args).run Try.prog w = .ok (.enter 115 args) w := run_enter Try.func115 rfl rfl args w
theorem regB_iff (i : Int) : regB i = true ↔ 1 ≤ i ∧ i ≤ 6 := by unfold regB; simp
attribute [local irreducible] Oper.wp wpList Code.wp
set_option maxRecDepth 100000 in
set_option maxHeartbeats 1000000 in
theorem give_any (x : Nat → Int) (i n : Int) (w : World) (hi : -9223372036854775808 ≤ i ∧ i ≤ 9223372036854775807) :
    Calls Try.prog 80 #[.agg (iarr .i64 54 x), .int .i64 i, .int .i64 n] w (rpost (giveM x i n) w) := by
  have hmf : ∀ (fn : Fn) (first cap : Array Value) (w : World), (Instr.makeFunc fn first cap).run Try.prog w = .ok (.func fn first cap) w := fun _ _ _ _ => rfl
  go_enter Try.func80, Try.ntmps80
  go_upto_region 1 with (fail)
  rename_i K0 hK0
  rw [← zeros54]
  have ha := alloc4 w (.cells (iarr .i64 54 x) 48) (.cells #[.int .i64 i] 3) (.cells #[.int .i64 n] 2) (.cells (iarr .i64 54 zero) 48)
  generalize (((w.alloc (.cells (iarr .i64 54 x) 48)).alloc (.cells #[.int .i64 i] 3)).alloc (.cells #[.int .i64 n] 2)).alloc (.cells (iarr .i64 54 zero) 48) = W at *
  obtain ⟨hx, hI, hN, hz, hs, hB⟩ := ha
  have cI := cell_one hI
  have cN := cell_one hN
  have Hx : Hid _ := hx
  have Hz : Hid _ := hz
  have HI : Hid _ := hI
  have HN : Hid _ := hN
  have Hs : Hid _ := hs
  clear hx hz hI hN hs
  refine wp_region_noPanic (wp_region_held_drew (S := RS2 x w.heap.size i n) (by kernel_rfl) ⟨Hx.out, cI, cN⟩ fun hS => ?_)
  refine wpAnyH_take (i := 0) (v := .agg (iarr .i64 54 x)) rfl (by kernel_rfl) (by kernel_rfl) (by kernel_rfl) (fun _ _ _ h => h) (.inl ⟨by rfl, fun w' hw => ?_⟩) hS ?_
  · exact exec_load_row 48 (.tmp 3) (by rfl) w.heap.size (by rfl) 48 (iarr .i64 54 x) (0, 0) _ hw.1 Try.underlying48 (by rfl) (by rw [iarr_size]; exact infoR)
  refine wpAnyH_take (i := 1) (v := .int .i64 n) rfl (by kernel_rfl) (by kernel_rfl) (by kernel_rfl) (fun _ _ _ h => h) (.inl ⟨by rfl, fun w' hw => ?_⟩) hS ?_
  · have h2 := hw.2.2
    go_simp
  refine wpAnyH_take (i := 2) (v := .int .i64 i) rfl (by kernel_rfl) (by kernel_rfl) (by kernel_rfl) (fun _ _ _ h => h) (.inl ⟨by rfl, fun w' hw => ?_⟩) hS ?_
  · have h2 := hw.2.1
    have h3 := hw.2.2
    clear hw
    go_simp
  refine wpAnyH_take (i := 4) (v := .func (.func 114) #[] #[.pointer (some ⟨w.heap.size, 0, none⟩), .pointer (some ⟨w.heap.size + 1 + 1, 0, none⟩)]) rfl (by kernel_rfl) (by kernel_rfl) (by kernel_rfl) (fun _ _ _ h => h) (.inl ⟨by rfl, fun w' hw => ?_⟩) hS ?_
  · have h2 := hw.2.1
    have h3 := hw.2.2
    clear hw
    go_simp
  refine wpAnyH_take (i := 5) (v := .func (.func 115) #[] #[.pointer (some ⟨w.heap.size + 1, 0, none⟩)]) rfl (by kernel_rfl) (by kernel_rfl) (by kernel_rfl) (fun _ _ _ h => h) (.inl ⟨by rfl, fun w' hw => ?_⟩) hS ?_
  · have h2 := hw.2.1
    have h3 := hw.2.2
    clear hw
    go_simp
  refine wpAnyH_all (rs := [3]) (by kernel_rfl) (by decide) ?_
  intro j hj
  obtain rfl : j = 3 := by simpa using hj
  refine wpOp_step rfl (fun K hK => ?_)
  clear hj
  go_simp
  refine (region_any i _ hi).mono ?_
  rintro e w' ⟨rfl, rfl⟩
  refine hK _ _ ⟨hS, ?_⟩
  clear hK K
  refine wpAnyH_all (rs := [6]) (by kernel_rfl) (by decide) ?_
  intro j hj
  obtain rfl : j = 6 := by simpa using hj
  refine wpOp_step rfl (fun K hK => ?_)
  clear hj
  go_simp
  have hlx : w.heap.size < W.drew.heap.size := (Array.getElem?_eq_some_iff.1 hS.1).1
  have hlI := block_lt_of_cell hS.2.1
  have hlN := block_lt_of_cell hS.2.2
  dsimp only at hlI hlN
  refine (turned_any x n (regB i) 114 115 _ _ (giveE x n) (i.toNat - 1) W.drew ?o1 ?o2 enter_g1 enter_g2 ?o3 ?o4).mono ?_
  case o1 => intro h; have := (regB_iff i).1 h; omega
  case o2 => intro h hm; have := (regB_iff i).1 h; exact (may_ok hm (i.toNat - 1) (by omega)).g
  case o3 =>
    intro hm h1 h2 h3 w' hb
    exact give1_any x n _ _ w' ⟨h1, h2⟩ ((hb.block _ hlx).trans hS.1) ((hb.cell (p := ⟨w.heap.size + 1 + 1, 0, none⟩) hlN).trans hS.2.2)
  case o4 =>
    intro h w' g hb
    exact give2_any g _ i w' ((regB_iff i).1 h) ((hb.cell (p := ⟨w.heap.size + 1, 0, none⟩) hlI).trans hS.2.1)
  rintro e w2 ⟨rfl, hb2⟩
  have hHR : Hid (giveM x i n = turnedM x n (regB i) (giveE x n) (i.toNat - 1)) := rfl
  generalize turnedM x n (regB i) (giveE x n) (i.toNat - 1) = r at *
  have hS2 : RS2 x w.heap.size i n w2 := ⟨(hb2.block _ hlx).trans hS.1, (hb2.cell (p := ⟨w.heap.size + 1, 0, none⟩) hlI).trans hS.2.1, (hb2.cell (p := ⟨w.heap.size + 1 + 1, 0, none⟩) hlN).trans hS.2.2⟩
  have hz2 : Hid (w2.heap[w.heap.size + 1 + 1 + 1]? = some (.cells (iarr .i64 54 zero) 48 (0, 0))) := (hb2.block _ (by show _ < W.heap.size; have := Hs.out; omega)).trans Hz.out
  have hB2 : Below w.heap.size w w2 := hB.trans ((bdr hb2).mono hB.size)
  refine hK _ _ ⟨hS2, ?_⟩
  clear hK K hS hb2
  refine wpAnyH_take (i := 7) (v := .agg (iarr .i64 54 r.1)) rfl (by kernel_rfl) (by kernel_rfl) (by kernel_rfl) (fun _ _ _ h => h) (.inl ⟨by rfl, fun w' hw => ?_⟩) hS2 ?_
  · clear hw
    go_simp
  refine wpAnyH_take (i := 8) (v := .int .i64 r.2) rfl (by kernel_rfl) (by kernel_rfl) (by kernel_rfl) (fun _ _ _ h => h) (.inl ⟨by rfl, fun w' hw => ?_⟩) hS2 ?_
  · clear hw
    go_simp
  refine wpAnyH_all (rs := [9]) (by kernel_rfl) (by decide) ?_
  intro j hj
  obtain rfl : j = 9 := by simpa using hj
  clear hj
  refine wpOp_plain (by rfl) (by rfl) (fun K hK => ?_)
  refine wp_store_row 48 (.tmp 6) (.tmp 15) (by rfl) (w.heap.size + 1 + 1 + 1) (iarr .i64 54 r.1) (by rfl) (by rfl) 48 (iarr .i64 54 zero) hz2.out (by rw [iarr_size]; exact infoR) (by rw [iarr_size, iarr_size]) (iarr_one _ _ _) ?_
  have hend := turned_end hB2 (by omega) hz2.out r.1
  have hS3 : RS2 x w.heap.size i n (w2.setRow (w.heap.size + 1 + 1 + 1) (iarr .i64 54 r.1)) := ⟨(setRow_other _ _ _ _ (by omega)).trans hS2.1, (World.cell?_of_block (setRow_other _ _ _ _ (by show w.heap.size + 1 ≠ _; omega))).trans hS2.2.1, (World.cell?_of_block (setRow_other _ _ _ _ (by show w.heap.size + 1 + 1 ≠ _; omega))).trans hS2.2.2⟩
  refine hK _ _ ⟨hS3, ?_⟩
  clear hK K hz2 hB2 hS2
  generalize w2.setRow (w.heap.size + 1 + 1 + 1) (iarr .i64 54 r.1) = w3 at *
  refine wpAnyH_take (i := 10) (v := .int .i64 r.2) rfl (by kernel_rfl) (by kernel_rfl) (by kernel_rfl) (fun _ _ _ h => h) (.inl ⟨by rfl, fun w' hw => ?_⟩) hS3 ?_
  · clear hw
    go_simp
  refine wpAnyH_done (by kernel_rfl) ?_ _
  refine hK0 _ _ (wp_ret ?_)
  rw [hHR.out]
  exact results_fin (p := 6) (q := 7) (by kernel_rfl) (by kernel_rfl) (by kernel_rfl) (by kernel_rfl) hend.1 hend.2
end Go.Proofs.Ytolmkjepieoloaa
