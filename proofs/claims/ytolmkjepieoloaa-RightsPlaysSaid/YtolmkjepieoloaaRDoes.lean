/-
  The walk of leatlaw07.Step.Does.
-/
import Derived.Test.YtolmkjepieoloaaRMove
import Derived.Test.YtolmkjepieoloaaRFree
import Derived.Test.YtolmkjepieoloaaREq
namespace Go.Proofs.Ytolmkjepieoloaa
open Go.RowKit Rt
namespace Rt
def doesM (x : Nat → Int) (d i j n : Int) : (Nat → Int) × Int := if d % 4 = 0 then giveM x i n else if d % 4 = 1 then takeM x i n else if d % 4 = 2 then freeM x i n else moveM x i j n
end Rt
def stepV (d i j n : Int) : Array Value := #[.int .u8 d, .int .i64 i, .int .i64 j, .int .i64 n]
theorem alloc3 (w : World) (A B C : Obj) : (((w.alloc A).alloc B).alloc C).heap[w.heap.size]? = some A ∧ (((w.alloc A).alloc B).alloc C).heap[w.heap.size + 1]? = some B ∧ (((w.alloc A).alloc B).alloc C).heap[w.heap.size + 1 + 1]? = some C
    ∧ (((w.alloc A).alloc B).alloc C).heap.size = w.heap.size + 3 ∧ Below w.heap.size w (((w.alloc A).alloc B).alloc C) := by
  refine ⟨?_, ?_, ?_, by simp, (((Below.refl _ _).alloc (Nat.le_refl _) _).alloc (by simp) _).alloc (by simp; omega) _⟩
  all_goals (simp only [alloc_at, alloc_size]; (repeat rw [if_neg (by omega)]); simp only [if_true])
attribute [local irreducible] Oper.wp Code.wp
set_option maxRecDepth 100000 in
set_option maxHeartbeats 2000000 in
theorem does_give (x : Nat → Int) (d i j n : Int) (w : World) (hd : 0 ≤ d ∧ d ≤ 255) (hi : -9223372036854775808 ≤ i ∧ i ≤ 9223372036854775807) (hj : -9223372036854775808 ≤ j ∧ j ≤ 9223372036854775807) (hc : d % 4 = 0) :
    Calls Try.prog 49 #[.agg #[.int .u8 d, .int .i64 i, .int .i64 j, .int .i64 n], .agg (iarr .i64 54 x)] w (rpost (giveM x i n) w) := by
  have ht : d.tmod 4 = 0 := by rw [Int.tmod_eq_emod_of_nonneg hd.1]; exact hc
  have HC : Hid (∀ w', Calls Try.prog 80 #[.agg (iarr .i64 54 x), .int .i64 i, .int .i64 n] w' (rpost (giveM x i n) w')) := fun w' => give_any x i n w' hi
  generalize giveM x i n = r at *
  clear hc
  go_enter Try.func49, Try.ntmps49
  go_upto_region 1 with (fail)
  rw [← zeros54]
  have ha := alloc3 w (.cells #[.int .u8 d, .int .i64 i, .int .i64 j, .int .i64 n] 103) (.cells (iarr .i64 54 x) 48) (.cells (iarr .i64 54 zero) 48)
  generalize ((w.alloc (.cells #[.int .u8 d, .int .i64 i, .int .i64 j, .int .i64 n] 103)).alloc (.cells (iarr .i64 54 x) 48)).alloc (.cells (iarr .i64 54 zero) 48) = W at *
  obtain ⟨hst, hx, hz, hs, hB⟩ := ha
  have c0 : W.cell? ⟨w.heap.size, 0, none⟩ = some (.int .u8 d) := by rw [cell_of_row _ _ _ _ _ _ hst]; rfl
  have c1 : W.cell? ⟨w.heap.size, 1, none⟩ = some (.int .i64 i) := by rw [cell_of_row _ _ _ _ _ _ hst]; rfl
  have c2 : W.cell? ⟨w.heap.size, 2, none⟩ = some (.int .i64 j) := by rw [cell_of_row _ _ _ _ _ _ hst]; rfl
  have c3 : W.cell? ⟨w.heap.size, 3, none⟩ = some (.int .i64 n) := by rw [cell_of_row _ _ _ _ _ _ hst]; rfl
  have Hx : Hid (W.heap[w.heap.size + 1]? = some (.cells (iarr .i64 54 x) 48 (0, 0))) := hx
  have Hz : Hid (W.heap[w.heap.size + 1 + 1]? = some (.cells (iarr .i64 54 zero) 48 (0, 0))) := hz
  clear hst hx hz hs
  go_wp2_with (refine wpList_load_row (o := ⟨some 11, _, _, _, _, _⟩) (by rfl) 48 (.tmp 3) (by rfl) (w.heap.size + 1) (by rfl) 48 (iarr .i64 54 x) (0, 0) _ Hx.out Try.underlying48 (by rfl) (by rw [iarr_size]; exact infoR) ?_)
  refine (HC.out _).mono ?_
  rintro e w2 ⟨rfl, hb⟩
  have Hz2 : Hid (w2.heap[w.heap.size + 1 + 1]? = some (.cells (iarr .i64 54 zero) 48 (0, 0))) := row_kept Hz.out hb
  have hB2 : Below w.heap.size w w2 := bch hB hb
  clear hb hB Hz Hx c0 c1 c2 c3
  go_wp2_with (refine wpList_store_row (o := ⟨none, .store 48 (.tmp 4) (.tmp 17), _, _, _, _⟩) (by rfl) 48 (.tmp 4) (.tmp 17) (by rfl) (w.heap.size + 1 + 1) (iarr .i64 54 r.1) (by rfl) (by rfl) 48 (iarr .i64 54 zero) Hz2.out (by rw [iarr_size]; exact infoR) (by rw [iarr_size, iarr_size]) (iarr_one _ _ _) ?_)
  have hend := turned_end hB2 (by omega) Hz2.out r.1
  exact results_fin (p := 4) (q := 5) rfl rfl rfl rfl hend.1 hend.2
set_option maxRecDepth 100000 in
set_option maxHeartbeats 2000000 in
theorem does_take (x : Nat → Int) (d i j n : Int) (w : World) (hd : 0 ≤ d ∧ d ≤ 255) (hi : -9223372036854775808 ≤ i ∧ i ≤ 9223372036854775807) (hj : -9223372036854775808 ≤ j ∧ j ≤ 9223372036854775807) (hc : d % 4 = 1) :
    Calls Try.prog 49 #[.agg #[.int .u8 d, .int .i64 i, .int .i64 j, .int .i64 n], .agg (iarr .i64 54 x)] w (rpost (takeM x i n) w) := by
  have ht : d.tmod 4 = 1 := by rw [Int.tmod_eq_emod_of_nonneg hd.1]; exact hc
  have HC : Hid (∀ w', Calls Try.prog 44 #[.agg (iarr .i64 54 x), .int .i64 i, .int .i64 n] w' (rpost (takeM x i n) w')) := fun w' => take_any x i n w' hi
  generalize takeM x i n = r at *
  clear hc
  go_enter Try.func49, Try.ntmps49
  go_upto_region 1 with (fail)
  rw [← zeros54]
  have ha := alloc3 w (.cells #[.int .u8 d, .int .i64 i, .int .i64 j, .int .i64 n] 103) (.cells (iarr .i64 54 x) 48) (.cells (iarr .i64 54 zero) 48)
  generalize ((w.alloc (.cells #[.int .u8 d, .int .i64 i, .int .i64 j, .int .i64 n] 103)).alloc (.cells (iarr .i64 54 x) 48)).alloc (.cells (iarr .i64 54 zero) 48) = W at *
  obtain ⟨hst, hx, hz, hs, hB⟩ := ha
  have c0 : W.cell? ⟨w.heap.size, 0, none⟩ = some (.int .u8 d) := by rw [cell_of_row _ _ _ _ _ _ hst]; rfl
  have c1 : W.cell? ⟨w.heap.size, 1, none⟩ = some (.int .i64 i) := by rw [cell_of_row _ _ _ _ _ _ hst]; rfl
  have c2 : W.cell? ⟨w.heap.size, 2, none⟩ = some (.int .i64 j) := by rw [cell_of_row _ _ _ _ _ _ hst]; rfl
  have c3 : W.cell? ⟨w.heap.size, 3, none⟩ = some (.int .i64 n) := by rw [cell_of_row _ _ _ _ _ _ hst]; rfl
  have Hx : Hid (W.heap[w.heap.size + 1]? = some (.cells (iarr .i64 54 x) 48 (0, 0))) := hx
  have Hz : Hid (W.heap[w.heap.size + 1 + 1]? = some (.cells (iarr .i64 54 zero) 48 (0, 0))) := hz
  clear hst hx hz hs
  go_wp2_with (refine wpList_load_row (o := ⟨some 21, _, _, _, _, _⟩) (by rfl) 48 (.tmp 3) (by rfl) (w.heap.size + 1) (by rfl) 48 (iarr .i64 54 x) (0, 0) _ Hx.out Try.underlying48 (by rfl) (by rw [iarr_size]; exact infoR) ?_)
  refine (HC.out _).mono ?_
  rintro e w2 ⟨rfl, hb⟩
  have Hz2 : Hid (w2.heap[w.heap.size + 1 + 1]? = some (.cells (iarr .i64 54 zero) 48 (0, 0))) := row_kept Hz.out hb
  have hB2 : Below w.heap.size w w2 := bch hB hb
  clear hb hB Hz Hx c0 c1 c2 c3
  go_wp2_with (refine wpList_store_row (o := ⟨none, .store 48 (.tmp 4) (.tmp 27), _, _, _, _⟩) (by rfl) 48 (.tmp 4) (.tmp 27) (by rfl) (w.heap.size + 1 + 1) (iarr .i64 54 r.1) (by rfl) (by rfl) 48 (iarr .i64 54 zero) Hz2.out (by rw [iarr_size]; exact infoR) (by rw [iarr_size, iarr_size]) (iarr_one _ _ _) ?_)
  have hend := turned_end hB2 (by omega) Hz2.out r.1
  exact results_fin (p := 4) (q := 5) rfl rfl rfl rfl hend.1 hend.2
set_option maxRecDepth 100000 in
set_option maxHeartbeats 2000000 in
theorem does_free (x : Nat → Int) (d i j n : Int) (w : World) (hd : 0 ≤ d ∧ d ≤ 255) (hi : -9223372036854775808 ≤ i ∧ i ≤ 9223372036854775807) (hj : -9223372036854775808 ≤ j ∧ j ≤ 9223372036854775807) (hc : d % 4 = 2) :
    Calls Try.prog 49 #[.agg #[.int .u8 d, .int .i64 i, .int .i64 j, .int .i64 n], .agg (iarr .i64 54 x)] w (rpost (freeM x i n) w) := by
  have ht : d.tmod 4 = 2 := by rw [Int.tmod_eq_emod_of_nonneg hd.1]; exact hc
  have HC : Hid (∀ w', Calls Try.prog 45 #[.agg (iarr .i64 54 x), .int .i64 i, .int .i64 n] w' (rpost (freeM x i n) w')) := fun w' => free_any x i n w' hi
  generalize freeM x i n = r at *
  clear hc
  go_enter Try.func49, Try.ntmps49
  go_upto_region 1 with (fail)
  rw [← zeros54]
  have ha := alloc3 w (.cells #[.int .u8 d, .int .i64 i, .int .i64 j, .int .i64 n] 103) (.cells (iarr .i64 54 x) 48) (.cells (iarr .i64 54 zero) 48)
  generalize ((w.alloc (.cells #[.int .u8 d, .int .i64 i, .int .i64 j, .int .i64 n] 103)).alloc (.cells (iarr .i64 54 x) 48)).alloc (.cells (iarr .i64 54 zero) 48) = W at *
  obtain ⟨hst, hx, hz, hs, hB⟩ := ha
  have c0 : W.cell? ⟨w.heap.size, 0, none⟩ = some (.int .u8 d) := by rw [cell_of_row _ _ _ _ _ _ hst]; rfl
  have c1 : W.cell? ⟨w.heap.size, 1, none⟩ = some (.int .i64 i) := by rw [cell_of_row _ _ _ _ _ _ hst]; rfl
  have c2 : W.cell? ⟨w.heap.size, 2, none⟩ = some (.int .i64 j) := by rw [cell_of_row _ _ _ _ _ _ hst]; rfl
  have c3 : W.cell? ⟨w.heap.size, 3, none⟩ = some (.int .i64 n) := by rw [cell_of_row _ _ _ _ _ _ hst]; rfl
  have Hx : Hid (W.heap[w.heap.size + 1]? = some (.cells (iarr .i64 54 x) 48 (0, 0))) := hx
  have Hz : Hid (W.heap[w.heap.size + 1 + 1]? = some (.cells (iarr .i64 54 zero) 48 (0, 0))) := hz
  clear hst hx hz hs
  go_wp2_with (refine wpList_load_row (o := ⟨some 31, _, _, _, _, _⟩) (by rfl) 48 (.tmp 3) (by rfl) (w.heap.size + 1) (by rfl) 48 (iarr .i64 54 x) (0, 0) _ Hx.out Try.underlying48 (by rfl) (by rw [iarr_size]; exact infoR) ?_)
  refine (HC.out _).mono ?_
  rintro e w2 ⟨rfl, hb⟩
  have Hz2 : Hid (w2.heap[w.heap.size + 1 + 1]? = some (.cells (iarr .i64 54 zero) 48 (0, 0))) := row_kept Hz.out hb
  have hB2 : Below w.heap.size w w2 := bch hB hb
  clear hb hB Hz Hx c0 c1 c2 c3
  go_wp2_with (refine wpList_store_row (o := ⟨none, .store 48 (.tmp 4) (.tmp 37), _, _, _, _⟩) (by rfl) 48 (.tmp 4) (.tmp 37) (by rfl) (w.heap.size + 1 + 1) (iarr .i64 54 r.1) (by rfl) (by rfl) 48 (iarr .i64 54 zero) Hz2.out (by rw [iarr_size]; exact infoR) (by rw [iarr_size, iarr_size]) (iarr_one _ _ _) ?_)
  have hend := turned_end hB2 (by omega) Hz2.out r.1
  exact results_fin (p := 4) (q := 5) rfl rfl rfl rfl hend.1 hend.2
set_option maxRecDepth 100000 in
set_option maxHeartbeats 2000000 in
theorem does_move (x : Nat → Int) (d i j n : Int) (w : World) (hd : 0 ≤ d ∧ d ≤ 255) (hi : -9223372036854775808 ≤ i ∧ i ≤ 9223372036854775807) (hj : -9223372036854775808 ≤ j ∧ j ≤ 9223372036854775807) (hc : d % 4 = 3) :
    Calls Try.prog 49 #[.agg #[.int .u8 d, .int .i64 i, .int .i64 j, .int .i64 n], .agg (iarr .i64 54 x)] w (rpost (moveM x i j n) w) := by
  have ht : d.tmod 4 = 3 := by rw [Int.tmod_eq_emod_of_nonneg hd.1]; exact hc
  have HC : Hid (∀ w', Calls Try.prog 42 #[.agg (iarr .i64 54 x), .int .i64 i, .int .i64 j, .int .i64 n] w' (rpost (moveM x i j n) w')) := fun w' => move_any x i j n w' hi hj
  generalize moveM x i j n = r at *
  clear hc
  go_enter Try.func49, Try.ntmps49
  go_upto_region 1 with (fail)
  rw [← zeros54]
  have ha := alloc3 w (.cells #[.int .u8 d, .int .i64 i, .int .i64 j, .int .i64 n] 103) (.cells (iarr .i64 54 x) 48) (.cells (iarr .i64 54 zero) 48)
  generalize ((w.alloc (.cells #[.int .u8 d, .int .i64 i, .int .i64 j, .int .i64 n] 103)).alloc (.cells (iarr .i64 54 x) 48)).alloc (.cells (iarr .i64 54 zero) 48) = W at *
  obtain ⟨hst, hx, hz, hs, hB⟩ := ha
  have c0 : W.cell? ⟨w.heap.size, 0, none⟩ = some (.int .u8 d) := by rw [cell_of_row _ _ _ _ _ _ hst]; rfl
  have c1 : W.cell? ⟨w.heap.size, 1, none⟩ = some (.int .i64 i) := by rw [cell_of_row _ _ _ _ _ _ hst]; rfl
  have c2 : W.cell? ⟨w.heap.size, 2, none⟩ = some (.int .i64 j) := by rw [cell_of_row _ _ _ _ _ _ hst]; rfl
  have c3 : W.cell? ⟨w.heap.size, 3, none⟩ = some (.int .i64 n) := by rw [cell_of_row _ _ _ _ _ _ hst]; rfl
  have Hx : Hid (W.heap[w.heap.size + 1]? = some (.cells (iarr .i64 54 x) 48 (0, 0))) := hx
  have Hz : Hid (W.heap[w.heap.size + 1 + 1]? = some (.cells (iarr .i64 54 zero) 48 (0, 0))) := hz
  clear hst hx hz hs
  go_wp2_with (refine wpList_load_row (o := ⟨some 39, _, _, _, _, _⟩) (by rfl) 48 (.tmp 3) (by rfl) (w.heap.size + 1) (by rfl) 48 (iarr .i64 54 x) (0, 0) _ Hx.out Try.underlying48 (by rfl) (by rw [iarr_size]; exact infoR) ?_)
  refine (HC.out _).mono ?_
  rintro e w2 ⟨rfl, hb⟩
  have Hz2 : Hid (w2.heap[w.heap.size + 1 + 1]? = some (.cells (iarr .i64 54 zero) 48 (0, 0))) := row_kept Hz.out hb
  have hB2 : Below w.heap.size w w2 := bch hB hb
  clear hb hB Hz Hx c0 c1 c2 c3
  go_wp2_with (refine wpList_store_row (o := ⟨none, .store 48 (.tmp 4) (.tmp 47), _, _, _, _⟩) (by rfl) 48 (.tmp 4) (.tmp 47) (by rfl) (w.heap.size + 1 + 1) (iarr .i64 54 r.1) (by rfl) (by rfl) 48 (iarr .i64 54 zero) Hz2.out (by rw [iarr_size]; exact infoR) (by rw [iarr_size, iarr_size]) (iarr_one _ _ _) ?_)
  have hend := turned_end hB2 (by omega) Hz2.out r.1
  exact results_fin (p := 4) (q := 5) rfl rfl rfl rfl hend.1 hend.2
theorem does_any (x : Nat → Int) (d i j n : Int) (w : World) (hd : 0 ≤ d ∧ d ≤ 255) (hi : -9223372036854775808 ≤ i ∧ i ≤ 9223372036854775807) (hj : -9223372036854775808 ≤ j ∧ j ≤ 9223372036854775807) :
    Calls Try.prog 49 #[.agg #[.int .u8 d, .int .i64 i, .int .i64 j, .int .i64 n], .agg (iarr .i64 54 x)] w (rpost (doesM x d i j n) w) := by
  unfold doesM
  by_cases h0 : d % 4 = 0
  · rw [if_pos h0]; exact does_give x d i j n w hd hi hj h0
  · rw [if_neg h0]
    by_cases h1 : d % 4 = 1
    · rw [if_pos h1]; exact does_take x d i j n w hd hi hj h1
    · rw [if_neg h1]
      by_cases h2 : d % 4 = 2
      · rw [if_pos h2]; exact does_free x d i j n w hd hi hj h2
      · rw [if_neg h2]; exact does_move x d i j n w hd hi hj (by omega)
end Go.Proofs.Ytolmkjepieoloaa
