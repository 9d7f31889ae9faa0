/-
  The walk of rights.turned: what it is handed are closures, known by what they answer.
-/
import Derived.Test.YtolmkjepieoloaaRSums
namespace Go.Proofs.Ytolmkjepieoloaa
open Go.RowKit Rt
namespace Rt
def zero : Nat → Int := fun _ => 0
def turnedM (x : Nat → Int) (n : Int) (is : Bool) (em : Int) (off : Nat) : (Nat → Int) × Int :=
  if may x && decide (1 ≤ n) && decide (n ≤ 1125899906842624) then
    if is then
      if em = 0 then
        if x off + n ≤ 1125899906842624 then (upd x off (x off + n), 0) else (zero, 6)
      else (zero, em)
    else (zero, 10)
  else (zero, 1)
end Rt
theorem zeros54 (T : TypeId) (fz : Nat × Nat) : Obj.cells (iarr .i64 54 zero) T fz = .cells #[.int .i64 0, .int .i64 0, .int .i64 0, .int .i64 0, .int .i64 0, .int .i64 0, .int .i64 0, .int .i64 0, .int .i64 0, .int .i64 0, .int .i64 0, .int .i64 0, .int .i64 0, .int .i64 0, .int .i64 0, .int .i64 0, .int .i64 0, .int .i64 0, .int .i64 0, .int .i64 0, .int .i64 0, .int .i64 0, .int .i64 0, .int .i64 0, .int .i64 0, .int .i64 0, .int .i64 0, .int .i64 0, .int .i64 0, .int .i64 0, .int .i64 0, .int .i64 0, .int .i64 0, .int .i64 0, .int .i64 0, .int .i64 0, .int .i64 0, .int .i64 0, .int .i64 0, .int .i64 0, .int .i64 0, .int .i64 0, .int .i64 0, .int .i64 0, .int .i64 0, .int .i64 0, .int .i64 0, .int .i64 0, .int .i64 0, .int .i64 0, .int .i64 0, .int .i64 0, .int .i64 0, .int .i64 0] T fz := by rfl
theorem results_cell_tmp {P : Program} {fn : Func} {p q : Tmp} {ty : TypeId} (h : fn.results = #[.cell p ty, .tmp q]) (tmps : Array Value) (w : World) (g : Nat) (t : TypeId) (cs : Array Value) (fr : Nat × Nat) (d : TypeDesc)
    (hp : tmps.getD p undef = .pointer (some ⟨g, 0, none⟩)) (hg : w.heap[g]? = some (.cells cs t fr))
    (hu : P.underlying ty = some d) (hd : (match d with | .struct _ | .array _ _ => true | _ => false) = true) (hi : (P.info? ty).map (·.size) = some cs.size) :
    (results fn tmps).run P w = .ok (.tuple #[.agg cs, tmps.getD q undef]) w := by
  have hp' : tmps[p]?.getD undef = .pointer (some ⟨g, 0, none⟩) := by simpa using hp
  simp [results, h, hp', asAddr, run_loadVar_row w g t ty cs fr d hg hu hd hi]
def turnedPost (x : Nat → Int) (n : Int) (is : Bool) (em : Int) (off : Nat) (w : World) (e : Ending) (w' : World) : Prop :=
  e = .returned (.tuple #[.agg (iarr .i64 54 (turnedM x n is em off).1), .int .i64 (turnedM x n is em off).2]) ∧ Below w.heap.size w w'
/-- the start of turned: the two new blocks, the world behind a name -/
theorem turned_end {w w1 : World} {B g : Nat} {old : Array Value} (hb : Below B w w1) (hB : B ≤ g) (hz : w1.heap[g]? = some (.cells old 48 (0, 0))) (y : Nat → Int) :
    (w1.setRow g (iarr .i64 54 y)).heap[g]? = some (.cells (iarr .i64 54 y) 48 (0, 0)) ∧ Below B w (w1.setRow g (iarr .i64 54 y)) :=
  ⟨setRow_heap _ _ _ _ _ _ hz, brow hb hB⟩
theorem turned_ret {x : Nat → Int} {n : Int} {is : Bool} {em : Int} {off : Nat} {w w1 : World} {a : Act} {g : Nat} {y : Nat → Int} {k : Int} (hT : turnedM x n is em off = (y, k)) (hd : a.defers = [])
    (hp : a.tmps.getD 10 undef = .pointer (some ⟨g, 0, none⟩)) (hq : a.tmps.getD 11 undef = .int .i64 k) (hg : w1.heap[g]? = some (.cells (iarr .i64 54 y) 48 (0, 0))) (hb : Below w.heap.size w w1) :
    bodyPost Try.prog Try.f81 (turnedPost x n is em off w) .ret a w1 := by
  refine bodyPost_ret (v := .tuple #[.agg (iarr .i64 54 y), .int .i64 k]) ?_ hd ⟨?_, hb⟩
  · rw [results_cell_tmp rfl a.tmps w1 g 48 _ (0, 0) _ hp hg Try.underlying48 rfl (by rw [iarr_size]; exact infoR), hq]
  · rw [hT]
set_option maxRecDepth 100000 in
set_option maxHeartbeats 2000000 in
theorem turned_no1 (x : Nat → Int) (n : Int) (is : Bool) (fm fn : FuncId) (cm cn : Array Value) (em : Int) (off : Nat) (w : World) (h : may x = false) :
    Calls Try.prog 81 #[.agg (iarr .i64 54 x), .int .i64 n, .bool is, .func (.func fm) #[] cm, .func (.func fn) #[] cn] w (turnedPost x n is em off w) := by
  have hT : Hid (turnedM x n is em off = (zero, 1)) := by unfold Hid turnedM; rw [h]; rfl
  have hmay : Hid (∀ w', Calls Try.prog 39 #[.agg (iarr .i64 54 x)] w' fun e w'' => e = .returned (.bool (may x)) ∧ Below w'.heap.size w' w'') := fun w' => may_any x w'
  go_enter Try.func81, Try.ntmps81
  go_upto_region 1 with (fail)
  rw [← zeros54]
  have hx0 : Hid (((w.alloc (.cells (iarr .i64 54 x) 48)).alloc (.cells (iarr .i64 54 zero) 48)).heap[w.heap.size]? = some (.cells (iarr .i64 54 x) 48 (0, 0))) := heap_alloc2_old w _ _
  have hz0 : Hid (((w.alloc (.cells (iarr .i64 54 x) 48)).alloc (.cells (iarr .i64 54 zero) 48)).heap[w.heap.size + 1]? = some (.cells (iarr .i64 54 zero) 48 (0, 0))) := heap_alloc2_new w _ _
  have hb0 : Below w.heap.size w ((w.alloc (.cells (iarr .i64 54 x) 48)).alloc (.cells (iarr .i64 54 zero) 48)) := ((Below.refl _ _).alloc (Nat.le_refl _) _).alloc (by simp) _
  have hs0 : w.heap.size + 1 < ((w.alloc (.cells (iarr .i64 54 x) 48)).alloc (.cells (iarr .i64 54 zero) 48)).heap.size := by simp
  generalize (w.alloc (.cells (iarr .i64 54 x) 48)).alloc (.cells (iarr .i64 54 zero) 48) = W at *
  rw [h] at hmay
  go_wp2_with (first
    | (refine wpList_load_row (o := ⟨some 15, _, _, _, _, _⟩) (by rfl) 48 (.tmp 5) (by rfl) w.heap.size (by rfl) 48 (iarr .i64 54 x) (0, 0) _ hx0.out Try.underlying48 (by rfl) (by rw [iarr_size]; exact infoR) ?_)
    | (go_at_call 39; refine (hmay.out _).mono ?_; rintro e w1 ⟨rfl, hb1⟩; have hz1 : Hid _ := (hb1.block (w.heap.size + 1) hs0).trans hz0.out; have hx1 : Hid _ := (hb1.block w.heap.size (by omega)).trans hx0.out; have hB1 := hb0.trans (hb1.mono hb0.size); have hs1 := Nat.lt_of_lt_of_le hs0 hb1.size)
    | (refine wpList_store_row (o := ⟨none, .store 48 (.tmp 10) (.tmp 22), _, _, _, _⟩) (by rfl) 48 (.tmp 10) (.tmp 22) (by rfl) (w.heap.size + 1) (iarr .i64 54 zero) (by rfl) (by rfl) 48 (iarr .i64 54 zero) hz1.out (by rw [iarr_size]; exact infoR) (by rw [iarr_size]) (iarr_one _ _ _) ?_))
  have hend := turned_end hB1 (by omega) hz1.out zero
  exact turned_ret hT.out rfl rfl rfl hend.1 hend.2
set_option maxRecDepth 100000 in
set_option maxHeartbeats 2000000 in
theorem turned_no2 (x : Nat → Int) (n : Int) (is : Bool) (fm fn : FuncId) (cm cn : Array Value) (em : Int) (off : Nat) (w : World) (h : may x = true) (hn1 : n < 1) :
    Calls Try.prog 81 #[.agg (iarr .i64 54 x), .int .i64 n, .bool is, .func (.func fm) #[] cm, .func (.func fn) #[] cn] w (turnedPost x n is em off w) := by
  have hT : Hid (turnedM x n is em off = (zero, 1)) := by unfold Hid turnedM; rw [h, decide_eq_false (show ¬ 1 ≤ n by omega)]; rfl
  have hmay : Hid (∀ w', Calls Try.prog 39 #[.agg (iarr .i64 54 x)] w' fun e w'' => e = .returned (.bool (may x)) ∧ Below w'.heap.size w' w'') := fun w' => may_any x w'
  go_enter Try.func81, Try.ntmps81
  go_upto_region 1 with (fail)
  rw [← zeros54]
  have hx0 : Hid (((w.alloc (.cells (iarr .i64 54 x) 48)).alloc (.cells (iarr .i64 54 zero) 48)).heap[w.heap.size]? = some (.cells (iarr .i64 54 x) 48 (0, 0))) := heap_alloc2_old w _ _
  have hz0 : Hid (((w.alloc (.cells (iarr .i64 54 x) 48)).alloc (.cells (iarr .i64 54 zero) 48)).heap[w.heap.size + 1]? = some (.cells (iarr .i64 54 zero) 48 (0, 0))) := heap_alloc2_new w _ _
  have hb0 : Below w.heap.size w ((w.alloc (.cells (iarr .i64 54 x) 48)).alloc (.cells (iarr .i64 54 zero) 48)) := ((Below.refl _ _).alloc (Nat.le_refl _) _).alloc (by simp) _
  have hs0 : w.heap.size + 1 < ((w.alloc (.cells (iarr .i64 54 x) 48)).alloc (.cells (iarr .i64 54 zero) 48)).heap.size := by simp
  generalize (w.alloc (.cells (iarr .i64 54 x) 48)).alloc (.cells (iarr .i64 54 zero) 48) = W at *
  rw [h] at hmay
  go_wp2_with (first
    | (refine wpList_load_row (o := ⟨some 15, _, _, _, _, _⟩) (by rfl) 48 (.tmp 5) (by rfl) w.heap.size (by rfl) 48 (iarr .i64 54 x) (0, 0) _ hx0.out Try.underlying48 (by rfl) (by rw [iarr_size]; exact infoR) ?_)
    | (go_at_call 39; refine (hmay.out _).mono ?_; rintro e w1 ⟨rfl, hb1⟩; have hz1 : Hid _ := (hb1.block (w.heap.size + 1) hs0).trans hz0.out; have hx1 : Hid _ := (hb1.block w.heap.size (by omega)).trans hx0.out; have hB1 := hb0.trans (hb1.mono hb0.size); have hs1 := Nat.lt_of_lt_of_le hs0 hb1.size)
    | (refine wpList_store_row (o := ⟨none, .store 48 (.tmp 10) (.tmp 22), _, _, _, _⟩) (by rfl) 48 (.tmp 10) (.tmp 22) (by rfl) (w.heap.size + 1) (iarr .i64 54 zero) (by rfl) (by rfl) 48 (iarr .i64 54 zero) hz1.out (by rw [iarr_size]; exact infoR) (by rw [iarr_size]) (iarr_one _ _ _) ?_))
  have hend := turned_end hB1 (by omega) hz1.out zero
  exact turned_ret hT.out rfl rfl rfl hend.1 hend.2
set_option maxRecDepth 100000 in
set_option maxHeartbeats 2000000 in
theorem turned_no3 (x : Nat → Int) (n : Int) (is : Bool) (fm fn : FuncId) (cm cn : Array Value) (em : Int) (off : Nat) (w : World) (h : may x = true) (hn1 : 1125899906842624 < n) :
    Calls Try.prog 81 #[.agg (iarr .i64 54 x), .int .i64 n, .bool is, .func (.func fm) #[] cm, .func (.func fn) #[] cn] w (turnedPost x n is em off w) := by
  have hT : Hid (turnedM x n is em off = (zero, 1)) := by unfold Hid turnedM; rw [decide_eq_false (show ¬ n ≤ 1125899906842624 by omega), Bool.and_false]; rfl
  have hmay : Hid (∀ w', Calls Try.prog 39 #[.agg (iarr .i64 54 x)] w' fun e w'' => e = .returned (.bool (may x)) ∧ Below w'.heap.size w' w'') := fun w' => may_any x w'
  go_enter Try.func81, Try.ntmps81
  go_upto_region 1 with (fail)
  rw [← zeros54]
  have hx0 : Hid (((w.alloc (.cells (iarr .i64 54 x) 48)).alloc (.cells (iarr .i64 54 zero) 48)).heap[w.heap.size]? = some (.cells (iarr .i64 54 x) 48 (0, 0))) := heap_alloc2_old w _ _
  have hz0 : Hid (((w.alloc (.cells (iarr .i64 54 x) 48)).alloc (.cells (iarr .i64 54 zero) 48)).heap[w.heap.size + 1]? = some (.cells (iarr .i64 54 zero) 48 (0, 0))) := heap_alloc2_new w _ _
  have hb0 : Below w.heap.size w ((w.alloc (.cells (iarr .i64 54 x) 48)).alloc (.cells (iarr .i64 54 zero) 48)) := ((Below.refl _ _).alloc (Nat.le_refl _) _).alloc (by simp) _
  have hs0 : w.heap.size + 1 < ((w.alloc (.cells (iarr .i64 54 x) 48)).alloc (.cells (iarr .i64 54 zero) 48)).heap.size := by simp
  generalize (w.alloc (.cells (iarr .i64 54 x) 48)).alloc (.cells (iarr .i64 54 zero) 48) = W at *
  rw [h] at hmay
  go_wp2_with (first
    | (refine wpList_load_row (o := ⟨some 15, _, _, _, _, _⟩) (by rfl) 48 (.tmp 5) (by rfl) w.heap.size (by rfl) 48 (iarr .i64 54 x) (0, 0) _ hx0.out Try.underlying48 (by rfl) (by rw [iarr_size]; exact infoR) ?_)
    | (go_at_call 39; refine (hmay.out _).mono ?_; rintro e w1 ⟨rfl, hb1⟩; have hz1 : Hid _ := (hb1.block (w.heap.size + 1) hs0).trans hz0.out; have hx1 : Hid _ := (hb1.block w.heap.size (by omega)).trans hx0.out; have hB1 := hb0.trans (hb1.mono hb0.size); have hs1 := Nat.lt_of_lt_of_le hs0 hb1.size)
    | (refine wpList_store_row (o := ⟨none, .store 48 (.tmp 10) (.tmp 22), _, _, _, _⟩) (by rfl) 48 (.tmp 10) (.tmp 22) (by rfl) (w.heap.size + 1) (iarr .i64 54 zero) (by rfl) (by rfl) 48 (iarr .i64 54 zero) hz1.out (by rw [iarr_size]; exact infoR) (by rw [iarr_size]) (iarr_one _ _ _) ?_))
  have hend := turned_end hB1 (by omega) hz1.out zero
  exact turned_ret hT.out rfl rfl rfl hend.1 hend.2
set_option maxRecDepth 100000 in
set_option maxHeartbeats 2000000 in
theorem turned_no4 (x : Nat → Int) (n : Int) (fm fn : FuncId) (cm cn : Array Value) (em : Int) (off : Nat) (w : World) (h : may x = true) (hn1 : 1 ≤ n) (hn2 : n ≤ 1125899906842624) :
    Calls Try.prog 81 #[.agg (iarr .i64 54 x), .int .i64 n, .bool false, .func (.func fm) #[] cm, .func (.func fn) #[] cn] w (turnedPost x n false em off w) := by
  have hT : Hid (turnedM x n false em off = (zero, 10)) := by unfold Hid turnedM; rw [h, decide_eq_true hn1, decide_eq_true hn2]; simp only [Bool.and_self, if_true]; rfl
  have hmay : Hid (∀ w', Calls Try.prog 39 #[.agg (iarr .i64 54 x)] w' fun e w'' => e = .returned (.bool (may x)) ∧ Below w'.heap.size w' w'') := fun w' => may_any x w'
  go_enter Try.func81, Try.ntmps81
  go_upto_region 1 with (fail)
  rw [← zeros54]
  have hx0 : Hid (((w.alloc (.cells (iarr .i64 54 x) 48)).alloc (.cells (iarr .i64 54 zero) 48)).heap[w.heap.size]? = some (.cells (iarr .i64 54 x) 48 (0, 0))) := heap_alloc2_old w _ _
  have hz0 : Hid (((w.alloc (.cells (iarr .i64 54 x) 48)).alloc (.cells (iarr .i64 54 zero) 48)).heap[w.heap.size + 1]? = some (.cells (iarr .i64 54 zero) 48 (0, 0))) := heap_alloc2_new w _ _
  have hb0 : Below w.heap.size w ((w.alloc (.cells (iarr .i64 54 x) 48)).alloc (.cells (iarr .i64 54 zero) 48)) := ((Below.refl _ _).alloc (Nat.le_refl _) _).alloc (by simp) _
  have hs0 : w.heap.size + 1 < ((w.alloc (.cells (iarr .i64 54 x) 48)).alloc (.cells (iarr .i64 54 zero) 48)).heap.size := by simp
  generalize (w.alloc (.cells (iarr .i64 54 x) 48)).alloc (.cells (iarr .i64 54 zero) 48) = W at *
  rw [h] at hmay
  go_wp2_with (first
    | (refine wpList_load_row (o := ⟨some 15, _, _, _, _, _⟩) (by rfl) 48 (.tmp 5) (by rfl) w.heap.size (by rfl) 48 (iarr .i64 54 x) (0, 0) _ hx0.out Try.underlying48 (by rfl) (by rw [iarr_size]; exact infoR) ?_)
    | (go_at_call 39; refine (hmay.out _).mono ?_; rintro e w1 ⟨rfl, hb1⟩; have hz1 : Hid _ := (hb1.block (w.heap.size + 1) hs0).trans hz0.out; have hx1 : Hid _ := (hb1.block w.heap.size (by omega)).trans hx0.out; have hB1 := hb0.trans (hb1.mono hb0.size); have hs1 := Nat.lt_of_lt_of_le hs0 hb1.size)
    | (refine wpList_store_row (o := ⟨none, .store 48 (.tmp 10) (.tmp 26), _, _, _, _⟩) (by rfl) 48 (.tmp 10) (.tmp 26) (by rfl) (w.heap.size + 1) (iarr .i64 54 zero) (by rfl) (by rfl) 48 (iarr .i64 54 zero) hz1.out (by rw [iarr_size]; exact infoR) (by rw [iarr_size]) (iarr_one _ _ _) ?_))
  have hend := turned_end hB1 (by omega) hz1.out zero
  exact turned_ret hT.out rfl rfl rfl hend.1 hend.2
set_option maxRecDepth 100000 in
set_option maxHeartbeats 2000000 in
theorem turned_no5 (x : Nat → Int) (n : Int) (fm fn : FuncId) (cm cn : Array Value) (em : Int) (off : Nat) (w : World) (h : may x = true) (hn1 : 1 ≤ n) (hn2 : n ≤ 1125899906842624) (hem : em ≠ 0) (hcm : ∀ (args : Array Value) (w : World), (callFunc fm args).run Try.prog w = .ok (.enter fm args) w) (hm : Hid (∀ w', Below w.heap.size w w' → Calls Try.prog fm cm w' fun e w'' => e = .returned (.int .i64 em) ∧ Below w'.heap.size w' w'')) :
    Calls Try.prog 81 #[.agg (iarr .i64 54 x), .int .i64 n, .bool true, .func (.func fm) #[] cm, .func (.func fn) #[] cn] w (turnedPost x n true em off w) := by
  have hT : Hid (turnedM x n true em off = (zero, em)) := by unfold Hid turnedM; rw [h, decide_eq_true hn1, decide_eq_true hn2]; simp only [Bool.and_self, if_true]; rw [if_neg hem]
  have hem' : (em != 0) = true := by simpa using hem
  have hmay : Hid (∀ w', Calls Try.prog 39 #[.agg (iarr .i64 54 x)] w' fun e w'' => e = .returned (.bool (may x)) ∧ Below w'.heap.size w' w'') := fun w' => may_any x w'
  go_enter Try.func81, Try.ntmps81
  go_upto_region 1 with (fail)
  rw [← zeros54]
  have hx0 : Hid (((w.alloc (.cells (iarr .i64 54 x) 48)).alloc (.cells (iarr .i64 54 zero) 48)).heap[w.heap.size]? = some (.cells (iarr .i64 54 x) 48 (0, 0))) := heap_alloc2_old w _ _
  have hz0 : Hid (((w.alloc (.cells (iarr .i64 54 x) 48)).alloc (.cells (iarr .i64 54 zero) 48)).heap[w.heap.size + 1]? = some (.cells (iarr .i64 54 zero) 48 (0, 0))) := heap_alloc2_new w _ _
  have hb0 : Below w.heap.size w ((w.alloc (.cells (iarr .i64 54 x) 48)).alloc (.cells (iarr .i64 54 zero) 48)) := ((Below.refl _ _).alloc (Nat.le_refl _) _).alloc (by simp) _
  have hs0 : w.heap.size + 1 < ((w.alloc (.cells (iarr .i64 54 x) 48)).alloc (.cells (iarr .i64 54 zero) 48)).heap.size := by simp
  generalize (w.alloc (.cells (iarr .i64 54 x) 48)).alloc (.cells (iarr .i64 54 zero) 48) = W at *
  rw [h] at hmay
  go_wp2_with (first
    | (refine wpList_load_row (o := ⟨some 15, _, _, _, _, _⟩) (by rfl) 48 (.tmp 5) (by rfl) w.heap.size (by rfl) 48 (iarr .i64 54 x) (0, 0) _ hx0.out Try.underlying48 (by rfl) (by rw [iarr_size]; exact infoR) ?_)
    | (go_at_call 39; refine (hmay.out _).mono ?_; rintro e w1 ⟨rfl, hb1⟩; have hz1 : Hid _ := (hb1.block (w.heap.size + 1) hs0).trans hz0.out; have hx1 : Hid _ := (hb1.block w.heap.size (by omega)).trans hx0.out; have hB1 := hb0.trans (hb1.mono hb0.size); have hs1 := Nat.lt_of_lt_of_le hs0 hb1.size)
    | (refine (hm.out _ hB1).mono ?_; rintro e w2 ⟨rfl, hb2⟩; have hz2 : Hid _ := (hb2.block (w.heap.size + 1) hs1).trans hz1.out; have hx2 : Hid _ := (hb2.block w.heap.size (by omega)).trans hx1.out; have hB2 := hB1.trans (hb2.mono hB1.size); have hs2 := Nat.lt_of_lt_of_le hs1 hb2.size)
    | (refine wpList_store_row (o := ⟨none, .store 48 (.tmp 10) (.tmp 31), _, _, _, _⟩) (by rfl) 48 (.tmp 10) (.tmp 31) (by rfl) (w.heap.size + 1) (iarr .i64 54 zero) (by rfl) (by rfl) 48 (iarr .i64 54 zero) hz2.out (by rw [iarr_size]; exact infoR) (by rw [iarr_size]) (iarr_one _ _ _) ?_))
  have hend := turned_end hB2 (by omega) hz2.out zero
  exact turned_ret hT.out rfl rfl rfl hend.1 hend.2
set_option maxRecDepth 100000 in
set_option maxHeartbeats 2000000 in
theorem turned_no6 (x : Nat → Int) (n : Int) (fm fn : FuncId) (cm cn : Array Value) (em : Int) (off : Nat) (w : World) (h : may x = true) (hn1 : 1 ≤ n) (hn2 : n ≤ 1125899906842624) (em0 : em = 0) (hoff : off < 54) (v : Int) (hv : x off = v) (hv2 : 0 ≤ v ∧ v ≤ 1125899906842624) (hs : 1125899906842624 < v + n) (hcm : ∀ (args : Array Value) (w : World), (callFunc fm args).run Try.prog w = .ok (.enter fm args) w) (hm : Hid (∀ w', Below w.heap.size w w' → Calls Try.prog fm cm w' fun e w'' => e = .returned (.int .i64 em) ∧ Below w'.heap.size w' w'')) (hcn : ∀ (args : Array Value) (w : World), (callFunc fn args).run Try.prog w = .ok (.enter fn args) w) (hn : Hid (∀ w' g, Below w.heap.size w w' → Calls Try.prog fn (#[.pointer (some ⟨g, 0, none⟩)] ++ cn) w' fun e w'' => e = .returned (.pointer (some ⟨g, off, none⟩)) ∧ Below w'.heap.size w' w'')) :
    Calls Try.prog 81 #[.agg (iarr .i64 54 x), .int .i64 n, .bool true, .func (.func fm) #[] cm, .func (.func fn) #[] cn] w (turnedPost x n true em off w) := by
  have hT : Hid (turnedM x n true em off = (zero, 6)) := by unfold Hid turnedM; rw [h, decide_eq_true hn1, decide_eq_true hn2]; simp only [Bool.and_self, if_true]; rw [if_pos em0, hv, if_neg (by omega)]
  subst em0
  have hmay : Hid (∀ w', Calls Try.prog 39 #[.agg (iarr .i64 54 x)] w' fun e w'' => e = .returned (.bool (may x)) ∧ Below w'.heap.size w' w'') := fun w' => may_any x w'
  go_enter Try.func81, Try.ntmps81
  go_upto_region 1 with (fail)
  rw [← zeros54]
  have hx0 : Hid (((w.alloc (.cells (iarr .i64 54 x) 48)).alloc (.cells (iarr .i64 54 zero) 48)).heap[w.heap.size]? = some (.cells (iarr .i64 54 x) 48 (0, 0))) := heap_alloc2_old w _ _
  have hz0 : Hid (((w.alloc (.cells (iarr .i64 54 x) 48)).alloc (.cells (iarr .i64 54 zero) 48)).heap[w.heap.size + 1]? = some (.cells (iarr .i64 54 zero) 48 (0, 0))) := heap_alloc2_new w _ _
  have hb0 : Below w.heap.size w ((w.alloc (.cells (iarr .i64 54 x) 48)).alloc (.cells (iarr .i64 54 zero) 48)) := ((Below.refl _ _).alloc (Nat.le_refl _) _).alloc (by simp) _
  have hs0 : w.heap.size + 1 < ((w.alloc (.cells (iarr .i64 54 x) 48)).alloc (.cells (iarr .i64 54 zero) 48)).heap.size := by simp
  generalize (w.alloc (.cells (iarr .i64 54 x) 48)).alloc (.cells (iarr .i64 54 zero) 48) = W at *
  rw [h] at hmay
  go_wp2_with (first
    | (refine wpList_load_row (o := ⟨some 15, _, _, _, _, _⟩) (by rfl) 48 (.tmp 5) (by rfl) w.heap.size (by rfl) 48 (iarr .i64 54 x) (0, 0) _ hx0.out Try.underlying48 (by rfl) (by rw [iarr_size]; exact infoR) ?_)
    | (go_at_call 39; refine (hmay.out _).mono ?_; rintro e w1 ⟨rfl, hb1⟩; have hz1 : Hid _ := (hb1.block (w.heap.size + 1) hs0).trans hz0.out; have hx1 : Hid _ := (hb1.block w.heap.size (by omega)).trans hx0.out; have hB1 := hb0.trans (hb1.mono hb0.size); have hs1 := Nat.lt_of_lt_of_le hs0 hb1.size)
    | (refine (hm.out _ hB1).mono ?_; rintro e w2 ⟨rfl, hb2⟩; have hz2 : Hid _ := (hb2.block (w.heap.size + 1) hs1).trans hz1.out; have hx2 : Hid _ := (hb2.block w.heap.size (by omega)).trans hx1.out; have hB2 := hB1.trans (hb2.mono hB1.size); have hs2 := Nat.lt_of_lt_of_le hs1 hb2.size)
    | (refine (hn.out _ _ hB2).mono ?_; rintro e w3 ⟨rfl, hb3⟩; have hz3 : Hid _ := (hb3.block (w.heap.size + 1) hs2).trans hz2.out; have hx3 := (hb3.block w.heap.size (by omega)).trans hx2.out; have hB3 := hB2.trans (hb3.mono hB2.size); have hs3 := Nat.lt_of_lt_of_le hs2 hb3.size; have hc3 := iarr_cell hx3 off hoff; have hf3 := frozen_of_row w3 w.heap.size off _ _ hx3; have hz4 : Hid ((w3.setCell ⟨w.heap.size, off, none⟩ (.int .i64 (v + n))).heap[w.heap.size + 1]? = some (.cells (iarr .i64 54 zero) 48 (0, 0))) := (heap_setCell_other _ _ _ _ (by simp)).trans hz3.out; have hx4 : Hid ((w3.setCell ⟨w.heap.size, off, none⟩ (.int .i64 (v + n))).heap[w.heap.size]? = some (.cells (iarr .i64 54 (upd x off (v + n))) 48 (0, 0))) := by { unfold Hid; rw [heap_setCell_same _ _ _ _ _ _ hx3, iarr_set] }; have hB4 : Below w.heap.size w (w3.setCell ⟨w.heap.size, off, none⟩ (.int .i64 (v + n))) := hB3.setCell (Nat.le_refl _) _; clear hx3; rw [hv] at hc3)
    | (refine wpList_store_row (o := ⟨none, .store 48 (.tmp 10) (.tmp 45), _, _, _, _⟩) (by rfl) 48 (.tmp 10) (.tmp 45) (by rfl) (w.heap.size + 1) (iarr .i64 54 zero) (by rfl) (by rfl) 48 (iarr .i64 54 zero) hz4.out (by rw [iarr_size]; exact infoR) (by rw [iarr_size]) (iarr_one _ _ _) ?_))
  have hend := turned_end hB4 (by omega) hz4.out zero
  exact turned_ret hT.out rfl rfl rfl hend.1 hend.2
set_option maxRecDepth 100000 in
set_option maxHeartbeats 2000000 in
theorem turned_yes (x : Nat → Int) (n : Int) (fm fn : FuncId) (cm cn : Array Value) (em : Int) (off : Nat) (w : World) (h : may x = true) (hn1 : 1 ≤ n) (hn2 : n ≤ 1125899906842624) (em0 : em = 0) (hoff : off < 54) (v : Int) (hv : x off = v) (hv2 : 0 ≤ v ∧ v ≤ 1125899906842624) (hs : v + n ≤ 1125899906842624) (hcm : ∀ (args : Array Value) (w : World), (callFunc fm args).run Try.prog w = .ok (.enter fm args) w) (hm : Hid (∀ w', Below w.heap.size w w' → Calls Try.prog fm cm w' fun e w'' => e = .returned (.int .i64 em) ∧ Below w'.heap.size w' w'')) (hcn : ∀ (args : Array Value) (w : World), (callFunc fn args).run Try.prog w = .ok (.enter fn args) w) (hn : Hid (∀ w' g, Below w.heap.size w w' → Calls Try.prog fn (#[.pointer (some ⟨g, 0, none⟩)] ++ cn) w' fun e w'' => e = .returned (.pointer (some ⟨g, off, none⟩)) ∧ Below w'.heap.size w' w'')) :
    Calls Try.prog 81 #[.agg (iarr .i64 54 x), .int .i64 n, .bool true, .func (.func fm) #[] cm, .func (.func fn) #[] cn] w (turnedPost x n true em off w) := by
  have hT : Hid (turnedM x n true em off = (upd x off (v + n), 0)) := by unfold Hid turnedM; rw [h, decide_eq_true hn1, decide_eq_true hn2]; simp only [Bool.and_self, if_true]; rw [if_pos em0, hv, if_pos (by omega)]
  subst em0
  have hmay : Hid (∀ w', Calls Try.prog 39 #[.agg (iarr .i64 54 x)] w' fun e w'' => e = .returned (.bool (may x)) ∧ Below w'.heap.size w' w'') := fun w' => may_any x w'
  go_enter Try.func81, Try.ntmps81
  go_upto_region 1 with (fail)
  rw [← zeros54]
  have hx0 : Hid (((w.alloc (.cells (iarr .i64 54 x) 48)).alloc (.cells (iarr .i64 54 zero) 48)).heap[w.heap.size]? = some (.cells (iarr .i64 54 x) 48 (0, 0))) := heap_alloc2_old w _ _
  have hz0 : Hid (((w.alloc (.cells (iarr .i64 54 x) 48)).alloc (.cells (iarr .i64 54 zero) 48)).heap[w.heap.size + 1]? = some (.cells (iarr .i64 54 zero) 48 (0, 0))) := heap_alloc2_new w _ _
  have hb0 : Below w.heap.size w ((w.alloc (.cells (iarr .i64 54 x) 48)).alloc (.cells (iarr .i64 54 zero) 48)) := ((Below.refl _ _).alloc (Nat.le_refl _) _).alloc (by simp) _
  have hs0 : w.heap.size + 1 < ((w.alloc (.cells (iarr .i64 54 x) 48)).alloc (.cells (iarr .i64 54 zero) 48)).heap.size := by simp
  generalize (w.alloc (.cells (iarr .i64 54 x) 48)).alloc (.cells (iarr .i64 54 zero) 48) = W at *
  rw [h] at hmay
  go_wp2_with (first
    | (refine wpList_load_row (o := ⟨some 15, _, _, _, _, _⟩) (by rfl) 48 (.tmp 5) (by rfl) w.heap.size (by rfl) 48 (iarr .i64 54 x) (0, 0) _ hx0.out Try.underlying48 (by rfl) (by rw [iarr_size]; exact infoR) ?_)
    | (go_at_call 39; refine (hmay.out _).mono ?_; rintro e w1 ⟨rfl, hb1⟩; have hz1 : Hid _ := (hb1.block (w.heap.size + 1) hs0).trans hz0.out; have hx1 : Hid _ := (hb1.block w.heap.size (by omega)).trans hx0.out; have hB1 := hb0.trans (hb1.mono hb0.size); have hs1 := Nat.lt_of_lt_of_le hs0 hb1.size)
    | (refine (hm.out _ hB1).mono ?_; rintro e w2 ⟨rfl, hb2⟩; have hz2 : Hid _ := (hb2.block (w.heap.size + 1) hs1).trans hz1.out; have hx2 : Hid _ := (hb2.block w.heap.size (by omega)).trans hx1.out; have hB2 := hB1.trans (hb2.mono hB1.size); have hs2 := Nat.lt_of_lt_of_le hs1 hb2.size)
    | (refine (hn.out _ _ hB2).mono ?_; rintro e w3 ⟨rfl, hb3⟩; have hz3 : Hid _ := (hb3.block (w.heap.size + 1) hs2).trans hz2.out; have hx3 := (hb3.block w.heap.size (by omega)).trans hx2.out; have hB3 := hB2.trans (hb3.mono hB2.size); have hs3 := Nat.lt_of_lt_of_le hs2 hb3.size; have hc3 := iarr_cell hx3 off hoff; have hf3 := frozen_of_row w3 w.heap.size off _ _ hx3; have hz4 : Hid ((w3.setCell ⟨w.heap.size, off, none⟩ (.int .i64 (v + n))).heap[w.heap.size + 1]? = some (.cells (iarr .i64 54 zero) 48 (0, 0))) := (heap_setCell_other _ _ _ _ (by simp)).trans hz3.out; have hx4 : Hid ((w3.setCell ⟨w.heap.size, off, none⟩ (.int .i64 (v + n))).heap[w.heap.size]? = some (.cells (iarr .i64 54 (upd x off (v + n))) 48 (0, 0))) := by { unfold Hid; rw [heap_setCell_same _ _ _ _ _ _ hx3, iarr_set] }; have hB4 : Below w.heap.size w (w3.setCell ⟨w.heap.size, off, none⟩ (.int .i64 (v + n))) := hB3.setCell (Nat.le_refl _) _; clear hx3; rw [hv] at hc3)
    | (refine wpList_load_row (o := ⟨some 46, _, _, _, _, _⟩) (by rfl) 48 (.tmp 5) (by rfl) w.heap.size (by rfl) 48 (iarr .i64 54 (upd x off (v + n))) (0, 0) _ hx4.out Try.underlying48 (by rfl) (by rw [iarr_size]; exact infoR) ?_)
    | (refine wpList_store_row (o := ⟨none, .store 48 (.tmp 10) (.tmp 46), _, _, _, _⟩) (by rfl) 48 (.tmp 10) (.tmp 46) (by rfl) (w.heap.size + 1) (iarr .i64 54 (upd x off (v + n))) (by rfl) (by rfl) 48 (iarr .i64 54 zero) hz4.out (by rw [iarr_size]; exact infoR) (by rw [iarr_size, iarr_size]) (iarr_one _ _ _) ?_))
  have hend := turned_end hB4 (by omega) hz4.out (upd x off (v + n))
  exact turned_ret hT.out rfl rfl rfl hend.1 hend.2
theorem turned_any (x : Nat → Int) (n : Int) (is : Bool) (fm fn : FuncId) (cm cn : Array Value) (em : Int) (off : Nat) (w : World) (hoff : is = true → off < 54) (hx : is = true → may x = true → 0 ≤ x off ∧ x off ≤ 1125899906842624)
    (hcm : ∀ (args : Array Value) (w : World), (callFunc fm args).run Try.prog w = .ok (.enter fm args) w)
    (hcn : ∀ (args : Array Value) (w : World), (callFunc fn args).run Try.prog w = .ok (.enter fn args) w)
    (hm : may x = true → 1 ≤ n → n ≤ 1125899906842624 → is = true → ∀ w', Below w.heap.size w w' → Calls Try.prog fm cm w' fun e w'' => e = .returned (.int .i64 em) ∧ Below w'.heap.size w' w'')
    (hn : is = true → ∀ w' g, Below w.heap.size w w' → Calls Try.prog fn (#[.pointer (some ⟨g, 0, none⟩)] ++ cn) w' fun e w'' => e = .returned (.pointer (some ⟨g, off, none⟩)) ∧ Below w'.heap.size w' w'') :
    Calls Try.prog 81 #[.agg (iarr .i64 54 x), .int .i64 n, .bool is, .func (.func fm) #[] cm, .func (.func fn) #[] cn] w (turnedPost x n is em off w) := by
  by_cases h : may x = true
  · by_cases h1 : n < 1
    · exact turned_no2 x n is fm fn cm cn em off w h h1
    · by_cases h2 : 1125899906842624 < n
      · exact turned_no3 x n is fm fn cm cn em off w h h2
      · cases is
        · exact turned_no4 x n fm fn cm cn em off w h (by omega) (by omega)
        · by_cases h3 : em = 0
          · by_cases h4 : 1125899906842624 < x off + n
            · exact turned_no6 x n fm fn cm cn em off w h (by omega) (by omega) h3 (hoff rfl) _ rfl (hx rfl h) h4 hcm (hm h (by omega) (by omega) rfl) hcn (hn rfl)
            · exact turned_yes x n fm fn cm cn em off w h (by omega) (by omega) h3 (hoff rfl) _ rfl (hx rfl h) (by omega) hcm (hm h (by omega) (by omega) rfl) hcn (hn rfl)
          · exact turned_no5 x n fm fn cm cn em off w h (by omega) (by omega) h3 hcm (hm h (by omega) (by omega) rfl)
  · exact turned_no1 x n is fm fn cm cn em off w (by simpa using h)
end Go.Proofs.Ytolmkjepieoloaa
