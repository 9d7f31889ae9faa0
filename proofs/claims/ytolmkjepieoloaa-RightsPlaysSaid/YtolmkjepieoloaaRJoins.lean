/-
  The walk of leatlaw07.RightsJoins.
-/
import Derived.Test.YtolmkjepieoloaaRWorks
import Derived.Test.YtolmkjepieoloaaRMathB
import Derived.Test.YtolmkjepieoloaaREq
import Derived.Test.YtolmkjepieoloaaRDoes
import Derived.Test.YtolmkjepieoloaaOpen4
namespace Go.Proofs.Ytolmkjepieoloaa
open Go.RowKit Rt
theorem exec_binOp_run {P : Program} {ev : Operand → Value} {o : Oper} {w : World} {op : BinOp} {t t' : TypeId} {x y : Operand} {vx vy v : Value} (ho : o.op = .binOp op t x y t') (hx : ev x = vx) (hy : ev y = vy)
    (hrun : (binOp op t vx vy).run P w = .ok v w) (hg : (eqGuard op t x y vx vy).run P w = .ok () w) : (execOp ev o).run P w = .ok (.value v) w := by
  unfold execOp
  simp only [ho, hx, hy, Sem.run_bind, Sem.run_pure, Result.andThen_ok, hrun, hg]
namespace Rt
theorem mxI_comm (a b : Int) : mxI a b = mxI b a := by unfold mxI; split <;> split <;> omega
theorem mxI_assoc (a b c : Int) : mxI (mxI a b) c = mxI a (mxI b c) := by unfold mxI; repeat' split <;> try omega
theorem mxI_same (a : Int) : mxI a a = a := by unfold mxI; split <;> rfl
theorem mxI_le {a b : Int} (h : b ≤ a) : mxI a b = a := by unfold mxI; split <;> omega
theorem join_in {a b : Nat → Int} (ha : In64 a) (hb : In64 b) : In64 (joinM a b) := fun p hp => by
  have := ha p hp; have := hb p hp; unfold joinM mxI; split <;> omega
theorem upd_le (x : Nat → Int) (o : Nat) (n : Int) (hn : 1 ≤ n) (p : Nat) : x p ≤ upd x o (x o + n) p := by
  unfold upd; split
  · rename_i h; subst h; omega
  · omega
theorem does_ok {x : Nat → Int} {d i j n : Int} (h : (doesM x d i j n).2 = 0) : Ent (doesM x d i j n).1 ∧ ∀ p, x p ≤ (doesM x d i j n).1 p := by
  unfold doesM at *
  split at h
  · rename_i hd; rw [if_pos hd]
    obtain ⟨a, _, _, h1, _, _, my, _, _, _, he⟩ := give_ok h
    exact ⟨may_ent my, by rw [he]; exact upd_le x _ n h1⟩
  · rename_i hd; rw [if_neg hd]
    split at h
    · rename_i hd; rw [if_pos hd]
      obtain ⟨a, _, _, h1, _, _, _, my, _, _, _, he⟩ := take_ok h
      exact ⟨may_ent my, by rw [he]; exact upd_le x _ n h1⟩
    · rename_i hd; rw [if_neg hd]
      split at h
      · rename_i hd; rw [if_pos hd]
        obtain ⟨a, _, _, h1, _, _, my, _, _, _, he⟩ := free_ok h
        exact ⟨may_ent my, by rw [he]; exact upd_le x _ n h1⟩
      · rename_i hd; rw [if_neg hd]
        obtain ⟨a, b, _, _, _, _, _, h1, _, _, hM, he⟩ := move_ok h
        exact ⟨may_ent hM.may, by rw [he]; exact upd_le x _ n h1⟩
end Rt
abbrev Steps (w : World) (a : Option Addr) (len : Nat) (D I J N : Nat → Int) : Prop := Sl4 .u8 .i64 .i64 .i64 w a len D I J N
theorem wf_u8 {n : Int} (h : (Lit.int .u8 n).wf = true) : 0 ≤ n ∧ n ≤ 255 := by
  simpa [Lit.wf, IntKind.min, IntKind.max, IntKind.bits, IntKind.signed] using h
theorem Rws.set {w0 w : World} {l : List (Nat × (Nat → Int))} {g : Nat} {x : Nat → Int} (h : Rws w0 ((g, x) :: l) w) (hg : w0.heap.size ≤ g) (hl : ∀ p ∈ l, p.1 ≠ g) (y : Nat → Int) : Rws w0 ((g, y) :: l) (w.setRow g (iarr .i64 54 y)) := by
  refine ⟨fun p hp => ?_, brow h.2 hg⟩
  rcases List.mem_cons.1 hp with rfl | hp
  · exact setRow_heap _ _ _ _ _ _ (h.1 (g, x) (by simp))
  · rw [setRow_other _ _ _ _ (hl p hp)]; exact h.1 p (by simp [hp])
theorem wpOp_wanted {P : Program} {ops : Array Oper} {Q : Exit → Act → World → Prop} {i : Nat} {o : Oper} {K : Act → World → Prop} {a : Act} {w : World} (ho : ops[i]? = some o) (hg : Region.wanted o (yielded ops a.tmps) = true)
    (h : ∀ K' : Act → World → Prop, (∀ a w, K a w → K' a w) → o.wp P a w K' Q) : wpOp P ops Q i K a w :=
  wpOp_step ho fun K' hK => by rw [if_pos hg]; exact h K' hK
theorem int_zero3 (f : Int) : f = 0 ∨ (f == 0) = false := by
  by_cases h : f = 0
  · exact .inl h
  · exact .inr (by simpa using h)
theorem Rws.start3 (w : World) (x y z : Nat → Int) : Rws w [(w.heap.size, x), (w.heap.size + 1, y), (w.heap.size + 1 + 1, z)] (((w.alloc (.cells (iarr .i64 54 x) 48)).alloc (.cells (iarr .i64 54 y) 48)).alloc (.cells (iarr .i64 54 z) 48)) := by
  have hA := alloc3 w (.cells (iarr .i64 54 x) 48) (.cells (iarr .i64 54 y) 48) (.cells (iarr .i64 54 z) 48)
  refine ⟨fun p hp => ?_, hA.2.2.2.2⟩
  rcases List.mem_cons.1 hp with rfl | hp
  · exact hA.1
  · rcases List.mem_cons.1 hp with rfl | hp
    · exact hA.2.1
    · obtain rfl : p = (w.heap.size + 1 + 1, z) := by simpa using hp
      exact hA.2.2.1
attribute [local irreducible] Oper.wp Code.wp wpList wpOp Region.wanted yielded
set_option maxRecDepth 100000 in
set_option maxHeartbeats 8000000 in
theorem joins7_walk (x y z : Nat → Int) (a : Option Addr) (len cap : Nat) (D I J N : Nat → Int) (w : World) (bx : In64 x) (bY : In64 y) (bz : In64 z) (hlen : len ≤ 50) (hst : Hid (Steps w a len D I J N)) :
    Calls Try.prog 12 #[.agg (iarr .i64 54 x), .agg (iarr .i64 54 y), .agg (iarr .i64 54 z), .slice a len cap] w fun e w' => e = .returned (.bool true) ∧ Below w.heap.size w w' := by
  have hA := alloc3 w (.cells (iarr .i64 54 x) 48) (.cells (iarr .i64 54 y) 48) (.cells (iarr .i64 54 z) 48)
  have hS0 : Rws w [(w.heap.size, x), (w.heap.size + 1, y), (w.heap.size + 1 + 1, z)] (((w.alloc (.cells (iarr .i64 54 x) 48)).alloc (.cells (iarr .i64 54 y) 48)).alloc (.cells (iarr .i64 54 z) 48)) :=
    Rws.start3 w x y z
  clear hA
  have HS0 : Hid _ := hS0.drew
  clear hS0
  have e1 : eqR (joinM x y) (joinM y x) = true := eqR_of fun p _ => mxI_comm _ _
  have e2 : eqR (joinM (joinM x y) z) (joinM x (joinM y z)) = true := eqR_of fun p _ => mxI_assoc _ _ _
  have e3 : eqR (joinM x x) x = true := eqR_of fun p _ => mxI_same _
  have E1 : Hid ((!eqR (joinM x y) (joinM y x)) = false) := by unfold Hid; rw [e1]; rfl
  have E2 : Hid ((!eqR (joinM (joinM x y) z) (joinM x (joinM y z))) = false) := by unfold Hid; rw [e2]; rfl
  have E3 : Hid ((!eqR (joinM x x) x) = false) := by unfold Hid; rw [e3]; rfl
  clear e1 e2 e3
  have hd : decide ((50 : Int) < (len : Int)) = false := by simp; omega
  go_enter Try.func12, Try.ntmps12
  go_upto_region 3 with (fail)
  rename_i K0 hK0
  generalize ((w.alloc (.cells (iarr .i64 54 x) 48)).alloc (.cells (iarr .i64 54 y) 48)).alloc (.cells (iarr .i64 54 z) 48) = W at *
  refine wp_region_noPanic (wp_region_held_drew (S := Rws w [(w.heap.size, x), (w.heap.size + 1, y), (w.heap.size + 1 + 1, z)]) (by kernel_rfl) HS0.out fun hS => ?_)
  clear HS0
  refine wpAnyH_at (i := 0) (d := (some 17)) (v := .agg (iarr .i64 54 x)) rfl (by rfl) (by kernel_rfl) (by kernel_rfl) (by kernel_rfl) (fun _ _ _ h => h) (.inl ⟨by kernel_rfl, fun w' hw => ?_⟩) hS ?_
  · exact exec_load_row 48 (.tmp 4) (by rfl) (w.heap.size) (by kernel_rfl) 48 (iarr .i64 54 x) (0, 0) _ (hw.row (w.heap.size) x (by simp)) Try.underlying48 (by rfl) (by rw [iarr_size]; exact infoR)
  refine wpAnyH_at (i := 1) (d := (some 18)) (v := .agg (iarr .i64 54 y)) rfl (by rfl) (by kernel_rfl) (by kernel_rfl) (by kernel_rfl) (fun _ _ _ h => h) (.inl ⟨by kernel_rfl, fun w' hw => ?_⟩) hS ?_
  · exact exec_load_row 48 (.tmp 5) (by rfl) (w.heap.size + 1) (by kernel_rfl) 48 (iarr .i64 54 y) (0, 0) _ (hw.row (w.heap.size + 1) y (by simp)) Try.underlying48 (by rfl) (by rw [iarr_size]; exact infoR)
  refine wpAnyH_at (i := 3) (d := (some 20)) (v := .agg (iarr .i64 54 y)) rfl (by rfl) (by kernel_rfl) (by kernel_rfl) (by kernel_rfl) (fun _ _ _ h => h) (.inl ⟨by kernel_rfl, fun w' hw => ?_⟩) hS ?_
  · exact exec_load_row 48 (.tmp 5) (by rfl) (w.heap.size + 1) (by kernel_rfl) 48 (iarr .i64 54 y) (0, 0) _ (hw.row (w.heap.size + 1) y (by simp)) Try.underlying48 (by rfl) (by rw [iarr_size]; exact infoR)
  refine wpAnyH_at (i := 4) (d := (some 21)) (v := .agg (iarr .i64 54 x)) rfl (by rfl) (by kernel_rfl) (by kernel_rfl) (by kernel_rfl) (fun _ _ _ h => h) (.inl ⟨by kernel_rfl, fun w' hw => ?_⟩) hS ?_
  · exact exec_load_row 48 (.tmp 4) (by rfl) (w.heap.size) (by kernel_rfl) 48 (iarr .i64 54 x) (0, 0) _ (hw.row (w.heap.size) x (by simp)) Try.underlying48 (by rfl) (by rw [iarr_size]; exact infoR)
  refine wpAnyH_all (rs := [2]) (by kernel_rfl) (by decide) ?_
  intro j hj
  obtain rfl : j = 2 := by simpa using hj
  refine wpOp_wanted rfl (by kernel_rfl) (fun K hK => ?_)
  clear hj
  go_simp
  refine (join_any x y _).mono ?_
  rintro e u2 ⟨rfl, hb⟩
  replace hS := hS.up hb
  clear hb
  refine hK _ _ ⟨hS, ?_⟩
  clear hK K
  refine wpAnyH_all (rs := [5]) (by kernel_rfl) (by decide) ?_
  intro j hj
  obtain rfl : j = 5 := by simpa using hj
  refine wpOp_wanted rfl (by kernel_rfl) (fun K hK => ?_)
  clear hj
  go_simp
  refine (join_any y x _).mono ?_
  rintro e u5 ⟨rfl, hb⟩
  replace hS := hS.up hb
  clear hb
  refine hK _ _ ⟨hS, ?_⟩
  clear hK K
  refine wpAnyH_at (i := 6) (d := (some 23)) (v := .bool false) rfl (by rfl) (by kernel_rfl) (by kernel_rfl) (by kernel_rfl) (fun _ _ _ h => h) (.inl ⟨by kernel_rfl, fun w' hw => ?_⟩) hS ?_
  · have hrn := run_neR w' (x := joinM x y) (y := joinM y x) (join_in bx bY) (join_in bY bx)
    rw [E1.out] at hrn
    exact exec_binOp_run (op := .neq) (t' := 48) (x := .tmp 19) (y := .tmp 22) (by kernel_rfl) (by kernel_rfl) (by kernel_rfl) hrn (guardR .neq (.tmp 19) (.tmp 22) _ _ _)
  refine wpAnyH_at (i := 7) (d := (some 24)) (v := .bool false) rfl (by rfl) (by kernel_rfl) (by kernel_rfl) (by kernel_rfl) (fun _ _ _ h => h) (.inl ⟨by kernel_rfl, fun w' hw => ?_⟩) hS ?_
  · clear hw
    go_simp
  refine wpAnyH_at (i := 8) (d := (some 25)) (v := .agg (iarr .i64 54 x)) rfl (by rfl) (by kernel_rfl) (by kernel_rfl) (by kernel_rfl) (fun _ _ _ h => h) (.inl ⟨by kernel_rfl, fun w' hw => ?_⟩) hS ?_
  · exact exec_load_row 48 (.tmp 4) (by rfl) (w.heap.size) (by kernel_rfl) 48 (iarr .i64 54 x) (0, 0) _ (hw.row (w.heap.size) x (by simp)) Try.underlying48 (by rfl) (by rw [iarr_size]; exact infoR)
  refine wpAnyH_at (i := 9) (d := (some 26)) (v := .agg (iarr .i64 54 y)) rfl (by rfl) (by kernel_rfl) (by kernel_rfl) (by kernel_rfl) (fun _ _ _ h => h) (.inl ⟨by kernel_rfl, fun w' hw => ?_⟩) hS ?_
  · exact exec_load_row 48 (.tmp 5) (by rfl) (w.heap.size + 1) (by kernel_rfl) 48 (iarr .i64 54 y) (0, 0) _ (hw.row (w.heap.size + 1) y (by simp)) Try.underlying48 (by rfl) (by rw [iarr_size]; exact infoR)
  refine wpAnyH_at (i := 11) (d := (some 28)) (v := .agg (iarr .i64 54 z)) rfl (by rfl) (by kernel_rfl) (by kernel_rfl) (by kernel_rfl) (fun _ _ _ h => h) (.inl ⟨by kernel_rfl, fun w' hw => ?_⟩) hS ?_
  · exact exec_load_row 48 (.tmp 6) (by rfl) (w.heap.size + 1 + 1) (by kernel_rfl) 48 (iarr .i64 54 z) (0, 0) _ (hw.row (w.heap.size + 1 + 1) z (by simp)) Try.underlying48 (by rfl) (by rw [iarr_size]; exact infoR)
  refine wpAnyH_at (i := 13) (d := (some 30)) (v := .agg (iarr .i64 54 x)) rfl (by rfl) (by kernel_rfl) (by kernel_rfl) (by kernel_rfl) (fun _ _ _ h => h) (.inl ⟨by kernel_rfl, fun w' hw => ?_⟩) hS ?_
  · exact exec_load_row 48 (.tmp 4) (by rfl) (w.heap.size) (by kernel_rfl) 48 (iarr .i64 54 x) (0, 0) _ (hw.row (w.heap.size) x (by simp)) Try.underlying48 (by rfl) (by rw [iarr_size]; exact infoR)
  refine wpAnyH_at (i := 14) (d := (some 31)) (v := .agg (iarr .i64 54 y)) rfl (by rfl) (by kernel_rfl) (by kernel_rfl) (by kernel_rfl) (fun _ _ _ h => h) (.inl ⟨by kernel_rfl, fun w' hw => ?_⟩) hS ?_
  · exact exec_load_row 48 (.tmp 5) (by rfl) (w.heap.size + 1) (by kernel_rfl) 48 (iarr .i64 54 y) (0, 0) _ (hw.row (w.heap.size + 1) y (by simp)) Try.underlying48 (by rfl) (by rw [iarr_size]; exact infoR)
  refine wpAnyH_at (i := 15) (d := (some 32)) (v := .agg (iarr .i64 54 z)) rfl (by rfl) (by kernel_rfl) (by kernel_rfl) (by kernel_rfl) (fun _ _ _ h => h) (.inl ⟨by kernel_rfl, fun w' hw => ?_⟩) hS ?_
  · exact exec_load_row 48 (.tmp 6) (by rfl) (w.heap.size + 1 + 1) (by kernel_rfl) 48 (iarr .i64 54 z) (0, 0) _ (hw.row (w.heap.size + 1 + 1) z (by simp)) Try.underlying48 (by rfl) (by rw [iarr_size]; exact infoR)
  refine wpAnyH_all (rs := [10]) (by kernel_rfl) (by decide) ?_
  intro j hj
  obtain rfl : j = 10 := by simpa using hj
  refine wpOp_wanted rfl (by kernel_rfl) (fun K hK => ?_)
  clear hj
  go_simp
  refine (join_any x y _).mono ?_
  rintro e u10 ⟨rfl, hb⟩
  replace hS := hS.up hb
  clear hb
  refine hK _ _ ⟨hS, ?_⟩
  clear hK K
  refine wpAnyH_all (rs := [12]) (by kernel_rfl) (by decide) ?_
  intro j hj
  obtain rfl : j = 12 := by simpa using hj
  refine wpOp_wanted rfl (by kernel_rfl) (fun K hK => ?_)
  clear hj
  go_simp
  refine (join_any (joinM x y) z _).mono ?_
  rintro e u12 ⟨rfl, hb⟩
  replace hS := hS.up hb
  clear hb
  refine hK _ _ ⟨hS, ?_⟩
  clear hK K
  refine wpAnyH_all (rs := [16]) (by kernel_rfl) (by decide) ?_
  intro j hj
  obtain rfl : j = 16 := by simpa using hj
  refine wpOp_wanted rfl (by kernel_rfl) (fun K hK => ?_)
  clear hj
  go_simp
  refine (join_any y z _).mono ?_
  rintro e u16 ⟨rfl, hb⟩
  replace hS := hS.up hb
  clear hb
  refine hK _ _ ⟨hS, ?_⟩
  clear hK K
  refine wpAnyH_all (rs := [17]) (by kernel_rfl) (by decide) ?_
  intro j hj
  obtain rfl : j = 17 := by simpa using hj
  refine wpOp_wanted rfl (by kernel_rfl) (fun K hK => ?_)
  clear hj
  go_simp
  refine (join_any x (joinM y z) _).mono ?_
  rintro e u17 ⟨rfl, hb⟩
  replace hS := hS.up hb
  clear hb
  refine hK _ _ ⟨hS, ?_⟩
  clear hK K
  refine wpAnyH_at (i := 18) (d := (some 35)) (v := .bool false) rfl (by rfl) (by kernel_rfl) (by kernel_rfl) (by kernel_rfl) (fun _ _ _ h => h) (.inl ⟨by kernel_rfl, fun w' hw => ?_⟩) hS ?_
  · have hrn := run_neR w' (x := joinM (joinM x y) z) (y := joinM x (joinM y z)) (join_in (join_in bx bY) bz) (join_in bx (join_in bY bz))
    rw [E2.out] at hrn
    exact exec_binOp_run (op := .neq) (t' := 48) (x := .tmp 29) (y := .tmp 34) (by kernel_rfl) (by kernel_rfl) (by kernel_rfl) hrn (guardR .neq (.tmp 29) (.tmp 34) _ _ _)
  refine wpAnyH_at (i := 19) (d := (some 36)) (v := .bool false) rfl (by rfl) (by kernel_rfl) (by kernel_rfl) (by kernel_rfl) (fun _ _ _ h => h) (.inl ⟨by kernel_rfl, fun w' hw => ?_⟩) hS ?_
  · clear hw
    go_simp
  refine wpAnyH_at (i := 20) (d := (some 37)) (v := .bool false) rfl (by rfl) (by kernel_rfl) (by kernel_rfl) (by kernel_rfl) (fun _ _ _ h => h) (.inl ⟨by kernel_rfl, fun w' hw => ?_⟩) hS ?_
  · clear hw
    go_simp
  refine wpAnyH_at (i := 21) (d := (some 38)) (v := .agg (iarr .i64 54 x)) rfl (by rfl) (by kernel_rfl) (by kernel_rfl) (by kernel_rfl) (fun _ _ _ h => h) (.inl ⟨by kernel_rfl, fun w' hw => ?_⟩) hS ?_
  · exact exec_load_row 48 (.tmp 4) (by rfl) (w.heap.size) (by kernel_rfl) 48 (iarr .i64 54 x) (0, 0) _ (hw.row (w.heap.size) x (by simp)) Try.underlying48 (by rfl) (by rw [iarr_size]; exact infoR)
  refine wpAnyH_at (i := 22) (d := (some 39)) (v := .agg (iarr .i64 54 x)) rfl (by rfl) (by kernel_rfl) (by kernel_rfl) (by kernel_rfl) (fun _ _ _ h => h) (.inl ⟨by kernel_rfl, fun w' hw => ?_⟩) hS ?_
  · exact exec_load_row 48 (.tmp 4) (by rfl) (w.heap.size) (by kernel_rfl) 48 (iarr .i64 54 x) (0, 0) _ (hw.row (w.heap.size) x (by simp)) Try.underlying48 (by rfl) (by rw [iarr_size]; exact infoR)
  refine wpAnyH_at (i := 24) (d := (some 41)) (v := .agg (iarr .i64 54 x)) rfl (by rfl) (by kernel_rfl) (by kernel_rfl) (by kernel_rfl) (fun _ _ _ h => h) (.inl ⟨by kernel_rfl, fun w' hw => ?_⟩) hS ?_
  · exact exec_load_row 48 (.tmp 4) (by rfl) (w.heap.size) (by kernel_rfl) 48 (iarr .i64 54 x) (0, 0) _ (hw.row (w.heap.size) x (by simp)) Try.underlying48 (by rfl) (by rw [iarr_size]; exact infoR)
  refine wpAnyH_all (rs := [23]) (by kernel_rfl) (by decide) ?_
  intro j hj
  obtain rfl : j = 23 := by simpa using hj
  refine wpOp_wanted rfl (by kernel_rfl) (fun K hK => ?_)
  clear hj
  go_simp
  refine (join_any x x _).mono ?_
  rintro e u23 ⟨rfl, hb⟩
  replace hS := hS.up hb
  clear hb
  refine hK _ _ ⟨hS, ?_⟩
  clear hK K
  refine wpAnyH_at (i := 25) (d := (some 42)) (v := .bool false) rfl (by rfl) (by kernel_rfl) (by kernel_rfl) (by kernel_rfl) (fun _ _ _ h => h) (.inl ⟨by kernel_rfl, fun w' hw => ?_⟩) hS ?_
  · have hrn := run_neR w' (x := joinM x x) (y := x) (join_in bx bx) bx
    rw [E3.out] at hrn
    exact exec_binOp_run (op := .neq) (t' := 48) (x := .tmp 40) (y := .tmp 41) (by kernel_rfl) (by kernel_rfl) (by kernel_rfl) hrn (guardR .neq (.tmp 40) (.tmp 41) _ _ _)
  refine wpAnyH_at (i := 26) (d := (some 43)) (v := .bool false) rfl (by rfl) (by kernel_rfl) (by kernel_rfl) (by kernel_rfl) (fun _ _ _ h => h) (.inl ⟨by kernel_rfl, fun w' hw => ?_⟩) hS ?_
  · clear hw
    go_simp
  refine wpAnyH_done (by kernel_rfl) ?_ _
  refine hK0 _ _ ?_
  have HR : Hid (Rws w [(w.heap.size, x), (w.heap.size + 1, y), (w.heap.size + 1 + 1, z)] u23) := hS
  clear hS hK0 K0 E1 E2 E3
  have hgr := (Array.getElem?_eq_some_iff.1 (HR.out.row w.heap.size x (by simp))).1
  go_wp2_with (first
    | (refine wpList_load_row (o := ⟨some 44, _, _, _, _, _⟩) (by rfl) 48 (.tmp 4) (by rfl) w.heap.size (by rfl) 48 (iarr .i64 54 x) (0, 0) _ (HR.out.row w.heap.size x (by simp)) Try.underlying48 (by rfl) (by rw [iarr_size]; exact infoR) ?_)
    | (refine wpList_store_new (o := ⟨none, .store 48 (.tmp 9) (.tmp 44), _, _, _, _⟩) (by rfl) 48 (.tmp 9) (.tmp 44) (by rfl) (iarr .i64 54 x) (by rfl) (by rfl) (by rw [iarr_size]; exact infoR) (by rw [iarr_size]; rfl) (iarr_one _ _ _) ?_; intro vgr cgr hvgr; replace HR : Hid (Rws w [(u23.heap.size, x), (w.heap.size, x), (w.heap.size + 1, y), (w.heap.size + 1 + 1, z)] vgr) := (HR.out.up hvgr).add cgr; clear cgr hvgr; generalize u23.heap.size = gr at *))
  have HR2 : Hid (Rws w [(gr, x), (w.heap.size, x)] vgr) := ⟨fun p hp => HR.out.1 p (by simp at hp ⊢; rcases hp with rfl | rfl <;> simp), HR.out.2⟩
  clear HR
  go_loopw [10, 11, 12] (fun i _ _ wq => ∃ (k : Nat) (r : Nat → Int), k ≤ len ∧ i = .int .i64 k ∧ In64 r ∧ (∀ p, x p ≤ r p) ∧ Rws w [(gr, r), (w.heap.size, x)] wq) (fun i _ _ _ => len - (intOf i).toNat)
  case atStart => exact ⟨0, x, by omega, rfl, bx, fun p => Int.le_refl _, HR2.out⟩
  case round =>
    clear HR2
    obtain ⟨k, r, hk, rfl, br, hle, hrw⟩ := hrel
    have HR : Hid (Rws w [(gr, r), (w.heap.size, x)] wr) := hrw
    have Hle : Hid (∀ p, x p ≤ r p) := hle
    clear hrw hle
    by_cases hk2 : k < len
    · obtain ⟨⟨b, off, rfl, q0, q1, q2, q3⟩, w0, w1, w2, w3⟩ := (hst.out.up HR.out.2) k hk2
      have hki : (k : Int) < (len : Int) := by omega
      have hbl := block_lt_of_cell q0
      dsimp only at hbl
      have HD : Hid (∀ w', Calls Try.prog 49 #[.agg #[.int .u8 (D k), .int .i64 (I k), .int .i64 (J k), .int .i64 (N k)], .agg (iarr .i64 54 r)] w' (rpost (doesM r (D k) (I k) (J k) (N k)) w')) := fun w' => does_any r _ _ _ _ w' (wf_u8 w0) (wf_i64 w1) (wf_i64 w2)
      have HO : Hid ((doesM r (D k) (I k) (J k) (N k)).2 = 0 → In64 (doesM r (D k) (I k) (J k) (N k)).1 ∧ ∀ p, x p ≤ (doesM r (D k) (I k) (J k) (N k)).1 p) := fun h => ⟨(does_ok h).1.in64, fun p => Int.le_trans (Hle.out p) ((does_ok h).2 p)⟩
      generalize doesM r (D k) (I k) (J k) (N k) = R at *
      obtain ⟨rr, re⟩ := R
      clear w0 w1 w2 w3
      have hrow := HR.out.row gr r (by simp)
      have Hrow : Hid (wr.heap[gr]? = some (.cells (iarr .i64 54 r) 48 (0, 0))) := hrow
      have hgl : gr < wr.heap.size := (Array.getElem?_eq_some_iff.1 hrow).1
      clear hrow
      go_upto_region 9 with (fail)
      rename_i K0 hK0
      refine wp_region_noPanic (wp_region_held_drew (S := Below wr.heap.size wr) (by kernel_rfl) (bdrN wr 1) fun hS => ?_)
      refine wpAnyH_at (i := 0) (d := (some 52)) (v := .slice (some ⟨b, off, none⟩) len cap) rfl (by rfl) (by kernel_rfl) (by kernel_rfl) (by kernel_rfl) (fun _ _ _ h => h) (.inl ⟨by kernel_rfl, fun w' hw => ?_⟩) hS ?_
      · clear hw
        go_simp
      refine wpAnyH_at (i := 1) (d := (some 53)) (v := .int .i64 (k : Int)) rfl (by rfl) (by kernel_rfl) (by kernel_rfl) (by kernel_rfl) (fun _ _ _ h => h) (.inl ⟨by kernel_rfl, fun w' hw => ?_⟩) hS ?_
      · clear hw
        go_simp
      refine wpAnyH_at (i := 2) (d := (some 54)) (v := .pointer (some ⟨b, off + k * 4, none⟩)) rfl (by rfl) (by kernel_rfl) (by kernel_rfl) (by kernel_rfl) (fun _ _ _ h => h) (.inl ⟨by kernel_rfl, fun w' hw => ?_⟩) hS ?_
      · clear hw
        go_simp
      refine wpAnyH_at (i := 3) (d := (some 55)) (v := .agg #[.int .u8 (D k), .int .i64 (I k), .int .i64 (J k), .int .i64 (N k)]) rfl (by rfl) (by kernel_rfl) (by kernel_rfl) (by kernel_rfl) (fun _ _ _ h => h) (.inl ⟨by kernel_rfl, fun w' hw => ?_⟩) hS ?_
      · have g0 := (hw.cell (p := ⟨b, off + k * 4, none⟩) hbl).trans q0
        have g1 := (hw.cell (p := ⟨b, off + k * 4 + 1, none⟩) hbl).trans q1
        have g2 := (hw.cell (p := ⟨b, off + k * 4 + 2, none⟩) hbl).trans q2
        have g3 := (hw.cell (p := ⟨b, off + k * 4 + 3, none⟩) hbl).trans q3
        clear hw q0 q1 q2 q3
        go_simp
      refine wpAnyH_at (i := 4) (d := (some 56)) (v := .agg (iarr .i64 54 r)) rfl (by rfl) (by kernel_rfl) (by kernel_rfl) (by kernel_rfl) (fun _ _ _ h => h) (.inl ⟨by kernel_rfl, fun w' hw => ?_⟩) hS ?_
      · exact exec_load_row 48 (.tmp 9) (by rfl) gr (by kernel_rfl) 48 (iarr .i64 54 r) (0, 0) _ ((hw.block gr hgl).trans Hrow.out) Try.underlying48 (by rfl) (by rw [iarr_size]; exact infoR)
      clear q0 q1 q2 q3
      refine wpAnyH_all (rs := [5, 9]) (by kernel_rfl) (by decide) ?_
      intro j hj
      rcases (show j = 5 ∨ j = 9 by simpa using hj) with rfl | rfl
      · clear hj
        refine wpOp_wanted rfl (by kernel_rfl) (fun K hK => ?_)
        go_simp
        refine (HD.out _).mono ?_
        rintro e v5 ⟨rfl, hb⟩
        have hS' := bch hS hb
        replace hS := hS'
        clear hS' hb
        refine hK _ _ ⟨hS, ?_⟩
        clear hK K
        refine wpAnyH_at (i := 6) (d := (some 51)) (v := .tuple #[.agg (iarr .i64 54 rr), .int .i64 re]) rfl (by rfl) (by kernel_rfl) (by kernel_rfl) (by kernel_rfl) (fun _ _ _ h => h) (.inl ⟨by kernel_rfl, fun w' hw => ?_⟩) hS ?_
        · clear hw
          go_simp
        refine wpAnyH_at (i := 7) (d := (some 58)) (v := .agg (iarr .i64 54 rr)) rfl (by rfl) (by kernel_rfl) (by kernel_rfl) (by kernel_rfl) (fun _ _ _ h => h) (.inl ⟨by kernel_rfl, fun w' hw => ?_⟩) hS ?_
        · clear hw
          go_simp
        refine wpAnyH_at (i := 8) (d := (some 59)) (v := .int .i64 re) rfl (by rfl) (by kernel_rfl) (by kernel_rfl) (by kernel_rfl) (fun _ _ _ h => h) (.inl ⟨by kernel_rfl, fun w' hw => ?_⟩) hS ?_
        · clear hw
          go_simp
        refine wpAnyH_all (rs := [9]) (by kernel_rfl) (by decide) ?_
        intro j hj
        obtain rfl : j = 9 := by simpa using hj
        clear hj
        refine wpOp_wanted rfl (by kernel_rfl) (fun K hK => ?_)
        go_simp
        rw [← zeros54]
        have hz := heap_alloc_new v5 (.cells (iarr .i64 54 zero) 48)
        have hS1 : Below wr.heap.size wr (v5.alloc (.cells (iarr .i64 54 zero) 48)) := hS.alloc hS.size _
        refine hK _ _ ⟨hS1, ?_⟩
        clear hK K
        generalize v5.alloc (.cells (iarr .i64 54 zero) 48) = v6 at *
        refine wpAnyH_all (rs := [10]) (by kernel_rfl) (by decide) ?_
        intro j hj
        obtain rfl : j = 10 := by simpa using hj
        clear hj
        refine wpOp_wanted rfl (by kernel_rfl) (fun K hK => ?_)
        refine wp_store_row 48 (.tmp 11) (.tmp 58) (by rfl) (v5.heap.size) (iarr .i64 54 rr) (by kernel_rfl) (by kernel_rfl) 48 (iarr .i64 54 zero) hz (by rw [iarr_size]; exact infoR) (by rw [iarr_size, iarr_size]) (iarr_one _ _ _) ?_
        have c11 := setRow_heap v6 v5.heap.size (iarr .i64 54 zero) (iarr .i64 54 rr) 48 (0, 0) hz
        have hS2 : Below wr.heap.size wr (v6.setRow v5.heap.size (iarr .i64 54 rr)) := brow hS1 hS.size
        refine hK _ _ ⟨hS2, ?_⟩
        clear hK K hz hS1 hS
        have hS := hS2
        generalize v6.setRow v5.heap.size (iarr .i64 54 rr) = v7 at *
        generalize v5.heap.size = g11 at *
        refine wpAnyH_at (i := 11) (d := (some 12)) (v := .int .i64 re) rfl (by rfl) (by kernel_rfl) (by kernel_rfl) (by kernel_rfl) (fun _ _ _ h => h) (.inl ⟨by kernel_rfl, fun w' hw => ?_⟩) hS ?_
        · clear hw
          go_simp
        replace HR : Hid (Rws w [(g11, rr), (gr, r), (w.heap.size, x)] v7) := (HR.out.up hS2).add c11
        clear hS2 c11
        refine wpAnyH_done (by kernel_rfl) ?_ _
        refine hK0 _ _ ?_
        clear hK0 K0 hS HD
        rcases int_zero3 re with h0 | h0
        · subst h0
          have hob := HO.out rfl
          have Hob1 : Hid (In64 rr) := hob.1
          have Hob2 : Hid (∀ p, x p ≤ rr p) := hob.2
          clear hob HO
          have Hg : Hid (v7.heap[gr]? = some (.cells (iarr .i64 54 r) 48 (0, 0))) := HR.out.row gr r (by simp)
          go_wp2_with (first
            | (refine wpList_load_row (o := ⟨some 62, _, _, _, _, _⟩) (by rfl) 48 (.tmp 11) (by rfl) g11 (by rfl) 48 (iarr .i64 54 rr) (0, 0) _ (HR.out.row g11 rr (by simp)) Try.underlying48 (by rfl) (by rw [iarr_size]; exact infoR) ?_)
            | (refine wpList_store_row (o := ⟨none, .store 48 (.tmp 9) (.tmp 62), _, _, _, _⟩) (by rfl) 48 (.tmp 9) (.tmp 62) (by rfl) gr (iarr .i64 54 rr) (by rfl) (by rfl) 48 (iarr .i64 54 r) Hg.out (by rw [iarr_size]; exact infoR) (by rw [iarr_size, iarr_size]) (iarr_one _ _ _) ?_))
          go_roundw
          case rel => exact ⟨k + 1, rr, by omega, by go_num, Hob1.out, Hob2.out, Rws.set (x := r) ⟨fun p hp => HR.out.1 p (by simp [hp]), HR.out.2⟩ (by omega) (fun p hp => by obtain rfl : p = (w.heap.size, x) := (by simpa using hp); show w.heap.size ≠ gr; omega) rr⟩
          case measure => simp [intOf]; omega
        · clear HO
          go_wp2
          go_roundw
          case rel => exact ⟨k + 1, r, by omega, by go_num, br, Hle.out, fun p hp => HR.out.1 p (by simp [hp]), HR.out.2⟩
          case measure => simp [intOf]; omega
      · clear hj
        refine wpOp_wanted rfl (by kernel_rfl) (fun K hK => ?_)
        go_simp
        rw [← zeros54]
        have hz : (wr.alloc (.cells (iarr .i64 54 zero) 48)).drew.heap[wr.heap.size]? = some (.cells (iarr .i64 54 zero) 48 (0, 0)) := heap_alloc_new wr (.cells (iarr .i64 54 zero) 48)
        have hS1 : Below wr.heap.size wr (wr.alloc (.cells (iarr .i64 54 zero) 48)).drew := bN ((Below.refl _ _).alloc (Nat.le_refl _) _) 1
        refine hK _ _ ⟨hS1, ?_⟩
        clear hK K hS
        have hS := hS1
        clear hS1
        generalize (wr.alloc (.cells (iarr .i64 54 zero) 48)).drew = v4 at *
        refine wpAnyH_all (rs := [5]) (by kernel_rfl) (by decide) ?_
        intro j hj
        obtain rfl : j = 5 := by simpa using hj
        clear hj
        refine wpOp_wanted rfl (by kernel_rfl) (fun K hK => ?_)
        go_simp
        refine (HD.out _).mono ?_
        rintro e v5 ⟨rfl, hb⟩
        have hS' := bch hS hb
        replace hS := hS'
        have hz5 := row_kept hz hb
        clear hS' hb hz
        refine hK _ _ ⟨hS, ?_⟩
        clear hK K
        refine wpAnyH_at (i := 6) (d := (some 51)) (v := .tuple #[.agg (iarr .i64 54 rr), .int .i64 re]) rfl (by rfl) (by kernel_rfl) (by kernel_rfl) (by kernel_rfl) (fun _ _ _ h => h) (.inl ⟨by kernel_rfl, fun w' hw => ?_⟩) hS ?_
        · clear hw
          go_simp
        refine wpAnyH_at (i := 7) (d := (some 58)) (v := .agg (iarr .i64 54 rr)) rfl (by rfl) (by kernel_rfl) (by kernel_rfl) (by kernel_rfl) (fun _ _ _ h => h) (.inl ⟨by kernel_rfl, fun w' hw => ?_⟩) hS ?_
        · clear hw
          go_simp
        refine wpAnyH_at (i := 8) (d := (some 59)) (v := .int .i64 re) rfl (by rfl) (by kernel_rfl) (by kernel_rfl) (by kernel_rfl) (fun _ _ _ h => h) (.inl ⟨by kernel_rfl, fun w' hw => ?_⟩) hS ?_
        · clear hw
          go_simp
        refine wpAnyH_all (rs := [10]) (by kernel_rfl) (by decide) ?_
        intro j hj
        obtain rfl : j = 10 := by simpa using hj
        clear hj
        refine wpOp_wanted rfl (by kernel_rfl) (fun K hK => ?_)
        refine wp_store_row 48 (.tmp 11) (.tmp 58) (by rfl) (wr.heap.size) (iarr .i64 54 rr) (by kernel_rfl) (by kernel_rfl) 48 (iarr .i64 54 zero) hz5 (by rw [iarr_size]; exact infoR) (by rw [iarr_size, iarr_size]) (iarr_one _ _ _) ?_
        have c11 := setRow_heap v5 wr.heap.size (iarr .i64 54 zero) (iarr .i64 54 rr) 48 (0, 0) hz5
        have hS2 : Below wr.heap.size wr (v5.setRow wr.heap.size (iarr .i64 54 rr)) := brow hS (Nat.le_refl _)
        refine hK _ _ ⟨hS2, ?_⟩
        clear hK K hz5 hS
        have hS := hS2
        generalize v5.setRow wr.heap.size (iarr .i64 54 rr) = v7 at *
        refine wpAnyH_at (i := 11) (d := (some 12)) (v := .int .i64 re) rfl (by rfl) (by kernel_rfl) (by kernel_rfl) (by kernel_rfl) (fun _ _ _ h => h) (.inl ⟨by kernel_rfl, fun w' hw => ?_⟩) hS ?_
        · clear hw
          go_simp
        replace HR : Hid (Rws w [(wr.heap.size, rr), (gr, r), (w.heap.size, x)] v7) := (HR.out.up hS2).add c11
        clear hS2 c11
        refine wpAnyH_done (by kernel_rfl) ?_ _
        refine hK0 _ _ ?_
        clear hK0 K0 hS HD
        rcases int_zero3 re with h0 | h0
        · subst h0
          have hob := HO.out rfl
          have Hob1 : Hid (In64 rr) := hob.1
          have Hob2 : Hid (∀ p, x p ≤ rr p) := hob.2
          clear hob HO
          have Hg : Hid (v7.heap[gr]? = some (.cells (iarr .i64 54 r) 48 (0, 0))) := HR.out.row gr r (by simp)
          go_wp2_with (first
            | (refine wpList_load_row (o := ⟨some 62, _, _, _, _, _⟩) (by rfl) 48 (.tmp 11) (by rfl) wr.heap.size (by rfl) 48 (iarr .i64 54 rr) (0, 0) _ (HR.out.row wr.heap.size rr (by simp)) Try.underlying48 (by rfl) (by rw [iarr_size]; exact infoR) ?_)
            | (refine wpList_store_row (o := ⟨none, .store 48 (.tmp 9) (.tmp 62), _, _, _, _⟩) (by rfl) 48 (.tmp 9) (.tmp 62) (by rfl) gr (iarr .i64 54 rr) (by rfl) (by rfl) 48 (iarr .i64 54 r) Hg.out (by rw [iarr_size]; exact infoR) (by rw [iarr_size, iarr_size]) (iarr_one _ _ _) ?_))
          go_roundw
          case rel => exact ⟨k + 1, rr, by omega, by go_num, Hob1.out, Hob2.out, Rws.set (x := r) ⟨fun p hp => HR.out.1 p (by simp [hp]), HR.out.2⟩ (by omega) (fun p hp => by obtain rfl : p = (w.heap.size, x) := (by simpa using hp); show w.heap.size ≠ gr; omega) rr⟩
          case measure => simp [intOf]; omega
        · clear HO
          go_wp2
          go_roundw
          case rel => exact ⟨k + 1, r, by omega, by go_num, br, Hle.out, fun p hp => HR.out.1 p (by simp [hp]), HR.out.2⟩
          case measure => simp [intOf]; omega
    · obtain rfl : k = len := by omega
      have e4 : eqR (joinM r x) r = true := eqR_of fun p _ => mxI_le (Hle.out p)
      have E4 : Hid (eqR (joinM r x) r = true) := e4
      clear e4 Hle
      go_upto_region 12 with (fail)
      rename_i K0 hK0
      refine wp_region_noPanic (wp_region_held_drew (S := Rws w [(gr, r), (w.heap.size, x)]) (by kernel_rfl) HR.out.drew fun hS => ?_)
      refine wpAnyH_at (i := 0) (d := (some 63)) (v := .agg (iarr .i64 54 r)) rfl (by rfl) (by kernel_rfl) (by kernel_rfl) (by kernel_rfl) (fun _ _ _ h => h) (.inl ⟨by kernel_rfl, fun w' hw => ?_⟩) hS ?_
      · exact exec_load_row 48 (.tmp 9) (by rfl) (gr) (by kernel_rfl) 48 (iarr .i64 54 r) (0, 0) _ (hw.row (gr) r (by simp)) Try.underlying48 (by rfl) (by rw [iarr_size]; exact infoR)
      refine wpAnyH_at (i := 1) (d := (some 64)) (v := .agg (iarr .i64 54 x)) rfl (by rfl) (by kernel_rfl) (by kernel_rfl) (by kernel_rfl) (fun _ _ _ h => h) (.inl ⟨by kernel_rfl, fun w' hw => ?_⟩) hS ?_
      · exact exec_load_row 48 (.tmp 4) (by rfl) (w.heap.size) (by kernel_rfl) 48 (iarr .i64 54 x) (0, 0) _ (hw.row (w.heap.size) x (by simp)) Try.underlying48 (by rfl) (by rw [iarr_size]; exact infoR)
      refine wpAnyH_at (i := 3) (d := (some 66)) (v := .agg (iarr .i64 54 r)) rfl (by rfl) (by kernel_rfl) (by kernel_rfl) (by kernel_rfl) (fun _ _ _ h => h) (.inl ⟨by kernel_rfl, fun w' hw => ?_⟩) hS ?_
      · exact exec_load_row 48 (.tmp 9) (by rfl) (gr) (by kernel_rfl) 48 (iarr .i64 54 r) (0, 0) _ (hw.row (gr) r (by simp)) Try.underlying48 (by rfl) (by rw [iarr_size]; exact infoR)
      refine wpAnyH_all (rs := [2]) (by kernel_rfl) (by decide) ?_
      intro j hj
      obtain rfl : j = 2 := by simpa using hj
      refine wpOp_wanted rfl (by kernel_rfl) (fun K hK => ?_)
      clear hj
      go_simp
      refine (join_any r x _).mono ?_
      rintro e v2 ⟨rfl, hb⟩
      replace hS := hS.up hb
      clear hb
      refine hK _ _ ⟨hS, ?_⟩
      clear hK K
      refine wpAnyH_at (i := 4) (d := (some 67)) (v := .bool true) rfl (by rfl) (by kernel_rfl) (by kernel_rfl) (by kernel_rfl) (fun _ _ _ h => h) (.inl ⟨by kernel_rfl, fun w' hw => ?_⟩) hS ?_
      · have hrn := run_eqR w' (x := joinM r x) (y := r) (join_in br bx) br
        rw [E4.out] at hrn
        exact exec_binOp_run (op := .eql) (t' := 48) (x := .tmp 65) (y := .tmp 66) (by kernel_rfl) (by kernel_rfl) (by kernel_rfl) hrn (guardR .eql (.tmp 65) (.tmp 66) _ _ _)
      refine wpAnyH_at (i := 5) (d := (some 68)) (v := .bool true) rfl (by rfl) (by kernel_rfl) (by kernel_rfl) (by kernel_rfl) (fun _ _ _ h => h) (.inl ⟨by kernel_rfl, fun w' hw => ?_⟩) hS ?_
      · clear hw
        go_simp
      refine wpAnyH_all (rs := [6]) (by kernel_rfl) (by decide) ?_
      intro j hj
      obtain rfl : j = 6 := by simpa using hj
      refine wpOp_wanted rfl (by kernel_rfl) (fun K hK => ?_)
      clear hj
      go_simp
      refine (works7_any _).mono ?_
      rintro e v3 ⟨rfl, hb⟩
      replace hS := hS.up hb
      clear hb
      refine hK _ _ ⟨hS, ?_⟩
      clear hK K
      refine wpAnyH_at (i := 7) (d := (some 70)) (v := .bool true) rfl (by rfl) (by kernel_rfl) (by kernel_rfl) (by kernel_rfl) (fun _ _ _ h => h) (.inl ⟨by kernel_rfl, fun w' hw => ?_⟩) hS ?_
      · clear hw
        go_simp
      refine wpAnyH_at (i := 8) (d := (some 8)) (v := .bool true) rfl (by rfl) (by kernel_rfl) (by kernel_rfl) (by kernel_rfl) (fun _ _ _ h => h) (.inl ⟨by kernel_rfl, fun w' hw => ?_⟩) hS ?_
      · clear hw
        go_simp
      refine wpAnyH_done (by kernel_rfl) ?_ _
      refine hK0 _ _ ?_
      clear hK0 K0
      have HB : Hid (Below w.heap.size w v3) := hS.2
      go_wp2
      go_ret
      exact ⟨rfl, HB.out⟩
set_option maxRecDepth 100000 in
set_option maxHeartbeats 8000000 in
theorem joins7_big (x y z : Nat → Int) (a : Option Addr) (len cap : Nat) (w : World) (hlen : 50 < len) (hm : len ≤ maxLen) :
    Calls Try.prog 12 #[.agg (iarr .i64 54 x), .agg (iarr .i64 54 y), .agg (iarr .i64 54 z), .slice a len cap] w fun e w' => e = .returned (.bool true) ∧ Below w.heap.size w w' := by
  have HR : Hid (Rws w [(w.heap.size, x), (w.heap.size + 1, y), (w.heap.size + 1 + 1, z)] (((w.alloc (.cells (iarr .i64 54 x) 48)).alloc (.cells (iarr .i64 54 y) 48)).alloc (.cells (iarr .i64 54 z) 48))) := Rws.start3 w x y z
  have hd : decide ((50 : Int) < (len : Int)) = true := by simp; omega
  clear hlen hm
  go_enter Try.func12, Try.ntmps12
  go_wp2_with fail
  refine (works7_any _).mono ?_
  rintro e w1 ⟨rfl, hb⟩
  replace HR : Hid (Rws w [(w.heap.size, x), (w.heap.size + 1, y), (w.heap.size + 1 + 1, z)] w1) := HR.out.up hb
  clear hb
  go_wp2_with fail
  go_ret
  exact ⟨rfl, HR.out.2⟩

end Go.Proofs.Ytolmkjepieoloaa
