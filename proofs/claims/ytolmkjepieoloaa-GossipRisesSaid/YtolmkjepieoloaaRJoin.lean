/-
  The walk of rights.Join.
-/
import Derived.Test.YtolmkjepieoloaaRTurned
import Derived.Test.YtolmkjepieoloaaBaseT
namespace Go.Proofs.Ytolmkjepieoloaa
open Go.RowKit Rt
namespace Rt
def mxI (a b : Int) : Int := if a < b then b else a
def joinM (a b : Nat → Int) : Nat → Int := fun p => mxI (a p) (b p)
def own (p : Nat) : Nat := if p < 6 then p else if p < 12 then p - 6 else if p < 18 then p - 12 else (p - 18) / 6
def jt (a b : Nat → Int) (k : Nat) : Nat → Int := fun p => if own p < k then mxI (a p) (b p) else a p
def jt2 (a b : Nat → Int) (k j : Nat) : Nat → Int := fun p => if own p < k ∨ (own p = k ∧ (p < 18 ∨ (p - 18) % 6 < j)) then mxI (a p) (b p) else a p
theorem jt_zero (a b : Nat → Int) : jt a b 0 = a := by funext p; unfold jt; rw [if_neg (by omega)]
theorem jt_end (a b : Nat → Int) (p : Nat) (hp : p < 54) : jt a b 6 p = joinM a b p := by
  unfold jt joinM own; rw [if_pos]; split
  · omega
  · split
    · omega
    · split <;> omega
theorem jt2_start (a b : Nat → Int) (k : Nat) (hk : k < 6) (p : Nat) :
    upd (upd (upd (jt a b k) k (mxI (a k) (b k))) (6 + k) (mxI (a (6 + k)) (b (6 + k)))) (12 + k) (mxI (a (12 + k)) (b (12 + k))) p = jt2 a b k 0 p := by
  unfold upd jt2 jt own
  repeat' split
  all_goals first | rfl | omega | (subst_vars; first | rfl | omega)
theorem jt2_step (a b : Nat → Int) (k j : Nat) (hk : k < 6) (hj : j < 6) (p : Nat) :
    upd (jt2 a b k j) (18 + k * 6 + j) (mxI (a (18 + k * 6 + j)) (b (18 + k * 6 + j))) p = jt2 a b k (j + 1) p := by
  unfold upd jt2 own
  repeat' split
  all_goals first | rfl | omega | (subst_vars; first | rfl | omega)
theorem jt2_end (a b : Nat → Int) (k : Nat) (p : Nat) : jt2 a b k 6 p = jt a b (k + 1) p := by
  unfold jt2 jt own
  repeat' split
  all_goals first | rfl | omega
theorem jt_at (a b : Nat → Int) (k p : Nat) (h : own p = k) : jt a b k p = a p := by unfold jt; rw [if_neg (by omega)]
theorem jt2_at (a b : Nat → Int) (k j : Nat) (hj : j < 6) : jt2 a b k j (18 + k * 6 + j) = a (18 + k * 6 + j) := by
  unfold jt2 own; rw [if_neg]; rw [if_neg (by omega), if_neg (by omega), if_neg (by omega)]; omega
end Rt

def JS (w0 : World) (g : Nat) (x y : Nat → Int) (w' : World) : Prop := w'.heap[g]? = some (.cells (iarr .i64 54 x) 48 (0, 0)) ∧ w'.heap[g + 1]? = some (.cells (iarr .i64 54 y) 48 (0, 0)) ∧ w'.heap[g + 1 + 1]? = some (.cells (iarr .i64 54 zero) 48 (0, 0)) ∧ Below g w0 w'
theorem JS.drew {w0 w : World} {g : Nat} {x y : Nat → Int} (h : JS w0 g x y w) : JS w0 g x y w.drew := ⟨h.1, h.2.1, h.2.2.1, bN h.2.2.2 1⟩
theorem JS.a {w0 w : World} {g : Nat} {x y : Nat → Int} (h : JS w0 g x y w) (i : Nat) (hi : i < 54) : w.cell? ⟨g, i, none⟩ = some (.int .i64 (x i)) := iarr_cell h.1 i hi
theorem JS.b {w0 w : World} {g : Nat} {x y : Nat → Int} (h : JS w0 g x y w) (i : Nat) (hi : i < 54) : w.cell? ⟨g + 1, i, none⟩ = some (.int .i64 (y i)) := iarr_cell h.2.1 i hi
theorem JS.fr {w0 w : World} {g : Nat} {x y : Nat → Int} (h : JS w0 g x y w) (i : Nat) : w.frozen? ⟨g, i, none⟩ = false := frozen_of_row w g i _ _ h.1
theorem JS.set {w0 w : World} {g : Nat} {x y : Nat → Int} (h : JS w0 g x y w) (i : Nat) (v : Int) : JS w0 g (upd x i v) y (w.setCell ⟨g, i, none⟩ (.int .i64 v)) := by
  obtain ⟨a, b, z, c⟩ := h
  refine ⟨?_, ?_, ?_, ?_⟩
  · rw [heap_setCell_same _ _ _ _ _ _ a, iarr_set]
  · rw [heap_setCell_other _ _ _ _ (by simp)]; exact b
  · rw [heap_setCell_other _ _ _ _ (by simp; omega)]; exact z
  · exact c.setCell (Nat.le_refl _) _
theorem JS.congr {w0 w : World} {g : Nat} {x y x' : Nat → Int} (h : JS w0 g x y w) (hx : ∀ i, i < 54 → x i = x' i) : JS w0 g x' y w := by
  unfold JS at *; rw [← iarr_congr hx]; exact h
def JSb (w0 : World) (g : Nat) (x y : Nat → Int) (b : Bool) (w' : World) : Prop := ∃ x', JS w0 g x' y w' ∧ (b = false → x' = x)
theorem JSb.a {w0 w : World} {g : Nat} {x y : Nat → Int} (h : JSb w0 g x y false w) (i : Nat) (hi : i < 54) : w.cell? ⟨g, i, none⟩ = some (.int .i64 (x i)) := by
  obtain ⟨x', h, e⟩ := h
  rw [← e rfl]; exact h.a i hi
theorem results_cell {P : Program} {fn : Func} {p : Tmp} {ty : TypeId} (h : fn.results = #[.cell p ty]) (tmps : Array Value) (w : World) (g : Nat) (t : TypeId) (cs : Array Value) (fr : Nat × Nat) (d : TypeDesc)
    (hp : tmps.getD p undef = .pointer (some ⟨g, 0, none⟩)) (hg : w.heap[g]? = some (.cells cs t fr))
    (hu : P.underlying ty = some d) (hd : (match d with | .struct _ | .array _ _ => true | _ => false) = true) (hi : (P.info? ty).map (·.size) = some cs.size) :
    (results fn tmps).run P w = .ok (.agg cs) w := by
  have hp' : tmps[p]?.getD undef = .pointer (some ⟨g, 0, none⟩) := by simpa using hp
  simp [results, h, hp', asAddr, run_loadVar_row w g t ty cs fr d hg hu hd hi]
theorem join_ret {y : Nat → Int} {w w1 : World} {a : Act} {g : Nat} (hd : a.defers = [])
    (hp : a.tmps.getD 4 undef = .pointer (some ⟨g, 0, none⟩)) (hg : w1.heap[g]? = some (.cells (iarr .i64 54 y) 48 (0, 0))) (hb : Below w.heap.size w w1) :
    bodyPost Try.prog Try.f47 (fun e w' => e = .returned (.agg (iarr .i64 54 y)) ∧ Below w.heap.size w w') .ret a w1 :=
  bodyPost_ret (v := .agg (iarr .i64 54 y)) (by rw [results_cell rfl a.tmps w1 g 48 _ (0, 0) _ hp hg Try.underlying48 rfl (by rw [iarr_size]; exact infoR)]) hd ⟨rfl, hb⟩
attribute [local irreducible] Oper.wp wpList Code.wp
set_option maxRecDepth 100000 in
set_option maxHeartbeats 4000000 in
theorem join_any (a b : Nat → Int) (w : World) :
    Calls Try.prog 47 #[.agg (iarr .i64 54 a), .agg (iarr .i64 54 b)] w fun e w' => e = .returned (.agg (iarr .i64 54 (joinM a b))) ∧ Below w.heap.size w w' := by
  go_enter Try.func47, Try.ntmps47
  go_wp2
  go_loopw [5, 6, 7, 46] (fun _ _ i _ wr => ∃ k : Nat, k ≤ 6 ∧ i = .int .i64 k ∧ JS w w.heap.size (jt a b k) b wr) (fun _ _ i _ _ => 6 - (intOf i).toNat)
  case atStart =>
    rw [← zeros54]
    refine ⟨0, by omega, rfl, ?_⟩
    rw [jt_zero]
    refine ⟨?_, ?_, ?_, ?_⟩
    · simp only [alloc_at, alloc_size]; (repeat rw [if_neg (by omega)]); simp only [if_true]
    · simp only [alloc_at, alloc_size]; (repeat rw [if_neg (by omega)]); simp only [if_true]
    · simp only [alloc_at, alloc_size]; simp only [if_true]
    · exact (((Below.refl _ _).alloc (Nat.le_refl _) _).alloc (by simp) _).alloc (by simp; omega) _
  case round =>
    obtain ⟨k, hk, rfl, hJ⟩ := hrel
    have HJ : Hid (JS w w.heap.size (jt a b k) b wr) := hJ
    clear hJ
    by_cases hk2 : k < 6
    · have hki : (k : Int) < 6 := by omega
      have ok0 : own k = k := by unfold own; rw [if_pos hk2]
      have ok6 : own (6 + k) = k := by unfold own; rw [if_neg (by omega), if_pos (by omega)]; omega
      have ok12 : own (12 + k) = k := by unfold own; rw [if_neg (by omega), if_neg (by omega), if_pos (by omega)]; omega
      go_upto_region 4 with (fail)
      rename_i K0 hK0
      refine wp_region_T [32, 35, 38] (JSb w w.heap.size (jt a b k) b) (by kernel_rfl) fun hC => ?_
      have hJ := HJ.out.drew
      have hS : JSb w w.heap.size (jt a b k) b false wr.drew := ⟨_, hJ, fun _ => rfl⟩
      refine wpAnyT_pure (i := 0) (d := (some 10)) (v := .int .i64 (k : Int)) rfl (by rfl) (by kernel_rfl) (by kernel_rfl) (by kernel_rfl) (by kernel_rfl) (by kernel_rfl) hC (fun _ _ _ h => h) (.inl ⟨by rfl, fun w' _ => ?_⟩) hS fun hC' => ?_
      · go_simp
      replace hC := hC'
      clear hC'
      refine wpAnyT_pure (i := 1) (d := (some 11)) (v := .int .i64 (k : Int)) rfl (by rfl) (by kernel_rfl) (by kernel_rfl) (by kernel_rfl) (by kernel_rfl) (by kernel_rfl) hC (fun _ _ _ h => h) (.inl ⟨by rfl, fun w' _ => ?_⟩) hS fun hC' => ?_
      · go_simp
      replace hC := hC'
      clear hC'
      refine wpAnyT_pure (i := 2) (d := (some 12)) (v := .int .i64 (k : Int)) rfl (by rfl) (by kernel_rfl) (by kernel_rfl) (by kernel_rfl) (by kernel_rfl) (by kernel_rfl) hC (fun _ _ _ h => h) (.inl ⟨by rfl, fun w' _ => ?_⟩) hS fun hC' => ?_
      · go_simp
      replace hC := hC'
      clear hC'
      refine wpAnyT_pure (i := 3) (d := (some 13)) (v := .int .i64 (k : Int)) rfl (by rfl) (by kernel_rfl) (by kernel_rfl) (by kernel_rfl) (by kernel_rfl) (by kernel_rfl) hC (fun _ _ _ h => h) (.inl ⟨by rfl, fun w' _ => ?_⟩) hS fun hC' => ?_
      · go_simp
      replace hC := hC'
      clear hC'
      refine wpAnyT_pure (i := 4) (d := (some 14)) (v := .pointer (some ⟨w.heap.size, 0, none⟩)) rfl (by rfl) (by kernel_rfl) (by kernel_rfl) (by kernel_rfl) (by kernel_rfl) (by kernel_rfl) hC (fun _ _ _ h => h) (.inl ⟨by rfl, fun w' _ => ?_⟩) hS fun hC' => ?_
      · go_simp
      replace hC := hC'
      clear hC'
      refine wpAnyT_pure (i := 5) (d := (some 15)) (v := .pointer (some ⟨w.heap.size, k, none⟩)) rfl (by rfl) (by kernel_rfl) (by kernel_rfl) (by kernel_rfl) (by kernel_rfl) (by kernel_rfl) hC (fun _ _ _ h => h) (.inl ⟨by rfl, fun w' _ => ?_⟩) hS fun hC' => ?_
      · go_simp
      replace hC := hC'
      clear hC'
      refine wpAnyT_load (i := 6) (d := (some 16)) (v := .int .i64 (a (k))) rfl (by rfl) (by kernel_rfl) (by kernel_rfl) (by kernel_rfl) (by kernel_rfl) (by kernel_rfl) (by kernel_rfl) hC (fun _ _ _ h => h) (.inl ⟨by rfl, fun w' hw => ?_⟩) hS fun hC' => ?_
      · have h2 := (JSb.a hw) (k) (by omega)
        rw [jt_at a b k _ ok0] at h2
        clear hw
        go_simp
      replace hC := hC'
      clear hC'
      refine wpAnyT_pure (i := 7) (d := (some 17)) (v := .int .i64 (k : Int)) rfl (by rfl) (by kernel_rfl) (by kernel_rfl) (by kernel_rfl) (by kernel_rfl) (by kernel_rfl) hC (fun _ _ _ h => h) (.inl ⟨by rfl, fun w' _ => ?_⟩) hS fun hC' => ?_
      · go_simp
      replace hC := hC'
      clear hC'
      refine wpAnyT_pure (i := 8) (d := (some 18)) (v := .pointer (some ⟨w.heap.size + 1, 0, none⟩)) rfl (by rfl) (by kernel_rfl) (by kernel_rfl) (by kernel_rfl) (by kernel_rfl) (by kernel_rfl) hC (fun _ _ _ h => h) (.inl ⟨by rfl, fun w' _ => ?_⟩) hS fun hC' => ?_
      · go_simp
      replace hC := hC'
      clear hC'
      refine wpAnyT_pure (i := 9) (d := (some 19)) (v := .pointer (some ⟨w.heap.size + 1, k, none⟩)) rfl (by rfl) (by kernel_rfl) (by kernel_rfl) (by kernel_rfl) (by kernel_rfl) (by kernel_rfl) hC (fun _ _ _ h => h) (.inl ⟨by rfl, fun w' _ => ?_⟩) hS fun hC' => ?_
      · go_simp
      replace hC := hC'
      clear hC'
      refine wpAnyT_ever (i := 10) (d := (some 20)) (v := .int .i64 (b (k))) rfl (by rfl) (by kernel_rfl) (by kernel_rfl) (by kernel_rfl) (by kernel_rfl) (by kernel_rfl) hC (fun _ _ _ h => h) (.inl ⟨by rfl, fun w' ⟨b', hw⟩ => ?_⟩) hS fun hC' => ?_
      · have h2 := hw.choose_spec.1.b (k) (by omega)
        clear hw
        go_simp
      replace hC := hC'
      clear hC'
      refine wpAnyT_pure (i := 11) (d := (some 21)) (v := .int .i64 (mxI (a (k)) (b (k)))) rfl (by rfl) (by kernel_rfl) (by kernel_rfl) (by kernel_rfl) (by kernel_rfl) (by kernel_rfl) hC (fun _ _ _ h => h) (.inl ⟨by rfl, fun w' _ => ?_⟩) hS fun hC' => ?_
      · go_simp
        rfl
      replace hC := hC'
      clear hC'
      refine wpAnyT_pure (i := 12) (d := (some 22)) (v := .int .i64 (k : Int)) rfl (by rfl) (by kernel_rfl) (by kernel_rfl) (by kernel_rfl) (by kernel_rfl) (by kernel_rfl) hC (fun _ _ _ h => h) (.inl ⟨by rfl, fun w' _ => ?_⟩) hS fun hC' => ?_
      · go_simp
      replace hC := hC'
      clear hC'
      refine wpAnyT_pure (i := 13) (d := (some 23)) (v := .pointer (some ⟨w.heap.size, 6, none⟩)) rfl (by rfl) (by kernel_rfl) (by kernel_rfl) (by kernel_rfl) (by kernel_rfl) (by kernel_rfl) hC (fun _ _ _ h => h) (.inl ⟨by rfl, fun w' _ => ?_⟩) hS fun hC' => ?_
      · go_simp
      replace hC := hC'
      clear hC'
      refine wpAnyT_pure (i := 14) (d := (some 24)) (v := .pointer (some ⟨w.heap.size, 6 + k, none⟩)) rfl (by rfl) (by kernel_rfl) (by kernel_rfl) (by kernel_rfl) (by kernel_rfl) (by kernel_rfl) hC (fun _ _ _ h => h) (.inl ⟨by rfl, fun w' _ => ?_⟩) hS fun hC' => ?_
      · go_simp
      replace hC := hC'
      clear hC'
      refine wpAnyT_load (i := 15) (d := (some 25)) (v := .int .i64 (a (6 + k))) rfl (by rfl) (by kernel_rfl) (by kernel_rfl) (by kernel_rfl) (by kernel_rfl) (by kernel_rfl) (by kernel_rfl) hC (fun _ _ _ h => h) (.inl ⟨by rfl, fun w' hw => ?_⟩) hS fun hC' => ?_
      · have h2 := (JSb.a hw) (6 + k) (by omega)
        rw [jt_at a b k _ ok6] at h2
        clear hw
        go_simp
      replace hC := hC'
      clear hC'
      refine wpAnyT_pure (i := 16) (d := (some 26)) (v := .int .i64 (k : Int)) rfl (by rfl) (by kernel_rfl) (by kernel_rfl) (by kernel_rfl) (by kernel_rfl) (by kernel_rfl) hC (fun _ _ _ h => h) (.inl ⟨by rfl, fun w' _ => ?_⟩) hS fun hC' => ?_
      · go_simp
      replace hC := hC'
      clear hC'
      refine wpAnyT_pure (i := 17) (d := (some 27)) (v := .pointer (some ⟨w.heap.size + 1, 6, none⟩)) rfl (by rfl) (by kernel_rfl) (by kernel_rfl) (by kernel_rfl) (by kernel_rfl) (by kernel_rfl) hC (fun _ _ _ h => h) (.inl ⟨by rfl, fun w' _ => ?_⟩) hS fun hC' => ?_
      · go_simp
      replace hC := hC'
      clear hC'
      refine wpAnyT_pure (i := 18) (d := (some 28)) (v := .pointer (some ⟨w.heap.size + 1, 6 + k, none⟩)) rfl (by rfl) (by kernel_rfl) (by kernel_rfl) (by kernel_rfl) (by kernel_rfl) (by kernel_rfl) hC (fun _ _ _ h => h) (.inl ⟨by rfl, fun w' _ => ?_⟩) hS fun hC' => ?_
      · go_simp
      replace hC := hC'
      clear hC'
      refine wpAnyT_ever (i := 19) (d := (some 29)) (v := .int .i64 (b (6 + k))) rfl (by rfl) (by kernel_rfl) (by kernel_rfl) (by kernel_rfl) (by kernel_rfl) (by kernel_rfl) hC (fun _ _ _ h => h) (.inl ⟨by rfl, fun w' ⟨b', hw⟩ => ?_⟩) hS fun hC' => ?_
      · have h2 := hw.choose_spec.1.b (6 + k) (by omega)
        clear hw
        go_simp
      replace hC := hC'
      clear hC'
      refine wpAnyT_pure (i := 20) (d := (some 30)) (v := .int .i64 (mxI (a (6 + k)) (b (6 + k)))) rfl (by rfl) (by kernel_rfl) (by kernel_rfl) (by kernel_rfl) (by kernel_rfl) (by kernel_rfl) hC (fun _ _ _ h => h) (.inl ⟨by rfl, fun w' _ => ?_⟩) hS fun hC' => ?_
      · go_simp
        rfl
      replace hC := hC'
      clear hC'
      refine wpAnyT_pure (i := 21) (d := (some 31)) (v := .int .i64 (k : Int)) rfl (by rfl) (by kernel_rfl) (by kernel_rfl) (by kernel_rfl) (by kernel_rfl) (by kernel_rfl) hC (fun _ _ _ h => h) (.inl ⟨by rfl, fun w' _ => ?_⟩) hS fun hC' => ?_
      · go_simp
      replace hC := hC'
      clear hC'
      refine wpAnyT_pure (i := 22) (d := (some 32)) (v := .pointer (some ⟨w.heap.size, 12, none⟩)) rfl (by rfl) (by kernel_rfl) (by kernel_rfl) (by kernel_rfl) (by kernel_rfl) (by kernel_rfl) hC (fun _ _ _ h => h) (.inl ⟨by rfl, fun w' _ => ?_⟩) hS fun hC' => ?_
      · go_simp
      replace hC := hC'
      clear hC'
      refine wpAnyT_pure (i := 23) (d := (some 33)) (v := .pointer (some ⟨w.heap.size, 12 + k, none⟩)) rfl (by rfl) (by kernel_rfl) (by kernel_rfl) (by kernel_rfl) (by kernel_rfl) (by kernel_rfl) hC (fun _ _ _ h => h) (.inl ⟨by rfl, fun w' _ => ?_⟩) hS fun hC' => ?_
      · go_simp
      replace hC := hC'
      clear hC'
      refine wpAnyT_load (i := 24) (d := (some 34)) (v := .int .i64 (a (12 + k))) rfl (by rfl) (by kernel_rfl) (by kernel_rfl) (by kernel_rfl) (by kernel_rfl) (by kernel_rfl) (by kernel_rfl) hC (fun _ _ _ h => h) (.inl ⟨by rfl, fun w' hw => ?_⟩) hS fun hC' => ?_
      · have h2 := (JSb.a hw) (12 + k) (by omega)
        rw [jt_at a b k _ ok12] at h2
        clear hw
        go_simp
      replace hC := hC'
      clear hC'
      refine wpAnyT_pure (i := 25) (d := (some 35)) (v := .int .i64 (k : Int)) rfl (by rfl) (by kernel_rfl) (by kernel_rfl) (by kernel_rfl) (by kernel_rfl) (by kernel_rfl) hC (fun _ _ _ h => h) (.inl ⟨by rfl, fun w' _ => ?_⟩) hS fun hC' => ?_
      · go_simp
      replace hC := hC'
      clear hC'
      refine wpAnyT_pure (i := 26) (d := (some 36)) (v := .pointer (some ⟨w.heap.size + 1, 12, none⟩)) rfl (by rfl) (by kernel_rfl) (by kernel_rfl) (by kernel_rfl) (by kernel_rfl) (by kernel_rfl) hC (fun _ _ _ h => h) (.inl ⟨by rfl, fun w' _ => ?_⟩) hS fun hC' => ?_
      · go_simp
      replace hC := hC'
      clear hC'
      refine wpAnyT_pure (i := 27) (d := (some 37)) (v := .pointer (some ⟨w.heap.size + 1, 12 + k, none⟩)) rfl (by rfl) (by kernel_rfl) (by kernel_rfl) (by kernel_rfl) (by kernel_rfl) (by kernel_rfl) hC (fun _ _ _ h => h) (.inl ⟨by rfl, fun w' _ => ?_⟩) hS fun hC' => ?_
      · go_simp
      replace hC := hC'
      clear hC'
      refine wpAnyT_ever (i := 28) (d := (some 38)) (v := .int .i64 (b (12 + k))) rfl (by rfl) (by kernel_rfl) (by kernel_rfl) (by kernel_rfl) (by kernel_rfl) (by kernel_rfl) hC (fun _ _ _ h => h) (.inl ⟨by rfl, fun w' ⟨b', hw⟩ => ?_⟩) hS fun hC' => ?_
      · have h2 := hw.choose_spec.1.b (12 + k) (by omega)
        clear hw
        go_simp
      replace hC := hC'
      clear hC'
      refine wpAnyT_pure (i := 29) (d := (some 39)) (v := .int .i64 (mxI (a (12 + k)) (b (12 + k)))) rfl (by rfl) (by kernel_rfl) (by kernel_rfl) (by kernel_rfl) (by kernel_rfl) (by kernel_rfl) hC (fun _ _ _ h => h) (.inl ⟨by rfl, fun w' _ => ?_⟩) hS fun hC' => ?_
      · go_simp
        rfl
      replace hC := hC'
      clear hC'
      refine wpAnyT_pure (i := 30) (d := (some 40)) (v := .pointer (some ⟨w.heap.size, 0, none⟩)) rfl (by rfl) (by kernel_rfl) (by kernel_rfl) (by kernel_rfl) (by kernel_rfl) (by kernel_rfl) hC (fun _ _ _ h => h) (.inl ⟨by rfl, fun w' _ => ?_⟩) hS fun hC' => ?_
      · go_simp
      replace hC := hC'
      clear hC'
      refine wpAnyT_pure (i := 33) (d := (some 42)) (v := .pointer (some ⟨w.heap.size, 6, none⟩)) rfl (by rfl) (by kernel_rfl) (by kernel_rfl) (by kernel_rfl) (by kernel_rfl) (by kernel_rfl) hC (fun _ _ _ h => h) (.inl ⟨by rfl, fun w' _ => ?_⟩) hS fun hC' => ?_
      · go_simp
      replace hC := hC'
      clear hC'
      refine wpAnyT_pure (i := 36) (d := (some 44)) (v := .pointer (some ⟨w.heap.size, 12, none⟩)) rfl (by rfl) (by kernel_rfl) (by kernel_rfl) (by kernel_rfl) (by kernel_rfl) (by kernel_rfl) hC (fun _ _ _ h => h) (.inl ⟨by rfl, fun w' _ => ?_⟩) hS fun hC' => ?_
      · go_simp
      replace hC := hC'
      clear hC'
      refine wpAnyT_pure (i := 31) (d := (some 41)) (v := .pointer (some ⟨w.heap.size, k, none⟩)) rfl (by rfl) (by kernel_rfl) (by kernel_rfl) (by kernel_rfl) (by kernel_rfl) (by kernel_rfl) hC (fun _ _ _ h => h) (.inl ⟨by rfl, fun w' _ => ?_⟩) hS fun hC' => ?_
      · go_simp
      replace hC := hC'
      clear hC'
      refine wpAnyT_one (i := 32) (b := true) (by kernel_rfl) (by kernel_rfl) (by rfl) (by rfl) hC fun K hK => ?_
      have hc := hJ.a (k) (by omega)
      have hf := hJ.fr (k)
      refine wp_store_cell 2 (.tmp 41) (.tmp 21) (by rfl) (by rfl) (w.heap.size) (k) (.int .i64 (mxI (a (k)) (b (k)))) _ (by kernel_rfl) (by kernel_rfl) (by kernel_rfl) (by rfl) hc hf ?_
      have hJ := hJ.set (k) (mxI (a (k)) (b (k)))
      have hS : JSb w w.heap.size (jt a b k) b true _ := ⟨_, hJ, nofun⟩
      clear hc hf
      refine hK _ _ ⟨hS, fun hC' => ?_⟩
      replace hC := hC'
      clear hC' hK K
      refine wpAnyT_pure (i := 34) (d := (some 43)) (v := .pointer (some ⟨w.heap.size, 6 + k, none⟩)) rfl (by rfl) (by kernel_rfl) (by kernel_rfl) (by kernel_rfl) (by kernel_rfl) (by kernel_rfl) hC (fun _ _ _ h => h) (.inl ⟨by rfl, fun w' _ => ?_⟩) hS fun hC' => ?_
      · go_simp
      replace hC := hC'
      clear hC'
      refine wpAnyT_one (i := 35) (b := true) (by kernel_rfl) (by kernel_rfl) (by rfl) (by rfl) hC fun K hK => ?_
      have hc := hJ.a (6 + k) (by omega)
      have hf := hJ.fr (6 + k)
      refine wp_store_cell 2 (.tmp 43) (.tmp 30) (by rfl) (by rfl) (w.heap.size) (6 + k) (.int .i64 (mxI (a (6 + k)) (b (6 + k)))) _ (by kernel_rfl) (by kernel_rfl) (by kernel_rfl) (by rfl) hc hf ?_
      have hJ := hJ.set (6 + k) (mxI (a (6 + k)) (b (6 + k)))
      have hS : JSb w w.heap.size (jt a b k) b true _ := ⟨_, hJ, nofun⟩
      clear hc hf
      refine hK _ _ ⟨hS, fun hC' => ?_⟩
      replace hC := hC'
      clear hC' hK K
      refine wpAnyT_pure (i := 37) (d := (some 45)) (v := .pointer (some ⟨w.heap.size, 12 + k, none⟩)) rfl (by rfl) (by kernel_rfl) (by kernel_rfl) (by kernel_rfl) (by kernel_rfl) (by kernel_rfl) hC (fun _ _ _ h => h) (.inl ⟨by rfl, fun w' _ => ?_⟩) hS fun hC' => ?_
      · go_simp
      replace hC := hC'
      clear hC'
      refine wpAnyT_one (i := 38) (b := true) (by kernel_rfl) (by kernel_rfl) (by rfl) (by rfl) hC fun K hK => ?_
      have hc := hJ.a (12 + k) (by omega)
      have hf := hJ.fr (12 + k)
      refine wp_store_cell 2 (.tmp 45) (.tmp 39) (by rfl) (by rfl) (w.heap.size) (12 + k) (.int .i64 (mxI (a (12 + k)) (b (12 + k)))) _ (by kernel_rfl) (by kernel_rfl) (by kernel_rfl) (by rfl) hc hf ?_
      have hJ := hJ.set (12 + k) (mxI (a (12 + k)) (b (12 + k)))
      have hS : JSb w w.heap.size (jt a b k) b true _ := ⟨_, hJ, nofun⟩
      clear hc hf
      refine hK _ _ ⟨hS, fun hC' => ?_⟩
      replace hC := hC'
      clear hC' hK K
      refine wpAnyT_done (by kernel_rfl) ?_ _
      replace hJ := hJ.congr (fun i _ => jt2_start a b k hk2 i)
      clear hS hC
      generalize (((wr.drew.setCell ⟨w.heap.size, k, none⟩ (.int .i64 (mxI (a k) (b k)))).setCell ⟨w.heap.size, 6 + k, none⟩ (.int .i64 (mxI (a (6 + k)) (b (6 + k))))).setCell ⟨w.heap.size, 12 + k, none⟩ (.int .i64 (mxI (a (12 + k)) (b (12 + k))))) = w4 at *
      refine hK0 _ _ ?_
      clear hK0 K0 HJ
      have HJ2 : Hid (JS w w.heap.size (jt2 a b k 0) b w4) := hJ
      clear hJ ok0 ok6 ok12
      go_wp2
      go_loopw [6, 46] (fun _ i wq => ∃ j : Nat, j ≤ 6 ∧ i = .int .i64 j ∧ JS w w.heap.size (jt2 a b k j) b wq) (fun _ i _ => 6 - (intOf i).toNat)
      case atStart => exact ⟨0, by omega, rfl, HJ2.out⟩
      case round =>
        obtain ⟨j, hj, rfl, hJ⟩ := hrel
        have HJ : Hid (JS w w.heap.size (jt2 a b k j) b wr) := hJ
        clear hJ HJ2
        by_cases hj2 : j < 6
        · have hji : (j : Int) < 6 := by omega
          go_upto_region 8 with (fail)
          rename_i K0 hK0
          refine wp_region_T [18] (JSb w w.heap.size (jt2 a b k j) b) (by kernel_rfl) fun hC => ?_
          have hJ := HJ.out.drew
          have hS : JSb w w.heap.size (jt2 a b k j) b false wr.drew := ⟨_, hJ, fun _ => rfl⟩
          refine wpAnyT_pure (i := 0) (d := (some 49)) (v := .int .i64 (k : Int)) rfl (by rfl) (by kernel_rfl) (by kernel_rfl) (by kernel_rfl) (by kernel_rfl) (by kernel_rfl) hC (fun _ _ _ h => h) (.inl ⟨by rfl, fun w' _ => ?_⟩) hS fun hC' => ?_
          · go_simp
          replace hC := hC'
          clear hC'
          refine wpAnyT_pure (i := 1) (d := (some 50)) (v := .int .i64 (j : Int)) rfl (by rfl) (by kernel_rfl) (by kernel_rfl) (by kernel_rfl) (by kernel_rfl) (by kernel_rfl) hC (fun _ _ _ h => h) (.inl ⟨by rfl, fun w' _ => ?_⟩) hS fun hC' => ?_
          · go_simp
          replace hC := hC'
          clear hC'
          refine wpAnyT_pure (i := 2) (d := (some 51)) (v := .int .i64 (k : Int)) rfl (by rfl) (by kernel_rfl) (by kernel_rfl) (by kernel_rfl) (by kernel_rfl) (by kernel_rfl) hC (fun _ _ _ h => h) (.inl ⟨by rfl, fun w' _ => ?_⟩) hS fun hC' => ?_
          · go_simp
          replace hC := hC'
          clear hC'
          refine wpAnyT_pure (i := 3) (d := (some 52)) (v := .int .i64 (j : Int)) rfl (by rfl) (by kernel_rfl) (by kernel_rfl) (by kernel_rfl) (by kernel_rfl) (by kernel_rfl) hC (fun _ _ _ h => h) (.inl ⟨by rfl, fun w' _ => ?_⟩) hS fun hC' => ?_
          · go_simp
          replace hC := hC'
          clear hC'
          refine wpAnyT_pure (i := 4) (d := (some 53)) (v := .pointer (some ⟨w.heap.size, 18, none⟩)) rfl (by rfl) (by kernel_rfl) (by kernel_rfl) (by kernel_rfl) (by kernel_rfl) (by kernel_rfl) hC (fun _ _ _ h => h) (.inl ⟨by rfl, fun w' _ => ?_⟩) hS fun hC' => ?_
          · go_simp
          replace hC := hC'
          clear hC'
          refine wpAnyT_pure (i := 5) (d := (some 54)) (v := .pointer (some ⟨w.heap.size, 18 + k * 6, none⟩)) rfl (by rfl) (by kernel_rfl) (by kernel_rfl) (by kernel_rfl) (by kernel_rfl) (by kernel_rfl) hC (fun _ _ _ h => h) (.inl ⟨by rfl, fun w' _ => ?_⟩) hS fun hC' => ?_
          · go_simp
          replace hC := hC'
          clear hC'
          refine wpAnyT_pure (i := 6) (d := (some 55)) (v := .pointer (some ⟨w.heap.size, 18 + k * 6 + j, none⟩)) rfl (by rfl) (by kernel_rfl) (by kernel_rfl) (by kernel_rfl) (by kernel_rfl) (by kernel_rfl) hC (fun _ _ _ h => h) (.inl ⟨by rfl, fun w' _ => ?_⟩) hS fun hC' => ?_
          · go_simp
          replace hC := hC'
          clear hC'
          refine wpAnyT_load (i := 7) (d := (some 56)) (v := .int .i64 (a (18 + k * 6 + j))) rfl (by rfl) (by kernel_rfl) (by kernel_rfl) (by kernel_rfl) (by kernel_rfl) (by kernel_rfl) (by kernel_rfl) hC (fun _ _ _ h => h) (.inl ⟨by rfl, fun w' hw => ?_⟩) hS fun hC' => ?_
          · have h2 := (JSb.a hw) (18 + k * 6 + j) (by omega)
            rw [jt2_at a b k j hj2] at h2
            clear hw
            go_simp
          replace hC := hC'
          clear hC'
          refine wpAnyT_pure (i := 8) (d := (some 57)) (v := .int .i64 (k : Int)) rfl (by rfl) (by kernel_rfl) (by kernel_rfl) (by kernel_rfl) (by kernel_rfl) (by kernel_rfl) hC (fun _ _ _ h => h) (.inl ⟨by rfl, fun w' _ => ?_⟩) hS fun hC' => ?_
          · go_simp
          replace hC := hC'
          clear hC'
          refine wpAnyT_pure (i := 9) (d := (some 58)) (v := .int .i64 (j : Int)) rfl (by rfl) (by kernel_rfl) (by kernel_rfl) (by kernel_rfl) (by kernel_rfl) (by kernel_rfl) hC (fun _ _ _ h => h) (.inl ⟨by rfl, fun w' _ => ?_⟩) hS fun hC' => ?_
          · go_simp
          replace hC := hC'
          clear hC'
          refine wpAnyT_pure (i := 10) (d := (some 59)) (v := .pointer (some ⟨w.heap.size + 1, 18, none⟩)) rfl (by rfl) (by kernel_rfl) (by kernel_rfl) (by kernel_rfl) (by kernel_rfl) (by kernel_rfl) hC (fun _ _ _ h => h) (.inl ⟨by rfl, fun w' _ => ?_⟩) hS fun hC' => ?_
          · go_simp
          replace hC := hC'
          clear hC'
          refine wpAnyT_pure (i := 11) (d := (some 60)) (v := .pointer (some ⟨w.heap.size + 1, 18 + k * 6, none⟩)) rfl (by rfl) (by kernel_rfl) (by kernel_rfl) (by kernel_rfl) (by kernel_rfl) (by kernel_rfl) hC (fun _ _ _ h => h) (.inl ⟨by rfl, fun w' _ => ?_⟩) hS fun hC' => ?_
          · go_simp
          replace hC := hC'
          clear hC'
          refine wpAnyT_pure (i := 12) (d := (some 61)) (v := .pointer (some ⟨w.heap.size + 1, 18 + k * 6 + j, none⟩)) rfl (by rfl) (by kernel_rfl) (by kernel_rfl) (by kernel_rfl) (by kernel_rfl) (by kernel_rfl) hC (fun _ _ _ h => h) (.inl ⟨by rfl, fun w' _ => ?_⟩) hS fun hC' => ?_
          · go_simp
          replace hC := hC'
          clear hC'
          refine wpAnyT_ever (i := 13) (d := (some 62)) (v := .int .i64 (b (18 + k * 6 + j))) rfl (by rfl) (by kernel_rfl) (by kernel_rfl) (by kernel_rfl) (by kernel_rfl) (by kernel_rfl) hC (fun _ _ _ h => h) (.inl ⟨by rfl, fun w' ⟨b', hw⟩ => ?_⟩) hS fun hC' => ?_
          · have h2 := hw.choose_spec.1.b (18 + k * 6 + j) (by omega)
            clear hw
            go_simp
          replace hC := hC'
          clear hC'
          refine wpAnyT_pure (i := 14) (d := (some 63)) (v := .int .i64 (mxI (a (18 + k * 6 + j)) (b (18 + k * 6 + j)))) rfl (by rfl) (by kernel_rfl) (by kernel_rfl) (by kernel_rfl) (by kernel_rfl) (by kernel_rfl) hC (fun _ _ _ h => h) (.inl ⟨by rfl, fun w' _ => ?_⟩) hS fun hC' => ?_
          · go_simp
            rfl
          replace hC := hC'
          clear hC'
          refine wpAnyT_pure (i := 15) (d := (some 64)) (v := .pointer (some ⟨w.heap.size, 18, none⟩)) rfl (by rfl) (by kernel_rfl) (by kernel_rfl) (by kernel_rfl) (by kernel_rfl) (by kernel_rfl) hC (fun _ _ _ h => h) (.inl ⟨by rfl, fun w' _ => ?_⟩) hS fun hC' => ?_
          · go_simp
          replace hC := hC'
          clear hC'
          refine wpAnyT_pure (i := 16) (d := (some 65)) (v := .pointer (some ⟨w.heap.size, 18 + k * 6, none⟩)) rfl (by rfl) (by kernel_rfl) (by kernel_rfl) (by kernel_rfl) (by kernel_rfl) (by kernel_rfl) hC (fun _ _ _ h => h) (.inl ⟨by rfl, fun w' _ => ?_⟩) hS fun hC' => ?_
          · go_simp
          replace hC := hC'
          clear hC'
          refine wpAnyT_pure (i := 17) (d := (some 66)) (v := .pointer (some ⟨w.heap.size, 18 + k * 6 + j, none⟩)) rfl (by rfl) (by kernel_rfl) (by kernel_rfl) (by kernel_rfl) (by kernel_rfl) (by kernel_rfl) hC (fun _ _ _ h => h) (.inl ⟨by rfl, fun w' _ => ?_⟩) hS fun hC' => ?_
          · go_simp
          replace hC := hC'
          clear hC'
          refine wpAnyT_one (i := 18) (b := true) (by kernel_rfl) (by kernel_rfl) (by rfl) (by rfl) hC fun K hK => ?_
          have hc := hJ.a (18 + k * 6 + j) (by omega)
          have hf := hJ.fr (18 + k * 6 + j)
          refine wp_store_cell 2 (.tmp 66) (.tmp 63) (by rfl) (by rfl) (w.heap.size) (18 + k * 6 + j) (.int .i64 (mxI (a (18 + k * 6 + j)) (b (18 + k * 6 + j)))) _ (by kernel_rfl) (by kernel_rfl) (by kernel_rfl) (by rfl) hc hf ?_
          have hJ := hJ.set (18 + k * 6 + j) (mxI (a (18 + k * 6 + j)) (b (18 + k * 6 + j)))
          have hS : JSb w w.heap.size (jt2 a b k j) b true _ := ⟨_, hJ, nofun⟩
          clear hc hf
          refine hK _ _ ⟨hS, fun hC' => ?_⟩
          replace hC := hC'
          clear hC' hK K
          refine wpAnyT_done (by kernel_rfl) ?_ _
          replace hJ := hJ.congr (fun i _ => jt2_step a b k j hk2 hj2 i)
          clear hS hC
          generalize wr.drew.setCell ⟨w.heap.size, 18 + k * 6 + j, none⟩ (.int .i64 (mxI (a (18 + k * 6 + j)) (b (18 + k * 6 + j)))) = w5 at *
          refine hK0 _ _ ?_
          clear hK0 K0 HJ
          have HJ3 : Hid (JS w w.heap.size (jt2 a b k (j + 1)) b w5) := hJ
          clear hJ
          go_wp2
          go_roundw
          case rel => exact ⟨j + 1, by omega, by go_num, HJ3.out⟩
          case measure => simp [intOf]; omega
        · obtain rfl : j = 6 := by omega
          have HJ3 : Hid (JS w w.heap.size (jt a b (k + 1)) b wr) := HJ.out.congr (fun i _ => jt2_end a b k i)
          clear HJ
          go_wp2
          go_roundw
          case rel => exact ⟨k + 1, by omega, by go_num, HJ3.out⟩
          case measure => simp [intOf]; omega
    · obtain rfl : k = 6 := by omega
      replace HJ : Hid (JS w w.heap.size (joinM a b) b wr) := HJ.out.congr (fun i hi => jt_end a b i hi)
      have H1 : Hid (wr.heap[w.heap.size]? = some (.cells (iarr .i64 54 (joinM a b)) 48 (0, 0))) := HJ.out.1
      have Hz : Hid (wr.heap[w.heap.size + 1 + 1]? = some (.cells (iarr .i64 54 zero) 48 (0, 0))) := HJ.out.2.2.1
      have hB := HJ.out.2.2.2
      clear HJ
      go_wp2_with (first
        | (refine wpList_load_row (o := ⟨some 69, _, _, _, _, _⟩) (by rfl) 48 (.tmp 2) (by rfl) w.heap.size (by rfl) 48 (iarr .i64 54 (joinM a b)) (0, 0) _ H1.out Try.underlying48 (by rfl) (by rw [iarr_size]; exact infoR) ?_)
        | (refine wpList_store_row (o := ⟨none, .store 48 (.tmp 4) (.tmp 69), _, _, _, _⟩) (by rfl) 48 (.tmp 4) (.tmp 69) (by rfl) (w.heap.size + 1 + 1) (iarr .i64 54 (joinM a b)) (by rfl) (by rfl) 48 (iarr .i64 54 zero) Hz.out (by rw [iarr_size]; exact infoR) (by rw [iarr_size, iarr_size]) (iarr_one _ _ _) ?_))
      have hend := turned_end hB (by omega) Hz.out (joinM a b)
      exact join_ret rfl rfl hend.1 hend.2
end Go.Proofs.Ytolmkjepieoloaa
