/-
  What the proof of the law rests on, part 2: walks of functions, and plain laws; each says its conditions itself.
-/
import Derived.Laws.MakeOwn
import Derived.Laws.BytesString
import Derived.Lib.SlBytesConst
import Derived.MapKept
import Derived.Maps.RangeRun
import Derived.Test.YtkajcjefckjijaaZD1
set_option maxHeartbeats 1600000
set_option linter.unusedVariables false
set_option linter.unusedSimpArgs false
namespace Go.Proofs.Ytkajcjefckjijaa
open Go.RowKit Rt
open Fx (x_move x_assign x_field x_load1 x_conv x_indexS x_index x_leqF x_loadA x_len x_gtrF x_eqlF x_eqlT Lv sN Ln Ws Qv Wl Rp Wc Qs Wr Sb Lk Wk rV sR Rs Rn Rd Rk Wb Wx Wo Wt Wone Qn Qcl Lcl Lbs Lap Lnw Lbx Stv cOs cOg sRf mRf gRf cRf oNl bGr Wro rv varr Blk ovr ev Stp ovr_all flat updV run_loadV Cel fill_step ret0 Chg i64e Arr flat_cong cells_agg cells_one ChT ovr_ones u64e appX fOne_out upd_all blkR blkN seqX blkX lpX lpN lpR retV2)
namespace Rt
def mayK (x : Nat → Int) (k : Nat) : Bool := (localM x k).2 && decide (0 ≤ (localM x k).1) && decide (F x k ≤ C x k) && (R x k k == 0)
def mayN (x : Nat → Int) : Nat → Bool
  | 0 => true
  | k + 1 => mayN x k && mayK x k
def gs (x : Nat → Int) : List Int := [x 0, x 1, x 2, x 3, x 4, x 5]
def may (x : Nat → Int) : Bool := mayN x 6 && ((sumI (gs x)).2 && decide ((sumI (gs x)).1 ≤ 1125899906842624))
theorem mayN_false (x : Nat → Int) (k : Nat) (h : mayK x k = false) : ∀ n, k < n → mayN x n = false
  | 0, hn => absurd hn (by omega)
  | n + 1, hn => by
    rw [mayN]
    by_cases e : k = n
    · subst e; rw [h, Bool.and_false]
    · rw [mayN_false x k h n (by omega), Bool.false_and]
theorem may_false (x : Nat → Int) (k : Nat) (hk : k < 6) (h : mayK x k = false) : may x = false := by
  unfold may; rw [mayN_false x k h 6 hk, Bool.false_and]
end Rt
theorem rd_gs {w : World} {g : Nat} {x : Nat → Int} {t : TypeId} {fz : Nat × Nat} (h : w.heap[g]? = some (.cells (iarr .i64 54 x) t fz)) : RdI .i64 w (some ⟨g, 0, none⟩) (gs x) := by
  intro i hi
  have hi6 : i < 6 := hi
  refine ⟨g, 0, rfl, ?_⟩
  rw [Nat.zero_add, iarr_cell h i (by omega)]
  rcases (show i = 0 ∨ i = 1 ∨ i = 2 ∨ i = 3 ∨ i = 4 ∨ i = 5 by omega) with rfl | rfl | rfl | rfl | rfl | rfl <;> rfl
set_option maxHeartbeats 1000000 in
theorem may_any (x : Nat → Int) (w : World) :
    Calls Try.prog 40 #[.agg (iarr .i64 54 x)] w fun e w' => e = .returned (.bool (may x)) ∧ Below w.heap.size w w' := by
  go_enter Try.func40, Try.ntmps40
  go_wp2
  go_loopw [2, 3, 8] (fun r _ i wr => r = .bool false ∧ ∃ k : Nat, k ≤ 6 ∧ i = .int .i64 k ∧ mayN x k = true ∧ wr.heap[w.heap.size]? = some (.cells (iarr .i64 54 x) 48 (0, 0)) ∧ Below w.heap.size w wr) (fun _ _ i _ => 6 - (intOf i).toNat)
  case atStart => exact ⟨rfl, 0, Nat.zero_le _, rfl, rfl, heap_alloc_new w _, (Below.refl _ _).alloc (Nat.le_refl _) _⟩
  case round =>
    obtain ⟨rfl, k, hk, rfl, hN, hrow, hbel⟩ := hrel
    have hlt : w.heap.size < wr.heap.size := (Array.getElem?_eq_some_iff.1 hrow).1
    have Hrow : Hid _ := hrow
    have HN : Hid _ := hN
    clear hrow hN
    by_cases hk2 : k < 6
    · have hki : (k : Int) < 6 := by omega
      have HM : Hid (mayN x (k + 1) = (mayN x k && mayK x k)) := rfl
      have HF : Hid (mayK x k = false → may x = false) := fun h => may_false x k hk2 h
      have HK : Hid (mayK x k = ((localM x k).2 && decide (0 ≤ (localM x k).1) && decide (F x k ≤ C x k) && (R x k k == 0))) := rfl
      go_wp2_with fail
      refine (local_any w.heap.size _ _ x k wr hk2 Hrow).mono ?_
      rintro e w1 ⟨rfl, hb1⟩
      have hrow1 := (hb1.block _ hlt).trans Hrow.out
      have hbel1 := hbel.trans (hb1.mono (Nat.le_of_lt hlt))
      have c1 := iarr_cell hrow1 (12 + k) (by omega)
      have c2 := iarr_cell hrow1 (6 + k) (by omega)
      have c3 := iarr_cell hrow1 (18 + k * 6 + k) (by omega)
      have Hrow1 : Hid _ := hrow1
      clear hrow1 Hrow hbel hb1
      generalize (localM x k).1 = n at *
      generalize hF : F x k = f at *
      generalize hC : C x k = c at *
      generalize hR : R x k k = r at *
      unfold F at hF; unfold C at hC; unfold R at hR
      rw [hF] at c1; rw [hC] at c2; rw [hR] at c3
      clear hF hC hR
      cases his : (localM x k).2
      · rw [his] at HK
        clear his
        have HR : Hid _ := HF.out (by rw [HK.out]; rfl)
        clear HK HF HM
        go_wp2_with fail
        go_quiet (fail)
        go_wp2
        go_ret
        rw [HR.out]; exact ⟨rfl, bN hbel1 _⟩
      · rw [his] at HK
        clear his
        by_cases h1 : n < 0
        · have d1 : decide (n < 0) = true := by simpa using h1
          have d1' : decide (0 ≤ n) = false := by simp; omega
          have HR : Hid _ := HF.out (by rw [HK.out]; rw [d1']; rfl)
          clear HK HF HM
          go_wp2_with fail
          go_quiet (fail)
          go_wp2
          go_ret
          rw [HR.out]; exact ⟨rfl, bN hbel1 _⟩
        · have d1 : decide (n < 0) = false := by simp; omega
          have d1' : Hid (decide (0 ≤ n) = true) := by unfold Hid; simp; omega
          by_cases h2 : c < f
          · have d2 : decide (c < f) = true := by simpa using h2
            have d2' : decide (f ≤ c) = false := by simp; omega
            have HR : Hid _ := HF.out (by rw [HK.out]; rw [d2', Bool.and_false, Bool.false_and])
            clear HK HF HM
            go_wp2_with fail
            go_quiet (fail)
            go_wp2
            go_ret
            rw [HR.out]; exact ⟨rfl, bN hbel1 _⟩
          · have d2 : decide (c < f) = false := by simp; omega
            have d2' : Hid (decide (f ≤ c) = true) := by unfold Hid; simp; omega
            by_cases h3 : r = 0
            · subst h3
              go_wp2_with fail
              go_quiet (fail)
              go_wp2
              go_roundw
              case rel => exact ⟨rfl, k + 1, by omega, by go_num, by rw [HM.out, HN.out, HK.out, d1'.out, d2'.out]; rfl, Hrow1.out, bN hbel1 _⟩
              case measure => simp [intOf]; omega
            · have d3 : (r != 0) = true := by simpa using h3
              have d3' : (r == 0) = false := by simpa using h3
              have HR : Hid _ := HF.out (by rw [HK.out]; rw [d3', Bool.and_false])
              clear HK HF HM
              go_wp2_with fail
              go_quiet (fail)
              go_wp2
              go_ret
              rw [HR.out]; exact ⟨rfl, bN hbel1 _⟩
    · obtain rfl : k = 6 := by omega
      have HV : Hid (may x = ((sumI (gs x)).2 && decide ((sumI (gs x)).1 ≤ 1125899906842624))) := by unfold Hid may; rw [HN.out, Bool.true_and]
      have hg : RdI .i64 wr (some ⟨w.heap.size, 0, none⟩) (gs x) := rd_gs Hrow.out
      have HL : Hid ((gs x).length = 6) := rfl
      generalize gs x = l at *
      clear HN
      go_wp2_with fail
      refine (sum_any _ 6 _ l _ (by omega) HL hg).mono ?_
      rintro e w1 ⟨rfl, rfl⟩
      generalize (sumI l).1 = n at *
      cases h : (sumI l).2
      · rw [h] at HV
        clear h
        go_wp2_with fail
        go_ret
        rw [HV.out]; exact ⟨rfl, hbel⟩
      · rw [h] at HV
        clear h
        go_wp2_with fail
        go_ret
        rw [HV.out]; exact ⟨rfl, hbel⟩
namespace Rt
theorem okN_bd {n : Int} (h : okN n = true) : 0 ≤ n ∧ n ≤ 1125899906842624 := by unfold okN at h; simpa using h
theorem sumI_ok {l : List Int} (h : (sumI l).2 = true) : sumOk l = true := by
  unfold sumI at h
  by_cases h2 : sumOk l = true
  · exact h2
  rw [if_neg h2] at h; exact absurd h (by decide)
theorem sumOk_mem {l : List Int} (h : sumOk l = true) {n : Int} (hn : n ∈ l) : 0 ≤ n ∧ n ≤ 1125899906842624 := by
  unfold sumOk at h
  rw [List.all_eq_true] at h
  exact okN_bd (h n hn)
theorem outs_mem (x : Nat → Int) (k : Nat) : ∀ j, C x k ∈ outs x k j
  | 0 => by simp [outs]
  | j + 1 => by rw [outs]; exact List.mem_append_left _ (outs_mem x k j)
theorem outs_memR (x : Nat → Int) (k i : Nat) : ∀ j, i < j → R x k i ∈ outs x k j
  | 0, h => absurd h (by omega)
  | j + 1, h => by
    rw [outs]
    by_cases e : i = j
    · subst e; simp
    · exact List.mem_append_left _ (outs_memR x k i j (by omega))
theorem ins_mem (x : Nat → Int) (k : Nat) : ∀ j, G x k ∈ ins x k j ∧ F x k ∈ ins x k j
  | 0 => by simp [ins]
  | j + 1 => by rw [ins]; exact ⟨List.mem_append_left _ (ins_mem x k j).1, List.mem_append_left _ (ins_mem x k j).2⟩
theorem mayN_at (x : Nat → Int) (k : Nat) : ∀ n, mayN x n = true → k < n → mayK x k = true
  | 0, _, hk => absurd hk (by omega)
  | n + 1, h, hk => by
    rw [mayN, Bool.and_eq_true] at h
    by_cases e : k = n
    · subst e; exact h.2
    · exact mayN_at x k n h.1 (by omega)
theorem may_mayK {x : Nat → Int} (h : may x = true) (k : Nat) (hk : k < 6) : mayK x k = true := by
  unfold may at h; rw [Bool.and_eq_true] at h; exact mayN_at x k 6 h.1 hk
structure KOk (x : Nat → Int) (k : Nat) : Prop where
  g : 0 ≤ G x k ∧ G x k ≤ 1125899906842624
  c : 0 ≤ C x k ∧ C x k ≤ 1125899906842624
  f : 0 ≤ F x k ∧ F x k ≤ 1125899906842624
  fc : F x k ≤ C x k
  r : ∀ i, i < 6 → 0 ≤ R x k i ∧ R x k i ≤ 1125899906842624
  l : 0 ≤ (localM x k).1
  rkk : R x k k = 0
  l2 : (localM x k).2 = true
theorem mayK_ok {x : Nat → Int} {k : Nat} (h : mayK x k = true) : KOk x k := by
  unfold mayK at h
  rw [Bool.and_eq_true, Bool.and_eq_true, Bool.and_eq_true] at h
  obtain ⟨⟨⟨h1, h2⟩, h3⟩, h4⟩ := h
  have h1' := h1
  unfold localM at h1
  rw [Bool.and_eq_true] at h1
  have ho := sumI_ok h1.1
  have hi := sumI_ok h1.2
  exact ⟨sumOk_mem hi (ins_mem x k 6).1, sumOk_mem ho (outs_mem x k 6), sumOk_mem hi (ins_mem x k 6).2, by simpa using h3, fun i hi' => sumOk_mem ho (outs_memR x k i 6 hi'), by simpa using h2, by simpa using h4, h1'⟩
theorem may_ok {x : Nat → Int} (h : may x = true) (k : Nat) (hk : k < 6) : KOk x k := mayK_ok (may_mayK h k hk)
end Rt
theorem infoR : (Try.prog.info? 48).map (·.size) = some 54 := by kernel_rfl
namespace Rt
def zero : Nat → Int := fun _ => 0
end Rt
theorem zeros54 (T : TypeId) (fz : Nat × Nat) : Obj.cells (iarr .i64 54 zero) T fz = .cells #[.int .i64 0, .int .i64 0, .int .i64 0, .int .i64 0, .int .i64 0, .int .i64 0, .int .i64 0, .int .i64 0, .int .i64 0, .int .i64 0, .int .i64 0, .int .i64 0, .int .i64 0, .int .i64 0, .int .i64 0, .int .i64 0, .int .i64 0, .int .i64 0, .int .i64 0, .int .i64 0, .int .i64 0, .int .i64 0, .int .i64 0, .int .i64 0, .int .i64 0, .int .i64 0, .int .i64 0, .int .i64 0, .int .i64 0, .int .i64 0, .int .i64 0, .int .i64 0, .int .i64 0, .int .i64 0, .int .i64 0, .int .i64 0, .int .i64 0, .int .i64 0, .int .i64 0, .int .i64 0, .int .i64 0, .int .i64 0, .int .i64 0, .int .i64 0, .int .i64 0, .int .i64 0, .int .i64 0, .int .i64 0, .int .i64 0, .int .i64 0, .int .i64 0, .int .i64 0, .int .i64 0, .int .i64 0] T fz := by rfl
theorem turned_end {w w1 : World} {B g : Nat} {old : Array Value} (hb : Below B w w1) (hB : B ≤ g) (hz : w1.heap[g]? = some (.cells old 48 (0, 0))) (y : Nat → Int) :
    (w1.setRow g (iarr .i64 54 y)).heap[g]? = some (.cells (iarr .i64 54 y) 48 (0, 0)) ∧ Below B w (w1.setRow g (iarr .i64 54 y)) :=
  ⟨setRow_heap _ _ _ _ _ _ hz, brow hb hB⟩
section
namespace Rt
def mxI (a b : Int) : Int := if a < b then b else a
def joinM (a b : Nat → Int) : Nat → Int := fun p => mxI (a p) (b p)
def own (p : Nat) : Nat := if p < 6 then p else if p < 12 then p - 6 else if p < 18 then p - 12 else (p - 18) / 6
def jt (a b : Nat → Int) (k : Nat) : Nat → Int := fun p => if own p < k then mxI (a p) (b p) else a p
def jt2 (a b : Nat → Int) (k j : Nat) : Nat → Int := fun p => if own p < k ∨ (own p = k ∧ (p < 18 ∨ (p - 18) % 6 < j)) then mxI (a p) (b p) else a p
theorem jt_zero (a b : Nat → Int) : jt a b 0 = a := by funext p; unfold jt; rw [if_neg (by omega)]
theorem jt_end (a b : Nat → Int) (p : Nat) (hp : p < 54) : jt a b 6 p = joinM a b p := by
  unfold jt joinM own; rw [if_pos]; split
  · omega
  split
  · omega
  split <;> omega
theorem jt2_start (a b : Nat → Int) (k : Nat) (hk : k < 6) (p : Nat) :
    upd (upd (upd (jt a b k) k (mxI (a k) (b k))) (6 + k) (mxI (a (6 + k)) (b (6 + k)))) (12 + k) (mxI (a (12 + k)) (b (12 + k))) p = jt2 a b k 0 p := by
  unfold upd jt2 jt own
  repeat' split
  all_goals first | rfl | omega | (subst_vars; first | rfl | omega)
theorem jt2_step (a b : Nat → Int) (k j : Nat) (hk : k < 6) (hj : j < 6) (p : Nat) :
    upd (jt2 a b k j) (18 + k * 6 + j) (mxI (a (18 + k * 6 + j)) (b (18 + k * 6 + j))) p = jt2 a b k (j + 1) p := by
  unfold upd jt2 own
  repeat' split
  all_goals first | rfl | omega | (subst_vars; first | rfl | omega)
theorem jt2_end (a b : Nat → Int) (k : Nat) (p : Nat) : jt2 a b k 6 p = jt a b (k + 1) p := by
  unfold jt2 jt own
  repeat' split
  all_goals first | rfl | omega
theorem jt_at (a b : Nat → Int) (k p : Nat) (h : own p = k) : jt a b k p = a p := by unfold jt; rw [if_neg (by omega)]
theorem jt2_at (a b : Nat → Int) (k j : Nat) (hj : j < 6) : jt2 a b k j (18 + k * 6 + j) = a (18 + k * 6 + j) := by
  unfold jt2 own; rw [if_neg]; rw [if_neg (by omega), if_neg (by omega), if_neg (by omega)]; omega
end Rt
def JS (w0 : World) (g : Nat) (x y : Nat → Int) (w' : World) : Prop := w'.heap[g]? = some (.cells (iarr .i64 54 x) 48 (0, 0)) ∧ w'.heap[g + 1]? = some (.cells (iarr .i64 54 y) 48 (0, 0)) ∧ w'.heap[g + 1 + 1]? = some (.cells (iarr .i64 54 zero) 48 (0, 0)) ∧ Below g w0 w'
theorem JS.drew {w0 w : World} {g : Nat} {x y : Nat → Int} (h : JS w0 g x y w) : JS w0 g x y w.drew := ⟨h.1, h.2.1, h.2.2.1, bN h.2.2.2 1⟩
theorem JS.a {w0 w : World} {g : Nat} {x y : Nat → Int} (h : JS w0 g x y w) (i : Nat) (hi : i < 54) : w.cell? ⟨g, i, none⟩ = some (.int .i64 (x i)) := iarr_cell h.1 i hi
theorem JS.b {w0 w : World} {g : Nat} {x y : Nat → Int} (h : JS w0 g x y w) (i : Nat) (hi : i < 54) : w.cell? ⟨g + 1, i, none⟩ = some (.int .i64 (y i)) := iarr_cell h.2.1 i hi
theorem JS.fr {w0 w : World} {g : Nat} {x y : Nat → Int} (h : JS w0 g x y w) (i : Nat) : w.frozen? ⟨g, i, none⟩ = false := frozen_of_row w g i _ _ h.1
theorem JS.set {w0 w : World} {g : Nat} {x y : Nat → Int} (h : JS w0 g x y w) (i : Nat) (v : Int) : JS w0 g (upd x i v) y (w.setCell ⟨g, i, none⟩ (.int .i64 v)) := by
  obtain ⟨a, b, z, c⟩ := h
  refine ⟨?_, ?_, ?_, ?_⟩
  · rw [heap_setCell_same _ _ _ _ _ _ a, iarr_set]
  · rw [heap_setCell_other _ _ _ _ (by simp)]; exact b
  · rw [heap_setCell_other _ _ _ _ (by simp; omega)]; exact z
  exact c.setCell (Nat.le_refl _) _
theorem JS.congr {w0 w : World} {g : Nat} {x y x' : Nat → Int} (h : JS w0 g x y w) (hx : ∀ i, i < 54 → x i = x' i) : JS w0 g x' y w := by
  unfold JS at *; rw [← iarr_congr hx]; exact h
def JSb (w0 : World) (g : Nat) (x y : Nat → Int) (b : Bool) (w' : World) : Prop := ∃ x', JS w0 g x' y w' ∧ (b = false → x' = x)
theorem JSb.a {w0 w : World} {g : Nat} {x y : Nat → Int} (h : JSb w0 g x y false w) (i : Nat) (hi : i < 54) : w.cell? ⟨g, i, none⟩ = some (.int .i64 (x i)) := by
  obtain ⟨x', h, e⟩ := h
  rw [← e rfl]; exact h.a i hi
theorem results_cell {P : Program} {fn : Func} {p : Tmp} {ty : TypeId} (h : fn.results = #[.cell p ty]) (tmps : Array Value) (w : World) (g : Nat) (t : TypeId) (cs : Array Value) (fr : Nat × Nat) (d : TypeDesc)
    (hp : tmps.getD p undef = .pointer (some ⟨g, 0, none⟩)) (hg : w.heap[g]? = some (.cells cs t fr))
    (hu : P.underlying ty = some d) (hd : (match d with | .struct _ | .array _ _ => true | _ => false) = true) (hi : (P.info? ty).map (·.size) = some cs.size) :
    (results fn tmps).run P w = .ok (.agg cs) w := by
  have hp' : tmps[p]?.getD undef = .pointer (some ⟨g, 0, none⟩) := by simpa using hp
  simp [results, h, hp', asAddr, run_loadVar_row w g t ty cs fr d hg hu hd hi]
theorem join_ret {y : Nat → Int} {w w1 : World} {a : Act} {g : Nat} (hd : a.defers = [])
    (hp : a.tmps.getD 4 undef = .pointer (some ⟨g, 0, none⟩)) (hg : w1.heap[g]? = some (.cells (iarr .i64 54 y) 48 (0, 0))) (hb : Below w.heap.size w w1) :
    bodyPost Try.prog Try.f61 (fun e w' => e = .returned (.agg (iarr .i64 54 y)) ∧ Below w.heap.size w w') .ret a w1 :=
  bodyPost_ret (v := .agg (iarr .i64 54 y)) (by rw [results_cell rfl a.tmps w1 g 48 _ (0, 0) _ hp hg Try.underlying48 rfl (by rw [iarr_size]; exact infoR)]) hd ⟨rfl, hb⟩
attribute [local irreducible] Oper.wp wpList Code.wp
set_option maxRecDepth 100000 in
set_option maxHeartbeats 4000000 in
theorem join_any (a b : Nat → Int) (w : World) :
    Calls Try.prog 61 #[.agg (iarr .i64 54 a), .agg (iarr .i64 54 b)] w fun e w' => e = .returned (.agg (iarr .i64 54 (joinM a b))) ∧ Below w.heap.size w w' := by
  go_enter Try.func61, Try.ntmps61
  go_wp2
  go_loopw [5, 6, 7, 46] (fun _ _ i _ wr => ∃ k : Nat, k ≤ 6 ∧ i = .int .i64 k ∧ JS w w.heap.size (jt a b k) b wr) (fun _ _ i _ _ => 6 - (intOf i).toNat)
  case atStart =>
    rw [← zeros54]
    refine ⟨0, by omega, rfl, ?_⟩
    rw [jt_zero]
    refine ⟨?_, ?_, ?_, ?_⟩
    · simp only [alloc_at, alloc_size]; (repeat rw [if_neg (by omega)]); simp only [if_true]
    · simp only [alloc_at, alloc_size]; (repeat rw [if_neg (by omega)]); simp only [if_true]
    · simp only [alloc_at, alloc_size]; simp only [if_true]
    · exact (((Below.refl _ _).alloc (Nat.le_refl _) _).alloc (by simp) _).alloc (by simp; omega) _
  case round =>
    obtain ⟨k, hk, rfl, hJ⟩ := hrel
    have HJ : Hid (JS w w.heap.size (jt a b k) b wr) := hJ
    clear hJ
    by_cases hk2 : k < 6
    · have hki : (k : Int) < 6 := by omega
      have ok0 : own k = k := by unfold own; rw [if_pos hk2]
      have ok6 : own (6 + k) = k := by unfold own; rw [if_neg (by omega), if_pos (by omega)]; omega
      have ok12 : own (12 + k) = k := by unfold own; rw [if_neg (by omega), if_neg (by omega), if_pos (by omega)]; omega
      go_upto_region 4 with (fail)
      rename_i K0 hK0
      refine wp_region_T [32, 35, 38] (JSb w w.heap.size (jt a b k) b) (by kernel_rfl) fun hC => ?_
      have hJ := HJ.out.drew
      have hS : JSb w w.heap.size (jt a b k) b false wr.drew := ⟨_, hJ, fun _ => rfl⟩
      refine wpAnyT_pure (i := 0) (d := (some 10)) (v := .int .i64 (k : Int)) rfl (by rfl) (by kernel_rfl) (by kernel_rfl) (by kernel_rfl) (by kernel_rfl) (by kernel_rfl) hC (fun _ _ _ h => h) (.inl ⟨by rfl, fun w' _ => ?_⟩) hS fun hC' => ?_
      · go_simp
      replace hC := hC'
      clear hC'
      refine wpAnyT_pure (i := 1) (d := (some 11)) (v := .int .i64 (k : Int)) rfl (by rfl) (by kernel_rfl) (by kernel_rfl) (by kernel_rfl) (by kernel_rfl) (by kernel_rfl) hC (fun _ _ _ h => h) (.inl ⟨by rfl, fun w' _ => ?_⟩) hS fun hC' => ?_
      · go_simp
      replace hC := hC'
      clear hC'
      refine wpAnyT_pure (i := 2) (d := (some 12)) (v := .int .i64 (k : Int)) rfl (by rfl) (by kernel_rfl) (by kernel_rfl) (by kernel_rfl) (by kernel_rfl) (by kernel_rfl) hC (fun _ _ _ h => h) (.inl ⟨by rfl, fun w' _ => ?_⟩) hS fun hC' => ?_
      · go_simp
      replace hC := hC'
      clear hC'
      refine wpAnyT_pure (i := 3) (d := (some 13)) (v := .int .i64 (k : Int)) rfl (by rfl) (by kernel_rfl) (by kernel_rfl) (by kernel_rfl) (by kernel_rfl) (by kernel_rfl) hC (fun _ _ _ h => h) (.inl ⟨by rfl, fun w' _ => ?_⟩) hS fun hC' => ?_
      · go_simp
      replace hC := hC'
      clear hC'
      refine wpAnyT_pure (i := 4) (d := (some 14)) (v := .pointer (some ⟨w.heap.size, 0, none⟩)) rfl (by rfl) (by kernel_rfl) (by kernel_rfl) (by kernel_rfl) (by kernel_rfl) (by kernel_rfl) hC (fun _ _ _ h => h) (.inl ⟨by rfl, fun w' _ => ?_⟩) hS fun hC' => ?_
      · go_simp
      replace hC := hC'
      clear hC'
      refine wpAnyT_pure (i := 5) (d := (some 15)) (v := .pointer (some ⟨w.heap.size, k, none⟩)) rfl (by rfl) (by kernel_rfl) (by kernel_rfl) (by kernel_rfl) (by kernel_rfl) (by kernel_rfl) hC (fun _ _ _ h => h) (.inl ⟨by rfl, fun w' _ => ?_⟩) hS fun hC' => ?_
      · go_simp
      replace hC := hC'
      clear hC'
      refine wpAnyT_load (i := 6) (d := (some 16)) (v := .int .i64 (a (k))) rfl (by rfl) (by kernel_rfl) (by kernel_rfl) (by kernel_rfl) (by kernel_rfl) (by kernel_rfl) (by kernel_rfl) hC (fun _ _ _ h => h) (.inl ⟨by rfl, fun w' hw => ?_⟩) hS fun hC' => ?_
      · have h2 := (JSb.a hw) (k) (by omega)
        rw [jt_at a b k _ ok0] at h2
        clear hw
        go_simp
      replace hC := hC'
      clear hC'
      refine wpAnyT_pure (i := 7) (d := (some 17)) (v := .int .i64 (k : Int)) rfl (by rfl) (by kernel_rfl) (by kernel_rfl) (by kernel_rfl) (by kernel_rfl) (by kernel_rfl) hC (fun _ _ _ h => h) (.inl ⟨by rfl, fun w' _ => ?_⟩) hS fun hC' => ?_
      · go_simp
      replace hC := hC'
      clear hC'
      refine wpAnyT_pure (i := 8) (d := (some 18)) (v := .pointer (some ⟨w.heap.size + 1, 0, none⟩)) rfl (by rfl) (by kernel_rfl) (by kernel_rfl) (by kernel_rfl) (by kernel_rfl) (by kernel_rfl) hC (fun _ _ _ h => h) (.inl ⟨by rfl, fun w' _ => ?_⟩) hS fun hC' => ?_
      · go_simp
      replace hC := hC'
      clear hC'
      refine wpAnyT_pure (i := 9) (d := (some 19)) (v := .pointer (some ⟨w.heap.size + 1, k, none⟩)) rfl (by rfl) (by kernel_rfl) (by kernel_rfl) (by kernel_rfl) (by kernel_rfl) (by kernel_rfl) hC (fun _ _ _ h => h) (.inl ⟨by rfl, fun w' _ => ?_⟩) hS fun hC' => ?_
      · go_simp
      replace hC := hC'
      clear hC'
      refine wpAnyT_ever (i := 10) (d := (some 20)) (v := .int .i64 (b (k))) rfl (by rfl) (by kernel_rfl) (by kernel_rfl) (by kernel_rfl) (by kernel_rfl) (by kernel_rfl) hC (fun _ _ _ h => h) (.inl ⟨by rfl, fun w' ⟨b', hw⟩ => ?_⟩) hS fun hC' => ?_
      · have h2 := hw.choose_spec.1.b (k) (by omega)
        clear hw
        go_simp
      replace hC := hC'
      clear hC'
      refine wpAnyT_pure (i := 11) (d := (some 21)) (v := .int .i64 (mxI (a (k)) (b (k)))) rfl (by rfl) (by kernel_rfl) (by kernel_rfl) (by kernel_rfl) (by kernel_rfl) (by kernel_rfl) hC (fun _ _ _ h => h) (.inl ⟨by rfl, fun w' _ => ?_⟩) hS fun hC' => ?_
      · go_simp
        rfl
      replace hC := hC'
      clear hC'
      refine wpAnyT_pure (i := 12) (d := (some 22)) (v := .int .i64 (k : Int)) rfl (by rfl) (by kernel_rfl) (by kernel_rfl) (by kernel_rfl) (by kernel_rfl) (by kernel_rfl) hC (fun _ _ _ h => h) (.inl ⟨by rfl, fun w' _ => ?_⟩) hS fun hC' => ?_
      · go_simp
      replace hC := hC'
      clear hC'
      refine wpAnyT_pure (i := 13) (d := (some 23)) (v := .pointer (some ⟨w.heap.size, 6, none⟩)) rfl (by rfl) (by kernel_rfl) (by kernel_rfl) (by kernel_rfl) (by kernel_rfl) (by kernel_rfl) hC (fun _ _ _ h => h) (.inl ⟨by rfl, fun w' _ => ?_⟩) hS fun hC' => ?_
      · go_simp
      replace hC := hC'
      clear hC'
      refine wpAnyT_pure (i := 14) (d := (some 24)) (v := .pointer (some ⟨w.heap.size, 6 + k, none⟩)) rfl (by rfl) (by kernel_rfl) (by kernel_rfl) (by kernel_rfl) (by kernel_rfl) (by kernel_rfl) hC (fun _ _ _ h => h) (.inl ⟨by rfl, fun w' _ => ?_⟩) hS fun hC' => ?_
      · go_simp
      replace hC := hC'
      clear hC'
      refine wpAnyT_load (i := 15) (d := (some 25)) (v := .int .i64 (a (6 + k))) rfl (by rfl) (by kernel_rfl) (by kernel_rfl) (by kernel_rfl) (by kernel_rfl) (by kernel_rfl) (by kernel_rfl) hC (fun _ _ _ h => h) (.inl ⟨by rfl, fun w' hw => ?_⟩) hS fun hC' => ?_
      · have h2 := (JSb.a hw) (6 + k) (by omega)
        rw [jt_at a b k _ ok6] at h2
        clear hw
        go_simp
      replace hC := hC'
      clear hC'
      refine wpAnyT_pure (i := 16) (d := (some 26)) (v := .int .i64 (k : Int)) rfl (by rfl) (by kernel_rfl) (by kernel_rfl) (by kernel_rfl) (by kernel_rfl) (by kernel_rfl) hC (fun _ _ _ h => h) (.inl ⟨by rfl, fun w' _ => ?_⟩) hS fun hC' => ?_
      · go_simp
      replace hC := hC'
      clear hC'
      refine wpAnyT_pure (i := 17) (d := (some 27)) (v := .pointer (some ⟨w.heap.size + 1, 6, none⟩)) rfl (by rfl) (by kernel_rfl) (by kernel_rfl) (by kernel_rfl) (by kernel_rfl) (by kernel_rfl) hC (fun _ _ _ h => h) (.inl ⟨by rfl, fun w' _ => ?_⟩) hS fun hC' => ?_
      · go_simp
      replace hC := hC'
      clear hC'
      refine wpAnyT_pure (i := 18) (d := (some 28)) (v := .pointer (some ⟨w.heap.size + 1, 6 + k, none⟩)) rfl (by rfl) (by kernel_rfl) (by kernel_rfl) (by kernel_rfl) (by kernel_rfl) (by kernel_rfl) hC (fun _ _ _ h => h) (.inl ⟨by rfl, fun w' _ => ?_⟩) hS fun hC' => ?_
      · go_simp
      replace hC := hC'
      clear hC'
      refine wpAnyT_ever (i := 19) (d := (some 29)) (v := .int .i64 (b (6 + k))) rfl (by rfl) (by kernel_rfl) (by kernel_rfl) (by kernel_rfl) (by kernel_rfl) (by kernel_rfl) hC (fun _ _ _ h => h) (.inl ⟨by rfl, fun w' ⟨b', hw⟩ => ?_⟩) hS fun hC' => ?_
      · have h2 := hw.choose_spec.1.b (6 + k) (by omega)
        clear hw
        go_simp
      replace hC := hC'
      clear hC'
      refine wpAnyT_pure (i := 20) (d := (some 30)) (v := .int .i64 (mxI (a (6 + k)) (b (6 + k)))) rfl (by rfl) (by kernel_rfl) (by kernel_rfl) (by kernel_rfl) (by kernel_rfl) (by kernel_rfl) hC (fun _ _ _ h => h) (.inl ⟨by rfl, fun w' _ => ?_⟩) hS fun hC' => ?_
      · go_simp
        rfl
      replace hC := hC'
      clear hC'
      refine wpAnyT_pure (i := 21) (d := (some 31)) (v := .int .i64 (k : Int)) rfl (by rfl) (by kernel_rfl) (by kernel_rfl) (by kernel_rfl) (by kernel_rfl) (by kernel_rfl) hC (fun _ _ _ h => h) (.inl ⟨by rfl, fun w' _ => ?_⟩) hS fun hC' => ?_
      · go_simp
      replace hC := hC'
      clear hC'
      refine wpAnyT_pure (i := 22) (d := (some 32)) (v := .pointer (some ⟨w.heap.size, 12, none⟩)) rfl (by rfl) (by kernel_rfl) (by kernel_rfl) (by kernel_rfl) (by kernel_rfl) (by kernel_rfl) hC (fun _ _ _ h => h) (.inl ⟨by rfl, fun w' _ => ?_⟩) hS fun hC' => ?_
      · go_simp
      replace hC := hC'
      clear hC'
      refine wpAnyT_pure (i := 23) (d := (some 33)) (v := .pointer (some ⟨w.heap.size, 12 + k, none⟩)) rfl (by rfl) (by kernel_rfl) (by kernel_rfl) (by kernel_rfl) (by kernel_rfl) (by kernel_rfl) hC (fun _ _ _ h => h) (.inl ⟨by rfl, fun w' _ => ?_⟩) hS fun hC' => ?_
      · go_simp
      replace hC := hC'
      clear hC'
      refine wpAnyT_load (i := 24) (d := (some 34)) (v := .int .i64 (a (12 + k))) rfl (by rfl) (by kernel_rfl) (by kernel_rfl) (by kernel_rfl) (by kernel_rfl) (by kernel_rfl) (by kernel_rfl) hC (fun _ _ _ h => h) (.inl ⟨by rfl, fun w' hw => ?_⟩) hS fun hC' => ?_
      · have h2 := (JSb.a hw) (12 + k) (by omega)
        rw [jt_at a b k _ ok12] at h2
        clear hw
        go_simp
      replace hC := hC'
      clear hC'
      refine wpAnyT_pure (i := 25) (d := (some 35)) (v := .int .i64 (k : Int)) rfl (by rfl) (by kernel_rfl) (by kernel_rfl) (by kernel_rfl) (by kernel_rfl) (by kernel_rfl) hC (fun _ _ _ h => h) (.inl ⟨by rfl, fun w' _ => ?_⟩) hS fun hC' => ?_
      · go_simp
      replace hC := hC'
      clear hC'
      refine wpAnyT_pure (i := 26) (d := (some 36)) (v := .pointer (some ⟨w.heap.size + 1, 12, none⟩)) rfl (by rfl) (by kernel_rfl) (by kernel_rfl) (by kernel_rfl) (by kernel_rfl) (by kernel_rfl) hC (fun _ _ _ h => h) (.inl ⟨by rfl, fun w' _ => ?_⟩) hS fun hC' => ?_
      · go_simp
      replace hC := hC'
      clear hC'
      refine wpAnyT_pure (i := 27) (d := (some 37)) (v := .pointer (some ⟨w.heap.size + 1, 12 + k, none⟩)) rfl (by rfl) (by kernel_rfl) (by kernel_rfl) (by kernel_rfl) (by kernel_rfl) (by kernel_rfl) hC (fun _ _ _ h => h) (.inl ⟨by rfl, fun w' _ => ?_⟩) hS fun hC' => ?_
      · go_simp
      replace hC := hC'
      clear hC'
      refine wpAnyT_ever (i := 28) (d := (some 38)) (v := .int .i64 (b (12 + k))) rfl (by rfl) (by kernel_rfl) (by kernel_rfl) (by kernel_rfl) (by kernel_rfl) (by kernel_rfl) hC (fun _ _ _ h => h) (.inl ⟨by rfl, fun w' ⟨b', hw⟩ => ?_⟩) hS fun hC' => ?_
      · have h2 := hw.choose_spec.1.b (12 + k) (by omega)
        clear hw
        go_simp
      replace hC := hC'
      clear hC'
      refine wpAnyT_pure (i := 29) (d := (some 39)) (v := .int .i64 (mxI (a (12 + k)) (b (12 + k)))) rfl (by rfl) (by kernel_rfl) (by kernel_rfl) (by kernel_rfl) (by kernel_rfl) (by kernel_rfl) hC (fun _ _ _ h => h) (.inl ⟨by rfl, fun w' _ => ?_⟩) hS fun hC' => ?_
      · go_simp
        rfl
      replace hC := hC'
      clear hC'
      refine wpAnyT_pure (i := 30) (d := (some 40)) (v := .pointer (some ⟨w.heap.size, 0, none⟩)) rfl (by rfl) (by kernel_rfl) (by kernel_rfl) (by kernel_rfl) (by kernel_rfl) (by kernel_rfl) hC (fun _ _ _ h => h) (.inl ⟨by rfl, fun w' _ => ?_⟩) hS fun hC' => ?_
      · go_simp
      replace hC := hC'
      clear hC'
      refine wpAnyT_pure (i := 33) (d := (some 42)) (v := .pointer (some ⟨w.heap.size, 6, none⟩)) rfl (by rfl) (by kernel_rfl) (by kernel_rfl) (by kernel_rfl) (by kernel_rfl) (by kernel_rfl) hC (fun _ _ _ h => h) (.inl ⟨by rfl, fun w' _ => ?_⟩) hS fun hC' => ?_
      · go_simp
      replace hC := hC'
      clear hC'
      refine wpAnyT_pure (i := 36) (d := (some 44)) (v := .pointer (some ⟨w.heap.size, 12, none⟩)) rfl (by rfl) (by kernel_rfl) (by kernel_rfl) (by kernel_rfl) (by kernel_rfl) (by kernel_rfl) hC (fun _ _ _ h => h) (.inl ⟨by rfl, fun w' _ => ?_⟩) hS fun hC' => ?_
      · go_simp
      replace hC := hC'
      clear hC'
      refine wpAnyT_pure (i := 31) (d := (some 41)) (v := .pointer (some ⟨w.heap.size, k, none⟩)) rfl (by rfl) (by kernel_rfl) (by kernel_rfl) (by kernel_rfl) (by kernel_rfl) (by kernel_rfl) hC (fun _ _ _ h => h) (.inl ⟨by rfl, fun w' _ => ?_⟩) hS fun hC' => ?_
      · go_simp
      replace hC := hC'
      clear hC'
      refine wpAnyT_one (i := 32) (b := true) (by kernel_rfl) (by kernel_rfl) (by rfl) (by rfl) hC fun K hK => ?_
      have hc := hJ.a (k) (by omega)
      have hf := hJ.fr (k)
      refine wp_store_cell 2 (.tmp 41) (.tmp 21) (by rfl) (by rfl) (w.heap.size) (k) (.int .i64 (mxI (a (k)) (b (k)))) _ (by kernel_rfl) (by kernel_rfl) (by kernel_rfl) (by rfl) hc hf ?_
      have hJ := hJ.set (k) (mxI (a (k)) (b (k)))
      have hS : JSb w w.heap.size (jt a b k) b true _ := ⟨_, hJ, nofun⟩
      clear hc hf
      refine hK _ _ ⟨hS, fun hC' => ?_⟩
      replace hC := hC'
      clear hC' hK K
      refine wpAnyT_pure (i := 34) (d := (some 43)) (v := .pointer (some ⟨w.heap.size, 6 + k, none⟩)) rfl (by rfl) (by kernel_rfl) (by kernel_rfl) (by kernel_rfl) (by kernel_rfl) (by kernel_rfl) hC (fun _ _ _ h => h) (.inl ⟨by rfl, fun w' _ => ?_⟩) hS fun hC' => ?_
      · go_simp
      replace hC := hC'
      clear hC'
      refine wpAnyT_one (i := 35) (b := true) (by kernel_rfl) (by kernel_rfl) (by rfl) (by rfl) hC fun K hK => ?_
      have hc := hJ.a (6 + k) (by omega)
      have hf := hJ.fr (6 + k)
      refine wp_store_cell 2 (.tmp 43) (.tmp 30) (by rfl) (by rfl) (w.heap.size) (6 + k) (.int .i64 (mxI (a (6 + k)) (b (6 + k)))) _ (by kernel_rfl) (by kernel_rfl) (by kernel_rfl) (by rfl) hc hf ?_
      have hJ := hJ.set (6 + k) (mxI (a (6 + k)) (b (6 + k)))
      have hS : JSb w w.heap.size (jt a b k) b true _ := ⟨_, hJ, nofun⟩
      clear hc hf
      refine hK _ _ ⟨hS, fun hC' => ?_⟩
      replace hC := hC'
      clear hC' hK K
      refine wpAnyT_pure (i := 37) (d := (some 45)) (v := .pointer (some ⟨w.heap.size, 12 + k, none⟩)) rfl (by rfl) (by kernel_rfl) (by kernel_rfl) (by kernel_rfl) (by kernel_rfl) (by kernel_rfl) hC (fun _ _ _ h => h) (.inl ⟨by rfl, fun w' _ => ?_⟩) hS fun hC' => ?_
      · go_simp
      replace hC := hC'
      clear hC'
      refine wpAnyT_one (i := 38) (b := true) (by kernel_rfl) (by kernel_rfl) (by rfl) (by rfl) hC fun K hK => ?_
      have hc := hJ.a (12 + k) (by omega)
      have hf := hJ.fr (12 + k)
      refine wp_store_cell 2 (.tmp 45) (.tmp 39) (by rfl) (by rfl) (w.heap.size) (12 + k) (.int .i64 (mxI (a (12 + k)) (b (12 + k)))) _ (by kernel_rfl) (by kernel_rfl) (by kernel_rfl) (by rfl) hc hf ?_
      have hJ := hJ.set (12 + k) (mxI (a (12 + k)) (b (12 + k)))
      have hS : JSb w w.heap.size (jt a b k) b true _ := ⟨_, hJ, nofun⟩
      clear hc hf
      refine hK _ _ ⟨hS, fun hC' => ?_⟩
      replace hC := hC'
      clear hC' hK K
      refine wpAnyT_done (by kernel_rfl) ?_ _
      replace hJ := hJ.congr (fun i _ => jt2_start a b k hk2 i)
      clear hS hC
      generalize (((wr.drew.setCell ⟨w.heap.size, k, none⟩ (.int .i64 (mxI (a k) (b k)))).setCell ⟨w.heap.size, 6 + k, none⟩ (.int .i64 (mxI (a (6 + k)) (b (6 + k))))).setCell ⟨w.heap.size, 12 + k, none⟩ (.int .i64 (mxI (a (12 + k)) (b (12 + k))))) = w4 at *
      refine hK0 _ _ ?_
      clear hK0 K0 HJ
      have HJ2 : Hid (JS w w.heap.size (jt2 a b k 0) b w4) := hJ
      clear hJ ok0 ok6 ok12
      go_wp2
      go_loopw [6, 46] (fun _ i wq => ∃ j : Nat, j ≤ 6 ∧ i = .int .i64 j ∧ JS w w.heap.size (jt2 a b k j) b wq) (fun _ i _ => 6 - (intOf i).toNat)
      case atStart => exact ⟨0, by omega, rfl, HJ2.out⟩
      case round =>
        obtain ⟨j, hj, rfl, hJ⟩ := hrel
        have HJ : Hid (JS w w.heap.size (jt2 a b k j) b wr) := hJ
        clear hJ HJ2
        by_cases hj2 : j < 6
        · have hji : (j : Int) < 6 := by omega
          go_upto_region 8 with (fail)
          rename_i K0 hK0
          refine wp_region_T [18] (JSb w w.heap.size (jt2 a b k j) b) (by kernel_rfl) fun hC => ?_
          have hJ := HJ.out.drew
          have hS : JSb w w.heap.size (jt2 a b k j) b false wr.drew := ⟨_, hJ, fun _ => rfl⟩
          refine wpAnyT_pure (i := 0) (d := (some 49)) (v := .int .i64 (k : Int)) rfl (by rfl) (by kernel_rfl) (by kernel_rfl) (by kernel_rfl) (by kernel_rfl) (by kernel_rfl) hC (fun _ _ _ h => h) (.inl ⟨by rfl, fun w' _ => ?_⟩) hS fun hC' => ?_
          · go_simp
          replace hC := hC'
          clear hC'
          refine wpAnyT_pure (i := 1) (d := (some 50)) (v := .int .i64 (j : Int)) rfl (by rfl) (by kernel_rfl) (by kernel_rfl) (by kernel_rfl) (by kernel_rfl) (by kernel_rfl) hC (fun _ _ _ h => h) (.inl ⟨by rfl, fun w' _ => ?_⟩) hS fun hC' => ?_
          · go_simp
          replace hC := hC'
          clear hC'
          refine wpAnyT_pure (i := 2) (d := (some 51)) (v := .int .i64 (k : Int)) rfl (by rfl) (by kernel_rfl) (by kernel_rfl) (by kernel_rfl) (by kernel_rfl) (by kernel_rfl) hC (fun _ _ _ h => h) (.inl ⟨by rfl, fun w' _ => ?_⟩) hS fun hC' => ?_
          · go_simp
          replace hC := hC'
          clear hC'
          refine wpAnyT_pure (i := 3) (d := (some 52)) (v := .int .i64 (j : Int)) rfl (by rfl) (by kernel_rfl) (by kernel_rfl) (by kernel_rfl) (by kernel_rfl) (by kernel_rfl) hC (fun _ _ _ h => h) (.inl ⟨by rfl, fun w' _ => ?_⟩) hS fun hC' => ?_
          · go_simp
          replace hC := hC'
          clear hC'
          refine wpAnyT_pure (i := 4) (d := (some 53)) (v := .pointer (some ⟨w.heap.size, 18, none⟩)) rfl (by rfl) (by kernel_rfl) (by kernel_rfl) (by kernel_rfl) (by kernel_rfl) (by kernel_rfl) hC (fun _ _ _ h => h) (.inl ⟨by rfl, fun w' _ => ?_⟩) hS fun hC' => ?_
          · go_simp
          replace hC := hC'
          clear hC'
          refine wpAnyT_pure (i := 5) (d := (some 54)) (v := .pointer (some ⟨w.heap.size, 18 + k * 6, none⟩)) rfl (by rfl) (by kernel_rfl) (by kernel_rfl) (by kernel_rfl) (by kernel_rfl) (by kernel_rfl) hC (fun _ _ _ h => h) (.inl ⟨by rfl, fun w' _ => ?_⟩) hS fun hC' => ?_
          · go_simp
          replace hC := hC'
          clear hC'
          refine wpAnyT_pure (i := 6) (d := (some 55)) (v := .pointer (some ⟨w.heap.size, 18 + k * 6 + j, none⟩)) rfl (by rfl) (by kernel_rfl) (by kernel_rfl) (by kernel_rfl) (by kernel_rfl) (by kernel_rfl) hC (fun _ _ _ h => h) (.inl ⟨by rfl, fun w' _ => ?_⟩) hS fun hC' => ?_
          · go_simp
          replace hC := hC'
          clear hC'
          refine wpAnyT_load (i := 7) (d := (some 56)) (v := .int .i64 (a (18 + k * 6 + j))) rfl (by rfl) (by kernel_rfl) (by kernel_rfl) (by kernel_rfl) (by kernel_rfl) (by kernel_rfl) (by kernel_rfl) hC (fun _ _ _ h => h) (.inl ⟨by rfl, fun w' hw => ?_⟩) hS fun hC' => ?_
          · have h2 := (JSb.a hw) (18 + k * 6 + j) (by omega)
            rw [jt2_at a b k j hj2] at h2
            clear hw
            go_simp
          replace hC := hC'
          clear hC'
          refine wpAnyT_pure (i := 8) (d := (some 57)) (v := .int .i64 (k : Int)) rfl (by rfl) (by kernel_rfl) (by kernel_rfl) (by kernel_rfl) (by kernel_rfl) (by kernel_rfl) hC (fun _ _ _ h => h) (.inl ⟨by rfl, fun w' _ => ?_⟩) hS fun hC' => ?_
          · go_simp
          replace hC := hC'
          clear hC'
          refine wpAnyT_pure (i := 9) (d := (some 58)) (v := .int .i64 (j : Int)) rfl (by rfl) (by kernel_rfl) (by kernel_rfl) (by kernel_rfl) (by kernel_rfl) (by kernel_rfl) hC (fun _ _ _ h => h) (.inl ⟨by rfl, fun w' _ => ?_⟩) hS fun hC' => ?_
          · go_simp
          replace hC := hC'
          clear hC'
          refine wpAnyT_pure (i := 10) (d := (some 59)) (v := .pointer (some ⟨w.heap.size + 1, 18, none⟩)) rfl (by rfl) (by kernel_rfl) (by kernel_rfl) (by kernel_rfl) (by kernel_rfl) (by kernel_rfl) hC (fun _ _ _ h => h) (.inl ⟨by rfl, fun w' _ => ?_⟩) hS fun hC' => ?_
          · go_simp
          replace hC := hC'
          clear hC'
          refine wpAnyT_pure (i := 11) (d := (some 60)) (v := .pointer (some ⟨w.heap.size + 1, 18 + k * 6, none⟩)) rfl (by rfl) (by kernel_rfl) (by kernel_rfl) (by kernel_rfl) (by kernel_rfl) (by kernel_rfl) hC (fun _ _ _ h => h) (.inl ⟨by rfl, fun w' _ => ?_⟩) hS fun hC' => ?_
          · go_simp
          replace hC := hC'
          clear hC'
          refine wpAnyT_pure (i := 12) (d := (some 61)) (v := .pointer (some ⟨w.heap.size + 1, 18 + k * 6 + j, none⟩)) rfl (by rfl) (by kernel_rfl) (by kernel_rfl) (by kernel_rfl) (by kernel_rfl) (by kernel_rfl) hC (fun _ _ _ h => h) (.inl ⟨by rfl, fun w' _ => ?_⟩) hS fun hC' => ?_
          · go_simp
          replace hC := hC'
          clear hC'
          refine wpAnyT_ever (i := 13) (d := (some 62)) (v := .int .i64 (b (18 + k * 6 + j))) rfl (by rfl) (by kernel_rfl) (by kernel_rfl) (by kernel_rfl) (by kernel_rfl) (by kernel_rfl) hC (fun _ _ _ h => h) (.inl ⟨by rfl, fun w' ⟨b', hw⟩ => ?_⟩) hS fun hC' => ?_
          · have h2 := hw.choose_spec.1.b (18 + k * 6 + j) (by omega)
            clear hw
            go_simp
          replace hC := hC'
          clear hC'
          refine wpAnyT_pure (i := 14) (d := (some 63)) (v := .int .i64 (mxI (a (18 + k * 6 + j)) (b (18 + k * 6 + j)))) rfl (by rfl) (by kernel_rfl) (by kernel_rfl) (by kernel_rfl) (by kernel_rfl) (by kernel_rfl) hC (fun _ _ _ h => h) (.inl ⟨by rfl, fun w' _ => ?_⟩) hS fun hC' => ?_
          · go_simp
            rfl
          replace hC := hC'
          clear hC'
          refine wpAnyT_pure (i := 15) (d := (some 64)) (v := .pointer (some ⟨w.heap.size, 18, none⟩)) rfl (by rfl) (by kernel_rfl) (by kernel_rfl) (by kernel_rfl) (by kernel_rfl) (by kernel_rfl) hC (fun _ _ _ h => h) (.inl ⟨by rfl, fun w' _ => ?_⟩) hS fun hC' => ?_
          · go_simp
          replace hC := hC'
          clear hC'
          refine wpAnyT_pure (i := 16) (d := (some 65)) (v := .pointer (some ⟨w.heap.size, 18 + k * 6, none⟩)) rfl (by rfl) (by kernel_rfl) (by kernel_rfl) (by kernel_rfl) (by kernel_rfl) (by kernel_rfl) hC (fun _ _ _ h => h) (.inl ⟨by rfl, fun w' _ => ?_⟩) hS fun hC' => ?_
          · go_simp
          replace hC := hC'
          clear hC'
          refine wpAnyT_pure (i := 17) (d := (some 66)) (v := .pointer (some ⟨w.heap.size, 18 + k * 6 + j, none⟩)) rfl (by rfl) (by kernel_rfl) (by kernel_rfl) (by kernel_rfl) (by kernel_rfl) (by kernel_rfl) hC (fun _ _ _ h => h) (.inl ⟨by rfl, fun w' _ => ?_⟩) hS fun hC' => ?_
          · go_simp
          replace hC := hC'
          clear hC'
          refine wpAnyT_one (i := 18) (b := true) (by kernel_rfl) (by kernel_rfl) (by rfl) (by rfl) hC fun K hK => ?_
          have hc := hJ.a (18 + k * 6 + j) (by omega)
          have hf := hJ.fr (18 + k * 6 + j)
          refine wp_store_cell 2 (.tmp 66) (.tmp 63) (by rfl) (by rfl) (w.heap.size) (18 + k * 6 + j) (.int .i64 (mxI (a (18 + k * 6 + j)) (b (18 + k * 6 + j)))) _ (by kernel_rfl) (by kernel_rfl) (by kernel_rfl) (by rfl) hc hf ?_
          have hJ := hJ.set (18 + k * 6 + j) (mxI (a (18 + k * 6 + j)) (b (18 + k * 6 + j)))
          have hS : JSb w w.heap.size (jt2 a b k j) b true _ := ⟨_, hJ, nofun⟩
          clear hc hf
          refine hK _ _ ⟨hS, fun hC' => ?_⟩
          replace hC := hC'
          clear hC' hK K
          refine wpAnyT_done (by kernel_rfl) ?_ _
          replace hJ := hJ.congr (fun i _ => jt2_step a b k j hk2 hj2 i)
          clear hS hC
          generalize wr.drew.setCell ⟨w.heap.size, 18 + k * 6 + j, none⟩ (.int .i64 (mxI (a (18 + k * 6 + j)) (b (18 + k * 6 + j)))) = w5 at *
          refine hK0 _ _ ?_
          clear hK0 K0 HJ
          have HJ3 : Hid (JS w w.heap.size (jt2 a b k (j + 1)) b w5) := hJ
          clear hJ
          go_wp2
          go_roundw
          case rel => exact ⟨j + 1, by omega, by go_num, HJ3.out⟩
          case measure => simp [intOf]; omega
        · obtain rfl : j = 6 := by omega
          have HJ3 : Hid (JS w w.heap.size (jt a b (k + 1)) b wr) := HJ.out.congr (fun i _ => jt2_end a b k i)
          clear HJ
          go_wp2
          go_roundw
          case rel => exact ⟨k + 1, by omega, by go_num, HJ3.out⟩
          case measure => simp [intOf]; omega
    · obtain rfl : k = 6 := by omega
      replace HJ : Hid (JS w w.heap.size (joinM a b) b wr) := HJ.out.congr (fun i hi => jt_end a b i hi)
      have H1 : Hid (wr.heap[w.heap.size]? = some (.cells (iarr .i64 54 (joinM a b)) 48 (0, 0))) := HJ.out.1
      have Hz : Hid (wr.heap[w.heap.size + 1 + 1]? = some (.cells (iarr .i64 54 zero) 48 (0, 0))) := HJ.out.2.2.1
      have hB := HJ.out.2.2.2
      clear HJ
      go_wp2_with (first
        | (refine wpList_load_row (o := ⟨some 69, _, _, _, _, _⟩) (by rfl) 48 (.tmp 2) (by rfl) w.heap.size (by rfl) 48 (iarr .i64 54 (joinM a b)) (0, 0) _ H1.out Try.underlying48 (by rfl) (by rw [iarr_size]; exact infoR) ?_)
        | (refine wpList_store_row (o := ⟨none, .store 48 (.tmp 4) (.tmp 69), _, _, _, _⟩) (by rfl) 48 (.tmp 4) (.tmp 69) (by rfl) (w.heap.size + 1 + 1) (iarr .i64 54 (joinM a b)) (by rfl) (by rfl) 48 (iarr .i64 54 zero) Hz.out (by rw [iarr_size]; exact infoR) (by rw [iarr_size, iarr_size]) (iarr_one _ _ _) ?_))
      have hend := turned_end hB (by omega) Hz.out (joinM a b)
      exact join_ret rfl rfl hend.1 hend.2
end
section
def RS3 (x : Nat → Int) (g : Nat) (i j n : Int) (w' : World) : Prop := w'.heap[g]? = some (.cells (iarr .i64 54 x) 48 (0, 0)) ∧ w'.cell? ⟨g + 1, 0, none⟩ = some (.int .i64 i) ∧ w'.cell? ⟨g + 1 + 1, 0, none⟩ = some (.int .i64 j) ∧ w'.cell? ⟨g + 1 + 1 + 1, 0, none⟩ = some (.int .i64 n)
theorem RS3.up {x : Nat → Int} {g : Nat} {i j n : Int} {w w' : World} (h : RS3 x g i j n w) (hb : Below w.heap.size w w') : RS3 x g i j n w' := by
  obtain ⟨a, b, c, d⟩ := h
  exact ⟨(hb.block _ (Array.getElem?_eq_some_iff.1 a).1).trans a, (hb.cell (p := ⟨g + 1, 0, none⟩) (block_lt_of_cell b)).trans b, (hb.cell (p := ⟨g + 1 + 1, 0, none⟩) (block_lt_of_cell c)).trans c, (hb.cell (p := ⟨g + 1 + 1 + 1, 0, none⟩) (block_lt_of_cell d)).trans d⟩
instance {x : Nat → Int} {g : Nat} {i j n : Int} {w w' : World} : Rt.Tr w w' (RS3 x g i j n w) (RS3 x g i j n w') := ⟨fun b h => h.up b⟩
theorem RS3.row {x : Nat → Int} {g : Nat} {i j n : Int} {w : World} (h : RS3 x g i j n w) (cs : Array Value) : RS3 x g i j n (w.setRow (g + 1 + 1 + 1 + 1) cs) := by
  obtain ⟨a, b, c, d⟩ := h
  exact ⟨(setRow_other _ _ _ _ (by omega)).trans a, (World.cell?_of_block (setRow_other _ _ _ _ (by show g + 1 ≠ _; omega))).trans b, (World.cell?_of_block (setRow_other _ _ _ _ (by show g + 1 + 1 ≠ _; omega))).trans c, (World.cell?_of_block (setRow_other _ _ _ _ (by show g + 1 + 1 + 1 ≠ _; omega))).trans d⟩
attribute [local irreducible] Oper.wp wpList Code.wp
end
namespace Rt
def L (x : Nat → Int) (k : Nat) : Int := G x k + F x k + R x 0 k + R x 1 k + R x 2 k + R x 3 k + R x 4 k + R x 5 k - C x k - R x k 0 - R x k 1 - R x k 2 - R x k 3 - R x k 4 - R x k 5
def Ent (x : Nat → Int) : Prop := ∀ p, p < 54 → 0 ≤ x p ∧ x p ≤ 1125899906842624
def All (x : Nat → Int) : Prop := ∀ k, k < 6 → 0 ≤ L x k ∧ F x k ≤ C x k ∧ R x k k = 0
def gSum (x : Nat → Int) : Int := G x 0 + G x 1 + G x 2 + G x 3 + G x 4 + G x 5
theorem sumI_eq {l : List Int} (h : sumOk l = true) : sumI l = (l.sum, true) := by unfold sumI; rw [if_pos h]
theorem Ent.outs {x : Nat → Int} (h : Ent x) (k : Nat) (hk : k < 6) : sumOk (outs x k 6) = true := by
  have e := fun j (hj : j < 6) => h (18 + k * 6 + j) (by omega)
  have c := h (6 + k) (by omega)
  unfold sumOk
  rw [List.all_eq_true]
  intro n hn
  have : n = x (6 + k) ∨ n = x (18 + k * 6 + 0) ∨ n = x (18 + k * 6 + 1) ∨ n = x (18 + k * 6 + 2) ∨ n = x (18 + k * 6 + 3) ∨ n = x (18 + k * 6 + 4) ∨ n = x (18 + k * 6 + 5) := by
    simpa [Rt.outs, C, R, or_assoc] using hn
  unfold okN
  rw [Bool.and_eq_true, decide_eq_true_eq, decide_eq_true_eq]
  rcases this with h | h | h | h | h | h | h <;> subst h
  · exact c
  all_goals exact e _ (by omega)
theorem Ent.ins {x : Nat → Int} (h : Ent x) (k : Nat) (hk : k < 6) : sumOk (ins x k 6) = true := by
  have e := fun j (hj : j < 6) => h (18 + j * 6 + k) (by omega)
  have c := h k (by omega)
  have f := h (12 + k) (by omega)
  unfold sumOk
  rw [List.all_eq_true]
  intro n hn
  have : n = x k ∨ n = x (12 + k) ∨ n = x (18 + 0 * 6 + k) ∨ n = x (18 + 1 * 6 + k) ∨ n = x (18 + 2 * 6 + k) ∨ n = x (18 + 3 * 6 + k) ∨ n = x (18 + 4 * 6 + k) ∨ n = x (18 + 5 * 6 + k) := by
    simpa [Rt.ins, G, F, R, or_assoc] using hn
  unfold okN
  rw [Bool.and_eq_true, decide_eq_true_eq, decide_eq_true_eq]
  rcases this with h | h | h | h | h | h | h | h <;> subst h
  · exact c
  · exact f
  all_goals exact e _ (by omega)
theorem outs_sum (x : Nat → Int) (k : Nat) : (Rt.outs x k 6).sum = C x k + R x k 0 + R x k 1 + R x k 2 + R x k 3 + R x k 4 + R x k 5 := by simp [Rt.outs]; omega
theorem ins_sum (x : Nat → Int) (k : Nat) : (Rt.ins x k 6).sum = G x k + F x k + R x 0 k + R x 1 k + R x 2 k + R x 3 k + R x 4 k + R x 5 k := by simp [Rt.ins]; omega
theorem localM_eq {x : Nat → Int} (h : Ent x) (k : Nat) (hk : k < 6) : localM x k = (L x k, true) := by
  unfold localM
  rw [sumI_eq (h.outs k hk), sumI_eq (h.ins k hk), outs_sum, ins_sum]
  unfold L
  refine Prod.ext ?_ rfl
  dsimp only
  omega
theorem may_ent {x : Nat → Int} (h : may x = true) : Ent x := by
  intro p hp
  by_cases h1 : p < 6
  · exact (may_ok h p h1).g
  by_cases h2 : p < 12
  · have := (may_ok h (p - 6) (by omega)).c
    unfold C at this; rwa [show 6 + (p - 6) = p by omega] at this
  by_cases h3 : p < 18
  · have := (may_ok h (p - 12) (by omega)).f
    unfold F at this; rwa [show 12 + (p - 12) = p by omega] at this
  have := (may_ok h ((p - 18) / 6) (by omega)).r ((p - 18) % 6) (by omega)
  unfold R at this; rwa [show 18 + (p - 18) / 6 * 6 + (p - 18) % 6 = p by omega] at this
theorem gs_ok {x : Nat → Int} (h : Ent x) : sumOk (gs x) = true := by
  unfold sumOk
  rw [List.all_eq_true]
  intro n hn
  have : n = x 0 ∨ n = x 1 ∨ n = x 2 ∨ n = x 3 ∨ n = x 4 ∨ n = x 5 := by simpa [gs, or_assoc] using hn
  unfold okN
  rw [Bool.and_eq_true, decide_eq_true_eq, decide_eq_true_eq]
  rcases this with e | e | e | e | e | e <;> subst e <;> exact h _ (by omega)
theorem gs_sum (x : Nat → Int) : (gs x).sum = gSum x := by simp [gs, gSum, G]; omega
theorem may_iff (x : Nat → Int) : may x = true ↔ Ent x ∧ All x ∧ gSum x ≤ 1125899906842624 := by
  constructor
  · intro h
    have he := may_ent h
    refine ⟨he, fun k hk => ?_, ?_⟩
    · have o := may_ok h k hk
      have := o.l
      rw [localM_eq he k hk] at this
      exact ⟨this, o.fc, o.rkk⟩
    unfold may at h
    rw [Bool.and_eq_true, Bool.and_eq_true, sumI_eq (gs_ok he), gs_sum] at h
    simpa using h.2.2
  rintro ⟨he, ha, hg⟩
  have hk : ∀ k, k < 6 → mayK x k = true := by
    intro k hk
    obtain ⟨a, b, c⟩ := ha k hk
    unfold mayK
    rw [localM_eq he k hk]
    simp only [Bool.and_eq_true, decide_eq_true_eq, beq_iff_eq]
    exact ⟨⟨⟨trivial, a⟩, b⟩, c⟩
  have hn : ∀ n, n ≤ 6 → mayN x n = true := by
    intro n
    induction n with
    | zero => intro _; rfl
    | succ n ih => intro hn; rw [show mayN x (n + 1) = (mayN x n && mayK x n) from rfl, ih (by omega), hk n (by omega)]; rfl
  unfold may
  rw [hn 6 (by omega), sumI_eq (gs_ok he), gs_sum, decide_eq_true hg]
  rfl
end Rt
structure StM where
  inn : Nat → Bool
  left : Nat → Bool
  known : Nat → Int
  na : Option Addr
  nn : Nat
  nc : Nat
  ga : Option Addr
  gn : Nat
  gc : Nat
def stY (s : StM) : Nat → Value := fun p => if p < 6 then .bool (s.inn p) else if p < 12 then .bool (s.left (p - 6)) else if p < 18 then Ku6 (s.known (p - 12)) else if p = 18 then .slice s.na s.nn s.nc else .slice s.ga s.gn s.gc
theorem stY_in (s : StM) {p : Nat} (h : p < 6) : stY s p = .bool (s.inn p) := by unfold stY; rw [if_pos h]
theorem stY_left (s : StM) {p q : Nat} (h : p < 6) (e : q = p + 6) : stY s q = .bool (s.left p) := by subst e; unfold stY; rw [if_neg (by omega), if_pos (by omega), Nat.add_sub_cancel]
theorem stY_known (s : StM) {p q : Nat} (h : p < 6) (e : q = p + 12) : stY s q = Ku6 (s.known p) := by subst e; unfold stY; rw [if_neg (by omega), if_neg (by omega), if_pos (by omega), Nat.add_sub_cancel]
def ndY (id par : Int) (R : Nat → Int) : Nat → Value := fun p => if p = 0 then Ku6 id else if p = 1 then Ku6 par else Ki6 (R (p - 2))
theorem ndY_row (id par : Int) (R : Nat → Int) (q : Nat) : ndY id par R (2 + q) = rv .i64 R q := by unfold ndY rv; rw [if_neg (by omega), if_neg (by omega), Nat.add_sub_cancel_left]
def Nds (w : World) (a : Option Addr) (n : Nat) (id par : Nat → Int) (R : Nat → Nat → Int) : Prop := ∀ k, k < n → ∃ b off, a = some ⟨b, off, none⟩ ∧ Cel w b (off + 56 * k) 56 (ndY (id k) (par k) (R k))
theorem Nds.below {w w' : World} {a : Option Addr} {n : Nat} {id par : Nat → Int} {R : Nat → Nat → Int} (h : Nds w a n id par R) (hb : Below w.heap.size w w') : Nds w' a n id par R := fun k hk => by
  obtain ⟨b, off, e, hc⟩ := h k hk
  exact ⟨b, off, e, hc.below hb (hc.lt (by omega))⟩
section
structure LdM where
  s : StM
  id : Nat → Int
  par : Nat → Int
  R : Nat → Nat → Int
  g : Nat → Nat → Int
  tb : Nat
  ta : Option Addr
  tn : Nat
  tc : Nat
  t : Nat → Nat → Int
  ra : Nat → Option Addr
  rn : Nat → Nat
  rc : Nat → Nat
  rq : Nat → Nat → Int
def ldY (m : LdM) : Nat → Value := fun p => if p < 20 then stY m.s p else if p = 20 then (pt m.tb) else .slice (m.ra (p - 21)) (m.rn (p - 21)) (m.rc (p - 21))
def grY (x : Nat → Int) : Nat → Value := fun p => if p = 0 then Ki6 (x 0) else if p = 3 then Ki6 (x 3) else Ku6 (x p)
def ndX (m : LdM) : Nat → Value := flat 56 fun k => ndY (m.id k) (m.par k) (m.R k)
def grX (m : LdM) : Nat → Value := flat 5 fun k => grY (m.g k)
def trX (t : Nat → Nat → Int) : Nat → Value := flat 2 fun k => rv .u64 (t k)
structure Ldg (w : World) (p : Nat) (m : LdM) : Prop where
  c : Cel w p 0 27 (ldY m)
  an : Arr w m.s.na m.s.nn 56 (ndX m)
  ag : Arr w m.s.ga m.s.gn 5 (grX m)
  tc : Cel w m.tb 0 1 (fun _ => .slice m.ta m.tn m.tc)
  at2 : Arr w m.ta m.tn 2 (trX m.t)
  ar : ∀ i, i < 6 → Arr w (m.ra i) (m.rn i) 1 (rv .u64 (m.rq i))
  bn : m.s.nn ≤ 1000000
  bg : m.s.gn ≤ 1000000
  bt : m.tn ≤ 1000000
  br : ∀ i, i < 6 → m.rn i ≤ 1000000
section
variable {w w' : World} {p : Nat} {m : LdM}
theorem Ldg.n (h : Ldg w p m) : Nds w m.s.na m.s.nn m.id m.par m.R := fun _ hk => h.an.at hk
theorem Ldg.g (h : Ldg w p m) : ∀ k, k < m.s.gn → ∃ b off, m.s.ga = some ⟨b, off, none⟩ ∧ Cel w b (off + 5 * k) 5 (grY (m.g k)) := fun _ hk => h.ag.at hk
theorem Ldg.t (h : Ldg w p m) : ∀ k, k < m.tn → ∃ b off, m.ta = some ⟨b, off, none⟩ ∧ Cel w b (off + 2 * k) 2 (rv .u64 (m.t k)) := fun _ hk => h.at2.at hk
theorem Ldg.r (h : Ldg w p m) : ∀ i, i < 6 → ∀ k, k < m.rn i → ∃ b off, m.ra i = some ⟨b, off, none⟩ ∧ Cel w b (off + k) 1 (fun _ => Ku6 (m.rq i k)) := fun i hi k hk => by
  obtain ⟨b, off, e, hc⟩ := h.ar i hi (by omega)
  refine ⟨b, off, e, fun j hj => ?_⟩
  obtain rfl : j = 0 := by omega
  exact hc k (by omega)
theorem Ldg.below (h : Ldg w p m) (hb : Below w.heap.size w w') : Ldg w' p m where
  c := h.c.below hb (h.c.lt (by omega))
  an := h.an.up hb rfl
  ag := h.ag.up hb rfl
  tc := h.tc.below hb (h.tc.lt (by omega))
  at2 := h.at2.up hb rfl
  ar := fun i hi => (h.ar i hi).up hb rfl
  bn := h.bn
  bg := h.bg
  bt := h.bt
  br := h.br
end
def firstI (P : Nat → Bool) : Nat → Int
  | 0 => -1
  | n + 1 => if 0 ≤ firstI P n then firstI P n else if P n then (n : Int) else -1
theorem firstI_none {P : Nat → Bool} : ∀ {n : Nat}, (∀ i, i < n → P i = false) → firstI P n = -1
  | 0, _ => rfl
  | n + 1, h => by
    have := firstI_none (P := P) (n := n) fun i hi => h i (by omega)
    simp only [firstI]; rw [this, if_neg (by omega), h n (by omega)]; rfl
theorem firstI_hit {P : Nat → Bool} {k : Nat} (hb : ∀ i, i < k → P i = false) (hk : P k = true) : ∀ {n : Nat}, k < n → firstI P n = (k : Int)
  | 0, h => absurd h (by omega)
  | n + 1, h => by
    simp only [firstI]
    by_cases e : k = n
    · subst e; rw [firstI_none hb, if_neg (by omega), hk]; rfl
    · rw [firstI_hit hb hk (n := n) (by omega), if_pos (by omega)]
theorem firstI_spec (P : Nat → Bool) : ∀ n : Nat, (∃ k : Nat, k < n ∧ firstI P n = (k : Int) ∧ P k = true) ∨ (firstI P n = -1 ∧ ∀ i, i < n → P i = false)
  | 0 => .inr ⟨rfl, fun i h => absurd h (by omega)⟩
  | n + 1 => by
    rcases firstI_spec P n with ⟨k, hk, e, hp⟩ | ⟨e, hp⟩
    · exact .inl ⟨k, by omega, by simp only [firstI]; rw [e, if_pos (by omega)], hp⟩
    · by_cases h : P n = true
      · exact .inl ⟨n, by omega, by simp only [firstI]; rw [e, if_neg (by omega), h]; rfl, h⟩
      · rw [Bool.not_eq_true] at h
        refine .inr ⟨by simp only [firstI]; rw [e, if_neg (by omega), h]; rfl, fun i hi => ?_⟩
        by_cases e2 : i = n
        · subst e2; exact h
        · exact hp i (by omega)
def LdM.node (m : LdM) (id : Int) : Int := firstI (fun i => decide (m.id i = id)) m.s.nn
structure TreeR (w : World) (tb : Nat) (ta : Option Addr) (tn tc : Nat) (t : Nat → Nat → Int) : Prop where
  tc : Cel w tb 0 1 (fun _ => .slice ta tn tc)
  t : ∀ k, k < tn → ∃ b off, ta = some ⟨b, off, none⟩ ∧ Cel w b (off + 2 * k) 2 (rv .u64 (t k))
  bt : tn ≤ 1000000
theorem TreeR.below {w w' : World} {tb : Nat} {ta : Option Addr} {tn tc : Nat} {t : Nat → Nat → Int} (h : TreeR w tb ta tn tc t) (hb : Below w.heap.size w w') : TreeR w' tb ta tn tc t where
  tc := h.tc.below hb (h.tc.lt (by omega))
  t := fun k hk => by obtain ⟨b, off, e, hc⟩ := h.t k hk; exact ⟨b, off, e, hc.below hb (hc.lt (by omega))⟩
  bt := h.bt
end
set_option linter.unusedVariables false
namespace Rt
structure NdM where
  id : Int
  par : Int
  R : Nat → Int
structure GrM where
  o : Int
  r : Int
  n : Int
  a : Int
  b : Int
def nd0 : NdM := ⟨0, 0, fun _ => 0⟩
def gr0 : GrM := ⟨0, 0, 0, 0, 0⟩
structure SnM where
  inn : Nat → Bool
  left : Nat → Bool
  known : Nat → Int
  ns : List NdM
  gs : List GrM
def sn0 : SnM := ⟨fun _ => false, fun _ => false, fun _ => 0, [], []⟩
def ndA (l : List NdM) (k : Nat) : NdM := l.getD k nd0
def grA (l : List GrM) (k : Nat) : GrM := l.getD k gr0
def nodeI (l : List NdM) (x : Int) : Int := firstI (fun i => decide ((ndA l i).id = x)) l.length
def endsN (l : List NdM) : Nat → Int → Bool
  | 0, _ => false
  | f + 1, x => if x = 0 then true else if nodeI l x < 0 then false else endsN l f (ndA l (nodeI l x).toNat).par
def grLt (x y : GrM) : Prop := x.o < y.o ∨ (x.o = y.o ∧ x.r < y.r)
instance (x y : GrM) : Decidable (grLt x y) := by unfold grLt; infer_instance
def NdOk (l : List NdM) (k : Nat) : Prop := (ndA l k).id ≠ 0 ∧ may (ndA l k).R = true ∧ endsN l 33 (ndA l k).id = true
def GrOk (l : List NdM) (g : GrM) : Prop := 1 ≤ g.o ∧ g.o ≤ 6 ∧ g.r ≠ 0 ∧ 0 ≤ nodeI l g.n ∧ 1 ≤ g.a ∧ g.a ≤ 1125899906842624 ∧ g.b ≠ g.r
structure MayP (m : SnM) : Prop where
  kn : ∀ i, i < 6 → m.known i ≤ 1099511627776
  nn : m.ns.length ≤ 32
  gn : m.gs.length ≤ 4096
  nr : ∀ k, k + 1 < m.ns.length → (ndA m.ns k).id < (ndA m.ns (k + 1)).id
  gr : ∀ k, k + 1 < m.gs.length → grLt (grA m.gs k) (grA m.gs (k + 1))
  li : ∀ i, i < 6 → m.left i = true → m.inn i = true
  nd : ∀ k, k < m.ns.length → NdOk m.ns k
  gd : ∀ k, k < m.gs.length → GrOk m.ns (grA m.gs k)
open Classical in
noncomputable def mayS (m : SnM) : Bool := decide (MayP m)
def byI (x : Int) : UInt8 := UInt8.ofNat (x % 256).toNat
def be : Nat → Int → List UInt8
  | 0, _ => []
  | k + 1, n => byI (n / 256 ^ k) :: be k n
def flag (b c : Bool) : UInt8 := (if b then 1 else 0) + (if c then 2 else 0)
def flagsB (m : SnM) : List UInt8 := (List.range 6).map fun i => flag (m.inn i) (m.left i)
def rowB (x : Nat → Int) (n : Nat) : List UInt8 := (List.range n).flatMap fun i => be 8 (x i)
def ndB (x : NdM) : List UInt8 := be 8 x.id ++ be 8 x.par ++ rowB x.R 54
def grB (g : GrM) : List UInt8 := byI g.o :: (be 8 g.r ++ be 8 g.n ++ be 8 g.a ++ be 8 g.b)
def bodyB (m : SnM) : List UInt8 := [76, 83, 78, 80] ++ flagsB m ++ rowB m.known 6 ++ be 2 m.ns.length ++ m.ns.flatMap ndB ++ be 2 m.gs.length ++ m.gs.flatMap grB
def bytesB (m : SnM) : List UInt8 := bodyB m ++ be 4 (Crc.I (Crc.sum (bodyB m)))
open Classical in
noncomputable def putB (m : SnM) : List UInt8 := if MayP m then bytesB m else []
def valB (l : List UInt8) : Int := l.foldl (fun n c => n * 256 + Crc.J c) 0
abbrev Ct := Nat × Bool
def cutS (l : List UInt8) (s : Ct) (k : Nat) : Ct := if s.2 = true ∨ l.length - s.1 < k then (s.1, true) else (s.1 + k, false)
def cutV (l : List UInt8) (s : Ct) (k : Nat) : Int := if s.2 = true ∨ l.length - s.1 < k then 0 else valB ((l.drop s.1).take k)
def cutN (l : List UInt8) (k : Nat) : Nat → Ct → Ct
  | 0, s => s
  | n + 1, s => cutS l (cutN l k n s) k
def rowV (l : List UInt8) (s : Ct) (k i : Nat) : Int := cutV l (cutN l k i s) k
def i64w (x : Int) : Int := IntKind.i64.wrap x
def ndV (l : List UInt8) (s : Ct) : NdM := ⟨rowV l s 8 0, rowV l s 8 1, fun p => i64w (rowV l s 8 (2 + p))⟩
def grV (l : List UInt8) (s : Ct) : GrM := ⟨cutV l s 1, rowV l (cutS l s 1) 8 0, rowV l (cutS l s 1) 8 1, i64w (rowV l (cutS l s 1) 8 2), rowV l (cutS l s 1) 8 3⟩
def ndS (l : List UInt8) (s : Ct) : Ct := cutN l 8 56 s
def grS (l : List UInt8) (s : Ct) : Ct := cutN l 8 4 (cutS l s 1)
def ndsV (l : List UInt8) : Nat → Ct → List NdM × Ct
  | 0, s => ([], s)
  | n + 1, s => if s.2 = true then ([], s) else (ndV l s :: (ndsV l n (ndS l s)).1, (ndsV l n (ndS l s)).2)
def grsV (l : List UInt8) : Nat → Ct → List GrM × Ct
  | 0, s => ([], s)
  | n + 1, s => if s.2 = true then ([], s) else (grV l s :: (grsV l n (grS l s)).1, (grsV l n (grS l s)).2)
def s4 (l : List UInt8) : Ct := cutS l (0, false) 4
def s10 (l : List UInt8) : Ct := cutN l 1 6 (s4 l)
def s58 (l : List UInt8) : Ct := cutN l 8 6 (s10 l)
def s60 (l : List UInt8) : Ct := cutS l (s58 l) 2
def nnV (l : List UInt8) : Nat := (cutV l (s58 l) 2).toNat
def nsV (l : List UInt8) : List NdM × Ct := ndsV l (nnV l) (s60 l)
def gnV (l : List UInt8) : Nat := (cutV l (nsV l).2 2).toNat
def gsV (l : List UInt8) : List GrM × Ct := grsV l (gnV l) (cutS l (nsV l).2 2)
def rawV (l : List UInt8) : SnM := ⟨fun i => decide (rowV l (s4 l) 1 i % 2 = 1), fun i => decide (rowV l (s4 l) 1 i / 2 % 2 = 1), fun i => rowV l (s10 l) 8 i, (nsV l).1, (gsV l).1⟩
def GetP (l : List UInt8) : Prop := (gsV l).2.2 = false ∧ l ≠ [] ∧ putB (rawV l) = l
open Classical in
noncomputable def getV (l : List UInt8) : SnM := if GetP l then rawV l else sn0
open Classical in
noncomputable def getE (l : List UInt8) : Int := if GetP l then 0 else 5
def ndJ (x y : NdM) : NdM := ⟨x.id, x.par, joinM x.R y.R⟩
def grJ (x y : GrM) : GrM := ⟨x.o, x.r, x.n, x.a, mxI x.b y.b⟩
def GrBad (x y : GrM) : Prop := x.n ≠ y.n ∨ x.a ≠ y.a ∨ (x.b ≠ y.b ∧ x.b ≠ 0 ∧ y.b ≠ 0)
instance (x y : GrM) : Decidable (GrBad x y) := by unfold GrBad; infer_instance
def mergeN : List NdM → List NdM → Option (List NdM)
  | [], b => some b
  | x :: a, [] => some (x :: a)
  | x :: a, y :: b => if x.id < y.id then (mergeN a (y :: b)).map (x :: ·) else if y.id < x.id then (mergeN (x :: a) b).map (y :: ·) else if x.par ≠ y.par then none else (mergeN a b).map (ndJ x y :: ·)
termination_by a b => a.length + b.length
def mergeG : List GrM → List GrM → Option (List GrM)
  | [], b => some b
  | x :: a, [] => some (x :: a)
  | x :: a, y :: b => if grLt x y then (mergeG a (y :: b)).map (x :: ·) else if grLt y x then (mergeG (x :: a) b).map (y :: ·) else if GrBad x y then none else (mergeG a b).map (grJ x y :: ·)
termination_by a b => a.length + b.length
def joinR (a b : SnM) (l : List NdM) (g : List GrM) : SnM := ⟨fun i => a.inn i || b.inn i, fun i => a.left i || b.left i, fun i => mxI (a.known i) (b.known i), l, g⟩
open Classical in
noncomputable def joinS (a b : SnM) : SnM × Int :=
  if ¬ MayP a ∨ ¬ MayP b then (sn0, 1) else
  match mergeN a.ns b.ns with
  | none => (sn0, 9)
  | some l => match mergeG a.gs b.gs with
    | none => (sn0, 14)
    | some g => if MayP (joinR a b l g) then (joinR a b l g, 0) else (sn0, 6)
def SameNd (x y : NdM) : Prop := x.id = y.id ∧ x.par = y.par ∧ ∀ p, p < 54 → x.R p = y.R p
structure SameSn (a b : SnM) : Prop where
  inn : ∀ i, i < 6 → a.inn i = b.inn i
  left : ∀ i, i < 6 → a.left i = b.left i
  known : ∀ i, i < 6 → a.known i = b.known i
  nn : a.ns.length = b.ns.length
  gn : a.gs.length = b.gs.length
  n : ∀ k, k < a.ns.length → SameNd (ndA a.ns k) (ndA b.ns k)
  g : ∀ k, k < a.gs.length → grA a.gs k = grA b.gs k
open Classical in
noncomputable def lessS (a b : SnM) : Bool := decide ((joinS a b).2 = 0 ∧ SameSn (joinS a b).1 b)
end Rt
namespace Rt
def U64r (x : Int) : Prop := 0 ≤ x ∧ x ≤ 18446744073709551615
def I64r (x : Int) : Prop := -9223372036854775808 ≤ x ∧ x ≤ 9223372036854775807
def Kr (K : Nat → Int) : Prop := ∀ i, i < 6 → U64r (K i)
theorem Kr.kd {K : Nat → Int} (h : Kr K) : Fx.Kd (List.replicate 6 (some .u64)) (rv .u64 K) := Fx.kd_rv fun i hi => Fx.wfu64 (h i hi)
theorem Kr.mx {K L : Nat → Int} (h : Kr K) (h2 : Kr L) : Kr (fun p => mx6 (K p) (L p)) := fun i hi => by
  have q1 := h i hi; have q2 := h2 i hi; show U64r (mx6 (K i) (L i)); unfold mx6; split <;> assumption
theorem less_iff {D K : Nat → Int} : (∀ i, i < 6 → rv .u64 (fun p => mx6 (D p) (K p)) i = rv .u64 K i) ↔ ∀ i, i < 6 → D i ≤ K i := by
  have e : ∀ i, (rv .u64 (fun p => mx6 (D p) (K p)) i = rv .u64 K i) ↔ D i ≤ K i := fun i => by
    show Value.int .u64 (mx6 (D i) (K i)) = Ku6 (K i) ↔ _
    simp only [Value.int.injEq, true_and]; unfold mx6; split <;> omega
  exact ⟨fun h i hi => (e i).1 (h i hi), fun h i hi => (e i).2 (h i hi)⟩
instance (D K : Nat → Int) : Decidable (∀ i, i < 6 → D i ≤ K i) := inferInstanceAs (Decidable (∀ i, i < 6 → D i ≤ K i))
def lessK (D K : Nat → Int) : Bool := decide (∀ i, i < 6 → D i ≤ K i)
def mayV6 (K : Nat → Int) : Bool := lessK K fun _ => 1099511627776
theorem top_kr : Kr fun _ => 1099511627776 := fun _ _ => ⟨by show (0 : Int) ≤ 1099511627776; decide, by show (1099511627776 : Int) ≤ 18446744073709551615; decide⟩
end Rt
theorem g_join2 {w : World} {g : Nat} {T : TypeId} {x : Nat → Value} (D K : Nat → Int) (h : Blk w g (2 * 6) x T) (e : ∀ j, j < 2 * 6 → x j = vx (V2 D K) j) :
    Calls Try.prog 20 #[Ksl g 2 2] w fun e w' => e = .returned (.agg (varr 6 (rv .u64 fun p => mx6 (D p) (K p)))) ∧ Below w.heap.size w w' :=
  g_join (some ⟨g, 0, none⟩) 2 2 (V2 D K) w (by omega) (fun _ => ⟨Nat.le_refl _, g, 0, rfl, (h.congr e).cel⟩)
theorem Rt.V2_cells (z : Nat → Value) (D K : Nat → Int) : ∀ j, j < 2 * 6 → ovr (ovr z (0 * 6) 6 (rv .u64 D)) (1 * 6) 6 (rv .u64 K) j = vx (V2 D K) j := fun j hj => by
  unfold ovr vx
  by_cases c : j < 6
  · rw [if_neg (by omega), if_pos (by omega), show j / 6 = 0 by omega, show j % 6 = j by omega]; rfl
  · rw [if_pos (by omega), show j / 6 = 1 by omega, show j % 6 = j - 1 * 6 by omega]; rfl
theorem v_less (D K : Nat → Int) (w : World) (hD : Kr D) (hK : Kr K) :
    Calls Try.prog 66 #[.agg (varr 6 (rv .u64 D)), .agg (varr 6 (rv .u64 K))] w fun e w' => e = .returned (.bool (lessK D K)) ∧ Below w.heap.size w w' := by
 refine Kent Try.func66 11 ?_
 refine KWsl (KLb fun g1 w1 eg1 m1 s1 z1 => ?_)
 have b1 := KTk1 s1.old (Below.refl w.heap.size w)
 have lg1 := KGk0 eg1
 have tg1 := m1.lt
 refine KLb fun g2 w2 eg2 m2 s2 z2 => ?_
 have ⟨m3, b2⟩ := KTk2 s2.old m1 b1
 have lg2 := KGk eg2 b1.size
 have ng2m3 := KNk1 eg2 m1.lt
 have tg2 := m2.lt
 refine KLq KbF (KLe (Ws ?_))
 -- region 1 draws
 refine KWm [0, 1, 4, 2, 3, 5, 6] [4, 4, 2, 2, 1, 0, 0] [(2, 0, [0]), (3, 0, [2, 0]), (2, 1, [1]), (3, 1, [2, 1]), (3, 2, [2]), (5, 2, [3, 2]), (6, 2, [2]), (5, 3, [3]), (6, 3, [3])] fun wt1 hbwt1 hzwt1 => ?_
 have ⟨m4, m5, b3⟩ := KTk3 hbwt1 m3 m2 b2
 refine Rs (.agg (varr 6 (rv .u64 D))) (KxA m4.cel 0) ?_
 refine Rs (.agg (varr 6 (rv .u64 K))) (KxA m5.cel 0) ?_
 refine Rd (v := .agg (varr 6 (rv .u64 K))) (by rfl) (by rfl) (mRf _) (fun v1 hv1 => x_loadA (x := rv .u64 K) (y := rv .u64 K) rfl rfl (by kernel_rfl) (by kernel_rfl) (m5.cel.below hv1 (by have := m5.lt; omega)) (i := 0) (by omega) (by omega) (fun j _ => by rw [Nat.zero_add])) ?_
 refine KRk (Lbs (vs := [(0, .agg (varr 6 (rv .u64 D))), (1, .agg (varr 6 (rv .u64 K)))]) (s := 6) (zc := rv .u64 (fun _ => 0)) (y := ovr (ovr (fun j => (rv .u64 (fun _ => 0)) (j % 6)) (0 * 6) 6 (rv .u64 D)) (1 * 6) 6 (rv .u64 K)) (by rfl) rfl rfl Try.underlying102 (by kernel_rfl) (by rfl) (by rfl) (by kernel_rfl) (by rw [fill_step (off := 0 * 6) (s := 6) (y := rv .u64 D) rfl (cells_agg _ _) (by rfl)]; rw [fill_step (off := 1 * 6) (s := 6) (y := rv .u64 K) rfl (cells_agg _ _) (by rfl)]; rfl) rfl fun g3 w3 eg3 m6 s4 z3 => ?_)
 have b4 := KTk1 s4.old b3
 have lg3 := KGk eg3 b3.size
 have ⟨ng3m7, ng3m8⟩ := KNk2 eg3 m4.lt m5.lt
 have tg3 := m6.lt
 refine Ln ⟨s4.old, ?_⟩
 refine KRk (KLc1 (g_join2 D K m6 (V2_cells _ D K)) _ rfl ?_)
 intro w4 hb1
 have s5 := Sb hb1
 have b5 := KTk1 hb1 b4
 refine Ln ⟨s5.old, ?_⟩
 by_cases c10 : ∀ i, i < 6 → (rv .u64 (fun p => mx6 (D p) (K p))) i = (rv .u64 K) i
 ·refine Rp KbT (fun v1 => Fx.x_eqlA (n := 6) (ks := List.replicate 6 (some .u64)) (X := rv .u64 (fun p => mx6 (D p) (K p))) (Y := rv .u64 K) 12 true rfl rfl rfl (Fx.yesb c10) (hD.mx hK).kd hK.kd rfl (by kernel_rfl) (by kernel_rfl) (by kernel_rfl) (by kernel_rfl) (by kernel_rfl)) (KRq KbT (KRend (Wr (Kret KbT ?_))))
  exact ⟨KrB (Eq.symm (decide_eq_true (less_iff.1 c10))), b5⟩
 refine Rp KbF (fun v1 => Fx.x_eqlA (n := 6) (ks := List.replicate 6 (some .u64)) (X := rv .u64 (fun p => mx6 (D p) (K p))) (Y := rv .u64 K) 12 false rfl rfl rfl (Fx.nob c10) (hD.mx hK).kd hK.kd rfl (by kernel_rfl) (by kernel_rfl) (by kernel_rfl) (by kernel_rfl) (by kernel_rfl)) (KRq KbF (KRend (Wr (Kret KbF ?_))))
 exact ⟨KrB (Eq.symm (decide_eq_false (fun h => c10 (less_iff.2 h)))), b5⟩
theorem v_may1 (k : Int) (w : World) :
    Calls Try.prog 68 #[Ki6 k] w fun e w' => e = .returned (Ku6 1099511627776) ∧ w' = w := by
 refine Kent Try.func68 3 ?_
 refine KWsl (KLq (Ku6 0) (KLe (KWsl (KLq (Ku6 1099511627776) (KLe (Wr (Kret (Ku6 1099511627776) ?_)))))))
 exact ⟨rfl, rfl⟩
theorem v_eachm (w : World) :
    Calls Try.prog 67 #[.func (.func 68) #[] #[]] w fun e w' => e = .returned (.agg (varr 6 (rv .u64 (fun _ => 1099511627776)))) ∧ Below w.heap.size w w' := by
 refine Kent Try.func67 14 ?_
 refine KWsl (Lnw (m := 6) (y := rv .u64 (fun _ => 0)) (by rfl) rfl (by kernel_rfl) rfl fun g1 w1 eg1 m1 s1 z1 => ?_)
 have b1 := KTk1 s1.old (Below.refl w.heap.size w)
 have lg1 := KGk0 eg1
 have tg1 := m1.lt
 refine KLe (Ws (KWsl (KLq (Ki6 0) (KLe (Wb ?_)))))
 have m2 : Blk w1 g1 6 (rv .u64 (eachT (fun _ => 1099511627776) 0)) 25 := m1
 refine Wo (fun f w_ => ∃ k : Nat, k ≤ 6 ∧ f 0 = .func (.func 68) #[] #[] ∧ f 2 = (pt g1) ∧ f 4 = Ki6 ((k : Int)) ∧ Blk w_ g1 6 (rv .u64 (eachT (fun _ => 1099511627776) k)) 25 ∧ Below w.heap.size w w_) (fun f _ => (6 - (intOf (f 4)).toNat)) ⟨0, by omega, (by rfl), (by rfl), Fx.ic, m2, b1⟩ ?_
 rintro f1 w2 ⟨k, hk, h1, h2, h3, m3, b2⟩
 refine KWsl ?_
 by_cases c5 : (k : Int) < 6
 ·refine Lv KbT (KltT c5 (hx := h3)) (KLe (Ws (KWcT (Wk (sN (Ws (Wb (KWsl (KLh h3 (KLq (Ki6 k) (KLe (Wl (KLq (Ki6 k) (KLh h1 (KLq (Ki6 k) (Lcl (by rfl) (Fx.r_clo (args := [Ki6 ((k : Int))]) rfl rfl rfl (all := #[Ki6 ((k : Int))]) rfl Try.func68 rfl rfl) rfl ((v_may1 (k : Int) _).mono ?_)))))))))))))))))
  rintro e v1 ⟨he, hv1⟩
  subst v1
  refine ⟨Ku6 1099511627776, by rw [he], ?_⟩
  clear he
  refine Lv ((pf g1 k)) (Kxj 6 1 (hx := h2)) (KLs m3 k (Ku6 1099511627776) fun w3 m4 s2 z2 => ?_)
  have m5 : Blk w3 g1 6 (rv .u64 (upd (eachT (fun _ => 1099511627776) k) k 1099511627776)) 25 := m4.to (Fx.updV_rv _ _ _ _)
  have b3 := s2.below b2 b2.size (by omega)
  refine Ln (blkN (sN (Wl (Lv (Ki6 ((k : Int) + 1)) (KxP (hx := h3)) (KLq (Ki6 ((k : Int) + 1)) (Ln ?_))))))
  have m6 := m5.to (congrArg (rv .u64) (eachT_succ (fun _ => 1099511627776) k))
  refine lpN ⟨k + 1, by omega, h1, h2, Fx.ic, m6, b3⟩ ?_
  show (6 - (intOf ((Ki6 ((k : Int) + 1)))).toNat) < _
  simp only [h3, intOf]; omega
 refine Lv KbF (KltF c5 (hx := h3)) (KLe (Ws (KWcF (Wx (seqX (lpX (blkX (sN (KWsl (Lv (.agg (varr 6 (rv .u64 (eachT (fun _ => 1099511627776) k)))) (KxA m3.cel 0 (ha := h2)) (KLsA m3 0 (ha := h2) fun w4 m7 s3 z3 => ?_)))))))))))
 have m8 : Blk w4 g1 6 (rv .u64 (eachT (fun _ => 1099511627776) k)) 25 := ovr_all m7
 have b4 := s3.below b2 b2.size (by omega)
 refine KLe (Wr (⟨.agg (varr 6 (rv .u64 (eachT (fun _ => 1099511627776) k))), rV Try.results67 ⟨_, h2, run_loadV m8.cel (by kernel_rfl) (by kernel_rfl)⟩, ?_⟩))
 have e6 : k = 6 := by omega
 exact ⟨by rw [e6, eachT_end], b4⟩
theorem v_mayv (K : Nat → Int) (w : World) (hK : Kr K) :
    Calls Try.prog 36 #[.agg (varr 6 (rv .u64 K))] w fun e w' => e = .returned (.bool (mayV6 K)) ∧ Below w.heap.size w w' := by
 refine Kent Try.func36 6 ?_
 refine KWsl (KLb fun g1 w1 eg1 m1 s1 z1 => ?_)
 have b1 := KTk1 s1.old (Below.refl w.heap.size w)
 have lg1 := KGk0 eg1
 have tg1 := m1.lt
 refine KLq KbF (KLe (Ws ?_))
 -- region 1 draws
 refine KWqb (Qv (.agg (varr 6 (rv .u64 K))) (fun v1 hv1 => KxA (m1.cb hv1) 0) (KQc1 (fun _ _ => v_eachm _) _ rfl ?_))
 by_cases c5 : (lessK K (fun _ => 1099511627776)) = true
 ·refine KQc1 (fun _ _ => v_less K (fun _ => 1099511627776) _ hK top_kr) KbT (by rw [c5]) (KQq KbT (Qn ?_))
  intro wb1 hbwb1
  have b2 := KTk1 hbwb1 b1
  refine sN (Wr (Kret KbT ?_))
  exact ⟨KrB c5.symm, b2⟩
 rw [Bool.not_eq_true] at c5
 refine KQc1 (fun _ _ => v_less K (fun _ => 1099511627776) _ hK top_kr) KbF (by rw [c5]) (KQq KbF (Qn ?_))
 intro wb2 hbwb2
 have b3 := KTk1 hbwb2 b1
 refine sN (Wr (Kret KbF ?_))
 exact ⟨KrB c5.symm, b3⟩
theorem Rt.le_step6 {K : Nat → Int} {b : Int} {i : Nat} (h : ∀ q, q < i → K q ≤ b) (hk : K i ≤ b) : ∀ q, q < i + 1 → K q ≤ b := fun q hq => by
  by_cases e : q = i
  · rw [e]; exact hk
  · exact h q (by omega)
theorem r6_may (K : Nat → Int) (w : World) :
    Calls Try.prog 44 #[.agg (varr 6 (rv .u64 K))] w fun e w' => e = .returned (.bool (mayV6 K)) ∧ Below w.heap.size w w' := by
 refine Kent Try.func44 12 ?_
 refine KWsl (KLb fun g1 w1 eg1 m1 s1 z1 => ?_)
 have b1 := KTk1 s1.old (Below.refl w.heap.size w)
 have lg1 := KGk0 eg1
 have tg1 := m1.lt
 refine KLq KbF (KLe (Ws (KWsl (KLq (Ki6 0) (KLe (Wb (Wo (fun f w_ => ∃ i : Nat, i ≤ 6 ∧ (∀ q, q < i → K q ≤ 1099511627776) ∧ f 1 = (pt g1) ∧ f 3 = Ki6 ((i : Int)) ∧ Blk w_ g1 6 (rv .u64 K) 25 ∧ Below w.heap.size w w_) (fun f _ => (6 - (intOf (f 3)).toNat)) ⟨0, by omega, (fun q h => absurd h (by omega)), (by rfl), Fx.ic, m1, b1⟩ ?_)))))))
 rintro f1 w2 ⟨i, hi, hall, h1, h2, m2, b2⟩
 refine Ws (KWsl (KLh h2 ?_))
 by_cases c5 : (i : Int) < 6
 ·refine Lv KbT (KltT c5) (KLe (KWcT (Wk (sN (Ws (Wb (KWsl (KLh h2 (Lv ((pf g1 i)) (Kxj 6 1 (hx := h1)) (Lv (Ku6 (K i)) (Kxl m2.cel i) ?_))))))))))
  by_cases c11 : 1099511627776 < (K i)
  ·refine Lv KbT (KgtT c11) (KLe (KWcT (KWsl (KLq KbF (KLe (Wr (blkR (sR (lpR (blkR (sR (Kret KbF ?_))))))))))))
   exact ⟨KrB (Eq.symm (decide_eq_false (fun h => by have : K i ≤ 1099511627776 := h i (by omega); omega))), b2⟩
  refine Lv KbF (KgtF c11) (KLe (KWcF (Wk (blkN (sN (Wl (KLh h2 (Lv (Ki6 ((i : Int) + 1)) KxP (KLq (Ki6 ((i : Int) + 1)) (Ln (lpN ⟨i + 1, by omega, (le_step6 hall (by omega)), h1, Fx.ic, m2, b2⟩ ?_)))))))))))
  show (6 - (intOf ((Ki6 ((i : Int) + 1)))).toNat) < _
  simp only [h2, intOf]; omega
 refine Lv KbF (KltF c5) (KLe (KWcF (Wx (seqX (lpX (blkX (sN (KWsl (KLq KbT (KLe (Wr (Kret KbT ?_))))))))))))
 exact ⟨KrB (Eq.symm (decide_eq_true (fun q hq => hall q (by omega)))), b2⟩
end Go.Proofs.Ytkajcjefckjijaa
namespace Go.Proofs.Ytkajcjefckjijaa.Fx
open Go.RowKit
section
variable {P : Program} {n : Nat} {Q : Post} {f : Nat → Value} {w : World} {ops : Array Oper} {rest : List Oper} {o : Oper}
theorem x_and {T T' : TypeId} {x y : Operand} {k : IntKind} {a b c : Int} (ho : o.op = .binOp .and T x y T') (hx : ev f x = .int k a) (hy : ev f y = .int k b) (hc : bits .and k a b = c) : Runs P f o w (.int k c) :=
  x_int ho hx hy (by simp [binOp, intBits_and, hc])
theorem x_or {T T' : TypeId} {x y : Operand} {k : IntKind} {a b c : Int} (ho : o.op = .binOp .or T x y T') (hx : ev f x = .int k a) (hy : ev f y = .int k b) (hc : bits .or k a b = c) : Runs P f o w (.int k c) :=
  x_int ho hx hy (by simp [binOp, intBits_or, hc])
theorem runs_e {k : IntKind} {a b : Int} (h : Runs P f o w (.int k a)) (e : a = b) : Runs P f o w (.int k b) := e ▸ h
theorem x_sl {T E : TypeId} {x : Operand} {lo hi : Option Operand} {a : Option Addr} {k c s j h : Nat} (ho : o.op = .slice T x lo hi none) (hx : ev f x = .slice a k c)
    (hl : lo.map (ev f) = (if j = 0 ∧ lo = none then none else some (.int .i64 j))) (hh : hi.map (ev f) = (if h = k ∧ hi = none then none else some (.int .i64 h)))
    (hu : P.underlying T = some (.slice E)) (hs : (P.info? E).map (·.size) = some s) (h1 : j ≤ h) (h2 : h ≤ c) :
    Runs P f o w (.slice (if c = j then a else a.map (·.add (j * s))) (h - j) (c - j)) := by
  obtain ⟨i, hi', hi2⟩ := Option.map_eq_some_iff.1 hs
  unfold Runs execOp
  simp only [ho, hx, hl, hh]
  have e1 : (j : Int) ≤ (h : Int) := by omega
  have e2 : (h : Int) ≤ (c : Int) := by omega
  by_cases c1 : j = 0 ∧ lo = none
  · obtain ⟨rfl, _⟩ := c1
    by_cases c2 : h = k ∧ hi = none
    · obtain ⟨rfl, _⟩ := c2
      simp [*, Instr.sliceAt, Instr.slice, underlying, Instr.sliceBounds, sizeOf, typeInfo]
    simp [*, Instr.sliceAt, Instr.slice, underlying, Instr.sliceBounds, Instr.sliceBound, asIntOf, sizeOf, typeInfo]
  by_cases c2 : h = k ∧ hi = none
  · obtain ⟨rfl, _⟩ := c2
    simp [*, Instr.sliceAt, Instr.slice, underlying, Instr.sliceBounds, Instr.sliceBound, asIntOf, sizeOf, typeInfo]
  simp [*, Instr.sliceAt, Instr.slice, underlying, Instr.sliceBounds, Instr.sliceBound, asIntOf, sizeOf, typeInfo]
theorem L.sl {w0 : World} {T E : TypeId} {x : Operand} {lo hi : Option Operand} {a : Option Addr} {k c s j h : Nat} {y : Nat → Value} (hw : Region.wanted o (yf ops f) = true) (hd : inn n o.dst = true) (ho : o.op = .slice T x lo hi none) (hx : ev f x = .slice a k c)
    (hl : lo.map (ev f) = (if j = 0 ∧ lo = none then none else some (.int .i64 j))) (hh : hi.map (ev f) = (if h = k ∧ hi = none then none else some (.int .i64 h)))
    (hu : P.underlying T = some (.slice E)) (hs : (P.info? E).map (·.size) = some s) (h1 : j ≤ h) (h2 : h ≤ k) (h3 : k ≤ c) (hA : Arr w0 a k s y)
    (hc : ∀ a', Arr w0 a' (h - j) s (fun p => y (j * s + p)) → L P n ops Q rest (put f o.dst (.slice a' (h - j) (c - j))) w) : L P n ops Q (o :: rest) f w := by
  refine Lv _ (x_sl ho hx hl hh hu hs h1 (by omega)) (hc _ fun h0 => ?_) hw hd
  obtain ⟨b, off, rfl, hcel⟩ := hA (by omega)
  rw [if_neg (by omega)]
  refine ⟨b, off + j * s, by simp [addr_add], fun p hp => ?_⟩
  have hlt : j * s + p < k * s := by
    have e : (h - j) * s = h * s - j * s := Nat.sub_mul _ _ _
    have := Nat.mul_le_mul_right s h1
    have := Nat.mul_le_mul_right s h2
    omega
  have := hcel (j * s + p) hlt
  rw [show off + j * s + p = off + (j * s + p) by omega]; exact this
theorem L.mk0 {T E : TypeId} {x y : Operand} {kl kc : IntKind} {c s bytes : Nat} (hw : Region.wanted o (yf ops f) = true) (hd : inn n o.dst = true) (ho : o.op = .makeSlice T x y) (hx : ev f x = .int kl 0) (hy : ev f y = .int kc (c : Int))
    (hu : P.underlying T = some (.slice E)) (hi : (P.info? E).map (fun i => (i.size, i.bytes)) = some (s, bytes)) (hz : ((P.info? E).bind (·.zero)).map (·.cells.size) = some s) (hb : c * bytes ≤ 140737488355328) (h63 : c ≤ 140737488355328)
    (h : ∀ g w', g = w.heap.size → (∀ B z, B ≤ g → Own w' B E s (.slice (some ⟨g, 0, none⟩) 0 c) 0 z) → Stp w.heap.size w w' → L P n ops Q rest (put f o.dst (.slice (some ⟨g, 0, none⟩) 0 c)) w') : L P n ops Q (o :: rest) f w := by
  obtain ⟨i, hi1, hi2⟩ := Option.map_eq_some_iff.1 hi
  obtain ⟨z, hz1, hz2⟩ := Option.map_eq_some_iff.1 hz
  obtain ⟨i2, hi3, hz3⟩ := Option.bind_eq_some_iff.1 hz1
  rw [hi1] at hi3
  injection hi3 with hi3
  subst hi3
  injection hi2 with hs1 hs2
  have hb' : i.bytes * c ≤ 281474976710656 := by rw [hs2, Nat.mul_comm]; omega
  have h63' : (c : Int) ≤ 9223372036854775807 := by omega
  have hb2 : (i.bytes : Int) * (c : Int) ≤ 281474976710656 := by
    have h : ((i.bytes * c : Nat) : Int) ≤ 281474976710656 := by omega
    rwa [Int.natCast_mul] at h
  have hr := run_make (P := P) w T E i z hu hi1 hz3 kl kc 0 c (Int.le_refl _) (by omega) hb2 h63'
  simp only [Int.toNat_zero, Int.toNat_natCast] at hr
  have hrun : (execOp (ev f) o).run P w = .ok (.value (.slice (some ⟨w.heap.size, 0, none⟩) 0 c)) (w.alloc (.cells (madeCells z.cells (c * i.size)) E)) := by
    unfold execOp
    simp only [ho, hx, hy, Sem.run_bind, hr, Result.andThen_ok, Sem.run_pure]
  refine L.val hw hrun hd (h _ _ rfl (fun B x hB => ⟨by simp, .inr ⟨w.heap.size, c, _, rfl, hB, heap_alloc_new w _, Nat.zero_le _, by unfold maxLen; omega, ?_, by simp⟩⟩) (Stp.alloc _ _))
  rw [size_madeCells, hs1]
theorem L.appG {B : Nat} {E T : TypeId} {s bytes k m c c2 : Nat} {x y : Nat → Value} {b off b2 off2 : Nat} {sx xx : Operand} (hw : Region.wanted o (yf ops f) = true) (ho : o.op = .call { callee := .builtin .append, args := #[sx, xx], argTypes := #[T, T] }) (hsx : ev f sx = .slice (some ⟨b, off, none⟩) k c) (hxx : ev f xx = .slice (some ⟨b2, off2, none⟩) m c2)
    (hu : P.underlying T = some (.slice E)) (hi : (P.info? E).map (fun i => (i.size, i.bytes)) = some (s, bytes)) (hz : ((P.info? E).bind (·.zero)).map (·.cells.size) = some s) (hs : Nat.blt 0 s = true) (hd : inn n o.dst = true)
    (hx : Cel w b off (k * s) x) (hy : Cel w b2 off2 (m * s) y) (hg : c < k + m) (hkc : k ≤ c) (hbytes : (k + m) * bytes ≤ 140737488355328) (h63 : k + m ≤ 140737488355328) (hB : B ≤ w.heap.size)
    (h : ∀ g cap w', g = w.heap.size → Own w' B E s (.slice (some ⟨g, 0, none⟩) (k + m) cap) (k + m) (appX x (k * s) y) → Stp w.heap.size w w' → L P n ops Q rest (put f o.dst (.slice (some ⟨g, 0, none⟩) (k + m) cap)) w') : L P n ops Q (o :: rest) f w := by
  obtain ⟨i, hi1, hi2⟩ := Option.map_eq_some_iff.1 hi
  obtain ⟨z, hz1, hz2⟩ := Option.map_eq_some_iff.1 hz
  obtain ⟨i2, hi3, hz3⟩ := Option.bind_eq_some_iff.1 hz1
  rw [hi1] at hi3
  injection hi3 with hi3
  subst hi3
  injection hi2 with hs1 hs2
  subst hs1 hs2
  have lst : ∀ {b off q : Nat} {x : Nat → Value}, Cel w b off q x → ∀ j v, ((List.range q).map x)[j]? = some v → w.cell? ((⟨b, off, none⟩ : Addr).add j) = some v := fun {b off q x} hc j v hj => by
    by_cases hjl : j < q
    · simp [hjl] at hj
      rw [addr_add, ← hj]; exact hc j hjl
    · rw [List.getElem?_eq_none (by simp; omega)] at hj; cases hj
  have hr := run_append_grow (P := P) w T o.type E i z hu hi1 hz3 ⟨b, off, none⟩ k c ((List.range (k * i.size)).map x) (by simp) (lst hx) ⟨b2, off2, none⟩ m c2 ((List.range (m * i.size)).map y) (by simp) (lst hy) hg (by omega) (growslice_fits (by omega) hbytes)
  have hrun : (execOp (ev f) o).run P w = .ok (.value (.slice (some ⟨w.heap.size, 0, none⟩) (k + m) (grownCap w (k + m) c E))) (w.drew.alloc (.cells (((List.range (k * i.size)).map x).toArray ++ ((List.range (m * i.size)).map y).toArray ++ Builtin.zeroCells z.cells (grownCap w (k + m) c E - (k + m))) E)) := by
    unfold execOp
    simp only [ho]
    unfold resolve invoke
    simp only [List.map_toArray, List.map_cons, List.map_nil, hsx, hxx]
    unfold builtin
    simp only [Sem.run_bind, Sem.run_pure, Result.andThen_ok, hr]
  have hge := grownCap_ge w (k + m) c E
  have hcm : grownCap w (k + m) c E ≤ maxLen := grownCap_le_maxLen w (k + m) c E (by unfold maxLen; omega)
  refine L.val hw hrun hd (h _ _ _ rfl ⟨by simp, .inr ⟨w.heap.size, _, _, rfl, hB, heap_alloc_new w.drew _, hge, hcm, ?_, ?_⟩⟩ ?_)
  · simp only [Array.size_append, List.size_toArray, size_zeroCells, hz2, List.length_map, List.length_range, ← Nat.add_mul]
    congr 1; omega
  · simp only [Array.toList_append, List.append_assoc]
    rw [Nat.add_mul, ← appX_list, ← List.append_assoc, List.take_left' (by simp)]
  exact ⟨rfl, rfl, rfl, by simp, fun q hq _ => heap_alloc_old w.drew _ hq⟩
theorem L.mark {T E : TypeId} {x : Operand} {g m q c : Nat} {y : Nat → Value} (hw : Region.wanted o (yf ops f) = true) (hd : inn n o.dst = true) (ho : o.op = .convert T T x) (hx : ev f x = .slice (some ⟨g, 0, none⟩) m c)
    (hu : P.underlying T = some (.slice E)) (he : P.underlying E = some (.int .u8)) (hb : Blk w g q y E)
    (h : ∀ w', Cel w' g 0 q y → Stp g w w' → L P n ops Q rest (put f o.dst (.slice (some ⟨g, 0, none⟩) m c)) w') : L P n ops Q (o :: rest) f w := by
  have hb0 : w.heap[g]? = some (.cells (varr q y) E (0, 0)) := hb
  have hsh : w.shape? g = some (E, q) := by
    unfold World.shape?
    rw [hb0]
    simp [varr_size]
  obtain ⟨w', hw'⟩ : ∃ w', w' = w.freeze ⟨g, q, none⟩ 1 := ⟨_, rfl⟩
  have hrun : (execOp (ev f) o).run P w = .ok (.value (.slice (some ⟨g, 0, none⟩) m c)) w' := by
    unfold execOp
    simp [ho, hx, convert, run_underlying hu, run_underlying he, markStringish, hsh, hw']
  have hother : ∀ k, k ≠ g → w'.heap[k]? = w.heap[k]? := fun k hk => by
    rw [hw']
    unfold World.freeze
    rw [if_neg (by decide)]
    show (w.heap.modify g _)[k]? = _
    rw [Array.getElem?_modify, if_neg (fun e => hk e.symm)]
  have hat : ∃ fz, w'.heap[g]? = some (.cells (varr q y) E fz) := by
    rw [hw']
    unfold World.freeze
    rw [if_neg (by decide)]
    refine ⟨?_, ?_⟩
    rotate_left
    · show (w.heap.modify g _)[g]? = _
      rw [Array.getElem?_modify, if_pos rfl, hb0]
      rfl
  obtain ⟨fz, hat⟩ := hat
  refine L.val hw hrun hd (h _ ?_ ?_)
  · intro j hj
    rw [Nat.zero_add]
    unfold World.cell?
    simp only [hat]
    exact varr_get y hj
  refine ⟨by rw [hw']; unfold World.freeze; rw [if_neg (by decide)], by rw [hw']; unfold World.freeze; rw [if_neg (by decide)], by rw [hw']; unfold World.freeze; rw [if_neg (by decide)], ?_, fun k _ hk => hother k hk⟩
  rw [hw']; unfold World.freeze; rw [if_neg (by decide)]
  show w.heap.size ≤ (w.heap.modify g _).size
  rw [Array.size_modify]; exact Nat.le_refl _
def strL (l : List UInt8) : ByteArray := ⟨l.toArray⟩
def byY (l : List UInt8) : Nat → Value := fun q => .int .u8 ((l.getD q 0).toNat : Int)
theorem strL_list (l : List UInt8) : (strL l).toList = l := by
  unfold strL
  simp
theorem x_bstr {S T E : TypeId} {x : Operand} {a : Option Addr} {m c : Nat} {l : List UInt8} (ho : o.op = .convert S T x) (hx : ev f x = .slice a m c) (hu : P.underlying S = some (.slice E)) (he : P.underlying E = some (.int .u8)) (ht : P.underlying T = some .string)
    (hm : m = l.length) (hA : Arr w a m 1 (byY l)) : Runs P f o w (.string (strL l)) := by
  subst hm
  unfold Runs execOp
  simp only [ho, hx, Sem.run_bind, run_convert_bytes_string w S T E a l.length c hu he ht]
  by_cases h0 : 0 < l.length
  · obtain ⟨b, off, rfl, hc⟩ := hA h0
    have hl : (loadCells (⟨b, off, none⟩ : Addr) l.length).run P w = .ok ((l.map fun u => (u.toNat : Int)).map (Value.int .u8)).toArray w := by
      have := run_loadCells_list (P := P) w ⟨b, off, none⟩ ((l.map fun u => (u.toNat : Int)).map (Value.int .u8)) (by
        intro j v hj
        rw [List.map_map] at hj
        by_cases hjl : j < l.length
        · have h1 := hc j (by omega)
          rw [addr_add, h1]
          rw [List.getElem?_map, List.getElem?_eq_getElem hjl] at hj
          simp at hj
          unfold byY
          rw [List.getD_eq_getElem?_getD, List.getElem?_eq_getElem hjl, ← hj]; rfl
        · rw [List.getElem?_eq_none (by simp; omega)] at hj; cases hj)
      rwa [show ((l.map fun u => (u.toNat : Int)).map (Value.int .u8)).length = l.length by simp] at this
    rw [run_bytesToString w _ l.length c (l.map fun u => (u.toNat : Int)) hl]
    have e : ∀ (l : List UInt8) (s : ByteArray), (l.map fun u => (u.toNat : Int)).foldl (fun r n => r.push (UInt8.ofNat n.toNat)) s = ⟨s.data ++ l.toArray⟩ := by
      intro l
      induction l with
      | nil => intro s; simp
      | cons u l ih =>
        intro s
        rw [List.map_cons, List.foldl_cons, ih]
        congr 1
        apply Array.ext'
        simp [ByteArray.push]
    rw [e]
    simp [strL, ByteArray.empty, ByteArray.emptyWithCapacity]
    rfl
  have e : l = [] := List.length_eq_zero_iff.1 (by omega)
  subst e
  simp [Conv.bytesToString, strL]
  cases a with
  | none => rfl
  | some ad => simp [loadCells, loadCellsFrom]; rfl
theorem x_eqlS {T T' : TypeId} {x y : Operand} {l l' : List UInt8} (ho : o.op = .binOp .eql T x y T') (hx : ev f x = .string (strL l)) (hy : ev f y = .string (strL l')) : Runs P f o w (.bool (decide (l = l'))) := by
  unfold Runs execOp
  simp only [ho, hx, hy]
  have hg : (eqGuard .eql T x y (.string (strL l)) (.string (strL l'))).run P w = .ok () w := by unfold eqGuard; rfl
  simp only [Sem.run_bind, hg, Result.andThen_ok]
  simp [binOp, Op.stringOp, strL_list]
  by_cases h : l = l'
  · simp [h]
  simp [h]
end
end Go.Proofs.Ytkajcjefckjijaa.Fx
namespace Go.Proofs.Ytkajcjefckjijaa
open Go.RowKit Rt
open Fx (x_move x_assign x_field x_load1 x_conv x_indexS x_index x_leqF x_loadA x_len x_gtrF x_eqlF x_eqlT Lv sN Ln Ws Qv Wl Rp Wc Qs Wr Sb Lk Wk rV sR Rs Rn Rd Rk Wb Wx Wo Wt Wone Qn Qcl Lcl Lbs Lap Lnw Lbx Stv cOs cOg sRf mRf gRf cRf oNl bGr Wro rv varr Blk ovr ev Stp ovr_all flat updV run_loadV Cel fill_step ret0 Chg i64e Arr flat_cong cells_agg cells_one ChT ovr_ones u64e appX fOne_out upd_all blkR blkN seqX blkX lpX lpN lpR retV2)
namespace Rt
theorem be_len : ∀ (k : Nat) (x : Int), (be k x).length = k
  | 0, _ => rfl
  | k + 1, x => by show (be k x).length + 1 = k + 1; rw [be_len]
theorem be_get : ∀ (k : Nat) (x : Int) (j : Nat), j < k → (be k x)[j]? = some (byI (x / 256 ^ (k - 1 - j)))
  | 0, _, j, h => absurd h (Nat.not_lt_zero _)
  | k + 1, x, 0, _ => by show some (byI (x / 256 ^ k)) = _; rw [show k + 1 - 1 - 0 = k by omega]
  | k + 1, x, j + 1, h => by
    show (be k x)[j]? = _
    rw [be_get k x j (by omega), show k + 1 - 1 - (j + 1) = k - 1 - j by omega]
theorem be_step {k j : Nat} {x : Int} (h : j < k) : (be k x).take (j + 1) = (be k x).take j ++ [byI (x / 256 ^ (k - 1 - j))] := by
  rw [List.take_add_one, be_get k x j h]; rfl
theorem by8 {x : Int} {i sh : Nat} (h0 : 0 ≤ x) (hs : sh = 8 * i) : IntKind.u8.wrap (x / (2 : Int) ^ sh) = ((byI (x / 256 ^ i)).toNat : Int) := by
  have e : (2 : Int) ^ sh = 256 ^ i := by rw [hs, Int.pow_mul]; rfl
  rw [e]
  have h1 : 0 ≤ x / 256 ^ i := Int.ediv_nonneg h0 (Int.pow_nonneg (by decide))
  generalize x / 256 ^ i = y at h1
  unfold byI
  simp only [IntKind.wrap, IntKind.bits, IntKind.signed]
  simp
  omega
theorem byY_app {l r : List UInt8} {n m : Nat} (hn : n = l.length) : ∀ j, j < (n + m) * 1 → appX (Fx.byY l) (n * 1) (Fx.byY r) j = Fx.byY (l ++ r) j := fun j hj => by
  subst hn
  unfold appX
  rw [Nat.mul_one]
  unfold Fx.byY
  by_cases c : j < l.length
  · rw [if_pos c, List.getD_eq_getElem?_getD, List.getD_eq_getElem?_getD, List.getElem?_append_left c]
  · rw [if_neg c, List.getD_eq_getElem?_getD, List.getD_eq_getElem?_getD, List.getElem?_append_right (by omega)]
theorem byY_one (l : List UInt8) (j : Nat) : (Fx.byY l j).oneCell' = true := rfl
theorem shr0 {x : Int} {k w8 : Nat} (h8 : w8 = 8 * k) (hx : 0 ≤ x ∧ x < 256 ^ k) : x / (2 : Int) ^ w8 = 0 := by
  have e : (2 : Int) ^ w8 = 256 ^ k := by rw [h8, Int.pow_mul]; rfl
  rw [e]; exact Int.ediv_eq_zero_of_lt hx.1 hx.2
end Rt
theorem o_width (k w8 : Nat) (hk : k = 1 ∨ k = 2 ∨ k = 4 ∨ k = 8) (h8 : w8 = 8 * k) (w : World) :
    Calls Try.prog 82 #[Ki6 ((k : Int))] w fun e w' => e = .returned (Ki6 (w8 : Int)) ∧ w' = w := by
 refine Kent Try.func82 22 ?_
 refine KWsl (KLq (Ki6 0) (KLe (KWsl (KLq (Ki6 0) (KLe (Ws (KWsl (KLq (Ki6 k) (KLe (Wb (Ws (Wb (Ws (Wb (Ws (Wb (Ws (Wb (Ws (Ws (Ws (Wl ?_))))))))))))))))))))))
 by_cases c6 : (k : Int) = 8
 ·refine Lv KbT (KeqT c6) (KLq KbT (KLe (KWcT (Wx (seqX (seqX (blkX (sN (Wl (KLq (Ki6 0) (Lv (Ki6 32) KxP (KLq (Ki6 32) (Ln (blkN (sN (Wl (KLq (Ki6 32) (Lv (Ki6 48) KxP (KLq (Ki6 48) (Ln (blkN (sN (Wl (KLq (Ki6 48) (Lv (Ki6 56) KxP (KLq (Ki6 56) (Ln (blkN (sN (KWsl (KLq (Ki6 56) (Lv (Ki6 64) KxP (KLq (Ki6 64) (KLe (Wx (blkX (sN (KWsl (KLq (Ki6 64) (KLq (Ki6 64) (KLe (Wr (Kret (Ki6 64) ?_)))))))))))))))))))))))))))))))))))))))))))
  exact ⟨KrI (by omega), rfl⟩
 refine Lv KbF (KeqF c6) (KLq KbF (KLe (KWcF (Wk (sN (Ws (KWsl ?_)))))))
 by_cases c8 : (k : Int) = 4
 ·refine Lv KbT (KeqT c8) (KLq KbT (KLe (KWcT (Wx (seqX (seqX (Fx.blkO rfl (seqX (blkX (sN (Wl (KLq (Ki6 0) (Lv (Ki6 16) KxP (KLq (Ki6 16) (Ln (blkN (sN (Wl (KLq (Ki6 16) (Lv (Ki6 24) KxP (KLq (Ki6 24) (Ln (blkN (sN (KWsl (KLq (Ki6 24) (Lv (Ki6 32) KxP (KLq (Ki6 32) (KLe (Wx (blkX (sN (KWsl (KLq (Ki6 32) (KLq (Ki6 32) (KLe (Wr (Kret (Ki6 32) ?_))))))))))))))))))))))))))))))))))))))
  exact ⟨KrI (by omega), rfl⟩
 refine Lv KbF (KeqF c8) (KLq KbF (KLe (KWcF (Wk (sN (Ws (KWsl ?_)))))))
 by_cases c10 : (k : Int) = 2
 ·refine Lv KbT (KeqT c10) (KLq KbT (KLe (KWcT (Wx (seqX (seqX (Fx.blkO rfl (seqX (Fx.blkO rfl (seqX (blkX (sN (Wl (KLq (Ki6 0) (Lv (Ki6 8) KxP (KLq (Ki6 8) (Ln (blkN (sN (KWsl (KLq (Ki6 8) (Lv (Ki6 16) KxP (KLq (Ki6 16) (KLe (Wx (blkX (sN (KWsl (KLq (Ki6 16) (KLq (Ki6 16) (KLe (Wr (Kret (Ki6 16) ?_)))))))))))))))))))))))))))))))))
  exact ⟨KrI (by omega), rfl⟩
 refine Lv KbF (KeqF c10) (KLq KbF (KLe (KWcF (Wk (sN (KWsl ?_))))))
 by_cases c12 : (k : Int) = 1
 ·refine Lv KbT (KeqT c12) (KLq KbT (KLe (KWcT (Wx (seqX (Fx.blkO rfl (seqX (Fx.blkO rfl (seqX (Fx.blkO rfl (seqX (blkX (sN (Ws (Wl (KLq (Ki6 0) (Lv (Ki6 8) KxP (KLq (Ki6 8) (KLe (Wx (blkX (sN (KWsl (KLq (Ki6 8) (KLq (Ki6 8) (KLe (Wr (Kret (Ki6 8) ?_))))))))))))))))))))))))))))
  exact ⟨KrI (by omega), rfl⟩
 refine Lv KbF (KeqF c12) (KLq KbF (KLe (KWcF (Wk (sN (Wx (Fx.blkO rfl (seqX (Fx.blkO rfl (seqX (Fx.blkO rfl (seqX (Fx.blkO rfl (seqX (blkX (sN (KWsl (KLq (Ki6 0) (KLq (Ki6 0) (KLe (Wr (Kret (Ki6 0) ?_))))))))))))))))))))))
 exfalso; omega
theorem Rt.byY_app1 {l : List UInt8} {n : Nat} {b : UInt8} {z : Nat → Value} (hn : n = l.length) : ∀ q, q < (n + 1) * 1 → appX (Fx.byY l) (n * 1) (ovr z (0 * 1) 1 (fun _ => .int .u8 (b.toNat : Int))) q = Fx.byY (l ++ [b]) q := fun q hq => by
  subst hn
  unfold appX Fx.byY ovr
  rw [Nat.mul_one]
  by_cases c : q < l.length
  · rw [if_pos c, List.getD_eq_getElem?_getD, List.getD_eq_getElem?_getD, List.getElem?_append_left c]
  · have e : q = l.length := by omega
    subst e
    rw [if_neg c, if_pos (by omega)]
    simp
theorem o_put (a : Option Addr) (m c : Nat) (l : List UInt8) (x : Int) (k : Nat) (w : World) (hk : k = 1 ∨ k = 2 ∨ k = 4 ∨ k = 8) (hx : 0 ≤ x ∧ x < 256 ^ k) (hm : m = l.length) (hl : m ≤ 100000000) (hb : Arr w a m 1 (Fx.byY l)) :
    Calls Try.prog 74 #[.slice a (m) (c), Ku6 x, Ki6 ((k : Int))] w fun e w' => ∃ a' c', e = .returned (.tuple #[.slice a' (m + k) c', Ki6 0]) ∧ Fx.Own w' w.heap.size 5 1 (.slice a' (m + k) c') (m + k) (Fx.byY (l ++ be k x)) ∧ Below w.heap.size w w' := by
 obtain ⟨w8, hw8⟩ : ∃ q, q = 8 * k := ⟨_, rfl⟩
 refine Kent Try.func74 41 ?_
 refine KWsl (KLq (.slice none 0 0) (KLq (Ki6 0) (KLe (KWsl (KLq (Ki6 k) (KLc0 (o_width k w8 hk hw8 _) _ rfl (KLq (Ki6 w8) (KLe (Ws (Wb (KWsl (KLq (Ki6 w8) (Lv KbF KeqFo (KLq KbF (KLe (KWcF (KWsl (KLq (Ku6 x) (KLq (Ki6 w8) (Lv (Ku6 0) (Fx.runs_e (Fx.x_shr (b := w8) (q := (2 : Int) ^ w8) rfl rfl rfl (by have : IntKind.u64.bits = 64 := rfl; omega) rfl) (shr0 hw8 hx)) (Lv KbF (x_gtrF rfl rfl rfl (by decide)) (KLq KbF (KLe (KWcF (Wk (blkN (sN (KWsl (KLq (.slice a (m) (c)) (KLq (Ki6 m) (KLq (Ki6 k) (Lv (Ki6 ((k : Int) + (m : Int))) KxP (Fx.L.mk0 (c := k + m) (s := 1) (bytes := 1) (by rfl) (by rfl) rfl rfl rfl Try.underlying30 (by kernel_rfl) (by kernel_rfl) (by omega) (by omega) fun g1 w1 eg1 ho1 s1 => ?_)))))))))))))))))))))))))))))))))
 have lg1 := KGk0 eg1
 have b1 := KTk1 s1.old (Below.refl w.heap.size w)
 have m1 := ho1 w.heap.size (Fx.byY []) lg1
 refine KLq (.slice a (m) (c)) (Fx.L.appAny (B := w.heap.size) (s := 1) (bytes := 1) (k := 0) (m := m) (v := Ksl g1 0 (k + m)) (x := Fx.byY []) (by rfl) rfl rfl rfl Try.underlying30 (by kernel_rfl) (by kernel_rfl) rfl rfl m1 (hb.up b1 rfl) (fun j _ => byY_one _ j) (by omega) (by omega) b1.size fun vv1 w2 ho2 hg1 hgv1 => ?_)
 rw [Nat.zero_add] at ho2
 obtain ⟨a1, cap1, rfl⟩ := ho2.val
 have m2 : Fx.Own w2 w.heap.size 5 1 (.slice a1 (m) (cap1)) m (Fx.byY l) := (ho2.congr (fun j hj => byY_app (l := []) (r := l) (n := 0) (m := m) rfl j (by omega)))
 have b2 : Below w.heap.size w w2 := bGr b1 hg1 b1.size (fun q hq => (m1.ge hq).1)
 refine KLq (.slice a1 (m) (cap1)) (KLe (Ws (Ws ?_)))
 have m3 : Fx.Own w2 w.heap.size 5 1 (.slice a1 (m) (cap1)) m (Fx.byY (l ++ (be k x).take 0)) := by rw [List.take_zero, List.append_nil]; exact m2
 refine Wl (KLq (Ki6 w8) (Lv (Ki6 ((w8 : Int) - 8)) KxM (KLq (Ki6 ((w8 : Int) - 8)) (KLe (Wb (Wo (fun f w_ => ∃ j : Nat, ∃ n : Nat, ∃ ao : Option Addr, ∃ co : Nat, j ≤ k ∧ n = m + j ∧ f 1 = Ku6 x ∧ f 8 = Ki6 ((w8 : Int) - 8 * (j : Int) - 8) ∧ f 9 = .slice ao (n) (co) ∧ Fx.Own w_ w.heap.size 5 1 (.slice ao (n) (co)) n (Fx.byY (l ++ (be k x).take j)) ∧ Below w.heap.size w w_) (fun f _ => (intOf (f 8) + 8).toNat) ⟨0, m, a1, cap1, by omega, by omega, Fx.ic, Fx.ic, (by rfl), m3, b2⟩ ?_))))))
 rintro f1 w3 ⟨j, n, ao, co, hj, hn, h1, h2, h3, m4, b3⟩
 refine Ws (KWsl (KLh h2 ?_))
 by_cases c30 : 0 ≤ ((w8 : Int) - 8 * (j : Int) - 8)
 ·refine Lv KbT (KgeT c30) (KLe (KWcT (Wk (sN (Ws (Wb ?_))))))
  obtain ⟨sh, hsh⟩ : ∃ sh : Nat, (w8 : Int) - 8 * (j : Int) - 8 = (sh : Int) := ⟨8 * (k - 1 - j), by omega⟩
  have hbs := be_step (x := x) (show j < k by omega)
  refine Wl (KLh h3 (KLh h1 (KLh (h2.trans (congrArg (Value.int .i64) hsh)) (Lv (Ku6 (x / (2 : Int) ^ sh)) (Fx.x_shr (b := sh) (q := (2 : Int) ^ sh) rfl rfl rfl (by have : IntKind.u64.bits = 64 := rfl; omega) rfl) (Lv (.int .u8 (((byI (x / 256 ^ (k - 1 - j))).toNat : Int))) (x_conv rfl rfl (by kernel_rfl) Try.underlying5 (by8 hx.1 (by omega))) (Lbs (vs := [(0, .int .u8 (((byI (x / 256 ^ (k - 1 - j))).toNat : Int)))]) (s := 1) (zc := rv .u8 (fun _ => 0)) (y := ovr (fun j => (rv .u8 (fun _ => 0)) (j % 1)) (0 * 1) 1 (fun _ => .int .u8 (((byI (x / 256 ^ (k - 1 - j))).toNat : Int)))) (by rfl) rfl rfl Try.underlying30 (by kernel_rfl) (by rfl) (by rfl) (by kernel_rfl) (by rw [fill_step (off := 0 * 1) (s := 1) (y := fun _ => .int .u8 (((byI (x / 256 ^ (k - 1 - j))).toNat : Int))) rfl (cells_one (by rfl)) (by rfl)]; rfl) rfl fun g2 w4 eg2 m5 s2 z1 => ?_))))))
  have ⟨m6, b4⟩ := KTk2 s2.old m4 b3
  have lg2 := KGk eg2 b3.size
  have ng2m6 : (.slice ao (n) (co) : Value).ownBlock ≠ some g2 := by rw [eg2]; exact m4.notNew (Nat.le_refl _)
  have tg2 := m5.lt
  refine Lap (B := w.heap.size) (s := 1) (bytes := 1) (k := n) (m := 1) (v := .slice ao (n) (co)) (x := Fx.byY (l ++ (be k x).take j)) (by rfl) rfl rfl rfl Try.underlying30 (by kernel_rfl) (by kernel_rfl) rfl rfl m6 m5.cel (fun j hj => by unfold ovr; split <;> rfl) (by omega) (by omega) (by omega) b4.size fun g3 cap2 w5 ho3 hg2 hgv2 hlt1 => ?_
  have m7 : Fx.Own w5 w.heap.size 5 1 (Ksl g3 (n + 1) cap2) (n + 1) (Fx.byY (l ++ (be k x).take (j + 1))) := (ho3.congr (fun q hq => by rw [hbs, ← List.append_assoc]; exact byY_app1 (by rw [List.length_append, List.length_take, be_len, ← hm]; omega) q hq))
  have b5 : Below w.heap.size w w5 := bGr b4 hg2 b4.size (fun q hq => (m6.ge hq).1)
  refine KLq (Ksl g3 (n + 1) cap2) (Ln (blkN (sN (Wl (KLh (h2.trans (congrArg (Value.int .i64) hsh)) (Lv (Ki6 ((sh : Int) - 8)) KxM (KLq (Ki6 ((sh : Int) - 8)) (Ln ?_))))))))
  skip
  refine lpN ⟨j + 1, n + 1, (some ⟨g3, 0, none⟩), cap2, by omega, by omega, (h1.trans Fx.ic), Fx.ic, (by rfl), m7, b5⟩ ?_
  show (intOf ((Ki6 ((sh : Int) - 8))) + 8).toNat < _
  simp only [h2, intOf]; omega
 refine Lv KbF (KgeF c30) (KLe (KWcF (Wx (seqX (lpX (blkX (sN (KWsl (KLh h3 (KLq (.slice ao (n) (co)) (KLq (Ki6 0) (KLe (Wr (Kret (.tuple #[.slice ao (n) (co), Ki6 0]) (⟨ao, co, by rw [show m + k = n by omega], ?_, b3⟩)))))))))))))))
 have q9 := m4
 rw [show j = k by omega, List.take_of_length_le (by rw [be_len]; exact Nat.le_refl _)] at q9
 rw [show m + k = n by omega]; exact q9
end Go.Proofs.Ytkajcjefckjijaa
namespace Go.Proofs.Ytkajcjefckjijaa.Fx
open Go.RowKit Go.MapKept
def Mp (w : World) (b n : Nat) (key : Nat → Int) (val : Nat → Value) : Prop :=
  ∃ es clock, w.heap[b]? = some (.map es clock) ∧ Stamped es clock ∧ es.size = n ∧ ∀ i, i < n → ∃ e, es[i]? = some e ∧ e.key = .int .u64 (key i) ∧ e.val = val i
def putI {α : Type} (f : Nat → α) (j : Nat) (v : α) : Nat → α := fun i => if i = j then v else f i
section
variable {w w' : World} {b n : Nat} {key : Nat → Int} {val : Nat → Value}
theorem Mp.lt (h : Mp w b n key val) : b < w.heap.size := by
  obtain ⟨es, c, h, _⟩ := h
  exact (Array.getElem?_eq_some_iff.1 h).1
theorem Mp.keep (h : Mp w b n key val) (e : w'.heap[b]? = w.heap[b]?) : Mp w' b n key val := by
  obtain ⟨es, c, h1, h2⟩ := h
  exact ⟨es, c, e.trans h1, h2⟩
theorem Mp.stp {g : Nat} (h : Mp w b n key val) (hs : Stp g w w') (ne : b ≠ g) : Mp w' b n key val := h.keep (hs.block b h.lt ne)
theorem Mp.up (h : Mp w b n key val) (hb : Below w.heap.size w w') : Mp w' b n key val := h.keep (hb.block b h.lt)
instance : Rt.Tr w w' (Mp w b n key val) (Mp w' b n key val) := ⟨fun b h => h.up b⟩
theorem Mp.noTy {T : TypeId} (h : Mp w b n key val) (ht : Ty w b T) : False := by
  obtain ⟨es, c, h, _⟩ := h
  obtain ⟨cs, ht⟩ := ht
  rw [h] at ht; cases ht
theorem Mp.chT {Ts : List TypeId} (h : Mp w b n key val) (hs : ChT Ts w w') (_ : True) : Mp w' b n key val := h.keep (hs.block b h.lt fun _ ht => (h.noTy ht).elim)
instance {Ts : List TypeId} : Rt.Tc Ts w w' (Mp w b n key val) (Mp w' b n key val) true := ⟨fun b h _ => h.chT b trivial⟩
theorem Mp.ne {g : Nat} {T : TypeId} (h : Mp w b n key val) (ht : Ty w g T) : g ≠ b := fun e => h.noTy (e ▸ ht)
theorem Mp.cong {key' : Nat → Int} {val' : Nat → Value} (h : Mp w b n key val) (e : ∀ i, i < n → key i = key' i ∧ val i = val' i) : Mp w b n key' val' := by
  obtain ⟨es, c, h1, h2, h3, h4⟩ := h
  exact ⟨es, c, h1, h2, h3, fun i hi => by
    obtain ⟨x, a, d, f⟩ := h4 i hi
    exact ⟨x, a, by rw [d, (e i hi).1], by rw [f, (e i hi).2]⟩⟩
theorem Mp.inj (h : Mp w b n key val) : ∀ i j, i < n → j < n → key i = key j → i = j := fun i j hi hj e => by
  obtain ⟨es, c, _, ⟨_, _, hk⟩, hn, hg⟩ := h
  obtain ⟨x, hx, kx, _⟩ := hg i hi
  obtain ⟨y, hy, ky, _⟩ := hg j hj
  rw [Array.getElem?_eq_some_iff] at hx hy
  obtain ⟨hi', hx⟩ := hx
  obtain ⟨hj', hy⟩ := hy
  have hp := List.pairwise_iff_getElem.1 hk
  have key2 : ∀ a c (ha : a < es.size) (hc : c < es.size), a < c → es[a].key ≠ es[c].key := fun a c ha hc hac => by
    have := hp a c (by simpa using ha) (by simpa using hc) hac
    simpa only [List.getElem_map, Array.getElem_toList] using this
  rcases Nat.lt_trichotomy i j with h1 | h1 | h1
  · exact absurd (by rw [hx, hy, kx, ky, e]) (key2 i j hi' hj' h1)
  · exact h1
  · exact absurd (by rw [hx, hy, kx, ky, e]) (key2 j i hj' hi' h1)
end
section
variable {P : Program} {f : Nat → Value} {w : World} {o : Oper}
variable {b n : Nat} {key : Nat → Int} {val : Nat → Value}
theorem Mp.find (h : Mp w b n key val) {es : Array MapEntry} {c : Nat} (he : w.heap[b]? = some (.map es c)) (k : Int) :
    (Instr.findNow (.int .u64) (.int .u64 k) es.toList 0 = some none ∧ ∀ i, i < n → key i ≠ k) ∨ ∃ j, j < n ∧ key j = k ∧ Instr.findNow (.int .u64) (.int .u64 k) es.toList 0 = some (some (j, val j)) := by
  obtain ⟨es', c', h1, h2, h3, h4⟩ := h
  rw [he] at h1
  simp only [Option.some.injEq, Obj.map.injEq] at h1
  obtain ⟨rfl, rfl⟩ := h1
  have hkeys : ∀ x ∈ es.toList, IsKey (.int .u64) x.key := fun x hx => by
    obtain ⟨i, hi, e⟩ := List.getElem_of_mem hx
    obtain ⟨y, hy, ky, _⟩ := h4 i (by simpa [← h3] using hi)
    have : y = x := by
      have h5 : es.toList[i]? = some x := by rw [List.getElem?_eq_getElem hi, e]
      rw [Array.getElem?_toList, hy] at h5
      exact Option.some.inj h5
    rw [← this, ky]; exact rfl
  rcases findNow_spec (d := .int .u64) (k := .int .u64 k) rfl es.toList 0 hkeys with ⟨h5, h6⟩ | ⟨j, e, h5, h6, h7⟩
  · left
    refine ⟨h5, fun i hi e => ?_⟩
    obtain ⟨y, hy, ky, _⟩ := h4 i hi
    exact h6 y (Array.mem_toList_iff.2 (Array.mem_of_getElem? hy)) (by rw [ky, e])
  right
  have hj : j < n := by
    rw [Array.getElem?_toList] at h6
    rw [← h3]; exact (Array.getElem?_eq_some_iff.1 h6).1
  obtain ⟨y, hy, ky, vy⟩ := h4 j hj
  rw [Array.getElem?_toList, hy] at h6
  obtain rfl := Option.some.inj h6
  rw [ky] at h7
  simp only [Value.int.injEq, true_and] at h7
  exact ⟨j, hj, h7, by rw [h5, Nat.zero_add, vy]⟩
theorem run_lookup_mp {T K E : TypeId} {k : Int} {ok : Bool} {z : Value} (h : Mp w b n key val) (hu : P.underlying T = some (.map K E)) (hk : P.underlying K = some (.int .u64)) (hz : (zeroValue E).run P w = .ok z w) :
    ((∀ i, i < n → key i ≠ k) → (Instr.lookup T (.map (some b)) (.int .u64 k) ok).run P w = .ok (if ok then .tuple #[z, .bool false] else z) w) ∧
    ∀ j, j < n → key j = k → (Instr.lookup T (.map (some b)) (.int .u64 k) ok).run P w = .ok (if ok then .tuple #[val j, .bool true] else val j) w := by
  have hm := h
  obtain ⟨es, c, h1, _⟩ := hm
  have hck : (Instr.checkKey es.isEmpty 10000 K (.int .u64 k)).run P w = .ok () w := run_checkKey hk (show IsKey (.int .u64) (.int .u64 k) from rfl) _ 9999
  rcases h.find h1 k with ⟨h5, h6⟩ | ⟨j, hj, hkj, h5⟩
  · refine ⟨fun _ => ?_, fun j hj e => absurd e (h6 j hj)⟩
    have hf := run_findKey (w := w) hk h5
    unfold Instr.lookup
    simp only [Sem.run_bind, run_underlying hu, Result.andThen_ok, Go.MapKept.run_getObj_map h1, Sem.run_pure, hck, hf, hz]
  refine ⟨fun hno => absurd hkj (hno j hj), fun j2 hj2 e => ?_⟩
  obtain rfl : j2 = j := h.inj j2 j hj2 hj (e.trans hkj.symm)
  have hf := run_findKey (w := w) hk h5
  unfold Instr.lookup
  simp only [Sem.run_bind, run_underlying hu, Result.andThen_ok, Go.MapKept.run_getObj_map h1, Sem.run_pure, hck, hf]
theorem x_look2N {T K E : TypeId} {x ix : Operand} {k : Int} {z : Value} (ho : o.op = .lookup T x ix true) (hx : ev f x = .map (some b)) (hi : ev f ix = .int .u64 k) (h : Mp w b n key val) (hu : P.underlying T = some (.map K E)) (hk : P.underlying K = some (.int .u64)) (hz : (zeroValue E).run P w = .ok z w) (hn : ∀ i, i < n → key i ≠ k) : Runs P f o w (.tuple #[z, .bool false]) := by
  unfold Runs execOp
  simp only [ho, hx, hi, Sem.run_bind, ((run_lookup_mp (ok := true) h hu hk hz).1 hn), Result.andThen_ok, Sem.run_pure]; rfl
theorem x_look2Y {T K E : TypeId} {x ix : Operand} {k : Int} {z v : Value} {j : Nat} (ho : o.op = .lookup T x ix true) (hx : ev f x = .map (some b)) (hi : ev f ix = .int .u64 k) (h : Mp w b n key val) (hu : P.underlying T = some (.map K E)) (hk : P.underlying K = some (.int .u64)) (hz : (zeroValue E).run P w = .ok z w) (hj : j < n) (he : key j = k) (hv : val j = v) : Runs P f o w (.tuple #[v, .bool true]) := by
  subst hv
  unfold Runs execOp
  simp only [ho, hx, hi, Sem.run_bind, ((run_lookup_mp (ok := true) h hu hk hz).2 j hj he), Result.andThen_ok, Sem.run_pure]; rfl
end
section
variable {P : Program} {w : World} {b n : Nat} {key : Nat → Int} {val : Nat → Value}
theorem set_at {w : World} {b : Nat} {o o' : Obj} (hb : w.heap[b]? = some o) : ({ w with heap := w.heap.setIfInBounds b o' } : World).heap[b]? = some o' ∧ Stp b w { w with heap := w.heap.setIfInBounds b o' } ∧ ({ w with heap := w.heap.setIfInBounds b o' } : World).heap.size = w.heap.size := by
  obtain ⟨h1, h2⟩ := heap_set (o' := o') hb
  exact ⟨h1, ⟨rfl, rfl, rfl, by simp, fun k _ hne => h2 k hne⟩, by simp⟩
theorem run_update_mp {T K E : TypeId} {k : Int} {v : Value} (h : Mp w b n key val) (hu : P.underlying T = some (.map K E)) (hk : P.underlying K = some (.int .u64)) :
    (∀ j, j < n → key j = k → ∃ w', (Instr.mapUpdate T (.map (some b)) (.int .u64 k) v).run P w = .ok () w' ∧ Mp w' b n key (putI val j v) ∧ Stp b w w' ∧ w'.heap.size = w.heap.size) ∧
    ((∀ i, i < n → key i ≠ k) → ∃ w', (Instr.mapUpdate T (.map (some b)) (.int .u64 k) v).run P w = .ok () w' ∧ Mp w' b (n + 1) (putI key n k) (putI val n v) ∧ Stp b w w' ∧ w'.heap.size = w.heap.size) := by
  have hm := h
  obtain ⟨es, c, h1, h2, h3, h4⟩ := hm
  have hck : (Instr.checkKey false 10000 K (.int .u64 k)).run P w = .ok () w := run_checkKey hk (show IsKey (.int .u64) (.int .u64 k) from rfl) _ 9999
  rcases h.find h1 k with ⟨h5, h6⟩ | ⟨j, hj, hkj, h5⟩
  · refine ⟨fun j hj e => absurd e (h6 j hj), fun _ => ?_⟩
    have hf := run_findKey (w := w) hk h5
    obtain ⟨s1, s2, s3⟩ := set_at (o' := .map (es.push { key := .int .u64 k, val := v, born := c }) (c + 1)) h1
    have hr : (Instr.mapUpdate T (.map (some b)) (.int .u64 k) v).run P w = .ok () { w with heap := w.heap.setIfInBounds b (.map (es.push { key := .int .u64 k, val := v, born := c }) (c + 1)) } := by
      unfold Instr.mapUpdate
      simp only [Sem.run_bind, run_underlying hu, Result.andThen_ok, Go.MapKept.run_getObj_map h1, hck, hf]
      exact run_setObj_map _ h1
    refine ⟨_, hr, ⟨_, _, s1, stamped_push h2 fun x hx e => ?_, by simp [h3], fun i hi => ?_⟩, s2, s3⟩
    · obtain ⟨i, hi, ei⟩ := List.getElem_of_mem hx
      obtain ⟨y, hy, ky, _⟩ := h4 i (by simpa [← h3] using hi)
      have e5 : es.toList[i]? = some x := by rw [List.getElem?_eq_getElem hi, ei]
      rw [Array.getElem?_toList, hy] at e5
      obtain rfl := Option.some.inj e5
      rw [ky] at e
      simp only [Value.int.injEq, true_and] at e
      exact h6 i (by simpa [← h3] using hi) e
    by_cases e : i = n
    · subst e
      refine ⟨_, by rw [Array.getElem?_push, if_pos h3.symm], ?_, ?_⟩
      · show Value.int .u64 k = _; unfold putI; rw [if_pos rfl]
      show v = _; unfold putI; rw [if_pos rfl]
    obtain ⟨y, hy, ky, vy⟩ := h4 i (by omega)
    refine ⟨y, by rw [Array.getElem?_push, if_neg (by omega)]; exact hy, ?_, ?_⟩
    · unfold putI; rw [if_neg e]; exact ky
    unfold putI; rw [if_neg e]; exact vy
  refine ⟨fun j2 hj2 e => ?_, fun hno => absurd hkj (hno j hj)⟩
  obtain rfl : j2 = j := h.inj j2 j hj2 hj (e.trans hkj.symm)
  have hf := run_findKey (w := w) hk h5
  obtain ⟨y, hy, ky, vy⟩ := h4 j2 hj
  obtain ⟨s1, s2, s3⟩ := set_at (o' := .map (es.modify j2 fun e => { e with key := .int .u64 k, val := v }) c) h1
  have hstay : (Instr.keyThatStays (((es[j2]?).map (·.key)).getD (.int .u64 k)) (.int .u64 k)).run P w = .ok (.int .u64 k) w := by
    rw [hy]
    show (Instr.keyThatStays y.key (.int .u64 k)).run P w = _
    rw [ky, e]
    unfold Instr.keyThatStays
    rw [if_pos (by simp [Instr.sameBits])]; rfl
  have hr : (Instr.mapUpdate T (.map (some b)) (.int .u64 k) v).run P w = .ok () { w with heap := w.heap.setIfInBounds b (.map (es.modify j2 fun e => { e with key := .int .u64 k, val := v }) c) } := by
    unfold Instr.mapUpdate
    simp only [Sem.run_bind, run_underlying hu, Result.andThen_ok, Go.MapKept.run_getObj_map h1, hck, hf, hstay]
    exact run_setObj_map _ h1
  refine ⟨_, hr, ⟨_, _, s1, stamped_modify h2 j2 _ (fun _ _ => rfl) (fun x _ hx => ?_), by simp [h3], fun i hi => ?_⟩, s2, s3⟩
  · rw [hy] at hx
    obtain rfl := Option.some.inj hx
    show Value.int .u64 k = y.key
    rw [ky, e]
  obtain ⟨z, hz, kz, vz⟩ := h4 i hi
  by_cases e2 : j2 = i
  · subst e2
    refine ⟨{ z with key := .int .u64 k, val := v }, by rw [Array.getElem?_modify, if_pos rfl, hz]; rfl, ?_, ?_⟩
    · show Value.int .u64 k = _; rw [e]
    show v = _; unfold putI; rw [if_pos rfl]
  refine ⟨z, by rw [Array.getElem?_modify, if_neg e2]; exact hz, kz, ?_⟩
  unfold putI; rw [if_neg (fun h => e2 h.symm)]; exact vz
end
def It (w : World) (r b n : Nat) (S : Nat → Bool) : Prop :=
  ∃ es clock since seen c0, w.heap[b]? = some (.map es clock) ∧ w.heap[r]? = some (.mapIter (some b) since seen c0) ∧ (∀ x ∈ es.toList, x.born < since) ∧ since ≤ c0 ∧ es.size = n ∧ (∀ x ∈ es.toList, x.born < clock) ∧ since ≤ clock ∧ (∀ (i j : Nat) (x y : MapEntry), es[i]? = some x → es[j]? = some y → x.born = y.born → i = j) ∧ ∀ i, i < n → ∃ e, es[i]? = some e ∧ seen.contains e.born = S i
section
variable {w w' : World} {r b n : Nat} {S : Nat → Bool}
theorem It.lt (h : It w r b n S) : r < w.heap.size := by
  obtain ⟨es, c, s, se, c0, _, h, _⟩ := h
  exact (Array.getElem?_eq_some_iff.1 h).1
theorem It.ltb (h : It w r b n S) : b < w.heap.size := by
  obtain ⟨es, c, s, se, c0, h, _⟩ := h
  exact (Array.getElem?_eq_some_iff.1 h).1
theorem It.keep (h : It w r b n S) (e : w'.heap[b]? = w.heap[b]?) (e2 : w'.heap[r]? = w.heap[r]?) : It w' r b n S := by
  obtain ⟨es, c, s, se, c0, h1, h2, h3⟩ := h
  exact ⟨es, c, s, se, c0, e.trans h1, e2.trans h2, h3⟩
theorem It.up (h : It w r b n S) (hb : Below w.heap.size w w') : It w' r b n S := h.keep (hb.block b h.ltb) (hb.block r h.lt)
instance : Rt.Tr w w' (It w r b n S) (It w' r b n S) := ⟨fun b h => h.up b⟩
theorem It.noTy {T : TypeId} (h : It w r b n S) (ht : Ty w r T) : False := by
  obtain ⟨es, c, s, se, c0, _, h, _⟩ := h
  obtain ⟨cs, ht⟩ := ht
  rw [h] at ht; cases ht
theorem It.noTyb {T : TypeId} (h : It w r b n S) (ht : Ty w b T) : False := by
  obtain ⟨es, c, s, se, c0, h, _⟩ := h
  obtain ⟨cs, ht⟩ := ht
  rw [h] at ht; cases ht
theorem It.chT {Ts : List TypeId} (h : It w r b n S) (hs : ChT Ts w w') (_ : True) : It w' r b n S := h.keep (hs.block b h.ltb fun _ ht => (h.noTyb ht).elim) (hs.block r h.lt fun _ ht => (h.noTy ht).elim)
instance {Ts : List TypeId} : Rt.Tc Ts w w' (It w r b n S) (It w' r b n S) true := ⟨fun b h _ => h.chT b trivial⟩
theorem It.rb (h : It w r b n S) : r ≠ b := fun e => by
  obtain ⟨es, c, s, se, c0, h1, h2, _⟩ := h
  rw [e, h1] at h2; cases h2
end
def Itc (w : World) (r b i : Nat) : Prop :=
  ∃ es clock since seen e, w.heap[b]? = some (.map es clock) ∧ w.heap[r]? = some (.mapIter (some b) since (Array.push seen e.born) clock) ∧ es[i]? = some e ∧ (es.toList.map (·.born)).Nodup
section
variable {w w' : World} {r b i : Nat}
theorem Itc.lt (h : Itc w r b i) : r < w.heap.size := by
  obtain ⟨es, c, s, se, e, _, h, _⟩ := h
  exact (Array.getElem?_eq_some_iff.1 h).1
theorem Itc.ltb (h : Itc w r b i) : b < w.heap.size := by
  obtain ⟨es, c, s, se, e, h, _⟩ := h
  exact (Array.getElem?_eq_some_iff.1 h).1
theorem Itc.keep (h : Itc w r b i) (e : w'.heap[b]? = w.heap[b]?) (e2 : w'.heap[r]? = w.heap[r]?) : Itc w' r b i := by
  obtain ⟨es, c, s, se, x, h1, h2, h3⟩ := h
  exact ⟨es, c, s, se, x, e.trans h1, e2.trans h2, h3⟩
theorem Itc.up (h : Itc w r b i) (hb : Below w.heap.size w w') : Itc w' r b i := h.keep (hb.block b h.ltb) (hb.block r h.lt)
instance : Rt.Tr w w' (Itc w r b i) (Itc w' r b i) := ⟨fun b h => h.up b⟩
theorem Itc.noTy {T : TypeId} (h : Itc w r b i) (ht : Ty w r T) : False := by
  obtain ⟨es, c, s, se, e, _, h, _⟩ := h
  obtain ⟨cs, ht⟩ := ht
  rw [h] at ht; cases ht
theorem Itc.noTyb {T : TypeId} (h : Itc w r b i) (ht : Ty w b T) : False := by
  obtain ⟨es, c, s, se, e, h, _⟩ := h
  obtain ⟨cs, ht⟩ := ht
  rw [h] at ht; cases ht
theorem Itc.chT {Ts : List TypeId} (h : Itc w r b i) (hs : ChT Ts w w') (_ : True) : Itc w' r b i := h.keep (hs.block b h.ltb fun _ ht => (h.noTyb ht).elim) (hs.block r h.lt fun _ ht => (h.noTy ht).elim)
instance {Ts : List TypeId} : Rt.Tc Ts w w' (Itc w r b i) (Itc w' r b i) true := ⟨fun b h _ => h.chT b trivial⟩
end
def Fam (w : World) (n : Nat) (pb : Nat → Nat) (s : Nat) (x : Nat → Nat → Value) (T : TypeId) : Prop := ∀ i, i < n → Blk w (pb i) s (x i) T
section
variable {w w' : World} {n s : Nat} {pb : Nat → Nat} {x : Nat → Nat → Value} {T : TypeId}
theorem Fam.up (h : Fam w n pb s x T) (hb : Below w.heap.size w w') : Fam w' n pb s x T := fun i hi => (h i hi).stp (Sb hb) (Nat.ne_of_lt (h i hi).lt)
instance : Rt.Tr w w' (Fam w n pb s x T) (Fam w' n pb s x T) := ⟨fun b h => h.up b⟩
theorem Fam.chT {Ts : List TypeId} (h : Fam w n pb s x T) (hs : ChT Ts w w') (ne : Ts.contains T = false) : Fam w' n pb s x T := fun i hi => (h i hi).chT hs ne
instance {Ts : List TypeId} : Rt.Tc Ts w w' (Fam w n pb s x T) (Fam w' n pb s x T) (!(Ts.contains T)) := ⟨fun b h e => h.chT b (by simpa using e)⟩
theorem Fam.stp {g : Nat} (h : Fam w n pb s x T) (hs : Stp g w w') (ne : ∀ i, i < n → pb i ≠ g) : Fam w' n pb s x T := fun i hi => (h i hi).stp hs (ne i hi)
theorem Fam.put {j : Nat} {y : Nat → Value} (h : Fam w n pb s x T) (hs : Stp (pb j) w w') (hb : Blk w' (pb j) s y T) (hi : ∀ i k, i < n → k < n → pb i = pb k → i = k) (hj : j < n) : Fam w' n pb s (putI x j y) T := fun i hin => by
  unfold putI
  by_cases e : i = j
  · subst e; rw [if_pos rfl]; exact hb
  · rw [if_neg e]; exact (h i hin).stp hs fun e2 => e (hi i j hin hj e2)
theorem Fam.to {x' : Nat → Nat → Value} (h : Fam w n pb s x T) (e : ∀ i, i < n → x i = x' i) : Fam w n pb s x' T := fun i hi => e i hi ▸ h i hi
theorem Fam.push {g : Nat} {y : Nat → Value} (h : Fam w n pb s x T) (hb : Blk w g s y T) : Fam w (n + 1) (putI pb n g) s (putI x n y) T := fun i hi => by
  unfold putI
  by_cases e : i = n
  · rw [if_pos e, if_pos e]; exact hb
  · rw [if_neg e, if_neg e]; exact h i (by omega)
end
theorem run_makeMap' {P : Program} (t : TypeId) (w : World) : (Instr.makeMap t none).run P w = .ok (.map (some w.heap.size)) (w.alloc (.map #[] 0)) := rfl
section
variable {P : Program} {n0 : Nat} {Q : Post} {f : Nat → Value} {w : World} {ops : Array Oper} {rest : List Oper} {o : Oper} {b n : Nat} {key : Nat → Int} {val : Nat → Value}
theorem L.mupN {T K E : TypeId} {x ix v : Operand} {k : Int} {u : Value} (hw : Region.wanted o (yf ops f) = true) (hd : o.dst = none) (ho : o.op = .mapUpdate T x ix v) (hx : ev f x = .map (some b)) (hi : ev f ix = .int .u64 k) (hv : ev f v = u) (h : Mp w b n key val) (hu : P.underlying T = some (.map K E)) (hk : P.underlying K = some (.int .u64)) (hn : ∀ i, i < n → key i ≠ k)
    (hc : ∀ w', Mp w' b (n + 1) (putI key n k) (putI val n u) → Stp b w w' → w'.heap.size = w.heap.size → L P n0 ops Q rest f w') : L P n0 ops Q (o :: rest) f w := by
  obtain ⟨w', hr, h1, h2, h3⟩ := (run_update_mp (v := u) h hu hk).2 hn
  have hrun : (execOp (ev f) o).run P w = .ok .skip w' := by
    unfold execOp
    simp only [ho, hx, hi, hv, Sem.run_bind, hr, Result.andThen_ok, Sem.run_pure]
  refine L.unit hw hrun (by rw [hd]; rfl) ?_
  rw [hd]; exact hc w' h1 h2 h3
theorem L.mkmap {T : TypeId} (hw : Region.wanted o (yf ops f) = true) (hd : inn n0 o.dst = true) (ho : o.op = .makeMap T none)
    (hc : ∀ g w', g = w.heap.size → Mp w' g 0 (fun _ => 0) (fun _ => .pointer none) → Stp w.heap.size w w' → w'.heap.size = w.heap.size + 1 → L P n0 ops Q rest (put f o.dst (.map (some g))) w') : L P n0 ops Q (o :: rest) f w := by
  have hrun : (execOp (ev f) o).run P w = .ok (.value (.map (some w.heap.size))) (w.alloc (.map #[] 0)) := by
    unfold execOp
    simp only [ho, Option.map_none]
    simp [run_makeMap']
  refine L.val hw hrun hd (hc _ _ rfl ?_ (Stp.alloc _ _) (by simp))
  exact ⟨#[], 0, by rw [alloc_at, if_pos rfl], stamped_empty 0, rfl, fun i hi => absurd hi (Nat.not_lt_zero _)⟩
theorem L.range {T K E : TypeId} {x : Operand} (hw : Region.wanted o (yf ops f) = true) (hd : inn n0 o.dst = true) (ho : o.op = .range T x) (hx : ev f x = .map (some b)) (h : Mp w b n key val) (hu : P.underlying T = some (.map K E))
    (hc : ∀ g w', g = w.heap.size → It w' g b n (fun _ => false) → Stp w.heap.size w w' → w'.heap.size = w.heap.size + 1 → L P n0 ops Q rest (put f o.dst (.pointer (some ⟨g, 0, none⟩))) w') : L P n0 ops Q (o :: rest) f w := by
  have hm := h
  obtain ⟨es, c, h1, h2, h3, h4⟩ := hm
  have hr := run_range_map (P := P) w T K E b es c hu h1
  have hrun : (execOp (ev f) o).run P w = .ok (.value (.pointer (some ⟨w.heap.size, 0, none⟩))) (w.alloc (.mapIter (some b) c #[] c)) := by
    unfold execOp
    simp only [ho, hx, Sem.run_bind, hr, Result.andThen_ok, Sem.run_pure]
  refine L.val hw hrun hd (hc _ _ rfl ?_ (Stp.alloc _ _) (by simp))
  refine ⟨es, c, c, #[], c, ?_, by rw [alloc_at, if_pos rfl], h2.1, Nat.le_refl _, h3, h2.1, Nat.le_refl _, fun i j x y hx hy e => ?_, fun i hi => ?_⟩
  · rw [alloc_at, if_neg (Nat.ne_of_lt h.lt)]; exact h1
  · rw [Array.getElem?_eq_some_iff] at hx hy
    obtain ⟨hi', hx⟩ := hx
    obtain ⟨hj', hy⟩ := hy
    have hp := List.pairwise_iff_getElem.1 h2.2.1
    have key2 : ∀ a c (ha : a < es.size) (hc : c < es.size), a < c → es[a].born ≠ es[c].born := fun a c ha hc hac => by
      have := hp a c (by simpa using ha) (by simpa using hc) hac
      simpa only [List.getElem_map, Array.getElem_toList] using this
    rcases Nat.lt_trichotomy i j with h5 | h5 | h5
    · exact absurd (by rw [hx, hy, e]) (key2 i j hi' hj' h5)
    · exact h5
    exact absurd (by rw [hx, hy, e]) (key2 j i hj' hi' h5)
  obtain ⟨e, he, _⟩ := h4 i hi
  exact ⟨e, he, by simp⟩
theorem L.next {x : Operand} {r : Nat} {S : Nat → Bool} (hw : Region.wanted o (yf ops f) = true) (hd : inn n0 o.dst = true) (ho : o.op = .next x false) (hx : ev f x = .pointer (some ⟨r, 0, none⟩)) (h : Mp w b n key val) (hi : It w r b n S)
    (hc0 : (∀ i, i < n → S i = true) → L P n0 ops Q rest (put f o.dst (.tuple #[.bool false])) w)
    (hc1 : ∀ i w', i < n → S i = false → It w' r b n (putI S i true) → Itc w' r b i → Stp r w w' → w'.heap.size = w.heap.size → L P n0 ops Q rest (put f o.dst (.tuple #[.bool true, .int .u64 (key i), val i])) w') : L P n0 ops Q (o :: rest) f w := by
  obtain ⟨es, c, since, seen, c0, h1, h2, h3, h4, h5, h6, h7, h8, h9⟩ := hi
  obtain ⟨es', c', k1, kst, _, k4⟩ := h
  rw [h1] at k1
  simp only [Option.some.injEq, Obj.map.injEq] at k1
  obtain ⟨rfl, rfl⟩ := k1
  have hrb : r ≠ b := fun e => by rw [e, h1] at h2; cases h2
  rcases run_next_at (P := P) w o.type r b since c0 seen es c h2 h1 h3 h4 with ⟨z, hr⟩ | ⟨e, he, w1, hw1, hr⟩
  · have hrun : (execOp (ev f) o).run P w = .ok (.value (.tuple #[.bool false])) w := by
      unfold execOp
      simp only [ho, hx, Sem.run_bind, hr, Result.andThen_ok, Sem.run_pure]
    refine L.val hw hrun hd (hc0 fun i hi => ?_)
    obtain ⟨y, hy, hs⟩ := h9 i hi
    rw [← hs]
    cases hq : seen.contains y.born with
    | true => rfl
    | false =>
      have hmem : y ∈ leftOf es seen := by
        unfold leftOf
        rw [Array.mem_filter]
        exact ⟨Array.mem_of_getElem? hy, by rw [hq]; rfl⟩
      have := Array.size_pos_of_mem hmem
      omega
  have hrun : (execOp (ev f) o).run P w = .ok (.value (.tuple #[.bool true, e.key, e.val])) (Go.ChangeMaps.setBlock w1 r (.mapIter (some b) since (seen.push e.born) c)) := by
    unfold execOp
    simp only [ho, hx, Sem.run_bind, hr, Result.andThen_ok, Sem.run_pure]
  have hmem : e ∈ leftOf es seen := Array.mem_toList_iff.1 he
  unfold leftOf at hmem
  rw [Array.mem_filter] at hmem
  obtain ⟨hme, hns⟩ := hmem
  obtain ⟨i, hi, ei⟩ := Array.getElem_of_mem hme
  have hes : es[i]? = some e := by rw [Array.getElem?_eq_getElem hi, ei]
  obtain ⟨y, hy, ky, vy⟩ := k4 i (by omega)
  rw [hes] at hy
  obtain rfl := Option.some.inj hy
  obtain ⟨y2, hy2, hs⟩ := h9 i (by omega)
  rw [hes] at hy2
  obtain rfl := Option.some.inj hy2
  have hsf : S i = false := by rw [← hs]; simpa using hns
  have hh : w1.os = w.os ∧ w1.tape = w.tape ∧ w1.output = w.output ∧ w1.heap = w.heap := by rcases hw1 with rfl | rfl <;> exact ⟨rfl, rfl, rfl, rfl⟩
  have hsz : (Go.ChangeMaps.setBlock w1 r (.mapIter (some b) since (seen.push e.born) c)).heap.size = w.heap.size := by
    show (w1.heap.setIfInBounds r _).size = _; rw [hh.2.2.2]; simp
  have hst : Stp r w (Go.ChangeMaps.setBlock w1 r (.mapIter (some b) since (seen.push e.born) c)) :=
    ⟨hh.1, hh.2.1, hh.2.2.1, by rw [hsz]; exact Nat.le_refl _, fun k _ hne => by show (w1.heap.setIfInBounds r _)[k]? = _; rw [hh.2.2.2, Array.getElem?_setIfInBounds_ne (Ne.symm hne)]⟩
  have hrlt : r < w1.heap.size := by
    rcases hw1 with rfl | rfl <;> exact (Array.getElem?_eq_some_iff.1 h2).1
  rw [ky, vy] at hrun
  have q1 : (Go.ChangeMaps.setBlock w1 r (.mapIter (some b) since (seen.push e.born) c)).heap[b]? = some (.map es c) := by rw [hst.block b (Array.getElem?_eq_some_iff.1 h1).1 (Ne.symm hrb)]; exact h1
  have q2 : (Go.ChangeMaps.setBlock w1 r (.mapIter (some b) since (seen.push e.born) c)).heap[r]? = some (.mapIter (some b) since (seen.push e.born) c) := by simp [Go.ChangeMaps.setBlock, hrlt]
  refine L.val hw hrun hd (hc1 i _ (by omega) hsf ⟨es, c, since, seen.push e.born, c, q1, q2, h3, h7, h5, h6, h7, h8, fun j hj => ?_⟩ ⟨es, c, since, seen, e, q1, q2, hes, kst.2.1⟩ hst hsz)
  obtain ⟨y3, hy3, hs3⟩ := h9 j hj
  refine ⟨y3, hy3, ?_⟩
  unfold putI
  by_cases e5 : j = i
  · subst e5
    rw [hes] at hy3
    obtain rfl := Option.some.inj hy3
    rw [if_pos rfl]; simp
  rw [if_neg e5, ← hs3]
  have hne : y3.born ≠ e.born := fun e6 => e5 (h8 j i y3 e hy3 hes e6)
  cases hq : seen.contains y3.born with
  | true => simp at hq ⊢; exact .inl hq
  | false => simp at hq ⊢; exact ⟨hq, hne⟩
end
structure ChM (r : Nat) (w w' : World) : Prop where
  s : Stp r w w'
  no : ∀ T, ¬ Ty w r T
section
variable {w w' : World} {r b n : Nat}
theorem Mp.chm {m : Nat} {key : Nat → Int} {val : Nat → Value} (h : Mp w r m key val) (hs : Stp r w w') : ChM r w w' := ⟨hs, fun _ ht => h.noTy ht⟩
theorem It.chm {m q : Nat} {S : Nat → Bool} (h : It w r q m S) (hs : Stp r w w') : ChM r w w' := ⟨hs, fun _ ht => h.noTy ht⟩
theorem Itc.chm {q i : Nat} (h : Itc w r q i) (hs : Stp r w w') : ChM r w w' := ⟨hs, fun _ ht => h.noTy ht⟩
theorem Fam.chM {m s : Nat} {pb : Nat → Nat} {x : Nat → Nat → Value} {T : TypeId} (h : Fam w m pb s x T) (hc : ChM r w w') : Fam w' m pb s x T := fun i hi => (h i hi).stp hc.s fun e => hc.no T (e ▸ (h i hi).ty)
theorem Blk.chM {x : Nat → Value} {T : TypeId} (h : Blk w b n x T) (hc : ChM r w w') : Blk w' b n x T := h.stp hc.s fun e => hc.no T (e ▸ h.ty)
theorem Own.chM {B s : Nat} {E : TypeId} {v : Value} {x : Nat → Value} (h : Own w B E s v n x) (hc : ChM r w w') : Own w' B E s v n x := h.stp hc.s fun e => hc.no E (h.ty e)
theorem Mp.chM {key : Nat → Int} {val : Nat → Value} (h : Mp w b n key val) (hc : ChM r w w') (ne : b ≠ r) : Mp w' b n key val := h.stp hc.s ne
end
theorem look_cases (key : Nat → Int) (n : Nat) (k : Int) : (∃ j, j < n ∧ key j = k) ∨ ∀ i, i < n → key i ≠ k := by
  by_cases h : ∃ j, j < n ∧ key j = k
  · exact .inl h
  exact .inr fun i hi e => h ⟨i, hi, e⟩
theorem exists_min {p : Nat → Prop} (h : ∃ k, p k) : ∃ k, p k ∧ ∀ j, p j → k ≤ j := by
  obtain ⟨k, hk⟩ := h
  induction k using Nat.strongRecOn with
  | _ k ih =>
    by_cases h2 : ∃ j, j < k ∧ p j
    · obtain ⟨j, hj, hp⟩ := h2; exact ih j hj hp
    · exact ⟨k, hk, fun j hj => Nat.not_lt.1 fun hl => h2 ⟨j, hl, hj⟩⟩
open Classical in
theorem WoE {P : Program} {n : Nat} {c : Code} {Q : Post} {f : Nat → Value} {w : World} (I : Nat → (Nat → Value) → World → Prop) (k0 : Nat) (h0 : I k0 f w)
    (hr : ∀ k f w, I k f w → W P n c (loopK (fun f w => ∃ k', k' < k ∧ I k' f w) (fun _ _ => 0) 1 Q) f w) : W P n (.loop c) Q f w := by
  refine Wo (fun f w => ∃ k, I k f w) (fun f w => if h : ∃ k, I k f w then (exists_min h).choose else 0) ⟨k0, h0⟩ fun f w h => ?_
  refine (hr _ f w (exists_min h).choose_spec.1).mono fun e f' w' hq => ?_
  rw [dif_pos h]
  cases e with
  | normal =>
    obtain ⟨⟨k', hk, hI⟩, _⟩ := hq
    refine ⟨⟨k', hI⟩, ?_⟩
    have h' : ∃ k, I k f' w' := ⟨k', hI⟩
    show (if h : ∃ k, I k f' w' then (exists_min h).choose else 0) < _
    rw [dif_pos h']
    exact Nat.lt_of_le_of_lt ((exists_min h').choose_spec.2 k' hI) hk
  | _ => exact hq
structure ChX (Ts : List TypeId) (w w' : World) : Prop where
  os : w'.os = w.os
  tape : w'.tape = w.tape
  output : w'.output = w.output
  size : w.heap.size ≤ w'.heap.size
  block : ∀ k T, Ty w k T → Ts.contains T = false → w'.heap[k]? = w.heap[k]?
section
variable {w w' w2 : World} {Ts Us : List TypeId}
theorem ChX.refl (w : World) : ChX Ts w w := ⟨rfl, rfl, rfl, Nat.le_refl _, fun _ _ _ _ => rfl⟩
theorem Ty.ltw {k : Nat} {T : TypeId} (h : Ty w k T) : k < w.heap.size := by
  obtain ⟨c, h⟩ := h
  exact (Array.getElem?_eq_some_iff.1 h).1
theorem ChX.trans (w w' w2 : World) (h : ChX Ts w w') (k : ChX Ts w' w2) : ChX Ts w w2 := ⟨k.os.trans h.os, k.tape.trans h.tape, k.output.trans h.output, Nat.le_trans h.size k.size, fun i T ht hT => by
  have e := h.block i T ht hT
  obtain ⟨c, hc⟩ := ht
  exact (k.block i T ⟨c, e.trans hc⟩ hT).trans e⟩
theorem ChX.of_chT (h : ChT Ts w w') : ChX Ts w w' := ⟨h.os, h.tape, h.output, h.size, fun k T ht hT => h.block k ht.ltw fun T' ht' => by rw [Ty.only ht ht']; exact hT⟩
theorem ChX.of_below (h : Below w.heap.size w w') : ChX Ts w w' := .of_chT (.of_below h)
theorem ChX.wide (h : ChX Ts w w') (hs : Ts.all Us.contains = true) : ChX Us w w' := ⟨h.os, h.tape, h.output, h.size, fun k T ht hT => h.block k T ht (by
  cases e : Ts.contains T with
  | false => rfl
  | true =>
    have h1 : T ∈ Ts := by simpa using e
    have h2 := (List.all_eq_true.1 hs) T h1
    rw [hT] at h2; cases h2)⟩
theorem Blk.chX {b n : Nat} {x : Nat → Value} {T : TypeId} (h : Blk w b n x T) (hs : ChX Ts w w') (ne : Ts.contains T = false) : Blk w' b n x T := (hs.block b T h.ty ne).trans h
theorem Fam.chX {n s : Nat} {pb : Nat → Nat} {x : Nat → Nat → Value} {T : TypeId} (h : Fam w n pb s x T) (hs : ChX Ts w w') (ne : Ts.contains T = false) : Fam w' n pb s x T := fun i hi => (h i hi).chX hs ne
theorem Own.chX {B s n : Nat} {E : TypeId} {v : Value} {x : Nat → Value} (h : Own w B E s v n x) (hs : ChX Ts w w') (ne : Ts.contains E = false) : Own w' B E s v n x := by
  refine ⟨h.1, ?_⟩
  rcases h.2 with hn | ⟨g, cap, cur, hv, hB, hg, rest⟩
  · exact .inl hn
  exact .inr ⟨g, cap, cur, hv, hB, (hs.block g E ⟨cur, hg⟩ ne).trans hg, rest⟩
end
end Go.Proofs.Ytkajcjefckjijaa.Fx
namespace Go.Proofs.Ytkajcjefckjijaa.Fx
open Go.RowKit
section
variable {P : Program} {n0 : Nat} {Q : Post} {f : Nat → Value} {w : World} {ops : Array Oper} {rest : List Oper} {o : Oper}
theorem x_hi {T E : TypeId} {x hi : Operand} {a : Option Addr} {B n c s : Nat} {k : IntKind} {j : Nat} {y : Nat → Value} (ho : o.op = .slice T x none (some hi) none) (hx : ev f x = .slice a n c) (hh : ev f hi = .int k (j : Int)) (hu : P.underlying T = some (.slice E)) (hs : (P.info? E).map (·.size) = some s) (hj : j ≤ n) (hown : Own w B E s (.slice a n c) n y) :
    Runs P f o w (.slice a j c) := by
  obtain ⟨i, hi', _⟩ := Option.map_eq_some_iff.1 hs
  unfold Runs execOp
  simp only [ho, hx, hh, Option.map_some, Option.map_none]
  have e1 : (0 : Int) ≤ (j : Int) := by omega
  rcases hown.2 with ⟨h1, rfl⟩ | ⟨g, cap, cur, h1, _, _, hn, _⟩
  · simp only [Value.slice.injEq] at h1
    obtain ⟨rfl, _, rfl⟩ := h1
    obtain rfl : j = 0 := by omega
    simp [Instr.sliceAt, Instr.slice, underlying, hu, Instr.sliceBounds, Instr.sliceBound, asIntOf, sizeOf, typeInfo, hi']
  simp only [Value.slice.injEq] at h1
  obtain ⟨rfl, _, rfl⟩ := h1
  have hj2 : j ≤ c := by omega
  simp [Instr.sliceAt, Instr.slice, underlying, hu, Instr.sliceBounds, Instr.sliceBound, asIntOf, hj2, e1, sizeOf, typeInfo, hi', Addr.add]
theorem L.lo {T E : TypeId} {x lo : Operand} {a : Option Addr} {B n c s m : Nat} {k : IntKind} {j : Nat} {y : Nat → Value} (hw : Region.wanted o (yf ops f) = true) (hd : inn n0 o.dst = true) (ho : o.op = .slice T x (some lo) none none) (hx : ev f x = .slice a n c) (hl : ev f lo = .int k (j : Int)) (hu : P.underlying T = some (.slice E)) (hs : (P.info? E).map (·.size) = some s) (hj : n = j + m) (hown : Own w B E s (.slice a n c) n y)
    (hc : ∀ a', Arr w a' m s (fun p => y (j * s + p)) → L P n0 ops Q rest (put f o.dst (.slice a' m (c - j))) w) : L P n0 ops Q (o :: rest) f w := by
  by_cases h0 : n = 0
  · obtain rfl : j = 0 := by omega
    obtain rfl : m = 0 := by omega
    subst h0
    rcases hown.2 with ⟨h1, _⟩ | ⟨g, cap, cur, h1, _, _, hn, _⟩
    · simp only [Value.slice.injEq] at h1
      obtain ⟨rfl, _, rfl⟩ := h1
      obtain ⟨i, hi', _⟩ := Option.map_eq_some_iff.1 hs
      refine Lv _ (?_ : Runs P f o w (.slice none 0 0)) (hc none fun h => absurd h (Nat.lt_irrefl 0)) hw hd
      unfold Runs execOp
      simp only [ho, hx, hl, Option.map_some, Option.map_none]
      simp [Instr.sliceAt, Instr.slice, underlying, hu, Instr.sliceBounds, Instr.sliceBound, asIntOf, sizeOf, typeInfo, hi']
    simp only [Value.slice.injEq] at h1
    obtain ⟨rfl, _, rfl⟩ := h1
    exact Lv _ (x_sliceLo2 (A := if c = 0 then some ⟨g, 0, none⟩ else some ⟨g, 0 + 0 * s, none⟩) (n' := 0) (c' := c - 0) ho hx hl hu hs (Nat.le_refl _) rfl rfl rfl) (hc _ fun h => absurd h (Nat.lt_irrefl 0)) hw hd
  obtain ⟨g, c2, e1, hB, hg, hnc, hcel⟩ := hown.form (by omega)
  simp only [Value.slice.injEq] at e1
  obtain ⟨rfl, _, rfl⟩ := e1
  refine Lv _ (x_sliceLo2 (A := if c = j then some ⟨g, 0, none⟩ else some ⟨g, 0 + j * s, none⟩) (n' := m) (c' := c - j) ho hx hl hu hs (by omega) rfl (by omega) rfl) (hc _ fun hm => ?_) hw hd
  rw [if_neg (by omega)]
  refine ⟨g, _, rfl, fun p hp => ?_⟩
  have hlt : j * s + p < n * s := by
    have : n * s = j * s + m * s := by rw [hj, Nat.add_mul]
    omega
  have := hcel (j * s + p) hlt
  rw [Nat.zero_add] at this
  rw [Nat.zero_add]; exact this
theorem Own.arrLe {B n c s j : Nat} {E : TypeId} {a : Option Addr} {y : Nat → Value} (h : Own w B E s (.slice a n c) n y) (hj : j ≤ n) : Arr w a j s y := fun h0 => by
  obtain ⟨g, c2, e1, hB, hg, hnc, hcel⟩ := h.form (by omega)
  simp only [Value.slice.injEq] at e1
  refine ⟨g, 0, e1.1, fun p hp => hcel p ?_⟩
  exact Nat.lt_of_lt_of_le hp (Nat.mul_le_mul_right s hj)
theorem Own.weak {B B' n s : Nat} {E : TypeId} {v : Value} {y : Nat → Value} (h : Own w B E s v n y) (hB : B' ≤ B) : Own w B' E s v n y := by
  refine ⟨h.1, ?_⟩
  rcases h.2 with hn | ⟨g, cap, cur, hv, hb, rest⟩
  · exact .inl hn
  exact .inr ⟨g, cap, cur, hv, Nat.le_trans hB hb, rest⟩
end
end Go.Proofs.Ytkajcjefckjijaa.Fx
namespace Go.Proofs.Ytkajcjefckjijaa
open Go.RowKit Rt
open Fx (x_move x_assign x_field x_load1 x_conv x_indexS x_index x_leqF x_loadA x_len x_gtrF x_eqlF x_eqlT Lv sN Ln Ws Qv Wl Rp Wc Qs Wr Sb Lk Wk rV sR Rs Rn Rd Rk Wb Wx Wo WoE Wt Wone Qn Qcl Lcl Lbs Lap Lnw Lbx Stv cOs cOg sRf mRf gRf cRf oNl bGr Wro rv varr Blk ovr putI ev Stp ovr_all flat updV Mp run_loadV Cel fill_step ret0 Chg i64e Arr flat_cong cells_agg cells_one ChT ovr_ones u64e appX fOne_out upd_all blkR blkN seqX blkX lpX lpN lpR retV2)
section
namespace Rt
structure ByP (q : Prop) (w : World) (B : Nat) (a : Option Addr) (n c : Nat) (l : List UInt8) : Prop where
  arr : Arr w a n 1 (Fx.byY l)
  len : n = l.length
  own : q → Fx.Own w B 5 1 (.slice a n c) n (Fx.byY l)
section
variable {q : Prop} {w w' w0 : World} {B B' n c : Nat} {a : Option Addr} {l : List UInt8}
theorem ByP.up (h : ByP q w B a n c l) (hb : Below w.heap.size w w') : ByP q w' B a n c l := ⟨h.arr.up hb rfl, h.len, fun x => (h.own x).up hb⟩
instance : Rt.Tr w w' (ByP q w B a n c l) (ByP q w' B a n c l) := ⟨fun b h => h.up b⟩
theorem ByP.of (h : Fx.Own w B' 5 1 (.slice a n c) n (Fx.byY l)) (hB : B ≤ B') (hn : n = l.length) : ByP q w B a n c l := ⟨h.arr, hn, fun _ => h.weak hB⟩
structure CtW (ls : List TypeId) (w0 w : World) : Prop where
  c : ChT ls w0 w
theorem CtW.refl (ls : List TypeId) (w : World) : CtW ls w w := ⟨cRf w⟩
theorem CtW.up {ls : List TypeId} (h : CtW ls w0 w) (hb : Below w.heap.size w w') : CtW ls w0 w' := ⟨Fx.ChT.trans _ _ _ h.c (Fx.ChT.of_below hb)⟩
instance {ls : List TypeId} : Rt.Tr w w' (CtW ls w0 w) (CtW ls w0 w') := ⟨fun b h => h.up b⟩
theorem CtW.chT {ls Ts : List TypeId} (h : CtW ls w0 w) (hc : ChT Ts w w') (hd : Ts.all ls.contains = true) : CtW ls w0 w' := ⟨Fx.ChT.trans _ _ _ h.c (hc.wide hd)⟩
instance {ls Ts : List TypeId} : Rt.Tc Ts w w' (CtW ls w0 w) (CtW ls w0 w') (Ts.all ls.contains) := ⟨fun b h e => h.chT b (by simpa using e)⟩
end
theorem lt64 {k : Nat} {x : Int} (hk : k = 1 ∨ k = 2 ∨ k = 4 ∨ k = 8) (hx : 0 ≤ x ∧ x < 256 ^ k) : 0 ≤ x ∧ x ≤ 18446744073709551615 := by
  have e1 : (256 : Int) ^ 1 = 256 := by decide
  have e2 : (256 : Int) ^ 2 = 65536 := by decide
  have e4 : (256 : Int) ^ 4 = 4294967296 := by decide
  have e8 : (256 : Int) ^ 8 = 18446744073709551616 := by decide
  rcases hk with rfl | rfl | rfl | rfl <;> omega
theorem lt256_8 {x : Int} (h : 0 ≤ x ∧ x ≤ 18446744073709551615) : 0 ≤ x ∧ x < 256 ^ 8 := by
  have e8 : (256 : Int) ^ 8 = 18446744073709551616 := by decide
  omega
theorem rowB_succ (x : Nat → Int) (i : Nat) : rowB x (i + 1) = rowB x i ++ be 8 (x i) := by
  unfold rowB; rw [List.range_succ, List.flatMap_append]; simp
theorem rowB_len (x : Nat → Int) : ∀ n, (rowB x n).length = 8 * n
  | 0 => rfl
  | n + 1 => by rw [rowB_succ, List.length_append, rowB_len x n, be_len]; omega
end Rt
theorem p_int (a : Option Addr) (m c : Nat) (l : List UInt8) (x : Int) (k : Nat) (w : World) (hk : k = 1 ∨ k = 2 ∨ k = 4 ∨ k = 8) (hx : 0 ≤ x ∧ x < 256 ^ k) (hm : m = l.length) (hl : m ≤ 100000000) (hb : Arr w a m 1 (Fx.byY l)) :
    Calls Try.prog 49 #[.slice a (m) (c), Ki6 x, Ki6 ((k : Int))] w fun e w' => ∃ a' c', e = .returned (.slice a' (m + k) c') ∧ Fx.Own w' w.heap.size 5 1 (.slice a' (m + k) c') (m + k) (Fx.byY (l ++ be k x)) ∧ Below w.heap.size w w' := by
 have hx64 := lt64 hk hx
 refine Kent Try.func49 16 ?_
 refine KWsl (KLq (.slice none 0 0) (KLe (KWsl (KLq (.slice a (m) (c)) (KLq (Ki6 x) (Lv (Ku6 x) (x_conv rfl rfl (by kernel_rfl) Try.underlying23 (u64e (by omega) rfl)) (KLq (Ki6 k) (KLc (o_put a m c l x k _ hk hx hm hl (hb.up (Below.refl w.heap.size w) rfl)) ?_))))))))
 rintro e9 w1 ⟨aq1, cq1, he, ho1, hb1⟩
 refine ⟨_, he, ?_⟩
 clear he
 have b1 := KTk1 hb1 (Below.refl w.heap.size w)
 refine KLq (.tuple #[.slice aq1 ((m + k)) (cq1), Ki6 0]) (KLq (.slice aq1 ((m + k)) (cq1)) (KLq (Ki6 0) (KLq (.slice aq1 ((m + k)) (cq1)) (KLe (KWsl (KLq (.slice aq1 ((m + k)) (cq1)) (KLq (.slice aq1 ((m + k)) (cq1)) (KLe (Wr (Kret (.slice aq1 ((m + k)) (cq1)) ?_))))))))))
 exact ⟨aq1, cq1, rfl, ho1, b1⟩
theorem p_u64 (a : Option Addr) (m c : Nat) (l : List UInt8) (x : Int) (k : Nat) (w : World) (hk : k = 1 ∨ k = 2 ∨ k = 4 ∨ k = 8) (hx : 0 ≤ x ∧ x < 256 ^ k) (hm : m = l.length) (hl : m ≤ 100000000) (hb : Arr w a m 1 (Fx.byY l)) :
    Calls Try.prog 75 #[.slice a (m) (c), Ku6 x, Ki6 ((k : Int))] w fun e w' => ∃ a' c', e = .returned (.slice a' (m + k) c') ∧ Fx.Own w' w.heap.size 5 1 (.slice a' (m + k) c') (m + k) (Fx.byY (l ++ be k x)) ∧ Below w.heap.size w w' := by
 have hx64 := lt64 hk hx
 refine Kent Try.func75 15 ?_
 refine KWsl (KLq (.slice none 0 0) (KLe (KWsl (KLq (.slice a (m) (c)) (KLq (Ku6 x) (KLq (Ki6 k) (KLc (o_put a m c l x k _ hk hx hm hl (hb.up (Below.refl w.heap.size w) rfl)) ?_)))))))
 rintro e9 w1 ⟨aq1, cq1, he, ho1, hb1⟩
 refine ⟨_, he, ?_⟩
 clear he
 have b1 := KTk1 hb1 (Below.refl w.heap.size w)
 refine KLq (.tuple #[.slice aq1 ((m + k)) (cq1), Ki6 0]) (KLq (.slice aq1 ((m + k)) (cq1)) (KLq (Ki6 0) (KLq (.slice aq1 ((m + k)) (cq1)) (KLe (KWsl (KLq (.slice aq1 ((m + k)) (cq1)) (KLq (.slice aq1 ((m + k)) (cq1)) (KLe (Wr (Kret (.slice aq1 ((m + k)) (cq1)) ?_))))))))))
 exact ⟨aq1, cq1, rfl, ho1, b1⟩
theorem p_i64 (a : Option Addr) (m c : Nat) (l : List UInt8) (x : Int) (k : Nat) (w : World) (hk : k = 1 ∨ k = 2 ∨ k = 4 ∨ k = 8) (hx : 0 ≤ x ∧ x < 256 ^ k) (hm : m = l.length) (hl : m ≤ 100000000) (hb : Arr w a m 1 (Fx.byY l)) :
    Calls Try.prog 76 #[.slice a (m) (c), Ki6 x, Ki6 ((k : Int))] w fun e w' => ∃ a' c', e = .returned (.slice a' (m + k) c') ∧ Fx.Own w' w.heap.size 5 1 (.slice a' (m + k) c') (m + k) (Fx.byY (l ++ be k x)) ∧ Below w.heap.size w w' := by
 have hx64 := lt64 hk hx
 refine Kent Try.func76 16 ?_
 refine KWsl (KLq (.slice none 0 0) (KLe (KWsl (KLq (.slice a (m) (c)) (KLq (Ki6 x) (Lv (Ku6 x) (x_conv rfl rfl (by kernel_rfl) Try.underlying23 (u64e (by omega) rfl)) (KLq (Ki6 k) (KLc (o_put a m c l x k _ hk hx hm hl (hb.up (Below.refl w.heap.size w) rfl)) ?_))))))))
 rintro e9 w1 ⟨aq1, cq1, he, ho1, hb1⟩
 refine ⟨_, he, ?_⟩
 clear he
 have b1 := KTk1 hb1 (Below.refl w.heap.size w)
 refine KLq (.tuple #[.slice aq1 ((m + k)) (cq1), Ki6 0]) (KLq (.slice aq1 ((m + k)) (cq1)) (KLq (Ki6 0) (KLq (.slice aq1 ((m + k)) (cq1)) (KLe (KWsl (KLq (.slice aq1 ((m + k)) (cq1)) (KLq (.slice aq1 ((m + k)) (cq1)) (KLe (Wr (Kret (.slice aq1 ((m + k)) (cq1)) ?_))))))))))
 exact ⟨aq1, cq1, rfl, ho1, b1⟩
theorem p_u32 (a : Option Addr) (m c : Nat) (l : List UInt8) (x : Int) (k : Nat) (w : World) (hk : k = 1 ∨ k = 2 ∨ k = 4 ∨ k = 8) (hx : 0 ≤ x ∧ x < 256 ^ k) (hm : m = l.length) (hl : m ≤ 100000000) (hb : Arr w a m 1 (Fx.byY l)) :
    Calls Try.prog 52 #[.slice a (m) (c), .int .u32 (x), Ki6 ((k : Int))] w fun e w' => ∃ a' c', e = .returned (.slice a' (m + k) c') ∧ Fx.Own w' w.heap.size 5 1 (.slice a' (m + k) c') (m + k) (Fx.byY (l ++ be k x)) ∧ Below w.heap.size w w' := by
 have hx64 := lt64 hk hx
 refine Kent Try.func52 16 ?_
 refine KWsl (KLq (.slice none 0 0) (KLe (KWsl (KLq (.slice a (m) (c)) (KLq (.int .u32 (x)) (Lv (Ku6 x) (x_conv rfl rfl (by kernel_rfl) Try.underlying23 (u64e (by omega) rfl)) (KLq (Ki6 k) (KLc (o_put a m c l x k _ hk hx hm hl (hb.up (Below.refl w.heap.size w) rfl)) ?_))))))))
 rintro e9 w1 ⟨aq1, cq1, he, ho1, hb1⟩
 refine ⟨_, he, ?_⟩
 clear he
 have b1 := KTk1 hb1 (Below.refl w.heap.size w)
 refine KLq (.tuple #[.slice aq1 ((m + k)) (cq1), Ki6 0]) (KLq (.slice aq1 ((m + k)) (cq1)) (KLq (Ki6 0) (KLq (.slice aq1 ((m + k)) (cq1)) (KLe (KWsl (KLq (.slice aq1 ((m + k)) (cq1)) (KLq (.slice aq1 ((m + k)) (cq1)) (KLe (Wr (Kret (.slice aq1 ((m + k)) (cq1)) ?_))))))))))
 exact ⟨aq1, cq1, rfl, ho1, b1⟩
theorem p_allu (a : Option Addr) (m c : Nat) (l : List UInt8) (ra : Option Addr) (n rc : Nat) (x : Nat → Int) (w : World) (hx : ∀ i, i < n → 0 ≤ x i ∧ x i ≤ 18446744073709551615) (hn : 0 < n) (hm : m = l.length) (hl : m + 8 * n ≤ 100000000) (hb : Arr w a m 1 (Fx.byY l)) (hr : Arr w ra n 1 (rv .u64 x)) :
    Calls Try.prog 50 #[.slice a (m) (c), .slice ra (n) (rc)] w fun e w' => ∃ a' c', e = .returned (.slice a' (m + 8 * n) c') ∧ Fx.Own w' w.heap.size 5 1 (.slice a' (m + 8 * n) c') (m + 8 * n) (Fx.byY (l ++ rowB x n)) ∧ Below w.heap.size w w' := by
 refine Kent Try.func50 18 ?_
 refine KWsl (KLq (.slice none 0 0) (KLe (Ws (KWsl (KLq (.slice ra (n) (rc)) (KLq (Ki6 n) (KLq (Ki6 0) (KLe (Wb ?_)))))))))
 have hby1 : ByP (0 < 0) w w.heap.size a m c (l ++ rowB x 0) := ⟨by rw [show rowB x 0 = [] from rfl, List.append_nil]; exact hb, by rw [show rowB x 0 = [] from rfl, List.append_nil]; exact hm, fun h => absurd h (by decide)⟩
 refine Wo (fun f w_ => ∃ i : Nat, ∃ nb : Nat, ∃ ao : Option Addr, ∃ co : Nat, i ≤ n ∧ nb = m + 8 * i ∧ f 0 = .slice ao (nb) (co) ∧ f 7 = .slice ra (n) (rc) ∧ f 8 = Ki6 ((n : Int)) ∧ f 9 = Ki6 ((i : Int)) ∧ ByP (0 < i) w_ w.heap.size ao nb co (l ++ rowB x i) ∧ Below w.heap.size w w_) (fun f _ => (n - (intOf (f 9)).toNat)) ⟨0, m, a, c, by omega, by omega, (by rfl), (by rfl), Fx.ic, Fx.ic, hby1, (Below.refl w.heap.size w)⟩ ?_
 rintro f1 w1 ⟨i, nb, ao, co, hi, hnb, h1, h2, h3, h4, m1, b1⟩
 refine KWsl ?_
 by_cases c10 : (i : Int) < (n : Int)
 ·refine Lv KbT (KltT c10 (hx := h4) (hy := h3)) (KLe (Ws (KWcT (Wk (sN (Ws (Wb (KWsl ?_))))))))
  obtain ⟨bq1, oq1, eq1, m2⟩ := (hr.up b1 rfl) (by omega)
  have lbq1 : bq1 < w1.heap.size := m2.lt (by omega)
  refine Lv ((pf bq1 (i + oq1))) (Kxi 1 (hx := (h2.trans (congrArg (fun q => Value.slice q (n) (rc)) eq1))) (hi := h4)) (Lv (Ku6 (x i)) (Kxl m2 i) (KLq (Ku6 (x i)) (KLe (Wl (KLh h1 (KLq (Ku6 (x i)) (KLc (p_u64 ao nb co (l ++ rowB x i) (x i) 8 _ (by omega) (lt256_8 (hx i (by omega))) m1.len (by omega) m1.arr) ?_)))))))
  rintro e9 w2 ⟨aq1, cq1, he, ho1, hb1⟩
  refine ⟨_, he, ?_⟩
  clear he
  have b2 := KTk1 hb1 b1
  have hby2 : ByP (0 < i + 1) w2 w.heap.size aq1 (nb + 8) cq1 (l ++ rowB x (i + 1)) := .of (by rw [rowB_succ, ← List.append_assoc]; exact ho1) b1.size (by rw [List.length_append, rowB_len, ← hm]; omega)
  refine KLq (.slice aq1 ((nb + 8)) (cq1)) (Ln (blkN (sN (Wl (Lv (Ki6 ((i : Int) + 1)) (KxP (hx := h4)) (KLq (Ki6 ((i : Int) + 1)) (Ln (lpN ⟨i + 1, nb + 8, aq1, cq1, by omega, by omega, (by rfl), h2, (h3.trans Fx.ic), Fx.ic, hby2, b2⟩ ?_))))))))
  show (n - (intOf ((Ki6 ((i : Int) + 1)))).toNat) < _
  simp only [h4, intOf]; omega
 refine Lv KbF (KltF c10 (hx := h4) (hy := h3)) (KLe (Ws (KWcF (Wx (seqX (lpX (blkX (sN (KWsl (KLh h1 (KLq (.slice ao (nb) (co)) (KLe (Wr (Kret (.slice ao (nb) (co)) (⟨ao, co, by rw [show m + 8 * n = nb by omega], ?_, b1⟩)))))))))))))))
 have q9 := m1.own (by omega)
 rw [show i = n by omega] at q9; rw [show m + 8 * n = nb by omega]; exact q9
theorem p_alli (a : Option Addr) (m c : Nat) (l : List UInt8) (ra : Option Addr) (n rc : Nat) (x : Nat → Int) (w : World) (hx : ∀ i, i < n → 0 ≤ x i ∧ x i ≤ 18446744073709551615) (hn : 0 < n) (hm : m = l.length) (hl : m + 8 * n ≤ 100000000) (hb : Arr w a m 1 (Fx.byY l)) (hr : Arr w ra n 1 (rv .i64 x)) :
    Calls Try.prog 51 #[.slice a (m) (c), .slice ra (n) (rc)] w fun e w' => ∃ a' c', e = .returned (.slice a' (m + 8 * n) c') ∧ Fx.Own w' w.heap.size 5 1 (.slice a' (m + 8 * n) c') (m + 8 * n) (Fx.byY (l ++ rowB x n)) ∧ Below w.heap.size w w' := by
 refine Kent Try.func51 18 ?_
 refine KWsl (KLq (.slice none 0 0) (KLe (Ws (KWsl (KLq (.slice ra (n) (rc)) (KLq (Ki6 n) (KLq (Ki6 0) (KLe (Wb ?_)))))))))
 have hby1 : ByP (0 < 0) w w.heap.size a m c (l ++ rowB x 0) := ⟨by rw [show rowB x 0 = [] from rfl, List.append_nil]; exact hb, by rw [show rowB x 0 = [] from rfl, List.append_nil]; exact hm, fun h => absurd h (by decide)⟩
 refine Wo (fun f w_ => ∃ i : Nat, ∃ nb : Nat, ∃ ao : Option Addr, ∃ co : Nat, i ≤ n ∧ nb = m + 8 * i ∧ f 0 = .slice ao (nb) (co) ∧ f 7 = .slice ra (n) (rc) ∧ f 8 = Ki6 ((n : Int)) ∧ f 9 = Ki6 ((i : Int)) ∧ ByP (0 < i) w_ w.heap.size ao nb co (l ++ rowB x i) ∧ Below w.heap.size w w_) (fun f _ => (n - (intOf (f 9)).toNat)) ⟨0, m, a, c, by omega, by omega, (by rfl), (by rfl), Fx.ic, Fx.ic, hby1, (Below.refl w.heap.size w)⟩ ?_
 rintro f1 w1 ⟨i, nb, ao, co, hi, hnb, h1, h2, h3, h4, m1, b1⟩
 refine KWsl ?_
 by_cases c10 : (i : Int) < (n : Int)
 ·refine Lv KbT (KltT c10 (hx := h4) (hy := h3)) (KLe (Ws (KWcT (Wk (sN (Ws (Wb (KWsl ?_))))))))
  obtain ⟨bq1, oq1, eq1, m2⟩ := (hr.up b1 rfl) (by omega)
  have lbq1 : bq1 < w1.heap.size := m2.lt (by omega)
  refine Lv ((pf bq1 (i + oq1))) (Kxi 1 (hx := (h2.trans (congrArg (fun q => Value.slice q (n) (rc)) eq1))) (hi := h4)) (Lv (Ki6 (x i)) (Kxl m2 i) (KLq (Ki6 (x i)) (KLe (Wl (KLh h1 (KLq (Ki6 (x i)) (KLc (p_i64 ao nb co (l ++ rowB x i) (x i) 8 _ (by omega) (lt256_8 (hx i (by omega))) m1.len (by omega) m1.arr) ?_)))))))
  rintro e9 w2 ⟨aq1, cq1, he, ho1, hb1⟩
  refine ⟨_, he, ?_⟩
  clear he
  have b2 := KTk1 hb1 b1
  have hby2 : ByP (0 < i + 1) w2 w.heap.size aq1 (nb + 8) cq1 (l ++ rowB x (i + 1)) := .of (by rw [rowB_succ, ← List.append_assoc]; exact ho1) b1.size (by rw [List.length_append, rowB_len, ← hm]; omega)
  refine KLq (.slice aq1 ((nb + 8)) (cq1)) (Ln (blkN (sN (Wl (Lv (Ki6 ((i : Int) + 1)) (KxP (hx := h4)) (KLq (Ki6 ((i : Int) + 1)) (Ln (lpN ⟨i + 1, nb + 8, aq1, cq1, by omega, by omega, (by rfl), h2, (h3.trans Fx.ic), Fx.ic, hby2, b2⟩ ?_))))))))
  show (n - (intOf ((Ki6 ((i : Int) + 1)))).toNat) < _
  simp only [h4, intOf]; omega
 refine Lv KbF (KltF c10 (hx := h4) (hy := h3)) (KLe (Ws (KWcF (Wx (seqX (lpX (blkX (sN (KWsl (KLh h1 (KLq (.slice ao (nb) (co)) (KLe (Wr (Kret (.slice ao (nb) (co)) (⟨ao, co, by rw [show m + 8 * n = nb by omega], ?_, b1⟩)))))))))))))))
 have q9 := m1.own (by omega)
 rw [show i = n by omega] at q9; rw [show m + 8 * n = nb by omega]; exact q9
theorem r_word (B : Nat) (a : Option Addr) (m c : Nat) (l : List UInt8) (x : Int) (k : Nat) (w : World) (hB : B ≤ w.heap.size) (hk : k = 1 ∨ k = 2 ∨ k = 4 ∨ k = 8) (hx : 0 ≤ x ∧ x < 256 ^ k) (hm : m = l.length) (hl : m ≤ 100000000) (ho : Fx.Own w B 5 1 (.slice a m c) m (Fx.byY l)) :
    Calls Try.prog 54 #[.slice a (m) (c), Ku6 x, Ki6 ((k : Int))] w fun e w' => ∃ a' c', e = .returned (.slice a' (m + k) c') ∧ Fx.Own w' B 5 1 (.slice a' (m + k) c') (m + k) (Fx.byY (l ++ be k x)) ∧ ChT [5] w w' ∧ Below B w w' := by
 refine Kent Try.func54 24 ?_
 refine KWsl (KLq (.slice none 0 0) (KLe (Ws (Ws ?_))))
 have m1 : Fx.Own w B 5 1 (.slice a (m) (c)) m (Fx.byY (l ++ (be k x).take 0)) := by rw [List.take_zero, List.append_nil]; exact ho
 have hct : CtW [5] w w := .refl _ _
 refine Wl (KLq (Ki6 k) (Lv (Ki6 ((k : Int) - 1)) KxM (KLq (Ki6 ((k : Int) - 1)) (KLe (Wb (Wo (fun f w_ => ∃ j : Nat, ∃ nb : Nat, ∃ ao : Option Addr, ∃ co : Nat, j ≤ k ∧ nb = m + j ∧ f 0 = .slice ao (nb) (co) ∧ f 1 = Ku6 x ∧ f 7 = Ki6 ((k : Int) - (j : Int) - 1) ∧ Fx.Own w_ B 5 1 (.slice ao (nb) (co)) nb (Fx.byY (l ++ (be k x).take j)) ∧ CtW [5] w w_ ∧ Below B w w_) (fun f _ => (intOf (f 7) + 1).toNat) ⟨0, m, a, c, by omega, by omega, (by rfl), Fx.ic, Fx.ic, m1, hct, (Below.refl B w)⟩ ?_))))))
 rintro f1 w1 ⟨j, nb, ao, co, hj, hnb, h1, h2, h3, m2, m3, b1⟩
 refine Ws (KWsl (KLh h3 ?_))
 by_cases c11 : 0 ≤ ((k : Int) - (j : Int) - 1)
 ·refine Lv KbT (KgeT c11) (KLe (KWcT (Wk (sN (Ws (Wb ?_))))))
  obtain ⟨sh, hsh⟩ : ∃ sh : Nat, (k : Int) - (j : Int) - 1 = (sh : Int) := ⟨k - 1 - j, by omega⟩
  obtain ⟨s8, hs8⟩ : ∃ q, q = 8 * sh := ⟨_, rfl⟩
  have hbs := be_step (x := x) (show j < k by omega)
  refine Wl (KLh h1 (KLh h2 (KLh (h3.trans (congrArg (Value.int .i64) hsh)) (Lv (Ki6 s8) (Fx.x_mul rfl rfl rfl Fx.io) (Lv (Ku6 s8) (x_conv rfl rfl (by kernel_rfl) Try.underlying113 (u64e (by omega) rfl)) (Lv (Ku6 (x / (2 : Int) ^ s8)) (Fx.x_shr (b := s8) (q := (2 : Int) ^ s8) rfl rfl rfl (by have : IntKind.u64.bits = 64 := rfl; omega) rfl) (Lv (.int .u8 (((byI (x / 256 ^ (k - 1 - j))).toNat : Int))) (x_conv rfl rfl (by kernel_rfl) Try.underlying5 (by8 hx.1 (by omega))) (Lbs (vs := [(0, .int .u8 (((byI (x / 256 ^ (k - 1 - j))).toNat : Int)))]) (s := 1) (zc := rv .u8 (fun _ => 0)) (y := ovr (fun j => (rv .u8 (fun _ => 0)) (j % 1)) (0 * 1) 1 (fun _ => .int .u8 (((byI (x / 256 ^ (k - 1 - j))).toNat : Int)))) (by rfl) rfl rfl Try.underlying30 (by kernel_rfl) (by rfl) (by rfl) (by kernel_rfl) (by rw [fill_step (off := 0 * 1) (s := 1) (y := fun _ => .int .u8 (((byI (x / 256 ^ (k - 1 - j))).toNat : Int))) rfl (cells_one (by rfl)) (by rfl)]; rfl) rfl fun g1 w2 eg1 m4 s1 z1 => ?_))))))))
  have ⟨m5, m6⟩ := KTk2 s1.old m2 m3
  have b2 := KBk s1.old b1 hB
  have lg1 := KGk eg1 b1.size
  have ng1m5 : (.slice ao (nb) (co) : Value).ownBlock ≠ some g1 := by rw [eg1]; exact m2.notNew (Nat.le_refl _)
  have tg1 := m4.lt
  refine Lap (B := B) (s := 1) (bytes := 1) (k := nb) (m := 1) (v := .slice ao (nb) (co)) (x := Fx.byY (l ++ (be k x).take j)) (by rfl) rfl rfl rfl Try.underlying30 (by kernel_rfl) (by kernel_rfl) rfl rfl m5 m4.cel (fun j hj => by unfold ovr; split <;> rfl) (by omega) (by omega) (by omega) (Nat.le_trans hB b2.size) fun g2 cap1 w3 ho1 hg1 hgv1 hlt1 => ?_
  have hct1 := cOg hg1 m5
  have m8 := KCk1 hct1 m6
  have m7 : Fx.Own w3 B 5 1 (Ksl g2 (nb + 1) cap1) (nb + 1) (Fx.byY (l ++ (be k x).take (j + 1))) := (ho1.congr (fun q hq => by rw [hbs, ← List.append_assoc]; exact byY_app1 (by rw [List.length_append, List.length_take, be_len, ← hm]; omega) q hq))
  have b3 : Below B w w3 := bGr b2 hg1 (Nat.le_trans hB b2.size) (fun q hq => (m5.ge hq).1)
  refine KLq (Ksl g2 (nb + 1) cap1) (Ln (blkN (sN (Wl (KLh (h3.trans (congrArg (Value.int .i64) hsh)) (Lv (Ki6 ((sh : Int) - 1)) KxM (KLq (Ki6 ((sh : Int) - 1)) (Ln ?_))))))))
  skip
  refine lpN ⟨j + 1, nb + 1, (some ⟨g2, 0, none⟩), cap1, by omega, by omega, (by rfl), (h2.trans Fx.ic), Fx.ic, m7, m8, b3⟩ ?_
  show (intOf ((Ki6 ((sh : Int) - 1))) + 1).toNat < _
  simp only [h3, intOf]; omega
 refine Lv KbF (KgeF c11) (KLe (KWcF (Wx (seqX (lpX (blkX (sN (KWsl (KLh h1 (KLq (.slice ao (nb) (co)) (KLe (Wr (Kret (.slice ao (nb) (co)) (⟨ao, co, by rw [show m + k = nb by omega], ?_, m3.c, b1⟩))))))))))))))
 have q9 := m2
 rw [show j = k by omega, List.take_of_length_le (by rw [be_len]; exact Nat.le_refl _)] at q9
 rw [show m + k = nb by omega]; exact q9
end
end Go.Proofs.Ytkajcjefckjijaa
namespace Go.Proofs.Ytkajcjefckjijaa.Fx
open Go.RowKit
def joinK (I : (Nat → Value) → World → Prop) (Q : Post) : Post := fun e f w => match e with | .normal => I f w | e => Q e f w
section
variable {P : Program} {n : Nat} {Q : Post} {f : Nat → Value} {w : World} {I : (Nat → Value) → World → Prop}
theorem WsJ {x y : Code} (I : (Nat → Value) → World → Prop) (h1 : W P n x (joinK I Q) f w) (h2 : ∀ f w, I f w → W P n y Q f w) : W P n (.seq x y) Q f w :=
  Ws (W.mono h1 fun e f w hq => by
    cases e <;> first | exact h2 f w hq | exact hq)
theorem jnN (h : I f w) : joinK I Q .normal f w := h
end
end Go.Proofs.Ytkajcjefckjijaa.Fx
namespace Go.Proofs.Ytkajcjefckjijaa
open Go.RowKit
namespace Fx
section
variable {S S' : Nat → Prop}
theorem Chg.trans (w w' w2 : World) (h : Chg S w w') (k : Chg S w' w2) : Chg S w w2 := ⟨k.os.trans h.os, k.tape.trans h.tape, k.output.trans h.output, Nat.le_trans h.size k.size, fun i hi hS => (k.block i (Nat.lt_of_lt_of_le hi h.size) hS).trans (h.block i hi hS)⟩
theorem Chg.mono {w w' : World} (h : Chg S w w') (hS : ∀ k, S k → S' k) : Chg S' w w' := ⟨h.os, h.tape, h.output, h.size, fun i hi hn => h.block i hi fun hs => hn (hS i hs)⟩
theorem Chg.of_stp {g : Nat} {w w' : World} (h : Stp g w w') : Chg (fun k => k = g) w w' := (gRf _ w).then h (.inl rfl)
end
end Fx
end Go.Proofs.Ytkajcjefckjijaa
namespace Go.Proofs.Ytkajcjefckjijaa
open Go.RowKit Rt
open Fx (x_move x_assign x_field x_load1 x_conv x_indexS x_index x_leqF x_loadA x_len x_gtrF x_eqlF x_eqlT Lv sN Ln Ws Qv Wl Rp Wc Qs Wr Sb Lk Wk rV sR Rs Rn Rd Rk Wb Wx Wo WoE Wt Wone Qn Qcl Lcl Lbs Lap Lnw Lbx Stv cOs cOg sRf mRf gRf cRf oNl bGr WsJ Wro rv varr Blk ovr putI ev Stp ovr_all flat updV Mp run_loadV Cel fill_step ret0 Chg i64e Arr flat_cong cells_agg cells_one ChT ovr_ones jnN u64e appX fOne_out upd_all blkR blkN seqX blkX lpX lpN lpR retV2)
set_option maxRecDepth 20000
set_option linter.unusedVariables false
namespace Rt
def ndZ (x : NdM) : Nat → Value := ndY x.id x.par x.R
def grZ (x : GrM) : Nat → Value := fun j => if j = 0 then Ki6 x.o else if j = 1 then Ku6 x.r else if j = 2 then Ku6 x.n else if j = 3 then Ki6 x.a else Ku6 x.b
def ndsX (l : List NdM) : Nat → Value := flat 56 fun k => ndZ (ndA l k)
def grsX (l : List GrM) : Nat → Value := flat 5 fun k => grZ (grA l k)
def stS (m : SnM) (na : Option Addr) (nc : Nat) (ga : Option Addr) (gc : Nat) : StM := ⟨m.inn, m.left, m.known, na, m.ns.length, nc, ga, m.gs.length, gc⟩
theorem ndZ_one (x : NdM) (j : Nat) : (ndZ x j).oneCell' = true := by unfold ndZ ndY; split <;> (try split) <;> rfl
theorem grZ_one (x : GrM) (j : Nat) : (grZ x j).oneCell' = true := by unfold grZ; repeat (first | rfl | split)
theorem stY_one (m : StM) (j : Nat) : (stY m j).oneCell' = true := by unfold stY; repeat (first | rfl | split)
def cmp3 (a b : Int) : Int := if a < b then -1 else if b < a then 1 else 0
def orV (a b : Int) : Int := if a ≠ 0 then a else b
def orA (a b : Int) : Nat → Int := fun q => if q = 0 then a else b
theorem or_z {a b : Int} {i : Nat} (h : i = 0 ∨ a = 0) (hc : orA a b i = 0) : i + 1 = 0 ∨ a = 0 := by
  right
  by_cases e : i = 0
  · subst e; exact hc
  exact h.resolve_left e
theorem or_n {a b : Int} {i : Nat} (h : i = 0 ∨ a = 0) (hc : orA a b i = 0) (hi : i < 2) : i + 1 < 2 ∨ orV a b = 0 := by
  by_cases e : i = 0
  · subst e; exact .inl (by decide)
  have e1 : i = 1 := by omega
  subst e1
  right
  have ha := h.resolve_left (by decide)
  unfold orV; rw [if_neg (by rw [ha]; decide)]; exact hc
theorem or_y {a b : Int} {i : Nat} (h : i = 0 ∨ a = 0) (hc : ¬ orA a b i = 0) (hi : i < 2) : orA a b i = orV a b := by
  by_cases e : i = 0
  · subst e; exact (if_pos (show a ≠ 0 from hc)).symm
  have e1 : i = 1 := by omega
  subst e1
  have ha := h.resolve_left (by decide)
  unfold orV; rw [if_neg (by rw [ha]; decide)]; rfl
theorem cmp_lt {a b : Int} : ¬ (0 ≤ cmp3 a b) ↔ a < b := by
  unfold cmp3
  split
  · omega
  split <;> omega
def cmpG (x y : GrM) : Int := orV (cmp3 x.o y.o) (cmp3 x.r y.r)
theorem cmpG_lt {x y : GrM} : ¬ (0 ≤ cmpG x y) ↔ grLt x y := by
  unfold cmpG orV cmp3 grLt
  by_cases h1 : x.o < y.o
  · simp [h1]
  by_cases h2 : y.o < x.o
  · simp [h1, h2]; omega
  have : x.o = y.o := by omega
  simp [this]
  by_cases h3 : x.r < y.r
  · simp [h3]
  by_cases h4 : y.r < x.r
  · simp [h3, h4]
  simp [h3, h4]
theorem cmpG_gt {x y : GrM} : 0 < cmpG x y ↔ grLt y x := by
  unfold cmpG orV cmp3 grLt
  by_cases h1 : x.o < y.o
  · simp [h1]; omega
  by_cases h2 : y.o < x.o
  · simp [h1, h2]
  have : x.o = y.o := by omega
  simp [this]
  by_cases h3 : x.r < y.r
  · simp [h3]; omega
  by_cases h4 : y.r < x.r
  · simp [h3, h4]
  simp [h3, h4]
theorem cmpG_neg {x y : GrM} : cmpG x y < 0 ↔ grLt x y := by rw [← cmpG_lt]; omega
theorem cmp_neg {a b : Int} : cmp3 a b < 0 ↔ a < b := by rw [← cmp_lt (a := a)]; omega
theorem cmp_gt {a b : Int} : 0 < cmp3 a b ↔ b < a := by
  unfold cmp3
  split
  · omega
  split <;> omega
open Classical in
noncomputable def riseN (l : List NdM) : Bool := decide (∀ k, k + 1 < l.length → (ndA l k).id < (ndA l (k + 1)).id)
open Classical in
noncomputable def riseG (l : List GrM) : Bool := decide (∀ k, k + 1 < l.length → grLt (grA l k) (grA l (k + 1)))
open Classical in
theorem riseN_yes {l : List NdM} (h : ∀ k, k + 1 < l.length → (ndA l k).id < (ndA l (k + 1)).id) : riseN l = true := decide_eq_true h
open Classical in
theorem riseN_no {l : List NdM} (h : ¬ ∀ k, k + 1 < l.length → (ndA l k).id < (ndA l (k + 1)).id) : riseN l = false := decide_eq_false h
open Classical in
theorem riseG_yes {l : List GrM} (h : ∀ k, k + 1 < l.length → grLt (grA l k) (grA l (k + 1))) : riseG l = true := decide_eq_true h
open Classical in
theorem riseG_no {l : List GrM} (h : ¬ ∀ k, k + 1 < l.length → grLt (grA l k) (grA l (k + 1))) : riseG l = false := decide_eq_false h
theorem all_step {P : Nat → Prop} {i : Nat} (h : ∀ k, k < i → P k) (hp : P i) : ∀ k, k < i + 1 → P k := fun k hk => by
  by_cases e : k = i
  · rw [e]; exact hp
  · exact h k (by omega)
end Rt
theorem q_nanci (n : Int) (w : World) :
    Calls Try.prog 81 #[Ki6 n] w fun e w' => e = .returned (.bool false) ∧ w' = w := by
 refine Kent Try.func81 6 ?_
 refine KWsl (KLq KbF (KLe (KWsl (KLq (Ki6 n) (KLq (Ki6 n) (Lv KbF (KneF rfl) (KLq KbF (KLe (Wr (Kret KbF ?_))))))))))
 exact ⟨rfl, rfl⟩
theorem q_cmpci (a b : Int) (w : World) :
    Calls Try.prog 63 #[Ki6 a, Ki6 b] w fun e w' => e = .returned (Ki6 (cmp3 a b)) ∧ w' = w := by
 refine Kent Try.func63 20 ?_
 refine KWsl (KLq (Ki6 0) (KLe (KWsl (KLq (Ki6 a) (KLc0 (q_nanci a _) _ rfl (KLq KbF (KLe (KWsl (KLq (Ki6 b) (KLc0 (q_nanci b _) _ rfl (KLq KbF (KLe (Ws (KWsl (KLq KbF (KLe (KWcF (Wk (sN (Ws (KWsl (KLq KbF (KLe (KWcF (Wk (sN (Ws (KWsl (KLq (Ki6 a) (KLq (Ki6 b) ?_))))))))))))))))))))))))))))))
 by_cases c16 : a < b
 ·refine Lv KbT (KltT c16) (KLe (KWcT (KWsl (KLq (Ki6 (-1)) (KLe (Wr (sR (Kret (Ki6 (-1)) ?_))))))))
  exact ⟨by unfold cmp3; simp [c16], rfl⟩
 refine Lv KbF (KltF c16) (KLe (KWcF (Wk (sN (Ws (KWsl (KLq (Ki6 a) (KLq (Ki6 b) ?_))))))))
 by_cases c19 : b < a
 ·refine Lv KbT (KgtT c19) (KLe (KWcT (KWsl (KLq (Ki6 1) (KLe (Wr (sR (Kret (Ki6 1) ?_))))))))
  exact ⟨by unfold cmp3; simp [c16, c19], rfl⟩
 refine Lv KbF (KgtF c19) (KLe (KWcF (Wk (sN (KWsl (KLq (Ki6 0) (KLe (Wr (Kret (Ki6 0) ?_)))))))))
 exact ⟨by unfold cmp3; simp [c16, c19], rfl⟩
theorem q_nancu (n : Int) (w : World) :
    Calls Try.prog 80 #[Ku6 n] w fun e w' => e = .returned (.bool false) ∧ w' = w := by
 refine Kent Try.func80 6 ?_
 refine KWsl (KLq KbF (KLe (KWsl (KLq (Ku6 n) (KLq (Ku6 n) (Lv KbF (KneF rfl) (KLq KbF (KLe (Wr (Kret KbF ?_))))))))))
 exact ⟨rfl, rfl⟩
theorem q_cmpcu (a b : Int) (w : World) :
    Calls Try.prog 60 #[Ku6 a, Ku6 b] w fun e w' => e = .returned (Ki6 (cmp3 a b)) ∧ w' = w := by
 refine Kent Try.func60 20 ?_
 refine KWsl (KLq (Ki6 0) (KLe (KWsl (KLq (Ku6 a) (KLc0 (q_nancu a _) _ rfl (KLq KbF (KLe (KWsl (KLq (Ku6 b) (KLc0 (q_nancu b _) _ rfl (KLq KbF (KLe (Ws (KWsl (KLq KbF (KLe (KWcF (Wk (sN (Ws (KWsl (KLq KbF (KLe (KWcF (Wk (sN (Ws (KWsl (KLq (Ku6 a) (KLq (Ku6 b) ?_))))))))))))))))))))))))))))))
 by_cases c16 : a < b
 ·refine Lv KbT (KltT c16) (KLe (KWcT (KWsl (KLq (Ki6 (-1)) (KLe (Wr (sR (Kret (Ki6 (-1)) ?_))))))))
  exact ⟨by unfold cmp3; simp [c16], rfl⟩
 refine Lv KbF (KltF c16) (KLe (KWcF (Wk (sN (Ws (KWsl (KLq (Ku6 a) (KLq (Ku6 b) ?_))))))))
 by_cases c19 : b < a
 ·refine Lv KbT (KgtT c19) (KLe (KWcT (KWsl (KLq (Ki6 1) (KLe (Wr (sR (Kret (Ki6 1) ?_))))))))
  exact ⟨by unfold cmp3; simp [c16, c19], rfl⟩
 refine Lv KbF (KgtF c19) (KLe (KWcF (Wk (sN (KWsl (KLq (Ki6 0) (KLe (Wr (Kret (Ki6 0) ?_)))))))))
 exact ⟨by unfold cmp3; simp [c16, c19], rfl⟩
theorem q_or (a b : Int) (gO : Nat) (w : World) (hO : Cel w gO 0 2 (rv .i64 (orA a b))) :
    Calls Try.prog 62 #[Ksl gO 2 2] w fun e w' => e = .returned (Ki6 (orV a b)) ∧ w' = w := by
 refine Kent Try.func62 18 ?_
 refine KWsl (KLq (Ki6 0) (KLe (KWsl (KLq (Ki6 0) (KLe (Ws (KWsl (KLq (Ksl gO 2 2) (KLq (Ki6 2) (KLq (Ki6 0) (KLe (Wb (Wo (fun f w_ => ∃ i : Nat, i ≤ 2 ∧ ((i = 0 ∨ a = 0)) ∧ ((i < 2 ∨ orV a b = 0)) ∧ w_ = w ∧ f 3 = Ki6 0 ∧ f 6 = Ksl gO 2 2 ∧ f 7 = Ki6 2 ∧ f 8 = Ki6 ((i : Int)) ∧ Cel w_ gO 0 2 (rv .i64 (orA a b))) (fun f _ => (2 - intOf (f 8)).toNat) ⟨0, (by omega), (.inl rfl), (.inl (by decide)), rfl, Fx.ic, (by rfl), Fx.ic, Fx.ic, hO⟩ ?_)))))))))))))
 rintro f1 w1 ⟨i, hi, hz, hn, hw, h1, h2, h3, h4, m1⟩
 refine KWsl ?_
 by_cases c9 : (i : Int) < 2
 ·refine Lv KbT (KltT c9 (hx := h4) (hy := h3)) (KLe (Ws (KWcT (Wk (sN (Ws (Wb (KWsl (Lv ((pf gO i)) (Kxi 1 (hx := h2) (hi := h4)) (Lv (Ki6 (orA a b i)) (Kxl m1 i) (KLq (Ki6 (orA a b i)) (KLe (KWsl (KLq (Ki6 (orA a b i)) (KLh h1 ?_)))))))))))))))
  by_cases c14 : (orA a b i) = 0
  ·refine Lv KbF (KneF c14) (KLe (KWcF (Wk (blkN (sN (Wl (Lv (Ki6 ((i : Int) + 1)) (KxP (hx := h4)) (KLq (Ki6 ((i : Int) + 1)) (Ln (lpN ⟨i + 1, (by omega), (or_z hz c14), (or_n hz c14 (by omega)), hw, (h1.trans Fx.ic), h2, (h3.trans Fx.ic), Fx.ic, m1⟩ ?_))))))))))
   show (2 - intOf ((Ki6 ((i : Int) + 1)))).toNat < _
   simp only [h4, intOf]; omega
  refine Lv KbT (KneT c14) (KLe (KWcT (KWsl (KLq (Ki6 (orA a b i)) (KLq (Ki6 (orA a b i)) (KLe (Wr (blkR (sR (lpR (blkR (sR (Kret (Ki6 (orA a b i)) ?_)))))))))))))
  exact ⟨by rw [or_y hz c14 (by omega)], hw⟩
 refine Lv KbF (KltF c9 (hx := h4) (hy := h3)) (KLe (Ws (KWcF (Wx (seqX (lpX (blkX (sN (KWsl (KLh h1 (KLq (Ki6 0) (KLe (Wr (Kret (Ki6 0) ?_))))))))))))))
 exact ⟨by rw [hn.resolve_left (by omega)], hw⟩
theorem s_byId (x y : NdM) (w : World) :
    Calls Try.prog 22 #[.agg (varr 56 (ndZ x)), .agg (varr 56 (ndZ y))] w fun e w' => e = .returned (Ki6 (cmp3 x.id y.id)) ∧ Below w.heap.size w w' := by
 refine Kent Try.func22 10 ?_
 refine KWsl (KLb fun g1 w1 eg1 m1 s1 z1 => ?_)
 have b1 := KTk1 s1.old (Below.refl w.heap.size w)
 have lg1 := KGk0 eg1
 have tg1 := m1.lt
 refine KLb fun g2 w2 eg2 m2 s2 z2 => ?_
 have ⟨m3, b2⟩ := KTk2 s2.old m1 b1
 have lg2 := KGk eg2 b1.size
 have ng2m3 := KNk1 eg2 m1.lt
 have tg2 := m2.lt
 refine KLq (Ki6 0) (KLe (KWsl (KLq ((pt g1)) (Lv (Ku6 x.id) (Kxl m3.cel 0) (KLq ((pt g2)) (Lv (Ku6 y.id) (Kxl m2.cel 0) (KLc0 (q_cmpcu x.id y.id _) _ rfl (KLq (Ki6 (cmp3 x.id y.id)) (KLe (Wr (Kret (Ki6 (cmp3 x.id y.id)) ?_)))))))))))
 exact ⟨rfl, b2⟩
theorem s_byReq (x y : GrM) (w : World) :
    Calls Try.prog 25 #[.agg (varr 5 (grZ x)), .agg (varr 5 (grZ y))] w fun e w' => e = .returned (Ki6 (cmpG x y)) ∧ Below w.heap.size w w' := by
 refine Kent Try.func25 17 ?_
 refine KWsl (KLb fun g1 w1 eg1 m1 s1 z1 => ?_)
 have b1 := KTk1 s1.old (Below.refl w.heap.size w)
 have lg1 := KGk0 eg1
 have tg1 := m1.lt
 refine KLb fun g2 w2 eg2 m2 s2 z2 => ?_
 have ⟨m3, b2⟩ := KTk2 s2.old m1 b1
 have lg2 := KGk eg2 b1.size
 have ng2m3 := KNk1 eg2 m1.lt
 have tg2 := m2.lt
 refine KLq (Ki6 0) (KLe (Ws ?_))
 -- region 1 draws
 refine KWm [0, 2, 5, 7, 1, 3, 6, 8, 4, 9, 10, 11, 12] [0, 4, 0, 4, 2, 0, 1, 0, 1, 2, 2, 3, 0] [(4, 1, [1]), (9, 1, [4, 1]), (10, 1, [4, 1]), (11, 1, [10, 4, 1]), (4, 3, [3]), (9, 3, [4, 3]), (10, 3, [4, 3]), (11, 3, [10, 4, 3]), (11, 6, [9, 6]), (11, 8, [9, 8]), (9, 4, [4]), (10, 4, [4]), (11, 4, [10, 4]), (12, 4, [4]), (10, 9, [9]), (11, 9, [9]), (12, 9, [9]), (11, 10, [10]), (12, 10, [10]), (12, 11, [11])] fun wt1 hbwt1 hzwt1 => ?_
 have ⟨m4, m5, b3⟩ := KTk3 hbwt1 m3 m2 b2
 refine KRq ((pt g1)) (KRq ((pt g2)) (KRq ((pf g1 1)) (KRq ((pf g2 1)) (Rs (Ki6 x.o) (Kxl m4.cel 0) ?_))))
 refine Rs (Ki6 y.o) (Kxl m5.cel 0) ?_
 refine Rd (v := Ku6 x.r) (by rfl) (by rfl) (mRf _) (fun v1 hv1 => x_load1 (x := grZ x) rfl rfl (by kernel_rfl) (m4.cel.below hv1 (by have := m4.lt; omega)) (i := 1) (by omega) (by omega) rfl) ?_
 refine Rd (v := Ku6 y.r) (by rfl) (by rfl) (mRf _) (fun v1 hv1 => x_load1 (x := grZ y) rfl rfl (by kernel_rfl) (m5.cel.below hv1 (by have := m5.lt; omega)) (i := 1) (by omega) (by omega) rfl) ?_
 refine KRk (KLc0 (q_cmpci x.o y.o _) _ rfl (Ln ⟨Below.refl _ _, ?_⟩))
 refine KRk (KLc0 (q_cmpcu x.r y.r _) _ rfl (Ln ⟨Below.refl _ _, ?_⟩))
 refine KRk (Lbs (vs := [(0, Ki6 (cmp3 x.o y.o)), (1, Ki6 (cmp3 x.r y.r))]) (s := 1) (zc := rv .i64 (fun _ => 0)) (y := ovr (ovr (fun j => (rv .i64 (fun _ => 0)) (j % 1)) (0 * 1) 1 (fun _ => Ki6 (cmp3 x.o y.o))) (1 * 1) 1 (fun _ => Ki6 (cmp3 x.r y.r))) (by rfl) rfl rfl Try.underlying127 (by kernel_rfl) (by rfl) (by rfl) (by kernel_rfl) (by rw [fill_step (off := 0 * 1) (s := 1) (y := fun _ => Ki6 (cmp3 x.o y.o)) rfl (cells_one (by rfl)) (by rfl)]; rw [fill_step (off := 1 * 1) (s := 1) (y := fun _ => Ki6 (cmp3 x.r y.r)) rfl (cells_one (by rfl)) (by rfl)]; rfl) rfl fun g3 w3 eg3 m6 s4 z3 => ?_)
 have b4 := KTk1 s4.old b3
 have lg3 := KGk eg3 b3.size
 have ⟨ng3m7, ng3m8⟩ := KNk2 eg3 m4.lt m5.lt
 have tg3 := m6.lt
 refine Ln ⟨s4.old, ?_⟩
 refine KRe (KLc0 (q_or (cmp3 x.o y.o) (cmp3 x.r y.r) g3 _ (m6.congr (fun j hj => by rcases j with _|_|j <;> first | rfl | omega)).cel) _ rfl (Ln (KRq (Ki6 (orV (cmp3 x.o y.o) (cmp3 x.r y.r))) (KRend (Wr (Kret (Ki6 (orV (cmp3 x.o y.o) (cmp3 x.r y.r))) ?_))))))
 exact ⟨rfl, b4⟩
theorem s_riseN (a : Option Addr) (c : Nat) (l : List NdM) (w : World) (hl : l.length ≤ 1000000) (hn : Arr w a l.length 56 (ndsX l)) :
    Calls Try.prog 37 #[.slice a (l.length) (c), .func (.func 22) #[] #[]] w fun e w' => e = .returned (.bool (riseN l)) ∧ Below w.heap.size w w' := by
 refine Kent Try.func37 24 ?_
 refine KWsl (KLq KbF (KLe (Ws (KWsl (KLq (Ki6 1) (KLe (Wb (Wo (fun f w_ => ∃ i : Nat, i ≤ l.length ∧ (∀ k, k < i → (ndA l k).id < (ndA l (k + 1)).id) ∧ f 0 = .slice a (l.length) (c) ∧ f 1 = .func (.func 22) #[] #[] ∧ f 5 = Ki6 ((i : Int) + 1) ∧ Below w.heap.size w w_) (fun f _ => (l.length - (intOf (f 5)).toNat)) ⟨0, (Nat.zero_le _), (fun k h => absurd h (by omega)), (by rfl), (by rfl), Fx.ic, (Below.refl w.heap.size w)⟩ ?_))))))))
 rintro f1 w1 ⟨i, hi, hall, h1, h2, h3, b1⟩
 refine Ws (KWsl (KLh h3 (KLh h1 (KLq (Ki6 l.length) ?_))))
 by_cases c9 : ((i : Int) + 1) < (l.length : Int)
 ·refine Lv KbT (KltT c9) (KLe (KWcT (Wk (sN (Ws (Wb (Ws ?_)))))))
  -- region 4 draws
  refine KWqb (KQh h2 (KQh h1 (KQh h3 (Qv (Ki6 i) (fun v1 hv1 => KxM) ?_))))
  obtain ⟨bq1, oq1, eq1, m1⟩ := (hn.up b1 rfl) (by omega)
  have lbq1 : bq1 < w1.heap.size := m1.lt (by omega)
  refine Qv ((pf bq1 (56 * i + oq1))) (fun v1 hv1 => Kxi 56 (hx := (rfl.trans (congrArg (fun q => Value.slice q (l.length) (c)) eq1)))) (Qv (.agg (varr 56 (ndZ (ndA l i)))) (fun v1 hv1 => KxA (m1.below hv1 (m1.lt (by omega))) (56 * i) (x := ndsX l) (fun jq hjq => Fx.flat_at (k := i) (by omega) hjq)) (KQh h1 (KQh h3 (Qv ((pf bq1 (56 * i + oq1 + 56))) (fun v1 hv1 => Kxi 56 (hx := (rfl.trans (congrArg (fun q => Value.slice q (l.length) (c)) eq1)))) (Qv (.agg (varr 56 (ndZ (ndA l (i + 1))))) (fun v1 hv1 => KxA (m1.below hv1 (m1.lt (by omega))) (56 * i + 56) (x := ndsX l) (fun jq hjq => Fx.flat_at (k := i + 1) (by omega) hjq)) (Qcl (v := Ki6 (cmp3 (ndA l i).id (ndA l (i + 1)).id)) (by rfl) (fun v1 hv1 => Fx.r_clo (args := [.agg (varr 56 (ndZ (ndA l i))), .agg (varr 56 (ndZ (ndA l (i + 1))))]) rfl rfl rfl (all := #[.agg (varr 56 (ndZ (ndA l i))), .agg (varr 56 (ndZ (ndA l (i + 1))))]) rfl Try.func22 rfl rfl) rfl (fun v1 hv1 => (s_byId (ndA l i) (ndA l (i + 1)) _).mono fun e v2 h => ⟨h.1, bch hv1 h.2⟩) ?_))))))
  by_cases c23 : 0 ≤ (cmp3 (ndA l i).id (ndA l (i + 1)).id)
  ·refine Qv KbT (fun v1 hv1 => KgeT c23) (Qn ?_)
   intro wb1 hbwb1
   have b2 := KTk1 hbwb1 b1
   refine sN (KWcT (KWsl (KLq KbF (KLe (Wr (blkR (sR (lpR (blkR (sR (Kret KbF ?_)))))))))))
   exact ⟨KrB (Eq.symm (riseN_no (fun h => (by have q9 := h i (by omega); first | exact absurd c23 (cmp_lt.2 q9) | exact absurd c23 (cmpG_lt.2 q9))))), b2⟩
  refine Qv KbF (fun v1 hv1 => KgeF c23) (Qn ?_)
  intro wb2 hbwb2
  have b3 := KTk1 hbwb2 b1
  refine sN (KWcF (Wk (blkN (sN (Wl (KLh h3 (Lv (Ki6 ((i : Int) + 2)) KxP (KLq (Ki6 ((i : Int) + 2)) (Ln (lpN ⟨i + 1, (by omega), (all_step hall (cmp_lt.1 c23)), h1, h2, Fx.ic, b3⟩ ?_))))))))))
  show (l.length - (intOf ((Ki6 ((i : Int) + 2)))).toNat) < _
  simp only [h3, intOf]; omega
 refine Lv KbF (KltF c9) (KLe (KWcF (Wx (seqX (lpX (blkX (sN (KWsl (KLq KbT (KLe (Wr (Kret KbT ?_))))))))))))
 exact ⟨KrB (Eq.symm (riseN_yes (fun k hk => hall k (by omega)))), b1⟩
theorem s_riseG (a : Option Addr) (c : Nat) (l : List GrM) (w : World) (hl : l.length ≤ 1000000) (hn : Arr w a l.length 5 (grsX l)) :
    Calls Try.prog 38 #[.slice a (l.length) (c), .func (.func 25) #[] #[]] w fun e w' => e = .returned (.bool (riseG l)) ∧ Below w.heap.size w w' := by
 refine Kent Try.func38 24 ?_
 refine KWsl (KLq KbF (KLe (Ws (KWsl (KLq (Ki6 1) (KLe (Wb (Wo (fun f w_ => ∃ i : Nat, i ≤ l.length ∧ (∀ k, k < i → grLt (grA l k) (grA l (k + 1))) ∧ f 0 = .slice a (l.length) (c) ∧ f 1 = .func (.func 25) #[] #[] ∧ f 5 = Ki6 ((i : Int) + 1) ∧ Below w.heap.size w w_) (fun f _ => (l.length - (intOf (f 5)).toNat)) ⟨0, (Nat.zero_le _), (fun k h => absurd h (by omega)), (by rfl), (by rfl), Fx.ic, (Below.refl w.heap.size w)⟩ ?_))))))))
 rintro f1 w1 ⟨i, hi, hall, h1, h2, h3, b1⟩
 refine Ws (KWsl (KLh h3 (KLh h1 (KLq (Ki6 l.length) ?_))))
 by_cases c9 : ((i : Int) + 1) < (l.length : Int)
 ·refine Lv KbT (KltT c9) (KLe (KWcT (Wk (sN (Ws (Wb (Ws ?_)))))))
  -- region 4 draws
  refine KWqb (KQh h2 (KQh h1 (KQh h3 (Qv (Ki6 i) (fun v1 hv1 => KxM) ?_))))
  obtain ⟨bq1, oq1, eq1, m1⟩ := (hn.up b1 rfl) (by omega)
  have lbq1 : bq1 < w1.heap.size := m1.lt (by omega)
  refine Qv ((pf bq1 (5 * i + oq1))) (fun v1 hv1 => Kxi 5 (hx := (rfl.trans (congrArg (fun q => Value.slice q (l.length) (c)) eq1)))) (Qv (.agg (varr 5 (grZ (grA l i)))) (fun v1 hv1 => KxA (m1.below hv1 (m1.lt (by omega))) (5 * i) (x := grsX l) (fun jq hjq => Fx.flat_at (k := i) (by omega) hjq)) (KQh h1 (KQh h3 (Qv ((pf bq1 (5 * i + oq1 + 5))) (fun v1 hv1 => Kxi 5 (hx := (rfl.trans (congrArg (fun q => Value.slice q (l.length) (c)) eq1)))) (Qv (.agg (varr 5 (grZ (grA l (i + 1))))) (fun v1 hv1 => KxA (m1.below hv1 (m1.lt (by omega))) (5 * i + 5) (x := grsX l) (fun jq hjq => Fx.flat_at (k := i + 1) (by omega) hjq)) (Qcl (v := Ki6 (cmpG (grA l i) (grA l (i + 1)))) (by rfl) (fun v1 hv1 => Fx.r_clo (args := [.agg (varr 5 (grZ (grA l i))), .agg (varr 5 (grZ (grA l (i + 1))))]) rfl rfl rfl (all := #[.agg (varr 5 (grZ (grA l i))), .agg (varr 5 (grZ (grA l (i + 1))))]) rfl Try.func25 rfl rfl) rfl (fun v1 hv1 => (s_byReq (grA l i) (grA l (i + 1)) _).mono fun e v2 h => ⟨h.1, bch hv1 h.2⟩) ?_))))))
  by_cases c23 : 0 ≤ (cmpG (grA l i) (grA l (i + 1)))
  ·refine Qv KbT (fun v1 hv1 => KgeT c23) (Qn ?_)
   intro wb1 hbwb1
   have b2 := KTk1 hbwb1 b1
   refine sN (KWcT (KWsl (KLq KbF (KLe (Wr (blkR (sR (lpR (blkR (sR (Kret KbF ?_)))))))))))
   exact ⟨KrB (Eq.symm (riseG_no (fun h => (by have q9 := h i (by omega); first | exact absurd c23 (cmp_lt.2 q9) | exact absurd c23 (cmpG_lt.2 q9))))), b2⟩
  refine Qv KbF (fun v1 hv1 => KgeF c23) (Qn ?_)
  intro wb2 hbwb2
  have b3 := KTk1 hbwb2 b1
  refine sN (KWcF (Wk (blkN (sN (Wl (KLh h3 (Lv (Ki6 ((i : Int) + 2)) KxP (KLq (Ki6 ((i : Int) + 2)) (Ln (lpN ⟨i + 1, (by omega), (all_step hall (cmpG_lt.1 c23)), h1, h2, Fx.ic, b3⟩ ?_))))))))))
  show (l.length - (intOf ((Ki6 ((i : Int) + 2)))).toNat) < _
  simp only [h3, intOf]; omega
 refine Lv KbF (KltF c9) (KLe (KWcF (Wx (seqX (lpX (blkX (sN (KWsl (KLq KbT (KLe (Wr (Kret KbT ?_))))))))))))
 exact ⟨KrB (Eq.symm (riseG_yes (fun k hk => hall k (by omega)))), b1⟩
set_option linter.unusedVariables false
namespace Rt
def RiseP (l : List NdM) : Prop := ∀ k, k + 1 < l.length → (ndA l k).id < (ndA l (k + 1)).id
theorem rise_lt {l : List NdM} (h : RiseP l) : ∀ {j i : Nat}, i < j → j < l.length → (ndA l i).id < (ndA l j).id
  | 0, _, h1, _ => absurd h1 (Nat.not_lt_zero _)
  | j + 1, i, h1, h2 => by
    have h3 := h j h2
    by_cases e : i = j
    · rw [e]; exact h3
    · have := rise_lt h (show i < j by omega) (by omega); omega
theorem rise_inj {l : List NdM} (h : RiseP l) {i j : Nat} (hi : i < l.length) (hj : j < l.length) (e : (ndA l i).id = (ndA l j).id) : i = j := by
  rcases Nat.lt_trichotomy i j with c | c | c
  · have := rise_lt h c hj; omega
  · exact c
  have := rise_lt h c hi; omega
theorem nodeI_at {l : List NdM} (h : RiseP l) {j : Nat} {x : Int} (hj : j < l.length) (e : (ndA l j).id = x) : nodeI l x = (j : Int) := by
  unfold nodeI
  rcases firstI_spec (fun i => decide ((ndA l i).id = x)) l.length with ⟨k, hk, ek, hp⟩ | ⟨_, hn⟩
  · rw [ek, rise_inj h hk hj ((of_decide_eq_true hp).trans e.symm)]
  have := hn j hj; rw [decide_eq_true e] at this; cases this
theorem nodeI_no {l : List NdM} {x : Int} (h : ∀ i, i < l.length → (ndA l i).id ≠ x) : nodeI l x = -1 := by
  unfold nodeI; exact firstI_none fun i hi => decide_eq_false (h i hi)
theorem nodeI_ge {l : List NdM} {x : Int} (h : 0 ≤ nodeI l x) : ∃ j, j < l.length ∧ nodeI l x = (j : Int) ∧ (ndA l j).id = x := by
  unfold nodeI at h ⊢
  rcases firstI_spec (fun i => decide ((ndA l i).id = x)) l.length with ⟨k, hk, ek, hp⟩ | ⟨en, _⟩
  · exact ⟨k, hk, ek, of_decide_eq_true hp⟩
  rw [en] at h; exact absurd h (by decide)
theorem putI_same {α : Type} {f : Nat → α} {i : Nat} : ∀ q, q < i + 1 → putI f i (f i) q = f q := fun q _ => by
  unfold putI; split
  · rename_i e; rw [e]
  · rfl
theorem ends_0 {l : List NdM} {f : Nat} {x : Int} (h : x = 0) : endsN l (f + 1) x = true := if_pos h
theorem ends_n {l : List NdM} {f : Nat} {x : Int} (h : x ≠ 0) (hn : nodeI l x < 0) : endsN l (f + 1) x = false := by
  unfold endsN; rw [if_neg h, if_pos hn]
theorem ends_y {l : List NdM} {f j : Nat} {x : Int} (h : x ≠ 0) (hn : nodeI l x = (j : Int)) : endsN l (f + 1) x = endsN l f (ndA l j).par := by
  show (if x = 0 then true else if nodeI l x < 0 then false else endsN l f (ndA l (nodeI l x).toNat).par) = _
  rw [if_neg h, if_neg (by omega), hn]; rfl
open Classical in
noncomputable def grNo (l : List NdM) (g : GrM) : Bool := decide (¬ GrOk l g)
open Classical in
theorem grNo_y {l : List NdM} {g : GrM} (h : ¬ GrOk l g) : grNo l g = true := decide_eq_true h
open Classical in
theorem grNo_n {l : List NdM} {g : GrM} (h : GrOk l g) : grNo l g = false := decide_eq_false fun q => q h
end Rt
theorem s_parents (m : SnM) (na : Option Addr) (nc : Nat) (ga : Option Addr) (gc : Nat) (w : World) (hl : m.ns.length ≤ 1000000) (hr : RiseP m.ns) (hn : Arr w na m.ns.length 56 (ndsX m.ns)) :
    Calls Try.prog 39 #[.agg (varr 20 (stY (stS m na nc ga gc)))] w fun e w' => ∃ b, e = .returned (.map (some b)) ∧ Mp w' b m.ns.length (fun q => (ndA m.ns q).id) (fun q => Value.int .u64 (ndA m.ns q).par) ∧ w.heap.size ≤ b ∧ Below w.heap.size w w' := by
 refine Kent Try.func39 21 ?_
 refine KWsl (KLb fun g1 w1 eg1 m1 s1 z1 => ?_)
 have b1 := KTk1 s1.old (Below.refl w.heap.size w)
 have lg1 := KGk0 eg1
 have tg1 := m1.lt
 refine KLq ((.map none)) (KLe (KWsl (Fx.L.mkmap (by rfl) rfl rfl fun g2 w2 eg2 m2 s2 z2 => ?_)))
 have ⟨m3, b2⟩ := KTk2 s2.old m1 b1
 have lg2 := KGk eg2 b1.size
 have ng2m3 := KNk1 eg2 m1.lt
 have tg2 := m2.lt
 refine KLq (.map (some g2)) (KLe (Ws (KWsl (KLq ((pf g1 18)) (Lv (.slice na (m.ns.length) (nc)) (Kxl m3.cel 18) (KLq (Ki6 m.ns.length) (KLq (Ki6 0) (KLe (Wb ?_)))))))))
 have m4 : Mp w2 g2 0 (fun q => (ndA m.ns q).id) (fun q => Value.int .u64 (ndA m.ns q).par) := m2.cong (fun q h => absurd h (Nat.not_lt_zero _))
 refine Wo (fun f w_ => ∃ i : Nat, i ≤ m.ns.length ∧ f 3 = .map (some g2) ∧ f 8 = .slice na (m.ns.length) (nc) ∧ f 9 = Ki6 ((m.ns.length : Int)) ∧ f 10 = Ki6 ((i : Int)) ∧ Mp w_ g2 i (fun q => (ndA m.ns q).id) (fun q => Value.int .u64 (ndA m.ns q).par) ∧ Blk w_ g1 20 (stY (stS m na nc ga gc)) 29 ∧ Below w.heap.size w w_) (fun f _ => (m.ns.length - (intOf (f 10)).toNat)) ⟨0, Nat.zero_le _, (by rfl), (by rfl), Fx.ic, Fx.ic, m4, m3, b2⟩ ?_
 rintro f1 w3 ⟨i, hi, h1, h2, h3, h4, m5, m6, b3⟩
 refine KWsl ?_
 by_cases c11 : (i : Int) < (m.ns.length : Int)
 ·refine Lv KbT (KltT c11 (hx := h4) (hy := h3)) (KLe (Ws (KWcT (Wk (sN (Ws (Wb (KWsl ?_))))))))
  obtain ⟨bq1, oq1, eq1, m7⟩ := (hn.up b3 rfl) (by omega)
  have lbq1 : bq1 < w3.heap.size := m7.lt (by omega)
  refine Lv ((pf bq1 (56 * i + oq1))) (Kxi 56 (hx := (h2.trans (congrArg (fun q => Value.slice q (m.ns.length) (nc)) eq1))) (hi := h4)) (Lv (.agg (varr 56 (ndZ (ndA m.ns i)))) (KxA m7 (56 * i) (fun jq hjq => Fx.flat_at (k := i) (by omega) hjq)) (KLw 56 (fun i => (#[Ku6 0, Ku6 0, Ki6 0, Ki6 0, Ki6 0, Ki6 0, Ki6 0, Ki6 0, Ki6 0, Ki6 0, Ki6 0, Ki6 0, Ki6 0, Ki6 0, Ki6 0, Ki6 0, Ki6 0, Ki6 0, Ki6 0, Ki6 0, Ki6 0, Ki6 0, Ki6 0, Ki6 0, Ki6 0, Ki6 0, Ki6 0, Ki6 0, Ki6 0, Ki6 0, Ki6 0, Ki6 0, Ki6 0, Ki6 0, Ki6 0, Ki6 0, Ki6 0, Ki6 0, Ki6 0, Ki6 0, Ki6 0, Ki6 0, Ki6 0, Ki6 0, Ki6 0, Ki6 0, Ki6 0, Ki6 0, Ki6 0, Ki6 0, Ki6 0, Ki6 0, Ki6 0, Ki6 0, Ki6 0, Ki6 0] : Array Value).getD i undef) fun g3 w4 eg3 m8 s3 z3 => ?_))
  have ⟨m9, m10, m11, b4⟩ := KTk4 s3.old m5 m6 m7 b3
  have lg3 := KGk eg3 b3.size
  have ⟨ng3m9, ng3m10⟩ := KNk2 eg3 m5.lt m6.lt
  have ng3m11 : bq1 ≠ g3 := by rw [eg3]; exact Nat.ne_of_lt (m7.lt (by omega))
  have tg3 := m8.lt
  refine KLsA m8 0 (h1 := (fun j _ => ndZ_one _ j)) fun w5 m12 s4 z4 => ?_
  have m13 : Blk w5 g3 56 (ndZ (ndA m.ns i)) 50 := ovr_all m12
  have hct1 := cOs s4 m8.ty
  have ⟨m14, m15⟩ := KCk2 hct1 m9 m10
  have m16 := m11.stp s4 (by omega)
  have b5 := s4.below b4 b4.size (by omega)
  refine KLe ?_
  have hn0 : ∀ q, q < i → (fun q => (ndA m.ns q).id) q ≠ (ndA m.ns i).id := fun q hq e => by have q9 := rise_lt hr hq (show i < m.ns.length by omega); have e : (ndA m.ns q).id = (ndA m.ns i).id := e; omega
  refine Wl (KLh h1 (KLq ((pt g3)) (Lv (Ku6 ((ndA m.ns i).id)) (Kxl m13.cel 0) (KLq ((pf g3 1)) (Lv (Ku6 ((ndA m.ns i).par)) (Kxl m13.cel 1) (Fx.L.mupN (by rfl) rfl rfl rfl rfl rfl m14 Try.underlying83 Try.underlying23 hn0 fun w6 m17 s5 z5 => ?_))))))
  have hcm1 := m14.chm s5
  have m18 := m15.chM hcm1
  have m19 := m13.chM hcm1
  have b6 := s5.below b5 b5.size (by omega)
  have m21 : Mp w6 g2 (i + 1) (putI (fun q => (ndA m.ns q).id) i ((ndA m.ns i).id)) (putI (fun q => Value.int .u64 (ndA m.ns q).par) i (Value.int .u64 (ndA m.ns i).par)) := m17
  have m20 : Mp w6 g2 (i + 1) (fun q => (ndA m.ns q).id) (fun q => Value.int .u64 (ndA m.ns q).par) := m21.cong (fun q hq => ⟨putI_same (f := (fun q => (ndA m.ns q).id)) q hq, putI_same (f := (fun q => Value.int .u64 (ndA m.ns q).par)) q hq⟩)
  refine Ln (blkN (sN (Wl (Lv (Ki6 ((i : Int) + 1)) (KxP (hx := h4)) (KLq (Ki6 ((i : Int) + 1)) (Ln (lpN ⟨i + 1, by omega, h1, h2, (h3.trans Fx.ic), Fx.ic, m20, m18, b6⟩ ?_)))))))
  show (m.ns.length - (intOf ((Ki6 ((i : Int) + 1)))).toNat) < _
  simp only [h4, intOf]; omega
 refine Lv KbF (KltF c11 (hx := h4) (hy := h3)) (KLe (Ws (KWcF (Wx (seqX (lpX (blkX (sN (KWsl (KLh h1 (KLq (.map (some g2)) (KLe (Wr (Kret (.map (some g2)) ?_))))))))))))))
 have ei : i = m.ns.length := by omega
 exact ⟨g2, rfl, by rw [← ei]; exact m5, by omega, b3⟩
set_option maxRecDepth 20000 in
theorem s_ends (mb : Nat) (l : List NdM) (x : Int) (w : World) (hr : RiseP l) (hm : Mp w mb l.length (fun q => (ndA l q).id) (fun q => Value.int .u64 (ndA l q).par)) :
    Calls Try.prog 41 #[.map (some mb), Ku6 x] w fun e w' => e = .returned (.bool (endsN l 33 x)) ∧ Below w.heap.size w w' := by
 obtain ⟨N, hN⟩ : ∃ q, q = 33 := ⟨_, rfl⟩
 refine Kent Try.func41 21 ?_
 refine KWsl (KLq KbF (KLe (Ws (KWsl (KLq (Ki6 0) (KLe (Wb (Wo (fun f w_ => ∃ j : Nat, ∃ y : Int, j ≤ 33 ∧ endsN l N x = endsN l (N - j) y ∧ f 0 = .map (some mb) ∧ f 1 = Ku6 y ∧ f 7 = Ki6 ((j : Int)) ∧ Mp w_ mb l.length (fun q => (ndA l q).id) (fun q => Value.int .u64 (ndA l q).par) ∧ Below w.heap.size w w_) (fun f _ => (33 - (intOf (f 7)).toNat)) ⟨0, x, by omega, (by rw [Nat.sub_zero]), (by rfl), Fx.ic, Fx.ic, hm, (Below.refl w.heap.size w)⟩ ?_))))))))
 rintro f1 w1 ⟨j, y, hj, hy, h1, h2, h3, m1, b1⟩
 refine KWsl ?_
 by_cases c8 : (j : Int) < 33
 ·refine Lv KbT (KltT c8 (hx := h3)) (KLe (Ws (KWcT (Wk (sN (Ws (Wb (Ws (Ws ?_)))))))))
  obtain ⟨f9, hf9⟩ : ∃ f, N - j = f + 1 := ⟨32 - j, by omega⟩
  have hsj : N - (j + 1) = f9 := by omega
  refine Wl (KLh h2 ?_)
  by_cases c10 : y = 0
  ·refine Lv KbT (KeqT c10) (KLe (KWcT (KWsl (KLq KbT (KLe (Wr (sR (blkR (sR (lpR (blkR (sR (Kret KbT ?_)))))))))))))
   exact ⟨by rw [← hN, hy, hf9, ends_0 c10], b1⟩
  refine Lv KbF (KeqF c10) (KLe (KWcF (Wk (sN (KWsl (KLh h1 (KLh h2 ?_)))))))
  rcases Fx.look_cases (fun q => (ndA l q).id) l.length y with ⟨jlk1, hjlk1, ejlk1⟩ | hnlk1
  ·refine Lv (.tuple #[Ku6 ((ndA l jlk1).par), .bool true]) (Fx.x_look2Y (z := Ku6 0) rfl rfl rfl m1 Try.underlying83 Try.underlying23 (by rfl) hjlk1 ejlk1 rfl) (KLq (.tuple #[Ku6 ((ndA l jlk1).par), .bool true]) (KLq (Ku6 ((ndA l jlk1).par)) (KLq KbT (KLq (Ku6 ((ndA l jlk1).par)) (KLq KbT (KLe (Ws (KWsl (KLq KbT (KLq KbF (KLe (KWcF (Wk (sN (Wl (KLq (Ku6 ((ndA l jlk1).par)) (KLq (Ku6 ((ndA l jlk1).par)) (Ln (blkN (sN (Wl (Lv (Ki6 ((j : Int) + 1)) (KxP (hx := h3)) (KLq (Ki6 ((j : Int) + 1)) (Ln (lpN ⟨j + 1, (ndA l jlk1).par, by omega, (hy.trans (by rw [hf9, hsj]; exact ends_y c10 (nodeI_at hr hjlk1 ejlk1))), h1, Fx.ic, Fx.ic, m1, b1⟩ ?_)))))))))))))))))))))))))
   show (33 - (intOf ((Ki6 ((j : Int) + 1)))).toNat) < _
   simp only [h3, intOf]; omega
  refine Lv (.tuple #[Ku6 0, .bool false]) (Fx.x_look2N (z := Ku6 0) rfl rfl rfl m1 Try.underlying83 Try.underlying23 (by rfl) hnlk1) (KLq (.tuple #[Ku6 0, .bool false]) (KLq (Ku6 0) (KLq KbF (KLq (Ku6 0) (KLq KbF (KLe (Ws (KWsl (KLq KbF (KLq KbT (KLe (KWcT (KWsl (KLq KbF (KLe (Wr (sR (blkR (sR (lpR (blkR (sR (Kret KbF ?_)))))))))))))))))))))))
  exact ⟨by rw [← hN, hy, hf9, ends_n c10 (by rw [nodeI_no hnlk1]; decide)], b1⟩
 refine Lv KbF (KltF c8 (hx := h3)) (KLe (Ws (KWcF (Wx (seqX (lpX (blkX (sN (KWsl (KLq KbF (KLe (Wr (Kret KbF ?_)))))))))))))
 exact ⟨by rw [← hN, hy, show N - j = 0 by omega]; rfl, b1⟩
set_option linter.unusedVariables false
namespace Rt
def hasNo (l : List NdM) (gs : List GrM) : Prop := 0 ≤ firstI (fun q => grNo l (grA gs q)) gs.length
open Classical in
noncomputable def hasNoB (l : List NdM) (gs : List GrM) : Bool := decide (hasNo l gs)
open Classical in
theorem hasNo_y {l : List NdM} {gs : List GrM} (h : 0 ≤ firstI (fun q => grNo l (grA gs q)) gs.length) : hasNoB l gs = true := decide_eq_true h
open Classical in
theorem hasNo_n {l : List NdM} {gs : List GrM} (h : ¬ 0 ≤ firstI (fun q => grNo l (grA gs q)) gs.length) : hasNoB l gs = false := decide_eq_false h
open Classical in
theorem grNo_ok {l : List NdM} {g : GrM} (h : grNo l g = false) : GrOk l g := Classical.byContradiction fun q => of_decide_eq_false h q
open Classical in
theorem hasNo_all {l : List NdM} {gs : List GrM} (h : hasNoB l gs = false) : ∀ k, k < gs.length → GrOk l (grA gs k) := fun k hk => by
  have h : ¬ hasNo l gs := of_decide_eq_false h
  rcases firstI_spec (fun q => grNo l (grA gs q)) gs.length with ⟨j, hj, e, _⟩ | ⟨_, hn⟩
  · exact absurd (show (0 : Int) ≤ _ by rw [e]; omega) h
  · exact grNo_ok (hn k hk)
open Classical in
theorem hasNo_ex {l : List NdM} {gs : List GrM} (h : hasNoB l gs = true) : ¬ ∀ k, k < gs.length → GrOk l (grA gs k) := fun hall => by
  have h : hasNo l gs := of_decide_eq_true h
  rcases firstI_spec (fun q => grNo l (grA gs q)) gs.length with ⟨j, hj, e, hp⟩ | ⟨e, _⟩
  · exact of_decide_eq_true hp (hall j hj)
  · unfold hasNo at h; rw [e] at h; exact absurd h (by decide)
open Classical in
theorem mayS_y {m : SnM} (h : MayP m) : mayS m = true := decide_eq_true h
open Classical in
theorem mayS_n {m : SnM} (h : ¬ MayP m) : mayS m = false := decide_eq_false h
open Classical in
theorem mayS_iff {m : SnM} : mayS m = true ↔ MayP m := decide_eq_true_iff
theorem riseN_p {l : List NdM} (h : riseN l = true) : RiseP l := Classical.byContradiction fun q => by rw [riseN_no q] at h; cases h
theorem riseN_q {l : List NdM} (h : riseN l = false) : ¬ RiseP l := fun q => by rw [riseN_yes q] at h; cases h
theorem riseG_p {l : List GrM} (h : riseG l = true) : ∀ k, k + 1 < l.length → grLt (grA l k) (grA l (k + 1)) := Classical.byContradiction fun q => by rw [riseG_no q] at h; cases h
theorem riseG_q {l : List GrM} (h : riseG l = false) : ¬ ∀ k, k + 1 < l.length → grLt (grA l k) (grA l (k + 1)) := fun q => by rw [riseG_yes q] at h; cases h
theorem kn_p {K : Nat → Int} (h : mayV6 K = true) : ∀ i, i < 6 → K i ≤ 1099511627776 := of_decide_eq_true h
theorem kn_q {K : Nat → Int} (h : mayV6 K = false) : ¬ ∀ i, i < 6 → K i ≤ 1099511627776 := of_decide_eq_false h
end Rt
set_option maxRecDepth 20000 in
theorem s_may1 (mb gm : Nat) (l : List NdM) (g : GrM) (w : World) (hr : RiseP l) (hg : Blk w gm 1 (fun _ => .map (some mb)) 83) (hm : Mp w mb l.length (fun q => (ndA l q).id) (fun q => Value.int .u64 (ndA l q).par)) :
    Calls Try.prog 43 #[.agg (varr 5 (grZ g)), (pt gm)] w fun e w' => e = .returned (.bool (grNo l g)) ∧ Below w.heap.size w w' := by
 have lgm := hg.lt
 have lmb := hm.lt
 refine Kent Try.func43 47 ?_
 refine KWsl (KLb fun g1 w1 eg1 m1 s1 z1 => ?_)
 have ⟨m2, m3, b1⟩ := KTk3 s1.old hg hm (Below.refl w.heap.size w)
 have lg1 := KGk0 eg1
 have ⟨ng1m2, ng1m3⟩ := KNk2 eg1 hg.lt hm.lt
 have tg1 := m1.lt
 refine KLq KbF (KLe (KWsl (Lv (.map (some mb)) (Kxl m2.cel 0) (KLq ((pf g1 2)) (Lv (Ku6 g.n) (Kxl m1.cel 2) ?_)))))
 rcases Fx.look_cases (fun q => (ndA l q).id) l.length g.n with ⟨jlk1, hjlk1, ejlk1⟩ | hnlk1
 ·refine Lv (.tuple #[Ku6 ((ndA l jlk1).par), .bool true]) (Fx.x_look2Y (z := Ku6 0) rfl rfl rfl m3 Try.underlying83 Try.underlying23 (by rfl) hjlk1 ejlk1 rfl) (KLq (.tuple #[Ku6 ((ndA l jlk1).par), .bool true]) (KLq (Ku6 ((ndA l jlk1).par)) (KLq KbT (KLq (Ku6 ((ndA l jlk1).par)) (KLq KbT (KLe (KWsl (KLq ((pt g1)) (Lv (Ki6 g.o) (Kxl m1.cel 0) ?_)))))))))
  by_cases c15 : g.o < 1
  ·refine Lv KbT (KltT c15) (KLq KbT (KLu (KLu (KLu (KLq KbT (KLq KbT (KLu (KLu (KLu (KLq KbT (KLq KbT (KLu (KLu (KLq KbT (KLq KbT (KLu (KLu (KLu (KLq KbT (KLq KbT (KLu (KLu (KLu (KLq KbT ?_))))))))))))))))))))))))
   refine KLq KbT (KLu (KLu (KLu (KLu (KLu (KLq KbT (KLq KbT (KLe (Wr (Kret KbT ?_))))))))))
   exact ⟨KrB (Eq.symm (grNo_y (fun h => by obtain ⟨a1, a2, a3, a4, a5, a6, a7⟩ := h; first | omega | exact a3 c24 | exact a7 c45 | (rw [nodeI_no hnlk1] at a4; omega)))), b1⟩
  refine Lv KbF (KltF c15) (KLq KbF (KLq ((pt g1)) (Lv (Ki6 g.o) (Kxl m1.cel 0) ?_)))
  by_cases c19 : 6 < g.o
  ·refine Lv KbT (KgtT c19) (KLq KbT (KLq KbT (KLu (KLu (KLu (KLq KbT (KLq KbT (KLu (KLu (KLq KbT (KLq KbT (KLu (KLu (KLu (KLq KbT (KLq KbT (KLu (KLu (KLu (KLq KbT (KLq KbT (KLu (KLu (KLu ?_))))))))))))))))))))))))
   refine KLu (KLu (KLq KbT (KLq KbT (KLe (Wr (Kret KbT ?_))))))
   exact ⟨KrB (Eq.symm (grNo_y (fun h => by obtain ⟨a1, a2, a3, a4, a5, a6, a7⟩ := h; first | omega | exact a3 c24 | exact a7 c45 | (rw [nodeI_no hnlk1] at a4; omega)))), b1⟩
  refine Lv KbF (KgtF c19) (KLq KbF (KLq KbF (KLq ((pf g1 1)) (Lv (Ku6 g.r) (Kxl m1.cel 1) ?_))))
  by_cases c24 : g.r = 0
  ·refine Lv KbT (KeqT c24) (KLq KbT (KLq KbT (KLu (KLu (KLq KbT (KLq KbT (KLu (KLu (KLu (KLq KbT (KLq KbT (KLu (KLu (KLu (KLq KbT (KLq KbT (KLu (KLu (KLu (KLu (KLu (KLq KbT (KLq KbT (KLe (Wr (Kret KbT ?_))))))))))))))))))))))))))
   exact ⟨KrB (Eq.symm (grNo_y (fun h => by obtain ⟨a1, a2, a3, a4, a5, a6, a7⟩ := h; first | omega | exact a3 c24 | exact a7 c45 | (rw [nodeI_no hnlk1] at a4; omega)))), b1⟩
  refine Lv KbF (KeqF c24) (KLq KbF (KLq KbF (KLq KbT (KLq KbF (KLq KbF (KLq KbF (KLq ((pf g1 3)) (Lv (Ki6 g.a) (Kxl m1.cel 3) ?_))))))))
  by_cases c33 : g.a < 1
  ·refine Lv KbT (KltT c33) (KLq KbT (KLq KbT (KLu (KLu (KLu (KLq KbT (KLq KbT (KLu (KLu (KLu (KLu (KLu (KLq KbT (KLq KbT (KLe (Wr (Kret KbT ?_)))))))))))))))))
   exact ⟨KrB (Eq.symm (grNo_y (fun h => by obtain ⟨a1, a2, a3, a4, a5, a6, a7⟩ := h; first | omega | exact a3 c24 | exact a7 c45 | (rw [nodeI_no hnlk1] at a4; omega)))), b1⟩
  refine Lv KbF (KltF c33) (KLq KbF (KLq KbF (KLq ((pf g1 3)) (Lv (Ki6 g.a) (Kxl m1.cel 3) ?_))))
  by_cases c38 : 1125899906842624 < g.a
  ·refine Lv KbT (KgtT c38) (KLq KbT (KLq KbT (KLu (KLu (KLu (KLu (KLu (KLq KbT (KLq KbT (KLe (Wr (Kret KbT ?_))))))))))))
   exact ⟨KrB (Eq.symm (grNo_y (fun h => by obtain ⟨a1, a2, a3, a4, a5, a6, a7⟩ := h; first | omega | exact a3 c24 | exact a7 c45 | (rw [nodeI_no hnlk1] at a4; omega)))), b1⟩
  refine Lv KbF (KgtF c38) (KLq KbF (KLq KbF (KLq ((pf g1 4)) (Lv (Ku6 g.b) (Kxl m1.cel 4) (KLq ((pf g1 1)) (Lv (Ku6 g.r) (Kxl m1.cel 1) ?_))))))
  by_cases c45 : g.b = g.r
  ·refine Lv KbT (KeqT c45) (KLq KbT (KLq KbT (KLe (Wr (Kret KbT ?_)))))
   exact ⟨KrB (Eq.symm (grNo_y (fun h => by obtain ⟨a1, a2, a3, a4, a5, a6, a7⟩ := h; first | omega | exact a3 c24 | exact a7 c45 | (rw [nodeI_no hnlk1] at a4; omega)))), b1⟩
  refine Lv KbF (KeqF c45) (KLq KbF (KLq KbF (KLe (Wr (Kret KbF ?_)))))
  exact ⟨KrB (Eq.symm (grNo_n ⟨by omega, by omega, c24, by rw [nodeI_at hr hjlk1 ejlk1]; omega, by omega, by omega, c45⟩)), b1⟩
 refine Lv (.tuple #[Ku6 0, .bool false]) (Fx.x_look2N (z := Ku6 0) rfl rfl rfl m3 Try.underlying83 Try.underlying23 (by rfl) hnlk1) (KLq (.tuple #[Ku6 0, .bool false]) (KLq (Ku6 0) (KLq KbF (KLq (Ku6 0) (KLq KbF (KLe (KWsl (KLq ((pt g1)) (Lv (Ki6 g.o) (Kxl m1.cel 0) ?_)))))))))
 by_cases c15 : g.o < 1
 ·refine Lv KbT (KltT c15) (KLq KbT (KLu (KLu (KLu (KLq KbT (KLq KbT (KLu (KLu (KLu (KLq KbT (KLq KbT (KLu (KLu (KLq KbT (KLq KbT (KLu (KLu (KLu (KLq KbT (KLq KbT (KLu (KLu (KLu (KLq KbT ?_))))))))))))))))))))))))
  refine KLq KbT (KLu (KLu (KLu (KLu (KLu (KLq KbT (KLq KbT (KLe (Wr (Kret KbT ?_))))))))))
  exact ⟨KrB (Eq.symm (grNo_y (fun h => by obtain ⟨a1, a2, a3, a4, a5, a6, a7⟩ := h; first | omega | exact a3 c24 | exact a7 c45 | (rw [nodeI_no hnlk1] at a4; omega)))), b1⟩
 refine Lv KbF (KltF c15) (KLq KbF (KLq ((pt g1)) (Lv (Ki6 g.o) (Kxl m1.cel 0) ?_)))
 by_cases c19 : 6 < g.o
 ·refine Lv KbT (KgtT c19) (KLq KbT (KLq KbT (KLu (KLu (KLu (KLq KbT (KLq KbT (KLu (KLu (KLq KbT (KLq KbT (KLu (KLu (KLu (KLq KbT (KLq KbT (KLu (KLu (KLu (KLq KbT (KLq KbT (KLu (KLu (KLu ?_))))))))))))))))))))))))
  refine KLu (KLu (KLq KbT (KLq KbT (KLe (Wr (Kret KbT ?_))))))
  exact ⟨KrB (Eq.symm (grNo_y (fun h => by obtain ⟨a1, a2, a3, a4, a5, a6, a7⟩ := h; first | omega | exact a3 c24 | exact a7 c45 | (rw [nodeI_no hnlk1] at a4; omega)))), b1⟩
 refine Lv KbF (KgtF c19) (KLq KbF (KLq KbF (KLq ((pf g1 1)) (Lv (Ku6 g.r) (Kxl m1.cel 1) ?_))))
 by_cases c24 : g.r = 0
 ·refine Lv KbT (KeqT c24) (KLq KbT (KLq KbT (KLu (KLu (KLq KbT (KLq KbT (KLu (KLu (KLu (KLq KbT (KLq KbT (KLu (KLu (KLu (KLq KbT (KLq KbT (KLu (KLu (KLu (KLu (KLu (KLq KbT (KLq KbT (KLe (Wr (Kret KbT ?_))))))))))))))))))))))))))
  exact ⟨KrB (Eq.symm (grNo_y (fun h => by obtain ⟨a1, a2, a3, a4, a5, a6, a7⟩ := h; first | omega | exact a3 c24 | exact a7 c45 | (rw [nodeI_no hnlk1] at a4; omega)))), b1⟩
 refine Lv KbF (KeqF c24) (KLq KbF (KLq KbF (KLq KbF (KLq KbT (KLq KbT (KLq KbT (KLu (KLu (KLu (KLq KbT (KLq KbT (KLu (KLu (KLu (KLq KbT (KLq KbT (KLu (KLu (KLu (KLu (KLu (KLq KbT (KLq KbT (KLe (Wr (Kret KbT ?_))))))))))))))))))))))))))
 exact ⟨KrB (Eq.symm (grNo_y (fun h => by obtain ⟨a1, a2, a3, a4, a5, a6, a7⟩ := h; first | omega | exact a3 c24 | exact a7 c45 | (rw [nodeI_no hnlk1] at a4; omega)))), b1⟩
theorem s_ixg (mb gm : Nat) (l : List NdM) (gs : List GrM) (a : Option Addr) (c : Nat) (w : World) (hl : gs.length ≤ 1000000) (ha : Arr w a gs.length 5 (grsX gs)) (hr : RiseP l) (hg : Blk w gm 1 (fun _ => .map (some mb)) 83) (hm : Mp w mb l.length (fun q => (ndA l q).id) (fun q => Value.int .u64 (ndA l q).par)) :
    Calls Try.prog 71 #[.slice a (gs.length) (c), .func (.func 43) #[] #[(pt gm)]] w fun e w' => e = .returned (Ki6 (firstI (fun q => grNo l (grA gs q)) gs.length)) ∧ Below w.heap.size w w' := by
 have lgm := hg.lt
 have lmb := hm.lt
 refine Kent Try.func71 19 ?_
 refine KWsl (KLq (Ki6 0) (KLe (Ws (KWsl (KLq (.slice a (gs.length) (c)) (KLq (Ki6 gs.length) (KLq (Ki6 0) (KLe (Wb (Wo (fun f w_ => ∃ k : Nat, k ≤ gs.length ∧ (∀ p, p < k → (fun p => grNo l (grA gs p)) p = false) ∧ f 0 = .slice a (gs.length) (c) ∧ f 1 = .func (.func 43) #[] #[(pt gm)] ∧ f 7 = Ki6 ((gs.length : Int)) ∧ f 8 = Ki6 ((k : Int)) ∧ Blk w_ gm 1 (fun _ => .map (some mb)) 83 ∧ Mp w_ mb l.length (fun q => (ndA l q).id) (fun q => Value.int .u64 (ndA l q).par) ∧ Below w.heap.size w w_) (fun f _ => (gs.length - (intOf (f 8)).toNat)) ⟨0, Nat.zero_le _, (fun p h => absurd h (by omega)), (by rfl), (by rfl), Fx.ic, Fx.ic, hg, hm, (Below.refl w.heap.size w)⟩ ?_))))))))))
 rintro f1 w1 ⟨k, hk, hall, h1, h2, h3, h4, m1, m2, b1⟩
 refine KWsl ?_
 by_cases c9 : (k : Int) < (gs.length : Int)
 ·refine Lv KbT (KltT c9 (hx := h4) (hy := h3)) (KLe (Ws (KWcT (Wk (sN (Ws (Wb (KWsl (KLh h4 (KLq (Ki6 k) (KLe (KWsl (KLh h2 (KLh h1 (KLq (Ki6 k) ?_)))))))))))))))
  obtain ⟨bq1, oq1, eq1, m3⟩ := (ha.up b1 rfl) (by omega)
  have lbq1 : bq1 < w1.heap.size := m3.lt (by omega)
  refine Lv ((pf bq1 (5 * k + oq1))) (Kxi 5 (hx := (rfl.trans (congrArg (fun q => Value.slice q (gs.length) (c)) eq1)))) (Lv (.agg (varr 5 (grZ (grA gs k)))) (KxA m3 (5 * k) (fun jq hjq => Fx.flat_at (k := k) (by omega) hjq)) ?_)
  by_cases c16 : (grNo l (grA gs k)) = true
  ·refine Lcl (by rfl) (Fx.r_clo (args := [.agg (varr 5 (grZ (grA gs k)))]) rfl rfl rfl (all := #[.agg (varr 5 (grZ (grA gs k))), (pt gm)]) rfl Try.func43 rfl rfl) rfl (((s_may1 mb gm l (grA gs k) _ hr m1 m2).mono (fun e w2 h2 => (⟨h2.1, h2.2⟩ : e = .returned (.bool (grNo l (grA gs k))) ∧ _))).mono ?_)
   rintro e w2 ⟨he, hb1⟩
   refine ⟨.bool true, by rw [he, c16], ?_⟩
   clear he
   have b2 := KTk1 hb1 b1
   refine KLe (KWcT (KWsl (KLq (Ki6 k) (KLq (Ki6 k) (KLe (Wr (blkR (sR (lpR (blkR (sR (Kret (Ki6 k) ?_))))))))))))
   exact ⟨KrI (Eq.symm (firstI_hit hall c16 (by omega))), b2⟩
  rw [Bool.not_eq_true] at c16
  refine Lcl (by rfl) (Fx.r_clo (args := [.agg (varr 5 (grZ (grA gs k)))]) rfl rfl rfl (all := #[.agg (varr 5 (grZ (grA gs k))), (pt gm)]) rfl Try.func43 rfl rfl) rfl (((s_may1 mb gm l (grA gs k) _ hr m1 m2).mono (fun e w2 h2 => (⟨h2.1, h2.2⟩ : e = .returned (.bool (grNo l (grA gs k))) ∧ _))).mono ?_)
  rintro e w3 ⟨he, hb2⟩
  refine ⟨.bool false, by rw [he, c16], ?_⟩
  clear he
  have ⟨m7, m8, b3⟩ := KTk3 hb2 m1 m2 b1
  refine KLe (KWcF (Wk (blkN (sN (Wl (Lv (Ki6 ((k : Int) + 1)) (KxP (hx := h4)) (KLq (Ki6 ((k : Int) + 1)) (Ln (lpN ⟨k + 1, by omega, (all_step hall (by simpa using c16)), h1, h2, (h3.trans Fx.ic), Fx.ic, m7, m8, b3⟩ ?_)))))))))
  show (gs.length - (intOf ((Ki6 ((k : Int) + 1)))).toNat) < _
  simp only [h4, intOf]; omega
 refine Lv KbF (KltF c9 (hx := h4) (hy := h3)) (KLe (Ws (KWcF (Wx (seqX (lpX (blkX (sN (KWsl (KLq (Ki6 (-1)) (KLe (Wr (Kret (Ki6 (-1)) ?_)))))))))))))
 exact ⟨KrI (Eq.symm (firstI_none (fun p hp => hall p (by omega)))), b1⟩
theorem s_ctg (mb gm : Nat) (l : List NdM) (gs : List GrM) (a : Option Addr) (c : Nat) (w : World) (hl : gs.length ≤ 1000000) (ha : Arr w a gs.length 5 (grsX gs)) (hr : RiseP l) (hg : Blk w gm 1 (fun _ => .map (some mb)) 83) (hm : Mp w mb l.length (fun q => (ndA l q).id) (fun q => Value.int .u64 (ndA l q).par)) :
    Calls Try.prog 42 #[.slice a (gs.length) (c), .func (.func 43) #[] #[(pt gm)]] w fun e w' => e = .returned (.bool (hasNoB l gs)) ∧ Below w.heap.size w w' := by
 have lgm := hg.lt
 have lmb := hm.lt
 refine Kent Try.func42 9 ?_
 refine KWsl (KLq KbF (KLe (KWsl (KLq (.slice a (gs.length) (c)) (KLq (.func (.func 43) #[] #[(pt gm)]) (KLc1 (s_ixg mb gm l gs a c _ hl (ha.up (Below.refl w.heap.size w) rfl) hr hg hm) _ rfl ?_))))))
 intro w1 hb1
 have b1 := KTk1 hb1 (Below.refl w.heap.size w)
 by_cases c8 : 0 ≤ (firstI (fun q => grNo l (grA gs q)) gs.length)
 ·refine Lv KbT (KgeT c8) (KLq KbT (KLe (Wr (Kret KbT ?_))))
  exact ⟨KrB (Eq.symm (hasNo_y c8)), b1⟩
 refine Lv KbF (KgeF c8) (KLq KbF (KLe (Wr (Kret KbF ?_))))
 exact ⟨KrB (Eq.symm (hasNo_n c8)), b1⟩
set_option maxRecDepth 20000 in
theorem s_may (m : SnM) (na : Option Addr) (nc : Nat) (ga : Option Addr) (gc : Nat) (w : World) (hK : Kr m.known) (hl1 : m.ns.length ≤ 1000000) (hl2 : m.gs.length ≤ 1000000) (hn : Arr w na m.ns.length 56 (ndsX m.ns)) (hg : Arr w ga m.gs.length 5 (grsX m.gs)) :
    Calls Try.prog 12 #[.agg (varr 20 (stY (stS m na nc ga gc)))] w fun e w' => e = .returned (.bool (mayS m)) ∧ Below w.heap.size w w' := by
 refine Kent Try.func12 82 ?_
 refine KWsl (KLb fun g1 w1 eg1 m1 s1 z1 => ?_)
 have b1 := KTk1 s1.old (Below.refl w.heap.size w)
 have lg1 := KGk0 eg1
 have tg1 := m1.lt
 refine KLq KbF (KLe (Ws (KWsl (KLq ((pf g1 12)) (Lv (.agg (varr 6 (rv .u64 m.known))) (KxA m1.cel 12 (fun j hj => stY_known (p := j) _ hj (by omega))) ?_)))))
 by_cases c10 : (mayV6 m.known) = true
 ·refine KLc1 (v_mayv m.known _ hK) KbT (by rw [c10]) ?_
  intro w2 hb1
  have ⟨m2, b2⟩ := KTk2 hb1 m1 b1
  refine KLq KbF (KLq KbF (KLq ((pf g1 18)) (Lv (.slice na (m.ns.length) (nc)) (Kxl m2.cel 18) (KLq (Ki6 m.ns.length) ?_))))
  by_cases c16 : 32 < (m.ns.length : Int)
  ·refine Lv KbT (KgtT c16) (KLq KbT (KLq KbT (KLu (KLu (KLu (KLu (KLq KbT (KLq KbT (KLu (KLu (KLu (KLu (KLq KbT (KLq KbT (KLu (KLu (KLu (KLu (KLq KbT (KLe (KWcT (KWsl (KLq KbF (KLe (Wr (sR (Kret KbF ?_)))))))))))))))))))))))))))
   exact ⟨KrB (Eq.symm (mayS_n (fun h => by have := h.nn; omega))), b2⟩
  refine Lv KbF (KgtF c16) (KLq KbF (KLq KbF (KLq ((pf g1 19)) (Lv (.slice ga (m.gs.length) (gc)) (Kxl m2.cel 19) (KLq (Ki6 m.gs.length) ?_)))))
  by_cases c22 : 4096 < (m.gs.length : Int)
  ·refine Lv KbT (KgtT c22) (KLq KbT (KLq KbT (KLu (KLu (KLu (KLu (KLq KbT (KLq KbT (KLu (KLu (KLu (KLu (KLq KbT (KLe (KWcT (KWsl (KLq KbF (KLe (Wr (sR (Kret KbF ?_)))))))))))))))))))))
   exact ⟨KrB (Eq.symm (mayS_n (fun h => by have := h.gn; omega))), b2⟩
  refine Lv KbF (KgtF c22) (KLq KbF (KLq KbF (KLq ((pf g1 18)) (Lv (.slice na (m.ns.length) (nc)) (Kxl m2.cel 18) ?_))))
  by_cases c27 : (riseN m.ns) = true
  ·refine KLc1 (s_riseN na nc m.ns _ hl1 (hn.up b2 rfl)) KbT (by rw [c27]) ?_
   intro w3 hb2
   have ⟨m3, b3⟩ := KTk2 hb2 m2 b2
   refine KLq KbF (KLq KbF (KLq KbF (KLq ((pf g1 19)) (Lv (.slice ga (m.gs.length) (gc)) (Kxl m3.cel 19) ?_))))
   by_cases c33 : (riseG m.gs) = true
   ·refine KLc1 (s_riseG ga gc m.gs _ hl2 (hg.up b3 rfl)) KbT (by rw [c33]) ?_
    intro w4 hb3
    have ⟨m4, b4⟩ := KTk2 hb3 m3 b3
    refine KLq KbF (KLq KbF (KLe (KWcF (Wk (sN (Ws (Ws ?_)))))))
    have hrp := riseN_p c27
    refine Wl (KLq ((pf g1 6)) (Lv (.agg (varr 6 (fun j => .bool (m.left j)))) (KxA m4.cel 6 (fun j hj => stY_left (p := j) _ hj (by omega))) (KLq (Ki6 0) (KLe (Wb (Wo (fun f w_ => ∃ i : Nat, i ≤ 6 ∧ (∀ q, q < i → m.left q = true → m.inn q = true) ∧ f 1 = (pt g1) ∧ f 37 = .agg (varr 6 (fun j => .bool (m.left j))) ∧ f 38 = Ki6 ((i : Int)) ∧ Blk w_ g1 20 (stY (stS m na nc ga gc)) 29 ∧ Below w.heap.size w w_) (fun f _ => (6 - (intOf (f 38)).toNat)) ⟨0, by omega, (fun q h => absurd h (by omega)), (by rfl), (by rfl), Fx.ic, m4, b4⟩ ?_))))))
    rintro f1 w5 ⟨i, hi, hli, h1, h2, h3, m5, b5⟩
    refine KWsl ?_
    by_cases c39 : (i : Int) < 6
    ·refine Lv KbT (KltT c39 (hx := h3)) (KLe (Ws (KWcT (Wk (sN (Ws (Wb (KWsl (KLh h3 ?_)))))))))
     by_cases c41 : (m.left i) = true
     ·refine Lv KbT (Fx.x_indexV (j := i) (y := fun j => .bool (m.left j)) rfl h2 h3 Try.underlying22 (by kernel_rfl) (by kernel_rfl) (by omega) ((show _ = Value.bool (m.left i) from rfl).trans (congrArg Value.bool c41))) (KLq (Ki6 i) (KLq KbT (KLe (KWsl (KLq KbT (KLq KbT (KLq (Ki6 i) (Lv ((pt g1)) (Kxf h1 0) (Lv ((pf g1 i)) (Kxj 6 1) ?_)))))))))
      by_cases c47 : (m.inn i) = true
      ·refine Lv KbT (Kxl m5.cel i ((stY_in _ (by omega)).trans (congrArg Value.bool c47))) (KLq KbF (KLq KbF (KLe (KWcF (Wk (blkN (sN (Wl (Lv (Ki6 ((i : Int) + 1)) (KxP (hx := h3)) (KLq (Ki6 ((i : Int) + 1)) (Ln (lpN ⟨i + 1, by omega, (all_step hli (fun _ => c47)), h1, h2, Fx.ic, m5, b5⟩ ?_))))))))))))
       show (6 - (intOf ((Ki6 ((i : Int) + 1)))).toNat) < _
       simp only [h3, intOf]; omega
      rw [Bool.not_eq_true] at c47
      refine Lv KbF (Kxl m5.cel i ((stY_in _ (by omega)).trans (congrArg Value.bool c47))) (KLq KbT (KLq KbT (KLe (KWcT (KWsl (KLq KbF (KLe (Wr (blkR (sR (lpR (blkR (sR (Kret KbF ?_))))))))))))))
      exact ⟨KrB (Eq.symm (mayS_n (fun h => by have := h.li i (by omega) c41; rw [c47] at this; cases this))), b5⟩
     rw [Bool.not_eq_true] at c41
     refine Lv KbF (Fx.x_indexV (j := i) (y := fun j => .bool (m.left j)) rfl h2 h3 Try.underlying22 (by kernel_rfl) (by kernel_rfl) (by omega) ((show _ = Value.bool (m.left i) from rfl).trans (congrArg Value.bool c41))) (KLq (Ki6 i) (KLq KbF (KLe (KWsl (KLq KbF (KLq KbF (KLu (KLu (KLu (KLu (KLu (KLq KbF (KLe (KWcF (Wk (blkN (sN (Wl (Lv (Ki6 ((i : Int) + 1)) (KxP (hx := h3)) (KLq (Ki6 ((i : Int) + 1)) (Ln (lpN ⟨i + 1, by omega, (all_step hli (fun h => by rw [c41] at h; cases h)), h1, h2, Fx.ic, m5, b5⟩ ?_))))))))))))))))))))))
     show (6 - (intOf ((Ki6 ((i : Int) + 1)))).toNat) < _
     simp only [h3, intOf]; omega
    refine Lv KbF (KltF c39 (hx := h3)) (KLe (Ws (KWcF (Wx (seqX (lpX (blkX (sN (KWsl (Lv (.agg (varr 20 (stY (stS m na nc ga gc)))) (KxA m5.cel 0 (ha := h1)) (KLc (s_parents m na nc ga gc _ hl1 hrp (hn.up b5 rfl)) ?_)))))))))))
    rintro e9 w6 ⟨mb, he, hmp1, hmb9, hb4⟩
    refine ⟨_, he, ?_⟩
    clear he
    have lmb9 : w.heap.size ≤ mb := Nat.le_trans b5.size hmb9
    have nmbm5 : g1 ≠ mb := Nat.ne_of_lt (Nat.lt_of_lt_of_le m5.lt hmb9)
    have ⟨m6, b6⟩ := KTk2 hb4 m5 b5
    refine KLw 1 (fun _ => .map none) fun g2 w7 eg2 m7 s6 z2 => ?_
    have ⟨m8, m9, b7⟩ := KTk3 s6.old m6 hmp1 b6
    have lg2 := KGk eg2 b6.size
    have ⟨ng2m8, ng2m9⟩ := KNk2 eg2 m6.lt hmp1.lt
    have tg2 := m7.lt
    refine KLs m7 0 (.map (some mb)) fun w8 m10 s7 z3 => ?_
    have m11 : Blk w8 g2 1 (fun _ => .map (some mb)) 83 := upd_all m10
    have hct1 := cOs s7 m7.ty
    have ⟨m12, m13⟩ := KCk2 hct1 m8 m9
    have b8 := s7.below b7 b7.size (by omega)
    refine KLe (Ws (KWsl (Lv ((pf g1 18)) (Kxf h1 18) (Lv (.slice na (m.ns.length) (nc)) (Kxl m12.cel 18) (KLq (Ki6 m.ns.length) (KLq (Ki6 0) (KLe (Wb (Wo (fun f w_ => ∃ i : Nat, i ≤ m.ns.length ∧ (∀ q, q < i → NdOk m.ns q) ∧ f 1 = (pt g1) ∧ f 5 = (pt g2) ∧ f 54 = .slice na (m.ns.length) (nc) ∧ f 55 = Ki6 ((m.ns.length : Int)) ∧ f 56 = Ki6 ((i : Int)) ∧ Blk w_ g1 20 (stY (stS m na nc ga gc)) 29 ∧ Mp w_ mb m.ns.length (fun q => (ndA m.ns q).id) (fun q => Value.int .u64 (ndA m.ns q).par) ∧ Blk w_ g2 1 (fun _ => .map (some mb)) 83 ∧ Below w.heap.size w w_) (fun f _ => (m.ns.length - (intOf (f 56)).toNat)) ⟨0, Nat.zero_le _, (fun q h => absurd h (by omega)), h1, (by rfl), (by rfl), Fx.ic, Fx.ic, m12, m13, m11, b8⟩ ?_)))))))))
    rintro f2 w9 ⟨i, hi, hnd, h4, h5, h6, h7, h8, m14, m15, m16, b9⟩
    refine KWsl ?_
    by_cases c57 : (i : Int) < (m.ns.length : Int)
    ·refine Lv KbT (KltT c57 (hx := h8) (hy := h7)) (KLe (Ws (KWcT (Wk (sN (Ws (Wb (KWsl ?_))))))))
     obtain ⟨bq1, oq1, eq1, m17⟩ := (hn.up b9 rfl) (by omega)
     have lbq1 : bq1 < w9.heap.size := m17.lt (by omega)
     refine Lv ((pf bq1 (56 * i + oq1))) (Kxi 56 (hx := (h6.trans (congrArg (fun q => Value.slice q (m.ns.length) (nc)) eq1))) (hi := h8)) (Lv (.agg (varr 56 (ndZ (ndA m.ns i)))) (KxA m17 (56 * i) (fun jq hjq => Fx.flat_at (k := i) (by omega) hjq)) (KLw 56 (fun i => (#[Ku6 0, Ku6 0, Ki6 0, Ki6 0, Ki6 0, Ki6 0, Ki6 0, Ki6 0, Ki6 0, Ki6 0, Ki6 0, Ki6 0, Ki6 0, Ki6 0, Ki6 0, Ki6 0, Ki6 0, Ki6 0, Ki6 0, Ki6 0, Ki6 0, Ki6 0, Ki6 0, Ki6 0, Ki6 0, Ki6 0, Ki6 0, Ki6 0, Ki6 0, Ki6 0, Ki6 0, Ki6 0, Ki6 0, Ki6 0, Ki6 0, Ki6 0, Ki6 0, Ki6 0, Ki6 0, Ki6 0, Ki6 0, Ki6 0, Ki6 0, Ki6 0, Ki6 0, Ki6 0, Ki6 0, Ki6 0, Ki6 0, Ki6 0, Ki6 0, Ki6 0, Ki6 0, Ki6 0, Ki6 0, Ki6 0] : Array Value).getD i undef) fun g3 w10 eg3 m18 s8 z4 => ?_))
     have ⟨m19, m20, m21, m22, b10⟩ := KTk5 s8.old m14 m15 m16 m17 b9
     have lg3 := KGk eg3 b9.size
     have ⟨ng3m19, ng3m20, ng3m21⟩ := KNk3 eg3 m14.lt m15.lt m16.lt
     have ng3m22 : bq1 ≠ g3 := by rw [eg3]; exact Nat.ne_of_lt (m17.lt (by omega))
     have tg3 := m18.lt
     refine KLsA m18 0 (h1 := (fun j _ => ndZ_one _ j)) fun w11 m23 s9 z5 => ?_
     have m24 : Blk w11 g3 56 (ndZ (ndA m.ns i)) 50 := ovr_all m23
     have hct2 := cOs s9 m18.ty
     have ⟨m25, m26, m27⟩ := KCk3 hct2 m19 m20 m21
     have m28 := m22.stp s9 (by omega)
     have b11 := s9.below b10 b10.size (by omega)
     refine KLe (KWsl (KLq ((pt g3)) (Lv (Ku6 ((ndA m.ns i).id)) (Kxl m24.cel 0) ?_)))
     by_cases c62 : ((ndA m.ns i).id) = 0
     ·refine Lv KbT (KeqT c62) (KLq KbT (KLu (KLu (KLu (KLu (KLq KbT (KLq KbT (KLu (KLu (KLu (KLu (KLu (KLq KbT (KLe (KWcT (KWsl (KLq KbF (KLe (Wr (blkR (sR (lpR (blkR (sR (Kret KbF ?_)))))))))))))))))))))))))
      exact ⟨KrB (Eq.symm (mayS_n (fun h => (h.nd i (by omega)).1 c62))), b11⟩
     refine Lv KbF (KeqF c62) (KLq KbF (KLq ((pf g3 2)) (Lv (.agg (varr 54 (rv .i64 ((ndA m.ns i).R)))) (KxA m24.cel 2 (fun q _ => ndY_row _ _ _ q)) ?_)))
     by_cases c66 : (may (ndA m.ns i).R) = true
     ·refine KLc1 (may_any (ndA m.ns i).R _) KbT (by rw [c66]) ?_
      intro w12 hb5
      have ⟨m29, m30, m31, m33, b12⟩ := KTk5 hb5 m25 m26 m27 m24 b11
      refine KLq KbF (KLq KbF (KLq KbF (Lv (.map (some mb)) (Kxl m31.cel 0 (ha := h5)) (KLq ((pt g3)) (Lv (Ku6 ((ndA m.ns i).id)) (Kxl m33.cel 0) ?_)))))
      by_cases c73 : (endsN m.ns 33 (ndA m.ns i).id) = true
      ·refine KLc1 (s_ends mb m.ns (ndA m.ns i).id _ hrp m30) KbT (by rw [c73]) ?_
       intro w13 hb6
       have ⟨m34, m35, m36, b13⟩ := KTk4 hb6 m29 m30 m31 b12
       refine KLq KbF (KLq KbF (KLe (KWcF (Wk (blkN (sN (Wl (Lv (Ki6 ((i : Int) + 1)) (KxP (hx := h8)) (KLq (Ki6 ((i : Int) + 1)) (Ln (lpN ⟨i + 1, by omega, (all_step hnd ⟨c62, c66, c73⟩), h4, h5, h6, (h7.trans Fx.ic), Fx.ic, m34, m35, m36, b13⟩ ?_)))))))))))
       show (m.ns.length - (intOf ((Ki6 ((i : Int) + 1)))).toNat) < _
       simp only [h8, intOf]; omega
      rw [Bool.not_eq_true] at c73
      refine KLc1 (s_ends mb m.ns (ndA m.ns i).id _ hrp m30) KbF (by rw [c73]) ?_
      intro w14 hb7
      have b14 := KTk1 hb7 b12
      refine KLq KbT (KLq KbT (KLe (KWcT (KWsl (KLq KbF (KLe (Wr (blkR (sR (lpR (blkR (sR (Kret KbF ?_)))))))))))))
      exact ⟨KrB (Eq.symm (mayS_n (fun h => by have := (h.nd i (by omega)).2.2; rw [c73] at this; cases this))), b14⟩
     rw [Bool.not_eq_true] at c66
     refine KLc1 (may_any (ndA m.ns i).R _) KbF (by rw [c66]) ?_
     intro w15 hb8
     have b15 := KTk1 hb8 b11
     refine KLq KbT (KLq KbT (KLq KbT (KLu (KLu (KLu (KLu (KLu (KLq KbT (KLe (KWcT (KWsl (KLq KbF (KLe (Wr (blkR (sR (lpR (blkR (sR (Kret KbF ?_))))))))))))))))))))
     exact ⟨KrB (Eq.symm (mayS_n (fun h => by have := (h.nd i (by omega)).2.1; rw [c66] at this; cases this))), b15⟩
    refine Lv KbF (KltF c57 (hx := h8) (hy := h7)) (KLe (Ws (KWcF (Wx (seqX (lpX (blkX (sN (KWsl (Lv ((pf g1 19)) (Kxf h4 19) (Lv (.slice ga (m.gs.length) (gc)) (Kxl m14.cel 19) (Lv (.func (.func 43) #[] #[(pt g2)]) (Fx.x_func (us := []) (vs := [(pt g2)]) rfl rfl (Fx.args1 h5)) ?_))))))))))))
    by_cases c80 : (hasNoB m.ns m.gs) = true
    ·refine KLc1 (s_ctg mb g2 m.ns m.gs ga gc _ hl2 (hg.up b9 rfl) hrp m16 m15) KbT (by rw [c80]) ?_
     intro w16 hb9
     have b16 := KTk1 hb9 b9
     refine KLq KbF (KLq KbF (KLe (Wr (Kret KbF ?_))))
     exact ⟨KrB (Eq.symm (mayS_n (fun h => hasNo_ex c80 h.gd))), b16⟩
    rw [Bool.not_eq_true] at c80
    refine KLc1 (s_ctg mb g2 m.ns m.gs ga gc _ hl2 (hg.up b9 rfl) hrp m16 m15) KbF (by rw [c80]) ?_
    intro w17 hb10
    have b17 := KTk1 hb10 b9
    refine KLq KbT (KLq KbT (KLe (Wr (Kret KbT ?_))))
    exact ⟨KrB (Eq.symm (mayS_y ⟨kn_p c10, by omega, by omega, hrp, riseG_p c33, fun q hq => hli q (by omega), fun q hq => hnd q (by omega), hasNo_all c80⟩)), b17⟩
   rw [Bool.not_eq_true] at c33
   refine KLc1 (s_riseG ga gc m.gs _ hl2 (hg.up b3 rfl)) KbF (by rw [c33]) ?_
   intro w18 hb11
   have b18 := KTk1 hb11 b3
   refine KLq KbT (KLq KbT (KLe (KWcT (KWsl (KLq KbF (KLe (Wr (sR (Kret KbF ?_)))))))))
   exact ⟨KrB (Eq.symm (mayS_n (fun h => riseG_q c33 h.gr))), b18⟩
  rw [Bool.not_eq_true] at c27
  refine KLc1 (s_riseN na nc m.ns _ hl1 (hn.up b2 rfl)) KbF (by rw [c27]) ?_
  intro w19 hb12
  have b19 := KTk1 hb12 b2
  refine KLq KbT (KLq KbT (KLq KbT (KLu (KLu (KLu (KLu (KLq KbT (KLe (KWcT (KWsl (KLq KbF (KLe (Wr (sR (Kret KbF ?_)))))))))))))))
  exact ⟨KrB (Eq.symm (mayS_n (fun h => riseN_q c27 h.nr))), b19⟩
 rw [Bool.not_eq_true] at c10
 refine KLc1 (v_mayv m.known _ hK) KbF (by rw [c10]) ?_
 intro w20 hb13
 have b20 := KTk1 hb13 b1
 refine KLq KbT (KLq KbT (KLu (KLu (KLu (KLu (KLq KbT (KLq KbT (KLu (KLu (KLu (KLu (KLq KbT (KLq KbT (KLu (KLu (KLu (KLu (KLq KbT (KLq KbT (KLu (KLu (KLu (KLu (KLq KbT ?_))))))))))))))))))))))))
 refine KLe (KWcT (KWsl (KLq KbF (KLe (Wr (sR (Kret KbF ?_)))))))
 exact ⟨KrB (Eq.symm (mayS_n (fun h => kn_q c10 h.kn))), b20⟩
set_option linter.unusedVariables false
namespace Rt
theorem ndZ_join {x y : NdM} : ∀ j, j < 56 → ovr (ndZ x) 2 54 (rv .i64 (joinM x.R y.R)) j = ndZ (ndJ x y) j := fun j hj => by
  unfold ovr ndZ ndJ ndY rv
  by_cases h0 : j = 0
  · subst h0; rfl
  · by_cases h1 : j = 1
    · subst h1; rfl
    · rw [if_pos (by omega)]; simp [h0, h1]
theorem grZ_join {x y : GrM} : ∀ j, j < 5 → updV (grZ x) 4 (Ku6 (mxI x.b y.b)) j = grZ (grJ x y) j := fun j hj => by
  rcases j with _|_|_|_|_|j
  all_goals first | rfl | omega
theorem bad_min {a b : Int} (ha : 0 ≤ a) (hb : 0 ≤ b) : (if b < a then b else a) = 0 ↔ a = 0 ∨ b = 0 := by split <;> omega
end Rt
theorem s_node (x y : NdM) (w : World) :
    Calls Try.prog 23 #[.agg (varr 56 (ndZ x)), .agg (varr 56 (ndZ y))] w fun e w' => e = .returned (.tuple #[.agg (varr 56 (ndZ (if x.par = y.par then ndJ x y else x))), Ki6 (if x.par = y.par then 0 else 9)]) ∧ Below w.heap.size w w' := by
 refine Kent Try.func23 19 ?_
 refine KWsl (KLb fun g1 w1 eg1 m1 s1 z1 => ?_)
 have b1 := KTk1 s1.old (Below.refl w.heap.size w)
 have lg1 := KGk0 eg1
 have tg1 := m1.lt
 refine KLb fun g2 w2 eg2 m2 s2 z2 => ?_
 have ⟨m3, b2⟩ := KTk2 s2.old m1 b1
 have lg2 := KGk eg2 b1.size
 have ng2m3 := KNk1 eg2 m1.lt
 have tg2 := m2.lt
 refine KLw 56 (fun i => (#[Ku6 0, Ku6 0, Ki6 0, Ki6 0, Ki6 0, Ki6 0, Ki6 0, Ki6 0, Ki6 0, Ki6 0, Ki6 0, Ki6 0, Ki6 0, Ki6 0, Ki6 0, Ki6 0, Ki6 0, Ki6 0, Ki6 0, Ki6 0, Ki6 0, Ki6 0, Ki6 0, Ki6 0, Ki6 0, Ki6 0, Ki6 0, Ki6 0, Ki6 0, Ki6 0, Ki6 0, Ki6 0, Ki6 0, Ki6 0, Ki6 0, Ki6 0, Ki6 0, Ki6 0, Ki6 0, Ki6 0, Ki6 0, Ki6 0, Ki6 0, Ki6 0, Ki6 0, Ki6 0, Ki6 0, Ki6 0, Ki6 0, Ki6 0, Ki6 0, Ki6 0, Ki6 0, Ki6 0, Ki6 0, Ki6 0] : Array Value).getD i undef) fun g3 w3 eg3 m4 s3 z3 => ?_
 have ⟨m5, m6, b3⟩ := KTk3 s3.old m3 m2 b2
 have lg3 := KGk eg3 b2.size
 have ⟨ng3m5, ng3m6⟩ := KNk2 eg3 m3.lt m2.lt
 have tg3 := m4.lt
 refine KLq (Ki6 0) (KLe (Ws (KWsl (KLq ((pf g1 1)) (Lv (Ku6 x.par) (Kxl m5.cel 1) (KLq ((pf g2 1)) (Lv (Ku6 y.par) (Kxl m6.cel 1) ?_)))))))
 by_cases c10 : x.par = y.par
 ·refine Lv KbF (KneF c10) (KLe (KWcF (Wk (sN (KWsl (KLq ((pf g1 2)) (Lv (.agg (varr 54 (rv .i64 x.R))) (KxA m5.cel 2 (fun q _ => ndY_row _ _ _ q)) (KLq ((pf g2 2)) (Lv (.agg (varr 54 (rv .i64 y.R))) (KxA m6.cel 2 (fun q _ => ndY_row _ _ _ q)) (KLc1 ((join_any x.R y.R _).mono (fun e w2 h2 => (⟨h2.1, h2.2⟩ : e = .returned (.agg (varr 54 (rv .i64 (joinM x.R y.R)))) ∧ Below _ _ w2))) _ rfl ?_))))))))))
  intro w4 hb1
  have ⟨m7, m8, m9, b4⟩ := KTk4 hb1 m5 m6 m4 b3
  refine KLq ((pf g1 2)) (KLsA m7 2 fun w5 m10 s5 z4 => ?_)
  have m11 : Blk w5 g1 56 (ndZ (ndJ x y)) 50 := m10.congr ndZ_join
  have m12 := m8.stp s5 (by omega)
  have m13 := m9.stp s5 (by omega)
  have b5 := s5.below b4 b4.size (by omega)
  refine KLe (KWsl (Lv (.agg (varr 56 (ndZ (ndJ x y)))) (KxA m11.cel 0) (KLsA m13 0 (h1 := (fun j _ => ndZ_one _ j)) fun w6 m14 s6 z5 => ?_)))
  have m15 : Blk w6 g3 56 (ndZ (ndJ x y)) 50 := ovr_all m14
  have m16 := m12.stp s6 (by omega)
  have m17 := m11.stp s6 (by omega)
  have b6 := s6.below b5 b5.size (by omega)
  refine KLq (Ki6 0) (KLe (Wr (⟨.tuple #[.agg (varr 56 (ndZ (ndJ x y))), Ki6 0], retV2 Try.results23 ⟨_, rfl, run_loadV m15.cel (by kernel_rfl) (by kernel_rfl)⟩ (by exact rfl), ?_⟩)))
  exact ⟨by simp only [if_pos c10], b6⟩
 refine Lv KbT (KneT c10) (KLe (KWcT (KWsl (Lv (.agg (varr 56 (ndZ x))) (KxA m5.cel 0) (KLsA m4 0 (h1 := (fun j _ => ndZ_one _ j)) fun w7 m18 s7 z6 => ?_)))))
 have m19 : Blk w7 g3 56 (ndZ x) 50 := ovr_all m18
 have m20 := m5.stp s7 (by omega)
 have m21 := m6.stp s7 (by omega)
 have b7 := s7.below b3 b3.size (by omega)
 refine KLq (Ki6 9) (KLe (Wr (sR (⟨.tuple #[.agg (varr 56 (ndZ x)), Ki6 9], retV2 Try.results23 ⟨_, rfl, run_loadV m19.cel (by kernel_rfl) (by kernel_rfl)⟩ (by exact rfl), ?_⟩))))
 exact ⟨by simp only [if_neg c10], b7⟩
theorem s_grant (x y : GrM) (w : World) (hx : 0 ≤ x.b) (hy : 0 ≤ y.b) :
    Calls Try.prog 26 #[.agg (varr 5 (grZ x)), .agg (varr 5 (grZ y))] w fun e w' => e = .returned (.tuple #[.agg (varr 5 (grZ (if GrBad x y then x else grJ x y))), Ki6 (if GrBad x y then 14 else 0)]) ∧ Below w.heap.size w w' := by
 refine Kent Try.func26 43 ?_
 refine KWsl (KLb fun g1 w1 eg1 m1 s1 z1 => ?_)
 have b1 := KTk1 s1.old (Below.refl w.heap.size w)
 have lg1 := KGk0 eg1
 have tg1 := m1.lt
 refine KLb fun g2 w2 eg2 m2 s2 z2 => ?_
 have ⟨m3, b2⟩ := KTk2 s2.old m1 b1
 have lg2 := KGk eg2 b1.size
 have ng2m3 := KNk1 eg2 m1.lt
 have tg2 := m2.lt
 refine KLw 5 (fun i => (#[Ki6 0, Ku6 0, Ku6 0, Ki6 0, Ku6 0] : Array Value).getD i undef) fun g3 w3 eg3 m4 s3 z3 => ?_
 have ⟨m5, m6, b3⟩ := KTk3 s3.old m3 m2 b2
 have lg3 := KGk eg3 b2.size
 have ⟨ng3m5, ng3m6⟩ := KNk2 eg3 m3.lt m2.lt
 have tg3 := m4.lt
 refine KLq (Ki6 0) (KLe (KWsl (KLq ((pf g1 4)) (Lv (Ku6 x.b) (Kxl m5.cel 4) (KLq ((pf g2 4)) (Lv (Ku6 y.b) (Kxl m6.cel 4) (Lv (Ku6 (if y.b > x.b then y.b else x.b)) (Fx.x_max rfl rfl rfl) (KLq (Ku6 (if y.b > x.b then y.b else x.b)) (KLe (Ws (KWsl (KLq ((pf g1 2)) (Lv (Ku6 x.n) (Kxl m5.cel 2) (KLq ((pf g2 2)) (Lv (Ku6 y.n) (Kxl m6.cel 2) ?_)))))))))))))))
 by_cases c16 : x.n = y.n
 ·refine Lv KbF (KneF c16) (KLq KbF (KLq ((pf g1 3)) (Lv (Ki6 x.a) (Kxl m5.cel 3) (KLq ((pf g2 3)) (Lv (Ki6 y.a) (Kxl m6.cel 3) ?_)))))
  by_cases c22 : x.a = y.a
  ·refine Lv KbF (KneF c22) (KLq KbF (KLq KbF (KLq ((pf g1 4)) (Lv (Ku6 x.b) (Kxl m5.cel 4) (KLq ((pf g2 4)) (Lv (Ku6 y.b) (Kxl m6.cel 4) (Lv (Ku6 (if y.b < x.b then y.b else x.b)) (Fx.x_min rfl rfl rfl) ?_)))))))
   by_cases c30 : (if y.b < x.b then y.b else x.b) = 0
   ·refine Lv KbF (KneF c30) (KLq KbF (KLu (KLu (KLu (KLu (KLu (KLq KbF (KLq KbF (KLe (KWcF (Wk (sN (KWsl (KLq (Ku6 (if y.b > x.b then y.b else x.b)) (KLq ((pf g1 4)) (KLs m5 4 (Ku6 (if y.b > x.b then y.b else x.b)) fun w4 m7 s4 z4 => ?_))))))))))))))))
    have m8 : Blk w4 g1 5 (grZ (grJ x y)) 59 := m7.congr grZ_join
    have m9 := m6.stp s4 (by omega)
    have m10 := m4.stp s4 (by omega)
    have b4 := s4.below b3 b3.size (by omega)
    refine KLe (KWsl (Lv (.agg (varr 5 (grZ (grJ x y)))) (KxA m8.cel 0) (KLsA m10 0 (h1 := (fun j _ => grZ_one _ j)) fun w5 m11 s5 z5 => ?_)))
    have m12 : Blk w5 g3 5 (grZ (grJ x y)) 59 := ovr_all m11
    have m13 := m9.stp s5 (by omega)
    have m14 := m8.stp s5 (by omega)
    have b5 := s5.below b4 b4.size (by omega)
    refine KLq (Ki6 0) (KLe (Wr (⟨.tuple #[.agg (varr 5 (grZ (grJ x y))), Ki6 0], retV2 Try.results26 ⟨_, rfl, run_loadV m12.cel (by kernel_rfl) (by kernel_rfl)⟩ (by exact rfl), ?_⟩)))
    have hbd : ¬ GrBad x y := by unfold GrBad; have q1 := bad_min hx hy; first | omega | (rw [q1] at c30; omega) | (have c30 := q1.1 c30; omega)
    exact ⟨by simp only [if_neg hbd], b5⟩
   refine Lv KbT (KneT c30) (KLq KbT (KLq ((pf g1 4)) (Lv (Ku6 x.b) (Kxl m5.cel 4) (KLq ((pf g2 4)) (Lv (Ku6 y.b) (Kxl m6.cel 4) ?_)))))
   by_cases c36 : x.b = y.b
   ·refine Lv KbF (KneF c36) (KLq KbF (KLq KbF (KLe (KWcF (Wk (sN (KWsl (KLq (Ku6 (if y.b > x.b then y.b else x.b)) (KLq ((pf g1 4)) (KLs m5 4 (Ku6 (if y.b > x.b then y.b else x.b)) fun w6 m15 s6 z6 => ?_))))))))))
    have m16 : Blk w6 g1 5 (grZ (grJ x y)) 59 := m15.congr grZ_join
    have m17 := m6.stp s6 (by omega)
    have m18 := m4.stp s6 (by omega)
    have b6 := s6.below b3 b3.size (by omega)
    refine KLe (KWsl (Lv (.agg (varr 5 (grZ (grJ x y)))) (KxA m16.cel 0) (KLsA m18 0 (h1 := (fun j _ => grZ_one _ j)) fun w7 m19 s7 z7 => ?_)))
    have m20 : Blk w7 g3 5 (grZ (grJ x y)) 59 := ovr_all m19
    have m21 := m17.stp s7 (by omega)
    have m22 := m16.stp s7 (by omega)
    have b7 := s7.below b6 b6.size (by omega)
    refine KLq (Ki6 0) (KLe (Wr (⟨.tuple #[.agg (varr 5 (grZ (grJ x y))), Ki6 0], retV2 Try.results26 ⟨_, rfl, run_loadV m20.cel (by kernel_rfl) (by kernel_rfl)⟩ (by exact rfl), ?_⟩)))
    have hbd : ¬ GrBad x y := by unfold GrBad; have q1 := bad_min hx hy; first | omega | (rw [q1] at c30; omega) | (have c30 := q1.1 c30; omega)
    exact ⟨by simp only [if_neg hbd], b7⟩
   refine Lv KbT (KneT c36) (KLq KbT (KLq KbT (KLe (KWcT (KWsl (Lv (.agg (varr 5 (grZ x))) (KxA m5.cel 0) (KLsA m4 0 (h1 := (fun j _ => grZ_one _ j)) fun w8 m23 s8 z8 => ?_)))))))
   have m24 : Blk w8 g3 5 (grZ x) 59 := ovr_all m23
   have m25 := m5.stp s8 (by omega)
   have m26 := m6.stp s8 (by omega)
   have b8 := s8.below b3 b3.size (by omega)
   refine KLq (Ki6 14) (KLe (Wr (sR (⟨.tuple #[.agg (varr 5 (grZ x)), Ki6 14], retV2 Try.results26 ⟨_, rfl, run_loadV m24.cel (by kernel_rfl) (by kernel_rfl)⟩ (by exact rfl), ?_⟩))))
   have hbd : GrBad x y := by unfold GrBad; have q1 := bad_min hx hy; first | omega | (rw [q1] at c30; omega) | (have c30 := q1.1 c30; omega)
   exact ⟨by simp only [if_pos hbd], b8⟩
  refine Lv KbT (KneT c22) (KLq KbT (KLq KbT (KLu (KLu (KLu (KLu (KLu (KLu (KLu (KLu (KLu (KLu (KLu (KLu (KLu (KLq KbT (KLe (KWcT (KWsl (Lv (.agg (varr 5 (grZ x))) (KxA m5.cel 0) (KLsA m4 0 (h1 := (fun j _ => grZ_one _ j)) fun w9 m27 s9 z9 => ?_)))))))))))))))))))))
  have m28 : Blk w9 g3 5 (grZ x) 59 := ovr_all m27
  have m29 := m5.stp s9 (by omega)
  have m30 := m6.stp s9 (by omega)
  have b9 := s9.below b3 b3.size (by omega)
  refine KLq (Ki6 14) (KLe (Wr (sR (⟨.tuple #[.agg (varr 5 (grZ x)), Ki6 14], retV2 Try.results26 ⟨_, rfl, run_loadV m28.cel (by kernel_rfl) (by kernel_rfl)⟩ (by exact rfl), ?_⟩))))
  have hbd : GrBad x y := by unfold GrBad; have q1 := bad_min hx hy; first | omega | (rw [q1] at c30; omega) | (have c30 := q1.1 c30; omega)
  exact ⟨by simp only [if_pos hbd], b9⟩
 refine Lv KbT (KneT c16) (KLq KbT (KLu (KLu (KLu (KLu (KLu (KLq KbT (KLq KbT (KLu (KLu (KLu (KLu (KLu (KLu (KLu (KLu (KLu (KLu (KLu (KLu (KLu (KLq KbT (KLe (KWcT (KWsl (Lv (.agg (varr 5 (grZ x))) (KxA m5.cel 0) (KLsA m4 0 (h1 := (fun j _ => grZ_one _ j)) fun w10 m31 s10 z10 => ?_)))))))))))))))))))))))))))
 have m32 : Blk w10 g3 5 (grZ x) 59 := ovr_all m31
 have m33 := m5.stp s10 (by omega)
 have m34 := m6.stp s10 (by omega)
 have b10 := s10.below b3 b3.size (by omega)
 refine KLq (Ki6 14) (KLe (Wr (sR (⟨.tuple #[.agg (varr 5 (grZ x)), Ki6 14], retV2 Try.results26 ⟨_, rfl, run_loadV m32.cel (by kernel_rfl) (by kernel_rfl)⟩ (by exact rfl), ?_⟩))))
 have hbd : GrBad x y := by unfold GrBad; have q1 := bad_min hx hy; first | omega | (rw [q1] at c30; omega) | (have c30 := q1.1 c30; omega)
 exact ⟨by simp only [if_pos hbd], b10⟩
end Go.Proofs.Ytkajcjefckjijaa
namespace Go.Proofs.Ytkajcjefckjijaa.Fx
open Go.RowKit
def opsOkR (n : Nat) (ops : List Oper) : Bool :=
  (List.range ops.length).all fun i =>
    let o := opAt ops i
    (match o.dst with | none => true | some d => (match writer ops d with | some j => Nat.beq j i | none => false) && Nat.blt d n) &&
    (o.op.operands.all fun x => match x with | .tmp t => (match writer ops t with | some j => isAfter o j || isAfter (opAt ops j) i | none => true) | _ => true) &&
    (match o.guard with | none => true | some (j, _) => isAfter o j) && (o.after.all fun e => !Region.binds .any e || Nat.blt e.on i)
theorem opsOkR_at {n : Nat} {ops : List Oper} (h : opsOkR n ops = true) {i : Nat} (hi : i < ops.length) :
    (∀ d, (opAt ops i).dst = some d → writer ops d = some i ∧ d < n) ∧ (∀ t j, .tmp t ∈ (opAt ops i).op.operands → writer ops t = some j → isAfter (opAt ops i) j = true ∨ isAfter (opAt ops j) i = true) ∧ (∀ j b, (opAt ops i).guard = some (j, b) → isAfter (opAt ops i) j = true) ∧ (∀ j, isAfter (opAt ops i) j = true → j < i) := by
  unfold opsOkR at h
  rw [List.all_eq_true] at h
  have := h i (by simpa using hi)
  simp only [Bool.and_eq_true] at this
  obtain ⟨⟨⟨h1, h2⟩, h3⟩, h4⟩ := this
  refine ⟨fun d hd => ?_, fun t j ht hj => ?_, fun j b hg => ?_, fun j hj => ?_⟩
  · rw [hd] at h1
    simp only [Bool.and_eq_true] at h1
    cases hw : writer ops d with
    | none => rw [hw] at h1; simp at h1
    | some j => rw [hw] at h1; simp only at h1; rw [Nat.eq_of_beq_eq_true h1.1]; exact ⟨rfl, by simpa [Nat.blt_eq] using h1.2⟩
  · rw [Array.all_eq_true'] at h2
    have := h2 _ ht
    simp only [hj] at this
    exact (Bool.or_eq_true _ _).mp this
  · rw [hg] at h3; exact h3
  unfold isAfter at hj
  rw [Array.any_eq_true'] at hj
  obtain ⟨e, he, h5⟩ := hj
  rw [Bool.and_eq_true] at h5
  rw [Array.all_eq_true'] at h4
  have := h4 e he
  rw [h5.1] at this
  rw [← Nat.eq_of_beq_eq_true h5.2]
  simpa [Nat.blt_eq] using this
section
variable {P : Program} {n : Nat} {ops : List Oper} {cs : List Nat} {S : World → World → Prop} {Q : Post}
theorem put_otherR {ops : List Oper} (hok : opsOkR n ops = true) {i j : Nat} (hi : i < ops.length) (hj : j < ops.length) (hne : i ≠ j) (f : Nat → Value) (u v : Value) :
    put (put f (opAt ops i).dst u) (opAt ops j).dst v = put (put f (opAt ops j).dst v) (opAt ops i).dst u := by
  cases hdi : (opAt ops i).dst with
  | none => rfl
  | some di =>
    cases hdj : (opAt ops j).dst with
    | none => rfl
    | some dj =>
      have hd : di ≠ dj := fun e => by
        subst e
        have h1 := ((opsOkR_at hok hi).1 di hdi).1
        have h2 := ((opsOkR_at hok hj).1 di hdj).1
        rw [h1] at h2; exact hne (Option.some.inj h2)
      funext s
      simp only [put]
      cases h1 : Nat.beq s di <;> cases h2 : Nat.beq s dj <;> simp
      exact (hd ((Nat.eq_of_beq_eq_true h1).symm.trans (Nat.eq_of_beq_eq_true h2))).elim
theorem put_evR {ops : List Oper} (hok : opsOkR n ops = true) {i j : Nat} (hi : i < ops.length) (hj : j < ops.length) (ha : isAfter (opAt ops j) i = false) (ha2 : isAfter (opAt ops i) j = false) (f : Nat → Value) (u : Value) : ∀ x ∈ (opAt ops j).op.operands, ev (put f (opAt ops i).dst u) x = ev f x := by
  intro x hx
  cases x with
  | tmp t =>
    show put f (opAt ops i).dst u t = f t
    cases hdi : (opAt ops i).dst with
    | none => rfl
    | some d =>
      simp only [put]
      cases hb : Nat.beq t d with
      | false => rfl
      | true =>
        have e := Nat.eq_of_beq_eq_true hb
        subst e
        have h1 := ((opsOkR_at hok hi).1 t hdi).1
        have h2 := (opsOkR_at hok hj).2.1 t i hx h1
        rw [ha, ha2] at h2; rcases h2 with h2 | h2 <;> cases h2
  | _ => rfl
theorem put_wantedR {ops : List Oper} (hok : opsOkR n ops = true) {i j : Nat} (hi : i < ops.length) (hj : j < ops.length) (ha : isAfter (opAt ops j) i = false) (f : Nat → Value) (u : Value) :
    Region.wanted (opAt ops j) (yf ops.toArray (put f (opAt ops i).dst u)) = Region.wanted (opAt ops j) (yf ops.toArray f) := by
  unfold Region.wanted
  cases hg : (opAt ops j).guard with
  | none => rfl
  | some gb =>
    obtain ⟨g, b⟩ := gb
    simp only
    have h2 := (opsOkR_at hok hj).2.2.1 g b hg
    have hgi : g ≠ i := fun e => by subst e; rw [ha] at h2; cases h2
    congr 1
    unfold yf
    cases hd : (ops.toArray[g]?).bind (·.dst) with
    | none => rfl
    | some d =>
      simp only
      have hgl : g < ops.length := by
        cases hq : ops.toArray[g]? with
        | none => rw [hq] at hd; cases hd
        | some o => have := (Array.getElem?_eq_some_iff.1 hq).1; simpa using this
      have hdd : (opAt ops g).dst = some d := by
        unfold opAt
        rw [List.getElem?_toArray] at hd
        rw [List.getD_eq_getElem?_getD]
        cases hq : ops[g]? with
        | none => rw [hq] at hd; cases hd
        | some o => rw [hq] at hd; exact hd
      have e : put f (opAt ops i).dst u d = f d := by
        cases hdi : (opAt ops i).dst with
        | none => rfl
        | some di =>
          simp only [put]
          cases hb : Nat.beq d di with
          | false => rfl
          | true =>
            have e := Nat.eq_of_beq_eq_true hb
            subst e
            have h3 := ((opsOkR_at hok hi).1 d hdi).1
            have h4 := ((opsOkR_at hok hgl).1 d hdd).1
            rw [h3] at h4; exact absurd (Option.some.inj h4).symm hgi
      rw [e]
theorem put_runR {ops : List Oper} (hok : opsOkR n ops = true) (hsel : Region.noSelect ops.toArray = true) {i j : Nat} (hi : i < ops.length) (hj : j < ops.length) (ha : isAfter (opAt ops j) i = false) (ha2 : isAfter (opAt ops i) j = false) (f : Nat → Value) (u : Value) :
    execOp (ev (put f (opAt ops i).dst u)) (opAt ops j) = execOp (ev f) (opAt ops j) :=
  execOp_congr _ (fun c b => Region.noSelect_spec hsel j (opAt ops j) c b (by
    unfold opAt; rw [List.getElem?_toArray, List.getD_eq_getElem?_getD, List.getElem?_eq_getElem hj]; rfl)) (put_evR hok hi hj ha ha2 f u)
theorem swapR (hok : opsOkR n ops = true) (hsel : Region.noSelect ops.toArray = true) {i j : Nat} (hi : i < ops.length) (hj : j < ops.length) (hne : i ≠ j) (hij : isAfter (opAt ops j) i = false) (hji : isAfter (opAt ops i) j = false) (hS : ∀ w, S w w) (hT : ∀ a b c, S a b → S b c → S a c) (hc : stillC (cs.getD i 3) = true) (hc2 : cs.getD i 3 = 0 ∨ stillC (cs.getD j 3) = true ∨ (cs.getD i 3 = 1 ∧ cs.getD j 3 = 2))
    {l : List Nat} {f : Nat → Value} {w : World} (h : R P n ops cs S Q (i :: j :: l) f w) : R P n ops cs S Q (j :: i :: l) f w := by
  obtain ⟨vi, hs, h⟩ := h.stl hc
  have up : ∀ (u : Value) (w' : World), Stay S (cs.getD i 3) w w' → Stl P ops cs S i (put f (opAt ops j).dst u) w' vi := fun u w' hb => by
    unfold Stl
    rw [put_wantedR hok hj hi hji, put_runR hok hsel hj hi hji hij]
    rcases hs with hs | ⟨h1, h2, h3⟩
    · exact .inl hs
    · refine .inr ⟨h1, h2, fun w2 h4 => h3 w2 ?_⟩
      rcases hb with hb | ⟨hb, hb2⟩ | hb
      · exact .inl hb
      · rcases h4 with h4 | ⟨_, h4⟩ | h4
        · exact .inl h4
        · exact .inr (.inl ⟨hb, hT _ _ _ hb2 h4⟩)
        · subst h4; exact .inr (.inl ⟨hb, hb2⟩)
      · subst hb; exact h4
  unfold R at h
  rw [put_wantedR hok hi hj hij, put_runR hok hsel hi hj hij hji] at h
  rw [R]
  rcases h with ⟨h1, h2⟩ | ⟨h1, ⟨h2, v, h3, h4⟩ | ⟨h2, h3⟩⟩
  · refine .inl ⟨h1, R.of_stl (up undef w (.inr (.inr rfl))) ?_⟩
    rw [put_otherR hok hi hj hne] at h2; exact h2
  · refine .inr ⟨h1, .inl ⟨h2, v, h3, R.of_stl (up v w (.inr (.inr rfl))) ?_⟩⟩
    rw [put_otherR hok hi hj hne] at h4; exact h4
  refine .inr ⟨h1, .inr ⟨h2, ?_⟩⟩
  unfold Out at h3
  rw [put_runR hok hsel hi hj hij hji] at h3
  refine Out.mono (K := fun v w' => (cs.getD j 3 = 2 → S w w') ∧ R P n ops cs S Q l (put (put f (opAt ops i).dst vi) (opAt ops j).dst v) w') h3 fun v w' hk => ⟨hk.1, R.of_stl (up v w' ?_) ?_⟩
  · rcases hc2 with e | e | ⟨e, e2⟩
    · exact .inl e
    · rw [h2] at e; cases e
    exact .inr (.inl ⟨e, hk.1 e2⟩)
  have := hk.2; rw [put_otherR hok hi hj hne] at this; exact this
theorem bubbleR (hok : opsOkR n ops = true) (hsel : Region.noSelect ops.toArray = true) (hS : ∀ w, S w w) (hT : ∀ a b c, S a b → S b c → S a c) {j : Nat} (hj : j < ops.length) {l : List Nat} :
    ∀ (pre : List Nat), (∀ i ∈ pre, i < ops.length ∧ i ≠ j ∧ isAfter (opAt ops j) i = false ∧ isAfter (opAt ops i) j = false ∧ stillC (cs.getD i 3) = true ∧ (cs.getD i 3 = 0 ∨ stillC (cs.getD j 3) = true ∨ (cs.getD i 3 = 1 ∧ cs.getD j 3 = 2))) → ∀ f w, R P n ops cs S Q (pre ++ j :: l) f w → R P n ops cs S Q (j :: (pre ++ l)) f w
  | [], _, f, w, h => h
  | i :: pre, hp, f, w, h => by
    obtain ⟨h1, h2, h3, h4, h5, h6⟩ := hp i (List.mem_cons_self ..)
    exact swapR hok hsel h1 hj h2 h3 h4 hS hT h5 h6 (R.tail (fun f w => bubbleR hok hsel hS hT hj pre (fun k hk => hp k (List.mem_cons_of_mem _ hk)) f w) h)
theorem R.anyR (hok : opsOkR n ops = true) (hsel : Region.noSelect ops.toArray = true) (hS : ∀ w, S w w) (hT : ∀ a b c, S a b → S b c → S a c) {certs : List (Nat × Nat × List Nat)} : ∀ (k : Nat) (rem : List Nat) (listed : Array Bool) (a : Act) (f : Nat → Value) (w : World), rem.length = k → listed.size = ops.length → Clo ops.toArray .any listed →
    (∀ i, i ∈ rem ↔ i < ops.length ∧ listed.getD i false = false) → rem.Nodup → (rem.Pairwise fun i j => pairOk ops cs certs i j = true) → Fr a n f → R P n ops cs S Q rem f w → wpAny P .any ops.toArray (lift n Q) k listed a w := by
  intro k
  induction k with
  | zero =>
    intro rem listed a f w hl hsz hclo hmem hnd hpw ha h
    have : rem = [] := List.eq_nil_of_length_eq_zero hl
    subst this
    refine ⟨?_, f, ha, h⟩
    rw [List.eq_nil_iff_forall_not_mem]
    intro j hj
    obtain ⟨h1, h2, _, _⟩ := ready_after hj
    exact absurd ((hmem j).2 ⟨h2, h1⟩) (by simp)
  | succ k ih =>
    intro rem listed a f w hl hsz hclo hmem hnd hpw ha h
    refine ⟨fun hr => ?_, fun j hj => ?_⟩
    · cases rem with
      | nil => simp at hl
      | cons r rem' =>
        exfalso
        obtain ⟨h1, h2⟩ := (hmem r).1 (List.mem_cons_self ..)
        have : r ∈ Region.ready .any ops.toArray listed := by
          refine mem_ready.2 ⟨getD_in (by omega) h2, opAt ops r, by unfold opAt; rw [List.getElem?_toArray, List.getD_eq_getElem?_getD, List.getElem?_eq_getElem h1]; rfl, fun e he hb => ?_⟩
          have haf : isAfter (opAt ops r) e.on = true := by
            unfold isAfter; rw [Array.any_eq_true']; exact ⟨e, he, by rw [hb, Nat.beq_refl]; rfl⟩
          have hlt := (opsOkR_at hok h1).2.2.2 e.on haf
          cases hle : listed.getD e.on false with
          | true => rfl
          | false =>
            have hm := (hmem e.on).2 ⟨by omega, hle⟩
            rcases List.mem_cons.1 hm with e1 | e1
            · omega
            · have hp := (List.pairwise_cons.1 hpw).1 _ e1
              unfold pairOk at hp
              rw [haf] at hp; simp at hp
        rw [hr] at this; simp at this
    · obtain ⟨h1, h2, h3, h4⟩ := ready_after hj
      have hjm := (hmem j).2 ⟨h2, h1⟩
      obtain ⟨pre, post, rfl⟩ := List.append_of_mem hjm
      have hb := bubbleR (P := P) (cs := cs) (S := S) (Q := Q) hok hsel hS hT h2 (l := post) pre (fun i hi => by
        obtain ⟨h5, h6⟩ := (hmem i).1 (List.mem_append_left _ hi)
        have hne : i ≠ j := fun e => by
          subst e
          exact (List.nodup_append.1 hnd).2.2 i hi i (List.mem_cons_self ..) rfl
        have hp : pairOk ops cs certs i j = true := (List.pairwise_append.1 hpw).2.2 i hi j (List.mem_cons_self ..)
        unfold pairOk at hp
        rw [Bool.and_eq_true, Bool.or_eq_true] at hp
        have hnaf : isAfter (opAt ops j) i = false := by
          cases hq : isAfter (opAt ops j) i with
          | false => rfl
          | true => have := h4 i hq; rw [h6] at this; cases this
        refine ⟨h5, hne, hnaf, by simpa using hp.1, ?_⟩
        rcases hp.2 with hp | hp
        · rw [Bool.and_eq_true, Bool.or_eq_true] at hp
          refine ⟨hp.1, ?_⟩
          rcases hp.2 with q | q
          · rw [Bool.or_eq_true] at q
            exact q.elim (fun q => .inl (Nat.eq_of_beq_eq_true q)) (fun q => .inr (.inl q))
          · rw [Bool.and_eq_true] at q
            exact .inr (.inr ⟨Nat.eq_of_beq_eq_true q.1, Nat.eq_of_beq_eq_true q.2⟩)
        · exfalso
          rw [List.any_eq_true] at hp
          obtain ⟨c, _, hc⟩ := hp
          rw [Bool.and_eq_true, Bool.and_eq_true] at hc
          obtain ⟨m, hm⟩ := pathB_reach hc.2
          cases m with
          | zero => unfold reach at hm; simp at hm; exact hne hm.symm
          | succ m =>
            unfold reach at hm
            rw [Bool.or_eq_true] at hm
            rcases hm with hm | hm
            · simp at hm; exact hne hm.symm
            · rw [h3] at hm
              simp only at hm
              rw [Array.any_eq_true'] at hm
              obtain ⟨e, he, hm⟩ := hm
              rw [Bool.and_eq_true] at hm
              have haf : isAfter (opAt ops j) e.on = true := by
                unfold isAfter; rw [Array.any_eq_true']; exact ⟨e, he, by rw [hm.1, Nat.beq_refl]; rfl⟩
              have := hclo.reach _ _ hm.2 (h4 e.on haf)
              rw [h6] at this; cases this) f w h
      have hperm : (pre ++ post).length = k := by simp at hl ⊢; omega
      have hnd' : (pre ++ post).Nodup := by
        refine hnd.sublist ?_
        exact List.Sublist.append_left (List.sublist_cons_self ..) pre
      have hpw' : (pre ++ post).Pairwise fun i j => pairOk ops cs certs i j = true := hpw.sublist (List.Sublist.append_left (List.sublist_cons_self ..) pre)
      have hmem' : ∀ i, i ∈ pre ++ post ↔ i < ops.length ∧ (listed.setIfInBounds j true).getD i false = false := fun i => by
        by_cases e : j = i
        · subst e
          rw [set_self (by omega)]
          constructor
          · intro hm
            exfalso
            have hd := List.nodup_append.1 hnd
            rcases List.mem_append.1 hm with q | q
            · exact hd.2.2 j q j (List.mem_cons_self ..) rfl
            · exact (List.nodup_cons.1 hd.2.1).1 q
          · intro q; cases q.2
        · rw [set_other e, ← hmem i]
          simp only [List.mem_append, List.mem_cons]
          constructor
          · rintro (q | q)
            · exact .inl q
            · exact .inr (.inr q)
          · rintro (q | q | q)
            · exact .inl q
            · exact absurd q.symm e
            · exact .inr q
      have next : ∀ (v : Value) (w' : World), R P n ops cs S Q (pre ++ post) (put f (opAt ops j).dst v) w' → wpAny P .any ops.toArray (lift n Q) k (listed.setIfInBounds j true) (a.put (opAt ops j).dst v) w' := fun v w' hR =>
        ih (pre ++ post) _ _ _ w' hperm (by simp [hsz]) (hclo.set hj) hmem' hnd' hpw' (ha.put (by
          cases hd : (opAt ops j).dst with
          | none => rfl
          | some d => have := ((opsOkR_at hok h2).1 d hd).2; simpa [inn, Nat.blt_eq] using this) v) hR
      unfold wpOp
      rw [h3]
      simp only
      rw [ha.yf]
      unfold R at hb
      rcases hb with ⟨q1, q2⟩ | ⟨q1, ⟨q2, v, q3, q4⟩ | ⟨q2, q3⟩⟩
      · rw [if_neg (by rw [q1]; decide)]; exact next _ _ q2
      · rw [if_pos q1]
        refine .inl (Out.wp (K := fun v' w' => v' = v ∧ w' = w) ha (.inl ⟨v, w, q3 w (.inr (.inr rfl)), rfl, rfl⟩) ?_)
        rintro v' w' ⟨rfl, rfl⟩
        exact next _ _ q4
      · rw [if_pos q1]
        exact .inl (Out.wp ha q3 fun v w' hk => next v w' hk.2)
theorem W.reordR {f : Nat → Value} {w : World} {id : Nat} (l : List Nat) (cs : List Nat) (S : World → World → Prop) (hS : ∀ w, S w w) (hT : ∀ a b c, S a b → S b c → S a c) (certs : List (Nat × Nat × List Nat)) (hm : P.follows .mixedOrders = true) (hok : opsOkR n ops = true) (hsel : Region.noSelect ops.toArray = true) (hp : permOk ops l = true) (hpp : pairsOk ops cs certs l = true)
    (h : ∀ w1, Below w.heap.size w w1 → w1.heap.size = w.heap.size → R P n ops cs S Q l f w1) : W P n (.region id ops.toArray true) Q f w := fun a ha => by
  refine wp_region_any hm ?_
  unfold permOk at hp
  rw [Bool.and_eq_true, Bool.and_eq_true, Bool.and_eq_true, List.all_eq_true, List.all_eq_true] at hp
  obtain ⟨⟨⟨p1, p2⟩, p3⟩, p4⟩ := hp
  have hlen := Nat.eq_of_beq_eq_true p1
  have p3' : l.Nodup := of_decide_eq_true p3
  have := R.anyR (P := P) (Q := Q) (certs := certs) hok hsel hS hT ops.length l (Array.replicate ops.length false) a f { w with drawn := w.drawn + 1 } hlen (by simp) (Clo.start _ _ _) (fun i => by
    have hg : ∀ i, (Array.replicate ops.length false).getD i false = false := fun i => getD_replicate_false _ _
    constructor
    · intro hi; exact ⟨by simpa [Nat.blt_eq] using p2 i hi, hg i⟩
    · intro hi
      obtain ⟨k, hk, hk2⟩ := List.any_eq_true.1 (p4 i (by simpa using hi.1))
      rw [Nat.eq_of_beq_eq_true hk2]; exact hk) p3' (pairsOk_pw hpp) ha (h { w with drawn := w.drawn + 1 } (Below.refl _ _).drew rfl)
  simpa using this
end
end Go.Proofs.Ytkajcjefckjijaa.Fx
