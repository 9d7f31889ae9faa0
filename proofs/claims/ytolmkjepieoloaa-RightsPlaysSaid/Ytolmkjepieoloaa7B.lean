/-
  The walk of leatref07.May.
-/
import Derived.Test.Ytolmkjepieoloaa7A
import Derived.Test.YtolmkjepieoloaaRMathB
namespace Go.Proofs.Ytolmkjepieoloaa
open Go.RowKit Rt
namespace Rt
/-- what the first loop has seen, below row i and in it below j -/
def RowOk (x : Nat → Int) (i : Nat) : Prop := okN (x i) = true ∧ okN (x (i + 6)) = true ∧ okN (x (i + 12)) = true ∧ x (i + 12) ≤ x (i + 6) ∧ x (7 * i + 18) = 0
def RowTo (x : Nat → Int) (i j : Nat) : Prop := ∀ q, q < j → okN (x (6 * i + q + 18)) = true
def OkTo (x : Nat → Int) (i : Nat) : Prop := ∀ k, k < i → RowOk x k ∧ RowTo x k 6
def sumG (x : Nat → Int) : Nat → Int
  | 0 => 0
  | i + 1 => sumG x i + x i
theorem okTo_zero (x : Nat → Int) : OkTo x 0 := fun _ h => absurd h (by omega)
theorem rowTo_zero (x : Nat → Int) (i : Nat) : RowTo x i 0 := fun _ h => absurd h (by omega)
theorem rowTo_succ {x : Nat → Int} {i j : Nat} (h : RowTo x i j) (hn : okN (x (6 * i + j + 18)) = true) : RowTo x i (j + 1) := fun q hq => by
  by_cases e : q = j
  · subst e; exact hn
  · exact h q (by omega)
theorem okTo_succ {x : Nat → Int} {i : Nat} (h : OkTo x i) (hr : RowOk x i) (ht : RowTo x i 6) : OkTo x (i + 1) := fun k hk => by
  by_cases e : k = i
  · subst e; exact ⟨hr, ht⟩
  · exact h k (by omega)
theorem okTo_ent {x : Nat → Int} (h : OkTo x 6) : Ent x := fun p hp => by
  by_cases h1 : p < 6
  · exact okN_bd (h p h1).1.1
  · by_cases h2 : p < 12
    · have := okN_bd (h (p - 6) (by omega)).1.2.1; rwa [show p - 6 + 6 = p by omega] at this
    · by_cases h3 : p < 18
      · have := okN_bd (h (p - 12) (by omega)).1.2.2.1; rwa [show p - 12 + 12 = p by omega] at this
      · have := okN_bd ((h ((p - 18) / 6) (by omega)).2 ((p - 18) % 6) (by omega)); rwa [show 6 * ((p - 18) / 6) + (p - 18) % 6 + 18 = p by omega] at this
theorem sumG_bd {x : Nat → Int} : ∀ {i : Nat}, OkTo x i → 0 ≤ sumG x i ∧ sumG x i ≤ 1125899906842624 * (i : Int)
  | 0, _ => by simp [sumG]
  | i + 1, h => by
    have a := sumG_bd (i := i) (fun k hk => h k (by omega))
    have b := okN_bd (h i (by omega)).1.1
    simp only [sumG]; omega
theorem no_ent {x : Nat → Int} {p : Nat} (hp : p < 54) (h : okN (x p) = false) : may x = false := by
  cases hm : may x
  · rfl
  · have := (may_iff x).1 hm |>.1 p hp
    unfold okN at h; simp at h; omega
theorem no_fc {x : Nat → Int} {i : Nat} (hi : i < 6) (h : x (i + 6) < x (i + 12)) : may x = false := by
  cases hm : may x
  · rfl
  · have := ((may_iff x).1 hm |>.2.1 i hi).2.1
    unfold F C at this; rw [Nat.add_comm 12 i, Nat.add_comm 6 i] at this; omega
theorem no_rr {x : Nat → Int} {i : Nat} (hi : i < 6) (h : ¬ x (7 * i + 18) = 0) : may x = false := by
  cases hm : may x
  · rfl
  · have := ((may_iff x).1 hm |>.2.1 i hi).2.2
    unfold R at this; rw [show 18 + i * 6 + i = 7 * i + 18 by omega] at this; exact absurd this h
theorem no_loc {x : Nat → Int} {i : Nat} (hi : i < 6) (h : L x i < 0) : may x = false := by
  cases hm : may x
  · rfl
  · have := ((may_iff x).1 hm |>.2.1 i hi).1
    omega
theorem loc_succ {x : Nat → Int} {m : Nat} (h : ∀ k, k < m → 0 ≤ L x k) (hm : 0 ≤ L x m) : ∀ k, k < m + 1 → 0 ≤ L x k := fun k hk => by
  by_cases e : k = m
  · rw [e]; exact hm
  · exact h k (by omega)
theorem may_fin {x : Nat → Int} (ha : OkTo x 6) (hl : ∀ k, k < 6 → 0 ≤ L x k) : may x = decide (sumG x 6 ≤ 1125899906842624) := by
  have hs : sumG x 6 = gSum x := by simp only [sumG, gSum, G]; omega
  rw [hs, Bool.eq_iff_iff, may_iff, decide_eq_true_iff]
  refine ⟨fun h => h.2.2, fun h => ⟨okTo_ent ha, fun k hk => ⟨hl k hk, ?_, ?_⟩, h⟩⟩
  · have := (ha k hk).1.2.2.2.1; unfold F C; rwa [Nat.add_comm 12 k, Nat.add_comm 6 k]
  · have := (ha k hk).1.2.2.2.2; unfold R; rwa [show 18 + k * 6 + k = 7 * k + 18 by omega]
end Rt
set_option maxRecDepth 10000 in
set_option maxHeartbeats 1000000 in
theorem f7_may (x : Nat → Int) (w : World) :
    Calls Try.prog 46 #[.agg (Fx.varr 54 (Fx.rv .i64 x))] w fun e w' => e = .returned (.bool (may x)) ∧ Below w.heap.size w w' := by
  refine Fx.enter Try.func46 rfl (n := 81) rfl (by rfl) ?_
  refine Fx.W.seq ?_
  refine Fx.W.list ?_
  refine Fx.L.box (m := 54) (y := Fx.rv .i64 x) (by rfl) rfl rfl (Fx.cells_agg _ _) rfl fun g1 w1 eg1 m1 s1 z1 => ?_
  have b1 : Below w.heap.size w w1 := s1.below (Below.refl w.heap.size w) (Below.refl w.heap.size w).size (Below.refl w.heap.size w).size
  have lg1 : w.heap.size ≤ g1 := by rw [eg1]; exact (Below.refl w.heap.size w).size
  have tg1 : g1 < w1.heap.size := m1.lt
  clear eg1
  refine Fx.L.val (v := .bool false) (by rfl) (Fx.x_assign rfl rfl) rfl ?_
  refine Fx.L.nil ?_
  refine Fx.seqN ?_
  refine Fx.W.seq ?_
  refine Fx.W.list ?_
  refine Fx.L.val (v := .int .i64 (0)) (by rfl) (Fx.x_assign rfl rfl) rfl ?_
  refine Fx.L.nil ?_
  refine Fx.seqN ?_
  refine Fx.W.seq ?_
  refine Fx.W.seq ?_
  refine Fx.W.list ?_
  refine Fx.L.val (v := .int .i64 (0)) (by rfl) (Fx.x_assign rfl rfl) rfl ?_
  refine Fx.L.nil ?_
  refine Fx.seqN ?_
  refine Fx.W.block ?_
  refine Fx.W.loop (fun f w_ => ∃ i : Nat, i ≤ 6 ∧ OkTo x i ∧ f 1 = .pointer (some ⟨g1, 0, none⟩) ∧ f 3 = .int .i64 (sumG x i) ∧ f 4 = .int .i64 ((i : Int)) ∧ Fx.Blk w_ g1 54 (Fx.rv .i64 x) 48 ∧ Below w.heap.size w w_) (fun f _ => (6 - (intOf (f 4)).toNat)) ⟨0, by omega, okTo_zero x, (by rfl), (by first | rfl | exact congrArg (Value.int .i64) (by omega)), (by first | rfl | exact congrArg (Value.int .i64) (by omega)), m1, b1⟩ ?_
  rintro f1 w2 ⟨i, hi, hA, h1, h2, h3, m2, b2⟩
  have hG := sumG_bd hA
  have HG : sumG x (i + 1) = sumG x i + x i := rfl
  refine Fx.W.seq ?_
  refine Fx.W.seq ?_
  refine Fx.W.list ?_
  refine Fx.L.val (v := .int .i64 ((i : Int))) (by rfl) (Fx.x_move rfl h3) rfl ?_
  by_cases c8 : (i : Int) < 6
  · refine Fx.L.val (v := .bool true) (by rfl) (Fx.x_lssT rfl rfl rfl c8) rfl ?_
    refine Fx.L.nil ?_
    refine Fx.seqN ?_
    refine Fx.W.cond (b := true) rfl (fun _ => ?_) (fun h => nomatch h)
    refine Fx.W.skip ?_
    refine Fx.seqN ?_
    refine Fx.W.seq ?_
    refine Fx.W.block ?_
    refine Fx.W.seq ?_
    refine Fx.W.seq ?_
    -- region 5 draws
    refine Fx.W.quiet (fun v1 => ∃ q, v1 = World.drewN w2 q) (by kernel_rfl) (by kernel_rfl) ⟨1, rfl⟩ ?_
    refine Fx.Qt.val (v := .int .i64 ((i : Int))) (by rfl) (fun v1 hv1 => Fx.x_move rfl h3) rfl ?_
    refine Fx.Qt.val (v := .pointer (some ⟨g1, 0, none⟩)) (by rfl) (fun v1 hv1 => Fx.x_field rfl h1 Try.underlying48 rfl (s := 6) (by kernel_rfl) rfl rfl) rfl ?_
    refine Fx.Qt.val (v := .pointer (some ⟨g1, i, none⟩)) (by rfl) (fun v1 hv1 => Fx.x_index rfl rfl rfl Try.underlying45 (s := 1) (by kernel_rfl) (by omega) (by omega) (by omega)) rfl ?_
    refine Fx.Qt.val (v := .int .i64 (x i)) (by rfl) (fun v1 hv1 => Fx.x_load1 (x := Fx.rv .i64 x) rfl rfl (by kernel_rfl) (by obtain ⟨q, rfl⟩ := hv1; exact m2.cel) (i := i) (by omega) (by omega) rfl) rfl ?_
    by_cases c15 : (okN (x i)) = true
    · refine Fx.Qt.call (v := .bool true) (by rfl) (fun v1 hv1 => Fx.r_call (args := [.int .i64 (x i)]) rfl rfl Try.func90 rfl rfl) rfl (fun v1 hv1 => (f7_number (x i) _).mono fun e v2 h => ⟨by rw [h.1, c15], by rw [h.2]; exact hv1⟩) ?_
      refine Fx.Qt.val (v := .bool false) (by rfl) (fun v1 hv1 => Fx.x_notF rfl rfl) rfl ?_
      refine Fx.Qt.val (v := .bool false) (by rfl) (fun v1 hv1 => Fx.x_move rfl rfl) rfl ?_
      refine Fx.Qt.val (v := .int .i64 ((i : Int))) (by rfl) (fun v1 hv1 => Fx.x_move rfl h3) rfl ?_
      refine Fx.Qt.val (v := .pointer (some ⟨g1, 6, none⟩)) (by rfl) (fun v1 hv1 => Fx.x_field rfl h1 Try.underlying48 rfl (s := 6) (by kernel_rfl) rfl (by show _ + 6 = _; omega)) rfl ?_
      refine Fx.Qt.val (v := .pointer (some ⟨g1, i + 6, none⟩)) (by rfl) (fun v1 hv1 => Fx.x_index rfl rfl rfl Try.underlying45 (s := 1) (by kernel_rfl) (by omega) (by omega) (by omega)) rfl ?_
      refine Fx.Qt.val (v := .int .i64 (x (i + 6))) (by rfl) (fun v1 hv1 => Fx.x_load1 (x := Fx.rv .i64 x) rfl rfl (by kernel_rfl) (by obtain ⟨q, rfl⟩ := hv1; exact m2.cel) (i := i + 6) (by omega) (by omega) rfl) rfl ?_
      by_cases c22 : (okN (x (i + 6))) = true
      · refine Fx.Qt.call (v := .bool true) (by rfl) (fun v1 hv1 => Fx.r_call (args := [.int .i64 (x (i + 6))]) rfl rfl Try.func90 rfl rfl) rfl (fun v1 hv1 => (f7_number (x (i + 6)) _).mono fun e v2 h => ⟨by rw [h.1, c22], by rw [h.2]; exact hv1⟩) ?_
        refine Fx.Qt.val (v := .bool false) (by rfl) (fun v1 hv1 => Fx.x_notF rfl rfl) rfl ?_
        refine Fx.Qt.val (v := .bool false) (by rfl) (fun v1 hv1 => Fx.x_pickF rfl rfl rfl) rfl ?_
        refine Fx.Qt.val (v := .bool false) (by rfl) (fun v1 hv1 => Fx.x_move rfl rfl) rfl ?_
        refine Fx.Qt.val (v := .int .i64 ((i : Int))) (by rfl) (fun v1 hv1 => Fx.x_move rfl h3) rfl ?_
        refine Fx.Qt.val (v := .pointer (some ⟨g1, 12, none⟩)) (by rfl) (fun v1 hv1 => Fx.x_field rfl h1 Try.underlying48 rfl (s := 6) (by kernel_rfl) rfl (by show _ + 12 = _; omega)) rfl ?_
        refine Fx.Qt.val (v := .pointer (some ⟨g1, i + 12, none⟩)) (by rfl) (fun v1 hv1 => Fx.x_index rfl rfl rfl Try.underlying45 (s := 1) (by kernel_rfl) (by omega) (by omega) (by omega)) rfl ?_
        refine Fx.Qt.val (v := .int .i64 (x (i + 12))) (by rfl) (fun v1 hv1 => Fx.x_load1 (x := Fx.rv .i64 x) rfl rfl (by kernel_rfl) (by obtain ⟨q, rfl⟩ := hv1; exact m2.cel) (i := i + 12) (by omega) (by omega) rfl) rfl ?_
        by_cases c30 : (okN (x (i + 12))) = true
        · refine Fx.Qt.call (v := .bool true) (by rfl) (fun v1 hv1 => Fx.r_call (args := [.int .i64 (x (i + 12))]) rfl rfl Try.func90 rfl rfl) rfl (fun v1 hv1 => (f7_number (x (i + 12)) _).mono fun e v2 h => ⟨by rw [h.1, c30], by rw [h.2]; exact hv1⟩) ?_
          refine Fx.Qt.val (v := .bool false) (by rfl) (fun v1 hv1 => Fx.x_notF rfl rfl) rfl ?_
          refine Fx.Qt.val (v := .bool false) (by rfl) (fun v1 hv1 => Fx.x_pickF rfl rfl rfl) rfl ?_
          refine Fx.Qt.val (v := .bool false) (by rfl) (fun v1 hv1 => Fx.x_move rfl rfl) rfl ?_
          refine Fx.Qt.val (v := .int .i64 ((i : Int))) (by rfl) (fun v1 hv1 => Fx.x_move rfl h3) rfl ?_
          refine Fx.Qt.val (v := .pointer (some ⟨g1, 12, none⟩)) (by rfl) (fun v1 hv1 => Fx.x_field rfl h1 Try.underlying48 rfl (s := 6) (by kernel_rfl) rfl (by show _ + 12 = _; omega)) rfl ?_
          refine Fx.Qt.val (v := .pointer (some ⟨g1, i + 12, none⟩)) (by rfl) (fun v1 hv1 => Fx.x_index rfl rfl rfl Try.underlying45 (s := 1) (by kernel_rfl) (by omega) (by omega) (by omega)) rfl ?_
          refine Fx.Qt.val (v := .int .i64 (x (i + 12))) (by rfl) (fun v1 hv1 => Fx.x_load1 (x := Fx.rv .i64 x) rfl rfl (by kernel_rfl) (by obtain ⟨q, rfl⟩ := hv1; exact m2.cel) (i := i + 12) (by omega) (by omega) rfl) rfl ?_
          refine Fx.Qt.val (v := .int .i64 ((i : Int))) (by rfl) (fun v1 hv1 => Fx.x_move rfl h3) rfl ?_
          refine Fx.Qt.val (v := .pointer (some ⟨g1, 6, none⟩)) (by rfl) (fun v1 hv1 => Fx.x_field rfl h1 Try.underlying48 rfl (s := 6) (by kernel_rfl) rfl (by show _ + 6 = _; omega)) rfl ?_
          refine Fx.Qt.val (v := .pointer (some ⟨g1, i + 6, none⟩)) (by rfl) (fun v1 hv1 => Fx.x_index rfl rfl rfl Try.underlying45 (s := 1) (by kernel_rfl) (by omega) (by omega) (by omega)) rfl ?_
          refine Fx.Qt.val (v := .int .i64 (x (i + 6))) (by rfl) (fun v1 hv1 => Fx.x_load1 (x := Fx.rv .i64 x) rfl rfl (by kernel_rfl) (by obtain ⟨q, rfl⟩ := hv1; exact m2.cel) (i := i + 6) (by omega) (by omega) rfl) rfl ?_
          by_cases c42 : (x (i + 6)) < (x (i + 12))
          · refine Fx.Qt.val (v := .bool true) (by rfl) (fun v1 hv1 => Fx.x_gtrT rfl rfl rfl c42) rfl ?_
            refine Fx.Qt.val (v := .bool true) (by rfl) (fun v1 hv1 => Fx.x_pickF rfl rfl rfl) rfl ?_
            refine Fx.Qt.val (v := .bool true) (by rfl) (fun v1 hv1 => Fx.x_move rfl rfl) rfl ?_
            refine Fx.Qt.skip (by rfl) rfl ?_
            refine Fx.Qt.skip (by rfl) rfl ?_
            refine Fx.Qt.skip (by rfl) rfl ?_
            refine Fx.Qt.skip (by rfl) rfl ?_
            refine Fx.Qt.skip (by rfl) rfl ?_
            refine Fx.Qt.skip (by rfl) rfl ?_
            refine Fx.Qt.skip (by rfl) rfl ?_
            refine Fx.Qt.val (v := .bool true) (by rfl) (fun v1 hv1 => Fx.x_pickT rfl rfl rfl) rfl ?_
            refine Fx.Qt.nil ?_
            rintro _ ⟨q, rfl⟩
            obtain ⟨wq1, ewq1⟩ : ∃ v1, v1 = World.drewN w2 q := ⟨_, rfl⟩
            rw [← ewq1]
            have s2 : Fx.Stp w2.heap.size w2 wq1 := by rw [ewq1]; exact Fx.Stp.of_below (bdrN w2 q)
            have m3 : Fx.Blk wq1 g1 54 (Fx.rv .i64 x) 48 := m2.stp s2 (by have := m2.lt; omega)
            have b3 : Below w.heap.size w wq1 := s2.below b2 b2.size b2.size
            clear ewq1
            refine Fx.seqN ?_
            refine Fx.W.cond (b := true) rfl (fun _ => ?_) (fun h => nomatch h)
            refine Fx.W.seq ?_
            refine Fx.W.list ?_
            refine Fx.L.val (v := .bool false) (by rfl) (Fx.x_assign rfl rfl) rfl ?_
            refine Fx.L.nil ?_
            refine Fx.seqN ?_
            refine Fx.W.ret ?_
            refine Fx.seqR ?_
            refine Fx.blkR ?_
            refine Fx.seqR ?_
            refine Fx.lpR ?_
            refine Fx.blkR ?_
            refine Fx.seqR ?_
            refine ⟨.bool false, Fx.retV1 Try.results46 (by exact rfl), ?_⟩
            refine ⟨congrArg (fun q => Ending.returned (Value.bool q)) (Eq.symm ?_), b3⟩
            exact no_fc (i := i) (by omega) c42
          · refine Fx.Qt.val (v := .bool false) (by rfl) (fun v1 hv1 => Fx.x_gtrF rfl rfl rfl c42) rfl ?_
            refine Fx.Qt.val (v := .bool false) (by rfl) (fun v1 hv1 => Fx.x_pickF rfl rfl rfl) rfl ?_
            refine Fx.Qt.val (v := .bool false) (by rfl) (fun v1 hv1 => Fx.x_move rfl rfl) rfl ?_
            refine Fx.Qt.val (v := .int .i64 ((i : Int))) (by rfl) (fun v1 hv1 => Fx.x_move rfl h3) rfl ?_
            refine Fx.Qt.val (v := .int .i64 ((i : Int))) (by rfl) (fun v1 hv1 => Fx.x_move rfl h3) rfl ?_
            refine Fx.Qt.val (v := .pointer (some ⟨g1, 18, none⟩)) (by rfl) (fun v1 hv1 => Fx.x_field rfl h1 Try.underlying48 rfl (s := 36) (by kernel_rfl) rfl (by show _ + 18 = _; omega)) rfl ?_
            refine Fx.Qt.val (v := .pointer (some ⟨g1, 6 * i + 18, none⟩)) (by rfl) (fun v1 hv1 => Fx.x_index rfl rfl rfl Try.underlying46 (s := 6) (by kernel_rfl) (by omega) (by omega) (by omega)) rfl ?_
            refine Fx.Qt.val (v := .pointer (some ⟨g1, 7 * i + 18, none⟩)) (by rfl) (fun v1 hv1 => Fx.x_index rfl rfl rfl Try.underlying45 (s := 1) (by kernel_rfl) (by omega) (by omega) (by omega)) rfl ?_
            refine Fx.Qt.val (v := .int .i64 (x (7 * i + 18))) (by rfl) (fun v1 hv1 => Fx.x_load1 (x := Fx.rv .i64 x) rfl rfl (by kernel_rfl) (by obtain ⟨q, rfl⟩ := hv1; exact m2.cel) (i := 7 * i + 18) (by omega) (by omega) rfl) rfl ?_
            by_cases c51 : (x (7 * i + 18)) = 0
            · refine Fx.Qt.val (v := .bool false) (by rfl) (fun v1 hv1 => Fx.x_neqF rfl rfl rfl c51) rfl ?_
              refine Fx.Qt.val (v := .bool false) (by rfl) (fun v1 hv1 => Fx.x_pickF rfl rfl rfl) rfl ?_
              refine Fx.Qt.nil ?_
              rintro _ ⟨q, rfl⟩
              obtain ⟨wq2, ewq2⟩ : ∃ v1, v1 = World.drewN w2 q := ⟨_, rfl⟩
              rw [← ewq2]
              have s3 : Fx.Stp w2.heap.size w2 wq2 := by rw [ewq2]; exact Fx.Stp.of_below (bdrN w2 q)
              have m4 : Fx.Blk wq2 g1 54 (Fx.rv .i64 x) 48 := m2.stp s3 (by have := m2.lt; omega)
              have b4 : Below w.heap.size w wq2 := s3.below b2 b2.size b2.size
              clear ewq2
              refine Fx.seqN ?_
              refine Fx.W.cond (b := false) rfl (fun h => nomatch h) (fun _ => ?_)
              refine Fx.W.skip ?_
              refine Fx.seqN ?_
              refine Fx.W.seq ?_
              have hR : RowOk x i := ⟨c15, c22, c30, by omega, c51⟩
              have b15 := okN_bd c15
              refine Fx.W.list ?_
              refine Fx.L.val (v := .int .i64 (sumG x i)) (by rfl) (Fx.x_move rfl h2) rfl ?_
              refine Fx.L.val (v := .int .i64 ((i : Int))) (by rfl) (Fx.x_move rfl h3) rfl ?_
              refine Fx.L.val (v := .pointer (some ⟨g1, 0, none⟩)) (by rfl) (Fx.x_field rfl h1 Try.underlying48 rfl (s := 6) (by kernel_rfl) rfl rfl) rfl ?_
              refine Fx.L.val (v := .pointer (some ⟨g1, i, none⟩)) (by rfl) (Fx.x_index rfl rfl rfl Try.underlying45 (s := 1) (by kernel_rfl) (by omega) (by omega) (by omega)) rfl ?_
              refine Fx.L.val (v := .int .i64 (x i)) (by rfl) (Fx.x_load1 (x := Fx.rv .i64 x) rfl rfl (by kernel_rfl) m4.cel (i := i) (by omega) (by omega) rfl) rfl ?_
              refine Fx.L.val (v := .int .i64 ((sumG x i) + (x i))) (by rfl) (Fx.x_add rfl rfl rfl (Fx.i64e (by omega) (by omega))) rfl ?_
              refine Fx.L.val (v := .int .i64 ((sumG x i) + (x i))) (by rfl) (Fx.x_assign rfl rfl) rfl ?_
              refine Fx.L.nil ?_
              refine Fx.seqN ?_
              refine Fx.W.seq ?_
              refine Fx.W.list ?_
              refine Fx.L.val (v := .int .i64 (0)) (by rfl) (Fx.x_assign rfl rfl) rfl ?_
              refine Fx.L.nil ?_
              refine Fx.seqN ?_
              refine Fx.W.block ?_
              refine Fx.W.loop (fun f w_ => ∃ j : Nat, j ≤ 6 ∧ RowTo x i j ∧ f 1 = .pointer (some ⟨g1, 0, none⟩) ∧ f 3 = .int .i64 (sumG x (i + 1)) ∧ f 4 = .int .i64 ((i : Int)) ∧ f 5 = .int .i64 ((j : Int)) ∧ Fx.Blk w_ g1 54 (Fx.rv .i64 x) 48 ∧ Below w.heap.size w w_) (fun f _ => (6 - (intOf (f 5)).toNat)) ⟨0, by omega, rowTo_zero x i, h1, (by first | rfl | exact congrArg (Value.int .i64) (by omega)), (h3.trans (by first | rfl | exact congrArg (Value.int .i64) (by omega))), (by first | rfl | exact congrArg (Value.int .i64) (by omega)), m4, b4⟩ ?_
              rintro f2 w3 ⟨j, hj, hT, h4, h5, h6, h7, m5, b5⟩
              refine Fx.W.seq ?_
              refine Fx.W.seq ?_
              refine Fx.W.list ?_
              refine Fx.L.val (v := .int .i64 ((j : Int))) (by rfl) (Fx.x_move rfl h7) rfl ?_
              by_cases c60 : (j : Int) < 6
              · refine Fx.L.val (v := .bool true) (by rfl) (Fx.x_lssT rfl rfl rfl c60) rfl ?_
                refine Fx.L.nil ?_
                refine Fx.seqN ?_
                refine Fx.W.cond (b := true) rfl (fun _ => ?_) (fun h => nomatch h)
                refine Fx.W.skip ?_
                refine Fx.seqN ?_
                refine Fx.W.seq ?_
                refine Fx.W.block ?_
                refine Fx.W.seq ?_
                refine Fx.W.list ?_
                refine Fx.L.val (v := .int .i64 ((i : Int))) (by rfl) (Fx.x_move rfl h6) rfl ?_
                refine Fx.L.val (v := .int .i64 ((j : Int))) (by rfl) (Fx.x_move rfl h7) rfl ?_
                refine Fx.L.val (v := .pointer (some ⟨g1, 18, none⟩)) (by rfl) (Fx.x_field rfl h4 Try.underlying48 rfl (s := 36) (by kernel_rfl) rfl (by show _ + 18 = _; omega)) rfl ?_
                refine Fx.L.val (v := .pointer (some ⟨g1, 6 * i + 18, none⟩)) (by rfl) (Fx.x_index rfl rfl rfl Try.underlying46 (s := 6) (by kernel_rfl) (by omega) (by omega) (by omega)) rfl ?_
                refine Fx.L.val (v := .pointer (some ⟨g1, 6 * i + j + 18, none⟩)) (by rfl) (Fx.x_index rfl rfl rfl Try.underlying45 (s := 1) (by kernel_rfl) (by omega) (by omega) (by omega)) rfl ?_
                refine Fx.L.val (v := .int .i64 (x (6 * i + j + 18))) (by rfl) (Fx.x_load1 (x := Fx.rv .i64 x) rfl rfl (by kernel_rfl) m5.cel (i := 6 * i + j + 18) (by omega) (by omega) rfl) rfl ?_
                by_cases c69 : (okN (x (6 * i + j + 18))) = true
                · refine Fx.L.call (by rfl) (Fx.r_call (args := [.int .i64 (x (6 * i + j + 18))]) rfl rfl Try.func90 rfl rfl) rfl ((f7_number (x (6 * i + j + 18)) _).mono ?_)
                  rintro e v1 ⟨he, rfl⟩
                  refine ⟨.bool true, by rw [he, c69], ?_⟩
                  clear he
                  refine Fx.L.val (v := .bool false) (by rfl) (Fx.x_notF rfl rfl) rfl ?_
                  refine Fx.L.nil ?_
                  refine Fx.seqN ?_
                  refine Fx.W.cond (b := false) rfl (fun h => nomatch h) (fun _ => ?_)
                  refine Fx.W.skip ?_
                  refine Fx.blkN ?_
                  refine Fx.seqN ?_
                  refine Fx.W.list ?_
                  refine Fx.L.val (v := .int .i64 ((j : Int))) (by rfl) (Fx.x_move rfl h7) rfl ?_
                  refine Fx.L.val (v := .int .i64 ((j : Int) + 1)) (by rfl) (Fx.x_add rfl rfl rfl (Fx.i64e (by omega) (by omega))) rfl ?_
                  refine Fx.L.val (v := .int .i64 ((j : Int) + 1)) (by rfl) (Fx.x_assign rfl rfl) rfl ?_
                  refine Fx.L.nil ?_
                  refine Fx.lpN ⟨j + 1, by omega, rowTo_succ hT c69, h4, (h5.trans (by first | rfl | exact congrArg (Value.int .i64) (by omega))), (h6.trans (by first | rfl | exact congrArg (Value.int .i64) (by omega))), (by first | rfl | exact congrArg (Value.int .i64) (by omega)), m5, b5⟩ ?_
                  show (6 - (intOf ((.int .i64 ((j : Int) + 1)))).toNat) < _
                  simp only [h7, intOf]; omega
                · rw [Bool.not_eq_true] at c69
                  refine Fx.L.call (by rfl) (Fx.r_call (args := [.int .i64 (x (6 * i + j + 18))]) rfl rfl Try.func90 rfl rfl) rfl ((f7_number (x (6 * i + j + 18)) _).mono ?_)
                  rintro e v1 ⟨he, rfl⟩
                  refine ⟨.bool false, by rw [he, c69], ?_⟩
                  clear he
                  refine Fx.L.val (v := .bool true) (by rfl) (Fx.x_notT rfl rfl) rfl ?_
                  refine Fx.L.nil ?_
                  refine Fx.seqN ?_
                  refine Fx.W.cond (b := true) rfl (fun _ => ?_) (fun h => nomatch h)
                  refine Fx.W.seq ?_
                  refine Fx.W.list ?_
                  refine Fx.L.val (v := .bool false) (by rfl) (Fx.x_assign rfl rfl) rfl ?_
                  refine Fx.L.nil ?_
                  refine Fx.seqN ?_
                  refine Fx.W.ret ?_
                  refine Fx.blkR ?_
                  refine Fx.seqR ?_
                  refine Fx.lpR ?_
                  refine Fx.blkR ?_
                  refine Fx.blkR ?_
                  refine Fx.seqR ?_
                  refine Fx.lpR ?_
                  refine Fx.blkR ?_
                  refine Fx.seqR ?_
                  refine ⟨.bool false, Fx.retV1 Try.results46 (by exact rfl), ?_⟩
                  refine ⟨congrArg (fun q => Ending.returned (Value.bool q)) (Eq.symm ?_), b5⟩
                  exact no_ent (p := 6 * i + j + 18) (by omega) c69
              · refine Fx.L.val (v := .bool false) (by rfl) (Fx.x_lssF rfl rfl rfl c60) rfl ?_
                refine Fx.L.nil ?_
                refine Fx.seqN ?_
                refine Fx.W.cond (b := false) rfl (fun h => nomatch h) (fun _ => ?_)
                refine Fx.W.exit ?_
                refine Fx.seqX ?_
                refine Fx.lpX ?_
                refine Fx.blkX ?_
                refine Fx.blkN ?_
                refine Fx.seqN ?_
                refine Fx.W.list ?_
                refine Fx.L.val (v := .int .i64 ((i : Int))) (by rfl) (Fx.x_move rfl h6) rfl ?_
                refine Fx.L.val (v := .int .i64 ((i : Int) + 1)) (by rfl) (Fx.x_add rfl rfl rfl (Fx.i64e (by omega) (by omega))) rfl ?_
                refine Fx.L.val (v := .int .i64 ((i : Int) + 1)) (by rfl) (Fx.x_assign rfl rfl) rfl ?_
                refine Fx.L.nil ?_
                have e6 : j = 6 := by omega
                have hT6 : RowTo x i 6 := by rw [e6] at hT; exact hT
                refine Fx.lpN ⟨i + 1, by omega, okTo_succ hA hR hT6, h4, (h5.trans (by first | rfl | exact congrArg (Value.int .i64) (by omega))), (by first | rfl | exact congrArg (Value.int .i64) (by omega)), m5, b5⟩ ?_
                show (6 - (intOf ((.int .i64 ((i : Int) + 1)))).toNat) < _
                simp only [h3, intOf]; omega
            · refine Fx.Qt.val (v := .bool true) (by rfl) (fun v1 hv1 => Fx.x_neqT rfl rfl rfl c51) rfl ?_
              refine Fx.Qt.val (v := .bool true) (by rfl) (fun v1 hv1 => Fx.x_pickF rfl rfl rfl) rfl ?_
              refine Fx.Qt.nil ?_
              rintro _ ⟨q, rfl⟩
              obtain ⟨wq3, ewq3⟩ : ∃ v1, v1 = World.drewN w2 q := ⟨_, rfl⟩
              rw [← ewq3]
              have s4 : Fx.Stp w2.heap.size w2 wq3 := by rw [ewq3]; exact Fx.Stp.of_below (bdrN w2 q)
              have m6 : Fx.Blk wq3 g1 54 (Fx.rv .i64 x) 48 := m2.stp s4 (by have := m2.lt; omega)
              have b6 : Below w.heap.size w wq3 := s4.below b2 b2.size b2.size
              clear ewq3
              refine Fx.seqN ?_
              refine Fx.W.cond (b := true) rfl (fun _ => ?_) (fun h => nomatch h)
              refine Fx.W.seq ?_
              refine Fx.W.list ?_
              refine Fx.L.val (v := .bool false) (by rfl) (Fx.x_assign rfl rfl) rfl ?_
              refine Fx.L.nil ?_
              refine Fx.seqN ?_
              refine Fx.W.ret ?_
              refine Fx.seqR ?_
              refine Fx.blkR ?_
              refine Fx.seqR ?_
              refine Fx.lpR ?_
              refine Fx.blkR ?_
              refine Fx.seqR ?_
              refine ⟨.bool false, Fx.retV1 Try.results46 (by exact rfl), ?_⟩
              refine ⟨congrArg (fun q => Ending.returned (Value.bool q)) (Eq.symm ?_), b6⟩
              exact no_rr (i := i) (by omega) c51
        · rw [Bool.not_eq_true] at c30
          refine Fx.Qt.call (v := .bool false) (by rfl) (fun v1 hv1 => Fx.r_call (args := [.int .i64 (x (i + 12))]) rfl rfl Try.func90 rfl rfl) rfl (fun v1 hv1 => (f7_number (x (i + 12)) _).mono fun e v2 h => ⟨by rw [h.1, c30], by rw [h.2]; exact hv1⟩) ?_
          refine Fx.Qt.val (v := .bool true) (by rfl) (fun v1 hv1 => Fx.x_notT rfl rfl) rfl ?_
          refine Fx.Qt.val (v := .bool true) (by rfl) (fun v1 hv1 => Fx.x_pickF rfl rfl rfl) rfl ?_
          refine Fx.Qt.val (v := .bool true) (by rfl) (fun v1 hv1 => Fx.x_move rfl rfl) rfl ?_
          refine Fx.Qt.skip (by rfl) rfl ?_
          refine Fx.Qt.skip (by rfl) rfl ?_
          refine Fx.Qt.skip (by rfl) rfl ?_
          refine Fx.Qt.skip (by rfl) rfl ?_
          refine Fx.Qt.skip (by rfl) rfl ?_
          refine Fx.Qt.skip (by rfl) rfl ?_
          refine Fx.Qt.skip (by rfl) rfl ?_
          refine Fx.Qt.skip (by rfl) rfl ?_
          refine Fx.Qt.skip (by rfl) rfl ?_
          refine Fx.Qt.val (v := .bool true) (by rfl) (fun v1 hv1 => Fx.x_pickT rfl rfl rfl) rfl ?_
          refine Fx.Qt.val (v := .bool true) (by rfl) (fun v1 hv1 => Fx.x_move rfl rfl) rfl ?_
          refine Fx.Qt.skip (by rfl) rfl ?_
          refine Fx.Qt.skip (by rfl) rfl ?_
          refine Fx.Qt.skip (by rfl) rfl ?_
          refine Fx.Qt.skip (by rfl) rfl ?_
          refine Fx.Qt.skip (by rfl) rfl ?_
          refine Fx.Qt.skip (by rfl) rfl ?_
          refine Fx.Qt.skip (by rfl) rfl ?_
          refine Fx.Qt.val (v := .bool true) (by rfl) (fun v1 hv1 => Fx.x_pickT rfl rfl rfl) rfl ?_
          refine Fx.Qt.nil ?_
          rintro _ ⟨q, rfl⟩
          obtain ⟨wq4, ewq4⟩ : ∃ v1, v1 = World.drewN w2 q := ⟨_, rfl⟩
          rw [← ewq4]
          have s5 : Fx.Stp w2.heap.size w2 wq4 := by rw [ewq4]; exact Fx.Stp.of_below (bdrN w2 q)
          have m7 : Fx.Blk wq4 g1 54 (Fx.rv .i64 x) 48 := m2.stp s5 (by have := m2.lt; omega)
          have b7 : Below w.heap.size w wq4 := s5.below b2 b2.size b2.size
          clear ewq4
          refine Fx.seqN ?_
          refine Fx.W.cond (b := true) rfl (fun _ => ?_) (fun h => nomatch h)
          refine Fx.W.seq ?_
          refine Fx.W.list ?_
          refine Fx.L.val (v := .bool false) (by rfl) (Fx.x_assign rfl rfl) rfl ?_
          refine Fx.L.nil ?_
          refine Fx.seqN ?_
          refine Fx.W.ret ?_
          refine Fx.seqR ?_
          refine Fx.blkR ?_
          refine Fx.seqR ?_
          refine Fx.lpR ?_
          refine Fx.blkR ?_
          refine Fx.seqR ?_
          refine ⟨.bool false, Fx.retV1 Try.results46 (by exact rfl), ?_⟩
          refine ⟨congrArg (fun q => Ending.returned (Value.bool q)) (Eq.symm ?_), b7⟩
          exact no_ent (p := i + 12) (by omega) c30
      · rw [Bool.not_eq_true] at c22
        refine Fx.Qt.call (v := .bool false) (by rfl) (fun v1 hv1 => Fx.r_call (args := [.int .i64 (x (i + 6))]) rfl rfl Try.func90 rfl rfl) rfl (fun v1 hv1 => (f7_number (x (i + 6)) _).mono fun e v2 h => ⟨by rw [h.1, c22], by rw [h.2]; exact hv1⟩) ?_
        refine Fx.Qt.val (v := .bool true) (by rfl) (fun v1 hv1 => Fx.x_notT rfl rfl) rfl ?_
        refine Fx.Qt.val (v := .bool true) (by rfl) (fun v1 hv1 => Fx.x_pickF rfl rfl rfl) rfl ?_
        refine Fx.Qt.val (v := .bool true) (by rfl) (fun v1 hv1 => Fx.x_move rfl rfl) rfl ?_
        refine Fx.Qt.skip (by rfl) rfl ?_
        refine Fx.Qt.skip (by rfl) rfl ?_
        refine Fx.Qt.skip (by rfl) rfl ?_
        refine Fx.Qt.skip (by rfl) rfl ?_
        refine Fx.Qt.skip (by rfl) rfl ?_
        refine Fx.Qt.skip (by rfl) rfl ?_
        refine Fx.Qt.val (v := .bool true) (by rfl) (fun v1 hv1 => Fx.x_pickT rfl rfl rfl) rfl ?_
        refine Fx.Qt.val (v := .bool true) (by rfl) (fun v1 hv1 => Fx.x_move rfl rfl) rfl ?_
        refine Fx.Qt.skip (by rfl) rfl ?_
        refine Fx.Qt.skip (by rfl) rfl ?_
        refine Fx.Qt.skip (by rfl) rfl ?_
        refine Fx.Qt.skip (by rfl) rfl ?_
        refine Fx.Qt.skip (by rfl) rfl ?_
        refine Fx.Qt.skip (by rfl) rfl ?_
        refine Fx.Qt.skip (by rfl) rfl ?_
        refine Fx.Qt.skip (by rfl) rfl ?_
        refine Fx.Qt.skip (by rfl) rfl ?_
        refine Fx.Qt.val (v := .bool true) (by rfl) (fun v1 hv1 => Fx.x_pickT rfl rfl rfl) rfl ?_
        refine Fx.Qt.val (v := .bool true) (by rfl) (fun v1 hv1 => Fx.x_move rfl rfl) rfl ?_
        refine Fx.Qt.skip (by rfl) rfl ?_
        refine Fx.Qt.skip (by rfl) rfl ?_
        refine Fx.Qt.skip (by rfl) rfl ?_
        refine Fx.Qt.skip (by rfl) rfl ?_
        refine Fx.Qt.skip (by rfl) rfl ?_
        refine Fx.Qt.skip (by rfl) rfl ?_
        refine Fx.Qt.skip (by rfl) rfl ?_
        refine Fx.Qt.val (v := .bool true) (by rfl) (fun v1 hv1 => Fx.x_pickT rfl rfl rfl) rfl ?_
        refine Fx.Qt.nil ?_
        rintro _ ⟨q, rfl⟩
        obtain ⟨wq5, ewq5⟩ : ∃ v1, v1 = World.drewN w2 q := ⟨_, rfl⟩
        rw [← ewq5]
        have s6 : Fx.Stp w2.heap.size w2 wq5 := by rw [ewq5]; exact Fx.Stp.of_below (bdrN w2 q)
        have m8 : Fx.Blk wq5 g1 54 (Fx.rv .i64 x) 48 := m2.stp s6 (by have := m2.lt; omega)
        have b8 : Below w.heap.size w wq5 := s6.below b2 b2.size b2.size
        clear ewq5
        refine Fx.seqN ?_
        refine Fx.W.cond (b := true) rfl (fun _ => ?_) (fun h => nomatch h)
        refine Fx.W.seq ?_
        refine Fx.W.list ?_
        refine Fx.L.val (v := .bool false) (by rfl) (Fx.x_assign rfl rfl) rfl ?_
        refine Fx.L.nil ?_
        refine Fx.seqN ?_
        refine Fx.W.ret ?_
        refine Fx.seqR ?_
        refine Fx.blkR ?_
        refine Fx.seqR ?_
        refine Fx.lpR ?_
        refine Fx.blkR ?_
        refine Fx.seqR ?_
        refine ⟨.bool false, Fx.retV1 Try.results46 (by exact rfl), ?_⟩
        refine ⟨congrArg (fun q => Ending.returned (Value.bool q)) (Eq.symm ?_), b8⟩
        exact no_ent (p := i + 6) (by omega) c22
    · rw [Bool.not_eq_true] at c15
      refine Fx.Qt.call (v := .bool false) (by rfl) (fun v1 hv1 => Fx.r_call (args := [.int .i64 (x i)]) rfl rfl Try.func90 rfl rfl) rfl (fun v1 hv1 => (f7_number (x i) _).mono fun e v2 h => ⟨by rw [h.1, c15], by rw [h.2]; exact hv1⟩) ?_
      refine Fx.Qt.val (v := .bool true) (by rfl) (fun v1 hv1 => Fx.x_notT rfl rfl) rfl ?_
      refine Fx.Qt.val (v := .bool true) (by rfl) (fun v1 hv1 => Fx.x_move rfl rfl) rfl ?_
      refine Fx.Qt.skip (by rfl) rfl ?_
      refine Fx.Qt.skip (by rfl) rfl ?_
      refine Fx.Qt.skip (by rfl) rfl ?_
      refine Fx.Qt.skip (by rfl) rfl ?_
      refine Fx.Qt.skip (by rfl) rfl ?_
      refine Fx.Qt.skip (by rfl) rfl ?_
      refine Fx.Qt.val (v := .bool true) (by rfl) (fun v1 hv1 => Fx.x_pickT rfl rfl rfl) rfl ?_
      refine Fx.Qt.val (v := .bool true) (by rfl) (fun v1 hv1 => Fx.x_move rfl rfl) rfl ?_
      refine Fx.Qt.skip (by rfl) rfl ?_
      refine Fx.Qt.skip (by rfl) rfl ?_
      refine Fx.Qt.skip (by rfl) rfl ?_
      refine Fx.Qt.skip (by rfl) rfl ?_
      refine Fx.Qt.skip (by rfl) rfl ?_
      refine Fx.Qt.skip (by rfl) rfl ?_
      refine Fx.Qt.val (v := .bool true) (by rfl) (fun v1 hv1 => Fx.x_pickT rfl rfl rfl) rfl ?_
      refine Fx.Qt.val (v := .bool true) (by rfl) (fun v1 hv1 => Fx.x_move rfl rfl) rfl ?_
      refine Fx.Qt.skip (by rfl) rfl ?_
      refine Fx.Qt.skip (by rfl) rfl ?_
      refine Fx.Qt.skip (by rfl) rfl ?_
      refine Fx.Qt.skip (by rfl) rfl ?_
      refine Fx.Qt.skip (by rfl) rfl ?_
      refine Fx.Qt.skip (by rfl) rfl ?_
      refine Fx.Qt.skip (by rfl) rfl ?_
      refine Fx.Qt.skip (by rfl) rfl ?_
      refine Fx.Qt.skip (by rfl) rfl ?_
      refine Fx.Qt.val (v := .bool true) (by rfl) (fun v1 hv1 => Fx.x_pickT rfl rfl rfl) rfl ?_
      refine Fx.Qt.val (v := .bool true) (by rfl) (fun v1 hv1 => Fx.x_move rfl rfl) rfl ?_
      refine Fx.Qt.skip (by rfl) rfl ?_
      refine Fx.Qt.skip (by rfl) rfl ?_
      refine Fx.Qt.skip (by rfl) rfl ?_
      refine Fx.Qt.skip (by rfl) rfl ?_
      refine Fx.Qt.skip (by rfl) rfl ?_
      refine Fx.Qt.skip (by rfl) rfl ?_
      refine Fx.Qt.skip (by rfl) rfl ?_
      refine Fx.Qt.val (v := .bool true) (by rfl) (fun v1 hv1 => Fx.x_pickT rfl rfl rfl) rfl ?_
      refine Fx.Qt.nil ?_
      rintro _ ⟨q, rfl⟩
      obtain ⟨wq6, ewq6⟩ : ∃ v1, v1 = World.drewN w2 q := ⟨_, rfl⟩
      rw [← ewq6]
      have s7 : Fx.Stp w2.heap.size w2 wq6 := by rw [ewq6]; exact Fx.Stp.of_below (bdrN w2 q)
      have m9 : Fx.Blk wq6 g1 54 (Fx.rv .i64 x) 48 := m2.stp s7 (by have := m2.lt; omega)
      have b9 : Below w.heap.size w wq6 := s7.below b2 b2.size b2.size
      clear ewq6
      refine Fx.seqN ?_
      refine Fx.W.cond (b := true) rfl (fun _ => ?_) (fun h => nomatch h)
      refine Fx.W.seq ?_
      refine Fx.W.list ?_
      refine Fx.L.val (v := .bool false) (by rfl) (Fx.x_assign rfl rfl) rfl ?_
      refine Fx.L.nil ?_
      refine Fx.seqN ?_
      refine Fx.W.ret ?_
      refine Fx.seqR ?_
      refine Fx.blkR ?_
      refine Fx.seqR ?_
      refine Fx.lpR ?_
      refine Fx.blkR ?_
      refine Fx.seqR ?_
      refine ⟨.bool false, Fx.retV1 Try.results46 (by exact rfl), ?_⟩
      refine ⟨congrArg (fun q => Ending.returned (Value.bool q)) (Eq.symm ?_), b9⟩
      exact no_ent (p := i) (by omega) c15
  · refine Fx.L.val (v := .bool false) (by rfl) (Fx.x_lssF rfl rfl rfl c8) rfl ?_
    refine Fx.L.nil ?_
    refine Fx.seqN ?_
    refine Fx.W.cond (b := false) rfl (fun h => nomatch h) (fun _ => ?_)
    refine Fx.W.exit ?_
    refine Fx.seqX ?_
    refine Fx.lpX ?_
    refine Fx.blkX ?_
    refine Fx.seqN ?_
    refine Fx.W.seq ?_
    refine Fx.W.seq ?_
    refine Fx.W.list ?_
    refine Fx.L.val (v := .int .i64 (1)) (by rfl) (Fx.x_assign rfl rfl) rfl ?_
    refine Fx.L.nil ?_
    refine Fx.seqN ?_
    refine Fx.W.block ?_
    have e6 : i = 6 := by omega
    rw [e6] at hA
    have HE := okTo_ent hA
    have HA : OkTo x 6 := hA
    refine Fx.W.loop (fun f w_ => ∃ m : Nat, m ≤ 6 ∧ (∀ k, k < m → 0 ≤ L x k) ∧ f 1 = .pointer (some ⟨g1, 0, none⟩) ∧ f 3 = .int .i64 (sumG x i) ∧ f 6 = .int .i64 ((m : Int) + 1) ∧ Fx.Blk w_ g1 54 (Fx.rv .i64 x) 48 ∧ Below w.heap.size w w_) (fun f _ => (7 - (intOf (f 6)).toNat)) ⟨0, by omega, (fun _ h => absurd h (by omega)), h1, (h2.trans (by first | rfl | exact congrArg (Value.int .i64) (by omega))), (by first | rfl | exact congrArg (Value.int .i64) (by omega)), m2, b2⟩ ?_
    rintro f3 w4 ⟨m, hm, HL, h8, h9, h10, m10, b10⟩
    refine Fx.W.seq ?_
    refine Fx.W.seq ?_
    refine Fx.W.list ?_
    refine Fx.L.val (v := .int .i64 ((m : Int) + 1)) (by rfl) (Fx.x_move rfl h10) rfl ?_
    by_cases c72 : ((m : Int) + 1) ≤ 6
    · refine Fx.L.val (v := .bool true) (by rfl) (Fx.x_leqT rfl rfl rfl c72) rfl ?_
      refine Fx.L.nil ?_
      refine Fx.seqN ?_
      refine Fx.W.cond (b := true) rfl (fun _ => ?_) (fun h => nomatch h)
      refine Fx.W.skip ?_
      refine Fx.seqN ?_
      refine Fx.W.seq ?_
      refine Fx.W.block ?_
      refine Fx.W.seq ?_
      refine Fx.W.list ?_
      refine Fx.L.val (v := .agg (Fx.varr 54 (Fx.rv .i64 x))) (by rfl) (Fx.x_loadA (x := Fx.rv .i64 x) (y := Fx.rv .i64 x) rfl h8 (by kernel_rfl) (by kernel_rfl) m10.cel (i := 0) (by omega) (by omega) (fun j _ => by rw [Nat.zero_add])) rfl ?_
      refine Fx.L.val (v := .int .i64 ((m : Int) + 1)) (by rfl) (Fx.x_move rfl h10) rfl ?_
      refine Fx.L.call (by rfl) (Fx.r_call (args := [.agg (Fx.varr 54 (Fx.rv .i64 x)), .int .i64 ((m : Int) + 1)]) rfl rfl Try.func91 rfl rfl) rfl ((f7_local x m _ (by omega) HE).mono ?_)
      rintro e w5 ⟨he, hb1⟩
      refine ⟨.int .i64 (L x m), by rw [he], ?_⟩
      clear he
      have s8 := Fx.Stp.of_below hb1
      have m11 : Fx.Blk w5 g1 54 (Fx.rv .i64 x) 48 := m10.stp s8 (Nat.ne_of_lt (m10.lt))
      have b11 : Below w.heap.size w w5 := s8.below b10 b10.size b10.size
      by_cases c78 : (L x m) < 0
      · refine Fx.L.val (v := .bool true) (by rfl) (Fx.x_lssT rfl rfl rfl c78) rfl ?_
        refine Fx.L.nil ?_
        refine Fx.seqN ?_
        refine Fx.W.cond (b := true) rfl (fun _ => ?_) (fun h => nomatch h)
        refine Fx.W.seq ?_
        refine Fx.W.list ?_
        refine Fx.L.val (v := .bool false) (by rfl) (Fx.x_assign rfl rfl) rfl ?_
        refine Fx.L.nil ?_
        refine Fx.seqN ?_
        refine Fx.W.ret ?_
        refine Fx.blkR ?_
        refine Fx.seqR ?_
        refine Fx.lpR ?_
        refine Fx.blkR ?_
        refine Fx.seqR ?_
        refine ⟨.bool false, Fx.retV1 Try.results46 (by exact rfl), ?_⟩
        refine ⟨congrArg (fun q => Ending.returned (Value.bool q)) (Eq.symm ?_), b11⟩
        exact no_loc (i := m) (by omega) c78
      · refine Fx.L.val (v := .bool false) (by rfl) (Fx.x_lssF rfl rfl rfl c78) rfl ?_
        refine Fx.L.nil ?_
        refine Fx.seqN ?_
        refine Fx.W.cond (b := false) rfl (fun h => nomatch h) (fun _ => ?_)
        refine Fx.W.skip ?_
        refine Fx.blkN ?_
        refine Fx.seqN ?_
        refine Fx.W.list ?_
        refine Fx.L.val (v := .int .i64 ((m : Int) + 1)) (by rfl) (Fx.x_move rfl h10) rfl ?_
        refine Fx.L.val (v := .int .i64 ((m : Int) + 2)) (by rfl) (Fx.x_add rfl rfl rfl (Fx.i64e (by omega) (by omega))) rfl ?_
        refine Fx.L.val (v := .int .i64 ((m : Int) + 2)) (by rfl) (Fx.x_assign rfl rfl) rfl ?_
        refine Fx.L.nil ?_
        refine Fx.lpN ⟨m + 1, by omega, loc_succ HL (by omega), h8, (h9.trans (by first | rfl | exact congrArg (Value.int .i64) (by omega))), (by first | rfl | exact congrArg (Value.int .i64) (by omega)), m11, b11⟩ ?_
        show (7 - (intOf ((.int .i64 ((m : Int) + 2)))).toNat) < _
        simp only [h10, intOf]; omega
    · refine Fx.L.val (v := .bool false) (by rfl) (Fx.x_leqF rfl rfl rfl c72) rfl ?_
      refine Fx.L.nil ?_
      refine Fx.seqN ?_
      refine Fx.W.cond (b := false) rfl (fun h => nomatch h) (fun _ => ?_)
      refine Fx.W.exit ?_
      refine Fx.seqX ?_
      refine Fx.lpX ?_
      refine Fx.blkX ?_
      refine Fx.seqN ?_
      refine Fx.W.seq ?_
      refine Fx.W.list ?_
      refine Fx.L.val (v := .int .i64 (sumG x i)) (by rfl) (Fx.x_move rfl h9) rfl ?_
      by_cases c80 : (sumG x i) ≤ 1125899906842624
      · refine Fx.L.val (v := .bool true) (by rfl) (Fx.x_leqT rfl rfl rfl c80) rfl ?_
        refine Fx.L.val (v := .bool true) (by rfl) (Fx.x_assign rfl rfl) rfl ?_
        refine Fx.L.nil ?_
        refine Fx.seqN ?_
        refine Fx.W.ret ?_
        refine ⟨.bool true, Fx.retV1 Try.results46 (by exact rfl), ?_⟩
        refine ⟨congrArg (fun q => Ending.returned (Value.bool q)) (Eq.symm ?_), b10⟩
        have e7 : m = 6 := by omega
        rw [e7] at HL
        rw [e6] at c80
        rw [may_fin HA HL]; exact decide_eq_true c80
      · refine Fx.L.val (v := .bool false) (by rfl) (Fx.x_leqF rfl rfl rfl c80) rfl ?_
        refine Fx.L.val (v := .bool false) (by rfl) (Fx.x_assign rfl rfl) rfl ?_
        refine Fx.L.nil ?_
        refine Fx.seqN ?_
        refine Fx.W.ret ?_
        refine ⟨.bool false, Fx.retV1 Try.results46 (by exact rfl), ?_⟩
        refine ⟨congrArg (fun q => Ending.returned (Value.bool q)) (Eq.symm ?_), b10⟩
        have e7 : m = 6 := by omega
        rw [e7] at HL
        rw [e6] at c80
        rw [may_fin HA HL]; exact decide_eq_false c80
end Go.Proofs.Ytolmkjepieoloaa
