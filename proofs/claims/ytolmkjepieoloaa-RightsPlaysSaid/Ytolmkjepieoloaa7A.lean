/-
  The walks of leatref07.number, region, local.
-/
import Derived.Test.YtolmkjepieoloaaFxe
import Derived.Test.YtolmkjepieoloaaRRefB
namespace Go.Proofs.Ytolmkjepieoloaa
open Go.RowKit Rt
theorem f7_number (n : Int) (w : World) :
    Calls Try.prog 90 #[.int .i64 (n)] w fun e w' => e = .returned (.bool (okN n)) ∧ w' = w := by
  refine Fx.enter Try.func90 rfl (n := 9) rfl (by rfl) ?_
  refine Fx.W.seq ?_
  refine Fx.W.list ?_
  refine Fx.L.val (v := .bool false) (by rfl) (Fx.x_assign rfl rfl) rfl ?_
  refine Fx.L.nil ?_
  refine Fx.seqN ?_
  refine Fx.W.seq ?_
  refine Fx.W.list ?_
  refine Fx.L.val (v := .int .i64 (n)) (by rfl) (Fx.x_move rfl rfl) rfl ?_
  by_cases c4 : 0 ≤ n
  · refine Fx.L.val (v := .bool true) (by rfl) (Fx.x_geqT rfl rfl rfl c4) rfl ?_
    refine Fx.L.val (v := .bool true) (by rfl) (Fx.x_move rfl rfl) rfl ?_
    refine Fx.L.val (v := .int .i64 (n)) (by rfl) (Fx.x_move rfl rfl) rfl ?_
    by_cases c7 : n ≤ 1125899906842624
    · refine Fx.L.val (v := .bool true) (by rfl) (Fx.x_leqT rfl rfl rfl c7) rfl ?_
      refine Fx.L.val (v := .bool true) (by rfl) (Fx.x_pickT rfl rfl rfl) rfl ?_
      refine Fx.L.val (v := .bool true) (by rfl) (Fx.x_assign rfl rfl) rfl ?_
      refine Fx.L.nil ?_
      refine Fx.seqN ?_
      refine Fx.W.ret ?_
      refine ⟨.bool true, Fx.retV1 Try.results90 (by exact rfl), ?_⟩
      exact ⟨congrArg (fun q => Ending.returned (Value.bool q)) (by simp only [okN]; first | (symm; simp; omega) | (symm; simp; done)), rfl⟩
    · refine Fx.L.val (v := .bool false) (by rfl) (Fx.x_leqF rfl rfl rfl c7) rfl ?_
      refine Fx.L.val (v := .bool false) (by rfl) (Fx.x_pickT rfl rfl rfl) rfl ?_
      refine Fx.L.val (v := .bool false) (by rfl) (Fx.x_assign rfl rfl) rfl ?_
      refine Fx.L.nil ?_
      refine Fx.seqN ?_
      refine Fx.W.ret ?_
      refine ⟨.bool false, Fx.retV1 Try.results90 (by exact rfl), ?_⟩
      exact ⟨congrArg (fun q => Ending.returned (Value.bool q)) (by simp only [okN]; first | (symm; simp; omega) | (symm; simp; done)), rfl⟩
  · refine Fx.L.val (v := .bool false) (by rfl) (Fx.x_geqF rfl rfl rfl c4) rfl ?_
    refine Fx.L.val (v := .bool false) (by rfl) (Fx.x_move rfl rfl) rfl ?_
    refine Fx.L.skip (by rfl) rfl ?_
    refine Fx.L.skip (by rfl) rfl ?_
    refine Fx.L.val (v := .bool false) (by rfl) (Fx.x_pickF rfl rfl rfl) rfl ?_
    refine Fx.L.val (v := .bool false) (by rfl) (Fx.x_assign rfl rfl) rfl ?_
    refine Fx.L.nil ?_
    refine Fx.seqN ?_
    refine Fx.W.ret ?_
    refine ⟨.bool false, Fx.retV1 Try.results90 (by exact rfl), ?_⟩
    exact ⟨congrArg (fun q => Ending.returned (Value.bool q)) (by simp only [okN]; first | (symm; simp; omega) | (symm; simp; done)), rfl⟩
theorem f7_region (n : Int) (w : World) :
    Calls Try.prog 96 #[.int .i64 (n)] w fun e w' => e = .returned (.bool (regB n)) ∧ w' = w := by
  refine Fx.enter Try.func96 rfl (n := 9) rfl (by rfl) ?_
  refine Fx.W.seq ?_
  refine Fx.W.list ?_
  refine Fx.L.val (v := .bool false) (by rfl) (Fx.x_assign rfl rfl) rfl ?_
  refine Fx.L.nil ?_
  refine Fx.seqN ?_
  refine Fx.W.seq ?_
  refine Fx.W.list ?_
  refine Fx.L.val (v := .int .i64 (n)) (by rfl) (Fx.x_move rfl rfl) rfl ?_
  by_cases c4 : 1 ≤ n
  · refine Fx.L.val (v := .bool true) (by rfl) (Fx.x_geqT rfl rfl rfl c4) rfl ?_
    refine Fx.L.val (v := .bool true) (by rfl) (Fx.x_move rfl rfl) rfl ?_
    refine Fx.L.val (v := .int .i64 (n)) (by rfl) (Fx.x_move rfl rfl) rfl ?_
    by_cases c7 : n ≤ 6
    · refine Fx.L.val (v := .bool true) (by rfl) (Fx.x_leqT rfl rfl rfl c7) rfl ?_
      refine Fx.L.val (v := .bool true) (by rfl) (Fx.x_pickT rfl rfl rfl) rfl ?_
      refine Fx.L.val (v := .bool true) (by rfl) (Fx.x_assign rfl rfl) rfl ?_
      refine Fx.L.nil ?_
      refine Fx.seqN ?_
      refine Fx.W.ret ?_
      refine ⟨.bool true, Fx.retV1 Try.results96 (by exact rfl), ?_⟩
      exact ⟨congrArg (fun q => Ending.returned (Value.bool q)) (by simp only [regB]; first | (symm; simp; omega) | (symm; simp; done)), rfl⟩
    · refine Fx.L.val (v := .bool false) (by rfl) (Fx.x_leqF rfl rfl rfl c7) rfl ?_
      refine Fx.L.val (v := .bool false) (by rfl) (Fx.x_pickT rfl rfl rfl) rfl ?_
      refine Fx.L.val (v := .bool false) (by rfl) (Fx.x_assign rfl rfl) rfl ?_
      refine Fx.L.nil ?_
      refine Fx.seqN ?_
      refine Fx.W.ret ?_
      refine ⟨.bool false, Fx.retV1 Try.results96 (by exact rfl), ?_⟩
      exact ⟨congrArg (fun q => Ending.returned (Value.bool q)) (by simp only [regB]; first | (symm; simp; omega) | (symm; simp; done)), rfl⟩
  · refine Fx.L.val (v := .bool false) (by rfl) (Fx.x_geqF rfl rfl rfl c4) rfl ?_
    refine Fx.L.val (v := .bool false) (by rfl) (Fx.x_move rfl rfl) rfl ?_
    refine Fx.L.skip (by rfl) rfl ?_
    refine Fx.L.skip (by rfl) rfl ?_
    refine Fx.L.val (v := .bool false) (by rfl) (Fx.x_pickF rfl rfl rfl) rfl ?_
    refine Fx.L.val (v := .bool false) (by rfl) (Fx.x_assign rfl rfl) rfl ?_
    refine Fx.L.nil ?_
    refine Fx.seqN ?_
    refine Fx.W.ret ?_
    refine ⟨.bool false, Fx.retV1 Try.results96 (by exact rfl), ?_⟩
    exact ⟨congrArg (fun q => Ending.returned (Value.bool q)) (by simp only [regB]; first | (symm; simp; omega) | (symm; simp; done)), rfl⟩
theorem Rt.lref_succ (x : Nat → Int) (k j : Nat) : lref x k (j + 1) = lref x k j + x (18 + j * 6 + k) - x (18 + k * 6 + j) := rfl
theorem Rt.lref_zero (x : Nat → Int) (k : Nat) : lref x k 0 = x k - x (6 + k) + x (12 + k) := rfl
theorem f7_local (x : Nat → Int) (k : Nat) (w : World) (hk : k < 6) (he : Ent x) :
    Calls Try.prog 91 #[.agg (Fx.varr 54 (Fx.rv .i64 x)), .int .i64 ((k : Int) + 1)] w fun e w' => e = .returned (.int .i64 (L x k)) ∧ Below w.heap.size w w' := by
  have HL : lref x k 6 = L x k := lref_L x k
  have HB := fun j => lref_bd he k hk j
  have h0 : lref x k 0 = x k - x (k + 6) + x (k + 12) := by rw [lref_zero, Nat.add_comm 6 k, Nat.add_comm 12 k]
  have a1 := he k (by omega)
  have a2 := he (k + 6) (by omega)
  have a3 := he (k + 12) (by omega)
  refine Fx.enter Try.func91 rfl (n := 44) rfl (by rfl) ?_
  refine Fx.W.seq ?_
  refine Fx.W.list ?_
  refine Fx.L.box (m := 54) (y := Fx.rv .i64 x) (by rfl) rfl rfl (Fx.cells_agg _ _) rfl fun g1 w1 eg1 m1 s1 z1 => ?_
  have b1 : Below w.heap.size w w1 := s1.below (Below.refl w.heap.size w) (Below.refl w.heap.size w).size (Below.refl w.heap.size w).size
  have lg1 : w.heap.size ≤ g1 := by rw [eg1]; exact (Below.refl w.heap.size w).size
  have tg1 : g1 < w1.heap.size := m1.lt
  clear eg1
  refine Fx.L.val (v := .int .i64 (0)) (by rfl) (Fx.x_assign rfl rfl) rfl ?_
  refine Fx.L.nil ?_
  refine Fx.seqN ?_
  refine Fx.W.seq ?_
  refine Fx.W.list ?_
  refine Fx.L.val (v := .int .i64 ((k : Int) + 1)) (by rfl) (Fx.x_move rfl rfl) rfl ?_
  refine Fx.L.val (v := .int .i64 ((k : Int))) (by rfl) (Fx.x_sub rfl rfl rfl (Fx.i64e (by omega) (by omega))) rfl ?_
  refine Fx.L.val (v := .int .i64 ((k : Int))) (by rfl) (Fx.x_assign rfl rfl) rfl ?_
  refine Fx.L.nil ?_
  refine Fx.seqN ?_
  refine Fx.W.seq ?_
  -- region 2 draws
  refine Fx.W.quiet (fun v1 => ∃ q, v1 = World.drewN w1 q) (by kernel_rfl) (by kernel_rfl) ⟨1, rfl⟩ ?_
  refine Fx.Qt.val (v := .int .i64 ((k : Int))) (by rfl) (fun v1 hv1 => Fx.x_move rfl rfl) rfl ?_
  refine Fx.Qt.val (v := .pointer (some ⟨g1, 0, none⟩)) (by rfl) (fun v1 hv1 => Fx.x_field rfl rfl Try.underlying48 rfl (s := 6) (by kernel_rfl) rfl rfl) rfl ?_
  refine Fx.Qt.val (v := .pointer (some ⟨g1, k, none⟩)) (by rfl) (fun v1 hv1 => Fx.x_index rfl rfl rfl Try.underlying45 (s := 1) (by kernel_rfl) (by omega) (by omega) (by omega)) rfl ?_
  refine Fx.Qt.val (v := .int .i64 (x k)) (by rfl) (fun v1 hv1 => Fx.x_load1 (x := Fx.rv .i64 x) rfl rfl (by kernel_rfl) (by obtain ⟨q, rfl⟩ := hv1; exact m1.cel) (i := k) (by omega) (by omega) rfl) rfl ?_
  refine Fx.Qt.val (v := .int .i64 ((k : Int))) (by rfl) (fun v1 hv1 => Fx.x_move rfl rfl) rfl ?_
  refine Fx.Qt.val (v := .pointer (some ⟨g1, 6, none⟩)) (by rfl) (fun v1 hv1 => Fx.x_field rfl rfl Try.underlying48 rfl (s := 6) (by kernel_rfl) rfl (by show _ + 6 = _; omega)) rfl ?_
  refine Fx.Qt.val (v := .pointer (some ⟨g1, k + 6, none⟩)) (by rfl) (fun v1 hv1 => Fx.x_index rfl rfl rfl Try.underlying45 (s := 1) (by kernel_rfl) (by omega) (by omega) (by omega)) rfl ?_
  refine Fx.Qt.val (v := .int .i64 (x (k + 6))) (by rfl) (fun v1 hv1 => Fx.x_load1 (x := Fx.rv .i64 x) rfl rfl (by kernel_rfl) (by obtain ⟨q, rfl⟩ := hv1; exact m1.cel) (i := k + 6) (by omega) (by omega) rfl) rfl ?_
  refine Fx.Qt.val (v := .int .i64 ((x k) - (x (k + 6)))) (by rfl) (fun v1 hv1 => Fx.x_sub rfl rfl rfl (Fx.i64e (by omega) (by omega))) rfl ?_
  refine Fx.Qt.val (v := .int .i64 ((k : Int))) (by rfl) (fun v1 hv1 => Fx.x_move rfl rfl) rfl ?_
  refine Fx.Qt.val (v := .pointer (some ⟨g1, 12, none⟩)) (by rfl) (fun v1 hv1 => Fx.x_field rfl rfl Try.underlying48 rfl (s := 6) (by kernel_rfl) rfl (by show _ + 12 = _; omega)) rfl ?_
  refine Fx.Qt.val (v := .pointer (some ⟨g1, k + 12, none⟩)) (by rfl) (fun v1 hv1 => Fx.x_index rfl rfl rfl Try.underlying45 (s := 1) (by kernel_rfl) (by omega) (by omega) (by omega)) rfl ?_
  refine Fx.Qt.val (v := .int .i64 (x (k + 12))) (by rfl) (fun v1 hv1 => Fx.x_load1 (x := Fx.rv .i64 x) rfl rfl (by kernel_rfl) (by obtain ⟨q, rfl⟩ := hv1; exact m1.cel) (i := k + 12) (by omega) (by omega) rfl) rfl ?_
  refine Fx.Qt.val (v := .int .i64 (((x k) - (x (k + 6))) + (x (k + 12)))) (by rfl) (fun v1 hv1 => Fx.x_add rfl rfl rfl (Fx.i64e (by omega) (by omega))) rfl ?_
  refine Fx.Qt.val (v := .int .i64 (((x k) - (x (k + 6))) + (x (k + 12)))) (by rfl) (fun v1 hv1 => Fx.x_assign rfl rfl) rfl ?_
  refine Fx.Qt.nil ?_
  rintro _ ⟨q, rfl⟩
  obtain ⟨wq1, ewq1⟩ : ∃ v1, v1 = World.drewN w1 q := ⟨_, rfl⟩
  rw [← ewq1]
  have s2 : Fx.Stp w1.heap.size w1 wq1 := by rw [ewq1]; exact Fx.Stp.of_below (bdrN w1 q)
  have m2 : Fx.Blk wq1 g1 54 (Fx.rv .i64 x) 48 := m1.stp s2 (by have := m1.lt; omega)
  have b2 : Below w.heap.size w wq1 := s2.below b1 b1.size b1.size
  clear ewq1
  refine Fx.seqN ?_
  refine Fx.W.seq ?_
  refine Fx.W.seq ?_
  refine Fx.W.list ?_
  refine Fx.L.val (v := .int .i64 (0)) (by rfl) (Fx.x_assign rfl rfl) rfl ?_
  refine Fx.L.nil ?_
  refine Fx.seqN ?_
  refine Fx.W.block ?_
  refine Fx.W.loop (fun f w_ => ∃ j : Nat, j ≤ 6 ∧ f 2 = .pointer (some ⟨g1, 0, none⟩) ∧ f 5 = .int .i64 ((k : Int)) ∧ f 6 = .int .i64 (lref x k j) ∧ f 7 = .int .i64 ((j : Int)) ∧ Fx.Blk w_ g1 54 (Fx.rv .i64 x) 48 ∧ Below w.heap.size w w_) (fun f _ => (6 - (intOf (f 7)).toNat)) ⟨0, by omega, (by rfl), (by first | rfl | exact congrArg (Value.int .i64) (by omega)), (by first | rfl | exact congrArg (Value.int .i64) (by omega)), (by first | rfl | exact congrArg (Value.int .i64) (by omega)), m2, b2⟩ ?_
  rintro f1 w2 ⟨j, p1, h1, h2, h3, h4, m3, b3⟩
  have hB := HB j (by omega)
  have HS : lref x k (j + 1) = lref x k j + x (6 * j + k + 18) - x (j + 6 * k + 18) := by rw [lref_succ, show 18 + j * 6 + k = 6 * j + k + 18 by omega, show 18 + k * 6 + j = j + 6 * k + 18 by omega]
  have b1 := he (6 * j + k + 18)
  have b2 := he (j + 6 * k + 18)
  refine Fx.W.seq ?_
  refine Fx.W.seq ?_
  refine Fx.W.list ?_
  refine Fx.L.val (v := .int .i64 ((j : Int))) (by rfl) (Fx.x_move rfl h4) rfl ?_
  by_cases c25 : (j : Int) < 6
  · refine Fx.L.val (v := .bool true) (by rfl) (Fx.x_lssT rfl rfl rfl c25) rfl ?_
    refine Fx.L.nil ?_
    refine Fx.seqN ?_
    refine Fx.W.cond (b := true) rfl (fun _ => ?_) (fun h => nomatch h)
    refine Fx.W.skip ?_
    refine Fx.seqN ?_
    refine Fx.W.seq ?_
    refine Fx.W.block ?_
    -- region 6 draws
    refine Fx.W.quiet (fun v1 => ∃ q, v1 = World.drewN w2 q) (by kernel_rfl) (by kernel_rfl) ⟨1, rfl⟩ ?_
    refine Fx.Qt.val (v := .int .i64 (lref x k j)) (by rfl) (fun v1 hv1 => Fx.x_move rfl h3) rfl ?_
    refine Fx.Qt.val (v := .int .i64 ((j : Int))) (by rfl) (fun v1 hv1 => Fx.x_move rfl h4) rfl ?_
    refine Fx.Qt.val (v := .int .i64 ((k : Int))) (by rfl) (fun v1 hv1 => Fx.x_move rfl h2) rfl ?_
    refine Fx.Qt.val (v := .pointer (some ⟨g1, 18, none⟩)) (by rfl) (fun v1 hv1 => Fx.x_field rfl h1 Try.underlying48 rfl (s := 36) (by kernel_rfl) rfl (by show _ + 18 = _; omega)) rfl ?_
    refine Fx.Qt.val (v := .pointer (some ⟨g1, 6 * j + 18, none⟩)) (by rfl) (fun v1 hv1 => Fx.x_index rfl rfl rfl Try.underlying46 (s := 6) (by kernel_rfl) (by omega) (by omega) (by omega)) rfl ?_
    refine Fx.Qt.val (v := .pointer (some ⟨g1, 6 * j + k + 18, none⟩)) (by rfl) (fun v1 hv1 => Fx.x_index rfl rfl rfl Try.underlying45 (s := 1) (by kernel_rfl) (by omega) (by omega) (by omega)) rfl ?_
    refine Fx.Qt.val (v := .int .i64 (x (6 * j + k + 18))) (by rfl) (fun v1 hv1 => Fx.x_load1 (x := Fx.rv .i64 x) rfl rfl (by kernel_rfl) (by obtain ⟨q, rfl⟩ := hv1; exact m3.cel) (i := 6 * j + k + 18) (by omega) (by omega) rfl) rfl ?_
    refine Fx.Qt.val (v := .int .i64 ((lref x k j) + (x (6 * j + k + 18)))) (by rfl) (fun v1 hv1 => Fx.x_add rfl rfl rfl (Fx.i64e (by omega) (by omega))) rfl ?_
    refine Fx.Qt.val (v := .int .i64 ((k : Int))) (by rfl) (fun v1 hv1 => Fx.x_move rfl h2) rfl ?_
    refine Fx.Qt.val (v := .int .i64 ((j : Int))) (by rfl) (fun v1 hv1 => Fx.x_move rfl h4) rfl ?_
    refine Fx.Qt.val (v := .pointer (some ⟨g1, 18, none⟩)) (by rfl) (fun v1 hv1 => Fx.x_field rfl h1 Try.underlying48 rfl (s := 36) (by kernel_rfl) rfl (by show _ + 18 = _; omega)) rfl ?_
    refine Fx.Qt.val (v := .pointer (some ⟨g1, 6 * k + 18, none⟩)) (by rfl) (fun v1 hv1 => Fx.x_index rfl rfl rfl Try.underlying46 (s := 6) (by kernel_rfl) (by omega) (by omega) (by omega)) rfl ?_
    refine Fx.Qt.val (v := .pointer (some ⟨g1, j + 6 * k + 18, none⟩)) (by rfl) (fun v1 hv1 => Fx.x_index rfl rfl rfl Try.underlying45 (s := 1) (by kernel_rfl) (by omega) (by omega) (by omega)) rfl ?_
    refine Fx.Qt.val (v := .int .i64 (x (j + 6 * k + 18))) (by rfl) (fun v1 hv1 => Fx.x_load1 (x := Fx.rv .i64 x) rfl rfl (by kernel_rfl) (by obtain ⟨q, rfl⟩ := hv1; exact m3.cel) (i := j + 6 * k + 18) (by omega) (by omega) rfl) rfl ?_
    refine Fx.Qt.val (v := .int .i64 (((lref x k j) + (x (6 * j + k + 18))) - (x (j + 6 * k + 18)))) (by rfl) (fun v1 hv1 => Fx.x_sub rfl rfl rfl (Fx.i64e (by omega) (by omega))) rfl ?_
    refine Fx.Qt.val (v := .int .i64 (((lref x k j) + (x (6 * j + k + 18))) - (x (j + 6 * k + 18)))) (by rfl) (fun v1 hv1 => Fx.x_assign rfl rfl) rfl ?_
    refine Fx.Qt.nil ?_
    rintro _ ⟨q, rfl⟩
    obtain ⟨wq2, ewq2⟩ : ∃ v1, v1 = World.drewN w2 q := ⟨_, rfl⟩
    rw [← ewq2]
    have s3 : Fx.Stp w2.heap.size w2 wq2 := by rw [ewq2]; exact Fx.Stp.of_below (bdrN w2 q)
    have m4 : Fx.Blk wq2 g1 54 (Fx.rv .i64 x) 48 := m3.stp s3 (by have := m3.lt; omega)
    have b4 : Below w.heap.size w wq2 := s3.below b3 b3.size b3.size
    clear ewq2
    refine Fx.blkN ?_
    refine Fx.seqN ?_
    refine Fx.W.list ?_
    refine Fx.L.val (v := .int .i64 ((j : Int))) (by rfl) (Fx.x_move rfl h4) rfl ?_
    refine Fx.L.val (v := .int .i64 ((j : Int) + 1)) (by rfl) (Fx.x_add rfl rfl rfl (Fx.i64e (by omega) (by omega))) rfl ?_
    refine Fx.L.val (v := .int .i64 ((j : Int) + 1)) (by rfl) (Fx.x_assign rfl rfl) rfl ?_
    refine Fx.L.nil ?_
    refine Fx.lpN ⟨j + 1, by omega, h1, (h2.trans (by first | rfl | exact congrArg (Value.int .i64) (by omega))), (by first | rfl | exact congrArg (Value.int .i64) (by omega)), (by first | rfl | exact congrArg (Value.int .i64) (by omega)), m4, b4⟩ ?_
    show (6 - (intOf ((.int .i64 ((j : Int) + 1)))).toNat) < _
    simp only [h4, intOf]; omega
  · refine Fx.L.val (v := .bool false) (by rfl) (Fx.x_lssF rfl rfl rfl c25) rfl ?_
    refine Fx.L.nil ?_
    refine Fx.seqN ?_
    refine Fx.W.cond (b := false) rfl (fun h => nomatch h) (fun _ => ?_)
    refine Fx.W.exit ?_
    refine Fx.seqX ?_
    refine Fx.lpX ?_
    refine Fx.blkX ?_
    refine Fx.seqN ?_
    refine Fx.W.seq ?_
    refine Fx.W.list ?_
    refine Fx.L.val (v := .int .i64 (lref x k j)) (by rfl) (Fx.x_move rfl h3) rfl ?_
    refine Fx.L.val (v := .int .i64 (lref x k j)) (by rfl) (Fx.x_assign rfl rfl) rfl ?_
    refine Fx.L.nil ?_
    refine Fx.seqN ?_
    refine Fx.W.ret ?_
    refine ⟨.int .i64 (lref x k j), Fx.retV1 Try.results91 (by exact rfl), ?_⟩
    exact ⟨congrArg (fun q => Ending.returned (Value.int .i64 q)) (by rw [← HL]; exact congrArg _ (by omega)), b3⟩
end Go.Proofs.Ytolmkjepieoloaa
