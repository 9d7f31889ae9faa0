/-
  The walks of leatref07.Sums, Local, right.
-/
import Derived.Test.Ytolmkjepieoloaa7B
namespace Go.Proofs.Ytolmkjepieoloaa
open Go.RowKit Rt
namespace Rt
def rightE (x : Nat → Int) (i n : Int) : Int := if may x && decide (1 ≤ n) && decide (n ≤ 1125899906842624) then (if regB i then 0 else 10) else 1
theorem limN_le {x : Nat → Int} (h : may x = true) (k : Nat) (hk : k ≤ 6) : 0 ≤ limN x k ∧ limN x k ≤ 1125899906842624 * (k : Int) := limN_bd (fun k hk => may_ok h k hk) k hk
theorem usedN_le {x : Nat → Int} (h : may x = true) (k : Nat) (hk : k ≤ 6) : 0 ≤ usedN x k ∧ usedN x k ≤ 1125899906842624 * (k : Int) := usedN_bd (fun k hk => may_ok h k hk) k hk
theorem localV_reg {x : Nat → Int} {i : Int} (h : may x = true) (hi : regB i = true) : ∃ k : Nat, k < 6 ∧ i = (k : Int) + 1 ∧ localV x i = L x k := by
  obtain ⟨a, ha, he, _⟩ := reg_nat hi
  exact ⟨a, ha, he, by rw [he]; exact localV_L h a ha⟩
end Rt
theorem f7_sums (x : Nat → Int) (w : World) :
    Calls Try.prog 51 #[.agg (Fx.varr 54 (Fx.rv .i64 x))] w fun e w' => e = .returned (.tuple #[.int .i64 (sums x).1, .int .i64 (sums x).2]) ∧ Below w.heap.size w w' := by
  refine Fx.enter Try.func51 rfl (n := 33) rfl (by rfl) ?_
  refine Fx.W.seq ?_
  refine Fx.W.list ?_
  refine Fx.L.box (m := 54) (y := Fx.rv .i64 x) (by rfl) rfl rfl (Fx.cells_agg _ _) rfl fun g1 w1 eg1 m1 s1 z1 => ?_
  have b1 : Below w.heap.size w w1 := s1.below (Below.refl w.heap.size w) (Below.refl w.heap.size w).size (Below.refl w.heap.size w).size
  have lg1 : w.heap.size ≤ g1 := by rw [eg1]; exact (Below.refl w.heap.size w).size
  have tg1 : g1 < w1.heap.size := m1.lt
  clear eg1
  refine Fx.L.val (v := .int .i64 (0)) (by rfl) (Fx.x_assign rfl rfl) rfl ?_
  refine Fx.L.val (v := .int .i64 (0)) (by rfl) (Fx.x_assign rfl rfl) rfl ?_
  refine Fx.L.nil ?_
  refine Fx.seqN ?_
  refine Fx.W.seq ?_
  refine Fx.W.seq ?_
  refine Fx.W.list ?_
  refine Fx.L.val (v := .agg (Fx.varr 54 (Fx.rv .i64 x))) (by rfl) (Fx.x_loadA (x := Fx.rv .i64 x) (y := Fx.rv .i64 x) rfl rfl (by kernel_rfl) (by kernel_rfl) m1.cel (i := 0) (by omega) (by omega) (fun j _ => by rw [Nat.zero_add])) rfl ?_
  by_cases c8 : (may x) = true
  · refine Fx.L.call (by rfl) (Fx.r_call (args := [.agg (Fx.varr 54 (Fx.rv .i64 x))]) rfl rfl Try.func46 rfl rfl) rfl ((f7_may x _).mono ?_)
    rintro e w2 ⟨he, hb1⟩
    refine ⟨.bool true, by rw [he, c8], ?_⟩
    clear he
    have s2 := Fx.Stp.of_below hb1
    have m2 : Fx.Blk w2 g1 54 (Fx.rv .i64 x) 48 := m1.stp s2 (Nat.ne_of_lt (m1.lt))
    have b2 : Below w.heap.size w w2 := s2.below b1 b1.size b1.size
    refine Fx.L.val (v := .bool false) (by rfl) (Fx.x_notF rfl rfl) rfl ?_
    refine Fx.L.nil ?_
    refine Fx.seqN ?_
    refine Fx.W.cond (b := false) rfl (fun h => nomatch h) (fun _ => ?_)
    refine Fx.W.skip ?_
    refine Fx.seqN ?_
    refine Fx.W.seq ?_
    have HE := may_ent c8
    refine Fx.W.list ?_
    refine Fx.L.val (v := .int .i64 (0)) (by rfl) (Fx.x_assign rfl rfl) rfl ?_
    refine Fx.L.nil ?_
    refine Fx.seqN ?_
    refine Fx.W.seq ?_
    refine Fx.W.list ?_
    refine Fx.L.val (v := .int .i64 (0)) (by rfl) (Fx.x_assign rfl rfl) rfl ?_
    refine Fx.L.nil ?_
    refine Fx.seqN ?_
    refine Fx.W.seq ?_
    refine Fx.W.seq ?_
    refine Fx.W.list ?_
    refine Fx.L.val (v := .int .i64 (0)) (by rfl) (Fx.x_assign rfl rfl) rfl ?_
    refine Fx.L.nil ?_
    refine Fx.seqN ?_
    refine Fx.W.block ?_
    refine Fx.W.loop (fun f w_ => ∃ k : Nat, k ≤ 6 ∧ f 1 = .pointer (some ⟨g1, 0, none⟩) ∧ f 4 = .int .i64 (limN x k) ∧ f 5 = .int .i64 (usedN x k) ∧ f 6 = .int .i64 ((k : Int)) ∧ Fx.Blk w_ g1 54 (Fx.rv .i64 x) 48 ∧ Below w.heap.size w w_) (fun f _ => (6 - (intOf (f 6)).toNat)) ⟨0, by omega, (by rfl), (by first | rfl | exact congrArg (Value.int .i64) (by omega)), (by first | rfl | exact congrArg (Value.int .i64) (by omega)), (by first | rfl | exact congrArg (Value.int .i64) (by omega)), m2, b2⟩ ?_
    rintro f1 w3 ⟨k, hk, h1, h2, h3, h4, m3, b3⟩
    have l1 := limN_le c8 k hk
    have l2 := usedN_le c8 k hk
    have q1 := HE k
    have q2 := HE (k + 6)
    have q3 := HE (k + 12)
    have l3 : limN x (k + 1) = limN x k + x k := rfl
    have l4 : usedN x (k + 1) = usedN x k + (x (k + 6) - x (k + 12)) := by rw [Nat.add_comm k 6, Nat.add_comm k 12]; rfl
    refine Fx.W.seq ?_
    refine Fx.W.seq ?_
    refine Fx.W.list ?_
    refine Fx.L.val (v := .int .i64 ((k : Int))) (by rfl) (Fx.x_move rfl h4) rfl ?_
    by_cases c11 : (k : Int) < 6
    · refine Fx.L.val (v := .bool true) (by rfl) (Fx.x_lssT rfl rfl rfl c11) rfl ?_
      refine Fx.L.nil ?_
      refine Fx.seqN ?_
      refine Fx.W.cond (b := true) rfl (fun _ => ?_) (fun h => nomatch h)
      refine Fx.W.skip ?_
      refine Fx.seqN ?_
      refine Fx.W.seq ?_
      refine Fx.W.block ?_
      refine Fx.W.seq ?_
      refine Fx.W.list ?_
      refine Fx.L.val (v := .int .i64 (limN x k)) (by rfl) (Fx.x_move rfl h2) rfl ?_
      refine Fx.L.val (v := .int .i64 ((k : Int))) (by rfl) (Fx.x_move rfl h4) rfl ?_
      refine Fx.L.val (v := .pointer (some ⟨g1, 0, none⟩)) (by rfl) (Fx.x_field rfl h1 Try.underlying48 rfl (s := 6) (by kernel_rfl) rfl rfl) rfl ?_
      refine Fx.L.val (v := .pointer (some ⟨g1, k, none⟩)) (by rfl) (Fx.x_index rfl rfl rfl Try.underlying45 (s := 1) (by kernel_rfl) (by omega) (by omega) (by omega)) rfl ?_
      refine Fx.L.val (v := .int .i64 (x k)) (by rfl) (Fx.x_load1 (x := Fx.rv .i64 x) rfl rfl (by kernel_rfl) m3.cel (i := k) (by omega) (by omega) rfl) rfl ?_
      refine Fx.L.val (v := .int .i64 ((limN x k) + (x k))) (by rfl) (Fx.x_add rfl rfl rfl (Fx.i64e (by omega) (by omega))) rfl ?_
      refine Fx.L.val (v := .int .i64 ((limN x k) + (x k))) (by rfl) (Fx.x_assign rfl rfl) rfl ?_
      refine Fx.L.nil ?_
      refine Fx.seqN ?_
      -- region 9 draws
      refine Fx.W.quiet (fun v1 => ∃ q, v1 = World.drewN w3 q) (by kernel_rfl) (by kernel_rfl) ⟨1, rfl⟩ ?_
      refine Fx.Qt.val (v := .int .i64 (usedN x k)) (by rfl) (fun v1 hv1 => Fx.x_move rfl h3) rfl ?_
      refine Fx.Qt.val (v := .int .i64 ((k : Int))) (by rfl) (fun v1 hv1 => Fx.x_move rfl h4) rfl ?_
      refine Fx.Qt.val (v := .pointer (some ⟨g1, 6, none⟩)) (by rfl) (fun v1 hv1 => Fx.x_field rfl h1 Try.underlying48 rfl (s := 6) (by kernel_rfl) rfl (by show _ + 6 = _; omega)) rfl ?_
      refine Fx.Qt.val (v := .pointer (some ⟨g1, k + 6, none⟩)) (by rfl) (fun v1 hv1 => Fx.x_index rfl rfl rfl Try.underlying45 (s := 1) (by kernel_rfl) (by omega) (by omega) (by omega)) rfl ?_
      refine Fx.Qt.val (v := .int .i64 (x (k + 6))) (by rfl) (fun v1 hv1 => Fx.x_load1 (x := Fx.rv .i64 x) rfl rfl (by kernel_rfl) (by obtain ⟨q, rfl⟩ := hv1; exact m3.cel) (i := k + 6) (by omega) (by omega) rfl) rfl ?_
      refine Fx.Qt.val (v := .int .i64 ((k : Int))) (by rfl) (fun v1 hv1 => Fx.x_move rfl h4) rfl ?_
      refine Fx.Qt.val (v := .pointer (some ⟨g1, 12, none⟩)) (by rfl) (fun v1 hv1 => Fx.x_field rfl h1 Try.underlying48 rfl (s := 6) (by kernel_rfl) rfl (by show _ + 12 = _; omega)) rfl ?_
      refine Fx.Qt.val (v := .pointer (some ⟨g1, k + 12, none⟩)) (by rfl) (fun v1 hv1 => Fx.x_index rfl rfl rfl Try.underlying45 (s := 1) (by kernel_rfl) (by omega) (by omega) (by omega)) rfl ?_
      refine Fx.Qt.val (v := .int .i64 (x (k + 12))) (by rfl) (fun v1 hv1 => Fx.x_load1 (x := Fx.rv .i64 x) rfl rfl (by kernel_rfl) (by obtain ⟨q, rfl⟩ := hv1; exact m3.cel) (i := k + 12) (by omega) (by omega) rfl) rfl ?_
      refine Fx.Qt.val (v := .int .i64 ((x (k + 6)) - (x (k + 12)))) (by rfl) (fun v1 hv1 => Fx.x_sub rfl rfl rfl (Fx.i64e (by omega) (by omega))) rfl ?_
      refine Fx.Qt.val (v := .int .i64 ((usedN x k) + ((x (k + 6)) - (x (k + 12))))) (by rfl) (fun v1 hv1 => Fx.x_add rfl rfl rfl (Fx.i64e (by omega) (by omega))) rfl ?_
      refine Fx.Qt.val (v := .int .i64 ((usedN x k) + ((x (k + 6)) - (x (k + 12))))) (by rfl) (fun v1 hv1 => Fx.x_assign rfl rfl) rfl ?_
      refine Fx.Qt.nil ?_
      rintro _ ⟨q, rfl⟩
      obtain ⟨wq1, ewq1⟩ : ∃ v1, v1 = World.drewN w3 q := ⟨_, rfl⟩
      rw [← ewq1]
      have s3 : Fx.Stp w3.heap.size w3 wq1 := by rw [ewq1]; exact Fx.Stp.of_below (bdrN w3 q)
      have m4 : Fx.Blk wq1 g1 54 (Fx.rv .i64 x) 48 := m3.stp s3 (by have := m3.lt; omega)
      have b4 : Below w.heap.size w wq1 := s3.below b3 b3.size b3.size
      clear ewq1
      refine Fx.blkN ?_
      refine Fx.seqN ?_
      refine Fx.W.list ?_
      refine Fx.L.val (v := .int .i64 ((k : Int))) (by rfl) (Fx.x_move rfl h4) rfl ?_
      refine Fx.L.val (v := .int .i64 ((k : Int) + 1)) (by rfl) (Fx.x_add rfl rfl rfl (Fx.i64e (by omega) (by omega))) rfl ?_
      refine Fx.L.val (v := .int .i64 ((k : Int) + 1)) (by rfl) (Fx.x_assign rfl rfl) rfl ?_
      refine Fx.L.nil ?_
      refine Fx.lpN ⟨k + 1, by omega, h1, (by first | rfl | exact congrArg (Value.int .i64) (by omega)), (by first | rfl | exact congrArg (Value.int .i64) (by omega)), (by first | rfl | exact congrArg (Value.int .i64) (by omega)), m4, b4⟩ ?_
      show (6 - (intOf ((.int .i64 ((k : Int) + 1)))).toNat) < _
      simp only [h4, intOf]; omega
    · refine Fx.L.val (v := .bool false) (by rfl) (Fx.x_lssF rfl rfl rfl c11) rfl ?_
      refine Fx.L.nil ?_
      refine Fx.seqN ?_
      refine Fx.W.cond (b := false) rfl (fun h => nomatch h) (fun _ => ?_)
      refine Fx.W.exit ?_
      refine Fx.seqX ?_
      refine Fx.lpX ?_
      refine Fx.blkX ?_
      refine Fx.seqN ?_
      refine Fx.W.seq ?_
      refine Fx.W.list ?_
      refine Fx.L.val (v := .int .i64 (limN x k)) (by rfl) (Fx.x_move rfl h2) rfl ?_
      refine Fx.L.val (v := .int .i64 (usedN x k)) (by rfl) (Fx.x_move rfl h3) rfl ?_
      refine Fx.L.val (v := .int .i64 (limN x k)) (by rfl) (Fx.x_assign rfl rfl) rfl ?_
      refine Fx.L.val (v := .int .i64 (usedN x k)) (by rfl) (Fx.x_assign rfl rfl) rfl ?_
      refine Fx.L.nil ?_
      refine Fx.seqN ?_
      refine Fx.W.ret ?_
      refine ⟨.tuple #[.int .i64 (limN x k), .int .i64 (usedN x k)], Fx.retV2 Try.results51 (by exact rfl) (by exact rfl), ?_⟩
      refine ⟨?_, b3⟩
      have e6 : k = 6 := by omega
      unfold sums; rw [c8, e6]; rfl
  · rw [Bool.not_eq_true] at c8
    refine Fx.L.call (by rfl) (Fx.r_call (args := [.agg (Fx.varr 54 (Fx.rv .i64 x))]) rfl rfl Try.func46 rfl rfl) rfl ((f7_may x _).mono ?_)
    rintro e w4 ⟨he, hb2⟩
    refine ⟨.bool false, by rw [he, c8], ?_⟩
    clear he
    have s4 := Fx.Stp.of_below hb2
    have m5 : Fx.Blk w4 g1 54 (Fx.rv .i64 x) 48 := m1.stp s4 (Nat.ne_of_lt (m1.lt))
    have b5 : Below w.heap.size w w4 := s4.below b1 b1.size b1.size
    refine Fx.L.val (v := .bool true) (by rfl) (Fx.x_notT rfl rfl) rfl ?_
    refine Fx.L.nil ?_
    refine Fx.seqN ?_
    refine Fx.W.cond (b := true) rfl (fun _ => ?_) (fun h => nomatch h)
    refine Fx.W.seq ?_
    refine Fx.W.list ?_
    refine Fx.L.val (v := .int .i64 (0)) (by rfl) (Fx.x_assign rfl rfl) rfl ?_
    refine Fx.L.val (v := .int .i64 (0)) (by rfl) (Fx.x_assign rfl rfl) rfl ?_
    refine Fx.L.nil ?_
    refine Fx.seqN ?_
    refine Fx.W.ret ?_
    refine Fx.seqR ?_
    refine ⟨.tuple #[.int .i64 (0), .int .i64 (0)], Fx.retV2 Try.results51 (by exact rfl) (by exact rfl), ?_⟩
    refine ⟨?_, b5⟩
    unfold sums; rw [c8]; rfl
theorem f7_localV (x : Nat → Int) (i : Int) (w : World) :
    Calls Try.prog 52 #[.agg (Fx.varr 54 (Fx.rv .i64 x)), .int .i64 (i)] w fun e w' => e = .returned (.int .i64 (localV x i)) ∧ Below w.heap.size w w' := by
  refine Fx.enter Try.func52 rfl (n := 16) rfl (by rfl) ?_
  refine Fx.W.seq ?_
  refine Fx.W.list ?_
  refine Fx.L.box (m := 54) (y := Fx.rv .i64 x) (by rfl) rfl rfl (Fx.cells_agg _ _) rfl fun g1 w1 eg1 m1 s1 z1 => ?_
  have b1 : Below w.heap.size w w1 := s1.below (Below.refl w.heap.size w) (Below.refl w.heap.size w).size (Below.refl w.heap.size w).size
  have lg1 : w.heap.size ≤ g1 := by rw [eg1]; exact (Below.refl w.heap.size w).size
  have tg1 : g1 < w1.heap.size := m1.lt
  clear eg1
  refine Fx.L.val (v := .int .i64 (0)) (by rfl) (Fx.x_assign rfl rfl) rfl ?_
  refine Fx.L.nil ?_
  refine Fx.seqN ?_
  refine Fx.W.seq ?_
  refine Fx.W.seq ?_
  refine Fx.W.list ?_
  refine Fx.L.val (v := .agg (Fx.varr 54 (Fx.rv .i64 x))) (by rfl) (Fx.x_loadA (x := Fx.rv .i64 x) (y := Fx.rv .i64 x) rfl rfl (by kernel_rfl) (by kernel_rfl) m1.cel (i := 0) (by omega) (by omega) (fun j _ => by rw [Nat.zero_add])) rfl ?_
  by_cases c6 : (may x) = true
  · refine Fx.L.call (by rfl) (Fx.r_call (args := [.agg (Fx.varr 54 (Fx.rv .i64 x))]) rfl rfl Try.func46 rfl rfl) rfl ((f7_may x _).mono ?_)
    rintro e w2 ⟨he, hb1⟩
    refine ⟨.bool true, by rw [he, c6], ?_⟩
    clear he
    have s2 := Fx.Stp.of_below hb1
    have m2 : Fx.Blk w2 g1 54 (Fx.rv .i64 x) 48 := m1.stp s2 (Nat.ne_of_lt (m1.lt))
    have b2 : Below w.heap.size w w2 := s2.below b1 b1.size b1.size
    refine Fx.L.val (v := .bool false) (by rfl) (Fx.x_notF rfl rfl) rfl ?_
    refine Fx.L.val (v := .bool false) (by rfl) (Fx.x_move rfl rfl) rfl ?_
    refine Fx.L.val (v := .int .i64 (i)) (by rfl) (Fx.x_move rfl rfl) rfl ?_
    by_cases c10 : (regB i) = true
    · refine Fx.L.call (by rfl) (Fx.r_call (args := [.int .i64 (i)]) rfl rfl Try.func96 rfl rfl) rfl ((f7_region i _).mono ?_)
      rintro e v1 ⟨he, rfl⟩
      refine ⟨.bool true, by rw [he, c10], ?_⟩
      clear he
      refine Fx.L.val (v := .bool false) (by rfl) (Fx.x_notF rfl rfl) rfl ?_
      refine Fx.L.val (v := .bool false) (by rfl) (Fx.x_pickF rfl rfl rfl) rfl ?_
      refine Fx.L.nil ?_
      refine Fx.seqN ?_
      refine Fx.W.cond (b := false) rfl (fun h => nomatch h) (fun _ => ?_)
      refine Fx.W.skip ?_
      refine Fx.seqN ?_
      refine Fx.W.seq ?_
      have HM := c6
      obtain ⟨k, hk, ei, hL⟩ := localV_reg c6 c10
      subst ei
      refine Fx.W.list ?_
      refine Fx.L.val (v := .agg (Fx.varr 54 (Fx.rv .i64 x))) (by rfl) (Fx.x_loadA (x := Fx.rv .i64 x) (y := Fx.rv .i64 x) rfl rfl (by kernel_rfl) (by kernel_rfl) m2.cel (i := 0) (by omega) (by omega) (fun j _ => by rw [Nat.zero_add])) rfl ?_
      refine Fx.L.val (v := .int .i64 ((k : Int) + 1)) (by rfl) (Fx.x_move rfl rfl) rfl ?_
      refine Fx.L.call (by rfl) (Fx.r_call (args := [.agg (Fx.varr 54 (Fx.rv .i64 x)), .int .i64 ((k : Int) + 1)]) rfl rfl Try.func91 rfl rfl) rfl ((f7_local x k _ (by omega) (may_ent HM)).mono ?_)
      rintro e w3 ⟨he, hb2⟩
      refine ⟨.int .i64 (L x k), by rw [he], ?_⟩
      clear he
      have s3 := Fx.Stp.of_below hb2
      have m3 : Fx.Blk w3 g1 54 (Fx.rv .i64 x) 48 := m2.stp s3 (Nat.ne_of_lt (m2.lt))
      have b3 : Below w.heap.size w w3 := s3.below b2 b2.size b2.size
      refine Fx.L.val (v := .int .i64 (L x k)) (by rfl) (Fx.x_assign rfl rfl) rfl ?_
      refine Fx.L.nil ?_
      refine Fx.seqN ?_
      refine Fx.W.ret ?_
      refine ⟨.int .i64 (L x k), Fx.retV1 Try.results52 (by exact rfl), ?_⟩
      refine ⟨?_, b3⟩
      rw [hL]
    · rw [Bool.not_eq_true] at c10
      refine Fx.L.call (by rfl) (Fx.r_call (args := [.int .i64 (i)]) rfl rfl Try.func96 rfl rfl) rfl ((f7_region i _).mono ?_)
      rintro e v1 ⟨he, rfl⟩
      refine ⟨.bool false, by rw [he, c10], ?_⟩
      clear he
      refine Fx.L.val (v := .bool true) (by rfl) (Fx.x_notT rfl rfl) rfl ?_
      refine Fx.L.val (v := .bool true) (by rfl) (Fx.x_pickF rfl rfl rfl) rfl ?_
      refine Fx.L.nil ?_
      refine Fx.seqN ?_
      refine Fx.W.cond (b := true) rfl (fun _ => ?_) (fun h => nomatch h)
      refine Fx.W.seq ?_
      refine Fx.W.list ?_
      refine Fx.L.val (v := .int .i64 (0)) (by rfl) (Fx.x_assign rfl rfl) rfl ?_
      refine Fx.L.nil ?_
      refine Fx.seqN ?_
      refine Fx.W.ret ?_
      refine Fx.seqR ?_
      refine ⟨.int .i64 (0), Fx.retV1 Try.results52 (by exact rfl), ?_⟩
      refine ⟨?_, b2⟩
      rw [localV_no x i (by rw [c10, Bool.false_and])]
  · rw [Bool.not_eq_true] at c6
    refine Fx.L.call (by rfl) (Fx.r_call (args := [.agg (Fx.varr 54 (Fx.rv .i64 x))]) rfl rfl Try.func46 rfl rfl) rfl ((f7_may x _).mono ?_)
    rintro e w4 ⟨he, hb3⟩
    refine ⟨.bool false, by rw [he, c6], ?_⟩
    clear he
    have s4 := Fx.Stp.of_below hb3
    have m4 : Fx.Blk w4 g1 54 (Fx.rv .i64 x) 48 := m1.stp s4 (Nat.ne_of_lt (m1.lt))
    have b4 : Below w.heap.size w w4 := s4.below b1 b1.size b1.size
    refine Fx.L.val (v := .bool true) (by rfl) (Fx.x_notT rfl rfl) rfl ?_
    refine Fx.L.val (v := .bool true) (by rfl) (Fx.x_move rfl rfl) rfl ?_
    refine Fx.L.skip (by rfl) rfl ?_
    refine Fx.L.skip (by rfl) rfl ?_
    refine Fx.L.skip (by rfl) rfl ?_
    refine Fx.L.val (v := .bool true) (by rfl) (Fx.x_pickT rfl rfl rfl) rfl ?_
    refine Fx.L.nil ?_
    refine Fx.seqN ?_
    refine Fx.W.cond (b := true) rfl (fun _ => ?_) (fun h => nomatch h)
    refine Fx.W.seq ?_
    refine Fx.W.list ?_
    refine Fx.L.val (v := .int .i64 (0)) (by rfl) (Fx.x_assign rfl rfl) rfl ?_
    refine Fx.L.nil ?_
    refine Fx.seqN ?_
    refine Fx.W.ret ?_
    refine Fx.seqR ?_
    refine ⟨.int .i64 (0), Fx.retV1 Try.results52 (by exact rfl), ?_⟩
    refine ⟨?_, b4⟩
    rw [localV_no x i (by rw [c6, Bool.and_false])]
theorem f7_right (x : Nat → Int) (i n : Int) (w : World) :
    Calls Try.prog 116 #[.agg (Fx.varr 54 (Fx.rv .i64 x)), .int .i64 (i), .int .i64 (n)] w fun e w' => e = .returned (.int .i64 (rightE x i n)) ∧ Below w.heap.size w w' := by
  refine Fx.enter Try.func116 rfl (n := 21) rfl (by rfl) ?_
  refine Fx.W.seq ?_
  refine Fx.W.list ?_
  refine Fx.L.box (m := 54) (y := Fx.rv .i64 x) (by rfl) rfl rfl (Fx.cells_agg _ _) rfl fun g1 w1 eg1 m1 s1 z1 => ?_
  have b1 : Below w.heap.size w w1 := s1.below (Below.refl w.heap.size w) (Below.refl w.heap.size w).size (Below.refl w.heap.size w).size
  have lg1 : w.heap.size ≤ g1 := by rw [eg1]; exact (Below.refl w.heap.size w).size
  have tg1 : g1 < w1.heap.size := m1.lt
  clear eg1
  refine Fx.L.val (v := .int .i64 (0)) (by rfl) (Fx.x_assign rfl rfl) rfl ?_
  refine Fx.L.nil ?_
  refine Fx.seqN ?_
  refine Fx.W.seq ?_
  refine Fx.W.seq ?_
  refine Fx.W.list ?_
  refine Fx.L.val (v := .agg (Fx.varr 54 (Fx.rv .i64 x))) (by rfl) (Fx.x_loadA (x := Fx.rv .i64 x) (y := Fx.rv .i64 x) rfl rfl (by kernel_rfl) (by kernel_rfl) m1.cel (i := 0) (by omega) (by omega) (fun j _ => by rw [Nat.zero_add])) rfl ?_
  by_cases c8 : (may x) = true
  · refine Fx.L.call (by rfl) (Fx.r_call (args := [.agg (Fx.varr 54 (Fx.rv .i64 x))]) rfl rfl Try.func46 rfl rfl) rfl ((f7_may x _).mono ?_)
    rintro e w2 ⟨he, hb1⟩
    refine ⟨.bool true, by rw [he, c8], ?_⟩
    clear he
    have s2 := Fx.Stp.of_below hb1
    have m2 : Fx.Blk w2 g1 54 (Fx.rv .i64 x) 48 := m1.stp s2 (Nat.ne_of_lt (m1.lt))
    have b2 : Below w.heap.size w w2 := s2.below b1 b1.size b1.size
    refine Fx.L.val (v := .bool false) (by rfl) (Fx.x_notF rfl rfl) rfl ?_
    refine Fx.L.val (v := .bool false) (by rfl) (Fx.x_move rfl rfl) rfl ?_
    refine Fx.L.val (v := .int .i64 (n)) (by rfl) (Fx.x_move rfl rfl) rfl ?_
    by_cases c12 : n < 1
    · refine Fx.L.val (v := .bool true) (by rfl) (Fx.x_lssT rfl rfl rfl c12) rfl ?_
      refine Fx.L.val (v := .bool true) (by rfl) (Fx.x_pickF rfl rfl rfl) rfl ?_
      refine Fx.L.val (v := .bool true) (by rfl) (Fx.x_move rfl rfl) rfl ?_
      refine Fx.L.skip (by rfl) rfl ?_
      refine Fx.L.skip (by rfl) rfl ?_
      refine Fx.L.val (v := .bool true) (by rfl) (Fx.x_pickT rfl rfl rfl) rfl ?_
      refine Fx.L.nil ?_
      refine Fx.seqN ?_
      refine Fx.W.cond (b := true) rfl (fun _ => ?_) (fun h => nomatch h)
      refine Fx.W.seq ?_
      refine Fx.W.list ?_
      refine Fx.L.val (v := .int .i64 (1)) (by rfl) (Fx.x_assign rfl rfl) rfl ?_
      refine Fx.L.nil ?_
      refine Fx.seqN ?_
      refine Fx.W.ret ?_
      refine Fx.seqR ?_
      refine ⟨.int .i64 (1), Fx.retV1 Try.results116 (by exact rfl), ?_⟩
      refine ⟨congrArg (fun q => Ending.returned (Value.int .i64 q)) ?_, b2⟩
      unfold rightE; rw [c8, decide_eq_false (show ¬ 1 ≤ n by omega)]; simp
    · refine Fx.L.val (v := .bool false) (by rfl) (Fx.x_lssF rfl rfl rfl c12) rfl ?_
      refine Fx.L.val (v := .bool false) (by rfl) (Fx.x_pickF rfl rfl rfl) rfl ?_
      refine Fx.L.val (v := .bool false) (by rfl) (Fx.x_move rfl rfl) rfl ?_
      refine Fx.L.val (v := .int .i64 (n)) (by rfl) (Fx.x_move rfl rfl) rfl ?_
      by_cases c16 : 1125899906842624 < n
      · refine Fx.L.val (v := .bool true) (by rfl) (Fx.x_gtrT rfl rfl rfl c16) rfl ?_
        refine Fx.L.val (v := .bool true) (by rfl) (Fx.x_pickF rfl rfl rfl) rfl ?_
        refine Fx.L.nil ?_
        refine Fx.seqN ?_
        refine Fx.W.cond (b := true) rfl (fun _ => ?_) (fun h => nomatch h)
        refine Fx.W.seq ?_
        refine Fx.W.list ?_
        refine Fx.L.val (v := .int .i64 (1)) (by rfl) (Fx.x_assign rfl rfl) rfl ?_
        refine Fx.L.nil ?_
        refine Fx.seqN ?_
        refine Fx.W.ret ?_
        refine Fx.seqR ?_
        refine ⟨.int .i64 (1), Fx.retV1 Try.results116 (by exact rfl), ?_⟩
        refine ⟨congrArg (fun q => Ending.returned (Value.int .i64 q)) ?_, b2⟩
        unfold rightE; rw [c8, decide_eq_true (show 1 ≤ n by omega), decide_eq_false (show ¬ n ≤ 1125899906842624 by omega)]; simp
      · refine Fx.L.val (v := .bool false) (by rfl) (Fx.x_gtrF rfl rfl rfl c16) rfl ?_
        refine Fx.L.val (v := .bool false) (by rfl) (Fx.x_pickF rfl rfl rfl) rfl ?_
        refine Fx.L.nil ?_
        refine Fx.seqN ?_
        refine Fx.W.cond (b := false) rfl (fun h => nomatch h) (fun _ => ?_)
        refine Fx.W.skip ?_
        refine Fx.seqN ?_
        refine Fx.W.seq ?_
        refine Fx.W.seq ?_
        refine Fx.W.list ?_
        refine Fx.L.val (v := .int .i64 (i)) (by rfl) (Fx.x_move rfl rfl) rfl ?_
        by_cases c19 : (regB i) = true
        · refine Fx.L.call (by rfl) (Fx.r_call (args := [.int .i64 (i)]) rfl rfl Try.func96 rfl rfl) rfl ((f7_region i _).mono ?_)
          rintro e v1 ⟨he, rfl⟩
          refine ⟨.bool true, by rw [he, c19], ?_⟩
          clear he
          refine Fx.L.val (v := .bool false) (by rfl) (Fx.x_notF rfl rfl) rfl ?_
          refine Fx.L.nil ?_
          refine Fx.seqN ?_
          refine Fx.W.cond (b := false) rfl (fun h => nomatch h) (fun _ => ?_)
          refine Fx.W.skip ?_
          refine Fx.seqN ?_
          refine Fx.W.seq ?_
          refine Fx.W.list ?_
          refine Fx.L.val (v := .int .i64 (0)) (by rfl) (Fx.x_assign rfl rfl) rfl ?_
          refine Fx.L.nil ?_
          refine Fx.seqN ?_
          refine Fx.W.ret ?_
          refine ⟨.int .i64 (0), Fx.retV1 Try.results116 (by exact rfl), ?_⟩
          refine ⟨congrArg (fun q => Ending.returned (Value.int .i64 q)) ?_, b2⟩
          unfold rightE; rw [c8, decide_eq_true (show 1 ≤ n by omega), decide_eq_true (show n ≤ 1125899906842624 by omega), c19]; simp
        · rw [Bool.not_eq_true] at c19
          refine Fx.L.call (by rfl) (Fx.r_call (args := [.int .i64 (i)]) rfl rfl Try.func96 rfl rfl) rfl ((f7_region i _).mono ?_)
          rintro e v1 ⟨he, rfl⟩
          refine ⟨.bool false, by rw [he, c19], ?_⟩
          clear he
          refine Fx.L.val (v := .bool true) (by rfl) (Fx.x_notT rfl rfl) rfl ?_
          refine Fx.L.nil ?_
          refine Fx.seqN ?_
          refine Fx.W.cond (b := true) rfl (fun _ => ?_) (fun h => nomatch h)
          refine Fx.W.seq ?_
          refine Fx.W.list ?_
          refine Fx.L.val (v := .int .i64 (10)) (by rfl) (Fx.x_assign rfl rfl) rfl ?_
          refine Fx.L.nil ?_
          refine Fx.seqN ?_
          refine Fx.W.ret ?_
          refine Fx.seqR ?_
          refine ⟨.int .i64 (10), Fx.retV1 Try.results116 (by exact rfl), ?_⟩
          refine ⟨congrArg (fun q => Ending.returned (Value.int .i64 q)) ?_, b2⟩
          unfold rightE; rw [c8, decide_eq_true (show 1 ≤ n by omega), decide_eq_true (show n ≤ 1125899906842624 by omega), c19]; simp
  · rw [Bool.not_eq_true] at c8
    refine Fx.L.call (by rfl) (Fx.r_call (args := [.agg (Fx.varr 54 (Fx.rv .i64 x))]) rfl rfl Try.func46 rfl rfl) rfl ((f7_may x _).mono ?_)
    rintro e w3 ⟨he, hb2⟩
    refine ⟨.bool false, by rw [he, c8], ?_⟩
    clear he
    have s3 := Fx.Stp.of_below hb2
    have m3 : Fx.Blk w3 g1 54 (Fx.rv .i64 x) 48 := m1.stp s3 (Nat.ne_of_lt (m1.lt))
    have b3 : Below w.heap.size w w3 := s3.below b1 b1.size b1.size
    refine Fx.L.val (v := .bool true) (by rfl) (Fx.x_notT rfl rfl) rfl ?_
    refine Fx.L.val (v := .bool true) (by rfl) (Fx.x_move rfl rfl) rfl ?_
    refine Fx.L.skip (by rfl) rfl ?_
    refine Fx.L.skip (by rfl) rfl ?_
    refine Fx.L.val (v := .bool true) (by rfl) (Fx.x_pickT rfl rfl rfl) rfl ?_
    refine Fx.L.val (v := .bool true) (by rfl) (Fx.x_move rfl rfl) rfl ?_
    refine Fx.L.skip (by rfl) rfl ?_
    refine Fx.L.skip (by rfl) rfl ?_
    refine Fx.L.val (v := .bool true) (by rfl) (Fx.x_pickT rfl rfl rfl) rfl ?_
    refine Fx.L.nil ?_
    refine Fx.seqN ?_
    refine Fx.W.cond (b := true) rfl (fun _ => ?_) (fun h => nomatch h)
    refine Fx.W.seq ?_
    refine Fx.W.list ?_
    refine Fx.L.val (v := .int .i64 (1)) (by rfl) (Fx.x_assign rfl rfl) rfl ?_
    refine Fx.L.nil ?_
    refine Fx.seqN ?_
    refine Fx.W.ret ?_
    refine Fx.seqR ?_
    refine ⟨.int .i64 (1), Fx.retV1 Try.results116 (by exact rfl), ?_⟩
    refine ⟨congrArg (fun q => Ending.returned (Value.int .i64 q)) ?_, b3⟩
    unfold rightE; rw [c8]; simp
end Go.Proofs.Ytolmkjepieoloaa
