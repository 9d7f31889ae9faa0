/-
  The walk of leatlaw07.Step.did.
-/
import Derived.Test.Ytolmkjepieoloaa7D
import Derived.Test.YtolmkjepieoloaaRDoes
namespace Go.Proofs.Ytolmkjepieoloaa
open Go.RowKit Rt
def stepY (d i j n : Int) : Nat → Value := fun p => (stepV d i j n).getD p undef
theorem f7_did (x : Nat → Int) (d i j n : Int) (w : World) (hd : 0 ≤ d ∧ d ≤ 255) :
    Calls Try.prog 50 #[.agg (Fx.varr 4 (stepY d i j n)), .agg (Fx.varr 54 (Fx.rv .i64 x))] w fun e w' => e = .returned (.tuple #[.agg (Fx.varr 54 (Fx.rv .i64 (doesM x d i j n).1)), .int .i64 (doesM x d i j n).2]) ∧ Below w.heap.size w w' := by
  refine Fx.enter Try.func50 rfl (n := 49) rfl (by rfl) ?_
  refine Fx.W.seq ?_
  refine Fx.W.list ?_
  refine Fx.L.box (m := 4) (y := stepY d i j n) (by rfl) rfl rfl (Fx.cells_agg _ _) rfl fun g1 w1 eg1 m1 s1 z1 => ?_
  have b1 : Below w.heap.size w w1 := s1.below (Below.refl w.heap.size w) (Below.refl w.heap.size w).size (Below.refl w.heap.size w).size
  have lg1 : w.heap.size ≤ g1 := by rw [eg1]; exact (Below.refl w.heap.size w).size
  have tg1 : g1 < w1.heap.size := m1.lt
  clear eg1
  refine Fx.L.box (m := 54) (y := Fx.rv .i64 x) (by rfl) rfl rfl (Fx.cells_agg _ _) rfl fun g2 w2 eg2 m2 s2 z2 => ?_
  have m3 : Fx.Blk w2 g1 4 (stepY d i j n) 103 := m1.stp s2 (Nat.ne_of_lt (m1.lt))
  have b2 : Below w.heap.size w w2 := s2.below b1 b1.size b1.size
  have lg2 : w.heap.size ≤ g2 := by rw [eg2]; exact b1.size
  have ng2m3 : g1 ≠ g2 := by rw [eg2]; exact Nat.ne_of_lt (m1.lt)
  have tg2 : g2 < w2.heap.size := m2.lt
  clear eg2
  refine Fx.L.new (m := 54) (y := Fx.rv .i64 (fun _ => 0)) (by rfl) rfl (by kernel_rfl) rfl fun g3 w3 eg3 m4 s3 z3 => ?_
  have m5 : Fx.Blk w3 g1 4 (stepY d i j n) 103 := m3.stp s3 (Nat.ne_of_lt (m3.lt))
  have m6 : Fx.Blk w3 g2 54 (Fx.rv .i64 x) 48 := m2.stp s3 (Nat.ne_of_lt (m2.lt))
  have b3 : Below w.heap.size w w3 := s3.below b2 b2.size b2.size
  have lg3 : w.heap.size ≤ g3 := by rw [eg3]; exact b2.size
  have ng3m5 : g1 ≠ g3 := by rw [eg3]; exact Nat.ne_of_lt (m3.lt)
  have ng3m6 : g2 ≠ g3 := by rw [eg3]; exact Nat.ne_of_lt (m2.lt)
  have tg3 : g3 < w3.heap.size := m4.lt
  clear eg3
  refine Fx.L.val (v := .int .i64 (0)) (by rfl) (Fx.x_assign rfl rfl) rfl ?_
  refine Fx.L.nil ?_
  refine Fx.seqN ?_
  refine Fx.W.seq ?_
  refine Fx.W.seq ?_
  refine Fx.W.list ?_
  refine Fx.L.val (v := .pointer (some ⟨g1, 0, none⟩)) (by rfl) (Fx.x_field rfl rfl Try.underlying103 rfl (s := 1) (by kernel_rfl) rfl rfl) rfl ?_
  refine Fx.L.val (v := .int .u8 (d)) (by rfl) (Fx.x_load1 (x := stepY d i j n) rfl rfl (by kernel_rfl) m5.cel (i := 0) (by omega) (by omega) rfl) rfl ?_
  refine Fx.L.val (v := .int .u8 (d % 4)) (by rfl) (Fx.x_rem rfl rfl rfl (by omega) (Int.tmod_eq_emod_of_nonneg (by omega))) rfl ?_
  refine Fx.L.nil ?_
  refine Fx.seqN ?_
  refine Fx.W.block ?_
  refine Fx.W.seq ?_
  refine Fx.W.list ?_
  by_cases c10 : (d % 4) = 0
  · refine Fx.L.val (v := .bool true) (by rfl) (Fx.x_eqlT rfl rfl rfl c10) rfl ?_
    refine Fx.L.val (v := .bool true) (by rfl) (Fx.x_assign rfl rfl) rfl ?_
    refine Fx.L.nil ?_
    refine Fx.seqN ?_
    refine Fx.W.cond (b := true) rfl (fun _ => ?_) (fun h => nomatch h)
    refine Fx.W.seq ?_
    refine Fx.W.list ?_
    refine Fx.L.val (v := .agg (Fx.varr 54 (Fx.rv .i64 x))) (by rfl) (Fx.x_loadA (x := Fx.rv .i64 x) (y := Fx.rv .i64 x) rfl rfl (by kernel_rfl) (by kernel_rfl) m6.cel (i := 0) (by omega) (by omega) (fun j _ => by rw [Nat.zero_add])) rfl ?_
    refine Fx.L.val (v := .pointer (some ⟨g1, 1, none⟩)) (by rfl) (Fx.x_field rfl rfl Try.underlying103 rfl (s := 1) (by kernel_rfl) rfl (by show _ + 1 = _; omega)) rfl ?_
    refine Fx.L.val (v := .int .i64 (i)) (by rfl) (Fx.x_load1 (x := stepY d i j n) rfl rfl (by kernel_rfl) m5.cel (i := 1) (by omega) (by omega) rfl) rfl ?_
    refine Fx.L.val (v := .pointer (some ⟨g1, 3, none⟩)) (by rfl) (Fx.x_field rfl rfl Try.underlying103 rfl (s := 1) (by kernel_rfl) rfl (by show _ + 3 = _; omega)) rfl ?_
    refine Fx.L.val (v := .int .i64 (n)) (by rfl) (Fx.x_load1 (x := stepY d i j n) rfl rfl (by kernel_rfl) m5.cel (i := 3) (by omega) (by omega) rfl) rfl ?_
    refine Fx.L.call (by rfl) (Fx.r_call (args := [.agg (Fx.varr 54 (Fx.rv .i64 x)), .int .i64 (i), .int .i64 (n)]) rfl rfl Try.func92 rfl rfl) rfl ((f7_give x i n _).mono ?_)
    rintro e w4 ⟨he, hb1⟩
    refine ⟨.tuple #[.agg (Fx.varr 54 (Fx.rv .i64 ((giveM x i n).1))), .int .i64 ((giveM x i n).2)], by rw [he], ?_⟩
    clear he
    have s4 := Fx.Stp.of_below hb1
    have m7 : Fx.Blk w4 g1 4 (stepY d i j n) 103 := m5.stp s4 (Nat.ne_of_lt (m5.lt))
    have m8 : Fx.Blk w4 g2 54 (Fx.rv .i64 x) 48 := m6.stp s4 (Nat.ne_of_lt (m6.lt))
    have m9 : Fx.Blk w4 g3 54 (Fx.rv .i64 (fun _ => 0)) 48 := m4.stp s4 (Nat.ne_of_lt (m4.lt))
    have b4 : Below w.heap.size w w4 := s4.below b3 b3.size b3.size
    refine Fx.L.val (v := .agg (Fx.varr 54 (Fx.rv .i64 ((giveM x i n).1)))) (by rfl) (Fx.x_extract rfl rfl rfl) rfl ?_
    refine Fx.L.val (v := .int .i64 ((giveM x i n).2)) (by rfl) (Fx.x_extract rfl rfl rfl) rfl ?_
    refine Fx.L.storeA (x := Fx.rv .i64 (fun _ => 0)) (y := Fx.rv .i64 ((giveM x i n).1)) (by rfl) rfl rfl rfl rfl (fun _ _ => rfl) (by kernel_rfl) m9 (i := 0) (by omega) fun w5 m10 s5 z4 => ?_
    have m11 : Fx.Blk w5 g3 54 (Fx.rv .i64 ((giveM x i n).1)) 48 := Fx.ovr_all m10
    have m12 : Fx.Blk w5 g1 4 (stepY d i j n) 103 := m7.stp s5 (by omega)
    have m13 : Fx.Blk w5 g2 54 (Fx.rv .i64 x) 48 := m8.stp s5 (by omega)
    have b5 : Below w.heap.size w w5 := s5.below b4 b4.size (by omega)
    refine Fx.L.val (v := .int .i64 ((giveM x i n).2)) (by rfl) (Fx.x_assign rfl rfl) rfl ?_
    refine Fx.L.nil ?_
    refine Fx.seqN ?_
    refine Fx.W.ret ?_
    refine Fx.blkR ?_
    refine Fx.seqR ?_
    refine ⟨.tuple #[.agg (Fx.varr 54 (Fx.rv .i64 ((giveM x i n).1))), .int .i64 ((giveM x i n).2)], Fx.retV2 Try.results50 ⟨_, rfl, Fx.run_loadV m11.cel (by kernel_rfl) (by kernel_rfl)⟩ (by exact rfl), ?_⟩
    refine ⟨?_, b5⟩
    rw [show doesM x d i j n = _ from by unfold doesM; rw [if_pos c10]]
  · refine Fx.L.val (v := .bool false) (by rfl) (Fx.x_eqlF rfl rfl rfl c10) rfl ?_
    refine Fx.L.val (v := .bool false) (by rfl) (Fx.x_assign rfl rfl) rfl ?_
    refine Fx.L.nil ?_
    refine Fx.seqN ?_
    refine Fx.W.cond (b := false) rfl (fun h => nomatch h) (fun _ => ?_)
    refine Fx.W.seq ?_
    refine Fx.W.list ?_
    by_cases c20 : (d % 4) = 1
    · refine Fx.L.val (v := .bool true) (by rfl) (Fx.x_eqlT rfl rfl rfl c20) rfl ?_
      refine Fx.L.val (v := .bool true) (by rfl) (Fx.x_assign rfl rfl) rfl ?_
      refine Fx.L.nil ?_
      refine Fx.seqN ?_
      refine Fx.W.cond (b := true) rfl (fun _ => ?_) (fun h => nomatch h)
      refine Fx.W.seq ?_
      refine Fx.W.list ?_
      refine Fx.L.val (v := .agg (Fx.varr 54 (Fx.rv .i64 x))) (by rfl) (Fx.x_loadA (x := Fx.rv .i64 x) (y := Fx.rv .i64 x) rfl rfl (by kernel_rfl) (by kernel_rfl) m6.cel (i := 0) (by omega) (by omega) (fun j _ => by rw [Nat.zero_add])) rfl ?_
      refine Fx.L.val (v := .pointer (some ⟨g1, 1, none⟩)) (by rfl) (Fx.x_field rfl rfl Try.underlying103 rfl (s := 1) (by kernel_rfl) rfl (by show _ + 1 = _; omega)) rfl ?_
      refine Fx.L.val (v := .int .i64 (i)) (by rfl) (Fx.x_load1 (x := stepY d i j n) rfl rfl (by kernel_rfl) m5.cel (i := 1) (by omega) (by omega) rfl) rfl ?_
      refine Fx.L.val (v := .pointer (some ⟨g1, 3, none⟩)) (by rfl) (Fx.x_field rfl rfl Try.underlying103 rfl (s := 1) (by kernel_rfl) rfl (by show _ + 3 = _; omega)) rfl ?_
      refine Fx.L.val (v := .int .i64 (n)) (by rfl) (Fx.x_load1 (x := stepY d i j n) rfl rfl (by kernel_rfl) m5.cel (i := 3) (by omega) (by omega) rfl) rfl ?_
      refine Fx.L.call (by rfl) (Fx.r_call (args := [.agg (Fx.varr 54 (Fx.rv .i64 x)), .int .i64 (i), .int .i64 (n)]) rfl rfl Try.func93 rfl rfl) rfl ((f7_take x i n _).mono ?_)
      rintro e w6 ⟨he, hb2⟩
      refine ⟨.tuple #[.agg (Fx.varr 54 (Fx.rv .i64 ((takeM x i n).1))), .int .i64 ((takeM x i n).2)], by rw [he], ?_⟩
      clear he
      have s6 := Fx.Stp.of_below hb2
      have m14 : Fx.Blk w6 g1 4 (stepY d i j n) 103 := m5.stp s6 (Nat.ne_of_lt (m5.lt))
      have m15 : Fx.Blk w6 g2 54 (Fx.rv .i64 x) 48 := m6.stp s6 (Nat.ne_of_lt (m6.lt))
      have m16 : Fx.Blk w6 g3 54 (Fx.rv .i64 (fun _ => 0)) 48 := m4.stp s6 (Nat.ne_of_lt (m4.lt))
      have b6 : Below w.heap.size w w6 := s6.below b3 b3.size b3.size
      refine Fx.L.val (v := .agg (Fx.varr 54 (Fx.rv .i64 ((takeM x i n).1)))) (by rfl) (Fx.x_extract rfl rfl rfl) rfl ?_
      refine Fx.L.val (v := .int .i64 ((takeM x i n).2)) (by rfl) (Fx.x_extract rfl rfl rfl) rfl ?_
      refine Fx.L.storeA (x := Fx.rv .i64 (fun _ => 0)) (y := Fx.rv .i64 ((takeM x i n).1)) (by rfl) rfl rfl rfl rfl (fun _ _ => rfl) (by kernel_rfl) m16 (i := 0) (by omega) fun w7 m17 s7 z5 => ?_
      have m18 : Fx.Blk w7 g3 54 (Fx.rv .i64 ((takeM x i n).1)) 48 := Fx.ovr_all m17
      have m19 : Fx.Blk w7 g1 4 (stepY d i j n) 103 := m14.stp s7 (by omega)
      have m20 : Fx.Blk w7 g2 54 (Fx.rv .i64 x) 48 := m15.stp s7 (by omega)
      have b7 : Below w.heap.size w w7 := s7.below b6 b6.size (by omega)
      refine Fx.L.val (v := .int .i64 ((takeM x i n).2)) (by rfl) (Fx.x_assign rfl rfl) rfl ?_
      refine Fx.L.nil ?_
      refine Fx.seqN ?_
      refine Fx.W.ret ?_
      refine Fx.blkR ?_
      refine Fx.seqR ?_
      refine ⟨.tuple #[.agg (Fx.varr 54 (Fx.rv .i64 ((takeM x i n).1))), .int .i64 ((takeM x i n).2)], Fx.retV2 Try.results50 ⟨_, rfl, Fx.run_loadV m18.cel (by kernel_rfl) (by kernel_rfl)⟩ (by exact rfl), ?_⟩
      refine ⟨?_, b7⟩
      rw [show doesM x d i j n = _ from by unfold doesM; rw [if_neg c10, if_pos c20]]
    · refine Fx.L.val (v := .bool false) (by rfl) (Fx.x_eqlF rfl rfl rfl c20) rfl ?_
      refine Fx.L.val (v := .bool false) (by rfl) (Fx.x_assign rfl rfl) rfl ?_
      refine Fx.L.nil ?_
      refine Fx.seqN ?_
      refine Fx.W.cond (b := false) rfl (fun h => nomatch h) (fun _ => ?_)
      refine Fx.W.seq ?_
      refine Fx.W.list ?_
      by_cases c30 : (d % 4) = 2
      · refine Fx.L.val (v := .bool true) (by rfl) (Fx.x_eqlT rfl rfl rfl c30) rfl ?_
        refine Fx.L.val (v := .bool true) (by rfl) (Fx.x_assign rfl rfl) rfl ?_
        refine Fx.L.nil ?_
        refine Fx.seqN ?_
        refine Fx.W.cond (b := true) rfl (fun _ => ?_) (fun h => nomatch h)
        refine Fx.W.seq ?_
        refine Fx.W.list ?_
        refine Fx.L.val (v := .agg (Fx.varr 54 (Fx.rv .i64 x))) (by rfl) (Fx.x_loadA (x := Fx.rv .i64 x) (y := Fx.rv .i64 x) rfl rfl (by kernel_rfl) (by kernel_rfl) m6.cel (i := 0) (by omega) (by omega) (fun j _ => by rw [Nat.zero_add])) rfl ?_
        refine Fx.L.val (v := .pointer (some ⟨g1, 1, none⟩)) (by rfl) (Fx.x_field rfl rfl Try.underlying103 rfl (s := 1) (by kernel_rfl) rfl (by show _ + 1 = _; omega)) rfl ?_
        refine Fx.L.val (v := .int .i64 (i)) (by rfl) (Fx.x_load1 (x := stepY d i j n) rfl rfl (by kernel_rfl) m5.cel (i := 1) (by omega) (by omega) rfl) rfl ?_
        refine Fx.L.val (v := .pointer (some ⟨g1, 3, none⟩)) (by rfl) (Fx.x_field rfl rfl Try.underlying103 rfl (s := 1) (by kernel_rfl) rfl (by show _ + 3 = _; omega)) rfl ?_
        refine Fx.L.val (v := .int .i64 (n)) (by rfl) (Fx.x_load1 (x := stepY d i j n) rfl rfl (by kernel_rfl) m5.cel (i := 3) (by omega) (by omega) rfl) rfl ?_
        refine Fx.L.call (by rfl) (Fx.r_call (args := [.agg (Fx.varr 54 (Fx.rv .i64 x)), .int .i64 (i), .int .i64 (n)]) rfl rfl Try.func94 rfl rfl) rfl ((f7_free x i n _).mono ?_)
        rintro e w8 ⟨he, hb3⟩
        refine ⟨.tuple #[.agg (Fx.varr 54 (Fx.rv .i64 ((freeM x i n).1))), .int .i64 ((freeM x i n).2)], by rw [he], ?_⟩
        clear he
        have s8 := Fx.Stp.of_below hb3
        have m21 : Fx.Blk w8 g1 4 (stepY d i j n) 103 := m5.stp s8 (Nat.ne_of_lt (m5.lt))
        have m22 : Fx.Blk w8 g2 54 (Fx.rv .i64 x) 48 := m6.stp s8 (Nat.ne_of_lt (m6.lt))
        have m23 : Fx.Blk w8 g3 54 (Fx.rv .i64 (fun _ => 0)) 48 := m4.stp s8 (Nat.ne_of_lt (m4.lt))
        have b8 : Below w.heap.size w w8 := s8.below b3 b3.size b3.size
        refine Fx.L.val (v := .agg (Fx.varr 54 (Fx.rv .i64 ((freeM x i n).1)))) (by rfl) (Fx.x_extract rfl rfl rfl) rfl ?_
        refine Fx.L.val (v := .int .i64 ((freeM x i n).2)) (by rfl) (Fx.x_extract rfl rfl rfl) rfl ?_
        refine Fx.L.storeA (x := Fx.rv .i64 (fun _ => 0)) (y := Fx.rv .i64 ((freeM x i n).1)) (by rfl) rfl rfl rfl rfl (fun _ _ => rfl) (by kernel_rfl) m23 (i := 0) (by omega) fun w9 m24 s9 z6 => ?_
        have m25 : Fx.Blk w9 g3 54 (Fx.rv .i64 ((freeM x i n).1)) 48 := Fx.ovr_all m24
        have m26 : Fx.Blk w9 g1 4 (stepY d i j n) 103 := m21.stp s9 (by omega)
        have m27 : Fx.Blk w9 g2 54 (Fx.rv .i64 x) 48 := m22.stp s9 (by omega)
        have b9 : Below w.heap.size w w9 := s9.below b8 b8.size (by omega)
        refine Fx.L.val (v := .int .i64 ((freeM x i n).2)) (by rfl) (Fx.x_assign rfl rfl) rfl ?_
        refine Fx.L.nil ?_
        refine Fx.seqN ?_
        refine Fx.W.ret ?_
        refine Fx.blkR ?_
        refine Fx.seqR ?_
        refine ⟨.tuple #[.agg (Fx.varr 54 (Fx.rv .i64 ((freeM x i n).1))), .int .i64 ((freeM x i n).2)], Fx.retV2 Try.results50 ⟨_, rfl, Fx.run_loadV m25.cel (by kernel_rfl) (by kernel_rfl)⟩ (by exact rfl), ?_⟩
        refine ⟨?_, b9⟩
        rw [show doesM x d i j n = _ from by unfold doesM; rw [if_neg c10, if_neg c20, if_pos c30]]
      · refine Fx.L.val (v := .bool false) (by rfl) (Fx.x_eqlF rfl rfl rfl c30) rfl ?_
        refine Fx.L.val (v := .bool false) (by rfl) (Fx.x_assign rfl rfl) rfl ?_
        refine Fx.L.nil ?_
        refine Fx.seqN ?_
        refine Fx.W.cond (b := false) rfl (fun h => nomatch h) (fun _ => ?_)
        refine Fx.W.skip ?_
        refine Fx.blkN ?_
        refine Fx.seqN ?_
        refine Fx.W.seq ?_
        refine Fx.W.list ?_
        refine Fx.L.val (v := .agg (Fx.varr 54 (Fx.rv .i64 x))) (by rfl) (Fx.x_loadA (x := Fx.rv .i64 x) (y := Fx.rv .i64 x) rfl rfl (by kernel_rfl) (by kernel_rfl) m6.cel (i := 0) (by omega) (by omega) (fun j _ => by rw [Nat.zero_add])) rfl ?_
        refine Fx.L.val (v := .pointer (some ⟨g1, 1, none⟩)) (by rfl) (Fx.x_field rfl rfl Try.underlying103 rfl (s := 1) (by kernel_rfl) rfl (by show _ + 1 = _; omega)) rfl ?_
        refine Fx.L.val (v := .int .i64 (i)) (by rfl) (Fx.x_load1 (x := stepY d i j n) rfl rfl (by kernel_rfl) m5.cel (i := 1) (by omega) (by omega) rfl) rfl ?_
        refine Fx.L.val (v := .pointer (some ⟨g1, 2, none⟩)) (by rfl) (Fx.x_field rfl rfl Try.underlying103 rfl (s := 1) (by kernel_rfl) rfl (by show _ + 2 = _; omega)) rfl ?_
        refine Fx.L.val (v := .int .i64 (j)) (by rfl) (Fx.x_load1 (x := stepY d i j n) rfl rfl (by kernel_rfl) m5.cel (i := 2) (by omega) (by omega) rfl) rfl ?_
        refine Fx.L.val (v := .pointer (some ⟨g1, 3, none⟩)) (by rfl) (Fx.x_field rfl rfl Try.underlying103 rfl (s := 1) (by kernel_rfl) rfl (by show _ + 3 = _; omega)) rfl ?_
        refine Fx.L.val (v := .int .i64 (n)) (by rfl) (Fx.x_load1 (x := stepY d i j n) rfl rfl (by kernel_rfl) m5.cel (i := 3) (by omega) (by omega) rfl) rfl ?_
        refine Fx.L.call (by rfl) (Fx.r_call (args := [.agg (Fx.varr 54 (Fx.rv .i64 x)), .int .i64 (i), .int .i64 (j), .int .i64 (n)]) rfl rfl Try.func95 rfl rfl) rfl ((f7_move x i j n _).mono ?_)
        rintro e w10 ⟨he, hb4⟩
        refine ⟨.tuple #[.agg (Fx.varr 54 (Fx.rv .i64 ((moveM x i j n).1))), .int .i64 ((moveM x i j n).2)], by rw [he], ?_⟩
        clear he
        have s10 := Fx.Stp.of_below hb4
        have m28 : Fx.Blk w10 g1 4 (stepY d i j n) 103 := m5.stp s10 (Nat.ne_of_lt (m5.lt))
        have m29 : Fx.Blk w10 g2 54 (Fx.rv .i64 x) 48 := m6.stp s10 (Nat.ne_of_lt (m6.lt))
        have m30 : Fx.Blk w10 g3 54 (Fx.rv .i64 (fun _ => 0)) 48 := m4.stp s10 (Nat.ne_of_lt (m4.lt))
        have b10 : Below w.heap.size w w10 := s10.below b3 b3.size b3.size
        refine Fx.L.val (v := .agg (Fx.varr 54 (Fx.rv .i64 ((moveM x i j n).1)))) (by rfl) (Fx.x_extract rfl rfl rfl) rfl ?_
        refine Fx.L.val (v := .int .i64 ((moveM x i j n).2)) (by rfl) (Fx.x_extract rfl rfl rfl) rfl ?_
        refine Fx.L.storeA (x := Fx.rv .i64 (fun _ => 0)) (y := Fx.rv .i64 ((moveM x i j n).1)) (by rfl) rfl rfl rfl rfl (fun _ _ => rfl) (by kernel_rfl) m30 (i := 0) (by omega) fun w11 m31 s11 z7 => ?_
        have m32 : Fx.Blk w11 g3 54 (Fx.rv .i64 ((moveM x i j n).1)) 48 := Fx.ovr_all m31
        have m33 : Fx.Blk w11 g1 4 (stepY d i j n) 103 := m28.stp s11 (by omega)
        have m34 : Fx.Blk w11 g2 54 (Fx.rv .i64 x) 48 := m29.stp s11 (by omega)
        have b11 : Below w.heap.size w w11 := s11.below b10 b10.size (by omega)
        refine Fx.L.val (v := .int .i64 ((moveM x i j n).2)) (by rfl) (Fx.x_assign rfl rfl) rfl ?_
        refine Fx.L.nil ?_
        refine Fx.seqN ?_
        refine Fx.W.ret ?_
        refine ⟨.tuple #[.agg (Fx.varr 54 (Fx.rv .i64 ((moveM x i j n).1))), .int .i64 ((moveM x i j n).2)], Fx.retV2 Try.results50 ⟨_, rfl, Fx.run_loadV m32.cel (by kernel_rfl) (by kernel_rfl)⟩ (by exact rfl), ?_⟩
        refine ⟨?_, b11⟩
        rw [show doesM x d i j n = _ from by unfold doesM; rw [if_neg c10, if_neg c20, if_neg c30]]
end Go.Proofs.Ytolmkjepieoloaa
