/-
  What the proof of the law rests on, part 2: walks of functions, and plain laws; each says its conditions itself.
-/
import Derived.Test.YtleajegppehbdaaRows
import Derived.BigRegion
import Derived.Deep.DeepCutAuto
import Derived.Laws.StructEq
import Derived.Shelf.SlSortCmp.NoneTotal
import Derived.Shelf.SlSortCmp.WholeK
import Derived.Lib.SliceRun
import Derived.Ground.SlsfProg
import Derived.Test.YtleajegppehbdaaProg
import Derived.StillTailTactics
import Derived.Test.YtleajegppehbdaaZA1
namespace Go.Proofs.Ytleajegppehbdaa
open Go.RowKit Rt
theorem Kd_cong {ks : List (Option IntKind)} {x y : Nat → Value} (h : Fx.Kd ks y) (e : ∀ j, j < ks.length → x j = y j) : Fx.Kd ks x := fun i hi => by rw [e i hi]; exact h i hi
namespace Rt
theorem bareV_wf {v : EvM} (h : EvWf v) : EvWf (bareV v) := by
  have z : U64r 0 := ⟨by decide, by decide⟩
  have y : I64r 0 := ⟨by decide, by decide⟩
  exact ⟨h.o, h.seq, h.deps, h.kind, z, y, y, z, z⟩
theorem kindV_wf {v : EvM} (h : EvWf v) : EvWf (kindV v) := by
  have z : U64r 0 := ⟨by decide, by decide⟩
  have y : I64r 0 := ⟨by decide, by decide⟩
  unfold kindV
  split
  · exact ⟨h.o, h.seq, h.deps, h.kind, z, h.dst, y, h.req, h.of⟩
  split
  · exact ⟨h.o, h.seq, h.deps, h.kind, z, h.dst, y, h.req, h.of⟩
  split
  · exact ⟨h.o, h.seq, h.deps, h.kind, z, h.dst, y, z, h.of⟩
  split
  · exact ⟨h.o, h.seq, h.deps, h.kind, h.node, h.dst, h.amt, z, z⟩
  split
  · exact ⟨h.o, h.seq, h.deps, h.kind, z, y, y, h.req, h.of⟩
  split
  · exact ⟨h.o, h.seq, h.deps, h.kind, h.node, y, h.amt, h.req, h.of⟩
  · exact h
end Rt
set_option maxHeartbeats 2000000 in
theorem v_may (v : EvM) (w : World) (hv : EvWf v) :
    Calls Try.prog 42 #[.agg (Fx.varr 14 (evY v))] w fun e w' => e = .returned (.bool (mayE v)) ∧ Below w.heap.size w w' := by
 refine Fx.enter Try.func42 rfl (n := 55) rfl (by rfl) ?_
 refine Fx.W.seq (Fx.W.list (Fx.L.box (m := 14) (y := evY v) (by rfl) rfl rfl (Fx.cells_agg _ _) rfl fun g1 w1 eg1 m1 s1 z1 => ?_))
 have b1 := s1.below (Below.refl w.heap.size w) (Below.refl w.heap.size w).size (Below.refl w.heap.size w).size
 have lg1 : w.heap.size ≤ g1 := by rw [eg1]; exact (Below.refl w.heap.size w).size
 have tg1 : g1 < w1.heap.size := m1.lt
 clear eg1
 refine Fx.L.v (.bool false) (Fx.x_assign rfl rfl) ?_
 refine Fx.L.nil (Fx.seqN (Fx.W.seq (Fx.W.seq ?_)))
 -- region 1 draws
 refine Fx.W.quiet (fun v1 => Below w1.heap.size w1 v1) (by kernel_rfl) (by kernel_rfl) (Below.refl _ _).drew ?_
 refine Fx.Qt.v (.pointer (some ⟨g1, 0, none⟩)) (fun v1 hv1 => Fx.x_field rfl rfl Try.underlying50 rfl (s := 1) (by kernel_rfl) rfl rfl) ?_
 refine Fx.Qt.v (.int .i64 (v.o)) (fun v1 hv1 => Fx.x_load1 (x := evY v) rfl rfl (by kernel_rfl) (m1.cel.below hv1 (by have := m1.lt; omega)) (i := 0) (by omega) (by omega) rfl) ?_
 by_cases c6 : (regE v.o) = true
 ·obtain ⟨a, ha, ea⟩ := regE_nat c6
  refine Fx.Qt.call (v := .bool true) (by rfl) (fun v1 hv1 => Fx.r_call (args := [.int .i64 (v.o)]) rfl rfl Try.func58 rfl rfl) rfl (fun v1 hv1 => (v_region v.o _).mono fun e v2 h => ⟨by rw [h.1, c6], by rw [h.2]; exact hv1⟩) ?_
  refine Fx.Qt.v (.bool false) (fun v1 hv1 => Fx.x_notF rfl rfl) ?_
  refine Fx.Qt.v (.bool false) (fun v1 hv1 => Fx.x_move rfl rfl) ?_
  refine Fx.Qt.v (.pointer (some ⟨g1, 1, none⟩)) (fun v1 hv1 => Fx.x_field rfl rfl Try.underlying50 rfl (s := 1) (by kernel_rfl) rfl (by show _ + 1 = _; omega)) ?_
  refine Fx.Qt.v (.int .u64 (v.seq)) (fun v1 hv1 => Fx.x_load1 (x := evY v) rfl rfl (by kernel_rfl) (m1.cel.below hv1 (by have := m1.lt; omega)) (i := 1) (by omega) (by omega) rfl) ?_
  by_cases c11 : v.seq < 1
  ·refine Fx.Qt.v (.bool true) (fun v1 hv1 => Fx.x_lssT rfl rfl rfl c11) ?_
   refine Fx.Qt.v (.bool true) (fun v1 hv1 => Fx.x_pickF rfl rfl rfl) ?_
   refine Fx.Qt.v (.bool true) (fun v1 hv1 => Fx.x_move rfl rfl) ?_
   refine Fx.Qt.skip (by rfl) rfl ?_
   refine Fx.Qt.skip (by rfl) rfl ?_
   refine Fx.Qt.skip (by rfl) rfl ?_
   refine Fx.Qt.v (.bool true) (fun v1 hv1 => Fx.x_pickT rfl rfl rfl) ?_
   refine Fx.Qt.v (.bool true) (fun v1 hv1 => Fx.x_move rfl rfl) ?_
   refine Fx.Qt.skip (by rfl) rfl ?_
   refine Fx.Qt.skip (by rfl) rfl ?_
   refine Fx.Qt.skip (by rfl) rfl ?_
   refine Fx.Qt.skip (by rfl) rfl ?_
   refine Fx.Qt.skip (by rfl) rfl ?_
   refine Fx.Qt.skip (by rfl) rfl ?_
   refine Fx.Qt.skip (by rfl) rfl ?_
   refine Fx.Qt.skip (by rfl) rfl ?_
   refine Fx.Qt.skip (by rfl) rfl ?_
   refine Fx.Qt.skip (by rfl) rfl ?_
   refine Fx.Qt.v (.bool true) (fun v1 hv1 => Fx.x_pickT rfl rfl rfl) ?_
   refine Fx.Qt.nil ?_
   intro wb1 hbwb1
   have s2 : Fx.Stp w1.heap.size w1 wb1 := Fx.Stp.of_below hbwb1
   have m2 := m1.stp s2 (Nat.ne_of_lt (m1.lt))
   have b2 := s2.below b1 b1.size b1.size
   refine Fx.seqN (Fx.W.cond (b := true) rfl (fun _ => Fx.W.seq (Fx.W.list (Fx.L.v (.bool false) (Fx.x_assign rfl rfl) ?_))) (fun h => nomatch h))
   refine Fx.L.nil (Fx.seqN (Fx.W.ret (Fx.seqR (⟨.bool false, Fx.retV1 Try.results42 (by exact rfl), ?_⟩))))
   have m2 : decide (1 ≤ v.seq) = false := decide_eq_false (by omega)
   exact ⟨congrArg (fun q => Ending.returned (Value.bool q)) (Eq.symm (by unfold mayE; rw [c6, m2]; try rfl)), b2⟩
  ·refine Fx.Qt.v (.bool false) (fun v1 hv1 => Fx.x_lssF rfl rfl rfl c11) ?_
   refine Fx.Qt.v (.bool false) (fun v1 hv1 => Fx.x_pickF rfl rfl rfl) ?_
   refine Fx.Qt.v (.bool false) (fun v1 hv1 => Fx.x_move rfl rfl) ?_
   refine Fx.Qt.v (.pointer (some ⟨g1, 1, none⟩)) (fun v1 hv1 => Fx.x_field rfl rfl Try.underlying50 rfl (s := 1) (by kernel_rfl) rfl (by show _ + 1 = _; omega)) ?_
   refine Fx.Qt.v (.int .u64 (v.seq)) (fun v1 hv1 => Fx.x_load1 (x := evY v) rfl rfl (by kernel_rfl) (m1.cel.below hv1 (by have := m1.lt; omega)) (i := 1) (by omega) (by omega) rfl) ?_
   by_cases c16 : 1099511627776 ≤ v.seq
   ·refine Fx.Qt.v (.bool true) (fun v1 hv1 => Fx.x_geqT rfl rfl rfl c16) ?_
    refine Fx.Qt.v (.bool true) (fun v1 hv1 => Fx.x_pickF rfl rfl rfl) ?_
    refine Fx.Qt.v (.bool true) (fun v1 hv1 => Fx.x_move rfl rfl) ?_
    refine Fx.Qt.skip (by rfl) rfl ?_
    refine Fx.Qt.skip (by rfl) rfl ?_
    refine Fx.Qt.skip (by rfl) rfl ?_
    refine Fx.Qt.skip (by rfl) rfl ?_
    refine Fx.Qt.skip (by rfl) rfl ?_
    refine Fx.Qt.skip (by rfl) rfl ?_
    refine Fx.Qt.skip (by rfl) rfl ?_
    refine Fx.Qt.skip (by rfl) rfl ?_
    refine Fx.Qt.skip (by rfl) rfl ?_
    refine Fx.Qt.skip (by rfl) rfl ?_
    refine Fx.Qt.v (.bool true) (fun v1 hv1 => Fx.x_pickT rfl rfl rfl) ?_
    refine Fx.Qt.nil ?_
    intro wb2 hbwb2
    have s3 : Fx.Stp w1.heap.size w1 wb2 := Fx.Stp.of_below hbwb2
    have m3 := m1.stp s3 (Nat.ne_of_lt (m1.lt))
    have b3 := s3.below b1 b1.size b1.size
    refine Fx.seqN (Fx.W.cond (b := true) rfl (fun _ => Fx.W.seq (Fx.W.list (Fx.L.v (.bool false) (Fx.x_assign rfl rfl) ?_))) (fun h => nomatch h))
    refine Fx.L.nil (Fx.seqN (Fx.W.ret (Fx.seqR (⟨.bool false, Fx.retV1 Try.results42 (by exact rfl), ?_⟩))))
    have m2 : decide (1 ≤ v.seq) = true := decide_eq_true (by omega)
    have m3 : decide (v.seq < 1099511627776) = false := decide_eq_false (by omega)
    exact ⟨congrArg (fun q => Ending.returned (Value.bool q)) (Eq.symm (by unfold mayE; rw [c6, m2, m3]; try rfl)), b3⟩
   ·refine Fx.Qt.v (.bool false) (fun v1 hv1 => Fx.x_geqF rfl rfl rfl c16) ?_
    refine Fx.Qt.v (.bool false) (fun v1 hv1 => Fx.x_pickF rfl rfl rfl) ?_
    refine Fx.Qt.v (.bool false) (fun v1 hv1 => Fx.x_move rfl rfl) ?_
    refine Fx.Qt.v (.pointer (some ⟨g1, 0, none⟩)) (fun v1 hv1 => Fx.x_field rfl rfl Try.underlying50 rfl (s := 1) (by kernel_rfl) rfl rfl) ?_
    refine Fx.Qt.v (.int .i64 (v.o)) (fun v1 hv1 => Fx.x_load1 (x := evY v) rfl rfl (by kernel_rfl) (m1.cel.below hv1 (by have := m1.lt; omega)) (i := 0) (by omega) (by omega) rfl) ?_
    refine Fx.Qt.v (.int .i64 ((a : Int))) (fun v1 hv1 => Fx.x_sub rfl rfl rfl (Fx.i64e (by omega) (by omega))) ?_
    refine Fx.Qt.v (.pointer (some ⟨g1, 2, none⟩)) (fun v1 hv1 => Fx.x_field rfl rfl Try.underlying50 rfl (s := 6) (by kernel_rfl) rfl (by show _ + 2 = _; omega)) ?_
    refine Fx.Qt.v (.pointer (some ⟨g1, a + 2, none⟩)) (fun v1 hv1 => Fx.x_index rfl rfl rfl Try.underlying32 (s := 1) (by kernel_rfl) (by omega) (by omega) (by omega)) ?_
    refine Fx.Qt.v (.int .u64 (v.deps a)) (fun v1 hv1 => Fx.x_load1 (x := evY v) rfl rfl (by kernel_rfl) (m1.cel.below hv1 (by have := m1.lt; omega)) (i := a + 2) (by omega) (by omega) (evY_deps _ (by omega) (by omega))) ?_
    refine Fx.Qt.v (.pointer (some ⟨g1, 1, none⟩)) (fun v1 hv1 => Fx.x_field rfl rfl Try.underlying50 rfl (s := 1) (by kernel_rfl) rfl (by show _ + 1 = _; omega)) ?_
    refine Fx.Qt.v (.int .u64 (v.seq)) (fun v1 hv1 => Fx.x_load1 (x := evY v) rfl rfl (by kernel_rfl) (m1.cel.below hv1 (by have := m1.lt; omega)) (i := 1) (by omega) (by omega) rfl) ?_
    refine Fx.Qt.v (.int .u64 (v.seq - 1)) (fun v1 hv1 => Fx.x_sub rfl rfl rfl (Fx.u64e (by omega) (by omega))) ?_
    by_cases c28 : (v.deps a) = (v.seq - 1)
    ·refine Fx.Qt.v (.bool false) (fun v1 hv1 => Fx.x_neqF rfl rfl rfl c28) ?_
     refine Fx.Qt.v (.bool false) (fun v1 hv1 => Fx.x_pickF rfl rfl rfl) ?_
     refine Fx.Qt.nil ?_
     intro wb3 hbwb3
     have s4 : Fx.Stp w1.heap.size w1 wb3 := Fx.Stp.of_below hbwb3
     have m4 := m1.stp s4 (Nat.ne_of_lt (m1.lt))
     have b4 := s4.below b1 b1.size b1.size
     refine Fx.seqN (Fx.W.cond (b := false) rfl (fun h => nomatch h) (fun _ => Fx.W.skip (Fx.seqN (Fx.W.seq (Fx.W.seq (Fx.W.list (Fx.L.v (.pointer (some ⟨g1, 2, none⟩)) (Fx.x_field rfl rfl Try.underlying50 rfl (s := 6) (by kernel_rfl) rfl (by show _ + 2 = _; omega)) ?_)))))))
     refine Fx.L.v (.slice (some ⟨g1, 2, none⟩) (6) (6)) (Fx.x_sliceArr rfl rfl Try.underlying32 (s := 1) (by kernel_rfl)) ?_
     refine Fx.L.call (by rfl) (Fx.r_call (args := [.slice (some ⟨g1, 2, none⟩) (6) (6)]) rfl rfl Try.func59 rfl rfl) rfl ((v_max v.deps g1 2 _ (fun j hj => by have h1 := m4.cel (2 + j) (by omega); rw [Nat.zero_add] at h1; rw [h1, evY_deps v (p := 2 + j) (j := j) (by omega) hj]; rfl)).mono ?_)
     rintro e w2 ⟨he, hb1⟩
     refine ⟨.int .u64 (mxs v.deps 5), by rw [he], ?_⟩
     clear he
     have s5 := Fx.Stp.of_below hb1
     have m5 := m4.stp s5 (Nat.ne_of_lt (m4.lt))
     have b5 := s5.below b4 b4.size b4.size
     by_cases c33 : 1099511627776 ≤ (mxs v.deps 5)
     ·refine Fx.L.v (.bool true) (Fx.x_geqT rfl rfl rfl c33) ?_
      refine Fx.L.nil (Fx.seqN (Fx.W.cond (b := true) rfl (fun _ => Fx.W.seq (Fx.W.list (Fx.L.v (.bool false) (Fx.x_assign rfl rfl) ?_))) (fun h => nomatch h)))
      refine Fx.L.nil (Fx.seqN (Fx.W.ret (Fx.seqR (⟨.bool false, Fx.retV1 Try.results42 (by exact rfl), ?_⟩))))
      have m2 : decide (1 ≤ v.seq) = true := decide_eq_true (by omega)
      have m3 : decide (v.seq < 1099511627776) = true := decide_eq_true (by omega)
      have m4 : decide (v.deps (v.o - 1).toNat = v.seq - 1) = true := decide_eq_true (by rw [show (v.o - 1).toNat = a by omega]; exact c28)
      have m5 := mxs_no c33
      exact ⟨congrArg (fun q => Ending.returned (Value.bool q)) (Eq.symm (by unfold mayE; rw [c6, m2, m3, m4, m5]; try rfl)), b5⟩
     ·refine Fx.L.v (.bool false) (Fx.x_geqF rfl rfl rfl c33) ?_
      refine Fx.L.nil (Fx.seqN (Fx.W.cond (b := false) rfl (fun h => nomatch h) (fun _ => Fx.W.skip (Fx.seqN (Fx.W.seq (Fx.W.list (Fx.L.v (.agg (Fx.varr 14 (evY v))) (Fx.x_loadA (x := evY v) (y := evY v) rfl rfl (by kernel_rfl) (by kernel_rfl) m5.cel (i := 0) (by omega) (by omega) (fun j _ => by rw [Nat.zero_add])) ?_)))))))
      refine Fx.L.v (.agg (Fx.varr 14 (Fx.ovr (fun zq => if zq < 1 then .int .i64 (0) else if zq < 8 then .int .u64 (0) else if zq < 9 then .int .u8 (0) else if zq < 10 then .int .u64 (0) else if zq < 12 then .int .i64 (0) else .int .u64 (0)) 0 14 (evY v)))) (Fx.x_build (vs := [(0, .agg (Fx.varr 14 (evY v)))]) (places := #[(0, 14)]) (m := 14) (x := fun zq => if zq < 1 then .int .i64 (0) else if zq < 8 then .int .u64 (0) else if zq < 9 then .int .u8 (0) else if zq < 10 then .int .u64 (0) else if zq < 12 then .int .i64 (0) else .int .u64 (0)) rfl rfl Try.underlying128 (by kernel_rfl) (by kernel_rfl) (by rw [Fx.fill_step (off := 0) (s := 14) (y := evY v) (by kernel_rfl) (Fx.cells_agg _ _) (by rfl)]; rfl)) ?_
      refine Fx.L.box (m := 14) (y := Fx.ovr (fun zq => if zq < 1 then .int .i64 (0) else if zq < 8 then .int .u64 (0) else if zq < 9 then .int .u8 (0) else if zq < 10 then .int .u64 (0) else if zq < 12 then .int .i64 (0) else .int .u64 (0)) 0 14 (evY v)) (by rfl) rfl rfl (Fx.cells_agg _ _) rfl fun g2 w3 eg2 m6 s6 z2 => ?_
      have m7 := m5.stp s6 (Nat.ne_of_lt (m5.lt))
      have b6 := s6.below b5 b5.size b5.size
      have lg2 : w.heap.size ≤ g2 := by rw [eg2]; exact b5.size
      have ng2m7 : g1 ≠ g2 := by rw [eg2]; exact Nat.ne_of_lt (m5.lt)
      have tg2 : g2 < w3.heap.size := m6.lt
      clear eg2
      refine Fx.L.v (.pointer (some ⟨g2, 0, none⟩)) (Fx.x_assign rfl rfl) ?_
      refine Fx.L.nil (Fx.seqN (Fx.W.seq ?_))
      have m8 : Fx.Blk w3 g2 14 (evY v) 128 := m6.congr (fun j hj => by rcases j with _|_|_|_|_|_|_|_|_|_|_|_|_|_|j <;> first | rfl | omega)
      -- region 6 draws
      refine Fx.W.reord [0, 1, 2, 3, 4, 5, 7, 9, 11, 13, 6, 8, 10, 12, 14, 15, 16, 17, 18] [0, 3, 0, 0, 0, 0, 4, 0, 4, 0, 4, 0, 4, 0, 4, 0, 0, 0, 0] (Fx.ChX [128]) Fx.ChX.refl Fx.ChX.trans (certs := [(2, 1, [1]), (3, 1, [2, 1]), (4, 1, [2, 1]), (5, 1, [2, 1]), (7, 1, [2, 1]), (9, 1, [2, 1]), (11, 1, [2, 1]), (13, 1, [2, 1]), (6, 1, [2, 1]), (8, 1, [2, 1]), (10, 1, [2, 1]), (12, 1, [2, 1]), (14, 1, [2, 1]), (15, 1, [2, 1]), (16, 1, [2, 1]), (17, 1, [2, 1]), (18, 1, [1])]) (by kernel_rfl) (by kernel_rfl) (by kernel_rfl) (by kernel_rfl) (by kernel_rfl) fun wt1 hbwt1 hzwt1 => ?_
      have s7 : Fx.Stp w3.heap.size w3 wt1 := Fx.Stp.of_below hbwt1
      have m9 := m7.stp s7 (Nat.ne_of_lt (m7.lt))
      have m10 := m8.stp s7 (Nat.ne_of_lt (m8.lt))
      have b7 := s7.below b6 b6.size b6.size
      refine Fx.R.p (.pointer (some ⟨g2, 0, none⟩)) (fun v1 => Fx.x_move rfl rfl) ?_
      refine Fx.R.eff (by rfl) ?_
      refine Fx.L.call (by rfl) (Fx.r_call (args := [.pointer (some ⟨g2, 0, none⟩)]) rfl rfl Try.func60 rfl rfl) rfl ((v_kind v g2 _ m10).mono ?_)
      rintro e w4 ⟨b, v', he, m11, s8, hkb, hkv⟩
      have m12 := m9.stp s8 (by omega)
      have b8 := s8.below b7 b7.size (by omega)
      cases b
      ·refine ⟨.bool false, he, ?_⟩
       clear he
       refine Fx.L.nil (Fx.R.p (.bool false) (fun v1 => Fx.x_move rfl rfl) ?_)
       refine Fx.R.skip (by rfl) ?_
       refine Fx.R.skip (by rfl) ?_
       refine Fx.R.skip (by rfl) ?_
       refine Fx.R.skip (by rfl) ?_
       refine Fx.R.skip (by rfl) ?_
       refine Fx.R.skip (by rfl) ?_
       refine Fx.R.skip (by rfl) ?_
       refine Fx.R.skip (by rfl) ?_
       refine Fx.R.skip (by rfl) ?_
       refine Fx.R.skip (by rfl) ?_
       refine Fx.R.skip (by rfl) ?_
       refine Fx.R.skip (by rfl) ?_
       refine Fx.R.skip (by rfl) ?_
       refine Fx.R.skip (by rfl) ?_
       refine Fx.R.p (.bool false) (fun v1 => Fx.x_pickF rfl rfl rfl) ?_
       refine Fx.R.p (.bool false) (fun v1 => Fx.x_assign rfl rfl) ?_
       refine Fx.R.nil (Fx.seqN (Fx.W.ret (⟨.bool false, Fx.retV1 Try.results42 (by exact rfl), ?_⟩)))
       have m2 : decide (1 ≤ v.seq) = true := decide_eq_true (by omega)
       have m3 : decide (v.seq < 1099511627776) = true := decide_eq_true (by omega)
       have m4 : decide (v.deps (v.o - 1).toNat = v.seq - 1) = true := decide_eq_true (by rw [show (v.o - 1).toNat = a by omega]; exact c28)
       have m5 := mxs_yes c33
       have m6 : sameE v = true → fieldsE v = false := fun h => by rw [kind_fields h, ← hkb]
       have m7 : (sameE v && fieldsE v) = false := by cases h : sameE v with | false => rfl | true => exact m6 h
       have m8 : (true && true && true && true && true && sameE v && fieldsE v) = false := m7
       exact ⟨congrArg (fun q => Ending.returned (Value.bool q)) (Eq.symm (by unfold mayE; rw [c6, m2, m3, m4, m5, m8]; try rfl)), b8⟩
      ·refine ⟨.bool true, he, ?_⟩
       clear he
       rw [hkv rfl] at m11
       refine Fx.L.nil (Fx.R.p (.bool true) (fun v1 => Fx.x_move rfl rfl) ?_)
       refine Fx.R.p (.pointer (some ⟨g2, 0, none⟩)) (fun v1 => Fx.x_move rfl rfl) ?_
       refine Fx.R.p (.pointer (some ⟨g2, 0, none⟩)) (fun v1 => Fx.x_nil rfl rfl) ?_
       refine Fx.R.p (.pointer (some ⟨g2, 0, none⟩)) (fun v1 => Fx.x_field rfl rfl Try.underlying128 rfl (s := 14) (by kernel_rfl) rfl rfl) ?_
       refine Fx.R.p (.pointer (some ⟨g1, 0, none⟩)) (fun v1 => Fx.x_field rfl rfl Try.underlying50 rfl (s := 1) (by kernel_rfl) rfl rfl) ?_
       refine Fx.R.p (.pointer (some ⟨g1, 1, none⟩)) (fun v1 => Fx.x_field rfl rfl Try.underlying50 rfl (s := 1) (by kernel_rfl) rfl (by show _ + 1 = _; omega)) ?_
       refine Fx.R.p (.pointer (some ⟨g1, 2, none⟩)) (fun v1 => Fx.x_field rfl rfl Try.underlying50 rfl (s := 6) (by kernel_rfl) rfl (by show _ + 2 = _; omega)) ?_
       refine Fx.R.p (.pointer (some ⟨g1, 8, none⟩)) (fun v1 => Fx.x_field rfl rfl Try.underlying50 rfl (s := 1) (by kernel_rfl) rfl (by show _ + 8 = _; omega)) ?_
       refine Fx.R.s (.agg (Fx.varr 14 (evY (kindV v)))) (Fx.x_loadA (x := evY (kindV v)) (y := evY (kindV v)) rfl rfl (by kernel_rfl) (by kernel_rfl) m11.cel (i := 0) (by omega) (by omega) (fun j _ => by rw [Nat.zero_add])) ?_
       refine Fx.R.s (.int .i64 (v.o)) (Fx.x_load1 (x := evY v) rfl rfl (by kernel_rfl) m12.cel (i := 0) (by omega) (by omega) rfl) ?_
       refine Fx.R.s (.int .u64 (v.seq)) (Fx.x_load1 (x := evY v) rfl rfl (by kernel_rfl) m12.cel (i := 1) (by omega) (by omega) rfl) ?_
       refine Fx.R.s (.agg (Fx.varr 6 (Fx.rv .u64 v.deps))) (Fx.x_loadA (x := evY v) (y := Fx.rv .u64 v.deps) rfl rfl (by kernel_rfl) (by kernel_rfl) m12.cel (i := 2) (by omega) (by omega) (fun j hj => evY_deps _ (by omega) hj)) ?_
       refine Fx.R.s (.int .u8 (v.kind)) (Fx.x_load1 (x := evY v) rfl rfl (by kernel_rfl) m12.cel (i := 8) (by omega) (by omega) rfl) ?_
       refine Fx.R.p (.agg (Fx.varr 14 (Fx.ovr (Fx.ovr (Fx.ovr (Fx.ovr (fun zq => if zq < 1 then .int .i64 (0) else if zq < 8 then .int .u64 (0) else if zq < 9 then .int .u8 (0) else if zq < 10 then .int .u64 (0) else if zq < 12 then .int .i64 (0) else .int .u64 (0)) 0 1 (fun _ => .int .i64 (v.o))) 1 1 (fun _ => .int .u64 (v.seq))) 2 6 (Fx.rv .u64 v.deps)) 8 1 (fun _ => .int .u8 (v.kind))))) (fun v1 => Fx.x_build (vs := [(0, .int .i64 (v.o)), (1, .int .u64 (v.seq)), (2, .agg (Fx.varr 6 (Fx.rv .u64 v.deps))), (3, .int .u8 (v.kind))]) (places := #[(0, 1), (1, 1), (2, 6), (8, 1), (9, 1), (10, 1), (11, 1), (12, 1), (13, 1)]) (m := 14) (x := fun zq => if zq < 1 then .int .i64 (0) else if zq < 8 then .int .u64 (0) else if zq < 9 then .int .u8 (0) else if zq < 10 then .int .u64 (0) else if zq < 12 then .int .i64 (0) else .int .u64 (0)) rfl rfl Try.underlying50 (by kernel_rfl) (by kernel_rfl) (by rw [Fx.fill_step (off := 0) (s := 1) (y := fun _ => .int .i64 (v.o)) (by kernel_rfl) (Fx.cells_one (by rfl)) (by rfl)]; rw [Fx.fill_step (off := 1) (s := 1) (y := fun _ => .int .u64 (v.seq)) (by kernel_rfl) (Fx.cells_one (by rfl)) (by rfl)]; rw [Fx.fill_step (off := 2) (s := 6) (y := Fx.rv .u64 v.deps) (by kernel_rfl) (Fx.cells_agg _ _) (by rfl)]; rw [Fx.fill_step (off := 8) (s := 1) (y := fun _ => .int .u8 (v.kind)) (by kernel_rfl) (Fx.cells_one (by rfl)) (by rfl)]; rfl)) ?_
       by_cases c53 : ∀ i, i < 14 → (evY (kindV v)) i = (Fx.ovr (Fx.ovr (Fx.ovr (Fx.ovr (fun zq => if zq < 1 then .int .i64 (0) else if zq < 8 then .int .u64 (0) else if zq < 9 then .int .u8 (0) else if zq < 10 then .int .u64 (0) else if zq < 12 then .int .i64 (0) else .int .u64 (0)) 0 1 (fun _ => .int .i64 (v.o))) 1 1 (fun _ => .int .u64 (v.seq))) 2 6 (Fx.rv .u64 v.deps)) 8 1 (fun _ => .int .u8 (v.kind))) i
       ·refine Fx.R.p (.bool true) (fun v1 => Fx.x_eqlA (n := 14) (ks := [(some .i64), (some .u64), (some .u64), (some .u64), (some .u64), (some .u64), (some .u64), (some .u64), (some .u8), (some .u64), (some .i64), (some .i64), (some .u64), (some .u64)]) (X := evY (kindV v)) (Y := Fx.ovr (Fx.ovr (Fx.ovr (Fx.ovr (fun zq => if zq < 1 then .int .i64 (0) else if zq < 8 then .int .u64 (0) else if zq < 9 then .int .u8 (0) else if zq < 10 then .int .u64 (0) else if zq < 12 then .int .i64 (0) else .int .u64 (0)) 0 1 (fun _ => .int .i64 (v.o))) 1 1 (fun _ => .int .u64 (v.seq))) 2 6 (Fx.rv .u64 v.deps)) 8 1 (fun _ => .int .u8 (v.kind))) 12 true rfl rfl rfl (Fx.yesb c53) (kd_ev (kindV_wf hv)) (Kd_cong (kd_ev (bareV_wf hv)) (fun j hj => by rcases j with _|_|_|_|_|_|_|_|_|_|_|_|_|_|j <;> first | rfl | exact absurd hj (by simp))) rfl (by kernel_rfl) (by kernel_rfl) (by kernel_rfl) (by kernel_rfl) (by kernel_rfl)) ?_
        refine Fx.R.p (.bool true) (fun v1 => Fx.x_pickT rfl rfl rfl) ?_
        refine Fx.R.p (.bool true) (fun v1 => Fx.x_assign rfl rfl) ?_
        refine Fx.R.nil (Fx.seqN (Fx.W.ret (⟨.bool true, Fx.retV1 Try.results42 (by exact rfl), ?_⟩)))
        have m2 : decide (1 ≤ v.seq) = true := decide_eq_true (by omega)
        have m3 : decide (v.seq < 1099511627776) = true := decide_eq_true (by omega)
        have m4 : decide (v.deps (v.o - 1).toNat = v.seq - 1) = true := decide_eq_true (by rw [show (v.o - 1).toNat = a by omega]; exact c28)
        have m5 := mxs_yes c33
        have m6 := (kind_bare hkb.symm).1 (fun i hi => (c53 i hi).trans (by rcases i with _|_|_|_|_|_|_|_|_|_|_|_|_|_|i <;> first | rfl | omega))
        have m7 := (kind_fields m6).trans hkb.symm
        exact ⟨congrArg (fun q => Ending.returned (Value.bool q)) (Eq.symm (by unfold mayE; rw [c6, m2, m3, m4, m5, m6, m7]; try rfl)), b8⟩
       ·refine Fx.R.p (.bool false) (fun v1 => Fx.x_eqlA (n := 14) (ks := [(some .i64), (some .u64), (some .u64), (some .u64), (some .u64), (some .u64), (some .u64), (some .u64), (some .u8), (some .u64), (some .i64), (some .i64), (some .u64), (some .u64)]) (X := evY (kindV v)) (Y := Fx.ovr (Fx.ovr (Fx.ovr (Fx.ovr (fun zq => if zq < 1 then .int .i64 (0) else if zq < 8 then .int .u64 (0) else if zq < 9 then .int .u8 (0) else if zq < 10 then .int .u64 (0) else if zq < 12 then .int .i64 (0) else .int .u64 (0)) 0 1 (fun _ => .int .i64 (v.o))) 1 1 (fun _ => .int .u64 (v.seq))) 2 6 (Fx.rv .u64 v.deps)) 8 1 (fun _ => .int .u8 (v.kind))) 12 false rfl rfl rfl (Fx.nob c53) (kd_ev (kindV_wf hv)) (Kd_cong (kd_ev (bareV_wf hv)) (fun j hj => by rcases j with _|_|_|_|_|_|_|_|_|_|_|_|_|_|j <;> first | rfl | exact absurd hj (by simp))) rfl (by kernel_rfl) (by kernel_rfl) (by kernel_rfl) (by kernel_rfl) (by kernel_rfl)) ?_
        refine Fx.R.p (.bool false) (fun v1 => Fx.x_pickT rfl rfl rfl) ?_
        refine Fx.R.p (.bool false) (fun v1 => Fx.x_assign rfl rfl) ?_
        refine Fx.R.nil (Fx.seqN (Fx.W.ret (⟨.bool false, Fx.retV1 Try.results42 (by exact rfl), ?_⟩)))
        have m2 : decide (1 ≤ v.seq) = true := decide_eq_true (by omega)
        have m3 : decide (v.seq < 1099511627776) = true := decide_eq_true (by omega)
        have m4 : decide (v.deps (v.o - 1).toNat = v.seq - 1) = true := decide_eq_true (by rw [show (v.o - 1).toNat = a by omega]; exact c28)
        have m5 := mxs_yes c33
        have m6 : sameE v = false := Bool.eq_false_iff.2 (fun h => c53 (fun i hi => ((kind_bare hkb.symm).2 h i hi).trans (by rcases i with _|_|_|_|_|_|_|_|_|_|_|_|_|_|i <;> first | rfl | omega)))
        exact ⟨congrArg (fun q => Ending.returned (Value.bool q)) (Eq.symm (by unfold mayE; rw [c6, m2, m3, m4, m5, m6]; try rfl)), b8⟩
    ·refine Fx.Qt.v (.bool true) (fun v1 hv1 => Fx.x_neqT rfl rfl rfl c28) ?_
     refine Fx.Qt.v (.bool true) (fun v1 hv1 => Fx.x_pickF rfl rfl rfl) ?_
     refine Fx.Qt.nil ?_
     intro wb4 hbwb4
     have s9 : Fx.Stp w1.heap.size w1 wb4 := Fx.Stp.of_below hbwb4
     have m13 := m1.stp s9 (Nat.ne_of_lt (m1.lt))
     have b9 := s9.below b1 b1.size b1.size
     refine Fx.seqN (Fx.W.cond (b := true) rfl (fun _ => Fx.W.seq (Fx.W.list (Fx.L.v (.bool false) (Fx.x_assign rfl rfl) ?_))) (fun h => nomatch h))
     refine Fx.L.nil (Fx.seqN (Fx.W.ret (Fx.seqR (⟨.bool false, Fx.retV1 Try.results42 (by exact rfl), ?_⟩))))
     have m2 : decide (1 ≤ v.seq) = true := decide_eq_true (by omega)
     have m3 : decide (v.seq < 1099511627776) = true := decide_eq_true (by omega)
     have m4 : decide (v.deps (v.o - 1).toNat = v.seq - 1) = false := decide_eq_false (by rw [show (v.o - 1).toNat = a by omega]; exact c28)
     exact ⟨congrArg (fun q => Ending.returned (Value.bool q)) (Eq.symm (by unfold mayE; rw [c6, m2, m3, m4]; try rfl)), b9⟩
 ·rw [Bool.not_eq_true] at c6
  refine Fx.Qt.call (v := .bool false) (by rfl) (fun v1 hv1 => Fx.r_call (args := [.int .i64 (v.o)]) rfl rfl Try.func58 rfl rfl) rfl (fun v1 hv1 => (v_region v.o _).mono fun e v2 h => ⟨by rw [h.1, c6], by rw [h.2]; exact hv1⟩) ?_
  refine Fx.Qt.v (.bool true) (fun v1 hv1 => Fx.x_notT rfl rfl) ?_
  refine Fx.Qt.v (.bool true) (fun v1 hv1 => Fx.x_move rfl rfl) ?_
  refine Fx.Qt.skip (by rfl) rfl ?_
  refine Fx.Qt.skip (by rfl) rfl ?_
  refine Fx.Qt.skip (by rfl) rfl ?_
  refine Fx.Qt.v (.bool true) (fun v1 hv1 => Fx.x_pickT rfl rfl rfl) ?_
  refine Fx.Qt.v (.bool true) (fun v1 hv1 => Fx.x_move rfl rfl) ?_
  refine Fx.Qt.skip (by rfl) rfl ?_
  refine Fx.Qt.skip (by rfl) rfl ?_
  refine Fx.Qt.skip (by rfl) rfl ?_
  refine Fx.Qt.v (.bool true) (fun v1 hv1 => Fx.x_pickT rfl rfl rfl) ?_
  refine Fx.Qt.v (.bool true) (fun v1 hv1 => Fx.x_move rfl rfl) ?_
  refine Fx.Qt.skip (by rfl) rfl ?_
  refine Fx.Qt.skip (by rfl) rfl ?_
  refine Fx.Qt.skip (by rfl) rfl ?_
  refine Fx.Qt.skip (by rfl) rfl ?_
  refine Fx.Qt.skip (by rfl) rfl ?_
  refine Fx.Qt.skip (by rfl) rfl ?_
  refine Fx.Qt.skip (by rfl) rfl ?_
  refine Fx.Qt.skip (by rfl) rfl ?_
  refine Fx.Qt.skip (by rfl) rfl ?_
  refine Fx.Qt.skip (by rfl) rfl ?_
  refine Fx.Qt.v (.bool true) (fun v1 hv1 => Fx.x_pickT rfl rfl rfl) ?_
  refine Fx.Qt.nil ?_
  intro wb5 hbwb5
  have s10 : Fx.Stp w1.heap.size w1 wb5 := Fx.Stp.of_below hbwb5
  have m14 := m1.stp s10 (Nat.ne_of_lt (m1.lt))
  have b10 := s10.below b1 b1.size b1.size
  refine Fx.seqN (Fx.W.cond (b := true) rfl (fun _ => Fx.W.seq (Fx.W.list (Fx.L.v (.bool false) (Fx.x_assign rfl rfl) ?_))) (fun h => nomatch h))
  refine Fx.L.nil (Fx.seqN (Fx.W.ret (Fx.seqR (⟨.bool false, Fx.retV1 Try.results42 (by exact rfl), ?_⟩))))
  exact ⟨congrArg (fun q => Ending.returned (Value.bool q)) (Eq.symm (by unfold mayE; rw [c6]; try rfl)), b10⟩
end Go.Proofs.Ytleajegppehbdaa
namespace Go.Proofs.Ytleajegppehbdaa
open Go.RowKit Rt
namespace Rt
def mx6 (a b : Int) : Int := if b > a then b else a
def vx (X : Nat → Nat → Int) : Nat → Value := fun p => .int .u64 (X (p / 6) (p % 6))
theorem vx_row (X : Nat → Nat → Int) {i p j : Nat} (hp : p = 6 * i) (hj : j < 6) : vx X (p + j) = Fx.rv .u64 (X i) j := by
  subst hp
  show Value.int .u64 (X ((6 * i + j) / 6) ((6 * i + j) % 6)) = .int .u64 (X i j)
  rw [show (6 * i + j) / 6 = i by omega, show (6 * i + j) % 6 = j by omega]
def foldS (c : Int → Int → Int) (X : Nat → Nat → Int) : Nat → Nat → Int
  | 0 => X 0
  | k + 1 => fun p => c (foldS c X k p) (X (k + 1) p)
def foldV (c : Int → Int → Int) (X : Nat → Nat → Int) : Nat → Nat → Int
  | 0 => fun _ => 0
  | k + 1 => foldS c X k
def Vcs (w : World) (a : Option Addr) (n cap : Nat) (X : Nat → Nat → Int) : Prop := 0 < n → n ≤ cap ∧ ∃ b off, a = some ⟨b, off, none⟩ ∧ Fx.Cel w b off (6 * n) (vx X)
def eachT (x : Nat → Int) (k : Nat) : Nat → Int := fun p => if p < k then x p else 0
theorem eachT_succ (x : Nat → Int) (k : Nat) : upd (eachT x k) k (x k) = eachT x (k + 1) := by
  funext p; unfold upd eachT
  by_cases h : p = k
  · subst h; rw [if_pos rfl, if_pos (by omega)]
  · rw [if_neg h]
    by_cases h2 : p < k
    · rw [if_pos h2, if_pos (by omega)]
    · rw [if_neg h2, if_neg (by omega)]
theorem eachT_end (x : Nat → Int) : Fx.varr 6 (Fx.rv .u64 (eachT x 6)) = Fx.varr 6 (Fx.rv .u64 x) := Fx.varr_congr fun p hp => congrArg (Value.int .u64) (by unfold eachT; rw [if_pos hp])
end Rt
theorem g_max (a b : Int) (w : World) :
    Calls Try.prog 55 #[.int .u64 (a), .int .u64 (b)] w fun e w' => e = .returned (.int .u64 (mx6 a b)) ∧ w' = w := by
 refine Fx.enter Try.func55 rfl (n := 8) rfl (by rfl) ?_
 refine Fx.W.seq (Fx.W.list (Fx.L.v (.int .u64 (0)) (Fx.x_assign rfl rfl) ?_))
 refine Fx.L.nil (Fx.seqN (Fx.W.seq (Fx.W.list (Fx.L.v (.int .u64 (a)) (Fx.x_move rfl rfl) ?_))))
 refine Fx.L.v (.int .u64 (b)) (Fx.x_move rfl rfl) ?_
 refine Fx.L.v (.int .u64 (mx6 a b)) (Fx.x_max rfl rfl rfl) ?_
 refine Fx.L.v (.int .u64 (mx6 a b)) (Fx.x_assign rfl rfl) ?_
 refine Fx.L.nil (Fx.seqN (Fx.W.ret (⟨.int .u64 (mx6 a b), Fx.retV1 Try.results55 (by exact rfl), ?_⟩)))
 exact ⟨rfl, rfl⟩
theorem g_f1_max (x y : Nat → Int) (gc go gv q : Nat) (w : World) (hq : q < 6) (hc : Fx.Blk w gc 1 (fun _ => .func (.func 55) #[] #[]) 114) (ho : Fx.Blk w go 6 (Fx.rv .u64 x) 32) (hv : Fx.Blk w gv 6 (Fx.rv .u64 y) 32) :
    Calls Try.prog 73 #[.int .i64 ((q : Int)), .pointer (some ⟨gc, 0, none⟩), .pointer (some ⟨go, 0, none⟩), .pointer (some ⟨gv, 0, none⟩)] w fun e w' => e = .returned (.int .u64 (mx6 (x q) (y q))) ∧ Below w.heap.size w w' := by
 refine Fx.enter Try.func73 rfl (n := 14) rfl (by rfl) ?_
 refine Fx.W.seq (Fx.W.list (Fx.L.v (.int .u64 (0)) (Fx.x_assign rfl rfl) ?_))
 refine Fx.L.nil (Fx.seqN (Fx.W.seq ?_))
 -- region 1 draws
 refine Fx.W.quiet (fun v1 => Below w.heap.size w v1) (by kernel_rfl) (by kernel_rfl) (Below.refl _ _).drew ?_
 refine Fx.Qt.v (.func (.func 55) #[] #[]) (fun v1 hv1 => Fx.x_load1 (x := fun _ => .func (.func 55) #[] #[]) rfl rfl (by kernel_rfl) (hc.cel.below hv1 (by have := hc.lt; omega)) (i := 0) (by omega) (by omega) rfl) ?_
 refine Fx.Qt.v (.int .i64 ((q : Int))) (fun v1 hv1 => Fx.x_move rfl rfl) ?_
 refine Fx.Qt.v (.pointer (some ⟨go, q, none⟩)) (fun v1 hv1 => Fx.x_index rfl rfl rfl Try.underlying32 (s := 1) (by kernel_rfl) (by omega) (by omega) (by omega)) ?_
 refine Fx.Qt.v (.int .u64 (x q)) (fun v1 hv1 => Fx.x_load1 (x := Fx.rv .u64 x) rfl rfl (by kernel_rfl) (ho.cel.below hv1 (by have := ho.lt; omega)) (i := q) (by omega) (by omega) rfl) ?_
 refine Fx.Qt.v (.int .i64 ((q : Int))) (fun v1 hv1 => Fx.x_move rfl rfl) ?_
 refine Fx.Qt.v (.pointer (some ⟨gv, q, none⟩)) (fun v1 hv1 => Fx.x_index rfl rfl rfl Try.underlying32 (s := 1) (by kernel_rfl) (by omega) (by omega) (by omega)) ?_
 refine Fx.Qt.v (.int .u64 (y q)) (fun v1 hv1 => Fx.x_load1 (x := Fx.rv .u64 y) rfl rfl (by kernel_rfl) (hv.cel.below hv1 (by have := hv.lt; omega)) (i := q) (by omega) (by omega) rfl) ?_
 refine Fx.Qt.call (v := .int .u64 (mx6 (x q) (y q))) (by rfl) (fun v1 hv1 => Fx.r_clo (args := [.int .u64 (x q), .int .u64 (y q)]) rfl rfl rfl (all := #[.int .u64 (x q), .int .u64 (y q)]) rfl Try.func55 rfl rfl) rfl (fun v1 hv1 => (g_max (x q) (y q) _).mono fun e v2 h => ⟨h.1, by rw [h.2]; exact hv1⟩) ?_
 refine Fx.Qt.v (.int .u64 (mx6 (x q) (y q))) (fun v1 hv1 => Fx.x_assign rfl rfl) ?_
 refine Fx.Qt.nil ?_
 intro wb1 hbwb1
 have s1 : Fx.Stp w.heap.size w wb1 := Fx.Stp.of_below hbwb1
 have m1 := hc.stp s1 (Nat.ne_of_lt (hc.lt))
 have m2 := ho.stp s1 (Nat.ne_of_lt (ho.lt))
 have m3 := hv.stp s1 (Nat.ne_of_lt (hv.lt))
 have b1 := s1.below (Below.refl w.heap.size w) (Below.refl w.heap.size w).size (Below.refl w.heap.size w).size
 refine Fx.seqN (Fx.W.ret (⟨.int .u64 (mx6 (x q) (y q)), Fx.retV1 Try.results73 (by exact rfl), ?_⟩))
 exact ⟨rfl, b1⟩
theorem g_each_max (x y : Nat → Int) (gc go gv : Nat) (w : World) (hc : Fx.Blk w gc 1 (fun _ => .func (.func 55) #[] #[]) 114) (ho : Fx.Blk w go 6 (Fx.rv .u64 x) 32) (hv : Fx.Blk w gv 6 (Fx.rv .u64 y) 32) :
    Calls Try.prog 72 #[.func (.func 73) #[] #[.pointer (some ⟨gc, 0, none⟩), .pointer (some ⟨go, 0, none⟩), .pointer (some ⟨gv, 0, none⟩)]] w fun e w' => e = .returned (.agg (Fx.varr 6 (Fx.rv .u64 (fun p => mx6 (x p) (y p))))) ∧ Below w.heap.size w w' := by
 refine Fx.enter Try.func72 rfl (n := 14) rfl (by rfl) ?_
 refine Fx.W.seq (Fx.W.list (Fx.L.new (m := 6) (y := Fx.rv .u64 (fun _ => 0)) (by rfl) rfl (by kernel_rfl) rfl fun g1 w1 eg1 m1 s1 z1 => ?_))
 have m2 := hc.stp s1 (Nat.ne_of_lt (hc.lt))
 have m3 := ho.stp s1 (Nat.ne_of_lt (ho.lt))
 have m4 := hv.stp s1 (Nat.ne_of_lt (hv.lt))
 have b1 := s1.below (Below.refl w.heap.size w) (Below.refl w.heap.size w).size (Below.refl w.heap.size w).size
 have lg1 : w.heap.size ≤ g1 := by rw [eg1]; exact (Below.refl w.heap.size w).size
 have ng1m2 : gc ≠ g1 := by rw [eg1]; exact Nat.ne_of_lt (hc.lt)
 have ng1m3 : go ≠ g1 := by rw [eg1]; exact Nat.ne_of_lt (ho.lt)
 have ng1m4 : gv ≠ g1 := by rw [eg1]; exact Nat.ne_of_lt (hv.lt)
 have tg1 : g1 < w1.heap.size := m1.lt
 clear eg1
 refine Fx.L.nil (Fx.seqN (Fx.W.seq (Fx.W.seq (Fx.W.list (Fx.L.v (.int .i64 (0)) (Fx.x_move rfl rfl) ?_)))))
 refine Fx.L.nil (Fx.seqN (Fx.W.block ?_))
 have m5 : Fx.Blk w1 g1 6 (Fx.rv .u64 (eachT (fun p => mx6 (x p) (y p)) 0)) 32 := m1
 refine Fx.W.loop (fun f w_ => ∃ k : Nat, k ≤ 6 ∧ f 0 = .func (.func 73) #[] #[.pointer (some ⟨gc, 0, none⟩), .pointer (some ⟨go, 0, none⟩), .pointer (some ⟨gv, 0, none⟩)] ∧ f 2 = .pointer (some ⟨g1, 0, none⟩) ∧ f 4 = .int .i64 ((k : Int)) ∧ Fx.Blk w_ gc 1 (fun _ => .func (.func 55) #[] #[]) 114 ∧ Fx.Blk w_ go 6 (Fx.rv .u64 x) 32 ∧ Fx.Blk w_ gv 6 (Fx.rv .u64 y) 32 ∧ Fx.Blk w_ g1 6 (Fx.rv .u64 (eachT (fun p => mx6 (x p) (y p)) k)) 32 ∧ Below w.heap.size w w_) (fun f _ => (6 - (intOf (f 4)).toNat)) ⟨0, by omega, (by rfl), (by rfl), (by first | rfl | exact congrArg (Value.int .i64) (by omega)), m2, m3, m4, m5, b1⟩ ?_
 rintro f1 w2 ⟨k, hk, h1, h2, h3, m6, m7, m8, m9, b2⟩
 refine Fx.W.seq (Fx.W.list ?_)
 by_cases c5 : (k : Int) < 6
 ·refine Fx.L.v (.bool true) (Fx.x_lssT rfl h3 rfl c5) ?_
  refine Fx.L.nil (Fx.seqN (Fx.W.seq (Fx.W.cond (b := true) rfl (fun _ => Fx.W.skip (Fx.seqN (Fx.W.seq (Fx.W.block (Fx.W.seq (Fx.W.list (Fx.L.v (.int .i64 ((k : Int))) (Fx.x_move rfl h3) ?_))))))) (fun h => nomatch h))))
  refine Fx.L.v (.int .i64 ((k : Int))) (Fx.x_assign rfl rfl) ?_
  refine Fx.L.nil (Fx.seqN (Fx.W.list (Fx.L.v (.int .i64 ((k : Int))) (Fx.x_move rfl rfl) ?_)))
  refine Fx.L.v (.func (.func 73) #[] #[.pointer (some ⟨gc, 0, none⟩), .pointer (some ⟨go, 0, none⟩), .pointer (some ⟨gv, 0, none⟩)]) (Fx.x_move rfl h1) ?_
  refine Fx.L.v (.int .i64 ((k : Int))) (Fx.x_move rfl rfl) ?_
  refine Fx.L.call (by rfl) (Fx.r_clo (args := [.int .i64 ((k : Int))]) rfl rfl rfl (all := #[.int .i64 ((k : Int)), .pointer (some ⟨gc, 0, none⟩), .pointer (some ⟨go, 0, none⟩), .pointer (some ⟨gv, 0, none⟩)]) rfl Try.func73 rfl rfl) rfl ((g_f1_max x y gc go gv k _ (by omega) m6 m7 m8).mono ?_)
  rintro e w3 ⟨he, hb1⟩
  refine ⟨.int .u64 (mx6 (x k) (y k)), by rw [he], ?_⟩
  clear he
  have s2 := Fx.Stp.of_below hb1
  have m10 := m6.stp s2 (Nat.ne_of_lt (m6.lt))
  have m11 := m7.stp s2 (Nat.ne_of_lt (m7.lt))
  have m12 := m8.stp s2 (Nat.ne_of_lt (m8.lt))
  have m13 := m9.stp s2 (Nat.ne_of_lt (m9.lt))
  have b3 := s2.below b2 b2.size b2.size
  refine Fx.L.v (.pointer (some ⟨g1, k, none⟩)) (Fx.x_index rfl h2 rfl Try.underlying32 (s := 1) (by kernel_rfl) (by omega) (by omega) (by omega)) ?_
  refine Fx.L.store1 (x := Fx.rv .u64 (eachT (fun p => mx6 (x p) (y p)) k)) (u := .int .u64 (mx6 (x k) (y k))) (by rfl) rfl rfl rfl rfl (by rfl) (by kernel_rfl) m13 (i := k) (by omega) fun w4 m14 s3 z2 => ?_
  have m15 : Fx.Blk w4 g1 6 (Fx.rv .u64 (upd (eachT (fun p => mx6 (x p) (y p)) k) k (mx6 (x k) (y k)))) 32 := m14.to (Fx.updV_rv _ _ _ _)
  have m16 := m10.stp s3 (by omega)
  have m17 := m11.stp s3 (by omega)
  have m18 := m12.stp s3 (by omega)
  have b4 := s3.below b3 b3.size (by omega)
  refine Fx.L.nil (Fx.blkN (Fx.seqN (Fx.W.list (Fx.L.v (.int .i64 ((k : Int) + 1)) (Fx.x_add rfl h3 rfl (Fx.i64e (by omega) (by omega))) ?_))))
  refine Fx.L.v (.int .i64 ((k : Int) + 1)) (Fx.x_move rfl rfl) ?_
  refine Fx.L.nil ?_
  have m19 := m15.to (congrArg (Fx.rv .u64) (eachT_succ (fun p => mx6 (x p) (y p)) k))
  refine Fx.lpN ⟨k + 1, by omega, h1, h2, (by first | rfl | exact congrArg (Value.int .i64) (by omega)), m16, m17, m18, m19, b4⟩ ?_
  show (6 - (intOf ((.int .i64 ((k : Int) + 1)))).toNat) < _
  simp only [h3, intOf]; omega
 ·refine Fx.L.v (.bool false) (Fx.x_lssF rfl h3 rfl c5) ?_
  refine Fx.L.nil (Fx.seqN (Fx.W.seq (Fx.W.cond (b := false) rfl (fun h => nomatch h) (fun _ => Fx.W.exit (Fx.seqX (Fx.lpX (Fx.blkX (Fx.seqN (Fx.W.seq (Fx.W.list (Fx.L.v (.agg (Fx.varr 6 (Fx.rv .u64 (eachT (fun p => mx6 (x p) (y p)) k)))) (Fx.x_loadA (x := Fx.rv .u64 (eachT (fun p => mx6 (x p) (y p)) k)) (y := Fx.rv .u64 (eachT (fun p => mx6 (x p) (y p)) k)) rfl h2 (by kernel_rfl) (by kernel_rfl) m9.cel (i := 0) (by omega) (by omega) (fun j _ => by rw [Nat.zero_add])) ?_)))))))))))
  refine Fx.L.storeA (x := Fx.rv .u64 (eachT (fun p => mx6 (x p) (y p)) k)) (y := Fx.rv .u64 (eachT (fun p => mx6 (x p) (y p)) k)) (by rfl) rfl rfl h2 rfl (fun _ _ => rfl) (by kernel_rfl) m9 (i := 0) (by omega) fun w5 m20 s4 z3 => ?_
  have m21 : Fx.Blk w5 g1 6 (Fx.rv .u64 (eachT (fun p => mx6 (x p) (y p)) k)) 32 := Fx.ovr_all m20
  have m22 := m6.stp s4 (by omega)
  have m23 := m7.stp s4 (by omega)
  have m24 := m8.stp s4 (by omega)
  have b5 := s4.below b2 b2.size (by omega)
  refine Fx.L.nil (Fx.seqN (Fx.W.ret (⟨.agg (Fx.varr 6 (Fx.rv .u64 (eachT (fun p => mx6 (x p) (y p)) k))), Fx.retV1 Try.results72 ⟨_, h2, Fx.run_loadV m21.cel (by kernel_rfl) (by kernel_rfl)⟩, ?_⟩)))
  have e6 : k = 6 := by omega
  exact ⟨by rw [e6, eachT_end], b5⟩
end Go.Proofs.Ytleajegppehbdaa
namespace Go.Proofs.Ytleajegppehbdaa
open Go.RowKit Rt
namespace Rt
def V2 (x y : Nat → Int) : Nat → Nat → Int
  | 0 => x
  | 1 => y
  | _ => fun _ => 0
end Rt
theorem g_fold0_max (a : Option Addr) (cap : Nat) (w : World) :
    Calls Try.prog 54 #[.slice a (0) (cap), .func (.func 55) #[] #[]] w fun e w' => e = .returned (.agg (Fx.varr 6 (Fx.rv .u64 (fun _ => 0)))) ∧ Below w.heap.size w w' := by
 refine Fx.enter Try.func54 rfl (n := 26) rfl (by rfl) ?_
 refine Fx.W.seq (Fx.W.list (Fx.L.box (m := 1) (y := fun _ => .func (.func 55) #[] #[]) (by rfl) rfl rfl (Fx.cells_one (by rfl)) rfl fun g1 w1 eg1 m1 s1 z1 => ?_))
 have b1 := s1.below (Below.refl w.heap.size w) (Below.refl w.heap.size w).size (Below.refl w.heap.size w).size
 have lg1 : w.heap.size ≤ g1 := by rw [eg1]; exact (Below.refl w.heap.size w).size
 have tg1 : g1 < w1.heap.size := m1.lt
 clear eg1
 refine Fx.L.new (m := 6) (y := Fx.rv .u64 (fun _ => 0)) (by rfl) rfl (by kernel_rfl) rfl fun g2 w2 eg2 m2 s2 z2 => ?_
 have m3 := m1.stp s2 (Nat.ne_of_lt (m1.lt))
 have b2 := s2.below b1 b1.size b1.size
 have lg2 : w.heap.size ≤ g2 := by rw [eg2]; exact b1.size
 have ng2m3 : g1 ≠ g2 := by rw [eg2]; exact Nat.ne_of_lt (m1.lt)
 have tg2 : g2 < w2.heap.size := m2.lt
 clear eg2
 refine Fx.L.nil (Fx.seqN (Fx.W.seq (Fx.W.seq (Fx.W.list (Fx.L.v (.slice a (0) (cap)) (Fx.x_move rfl rfl) ?_)))))
 refine Fx.L.v (.int .i64 (0)) (Fx.x_len rfl rfl rfl (by kernel_rfl)) ?_
 refine Fx.L.v (.bool true) (Fx.x_eqlT rfl rfl rfl rfl) ?_
 refine Fx.L.nil (Fx.seqN (Fx.W.cond (b := true) rfl (fun _ => Fx.W.seq (Fx.W.list (Fx.L.v (.agg (Fx.varr 6 (Fx.rv .u64 (fun _ => 0)))) (Fx.x_buildArr (vs := []) (s := 1) (m := 6) (x := Fx.rv .u64 (fun _ => 0)) rfl rfl Try.underlying32 (by kernel_rfl) (by kernel_rfl) (by rfl)) ?_))) (fun h => nomatch h)))
 refine Fx.L.storeA (x := Fx.rv .u64 (fun _ => 0)) (y := Fx.rv .u64 (fun _ => 0)) (by rfl) rfl rfl rfl rfl (fun _ _ => rfl) (by kernel_rfl) m2 (i := 0) (by omega) fun w3 m4 s3 z3 => ?_
 have m5 : Fx.Blk w3 g2 6 (Fx.rv .u64 (fun _ => 0)) 32 := Fx.ovr_all m4
 have m6 := m3.stp s3 (by omega)
 have b3 := s3.below b2 b2.size (by omega)
 refine Fx.L.nil (Fx.seqN (Fx.W.ret (Fx.seqR (⟨.agg (Fx.varr 6 (Fx.rv .u64 (fun _ => 0))), Fx.retV1 Try.results54 ⟨_, rfl, Fx.run_loadV m5.cel (by kernel_rfl) (by kernel_rfl)⟩, ?_⟩))))
 exact ⟨rfl, b3⟩
theorem g_foldS_max (b off m cap : Nat) (X : Nat → Nat → Int) (w : World) (hcap : m + 1 ≤ cap) (hm : m ≤ 1000000) (hx : Fx.Cel w b off (6 * (m + 1)) (vx X)) :
    Calls Try.prog 54 #[.slice (some ⟨b, off, none⟩) (m + 1) (cap), .func (.func 55) #[] #[]] w fun e w' => e = .returned (.agg (Fx.varr 6 (Fx.rv .u64 (foldS mx6 X m)))) ∧ Below w.heap.size w w' := by
 have lb := hx.lt (by omega)
 refine Fx.enter Try.func54 rfl (n := 26) rfl (by rfl) ?_
 refine Fx.W.seq (Fx.W.list (Fx.L.box (m := 1) (y := fun _ => .func (.func 55) #[] #[]) (by rfl) rfl rfl (Fx.cells_one (by rfl)) rfl fun g1 w1 eg1 m1 s1 z1 => ?_))
 have m2 := hx.stp s1 (Nat.ne_of_lt (hx.lt (by omega)))
 have b1 := s1.below (Below.refl w.heap.size w) (Below.refl w.heap.size w).size (Below.refl w.heap.size w).size
 have lg1 : w.heap.size ≤ g1 := by rw [eg1]; exact (Below.refl w.heap.size w).size
 have ng1m2 : b ≠ g1 := by rw [eg1]; exact Nat.ne_of_lt (hx.lt (by omega))
 have tg1 : g1 < w1.heap.size := m1.lt
 clear eg1
 refine Fx.L.new (m := 6) (y := Fx.rv .u64 (fun _ => 0)) (by rfl) rfl (by kernel_rfl) rfl fun g2 w2 eg2 m3 s2 z2 => ?_
 have m4 := m2.stp s2 (Nat.ne_of_lt (m2.lt (by omega)))
 have m5 := m1.stp s2 (Nat.ne_of_lt (m1.lt))
 have b2 := s2.below b1 b1.size b1.size
 have lg2 : w.heap.size ≤ g2 := by rw [eg2]; exact b1.size
 have ng2m4 : b ≠ g2 := by rw [eg2]; exact Nat.ne_of_lt (m2.lt (by omega))
 have ng2m5 : g1 ≠ g2 := by rw [eg2]; exact Nat.ne_of_lt (m1.lt)
 have tg2 : g2 < w2.heap.size := m3.lt
 clear eg2
 refine Fx.L.nil (Fx.seqN (Fx.W.seq (Fx.W.seq (Fx.W.list (Fx.L.v (.slice (some ⟨b, off, none⟩) (m + 1) (cap)) (Fx.x_move rfl rfl) ?_)))))
 refine Fx.L.v (.int .i64 (((m + 1 : Nat) : Int))) (Fx.x_len rfl rfl rfl (by kernel_rfl)) ?_
 refine Fx.L.v (.bool false) (Fx.x_eqlF rfl rfl rfl (by omega)) ?_
 refine Fx.L.nil (Fx.seqN (Fx.W.cond (b := false) rfl (fun h => nomatch h) (fun _ => Fx.W.skip (Fx.seqN (Fx.W.seq (Fx.W.list (Fx.L.v (.slice (some ⟨b, off, none⟩) (m + 1) (cap)) (Fx.x_move rfl rfl) ?_)))))))
 refine Fx.L.v (.pointer (some ⟨b, off, none⟩)) (Fx.x_indexS rfl rfl rfl Try.underlying107 (s := 6) (by kernel_rfl) (by omega) (by omega) (by omega)) ?_
 refine Fx.L.v (.agg (Fx.varr 6 (Fx.rv .u64 (X 0)))) (Fx.x_loadA (x := vx X) (y := Fx.rv .u64 (X 0)) rfl rfl (by kernel_rfl) (by kernel_rfl) m4 (i := 0) (by omega) (by omega) (fun j hj => vx_row _ (i := 0) (p := 0) (by omega) hj)) ?_
 refine Fx.L.new (m := 6) (y := Fx.rv .u64 (fun _ => 0)) (by rfl) rfl (by kernel_rfl) rfl fun g3 w3 eg3 m6 s3 z3 => ?_
 have m7 := m4.stp s3 (Nat.ne_of_lt (m4.lt (by omega)))
 have m8 := m5.stp s3 (Nat.ne_of_lt (m5.lt))
 have m9 := m3.stp s3 (Nat.ne_of_lt (m3.lt))
 have b3 := s3.below b2 b2.size b2.size
 have lg3 : w.heap.size ≤ g3 := by rw [eg3]; exact b2.size
 have ng3m7 : b ≠ g3 := by rw [eg3]; exact Nat.ne_of_lt (m4.lt (by omega))
 have ng3m8 : g1 ≠ g3 := by rw [eg3]; exact Nat.ne_of_lt (m5.lt)
 have ng3m9 : g2 ≠ g3 := by rw [eg3]; exact Nat.ne_of_lt (m3.lt)
 have tg3 : g3 < w3.heap.size := m6.lt
 clear eg3
 refine Fx.L.storeA (x := Fx.rv .u64 (fun _ => 0)) (y := Fx.rv .u64 (X 0)) (by rfl) rfl rfl rfl rfl (fun _ _ => rfl) (by kernel_rfl) m6 (i := 0) (by omega) fun w4 m10 s4 z4 => ?_
 have m11 : Fx.Blk w4 g3 6 (Fx.rv .u64 (X 0)) 32 := Fx.ovr_all m10
 have m12 := m7.stp s4 (by omega)
 have m13 := m8.stp s4 (by omega)
 have m14 := m9.stp s4 (by omega)
 have b4 := s4.below b3 b3.size (by omega)
 refine Fx.L.nil (Fx.seqN (Fx.W.seq (Fx.W.seq (Fx.W.list (Fx.L.v (.slice (some ⟨b, off, none⟩) (m + 1) (cap)) (Fx.x_move rfl rfl) ?_)))))
 refine Fx.L.v (.slice (if cap = 1 then some ⟨b, off, none⟩ else some ⟨b, off + 6, none⟩) (m) (cap - 1)) (Fx.x_sliceLo2 (j := 1) (b := b) (off := off) (len := m + 1) (cap := cap) (s := 6) rfl rfl rfl Try.underlying107 (by kernel_rfl) (by omega) rfl rfl rfl) ?_
 refine Fx.L.v (.int .i64 ((m : Int))) (Fx.x_len rfl rfl rfl (by kernel_rfl)) ?_
 refine Fx.L.v (.int .i64 (0)) (Fx.x_move rfl rfl) ?_
 refine Fx.L.nil (Fx.seqN (Fx.W.block ?_))
 have m15 : Fx.Blk w4 g3 6 (Fx.rv .u64 (foldS mx6 X 0)) 32 := m11
 refine Fx.W.loop (fun f w_ => ∃ k : Nat, k ≤ m ∧ f 3 = .pointer (some ⟨g1, 0, none⟩) ∧ f 4 = .pointer (some ⟨g2, 0, none⟩) ∧ f 5 = .pointer (some ⟨g3, 0, none⟩) ∧ f 16 = .slice (if cap = 1 then some ⟨b, off, none⟩ else some ⟨b, off + 6, none⟩) (m) (cap - 1) ∧ f 17 = .int .i64 ((m : Int)) ∧ f 18 = .int .i64 ((k : Int)) ∧ Fx.Cel w_ b off (6 * (m + 1)) (vx X) ∧ Fx.Blk w_ g1 1 (fun _ => .func (.func 55) #[] #[]) 114 ∧ Fx.Blk w_ g2 6 (Fx.rv .u64 (fun _ => 0)) 32 ∧ Fx.Blk w_ g3 6 (Fx.rv .u64 (foldS mx6 X k)) 32 ∧ Below w.heap.size w w_) (fun f _ => (m - (intOf (f 18)).toNat)) ⟨0, by omega, (by rfl), (by rfl), (by rfl), (by rfl), (by first | rfl | exact congrArg (Value.int .i64) (by omega)), (by first | rfl | exact congrArg (Value.int .i64) (by omega)), m12, m13, m14, m15, b4⟩ ?_
 rintro f1 w5 ⟨k, hk, h1, h2, h3, h4, h5, h6, m16, m17, m18, m19, b5⟩
 refine Fx.W.seq (Fx.W.list ?_)
 by_cases c19 : (k : Int) < (m : Int)
 ·refine Fx.L.v (.bool true) (Fx.x_lssT rfl h6 h5 c19) ?_
  refine Fx.L.nil (Fx.seqN (Fx.W.seq (Fx.W.cond (b := true) rfl (fun _ => Fx.W.skip (Fx.seqN (Fx.W.seq (Fx.W.block (Fx.W.seq (Fx.W.list (Fx.L.v (.pointer (some ⟨b, 6 * k + off + 6, none⟩)) (Fx.x_indexS rfl (h4.trans (congrArg (fun q => Value.slice q (m) (cap - 1)) (if_neg (by omega)))) h6 Try.underlying107 (s := 6) (by kernel_rfl) (by omega) (by omega) (by omega)) ?_))))))) (fun h => nomatch h))))
  refine Fx.L.v (.agg (Fx.varr 6 (Fx.rv .u64 (X (k + 1))))) (Fx.x_loadA (x := vx X) (y := Fx.rv .u64 (X (k + 1))) rfl rfl (by kernel_rfl) (by kernel_rfl) m16 (i := 6 * k + 6) (by omega) (by omega) (fun j hj => vx_row _ (i := k + 1) (p := 6 * k + 6) (by omega) hj)) ?_
  refine Fx.L.new (m := 6) (y := Fx.rv .u64 (fun _ => 0)) (by rfl) rfl (by kernel_rfl) rfl fun g4 w6 eg4 m20 s5 z5 => ?_
  have m21 := m16.stp s5 (Nat.ne_of_lt (m16.lt (by omega)))
  have m22 := m17.stp s5 (Nat.ne_of_lt (m17.lt))
  have m23 := m18.stp s5 (Nat.ne_of_lt (m18.lt))
  have m24 := m19.stp s5 (Nat.ne_of_lt (m19.lt))
  have b6 := s5.below b5 b5.size b5.size
  have lg4 : w.heap.size ≤ g4 := by rw [eg4]; exact b5.size
  have ng4m21 : b ≠ g4 := by rw [eg4]; exact Nat.ne_of_lt (m16.lt (by omega))
  have ng4m22 : g1 ≠ g4 := by rw [eg4]; exact Nat.ne_of_lt (m17.lt)
  have ng4m23 : g2 ≠ g4 := by rw [eg4]; exact Nat.ne_of_lt (m18.lt)
  have ng4m24 : g3 ≠ g4 := by rw [eg4]; exact Nat.ne_of_lt (m19.lt)
  have tg4 : g4 < w6.heap.size := m20.lt
  clear eg4
  refine Fx.L.storeA (x := Fx.rv .u64 (fun _ => 0)) (y := Fx.rv .u64 (X (k + 1))) (by rfl) rfl rfl rfl rfl (fun _ _ => rfl) (by kernel_rfl) m20 (i := 0) (by omega) fun w7 m25 s6 z6 => ?_
  have m26 : Fx.Blk w7 g4 6 (Fx.rv .u64 (X (k + 1))) 32 := Fx.ovr_all m25
  have m27 := m21.stp s6 (by omega)
  have m28 := m22.stp s6 (by omega)
  have m29 := m23.stp s6 (by omega)
  have m30 := m24.stp s6 (by omega)
  have b7 := s6.below b6 b6.size (by omega)
  refine Fx.L.nil (Fx.seqN (Fx.W.list (Fx.L.v (.func (.func 73) #[] #[.pointer (some ⟨g1, 0, none⟩), .pointer (some ⟨g3, 0, none⟩), .pointer (some ⟨g4, 0, none⟩)]) (Fx.x_func (us := []) (vs := [.pointer (some ⟨g1, 0, none⟩), .pointer (some ⟨g3, 0, none⟩), .pointer (some ⟨g4, 0, none⟩)]) rfl rfl (Fx.args3 h1 h3 rfl)) ?_)))
  refine Fx.L.call (by rfl) (Fx.r_call (args := [.func (.func 73) #[] #[.pointer (some ⟨g1, 0, none⟩), .pointer (some ⟨g3, 0, none⟩), .pointer (some ⟨g4, 0, none⟩)]]) rfl rfl Try.func72 rfl rfl) rfl ((g_each_max (foldS mx6 X k) (X (k + 1)) g1 g3 g4 _ m28 m30 m26).mono ?_)
  rintro e w8 ⟨he, hb1⟩
  refine ⟨.agg (Fx.varr 6 (Fx.rv .u64 (fun p => mx6 ((foldS mx6 X k) p) ((X (k + 1)) p)))), by rw [he], ?_⟩
  clear he
  have s7 := Fx.Stp.of_below hb1
  have m31 := m27.stp s7 (Nat.ne_of_lt (m27.lt (by omega)))
  have m32 := m28.stp s7 (Nat.ne_of_lt (m28.lt))
  have m33 := m29.stp s7 (Nat.ne_of_lt (m29.lt))
  have m34 := m30.stp s7 (Nat.ne_of_lt (m30.lt))
  have m35 := m26.stp s7 (Nat.ne_of_lt (m26.lt))
  have b8 := s7.below b7 b7.size b7.size
  refine Fx.L.storeA (x := Fx.rv .u64 (foldS mx6 X k)) (y := Fx.rv .u64 (fun p => mx6 ((foldS mx6 X k) p) ((X (k + 1)) p))) (by rfl) rfl rfl h3 rfl (fun _ _ => rfl) (by kernel_rfl) m34 (i := 0) (by omega) fun w9 m36 s8 z7 => ?_
  have m37 : Fx.Blk w9 g3 6 (Fx.rv .u64 (fun p => mx6 ((foldS mx6 X k) p) ((X (k + 1)) p))) 32 := Fx.ovr_all m36
  have m38 := m31.stp s8 (by omega)
  have m39 := m32.stp s8 (by omega)
  have m40 := m33.stp s8 (by omega)
  have m41 := m35.stp s8 (by omega)
  have b9 := s8.below b8 b8.size (by omega)
  refine Fx.L.nil (Fx.blkN (Fx.seqN (Fx.W.list (Fx.L.v (.int .i64 ((k : Int) + 1)) (Fx.x_add rfl h6 rfl (Fx.i64e (by omega) (by omega))) ?_))))
  refine Fx.L.v (.int .i64 ((k : Int) + 1)) (Fx.x_move rfl rfl) ?_
  refine Fx.L.nil (Fx.lpN ⟨k + 1, by omega, h1, h2, h3, h4, (h5.trans (by first | rfl | exact congrArg (Value.int .i64) (by omega))), (by first | rfl | exact congrArg (Value.int .i64) (by omega)), m38, m39, m40, m37, b9⟩ ?_)
  show (m - (intOf ((.int .i64 ((k : Int) + 1)))).toNat) < _
  simp only [h6, intOf]; omega
 ·refine Fx.L.v (.bool false) (Fx.x_lssF rfl h6 h5 c19) ?_
  refine Fx.L.nil (Fx.seqN (Fx.W.seq (Fx.W.cond (b := false) rfl (fun h => nomatch h) (fun _ => Fx.W.exit (Fx.seqX (Fx.lpX (Fx.blkX (Fx.seqN (Fx.W.seq (Fx.W.list (Fx.L.v (.agg (Fx.varr 6 (Fx.rv .u64 (foldS mx6 X k)))) (Fx.x_loadA (x := Fx.rv .u64 (foldS mx6 X k)) (y := Fx.rv .u64 (foldS mx6 X k)) rfl h3 (by kernel_rfl) (by kernel_rfl) m19.cel (i := 0) (by omega) (by omega) (fun j _ => by rw [Nat.zero_add])) ?_)))))))))))
  refine Fx.L.storeA (x := Fx.rv .u64 (fun _ => 0)) (y := Fx.rv .u64 (foldS mx6 X k)) (by rfl) rfl rfl h2 rfl (fun _ _ => rfl) (by kernel_rfl) m18 (i := 0) (by omega) fun w10 m42 s9 z8 => ?_
  have m43 : Fx.Blk w10 g2 6 (Fx.rv .u64 (foldS mx6 X k)) 32 := Fx.ovr_all m42
  have m44 := m16.stp s9 (by omega)
  have m45 := m17.stp s9 (by omega)
  have m46 := m19.stp s9 (by omega)
  have b10 := s9.below b5 b5.size (by omega)
  refine Fx.L.nil (Fx.seqN (Fx.W.ret (⟨.agg (Fx.varr 6 (Fx.rv .u64 (foldS mx6 X k))), Fx.retV1 Try.results54 ⟨_, h2, Fx.run_loadV m43.cel (by kernel_rfl) (by kernel_rfl)⟩, ?_⟩)))
  have ek : k = m := by omega
  exact ⟨by rw [ek], b10⟩
theorem g_fold_max (a : Option Addr) (n cap : Nat) (X : Nat → Nat → Int) (w : World) (hn : n ≤ 1000000) (h : Vcs w a n cap X) :
    Calls Try.prog 54 #[.slice a n cap, .func (.func 55) #[] #[]] w fun e w' => e = .returned (.agg (Fx.varr 6 (Fx.rv .u64 (foldV mx6 X n)))) ∧ Below w.heap.size w w' := by
  cases n with
  | zero => exact g_fold0_max a cap w
  | succ m => obtain ⟨hc, b, off, rfl, hx⟩ := h (by omega); exact g_foldS_max b off m cap X w hc (by omega) hx
theorem vcs_up {w w' : World} {a : Option Addr} {n cap : Nat} {X : Nat → Nat → Int} (h : Vcs w a n cap X) (hb : Below w.heap.size w w') : Vcs w' a n cap X := fun h0 => by
  obtain ⟨hc, b, off, e, hx⟩ := h h0
  exact ⟨hc, b, off, e, hx.below hb (hx.lt (by omega))⟩
theorem g_join (a : Option Addr) (n cap : Nat) (X : Nat → Nat → Int) (w : World) (hn : n ≤ 1000000) (h : Vcs w a n cap X) :
    Calls Try.prog 36 #[.slice a (n) (cap)] w fun e w' => e = .returned (.agg (Fx.varr 6 (Fx.rv .u64 (foldV mx6 X n)))) ∧ Below w.heap.size w w' := by
 refine Fx.enter Try.func36 rfl (n := 5) rfl (by rfl) ?_
 refine Fx.W.seq (Fx.W.list (Fx.L.new (m := 6) (y := Fx.rv .u64 (fun _ => 0)) (by rfl) rfl (by kernel_rfl) rfl fun g1 w1 eg1 m1 s1 z1 => ?_))
 have b1 := s1.below (Below.refl w.heap.size w) (Below.refl w.heap.size w).size (Below.refl w.heap.size w).size
 have lg1 : w.heap.size ≤ g1 := by rw [eg1]; exact (Below.refl w.heap.size w).size
 have tg1 : g1 < w1.heap.size := m1.lt
 clear eg1
 refine Fx.L.nil (Fx.seqN (Fx.W.seq (Fx.W.list (Fx.L.v (.slice a (n) (cap)) (Fx.x_move rfl rfl) ?_))))
 refine Fx.L.call (by rfl) (Fx.r_call (args := [.slice a (n) (cap), .func (.func 55) #[] #[]]) rfl rfl Try.func54 rfl rfl) rfl ((g_fold_max a n cap X _ hn (vcs_up h b1)).mono ?_)
 rintro e w2 ⟨he, hb1⟩
 refine ⟨.agg (Fx.varr 6 (Fx.rv .u64 (foldV mx6 X n))), by rw [he], ?_⟩
 clear he
 have s2 := Fx.Stp.of_below hb1
 have m2 := m1.stp s2 (Nat.ne_of_lt (m1.lt))
 have b2 := s2.below b1 b1.size b1.size
 refine Fx.L.storeA (x := Fx.rv .u64 (fun _ => 0)) (y := Fx.rv .u64 (foldV mx6 X n)) (by rfl) rfl rfl rfl rfl (fun _ _ => rfl) (by kernel_rfl) m2 (i := 0) (by omega) fun w3 m3 s3 z2 => ?_
 have m4 : Fx.Blk w3 g1 6 (Fx.rv .u64 (foldV mx6 X n)) 32 := Fx.ovr_all m3
 have b3 := s3.below b2 b2.size (by omega)
 refine Fx.L.nil (Fx.seqN (Fx.W.ret (⟨.agg (Fx.varr 6 (Fx.rv .u64 (foldV mx6 X n))), Fx.retV1 Try.results36 ⟨_, rfl, Fx.run_loadV m4.cel (by kernel_rfl) (by kernel_rfl)⟩, ?_⟩)))
 exact ⟨rfl, b3⟩
end Go.Proofs.Ytleajegppehbdaa
namespace Go.Proofs.Ytleajegppehbdaa
open Go.RowKit Rt
namespace Rt
theorem V2_eq (x y : Nat → Int) : Fx.ovr (Fx.ovr (fun j => Fx.rv .u64 (fun _ => 0) (j % 6)) (0 * 6) 6 (Fx.rv .u64 x)) (1 * 6) 6 (Fx.rv .u64 y) = vx (V2 x y) := by
  funext p
  unfold Fx.ovr
  by_cases h1 : 1 * 6 ≤ p ∧ p < 1 * 6 + 6
  · rw [if_pos h1]
    show _ = Value.int .u64 (V2 x y (p / 6) (p % 6))
    rw [show p / 6 = 1 by omega, show p - 1 * 6 = p % 6 by omega]; rfl
  · rw [if_neg h1]
    by_cases h0 : 0 * 6 ≤ p ∧ p < 0 * 6 + 6
    · rw [if_pos h0]
      show _ = Value.int .u64 (V2 x y (p / 6) (p % 6))
      rw [show p / 6 = 0 by omega, show p - 0 * 6 = p % 6 by omega]; rfl
    · rw [if_neg h0]
      show _ = Value.int .u64 (V2 x y (p / 6) (p % 6))
      obtain ⟨q, hq⟩ : ∃ q, p / 6 = q + 2 := ⟨p / 6 - 2, by omega⟩
      rw [hq]; rfl
end Rt
end Go.Proofs.Ytleajegppehbdaa
namespace Go.Proofs.Ytleajegppehbdaa
open Go.RowKit Rt
namespace Rt
def hasB (K : Nat → Int) (o seq : Int) : Bool := regE o && decide (0 < seq) && decide (seq ≤ K (o - 1).toNat)
theorem leAll_iff {a b : Nat → Int} : leAll a b = true ↔ ∀ i, i < 6 → Fx.rv .u64 (fun p => mx6 (a p) (b p)) i = Fx.rv .u64 b i := by
  unfold leAll
  rw [List.all_eq_true]
  have e : ∀ i, Fx.rv .u64 (fun p => mx6 (a p) (b p)) i = Fx.rv .u64 b i ↔ a i ≤ b i := fun i => by
    show Value.int .u64 (mx6 (a i) (b i)) = .int .u64 (b i) ↔ _
    simp only [Value.int.injEq, true_and]; unfold mx6; split <;> omega
  constructor
  · intro h i hi; have := h i (List.mem_range.2 hi); rw [e]; exact of_decide_eq_true this
  · intro h i hi; have := h i (List.mem_range.1 hi); rw [e] at this; exact decide_eq_true this
def Kr (K : Nat → Int) : Prop := ∀ i, i < 6 → U64r (K i)
theorem Kr.kd {K : Nat → Int} (h : Kr K) : Fx.Kd (List.replicate 6 (some .u64)) (Fx.rv .u64 K) := Fx.kd_rv fun i hi => Fx.wfu64 (h i hi)
theorem Kr.mx {K L : Nat → Int} (h : Kr K) (h2 : Kr L) : Kr (fun p => mx6 (K p) (L p)) := fun i hi => by
  have q1 := h i hi; have q2 := h2 i hi; show U64r (mx6 (K i) (L i)); unfold mx6; split <;> assumption
end Rt
theorem g_join2 {w : World} {g : Nat} {T : TypeId} {x : Nat → Value} (D K : Nat → Int) (h : Fx.Blk w g (2 * 6) x T) (e : x = vx (V2 D K)) :
    Calls Try.prog 36 #[.slice (some ⟨g, 0, none⟩) 2 2] w fun e w' => e = .returned (.agg (Fx.varr 6 (Fx.rv .u64 fun p => mx6 (D p) (K p)))) ∧ Below w.heap.size w w' :=
  g_join (some ⟨g, 0, none⟩) 2 2 (V2 D K) w (by omega) (fun _ => ⟨Nat.le_refl _, g, 0, rfl, (h.to e).cel⟩)
theorem v_vreg (n : Int) (w : World) :
    Calls Try.prog 83 #[.int .i64 (n)] w fun e w' => e = .returned (.bool (regE n)) ∧ w' = w := by
 refine Fx.enter Try.func83 rfl (n := 9) rfl (by rfl) ?_
 refine Fx.W.seq (Fx.W.list (Fx.L.v (.bool false) (Fx.x_assign rfl rfl) ?_))
 refine Fx.L.nil (Fx.seqN (Fx.W.seq (Fx.W.list (Fx.L.v (.int .i64 (n)) (Fx.x_move rfl rfl) ?_))))
 by_cases c4 : 1 ≤ n
 ·refine Fx.L.v (.bool true) (Fx.x_geqT rfl rfl rfl c4) ?_
  refine Fx.L.v (.bool true) (Fx.x_move rfl rfl) ?_
  refine Fx.L.v (.int .i64 (n)) (Fx.x_move rfl rfl) ?_
  by_cases c7 : n ≤ 6
  ·refine Fx.L.v (.bool true) (Fx.x_leqT rfl rfl rfl c7) ?_
   refine Fx.L.v (.bool true) (Fx.x_pickT rfl rfl rfl) ?_
   refine Fx.L.v (.bool true) (Fx.x_assign rfl rfl) ?_
   refine Fx.L.nil (Fx.seqN (Fx.W.ret (⟨.bool true, Fx.retV1 Try.results83 (by exact rfl), ?_⟩)))
   exact ⟨congrArg (fun q => Ending.returned (Value.bool q)) (by simp only [regE]; first | (symm; simp; omega) | (symm; simp; done)), rfl⟩
  ·refine Fx.L.v (.bool false) (Fx.x_leqF rfl rfl rfl c7) ?_
   refine Fx.L.v (.bool false) (Fx.x_pickT rfl rfl rfl) ?_
   refine Fx.L.v (.bool false) (Fx.x_assign rfl rfl) ?_
   refine Fx.L.nil (Fx.seqN (Fx.W.ret (⟨.bool false, Fx.retV1 Try.results83 (by exact rfl), ?_⟩)))
   exact ⟨congrArg (fun q => Ending.returned (Value.bool q)) (by simp only [regE]; first | (symm; simp; omega) | (symm; simp; done)), rfl⟩
 ·refine Fx.L.v (.bool false) (Fx.x_geqF rfl rfl rfl c4) ?_
  refine Fx.L.v (.bool false) (Fx.x_move rfl rfl) ?_
  refine Fx.L.skip (by rfl) rfl ?_
  refine Fx.L.skip (by rfl) rfl ?_
  refine Fx.L.v (.bool false) (Fx.x_pickF rfl rfl rfl) ?_
  refine Fx.L.v (.bool false) (Fx.x_assign rfl rfl) ?_
  refine Fx.L.nil (Fx.seqN (Fx.W.ret (⟨.bool false, Fx.retV1 Try.results83 (by exact rfl), ?_⟩)))
  exact ⟨congrArg (fun q => Ending.returned (Value.bool q)) (by simp only [regE]; first | (symm; simp; omega) | (symm; simp; done)), rfl⟩
theorem v_has (K : Nat → Int) (o q : Int) (w : World) :
    Calls Try.prog 61 #[.agg (Fx.varr 6 (Fx.rv .u64 K)), .int .i64 (o), .int .u64 (q)] w fun e w' => e = .returned (.bool (hasB K o q)) ∧ Below w.heap.size w w' := by
 refine Fx.enter Try.func61 rfl (n := 21) rfl (by rfl) ?_
 refine Fx.W.seq (Fx.W.list (Fx.L.box (m := 6) (y := Fx.rv .u64 K) (by rfl) rfl rfl (Fx.cells_agg _ _) rfl fun g1 w1 eg1 m1 s1 z1 => ?_))
 have b1 := s1.below (Below.refl w.heap.size w) (Below.refl w.heap.size w).size (Below.refl w.heap.size w).size
 have lg1 : w.heap.size ≤ g1 := by rw [eg1]; exact (Below.refl w.heap.size w).size
 have tg1 : g1 < w1.heap.size := m1.lt
 clear eg1
 refine Fx.L.v (.bool false) (Fx.x_assign rfl rfl) ?_
 refine Fx.L.nil (Fx.seqN (Fx.W.seq (Fx.W.list (Fx.L.v (.int .i64 (o)) (Fx.x_move rfl rfl) ?_))))
 by_cases c8 : (regE o) = true
 ·obtain ⟨a, ha, ea⟩ := regE_nat c8
  refine Fx.L.call (by rfl) (Fx.r_call (args := [.int .i64 (o)]) rfl rfl Try.func83 rfl rfl) rfl ((v_vreg o _).mono ?_)
  rintro e v1 ⟨he, hv1⟩
  subst v1
  refine ⟨.bool true, by rw [he, c8], ?_⟩
  clear he
  refine Fx.L.v (.bool true) (Fx.x_move rfl rfl) ?_
  refine Fx.L.v (.int .u64 (q)) (Fx.x_move rfl rfl) ?_
  by_cases c11 : 0 < q
  ·refine Fx.L.v (.bool true) (Fx.x_gtrT rfl rfl rfl c11) ?_
   refine Fx.L.v (.bool true) (Fx.x_pickT rfl rfl rfl) ?_
   refine Fx.L.v (.bool true) (Fx.x_move rfl rfl) ?_
   refine Fx.L.v (.int .i64 (o)) (Fx.x_move rfl rfl) ?_
   refine Fx.L.v (.int .i64 ((a : Int))) (Fx.x_sub rfl rfl rfl (Fx.i64e (by omega) (by omega))) ?_
   refine Fx.L.v (.pointer (some ⟨g1, a, none⟩)) (Fx.x_index rfl rfl rfl Try.underlying32 (s := 1) (by kernel_rfl) (by omega) (by omega) (by omega)) ?_
   refine Fx.L.v (.int .u64 (K a)) (Fx.x_load1 (x := Fx.rv .u64 K) rfl rfl (by kernel_rfl) m1.cel (i := a) (by omega) (by omega) rfl) ?_
   refine Fx.L.v (.int .u64 (q)) (Fx.x_move rfl rfl) ?_
   by_cases c19 : q ≤ (K a)
   ·refine Fx.L.v (.bool true) (Fx.x_geqT rfl rfl rfl c19) ?_
    refine Fx.L.v (.bool true) (Fx.x_pickT rfl rfl rfl) ?_
    refine Fx.L.v (.bool true) (Fx.x_assign rfl rfl) ?_
    refine Fx.L.nil (Fx.seqN (Fx.W.ret (⟨.bool true, Fx.retV1 Try.results61 (by exact rfl), ?_⟩)))
    have m2 : decide (0 < q) = true := decide_eq_true c11
    have m3 : decide (q ≤ K (o - 1).toNat) = true := decide_eq_true (by rw [show (o - 1).toNat = a by omega]; exact c19)
    exact ⟨congrArg (fun q => Ending.returned (Value.bool q)) (Eq.symm (by unfold hasB; rw [c8, m2, m3]; try rfl)), b1⟩
   ·refine Fx.L.v (.bool false) (Fx.x_geqF rfl rfl rfl c19) ?_
    refine Fx.L.v (.bool false) (Fx.x_pickT rfl rfl rfl) ?_
    refine Fx.L.v (.bool false) (Fx.x_assign rfl rfl) ?_
    refine Fx.L.nil (Fx.seqN (Fx.W.ret (⟨.bool false, Fx.retV1 Try.results61 (by exact rfl), ?_⟩)))
    have m2 : decide (0 < q) = true := decide_eq_true c11
    have m3 : decide (q ≤ K (o - 1).toNat) = false := decide_eq_false (by rw [show (o - 1).toNat = a by omega]; exact c19)
    exact ⟨congrArg (fun q => Ending.returned (Value.bool q)) (Eq.symm (by unfold hasB; rw [c8, m2, m3]; try rfl)), b1⟩
  ·refine Fx.L.v (.bool false) (Fx.x_gtrF rfl rfl rfl c11) ?_
   refine Fx.L.v (.bool false) (Fx.x_pickT rfl rfl rfl) ?_
   refine Fx.L.v (.bool false) (Fx.x_move rfl rfl) ?_
   refine Fx.L.skip (by rfl) rfl ?_
   refine Fx.L.skip (by rfl) rfl ?_
   refine Fx.L.skip (by rfl) rfl ?_
   refine Fx.L.skip (by rfl) rfl ?_
   refine Fx.L.skip (by rfl) rfl ?_
   refine Fx.L.skip (by rfl) rfl ?_
   refine Fx.L.v (.bool false) (Fx.x_pickF rfl rfl rfl) ?_
   refine Fx.L.v (.bool false) (Fx.x_assign rfl rfl) ?_
   refine Fx.L.nil (Fx.seqN (Fx.W.ret (⟨.bool false, Fx.retV1 Try.results61 (by exact rfl), ?_⟩)))
   have m2 : decide (0 < q) = false := decide_eq_false c11
   exact ⟨congrArg (fun q => Ending.returned (Value.bool q)) (Eq.symm (by unfold hasB; rw [c8, m2]; try rfl)), b1⟩
 ·rw [Bool.not_eq_true] at c8
  refine Fx.L.call (by rfl) (Fx.r_call (args := [.int .i64 (o)]) rfl rfl Try.func83 rfl rfl) rfl ((v_vreg o _).mono ?_)
  rintro e v1 ⟨he, hv1⟩
  subst v1
  refine ⟨.bool false, by rw [he, c8], ?_⟩
  clear he
  refine Fx.L.v (.bool false) (Fx.x_move rfl rfl) ?_
  refine Fx.L.skip (by rfl) rfl ?_
  refine Fx.L.skip (by rfl) rfl ?_
  refine Fx.L.v (.bool false) (Fx.x_pickF rfl rfl rfl) ?_
  refine Fx.L.v (.bool false) (Fx.x_move rfl rfl) ?_
  refine Fx.L.skip (by rfl) rfl ?_
  refine Fx.L.skip (by rfl) rfl ?_
  refine Fx.L.skip (by rfl) rfl ?_
  refine Fx.L.skip (by rfl) rfl ?_
  refine Fx.L.skip (by rfl) rfl ?_
  refine Fx.L.skip (by rfl) rfl ?_
  refine Fx.L.v (.bool false) (Fx.x_pickF rfl rfl rfl) ?_
  refine Fx.L.v (.bool false) (Fx.x_assign rfl rfl) ?_
  refine Fx.L.nil (Fx.seqN (Fx.W.ret (⟨.bool false, Fx.retV1 Try.results61 (by exact rfl), ?_⟩)))
  exact ⟨congrArg (fun q => Ending.returned (Value.bool q)) (Eq.symm (by unfold hasB; rw [c8]; try rfl)), b1⟩
theorem v_less (D K : Nat → Int) (w : World) (hD : Kr D) (hK : Kr K) :
    Calls Try.prog 62 #[.agg (Fx.varr 6 (Fx.rv .u64 D)), .agg (Fx.varr 6 (Fx.rv .u64 K))] w fun e w' => e = .returned (.bool (leAll D K)) ∧ Below w.heap.size w w' := by
 refine Fx.enter Try.func62 rfl (n := 11) rfl (by rfl) ?_
 refine Fx.W.seq (Fx.W.list (Fx.L.box (m := 6) (y := Fx.rv .u64 D) (by rfl) rfl rfl (Fx.cells_agg _ _) rfl fun g1 w1 eg1 m1 s1 z1 => ?_))
 have b1 := s1.below (Below.refl w.heap.size w) (Below.refl w.heap.size w).size (Below.refl w.heap.size w).size
 have lg1 : w.heap.size ≤ g1 := by rw [eg1]; exact (Below.refl w.heap.size w).size
 have tg1 : g1 < w1.heap.size := m1.lt
 clear eg1
 refine Fx.L.box (m := 6) (y := Fx.rv .u64 K) (by rfl) rfl rfl (Fx.cells_agg _ _) rfl fun g2 w2 eg2 m2 s2 z2 => ?_
 have m3 := m1.stp s2 (Nat.ne_of_lt (m1.lt))
 have b2 := s2.below b1 b1.size b1.size
 have lg2 : w.heap.size ≤ g2 := by rw [eg2]; exact b1.size
 have ng2m3 : g1 ≠ g2 := by rw [eg2]; exact Nat.ne_of_lt (m1.lt)
 have tg2 : g2 < w2.heap.size := m2.lt
 clear eg2
 refine Fx.L.v (.bool false) (Fx.x_assign rfl rfl) ?_
 refine Fx.L.nil (Fx.seqN (Fx.W.seq ?_))
 -- region 1 draws
 refine Fx.W.reord [0, 1, 4, 2, 3, 5, 6] [4, 4, 2, 2, 1, 0, 0] Fx.Mk Fx.Mk.refl Fx.Mk.trans (certs := [(2, 0, [0]), (3, 0, [2, 0]), (2, 1, [1]), (3, 1, [2, 1]), (3, 2, [2]), (5, 2, [3, 2]), (6, 2, [2]), (5, 3, [3]), (6, 3, [3])]) (by kernel_rfl) (by kernel_rfl) (by kernel_rfl) (by kernel_rfl) (by kernel_rfl) fun wt1 hbwt1 hzwt1 => ?_
 have s3 : Fx.Stp w2.heap.size w2 wt1 := Fx.Stp.of_below hbwt1
 have m4 := m3.stp s3 (Nat.ne_of_lt (m3.lt))
 have m5 := m2.stp s3 (Nat.ne_of_lt (m2.lt))
 have b3 := s3.below b2 b2.size b2.size
 refine Fx.R.s (.agg (Fx.varr 6 (Fx.rv .u64 D))) (Fx.x_loadA (x := Fx.rv .u64 D) (y := Fx.rv .u64 D) rfl rfl (by kernel_rfl) (by kernel_rfl) m4.cel (i := 0) (by omega) (by omega) (fun j _ => by rw [Nat.zero_add])) ?_
 refine Fx.R.s (.agg (Fx.varr 6 (Fx.rv .u64 K))) (Fx.x_loadA (x := Fx.rv .u64 K) (y := Fx.rv .u64 K) rfl rfl (by kernel_rfl) (by kernel_rfl) m5.cel (i := 0) (by omega) (by omega) (fun j _ => by rw [Nat.zero_add])) ?_
 refine Fx.R.read (v := .agg (Fx.varr 6 (Fx.rv .u64 K))) (by rfl) (by rfl) (Fx.Mk.refl _) (fun v1 hv1 => Fx.x_loadA (x := Fx.rv .u64 K) (y := Fx.rv .u64 K) rfl rfl (by kernel_rfl) (by kernel_rfl) (m5.cel.below hv1 (by have := m5.lt; omega)) (i := 0) (by omega) (by omega) (fun j _ => by rw [Nat.zero_add])) ?_
 refine Fx.R.make (by rfl) ?_
 refine Fx.L.bslice (vs := [(0, .agg (Fx.varr 6 (Fx.rv .u64 D))), (1, .agg (Fx.varr 6 (Fx.rv .u64 K)))]) (s := 6) (zc := Fx.rv .u64 (fun _ => 0)) (y := Fx.ovr (Fx.ovr (fun j => (Fx.rv .u64 (fun _ => 0)) (j % 6)) (0 * 6) 6 (Fx.rv .u64 D)) (1 * 6) 6 (Fx.rv .u64 K)) (by rfl) rfl rfl Try.underlying107 (by kernel_rfl) (by rfl) (by rfl) (by kernel_rfl) (by rw [Fx.fill_step (off := 0 * 6) (s := 6) (y := Fx.rv .u64 D) rfl (Fx.cells_agg _ _) (by rfl)]; rw [Fx.fill_step (off := 1 * 6) (s := 6) (y := Fx.rv .u64 K) rfl (Fx.cells_agg _ _) (by rfl)]; rfl) rfl fun g3 w3 eg3 m6 s4 z3 => ?_
 have m7 := m4.stp s4 (Nat.ne_of_lt (m4.lt))
 have m8 := m5.stp s4 (Nat.ne_of_lt (m5.lt))
 have b4 := s4.below b3 b3.size b3.size
 have lg3 : w.heap.size ≤ g3 := by rw [eg3]; exact b3.size
 have ng3m7 : g1 ≠ g3 := by rw [eg3]; exact Nat.ne_of_lt (m4.lt)
 have ng3m8 : g2 ≠ g3 := by rw [eg3]; exact Nat.ne_of_lt (m5.lt)
 have tg3 : g3 < w3.heap.size := m6.lt
 clear eg3
 refine Fx.L.nil ⟨s4.old, ?_⟩
 refine Fx.R.make (by rfl) ?_
 refine Fx.L.call (by rfl) (Fx.r_call (args := [.slice (some ⟨g3, 0, none⟩) (2) (2)]) rfl rfl Try.func36 rfl rfl) rfl ((g_join2 D K m6 (V2_eq D K)).mono ?_)
 rintro e w4 ⟨he, hb1⟩
 refine ⟨.agg (Fx.varr 6 (Fx.rv .u64 (fun p => mx6 (D p) (K p)))), by rw [he], ?_⟩
 clear he
 have s5 := Fx.Stp.of_below hb1
 have m9 := m7.stp s5 (Nat.ne_of_lt (m7.lt))
 have m10 := m8.stp s5 (Nat.ne_of_lt (m8.lt))
 have m11 := m6.stp s5 (Nat.ne_of_lt (m6.lt))
 have b5 := s5.below b4 b4.size b4.size
 refine Fx.L.nil ⟨s5.old, ?_⟩
 by_cases c10 : ∀ i, i < 6 → (Fx.rv .u64 (fun p => mx6 (D p) (K p))) i = (Fx.rv .u64 K) i
 ·refine Fx.R.p (.bool true) (fun v1 => Fx.x_eqlA (n := 6) (ks := List.replicate 6 (some .u64)) (X := Fx.rv .u64 (fun p => mx6 (D p) (K p))) (Y := Fx.rv .u64 K) 12 true rfl rfl rfl (Fx.yesb c10) (hD.mx hK).kd hK.kd rfl (by kernel_rfl) (by kernel_rfl) (by kernel_rfl) (by kernel_rfl) (by kernel_rfl)) ?_
  refine Fx.R.p (.bool true) (fun v1 => Fx.x_assign rfl rfl) ?_
  refine Fx.R.nil (Fx.seqN (Fx.W.ret (⟨.bool true, Fx.retV1 Try.results62 (by exact rfl), ?_⟩)))
  exact ⟨congrArg (fun q => Ending.returned (Value.bool q)) (Eq.symm (leAll_iff.2 c10)), b5⟩
 ·refine Fx.R.p (.bool false) (fun v1 => Fx.x_eqlA (n := 6) (ks := List.replicate 6 (some .u64)) (X := Fx.rv .u64 (fun p => mx6 (D p) (K p))) (Y := Fx.rv .u64 K) 12 false rfl rfl rfl (Fx.nob c10) (hD.mx hK).kd hK.kd rfl (by kernel_rfl) (by kernel_rfl) (by kernel_rfl) (by kernel_rfl) (by kernel_rfl)) ?_
  refine Fx.R.p (.bool false) (fun v1 => Fx.x_assign rfl rfl) ?_
  refine Fx.R.nil (Fx.seqN (Fx.W.ret (⟨.bool false, Fx.retV1 Try.results62 (by exact rfl), ?_⟩)))
  exact ⟨congrArg (fun q => Ending.returned (Value.bool q)) (Eq.symm (Bool.eq_false_iff.2 (fun h => c10 (leAll_iff.1 h)))), b5⟩
theorem Rt.late_has {K : Nat → Int} {v : EvM} (h : mayE v = true) : lateE K v = hasB K v.o v.seq := by
  have h1 := may_reg h; have h2 := (may_seq h).1
  unfold lateE hasB; rw [h, h1, show decide (0 < v.seq) = true from decide_eq_true (by omega)]; rfl
theorem v_late (K : Nat → Int) (v : EvM) (w : World) (hv : EvWf v) :
    Calls Try.prog 43 #[.agg (Fx.varr 6 (Fx.rv .u64 K)), .agg (Fx.varr 14 (evY v))] w fun e w' => e = .returned (.bool (lateE K v)) ∧ Below w.heap.size w w' := by
 refine Fx.enter Try.func43 rfl (n := 15) rfl (by rfl) ?_
 refine Fx.W.seq (Fx.W.list (Fx.L.box (m := 6) (y := Fx.rv .u64 K) (by rfl) rfl rfl (Fx.cells_agg _ _) rfl fun g1 w1 eg1 m1 s1 z1 => ?_))
 have b1 := s1.below (Below.refl w.heap.size w) (Below.refl w.heap.size w).size (Below.refl w.heap.size w).size
 have lg1 : w.heap.size ≤ g1 := by rw [eg1]; exact (Below.refl w.heap.size w).size
 have tg1 : g1 < w1.heap.size := m1.lt
 clear eg1
 refine Fx.L.box (m := 14) (y := evY v) (by rfl) rfl rfl (Fx.cells_agg _ _) rfl fun g2 w2 eg2 m2 s2 z2 => ?_
 have m3 := m1.stp s2 (Nat.ne_of_lt (m1.lt))
 have b2 := s2.below b1 b1.size b1.size
 have lg2 : w.heap.size ≤ g2 := by rw [eg2]; exact b1.size
 have ng2m3 : g1 ≠ g2 := by rw [eg2]; exact Nat.ne_of_lt (m1.lt)
 have tg2 : g2 < w2.heap.size := m2.lt
 clear eg2
 refine Fx.L.v (.bool false) (Fx.x_assign rfl rfl) ?_
 refine Fx.L.nil (Fx.seqN (Fx.W.seq (Fx.W.list (Fx.L.v (.agg (Fx.varr 14 (evY v))) (Fx.x_loadA (x := evY v) (y := evY v) rfl rfl (by kernel_rfl) (by kernel_rfl) m2.cel (i := 0) (by omega) (by omega) (fun j _ => by rw [Nat.zero_add])) ?_))))
 by_cases c6 : (mayE v) = true
 ·refine Fx.L.call (by rfl) (Fx.r_call (args := [.agg (Fx.varr 14 (evY v))]) rfl rfl Try.func42 rfl rfl) rfl ((v_may v _ hv).mono ?_)
  rintro e w3 ⟨he, hb1⟩
  refine ⟨.bool true, by rw [he, c6], ?_⟩
  clear he
  have s3 := Fx.Stp.of_below hb1
  have m4 := m3.stp s3 (Nat.ne_of_lt (m3.lt))
  have m5 := m2.stp s3 (Nat.ne_of_lt (m2.lt))
  have b3 := s3.below b2 b2.size b2.size
  refine Fx.L.v (.bool true) (Fx.x_move rfl rfl) ?_
  refine Fx.L.v (.agg (Fx.varr 6 (Fx.rv .u64 K))) (Fx.x_loadA (x := Fx.rv .u64 K) (y := Fx.rv .u64 K) rfl rfl (by kernel_rfl) (by kernel_rfl) m4.cel (i := 0) (by omega) (by omega) (fun j _ => by rw [Nat.zero_add])) ?_
  refine Fx.L.v (.pointer (some ⟨g2, 0, none⟩)) (Fx.x_field rfl rfl Try.underlying50 rfl (s := 1) (by kernel_rfl) rfl rfl) ?_
  refine Fx.L.v (.int .i64 (v.o)) (Fx.x_load1 (x := evY v) rfl rfl (by kernel_rfl) m5.cel (i := 0) (by omega) (by omega) rfl) ?_
  refine Fx.L.v (.pointer (some ⟨g2, 1, none⟩)) (Fx.x_field rfl rfl Try.underlying50 rfl (s := 1) (by kernel_rfl) rfl (by show _ + 1 = _; omega)) ?_
  refine Fx.L.v (.int .u64 (v.seq)) (Fx.x_load1 (x := evY v) rfl rfl (by kernel_rfl) m5.cel (i := 1) (by omega) (by omega) rfl) ?_
  by_cases c13 : (hasB K v.o v.seq) = true
  ·refine Fx.L.call (by rfl) (Fx.r_call (args := [.agg (Fx.varr 6 (Fx.rv .u64 K)), .int .i64 (v.o), .int .u64 (v.seq)]) rfl rfl Try.func61 rfl rfl) rfl ((v_has K v.o v.seq _).mono ?_)
   rintro e w4 ⟨he, hb2⟩
   refine ⟨.bool true, by rw [he, c13], ?_⟩
   clear he
   have s4 := Fx.Stp.of_below hb2
   have m6 := m4.stp s4 (Nat.ne_of_lt (m4.lt))
   have m7 := m5.stp s4 (Nat.ne_of_lt (m5.lt))
   have b4 := s4.below b3 b3.size b3.size
   refine Fx.L.v (.bool true) (Fx.x_pickT rfl rfl rfl) ?_
   refine Fx.L.v (.bool true) (Fx.x_assign rfl rfl) ?_
   refine Fx.L.nil (Fx.seqN (Fx.W.ret (⟨.bool true, Fx.retV1 Try.results43 (by exact rfl), ?_⟩)))
   exact ⟨congrArg (fun q => Ending.returned (Value.bool q)) (Eq.symm ((late_has c6).trans c13)), b4⟩
  ·rw [Bool.not_eq_true] at c13
   refine Fx.L.call (by rfl) (Fx.r_call (args := [.agg (Fx.varr 6 (Fx.rv .u64 K)), .int .i64 (v.o), .int .u64 (v.seq)]) rfl rfl Try.func61 rfl rfl) rfl ((v_has K v.o v.seq _).mono ?_)
   rintro e w5 ⟨he, hb3⟩
   refine ⟨.bool false, by rw [he, c13], ?_⟩
   clear he
   have s5 := Fx.Stp.of_below hb3
   have m8 := m4.stp s5 (Nat.ne_of_lt (m4.lt))
   have m9 := m5.stp s5 (Nat.ne_of_lt (m5.lt))
   have b5 := s5.below b3 b3.size b3.size
   refine Fx.L.v (.bool false) (Fx.x_pickT rfl rfl rfl) ?_
   refine Fx.L.v (.bool false) (Fx.x_assign rfl rfl) ?_
   refine Fx.L.nil (Fx.seqN (Fx.W.ret (⟨.bool false, Fx.retV1 Try.results43 (by exact rfl), ?_⟩)))
   exact ⟨congrArg (fun q => Ending.returned (Value.bool q)) (Eq.symm ((late_has c6).trans c13)), b5⟩
 ·rw [Bool.not_eq_true] at c6
  refine Fx.L.call (by rfl) (Fx.r_call (args := [.agg (Fx.varr 14 (evY v))]) rfl rfl Try.func42 rfl rfl) rfl ((v_may v _ hv).mono ?_)
  rintro e w6 ⟨he, hb4⟩
  refine ⟨.bool false, by rw [he, c6], ?_⟩
  clear he
  have s6 := Fx.Stp.of_below hb4
  have m10 := m3.stp s6 (Nat.ne_of_lt (m3.lt))
  have m11 := m2.stp s6 (Nat.ne_of_lt (m2.lt))
  have b6 := s6.below b2 b2.size b2.size
  refine Fx.L.v (.bool false) (Fx.x_move rfl rfl) ?_
  refine Fx.L.skip (by rfl) rfl ?_
  refine Fx.L.skip (by rfl) rfl ?_
  refine Fx.L.skip (by rfl) rfl ?_
  refine Fx.L.skip (by rfl) rfl ?_
  refine Fx.L.skip (by rfl) rfl ?_
  refine Fx.L.skip (by rfl) rfl ?_
  refine Fx.L.v (.bool false) (Fx.x_pickF rfl rfl rfl) ?_
  refine Fx.L.v (.bool false) (Fx.x_assign rfl rfl) ?_
  refine Fx.L.nil (Fx.seqN (Fx.W.ret (⟨.bool false, Fx.retV1 Try.results43 (by exact rfl), ?_⟩)))
  exact ⟨congrArg (fun q => Ending.returned (Value.bool q)) (Eq.symm (by unfold lateE; rw [c6]; rfl)), b6⟩
theorem v_ready (K : Nat → Int) (v : EvM) (w : World) (hv : EvWf v) (hK : Kr K) :
    Calls Try.prog 44 #[.agg (Fx.varr 6 (Fx.rv .u64 K)), .agg (Fx.varr 14 (evY v))] w fun e w' => e = .returned (.bool (readyE K v)) ∧ Below w.heap.size w w' := by
 refine Fx.enter Try.func44 rfl (n := 24) rfl (by rfl) ?_
 refine Fx.W.seq (Fx.W.list (Fx.L.box (m := 6) (y := Fx.rv .u64 K) (by rfl) rfl rfl (Fx.cells_agg _ _) rfl fun g1 w1 eg1 m1 s1 z1 => ?_))
 have b1 := s1.below (Below.refl w.heap.size w) (Below.refl w.heap.size w).size (Below.refl w.heap.size w).size
 have lg1 : w.heap.size ≤ g1 := by rw [eg1]; exact (Below.refl w.heap.size w).size
 have tg1 : g1 < w1.heap.size := m1.lt
 clear eg1
 refine Fx.L.box (m := 14) (y := evY v) (by rfl) rfl rfl (Fx.cells_agg _ _) rfl fun g2 w2 eg2 m2 s2 z2 => ?_
 have m3 := m1.stp s2 (Nat.ne_of_lt (m1.lt))
 have b2 := s2.below b1 b1.size b1.size
 have lg2 : w.heap.size ≤ g2 := by rw [eg2]; exact b1.size
 have ng2m3 : g1 ≠ g2 := by rw [eg2]; exact Nat.ne_of_lt (m1.lt)
 have tg2 : g2 < w2.heap.size := m2.lt
 clear eg2
 refine Fx.L.v (.bool false) (Fx.x_assign rfl rfl) ?_
 refine Fx.L.nil (Fx.seqN (Fx.W.seq ?_))
 -- region 1 draws
 refine Fx.W.quiet (fun v1 => Below w2.heap.size w2 v1) (by kernel_rfl) (by kernel_rfl) (Below.refl _ _).drew ?_
 refine Fx.Qt.v (.agg (Fx.varr 14 (evY v))) (fun v1 hv1 => Fx.x_loadA (x := evY v) (y := evY v) rfl rfl (by kernel_rfl) (by kernel_rfl) (m2.cel.below hv1 (by have := m2.lt; omega)) (i := 0) (by omega) (by omega) (fun j _ => by rw [Nat.zero_add])) ?_
 by_cases c6 : (mayE v) = true
 ·obtain ⟨a, ha, ea⟩ := regE_nat (may_reg c6)
  have hs1 := may_seq c6
  refine Fx.Qt.call (v := .bool true) (by rfl) (fun v1 hv1 => Fx.r_call (args := [.agg (Fx.varr 14 (evY v))]) rfl rfl Try.func42 rfl rfl) rfl (fun v1 hv1 => (v_may v _ hv).mono fun e v2 h => ⟨by rw [h.1, c6], bch hv1 h.2⟩) ?_
  refine Fx.Qt.v (.bool true) (fun v1 hv1 => Fx.x_move rfl rfl) ?_
  refine Fx.Qt.v (.pointer (some ⟨g2, 0, none⟩)) (fun v1 hv1 => Fx.x_field rfl rfl Try.underlying50 rfl (s := 1) (by kernel_rfl) rfl rfl) ?_
  refine Fx.Qt.v (.int .i64 (v.o)) (fun v1 hv1 => Fx.x_load1 (x := evY v) rfl rfl (by kernel_rfl) (m2.cel.below hv1 (by have := m2.lt; omega)) (i := 0) (by omega) (by omega) rfl) ?_
  refine Fx.Qt.v (.int .i64 ((a : Int))) (fun v1 hv1 => Fx.x_sub rfl rfl rfl (Fx.i64e (by omega) (by omega))) ?_
  refine Fx.Qt.v (.pointer (some ⟨g1, a, none⟩)) (fun v1 hv1 => Fx.x_index rfl rfl rfl Try.underlying32 (s := 1) (by kernel_rfl) (by omega) (by omega) (by omega)) ?_
  refine Fx.Qt.v (.int .u64 (K a)) (fun v1 hv1 => Fx.x_load1 (x := Fx.rv .u64 K) rfl rfl (by kernel_rfl) (m3.cel.below hv1 (by have := m3.lt; omega)) (i := a) (by omega) (by omega) rfl) ?_
  refine Fx.Qt.v (.pointer (some ⟨g2, 1, none⟩)) (fun v1 hv1 => Fx.x_field rfl rfl Try.underlying50 rfl (s := 1) (by kernel_rfl) rfl (by show _ + 1 = _; omega)) ?_
  refine Fx.Qt.v (.int .u64 (v.seq)) (fun v1 hv1 => Fx.x_load1 (x := evY v) rfl rfl (by kernel_rfl) (m2.cel.below hv1 (by have := m2.lt; omega)) (i := 1) (by omega) (by omega) rfl) ?_
  refine Fx.Qt.v (.int .u64 (v.seq - 1)) (fun v1 hv1 => Fx.x_sub rfl rfl rfl (Fx.u64e (by omega) (by omega))) ?_
  by_cases c16 : (K a) = (v.seq - 1)
  ·refine Fx.Qt.v (.bool true) (fun v1 hv1 => Fx.x_eqlT rfl rfl rfl c16) ?_
   refine Fx.Qt.v (.bool true) (fun v1 hv1 => Fx.x_pickT rfl rfl rfl) ?_
   refine Fx.Qt.v (.bool true) (fun v1 hv1 => Fx.x_move rfl rfl) ?_
   refine Fx.Qt.v (.pointer (some ⟨g2, 2, none⟩)) (fun v1 hv1 => Fx.x_field rfl rfl Try.underlying50 rfl (s := 6) (by kernel_rfl) rfl (by show _ + 2 = _; omega)) ?_
   refine Fx.Qt.v (.agg (Fx.varr 6 (Fx.rv .u64 v.deps))) (fun v1 hv1 => Fx.x_loadA (x := evY v) (y := Fx.rv .u64 v.deps) rfl rfl (by kernel_rfl) (by kernel_rfl) (m2.cel.below hv1 (by have := m2.lt; omega)) (i := 2) (by omega) (by omega) (fun j hj => evY_deps _ (by omega) hj)) ?_
   refine Fx.Qt.v (.agg (Fx.varr 6 (Fx.rv .u64 K))) (fun v1 hv1 => Fx.x_loadA (x := Fx.rv .u64 K) (y := Fx.rv .u64 K) rfl rfl (by kernel_rfl) (by kernel_rfl) (m3.cel.below hv1 (by have := m3.lt; omega)) (i := 0) (by omega) (by omega) (fun j _ => by rw [Nat.zero_add])) ?_
   by_cases c22 : (leAll v.deps K) = true
   ·refine Fx.Qt.call (v := .bool true) (by rfl) (fun v1 hv1 => Fx.r_call (args := [.agg (Fx.varr 6 (Fx.rv .u64 v.deps)), .agg (Fx.varr 6 (Fx.rv .u64 K))]) rfl rfl Try.func62 rfl rfl) rfl (fun v1 hv1 => (v_less v.deps K _ hv.deps hK).mono fun e v2 h => ⟨by rw [h.1, c22], bch hv1 h.2⟩) ?_
    refine Fx.Qt.v (.bool true) (fun v1 hv1 => Fx.x_pickT rfl rfl rfl) ?_
    refine Fx.Qt.v (.bool true) (fun v1 hv1 => Fx.x_assign rfl rfl) ?_
    refine Fx.Qt.nil ?_
    intro wb1 hbwb1
    have s3 : Fx.Stp w2.heap.size w2 wb1 := Fx.Stp.of_below hbwb1
    have m4 := m3.stp s3 (Nat.ne_of_lt (m3.lt))
    have m5 := m2.stp s3 (Nat.ne_of_lt (m2.lt))
    have b3 := s3.below b2 b2.size b2.size
    refine Fx.seqN (Fx.W.ret (⟨.bool true, Fx.retV1 Try.results44 (by exact rfl), ?_⟩))
    have m2 : decide (v.seq = K (v.o - 1).toNat + 1) = true := decide_eq_true (by rw [show (v.o - 1).toNat = a by omega]; omega)
    exact ⟨congrArg (fun q => Ending.returned (Value.bool q)) (Eq.symm (by unfold readyE; rw [c6, m2, c22]; try rfl)), b3⟩
   ·rw [Bool.not_eq_true] at c22
    refine Fx.Qt.call (v := .bool false) (by rfl) (fun v1 hv1 => Fx.r_call (args := [.agg (Fx.varr 6 (Fx.rv .u64 v.deps)), .agg (Fx.varr 6 (Fx.rv .u64 K))]) rfl rfl Try.func62 rfl rfl) rfl (fun v1 hv1 => (v_less v.deps K _ hv.deps hK).mono fun e v2 h => ⟨by rw [h.1, c22], bch hv1 h.2⟩) ?_
    refine Fx.Qt.v (.bool false) (fun v1 hv1 => Fx.x_pickT rfl rfl rfl) ?_
    refine Fx.Qt.v (.bool false) (fun v1 hv1 => Fx.x_assign rfl rfl) ?_
    refine Fx.Qt.nil ?_
    intro wb2 hbwb2
    have s4 : Fx.Stp w2.heap.size w2 wb2 := Fx.Stp.of_below hbwb2
    have m6 := m3.stp s4 (Nat.ne_of_lt (m3.lt))
    have m7 := m2.stp s4 (Nat.ne_of_lt (m2.lt))
    have b4 := s4.below b2 b2.size b2.size
    refine Fx.seqN (Fx.W.ret (⟨.bool false, Fx.retV1 Try.results44 (by exact rfl), ?_⟩))
    have m2 : decide (v.seq = K (v.o - 1).toNat + 1) = true := decide_eq_true (by rw [show (v.o - 1).toNat = a by omega]; omega)
    exact ⟨congrArg (fun q => Ending.returned (Value.bool q)) (Eq.symm (by unfold readyE; rw [c6, m2, c22]; try rfl)), b4⟩
  ·refine Fx.Qt.v (.bool false) (fun v1 hv1 => Fx.x_eqlF rfl rfl rfl c16) ?_
   refine Fx.Qt.v (.bool false) (fun v1 hv1 => Fx.x_pickT rfl rfl rfl) ?_
   refine Fx.Qt.v (.bool false) (fun v1 hv1 => Fx.x_move rfl rfl) ?_
   refine Fx.Qt.skip (by rfl) rfl ?_
   refine Fx.Qt.skip (by rfl) rfl ?_
   refine Fx.Qt.skip (by rfl) rfl ?_
   refine Fx.Qt.skip (by rfl) rfl ?_
   refine Fx.Qt.v (.bool false) (fun v1 hv1 => Fx.x_pickF rfl rfl rfl) ?_
   refine Fx.Qt.v (.bool false) (fun v1 hv1 => Fx.x_assign rfl rfl) ?_
   refine Fx.Qt.nil ?_
   intro wb3 hbwb3
   have s5 : Fx.Stp w2.heap.size w2 wb3 := Fx.Stp.of_below hbwb3
   have m8 := m3.stp s5 (Nat.ne_of_lt (m3.lt))
   have m9 := m2.stp s5 (Nat.ne_of_lt (m2.lt))
   have b5 := s5.below b2 b2.size b2.size
   refine Fx.seqN (Fx.W.ret (⟨.bool false, Fx.retV1 Try.results44 (by exact rfl), ?_⟩))
   have m2 : decide (v.seq = K (v.o - 1).toNat + 1) = false := decide_eq_false (by rw [show (v.o - 1).toNat = a by omega]; omega)
   exact ⟨congrArg (fun q => Ending.returned (Value.bool q)) (Eq.symm (by unfold readyE; rw [c6, m2]; try rfl)), b5⟩
 ·rw [Bool.not_eq_true] at c6
  refine Fx.Qt.call (v := .bool false) (by rfl) (fun v1 hv1 => Fx.r_call (args := [.agg (Fx.varr 14 (evY v))]) rfl rfl Try.func42 rfl rfl) rfl (fun v1 hv1 => (v_may v _ hv).mono fun e v2 h => ⟨by rw [h.1, c6], bch hv1 h.2⟩) ?_
  refine Fx.Qt.v (.bool false) (fun v1 hv1 => Fx.x_move rfl rfl) ?_
  refine Fx.Qt.skip (by rfl) rfl ?_
  refine Fx.Qt.skip (by rfl) rfl ?_
  refine Fx.Qt.skip (by rfl) rfl ?_
  refine Fx.Qt.skip (by rfl) rfl ?_
  refine Fx.Qt.skip (by rfl) rfl ?_
  refine Fx.Qt.skip (by rfl) rfl ?_
  refine Fx.Qt.skip (by rfl) rfl ?_
  refine Fx.Qt.skip (by rfl) rfl ?_
  refine Fx.Qt.skip (by rfl) rfl ?_
  refine Fx.Qt.v (.bool false) (fun v1 hv1 => Fx.x_pickF rfl rfl rfl) ?_
  refine Fx.Qt.v (.bool false) (fun v1 hv1 => Fx.x_move rfl rfl) ?_
  refine Fx.Qt.skip (by rfl) rfl ?_
  refine Fx.Qt.skip (by rfl) rfl ?_
  refine Fx.Qt.skip (by rfl) rfl ?_
  refine Fx.Qt.skip (by rfl) rfl ?_
  refine Fx.Qt.v (.bool false) (fun v1 hv1 => Fx.x_pickF rfl rfl rfl) ?_
  refine Fx.Qt.v (.bool false) (fun v1 hv1 => Fx.x_assign rfl rfl) ?_
  refine Fx.Qt.nil ?_
  intro wb4 hbwb4
  have s6 : Fx.Stp w2.heap.size w2 wb4 := Fx.Stp.of_below hbwb4
  have m10 := m3.stp s6 (Nat.ne_of_lt (m3.lt))
  have m11 := m2.stp s6 (Nat.ne_of_lt (m2.lt))
  have b6 := s6.below b2 b2.size b2.size
  refine Fx.seqN (Fx.W.ret (⟨.bool false, Fx.retV1 Try.results44 (by exact rfl), ?_⟩))
  exact ⟨congrArg (fun q => Ending.returned (Value.bool q)) (Eq.symm (by unfold readyE; rw [c6]; try rfl)), b6⟩
end Go.Proofs.Ytleajegppehbdaa
namespace Go.Proofs.Ytleajegppehbdaa
open Go.RowKit Rt
namespace Rt
structure ItM where
  e : EvM
  tm : Int
def it0 : ItM := ⟨⟨0, 0, fun _ => 0, 0, 0, 0, 0, 0, 0⟩, 0⟩
def itY (x : ItM) : Nat → Value := fun p => if p < 14 then evY x.e p else .int .u64 x.tm
theorem itY_ev (x : ItM) {p : Nat} {v : Value} (hp : p < 14) (e : evY x.e p = v) : itY x p = v := by unfold itY; rw [if_pos hp]; exact e
theorem itY_one (x : ItM) (j : Nat) : (itY x j).oneCell' = true := by
  unfold itY; split
  · rename_i h; exact evY_one _ j h
  · rfl
def itX (l : List ItM) : Nat → Value := Fx.flat 15 fun q => itY (l.getD q it0)
def plc (x : ItM) (s : Int) : Int := if x.e.seq ≤ s then -1 else 1
structure PlaceR (l : List ItM) (s : Int) (r : Nat) : Prop where
  le : r ≤ l.length
  lo : ∀ q, q < r → (l.getD q it0).e.seq ≤ s
  hi : ∀ q, r ≤ q → q < l.length → s < (l.getD q it0).e.seq
def SeqUp (l : List ItM) : Prop := ∀ q r, q < r → r < l.length → (l.getD q it0).e.seq < (l.getD r it0).e.seq
theorem pl_lo {l : List ItM} {s : Int} {i h : Nat} (hs : SeqUp l) (hh : h < l.length) (hp : plc (l.getD h it0) s < 0) : ∀ q, q < h + 1 → (l.getD q it0).e.seq ≤ s := fun q hq => by
  have h1 : (l.getD h it0).e.seq ≤ s := by unfold plc at hp; split at hp <;> omega
  rcases Nat.lt_or_ge q h with h2 | h2
  · have := hs q h h2 hh; omega
  · rw [show q = h by omega]; exact h1
theorem pl_hi {l : List ItM} {s : Int} {h : Nat} (hs : SeqUp l) (hh : h < l.length) (hp : ¬ plc (l.getD h it0) s < 0) : ∀ q, h ≤ q → q < l.length → s < (l.getD q it0).e.seq := fun q hq hl => by
  have h1 : s < (l.getD h it0).e.seq := by unfold plc at hp; split at hp <;> omega
  rcases Nat.lt_or_ge h q with h2 | h2
  · have := hs h q h2 hl; omega
  · rw [show q = h by omega]; exact h1
end Rt
theorem v_plc (x : ItM) (s : Int) (w : World) :
    Calls Try.prog 68 #[.agg (Fx.varr 15 (itY x)), .int .u64 (s)] w fun e w' => e = .returned (.int .i64 (plc x s)) ∧ Below w.heap.size w w' := by
 refine Fx.enter Try.func68 rfl (n := 10) rfl (by rfl) ?_
 refine Fx.W.seq (Fx.W.list (Fx.L.box (m := 15) (y := itY x) (by rfl) rfl rfl (Fx.cells_agg _ _) rfl fun g1 w1 eg1 m1 s1 z1 => ?_))
 have b1 := s1.below (Below.refl w.heap.size w) (Below.refl w.heap.size w).size (Below.refl w.heap.size w).size
 have lg1 : w.heap.size ≤ g1 := by rw [eg1]; exact (Below.refl w.heap.size w).size
 have tg1 : g1 < w1.heap.size := m1.lt
 clear eg1
 refine Fx.L.v (.int .i64 (0)) (Fx.x_assign rfl rfl) ?_
 refine Fx.L.nil (Fx.seqN (Fx.W.seq (Fx.W.seq (Fx.W.list (Fx.L.v (.pointer (some ⟨g1, 0, none⟩)) (Fx.x_field rfl rfl Try.underlying106 rfl (s := 14) (by kernel_rfl) rfl rfl) ?_)))))
 refine Fx.L.v (.pointer (some ⟨g1, 1, none⟩)) (Fx.x_field rfl rfl Try.underlying50 rfl (s := 1) (by kernel_rfl) rfl (by show _ + 1 = _; omega)) ?_
 refine Fx.L.v (.int .u64 (x.e.seq)) (Fx.x_load1 (x := itY x) rfl rfl (by kernel_rfl) m1.cel (i := 1) (by omega) (by omega) (itY_ev x (by omega) rfl)) ?_
 refine Fx.L.v (.int .u64 (s)) (Fx.x_move rfl rfl) ?_
 by_cases c9 : x.e.seq ≤ s
 ·refine Fx.L.v (.bool true) (Fx.x_leqT rfl rfl rfl c9) ?_
  refine Fx.L.nil (Fx.seqN (Fx.W.cond (b := true) rfl (fun _ => Fx.W.seq (Fx.W.list (Fx.L.v (.int .i64 (-1)) (Fx.x_assign rfl rfl) ?_))) (fun h => nomatch h)))
  refine Fx.L.nil (Fx.seqN (Fx.W.ret (Fx.seqR (⟨.int .i64 (-1), Fx.retV1 Try.results68 (by exact rfl), ?_⟩))))
  exact ⟨congrArg (fun q => Ending.returned (Value.int .i64 q)) (Eq.symm (by unfold plc; exact if_pos c9)), b1⟩
 ·refine Fx.L.v (.bool false) (Fx.x_leqF rfl rfl rfl c9) ?_
  refine Fx.L.nil (Fx.seqN (Fx.W.cond (b := false) rfl (fun h => nomatch h) (fun _ => Fx.W.skip (Fx.seqN (Fx.W.seq (Fx.W.list (Fx.L.v (.int .i64 (1)) (Fx.x_assign rfl rfl) ?_)))))))
  refine Fx.L.nil (Fx.seqN (Fx.W.ret (⟨.int .i64 (1), Fx.retV1 Try.results68 (by exact rfl), ?_⟩)))
  exact ⟨congrArg (fun q => Ending.returned (Value.int .i64 q)) (Eq.symm (by unfold plc; exact if_neg c9)), b1⟩
theorem v_search (l : List ItM) (a : Option Addr) (cap : Nat) (s : Int) (w : World) (hn : l.length ≤ 1000000) (hs : SeqUp l) (hl : Fx.Arr w a l.length 15 (itX l)) :
    Calls Try.prog 67 #[.slice a (l.length) (cap), .int .u64 (s), .func (.func 68) #[] #[]] w fun e w' => ∃ r : Nat, e = .returned (.tuple #[.int .i64 (r : Int), .bool false]) ∧ PlaceR l s r ∧ Below w.heap.size w w' := by
 refine Fx.enter Try.func67 rfl (n := 49) rfl (by rfl) ?_
 refine Fx.W.seq (Fx.W.list (Fx.L.v (.int .i64 (0)) (Fx.x_assign rfl rfl) ?_))
 refine Fx.L.v (.bool false) (Fx.x_assign rfl rfl) ?_
 refine Fx.L.nil (Fx.seqN (Fx.W.seq (Fx.W.list (Fx.L.v (.slice a (l.length) (cap)) (Fx.x_move rfl rfl) ?_))))
 refine Fx.L.v (.int .i64 ((l.length : Int))) (Fx.x_len rfl rfl rfl (by kernel_rfl)) ?_
 refine Fx.L.v (.int .i64 ((l.length : Int))) (Fx.x_assign rfl rfl) ?_
 refine Fx.L.nil (Fx.seqN (Fx.W.seq (Fx.W.list (Fx.L.v (.int .i64 ((l.length : Int))) (Fx.x_move rfl rfl) ?_))))
 refine Fx.L.v (.int .i64 (0)) (Fx.x_assign rfl rfl) ?_
 refine Fx.L.v (.int .i64 ((l.length : Int))) (Fx.x_assign rfl rfl) ?_
 refine Fx.L.nil (Fx.seqN (Fx.W.seq (Fx.W.block (Fx.W.loop (fun f w_ => ∃ i : Nat, ∃ j : Nat, i ≤ j ∧ j ≤ l.length ∧ (∀ q, q < i → (l.getD q it0).e.seq ≤ s) ∧ (∀ q, j ≤ q → q < l.length → s < (l.getD q it0).e.seq) ∧ f 0 = .slice a (l.length) (cap) ∧ f 1 = .int .u64 (s) ∧ f 2 = .func (.func 68) #[] #[] ∧ f 8 = .int .i64 (((l.length : Nat) : Int)) ∧ f 9 = .int .i64 ((i : Int)) ∧ f 10 = .int .i64 ((j : Int)) ∧ Below w.heap.size w w_) (fun f _ => ((intOf (f 10)).toNat - (intOf (f 9)).toNat)) ⟨0, l.length, by omega, by omega, (fun _ h => absurd h (by omega)), (fun _ h1 h2 => absurd h2 (by omega)), (by rfl), (by first | rfl | exact congrArg (Value.int .u64) (by omega)), (by rfl), (by first | rfl | exact congrArg (Value.int .i64) (by omega)), (by first | rfl | exact congrArg (Value.int .i64) (by omega)), (by first | rfl | exact congrArg (Value.int .i64) (by omega)), (Below.refl w.heap.size w)⟩ ?_))))
 rintro f1 w1 ⟨i, j, hij, hj, hlo, hhi, h1, h2, h3, h4, h5, h6, b1⟩
 refine Fx.W.seq (Fx.W.seq (Fx.W.list (Fx.L.v (.int .i64 ((i : Int))) (Fx.x_move rfl h5) ?_)))
 refine Fx.L.v (.int .i64 ((j : Int))) (Fx.x_move rfl h6) ?_
 by_cases c17 : (i : Int) < (j : Int)
 ·refine Fx.L.v (.bool true) (Fx.x_lssT rfl rfl rfl c17) ?_
  refine Fx.L.nil (Fx.seqN (Fx.W.cond (b := true) rfl (fun _ => Fx.W.skip (Fx.seqN (Fx.W.block (Fx.W.seq ?_)))) (fun h => nomatch h)))
  obtain ⟨h, eh⟩ : ∃ h : Nat, h = (i + j) / 2 := ⟨_, rfl⟩
  refine Fx.W.list (Fx.L.v (.int .i64 ((i : Int))) (Fx.x_move rfl h5) ?_)
  refine Fx.L.v (.int .i64 ((j : Int))) (Fx.x_move rfl h6) ?_
  refine Fx.L.v (.int .i64 ((i : Int) + (j : Int))) (Fx.x_add rfl rfl rfl (Fx.i64e (by omega) (by omega))) ?_
  refine Fx.L.v (.int .u64 ((i : Int) + (j : Int))) (Fx.x_conv rfl rfl (by kernel_rfl) Try.underlying136 (Fx.u64e (by omega) rfl)) ?_
  refine Fx.L.v (.int .u64 (((i : Int) + (j : Int)) / 2)) (Fx.x_shr (b := 1) (q := 2) rfl rfl rfl (by decide) (by decide)) ?_
  refine Fx.L.v (.int .i64 ((h : Int))) (Fx.x_conv rfl rfl (by kernel_rfl) Try.underlying3 (Fx.i64e (by omega) (by omega))) ?_
  refine Fx.L.v (.int .i64 ((h : Int))) (Fx.x_assign rfl rfl) ?_
  refine Fx.L.nil (Fx.seqN (Fx.W.seq (Fx.W.list (Fx.L.v (.func (.func 68) #[] #[]) (Fx.x_move rfl h3) ?_))))
  refine Fx.L.v (.slice a (l.length) (cap)) (Fx.x_move rfl h1) ?_
  refine Fx.L.v (.int .i64 ((h : Int))) (Fx.x_move rfl rfl) ?_
  obtain ⟨bq1, oq1, eq1, m1⟩ := (hl.up b1 rfl) (by omega)
  have lbq1 : bq1 < w1.heap.size := m1.lt (by omega)
  refine Fx.L.v (.pointer (some ⟨bq1, 15 * h + oq1, none⟩)) (Fx.x_indexS rfl (rfl.trans (congrArg (fun q => Value.slice q (l.length) (cap)) eq1)) rfl Try.underlying97 (s := 15) (by kernel_rfl) (by omega) (by omega) (by omega)) ?_
  refine Fx.L.v (.agg (Fx.varr 15 (itY ((l).getD h it0)))) (Fx.x_loadA (x := itX l) (y := itY ((l).getD h it0)) rfl rfl (by kernel_rfl) (by kernel_rfl) m1 (i := 15 * h) (by omega) (by omega) (fun jq hjq => Fx.flat_at (k := h) (by omega) hjq)) ?_
  refine Fx.L.v (.int .u64 (s)) (Fx.x_move rfl h2) ?_
  refine Fx.L.call (by rfl) (Fx.r_clo (args := [.agg (Fx.varr 15 (itY ((l).getD h it0))), .int .u64 (s)]) rfl rfl rfl (all := #[.agg (Fx.varr 15 (itY ((l).getD h it0))), .int .u64 (s)]) rfl Try.func68 rfl rfl) rfl ((v_plc ((l).getD h it0) s _).mono ?_)
  rintro e w2 ⟨he, hb1⟩
  refine ⟨.int .i64 (plc ((l).getD h it0) s), by rw [he], ?_⟩
  clear he
  have s1 := Fx.Stp.of_below hb1
  have m2 := m1.stp s1 (Nat.ne_of_lt (m1.lt (by omega)))
  have b2 := s1.below b1 b1.size b1.size
  by_cases c31 : (plc ((l).getD h it0) s) < 0
  ·refine Fx.L.v (.bool true) (Fx.x_lssT rfl rfl rfl c31) ?_
   refine Fx.L.nil (Fx.seqN (Fx.W.cond (b := true) rfl (fun _ => Fx.W.list (Fx.L.v (.int .i64 ((h : Int))) (Fx.x_move rfl rfl) ?_)) (fun h => nomatch h)))
   refine Fx.L.v (.int .i64 ((h : Int) + 1)) (Fx.x_add rfl rfl rfl (Fx.i64e (by omega) (by omega))) ?_
   refine Fx.L.v (.int .i64 ((h : Int) + 1)) (Fx.x_assign rfl rfl) ?_
   refine Fx.L.nil (Fx.blkN (Fx.lpN ⟨h + 1, j, by omega, by omega, (pl_lo (i := i) hs (by omega) c31), hhi, h1, (h2.trans (by first | rfl | exact congrArg (Value.int .u64) (by omega))), h3, (h4.trans (by first | rfl | exact congrArg (Value.int .i64) (by omega))), (by first | rfl | exact congrArg (Value.int .i64) (by omega)), (h6.trans (by first | rfl | exact congrArg (Value.int .i64) (by omega))), b2⟩ ?_))
   show ((intOf (f1 10)).toNat - (intOf ((.int .i64 ((h : Int) + 1)))).toNat) < _
   simp only [h6, h5, intOf]; omega
  ·refine Fx.L.v (.bool false) (Fx.x_lssF rfl rfl rfl c31) ?_
   refine Fx.L.nil (Fx.seqN (Fx.W.cond (b := false) rfl (fun h => nomatch h) (fun _ => Fx.W.list (Fx.L.v (.int .i64 ((h : Int))) (Fx.x_move rfl rfl) ?_))))
   refine Fx.L.v (.int .i64 ((h : Int))) (Fx.x_assign rfl rfl) ?_
   refine Fx.L.nil (Fx.blkN (Fx.lpN ⟨i, h, by omega, by omega, hlo, (pl_hi hs (by omega) c31), h1, (h2.trans (by first | rfl | exact congrArg (Value.int .u64) (by omega))), h3, (h4.trans (by first | rfl | exact congrArg (Value.int .i64) (by omega))), (h5.trans (by first | rfl | exact congrArg (Value.int .i64) (by omega))), (by first | rfl | exact congrArg (Value.int .i64) (by omega)), b2⟩ ?_))
   show ((intOf ((.int .i64 ((h : Int))))).toNat - (intOf (f1 9)).toNat) < _
   simp only [h6, h5, intOf]; omega
 ·refine Fx.L.v (.bool false) (Fx.x_lssF rfl rfl rfl c17) ?_
  refine Fx.L.nil (Fx.seqN (Fx.W.cond (b := false) rfl (fun h => nomatch h) (fun _ => Fx.W.exit (Fx.seqX (Fx.lpX (Fx.blkX (Fx.seqN (Fx.W.seq (Fx.W.list (Fx.L.v (.int .i64 ((i : Int))) (Fx.x_move rfl h5) ?_))))))))))
  refine Fx.L.v (.int .i64 ((i : Int))) (Fx.x_move rfl h5) ?_
  refine Fx.L.v (.int .i64 (((l.length : Nat) : Int))) (Fx.x_move rfl h4) ?_
  by_cases c38 : (i : Int) < ((l.length : Nat) : Int)
  ·refine Fx.L.v (.bool true) (Fx.x_lssT rfl rfl rfl c38) ?_
   refine Fx.L.v (.bool true) (Fx.x_move rfl rfl) ?_
   refine Fx.L.v (.func (.func 68) #[] #[]) (Fx.x_move rfl h3) ?_
   refine Fx.L.v (.slice a (l.length) (cap)) (Fx.x_move rfl h1) ?_
   refine Fx.L.v (.int .i64 ((i : Int))) (Fx.x_move rfl h5) ?_
   obtain ⟨bq2, oq2, eq2, m3⟩ := (hl.up b1 rfl) (by omega)
   have lbq2 : bq2 < w1.heap.size := m3.lt (by omega)
   refine Fx.L.v (.pointer (some ⟨bq2, 15 * i + oq2, none⟩)) (Fx.x_indexS rfl (rfl.trans (congrArg (fun q => Value.slice q (l.length) (cap)) eq2)) rfl Try.underlying97 (s := 15) (by kernel_rfl) (by omega) (by omega) (by omega)) ?_
   refine Fx.L.v (.agg (Fx.varr 15 (itY ((l).getD i it0)))) (Fx.x_loadA (x := itX l) (y := itY ((l).getD i it0)) rfl rfl (by kernel_rfl) (by kernel_rfl) m3 (i := 15 * i) (by omega) (by omega) (fun jq hjq => Fx.flat_at (k := i) (by omega) hjq)) ?_
   refine Fx.L.v (.int .u64 (s)) (Fx.x_move rfl h2) ?_
   refine Fx.L.call (by rfl) (Fx.r_clo (args := [.agg (Fx.varr 15 (itY ((l).getD i it0))), .int .u64 (s)]) rfl rfl rfl (all := #[.agg (Fx.varr 15 (itY ((l).getD i it0))), .int .u64 (s)]) rfl Try.func68 rfl rfl) rfl ((v_plc ((l).getD i it0) s _).mono ?_)
   rintro e w3 ⟨he, hb2⟩
   refine ⟨.int .i64 (plc ((l).getD i it0) s), by rw [he], ?_⟩
   clear he
   have s2 := Fx.Stp.of_below hb2
   have m4 := m3.stp s2 (Nat.ne_of_lt (m3.lt (by omega)))
   have b3 := s2.below b1 b1.size b1.size
   refine Fx.L.v (.bool false) (Fx.x_eqlF rfl rfl rfl (by unfold plc; split <;> omega)) ?_
   refine Fx.L.v (.bool false) (Fx.x_pickT rfl rfl rfl) ?_
   refine Fx.L.v (.int .i64 ((i : Int))) (Fx.x_assign rfl rfl) ?_
   refine Fx.L.v (.bool false) (Fx.x_assign rfl rfl) ?_
   refine Fx.L.nil (Fx.seqN (Fx.W.ret (⟨.tuple #[.int .i64 ((i : Int)), .bool false], Fx.retV2 Try.results67 (by exact rfl) (by exact rfl), ?_⟩)))
   exact ⟨i, rfl, ⟨by omega, hlo, fun q h1 h2 => hhi q (by omega) h2⟩, b3⟩
  ·refine Fx.L.v (.bool false) (Fx.x_lssF rfl rfl rfl c38) ?_
   refine Fx.L.v (.bool false) (Fx.x_move rfl rfl) ?_
   refine Fx.L.skip (by rfl) rfl ?_
   refine Fx.L.skip (by rfl) rfl ?_
   refine Fx.L.skip (by rfl) rfl ?_
   refine Fx.L.skip (by rfl) rfl ?_
   refine Fx.L.skip (by rfl) rfl ?_
   refine Fx.L.skip (by rfl) rfl ?_
   refine Fx.L.skip (by rfl) rfl ?_
   refine Fx.L.skip (by rfl) rfl ?_
   refine Fx.L.v (.bool false) (Fx.x_pickF rfl rfl rfl) ?_
   refine Fx.L.v (.int .i64 ((i : Int))) (Fx.x_assign rfl rfl) ?_
   refine Fx.L.v (.bool false) (Fx.x_assign rfl rfl) ?_
   refine Fx.L.nil (Fx.seqN (Fx.W.ret (⟨.tuple #[.int .i64 ((i : Int)), .bool false], Fx.retV2 Try.results67 (by exact rfl) (by exact rfl), ?_⟩)))
   exact ⟨i, rfl, ⟨by omega, hlo, fun q h1 h2 => hhi q (by omega) h2⟩, b1⟩
theorem v_place (l : List ItM) (a : Option Addr) (cap : Nat) (s : Int) (w : World) (hn : l.length ≤ 1000000) (hs : SeqUp l) (hl : Fx.Arr w a l.length 15 (itX l)) :
    Calls Try.prog 49 #[.slice a (l.length) (cap), .int .u64 (s)] w fun e w' => ∃ r : Nat, e = .returned (.int .i64 (r : Int)) ∧ PlaceR l s r ∧ Below w.heap.size w w' := by
 refine Fx.enter Try.func49 rfl (n := 14) rfl (by rfl) ?_
 refine Fx.W.seq (Fx.W.list (Fx.L.v (.int .i64 (0)) (Fx.x_assign rfl rfl) ?_))
 refine Fx.L.nil (Fx.seqN (Fx.W.seq (Fx.W.list (Fx.L.v (.slice a (l.length) (cap)) (Fx.x_move rfl rfl) ?_))))
 refine Fx.L.v (.int .u64 (s)) (Fx.x_move rfl rfl) ?_
 refine Fx.L.call (by rfl) (Fx.r_call (args := [.slice a (l.length) (cap), .int .u64 (s), .func (.func 68) #[] #[]]) rfl rfl Try.func67 rfl rfl) rfl ((v_search l a cap s _ hn hs (hl.up (Below.refl w.heap.size w) rfl)).mono ?_)
 rintro e w1 ⟨r, he, hr, hb1⟩
 refine ⟨_, he, ?_⟩
 clear he
 have s1 := Fx.Stp.of_below hb1
 have b1 := s1.below (Below.refl w.heap.size w) (Below.refl w.heap.size w).size (Below.refl w.heap.size w).size
 refine Fx.L.v (.tuple #[.int .i64 ((r : Int)), .bool false]) (Fx.x_move rfl rfl) ?_
 refine Fx.L.v (.int .i64 ((r : Int))) (Fx.x_extract rfl rfl rfl) ?_
 refine Fx.L.v (.bool false) (Fx.x_extract rfl rfl rfl) ?_
 refine Fx.L.v (.int .i64 ((r : Int))) (Fx.x_assign rfl rfl) ?_
 refine Fx.L.v (.bool false) (Fx.x_assign rfl rfl) ?_
 refine Fx.L.nil (Fx.seqN (Fx.W.seq (Fx.W.list (Fx.L.v (.int .i64 ((r : Int))) (Fx.x_move rfl rfl) ?_))))
 refine Fx.L.v (.int .i64 ((r : Int))) (Fx.x_assign rfl rfl) ?_
 refine Fx.L.nil (Fx.seqN (Fx.W.ret (⟨.int .i64 ((r : Int)), Fx.retV1 Try.results49 (by exact rfl), ?_⟩)))
 exact ⟨r, rfl, hr, b1⟩
end Go.Proofs.Ytleajegppehbdaa
namespace Go.Proofs.Ytleajegppehbdaa
open Go.RowKit Rt
def Two (w0 w : World) (g1 c1 : Nat) (l1 : List Int) (g2 c2 : Nat) (l2 : List Int) : Prop :=
  w.ownsRow w0.heap.size 2 1 (.slice (some ⟨g1, 0, none⟩) l1.length c1) l1.length (l1.map (Value.int .i64)) ∧
  w.ownsRow w0.heap.size 2 1 (.slice (some ⟨g2, 0, none⟩) l2.length c2) l2.length (l2.map (Value.int .i64)) ∧ g1 ≠ g2 ∧ Below w0.heap.size w0 w
theorem Two.alloc {w0 w : World} {g1 c1 : Nat} {l1 : List Int} {g2 c2 : Nat} {l2 : List Int} (h : Two w0 w g1 c1 l1 g2 c2 l2) (o : Obj) : Two w0 (w.alloc o) g1 c1 l1 g2 c2 l2 :=
  ⟨World.ownsRow.alloc h.1 o, World.ownsRow.alloc h.2.1 o, h.2.2.1, h.2.2.2.alloc h.2.2.2.size o⟩
theorem Two.drew {w0 w : World} {g1 c1 : Nat} {l1 : List Int} {g2 c2 : Nat} {l2 : List Int} (h : Two w0 w g1 c1 l1 g2 c2 l2) : Two w0 w.drew g1 c1 l1 g2 c2 l2 :=
  ⟨h.1, h.2.1, h.2.2.1, h.2.2.2.drew⟩
theorem Two.swap {w0 w : World} {g1 c1 : Nat} {l1 : List Int} {g2 c2 : Nat} {l2 : List Int} (h : Two w0 w g1 c1 l1 g2 c2 l2) : Two w0 w g2 c2 l2 g1 c1 l1 := ⟨h.2.1, h.1, h.2.2.1.symm, h.2.2.2⟩
theorem Two.start (w : World) (v a b : Int) : Two w ((w.alloc (.cells #[.int .i64 v] 2)).alloc (.cells #[.int .i64 a, .int .i64 b] 2)) w.heap.size 1 [v] (w.heap.size + 1) 2 [a, b] := by
  refine ⟨World.ownsRow.alloc (World.ownsRow_lit w #[.int .i64 v] 1 (Nat.le_refl _) (by unfold maxLen; omega) rfl) _, ?_, by omega, ((Below.refl _ _).alloc (Nat.le_refl _) _).alloc (by simp) _⟩
  have := World.ownsRow_lit (base := w.heap.size) (e := 2) (size := 1) (w.alloc (.cells #[.int .i64 v] 2)) #[.int .i64 a, .int .i64 b] 2 (by simp) (by unfold maxLen; omega) rfl
  simpa using this
theorem Two.at {w0 w : World} {g1 c1 : Nat} {l1 : List Int} {g2 c2 : Nat} {l2 : List Int} (h : Two w0 w g1 c1 l1 g2 c2 l2) {b : Nat} {x : Nat → Int} {T : TypeId} {fz : Nat × Nat} (hb : w0.heap[b]? = some (.cells (iarr .i64 54 x) T fz)) (i : Nat) (hi : i < 54) :
    w.cell? ⟨b, i, none⟩ = some (.int .i64 (x i)) :=
  iarr_cell ((h.2.2.2.block b (Array.getElem?_eq_some_iff.1 hb).1).trans hb) i hi
theorem Two.lt {w0 w : World} {g1 c1 : Nat} {l1 : List Int} {g2 c2 : Nat} {l2 : List Int} (h : Two w0 w g1 c1 l1 g2 c2 l2) {b : Nat} (hb : b < w0.heap.size) : b < w.heap.size := Nat.lt_of_lt_of_le hb h.2.2.2.size
end Go.Proofs.Ytleajegppehbdaa
namespace Go.Proofs.Ytleajegppehbdaa
open Go.RowKit Rt
namespace Rt
def mayK (x : Nat → Int) (k : Nat) : Bool := (localM x k).2 && decide (0 ≤ (localM x k).1) && decide (F x k ≤ C x k) && (R x k k == 0)
def mayN (x : Nat → Int) : Nat → Bool
  | 0 => true
  | k + 1 => mayN x k && mayK x k
def gs (x : Nat → Int) : List Int := [x 0, x 1, x 2, x 3, x 4, x 5]
def may (x : Nat → Int) : Bool := mayN x 6 && ((sumI (gs x)).2 && decide ((sumI (gs x)).1 ≤ 1125899906842624))
end Rt
end Go.Proofs.Ytleajegppehbdaa
namespace Go.Proofs.Ytleajegppehbdaa
open Go.RowKit Rt
namespace Rt
def regB (i : Int) : Bool := decide (1 ≤ i) && decide (i ≤ 6)
def localV (x : Nat → Int) (i : Int) : Int := if regB i && may x then (localM x (i.toNat - 1)).1 else 0
end Rt
end Go.Proofs.Ytleajegppehbdaa
namespace Go.Proofs.Ytleajegppehbdaa
open Go.RowKit Rt
namespace Rt
def zero : Nat → Int := fun _ => 0
def turnedM (x : Nat → Int) (n : Int) (is : Bool) (em : Int) (off : Nat) : (Nat → Int) × Int :=
  if may x && decide (1 ≤ n) && decide (n ≤ 1125899906842624) then
    if is then
      if em = 0 then
        if x off + n ≤ 1125899906842624 then (upd x off (x off + n), 0) else (zero, 6)
      else (zero, em)
    else (zero, 10)
  else (zero, 1)
end Rt
end Go.Proofs.Ytleajegppehbdaa
namespace Go.Proofs.Ytleajegppehbdaa
open Go.RowKit Rt
namespace Rt
def own (p : Nat) : Nat := if p < 6 then p else if p < 12 then p - 6 else if p < 18 then p - 12 else (p - 18) / 6
end Rt
def JS (w0 : World) (g : Nat) (x y : Nat → Int) (w' : World) : Prop := w'.heap[g]? = some (.cells (iarr .i64 54 x) 121 (0, 0)) ∧ w'.heap[g + 1]? = some (.cells (iarr .i64 54 y) 121 (0, 0)) ∧ w'.heap[g + 1 + 1]? = some (.cells (iarr .i64 54 zero) 121 (0, 0)) ∧ Below g w0 w'
theorem JS.drew {w0 w : World} {g : Nat} {x y : Nat → Int} (h : JS w0 g x y w) : JS w0 g x y w.drew := ⟨h.1, h.2.1, h.2.2.1, bN h.2.2.2 1⟩
theorem JS.a {w0 w : World} {g : Nat} {x y : Nat → Int} (h : JS w0 g x y w) (i : Nat) (hi : i < 54) : w.cell? ⟨g, i, none⟩ = some (.int .i64 (x i)) := iarr_cell h.1 i hi
theorem JS.b {w0 w : World} {g : Nat} {x y : Nat → Int} (h : JS w0 g x y w) (i : Nat) (hi : i < 54) : w.cell? ⟨g + 1, i, none⟩ = some (.int .i64 (y i)) := iarr_cell h.2.1 i hi
theorem JS.set {w0 w : World} {g : Nat} {x y : Nat → Int} (h : JS w0 g x y w) (i : Nat) (v : Int) : JS w0 g (upd x i v) y (w.setCell ⟨g, i, none⟩ (.int .i64 v)) := by
  obtain ⟨a, b, z, c⟩ := h
  refine ⟨?_, ?_, ?_, ?_⟩
  · rw [heap_setCell_same _ _ _ _ _ _ a, iarr_set]
  · rw [heap_setCell_other _ _ _ _ (by simp)]; exact b
  · rw [heap_setCell_other _ _ _ _ (by simp; omega)]; exact z
  · exact c.setCell (Nat.le_refl _) _
theorem JS.congr {w0 w : World} {g : Nat} {x y x' : Nat → Int} (h : JS w0 g x y w) (hx : ∀ i, i < 54 → x i = x' i) : JS w0 g x' y w := by
  unfold JS at *; rw [← iarr_congr hx]; exact h
def JSb (w0 : World) (g : Nat) (x y : Nat → Int) (b : Bool) (w' : World) : Prop := ∃ x', JS w0 g x' y w' ∧ (b = false → x' = x)
theorem JSb.a {w0 w : World} {g : Nat} {x y : Nat → Int} (h : JSb w0 g x y false w) (i : Nat) (hi : i < 54) : w.cell? ⟨g, i, none⟩ = some (.int .i64 (x i)) := by
  obtain ⟨x', h, e⟩ := h
  rw [← e rfl]; exact h.a i hi
attribute [local irreducible] Oper.wp wpList Code.wp
end Go.Proofs.Ytleajegppehbdaa
namespace Go.Proofs.Ytleajegppehbdaa
open Go.RowKit Rt
namespace Rt
def takeE (x : Nat → Int) (i n : Int) : Int := if decide (localV x i < n) then 11 else 0
def takeM (x : Nat → Int) (i n : Int) : (Nat → Int) × Int := turnedM x n (regB i) (takeE x i n) (6 + (i.toNat - 1))
end Rt
attribute [local irreducible] Oper.wp wpList Code.wp
end Go.Proofs.Ytleajegppehbdaa
namespace Go.Proofs.Ytleajegppehbdaa
open Go.RowKit Rt
namespace Rt
def freeE (x : Nat → Int) (i n : Int) : Int := if decide (C x (i.toNat - 1) - F x (i.toNat - 1) < n) then 12 else 0
def freeM (x : Nat → Int) (i n : Int) : (Nat → Int) × Int := turnedM x n (regB i) (freeE x i n) (12 + (i.toNat - 1))
end Rt
attribute [local irreducible] Oper.wp wpList Code.wp
end Go.Proofs.Ytleajegppehbdaa
namespace Go.Proofs.Ytleajegppehbdaa
open Go.RowKit Rt
namespace Rt
def moveE (x : Nat → Int) (i j n : Int) : Int := if i = j then 1 else if decide (localV x i < n) then 11 else 0
def moveO (i j : Int) : Nat := 18 + (i.toNat - 1) * 6 + (j.toNat - 1)
def moveM (x : Nat → Int) (i j n : Int) : (Nat → Int) × Int := turnedM x n (regB i && regB j) (moveE x i j n) (moveO i j)
end Rt
end Go.Proofs.Ytleajegppehbdaa
namespace Go.Proofs.Ytleajegppehbdaa
open Go.RowKit Rt
def RS3 (x : Nat → Int) (g : Nat) (i j n : Int) (w' : World) : Prop := w'.heap[g]? = some (.cells (iarr .i64 54 x) 121 (0, 0)) ∧ w'.cell? ⟨g + 1, 0, none⟩ = some (.int .i64 i) ∧ w'.cell? ⟨g + 1 + 1, 0, none⟩ = some (.int .i64 j) ∧ w'.cell? ⟨g + 1 + 1 + 1, 0, none⟩ = some (.int .i64 n)
theorem RS3.up {x : Nat → Int} {g : Nat} {i j n : Int} {w w' : World} (h : RS3 x g i j n w) (hb : Below w.heap.size w w') : RS3 x g i j n w' := by
  obtain ⟨a, b, c, d⟩ := h
  exact ⟨(hb.block _ (Array.getElem?_eq_some_iff.1 a).1).trans a, (hb.cell (p := ⟨g + 1, 0, none⟩) (block_lt_of_cell b)).trans b, (hb.cell (p := ⟨g + 1 + 1, 0, none⟩) (block_lt_of_cell c)).trans c, (hb.cell (p := ⟨g + 1 + 1 + 1, 0, none⟩) (block_lt_of_cell d)).trans d⟩
theorem RS3.row {x : Nat → Int} {g : Nat} {i j n : Int} {w : World} (h : RS3 x g i j n w) (cs : Array Value) : RS3 x g i j n (w.setRow (g + 1 + 1 + 1 + 1) cs) := by
  obtain ⟨a, b, c, d⟩ := h
  exact ⟨(setRow_other _ _ _ _ (by omega)).trans a, (World.cell?_of_block (setRow_other _ _ _ _ (by show g + 1 ≠ _; omega))).trans b, (World.cell?_of_block (setRow_other _ _ _ _ (by show g + 1 + 1 ≠ _; omega))).trans c, (World.cell?_of_block (setRow_other _ _ _ _ (by show g + 1 + 1 + 1 ≠ _; omega))).trans d⟩
attribute [local irreducible] Oper.wp wpList Code.wp
end Go.Proofs.Ytleajegppehbdaa
namespace Go.Proofs.Ytleajegppehbdaa
open Go.RowKit
namespace Rt
def L (x : Nat → Int) (k : Nat) : Int := G x k + F x k + R x 0 k + R x 1 k + R x 2 k + R x 3 k + R x 4 k + R x 5 k - C x k - R x k 0 - R x k 1 - R x k 2 - R x k 3 - R x k 4 - R x k 5
def Ent (x : Nat → Int) : Prop := ∀ p, p < 54 → 0 ≤ x p ∧ x p ≤ 1125899906842624
theorem Ent.outs {x : Nat → Int} (h : Ent x) (k : Nat) (hk : k < 6) : sumOk (outs x k 6) = true := by
  have e := fun j (hj : j < 6) => h (18 + k * 6 + j) (by omega)
  have c := h (6 + k) (by omega)
  unfold sumOk
  rw [List.all_eq_true]
  intro n hn
  have : n = x (6 + k) ∨ n = x (18 + k * 6 + 0) ∨ n = x (18 + k * 6 + 1) ∨ n = x (18 + k * 6 + 2) ∨ n = x (18 + k * 6 + 3) ∨ n = x (18 + k * 6 + 4) ∨ n = x (18 + k * 6 + 5) := by
    simpa [Rt.outs, C, R, or_assoc] using hn
  unfold okN
  rw [Bool.and_eq_true, decide_eq_true_eq, decide_eq_true_eq]
  rcases this with h | h | h | h | h | h | h <;> subst h
  · exact c
  all_goals exact e _ (by omega)
theorem Ent.ins {x : Nat → Int} (h : Ent x) (k : Nat) (hk : k < 6) : sumOk (ins x k 6) = true := by
  have e := fun j (hj : j < 6) => h (18 + j * 6 + k) (by omega)
  have c := h k (by omega)
  have f := h (12 + k) (by omega)
  unfold sumOk
  rw [List.all_eq_true]
  intro n hn
  have : n = x k ∨ n = x (12 + k) ∨ n = x (18 + 0 * 6 + k) ∨ n = x (18 + 1 * 6 + k) ∨ n = x (18 + 2 * 6 + k) ∨ n = x (18 + 3 * 6 + k) ∨ n = x (18 + 4 * 6 + k) ∨ n = x (18 + 5 * 6 + k) := by
    simpa [Rt.ins, G, F, R, or_assoc] using hn
  unfold okN
  rw [Bool.and_eq_true, decide_eq_true_eq, decide_eq_true_eq]
  rcases this with h | h | h | h | h | h | h | h <;> subst h
  · exact c
  · exact f
  all_goals exact e _ (by omega)
def uSum (x : Nat → Int) : Int := (C x 0 - F x 0) + (C x 1 - F x 1) + (C x 2 - F x 2) + (C x 3 - F x 3) + (C x 4 - F x 4) + (C x 5 - F x 5)
end Rt
end Go.Proofs.Ytleajegppehbdaa
namespace Go.Proofs.Ytleajegppehbdaa
open Go.RowKit Rt
structure StM where
  inn : Nat → Bool
  left : Nat → Bool
  known : Nat → Int
  na : Option Addr
  nn : Nat
  nc : Nat
  ga : Option Addr
  gn : Nat
  gc : Nat
def stY (s : StM) : Nat → Value := fun p => if p < 6 then .bool (s.inn p) else if p < 12 then .bool (s.left (p - 6)) else if p < 18 then .int .u64 (s.known (p - 12)) else if p = 18 then .slice s.na s.nn s.nc else .slice s.ga s.gn s.gc
def ndY (id par : Int) (R : Nat → Int) : Nat → Value := fun p => if p = 0 then .int .u64 id else if p = 1 then .int .u64 par else .int .i64 (R (p - 2))
def Nds (w : World) (a : Option Addr) (n : Nat) (id par : Nat → Int) (R : Nat → Nat → Int) : Prop := ∀ k, k < n → ∃ b off, a = some ⟨b, off, none⟩ ∧ Fx.Cel w b (off + 56 * k) 56 (ndY (id k) (par k) (R k))
theorem Nds.below {w w' : World} {a : Option Addr} {n : Nat} {id par : Nat → Int} {R : Nat → Nat → Int} (h : Nds w a n id par R) (hb : Below w.heap.size w w') : Nds w' a n id par R := fun k hk => by
  obtain ⟨b, off, e, hc⟩ := h k hk
  exact ⟨b, off, e, hc.below hb (hc.lt (by omega))⟩
end Go.Proofs.Ytleajegppehbdaa
namespace Go.Proofs.Ytleajegppehbdaa
open Go.RowKit Rt
structure LdM where
  s : StM
  id : Nat → Int
  par : Nat → Int
  R : Nat → Nat → Int
  g : Nat → Nat → Int
  tb : Nat
  ta : Option Addr
  tn : Nat
  tc : Nat
  t : Nat → Nat → Int
  ra : Nat → Option Addr
  rn : Nat → Nat
  rc : Nat → Nat
  rq : Nat → Nat → Int
structure LdC where
  inn : Nat → Bool
  left : Nat → Bool
  known : Nat → Int
  nn : Nat
  id : Nat → Int
  par : Nat → Int
  R : Nat → Nat → Int
  gn : Nat
  g : Nat → Nat → Int
  tn : Nat
  t : Nat → Nat → Int
  rn : Nat → Nat
  rq : Nat → Nat → Int
def ldY (m : LdM) : Nat → Value := fun p => if p < 20 then stY m.s p else if p = 20 then .pointer (some ⟨m.tb, 0, none⟩) else .slice (m.ra (p - 21)) (m.rn (p - 21)) (m.rc (p - 21))
def grY (x : Nat → Int) : Nat → Value := fun p => if p = 0 then .int .i64 (x 0) else if p = 3 then .int .i64 (x 3) else .int .u64 (x p)
def ndX (m : LdM) : Nat → Value := Fx.flat 56 fun k => ndY (m.id k) (m.par k) (m.R k)
def grX (m : LdM) : Nat → Value := Fx.flat 5 fun k => grY (m.g k)
def trX (t : Nat → Nat → Int) : Nat → Value := Fx.flat 2 fun k => Fx.rv .u64 (t k)
structure Ldg (w : World) (p : Nat) (m : LdM) : Prop where
  c : Fx.Cel w p 0 27 (ldY m)
  an : Fx.Arr w m.s.na m.s.nn 56 (ndX m)
  ag : Fx.Arr w m.s.ga m.s.gn 5 (grX m)
  tc : Fx.Cel w m.tb 0 1 (fun _ => .slice m.ta m.tn m.tc)
  at2 : Fx.Arr w m.ta m.tn 2 (trX m.t)
  ar : ∀ i, i < 6 → Fx.Arr w (m.ra i) (m.rn i) 1 (Fx.rv .u64 (m.rq i))
  bn : m.s.nn ≤ 1000000
  bg : m.s.gn ≤ 1000000
  bt : m.tn ≤ 1000000
  br : ∀ i, i < 6 → m.rn i ≤ 1000000
section
variable {w w' : World} {p : Nat} {m : LdM}
theorem Ldg.n (h : Ldg w p m) : Nds w m.s.na m.s.nn m.id m.par m.R := fun _ hk => h.an.at hk
theorem Ldg.g (h : Ldg w p m) : ∀ k, k < m.s.gn → ∃ b off, m.s.ga = some ⟨b, off, none⟩ ∧ Fx.Cel w b (off + 5 * k) 5 (grY (m.g k)) := fun _ hk => h.ag.at hk
theorem Ldg.t (h : Ldg w p m) : ∀ k, k < m.tn → ∃ b off, m.ta = some ⟨b, off, none⟩ ∧ Fx.Cel w b (off + 2 * k) 2 (Fx.rv .u64 (m.t k)) := fun _ hk => h.at2.at hk
theorem Ldg.r (h : Ldg w p m) : ∀ i, i < 6 → ∀ k, k < m.rn i → ∃ b off, m.ra i = some ⟨b, off, none⟩ ∧ Fx.Cel w b (off + k) 1 (fun _ => .int .u64 (m.rq i k)) := fun i hi k hk => by
  obtain ⟨b, off, e, hc⟩ := h.ar i hi (by omega)
  refine ⟨b, off, e, fun j hj => ?_⟩
  obtain rfl : j = 0 := by omega
  exact hc k (by omega)
theorem Ldg.below (h : Ldg w p m) (hb : Below w.heap.size w w') : Ldg w' p m where
  c := h.c.below hb (h.c.lt (by omega))
  an := h.an.up hb rfl
  ag := h.ag.up hb rfl
  tc := h.tc.below hb (h.tc.lt (by omega))
  at2 := h.at2.up hb rfl
  ar := fun i hi => (h.ar i hi).up hb rfl
  bn := h.bn
  bg := h.bg
  bt := h.bt
  br := h.br
end
def firstI (P : Nat → Bool) : Nat → Int
  | 0 => -1
  | n + 1 => if 0 ≤ firstI P n then firstI P n else if P n then (n : Int) else -1
theorem firstI_spec (P : Nat → Bool) : ∀ n : Nat, (∃ k : Nat, k < n ∧ firstI P n = (k : Int) ∧ P k = true) ∨ (firstI P n = -1 ∧ ∀ i, i < n → P i = false)
  | 0 => .inr ⟨rfl, fun i h => absurd h (by omega)⟩
  | n + 1 => by
    rcases firstI_spec P n with ⟨k, hk, e, hp⟩ | ⟨e, hp⟩
    · exact .inl ⟨k, by omega, by simp only [firstI]; rw [e, if_pos (by omega)], hp⟩
    · by_cases h : P n = true
      · exact .inl ⟨n, by omega, by simp only [firstI]; rw [e, if_neg (by omega), h]; rfl, h⟩
      · rw [Bool.not_eq_true] at h
        refine .inr ⟨by simp only [firstI]; rw [e, if_neg (by omega), h]; rfl, fun i hi => ?_⟩
        by_cases e2 : i = n
        · subst e2; exact h
        · exact hp i (by omega)
def LdM.node (m : LdM) (id : Int) : Int := firstI (fun i => decide (m.id i = id)) m.s.nn
def LdM.grant (m : LdM) (o r : Int) : Int := firstI (fun i => decide (m.g i 0 = o) && decide (m.g i 1 = r)) m.s.gn
def LdM.askedN (m : LdM) (a : Nat) (r : Int) : Int := firstI (fun i => decide (m.rq a i = r)) (m.rn a)
structure TreeR (w : World) (tb : Nat) (ta : Option Addr) (tn tc : Nat) (t : Nat → Nat → Int) : Prop where
  tc : Fx.Cel w tb 0 1 (fun _ => .slice ta tn tc)
  t : ∀ k, k < tn → ∃ b off, ta = some ⟨b, off, none⟩ ∧ Fx.Cel w b (off + 2 * k) 2 (Fx.rv .u64 (t k))
  bt : tn ≤ 1000000
theorem TreeR.below {w w' : World} {tb : Nat} {ta : Option Addr} {tn tc : Nat} {t : Nat → Nat → Int} (h : TreeR w tb ta tn tc t) (hb : Below w.heap.size w w') : TreeR w' tb ta tn tc t where
  tc := h.tc.below hb (h.tc.lt (by omega))
  t := fun k hk => by obtain ⟨b, off, e, hc⟩ := h.t k hk; exact ⟨b, off, e, hc.below hb (hc.lt (by omega))⟩
  bt := h.bt
def findT (t : Nat → Nat → Int) (tn : Nat) (x : Int) : Int := firstI (fun i => decide (t i 0 = x)) tn
def iterT (t : Nat → Nat → Int) (tn : Nat) : Nat → Int → Int
  | 0, x => x
  | k + 1, x => t (findT t tn (iterT t tn k x)).toNat 1
end Go.Proofs.Ytleajegppehbdaa
namespace Go.Proofs.Ytleajegppehbdaa
open Go.RowKit Rt
namespace Rt
theorem find_nat {t : Nat → Nat → Int} {tn : Nat} {x : Int} (h : 0 ≤ findT t tn x) : ∃ j : Nat, j < tn ∧ findT t tn x = (j : Int) ∧ t j 0 = x := by
  rcases firstI_spec (fun i => decide (t i 0 = x)) tn with ⟨k, hk, e, hp⟩ | ⟨e, _⟩
  · exact ⟨k, hk, e, of_decide_eq_true hp⟩
  · unfold findT at h; rw [e] at h; omega
end Rt
end Go.Proofs.Ytleajegppehbdaa
namespace Go.Proofs.Ytleajegppehbdaa
open Go.RowKit Rt
namespace Rt
def insT (t : Nat → Nat → Int) (k : Nat) (id par : Int) : Nat → Nat → Int := fun i => if i < k then t i else if i = k then (fun j => if j = 0 then id else par) else t (i - 1)
def deepT (t : Nat → Nat → Int) (tn : Nat) (x : Int) : Prop := ∀ i, i < 4 → 0 ≤ findT t tn (iterT t tn i x)
open Classical in
noncomputable def addE (t : Nat → Nat → Int) (tn : Nat) (id par : Int) : Int := if id = 0 then 1 else if 0 ≤ findT t tn id then 14 else if par ≠ 0 ∧ findT t tn par < 0 then 9 else if 32 ≤ tn ∨ deepT t tn par then 6 else 0
end Rt
end Go.Proofs.Ytleajegppehbdaa
namespace Go.Proofs.Ytleajegppehbdaa
open Go.RowKit Rt
namespace Rt
def idE (o seq : Int) : Int := if 1 ≤ o ∧ o ≤ 6 ∧ 1 ≤ seq ∧ seq < 1099511627776 then 1099511627776 * o + seq else 0
end Rt
end Go.Proofs.Ytleajegppehbdaa
namespace Go.Proofs.Ytleajegppehbdaa
open Go.RowKit Rt
def reqV (m : LdM) (i : Nat) : Value := .slice (m.ra i) (m.rn i) (m.rc i)
def Rqs (w : World) (B k : Nat) (m : LdM) : Prop :=
  (∀ i, i < k → Fx.Own w B 30 1 (reqV m i) (m.rn i) (Fx.rv .u64 (m.rq i))) ∧ ∀ i j, i < k → j < k → i ≠ j → ∀ g, (reqV m i).ownBlock = some g → (reqV m j).ownBlock ≠ some g
section
variable {w w' : World} {B k : Nat} {m : LdM}
theorem Rqs.up (h : Rqs w B k m) (hb : Below w.heap.size w w') : Rqs w' B k m := ⟨fun i hi => (h.1 i hi).up hb, h.2⟩
theorem Rqs.chT {Ts : List TypeId} (h : Rqs w B k m) (hs : Fx.ChT Ts w w') (ne : Ts.contains 30 = false) : Rqs w' B k m := ⟨fun i hi => (h.1 i hi).chT hs ne, h.2⟩
theorem Rqs.zero (w : World) (B : Nat) (m : LdM) : Rqs w B 0 m := ⟨fun _ h => absurd h (Nat.not_lt_zero _), fun _ _ h => absurd h (Nat.not_lt_zero _)⟩
end
structure LdO (w : World) (B p : Nat) (m : LdM) : Prop where
  c : Fx.Blk w p 27 (ldY m) 70
  n : Fx.Own w B 123 56 (.slice m.s.na m.s.nn m.s.nc) m.s.nn (ndX m)
  g : Fx.Own w B 159 5 (.slice m.s.ga m.s.gn m.s.gc) m.s.gn (grX m)
  tc : Fx.Blk w m.tb 1 (fun _ => .slice m.ta m.tn m.tc) 117
  t : Fx.Own w B 170 2 (.slice m.ta m.tn m.tc) m.tn (trX m.t)
  r : Rqs w B 6 m
  pB : B ≤ p
  tB : B ≤ m.tb
  bn : m.s.nn ≤ 1000
  bg : m.s.gn ≤ 1000000
  bt : m.tn ≤ 1000
  br : ∀ i, i < 6 → m.rn i ≤ 1000000
section
variable {w w' : World} {B p : Nat} {m : LdM}
theorem LdO.up (h : LdO w B p m) (hb : Below w.heap.size w w') : LdO w' B p m := { h with c := h.c.stp (Fx.Stp.of_below hb) (Nat.ne_of_lt h.c.lt), n := h.n.up hb, g := h.g.up hb, tc := h.tc.stp (Fx.Stp.of_below hb) (Nat.ne_of_lt h.tc.lt), t := h.t.up hb, r := h.r.up hb }
def ldTs : List Nat := [70, 123, 159, 117, 170, 30]
theorem LdO.chT {Ts : List TypeId} (h : LdO w B p m) (hs : Fx.ChT Ts w w') (ne : (ldTs.all fun T => !Ts.contains T) = true) : LdO w' B p m := by
  have hq : ∀ T' ∈ ldTs, Ts.contains T' = false := fun T' hT => by
    have := List.all_eq_true.1 ne T' hT
    simpa using this
  exact { h with
    c := h.c.chT hs (hq _ (by decide)), n := h.n.chT hs (hq _ (by decide)), g := h.g.chT hs (hq _ (by decide)), tc := h.tc.chT hs (hq _ (by decide)), t := h.t.chT hs (hq _ (by decide)), r := h.r.chT hs (hq _ (by decide)) }
theorem LdO.mono {B' : Nat} (h : LdO w B p m) (hB : B' ≤ B) : LdO w B' p m := { h with n := h.n.mono hB, g := h.g.mono hB, t := h.t.mono hB, r := ⟨fun i hi => (h.r.1 i hi).mono hB, h.r.2⟩, pB := Nat.le_trans hB h.pB, tB := Nat.le_trans hB h.tB }
end
def updA {α : Type} (f : Nat → α) (k : Nat) (v : α) : Nat → α := fun i => if i = k then v else f i
end Go.Proofs.Ytleajegppehbdaa
namespace Go.Proofs.Ytleajegppehbdaa
open Go.RowKit Rt
namespace Rt
structure LgM where
  K : Nat → Int
  cnt : Int
  a : Nat → Option Addr
  c : Nat → Nat
  L : Nat → List ItM
def lvV (m : LgM) (k : Nat) : Value := .slice (m.a k) (m.L k).length (m.c k)
def lgY (m : LgM) : Nat → Value := fun p => if p < 6 then lvV m p else if p < 12 then .int .u64 (m.K (p - 6)) else .int .u64 m.cnt
theorem lgY_v (m : LgM) {k : Nat} (h : k < 6) : lgY m k = lvV m k := if_pos h
theorem lgY_K (m : LgM) {p k : Nat} (e : p = k + 6) (h : k < 6) : lgY m p = .int .u64 (m.K k) := by
  subst e; unfold lgY; rw [if_neg (by omega), if_pos (by omega), Nat.add_sub_cancel]
theorem lgY_put (m : LgM) {i : Nat} (hi : i < 6) (a : Option Addr) (n c : Nat) (l : List ItM) (hl : n = l.length) : Fx.updV (lgY m) i (.slice a n c) = lgY { m with a := updA m.a i a, c := updA m.c i c, L := updA m.L i l } := by
  subst hl
  funext p
  unfold Fx.updV lgY
  by_cases h : p = i
  · subst h; rw [if_pos rfl, if_pos hi]; simp [lvV, updA]
  · rw [if_neg h]
    by_cases h2 : p < 6
    · rw [if_pos h2, if_pos h2]; simp [lvV, updA, h]
    · rw [if_neg h2, if_neg h2]
theorem lgY_known (m : LgM) {i q : Nat} (hq : q = i + 6) (hi : i < 6) (x : Int) : Fx.updV (lgY m) q (.int .u64 x) = lgY { m with K := upd m.K i x } := by
  subst hq
  funext p
  unfold Fx.updV lgY
  by_cases h : p = i + 6
  · subst h; rw [if_pos rfl, if_neg (by omega), if_pos (by omega), Nat.add_sub_cancel]; simp [upd]
  · rw [if_neg h]
    by_cases h2 : p < 6
    · rw [if_pos h2, if_pos h2]; rfl
    · rw [if_neg h2, if_neg h2]
      by_cases h3 : p < 12
      · rw [if_pos h3, if_pos h3]; simp [upd, show ¬ p - 6 = i by omega]
      · rw [if_neg h3, if_neg h3]
theorem lgY_cnt (m : LgM) (x : Int) : ∀ j, j < 13 → Fx.updV (lgY m) 12 (.int .u64 x) j = lgY { m with cnt := x } j := fun j hj => by
  unfold Fx.updV lgY
  by_cases h : j = 12
  · subst h; rfl
  · rw [if_neg h]
    by_cases h2 : j < 6
    · rw [if_pos h2, if_pos h2]; rfl
    · rw [if_neg h2, if_neg h2]
      by_cases h3 : j < 12
      · rw [if_pos h3, if_pos h3]
      · omega
def Lss (w : World) (B : Nat) (m : LgM) : Prop :=
  (∀ i, i < 6 → Fx.Own w B 106 15 (lvV m i) (m.L i).length (itX (m.L i))) ∧ ∀ i j, i < 6 → j < 6 → i ≠ j → ∀ g, (lvV m i).ownBlock = some g → (lvV m j).ownBlock ≠ some g
section
variable {w w' : World} {B : Nat} {m : LgM}
theorem Lss.up (h : Lss w B m) (hb : Below w.heap.size w w') : Lss w' B m := ⟨fun i hi => (h.1 i hi).up hb, h.2⟩
theorem Lss.chT {Ts : List TypeId} (h : Lss w B m) (hs : Fx.ChT Ts w w') (ne : Ts.contains 106 = false) : Lss w' B m := ⟨fun i hi => (h.1 i hi).chT hs ne, h.2⟩
theorem Lss.put {a cap : Nat} {ad : Option Addr} {l : List ItM} (h : Lss w B m) (ha : a < 6)
    (hO : Fx.Own w' B 106 15 (.slice ad l.length cap) l.length (itX l)) (hk : ∀ i, i < 6 → i ≠ a → Fx.Own w' B 106 15 (lvV m i) (m.L i).length (itX (m.L i))) (hgv : ∀ g, (Value.slice ad l.length cap).ownBlock = some g → (lvV m a).ownBlock = some g ∨ w.heap.size ≤ g) :
    Lss w' B { m with a := updA m.a a ad, c := updA m.c a cap, L := updA m.L a l } := by
  have e1 : ∀ i, i ≠ a → lvV { m with a := updA m.a a ad, c := updA m.c a cap, L := updA m.L a l } i = lvV m i := fun i hi => by unfold lvV; simp [updA, hi]
  have e2 : lvV { m with a := updA m.a a ad, c := updA m.c a cap, L := updA m.L a l } a = .slice ad l.length cap := by unfold lvV; simp [updA]
  have hne : ∀ i, i < 6 → i ≠ a → ∀ q, (lvV m i).ownBlock = some q → (Value.slice ad l.length cap).ownBlock ≠ some q := fun i hi hia q hq e => by
    rcases hgv q e with e3 | e3
    · exact h.2 i a hi ha hia q hq e3
    · have := ((h.1 i hi).ge hq).2; omega
  refine ⟨fun i hi => ?_, fun i j hi hj hij q hq => ?_⟩
  · by_cases e : i = a
    · subst e; rw [e2]; simp only [updA, if_true]; exact hO
    · rw [e1 i e]; simp only [updA, if_neg e]; exact hk i hi e
  · by_cases e : i = a
    · subst e
      rw [e2] at hq
      rw [e1 j (fun e => hij e.symm)]
      intro h5
      exact hne j hj (fun e => hij e.symm) q h5 hq
    · rw [e1 i e] at hq
      by_cases e4 : j = a
      · subst e4; rw [e2]; intro h5; exact hne i hi e q hq h5
      · rw [e1 j e4]; exact h.2 i j hi hj hij q hq
end
structure LgO (w : World) (B p : Nat) (m : LgM) (T : Nat) : Prop where
  blk : Fx.Blk w p 13 (lgY m) 100
  ls : Lss w B m
  gp : B ≤ p
  len : ∀ i, i < 6 → (m.L i).length ≤ T
  cn : 0 ≤ m.cnt ∧ m.cnt ≤ T
  kr : Kr m.K
  wf : ∀ i, i < 6 → ∀ x ∈ m.L i, EvWf x.e
def lgS (p : Nat) (m : LgM) (k : Nat) : Prop := k = p ∨ ∃ i, i < 6 ∧ (lvV m i).ownBlock = some k
section
variable {w w' : World} {B p T : Nat} {m : LgM}
theorem LgO.up (h : LgO w B p m T) (hb : Below w.heap.size w w') : LgO w' B p m T := { h with blk := h.blk.stp (Fx.Stp.of_below hb) (Nat.ne_of_lt h.blk.lt), ls := h.ls.up hb }
theorem LgO.chT {Ts : List TypeId} (h : LgO w B p m T) (hs : Fx.ChT Ts w w') (h1 : Ts.contains 106 = false ∧ Ts.contains 100 = false) : LgO w' B p m T := { h with blk := h.blk.chT hs h1.2, ls := h.ls.chT hs h1.1 }
theorem LgO.mono {T' : Nat} (h : LgO w B p m T) (hT : T ≤ T') : LgO w B p m T' := { h with len := fun i hi => Nat.le_trans (h.len i hi) hT, cn := ⟨h.cn.1, by have := h.cn.2; omega⟩ }
theorem LgO.ge (h : LgO w B p m T) : ∀ k, lgS p m k → B ≤ k ∧ k < w.heap.size := fun k hk => by
  rcases hk with rfl | ⟨i, hi, e⟩
  · exact ⟨h.gp, h.blk.lt⟩
  · exact (h.ls.1 i hi).ge e
theorem LgO.typ (h : LgO w B p m T) : ∀ k, lgS p m k → ∃ T, Fx.Ty w k T ∧ [106, 100].contains T = true := fun k hk => by
  rcases hk with rfl | ⟨i, hi, e⟩
  · exact ⟨_, h.blk.ty, by decide⟩
  · exact ⟨_, (h.ls.1 i hi).ty e, by decide⟩
theorem LgO.arr (h : LgO w B p m T) {i : Nat} (hi : i < 6) : Fx.Arr w (m.a i) (m.L i).length 15 (itX (m.L i)) := (h.ls.1 i hi).arr
theorem LgO.chm (h : LgO w B p m T) (hs : Fx.Chg (lgS p m) w w') : Fx.ChT [106, 100] w w' := Fx.ChT.of_chg hs h.typ
theorem LgO.below (h : LgO w B p m T) (hB : B ≤ w.heap.size) (hs : Fx.Chg (lgS p m) w w') : Below B w w' := Fx.Chg.below (Below.refl B w) hs (fun k hk => (h.ge k hk).1) hB
end
def lenN (m : LgM) : Nat → Nat
  | 0 => 0
  | k + 1 => lenN m k + (m.L k).length
theorem lenN_le {m : LgM} {T : Nat} (h : ∀ i, i < 6 → (m.L i).length ≤ T) : ∀ k, k ≤ 6 → lenN m k ≤ k * T
  | 0, _ => Nat.zero_le _
  | k + 1, hk => by have h1 := lenN_le h k (by omega); have h2 := h k (by omega); unfold lenN; rw [Nat.add_mul, Nat.one_mul]; omega
def newL : LgM := ⟨fun _ => 0, 0, fun _ => none, fun _ => 0, fun _ => []⟩
end Rt
open Rt
theorem o_new (T : Nat) (w : World) :
    Calls Try.prog 17 #[] w fun e w' => ∃ p, e = .returned (.pointer (some ⟨p, 0, none⟩)) ∧ LgO w' w.heap.size p newL T ∧ Below w.heap.size w w' := by
 refine Fx.enter Try.func17 rfl (n := 3) rfl (by rfl) ?_
 refine Fx.W.seq (Fx.W.list (Fx.L.v (.pointer none) (Fx.x_assign rfl rfl) ?_))
 refine Fx.L.nil (Fx.seqN (Fx.W.seq (Fx.W.list (Fx.L.v (.agg (Fx.varr 13 (fun zq => if zq < 6 then .slice none 0 0 else .int .u64 (0)))) (Fx.x_build (vs := []) (places := #[(0, 6), (6, 6), (12, 1)]) (m := 13) (x := fun zq => if zq < 6 then .slice none 0 0 else .int .u64 (0)) rfl rfl Try.underlying100 (by kernel_rfl) (by kernel_rfl) (by rfl)) ?_))))
 refine Fx.L.box (m := 13) (y := fun zq => if zq < 6 then .slice none 0 0 else .int .u64 (0)) (by rfl) rfl rfl (Fx.cells_agg _ _) rfl fun g1 w1 eg1 m1 s1 z1 => ?_
 have b1 := s1.below (Below.refl w.heap.size w) (Below.refl w.heap.size w).size (Below.refl w.heap.size w).size
 have lg1 : w.heap.size ≤ g1 := by rw [eg1]; exact (Below.refl w.heap.size w).size
 have tg1 : g1 < w1.heap.size := m1.lt
 clear eg1
 refine Fx.L.v (.pointer (some ⟨g1, 0, none⟩)) (Fx.x_assign rfl rfl) ?_
 refine Fx.L.nil (Fx.seqN (Fx.W.ret (⟨.pointer (some ⟨g1, 0, none⟩), Fx.retV1 Try.results17 (by exact rfl), ?_⟩)))
 exact ⟨_, rfl, ⟨m1.congr (fun j hj => by rcases j with _|_|_|_|_|_|_|_|_|_|_|_|_|j <;> first | rfl | omega), ⟨fun i hi => Fx.Own.nil _ _ _ _ _, fun i j hi hj hij g hg => by cases hg⟩, lg1, fun i hi => Nat.zero_le _, ⟨Int.le_refl _, by show (0 : Int) ≤ _; omega⟩, fun i hi => ⟨Int.le_refl _, by show (0 : Int) ≤ _; decide⟩, fun i hi x hx => by cases hx⟩, b1⟩
theorem o_known0 (w : World) :
    Calls Try.prog 27 #[.pointer none] w fun e w' => e = .returned (.agg (Fx.varr 6 (Fx.rv .u64 fun _ => 0))) ∧ Below w.heap.size w w' := by
 refine Fx.enter Try.func27 rfl (n := 10) rfl (by rfl) ?_
 refine Fx.W.seq (Fx.W.list (Fx.L.new (m := 6) (y := Fx.rv .u64 (fun _ => 0)) (by rfl) rfl (by kernel_rfl) rfl fun g1 w1 eg1 m1 s1 z1 => ?_))
 have b1 := s1.below (Below.refl w.heap.size w) (Below.refl w.heap.size w).size (Below.refl w.heap.size w).size
 have lg1 : w.heap.size ≤ g1 := by rw [eg1]; exact (Below.refl w.heap.size w).size
 have tg1 : g1 < w1.heap.size := m1.lt
 clear eg1
 refine Fx.L.nil (Fx.seqN (Fx.W.seq (Fx.W.seq (Fx.W.list (Fx.L.v (.pointer none) (Fx.x_move rfl rfl) ?_)))))
 refine Fx.L.v (.bool true) (Fx.x_eqNil' rfl rfl rfl (by kernel_rfl)) ?_
 refine Fx.L.nil (Fx.seqN (Fx.W.cond (b := true) rfl (fun _ => Fx.W.seq (Fx.W.list (Fx.L.v (.agg (Fx.varr 6 (Fx.rv .u64 (fun _ => 0)))) (Fx.x_buildArr (vs := []) (s := 1) (m := 6) (x := Fx.rv .u64 (fun _ => 0)) rfl rfl Try.underlying32 (by kernel_rfl) (by kernel_rfl) (by rfl)) ?_))) (fun h => nomatch h)))
 refine Fx.L.storeA (x := Fx.rv .u64 (fun _ => 0)) (y := Fx.rv .u64 (fun _ => 0)) (by rfl) rfl rfl rfl rfl (fun _ _ => rfl) (by kernel_rfl) m1 (i := 0) (by omega) fun w2 m2 s2 z2 => ?_
 have m3 : Fx.Blk w2 g1 6 (Fx.rv .u64 (fun _ => 0)) 32 := Fx.ovr_all m2
 have b2 := s2.below b1 b1.size (by omega)
 refine Fx.L.nil (Fx.seqN (Fx.W.ret (Fx.seqR (⟨.agg (Fx.varr 6 (Fx.rv .u64 (fun _ => 0))), Fx.retV1 Try.results27 ⟨_, rfl, Fx.run_loadV m3.cel (by kernel_rfl) (by kernel_rfl)⟩, ?_⟩))))
 exact ⟨rfl, b2⟩
theorem o_len (m : LgM) (B p T : Nat) (w : World) (h : LgO w B p m T) (hT : T ≤ 1000000) :
    Calls Try.prog 30 #[.pointer (some ⟨p, 0, none⟩)] w fun e w' => e = .returned (.int .i64 ((lenN m 6 : Nat) : Int)) ∧ Below w.heap.size w w' := by
 refine Fx.enter Try.func30 rfl (n := 20) rfl (by rfl) ?_
 have hbk := h.blk
 have tp := hbk.lt
 refine Fx.W.seq (Fx.W.list (Fx.L.v (.int .i64 (0)) (Fx.x_assign rfl rfl) ?_))
 refine Fx.L.nil (Fx.seqN (Fx.W.seq (Fx.W.seq (Fx.W.list (Fx.L.v (.pointer (some ⟨p, 0, none⟩)) (Fx.x_move rfl rfl) ?_)))))
 refine Fx.L.v (.bool false) (Fx.x_eqNil rfl rfl rfl (by kernel_rfl)) ?_
 refine Fx.L.nil (Fx.seqN (Fx.W.cond (b := false) rfl (fun h => nomatch h) (fun _ => Fx.W.skip (Fx.seqN (Fx.W.seq (Fx.W.seq (Fx.W.list (Fx.L.v (.pointer (some ⟨p, 0, none⟩)) (Fx.x_move rfl rfl) ?_))))))))
 refine Fx.L.v (.pointer (some ⟨p, 0, none⟩)) (Fx.x_nil rfl rfl) ?_
 refine Fx.L.v (.pointer (some ⟨p, 0, none⟩)) (Fx.x_field rfl rfl Try.underlying100 rfl (s := 6) (by kernel_rfl) rfl rfl) ?_
 refine Fx.L.v (.agg (Fx.varr 6 (lvV m))) (Fx.x_loadA (x := lgY m) (y := lvV m) rfl rfl (by kernel_rfl) (by kernel_rfl) hbk.cel (i := 0) (by omega) (by omega) (fun j hj => by rw [Nat.zero_add]; exact lgY_v m hj)) ?_
 refine Fx.L.v (.int .i64 (0)) (Fx.x_move rfl rfl) ?_
 refine Fx.L.nil (Fx.seqN (Fx.W.block (Fx.W.loop (fun f w_ => ∃ k : Nat, k ≤ 6 ∧ f 2 = .int .i64 (((lenN m k : Nat) : Int)) ∧ f 10 = .agg (Fx.varr 6 (lvV m)) ∧ f 11 = .int .i64 ((k : Int)) ∧ Fx.Blk w_ p 13 (lgY m) 100 ∧ Below w.heap.size w w_) (fun f _ => (6 - (intOf (f 11)).toNat)) ⟨0, by omega, (by rfl), (by rfl), (by first | rfl | exact congrArg (Value.int .i64) (by omega)), hbk, (Below.refl w.heap.size w)⟩ ?_)))
 rintro f1 w1 ⟨k, hk, h1, h2, h3, m1, b1⟩
 refine Fx.W.seq (Fx.W.list ?_)
 by_cases c12 : (k : Int) < 6
 ·refine Fx.L.v (.bool true) (Fx.x_lssT rfl h3 rfl c12) ?_
  refine Fx.L.nil (Fx.seqN (Fx.W.seq (Fx.W.cond (b := true) rfl (fun _ => Fx.W.skip (Fx.seqN (Fx.W.seq (Fx.W.block (Fx.W.seq (Fx.W.list (Fx.L.v (.slice (m.a k) ((m.L k).length) ((m.c k))) (Fx.x_indexV (j := k) (y := lvV m) rfl h2 h3 Try.underlying98 (by kernel_rfl) (by kernel_rfl) (by omega) (rfl)) ?_))))))) (fun h => nomatch h))))
  refine Fx.L.v (.slice (m.a k) ((m.L k).length) ((m.c k))) (Fx.x_assign rfl rfl) ?_
  refine Fx.L.nil (Fx.seqN ?_)
  have hk1 := h.len k (by omega)
  have hk2 := lenN_le h.len k (by omega)
  have hk3 : k * T ≤ 6 * 1000000 := Nat.mul_le_mul (by omega) hT
  refine Fx.W.list (Fx.L.v (.int .i64 (((lenN m k : Nat) : Int))) (Fx.x_move rfl h1) ?_)
  refine Fx.L.v (.slice (m.a k) ((m.L k).length) ((m.c k))) (Fx.x_move rfl rfl) ?_
  refine Fx.L.v (.int .i64 ((((m.L k).length : Nat) : Int))) (Fx.x_len rfl rfl rfl (by kernel_rfl)) ?_
  refine Fx.L.v (.int .i64 (((lenN m k : Nat) : Int) + (((m.L k).length : Nat) : Int))) (Fx.x_add rfl rfl rfl (Fx.i64e (by omega) (by omega))) ?_
  refine Fx.L.v (.int .i64 (((lenN m k : Nat) : Int) + (((m.L k).length : Nat) : Int))) (Fx.x_assign rfl rfl) ?_
  refine Fx.L.nil (Fx.blkN (Fx.seqN (Fx.W.list (Fx.L.v (.int .i64 ((k : Int) + 1)) (Fx.x_add rfl h3 rfl (Fx.i64e (by omega) (by omega))) ?_))))
  refine Fx.L.v (.int .i64 ((k : Int) + 1)) (Fx.x_move rfl rfl) ?_
  refine Fx.L.nil (Fx.lpN ⟨k + 1, by omega, (congrArg (Value.int .i64) (by show _ = ((lenN m k + (m.L k).length : Nat) : Int); omega)), h2, (by first | rfl | exact congrArg (Value.int .i64) (by omega)), m1, b1⟩ ?_)
  show (6 - (intOf ((.int .i64 ((k : Int) + 1)))).toNat) < _
  simp only [h3, intOf]; omega
 ·refine Fx.L.v (.bool false) (Fx.x_lssF rfl h3 rfl c12) ?_
  refine Fx.L.nil (Fx.seqN (Fx.W.seq (Fx.W.cond (b := false) rfl (fun h => nomatch h) (fun _ => Fx.W.exit (Fx.seqX (Fx.lpX (Fx.blkX (Fx.seqN (Fx.W.seq (Fx.W.list (Fx.L.v (.int .i64 (((lenN m k : Nat) : Int))) (Fx.x_move rfl h1) ?_)))))))))))
  refine Fx.L.v (.int .i64 (((lenN m k : Nat) : Int))) (Fx.x_assign rfl rfl) ?_
  refine Fx.L.nil (Fx.seqN (Fx.W.ret (⟨.int .i64 (((lenN m k : Nat) : Int)), Fx.retV1 Try.results30 (by exact rfl), ?_⟩)))
  have e6 : k = 6 := by omega
  exact ⟨by rw [e6], b1⟩
theorem o_len0 (w : World) :
    Calls Try.prog 30 #[.pointer none] w fun e w' => e = .returned (.int .i64 (0)) ∧ Below w.heap.size w w' := by
 refine Fx.enter Try.func30 rfl (n := 20) rfl (by rfl) ?_
 refine Fx.W.seq (Fx.W.list (Fx.L.v (.int .i64 (0)) (Fx.x_assign rfl rfl) ?_))
 refine Fx.L.nil (Fx.seqN (Fx.W.seq (Fx.W.seq (Fx.W.list (Fx.L.v (.pointer none) (Fx.x_move rfl rfl) ?_)))))
 refine Fx.L.v (.bool true) (Fx.x_eqNil' rfl rfl rfl (by kernel_rfl)) ?_
 refine Fx.L.nil (Fx.seqN (Fx.W.cond (b := true) rfl (fun _ => Fx.W.seq (Fx.W.list (Fx.L.v (.int .i64 (0)) (Fx.x_assign rfl rfl) ?_))) (fun h => nomatch h)))
 refine Fx.L.nil (Fx.seqN (Fx.W.ret (Fx.seqR (⟨.int .i64 (0), Fx.retV1 Try.results30 (by exact rfl), ?_⟩))))
 exact ⟨rfl, (Below.refl w.heap.size w)⟩
end Go.Proofs.Ytleajegppehbdaa
namespace Go.Proofs.Ytleajegppehbdaa
open Go.RowKit Rt
namespace Rt
def ownN (id : Nat → Int) (o : Int) : Nat → Nat
  | 0 => 0
  | n + 1 => ownN id o n + if id n / 1099511627776 = o then 1 else 0
noncomputable def makesE (L : LdC) (v : EvM) : Int := if 5 ≤ ownN L.id v.o L.nn ∨ 140737488355328 < v.amt then 6 else addE L.t L.tn (idE v.o v.seq) v.node
def downI (f : Nat → Int) (n : Nat) (x : Int) : Nat := Fx.down (fun i => decide (x < f i)) n
def makesC (L : LdC) (v : EvM) : LdC :=
  { L with nn := L.nn + 1, id := Fx.insI L.id (downI L.id L.nn (idE v.o v.seq)) (idE v.o v.seq), par := Fx.insI L.par (downI L.id L.nn (idE v.o v.seq)) v.node,
           R := Fx.insI L.R (downI L.id L.nn (idE v.o v.seq)) (upd (fun _ => 0) (v.o - 1).toNat v.amt),
           tn := L.tn + 1, t := insT L.t (Fx.down (fun i => decide (idE v.o v.seq < L.t i 0)) L.tn) (idE v.o v.seq) v.node }
end Rt
end Go.Proofs.Ytleajegppehbdaa
namespace Go.Proofs.Ytleajegppehbdaa
open Go.RowKit Rt
namespace Rt
def walkR (f : (Nat → Int) → (Nat → Int) × Int) (idx : Nat → Nat) (R : Nat → Nat → Int) : Nat → (Nat → Nat → Int) × Int
  | 0 => (R, 0)
  | j + 1 => if (walkR f idx R j).2 = 0 then (if (f ((walkR f idx R j).1 (idx j))).2 = 0 then (updA (walkR f idx R j).1 (idx j) (f ((walkR f idx R j).1 (idx j))).1, 0) else ((walkR f idx R j).1, (f ((walkR f idx R j).1 (idx j))).2)) else walkR f idx R j
def lead (P : Nat → Bool) : Nat → Nat
  | 0 => 0
  | n + 1 => if lead P n = n ∧ P n = true then n + 1 else lead P n
theorem lead_all {P : Nat → Bool} : ∀ {n : Nat}, (∀ i, i < n → P i = true) → lead P n = n
  | 0, _ => rfl
  | n + 1, h => by unfold lead; rw [if_pos ⟨lead_all fun i hi => h i (by omega), h n (by omega)⟩]
theorem lead_eq {P : Nat → Bool} {K : Nat} (h1 : ∀ i, i < K → P i = true) (h2 : P K = false) : ∀ {n : Nat}, K ≤ n → lead P n = K
  | 0, h => by unfold lead; omega
  | n + 1, h => by
    unfold lead
    by_cases e : K = n + 1
    · rw [if_pos ⟨lead_all fun i hi => h1 i (by omega), h1 n (by omega)⟩]; exact e.symm
    · rw [lead_eq h1 h2 (n := n) (by omega), if_neg]
      rintro ⟨h3, h4⟩
      subst h3; rw [h2] at h4; cases h4
def pathK (t : Nat → Nat → Int) (tn : Nat) (x : Int) : Nat := lead (fun i => decide (0 ≤ findT t tn (iterT t tn i x))) 1000
theorem pathK_eq {t : Nat → Nat → Int} {tn K D : Nat} {x : Int} (h1 : ∀ i, i < K → 0 ≤ findT t tn (iterT t tn i x)) (h2 : findT t tn (iterT t tn K x) < 0) (hD : findT t tn (iterT t tn D x) < 0) (hD2 : D ≤ 1000) : K = pathK t tn x := by
  have hK : K ≤ 1000 := by
    rcases Nat.lt_or_ge D K with h | h
    · have := h1 D h; omega
    · omega
  exact (lead_eq (fun i hi => decide_eq_true (h1 i hi)) (decide_eq_false (by omega)) hK).symm
end Rt
def LdC.node (L : LdC) (x : Int) : Int := firstI (fun i => decide (L.id i = x)) L.nn
def LdC.grant (L : LdC) (o r : Int) : Int := firstI (fun i => decide (L.g i 0 = o) && decide (L.g i 1 = r)) L.gn
def LdC.askedN (L : LdC) (a : Nat) (r : Int) : Int := firstI (fun i => decide (L.rq a i = r)) (L.rn a)
namespace Rt
def idxT (L : LdC) (x : Int) (i : Nat) : Nat := (L.node (iterT L.t L.tn i x)).toNat
def grN (v : EvM) : Nat → Int := fun j => if j = 0 then v.o else if j = 1 then v.req else if j = 2 then v.node else if j = 3 then v.amt else 0
def gtG (v : EvM) (x : Nat → Int) : Bool := decide (v.o < x 0) || (decide (x 0 = v.o) && decide (v.req < x 1))
def regN (v : EvM) : Nat := (v.o - 1).toNat
def takesW (L : LdC) (v : EvM) : (Nat → Nat → Int) × Int := walkR (fun x => takeM x v.o v.amt) (idxT L v.node) L.R (pathK L.t L.tn v.node)
def takesE (L : LdC) (v : EvM) : Int := if 0 ≤ L.askedN (regN v) v.req then 14 else if pathK L.t L.tn v.node = 0 then 9 else (takesW L v).2
def addReq (L : LdC) (a : Nat) (r : Int) : LdC := { L with rn := updA L.rn a (L.rn a + 1), rq := updA L.rq a (updA (L.rq a) (L.rn a) r) }
def takesC (L : LdC) (v : EvM) : LdC :=
  addReq { L with R := (takesW L v).1, gn := L.gn + 1, g := Fx.insI L.g (Fx.down (fun i => gtG v (L.g i)) L.gn) (grN v) } (regN v) v.req
theorem Rqs.app {w w' : World} {B a g cap : Nat} {r : Int} {m m' : LdM} (h : Rqs w B 6 m) (_ha : a < 6) (h1 : m'.ra = updA m.ra a (some ⟨g, 0, none⟩)) (h2 : m'.rn = updA m.rn a (m.rn a + 1)) (h3 : m'.rc = updA m.rc a cap) (h4 : m'.rq = updA m.rq a (updA (m.rq a) (m.rn a) r))
    (hO : Fx.Own w' B 30 1 (.slice (some ⟨g, 0, none⟩) (m.rn a + 1) cap) (m.rn a + 1) (Fx.rv .u64 (updA (m.rq a) (m.rn a) r))) (hg : w.grownBy w' (reqV m a).ownBlock) (hgv : (reqV m a).ownBlock = some g ∨ g = w.heap.size) : Rqs w' B 6 m' := by
  have e1 : ∀ i, i ≠ a → reqV m' i = reqV m i := fun i hi => by unfold reqV; rw [h1, h2, h3]; simp [updA, hi]
  have e2 : reqV m' a = .slice (some ⟨g, 0, none⟩) (m.rn a + 1) cap := by unfold reqV; rw [h1, h2, h3]; simp [updA]
  have hne : ∀ i, i < 6 → i ≠ a → ∀ q, (reqV m i).ownBlock = some q → q ≠ g := fun i hi hia q hq e => by
    subst e
    rcases hgv with e3 | e3
    · exact h.2 i a hi _ha hia q hq e3
    · have := ((h.1 i hi).ge hq).2; omega
  refine ⟨fun i hi => ?_, fun i j hi hj hij q hq => ?_⟩
  · by_cases e : i = a
    · subst e; rw [e2, h2, h4]; simp only [updA, if_true]; exact hO
    · rw [e1 i e, h2, h4]
      simp only [updA, if_neg e]
      refine World.ownsRow.kept (h.1 i hi) hg ?_
      by_cases hn : (reqV m i).ownBlock = none
      · exact .inl hn
      · right
        intro e3
        cases hq : (reqV m i).ownBlock with
        | none => exact hn hq
        | some q => rw [hq] at e3; exact h.2 i a hi _ha e q hq e3.symm
  · by_cases e : i = a
    · subst e
      rw [e2] at hq
      rw [e1 j (fun e => hij e.symm)]
      intro h5
      exact hne j hj (fun e => hij e.symm) q h5 (Option.some.inj hq).symm
    · rw [e1 i e] at hq
      by_cases e4 : j = a
      · subst e4; rw [e2]; intro h5; exact hne i hi e q hq (Option.some.inj h5).symm
      · rw [e1 j e4]; exact h.2 i j hi hj hij q hq
end Rt
end Go.Proofs.Ytleajegppehbdaa
namespace Go.Proofs.Ytleajegppehbdaa
open Go.RowKit
def Rws (w0 : World) (l : List (Nat × (Nat → Int))) (w' : World) : Prop := (∀ p ∈ l, w'.heap[p.1]? = some (.cells (iarr .i64 54 p.2) 121 (0, 0))) ∧ Below w0.heap.size w0 w'
theorem Rws.up {w0 w w' : World} {l : List (Nat × (Nat → Int))} (h : Rws w0 l w) (hb : Below w.heap.size w w') : Rws w0 l w' := ⟨fun p hp => row_kept (h.1 p hp) hb, bch h.2 hb⟩
theorem Rws.drew {w0 w : World} {l : List (Nat × (Nat → Int))} (h : Rws w0 l w) : Rws w0 l w.drew := ⟨h.1, bN h.2 1⟩
theorem Rws.drop {w0 w : World} {p : Nat × (Nat → Int)} {l : List (Nat × (Nat → Int))} (h : Rws w0 (p :: l) w) : Rws w0 l w := ⟨fun q hq => h.1 q (by simp [hq]), h.2⟩
theorem Rws.row {w0 w : World} {l : List (Nat × (Nat → Int))} (h : Rws w0 l w) (g : Nat) (x : Nat → Int) (hm : (g, x) ∈ l) : w.heap[g]? = some (.cells (iarr .i64 54 x) 121 (0, 0)) := h.1 (g, x) hm
theorem Rws.add {w0 w : World} {l : List (Nat × (Nat → Int))} (h : Rws w0 l w) {g : Nat} {x : Nat → Int} (c : w.heap[g]? = some (.cells (iarr .i64 54 x) 121 (0, 0))) : Rws w0 ((g, x) :: l) w :=
  ⟨fun p hp => by
    rcases List.mem_cons.1 hp with rfl | hp
    · exact c
    · exact h.1 p hp, h.2⟩
theorem Rws.start (w : World) (x : Nat → Int) : Rws w [(w.heap.size, x)] (w.alloc (.cells (iarr .i64 54 x) 121)) := ⟨fun p hp => by
    obtain rfl : p = (w.heap.size, x) := by simpa using hp
    exact heap_alloc_new w _, (Below.refl _ _).alloc (Nat.le_refl _) _⟩
end Go.Proofs.Ytleajegppehbdaa
namespace Go.Proofs.Ytleajegppehbdaa
open Go.RowKit Rt
namespace Rt
def kgN (L : LdC) (v : EvM) : Nat := (L.grant v.o v.of).toNat
def freesW (L : LdC) (v : EvM) : (Nat → Nat → Int) × Int := walkR (fun x => freeM x v.o (L.g (kgN L v) 3)) (idxT L (L.g (kgN L v) 2)) L.R (pathK L.t L.tn (L.g (kgN L v) 2))
def freesE (L : LdC) (v : EvM) : Int := if 0 ≤ L.askedN (regN v) v.req then 14 else if L.grant v.o v.of < 0 ∨ L.g (kgN L v) 4 ≠ 0 then 12 else (freesW L v).2
def freesC (L : LdC) (v : EvM) : LdC := addReq { L with R := (freesW L v).1, g := updA L.g (kgN L v) (updA (L.g (kgN L v)) 4 v.req) } (regN v) v.req
end Rt
end Go.Proofs.Ytleajegppehbdaa
namespace Go.Proofs.Ytleajegppehbdaa
open Go.RowKit Rt
namespace Rt
def raiseE (L : LdC) (v : EvM) : Int := if L.node v.node < 0 then 9 else if 140737488355328 < L.R (L.node v.node).toNat (regN v) + v.amt then 6 else 0
def raiseC (L : LdC) (v : EvM) : LdC := { L with R := updA L.R (L.node v.node).toNat (upd (L.R (L.node v.node).toNat) (regN v) (L.R (L.node v.node).toNat (regN v) + v.amt)) }
def moveW (L : LdC) (v : EvM) : (Nat → Int) × Int := moveM (L.R (L.node v.node).toNat) v.o v.dst v.amt
def movesE (L : LdC) (v : EvM) : Int := if L.node v.node < 0 then 9 else if v.dst < 1 ∨ 6 < v.dst ∨ L.inn (v.dst - 1).toNat = false then 10 else (moveW L v).2
def movesC (L : LdC) (v : EvM) : LdC := { L with R := updA L.R (L.node v.node).toNat (moveW L v).1 }
noncomputable def doesE (L : LdC) (v : EvM) : Int :=
  if v.kind = 1 then makesE L v else if v.kind = 2 then raiseE L v else if v.kind = 3 then takesE L v else if v.kind = 4 then freesE L v else if v.kind = 5 then movesE L v else 0
def doesC (L : LdC) (v : EvM) : LdC :=
  if v.kind = 1 then makesC L v else if v.kind = 2 then raiseC L v else if v.kind = 3 then takesC L v else if v.kind = 4 then freesC L v else if v.kind = 5 then movesC L v
  else if v.kind = 6 then { L with inn := updA L.inn (v.dst - 1).toNat true } else { L with left := updA L.left (regN v) true }
end Rt
end Go.Proofs.Ytleajegppehbdaa
namespace Go.Proofs.Ytleajegppehbdaa
open Go.RowKit Rt
namespace Rt
structure InvW (L : LdC) (T : Nat) : Prop where
  nn : L.nn ≤ 33
  gn : L.gn ≤ T
  rn : ∀ i, i < 6 → L.rn i ≤ T
  tn : ∀ x, L.node x = findT L.t L.tn x
  dx : ∀ x, ∃ D, D ≤ 1000 ∧ findT L.t L.tn (iterT L.t L.tn D x) < 0
  may : ∀ k, k < L.nn → may (L.R k) = true
  kn : KnOk L.known
open Classical in
noncomputable def applyE (L : LdC) (v : EvM) : Int :=
  if mayE v = false then 1 else if lateE L.known v = true then 14 else if readyE L.known v = false then 13 else if L.inn (regN v) = false ∨ L.left (regN v) = true then 10 else doesE L v
def knowC (L : LdC) (v : EvM) : LdC := { L with known := updA L.known (regN v) (L.known (regN v) + 1) }
open Classical in
noncomputable def applyC (L : LdC) (v : EvM) : LdC := if applyE L v = 0 then knowC (doesC L v) v else L
theorem doesC_known (L : LdC) (v : EvM) : (doesC L v).known = L.known := by
  unfold doesC
  split; · unfold makesC; rfl
  split; · unfold raiseC; rfl
  split; · unfold takesC addReq; rfl
  split; · unfold freesC addReq; rfl
  split; · unfold movesC; rfl
  split <;> rfl
end Rt
end Go.Proofs.Ytleajegppehbdaa
namespace Go.Proofs.Ytleajegppehbdaa
open Go.RowKit Rt
namespace Rt
structure Inv0 (L : LdC) (T : Nat) : Prop where
  tnn : L.tn = L.nn
  nn : L.nn ≤ 32
  tid : ∀ i, i < L.nn → L.t i 0 = L.id i ∧ L.t i 1 = L.par i
  rise : ∀ i j, i < j → j < L.nn → L.id i < L.id j
  pos : ∀ i, i < L.nn → 1 ≤ L.id i
  top : ∀ i, i < L.nn → L.id i < 7696581394432
  up : ∀ i, i < L.nn → L.par i = 0 ∨ ∃ j, j < L.nn ∧ L.id j = L.par i
  dep : ∀ x, ∃ D, D ≤ 4 ∧ findT L.t L.tn (iterT L.t L.tn D x) < 0
  gn : L.gn ≤ T
  rn : ∀ i, i < 6 → L.rn i ≤ T
  may : ∀ k, k < L.nn → may (L.R k) = true
  g47 : ∀ k, k < L.nn → ∀ a, a < 6 → L.R k a ≤ 140737488355328
  kn : KnOk L.known
theorem ilt (a : Int) : a < 0 ∨ 0 ≤ a := by omega
theorem findT_iff {t : Nat → Nat → Int} {tn : Nat} {x : Int} : 0 ≤ findT t tn x ↔ ∃ i, i < tn ∧ t i 0 = x := by
  constructor
  · intro h
    obtain ⟨j, hj, _, e⟩ := find_nat h
    exact ⟨j, hj, e⟩
  · rintro ⟨i, hi, e⟩
    rcases firstI_spec (fun i => decide (t i 0 = x)) tn with ⟨k, _, e2, _⟩ | ⟨_, h2⟩
    · unfold findT; rw [e2]; omega
    · have := h2 i hi; rw [decide_eq_true e] at this; cases this
theorem findT_no {t : Nat → Nat → Int} {tn : Nat} {x : Int} : findT t tn x < 0 ↔ ∀ i, i < tn → t i 0 ≠ x := by
  constructor
  · intro h i hi e
    have := findT_iff.2 ⟨i, hi, e⟩; omega
  · intro h
    rcases ilt (findT t tn x) with h1 | h1
    · exact h1
    · obtain ⟨i, hi, e⟩ := findT_iff.1 h1
      exact absurd e (h i hi)
theorem findT_at {t : Nat → Nat → Int} {tn i : Nat} (hu : ∀ i j, i < tn → j < tn → t i 0 = t j 0 → i = j) (hi : i < tn) : findT t tn (t i 0) = (i : Int) := by
  obtain ⟨j, hj, e, e2⟩ := find_nat (findT_iff.2 ⟨i, hi, rfl⟩)
  rw [e, hu j i hj hi e2]
theorem iter_shift {t : Nat → Nat → Int} {tn : Nat} {x : Int} : ∀ j, iterT t tn (j + 1) x = iterT t tn j (iterT t tn 1 x)
  | 0 => rfl
  | j + 1 => by
    show t (findT t tn (iterT t tn (j + 1) x)).toNat 1 = t (findT t tn (iterT t tn j (iterT t tn 1 x))).toNat 1
    rw [iter_shift j]
section
variable {L : LdC} {T : Nat}
theorem Inv0.inj (h : Inv0 L T) : ∀ i j, i < L.nn → j < L.nn → L.id i = L.id j → i = j := fun i j hi hj e => by
  rcases Nat.lt_trichotomy i j with h1 | h1 | h1
  · have := h.rise i j h1 hj; omega
  · exact h1
  · have := h.rise j i h1 hi; omega
theorem firstI_cong {P Q : Nat → Bool} : ∀ {n : Nat}, (∀ i, i < n → P i = Q i) → firstI P n = firstI Q n
  | 0, _ => rfl
  | n + 1, h => by
    simp only [firstI]
    rw [firstI_cong (n := n) fun i hi => h i (by omega), h n (by omega)]
theorem Inv0.node (h : Inv0 L T) (x : Int) : L.node x = findT L.t L.tn x := by
  unfold LdC.node findT
  rw [h.tnn]
  exact firstI_cong fun i hi => by rw [(h.tid i hi).1]
theorem Inv0.w (h : Inv0 L T) : InvW L T where
  nn := by have := h.nn; omega
  gn := h.gn
  rn := h.rn
  tn := h.node
  dx := fun x => by obtain ⟨D, hD, hx⟩ := h.dep x; exact ⟨D, by omega, hx⟩
  may := h.may
  kn := h.kn
theorem Inv0.mono {T' : Nat} (h : Inv0 L T) (hT : T ≤ T') : Inv0 L T' := { h with gn := Nat.le_trans h.gn hT, rn := fun i hi => Nat.le_trans (h.rn i hi) hT }
structure TreeUp (t t' : Nat → Nat → Int) (tn : Nat) (id par : Int) : Prop where
  u : ∀ i j, i < tn → j < tn → t i 0 = t j 0 → i = j
  u' : ∀ i j, i < tn + 1 → j < tn + 1 → t' i 0 = t' j 0 → i = j
  no : ∀ i, i < tn → t i 0 ≠ id
  old : ∀ i, i < tn → ∃ j, j < tn + 1 ∧ t' j = t i
  new : ∃ j, j < tn + 1 ∧ t' j 0 = id ∧ t' j 1 = par
  back : ∀ j, j < tn + 1 → t' j 0 = id ∨ ∃ i, i < tn ∧ t' j = t i
variable {t t' : Nat → Nat → Int} {tn : Nat} {id par : Int}
theorem TreeUp.find (h : TreeUp t t' tn id par) {x : Int} : 0 ≤ findT t' (tn + 1) x ↔ (0 ≤ findT t tn x ∨ x = id) := by
  rw [findT_iff, findT_iff]
  constructor
  · rintro ⟨j, hj, e⟩
    rcases h.back j hj with h1 | ⟨i, hi, h1⟩
    · exact .inr (e.symm.trans h1)
    · exact .inl ⟨i, hi, by rw [← h1]; exact e⟩
  · rintro (⟨i, hi, e⟩ | e)
    · obtain ⟨j, hj, h1⟩ := h.old i hi
      exact ⟨j, hj, by rw [h1]; exact e⟩
    · obtain ⟨j, hj, h1, _⟩ := h.new
      exact ⟨j, hj, h1.trans e.symm⟩
theorem TreeUp.par_old (h : TreeUp t t' tn id par) {x : Int} (hx : 0 ≤ findT t tn x) : t' (findT t' (tn + 1) x).toNat 1 = t (findT t tn x).toNat 1 := by
  obtain ⟨i, hi, e⟩ := findT_iff.1 hx
  obtain ⟨j, hj, e2⟩ := h.old i hi
  have h1 : findT t tn x = (i : Int) := by rw [← e]; exact findT_at h.u hi
  have h2 : findT t' (tn + 1) x = (j : Int) := by
    have : t' j 0 = x := by rw [e2]; exact e
    rw [← this]; exact findT_at h.u' hj
  rw [h1, h2]
  show t' j 1 = t i 1
  rw [e2]
theorem TreeUp.iter (h : TreeUp t t' tn id par) {x : Int} : ∀ K, (∀ i, i < K → 0 ≤ findT t tn (iterT t tn i x)) → iterT t' (tn + 1) K x = iterT t tn K x
  | 0, _ => rfl
  | K + 1, hk => by
    have ih := TreeUp.iter h K fun i hi => hk i (by omega)
    show t' (findT t' (tn + 1) (iterT t' (tn + 1) K x)).toNat 1 = t (findT t tn (iterT t tn K x)).toNat 1
    rw [ih]; exact h.par_old (hk K (by omega))
theorem first_end {t : Nat → Nat → Int} {tn : Nat} {x : Int} : ∀ D, findT t tn (iterT t tn D x) < 0 → ∃ K, K ≤ D ∧ findT t tn (iterT t tn K x) < 0 ∧ ∀ i, i < K → 0 ≤ findT t tn (iterT t tn i x)
  | 0, h => ⟨0, Nat.le_refl _, h, fun _ hi => absurd hi (Nat.not_lt_zero _)⟩
  | D + 1, h => by
    by_cases hall : ∀ i, i < D + 1 → 0 ≤ findT t tn (iterT t tn i x)
    · exact ⟨D + 1, Nat.le_refl _, h, hall⟩
    · obtain ⟨i, hi⟩ := Classical.not_forall.1 hall
      obtain ⟨hi, h2⟩ := Classical.not_imp.1 hi
      rcases Nat.lt_or_ge i D with h3 | h3
      · -- an earlier end
        have : ∀ n, n ≤ D → (∃ j, j ≤ n ∧ findT t tn (iterT t tn j x) < 0) → ∃ K, K ≤ n ∧ findT t tn (iterT t tn K x) < 0 ∧ ∀ i, i < K → 0 ≤ findT t tn (iterT t tn i x) := by
          intro n
          induction n with
          | zero => rintro _ ⟨j, hj, hn⟩; obtain rfl : j = 0 := by omega
                    exact ⟨0, Nat.le_refl _, hn, fun _ hi => absurd hi (Nat.not_lt_zero _)⟩
          | succ n ih =>
            rintro hn ⟨j, hj, hj2⟩
            by_cases h5 : ∃ j, j ≤ n ∧ findT t tn (iterT t tn j x) < 0
            · obtain ⟨K, hK, h6⟩ := ih (by omega) h5; exact ⟨K, by omega, h6⟩
            · refine ⟨n + 1, Nat.le_refl _, ?_, fun i hi => ?_⟩
              · by_cases e : j = n + 1
                · rw [← e]; exact hj2
                · exact absurd ⟨j, by omega, hj2⟩ h5
              · rcases ilt (findT t tn (iterT t tn i x)) with h7 | h7
                · exact absurd ⟨i, by omega, h7⟩ h5
                · exact h7
        obtain ⟨K, hK, h4⟩ := this i (by omega) ⟨i, Nat.le_refl _, by omega⟩
        exact ⟨K, by omega, h4⟩
      · obtain rfl : i = D := by omega
        obtain ⟨K, hK, h4⟩ := first_end (t := t) (tn := tn) (x := x) i (by omega)
        exact ⟨K, by omega, h4⟩
theorem TreeUp.dep (h : TreeUp t t' tn id par) (hid : 1 ≤ id) (hup : ∀ i, i < tn → t i 1 = 0 ∨ 0 ≤ findT t tn (t i 1)) (hpar : par = 0 ∨ 0 ≤ findT t tn par) (hz : findT t tn 0 < 0) (hd : ∀ x, ∃ D, D ≤ 4 ∧ findT t tn (iterT t tn D x) < 0) (hdeep : ¬ deepT t tn par) :
    ∀ x, ∃ D, D ≤ 4 ∧ findT t' (tn + 1) (iterT t' (tn + 1) D x) < 0 := by
  -- an end of an old path is none of the new tree's nodes
  have hidn : findT t tn id < 0 := findT_no.2 h.no
  have key : ∀ x K, x ≠ id → findT t tn (iterT t tn K x) < 0 → (∀ i, i < K → 0 ≤ findT t tn (iterT t tn i x)) → findT t' (tn + 1) (iterT t' (tn + 1) K x) < 0 := fun x K hx hK hall => by
    rw [h.iter K hall]
    rcases ilt (findT t' (tn + 1) (iterT t tn K x)) with h1 | h1
    · exact h1
    · exfalso
      rcases h.find.1 h1 with h2 | h2
      · omega
      · cases K with
        | zero => exact hx h2
        | succ K =>
          have hf := hall K (by omega)
          obtain ⟨i, hi, e⟩ := findT_iff.1 hf
          have e3 : iterT t tn (K + 1) x = t i 1 := by
            show t (findT t tn (iterT t tn K x)).toNat 1 = t i 1
            rw [← e, findT_at h.u hi]; rfl
          rw [e3] at h2 hK
          rcases hup i hi with h4 | h4
          · omega
          · omega
  intro x
  by_cases hx : x = id
  · subst hx
    obtain ⟨i, hi⟩ := Classical.not_forall.1 hdeep
    obtain ⟨hi4, hi⟩ := Classical.not_imp.1 hi
    obtain ⟨K, hK, hK2, hall⟩ := first_end (t := t) (tn := tn) (x := par) i (by omega)
    refine ⟨K + 1, by omega, ?_⟩
    have e1 : iterT t' (tn + 1) 1 x = par := by
      obtain ⟨j, hj, e2, e3⟩ := h.new
      show t' (findT t' (tn + 1) x).toNat 1 = par
      rw [← e2, findT_at h.u' hj]; exact e3
    rw [iter_shift, e1]
    refine key par K ?_ hK2 hall
    rintro rfl
    rcases hpar with h1 | h1 <;> omega
  · obtain ⟨D, hD, hD2⟩ := hd x
    obtain ⟨K, hK, hK2, hall⟩ := first_end D hD2
    exact ⟨K, by omega, key x K hx hK2 hall⟩
end
end Rt
end Go.Proofs.Ytleajegppehbdaa
namespace Go.Proofs.Ytleajegppehbdaa
open Go.RowKit Rt
namespace Rt
def cntP (t : Nat → Nat → Int) (tn : Nat) (x y : Int) : Nat → Int
  | 0 => 0
  | k + 1 => cntP t tn x y k + if iterT t tn k x = y then 1 else 0
def cntT (t : Nat → Nat → Int) (tn : Nat) (x y : Int) : Int := cntP t tn x y (pathK t tn x)
def openG (t : Nat → Nat → Int) (tn : Nat) (g : Nat → Int) (y : Int) : Int := if g 4 = 0 then g 3 * cntT t tn (g 2) y else 0
def openN (t : Nat → Nat → Int) (tn : Nat) (g : Nat → Nat → Int) (y : Int) : Nat → Int
  | 0 => 0
  | q + 1 => openN t tn g y q + openG t tn (g q) y
structure InvS (L : LdC) : Prop where
  us : ∀ k, k < L.nn → uSum (L.R k) = openN L.t L.tn L.g (L.id k) L.gn
  gb : ∀ q, q < L.gn → 0 ≤ findT L.t L.tn (L.g q 2) ∧ 1 ≤ L.g q 0 ∧ L.g q 0 ≤ 6 ∧ 0 ≤ L.g q 3 ∧ L.g q 3 ≤ 1125899906842624
structure InvB (L : LdC) (T : Nat) : Prop where
  kt : ∀ i, i < 6 → L.known i ≤ T
  rb : ∀ k, k < L.nn → ∀ a, a < 54 → L.R k a ≤ 2097152 * T
  rq : ∀ i, i < 6 → ∀ j, j < L.rn i → L.rq i j ≤ 256
structure Inv (L : LdC) (T : Nat) : Prop extends Inv0 L T where
  s : InvS L
  b : InvB L T
section
variable {L : LdC} {T : Nat} {v : EvM}
theorem TreeUp.path {t t' : Nat → Nat → Int} {tn : Nat} {id par z y : Int} (h : TreeUp t t' tn id par) (hid : 1 ≤ id) (hup : ∀ i, i < tn → t i 1 = 0 ∨ 0 ≤ findT t tn (t i 1)) (hd : ∃ D, D ≤ 4 ∧ findT t tn (iterT t tn D z) < 0) (hz : 0 ≤ findT t tn z) :
    cntT t' (tn + 1) z y = cntT t tn z y ∧ (y = id → cntT t tn z y = 0) := by
  obtain ⟨D, hD, hD2⟩ := hd
  obtain ⟨K, hK, hK2, hall⟩ := first_end D hD2
  have eK : K = pathK t tn z := pathK_eq hall hK2 hD2 (by omega)
  have hit : ∀ i, i ≤ K → iterT t' (tn + 1) i z = iterT t tn i z := fun i hi => h.iter i fun j hj => hall j (by omega)
  have hend : findT t' (tn + 1) (iterT t' (tn + 1) K z) < 0 := by
    rw [hit K (Nat.le_refl _)]
    rcases ilt (findT t' (tn + 1) (iterT t tn K z)) with h1 | h1
    · exact h1
    · exfalso
      rcases h.find.1 h1 with h2 | h2
      · omega
      · cases K with
        | zero => have : findT t tn z < 0 := hK2; omega
        | succ K =>
          obtain ⟨i, hi, e⟩ := findT_iff.1 (hall K (by omega))
          have e3 : iterT t tn (K + 1) z = t i 1 := by
            show t (findT t tn (iterT t tn K z)).toNat 1 = t i 1
            rw [← e, findT_at h.u hi]; rfl
          rw [e3] at h2 hK2
          rcases hup i hi with h4 | h4
          · omega
          · omega
  have eK' : K = pathK t' (tn + 1) z := pathK_eq (fun i hi => by rw [hit i (by omega)]; exact h.find.2 (.inl (hall i hi))) hend hend (by omega)
  have hc : ∀ n, n ≤ K → cntP t' (tn + 1) z y n = cntP t tn z y n := by
    intro n
    induction n with
    | zero => intro _; rfl
    | succ n ih => intro hn; unfold cntP; rw [ih (by omega), hit n (by omega)]
  refine ⟨?_, fun hy => ?_⟩
  · unfold cntT; rw [← eK, ← eK']; exact hc K (Nat.le_refl _)
  · subst hy
    have : ∀ n, n ≤ K → cntP t tn z y n = 0 := by
      intro n
      induction n with
      | zero => intro _; rfl
      | succ n ih =>
        intro hn; unfold cntP
        rw [ih (by omega), if_neg]
        · rfl
        · intro e
          have := hall n (by omega)
          rw [e] at this
          have h5 := findT_no.2 h.no
          omega
    unfold cntT; rw [← eK]; exact this K (Nat.le_refl _)
theorem InvB.mono {T' : Nat} (h : InvB L T) (hT : T ≤ T') : InvB L T' where
  kt := fun i hi => by have := h.kt i hi; omega
  rb := fun k hk a ha => by have := h.rb k hk a ha; omega
  rq := h.rq
theorem Inv.mono {T' : Nat} (h : Inv L T) (hT : T ≤ T') : Inv L T' := ⟨h.toInv0.mono hT, h.s, h.b.mono hT⟩
end
end Rt
end Go.Proofs.Ytleajegppehbdaa
namespace Go.Proofs.Ytleajegppehbdaa
open Go.RowKit Rt
namespace Rt
def evX (e : Nat → EvM) : Nat → Value := Fx.flat 14 fun k => evY (e k)
theorem KnOk.kd {K : Nat → Int} (h : KnOk K) : Fx.Kd (List.replicate 6 (some .u64)) (Fx.rv .u64 K) := Fx.kd_rv fun i hi => Fx.wfu64 (by have := h i hi; omega)
end Rt
end Go.Proofs.Ytleajegppehbdaa
namespace Go.Proofs.Ytleajegppehbdaa
open Go.RowKit Rt
namespace Rt
def zeroE : EvM := ⟨0, 0, fun _ => 0, 0, 0, 0, 0, 0, 0⟩
def cntE (ev : Nat → EvM) : Nat → Nat → Int
  | 0, _ => 0
  | k + 1, i => cntE ev k i + if regN (ev k) = i then 1 else 0
structure KnC (ev : Nat → EvM) (an : Nat) (K : Nat → Int) : Prop where
  le : ∀ i, i < 6 → K i ≤ cntE ev an i
  cl : ∀ k, k < an → (ev k).seq ≤ K (regN (ev k)) → ∀ i, i < 6 → (ev k).deps i ≤ K i
structure Cz (n an : Nat) (ev : Nat → EvM) (kn : Nat → Nat → Int) : Prop where
  rd : ∀ k, k < an → readyE (cntE ev k) (ev k) = true
  reg : ∀ k, k < an → regN (ev k) < n
  own : ∀ o, o < n → kn o o = cntE ev an o
  kc : ∀ o, o < n → KnC ev an (kn o)
section
variable {ev : Nat → EvM} {an n j k i : Nat} {K : Nat → Int} {kn kn' : Nat → Nat → Int} {v : EvM} {L : LdC}
theorem cnt_le : ∀ d k i, cntE ev k i ≤ cntE ev (k + d) i
  | 0, _, _ => Int.le_refl _
  | d + 1, k, i => by have := cnt_le d k i; show _ ≤ cntE ev (k + d) i + _; split <;> omega
theorem cnt_mono (h : j ≤ k) : cntE ev j i ≤ cntE ev k i := by have := cnt_le (ev := ev) (k - j) j i; rwa [show j + (k - j) = k by omega] at this
theorem cnt_hit (h : j < k) : cntE ev j (regN (ev j)) + 1 ≤ cntE ev k (regN (ev j)) := by
  have h1 : cntE ev (j + 1) (regN (ev j)) ≤ cntE ev k (regN (ev j)) := cnt_mono (by omega)
  have h2 : cntE ev (j + 1) (regN (ev j)) = cntE ev j (regN (ev j)) + 1 := by show _ + (if _ then _ else _) = _; rw [if_pos rfl]
  omega
theorem rdy (h : readyE K v = true) : mayE v = true ∧ v.seq = K (regN v) + 1 ∧ ∀ i, i < 6 → v.deps i ≤ K i := by
  unfold readyE at h
  simp only [Bool.and_eq_true, decide_eq_true_eq] at h
  refine ⟨h.1.1, h.1.2, fun i hi => ?_⟩
  have := h.2
  unfold leAll at this
  rw [List.all_eq_true] at this
  exact of_decide_eq_true (this i (List.mem_range.2 hi))
theorem Cz.seq (h : Cz n an ev kn) (hk : k < an) : (ev k).seq = cntE ev k (regN (ev k)) + 1 := (rdy (h.rd k hk)).2.1
theorem Cz.seq_le (h : Cz n an ev kn) (hk : k < an) : (ev k).seq ≤ cntE ev an (regN (ev k)) := by rw [h.seq hk]; exact cnt_hit hk
theorem Cz.uniq (h : Cz n an ev kn) (hj : j < an) (hk : k < an) (e1 : regN (ev j) = regN (ev k)) (e2 : (ev j).seq = (ev k).seq) : j = k := by
  rw [h.seq hj, h.seq hk] at e2
  rcases Nat.lt_trichotomy j k with h1 | h1 | h1
  · have := cnt_hit (ev := ev) h1; rw [e1] at this e2; omega
  · exact h1
  · have := cnt_hit (ev := ev) h1; rw [← e1] at this e2; omega
theorem Cz.step (h : Cz n an ev kn) (hc : KnC ev an K) (hj : j < an) (hr : readyE K (ev j) = true) : KnC ev an (updA K (regN (ev j)) (K (regN (ev j)) + 1)) := by
  obtain ⟨_, r2, r3⟩ := rdy hr
  have up : ∀ i, K i ≤ updA K (regN (ev j)) (K (regN (ev j)) + 1) i := fun i => by unfold updA; split <;> (try subst_vars) <;> omega
  refine ⟨fun i hi => ?_, fun k hk hs i hi => ?_⟩
  · unfold updA; split
    · rename_i e; rw [e, ← r2]; exact h.seq_le hj
    · exact hc.le i hi
  · by_cases e : (ev k).seq ≤ K (regN (ev k))
    · exact Int.le_trans (hc.cl k hk e i hi) (up i)
    · unfold updA at hs
      split at hs
      · rename_i e2
        rw [e2] at e
        have : k = j := h.uniq hk hj e2 (by omega)
        subst this
        exact Int.le_trans (r3 i hi) (up i)
      · exact absurd hs e
theorem apply_ready (h : applyE L v = 0) : readyE L.known v = true := by
  unfold applyE at h
  split at h; · cases h
  split at h; · cases h
  split at h; · cases h
  rename_i h3
  cases e : readyE L.known v with
  | true => rfl
  | false => exact absurd e h3
theorem applyC_known (L : LdC) (v : EvM) : (applyE L v = 0 ∧ (applyC L v).known = updA L.known (regN v) (L.known (regN v) + 1)) ∨ (applyE L v ≠ 0 ∧ applyC L v = L) := by
  by_cases h : applyE L v = 0
  · refine .inl ⟨h, ?_⟩
    unfold applyC; rw [if_pos h]
    show updA (doesC L v).known _ _ = _
    rw [doesC_known]
  · refine .inr ⟨h, ?_⟩
    unfold applyC; rw [if_neg h]
def KnO (ev : Nat → EvM) (an o : Nat) (K : Nat → Int) : Prop := KnC ev an K ∧ K o = cntE ev an o
theorem Cz.apply (h : Cz n an ev kn) {o : Nat} (hL : KnO ev an o L.known) (hj : j < an) : KnO ev an o (applyC L (ev j)).known := by
  rcases applyC_known L (ev j) with ⟨h1, h2⟩ | ⟨_, h2⟩
  · have hr := apply_ready h1
    rw [h2]
    refine ⟨h.step hL.1 hj hr, ?_⟩
    unfold updA
    split
    · rename_i e
      have := (rdy hr).2.1
      have h3 := h.seq_le hj
      rw [← e] at this h3
      have := hL.2
      omega
    · exact hL.2
  · rw [h2]; exact hL
theorem Cz.zero (n : Nat) (h : ∀ o, o < n → kn o = fun _ => 0) : Cz n 0 ev kn := ⟨fun _ h => absurd h (Nat.not_lt_zero _), fun _ h => absurd h (Nat.not_lt_zero _), fun o ho => by rw [h o ho]; rfl, fun o ho => ⟨fun i _ => by rw [h o ho]; exact Int.le_refl _, fun _ h => absurd h (Nat.not_lt_zero _)⟩⟩
end
end Rt
end Go.Proofs.Ytleajegppehbdaa
namespace Go.Proofs.Ytleajegppehbdaa
open Go.RowKit Rt
namespace Rt
def GetR (m : LgM) (i q : Int) (v : EvM) (b : Bool) : Prop :=
  (b = true ∧ regE i = true ∧ ∃ r, r < (m.L (i - 1).toNat).length ∧ v = ((m.L (i - 1).toNat).getD r it0).e ∧ v.seq = q) ∨
  (b = false ∧ v = zeroE ∧ (regE i = false ∨ q = 0 ∨ ∀ r, r < (m.L (i - 1).toNat).length → ((m.L (i - 1).toNat).getD r it0).e.seq ≠ q))
theorem it_bld (v : EvM) (c : Int) (z : Nat → Value) : ∀ q, q < 15 → Fx.ovr (Fx.ovr z 0 14 (evY v)) 14 1 (fun _ => .int .u64 c) q = itY ⟨v, c⟩ q := fun q hq => by
  unfold Fx.ovr itY
  by_cases h : q < 14
  · rw [if_neg (by omega), if_pos (by omega), if_pos h, Nat.sub_zero]
  · rw [if_pos (by omega), if_neg h]
theorem it_bone (v : EvM) (c : Int) (z z2 : Nat → Value) : ∀ j, j < 1 * 15 → (Fx.ovr z2 (0 * 15) 15 (Fx.ovr (Fx.ovr z 0 14 (evY v)) 14 1 (fun _ => .int .u64 c)) j).oneCell' = true := fun j hj => by
  show (if 0 * 15 ≤ j ∧ j < 0 * 15 + 15 then _ else _ : Value).oneCell' = true
  rw [if_pos (by omega), it_bld v c z _ (by omega)]; exact itY_one _ _
theorem it_app {l : List ItM} {v : EvM} {c : Int} {z z2 : Nat → Value} : ∀ j, j < (l.length + 1) * 15 → Fx.appX (itX l) (l.length * 15) (Fx.ovr z2 (0 * 15) 15 (Fx.ovr (Fx.ovr z 0 14 (evY v)) 14 1 (fun _ => .int .u64 c))) j = itX (l ++ [⟨v, c⟩]) j := fun j hj =>
  (Fx.app_flat j hj).trans (Fx.flat_cong (fun k hk q hq => by
    unfold Fx.updF
    by_cases e : k = l.length
    · subst e; rw [if_pos rfl, it_bld v c z q hq]; simp
    · rw [if_neg e]; simp [List.getElem?_append_left (show k < l.length by omega)]) j hj)
theorem Lss.app {w w' : World} {B a g cap : Nat} {m : LgM} {x : ItM} (h : Lss w B m) (ha : a < 6)
    (hO : Fx.Own w' B 106 15 (.slice (some ⟨g, 0, none⟩) ((m.L a).length + 1) cap) ((m.L a).length + 1) (itX (m.L a ++ [x]))) (hg : w.grownBy w' (lvV m a).ownBlock) (hgv : (lvV m a).ownBlock = some g ∨ g = w.heap.size) :
    Lss w' B { m with a := updA m.a a (some ⟨g, 0, none⟩), c := updA m.c a cap, L := updA m.L a (m.L a ++ [x]) } := by
  refine h.put ha (by simpa using hO) (fun i hi e => ?_) (fun q hq => by obtain rfl : g = q := Option.some.inj hq; exact hgv.imp id (fun e => by omega))
  refine World.ownsRow.kept (h.1 i hi) hg ?_
  by_cases hn : (lvV m i).ownBlock = none
  · exact .inl hn
  · right
    intro e3
    cases hq : (lvV m i).ownBlock with
    | none => exact hn hq
    | some q => rw [hq] at e3; exact h.2 i a hi ha e q hq e3.symm
def addG (m : LgM) (v : EvM) : Int := if mayE v = false then 1 else if lateE m.K v = true then 14 else if readyE m.K v = false then 13 else 0
def AddR (m m' : LgM) (v : EvM) : Prop := m'.K = upd m.K (regN v) v.seq ∧ m'.cnt = m.cnt + 1 ∧ m'.L = updA m.L (regN v) (m.L (regN v) ++ [⟨v, m.cnt⟩])
def SepS (w : World) (p : Nat) (m m' : LgM) : Prop := ∀ k, lgS p m' k → lgS p m k ∨ w.heap.size ≤ k
theorem SepS.add {w w3 : World} {p a g cap : Nat} {m m' : LgM} {l : List ItM} (ha : a < 6) (h1 : m'.a = updA m.a a (some ⟨g, 0, none⟩)) (h2 : m'.c = updA m.c a cap) (h3 : m'.L = updA m.L a l) (hgv : (lvV m a).ownBlock = some g ∨ g = w3.heap.size) (hs : w.heap.size ≤ w3.heap.size) : SepS w p m m' := fun k hk => by
  rcases hk with rfl | ⟨i, hi, e⟩
  · exact .inl (.inl rfl)
  · unfold lvV at e
    rw [h1, h2, h3] at e
    unfold updA at e
    by_cases c : i = a
    · subst c
      rw [if_pos rfl, if_pos rfl, if_pos rfl] at e
      obtain rfl : g = k := Option.some.inj e
      rcases hgv with h | h
      · exact .inl (.inr ⟨i, hi, h⟩)
      · exact .inr (by omega)
    · rw [if_neg c, if_neg c, if_neg c] at e
      exact .inl (.inr ⟨i, hi, e⟩)
theorem Lss.y {w : World} {B : Nat} {m : LgM} (h : Lss w B m) {m' : LgM} (e1 : m'.a = m.a) (e2 : m'.c = m.c) (e3 : m'.L = m.L) : Lss w B m' := by
  have e : ∀ i, lvV m' i = lvV m i := fun i => by unfold lvV; rw [e1, e2, e3]
  exact ⟨fun i hi => by rw [e, e3]; exact h.1 i hi, fun i j hi hj => by rw [e, e]; exact h.2 i j hi hj⟩
end Rt
open Rt
theorem o_get0 (i q : Int) (w : World) :
    Calls Try.prog 32 #[.pointer none, .int .i64 (i), .int .u64 (q)] w fun e w' => e = .returned (.tuple #[.agg (Fx.varr 14 (evY zeroE)), .bool false]) ∧ Below w.heap.size w w' := by
 refine Fx.enter Try.func32 rfl (n := 56) rfl (by rfl) ?_
 refine Fx.W.seq (Fx.W.list (Fx.L.new (m := 14) (y := fun zq => if zq < 1 then .int .i64 (0) else if zq < 8 then .int .u64 (0) else if zq < 9 then .int .u8 (0) else if zq < 10 then .int .u64 (0) else if zq < 12 then .int .i64 (0) else .int .u64 (0)) (by rfl) rfl (by kernel_rfl) rfl fun g1 w1 eg1 m1 s1 z1 => ?_))
 have b1 := s1.below (Below.refl w.heap.size w) (Below.refl w.heap.size w).size (Below.refl w.heap.size w).size
 have lg1 : w.heap.size ≤ g1 := by rw [eg1]; exact (Below.refl w.heap.size w).size
 have tg1 : g1 < w1.heap.size := m1.lt
 clear eg1
 refine Fx.L.v (.bool false) (Fx.x_assign rfl rfl) ?_
 refine Fx.L.nil (Fx.seqN (Fx.W.seq (Fx.W.seq (Fx.W.list (Fx.L.v (.pointer none) (Fx.x_move rfl rfl) ?_)))))
 refine Fx.L.v (.bool true) (Fx.x_eqNil' rfl rfl rfl (by kernel_rfl)) ?_
 refine Fx.L.v (.bool true) (Fx.x_move rfl rfl) ?_
 refine Fx.L.skip (by rfl) rfl ?_
 refine Fx.L.skip (by rfl) rfl ?_
 refine Fx.L.v (.bool true) (Fx.x_pickT rfl rfl rfl) ?_
 refine Fx.L.v (.bool true) (Fx.x_move rfl rfl) ?_
 refine Fx.L.skip (by rfl) rfl ?_
 refine Fx.L.skip (by rfl) rfl ?_
 refine Fx.L.v (.bool true) (Fx.x_pickT rfl rfl rfl) ?_
 refine Fx.L.v (.bool true) (Fx.x_move rfl rfl) ?_
 refine Fx.L.skip (by rfl) rfl ?_
 refine Fx.L.skip (by rfl) rfl ?_
 refine Fx.L.v (.bool true) (Fx.x_pickT rfl rfl rfl) ?_
 refine Fx.L.nil (Fx.seqN (Fx.W.cond (b := true) rfl (fun _ => Fx.W.seq (Fx.W.list (Fx.L.v (.agg (Fx.varr 14 (fun zq => if zq < 1 then .int .i64 (0) else if zq < 8 then .int .u64 (0) else if zq < 9 then .int .u8 (0) else if zq < 10 then .int .u64 (0) else if zq < 12 then .int .i64 (0) else .int .u64 (0)))) (Fx.x_build (vs := []) (places := #[(0, 1), (1, 1), (2, 6), (8, 1), (9, 1), (10, 1), (11, 1), (12, 1), (13, 1)]) (m := 14) (x := fun zq => if zq < 1 then .int .i64 (0) else if zq < 8 then .int .u64 (0) else if zq < 9 then .int .u8 (0) else if zq < 10 then .int .u64 (0) else if zq < 12 then .int .i64 (0) else .int .u64 (0)) rfl rfl Try.underlying50 (by kernel_rfl) (by kernel_rfl) (by rfl)) ?_))) (fun h => nomatch h)))
 refine Fx.L.storeA (x := fun zq => if zq < 1 then .int .i64 (0) else if zq < 8 then .int .u64 (0) else if zq < 9 then .int .u8 (0) else if zq < 10 then .int .u64 (0) else if zq < 12 then .int .i64 (0) else .int .u64 (0)) (y := fun zq => if zq < 1 then .int .i64 (0) else if zq < 8 then .int .u64 (0) else if zq < 9 then .int .u8 (0) else if zq < 10 then .int .u64 (0) else if zq < 12 then .int .i64 (0) else .int .u64 (0)) (by rfl) rfl rfl rfl rfl (fun jq _ => by show ((fun zq => if zq < 1 then .int .i64 (0) else if zq < 8 then .int .u64 (0) else if zq < 9 then .int .u8 (0) else if zq < 10 then .int .u64 (0) else if zq < 12 then .int .i64 (0) else .int .u64 (0) : Nat → Value) jq).oneCell' = true; simp only []; repeat (first | rfl | split)) (by kernel_rfl) m1 (i := 0) (by omega) fun w2 m2 s2 z2 => ?_
 have m3 : Fx.Blk w2 g1 14 (fun zq => if zq < 1 then .int .i64 (0) else if zq < 8 then .int .u64 (0) else if zq < 9 then .int .u8 (0) else if zq < 10 then .int .u64 (0) else if zq < 12 then .int .i64 (0) else .int .u64 (0)) 50 := Fx.ovr_all m2
 have b2 := s2.below b1 b1.size (by omega)
 refine Fx.L.v (.bool false) (Fx.x_assign rfl rfl) ?_
 refine Fx.L.nil (Fx.seqN (Fx.W.ret (Fx.seqR (⟨.tuple #[.agg (Fx.varr 14 (fun zq => if zq < 1 then .int .i64 (0) else if zq < 8 then .int .u64 (0) else if zq < 9 then .int .u8 (0) else if zq < 10 then .int .u64 (0) else if zq < 12 then .int .i64 (0) else .int .u64 (0))), .bool false], Fx.retV2 Try.results32 ⟨_, rfl, Fx.run_loadV m3.cel (by kernel_rfl) (by kernel_rfl)⟩ (by exact rfl), ?_⟩))))
 exact ⟨congrArg (fun z => Ending.returned (.tuple #[.agg z, .bool false])) (Fx.varr_congr fun j hj => by rcases j with _|_|_|_|_|_|_|_|_|_|_|_|_|_|j <;> first | rfl | omega), b2⟩
set_option maxRecDepth 10000 in
set_option maxHeartbeats 1000000 in
theorem o_add (v : EvM) (m : LgM) (B p T : Nat) (w : World) (h : LgO w B p m T) (hB : B ≤ w.heap.size) (hT : T ≤ 900000) (hv : EvWf v) :
    Calls Try.prog 19 #[.pointer (some ⟨p, 0, none⟩), .agg (Fx.varr 14 (evY v))] w fun e w' => e = .returned (.int .i64 (addG m v)) ∧ Fx.Chg (lgS p m) w w' ∧ (addG m v = 0 → ∃ m', LgO w' B p m' (T + 1) ∧ AddR m m' v ∧ SepS w p m m') ∧ (addG m v ≠ 0 → LgO w' B p m T) := by
 refine Fx.enter Try.func19 rfl (n := 64) rfl (by rfl) ?_
 have hbk := h.blk
 have tp := hbk.lt
 have hls := h.ls
 have hcn := h.cn
 have hgp := h.gp
 have hkr := h.kr
 have hrs := may_seq (v := v)
 refine Fx.W.seq (Fx.W.list (Fx.L.box (m := 14) (y := evY v) (by rfl) rfl rfl (Fx.cells_agg _ _) rfl fun g1 w1 eg1 m1 s1 z1 => ?_))
 have m2 := hbk.stp s1 (Nat.ne_of_lt (hbk.lt))
 have m3 := hls.up s1.old
 have b1 := (Fx.Chg.refl (lgS p m) w).then s1 (.inr (Fx.Chg.refl (lgS p m) w).size)
 have lg1 : w.heap.size ≤ g1 := by rw [eg1]; exact (Fx.Chg.refl (lgS p m) w).size
 have ng1m2 : p ≠ g1 := by rw [eg1]; exact Nat.ne_of_lt (hbk.lt)
 have tg1 : g1 < w1.heap.size := m1.lt
 clear eg1
 refine Fx.L.v (.int .i64 (0)) (Fx.x_assign rfl rfl) ?_
 refine Fx.L.nil (Fx.seqN (Fx.W.seq (Fx.W.block (Fx.W.seq (Fx.W.list (Fx.L.v (.pointer (some ⟨p, 0, none⟩)) (Fx.x_move rfl rfl) ?_))))))
 refine Fx.L.v (.bool false) (Fx.x_eqNil rfl rfl rfl (by kernel_rfl)) ?_
 refine Fx.L.v (.bool false) (Fx.x_assign rfl rfl) ?_
 refine Fx.L.nil (Fx.seqN (Fx.W.cond (b := false) rfl (fun h => nomatch h) (fun _ => Fx.W.seq (Fx.W.list (Fx.L.v (.agg (Fx.varr 14 (evY v))) (Fx.x_loadA (x := evY v) (y := evY v) rfl rfl (by kernel_rfl) (by kernel_rfl) m1.cel (i := 0) (by omega) (by omega) (fun j _ => by rw [Nat.zero_add])) ?_)))))
 by_cases c11 : (mayE v) = true
 ·obtain ⟨a, ha, ea⟩ := regE_nat (may_reg c11)
  refine Fx.L.call (by rfl) (Fx.r_call (args := [.agg (Fx.varr 14 (evY v))]) rfl rfl Try.func42 rfl rfl) rfl ((v_may v _ hv).mono ?_)
  rintro e w2 ⟨he, hb1⟩
  refine ⟨.bool true, by rw [he, c11], ?_⟩
  clear he
  have s2 := Fx.Stp.of_below hb1
  have m4 := m2.stp s2 (Nat.ne_of_lt (m2.lt))
  have m5 := m3.up s2.old
  have m6 := m1.stp s2 (Nat.ne_of_lt (m1.lt))
  have b2 := b1.then s2 (.inr b1.size)
  refine Fx.L.v (.bool false) (Fx.x_notF rfl rfl) ?_
  refine Fx.L.v (.bool false) (Fx.x_assign rfl rfl) ?_
  refine Fx.L.nil (Fx.seqN (Fx.W.cond (b := false) rfl (fun h => nomatch h) (fun _ => Fx.W.seq ?_)))
  -- region 5 draws
  refine Fx.W.quiet (fun v1 => Below w2.heap.size w2 v1) (by kernel_rfl) (by kernel_rfl) (Below.refl _ _).drew ?_
  refine Fx.Qt.v (.pointer (some ⟨p, 0, none⟩)) (fun v1 hv1 => Fx.x_move rfl rfl) ?_
  refine Fx.Qt.v (.pointer (some ⟨p, 0, none⟩)) (fun v1 hv1 => Fx.x_nil rfl rfl) ?_
  refine Fx.Qt.v (.pointer (some ⟨p, 6, none⟩)) (fun v1 hv1 => Fx.x_field rfl rfl Try.underlying100 rfl (s := 6) (by kernel_rfl) rfl (by show _ + 6 = _; omega)) ?_
  refine Fx.Qt.v (.agg (Fx.varr 6 (Fx.rv .u64 m.K))) (fun v1 hv1 => Fx.x_loadA (x := lgY m) (y := Fx.rv .u64 m.K) rfl rfl (by kernel_rfl) (by kernel_rfl) (m4.cel.below hv1 (by have := m4.lt; omega)) (i := 6) (by omega) (by omega) (fun j hj => lgY_K m (by omega) hj)) ?_
  refine Fx.Qt.v (.agg (Fx.varr 14 (evY v))) (fun v1 hv1 => Fx.x_loadA (x := evY v) (y := evY v) rfl rfl (by kernel_rfl) (by kernel_rfl) (m6.cel.below hv1 (by have := m6.lt; omega)) (i := 0) (by omega) (by omega) (fun j _ => by rw [Nat.zero_add])) ?_
  by_cases c19 : (lateE m.K v) = true
  ·refine Fx.Qt.call (v := .bool true) (by rfl) (fun v1 hv1 => Fx.r_call (args := [.agg (Fx.varr 6 (Fx.rv .u64 m.K)), .agg (Fx.varr 14 (evY v))]) rfl rfl Try.func43 rfl rfl) rfl (fun v1 hv1 => (v_late m.K v _ hv).mono fun e v2 h => ⟨by rw [h.1, c19], bch hv1 h.2⟩) ?_
   refine Fx.Qt.v (.bool true) (fun v1 hv1 => Fx.x_assign rfl rfl) ?_
   refine Fx.Qt.nil ?_
   intro wb1 hbwb1
   have s3 : Fx.Stp w2.heap.size w2 wb1 := Fx.Stp.of_below hbwb1
   have m7 := m4.stp s3 (Nat.ne_of_lt (m4.lt))
   have m8 := m5.up s3.old
   have m9 := m6.stp s3 (Nat.ne_of_lt (m6.lt))
   have b3 := b2.then s3 (.inr b2.size)
   refine Fx.seqN (Fx.W.cond (b := true) rfl (fun _ => Fx.W.seq (Fx.W.list (Fx.L.v (.int .i64 (14)) (Fx.x_assign rfl rfl) ?_))) (fun h => nomatch h))
   refine Fx.L.nil (Fx.seqN (Fx.W.ret (Fx.blkR (Fx.seqR (⟨.int .i64 (14), Fx.retV1 Try.results19 (by exact rfl), ?_⟩)))))
   have ee : addG m v = 14 := by unfold addG; rw [if_neg (show ¬ mayE v = false by rw [c11]; decide), if_pos c19]
   exact ⟨by rw [ee], b3, fun h0 => (by rw [ee] at h0; cases h0), fun _ => ⟨m7, m8, hgp, h.len, h.cn, h.kr, h.wf⟩⟩
  ·rw [Bool.not_eq_true] at c19
   refine Fx.Qt.call (v := .bool false) (by rfl) (fun v1 hv1 => Fx.r_call (args := [.agg (Fx.varr 6 (Fx.rv .u64 m.K)), .agg (Fx.varr 14 (evY v))]) rfl rfl Try.func43 rfl rfl) rfl (fun v1 hv1 => (v_late m.K v _ hv).mono fun e v2 h => ⟨by rw [h.1, c19], bch hv1 h.2⟩) ?_
   refine Fx.Qt.v (.bool false) (fun v1 hv1 => Fx.x_assign rfl rfl) ?_
   refine Fx.Qt.nil ?_
   intro wb2 hbwb2
   have s4 : Fx.Stp w2.heap.size w2 wb2 := Fx.Stp.of_below hbwb2
   have m10 := m4.stp s4 (Nat.ne_of_lt (m4.lt))
   have m11 := m5.up s4.old
   have m12 := m6.stp s4 (Nat.ne_of_lt (m6.lt))
   have b4 := b2.then s4 (.inr b2.size)
   refine Fx.seqN (Fx.W.cond (b := false) rfl (fun h => nomatch h) (fun _ => Fx.W.seq ?_))
   -- region 7 draws
   refine Fx.W.quiet (fun v1 => Below wb2.heap.size wb2 v1) (by kernel_rfl) (by kernel_rfl) (Below.refl _ _).drew ?_
   refine Fx.Qt.v (.pointer (some ⟨p, 0, none⟩)) (fun v1 hv1 => Fx.x_move rfl rfl) ?_
   refine Fx.Qt.v (.pointer (some ⟨p, 0, none⟩)) (fun v1 hv1 => Fx.x_nil rfl rfl) ?_
   refine Fx.Qt.v (.pointer (some ⟨p, 6, none⟩)) (fun v1 hv1 => Fx.x_field rfl rfl Try.underlying100 rfl (s := 6) (by kernel_rfl) rfl (by show _ + 6 = _; omega)) ?_
   refine Fx.Qt.v (.agg (Fx.varr 6 (Fx.rv .u64 m.K))) (fun v1 hv1 => Fx.x_loadA (x := lgY m) (y := Fx.rv .u64 m.K) rfl rfl (by kernel_rfl) (by kernel_rfl) (m10.cel.below hv1 (by have := m10.lt; omega)) (i := 6) (by omega) (by omega) (fun j hj => lgY_K m (by omega) hj)) ?_
   refine Fx.Qt.v (.agg (Fx.varr 14 (evY v))) (fun v1 hv1 => Fx.x_loadA (x := evY v) (y := evY v) rfl rfl (by kernel_rfl) (by kernel_rfl) (m12.cel.below hv1 (by have := m12.lt; omega)) (i := 0) (by omega) (by omega) (fun j _ => by rw [Nat.zero_add])) ?_
   by_cases c26 : (readyE m.K v) = true
   ·refine Fx.Qt.call (v := .bool true) (by rfl) (fun v1 hv1 => Fx.r_call (args := [.agg (Fx.varr 6 (Fx.rv .u64 m.K)), .agg (Fx.varr 14 (evY v))]) rfl rfl Try.func44 rfl rfl) rfl (fun v1 hv1 => (v_ready m.K v _ hv hkr).mono fun e v2 h => ⟨by rw [h.1, c26], bch hv1 h.2⟩) ?_
    refine Fx.Qt.v (.bool false) (fun v1 hv1 => Fx.x_notF rfl rfl) ?_
    refine Fx.Qt.v (.bool false) (fun v1 hv1 => Fx.x_assign rfl rfl) ?_
    refine Fx.Qt.nil ?_
    intro wb3 hbwb3
    have s5 : Fx.Stp wb2.heap.size wb2 wb3 := Fx.Stp.of_below hbwb3
    have m13 := m10.stp s5 (Nat.ne_of_lt (m10.lt))
    have m14 := m11.up s5.old
    have m15 := m12.stp s5 (Nat.ne_of_lt (m12.lt))
    have b5 := b4.then s5 (.inr b4.size)
    refine Fx.seqN (Fx.W.cond (b := false) rfl (fun h => nomatch h) (fun _ => Fx.W.skip (Fx.blkN (Fx.seqN (Fx.W.seq (Fx.W.list (Fx.L.v (.pointer (some ⟨g1, 0, none⟩)) (Fx.x_field rfl rfl Try.underlying50 rfl (s := 1) (by kernel_rfl) rfl rfl) ?_)))))))
    refine Fx.L.v (.int .i64 (v.o)) (Fx.x_load1 (x := evY v) rfl rfl (by kernel_rfl) m15.cel (i := 0) (by omega) (by omega) rfl) ?_
    refine Fx.L.v (.int .i64 ((a : Int))) (Fx.x_sub rfl rfl rfl (Fx.i64e (by omega) (by omega))) ?_
    refine Fx.L.v (.int .i64 ((a : Int))) (Fx.x_assign rfl rfl) ?_
    refine Fx.L.nil (Fx.seqN (Fx.W.seq ?_))
    have hsq := hrs c11
    have hln := h.len a ha
    have m16 : Fx.Own wb3 B 106 15 (.slice (m.a a) ((m.L a).length) ((m.c a))) ((m.L a).length) (itX (m.L a)) := m14.1 a ha
    -- region 10 draws
    refine Fx.W.reord [0, 1, 2, 3, 4, 5, 6, 9, 10, 11, 16, 17, 7, 8, 12, 13, 14, 15, 18, 19] [0, 0, 0, 0, 0, 0, 0, 1, 4, 0, 0, 0, 4, 0, 2, 2, 0, 0, 0, 3] (Fx.ChT [106]) Fx.ChT.refl Fx.ChT.trans (certs := [(19, 7, [7]), (14, 8, [13, 8]), (15, 8, [14, 13, 8]), (19, 8, [8]), (14, 12, [13, 12]), (15, 12, [14, 13, 12]), (19, 12, [12]), (15, 14, [14]), (18, 14, [14]), (19, 14, [14]), (18, 15, [15]), (19, 15, [15])]) (by kernel_rfl) (by kernel_rfl) (by kernel_rfl) (by kernel_rfl) (by kernel_rfl) fun wt1 hbwt1 hzwt1 => ?_
    have s6 : Fx.Stp wb3.heap.size wb3 wt1 := Fx.Stp.of_below hbwt1
    have m17 := m13.stp s6 (Nat.ne_of_lt (m13.lt))
    have m18 := m14.up s6.old
    have m19 := m15.stp s6 (Nat.ne_of_lt (m15.lt))
    have m20 := m16.stp s6 (m16.notNew (Nat.le_refl _))
    have b6 := b5.then s6 (.inr b5.size)
    refine Fx.R.p (.pointer (some ⟨p, 0, none⟩)) (fun v1 => Fx.x_move rfl rfl) ?_
    refine Fx.R.p (.int .i64 ((a : Int))) (fun v1 => Fx.x_move rfl rfl) ?_
    refine Fx.R.p (.pointer (some ⟨p, 0, none⟩)) (fun v1 => Fx.x_move rfl rfl) ?_
    refine Fx.R.p (.int .i64 ((a : Int))) (fun v1 => Fx.x_move rfl rfl) ?_
    refine Fx.R.p (.pointer (some ⟨p, 0, none⟩)) (fun v1 => Fx.x_nil rfl rfl) ?_
    refine Fx.R.p (.pointer (some ⟨p, 0, none⟩)) (fun v1 => Fx.x_field rfl rfl Try.underlying100 rfl (s := 6) (by kernel_rfl) rfl rfl) ?_
    refine Fx.R.p (.pointer (some ⟨p, a, none⟩)) (fun v1 => Fx.x_index rfl rfl rfl Try.underlying98 (s := 1) (by kernel_rfl) (by omega) (by omega) (by omega)) ?_
    refine Fx.R.p (.pointer (some ⟨p, 0, none⟩)) (fun v1 => Fx.x_move rfl rfl) ?_
    refine Fx.R.p (.pointer (some ⟨p, 0, none⟩)) (fun v1 => Fx.x_nil rfl rfl) ?_
    refine Fx.R.p (.pointer (some ⟨p, 12, none⟩)) (fun v1 => Fx.x_field rfl rfl Try.underlying100 rfl (s := 1) (by kernel_rfl) rfl (by show _ + 12 = _; omega)) ?_
    refine Fx.R.p (.pointer (some ⟨p, 0, none⟩)) (fun v1 => Fx.x_nil rfl rfl) ?_
    refine Fx.R.p (.pointer (some ⟨p, 0, none⟩)) (fun v1 => Fx.x_field rfl rfl Try.underlying100 rfl (s := 6) (by kernel_rfl) rfl rfl) ?_
    refine Fx.R.read (v := .slice (m.a a) ((m.L a).length) ((m.c a))) (by rfl) (by rfl) (Fx.ChT.refl _) (fun v1 hv1 => Fx.x_load1 (x := lgY m) rfl rfl (by kernel_rfl) (m17.chT hv1 (by decide)).cel (i := a) (by omega) (by omega) (lgY_v m (by omega))) ?_
    refine Fx.R.s (.agg (Fx.varr 14 (evY v))) (Fx.x_loadA (x := evY v) (y := evY v) rfl rfl (by kernel_rfl) (by kernel_rfl) m19.cel (i := 0) (by omega) (by omega) (fun j _ => by rw [Nat.zero_add])) ?_
    refine Fx.R.s (.int .u64 (m.cnt)) (Fx.x_load1 (x := lgY m) rfl rfl (by kernel_rfl) m17.cel (i := 12) (by omega) (by omega) rfl) ?_
    refine Fx.R.p (.agg (Fx.varr 15 (Fx.ovr (Fx.ovr (fun zq => if zq < 1 then .int .i64 (0) else if zq < 8 then .int .u64 (0) else if zq < 9 then .int .u8 (0) else if zq < 10 then .int .u64 (0) else if zq < 12 then .int .i64 (0) else .int .u64 (0)) 0 14 (evY v)) 14 1 (fun _ => .int .u64 (m.cnt))))) (fun v1 => Fx.x_build (vs := [(0, .agg (Fx.varr 14 (evY v))), (1, .int .u64 (m.cnt))]) (places := #[(0, 14), (14, 1)]) (m := 15) (x := fun zq => if zq < 1 then .int .i64 (0) else if zq < 8 then .int .u64 (0) else if zq < 9 then .int .u8 (0) else if zq < 10 then .int .u64 (0) else if zq < 12 then .int .i64 (0) else .int .u64 (0)) rfl rfl Try.underlying106 (by kernel_rfl) (by kernel_rfl) (by rw [Fx.fill_step (off := 0) (s := 14) (y := evY v) (by kernel_rfl) (Fx.cells_agg _ _) (by rfl)]; rw [Fx.fill_step (off := 14) (s := 1) (y := fun _ => .int .u64 (m.cnt)) (by kernel_rfl) (Fx.cells_one (by rfl)) (by rfl)]; rfl)) ?_
    refine Fx.R.make (by rfl) ?_
    refine Fx.L.bslice (vs := [(0, .agg (Fx.varr 15 (Fx.ovr (Fx.ovr (fun zq => if zq < 1 then .int .i64 (0) else if zq < 8 then .int .u64 (0) else if zq < 9 then .int .u8 (0) else if zq < 10 then .int .u64 (0) else if zq < 12 then .int .i64 (0) else .int .u64 (0)) 0 14 (evY v)) 14 1 (fun _ => .int .u64 (m.cnt)))))]) (s := 15) (zc := fun zq => if zq < 1 then .int .i64 (0) else if zq < 8 then .int .u64 (0) else if zq < 9 then .int .u8 (0) else if zq < 10 then .int .u64 (0) else if zq < 12 then .int .i64 (0) else .int .u64 (0)) (y := Fx.ovr (fun j => (fun zq => if zq < 1 then .int .i64 (0) else if zq < 8 then .int .u64 (0) else if zq < 9 then .int .u8 (0) else if zq < 10 then .int .u64 (0) else if zq < 12 then .int .i64 (0) else .int .u64 (0)) (j % 15)) (0 * 15) 15 (Fx.ovr (Fx.ovr (fun zq => if zq < 1 then .int .i64 (0) else if zq < 8 then .int .u64 (0) else if zq < 9 then .int .u8 (0) else if zq < 10 then .int .u64 (0) else if zq < 12 then .int .i64 (0) else .int .u64 (0)) 0 14 (evY v)) 14 1 (fun _ => .int .u64 (m.cnt)))) (by rfl) rfl rfl Try.underlying97 (by kernel_rfl) (by rfl) (by rfl) (by kernel_rfl) (by rw [Fx.fill_step (off := 0 * 15) (s := 15) (y := Fx.ovr (Fx.ovr (fun zq => if zq < 1 then .int .i64 (0) else if zq < 8 then .int .u64 (0) else if zq < 9 then .int .u8 (0) else if zq < 10 then .int .u64 (0) else if zq < 12 then .int .i64 (0) else .int .u64 (0)) 0 14 (evY v)) 14 1 (fun _ => .int .u64 (m.cnt))) rfl (Fx.cells_agg _ _) (by rfl)]; rfl) rfl fun g2 w3 eg2 m21 s7 z2 => ?_
    have m22 := m17.stp s7 (Nat.ne_of_lt (m17.lt))
    have m23 := m18.up s7.old
    have m24 := m19.stp s7 (Nat.ne_of_lt (m19.lt))
    have m25 := m20.stp s7 (m20.notNew (Nat.le_refl _))
    have b7 := b6.then s7 (.inr b6.size)
    have lg2 : w.heap.size ≤ g2 := by rw [eg2]; exact b6.size
    have ng2m22 : p ≠ g2 := by rw [eg2]; exact Nat.ne_of_lt (m17.lt)
    have ng2m24 : g1 ≠ g2 := by rw [eg2]; exact Nat.ne_of_lt (m19.lt)
    have ng2m25 : (.slice (m.a a) ((m.L a).length) ((m.c a)) : Value).ownBlock ≠ some g2 := by rw [eg2]; exact m20.notNew (Nat.le_refl _)
    have tg2 : g2 < w3.heap.size := m21.lt
    clear eg2
    refine Fx.L.nil ⟨Fx.ChT.of_below s7.old, ?_⟩
    refine Fx.R.make (by rfl) ?_
    refine Fx.L.app (B := B) (s := 15) (bytes := 120) (k := ((m.L a).length)) (m := 1) (v := .slice (m.a a) ((m.L a).length) ((m.c a))) (x := itX (m.L a)) (by rfl) rfl rfl rfl Try.underlying97 (by kernel_rfl) (by kernel_rfl) rfl rfl m25 m21.cel (it_bone _ _ _ _) (by omega) (by omega) (by omega) (Nat.le_trans hB b7.size) fun g3 cap1 w4 ho1 hg1 hgv1 hlt1 => ?_
    have hct1 := Fx.ChT.of_grown hg1 m25
    have m27 := m22.chT hct1 (by decide)
    have m28 := m24.chT hct1 (by decide)
    have m26 : Fx.Own w4 B 106 15 (.slice (some ⟨g3, 0, none⟩) (((m.L a).length) + 1) cap1) (((m.L a).length) + 1) (itX (m.L a ++ [⟨v, m.cnt⟩])) := (ho1.congr (fun j hj => it_app j hj))
    have b8 : Fx.Chg (lgS p m) w w4 := Fx.Chg.grow b7 hg1 (fun q hq => .inl (.inr ⟨a, ha, hq⟩))
    have m29 : Lss w4 B { m with a := updA m.a a (some ⟨g3, 0, none⟩), c := updA m.c a cap1, L := updA m.L a (m.L a ++ [⟨v, m.cnt⟩]) } := Lss.app m23 ha m26 hg1 hgv1
    refine Fx.L.nil ⟨hct1, ?_⟩
    refine Fx.R.p (.pointer (some ⟨p, a, none⟩)) (fun v1 => Fx.x_index rfl rfl rfl Try.underlying98 (s := 1) (by kernel_rfl) (by omega) (by omega) (by omega)) ?_
    refine Fx.R.eff (by rfl) ?_
    refine Fx.L.store1 (x := lgY m) (u := .slice (some ⟨g3, 0, none⟩) (((m.L a).length) + 1) (cap1)) (by rfl) rfl rfl rfl rfl (by rfl) (by kernel_rfl) m27 (i := a) (by omega) fun w5 m30 s8 z3 => ?_
    have m31 : Fx.Blk w5 p 13 (lgY { m with a := updA m.a a (some ⟨g3, 0, none⟩), c := updA m.c a cap1, L := updA m.L a (m.L a ++ [⟨v, m.cnt⟩]) }) 100 := m30.to (lgY_put m ha _ _ _ _ (by simp))
    have hct2 := Fx.ChT.of_stp s8 m27.ty
    have m32 := m28.chT hct2 (by decide)
    have m33 := m29.chT hct2 (by decide)
    have b9 := b8.then s8 (.inl (.inl rfl))
    refine Fx.L.nil (Fx.R.nil (Fx.seqN (Fx.W.seq ?_)))
    -- region 11 draws
    refine Fx.W.tail 7 (by kernel_rfl) (by kernel_rfl) fun wt2 hbwt2 hzwt2 => ?_
    have s9 : Fx.Stp w5.heap.size w5 wt2 := Fx.Stp.of_below hbwt2
    have m34 := m32.stp s9 (Nat.ne_of_lt (m32.lt))
    have m35 := m33.up s9.old
    have m36 := m31.stp s9 (Nat.ne_of_lt (m31.lt))
    have b10 := b9.then s9 (.inr b9.size)
    refine Fx.St.v (.pointer (some ⟨p, 0, none⟩)) (Fx.x_move rfl rfl) ?_
    refine Fx.St.v (.int .i64 ((a : Int))) (Fx.x_move rfl rfl) ?_
    refine Fx.St.v (.pointer (some ⟨g1, 1, none⟩)) (Fx.x_field rfl rfl Try.underlying50 rfl (s := 1) (by kernel_rfl) rfl (by show _ + 1 = _; omega)) ?_
    refine Fx.St.v (.int .u64 (v.seq)) (Fx.x_load1 (x := evY v) rfl rfl (by kernel_rfl) m34.cel (i := 1) (by omega) (by omega) rfl) ?_
    refine Fx.St.v (.pointer (some ⟨p, 0, none⟩)) (Fx.x_nil rfl rfl) ?_
    refine Fx.St.v (.pointer (some ⟨p, 6, none⟩)) (Fx.x_field rfl rfl Try.underlying100 rfl (s := 6) (by kernel_rfl) rfl (by show _ + 6 = _; omega)) ?_
    refine Fx.St.v (.pointer (some ⟨p, a + 6, none⟩)) (Fx.x_index rfl rfl rfl Try.underlying32 (s := 1) (by kernel_rfl) (by omega) (by omega) (by omega)) ?_
    refine Fx.St.nil ?_
    refine Fx.L.store1 (x := lgY { m with a := updA m.a a (some ⟨g3, 0, none⟩), c := updA m.c a cap1, L := updA m.L a (m.L a ++ [⟨v, m.cnt⟩]) }) (u := .int .u64 (v.seq)) (by rfl) rfl rfl rfl rfl (by rfl) (by kernel_rfl) m36 (i := a + 6) (by omega) fun w6 m37 s10 z4 => ?_
    have m38 : Fx.Blk w6 p 13 (lgY { m with a := updA m.a a (some ⟨g3, 0, none⟩), c := updA m.c a cap1, L := updA m.L a (m.L a ++ [⟨v, m.cnt⟩]), K := upd m.K a v.seq }) 100 := m37.to (lgY_known _ (by omega) ha _)
    have hct3 := Fx.ChT.of_stp s10 m36.ty
    have m39 := m34.chT hct3 (by decide)
    have m40 := m35.chT hct3 (by decide)
    have b11 := b10.then s10 (.inl (.inl rfl))
    refine Fx.L.nil (Fx.seqN (Fx.W.seq (Fx.W.list (Fx.L.v (.pointer (some ⟨p, 0, none⟩)) (Fx.x_move rfl rfl) ?_))))
    refine Fx.L.v (.pointer (some ⟨p, 0, none⟩)) (Fx.x_nil rfl rfl) ?_
    refine Fx.L.v (.pointer (some ⟨p, 12, none⟩)) (Fx.x_field rfl rfl Try.underlying100 rfl (s := 1) (by kernel_rfl) rfl (by show _ + 12 = _; omega)) ?_
    refine Fx.L.v (.int .u64 (m.cnt)) (Fx.x_load1 (x := lgY { m with a := updA m.a a (some ⟨g3, 0, none⟩), c := updA m.c a cap1, L := updA m.L a (m.L a ++ [⟨v, m.cnt⟩]), K := upd m.K a v.seq }) rfl rfl (by kernel_rfl) m38.cel (i := 12) (by omega) (by omega) rfl) ?_
    refine Fx.L.v (.int .u64 (m.cnt + 1)) (Fx.x_add rfl rfl rfl (Fx.u64e (by omega) (by omega))) ?_
    refine Fx.L.v (.pointer (some ⟨p, 0, none⟩)) (Fx.x_nil rfl rfl) ?_
    refine Fx.L.v (.pointer (some ⟨p, 12, none⟩)) (Fx.x_field rfl rfl Try.underlying100 rfl (s := 1) (by kernel_rfl) rfl (by show _ + 12 = _; omega)) ?_
    refine Fx.L.store1 (x := lgY { m with a := updA m.a a (some ⟨g3, 0, none⟩), c := updA m.c a cap1, L := updA m.L a (m.L a ++ [⟨v, m.cnt⟩]), K := upd m.K a v.seq }) (u := .int .u64 (m.cnt + 1)) (by rfl) rfl rfl rfl rfl (by rfl) (by kernel_rfl) m38 (i := 12) (by omega) fun w7 m41 s11 z5 => ?_
    have m42 : Fx.Blk w7 p 13 (lgY { m with a := updA m.a a (some ⟨g3, 0, none⟩), c := updA m.c a cap1, L := updA m.L a (m.L a ++ [⟨v, m.cnt⟩]), K := upd m.K a v.seq, cnt := m.cnt + 1 }) 100 := m41.congr (lgY_cnt _ _)
    have hct4 := Fx.ChT.of_stp s11 m38.ty
    have m43 := m39.chT hct4 (by decide)
    have m44 := m40.chT hct4 (by decide)
    have b12 := b11.then s11 (.inl (.inl rfl))
    refine Fx.L.nil (Fx.seqN (Fx.W.seq (Fx.W.list (Fx.L.v (.int .i64 (0)) (Fx.x_assign rfl rfl) ?_))))
    refine Fx.L.nil (Fx.seqN (Fx.W.ret (⟨.int .i64 (0), Fx.retV1 Try.results19 (by exact rfl), ?_⟩)))
    have ee : addG m v = 0 := by unfold addG; rw [if_neg (show ¬ mayE v = false by rw [c11]; decide), if_neg (show ¬ lateE m.K v = true by rw [c19]; decide), if_neg (show ¬ readyE m.K v = false by rw [c26]; decide)]
    have eN : regN v = a := by unfold regN; omega
    refine ⟨by rw [ee], b12, fun _ => ⟨_, ⟨m42, m44.y rfl rfl rfl, hgp, fun i hi => ?_, ⟨by show 0 ≤ m.cnt + 1; omega, by show m.cnt + 1 ≤ ((T + 1 : Nat) : Int); omega⟩, fun i hi => ?_, fun i hi x hx => ?_⟩, by unfold AddR; rw [eN]; exact ⟨rfl, rfl, rfl⟩, SepS.add ha rfl rfl rfl hgv1 b7.size⟩, fun hn => absurd ee hn⟩
    ·show (updA m.L a (m.L a ++ [⟨v, m.cnt⟩]) i).length ≤ T + 1
     have := h.len i hi; unfold updA; split
     ·simp; omega
     ·omega
    ·show U64r (upd m.K a v.seq i)
     unfold upd; split
     ·exact hv.seq
     ·exact h.kr i hi
    ·have hx : x ∈ updA m.L a (m.L a ++ [⟨v, m.cnt⟩]) i := hx
     unfold updA at hx; split at hx
     ·rcases List.mem_append.1 hx with h1 | h1
      ·exact h.wf a ha x h1
      ·rw [List.mem_singleton.1 h1]; exact hv
     ·exact h.wf i hi x hx
   ·rw [Bool.not_eq_true] at c26
    refine Fx.Qt.call (v := .bool false) (by rfl) (fun v1 hv1 => Fx.r_call (args := [.agg (Fx.varr 6 (Fx.rv .u64 m.K)), .agg (Fx.varr 14 (evY v))]) rfl rfl Try.func44 rfl rfl) rfl (fun v1 hv1 => (v_ready m.K v _ hv hkr).mono fun e v2 h => ⟨by rw [h.1, c26], bch hv1 h.2⟩) ?_
    refine Fx.Qt.v (.bool true) (fun v1 hv1 => Fx.x_notT rfl rfl) ?_
    refine Fx.Qt.v (.bool true) (fun v1 hv1 => Fx.x_assign rfl rfl) ?_
    refine Fx.Qt.nil ?_
    intro wb4 hbwb4
    have s12 : Fx.Stp wb2.heap.size wb2 wb4 := Fx.Stp.of_below hbwb4
    have m45 := m10.stp s12 (Nat.ne_of_lt (m10.lt))
    have m46 := m11.up s12.old
    have m47 := m12.stp s12 (Nat.ne_of_lt (m12.lt))
    have b13 := b4.then s12 (.inr b4.size)
    refine Fx.seqN (Fx.W.cond (b := true) rfl (fun _ => Fx.W.seq (Fx.W.list (Fx.L.v (.int .i64 (13)) (Fx.x_assign rfl rfl) ?_))) (fun h => nomatch h))
    refine Fx.L.nil (Fx.seqN (Fx.W.ret (Fx.blkR (Fx.seqR (⟨.int .i64 (13), Fx.retV1 Try.results19 (by exact rfl), ?_⟩)))))
    have ee : addG m v = 13 := by unfold addG; rw [if_neg (show ¬ mayE v = false by rw [c11]; decide), if_neg (show ¬ lateE m.K v = true by rw [c19]; decide), if_pos c26]
    exact ⟨by rw [ee], b13, fun h0 => (by rw [ee] at h0; cases h0), fun _ => ⟨m45, m46, hgp, h.len, h.cn, h.kr, h.wf⟩⟩
 ·rw [Bool.not_eq_true] at c11
  refine Fx.L.call (by rfl) (Fx.r_call (args := [.agg (Fx.varr 14 (evY v))]) rfl rfl Try.func42 rfl rfl) rfl ((v_may v _ hv).mono ?_)
  rintro e w8 ⟨he, hb2⟩
  refine ⟨.bool false, by rw [he, c11], ?_⟩
  clear he
  have s13 := Fx.Stp.of_below hb2
  have m48 := m2.stp s13 (Nat.ne_of_lt (m2.lt))
  have m49 := m3.up s13.old
  have m50 := m1.stp s13 (Nat.ne_of_lt (m1.lt))
  have b14 := b1.then s13 (.inr b1.size)
  refine Fx.L.v (.bool true) (Fx.x_notT rfl rfl) ?_
  refine Fx.L.v (.bool true) (Fx.x_assign rfl rfl) ?_
  refine Fx.L.nil (Fx.seqN (Fx.W.cond (b := true) rfl (fun _ => Fx.W.seq (Fx.W.list (Fx.L.v (.int .i64 (1)) (Fx.x_assign rfl rfl) ?_))) (fun h => nomatch h)))
  refine Fx.L.nil (Fx.seqN (Fx.W.ret (Fx.blkR (Fx.seqR (⟨.int .i64 (1), Fx.retV1 Try.results19 (by exact rfl), ?_⟩)))))
  have ee : addG m v = 1 := by unfold addG; rw [if_pos c11]
  exact ⟨by rw [ee], b14, fun h0 => (by rw [ee] at h0; cases h0), fun _ => ⟨m48, m49, hgp, h.len, h.cn, h.kr, h.wf⟩⟩
theorem o_add0 (v : EvM) (w : World) :
    Calls Try.prog 19 #[.pointer none, .agg (Fx.varr 14 (evY v))] w fun e w' => e = .returned (.int .i64 2) ∧ Below w.heap.size w w' := by
 refine Fx.enter Try.func19 rfl (n := 64) rfl (by rfl) ?_
 refine Fx.W.seq (Fx.W.list (Fx.L.box (m := 14) (y := evY v) (by rfl) rfl rfl (Fx.cells_agg _ _) rfl fun g1 w1 eg1 m1 s1 z1 => ?_))
 have b1 := s1.below (Below.refl w.heap.size w) (Below.refl w.heap.size w).size (Below.refl w.heap.size w).size
 have lg1 : w.heap.size ≤ g1 := by rw [eg1]; exact (Below.refl w.heap.size w).size
 have tg1 : g1 < w1.heap.size := m1.lt
 clear eg1
 refine Fx.L.v (.int .i64 (0)) (Fx.x_assign rfl rfl) ?_
 refine Fx.L.nil (Fx.seqN (Fx.W.seq (Fx.W.block (Fx.W.seq (Fx.W.list (Fx.L.v (.pointer none) (Fx.x_move rfl rfl) ?_))))))
 refine Fx.L.v (.bool true) (Fx.x_eqNil' rfl rfl rfl (by kernel_rfl)) ?_
 refine Fx.L.v (.bool true) (Fx.x_assign rfl rfl) ?_
 refine Fx.L.nil (Fx.seqN (Fx.W.cond (b := true) rfl (fun _ => Fx.W.seq (Fx.W.list (Fx.L.v (.int .i64 (2)) (Fx.x_assign rfl rfl) ?_))) (fun h => nomatch h)))
 refine Fx.L.nil (Fx.seqN (Fx.W.ret (Fx.blkR (Fx.seqR (⟨.int .i64 (2), Fx.retV1 Try.results19 (by exact rfl), ?_⟩)))))
 exact ⟨rfl, b1⟩
end Go.Proofs.Ytleajegppehbdaa
namespace Go.Proofs.Ytleajegppehbdaa.Fx
open Go.RowKit Go.Shelf Go.Sort Go.Lib
def cmp3 (a b : Int) : Int := if a < b then -1 else if b < a then 1 else 0
theorem cmp3_lt (a b : Int) : cmp3 a b < 0 ↔ a < b := by
  unfold cmp3
  split
  · simp_all
  · split <;> simp_all
theorem swo_key {α : Type} (ky : α → Int) : SWO (ltOf fun x y => cmp3 (ky x) (ky y)) := by
  have e : ∀ x y, (ltOf fun x y => cmp3 (ky x) (ky y)) x y = decide (ky x < ky y) := fun x y => by
    unfold ltOf
    exact decide_eq_decide.2 (cmp3_lt _ _)
  refine ⟨fun x => ?_, fun x y z h1 h2 => ?_, fun x y z h1 h2 => ?_⟩ <;> simp only [e, decide_eq_true_eq, decide_eq_false_iff_not] at * <;> omega
end Go.Proofs.Ytleajegppehbdaa.Fx
namespace Go.Proofs.Ytleajegppehbdaa.Fx
open Go.RowKit Go.Shelf Go.Sort Go.Lib
theorem ownK_sorted {w : World} {B g cap m N s : Nat} {E : TypeId} (d' : Array Value) (os : Array Obj) {x : Nat → Value} (h : Own w B E s (.slice (some ⟨g, 0, none⟩) m cap) m x) (hd : d'.size = m * s) :
    Own (sortWorld id w g 0 N d' os) B E s (.slice (some ⟨g, 0, none⟩) m cap) m (fun q => d'[q]!) ∧ Stp g w (sortWorld id w g 0 N d' os) := by
  rcases h.2 with ⟨h1, _⟩ | ⟨g', cap', cur, h1, hB, hg, hn, hm, hs, ht⟩
  · cases h1
  simp only [Value.slice.injEq, Option.some.injEq, Addr.mk.injEq] at h1
  obtain ⟨⟨rfl, _⟩, _, rfl⟩ := h1
  have hl : g < w.heap.size := (Array.getElem?_eq_some_iff.1 hg).1
  have hb : (sortWorld id w g 0 N d' os).heap = (w.heap.modify g (onCells (putCells id 0 d'))) ++ os := rfl
  have hbk : ∀ k, k < w.heap.size → (sortWorld id w g 0 N d' os).heap[k]? = (w.heap.modify g (onCells (putCells id 0 d')))[k]? := fun k hk => by
    rw [hb, Array.getElem?_append_left (by simpa using hk)]
  have hms : m * s ≤ cap * s := Nat.mul_le_mul_right s hn
  refine ⟨⟨by simp, .inr ⟨g, cap, putCells id 0 d' cur, rfl, hB, ?_, hn, hm, ?_, ?_⟩⟩, ⟨rfl, rfl, rfl, by rw [hb]; simp, fun k hk ne => ?_⟩⟩
  · rw [hbk g hl, Array.getElem?_modify, if_pos rfl, hg]; rfl
  · simp [putCells, hs]
  · apply List.ext_getElem?
    intro i
    by_cases hi : i < m * s
    · have hi2 : i < cur.size := by omega
      rw [List.getElem?_take_of_lt (by omega), Array.getElem?_toList]
      unfold putCells
      rw [Array.getElem?_mapIdx, Array.getElem?_eq_getElem hi2]
      simp [hi, hd]
    · rw [List.getElem?_eq_none (by simp; omega), List.getElem?_eq_none (by simp; omega)]
  · rw [hbk k hk, Array.getElem?_modify, if_neg (Ne.symm ne)]
theorem ownK_holds {w : World} {B g cap m s : Nat} {E : TypeId} (d : Array Value) {x : Nat → Value} (h : Own w B E s (.slice (some ⟨g, 0, none⟩) m cap) m x) (hd : d.size = m * s) (hx : ∀ q, q < m * s → x q = d[q]!) (hm0 : 0 < m) :
    Holds id w g 0 d ∧ g < w.heap.size := by
  obtain ⟨g', cap', e, _, hl, _, hc⟩ := h.form hm0
  rcases h.2 with ⟨h1, _⟩ | ⟨g2, cap2, cur, h1, hB, hg, hn, hm, hs, ht⟩
  · cases h1
  simp only [Value.slice.injEq, Option.some.injEq, Addr.mk.injEq] at h1 e
  obtain ⟨⟨rfl, _⟩, _, rfl⟩ := h1
  obtain ⟨⟨rfl, _⟩, _, rfl⟩ := e
  refine ⟨fun j hj => ⟨?_, ?_⟩, hl⟩
  · have h2 := hc j (by omega)
    rw [h2, hx j (by omega)]; rfl
  · simp [World.frozen?, hg]
theorem list_flat {α : Type} [Inhabited α] {s : Nat} {enc : α → Nat → Value} {e0 : α} {l : List α} (hs : 0 < s) : ∀ q, q < l.length * s → flat s (fun k => enc (l.getD k e0)) q = (Go.Sort.flatK (fun x => (List.range s).map (enc x)) s l.toArray)[q]! := fun q hq => by
  have h1 : q / s < l.length := Nat.div_lt_of_lt_mul (by rw [Nat.mul_comm]; exact hq)
  have h2 : q % s < s := Nat.mod_lt _ hs
  rw [Go.Sort.get_flatK _ _ _ q (by simpa using hq)]
  unfold flat
  have e1 : l.toArray[q / s]! = l.getD (q / s) e0 := by simp [h1]
  rw [e1]
  simp [h2]
theorem sort_agg {P : Program} {ρ : Ren} (LS : SlLaysF0.n6 P ρ) {gc : Nat} (eg : ∀ args w, (callFunc gc args).run P w = .ok (.enter gc args) w) {w : World} {B cap s : Nat} {a : Option Addr} {E : TypeId} (hs0 : 0 < s)
    (aE : ∀ w, (isAgg (ρ.t 24)).run P w = .ok true w) (zE : ∀ w, (Go.sizeOf (ρ.t 24)).run P w = .ok s w) {α : Type} [Inhabited α] {enc : α → Nat → Value} {e0 : α} (h1 : ∀ x j, j < s → (enc x j).oneCell' = true) {ky : α → Int} {l : List α}
    (h : Own w B E s (.slice a l.length cap) l.length (flat s fun q => enc (l.getD q e0)))
    (hc : ∀ w1 x y, Calls P gc #[.agg (varr s (enc x)), .agg (varr s (enc y))] w1 fun e w' => e = .returned (.int .i64 (cmp3 (ky x) (ky y))) ∧ ∃ q os', w' = grow (w1.drewN q) os') (hm : l.length < 4611686018427387904) :
    Calls P (ρ.f 6) #[.slice a l.length cap, .func (.func gc) #[] #[]] w fun e w' => e = .returned (.tuple #[]) ∧ ∃ l' : List α, l'.Perm l ∧ l'.Pairwise (fun x y => ky x ≤ ky y) ∧ Own w' B E s (.slice a l.length cap) l.length (flat s fun q => enc (l'.getD q e0)) ∧ (∀ k, k < w.heap.size → (Value.slice a l.length cap).ownBlock ≠ some k → w'.heap[k]? = w.heap[k]?) ∧ ChT [E] w w' ∧ Below B w w' := by
  by_cases h0 : l.length = 0
  · have hl : l = [] := List.length_eq_zero_iff.1 h0
    subst hl
    refine (AnyF.slices_SortFunc_none LS a cap _ w).mono ?_
    rintro e w' ⟨he, rfl⟩
    exact ⟨he, [], List.Perm.refl _, List.Pairwise.nil, h, fun _ _ _ => rfl, ChT.refl _, Below.refl _ _⟩
  obtain ⟨g, c2, e1, hB, hg, hmc, _⟩ := h.form (by omega)
  simp only [Value.slice.injEq] at e1
  obtain ⟨rfl, _, rfl⟩ := e1
  have hk : ∀ x, ((fun x => (List.range s).map (enc x)) x).length = s := fun x => by simp
  have hsz : (Go.Sort.flatK (fun x => (List.range s).map (enc x)) s l.toArray).size = l.length * s := by simp
  obtain ⟨hH, hl⟩ := ownK_holds _ h hsz (list_flat hs0) (by omega)
  have hty : Ty w g E := h.ty rfl
  have hv : ∀ x, ((List.range s).map (enc x)).toArray = varr s (enc x) := fun x => by
    apply Array.ext
    · simp [varr_size]
    · intro i h1 h2
      have h3 : i < s := by simpa using h1
      have := varr_get (enc x) h3
      rw [Array.getElem?_eq_getElem h2] at this
      rw [Option.some.inj this]; simp
  have hs := AnyQ.slices_SortFunc LS s aE zE (fun x => (List.range s).map (enc x)) hk (fun x v hv => by
      obtain ⟨j, hj, rfl⟩ := List.mem_map.1 hv
      exact h1 x j (List.mem_range.1 hj)) (fun x y => cmp3 (ky x) (ky y)) (swo_key _) gc #[] g 0 cap l.toArray w eg
    (fun N os dk hdk x y => by rw [hv, hv]; exact hc _ x y) hH hl (by simpa using hm)
  rw [show l.toArray.size = l.length by simp] at hs
  refine hs.mono ?_
  rintro e w' ⟨he, d', N, os, ⟨p1, _, p3⟩, hso, rfl⟩
  have p1 : d'.size = l.length := by simpa using p1
  have hw : sortWorldK (fun x => (List.range s).map (enc x)) s w g 0 N d' os = sortWorld id w g 0 N (Go.Sort.flatK (fun x => (List.range s).map (enc x)) s d') os := rfl
  rw [hw]
  obtain ⟨o1, o2⟩ := ownK_sorted (N := N) (Go.Sort.flatK (fun x => (List.range s).map (enc x)) s d') os h (by simp [p1])
  have e1 : (d'.extract 0 l.length).toList = d'.toList := by
    rw [← p1]; simp
  have e2 : (l.toArray.extract 0 l.length).toList = l := by simp
  rw [e1, e2] at p3
  refine ⟨he, d'.toList, p3, ?_, ?_, fun k hk hne => o2.block k hk (fun e => hne (by rw [e]; rfl)), ChT.of_stp o2 hty, ⟨o2.os, o2.tape, o2.output, o2.size, fun k hk => o2.block k (by omega) (by omega)⟩⟩
  · rw [List.pairwise_iff_getElem]
    intro i j hi hj hij
    have h3 := hso i j (Nat.zero_le _) hij (by rw [← p1]; simpa using hj)
    unfold ltOf at h3
    rw [decide_eq_false_iff_not, cmp3_lt] at h3
    have a1 : d'[i]! = d'.toList[i] := by rw [getElem!_pos d' i (by simpa using hi)]; simp
    have a2 : d'[j]! = d'.toList[j] := by rw [getElem!_pos d' j (by simpa using hj)]; simp
    rw [a1, a2] at h3
    exact Int.not_lt.1 h3
  · have := fun q (hq : q < l.length * s) => list_flat (enc := enc) (e0 := e0) (l := d'.toList) hs0 q (by simpa [p1] using hq)
    have o3 : Own (sortWorld id w g 0 N (Go.Sort.flatK (fun x => (List.range s).map (enc x)) s d') os) B E s (.slice (some ⟨g, 0, none⟩) l.length cap) l.length (flat s fun q => enc (d'.toList.getD q e0)) := o1.congr fun q hq => by
      have := this q hq
      simp only [Array.toArray_toList] at this
      exact this.symm
    exact o3
section
variable {P : Program} {f : Nat → Value} {w : World} {o : Oper}
theorem runs_i {k : IntKind} {a b : Int} (h : Runs P f o w (.int k a)) (e : a = b) : Runs P f o w (.int k b) := e ▸ h
def loA (s j c : Nat) : Option Addr → Option Addr
  | none => none
  | some ad => if c = j then some ad else some ⟨ad.block, ad.off + j * s, ad.spot⟩
theorem x_lo {w0 : World} {T E : TypeId} {x lo : Operand} {a : Option Addr} {B n c s : Nat} {k : IntKind} {j : Nat} {y : Nat → Value} (ho : o.op = .slice T x (some lo) none none) (hx : ev f x = .slice a n c) (hl : ev f lo = .int k (j : Int)) (hu : P.underlying T = some (.slice E)) (hs : (P.info? E).map (·.size) = some s) (hj : j ≤ n) (hown : Own w0 B E s (.slice a n c) n y) :
    Runs P f o w (.slice (loA s j c a) (n - j) (c - j)) := by
  rcases hown.2 with ⟨h1, rfl⟩ | ⟨g, cap, cur, h1, _, _, hn, _⟩
  · simp only [Value.slice.injEq] at h1
    obtain ⟨rfl, _, rfl⟩ := h1
    obtain rfl : j = 0 := by omega
    obtain ⟨i, hi', _⟩ := Option.map_eq_some_iff.1 hs
    unfold Runs execOp
    simp only [ho, hx, hl, Option.map_some, Option.map_none]
    simp [Instr.sliceAt, Instr.slice, underlying, hu, Instr.sliceBounds, Instr.sliceBound, asIntOf, sizeOf, typeInfo, hi', loA]
  · simp only [Value.slice.injEq] at h1
    obtain ⟨rfl, _, rfl⟩ := h1
    have := x_sliceLo2 (P := P) (w := w) (A := if c = j then some ⟨g, 0, none⟩ else some ⟨g, 0 + j * s, none⟩) (n' := n - j) (c' := c - j) ho hx hl hu hs (by omega) rfl rfl rfl
    exact this
end
theorem Own.arrLo {w : World} {B n c s j : Nat} {E : TypeId} {a : Option Addr} {y : Nat → Value} (h : Own w B E s (.slice a n c) n y) (_hj : j ≤ n) : Arr w (loA s j c a) (n - j) s (fun p => y (j * s + p)) := fun h0 => by
  obtain ⟨g, c2, e1, hB, hg, hnc, hcel⟩ := h.form (by omega)
  simp only [Value.slice.injEq] at e1
  obtain ⟨rfl, _, rfl⟩ := e1
  refine ⟨g, 0 + j * s, ?_, fun p hp => ?_⟩
  · show (if c = j then _ else _) = _
    rw [if_neg (by omega)]
  · have hlt : j * s + p < n * s := by
      have : n * s = j * s + (n - j) * s := by rw [← Nat.add_mul]; congr 1; omega
      omega
    have := hcel (j * s + p) hlt
    rw [Nat.zero_add] at this
    rw [Nat.zero_add]; exact this
end Go.Proofs.Ytleajegppehbdaa.Fx
namespace Go.Proofs.Ytleajegppehbdaa
open Go.RowKit Rt
theorem Rt.itX_one (l : List ItM) (j : Nat) : (itX l j).oneCell' = true := itY_one _ _
namespace Rt
def flt (l : List ItM) (s : Int) : List ItM := l.filter fun x => decide (s < x.e.seq)
theorem flt_drop {l : List ItM} {s : Int} {r : Nat} (h : PlaceR l s r) : l.drop r = flt l s := by
  unfold flt
  have e : l = l.take r ++ l.drop r := (List.take_append_drop r l).symm
  have h1 : (l.take r).filter (fun x => decide (s < x.e.seq)) = [] := by
    rw [List.filter_eq_nil_iff]
    intro x hx
    obtain ⟨i, hi, rfl⟩ := List.mem_iff_getElem.1 hx
    have hi2 : i < r := by simp at hi; omega
    have h2 := h.lo i hi2
    have h3 : l.getD i it0 = (l.take r)[i] := by have := h.le; rw [List.getElem_take]; simp [show i < l.length by omega]
    rw [h3] at h2
    exact fun e => by have := of_decide_eq_true e; omega
  have h2 : (l.drop r).filter (fun x => decide (s < x.e.seq)) = l.drop r := by
    rw [List.filter_eq_self]
    intro x hx
    obtain ⟨i, hi, rfl⟩ := List.mem_iff_getElem.1 hx
    have hi2 : r + i < l.length := by simp at hi; omega
    have h2 := h.hi (r + i) (by omega) hi2
    have h3 : l.getD (r + i) it0 = (l.drop r)[i] := by rw [List.getElem_drop]; simp [hi2]
    rw [h3] at h2
    exact decide_eq_true h2
  conv => rhs; rw [e, List.filter_append, h1, h2, List.nil_append]
theorem flt_len {l : List ItM} {s : Int} {r : Nat} (h : PlaceR l s r) : l.length - r = (flt l s).length := by rw [← flt_drop h, List.length_drop]
theorem flt_x {l : List ItM} {s : Int} {r : Nat} (h : PlaceR l s r) (p : Nat) (hp : p < (l.length - r) * 15) : itX l (r * 15 + p) = itX (flt l s) p := by
  rw [← flt_drop h]
  unfold itX Fx.flat
  have h1 : p / 15 < l.length - r := Nat.div_lt_of_lt_mul (by rw [Nat.mul_comm]; exact hp)
  rw [show (r * 15 + p) / 15 = r + p / 15 by omega, show (r * 15 + p) % 15 = p % 15 by omega]
  show itY (l.getD (r + p / 15) it0) _ = itY ((l.drop r).getD (p / 15) it0) _
  congr 1
  rw [List.getD_eq_getElem?_getD, List.getD_eq_getElem?_getD, List.getElem?_drop]
end Rt
theorem o_prune0 (V : Nat → Int) (w : World) :
    Calls Try.prog 28 #[.pointer none, .agg (Fx.varr 6 (Fx.rv .u64 V))] w fun e w' => e = .returned (.int .i64 (0)) ∧ Below w.heap.size w w' := by
 refine Fx.enter Try.func28 rfl (n := 37) rfl (by rfl) ?_
 refine Fx.W.seq (Fx.W.list (Fx.L.box (m := 6) (y := Fx.rv .u64 V) (by rfl) rfl rfl (Fx.cells_agg _ _) rfl fun g1 w1 eg1 m1 s1 z1 => ?_))
 have b1 := s1.below (Below.refl w.heap.size w) (Below.refl w.heap.size w).size (Below.refl w.heap.size w).size
 have lg1 : w.heap.size ≤ g1 := by rw [eg1]; exact (Below.refl w.heap.size w).size
 have tg1 : g1 < w1.heap.size := m1.lt
 clear eg1
 refine Fx.L.v (.int .i64 (0)) (Fx.x_assign rfl rfl) ?_
 refine Fx.L.nil (Fx.seqN (Fx.W.seq (Fx.W.seq (Fx.W.list (Fx.L.v (.pointer none) (Fx.x_move rfl rfl) ?_)))))
 refine Fx.L.v (.bool true) (Fx.x_eqNil' rfl rfl rfl (by kernel_rfl)) ?_
 refine Fx.L.nil (Fx.seqN (Fx.W.cond (b := true) rfl (fun _ => Fx.W.seq (Fx.W.list (Fx.L.v (.int .i64 (0)) (Fx.x_assign rfl rfl) ?_))) (fun h => nomatch h)))
 refine Fx.L.nil (Fx.seqN (Fx.W.ret (Fx.seqR (⟨.int .i64 (0), Fx.retV1 Try.results28 (by exact rfl), ?_⟩))))
 exact ⟨rfl, b1⟩
end Go.Proofs.Ytleajegppehbdaa
namespace Go.Proofs.Ytleajegppehbdaa
open Go.RowKit Rt
theorem c_nan (n : Int) (w : World) :
    Calls Try.prog 71 #[.int .u64 (n)] w fun e w' => e = .returned (.bool false) ∧ w' = w := by
 refine Fx.enter Try.func71 rfl (n := 6) rfl (by rfl) ?_
 refine Fx.W.seq (Fx.W.list (Fx.L.v (.bool false) (Fx.x_assign rfl rfl) ?_))
 refine Fx.L.nil (Fx.seqN (Fx.W.seq (Fx.W.list (Fx.L.v (.int .u64 (n)) (Fx.x_move rfl rfl) ?_))))
 refine Fx.L.v (.int .u64 (n)) (Fx.x_move rfl rfl) ?_
 refine Fx.L.v (.bool false) (Fx.x_neqF rfl rfl rfl rfl) ?_
 refine Fx.L.v (.bool false) (Fx.x_assign rfl rfl) ?_
 refine Fx.L.nil (Fx.seqN (Fx.W.ret (⟨.bool false, Fx.retV1 Try.results71 (by exact rfl), ?_⟩)))
 exact ⟨rfl, rfl⟩
theorem c_cmp (a b : Int) (w : World) :
    Calls Try.prog 53 #[.int .u64 (a), .int .u64 (b)] w fun e w' => e = .returned (.int .i64 (Fx.cmp3 a b)) ∧ w' = w := by
 refine Fx.enter Try.func53 rfl (n := 20) rfl (by rfl) ?_
 refine Fx.W.seq (Fx.W.list (Fx.L.v (.int .i64 (0)) (Fx.x_assign rfl rfl) ?_))
 refine Fx.L.nil (Fx.seqN (Fx.W.seq (Fx.W.list (Fx.L.v (.int .u64 (a)) (Fx.x_move rfl rfl) ?_))))
 refine Fx.L.call (by rfl) (Fx.r_call (args := [.int .u64 (a)]) rfl rfl Try.func71 rfl rfl) rfl ((c_nan a _).mono ?_)
 rintro e v1 ⟨he, hv1⟩
 subst v1
 refine ⟨.bool false, by rw [he], ?_⟩
 clear he
 refine Fx.L.v (.bool false) (Fx.x_assign rfl rfl) ?_
 refine Fx.L.nil (Fx.seqN (Fx.W.seq (Fx.W.list (Fx.L.v (.int .u64 (b)) (Fx.x_move rfl rfl) ?_))))
 refine Fx.L.call (by rfl) (Fx.r_call (args := [.int .u64 (b)]) rfl rfl Try.func71 rfl rfl) rfl ((c_nan b _).mono ?_)
 rintro e v1 ⟨he, hv1⟩
 subst v1
 refine ⟨.bool false, by rw [he], ?_⟩
 clear he
 refine Fx.L.v (.bool false) (Fx.x_assign rfl rfl) ?_
 refine Fx.L.nil (Fx.seqN (Fx.W.seq (Fx.W.seq (Fx.W.list (Fx.L.v (.bool false) (Fx.x_move rfl rfl) ?_)))))
 refine Fx.L.nil (Fx.seqN (Fx.W.cond (b := false) rfl (fun h => nomatch h) (fun _ => Fx.W.skip (Fx.seqN (Fx.W.seq (Fx.W.seq (Fx.W.list (Fx.L.v (.bool false) (Fx.x_move rfl rfl) ?_))))))))
 refine Fx.L.nil (Fx.seqN (Fx.W.cond (b := false) rfl (fun h => nomatch h) (fun _ => Fx.W.skip (Fx.seqN (Fx.W.seq (Fx.W.seq (Fx.W.list (Fx.L.v (.int .u64 (a)) (Fx.x_move rfl rfl) ?_))))))))
 refine Fx.L.v (.int .u64 (b)) (Fx.x_move rfl rfl) ?_
 by_cases c16 : a < b
 ·refine Fx.L.v (.bool true) (Fx.x_lssT rfl rfl rfl c16) ?_
  refine Fx.L.nil (Fx.seqN (Fx.W.cond (b := true) rfl (fun _ => Fx.W.seq (Fx.W.list (Fx.L.v (.int .i64 (-1)) (Fx.x_assign rfl rfl) ?_))) (fun h => nomatch h)))
  refine Fx.L.nil (Fx.seqN (Fx.W.ret (Fx.seqR (⟨.int .i64 (-1), Fx.retV1 Try.results53 (by exact rfl), ?_⟩))))
  exact ⟨by unfold Fx.cmp3; simp [c16], rfl⟩
 ·refine Fx.L.v (.bool false) (Fx.x_lssF rfl rfl rfl c16) ?_
  refine Fx.L.nil (Fx.seqN (Fx.W.cond (b := false) rfl (fun h => nomatch h) (fun _ => Fx.W.skip (Fx.seqN (Fx.W.seq (Fx.W.seq (Fx.W.list (Fx.L.v (.int .u64 (a)) (Fx.x_move rfl rfl) ?_))))))))
  refine Fx.L.v (.int .u64 (b)) (Fx.x_move rfl rfl) ?_
  by_cases c19 : b < a
  ·refine Fx.L.v (.bool true) (Fx.x_gtrT rfl rfl rfl c19) ?_
   refine Fx.L.nil (Fx.seqN (Fx.W.cond (b := true) rfl (fun _ => Fx.W.seq (Fx.W.list (Fx.L.v (.int .i64 (1)) (Fx.x_assign rfl rfl) ?_))) (fun h => nomatch h)))
   refine Fx.L.nil (Fx.seqN (Fx.W.ret (Fx.seqR (⟨.int .i64 (1), Fx.retV1 Try.results53 (by exact rfl), ?_⟩))))
   exact ⟨by unfold Fx.cmp3; simp [c16, c19], rfl⟩
  ·refine Fx.L.v (.bool false) (Fx.x_gtrF rfl rfl rfl c19) ?_
   refine Fx.L.nil (Fx.seqN (Fx.W.cond (b := false) rfl (fun h => nomatch h) (fun _ => Fx.W.skip (Fx.seqN (Fx.W.seq (Fx.W.list (Fx.L.v (.int .i64 (0)) (Fx.x_assign rfl rfl) ?_)))))))
   refine Fx.L.nil (Fx.seqN (Fx.W.ret (⟨.int .i64 (0), Fx.retV1 Try.results53 (by exact rfl), ?_⟩)))
   exact ⟨by unfold Fx.cmp3; simp [c16, c19], rfl⟩
end Go.Proofs.Ytleajegppehbdaa
namespace Go.Proofs.Ytleajegppehbdaa
open Go.Shelf
def laysS_ren : Go.Shelf.Ren := ⟨fun | 6 => 51 | 15 => 70 | 14 => 69 | 28 => 92 | 29 => 93 | 20 => 84 | 21 => 85 | 22 => 86 | 23 => 87 | 24 => 88 | 25 => 89 | 26 => 90 | 27 => 91 | 46 => 104 | 47 => 105 | 48 => 106 | 49 => 107 | 50 => 108 | 57 => 112 | n => n, fun | 22 => 97 | 24 => 106 | 25 => 112 | 3 => 3 | 39 => 136 | 0 => 0 | 53 => 152 | 55 => 30 | 4 => 4 | 46 => 146 | 45 => 145 | 50 => 131 | 5 => 5 | 9 => 9 | 66 => 163 | 70 => 167 | 76 => 172 | 77 => 173 | n => n, fun | n => n⟩
theorem laysS : Go.Proofs.SlLaysF0.n6 Try.prog laysS_ren := {
  mixed := by kernel_rfl
  f6 := ⟨Try.f51.name, by decide, Try.func51.trans (congrArg some (by kernel_rfl))⟩
  f14 := ⟨Try.f69.name, by decide, Try.func69.trans (congrArg some (by kernel_rfl))⟩
  f15 := Try.func70.trans (congrArg some (by kernel_rfl))
  f20 := ⟨Try.f84.name, by decide, Try.func84.trans (congrArg some (by kernel_rfl))⟩
  f21 := ⟨Try.f85.name, by decide, Try.func85.trans (congrArg some (by kernel_rfl))⟩
  f22 := ⟨Try.f86.name, by decide, Try.func86.trans (congrArg some (by kernel_rfl))⟩
  f23 := ⟨Try.f87.name, by decide, Try.func87.trans (congrArg some (by kernel_rfl))⟩
  f24 := ⟨Try.f88.name, by decide, Try.func88.trans (congrArg some (by kernel_rfl))⟩
  f25 := ⟨Try.f89.name, by decide, Try.func89.trans (congrArg some (by kernel_rfl))⟩
  f26 := ⟨Try.f90.name, by decide, Try.func90.trans (congrArg some (by kernel_rfl))⟩
  f27 := ⟨Try.f91.name, by decide, Try.func91.trans (congrArg some (by kernel_rfl))⟩
  f28 := Try.func92.trans (congrArg some (by kernel_rfl))
  f29 := Try.func93.trans (congrArg some (by kernel_rfl))
  f46 := ⟨Try.f104.name, by decide, Try.func104.trans (congrArg some (by kernel_rfl))⟩
  f47 := Try.func105.trans (congrArg some (by kernel_rfl))
  f48 := Try.func106.trans (congrArg some (by kernel_rfl))
  f49 := ⟨Try.f107.name, by decide, Try.func107.trans (congrArg some (by kernel_rfl))⟩
  f50 := ⟨Try.f108.name, by decide, Try.func108.trans (congrArg some (by kernel_rfl))⟩
  f57 := ⟨Try.f112.name, by decide, Try.func112.trans (congrArg some (by kernel_rfl))⟩
  t0 := Try.underlying0
  a0 := Try.isAgg0
  z0 := Try.sizeOf0
  v0 := Try.zeroValue0
  t3 := Try.underlying3
  a3 := Try.isAgg3
  z3 := Try.sizeOf3
  v3 := Try.zeroValue3
  t4 := Try.underlying4
  a4 := Try.isAgg4
  z4 := Try.sizeOf4
  v4 := Try.zeroValue4
  t5 := Try.underlying5
  a5 := Try.isAgg5
  z5 := Try.sizeOf5
  v5 := Try.zeroValue5
  t9 := Try.underlying9
  a9 := Try.isAgg9
  z9 := Try.sizeOf9
  v9 := Try.zeroValue9
  t22 := Try.underlying97
  a22 := Try.isAgg97
  z22 := Try.sizeOf97
  v22 := Try.zeroValue97
  t25 := Try.underlying112
  a25 := Try.isAgg112
  z25 := Try.sizeOf112
  v25 := Try.zeroValue112
  t39 := Try.underlying136
  a39 := Try.isAgg136
  z39 := Try.sizeOf136
  v39 := Try.zeroValue136
  t45 := Try.underlying145
  a45 := Try.isAgg145
  z45 := Try.sizeOf145
  v45 := Try.zeroValue145
  t46 := Try.underlying146
  a46 := Try.isAgg146
  z46 := Try.sizeOf146
  v46 := Try.zeroValue146
  t50 := Try.underlying131
  a50 := Try.isAgg131
  z50 := Try.sizeOf131
  v50 := Try.zeroValue131
  t53 := Try.underlying152
  a53 := Try.isAgg152
  z53 := Try.sizeOf152
  v53 := Try.zeroValue152
  t55 := Try.underlying30
  a55 := Try.isAgg30
  z55 := Try.sizeOf30
  v55 := Try.zeroValue30
  t66 := Try.underlying163
  a66 := Try.isAgg163
  z66 := Try.sizeOf163
  v66 := Try.zeroValue163
  t70 := Try.underlying167
  a70 := Try.isAgg167
  z70 := Try.sizeOf167
  v70 := Try.zeroValue167
  t76 := Try.underlying172
  a76 := Try.isAgg172
  z76 := Try.sizeOf172
  v76 := Try.zeroValue172
  t77 := Try.underlying173
  a77 := Try.isAgg173
  z77 := Try.sizeOf173
  v77 := Try.zeroValue173 }
end Go.Proofs.Ytleajegppehbdaa
namespace Go.Proofs.Ytleajegppehbdaa
open Go.RowKit Go.Shelf Go.Sort Rt
set_option maxHeartbeats 1000000 in
theorem v_cmpA (cx cy : Array Value) (a b : Int) (ha : cx[14]? = some (.int .u64 a)) (hb : cy[14]? = some (.int .u64 b)) (W : World) :
    Calls Try.prog 52 #[.agg cx, .agg cy] W fun e w' => e = .returned (.int .i64 (Fx.cmp3 a b)) ∧ ∃ q os', w' = grow (W.drewN q) os' := by
  have hcon := fun W' => c_cmp a b W'
  generalize Fx.cmp3 a b = r at hcon ⊢
  go_enter Try.func52, Try.ntmps52
  go_wp2_with (go_at_call 53; refine (hcon _).mono ?_; rintro e w' ⟨rfl, rfl⟩)
  go_ret
  exact ⟨rfl, 0, _, by rw [alloc_eq_grow, alloc_eq_grow, grow_grow]; rfl⟩
instance : Inhabited ItM := ⟨it0⟩
theorem o_sort {w : World} {B cap : Nat} {a : Option Addr} {l : List ItM} (h : Fx.Own w B 106 15 (.slice a l.length cap) l.length (itX l)) (hm : l.length ≤ 1000000) :
    Calls Try.prog 51 #[.slice a l.length cap, .func (.func 52) #[] #[]] w fun e w' => e = .returned (.tuple #[]) ∧ ∃ l' : List ItM, l'.Perm l ∧ l'.Pairwise (fun x y => x.tm ≤ y.tm) ∧ Fx.Own w' B 106 15 (.slice a l.length cap) l.length (itX l') ∧ (∀ k, k < w.heap.size → (Value.slice a l.length cap).ownBlock ≠ some k → w'.heap[k]? = w.heap[k]?) ∧ Fx.ChT [106] w w' ∧ Below B w w' :=
  Fx.sort_agg laysS (fun args w => enters_of Try.func52 (by kernel_rfl) rfl args w) (by decide) Try.isAgg106 Try.sizeOf106 (enc := itY) (e0 := it0) (ky := fun x => x.tm) (fun x j _ => itY_one x j) h
    (fun w1 x y => v_cmpA _ _ _ _ (Fx.varr_get _ (by decide)) (Fx.varr_get _ (by decide)) w1) (by omega)
end Go.Proofs.Ytleajegppehbdaa
namespace Go.Proofs.Ytleajegppehbdaa
open Go.RowKit Rt
namespace Rt
def sinceL (m : LgM) (V : Nat → Int) : Nat → List ItM
  | 0 => []
  | k + 1 => sinceL m V k ++ flt (m.L k) (V k)
theorem sinceL_len (m : LgM) (V : Nat → Int) (k : Nat) : (sinceL m V (k + 1)).length = (sinceL m V k).length + (flt (m.L k) (V k)).length := List.length_append
theorem flt_le (l : List ItM) (s : Int) : (flt l s).length ≤ l.length := List.length_filter_le _ _
theorem sinceL_le {m : LgM} {V : Nat → Int} {T : Nat} (h : ∀ i, i < 6 → (m.L i).length ≤ T) : ∀ k, k ≤ 6 → (sinceL m V k).length ≤ k * T
  | 0, _ => Nat.zero_le _
  | k + 1, hk => by have h1 := sinceL_le (V := V) h k (by omega); have h2 := h k (by omega); have h3 := flt_le (m.L k) (V k); rw [sinceL_len, Nat.add_mul, Nat.one_mul]; omega
theorem itX_left {l1 l2 : List ItM} {j : Nat} (h : j < l1.length * 15) : itX (l1 ++ l2) j = itX l1 j := by
  have h1 : j / 15 < l1.length := Nat.div_lt_of_lt_mul (by rw [Nat.mul_comm]; exact h)
  show itY ((l1 ++ l2).getD (j / 15) it0) _ = itY (l1.getD (j / 15) it0) _
  congr 1
  rw [List.getD_eq_getElem?_getD, List.getD_eq_getElem?_getD, List.getElem?_append_left h1]
theorem itX_right {l1 l2 : List ItM} {j : Nat} (h : l1.length * 15 ≤ j) : itX (l1 ++ l2) j = itX l2 (j - l1.length * 15) := by
  have h1 : l1.length ≤ j / 15 := (Nat.le_div_iff_mul_le (by decide)).2 h
  show itY ((l1 ++ l2).getD (j / 15) it0) _ = itY (l2.getD ((j - l1.length * 15) / 15) it0) ((j - l1.length * 15) % 15)
  rw [show (j - l1.length * 15) / 15 = j / 15 - l1.length by omega, show (j - l1.length * 15) % 15 = j % 15 by omega]
  congr 1
  rw [List.getD_eq_getElem?_getD, List.getD_eq_getElem?_getD, List.getElem?_append_right h1]
theorem since_app {m : LgM} {V : Nat → Int} {k r : Nat} (hp : PlaceR (m.L k) (V k) r) : ∀ j, j < (sinceL m V (k + 1)).length * 15 → Fx.appX (itX (sinceL m V k)) ((sinceL m V k).length * 15) (fun p => itX (m.L k) (r * 15 + p)) j = itX (sinceL m V (k + 1)) j := fun j hj => by
  rw [sinceL_len] at hj
  unfold Fx.appX
  show _ = itX (sinceL m V k ++ flt (m.L k) (V k)) j
  by_cases h : j < (sinceL m V k).length * 15
  · rw [if_pos h, itX_left h]
  · rw [if_neg h, itX_right (by omega)]
    exact flt_x hp _ (by rw [flt_len hp]; omega)
theorem ev_bone (v : EvM) (z : Nat → Value) : ∀ j, j < 1 * 14 → (Fx.ovr z (0 * 14) 14 (evY v) j).oneCell' = true := fun j hj => by
  unfold Fx.ovr; rw [if_pos (by omega)]; exact evY_one v _ (by omega)
theorem ev_next {e : Nat → EvM} {n : Nat} {z : Nat → Value} : ∀ j, j < (n + 1) * 14 → Fx.appX (evX e) (n * 14) (Fx.ovr z (0 * 14) 14 (evY (e n))) j = evX e j := fun j hj =>
  (Fx.app_flat j hj).trans (Fx.flat_cong (fun k _ q _ => by
    unfold Fx.updF
    by_cases e : k = n
    · subst e; rw [if_pos rfl]
    · rw [if_neg e]) j hj)
structure SinceR (m : LgM) (V : Nat → Int) (most : Int) (n : Nat) (l : List ItM) : Prop where
  perm : l.Perm (sinceL m V 6)
  up : l.Pairwise (fun x y => x.tm ≤ y.tm)
  n : n = min most.toNat (sinceL m V 6).length
end Rt
set_option maxRecDepth 10000 in
set_option maxHeartbeats 1000000 in
theorem o_since (V : Nat → Int) (most : Int) (m : LgM) (B p T : Nat) (w : World) (h : LgO w B p m T) (hT : T ≤ 100000) (hs : ∀ i, i < 6 → SeqUp (m.L i)) :
    Calls Try.prog 29 #[.pointer (some ⟨p, 0, none⟩), .agg (Fx.varr 6 (Fx.rv .u64 V)), .int .i64 (most)] w fun e w' => ∃ a n c l', e = .returned (.slice a n c) ∧ Fx.Own w' w.heap.size 50 14 (.slice a n c) n (evX (fun q => (l'.getD q it0).e)) ∧ SinceR m V most n l' ∧ Below w.heap.size w w' := by
 refine Fx.enter Try.func29 rfl (n := 53) rfl (by rfl) ?_
 have hbk := h.blk
 have tp := hbk.lt
 refine Fx.W.seq (Fx.W.list (Fx.L.box (m := 6) (y := Fx.rv .u64 V) (by rfl) rfl rfl (Fx.cells_agg _ _) rfl fun g1 w1 eg1 m1 s1 z1 => ?_))
 have m2 := hbk.stp s1 (Nat.ne_of_lt (hbk.lt))
 have b1 := s1.below (Below.refl w.heap.size w) (Below.refl w.heap.size w).size (Below.refl w.heap.size w).size
 have lg1 : w.heap.size ≤ g1 := by rw [eg1]; exact (Below.refl w.heap.size w).size
 have ng1m2 : p ≠ g1 := by rw [eg1]; exact Nat.ne_of_lt (hbk.lt)
 have tg1 : g1 < w1.heap.size := m1.lt
 clear eg1
 refine Fx.L.v (.slice none 0 0) (Fx.x_assign rfl rfl) ?_
 refine Fx.L.nil (Fx.seqN (Fx.W.seq (Fx.W.seq (Fx.W.list (Fx.L.v (.pointer (some ⟨p, 0, none⟩)) (Fx.x_move rfl rfl) ?_)))))
 refine Fx.L.v (.bool false) (Fx.x_eqNil rfl rfl rfl (by kernel_rfl)) ?_
 refine Fx.L.nil (Fx.seqN (Fx.W.cond (b := false) rfl (fun h => nomatch h) (fun _ => Fx.W.skip (Fx.seqN (Fx.W.seq (Fx.W.list (Fx.L.v (.slice none 0 0) (Fx.x_assign rfl rfl) ?_)))))))
 refine Fx.L.nil (Fx.seqN (Fx.W.seq (Fx.W.seq (Fx.W.list (Fx.L.v (.pointer (some ⟨p, 0, none⟩)) (Fx.x_move rfl rfl) ?_)))))
 refine Fx.L.v (.pointer (some ⟨p, 0, none⟩)) (Fx.x_nil rfl rfl) ?_
 refine Fx.L.v (.pointer (some ⟨p, 0, none⟩)) (Fx.x_field rfl rfl Try.underlying100 rfl (s := 6) (by kernel_rfl) rfl rfl) ?_
 refine Fx.L.v (.agg (Fx.varr 6 (lvV m))) (Fx.x_loadA (x := lgY m) (y := lvV m) rfl rfl (by kernel_rfl) (by kernel_rfl) m2.cel (i := 0) (by omega) (by omega) (fun j hj => by rw [Nat.zero_add]; exact lgY_v m hj)) ?_
 refine Fx.L.v (.int .i64 (0)) (Fx.x_move rfl rfl) ?_
 refine Fx.L.nil (Fx.seqN (Fx.W.block ?_))
 have m3 : Fx.Own w1 w.heap.size 106 15 (.slice none 0 0) 0 (itX (sinceL m V 0)) := Fx.Own.nil _ _ _ _ _
 refine Fx.W.loop (fun f w_ => ∃ k : Nat, ∃ aa : Option Addr, ∃ ca : Nat, k ≤ 6 ∧ f 0 = .pointer (some ⟨p, 0, none⟩) ∧ f 2 = .int .i64 (most) ∧ f 4 = .pointer (some ⟨g1, 0, none⟩) ∧ f 6 = .slice none 0 0 ∧ f 7 = .slice aa ((sinceL m V k).length) (ca) ∧ f 17 = .agg (Fx.varr 6 (lvV m)) ∧ f 18 = .int .i64 ((k : Int)) ∧ Fx.Blk w_ p 13 (lgY m) 100 ∧ Fx.Blk w_ g1 6 (Fx.rv .u64 V) 32 ∧ Fx.Own w_ w.heap.size 106 15 (.slice aa ((sinceL m V k).length) (ca)) ((sinceL m V k).length) (itX (sinceL m V k)) ∧ Below w.heap.size w w_) (fun f _ => (6 - (intOf (f 18)).toNat)) ⟨0, none, 0, by omega, (by rfl), (by first | rfl | exact congrArg (Value.int .i64) (by omega)), (by rfl), (by rfl), (by rfl), (by rfl), (by first | rfl | exact congrArg (Value.int .i64) (by omega)), m2, m1, m3, b1⟩ ?_
 rintro f1 w2 ⟨k, aa, ca, hk, h1, h2, h3, h4, h5, h6, h7, m4, m5, m6, b2⟩
 refine Fx.W.seq (Fx.W.list ?_)
 by_cases c19 : (k : Int) < 6
 ·refine Fx.L.v (.bool true) (Fx.x_lssT rfl h7 rfl c19) ?_
  refine Fx.L.nil (Fx.seqN (Fx.W.seq (Fx.W.cond (b := true) rfl (fun _ => Fx.W.skip (Fx.seqN (Fx.W.seq (Fx.W.block (Fx.W.seq (Fx.W.list (Fx.L.v (.int .i64 ((k : Int))) (Fx.x_move rfl h7) ?_))))))) (fun h => nomatch h))))
  refine Fx.L.v (.slice (m.a k) ((m.L k).length) ((m.c k))) (Fx.x_indexV (j := k) (y := lvV m) rfl h6 h7 Try.underlying98 (by kernel_rfl) (by kernel_rfl) (by omega) (rfl)) ?_
  refine Fx.L.v (.int .i64 ((k : Int))) (Fx.x_assign rfl rfl) ?_
  refine Fx.L.v (.slice (m.a k) ((m.L k).length) ((m.c k))) (Fx.x_assign rfl rfl) ?_
  refine Fx.L.nil (Fx.seqN ?_)
  have hk1 := h.len k (by omega)
  have hk2 := sinceL_le (V := V) h.len k (by omega)
  have hk3 : k * T ≤ 6 * 100000 := Nat.mul_le_mul (by omega) hT
  have hk4 := sinceL_len m V k
  have m7 : Fx.Own w2 B 106 15 (.slice (m.a k) ((m.L k).length) ((m.c k))) ((m.L k).length) (itX (m.L k)) := (h.ls.1 k (by omega)).up b2
  refine Fx.W.list (Fx.L.v (.slice aa ((sinceL m V k).length) (ca)) (Fx.x_move rfl h5) ?_)
  refine Fx.L.v (.slice (m.a k) ((m.L k).length) ((m.c k))) (Fx.x_move rfl rfl) ?_
  refine Fx.L.v (.slice (m.a k) ((m.L k).length) ((m.c k))) (Fx.x_move rfl rfl) ?_
  refine Fx.L.v (.int .i64 ((k : Int))) (Fx.x_move rfl rfl) ?_
  refine Fx.L.v (.pointer (some ⟨g1, k, none⟩)) (Fx.x_index rfl h3 rfl Try.underlying32 (s := 1) (by kernel_rfl) (by omega) (by omega) (by omega)) ?_
  refine Fx.L.v (.int .u64 (V k)) (Fx.x_load1 (x := Fx.rv .u64 V) rfl rfl (by kernel_rfl) m5.cel (i := k) (by omega) (by omega) rfl) ?_
  refine Fx.L.call (by rfl) (Fx.r_call (args := [.slice (m.a k) ((m.L k).length) ((m.c k)), .int .u64 (V k)]) rfl rfl Try.func49 rfl rfl) rfl ((v_place (m.L k) _ _ (V k) _ (by omega) (hs k (by omega)) (m7.arr)).mono ?_)
  rintro e w3 ⟨r, he, hr, hb1⟩
  refine ⟨_, he, ?_⟩
  clear he
  have s2 := Fx.Stp.of_below hb1
  have hrl := hr.le
  have m8 := m4.stp s2 (Nat.ne_of_lt (m4.lt))
  have m9 := m5.stp s2 (Nat.ne_of_lt (m5.lt))
  have m10 := m6.stp s2 (m6.notNew (Nat.le_refl _))
  have m11 := m7.stp s2 (m7.notNew (Nat.le_refl _))
  have b3 := s2.below b2 b2.size b2.size
  have hfl := flt_len hr
  refine Fx.L.v (.slice (Fx.loA 15 r (m.c k) (m.a k)) ((m.L k).length - r) ((m.c k) - r)) (Fx.x_lo (j := r) (s := 15) rfl rfl rfl Try.underlying97 (by kernel_rfl) (by omega) m11) ?_
  refine Fx.L.appAny (B := w.heap.size) (s := 15) (bytes := 120) (k := (sinceL m V k).length) (m := ((m.L k).length - r)) (v := .slice aa ((sinceL m V k).length) (ca)) (x := itX (sinceL m V k)) (by rfl) rfl rfl rfl Try.underlying97 (by kernel_rfl) (by kernel_rfl) rfl rfl m10 (m11.arrLo (by omega)) (fun j _ => itX_one _ _) (by omega) (by omega) b3.size fun vv1 w4 ho1 hg1 hgv1 => ?_
  rw [show (sinceL m V k).length + ((m.L k).length - r) = (sinceL m V (k + 1)).length by omega] at ho1
  obtain ⟨a1, cap1, rfl⟩ := ho1.val
  have hct1 := Fx.ChT.of_grown hg1 m10
  have m13 := m8.chT hct1 (by decide)
  have m14 := m9.chT hct1 (by decide)
  have m12 : Fx.Own w4 w.heap.size 106 15 (.slice a1 ((sinceL m V (k + 1)).length) (cap1)) ((sinceL m V (k + 1)).length) (itX (sinceL m V (k + 1))) := (ho1.congr (fun j hj => since_app hr j hj))
  have b4 : Below w.heap.size w w4 := Fx.Below.grow b3 hg1 b3.size (fun q hq => (m10.ge hq).1)
  refine Fx.L.v (.slice a1 ((sinceL m V (k + 1)).length) (cap1)) (Fx.x_assign rfl rfl) ?_
  refine Fx.L.nil (Fx.blkN (Fx.seqN (Fx.W.list (Fx.L.v (.int .i64 ((k : Int) + 1)) (Fx.x_add rfl h7 rfl (Fx.i64e (by omega) (by omega))) ?_))))
  refine Fx.L.v (.int .i64 ((k : Int) + 1)) (Fx.x_move rfl rfl) ?_
  refine Fx.L.nil ?_
  skip
  refine Fx.lpN ⟨k + 1, a1, cap1, by omega, h1, (h2.trans (by first | rfl | exact congrArg (Value.int .i64) (by omega))), h3, h4, (by rfl), h6, (by first | rfl | exact congrArg (Value.int .i64) (by omega)), m13, m14, m12, b4⟩ ?_
  show (6 - (intOf ((.int .i64 ((k : Int) + 1)))).toNat) < _
  simp only [h7, intOf]; omega
 ·refine Fx.L.v (.bool false) (Fx.x_lssF rfl h7 rfl c19) ?_
  refine Fx.L.nil (Fx.seqN (Fx.W.seq (Fx.W.cond (b := false) rfl (fun h => nomatch h) (fun _ => Fx.W.exit (Fx.seqX (Fx.lpX (Fx.blkX (Fx.seqN (Fx.W.seq ?_)))))))))
  have e6 : k = 6 := by omega
  subst e6
  have hk2 := sinceL_le (V := V) h.len 6 (by omega)
  have hk3 : 6 * T ≤ 6 * 100000 := Nat.mul_le_mul (by omega) hT
  refine Fx.W.list (Fx.L.v (.slice aa ((sinceL m V 6).length) (ca)) (Fx.x_move rfl h5) ?_)
  refine Fx.L.call (by rfl) (Fx.r_call (args := [.slice aa ((sinceL m V 6).length) (ca), .func (.func 52) #[] #[]]) rfl rfl Try.func51 rfl rfl) rfl ((o_sort m6 (by omega)).mono ?_)
  rintro e9 w5 ⟨he, l', hpm, hup, m15, _, hct2, hb2⟩
  refine ⟨_, he, ?_⟩
  clear he
  have b5 := b2.trans hb2
  refine Fx.L.nil (Fx.seqN (Fx.W.seq (Fx.W.seq ?_)))
  obtain ⟨cc, ecc⟩ : ∃ cc : Nat, cc = min most.toNat (sinceL m V 6).length := ⟨_, rfl⟩
  have hcc : cc ≤ (sinceL m V 6).length := by omega
  refine Fx.W.list (Fx.L.v (.slice aa ((sinceL m V 6).length) (ca)) (Fx.x_move rfl h5) ?_)
  refine Fx.L.v (.int .i64 (most)) (Fx.x_move rfl h2) ?_
  refine Fx.L.v (.slice aa ((sinceL m V 6).length) (ca)) (Fx.x_move rfl h5) ?_
  refine Fx.L.v (.int .i64 ((((sinceL m V 6).length : Nat) : Int))) (Fx.x_len rfl rfl rfl (by kernel_rfl)) ?_
  refine Fx.L.v (.int .i64 (if (((sinceL m V 6).length : Nat) : Int) < most then (((sinceL m V 6).length : Nat) : Int) else most)) (Fx.x_min rfl rfl rfl) ?_
  refine Fx.L.v (.int .i64 ((cc : Int))) (Fx.runs_i (Fx.x_max rfl rfl rfl) (by split <;> split at * <;> omega)) ?_
  refine Fx.L.v (.slice aa (cc) (ca)) (Fx.x_hi (j := cc) (s := 15) rfl rfl rfl Try.underlying97 (by kernel_rfl) (by omega) m15) ?_
  refine Fx.L.v (.int .i64 ((cc : Int))) (Fx.x_len rfl rfl rfl (by kernel_rfl)) ?_
  refine Fx.L.v (.int .i64 (0)) (Fx.x_move rfl rfl) ?_
  refine Fx.L.nil (Fx.seqN (Fx.W.block ?_))
  have m16 : Fx.Own w5 w.heap.size 50 14 (.slice none 0 0) 0 (evX (fun q => (l'.getD q it0).e)) := Fx.Own.nil _ _ _ _ _
  refine Fx.W.loop (fun f w_ => ∃ i : Nat, ∃ oa : Option Addr, ∃ oc : Nat, i ≤ cc ∧ f 6 = .slice oa (i) (oc) ∧ f 40 = .slice aa (cc) (ca) ∧ f 41 = .int .i64 ((cc : Int)) ∧ f 42 = .int .i64 ((i : Int)) ∧ Fx.Own w_ w.heap.size 106 15 (.slice aa ((sinceL m V 6).length) (ca)) ((sinceL m V 6).length) (itX l') ∧ Fx.Own w_ w.heap.size 50 14 (.slice oa (i) (oc)) i (evX (fun q => (l'.getD q it0).e)) ∧ Below w.heap.size w w_) (fun f _ => (cc - (intOf (f 42)).toNat)) ⟨0, none, 0, by omega, h4, (by rfl), (by first | rfl | exact congrArg (Value.int .i64) (by omega)), (by first | rfl | exact congrArg (Value.int .i64) (by omega)), m15, m16, b5⟩ ?_
  rintro f2 w6 ⟨i, oa, oc, hi, h8, h9, h10, h11, m17, m18, b6⟩
  refine Fx.W.seq (Fx.W.list ?_)
  by_cases c43 : (i : Int) < (cc : Int)
  ·refine Fx.L.v (.bool true) (Fx.x_lssT rfl h11 h10 c43) ?_
   refine Fx.L.nil (Fx.seqN (Fx.W.seq (Fx.W.cond (b := true) rfl (fun _ => Fx.W.skip (Fx.seqN (Fx.W.seq (Fx.W.block (Fx.W.seq ?_))))) (fun h => nomatch h))))
   obtain ⟨bq, oq, eq, mq⟩ := (m17.arrLe (j := cc) (by omega)) (by omega)
   have lbq := mq.lt (by omega)
   refine Fx.W.list (Fx.L.v (.pointer (some ⟨bq, 15 * i + oq, none⟩)) (Fx.x_indexS rfl (h9.trans (congrArg (fun q => Value.slice q (cc) (ca)) eq)) h11 Try.underlying97 (s := 15) (by kernel_rfl) (by omega) (by omega) (by omega)) ?_)
   refine Fx.L.v (.agg (Fx.varr 15 (itY ((l').getD i it0)))) (Fx.x_loadA (x := itX l') (y := itY ((l').getD i it0)) rfl rfl (by kernel_rfl) (by kernel_rfl) mq (i := 15 * i) (by omega) (by omega) (fun jq hjq => Fx.flat_at (k := i) (by omega) hjq)) ?_
   refine Fx.L.new (m := 15) (y := fun zq => if zq < 1 then .int .i64 (0) else if zq < 8 then .int .u64 (0) else if zq < 9 then .int .u8 (0) else if zq < 10 then .int .u64 (0) else if zq < 12 then .int .i64 (0) else .int .u64 (0)) (by rfl) rfl (by kernel_rfl) rfl fun g2 w7 eg2 m19 s3 z2 => ?_
   have m20 := m17.stp s3 (m17.notNew (Nat.le_refl _))
   have m21 := m18.stp s3 (m18.notNew (Nat.le_refl _))
   have m22 := mq.stp s3 (Nat.ne_of_lt (mq.lt (by omega)))
   have b7 := s3.below b6 b6.size b6.size
   have lg2 : w.heap.size ≤ g2 := by rw [eg2]; exact b6.size
   have ng2m20 : (.slice aa ((sinceL m V 6).length) (ca) : Value).ownBlock ≠ some g2 := by rw [eg2]; exact m17.notNew (Nat.le_refl _)
   have ng2m22 : bq ≠ g2 := by rw [eg2]; exact Nat.ne_of_lt (mq.lt (by omega))
   have tg2 : g2 < w7.heap.size := m19.lt
   clear eg2
   refine Fx.L.storeA (x := fun zq => if zq < 1 then .int .i64 (0) else if zq < 8 then .int .u64 (0) else if zq < 9 then .int .u8 (0) else if zq < 10 then .int .u64 (0) else if zq < 12 then .int .i64 (0) else .int .u64 (0)) (y := itY ((l').getD i it0)) (by rfl) rfl rfl rfl rfl (fun j _ => itY_one _ j) (by kernel_rfl) m19 (i := 0) (by omega) fun w8 m23 s4 z3 => ?_
   have m24 : Fx.Blk w8 g2 15 (itY ((l').getD i it0)) 106 := Fx.ovr_all m23
   have m25 := m20.stp s4 ng2m20
   have hct3 := Fx.ChT.of_stp s4 m19.ty
   have m26 := m21.chT hct3 (by decide)
   have m27 := m22.stp s4 (by omega)
   have b8 := s4.below b7 b7.size (by omega)
   refine Fx.L.nil (Fx.seqN (Fx.W.list (Fx.L.v (.slice oa (i) (oc)) (Fx.x_move rfl h8) ?_)))
   refine Fx.L.v (.pointer (some ⟨g2, 0, none⟩)) (Fx.x_field rfl rfl Try.underlying106 rfl (s := 14) (by kernel_rfl) rfl rfl) ?_
   refine Fx.L.v (.agg (Fx.varr 14 (evY ((l').getD i it0).e))) (Fx.x_loadA (x := itY ((l').getD i it0)) (y := evY ((l').getD i it0).e) rfl rfl (by kernel_rfl) (by kernel_rfl) m24.cel (i := 0) (by omega) (by omega) (fun j hj => by rw [Nat.zero_add]; exact itY_ev _ hj rfl)) ?_
   refine Fx.L.bslice (vs := [(0, .agg (Fx.varr 14 (evY ((l').getD i it0).e)))]) (s := 14) (zc := fun zq => if zq < 1 then .int .i64 (0) else if zq < 8 then .int .u64 (0) else if zq < 9 then .int .u8 (0) else if zq < 10 then .int .u64 (0) else if zq < 12 then .int .i64 (0) else .int .u64 (0)) (y := Fx.ovr (fun j => (fun zq => if zq < 1 then .int .i64 (0) else if zq < 8 then .int .u64 (0) else if zq < 9 then .int .u8 (0) else if zq < 10 then .int .u64 (0) else if zq < 12 then .int .i64 (0) else .int .u64 (0)) (j % 14)) (0 * 14) 14 (evY ((l').getD i it0).e)) (by rfl) rfl rfl Try.underlying46 (by kernel_rfl) (by rfl) (by rfl) (by kernel_rfl) (by rw [Fx.fill_step (off := 0 * 14) (s := 14) (y := evY ((l').getD i it0).e) rfl (Fx.cells_agg _ _) (by rfl)]; rfl) rfl fun g3 w9 eg3 m28 s5 z4 => ?_
   have m29 := m25.stp s5 (m25.notNew (Nat.le_refl _))
   have m30 := m26.stp s5 (m26.notNew (Nat.le_refl _))
   have m31 := m24.stp s5 (Nat.ne_of_lt (m24.lt))
   have b9 := s5.below b8 b8.size b8.size
   have lg3 : w.heap.size ≤ g3 := by rw [eg3]; exact b8.size
   have ng3m30 : (.slice oa (i) (oc) : Value).ownBlock ≠ some g3 := by rw [eg3]; exact m26.notNew (Nat.le_refl _)
   have ng3m31 : g2 ≠ g3 := by rw [eg3]; exact Nat.ne_of_lt (m24.lt)
   have tg3 : g3 < w9.heap.size := m28.lt
   clear eg3
   refine Fx.L.app (B := w.heap.size) (s := 14) (bytes := 112) (k := i) (m := 1) (v := .slice oa (i) (oc)) (x := evX (fun q => (l'.getD q it0).e)) (by rfl) rfl rfl rfl Try.underlying46 (by kernel_rfl) (by kernel_rfl) rfl rfl m30 m28.cel (ev_bone _ _) (by omega) (by omega) (by omega) b9.size fun g4 cap2 w10 ho2 hg2 hgv2 hlt1 => ?_
   have hct4 := Fx.ChT.of_grown hg2 m30
   have m33 := m29.chT hct4 (by decide)
   have m34 := m31.chT hct4 (by decide)
   have m32 : Fx.Own w10 w.heap.size 50 14 (.slice (some ⟨g4, 0, none⟩) (i + 1) cap2) (i + 1) (evX (fun q => (l'.getD q it0).e)) := (ho2.congr (fun j hj => ev_next j hj))
   have b10 : Below w.heap.size w w10 := Fx.Below.grow b9 hg2 b9.size (fun q hq => (m30.ge hq).1)
   refine Fx.L.v (.slice (some ⟨g4, 0, none⟩) (i + 1) (cap2)) (Fx.x_assign rfl rfl) ?_
   refine Fx.L.nil (Fx.blkN (Fx.seqN (Fx.W.list (Fx.L.v (.int .i64 ((i : Int) + 1)) (Fx.x_add rfl h11 rfl (Fx.i64e (by omega) (by omega))) ?_))))
   refine Fx.L.v (.int .i64 ((i : Int) + 1)) (Fx.x_move rfl rfl) ?_
   refine Fx.L.nil ?_
   skip
   refine Fx.lpN ⟨i + 1, (some ⟨g4, 0, none⟩), cap2, by omega, (by rfl), h9, (h10.trans (by first | rfl | exact congrArg (Value.int .i64) (by omega))), (by first | rfl | exact congrArg (Value.int .i64) (by omega)), m33, m32, b10⟩ ?_
   show (cc - (intOf ((.int .i64 ((i : Int) + 1)))).toNat) < _
   simp only [h11, intOf]; omega
  ·refine Fx.L.v (.bool false) (Fx.x_lssF rfl h11 h10 c43) ?_
   refine Fx.L.nil (Fx.seqN (Fx.W.seq (Fx.W.cond (b := false) rfl (fun h => nomatch h) (fun _ => Fx.W.exit (Fx.seqX (Fx.lpX (Fx.blkX (Fx.seqN (Fx.W.seq (Fx.W.list (Fx.L.v (.slice oa (i) (oc)) (Fx.x_move rfl h8) ?_)))))))))))
   refine Fx.L.v (.slice oa (i) (oc)) (Fx.x_assign rfl rfl) ?_
   refine Fx.L.nil (Fx.seqN (Fx.W.ret (⟨.slice oa (i) (oc), Fx.retV1 Try.results29 (by exact rfl), ?_⟩)))
   have ei : i = cc := by omega
   subst ei
   exact ⟨_, _, _, l', rfl, m18, ⟨hpm, hup, ecc⟩, b6⟩
theorem o_since0 (V : Nat → Int) (most : Int) (w : World) :
    Calls Try.prog 29 #[.pointer none, .agg (Fx.varr 6 (Fx.rv .u64 V)), .int .i64 (most)] w fun e w' => e = .returned (.slice none 0 0) ∧ Below w.heap.size w w' := by
 refine Fx.enter Try.func29 rfl (n := 53) rfl (by rfl) ?_
 refine Fx.W.seq (Fx.W.list (Fx.L.box (m := 6) (y := Fx.rv .u64 V) (by rfl) rfl rfl (Fx.cells_agg _ _) rfl fun g1 w1 eg1 m1 s1 z1 => ?_))
 have b1 := s1.below (Below.refl w.heap.size w) (Below.refl w.heap.size w).size (Below.refl w.heap.size w).size
 have lg1 : w.heap.size ≤ g1 := by rw [eg1]; exact (Below.refl w.heap.size w).size
 have tg1 : g1 < w1.heap.size := m1.lt
 clear eg1
 refine Fx.L.v (.slice none 0 0) (Fx.x_assign rfl rfl) ?_
 refine Fx.L.nil (Fx.seqN (Fx.W.seq (Fx.W.seq (Fx.W.list (Fx.L.v (.pointer none) (Fx.x_move rfl rfl) ?_)))))
 refine Fx.L.v (.bool true) (Fx.x_eqNil' rfl rfl rfl (by kernel_rfl)) ?_
 refine Fx.L.nil (Fx.seqN (Fx.W.cond (b := true) rfl (fun _ => Fx.W.seq (Fx.W.list (Fx.L.v (.slice none 0 0) (Fx.x_assign rfl rfl) ?_))) (fun h => nomatch h)))
 refine Fx.L.nil (Fx.seqN (Fx.W.ret (Fx.seqR (⟨.slice none 0 0, Fx.retV1 Try.results29 (by exact rfl), ?_⟩))))
 exact ⟨rfl, b1⟩
end Go.Proofs.Ytleajegppehbdaa
namespace Go.Proofs.Ytleajegppehbdaa
open Go.RowKit Rt
namespace Rt
def keepB (V : Nat → Int) (x : ItM) : Bool := decide (V (regN x.e) < x.e.seq)
def ofB2 (i : Nat) (x : ItM) : Bool := decide (regN x.e = i)
structure Gs (m : LgM) (G : List ItM) : Prop where
  L : ∀ i, i < 6 → m.L i = G.filter (ofB2 i)
  tm : G.Pairwise (fun x y => x.tm < y.tm)
  tb : ∀ x ∈ G, x.tm < m.cnt
  may : ∀ x ∈ G, mayE x.e = true
  wf : ∀ x ∈ G, EvWf x.e
  seq : G.Pairwise (fun x y => regN x.e = regN y.e → x.e.seq < y.e.seq)
  kn : ∀ x ∈ G, x.e.seq ≤ m.K (regN x.e)
  kok : KnOk m.K
theorem Gs.new : Gs newL [] := ⟨fun _ _ => rfl, List.Pairwise.nil, fun _ h => (by cases h), fun _ h => (by cases h), fun _ h => (by cases h), List.Pairwise.nil, fun _ h => (by cases h), fun _ _ => ⟨Int.le_refl _, by show (0 : Int) < _; decide⟩⟩
theorem regN_may {v : EvM} (h : mayE v = true) : regN v < 6 ∧ v.o = (regN v : Int) + 1 := by
  obtain ⟨a, ha, ea⟩ := regE_nat (may_reg h)
  unfold regN
  omega
section
variable {m m' : LgM} {G : List ItM} {v : EvM} {V : Nat → Int}
theorem Gs.seqUp (h : Gs m G) : ∀ i, i < 6 → SeqUp (m.L i) := fun i hi q r hqr hr => by
  rw [h.L i hi] at hr ⊢
  have h1 := List.pairwise_iff_getElem.1 (h.seq.filter (ofB2 i)) q r (by omega) hr hqr
  have hm : ∀ k, (hk : k < (G.filter (ofB2 i)).length) → regN ((G.filter (ofB2 i))[k]).e = i := fun k hk => by
    have := (List.mem_filter.1 (List.getElem_mem hk)).2
    exact of_decide_eq_true this
  have h2 := h1 ((hm q (by omega)).trans (hm r hr).symm)
  rw [List.getD_eq_getElem?_getD, List.getD_eq_getElem?_getD, List.getElem?_eq_getElem (by omega), List.getElem?_eq_getElem hr]
  exact h2
theorem addG_ok (h : addG m v = 0) : mayE v = true ∧ readyE m.K v = true := by
  unfold addG at h
  cases h1 : mayE v with
  | false => rw [h1] at h; simp at h
  | true =>
    rw [h1] at h
    cases h2 : lateE m.K v with
    | true => rw [h2] at h; simp at h
    | false =>
      rw [h2] at h
      cases h3 : readyE m.K v with
      | false => rw [h3] at h; simp at h
      | true => exact ⟨rfl, rfl⟩
theorem ready_seq {K : Nat → Int} (h : readyE K v = true) : v.seq = K (regN v) + 1 ∧ ∀ i, i < 6 → v.deps i ≤ K i := by
  unfold readyE at h
  simp only [Bool.and_eq_true, decide_eq_true_eq] at h
  refine ⟨h.1.2, fun i hi => ?_⟩
  have := h.2
  unfold leAll at this
  rw [List.all_eq_true] at this
  exact of_decide_eq_true (this i (List.mem_range.2 hi))
theorem Gs.add (h : Gs m G) (ha : addG m v = 0) (hr : AddR m m' v) (hv : EvWf v) : Gs m' (G ++ [⟨v, m.cnt⟩]) := by
  obtain ⟨hm, hy⟩ := addG_ok ha
  obtain ⟨e1, e2, e3⟩ := hr
  obtain ⟨hs, _⟩ := ready_seq hy
  obtain ⟨hr6, _⟩ := regN_may hm
  have hsb := may_seq hm
  refine ⟨fun i hi => ?_, ?_, fun x hx => ?_, fun x hx => ?_, fun x hx => ?_, ?_, fun x hx => ?_, fun i hi => ?_⟩
  · rw [e3, List.filter_append]
    unfold updA
    by_cases e : i = regN v
    · subst e
      rw [if_pos rfl, h.L _ hi]
      simp [ofB2]
    · rw [if_neg e, h.L _ hi]
      simp [ofB2, Ne.symm e]
  · rw [List.pairwise_append]
    refine ⟨h.tm, List.pairwise_singleton _ _, fun x hx y hy => ?_⟩
    rw [List.mem_singleton.1 hy]
    exact h.tb x hx
  · rw [e2]
    rcases List.mem_append.1 hx with h1 | h1
    · have := h.tb x h1; omega
    · rw [List.mem_singleton.1 h1]; show m.cnt < _; omega
  · rcases List.mem_append.1 hx with h1 | h1
    · exact h.may x h1
    · rw [List.mem_singleton.1 h1]; exact hm
  · rcases List.mem_append.1 hx with h1 | h1
    · exact h.wf x h1
    · rw [List.mem_singleton.1 h1]; exact hv
  · rw [List.pairwise_append]
    refine ⟨h.seq, List.pairwise_singleton _ _, fun x hx y hy e => ?_⟩
    rw [List.mem_singleton.1 hy] at e ⊢
    have h1 := h.kn x hx
    show x.e.seq < v.seq
    have e : regN x.e = regN v := e
    rw [e] at h1
    omega
  · rw [e1]
    rcases List.mem_append.1 hx with h1 | h1
    · have h2 := h.kn x h1
      unfold upd
      split
      · rename_i e; rw [e] at h2; omega
      · exact h2
    · rw [List.mem_singleton.1 h1]
      show v.seq ≤ upd m.K (regN v) v.seq (regN v)
      unfold upd; rw [if_pos rfl]; exact Int.le_refl _
  · rw [e1]
    unfold upd
    split
    · omega
    · exact h.kok i hi
def catR (G : List ItM) : Nat → List ItM
  | 0 => []
  | k + 1 => catR G k ++ G.filter (ofB2 k)
theorem cat_perm (G : List ItM) : ∀ k, (catR G k).Perm (G.filter fun x => decide (regN x.e < k))
  | 0 => by simp [catR]
  | k + 1 => by
    have h1 := cat_perm G k
    have h2 := List.filter_append_perm (fun x => decide (regN x.e < k)) (G.filter fun x => decide (regN x.e < k + 1))
    rw [List.filter_filter, List.filter_filter] at h2
    have e1 : (G.filter fun x => decide (regN x.e < k) && decide (regN x.e < k + 1)) = G.filter fun x => decide (regN x.e < k) := by
      apply List.filter_congr; intro x _
      rw [Bool.eq_iff_iff]; simp; omega
    have e2 : (G.filter fun x => (!decide (regN x.e < k)) && decide (regN x.e < k + 1)) = G.filter (ofB2 k) := by
      apply List.filter_congr; intro x _
      unfold ofB2
      rw [Bool.eq_iff_iff]; simp; omega
    rw [e1, e2] at h2
    exact (h1.append_right _).trans h2
theorem cat_all (h : ∀ x ∈ G, regN x.e < 6) : (catR G 6).Perm G := by
  refine (cat_perm G 6).trans (List.Perm.of_eq ?_)
  rw [List.filter_eq_self]
  intro x hx
  exact decide_eq_true (h x hx)
theorem Gs.reg (h : Gs m G) : ∀ x ∈ G, regN x.e < 6 := fun x hx => (regN_may (h.may x hx)).1
theorem Gs.flt (h : Gs m G) (V : Nat → Int) {i : Nat} (hi : i < 6) : flt (m.L i) (V i) = (G.filter (keepB V)).filter (ofB2 i) := by
  unfold Rt.flt
  rw [h.L i hi, List.filter_filter, List.filter_filter]
  apply List.filter_congr
  intro x _
  unfold ofB2 keepB
  rw [Bool.eq_iff_iff]
  simp only [Bool.and_eq_true, decide_eq_true_eq]
  constructor
  · rintro ⟨a, b⟩; exact ⟨b, by rw [b]; exact a⟩
  · rintro ⟨a, b⟩; exact ⟨by rw [a] at b; exact b, a⟩
theorem Gs.sinceL (h : Gs m G) (V : Nat → Int) : ∀ k, k ≤ 6 → sinceL m V k = catR (G.filter (keepB V)) k
  | 0, _ => rfl
  | k + 1, hk => by
    show Rt.sinceL m V k ++ Rt.flt (m.L k) (V k) = _
    rw [h.sinceL V k (by omega), h.flt V (by omega)]; rfl
theorem Gs.since (h : Gs m G) {most : Int} {n : Nat} {l' : List ItM} (hs : SinceR m V most n l') : l' = G.filter (keepB V) ∧ n = min most.toNat (G.filter (keepB V)).length := by
  have h1 : (Rt.sinceL m V 6).Perm (G.filter (keepB V)) := by
    rw [h.sinceL V 6 (by omega)]
    exact cat_all fun x hx => h.reg x (List.mem_filter.1 hx).1
  have hp := hs.perm.trans h1
  refine ⟨?_, by rw [hs.n, h1.length_eq]⟩
  have ht := h.tm.filter (keepB V)
  refine List.Perm.eq_of_pairwise (le := fun x y : ItM => x.tm ≤ y.tm) (fun a b ha hb h2 h3 => ?_) hs.up (ht.imp fun h => Int.le_of_lt h) hp
  have ha := hp.subset ha
  obtain ⟨i, hi, ei⟩ := List.mem_iff_getElem.1 ha
  obtain ⟨j, hj, ej⟩ := List.mem_iff_getElem.1 hb
  rcases Nat.lt_trichotomy i j with h4 | h4 | h4
  · have := List.pairwise_iff_getElem.1 ht i j hi hj h4
    rw [ei, ej] at this; omega
  · subst h4; rw [← ei, ← ej]
  · have := List.pairwise_iff_getElem.1 ht j i hj hi h4
    rw [ei, ej] at this; omega
theorem Gs.lens (h : Gs m G) : ∀ k, k ≤ 6 → lenN m k = (catR G k).length
  | 0, _ => rfl
  | k + 1, hk => by
    show lenN m k + (m.L k).length = (catR G k ++ _).length
    rw [h.lens k (by omega), List.length_append, h.L k (by omega)]
theorem Gs.len (h : Gs m G) : lenN m 6 = G.length := by rw [h.lens 6 (by omega)]; exact (cat_all h.reg).length_eq
theorem Gs.get (h : Gs m G) {i q : Int} {b : Bool} (hg : GetR m i q v b) : (b = true ∧ ∃ x ∈ G, x.e = v ∧ v.o = i ∧ v.seq = q) ∨ (b = false ∧ v = zeroE ∧ ∀ x ∈ G, ¬ (x.e.o = i ∧ x.e.seq = q)) := by
  rcases hg with ⟨hb, hr, r, hlt, hv, hs⟩ | ⟨hb, hv, hn⟩
  · obtain ⟨a, ha, ea⟩ := regE_nat hr
    have e : (i - 1).toNat = a := by omega
    rw [e] at hlt hv
    refine .inl ⟨hb, (m.L a).getD r it0, ?_, hv.symm, ?_, hs⟩
    · have h1 : (m.L a).getD r it0 ∈ m.L a := by rw [List.getD_eq_getElem?_getD, List.getElem?_eq_getElem hlt]; exact List.getElem_mem hlt
      rw [h.L a ha] at h1 ⊢
      exact (List.mem_filter.1 h1).1
    · have h1 : (m.L a).getD r it0 ∈ m.L a := by rw [List.getD_eq_getElem?_getD, List.getElem?_eq_getElem hlt]; exact List.getElem_mem hlt
      rw [h.L a ha] at h1
      have h2 := List.mem_filter.1 h1
      rw [← h.L a ha] at h2
      have h3 := regN_may (h.may _ h2.1)
      have h4 : regN ((m.L a).getD r it0).e = a := of_decide_eq_true h2.2
      rw [hv]; omega
  · refine .inr ⟨hb, hv, fun x hx ⟨e1, e2⟩ => ?_⟩
    have h3 := regN_may (h.may x hx)
    have h5 := may_seq (h.may x hx)
    rcases hn with h1 | h1 | h1
    · have := may_reg (h.may x hx); rw [e1, h1] at this; cases this
    · omega
    · have e : (i - 1).toNat = regN x.e := by omega
      rw [e] at h1
      have h6 : x ∈ m.L (regN x.e) := by rw [h.L _ h3.1]; exact List.mem_filter.2 ⟨hx, decide_eq_true rfl⟩
      obtain ⟨r, hr, er⟩ := List.mem_iff_getElem.1 h6
      refine h1 r hr ?_
      rw [List.getD_eq_getElem?_getD, List.getElem?_eq_getElem hr, er]; exact e2
theorem Gs.uniq (h : Gs m G) {x y : ItM} (hx : x ∈ G) (hy : y ∈ G) (e1 : x.e.o = y.e.o) (e2 : x.e.seq = y.e.seq) : x = y := by
  obtain ⟨i, hi, ei⟩ := List.mem_iff_getElem.1 hx
  obtain ⟨j, hj, ej⟩ := List.mem_iff_getElem.1 hy
  have er : regN x.e = regN y.e := by unfold regN; rw [e1]
  rcases Nat.lt_trichotomy i j with h4 | h4 | h4
  · have := List.pairwise_iff_getElem.1 h.seq i j hi hj h4
    rw [ei, ej] at this; have := this er; omega
  · subst h4; rw [← ei, ← ej]
  · have := List.pairwise_iff_getElem.1 h.seq j i hj hi h4
    rw [ei, ej] at this; have := this er.symm; omega
end
end Rt
end Go.Proofs.Ytleajegppehbdaa
namespace Go.Proofs.Ytleajegppehbdaa
open Go.RowKit Rt
namespace Rt
structure RlM where
  a : Option Addr
  c : Nat
  R : List EvM
  K : Nat → Int
def evL (R : List EvM) : Nat → Value := Fx.flat 14 fun q => evY (R.getD q zeroE)
def rlY (r : RlM) : Nat → Value := fun p => if p = 0 then .slice r.a r.R.length r.c else .int .u64 (r.K (p - 1))
structure RlO (w : World) (B q : Nat) (r : RlM) (T : Nat) : Prop where
  blk : Fx.Blk w q 7 (rlY r) 48
  own : Fx.Own w B 50 14 (.slice r.a r.R.length r.c) r.R.length (evL r.R)
  gp : B ≤ q
  len : r.R.length ≤ T
  may : ∀ v ∈ r.R, mayE v = true
  wf : ∀ v ∈ r.R, EvWf v
  kok : KnOk r.K
def rlS (q : Nat) (r : RlM) (k : Nat) : Prop := k = q ∨ (Value.slice r.a r.R.length r.c).ownBlock = some k
section
variable {w w' : World} {B q T : Nat} {r : RlM}
theorem RlO.up (h : RlO w B q r T) (hb : Below w.heap.size w w') : RlO w' B q r T := { h with blk := h.blk.stp (Fx.Stp.of_below hb) (Nat.ne_of_lt h.blk.lt), own := h.own.up hb }
theorem RlO.chT {Ts : List TypeId} (h : RlO w B q r T) (hs : Fx.ChT Ts w w') (h1 : Ts.contains 50 = false ∧ Ts.contains 48 = false) : RlO w' B q r T := { h with blk := h.blk.chT hs h1.2, own := h.own.chT hs h1.1 }
theorem RlO.mono {T' : Nat} (h : RlO w B q r T) (hT : T ≤ T') : RlO w B q r T' := { h with len := Nat.le_trans h.len hT }
theorem RlO.ge (h : RlO w B q r T) : ∀ k, rlS q r k → B ≤ k ∧ k < w.heap.size := fun k hk => by
  rcases hk with rfl | e
  · exact ⟨h.gp, h.blk.lt⟩
  · exact h.own.ge e
theorem RlO.chm (h : RlO w B q r T) (hs : Fx.Chg (rlS q r) w w') : Fx.ChT [50, 48] w w' := Fx.ChT.of_chg hs fun k hk => by
  rcases hk with rfl | e
  · exact ⟨_, h.blk.ty, by decide⟩
  · exact ⟨_, h.own.ty e, by decide⟩
theorem RlO.below (h : RlO w B q r T) (hB : B ≤ w.heap.size) (hs : Fx.Chg (rlS q r) w w') : Below B w w' := Fx.Chg.below (Below.refl B w) hs (fun k hk => (h.ge k hk).1) hB
end
def addK (K : Nat → Int) (v : EvM) : Int := if mayE v = false then 1 else if lateE K v = true then 14 else if readyE K v = false then 13 else 0
theorem addG_K (m : LgM) (v : EvM) : addG m v = addK m.K v := rfl
end Rt
open Rt
end Go.Proofs.Ytleajegppehbdaa
