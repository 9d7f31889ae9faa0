/-
  What the proof of the law rests on, part 2: walks of functions, and plain laws; each says its conditions itself.
-/
import Derived.MapKept
import Derived.Maps.RangeRun
import Derived.BigRegion
import Derived.Deep.DeepCutAuto
import Derived.Test.YtleajegppehbdaaZF1
namespace Go.Proofs.Ytleajegppehbdaa
open Go.RowKit Rt
open Fx (x_move x_assign x_field x_load1 x_pickF x_pickT x_nil x_conv x_indexS x_index x_leqF x_loadA x_len x_gtrF x_build x_eqlF x_eqlT Lv sN Ln Ws Qv Wl Wc Qs Wr Sb Lk Wk rC rV sR)
set_option linter.unusedSimpArgs false in
set_option maxHeartbeats 2000000 in
theorem e_fields (v : EvM) (w : World) :
    Calls Try.prog 65 #[.agg (Fx.varr 14 (evY v))] w fun e w' => e = .returned (.bool (fieldsE v)) ∧ Below w.heap.size w w' := by
 refine Fx.enter Try.func65 rfl (n := 75) rfl (by rfl) ?_
 refine Ws (Wl (Fx.L.box (m := 14) (y := evY v) (by rfl) rfl rfl (Fx.cells_agg _ _) rfl fun g1 w1 eg1 m1 s1 z1 => ?_))
 have b1 := s1.below (Below.refl w.heap.size w) (Below.refl w.heap.size w).size (Below.refl w.heap.size w).size
 have lg1 : w.heap.size ≤ g1 := by rw [eg1]; exact (Below.refl w.heap.size w).size
 have tg1 : g1 < w1.heap.size := m1.lt
 clear eg1
 refine Lv (.bool false) (x_assign rfl rfl) (Ln (sN (Fx.W.seqJ (fun f w_ => f 1 = (pt g1) ∧ f 3 = .bool (someE v) ∧ Fx.Blk w_ g1 14 (evY v) 50 ∧ Below w.heap.size w w_) ?_ ?_)))
 ·refine Wl (Lv ((pf g1 11)) (x_field rfl rfl Try.underlying50 rfl (s := 1) (by kernel_rfl) rfl (by show _ + 11 = _; omega)) (Lv (.int .i64 (v.amt)) (x_load1 (x := evY v) rfl rfl (by kernel_rfl) m1.cel (i := 11) (by omega) (by omega) rfl) ?_))
  by_cases c7 : 1 ≤ v.amt
  ·refine Lv (.bool true) (Fx.x_geqT rfl rfl rfl c7) (Lv (.bool true) (x_move rfl rfl) (Lv ((pf g1 11)) (x_field rfl rfl Try.underlying50 rfl (s := 1) (by kernel_rfl) rfl (by show _ + 11 = _; omega)) (Lv (.int .i64 (v.amt)) (x_load1 (x := evY v) rfl rfl (by kernel_rfl) m1.cel (i := 11) (by omega) (by omega) rfl) ?_)))
   by_cases c11 : v.amt ≤ 1125899906842624
   ·refine Lv (.bool true) (Fx.x_leqT rfl rfl rfl c11) (Lv (.bool true) (x_pickT rfl rfl rfl) (Lv (.bool true) (x_assign rfl rfl) (Ln ?_)))
    exact Fx.jnN ⟨(by rfl), (by show Value.bool true = Value.bool (someE v); unfold someE; rw [decide_eq_true c7, decide_eq_true c11]; rfl), m1, b1⟩
   refine Lv (.bool false) (x_leqF rfl rfl rfl c11) (Lv (.bool false) (x_pickT rfl rfl rfl) (Lv (.bool false) (x_assign rfl rfl) (Ln ?_)))
   exact Fx.jnN ⟨(by rfl), (by show Value.bool false = Value.bool (someE v); unfold someE; rw [decide_eq_true c7, decide_eq_false c11]; rfl), m1, b1⟩
  refine Lv (.bool false) (Fx.x_geqF rfl rfl rfl c7) (Lv (.bool false) (x_move rfl rfl) (Lk (by rfl) rfl (Lk (by rfl) rfl (Lk (by rfl) rfl (Lv (.bool false) (x_pickF rfl rfl rfl) (Lv (.bool false) (x_assign rfl rfl) (Ln ?_)))))))
  exact Fx.jnN ⟨(by rfl), (by show Value.bool false = Value.bool (someE v); unfold someE; rw [decide_eq_false c7]; rfl), m1, b1⟩
 rintro f1 w2 ⟨h1, h2, m2, b2⟩
 refine Fx.W.seqJ (fun f w_ => f 1 = (pt g1) ∧ f 3 = .bool (someE v) ∧ f 4 = .bool (otherE v) ∧ Fx.Blk w_ g1 14 (evY v) 50 ∧ Below w.heap.size w w_) ?_ ?_
 ·refine Wl (Lv ((pf g1 10)) (x_field rfl h1 Try.underlying50 rfl (s := 1) (by kernel_rfl) rfl (by show _ + 10 = _; omega)) (Lv (.int .i64 (v.dst)) (x_load1 (x := evY v) rfl rfl (by kernel_rfl) m2.cel (i := 10) (by omega) (by omega) rfl) ?_))
  by_cases c15 : (regE v.dst) = true
  ·refine Fx.L.call (by rfl) (rC (args := [.int .i64 (v.dst)]) rfl rfl Try.func63 rfl rfl) rfl ((e_region v.dst _).mono ?_)
   rintro e v1 ⟨he, hv1⟩
   subst v1
   refine ⟨.bool true, by rw [he, c15], ?_⟩
   clear he
   refine Lv (.bool true) (x_move rfl rfl) (Lv ((pf g1 10)) (x_field rfl h1 Try.underlying50 rfl (s := 1) (by kernel_rfl) rfl (by show _ + 10 = _; omega)) (Lv (.int .i64 (v.dst)) (x_load1 (x := evY v) rfl rfl (by kernel_rfl) m2.cel (i := 10) (by omega) (by omega) rfl) (Lv ((pt g1)) (x_field rfl h1 Try.underlying50 rfl (s := 1) (by kernel_rfl) rfl rfl) (Lv (.int .i64 (v.o)) (x_load1 (x := evY v) rfl rfl (by kernel_rfl) m2.cel (i := 0) (by omega) (by omega) rfl) ?_))))
   by_cases c21 : v.dst = v.o
   ·refine Lv (.bool false) (Fx.x_neqF rfl rfl rfl c21) (Lv (.bool false) (x_pickT rfl rfl rfl) (Lv (.bool false) (x_assign rfl rfl) (Ln ?_)))
    exact Fx.jnN ⟨h1, h2, (by show Value.bool false = Value.bool (otherE v); unfold otherE; rw [c15, decide_eq_true c21]; rfl), m2, b2⟩
   refine Lv (.bool true) (Fx.x_neqT rfl rfl rfl c21) (Lv (.bool true) (x_pickT rfl rfl rfl) (Lv (.bool true) (x_assign rfl rfl) (Ln ?_)))
   exact Fx.jnN ⟨h1, h2, (by show Value.bool true = Value.bool (otherE v); unfold otherE; rw [c15, decide_eq_false c21]; rfl), m2, b2⟩
  rw [Bool.not_eq_true] at c15
  refine Fx.L.call (by rfl) (rC (args := [.int .i64 (v.dst)]) rfl rfl Try.func63 rfl rfl) rfl ((e_region v.dst _).mono ?_)
  rintro e v1 ⟨he, hv1⟩
  subst v1
  refine ⟨.bool false, by rw [he, c15], ?_⟩
  clear he
  refine Lv (.bool false) (x_move rfl rfl) (Lk (by rfl) rfl (Lk (by rfl) rfl (Lk (by rfl) rfl (Lk (by rfl) rfl (Lk (by rfl) rfl (Lv (.bool false) (x_pickF rfl rfl rfl) (Lv (.bool false) (x_assign rfl rfl) (Ln ?_))))))))
  exact Fx.jnN ⟨h1, h2, (by show Value.bool false = Value.bool (otherE v); unfold otherE; rw [c15]; rfl), m2, b2⟩
 rintro f2 w3 ⟨h3, h4, h5, m3, b3⟩
 refine Ws (Ws (Wl (Lv ((pf g1 8)) (x_field rfl h3 Try.underlying50 rfl (s := 1) (by kernel_rfl) rfl (by show _ + 8 = _; omega)) (Lv (.int .u8 (v.kind)) (x_load1 (x := evY v) rfl rfl (by kernel_rfl) m3.cel (i := 8) (by omega) (by omega) rfl) (Ln (sN (Fx.W.block (Ws (Wl ?_)))))))))
 by_cases c26 : v.kind = 1
 ·refine Lv (.bool true) (x_eqlT rfl rfl rfl c26) (Lv (.bool true) (x_assign rfl rfl) (Ln (sN (Wc (b := true) rfl (fun _ => Ws (Wl (Lv ((pf g1 11)) (x_field rfl h3 Try.underlying50 rfl (s := 1) (by kernel_rfl) rfl (by show _ + 11 = _; omega)) ?_))) (fun h => nomatch h)))))
  refine Lv (.int .i64 (v.amt)) (x_load1 (x := evY v) rfl rfl (by kernel_rfl) m3.cel (i := 11) (by omega) (by omega) rfl) ?_
  by_cases c29 : 0 ≤ v.amt
  ·refine Lv (.bool true) (Fx.x_geqT rfl rfl rfl c29) (Lv (.bool true) (x_move rfl rfl) (Lv ((pf g1 11)) (x_field rfl h3 Try.underlying50 rfl (s := 1) (by kernel_rfl) rfl (by show _ + 11 = _; omega)) (Lv (.int .i64 (v.amt)) (x_load1 (x := evY v) rfl rfl (by kernel_rfl) m3.cel (i := 11) (by omega) (by omega) rfl) ?_)))
   by_cases c33 : v.amt ≤ 1125899906842624
   ·refine Lv (.bool true) (Fx.x_leqT rfl rfl rfl c33) (Lv (.bool true) (x_pickT rfl rfl rfl) (Lv (.bool true) (x_assign rfl rfl) (Ln (sN (Wr (Fx.blkR (sR (⟨.bool true, rV Try.results65 (by exact rfl), ?_⟩))))))))
    exact ⟨congrArg (fun q => Ending.returned (Value.bool q)) (Eq.symm (by unfold fieldsE; first | (rw [if_pos c26]; done) | (rw [if_pos c26]; first | (simp [c29, c33]; done) | (simp [c29, c33]; omega)))), b3⟩
   refine Lv (.bool false) (x_leqF rfl rfl rfl c33) (Lv (.bool false) (x_pickT rfl rfl rfl) (Lv (.bool false) (x_assign rfl rfl) (Ln (sN (Wr (Fx.blkR (sR (⟨.bool false, rV Try.results65 (by exact rfl), ?_⟩))))))))
   exact ⟨congrArg (fun q => Ending.returned (Value.bool q)) (Eq.symm (by unfold fieldsE; first | (rw [if_pos c26]; done) | (rw [if_pos c26]; first | (simp [c29, c33]; done) | (simp [c29, c33]; omega)))), b3⟩
  refine Lv (.bool false) (Fx.x_geqF rfl rfl rfl c29) (Lv (.bool false) (x_move rfl rfl) (Lk (by rfl) rfl (Lk (by rfl) rfl (Lk (by rfl) rfl (Lv (.bool false) (x_pickF rfl rfl rfl) (Lv (.bool false) (x_assign rfl rfl) (Ln (sN (Wr (Fx.blkR (sR (⟨.bool false, rV Try.results65 (by exact rfl), ?_⟩))))))))))))
  exact ⟨congrArg (fun q => Ending.returned (Value.bool q)) (Eq.symm (by unfold fieldsE; first | (rw [if_pos c26]; done) | (rw [if_pos c26]; first | (simp [c29]; done) | (simp [c29]; omega)))), b3⟩
 refine Lv (.bool false) (x_eqlF rfl rfl rfl c26) (Lv (.bool false) (x_assign rfl rfl) (Ln (sN (Wc (b := false) rfl (fun h => nomatch h) (fun _ => Ws (Wl ?_))))))
 by_cases c36 : v.kind = 2
 ·refine Lv (.bool true) (x_eqlT rfl rfl rfl c36) (Lv (.bool true) (x_assign rfl rfl) (Ln (sN (Wc (b := true) rfl (fun _ => Ws (Wl (Lv (.bool (someE v)) (x_move rfl h4) ?_))) (fun h => nomatch h)))))
  refine Lv (.bool (someE v)) (x_assign rfl rfl) (Ln (sN (Wr (Fx.blkR (sR (⟨.bool (someE v), rV Try.results65 (by exact rfl), ?_⟩))))))
  exact ⟨congrArg (fun q => Ending.returned (Value.bool q)) (Eq.symm (by unfold fieldsE; first | (rw [if_neg c26, if_pos c36]; done) | (rw [if_neg c26, if_pos c36]; first | (simp []; done) | (simp []; omega)))), b3⟩
 refine Lv (.bool false) (x_eqlF rfl rfl rfl c36) (Lv (.bool false) (x_assign rfl rfl) (Ln (sN (Wc (b := false) rfl (fun h => nomatch h) (fun _ => Ws (Wl ?_))))))
 by_cases c39 : v.kind = 3
 ·refine Lv (.bool true) (x_eqlT rfl rfl rfl c39) (Lv (.bool true) (x_assign rfl rfl) (Ln (sN (Wc (b := true) rfl (fun _ => Ws (Wl ?_)) (fun h => nomatch h)))))
  by_cases c40 : (someE v) = true
  ·refine Lv (.bool true) (x_move rfl (h4.trans (congrArg Value.bool c40))) (Lv (.bool true) (x_move rfl rfl) (Lv ((pf g1 12)) (x_field rfl h3 Try.underlying50 rfl (s := 1) (by kernel_rfl) rfl (by show _ + 12 = _; omega)) (Lv (.int .u64 (v.req)) (x_load1 (x := evY v) rfl rfl (by kernel_rfl) m3.cel (i := 12) (by omega) (by omega) rfl) ?_)))
   by_cases c44 : 1 ≤ v.req
   ·refine Lv (.bool true) (Fx.x_geqT rfl rfl rfl c44) (Lv (.bool true) (x_pickT rfl rfl rfl) (Lv (.bool true) (x_assign rfl rfl) (Ln (sN (Wr (Fx.blkR (sR (⟨.bool true, rV Try.results65 (by exact rfl), ?_⟩))))))))
    exact ⟨congrArg (fun q => Ending.returned (Value.bool q)) (Eq.symm (by unfold fieldsE; first | (rw [if_neg c26, if_neg c36, if_pos c39]; done) | (rw [if_neg c26, if_neg c36, if_pos c39]; first | (simp [c40, c44]; done) | (simp [c40, c44]; omega)))), b3⟩
   refine Lv (.bool false) (Fx.x_geqF rfl rfl rfl c44) (Lv (.bool false) (x_pickT rfl rfl rfl) (Lv (.bool false) (x_assign rfl rfl) (Ln (sN (Wr (Fx.blkR (sR (⟨.bool false, rV Try.results65 (by exact rfl), ?_⟩))))))))
   exact ⟨congrArg (fun q => Ending.returned (Value.bool q)) (Eq.symm (by unfold fieldsE; first | (rw [if_neg c26, if_neg c36, if_pos c39]; done) | (rw [if_neg c26, if_neg c36, if_pos c39]; first | (simp [c40, c44]; done) | (simp [c40, c44]; omega)))), b3⟩
  rw [Bool.not_eq_true] at c40
  refine Lv (.bool false) (x_move rfl (h4.trans (congrArg Value.bool c40))) (Lv (.bool false) (x_move rfl rfl) (Lk (by rfl) rfl (Lk (by rfl) rfl (Lk (by rfl) rfl (Lv (.bool false) (x_pickF rfl rfl rfl) (Lv (.bool false) (x_assign rfl rfl) (Ln (sN (Wr (Fx.blkR (sR (⟨.bool false, rV Try.results65 (by exact rfl), ?_⟩))))))))))))
  exact ⟨congrArg (fun q => Ending.returned (Value.bool q)) (Eq.symm (by unfold fieldsE; first | (rw [if_neg c26, if_neg c36, if_pos c39]; done) | (rw [if_neg c26, if_neg c36, if_pos c39]; first | (simp [c40]; done) | (simp [c40]; omega)))), b3⟩
 refine Lv (.bool false) (x_eqlF rfl rfl rfl c39) (Lv (.bool false) (x_assign rfl rfl) (Ln (sN (Wc (b := false) rfl (fun h => nomatch h) (fun _ => Ws (Wl ?_))))))
 by_cases c47 : v.kind = 4
 ·refine Lv (.bool true) (x_eqlT rfl rfl rfl c47) (Lv (.bool true) (x_assign rfl rfl) (Ln (sN (Wc (b := true) rfl (fun _ => Ws (Wl (Lv ((pf g1 12)) (x_field rfl h3 Try.underlying50 rfl (s := 1) (by kernel_rfl) rfl (by show _ + 12 = _; omega)) ?_))) (fun h => nomatch h)))))
  refine Lv (.int .u64 (v.req)) (x_load1 (x := evY v) rfl rfl (by kernel_rfl) m3.cel (i := 12) (by omega) (by omega) rfl) ?_
  by_cases c50 : 1 ≤ v.req
  ·refine Lv (.bool true) (Fx.x_geqT rfl rfl rfl c50) (Lv (.bool true) (x_move rfl rfl) (Lv ((pf g1 13)) (x_field rfl h3 Try.underlying50 rfl (s := 1) (by kernel_rfl) rfl (by show _ + 13 = _; omega)) (Lv (.int .u64 (v.of)) (x_load1 (x := evY v) rfl rfl (by kernel_rfl) m3.cel (i := 13) (by omega) (by omega) rfl) ?_)))
   by_cases c54 : 1 ≤ v.of
   ·refine Lv (.bool true) (Fx.x_geqT rfl rfl rfl c54) (Lv (.bool true) (x_pickT rfl rfl rfl) (Lv (.bool true) (x_move rfl rfl) (Lv ((pf g1 12)) (x_field rfl h3 Try.underlying50 rfl (s := 1) (by kernel_rfl) rfl (by show _ + 12 = _; omega)) (Lv (.int .u64 (v.req)) (x_load1 (x := evY v) rfl rfl (by kernel_rfl) m3.cel (i := 12) (by omega) (by omega) rfl) (Lv ((pf g1 13)) (x_field rfl h3 Try.underlying50 rfl (s := 1) (by kernel_rfl) rfl (by show _ + 13 = _; omega)) (Lv (.int .u64 (v.of)) (x_load1 (x := evY v) rfl rfl (by kernel_rfl) m3.cel (i := 13) (by omega) (by omega) rfl) ?_))))))
    by_cases c61 : v.req = v.of
    ·refine Lv (.bool false) (Fx.x_neqF rfl rfl rfl c61) (Lv (.bool false) (x_pickT rfl rfl rfl) (Lv (.bool false) (x_assign rfl rfl) (Ln (sN (Wr (Fx.blkR (sR (⟨.bool false, rV Try.results65 (by exact rfl), ?_⟩))))))))
     exact ⟨congrArg (fun q => Ending.returned (Value.bool q)) (Eq.symm (by unfold fieldsE; first | (rw [if_neg c26, if_neg c36, if_neg c39, if_pos c47]; done) | (rw [if_neg c26, if_neg c36, if_neg c39, if_pos c47]; first | (simp [c50, c54, c61]; done) | (simp [c50, c54, c61]; omega)))), b3⟩
    refine Lv (.bool true) (Fx.x_neqT rfl rfl rfl c61) (Lv (.bool true) (x_pickT rfl rfl rfl) (Lv (.bool true) (x_assign rfl rfl) (Ln (sN (Wr (Fx.blkR (sR (⟨.bool true, rV Try.results65 (by exact rfl), ?_⟩))))))))
    exact ⟨congrArg (fun q => Ending.returned (Value.bool q)) (Eq.symm (by unfold fieldsE; first | (rw [if_neg c26, if_neg c36, if_neg c39, if_pos c47]; done) | (rw [if_neg c26, if_neg c36, if_neg c39, if_pos c47]; first | (simp [c50, c54, c61]; done) | (simp [c50, c54, c61]; omega)))), b3⟩
   refine Lv (.bool false) (Fx.x_geqF rfl rfl rfl c54) (Lv (.bool false) (x_pickT rfl rfl rfl) (Lv (.bool false) (x_move rfl rfl) (Lk (by rfl) rfl (Lk (by rfl) rfl (Lk (by rfl) rfl (Lk (by rfl) rfl (Lk (by rfl) rfl (Lv (.bool false) (x_pickF rfl rfl rfl) (Lv (.bool false) (x_assign rfl rfl) (Ln (sN (Wr (Fx.blkR (sR (⟨.bool false, rV Try.results65 (by exact rfl), ?_⟩)))))))))))))))
   exact ⟨congrArg (fun q => Ending.returned (Value.bool q)) (Eq.symm (by unfold fieldsE; first | (rw [if_neg c26, if_neg c36, if_neg c39, if_pos c47]; done) | (rw [if_neg c26, if_neg c36, if_neg c39, if_pos c47]; first | (simp [c50, c54]; done) | (simp [c50, c54]; omega)))), b3⟩
  refine Lv (.bool false) (Fx.x_geqF rfl rfl rfl c50) (Lv (.bool false) (x_move rfl rfl) (Lk (by rfl) rfl (Lk (by rfl) rfl (Lk (by rfl) rfl (Lv (.bool false) (x_pickF rfl rfl rfl) (Lv (.bool false) (x_move rfl rfl) (Lk (by rfl) rfl (Lk (by rfl) rfl (Lk (by rfl) rfl (Lk (by rfl) rfl (Lk (by rfl) rfl (Lv (.bool false) (x_pickF rfl rfl rfl) (Lv (.bool false) (x_assign rfl rfl) (Ln (sN (Wr (Fx.blkR (sR (⟨.bool false, rV Try.results65 (by exact rfl), ?_⟩)))))))))))))))))))
  exact ⟨congrArg (fun q => Ending.returned (Value.bool q)) (Eq.symm (by unfold fieldsE; first | (rw [if_neg c26, if_neg c36, if_neg c39, if_pos c47]; done) | (rw [if_neg c26, if_neg c36, if_neg c39, if_pos c47]; first | (simp [c50]; done) | (simp [c50]; omega)))), b3⟩
 refine Lv (.bool false) (x_eqlF rfl rfl rfl c47) (Lv (.bool false) (x_assign rfl rfl) (Ln (sN (Wc (b := false) rfl (fun h => nomatch h) (fun _ => Ws (Wl ?_))))))
 by_cases c64 : v.kind = 5
 ·refine Lv (.bool true) (x_eqlT rfl rfl rfl c64) (Lv (.bool true) (x_assign rfl rfl) (Ln (sN (Wc (b := true) rfl (fun _ => Ws (Wl ?_)) (fun h => nomatch h)))))
  by_cases c65 : (someE v) = true
  ·refine Lv (.bool true) (x_move rfl (h4.trans (congrArg Value.bool c65))) (Lv (.bool true) (x_move rfl rfl) ?_)
   by_cases c67 : (otherE v) = true
   ·refine Lv (.bool true) (x_move rfl (h5.trans (congrArg Value.bool c67))) (Lv (.bool true) (x_pickT rfl rfl rfl) (Lv (.bool true) (x_assign rfl rfl) (Ln (sN (Wr (Fx.blkR (sR (⟨.bool true, rV Try.results65 (by exact rfl), ?_⟩))))))))
    exact ⟨congrArg (fun q => Ending.returned (Value.bool q)) (Eq.symm (by unfold fieldsE; first | (rw [if_neg c26, if_neg c36, if_neg c39, if_neg c47, if_pos c64]; done) | (rw [if_neg c26, if_neg c36, if_neg c39, if_neg c47, if_pos c64]; first | (simp [c65, c67]; done) | (simp [c65, c67]; omega)))), b3⟩
   rw [Bool.not_eq_true] at c67
   refine Lv (.bool false) (x_move rfl (h5.trans (congrArg Value.bool c67))) (Lv (.bool false) (x_pickT rfl rfl rfl) (Lv (.bool false) (x_assign rfl rfl) (Ln (sN (Wr (Fx.blkR (sR (⟨.bool false, rV Try.results65 (by exact rfl), ?_⟩))))))))
   exact ⟨congrArg (fun q => Ending.returned (Value.bool q)) (Eq.symm (by unfold fieldsE; first | (rw [if_neg c26, if_neg c36, if_neg c39, if_neg c47, if_pos c64]; done) | (rw [if_neg c26, if_neg c36, if_neg c39, if_neg c47, if_pos c64]; first | (simp [c65, c67]; done) | (simp [c65, c67]; omega)))), b3⟩
  rw [Bool.not_eq_true] at c65
  refine Lv (.bool false) (x_move rfl (h4.trans (congrArg Value.bool c65))) (Lv (.bool false) (x_move rfl rfl) (Lk (by rfl) rfl (Lv (.bool false) (x_pickF rfl rfl rfl) (Lv (.bool false) (x_assign rfl rfl) (Ln (sN (Wr (Fx.blkR (sR (⟨.bool false, rV Try.results65 (by exact rfl), ?_⟩))))))))))
  exact ⟨congrArg (fun q => Ending.returned (Value.bool q)) (Eq.symm (by unfold fieldsE; first | (rw [if_neg c26, if_neg c36, if_neg c39, if_neg c47, if_pos c64]; done) | (rw [if_neg c26, if_neg c36, if_neg c39, if_neg c47, if_pos c64]; first | (simp [c65]; done) | (simp [c65]; omega)))), b3⟩
 refine Lv (.bool false) (x_eqlF rfl rfl rfl c64) (Lv (.bool false) (x_assign rfl rfl) (Ln (sN (Wc (b := false) rfl (fun h => nomatch h) (fun _ => Ws (Wl ?_))))))
 by_cases c70 : v.kind = 6
 ·refine Lv (.bool true) (x_eqlT rfl rfl rfl c70) (Lv (.bool true) (x_assign rfl rfl) (Ln (sN (Wc (b := true) rfl (fun _ => Ws (Wl (Lv (.bool (otherE v)) (x_move rfl h5) ?_))) (fun h => nomatch h)))))
  refine Lv (.bool (otherE v)) (x_assign rfl rfl) (Ln (sN (Wr (Fx.blkR (sR (⟨.bool (otherE v), rV Try.results65 (by exact rfl), ?_⟩))))))
  exact ⟨congrArg (fun q => Ending.returned (Value.bool q)) (Eq.symm (by unfold fieldsE; first | (rw [if_neg c26, if_neg c36, if_neg c39, if_neg c47, if_neg c64, if_pos c70]; done) | (rw [if_neg c26, if_neg c36, if_neg c39, if_neg c47, if_neg c64, if_pos c70]; first | (simp []; done) | (simp []; omega)))), b3⟩
 refine Lv (.bool false) (x_eqlF rfl rfl rfl c70) (Lv (.bool false) (x_assign rfl rfl) (Ln (sN (Wc (b := false) rfl (fun h => nomatch h) (fun _ => Wk (Fx.blkN (sN (Ws (Wl (Lv ((pf g1 8)) (x_field rfl h3 Try.underlying50 rfl (s := 1) (by kernel_rfl) rfl (by show _ + 8 = _; omega)) (Lv (.int .u8 (v.kind)) (x_load1 (x := evY v) rfl rfl (by kernel_rfl) m3.cel (i := 8) (by omega) (by omega) rfl) ?_)))))))))))
 by_cases c74 : v.kind = 7
 ·refine Lv (.bool true) (x_eqlT rfl rfl rfl c74) (Lv (.bool true) (x_assign rfl rfl) (Ln (sN (Wr (⟨.bool true, rV Try.results65 (by exact rfl), ?_⟩)))))
  exact ⟨congrArg (fun q => Ending.returned (Value.bool q)) (Eq.symm (by unfold fieldsE; first | (rw [if_neg c26, if_neg c36, if_neg c39, if_neg c47, if_neg c64, if_neg c70]; done) | (rw [if_neg c26, if_neg c36, if_neg c39, if_neg c47, if_neg c64, if_neg c70]; first | (simp [c74]; done) | (simp [c74]; omega)))), b3⟩
 refine Lv (.bool false) (x_eqlF rfl rfl rfl c74) (Lv (.bool false) (x_assign rfl rfl) (Ln (sN (Wr (⟨.bool false, rV Try.results65 (by exact rfl), ?_⟩)))))
 exact ⟨congrArg (fun q => Ending.returned (Value.bool q)) (Eq.symm (by unfold fieldsE; first | (rw [if_neg c26, if_neg c36, if_neg c39, if_neg c47, if_neg c64, if_neg c70]; done) | (rw [if_neg c26, if_neg c36, if_neg c39, if_neg c47, if_neg c64, if_neg c70]; first | (simp [c74]; done) | (simp [c74]; omega)))), b3⟩
namespace Rt
def U64r (n : Int) : Prop := 0 ≤ n ∧ n ≤ 18446744073709551615
def I64r (n : Int) : Prop := -9223372036854775808 ≤ n ∧ n ≤ 9223372036854775807
structure EvWf (v : EvM) : Prop where
  o : I64r v.o
  seq : U64r v.seq
  deps : ∀ i, i < 6 → U64r (v.deps i)
  kind : 0 ≤ v.kind ∧ v.kind ≤ 255
  node : U64r v.node
  dst : I64r v.dst
  amt : I64r v.amt
  req : U64r v.req
  of : U64r v.of
theorem EvWf.own {v : EvM} (h : EvWf v) : EvWf (ownE v) := by
  have z : U64r 0 := ⟨by decide, by decide⟩
  have y : I64r 0 := ⟨by decide, by decide⟩
  unfold ownE
  split
  · exact ⟨h.o, h.seq, h.deps, h.kind, h.node, y, h.amt, z, z⟩
  split
  · exact ⟨h.o, h.seq, h.deps, h.kind, h.node, y, h.amt, z, z⟩
  split
  · exact ⟨h.o, h.seq, h.deps, h.kind, h.node, y, h.amt, h.req, z⟩
  split
  · exact ⟨h.o, h.seq, h.deps, h.kind, z, y, y, h.req, h.of⟩
  split
  · exact ⟨h.o, h.seq, h.deps, h.kind, h.node, h.dst, h.amt, z, z⟩
  split
  · exact ⟨h.o, h.seq, h.deps, h.kind, z, h.dst, y, z, z⟩
  exact ⟨h.o, h.seq, h.deps, h.kind, z, y, y, z, z⟩
theorem kd_ev {v : EvM} (h : EvWf v) : Fx.Kd [(some .i64), (some .u64), (some .u64), (some .u64), (some .u64), (some .u64), (some .u64), (some .u64), (some .u8), (some .u64), (some .i64), (some .i64), (some .u64), (some .u64)] (evY v) := by
  have one : ∀ (k : IntKind) (n : Int), (Lit.int k n).wf = true → ∃ l, litOf (some k) (.int k n) = some l := fun k n hw => by
    obtain ⟨l, hl⟩ := Fx.kd_rv (k := k) (n := 1) (x := fun _ => n) (fun _ _ => hw) 0 (by simp)
    exact ⟨l, hl⟩
  intro i hi
  have hi' : i < 14 := hi
  rcases i with _|_|_|_|_|_|_|_|_|_|_|_|_|_|i
  · exact one .i64 v.o (Fx.wf64 h.o)
  · exact one .u64 v.seq (Fx.wfu64 h.seq)
  · exact one .u64 (v.deps 0) (Fx.wfu64 (h.deps 0 (by decide)))
  · exact one .u64 (v.deps 1) (Fx.wfu64 (h.deps 1 (by decide)))
  · exact one .u64 (v.deps 2) (Fx.wfu64 (h.deps 2 (by decide)))
  · exact one .u64 (v.deps 3) (Fx.wfu64 (h.deps 3 (by decide)))
  · exact one .u64 (v.deps 4) (Fx.wfu64 (h.deps 4 (by decide)))
  · exact one .u64 (v.deps 5) (Fx.wfu64 (h.deps 5 (by decide)))
  · exact one .u8 v.kind (Fx.wfu8 h.kind)
  · exact one .u64 v.node (Fx.wfu64 h.node)
  · exact one .i64 v.dst (Fx.wf64 h.dst)
  · exact one .i64 v.amt (Fx.wf64 h.amt)
  · exact one .u64 v.req (Fx.wfu64 h.req)
  · exact one .u64 v.of (Fx.wfu64 h.of)
  omega
def depsOk (v : EvM) : Bool := (List.range 6).all fun i => decide (v.deps i < 1099511627776)
def sameE (v : EvM) : Bool := decide (v.node = (ownE v).node) && decide (v.dst = (ownE v).dst) && decide (v.amt = (ownE v).amt) && decide (v.req = (ownE v).req) && decide (v.of = (ownE v).of)
def mayE (v : EvM) : Bool := regE v.o && decide (1 ≤ v.seq) && decide (v.seq < 1099511627776) && decide (v.deps (v.o - 1).toNat = v.seq - 1) && depsOk v && sameE v && fieldsE v
theorem own_same (v : EvM) : (ownE v).o = v.o ∧ (ownE v).seq = v.seq ∧ (ownE v).deps = v.deps ∧ (ownE v).kind = v.kind := by
  unfold ownE; repeat (first | exact ⟨rfl, rfl, rfl, rfl⟩ | split)
theorem sameE_iff (v : EvM) : sameE v = true ↔ ∀ i, i < 14 → evY v i = evY (ownE v) i := by
  obtain ⟨h1, h2, h3, h4⟩ := own_same v
  unfold sameE
  simp only [Bool.and_eq_true, decide_eq_true_eq]
  constructor
  · rintro ⟨⟨⟨⟨a, b⟩, c⟩, d⟩, e⟩ i hi
    have : ownE v = v := by
      cases hv : ownE v with
      | mk o seq deps kind node dst amt req of =>
        rw [hv] at h1 h2 h3 h4 a b c d e
        cases v; simp_all
    rw [this]
  intro h
  have g9 : Value.int .u64 v.node = .int .u64 (ownE v).node := h 9 (by decide)
  have g10 : Value.int .i64 v.dst = .int .i64 (ownE v).dst := h 10 (by decide)
  have g11 : Value.int .i64 v.amt = .int .i64 (ownE v).amt := h 11 (by decide)
  have g12 : Value.int .u64 v.req = .int .u64 (ownE v).req := h 12 (by decide)
  have g13 : Value.int .u64 v.of = .int .u64 (ownE v).of := h 13 (by decide)
  simp only [Value.int.injEq, true_and] at g9 g10 g11 g12 g13
  exact ⟨⟨⟨⟨g9, g10⟩, g11⟩, g12⟩, g13⟩
theorem regE_nat {i : Int} (h : regE i = true) : ∃ a : Nat, a < 6 ∧ i = (a : Int) + 1 := by
  unfold regE at h; simp at h
  obtain ⟨a, ha⟩ := Int.eq_ofNat_of_zero_le (show 0 ≤ i - 1 by omega)
  exact ⟨a, by omega, by omega⟩
theorem depsOk_no {v : EvM} {k : Nat} (hk : k < 6) (h : 1099511627776 ≤ v.deps k) : depsOk v = false := by
  unfold depsOk; rw [List.all_eq_false]; exact ⟨k, List.mem_range.2 hk, by simp; omega⟩
theorem depsOk_yes {v : EvM} {k : Nat} (hk : ¬ (k : Int) < 6) (h : ∀ i, i < k → v.deps i < 1099511627776) : depsOk v = true := by
  unfold depsOk; rw [List.all_eq_true]; intro i hi; have := List.mem_range.1 hi; simp; exact h i (by omega)
theorem hall_step {v : EvM} {k : Nat} (h : ∀ i, i < k → v.deps i < 1099511627776) (hk : v.deps k < 1099511627776) : ∀ i, i < k + 1 → v.deps i < 1099511627776 := fun i hi => by
  by_cases e : i = k
  · subst e; exact hk
  · exact h i (by omega)
theorem may_reg {v : EvM} (h : mayE v = true) : regE v.o = true := by
  unfold mayE at h; simp only [Bool.and_eq_true] at h; exact h.1.1.1.1.1.1
end Rt
set_option maxHeartbeats 2000000 in
theorem e_may (v : EvM) (w : World) (hv : EvWf v) :
    Calls Try.prog 45 #[.agg (Fx.varr 14 (evY v))] w fun e w' => e = .returned (.bool (mayE v)) ∧ Below w.heap.size w w' := by
 refine Fx.enter Try.func45 rfl (n := 47) rfl (by rfl) ?_
 refine Ws (Wl (Fx.L.box (m := 14) (y := evY v) (by rfl) rfl rfl (Fx.cells_agg _ _) rfl fun g1 w1 eg1 m1 s1 z1 => ?_))
 have b1 := s1.below (Below.refl w.heap.size w) (Below.refl w.heap.size w).size (Below.refl w.heap.size w).size
 have lg1 : w.heap.size ≤ g1 := by rw [eg1]; exact (Below.refl w.heap.size w).size
 have tg1 : g1 < w1.heap.size := m1.lt
 clear eg1
 refine Lv (.bool false) (x_assign rfl rfl) (Ln (sN (Ws (Ws ?_))))
 -- region 1 draws
 refine Fx.W.quiet (fun v1 => Below w1.heap.size w1 v1) (by kernel_rfl) (by kernel_rfl) (Below.refl _ _).drew ?_
 refine Qv ((pt g1)) (fun v1 hv1 => x_field rfl rfl Try.underlying50 rfl (s := 1) (by kernel_rfl) rfl rfl) (Qv (.int .i64 (v.o)) (fun v1 hv1 => x_load1 (x := evY v) rfl rfl (by kernel_rfl) (m1.cel.below hv1 (by have := m1.lt; omega)) (i := 0) (by omega) (by omega) rfl) ?_)
 by_cases c6 : (regE v.o) = true
 ·obtain ⟨a, ha, ea⟩ := regE_nat c6
  refine Fx.Qt.call (v := .bool true) (by rfl) (fun v1 hv1 => rC (args := [.int .i64 (v.o)]) rfl rfl Try.func63 rfl rfl) rfl (fun v1 hv1 => (e_region v.o _).mono fun e v2 h => ⟨by rw [h.1, c6], by rw [h.2]; exact hv1⟩) ?_
  refine Qv (.bool false) (fun v1 hv1 => Fx.x_notF rfl rfl) (Qv (.bool false) (fun v1 hv1 => x_move rfl rfl) (Qv ((pf g1 1)) (fun v1 hv1 => x_field rfl rfl Try.underlying50 rfl (s := 1) (by kernel_rfl) rfl (by show _ + 1 = _; omega)) (Qv (.int .u64 (v.seq)) (fun v1 hv1 => x_load1 (x := evY v) rfl rfl (by kernel_rfl) (m1.cel.below hv1 (by have := m1.lt; omega)) (i := 1) (by omega) (by omega) rfl) ?_)))
  by_cases c11 : v.seq < 1
  ·refine Qv (.bool true) (fun v1 hv1 => Fx.x_lssT rfl rfl rfl c11) (Qv (.bool true) (fun v1 hv1 => x_pickF rfl rfl rfl) (Qv (.bool true) (fun v1 hv1 => x_move rfl rfl) (Qs (by rfl) rfl (Qs (by rfl) rfl (Qs (by rfl) rfl (Qv (.bool true) (fun v1 hv1 => x_pickT rfl rfl rfl) (Qv (.bool true) (fun v1 hv1 => x_move rfl rfl) (Qs (by rfl) rfl (Qs (by rfl) rfl (Qs (by rfl) rfl (Qs (by rfl) rfl (Qs (by rfl) rfl (Qs (by rfl) rfl (Qs (by rfl) rfl (Qs (by rfl) rfl (Qs (by rfl) rfl (Qs (by rfl) rfl (Qv (.bool true) (fun v1 hv1 => x_pickT rfl rfl rfl) (Fx.Qt.nil ?_)))))))))))))))))))
   intro wb1 hbwb1
   have s2 : Fx.Stp w1.heap.size w1 wb1 := Sb hbwb1
   have m2 := m1.stp s2 m1.ne
   have b2 := s2.below b1 b1.size b1.size
   refine sN (Wc (b := true) rfl (fun _ => Ws (Wl (Lv (.bool false) (x_assign rfl rfl) ?_))) (fun h => nomatch h))
   refine Ln (sN (Wr (sR (⟨.bool false, rV Try.results45 (by exact rfl), ?_⟩))))
   have m2 : decide (1 ≤ v.seq) = false := decide_eq_false (by omega)
   exact ⟨congrArg (fun q => Ending.returned (Value.bool q)) (Eq.symm (by unfold mayE; rw [c6, m2]; rfl)), b2⟩
  refine Qv (.bool false) (fun v1 hv1 => Fx.x_lssF rfl rfl rfl c11) (Qv (.bool false) (fun v1 hv1 => x_pickF rfl rfl rfl) (Qv (.bool false) (fun v1 hv1 => x_move rfl rfl) (Qv ((pf g1 1)) (fun v1 hv1 => x_field rfl rfl Try.underlying50 rfl (s := 1) (by kernel_rfl) rfl (by show _ + 1 = _; omega)) (Qv (.int .u64 (v.seq)) (fun v1 hv1 => x_load1 (x := evY v) rfl rfl (by kernel_rfl) (m1.cel.below hv1 (by have := m1.lt; omega)) (i := 1) (by omega) (by omega) rfl) ?_))))
  by_cases c16 : 1099511627776 ≤ v.seq
  ·refine Qv (.bool true) (fun v1 hv1 => Fx.x_geqT rfl rfl rfl c16) (Qv (.bool true) (fun v1 hv1 => x_pickF rfl rfl rfl) (Qv (.bool true) (fun v1 hv1 => x_move rfl rfl) (Qs (by rfl) rfl (Qs (by rfl) rfl (Qs (by rfl) rfl (Qs (by rfl) rfl (Qs (by rfl) rfl (Qs (by rfl) rfl (Qs (by rfl) rfl (Qs (by rfl) rfl (Qs (by rfl) rfl (Qs (by rfl) rfl (Qv (.bool true) (fun v1 hv1 => x_pickT rfl rfl rfl) (Fx.Qt.nil ?_))))))))))))))
   intro wb2 hbwb2
   have s3 : Fx.Stp w1.heap.size w1 wb2 := Sb hbwb2
   have m3 := m1.stp s3 m1.ne
   have b3 := s3.below b1 b1.size b1.size
   refine sN (Wc (b := true) rfl (fun _ => Ws (Wl (Lv (.bool false) (x_assign rfl rfl) ?_))) (fun h => nomatch h))
   refine Ln (sN (Wr (sR (⟨.bool false, rV Try.results45 (by exact rfl), ?_⟩))))
   have m2 : decide (1 ≤ v.seq) = true := decide_eq_true (by omega)
   have m3 : decide (v.seq < 1099511627776) = false := decide_eq_false (by omega)
   exact ⟨congrArg (fun q => Ending.returned (Value.bool q)) (Eq.symm (by unfold mayE; rw [c6, m2, m3]; rfl)), b3⟩
  refine Qv (.bool false) (fun v1 hv1 => Fx.x_geqF rfl rfl rfl c16) (Qv (.bool false) (fun v1 hv1 => x_pickF rfl rfl rfl) (Qv (.bool false) (fun v1 hv1 => x_move rfl rfl) (Qv ((pt g1)) (fun v1 hv1 => x_field rfl rfl Try.underlying50 rfl (s := 1) (by kernel_rfl) rfl rfl) (Qv (.int .i64 (v.o)) (fun v1 hv1 => x_load1 (x := evY v) rfl rfl (by kernel_rfl) (m1.cel.below hv1 (by have := m1.lt; omega)) (i := 0) (by omega) (by omega) rfl) (Qv (.int .i64 ((a : Int))) (fun v1 hv1 => Fx.x_sub rfl rfl rfl Fx.io) (Qv ((pf g1 2)) (fun v1 hv1 => x_field rfl rfl Try.underlying50 rfl (s := 6) (by kernel_rfl) rfl (by show _ + 2 = _; omega)) (Qv ((pf g1 (a + 2))) (fun v1 hv1 => x_index rfl rfl rfl Try.underlying32 (s := 1) (by kernel_rfl) (by omega) (by omega) (by omega)) (Qv (.int .u64 (v.deps a)) (fun v1 hv1 => x_load1 (x := evY v) rfl rfl (by kernel_rfl) (m1.cel.below hv1 (by have := m1.lt; omega)) (i := a + 2) (by omega) (by omega) (evY_deps _ (by omega) (by omega))) (Qv ((pf g1 1)) (fun v1 hv1 => x_field rfl rfl Try.underlying50 rfl (s := 1) (by kernel_rfl) rfl (by show _ + 1 = _; omega)) (Qv (.int .u64 (v.seq)) (fun v1 hv1 => x_load1 (x := evY v) rfl rfl (by kernel_rfl) (m1.cel.below hv1 (by have := m1.lt; omega)) (i := 1) (by omega) (by omega) rfl) (Qv (.int .u64 (v.seq - 1)) (fun v1 hv1 => Fx.x_sub rfl rfl rfl (Fx.u64e (by omega) (by omega))) ?_)))))))))))
  by_cases c28 : (v.deps a) = (v.seq - 1)
  ·refine Qv (.bool false) (fun v1 hv1 => Fx.x_neqF rfl rfl rfl c28) (Qv (.bool false) (fun v1 hv1 => x_pickF rfl rfl rfl) (Fx.Qt.nil ?_))
   intro wb3 hbwb3
   have s4 : Fx.Stp w1.heap.size w1 wb3 := Sb hbwb3
   have m4 := m1.stp s4 m1.ne
   have b4 := s4.below b1 b1.size b1.size
   refine sN (Wc (b := false) rfl (fun h => nomatch h) (fun _ => Wk (sN (Ws (Ws (Wl (Lv (.int .i64 (0)) (x_assign rfl rfl) (Ln (sN (Fx.W.block (Fx.W.loop (fun f w_ => ∃ k : Nat, k ≤ 6 ∧ (∀ i, i < k → v.deps i < 1099511627776) ∧ f 1 = (pt g1) ∧ f 3 = .int .i64 ((k : Int)) ∧ Fx.Blk w_ g1 14 (evY v) 50 ∧ Below w.heap.size w w_) (fun f _ => (6 - (intOf (f 3)).toNat)) ⟨0, by omega, (fun i h => absurd h (by omega)), (by rfl), Fx.ic, m4, b4⟩ ?_)))))))))))
   rintro f1 w2 ⟨k, hk, hall, h1, h2, m5, b5⟩
   refine Ws (Ws (Wl (Lv (.int .i64 ((k : Int))) (x_move rfl h2) ?_)))
   by_cases c31 : (k : Int) < 6
   ·refine Lv (.bool true) (Fx.x_lssT rfl rfl rfl c31) (Ln (sN (Wc (b := true) rfl (fun _ => Wk (sN (Ws (Fx.W.block (Ws (Wl (Lv (.int .i64 ((k : Int))) (x_move rfl h2) ?_))))))) (fun h => nomatch h))))
    refine Lv ((pf g1 2)) (x_field rfl h1 Try.underlying50 rfl (s := 6) (by kernel_rfl) rfl (by show _ + 2 = _; omega)) (Lv ((pf g1 (k + 2))) (x_index rfl rfl rfl Try.underlying32 (s := 1) (by kernel_rfl) (by omega) (by omega) (by omega)) (Lv (.int .u64 (v.deps k)) (x_load1 (x := evY v) rfl rfl (by kernel_rfl) m5.cel (i := k + 2) (by omega) (by omega) (evY_deps _ (by omega) (by omega))) ?_))
    by_cases c38 : 1099511627776 ≤ (v.deps k)
    ·refine Lv (.bool true) (Fx.x_geqT rfl rfl rfl c38) (Ln (sN (Wc (b := true) rfl (fun _ => Ws (Wl (Lv (.bool false) (x_assign rfl rfl) ?_))) (fun h => nomatch h))))
     refine Ln (sN (Wr (Fx.blkR (sR (Fx.lpR (Fx.blkR (sR (⟨.bool false, rV Try.results45 (by exact rfl), ?_⟩))))))))
     have m2 : decide (1 ≤ v.seq) = true := decide_eq_true (by omega)
     have m3 : decide (v.seq < 1099511627776) = true := decide_eq_true (by omega)
     have m4 : decide (v.deps (v.o - 1).toNat = v.seq - 1) = true := decide_eq_true (by rw [show (v.o - 1).toNat = a by omega]; exact c28)
     have m5 := depsOk_no (by omega) c38
     exact ⟨congrArg (fun q => Ending.returned (Value.bool q)) (Eq.symm (by unfold mayE; rw [c6, m2, m3, m4, m5]; rfl)), b5⟩
    refine Lv (.bool false) (Fx.x_geqF rfl rfl rfl c38) (Ln (sN (Wc (b := false) rfl (fun h => nomatch h) (fun _ => Wk (Fx.blkN (sN (Wl (Lv (.int .i64 ((k : Int))) (x_move rfl h2) (Lv (.int .i64 ((k : Int) + 1)) (Fx.x_add rfl rfl rfl Fx.io) (Lv (.int .i64 ((k : Int) + 1)) (x_assign rfl rfl) (Ln (Fx.lpN ⟨k + 1, by omega, (hall_step hall (by omega)), h1, Fx.ic, m5, b5⟩ ?_))))))))))))
    show (6 - (intOf ((.int .i64 ((k : Int) + 1)))).toNat) < _
    simp only [h2, intOf]; omega
   refine Lv (.bool false) (Fx.x_lssF rfl rfl rfl c31) (Ln (sN (Wc (b := false) rfl (fun h => nomatch h) (fun _ => Fx.W.exit (Fx.seqX (Fx.lpX (Fx.blkX (sN (Ws ?_)))))))))
   -- region 8 draws
   refine Fx.W.quiet (fun v1 => Below w2.heap.size w2 v1) (by kernel_rfl) (by kernel_rfl) (Below.refl _ _).drew ?_
   refine Qv (.agg (Fx.varr 14 (evY v))) (fun v1 hv1 => x_loadA (x := evY v) (y := evY v) rfl h1 (by kernel_rfl) (by kernel_rfl) (m5.cel.below hv1 (by have := m5.lt; omega)) (i := 0) (by omega) (by omega) (fun j _ => by rw [Nat.zero_add])) (Qv (.agg (Fx.varr 14 (evY v))) (fun v1 hv1 => x_loadA (x := evY v) (y := evY v) rfl h1 (by kernel_rfl) (by kernel_rfl) (m5.cel.below hv1 (by have := m5.lt; omega)) (i := 0) (by omega) (by omega) (fun j _ => by rw [Nat.zero_add])) (Fx.Qt.call (v := .agg (Fx.varr 14 (evY (ownE v)))) (by rfl) (fun v1 hv1 => rC (args := [.agg (Fx.varr 14 (evY v))]) rfl rfl Try.func64 rfl rfl) rfl (fun v1 hv1 => (e_own v _).mono fun e v2 h => ⟨h.1, bch hv1 h.2⟩) ?_))
   by_cases c42 : ∀ i, i < 14 → (evY v) i = (evY (ownE v)) i
   ·refine Qv (.bool true) (fun v1 hv1 => Fx.x_eqlA (n := 14) (ks := [(some .i64), (some .u64), (some .u64), (some .u64), (some .u64), (some .u64), (some .u64), (some .u64), (some .u8), (some .u64), (some .i64), (some .i64), (some .u64), (some .u64)]) (X := evY v) (Y := evY (ownE v)) 12 true rfl rfl rfl (Fx.yesb c42) (kd_ev hv) (kd_ev hv.own) rfl (by kernel_rfl) (by kernel_rfl) (by kernel_rfl) (by kernel_rfl) (by kernel_rfl)) (Qv (.bool true) (fun v1 hv1 => x_move rfl rfl) (Qv (.agg (Fx.varr 14 (evY v))) (fun v1 hv1 => x_loadA (x := evY v) (y := evY v) rfl h1 (by kernel_rfl) (by kernel_rfl) (m5.cel.below hv1 (by have := m5.lt; omega)) (i := 0) (by omega) (by omega) (fun j _ => by rw [Nat.zero_add])) ?_))
    by_cases c45 : (fieldsE v) = true
    ·refine Fx.Qt.call (v := .bool true) (by rfl) (fun v1 hv1 => rC (args := [.agg (Fx.varr 14 (evY v))]) rfl rfl Try.func65 rfl rfl) rfl (fun v1 hv1 => (e_fields v _).mono fun e v2 h => ⟨by rw [h.1, c45], bch hv1 h.2⟩) ?_
     refine Qv (.bool true) (fun v1 hv1 => x_pickT rfl rfl rfl) (Qv (.bool true) (fun v1 hv1 => x_assign rfl rfl) (Fx.Qt.nil ?_))
     intro wb4 hbwb4
     have s5 : Fx.Stp w2.heap.size w2 wb4 := Sb hbwb4
     have m6 := m5.stp s5 m5.ne
     have b6 := s5.below b5 b5.size b5.size
     refine sN (Wr (⟨.bool true, rV Try.results45 (by exact rfl), ?_⟩))
     have m2 : decide (1 ≤ v.seq) = true := decide_eq_true (by omega)
     have m3 : decide (v.seq < 1099511627776) = true := decide_eq_true (by omega)
     have m4 : decide (v.deps (v.o - 1).toNat = v.seq - 1) = true := decide_eq_true (by rw [show (v.o - 1).toNat = a by omega]; exact c28)
     have m5 := depsOk_yes c31 hall
     have m6 := (sameE_iff v).2 c42
     exact ⟨congrArg (fun q => Ending.returned (Value.bool q)) (Eq.symm (by unfold mayE; rw [c6, m2, m3, m4, m5, m6, c45]; rfl)), b6⟩
    rw [Bool.not_eq_true] at c45
    refine Fx.Qt.call (v := .bool false) (by rfl) (fun v1 hv1 => rC (args := [.agg (Fx.varr 14 (evY v))]) rfl rfl Try.func65 rfl rfl) rfl (fun v1 hv1 => (e_fields v _).mono fun e v2 h => ⟨by rw [h.1, c45], bch hv1 h.2⟩) ?_
    refine Qv (.bool false) (fun v1 hv1 => x_pickT rfl rfl rfl) (Qv (.bool false) (fun v1 hv1 => x_assign rfl rfl) (Fx.Qt.nil ?_))
    intro wb5 hbwb5
    have s6 : Fx.Stp w2.heap.size w2 wb5 := Sb hbwb5
    have b7 := s6.below b5 b5.size b5.size
    refine sN (Wr (⟨.bool false, rV Try.results45 (by exact rfl), ?_⟩))
    have m2 : decide (1 ≤ v.seq) = true := decide_eq_true (by omega)
    have m3 : decide (v.seq < 1099511627776) = true := decide_eq_true (by omega)
    have m4 : decide (v.deps (v.o - 1).toNat = v.seq - 1) = true := decide_eq_true (by rw [show (v.o - 1).toNat = a by omega]; exact c28)
    have m5 := depsOk_yes c31 hall
    have m6 := (sameE_iff v).2 c42
    exact ⟨congrArg (fun q => Ending.returned (Value.bool q)) (Eq.symm (by unfold mayE; rw [c6, m2, m3, m4, m5, m6, c45]; rfl)), b7⟩
   refine Qv (.bool false) (fun v1 hv1 => Fx.x_eqlA (n := 14) (ks := [(some .i64), (some .u64), (some .u64), (some .u64), (some .u64), (some .u64), (some .u64), (some .u64), (some .u8), (some .u64), (some .i64), (some .i64), (some .u64), (some .u64)]) (X := evY v) (Y := evY (ownE v)) 12 false rfl rfl rfl (Fx.nob c42) (kd_ev hv) (kd_ev hv.own) rfl (by kernel_rfl) (by kernel_rfl) (by kernel_rfl) (by kernel_rfl) (by kernel_rfl)) (Qv (.bool false) (fun v1 hv1 => x_move rfl rfl) (Qs (by rfl) rfl (Qs (by rfl) rfl (Qv (.bool false) (fun v1 hv1 => x_pickF rfl rfl rfl) (Qv (.bool false) (fun v1 hv1 => x_assign rfl rfl) (Fx.Qt.nil ?_))))))
   intro wb6 hbwb6
   have s7 : Fx.Stp w2.heap.size w2 wb6 := Sb hbwb6
   have b8 := s7.below b5 b5.size b5.size
   refine sN (Wr (⟨.bool false, rV Try.results45 (by exact rfl), ?_⟩))
   have m2 : decide (1 ≤ v.seq) = true := decide_eq_true (by omega)
   have m3 : decide (v.seq < 1099511627776) = true := decide_eq_true (by omega)
   have m4 : decide (v.deps (v.o - 1).toNat = v.seq - 1) = true := decide_eq_true (by rw [show (v.o - 1).toNat = a by omega]; exact c28)
   have m5 := depsOk_yes c31 hall
   have m6 : sameE v = false := Bool.eq_false_iff.2 (fun h => c42 ((sameE_iff v).1 h))
   exact ⟨congrArg (fun q => Ending.returned (Value.bool q)) (Eq.symm (by unfold mayE; rw [c6, m2, m3, m4, m5, m6]; rfl)), b8⟩
  refine Qv (.bool true) (fun v1 hv1 => Fx.x_neqT rfl rfl rfl c28) (Qv (.bool true) (fun v1 hv1 => x_pickF rfl rfl rfl) (Fx.Qt.nil ?_))
  intro wb7 hbwb7
  have s8 : Fx.Stp w1.heap.size w1 wb7 := Sb hbwb7
  have b9 := s8.below b1 b1.size b1.size
  refine sN (Wc (b := true) rfl (fun _ => Ws (Wl (Lv (.bool false) (x_assign rfl rfl) ?_))) (fun h => nomatch h))
  refine Ln (sN (Wr (sR (⟨.bool false, rV Try.results45 (by exact rfl), ?_⟩))))
  have m2 : decide (1 ≤ v.seq) = true := decide_eq_true (by omega)
  have m3 : decide (v.seq < 1099511627776) = true := decide_eq_true (by omega)
  have m4 : decide (v.deps (v.o - 1).toNat = v.seq - 1) = false := decide_eq_false (by rw [show (v.o - 1).toNat = a by omega]; exact c28)
  exact ⟨congrArg (fun q => Ending.returned (Value.bool q)) (Eq.symm (by unfold mayE; rw [c6, m2, m3, m4]; rfl)), b9⟩
 rw [Bool.not_eq_true] at c6
 refine Fx.Qt.call (v := .bool false) (by rfl) (fun v1 hv1 => rC (args := [.int .i64 (v.o)]) rfl rfl Try.func63 rfl rfl) rfl (fun v1 hv1 => (e_region v.o _).mono fun e v2 h => ⟨by rw [h.1, c6], by rw [h.2]; exact hv1⟩) ?_
 refine Qv (.bool true) (fun v1 hv1 => Fx.x_notT rfl rfl) (Qv (.bool true) (fun v1 hv1 => x_move rfl rfl) (Qs (by rfl) rfl (Qs (by rfl) rfl (Qs (by rfl) rfl (Qv (.bool true) (fun v1 hv1 => x_pickT rfl rfl rfl) (Qv (.bool true) (fun v1 hv1 => x_move rfl rfl) (Qs (by rfl) rfl (Qs (by rfl) rfl (Qs (by rfl) rfl (Qv (.bool true) (fun v1 hv1 => x_pickT rfl rfl rfl) (Qv (.bool true) (fun v1 hv1 => x_move rfl rfl) (Qs (by rfl) rfl (Qs (by rfl) rfl (Qs (by rfl) rfl (Qs (by rfl) rfl (Qs (by rfl) rfl (Qs (by rfl) rfl (Qs (by rfl) rfl (Qs (by rfl) rfl (Qs (by rfl) rfl (Qs (by rfl) rfl (Qv (.bool true) (fun v1 hv1 => x_pickT rfl rfl rfl) (Fx.Qt.nil ?_)))))))))))))))))))))))
 intro wb8 hbwb8
 have s9 : Fx.Stp w1.heap.size w1 wb8 := Sb hbwb8
 have b10 := s9.below b1 b1.size b1.size
 refine sN (Wc (b := true) rfl (fun _ => Ws (Wl (Lv (.bool false) (x_assign rfl rfl) ?_))) (fun h => nomatch h))
 refine Ln (sN (Wr (sR (⟨.bool false, rV Try.results45 (by exact rfl), ?_⟩))))
 exact ⟨congrArg (fun q => Ending.returned (Value.bool q)) (Eq.symm (by unfold mayE; rw [c6]; rfl)), b10⟩
namespace Rt
def lateE (K : Nat → Int) (v : EvM) : Bool := mayE v && decide (v.seq ≤ K (v.o - 1).toNat)
def leAll (D K : Nat → Int) : Bool := (List.range 6).all fun i => decide (D i ≤ K i)
def readyE (K : Nat → Int) (v : EvM) : Bool := mayE v && decide (v.seq = K (v.o - 1).toNat + 1) && leAll v.deps K
theorem leAll_no {D K : Nat → Int} {k : Nat} (hk : k < 6) (h : K k < D k) : leAll D K = false := by
  unfold leAll; rw [List.all_eq_false]; exact ⟨k, List.mem_range.2 hk, by simp; omega⟩
theorem leAll_yes {D K : Nat → Int} {k : Nat} (hk : ¬ (k : Int) < 6) (h : ∀ i, i < k → D i ≤ K i) : leAll D K = true := by
  unfold leAll; rw [List.all_eq_true]; intro i hi; have := List.mem_range.1 hi; simp; exact h i (by omega)
theorem le_step {D K : Nat → Int} {k : Nat} (h : ∀ i, i < k → D i ≤ K i) (hk : ¬ K k < D k) : ∀ i, i < k + 1 → D i ≤ K i := fun i hi => by
  by_cases e : i = k
  · subst e; omega
  · exact h i (by omega)
def KnOk (K : Nat → Int) : Prop := ∀ i, i < 6 → 0 ≤ K i ∧ K i < 1099511627776
theorem may_seq {v : EvM} (h : mayE v = true) : 1 ≤ v.seq ∧ v.seq < 1099511627776 := by
  unfold mayE at h; simp only [Bool.and_eq_true, decide_eq_true_eq] at h; exact ⟨h.1.1.1.1.1.2, h.1.1.1.1.2⟩
end Rt
theorem e_late (K : Nat → Int) (v : EvM) (w : World) (hv : EvWf v) :
    Calls Try.prog 46 #[.agg (Fx.varr 6 (Fx.rv .u64 K)), .agg (Fx.varr 14 (evY v))] w fun e w' => e = .returned (.bool (lateE K v)) ∧ Below w.heap.size w w' := by
 refine Fx.enter Try.func46 rfl (n := 17) rfl (by rfl) ?_
 refine Ws (Wl (Fx.L.box (m := 6) (y := Fx.rv .u64 K) (by rfl) rfl rfl (Fx.cells_agg _ _) rfl fun g1 w1 eg1 m1 s1 z1 => ?_))
 have b1 := s1.below (Below.refl w.heap.size w) (Below.refl w.heap.size w).size (Below.refl w.heap.size w).size
 have lg1 : w.heap.size ≤ g1 := by rw [eg1]; exact (Below.refl w.heap.size w).size
 have tg1 : g1 < w1.heap.size := m1.lt
 clear eg1
 refine Fx.L.box (m := 14) (y := evY v) (by rfl) rfl rfl (Fx.cells_agg _ _) rfl fun g2 w2 eg2 m2 s2 z2 => ?_
 have m3 := m1.stp s2 m1.ne
 have b2 := s2.below b1 b1.size b1.size
 have lg2 : w.heap.size ≤ g2 := by rw [eg2]; exact b1.size
 have ng2m3 : g1 ≠ g2 := by rw [eg2]; exact Nat.ne_of_lt (m1.lt)
 have tg2 : g2 < w2.heap.size := m2.lt
 clear eg2
 refine Lv (.bool false) (x_assign rfl rfl) (Ln (sN (Ws ?_)))
 -- region 1 draws
 refine Fx.W.quiet (fun v1 => Below w2.heap.size w2 v1) (by kernel_rfl) (by kernel_rfl) (Below.refl _ _).drew ?_
 refine Qv (.agg (Fx.varr 14 (evY v))) (fun v1 hv1 => x_loadA (x := evY v) (y := evY v) rfl rfl (by kernel_rfl) (by kernel_rfl) (m2.cel.below hv1 (by have := m2.lt; omega)) (i := 0) (by omega) (by omega) (fun j _ => by rw [Nat.zero_add])) ?_
 by_cases c6 : (mayE v) = true
 ·obtain ⟨a, ha, ea⟩ := regE_nat (may_reg c6)
  refine Fx.Qt.call (v := .bool true) (by rfl) (fun v1 hv1 => rC (args := [.agg (Fx.varr 14 (evY v))]) rfl rfl Try.func45 rfl rfl) rfl (fun v1 hv1 => (e_may v _ hv).mono fun e v2 h => ⟨by rw [h.1, c6], bch hv1 h.2⟩) ?_
  refine Qv (.bool true) (fun v1 hv1 => x_move rfl rfl) (Qv ((pf g2 1)) (fun v1 hv1 => x_field rfl rfl Try.underlying50 rfl (s := 1) (by kernel_rfl) rfl (by show _ + 1 = _; omega)) (Qv (.int .u64 (v.seq)) (fun v1 hv1 => x_load1 (x := evY v) rfl rfl (by kernel_rfl) (m2.cel.below hv1 (by have := m2.lt; omega)) (i := 1) (by omega) (by omega) rfl) (Qv ((pt g2)) (fun v1 hv1 => x_field rfl rfl Try.underlying50 rfl (s := 1) (by kernel_rfl) rfl rfl) (Qv (.int .i64 (v.o)) (fun v1 hv1 => x_load1 (x := evY v) rfl rfl (by kernel_rfl) (m2.cel.below hv1 (by have := m2.lt; omega)) (i := 0) (by omega) (by omega) rfl) (Qv (.int .i64 ((a : Int))) (fun v1 hv1 => Fx.x_sub rfl rfl rfl Fx.io) (Qv ((pf g1 a)) (fun v1 hv1 => x_index rfl rfl rfl Try.underlying32 (s := 1) (by kernel_rfl) (by omega) (by omega) (by omega)) (Qv (.int .u64 (K a)) (fun v1 hv1 => x_load1 (x := Fx.rv .u64 K) rfl rfl (by kernel_rfl) (m3.cel.below hv1 (by have := m3.lt; omega)) (i := a) (by omega) (by omega) rfl) ?_)))))))
  by_cases c15 : v.seq ≤ (K a)
  ·refine Qv (.bool true) (fun v1 hv1 => Fx.x_leqT rfl rfl rfl c15) (Qv (.bool true) (fun v1 hv1 => x_pickT rfl rfl rfl) (Qv (.bool true) (fun v1 hv1 => x_assign rfl rfl) (Fx.Qt.nil ?_)))
   intro wb1 hbwb1
   have s3 : Fx.Stp w2.heap.size w2 wb1 := Sb hbwb1
   have b3 := s3.below b2 b2.size b2.size
   refine sN (Wr (⟨.bool true, rV Try.results46 (by exact rfl), ?_⟩))
   have m2 : decide (v.seq ≤ K (v.o - 1).toNat) = true := decide_eq_true (by rw [show (v.o - 1).toNat = a by omega]; exact c15)
   exact ⟨congrArg (fun q => Ending.returned (Value.bool q)) (Eq.symm (by unfold lateE; rw [c6, m2]; rfl)), b3⟩
  refine Qv (.bool false) (fun v1 hv1 => x_leqF rfl rfl rfl c15) (Qv (.bool false) (fun v1 hv1 => x_pickT rfl rfl rfl) (Qv (.bool false) (fun v1 hv1 => x_assign rfl rfl) (Fx.Qt.nil ?_)))
  intro wb2 hbwb2
  have s4 : Fx.Stp w2.heap.size w2 wb2 := Sb hbwb2
  have b4 := s4.below b2 b2.size b2.size
  refine sN (Wr (⟨.bool false, rV Try.results46 (by exact rfl), ?_⟩))
  have m2 : decide (v.seq ≤ K (v.o - 1).toNat) = false := decide_eq_false (by rw [show (v.o - 1).toNat = a by omega]; exact c15)
  exact ⟨congrArg (fun q => Ending.returned (Value.bool q)) (Eq.symm (by unfold lateE; rw [c6, m2]; rfl)), b4⟩
 rw [Bool.not_eq_true] at c6
 refine Fx.Qt.call (v := .bool false) (by rfl) (fun v1 hv1 => rC (args := [.agg (Fx.varr 14 (evY v))]) rfl rfl Try.func45 rfl rfl) rfl (fun v1 hv1 => (e_may v _ hv).mono fun e v2 h => ⟨by rw [h.1, c6], bch hv1 h.2⟩) ?_
 refine Qv (.bool false) (fun v1 hv1 => x_move rfl rfl) (Qs (by rfl) rfl (Qs (by rfl) rfl (Qs (by rfl) rfl (Qs (by rfl) rfl (Qs (by rfl) rfl (Qs (by rfl) rfl (Qs (by rfl) rfl (Qs (by rfl) rfl (Qv (.bool false) (fun v1 hv1 => x_pickF rfl rfl rfl) (Qv (.bool false) (fun v1 hv1 => x_assign rfl rfl) (Fx.Qt.nil ?_)))))))))))
 intro wb3 hbwb3
 have s5 : Fx.Stp w2.heap.size w2 wb3 := Sb hbwb3
 have b5 := s5.below b2 b2.size b2.size
 refine sN (Wr (⟨.bool false, rV Try.results46 (by exact rfl), ?_⟩))
 exact ⟨congrArg (fun q => Ending.returned (Value.bool q)) (Eq.symm (by unfold lateE; rw [c6]; rfl)), b5⟩
theorem e_ready (K : Nat → Int) (v : EvM) (w : World) (hv : EvWf v) (hK : KnOk K) :
    Calls Try.prog 47 #[.agg (Fx.varr 6 (Fx.rv .u64 K)), .agg (Fx.varr 14 (evY v))] w fun e w' => e = .returned (.bool (readyE K v)) ∧ Below w.heap.size w w' := by
 refine Fx.enter Try.func47 rfl (n := 32) rfl (by rfl) ?_
 refine Ws (Wl (Fx.L.box (m := 6) (y := Fx.rv .u64 K) (by rfl) rfl rfl (Fx.cells_agg _ _) rfl fun g1 w1 eg1 m1 s1 z1 => ?_))
 have b1 := s1.below (Below.refl w.heap.size w) (Below.refl w.heap.size w).size (Below.refl w.heap.size w).size
 have lg1 : w.heap.size ≤ g1 := by rw [eg1]; exact (Below.refl w.heap.size w).size
 have tg1 : g1 < w1.heap.size := m1.lt
 clear eg1
 refine Fx.L.box (m := 14) (y := evY v) (by rfl) rfl rfl (Fx.cells_agg _ _) rfl fun g2 w2 eg2 m2 s2 z2 => ?_
 have m3 := m1.stp s2 m1.ne
 have b2 := s2.below b1 b1.size b1.size
 have lg2 : w.heap.size ≤ g2 := by rw [eg2]; exact b1.size
 have ng2m3 : g1 ≠ g2 := by rw [eg2]; exact Nat.ne_of_lt (m1.lt)
 have tg2 : g2 < w2.heap.size := m2.lt
 clear eg2
 refine Lv (.bool false) (x_assign rfl rfl) (Ln (sN (Ws (Ws ?_))))
 -- region 1 draws
 refine Fx.W.quiet (fun v1 => Below w2.heap.size w2 v1) (by kernel_rfl) (by kernel_rfl) (Below.refl _ _).drew ?_
 refine Qv (.agg (Fx.varr 14 (evY v))) (fun v1 hv1 => x_loadA (x := evY v) (y := evY v) rfl rfl (by kernel_rfl) (by kernel_rfl) (m2.cel.below hv1 (by have := m2.lt; omega)) (i := 0) (by omega) (by omega) (fun j _ => by rw [Nat.zero_add])) ?_
 by_cases c7 : (mayE v) = true
 ·obtain ⟨a, ha, ea⟩ := regE_nat (may_reg c7)
  have ka := hK a ha
  refine Fx.Qt.call (v := .bool true) (by rfl) (fun v1 hv1 => rC (args := [.agg (Fx.varr 14 (evY v))]) rfl rfl Try.func45 rfl rfl) rfl (fun v1 hv1 => (e_may v _ hv).mono fun e v2 h => ⟨by rw [h.1, c7], bch hv1 h.2⟩) ?_
  refine Qv (.bool false) (fun v1 hv1 => Fx.x_notF rfl rfl) (Qv (.bool false) (fun v1 hv1 => x_move rfl rfl) (Qv ((pf g2 1)) (fun v1 hv1 => x_field rfl rfl Try.underlying50 rfl (s := 1) (by kernel_rfl) rfl (by show _ + 1 = _; omega)) (Qv (.int .u64 (v.seq)) (fun v1 hv1 => x_load1 (x := evY v) rfl rfl (by kernel_rfl) (m2.cel.below hv1 (by have := m2.lt; omega)) (i := 1) (by omega) (by omega) rfl) (Qv ((pt g2)) (fun v1 hv1 => x_field rfl rfl Try.underlying50 rfl (s := 1) (by kernel_rfl) rfl rfl) (Qv (.int .i64 (v.o)) (fun v1 hv1 => x_load1 (x := evY v) rfl rfl (by kernel_rfl) (m2.cel.below hv1 (by have := m2.lt; omega)) (i := 0) (by omega) (by omega) rfl) (Qv (.int .i64 ((a : Int))) (fun v1 hv1 => Fx.x_sub rfl rfl rfl Fx.io) (Qv ((pf g1 a)) (fun v1 hv1 => x_index rfl rfl rfl Try.underlying32 (s := 1) (by kernel_rfl) (by omega) (by omega) (by omega)) (Qv (.int .u64 (K a)) (fun v1 hv1 => x_load1 (x := Fx.rv .u64 K) rfl rfl (by kernel_rfl) (m3.cel.below hv1 (by have := m3.lt; omega)) (i := a) (by omega) (by omega) rfl) (Qv (.int .u64 ((K a) + 1)) (fun v1 hv1 => Fx.x_add rfl rfl rfl (Fx.u64e (by omega) (by omega))) ?_)))))))))
  by_cases c18 : v.seq = ((K a) + 1)
  ·refine Qv (.bool false) (fun v1 hv1 => Fx.x_neqF rfl rfl rfl c18) (Qv (.bool false) (fun v1 hv1 => x_pickF rfl rfl rfl) (Fx.Qt.nil ?_))
   intro wb1 hbwb1
   have s3 : Fx.Stp w2.heap.size w2 wb1 := Sb hbwb1
   have m4 := m3.stp s3 m3.ne
   have m5 := m2.stp s3 m2.ne
   have b3 := s3.below b2 b2.size b2.size
   refine sN (Wc (b := false) rfl (fun h => nomatch h) (fun _ => Wk (sN (Ws (Ws (Wl (Lv (.int .i64 (0)) (x_assign rfl rfl) (Ln (sN (Fx.W.block (Fx.W.loop (fun f w_ => ∃ k : Nat, k ≤ 6 ∧ (∀ i, i < k → v.deps i ≤ K i) ∧ f 2 = (pt g1) ∧ f 3 = (pt g2) ∧ f 5 = .int .i64 ((k : Int)) ∧ Fx.Blk w_ g1 6 (Fx.rv .u64 K) 32 ∧ Fx.Blk w_ g2 14 (evY v) 50 ∧ Below w.heap.size w w_) (fun f _ => (6 - (intOf (f 5)).toNat)) ⟨0, by omega, (fun i h => absurd h (by omega)), (by rfl), (by rfl), Fx.ic, m4, m5, b3⟩ ?_)))))))))))
   rintro f1 w3 ⟨k, hk, hall, h1, h2, h3, m6, m7, b4⟩
   refine Ws (Ws (Wl (Lv (.int .i64 ((k : Int))) (x_move rfl h3) ?_)))
   by_cases c21 : (k : Int) < 6
   ·refine Lv (.bool true) (Fx.x_lssT rfl rfl rfl c21) (Ln (sN (Wc (b := true) rfl (fun _ => Wk (sN (Ws (Fx.W.block (Ws ?_))))) (fun h => nomatch h))))
    -- region 6 draws
    refine Fx.W.quiet (fun v1 => ∃ q, v1 = World.drewN w3 q) (by kernel_rfl) (by kernel_rfl) ⟨1, rfl⟩ ?_
    refine Qv (.int .i64 ((k : Int))) (fun v1 hv1 => x_move rfl h3) (Qv ((pf g2 2)) (fun v1 hv1 => x_field rfl h2 Try.underlying50 rfl (s := 6) (by kernel_rfl) rfl (by show _ + 2 = _; omega)) (Qv ((pf g2 (k + 2))) (fun v1 hv1 => x_index rfl rfl rfl Try.underlying32 (s := 1) (by kernel_rfl) (by omega) (by omega) (by omega)) (Qv (.int .u64 (v.deps k)) (fun v1 hv1 => x_load1 (x := evY v) rfl rfl (by kernel_rfl) (by obtain ⟨qd, rfl⟩ := hv1; exact m7.cel) (i := k + 2) (by omega) (by omega) (evY_deps _ (by omega) (by omega))) (Qv (.int .i64 ((k : Int))) (fun v1 hv1 => x_move rfl h3) (Qv ((pf g1 k)) (fun v1 hv1 => x_index rfl h1 rfl Try.underlying32 (s := 1) (by kernel_rfl) (by omega) (by omega) (by omega)) (Qv (.int .u64 (K k)) (fun v1 hv1 => x_load1 (x := Fx.rv .u64 K) rfl rfl (by kernel_rfl) (by obtain ⟨qd, rfl⟩ := hv1; exact m6.cel) (i := k) (by omega) (by omega) rfl) ?_))))))
    by_cases c31 : (K k) < (v.deps k)
    ·refine Qv (.bool true) (fun v1 hv1 => Fx.x_gtrT rfl rfl rfl c31) (Fx.Qt.nil ?_)
     rintro _ ⟨qd, rfl⟩
     obtain ⟨wq1, ewq1⟩ : ∃ v1, v1 = World.drewN w3 qd := ⟨_, rfl⟩
     rw [← ewq1]
     have s4 : Fx.Stp w3.heap.size w3 wq1 := by rw [ewq1]; exact Sb (bdrN w3 qd)
     have b5 := s4.below b4 b4.size b4.size
     clear ewq1
     refine sN (Wc (b := true) rfl (fun _ => Ws (Wl (Lv (.bool false) (x_assign rfl rfl) ?_))) (fun h => nomatch h))
     refine Ln (sN (Wr (Fx.blkR (sR (Fx.lpR (Fx.blkR (sR (⟨.bool false, rV Try.results47 (by exact rfl), ?_⟩))))))))
     have m2 : decide (v.seq = K (v.o - 1).toNat + 1) = true := decide_eq_true (by rw [show (v.o - 1).toNat = a by omega]; exact c18)
     have m3 := leAll_no (by omega) c31
     exact ⟨congrArg (fun q => Ending.returned (Value.bool q)) (Eq.symm (by unfold readyE; rw [c7, m2, m3]; rfl)), b5⟩
    refine Qv (.bool false) (fun v1 hv1 => x_gtrF rfl rfl rfl c31) (Fx.Qt.nil ?_)
    rintro _ ⟨qd, rfl⟩
    obtain ⟨wq2, ewq2⟩ : ∃ v1, v1 = World.drewN w3 qd := ⟨_, rfl⟩
    rw [← ewq2]
    have s5 : Fx.Stp w3.heap.size w3 wq2 := by rw [ewq2]; exact Sb (bdrN w3 qd)
    have m10 := m6.stp s5 m6.ne
    have m11 := m7.stp s5 m7.ne
    have b6 := s5.below b4 b4.size b4.size
    clear ewq2
    refine sN (Wc (b := false) rfl (fun h => nomatch h) (fun _ => Wk (Fx.blkN (sN (Wl (Lv (.int .i64 ((k : Int))) (x_move rfl h3) (Lv (.int .i64 ((k : Int) + 1)) (Fx.x_add rfl rfl rfl Fx.io) (Lv (.int .i64 ((k : Int) + 1)) (x_assign rfl rfl) (Ln (Fx.lpN ⟨k + 1, by omega, (le_step hall c31), h1, h2, Fx.ic, m10, m11, b6⟩ ?_))))))))))
    show (6 - (intOf ((.int .i64 ((k : Int) + 1)))).toNat) < _
    simp only [h3, intOf]; omega
   refine Lv (.bool false) (Fx.x_lssF rfl rfl rfl c21) (Ln (sN (Wc (b := false) rfl (fun h => nomatch h) (fun _ => Fx.W.exit (Fx.seqX (Fx.lpX (Fx.blkX (sN (Ws (Wl (Lv (.bool true) (x_assign rfl rfl) (Ln (sN (Wr (⟨.bool true, rV Try.results47 (by exact rfl), ?_⟩)))))))))))))))
   have m2 : decide (v.seq = K (v.o - 1).toNat + 1) = true := decide_eq_true (by rw [show (v.o - 1).toNat = a by omega]; exact c18)
   have m3 := leAll_yes c21 hall
   exact ⟨congrArg (fun q => Ending.returned (Value.bool q)) (Eq.symm (by unfold readyE; rw [c7, m2, m3]; rfl)), b4⟩
  refine Qv (.bool true) (fun v1 hv1 => Fx.x_neqT rfl rfl rfl c18) (Qv (.bool true) (fun v1 hv1 => x_pickF rfl rfl rfl) (Fx.Qt.nil ?_))
  intro wb2 hbwb2
  have s6 : Fx.Stp w2.heap.size w2 wb2 := Sb hbwb2
  have b7 := s6.below b2 b2.size b2.size
  refine sN (Wc (b := true) rfl (fun _ => Ws (Wl (Lv (.bool false) (x_assign rfl rfl) ?_))) (fun h => nomatch h))
  refine Ln (sN (Wr (sR (⟨.bool false, rV Try.results47 (by exact rfl), ?_⟩))))
  have m2 : decide (v.seq = K (v.o - 1).toNat + 1) = false := decide_eq_false (by rw [show (v.o - 1).toNat = a by omega]; exact c18)
  exact ⟨congrArg (fun q => Ending.returned (Value.bool q)) (Eq.symm (by unfold readyE; rw [c7, m2]; rfl)), b7⟩
 rw [Bool.not_eq_true] at c7
 refine Fx.Qt.call (v := .bool false) (by rfl) (fun v1 hv1 => rC (args := [.agg (Fx.varr 14 (evY v))]) rfl rfl Try.func45 rfl rfl) rfl (fun v1 hv1 => (e_may v _ hv).mono fun e v2 h => ⟨by rw [h.1, c7], bch hv1 h.2⟩) ?_
 refine Qv (.bool true) (fun v1 hv1 => Fx.x_notT rfl rfl) (Qv (.bool true) (fun v1 hv1 => x_move rfl rfl) (Qs (by rfl) rfl (Qs (by rfl) rfl (Qs (by rfl) rfl (Qs (by rfl) rfl (Qs (by rfl) rfl (Qs (by rfl) rfl (Qs (by rfl) rfl (Qs (by rfl) rfl (Qs (by rfl) rfl (Qv (.bool true) (fun v1 hv1 => x_pickT rfl rfl rfl) (Fx.Qt.nil ?_))))))))))))
 intro wb3 hbwb3
 have s7 : Fx.Stp w2.heap.size w2 wb3 := Sb hbwb3
 have b8 := s7.below b2 b2.size b2.size
 refine sN (Wc (b := true) rfl (fun _ => Ws (Wl (Lv (.bool false) (x_assign rfl rfl) ?_))) (fun h => nomatch h))
 refine Ln (sN (Wr (sR (⟨.bool false, rV Try.results47 (by exact rfl), ?_⟩))))
 exact ⟨congrArg (fun q => Ending.returned (Value.bool q)) (Eq.symm (by unfold readyE; rw [c7]; rfl)), b8⟩
end Go.Proofs.Ytleajegppehbdaa
namespace Go.Proofs.Ytleajegppehbdaa.Fx
open Go.RowKit
section
variable {w w' : World} {B : Nat} {E : TypeId} {s g n cap : Nat} {x : Nat → Value}
theorem Own.blk (h : Own w B E s (.slice (some ⟨g, 0, none⟩) n cap) n x) : B ≤ g ∧ n ≤ cap ∧ cap ≤ maxLen ∧ ∃ x', Blk w g (cap * s) x' E ∧ ∀ p, p < n * s → x' p = x p := by
  rcases h.2 with ⟨e, _⟩ | ⟨g', cap', cur, e, hb, hgg, hnc, hmax, hsz, ht⟩
  · cases e
  simp only [Value.slice.injEq, Option.some.injEq, Addr.mk.injEq, and_true, true_and] at e
  obtain ⟨rfl, rfl⟩ := e
  refine ⟨hb, hnc, hmax, fun p => cur.getD p undef, ?_, fun p hp => ?_⟩
  · unfold Blk
    rw [hgg]
    congr 2
    refine (varr_ext hsz fun j hj => ?_)
    simp [Array.getD, hsz, hj]
  have hle : n * s ≤ cap * s := Nat.mul_le_mul_right s hnc
  have := congrArg (fun l : List Value => l[p]?) ht
  simp only [List.getElem?_take_of_lt hp, Array.getElem?_toList, List.getElem?_map, List.getElem?_range hp, Option.map_some] at this
  simp only [Array.getD_eq_getD_getElem?, this, Option.getD_some]
theorem Blk.own {x' : Nat → Value} (h : Blk w g (cap * s) x' E) (hB : B ≤ g) (hn : n ≤ cap) (hm : cap ≤ maxLen) (e : ∀ p, p < n * s → x' p = x p) : Own w B E s (.slice (some ⟨g, 0, none⟩) n cap) n x := by
  refine ⟨by simp, .inr ⟨g, cap, varr (cap * s) x', rfl, hB, h, hn, hm, varr_size _ _, ?_⟩⟩
  have hle : n * s ≤ cap * s := Nat.mul_le_mul_right s hn
  apply List.ext_getElem?
  intro p
  by_cases hp : p < n * s
  · rw [List.getElem?_take_of_lt hp, Array.getElem?_toList, varr_get x' (by omega), List.getElem?_map, List.getElem?_range hp, Option.map_some, e p hp]
  rw [List.getElem?_eq_none (by simp; omega), List.getElem?_eq_none (by simp; omega)]
theorem Own.lt (h : Own w B E s (.slice (some ⟨g, 0, none⟩) n cap) n x) : g < w.heap.size := (h.ge rfl).2
theorem Own.cel (h : Own w B E s (.slice (some ⟨g, 0, none⟩) n cap) n x) : Cel w g 0 (n * s) x := fun i hi => by
  rcases Nat.eq_zero_or_pos n with e | e
  · subst e; omega
  · obtain ⟨g', cap', e2, _, _, _, hc⟩ := h.form e
    simp only [Value.slice.injEq, Option.some.injEq, Addr.mk.injEq, and_true, true_and] at e2
    obtain ⟨rfl, rfl⟩ := e2
    exact hc i hi
theorem Own.stpB {g' : Nat} (h : Own w B E s (.slice (some ⟨g, 0, none⟩) n cap) n x) (hs : Stp g' w w') (ne : g ≠ g') : Own w' B E s (.slice (some ⟨g, 0, none⟩) n cap) n x := h.stp hs fun e => ne (Option.some.inj e)
end
section
variable {P : Program} {n : Nat} {Q : Post} {ops : Array Oper} {rest : List Oper} {f : Nat → Value} {w : World} {o : Oper}
theorem L.own1 {T E : TypeId} {a v : Operand} {B s g k cap i : Nat} {x : Nat → Value} {u : Value} (hw : Region.wanted o (yf ops f) = true) (hd : o.dst = none) (ho : o.op = .store T a v) (ha : ev f a = .pointer (some ⟨g, i, none⟩)) (hv : ev f v = u) (h1 : u.oneCell' = true) (hT : (P.info? T).map (·.size) = some 1)
    (hb : Own w B E s (.slice (some ⟨g, 0, none⟩) k cap) k x) (hi : i < k * s) (h : ∀ w', Own w' B E s (.slice (some ⟨g, 0, none⟩) k cap) k (updV x i u) → Stp g w w' → w'.heap.size = w.heap.size → L P n ops Q rest f w') : L P n ops Q (o :: rest) f w := by
  obtain ⟨h0, hk, hm, x', hx, he⟩ := hb.blk
  have hle : k * s ≤ cap * s := Nat.mul_le_mul_right s hk
  refine L.store1 (x := x') hw hd ho ha hv h1 hT hx (by omega) fun w' hw' hs hz => h w' (hw'.own h0 hk hm fun p hp => ?_) hs hz
  unfold updV; rw [he p hp]
theorem L.ownA {T E : TypeId} {a v : Operand} {B s g k cap i c : Nat} {x y : Nat → Value} (hw : Region.wanted o (yf ops f) = true) (hd : o.dst = none) (ho : o.op = .store T a v) (ha : ev f a = .pointer (some ⟨g, i, none⟩)) (hv : ev f v = .agg (varr c y)) (h1 : ∀ j, j < c → (y j).oneCell' = true) (hT : (P.info? T).map (·.size) = some c)
    (hb : Own w B E s (.slice (some ⟨g, 0, none⟩) k cap) k x) (hi : i + c ≤ k * s) (h : ∀ w', Own w' B E s (.slice (some ⟨g, 0, none⟩) k cap) k (ovr x i c y) → Stp g w w' → w'.heap.size = w.heap.size → L P n ops Q rest f w') : L P n ops Q (o :: rest) f w := by
  obtain ⟨h0, hk, hm, x', hx, he⟩ := hb.blk
  have hle : k * s ≤ cap * s := Nat.mul_le_mul_right s hk
  refine L.storeA (x := x') hw hd ho ha hv h1 hT hx (by omega) fun w' hw' hs hz => h w' (hw'.own h0 hk hm fun p hp => ?_) hs hz
  unfold ovr; rw [he p hp]
end
end Go.Proofs.Ytleajegppehbdaa.Fx
namespace Go.Proofs.Ytleajegppehbdaa.Fx
open Go.RowKit
section
variable {P : Program} {n : Nat} {Q : Post} {f : Nat → Value} {w : World} {o : Oper}
theorem run_app0 {E T ty : TypeId} {s k c cap : Nat} {a b : Option Addr} (hu : P.underlying T = some (.slice E)) (hi : (P.info? E).map (·.size) = some s) (hk : k ≤ cap) : (Builtin.append_ #[T, T] ty #[.slice b k cap, .slice a 0 c]).run P w = .ok (.slice b k cap) w := by
  obtain ⟨i, hi1, hi2⟩ := Option.map_eq_some_iff.1 hi
  have hf : (Builtin.firstCells s 0 (.slice a 0 c)).run P w = .ok #[] w := by
    cases a with
    | none => simp [Builtin.firstCells]
    | some a => simp [Builtin.firstCells, loadCells, loadCellsFrom]
  unfold Builtin.append_
  simp [underlying, hu, sizeOf, typeInfo, hi1, hi2, Builtin.lenOf, hk, hf]
  cases b <;> simp [storeCells]
theorem Own.zero {B : Nat} {E : TypeId} {s k : Nat} {v : Value} {x y : Nat → Value} (h : Own w B E s v k x) : Own w B E s v (k + 0) (appX x (k * s) y) :=
  Own.congr h fun j hj => by unfold appX; rw [if_pos (show j < k * s from hj)]
theorem grown_refl (w : World) (r : Option Nat) : w.grownBy w r := ⟨rfl, rfl, rfl, Nat.le_refl _, fun _ _ _ => rfl⟩
theorem r_appAny {B : Nat} {E T : TypeId} {s bytes k m c : Nat} {v : Value} {x y : Nat → Value} {a : Option Addr} {sx xx : Operand} {ρ : Operand → Value} (ho : o.op = .call { callee := .builtin .append, args := #[sx, xx], argTypes := #[T, T] }) (hsx : ρ sx = v) (hxx : ρ xx = .slice a m c)
    (hu : P.underlying T = some (.slice E)) (hi : (P.info? E).map (fun i => (i.size, i.bytes)) = some (s, bytes)) (hz : ((P.info? E).bind (·.zero)).map (·.cells.size) = some s) (hs : Nat.blt 0 s = true)
    (hown : Own w B E s v k x) (hc : 0 < m → ∃ b off, a = some ⟨b, off, none⟩ ∧ Cel w b off (m * s) y) (h1 : ∀ j, j < m * s → (y j).oneCell' = true) (hbytes : (k + m) * bytes ≤ 140737488355328) (h63 : k + m ≤ 140737488355328) (hB : B ≤ w.heap.size) :
    ∃ v' w', (execOp ρ o).run P w = .ok (.value v') w' ∧ Own w' B E s v' (k + m) (appX x (k * s) y) ∧ w.grownBy w' v.ownBlock ∧ (v' = v ∨ v'.ownBlock = v.ownBlock ∨ v'.ownBlock = some w.heap.size) := by
  rcases Nat.eq_zero_or_pos m with rfl | hm
  · refine ⟨v, w, ?_, hown.zero, grown_refl _ _, .inl rfl⟩
    obtain ⟨b, cap, hv, hk⟩ : ∃ b cap, v = .slice b k cap ∧ k ≤ cap := by
      rcases hown.2 with ⟨rfl, rfl⟩ | ⟨g, cap, cur, rfl, _, _, hnc, _⟩
      · exact ⟨none, 0, rfl, Nat.le_refl _⟩
      · exact ⟨_, _, rfl, hnc⟩
    subst hv
    have hi' : (P.info? E).map (·.size) = some s := by
      obtain ⟨i, hi1, hi2⟩ := Option.map_eq_some_iff.1 hi
      rw [hi1]; simp only [Prod.mk.injEq] at hi2; simp [hi2.1]
    have hr := run_app0 (P := P) (w := w) (ty := o.type) (a := a) (b := b) (c := c) hu hi' hk
    unfold execOp
    simp only [ho]
    unfold resolve invoke
    simp only [List.map_toArray, List.map_cons, List.map_nil, hsx, hxx]
    unfold builtin
    simp only [Sem.run_bind, Sem.run_pure, Result.andThen_ok, hr]
  obtain ⟨b, off, rfl, hcc⟩ := hc hm
  obtain ⟨g, cap, w', hr, h2, h3, h4, _⟩ := r_app (P := P) ho hsx hxx hu hi hz hs hown hcc h1 hm hbytes h63 hB
  refine ⟨_, w', hr, h2, h3, ?_⟩
  rcases h4 with h4 | h4
  · exact .inr (.inl h4.symm)
  exact .inr (.inr (by rw [h4]; rfl))
theorem L.appAny {ops : Array Oper} {rest : List Oper} {B : Nat} {E T : TypeId} {s bytes k m c : Nat} {v : Value} {x y : Nat → Value} {a : Option Addr} {sx xx : Operand} (hw : Region.wanted o (yf ops f) = true) (ho : o.op = .call { callee := .builtin .append, args := #[sx, xx], argTypes := #[T, T] }) (hsx : ev f sx = v) (hxx : ev f xx = .slice a m c)
    (hu : P.underlying T = some (.slice E)) (hi : (P.info? E).map (fun i => (i.size, i.bytes)) = some (s, bytes)) (hz : ((P.info? E).bind (·.zero)).map (·.cells.size) = some s) (hs : Nat.blt 0 s = true) (hd : inn n o.dst = true)
    (hown : Own w B E s v k x) (hc : 0 < m → ∃ b off, a = some ⟨b, off, none⟩ ∧ Cel w b off (m * s) y) (h1 : ∀ j, j < m * s → (y j).oneCell' = true) (hbytes : (k + m) * bytes ≤ 140737488355328) (h63 : k + m ≤ 140737488355328) (hB : B ≤ w.heap.size)
    (h : ∀ v' w', Own w' B E s v' (k + m) (appX x (k * s) y) → w.grownBy w' v.ownBlock → (v' = v ∨ v'.ownBlock = v.ownBlock ∨ v'.ownBlock = some w.heap.size) → L P n ops Q rest (put f o.dst v') w') : L P n ops Q (o :: rest) f w := by
  obtain ⟨v', w', hr, h2, h3, h4⟩ := r_appAny (ρ := ev f) ho hsx hxx hu hi hz hs hown hc h1 hbytes h63 hB
  exact L.val hw hr hd (h v' w' h2 h3 h4)
end
end Go.Proofs.Ytleajegppehbdaa.Fx
namespace Go.Proofs.Ytleajegppehbdaa.Fx
open Go.RowKit
structure Chg (S : Nat → Prop) (w w' : World) : Prop where
  os : w'.os = w.os
  tape : w'.tape = w.tape
  output : w'.output = w.output
  size : w.heap.size ≤ w'.heap.size
  block : ∀ k, k < w.heap.size → ¬ S k → w'.heap[k]? = w.heap[k]?
section
variable {S S' : Nat → Prop} {w0 w1 w2 : World}
theorem Chg.refl (S : Nat → Prop) (w : World) : Chg S w w := ⟨rfl, rfl, rfl, Nat.le_refl _, fun _ _ _ => rfl⟩
theorem Chg.then {g : Nat} (h : Chg S w0 w1) (hs : Stp g w1 w2) (hg : S g ∨ w0.heap.size ≤ g) : Chg S w0 w2 :=
  ⟨hs.os.trans h.os, hs.tape.trans h.tape, hs.output.trans h.output, Nat.le_trans h.size hs.size, fun k hk hne => (hs.block k (Nat.lt_of_lt_of_le hk h.size) (fun e => hg.elim (fun a => hne (by rw [e]; exact a)) (fun a => by omega))).trans (h.block k hk hne)⟩
theorem Chg.grow {v : Value} (h : Chg S w0 w1) (hs : w1.grownBy w2 v.ownBlock) (hg : ∀ k, v.ownBlock = some k → S k ∨ w0.heap.size ≤ k) : Chg S w0 w2 :=
  ⟨hs.os.trans h.os, hs.tape.trans h.tape, hs.output.trans h.output, Nat.le_trans h.size hs.size, fun k hk hne => (hs.block k (Nat.lt_of_lt_of_le hk h.size) (fun e => (hg k e.symm).elim hne (fun a => by omega))).trans (h.block k hk hne)⟩
theorem Chg.of_below (h : Below w0.heap.size w0 w1) : Chg S w0 w1 := ⟨h.os, h.tape, h.output, h.size, fun k hk _ => h.block k hk⟩
theorem Chg.below {B : Nat} {w : World} (hb : Below B w w0) (h : Chg S w0 w1) (hS : ∀ k, S k → B ≤ k) (hB : B ≤ w0.heap.size) : Below B w w1 where
  os := h.os.trans hb.os
  tape := h.tape.trans hb.tape
  output := h.output.trans hb.output
  size := Nat.le_trans hb.size h.size
  block := fun k hk => (h.block k (by omega) (fun e => by have := hS k e; omega)).trans (hb.block k hk)
theorem Blk.chg {b m : Nat} {x : Nat → Value} {T : TypeId} (h : Blk w0 b m x T) (hs : Chg S w0 w1) (ne : ¬ S b) : Blk w1 b m x T := (hs.block b h.lt ne).trans h
theorem Cel.chg {b off m : Nat} {x : Nat → Value} (h : Cel w0 b off m x) (hs : Chg S w0 w1) (ne : ¬ S b) : Cel w1 b off m x := fun i hi => by
  have hc := h i hi
  have hlt := block_lt_of_cell hc
  unfold World.cell? at hc ⊢
  rw [hs.block b hlt ne]; exact hc
theorem Own.chg {B : Nat} {E : TypeId} {s : Nat} {v : Value} {n : Nat} {x : Nat → Value} (h : Own w0 B E s v n x) (hs : Chg S w0 w1) (ne : ∀ g, v.ownBlock = some g → ¬ S g) : Own w1 B E s v n x := by
  refine ⟨h.1, ?_⟩
  rcases h.2 with a | ⟨g, cap, cur, rfl, hb, hg, rest⟩
  · exact .inl a
  exact .inr ⟨g, cap, cur, rfl, hb, (hs.block g (Array.getElem?_eq_some_iff.1 hg).1 (ne g rfl)).trans hg, rest⟩
end
section
variable {P : Program} {f : Nat → Value} {w : World} {o : Oper}
theorem x_shl {T T' : TypeId} {x y : Operand} {k yk : IntKind} {a c : Int} {b : Nat} (ho : o.op = .binOp .shl T x y T') (hx : ev f x = .int k a) (hy : ev f y = .int yk b) (hb : b ≤ k.bits) (hc : k.wrap (a * 2 ^ b) = c) : Runs P f o w (.int k c) := by
  unfold Runs execOp
  simp only [ho, hx, hy]
  have hr : (binOp .shl T (.int k a) (.int yk (b : Int))).run P w = .ok (.int k c) w := by
    simp only [binOp, Op.shift]
    rw [if_neg (by omega), show min (Int.toNat (b : Int)) k.bits = b by simp; omega, hc]
    simp
  simp only [Sem.run_bind, run_eqGuard_ints, Result.andThen_ok, hr, Sem.run_pure]
end
end Go.Proofs.Ytleajegppehbdaa.Fx
namespace Go.Proofs.Ytleajegppehbdaa.Fx
open Go.RowKit
section
variable {P : Program} {n : Nat} {Q : Post} {f : Nat → Value} {w : World} {o : Oper}
theorem L.bslice0 {ops : Array Oper} {rest : List Oper} {T E : TypeId} {s : Nat} (hw : Region.wanted o (yf ops f) = true) (ho : o.op = .buildSlice T 0 #[]) (hu : P.underlying T = some (.slice E)) (hs : (P.info? E).map (·.size) = some s) (hd : inn n o.dst = true)
    (h : ∀ g w', g = w.heap.size → (∀ B x, B ≤ g → Own w' B E s (.slice (some ⟨g, 0, none⟩) 0 0) 0 x) → Stp w.heap.size w w' → L P n ops Q rest (put f o.dst (.slice (some ⟨g, 0, none⟩) 0 0)) w') : L P n ops Q (o :: rest) f w := by
  obtain ⟨i, hi, hi2⟩ := Option.map_eq_some_iff.1 hs
  have hrun : (execOp (ev f) o).run P w = .ok (.value (.slice (some ⟨w.heap.size, 0, none⟩) 0 0)) (w.alloc (.cells #[] E)) := by
    unfold execOp
    simp only [ho, List.map_toArray]
    unfold Instr.buildSlice
    simp [underlying, sizeOf, typeInfo, hu, hi, Instr.fill, newRow]
    have e : ∀ d : Value, Array.map (fun _ => d) (Array.range 0) = #[] := fun d => by apply Array.ext <;> simp
    rw [e]
  refine L.val hw hrun hd (h _ _ rfl (fun B x hB => ⟨by simp, .inr ⟨w.heap.size, 0, #[], rfl, hB, ?_, Nat.le_refl _, Nat.zero_le _, by simp, by simp⟩⟩) (Stp.alloc _ _))
  show (w.alloc _).heap[w.heap.size]? = _
  rw [alloc_at, if_pos rfl]
end
end Go.Proofs.Ytleajegppehbdaa.Fx
namespace Go.Proofs.Ytleajegppehbdaa.Fx
open Go.RowKit
theorem Out.mono {P : Program} {f : Nat → Value} {o : Oper} {w : World} {K K' : Value → World → Prop} (h : Out P f o w K) (hk : ∀ v w', K v w' → K' v w') : Out P f o w K' := by
  rcases h with ⟨v, w', hr, h⟩ | ⟨w', hr, h⟩ | ⟨g, args, hr, h⟩
  · exact .inl ⟨v, w', hr, hk v w' h⟩
  · exact .inr (.inl ⟨w', hr, hk _ w' h⟩)
  exact .inr (.inr ⟨g, args, hr, h.mono fun e w' ⟨v, he, hv⟩ => ⟨v, he, hk v w' hv⟩⟩)
def stillC (c : Nat) : Bool := Nat.ble c 1 || Nat.beq c 4
def Stay (S : World → World → Prop) (c : Nat) (w w2 : World) : Prop := c = 0 ∨ (c = 1 ∧ S w w2) ∨ w2 = w
def R (P : Program) (n : Nat) (ops : List Oper) (cs : List Nat) (S : World → World → Prop) (Q : Post) : List Nat → (Nat → Value) → World → Prop
  | [], f, w => Q .normal f w
  | i :: l, f, w => (Region.wanted (opAt ops i) (yf ops.toArray f) = false ∧ R P n ops cs S Q l (put f (opAt ops i).dst undef) w) ∨
    (Region.wanted (opAt ops i) (yf ops.toArray f) = true ∧
      ((stillC (cs.getD i 3) = true ∧ ∃ v, (∀ w2, Stay S (cs.getD i 3) w w2 → (execOp (ev f) (opAt ops i)).run P w2 = .ok (.value v) w2) ∧ R P n ops cs S Q l (put f (opAt ops i).dst v) w) ∨
       (stillC (cs.getD i 3) = false ∧ Out P f (opAt ops i) w fun v w' => (cs.getD i 3 = 2 → S w w') ∧ R P n ops cs S Q l (put f (opAt ops i).dst v) w')))
section
variable {P : Program} {n : Nat} {ops : List Oper} {cs : List Nat} {S : World → World → Prop} {Q : Post}
theorem R.tail {i : Nat} {X Y : List Nat} (hXY : ∀ f w, R P n ops cs S Q X f w → R P n ops cs S Q Y f w) {f : Nat → Value} {w : World} (h : R P n ops cs S Q (i :: X) f w) : R P n ops cs S Q (i :: Y) f w := by
  unfold R at h ⊢
  rcases h with ⟨h1, h2⟩ | ⟨h1, ⟨h2, v, h3, h4⟩ | ⟨h2, h3⟩⟩
  · exact .inl ⟨h1, hXY _ _ h2⟩
  · exact .inr ⟨h1, .inl ⟨h2, v, h3, hXY _ _ h4⟩⟩
  exact .inr ⟨h1, .inr ⟨h2, h3.mono fun v w' hv => ⟨hv.1, hXY _ _ hv.2⟩⟩⟩
def Stl (P : Program) (ops : List Oper) (cs : List Nat) (S : World → World → Prop) (i : Nat) (f : Nat → Value) (w : World) (v : Value) : Prop :=
  (Region.wanted (opAt ops i) (yf ops.toArray f) = false ∧ v = undef) ∨ (Region.wanted (opAt ops i) (yf ops.toArray f) = true ∧ stillC (cs.getD i 3) = true ∧ ∀ w2, Stay S (cs.getD i 3) w w2 → (execOp (ev f) (opAt ops i)).run P w2 = .ok (.value v) w2)
theorem R.of_stl {i : Nat} {l : List Nat} {f : Nat → Value} {w : World} {v : Value} (hs : Stl P ops cs S i f w v) (h : R P n ops cs S Q l (put f (opAt ops i).dst v) w) : R P n ops cs S Q (i :: l) f w := by
  unfold R
  rcases hs with ⟨h1, rfl⟩ | ⟨h1, h2, h3⟩
  · exact .inl ⟨h1, h⟩
  exact .inr ⟨h1, .inl ⟨h2, v, h3, h⟩⟩
theorem R.stl {i : Nat} {l : List Nat} {f : Nat → Value} {w : World} (hi : stillC (cs.getD i 3) = true) (h : R P n ops cs S Q (i :: l) f w) : ∃ v, Stl P ops cs S i f w v ∧ R P n ops cs S Q l (put f (opAt ops i).dst v) w := by
  unfold R at h
  rcases h with ⟨h1, h2⟩ | ⟨h1, ⟨h2, v, h3, h4⟩ | ⟨h2, h3⟩⟩
  · exact ⟨undef, .inl ⟨h1, rfl⟩, h2⟩
  · exact ⟨v, .inr ⟨h1, h2, h3⟩, h4⟩
  rw [hi] at h2; cases h2
theorem put_other {ops : List Oper} (hok : opsOk n ops = true) {i j : Nat} (hi : i < ops.length) (hj : j < ops.length) (hne : i ≠ j) (f : Nat → Value) (u v : Value) :
    put (put f (opAt ops i).dst u) (opAt ops j).dst v = put (put f (opAt ops j).dst v) (opAt ops i).dst u := by
  cases hdi : (opAt ops i).dst with
  | none => rfl
  | some di =>
    cases hdj : (opAt ops j).dst with
    | none => rfl
    | some dj =>
      have hd : di ≠ dj := fun e => by
        subst e
        have h1 := ((opsOk_at hok hi).1 di hdi).1
        have h2 := ((opsOk_at hok hj).1 di hdj).1
        rw [h1] at h2; exact hne (Option.some.inj h2)
      funext s
      simp only [put]
      cases h1 : Nat.beq s di <;> cases h2 : Nat.beq s dj <;> simp
      exact (hd ((Nat.eq_of_beq_eq_true h1).symm.trans (Nat.eq_of_beq_eq_true h2))).elim
theorem put_ev {ops : List Oper} (hok : opsOk n ops = true) {i j : Nat} (hi : i < ops.length) (hj : j < ops.length) (ha : isAfter (opAt ops j) i = false) (f : Nat → Value) (u : Value) : ∀ x ∈ (opAt ops j).op.operands, ev (put f (opAt ops i).dst u) x = ev f x := by
  intro x hx
  cases x with
  | tmp t =>
    show put f (opAt ops i).dst u t = f t
    cases hdi : (opAt ops i).dst with
    | none => rfl
    | some d =>
      simp only [put]
      cases hb : Nat.beq t d with
      | false => rfl
      | true =>
        have e := Nat.eq_of_beq_eq_true hb
        subst e
        have h1 := ((opsOk_at hok hi).1 t hdi).1
        have h2 := (opsOk_at hok hj).2.1 t i hx h1
        rw [ha] at h2; cases h2
  | _ => rfl
theorem put_wanted {ops : List Oper} (hok : opsOk n ops = true) {i j : Nat} (hi : i < ops.length) (hj : j < ops.length) (ha : isAfter (opAt ops j) i = false) (f : Nat → Value) (u : Value) :
    Region.wanted (opAt ops j) (yf ops.toArray (put f (opAt ops i).dst u)) = Region.wanted (opAt ops j) (yf ops.toArray f) := by
  unfold Region.wanted
  cases hg : (opAt ops j).guard with
  | none => rfl
  | some gb =>
    obtain ⟨g, b⟩ := gb
    simp only
    have h2 := (opsOk_at hok hj).2.2.1 g b hg
    have hgi : g ≠ i := fun e => by subst e; rw [ha] at h2; cases h2
    congr 1
    unfold yf
    cases hd : (ops.toArray[g]?).bind (·.dst) with
    | none => rfl
    | some d =>
      simp only
      have hgl : g < ops.length := by
        cases hq : ops.toArray[g]? with
        | none => rw [hq] at hd; cases hd
        | some o => have := (Array.getElem?_eq_some_iff.1 hq).1; simpa using this
      have hdd : (opAt ops g).dst = some d := by
        unfold opAt
        rw [List.getElem?_toArray] at hd
        rw [List.getD_eq_getElem?_getD]
        cases hq : ops[g]? with
        | none => rw [hq] at hd; cases hd
        | some o => rw [hq] at hd; exact hd
      have e : put f (opAt ops i).dst u d = f d := by
        cases hdi : (opAt ops i).dst with
        | none => rfl
        | some di =>
          simp only [put]
          cases hb : Nat.beq d di with
          | false => rfl
          | true =>
            have e := Nat.eq_of_beq_eq_true hb
            subst e
            have h3 := ((opsOk_at hok hi).1 d hdi).1
            have h4 := ((opsOk_at hok hgl).1 d hdd).1
            rw [h3] at h4; exact absurd (Option.some.inj h4).symm hgi
      rw [e]
theorem put_run {ops : List Oper} (hok : opsOk n ops = true) (hsel : Region.noSelect ops.toArray = true) {i j : Nat} (hi : i < ops.length) (hj : j < ops.length) (ha : isAfter (opAt ops j) i = false) (f : Nat → Value) (u : Value) :
    execOp (ev (put f (opAt ops i).dst u)) (opAt ops j) = execOp (ev f) (opAt ops j) :=
  execOp_congr _ (fun c b => Region.noSelect_spec hsel j (opAt ops j) c b (by
    unfold opAt; rw [List.getElem?_toArray, List.getD_eq_getElem?_getD, List.getElem?_eq_getElem hj]; rfl)) (put_ev hok hi hj ha f u)
def pairOk (ops : List Oper) (cs : List Nat) (certs : List (Nat × Nat × List Nat)) (i j : Nat) : Bool :=
  !isAfter (opAt ops i) j && ((stillC (cs.getD i 3) && (Nat.beq (cs.getD i 3) 0 || stillC (cs.getD j 3) || (Nat.beq (cs.getD i 3) 1 && Nat.beq (cs.getD j 3) 2))) || certs.any fun c => Nat.beq c.1 j && Nat.beq c.2.1 i && pathB ops j c.2.2 i)
def pairsOk (ops : List Oper) (cs : List Nat) (certs : List (Nat × Nat × List Nat)) : List Nat → Bool
  | [] => true
  | i :: l => l.all (pairOk ops cs certs i) && pairsOk ops cs certs l
def permOk (ops : List Oper) (l : List Nat) : Bool := Nat.beq l.length ops.length && l.all (fun i => Nat.blt i ops.length) && decide l.Nodup && (List.range ops.length).all (fun i => l.any (Nat.beq i))
theorem swap (hok : opsOk n ops = true) (hsel : Region.noSelect ops.toArray = true) {i j : Nat} (hi : i < ops.length) (hj : j < ops.length) (hne : i ≠ j) (hij : isAfter (opAt ops j) i = false) (hji : isAfter (opAt ops i) j = false) (hS : ∀ w, S w w) (hT : ∀ a b c, S a b → S b c → S a c) (hc : stillC (cs.getD i 3) = true) (hc2 : cs.getD i 3 = 0 ∨ stillC (cs.getD j 3) = true ∨ (cs.getD i 3 = 1 ∧ cs.getD j 3 = 2))
    {l : List Nat} {f : Nat → Value} {w : World} (h : R P n ops cs S Q (i :: j :: l) f w) : R P n ops cs S Q (j :: i :: l) f w := by
  obtain ⟨vi, hs, h⟩ := h.stl hc
  have up : ∀ (u : Value) (w' : World), Stay S (cs.getD i 3) w w' → Stl P ops cs S i (put f (opAt ops j).dst u) w' vi := fun u w' hb => by
    unfold Stl
    rw [put_wanted hok hj hi hji, put_run hok hsel hj hi hji]
    rcases hs with hs | ⟨h1, h2, h3⟩
    · exact .inl hs
    · refine .inr ⟨h1, h2, fun w2 h4 => h3 w2 ?_⟩
      rcases hb with hb | ⟨hb, hb2⟩ | hb
      · exact .inl hb
      · rcases h4 with h4 | ⟨_, h4⟩ | h4
        · exact .inl h4
        · exact .inr (.inl ⟨hb, hT _ _ _ hb2 h4⟩)
        · subst h4; exact .inr (.inl ⟨hb, hb2⟩)
      · subst hb; exact h4
  unfold R at h
  rw [put_wanted hok hi hj hij, put_run hok hsel hi hj hij] at h
  rw [R]
  rcases h with ⟨h1, h2⟩ | ⟨h1, ⟨h2, v, h3, h4⟩ | ⟨h2, h3⟩⟩
  · refine .inl ⟨h1, R.of_stl (up undef w (.inr (.inr rfl))) ?_⟩
    rw [put_other hok hi hj hne] at h2; exact h2
  · refine .inr ⟨h1, .inl ⟨h2, v, h3, R.of_stl (up v w (.inr (.inr rfl))) ?_⟩⟩
    rw [put_other hok hi hj hne] at h4; exact h4
  refine .inr ⟨h1, .inr ⟨h2, ?_⟩⟩
  unfold Out at h3
  rw [put_run hok hsel hi hj hij] at h3
  refine Out.mono (K := fun v w' => (cs.getD j 3 = 2 → S w w') ∧ R P n ops cs S Q l (put (put f (opAt ops i).dst vi) (opAt ops j).dst v) w') h3 fun v w' hk => ⟨hk.1, R.of_stl (up v w' ?_) ?_⟩
  · rcases hc2 with e | e | ⟨e, e2⟩
    · exact .inl e
    · rw [h2] at e; cases e
    exact .inr (.inl ⟨e, hk.1 e2⟩)
  have := hk.2; rw [put_other hok hi hj hne] at this; exact this
theorem bubble (hok : opsOk n ops = true) (hsel : Region.noSelect ops.toArray = true) (hS : ∀ w, S w w) (hT : ∀ a b c, S a b → S b c → S a c) {j : Nat} (hj : j < ops.length) {l : List Nat} :
    ∀ (pre : List Nat), (∀ i ∈ pre, i < ops.length ∧ i ≠ j ∧ isAfter (opAt ops j) i = false ∧ isAfter (opAt ops i) j = false ∧ stillC (cs.getD i 3) = true ∧ (cs.getD i 3 = 0 ∨ stillC (cs.getD j 3) = true ∨ (cs.getD i 3 = 1 ∧ cs.getD j 3 = 2))) → ∀ f w, R P n ops cs S Q (pre ++ j :: l) f w → R P n ops cs S Q (j :: (pre ++ l)) f w
  | [], _, f, w, h => h
  | i :: pre, hp, f, w, h => by
    obtain ⟨h1, h2, h3, h4, h5, h6⟩ := hp i (List.mem_cons_self ..)
    exact swap hok hsel h1 hj h2 h3 h4 hS hT h5 h6 (R.tail (fun f w => bubble hok hsel hS hT hj pre (fun k hk => hp k (List.mem_cons_of_mem _ hk)) f w) h)
theorem pairsOk_pw {certs : List (Nat × Nat × List Nat)} : ∀ {l : List Nat}, pairsOk ops cs certs l = true → l.Pairwise fun i j => pairOk ops cs certs i j = true
  | [], _ => List.Pairwise.nil
  | i :: l, h => by
    unfold pairsOk at h
    rw [Bool.and_eq_true, List.all_eq_true] at h
    exact List.Pairwise.cons h.1 (pairsOk_pw h.2)
theorem R.any (hok : opsOk n ops = true) (hsel : Region.noSelect ops.toArray = true) (hS : ∀ w, S w w) (hT : ∀ a b c, S a b → S b c → S a c) {certs : List (Nat × Nat × List Nat)} : ∀ (k : Nat) (rem : List Nat) (listed : Array Bool) (a : Act) (f : Nat → Value) (w : World), rem.length = k → listed.size = ops.length → Clo ops.toArray .any listed →
    (∀ i, i ∈ rem ↔ i < ops.length ∧ listed.getD i false = false) → rem.Nodup → (rem.Pairwise fun i j => pairOk ops cs certs i j = true) → Fr a n f → R P n ops cs S Q rem f w → wpAny P .any ops.toArray (lift n Q) k listed a w := by
  intro k
  induction k with
  | zero =>
    intro rem listed a f w hl hsz hclo hmem hnd hpw ha h
    have : rem = [] := List.eq_nil_of_length_eq_zero hl
    subst this
    refine ⟨?_, f, ha, h⟩
    rw [List.eq_nil_iff_forall_not_mem]
    intro j hj
    obtain ⟨h1, h2, _, _⟩ := ready_after hj
    exact absurd ((hmem j).2 ⟨h2, h1⟩) (by simp)
  | succ k ih =>
    intro rem listed a f w hl hsz hclo hmem hnd hpw ha h
    refine ⟨fun hr => ?_, fun j hj => ?_⟩
    · cases rem with
      | nil => simp at hl
      | cons r rem' =>
        exfalso
        obtain ⟨h1, h2⟩ := (hmem r).1 (List.mem_cons_self ..)
        have : r ∈ Region.ready .any ops.toArray listed := by
          refine mem_ready.2 ⟨getD_in (by omega) h2, opAt ops r, by unfold opAt; rw [List.getElem?_toArray, List.getD_eq_getElem?_getD, List.getElem?_eq_getElem h1]; rfl, fun e he hb => ?_⟩
          have haf : isAfter (opAt ops r) e.on = true := by
            unfold isAfter; rw [Array.any_eq_true']; exact ⟨e, he, by rw [hb, Nat.beq_refl]; rfl⟩
          have hlt := (opsOk_at hok h1).2.2.2 e.on haf
          cases hle : listed.getD e.on false with
          | true => rfl
          | false =>
            have hm := (hmem e.on).2 ⟨by omega, hle⟩
            rcases List.mem_cons.1 hm with e1 | e1
            · omega
            · have hp := (List.pairwise_cons.1 hpw).1 _ e1
              unfold pairOk at hp
              rw [haf] at hp; simp at hp
        rw [hr] at this; simp at this
    · obtain ⟨h1, h2, h3, h4⟩ := ready_after hj
      have hjm := (hmem j).2 ⟨h2, h1⟩
      obtain ⟨pre, post, rfl⟩ := List.append_of_mem hjm
      have hb := bubble (P := P) (cs := cs) (S := S) (Q := Q) hok hsel hS hT h2 (l := post) pre (fun i hi => by
        obtain ⟨h5, h6⟩ := (hmem i).1 (List.mem_append_left _ hi)
        have hne : i ≠ j := fun e => by
          subst e
          exact (List.nodup_append.1 hnd).2.2 i hi i (List.mem_cons_self ..) rfl
        have hp : pairOk ops cs certs i j = true := (List.pairwise_append.1 hpw).2.2 i hi j (List.mem_cons_self ..)
        unfold pairOk at hp
        rw [Bool.and_eq_true, Bool.or_eq_true] at hp
        have hnaf : isAfter (opAt ops j) i = false := by
          cases hq : isAfter (opAt ops j) i with
          | false => rfl
          | true => have := h4 i hq; rw [h6] at this; cases this
        refine ⟨h5, hne, hnaf, by simpa using hp.1, ?_⟩
        rcases hp.2 with hp | hp
        · rw [Bool.and_eq_true, Bool.or_eq_true] at hp
          refine ⟨hp.1, ?_⟩
          rcases hp.2 with q | q
          · rw [Bool.or_eq_true] at q
            exact q.elim (fun q => .inl (Nat.eq_of_beq_eq_true q)) (fun q => .inr (.inl q))
          · rw [Bool.and_eq_true] at q
            exact .inr (.inr ⟨Nat.eq_of_beq_eq_true q.1, Nat.eq_of_beq_eq_true q.2⟩)
        · exfalso
          rw [List.any_eq_true] at hp
          obtain ⟨c, _, hc⟩ := hp
          rw [Bool.and_eq_true, Bool.and_eq_true] at hc
          obtain ⟨m, hm⟩ := pathB_reach hc.2
          cases m with
          | zero => unfold reach at hm; simp at hm; exact hne hm.symm
          | succ m =>
            unfold reach at hm
            rw [Bool.or_eq_true] at hm
            rcases hm with hm | hm
            · simp at hm; exact hne hm.symm
            · rw [h3] at hm
              simp only at hm
              rw [Array.any_eq_true'] at hm
              obtain ⟨e, he, hm⟩ := hm
              rw [Bool.and_eq_true] at hm
              have haf : isAfter (opAt ops j) e.on = true := by
                unfold isAfter; rw [Array.any_eq_true']; exact ⟨e, he, by rw [hm.1, Nat.beq_refl]; rfl⟩
              have := hclo.reach _ _ hm.2 (h4 e.on haf)
              rw [h6] at this; cases this) f w h
      have hperm : (pre ++ post).length = k := by simp at hl ⊢; omega
      have hnd' : (pre ++ post).Nodup := by
        refine hnd.sublist ?_
        exact List.Sublist.append_left (List.sublist_cons_self ..) pre
      have hpw' : (pre ++ post).Pairwise fun i j => pairOk ops cs certs i j = true := hpw.sublist (List.Sublist.append_left (List.sublist_cons_self ..) pre)
      have hmem' : ∀ i, i ∈ pre ++ post ↔ i < ops.length ∧ (listed.setIfInBounds j true).getD i false = false := fun i => by
        by_cases e : j = i
        · subst e
          rw [set_self (by omega)]
          constructor
          · intro hm
            exfalso
            have hd := List.nodup_append.1 hnd
            rcases List.mem_append.1 hm with q | q
            · exact hd.2.2 j q j (List.mem_cons_self ..) rfl
            · exact (List.nodup_cons.1 hd.2.1).1 q
          · intro q; cases q.2
        · rw [set_other e, ← hmem i]
          simp only [List.mem_append, List.mem_cons]
          constructor
          · rintro (q | q)
            · exact .inl q
            · exact .inr (.inr q)
          · rintro (q | q | q)
            · exact .inl q
            · exact absurd q.symm e
            · exact .inr q
      have next : ∀ (v : Value) (w' : World), R P n ops cs S Q (pre ++ post) (put f (opAt ops j).dst v) w' → wpAny P .any ops.toArray (lift n Q) k (listed.setIfInBounds j true) (a.put (opAt ops j).dst v) w' := fun v w' hR =>
        ih (pre ++ post) _ _ _ w' hperm (by simp [hsz]) (hclo.set hj) hmem' hnd' hpw' (ha.put (by
          cases hd : (opAt ops j).dst with
          | none => rfl
          | some d => have := ((opsOk_at hok h2).1 d hd).2; simpa [inn, Nat.blt_eq] using this) v) hR
      unfold wpOp
      rw [h3]
      simp only
      rw [ha.yf]
      unfold R at hb
      rcases hb with ⟨q1, q2⟩ | ⟨q1, ⟨q2, v, q3, q4⟩ | ⟨q2, q3⟩⟩
      · rw [if_neg (by rw [q1]; decide)]; exact next _ _ q2
      · rw [if_pos q1]
        refine .inl (Out.wp (K := fun v' w' => v' = v ∧ w' = w) ha (.inl ⟨v, w, q3 w (.inr (.inr rfl)), rfl, rfl⟩) ?_)
        rintro v' w' ⟨rfl, rfl⟩
        exact next _ _ q4
      · rw [if_pos q1]
        exact .inl (Out.wp ha q3 fun v w' hk => next v w' hk.2)
theorem W.reord {f : Nat → Value} {w : World} {id : Nat} (l : List Nat) (cs : List Nat) (S : World → World → Prop) (hS : ∀ w, S w w) (hT : ∀ a b c, S a b → S b c → S a c) (certs : List (Nat × Nat × List Nat)) (hm : P.follows .mixedOrders = true) (hok : opsOk n ops = true) (hsel : Region.noSelect ops.toArray = true) (hp : permOk ops l = true) (hpp : pairsOk ops cs certs l = true)
    (h : ∀ w1, Below w.heap.size w w1 → w1.heap.size = w.heap.size → R P n ops cs S Q l f w1) : W P n (.region id ops.toArray true) Q f w := fun a ha => by
  refine wp_region_any hm ?_
  unfold permOk at hp
  rw [Bool.and_eq_true, Bool.and_eq_true, Bool.and_eq_true, List.all_eq_true, List.all_eq_true] at hp
  obtain ⟨⟨⟨p1, p2⟩, p3⟩, p4⟩ := hp
  have hlen := Nat.eq_of_beq_eq_true p1
  have p3' : l.Nodup := of_decide_eq_true p3
  have := R.any (P := P) (Q := Q) (certs := certs) hok hsel hS hT ops.length l (Array.replicate ops.length false) a f { w with drawn := w.drawn + 1 } hlen (by simp) (Clo.start _ _ _) (fun i => by
    have hg : ∀ i, (Array.replicate ops.length false).getD i false = false := fun i => getD_replicate_false _ _
    constructor
    · intro hi; exact ⟨by simpa [Nat.blt_eq] using p2 i hi, hg i⟩
    · intro hi
      obtain ⟨k, hk, hk2⟩ := List.any_eq_true.1 (p4 i (by simpa using hi.1))
      rw [Nat.eq_of_beq_eq_true hk2]; exact hk) p3' (pairsOk_pw hpp) ha (h { w with drawn := w.drawn + 1 } (Below.refl _ _).drew rfl)
  simpa using this
end
section
variable {P : Program} {n : Nat} {ops : List Oper} {cs : List Nat} {S : World → World → Prop} {Q : Post} {f : Nat → Value} {w : World} {i : Nat} {l : List Nat}
theorem R.nil (h : Q .normal f w) : R P n ops cs S Q [] f w := h
theorem R.skip (hw : Region.wanted (opAt ops i) (yf ops.toArray f) = false) (h : R P n ops cs S Q l (put f (opAt ops i).dst undef) w) : R P n ops cs S Q (i :: l) f w := .inl ⟨hw, h⟩
theorem R.pure {v : Value} (hw : Region.wanted (opAt ops i) (yf ops.toArray f) = true) (hc : Nat.beq (cs.getD i 3) 0 = true) (hr : ∀ w2, (execOp (ev f) (opAt ops i)).run P w2 = .ok (.value v) w2) (h : R P n ops cs S Q l (put f (opAt ops i).dst v) w) : R P n ops cs S Q (i :: l) f w :=
  .inr ⟨hw, .inl ⟨by rw [Nat.eq_of_beq_eq_true hc]; rfl, v, fun w2 _ => hr w2, h⟩⟩
theorem R.read {v : Value} (hw : Region.wanted (opAt ops i) (yf ops.toArray f) = true) (hc : Nat.beq (cs.getD i 3) 1 = true) (hS : S w w) (hr : ∀ w2, S w w2 → (execOp (ev f) (opAt ops i)).run P w2 = .ok (.value v) w2) (h : R P n ops cs S Q l (put f (opAt ops i).dst v) w) : R P n ops cs S Q (i :: l) f w :=
  .inr ⟨hw, .inl ⟨by rw [Nat.eq_of_beq_eq_true hc]; rfl, v, fun w2 hb => hr w2 (by
    rcases hb with e | ⟨_, e⟩ | e
    · rw [Nat.eq_of_beq_eq_true hc] at e; cases e
    · exact e
    · subst e; exact hS), h⟩⟩
theorem R.still {v : Value} (hw : Region.wanted (opAt ops i) (yf ops.toArray f) = true) (hc : Nat.beq (cs.getD i 3) 4 = true) (hr : (execOp (ev f) (opAt ops i)).run P w = .ok (.value v) w) (h : R P n ops cs S Q l (put f (opAt ops i).dst v) w) : R P n ops cs S Q (i :: l) f w :=
  .inr ⟨hw, .inl ⟨by rw [Nat.eq_of_beq_eq_true hc]; rfl, v, fun w2 hb => by
    rcases hb with e | ⟨e, _⟩ | e
    · rw [Nat.eq_of_beq_eq_true hc] at e; cases e
    · rw [Nat.eq_of_beq_eq_true hc] at e; cases e
    · subst e; exact hr, h⟩⟩
theorem Rp (v : Value) (hr : ∀ w2, Runs P f (opAt ops i) w2 v) (h : R P n ops cs S Q l (put f (opAt ops i).dst v) w) (hw : Region.wanted (opAt ops i) (yf ops.toArray f) = true := by rfl) (hc : Nat.beq (cs.getD i 3) 0 = true := by rfl) : R P n ops cs S Q (i :: l) f w := R.pure hw hc hr h
theorem R.s (v : Value) (hr : Runs P f (opAt ops i) w v) (h : R P n ops cs S Q l (put f (opAt ops i).dst v) w) (hw : Region.wanted (opAt ops i) (yf ops.toArray f) = true := by rfl) (hc : Nat.beq (cs.getD i 3) 4 = true := by rfl) : R P n ops cs S Q (i :: l) f w := R.still hw hc hr h
theorem R.eff (hc : Nat.beq (cs.getD i 3) 3 = true) (h : L P n ops.toArray (fun _ f' w' => R P n ops cs S Q l f' w') [opAt ops i] f w) : R P n ops cs S Q (i :: l) f w := by
  have hc' := Nat.eq_of_beq_eq_true hc
  obtain ⟨_, ⟨h1, h2⟩ | ⟨h1, h2⟩⟩ := h
  · refine .inr ⟨h1, .inr ⟨by rw [hc']; rfl, Out.mono (K := fun v w' => R P n ops cs S Q l (put f (opAt ops i).dst v) w') h2 fun v w' hk => ⟨fun e => by omega, hk⟩⟩⟩
  exact .inl ⟨h1, h2⟩
theorem R.make (hc : Nat.beq (cs.getD i 3) 2 = true) (h : L P n ops.toArray (fun _ f' w' => S w w' ∧ R P n ops cs S Q l f' w') [opAt ops i] f w) : R P n ops cs S Q (i :: l) f w := by
  have hc' := Nat.eq_of_beq_eq_true hc
  obtain ⟨_, ⟨h1, h2⟩ | ⟨h1, h2⟩⟩ := h
  · exact .inr ⟨h1, .inr ⟨by rw [hc']; rfl, Out.mono (K := fun v w' => S w w' ∧ R P n ops cs S Q l (put f (opAt ops i).dst v) w') h2 fun v w' hk => ⟨fun _ => hk.1, hk.2⟩⟩⟩
  exact .inl ⟨h1, h2.2⟩
def Mk (w w' : World) : Prop := Below w.heap.size w w'
theorem Mk.refl (w : World) : Mk w w := Below.refl _ _
theorem Mk.trans (a b c : World) (h : Mk a b) (k : Mk b c) : Mk a c := bch h k
end
end Go.Proofs.Ytleajegppehbdaa.Fx
namespace Go.Proofs.Ytleajegppehbdaa.Fx
open Go.RowKit
theorem u8e {a c : Int} (h : 0 ≤ c ∧ c ≤ 255) (e : a = c) : IntKind.u8.wrap a = c := by subst e; exact IntWalk.u8_in _ h
def flat (s : Nat) (F : Nat → Nat → Value) : Nat → Value := fun p => F (p / s) (p % s)
theorem flat_at {s k j p : Nat} {F : Nat → Nat → Value} (hp : p = s * k + j) (hj : j < s) : flat s F p = F k j := by
  subst hp
  have hs : 0 < s := by omega
  unfold flat
  rw [Nat.add_comm, Nat.add_mul_div_left _ _ hs, Nat.div_eq_of_lt hj, Nat.zero_add, Nat.add_mul_mod_self_left, Nat.mod_eq_of_lt hj]
theorem flat_cell {s k j p : Nat} {F : Nat → Nat → Value} {v : Value} (hp : p = s * k + j) (hj : j < s) (e : F k j = v) : flat s F p = v := (flat_at hp hj).trans e
theorem flat_cong {s n : Nat} {F G : Nat → Nat → Value} (h : ∀ k, k < n → ∀ j, j < s → F k j = G k j) : ∀ p, p < n * s → flat s F p = flat s G p := fun p hp => by
  have hs : 0 < s := Nat.pos_of_ne_zero fun e => by subst e; simp at hp
  unfold flat
  exact h _ (Nat.div_lt_of_lt_mul (by rw [Nat.mul_comm]; exact hp)) _ (Nat.mod_lt _ hs)
def updF (F : Nat → Nat → Value) (k : Nat) (y : Nat → Value) : Nat → Nat → Value := fun i => if i = k then y else F i
theorem app_flat {s n : Nat} {F : Nat → Nat → Value} {y z : Nat → Value} : ∀ p, p < (n + 1) * s → appX (flat s F) (n * s) (ovr z (0 * s) s y) p = flat s (updF F n y) p := fun p hp => by
  have hs : 0 < s := Nat.pos_of_ne_zero fun e => by subst e; simp at hp
  unfold appX
  by_cases h : p < n * s
  · rw [if_pos h]
    have h1 : p / s < n := Nat.div_lt_of_lt_mul (by rw [Nat.mul_comm]; exact h)
    unfold flat updF
    rw [if_neg (by omega)]
  · rw [if_neg h]
    have e : p = s * n + (p - n * s) := by rw [Nat.mul_comm s n]; omega
    have hj : p - n * s < s := by rw [Nat.add_mul] at hp; omega
    rw [flat_at e hj]
    unfold ovr updF
    rw [if_pos (by omega), if_pos rfl]
    congr 1; omega
theorem ovr_flat {s n k : Nat} {F : Nat → Nat → Value} {y : Nat → Value} {o : Nat} (ho : o = s * k) : ∀ p, p < n * s → ovr (flat s F) o s y p = flat s (updF F k y) p := fun p hp => by
  subst ho
  have hs : 0 < s := Nat.pos_of_ne_zero fun e => by subst e; simp at hp
  unfold ovr flat updF
  have e := Nat.div_add_mod p s
  have hm := Nat.mod_lt p hs
  by_cases h : p / s = k
  · rw [h] at e
    rw [if_pos ⟨by omega, by omega⟩, if_pos h]; congr 1; omega
  · rw [if_neg h, if_neg]
    rintro ⟨h1, h2⟩
    apply h
    have : p = (p - s * k) + s * k := by omega
    rw [this, Nat.add_mul_div_left _ _ hs, Nat.div_eq_of_lt (by omega), Nat.zero_add]
theorem updV_flat {s n k j : Nat} {F : Nat → Nat → Value} {v : Value} {o : Nat} (ho : o = s * k + j) (hj : j < s) : ∀ p, p < n * s → updV (flat s F) o v p = flat s (updF F k (updV (F k) j v)) p := fun p hp => by
  subst ho
  have hs : 0 < s := by omega
  unfold updV flat updF
  have e := Nat.div_add_mod p s
  have hm := Nat.mod_lt p hs
  by_cases h : p / s = k
  · rw [if_pos h, h]
    rw [h] at e
    by_cases h2 : p % s = j
    · rw [if_pos (by omega), if_pos h2]
    · rw [if_neg (by omega), if_neg h2]
  · rw [if_neg h, if_neg]
    intro h1
    apply h
    rw [h1, Nat.add_comm, Nat.add_mul_div_left _ _ hs, Nat.div_eq_of_lt hj, Nat.zero_add]
theorem ovrS_flat {s n k j c : Nat} {F : Nat → Nat → Value} {y : Nat → Value} {o : Nat} (ho : o = s * k + j) (hj : j + c ≤ s) : ∀ p, p < n * s → ovr (flat s F) o c y p = flat s (updF F k (ovr (F k) j c y)) p := fun p hp => by
  subst ho
  have hs : 0 < s := Nat.pos_of_ne_zero fun e => by subst e; simp at hp
  unfold ovr flat updF
  have e := Nat.div_add_mod p s
  have hm := Nat.mod_lt p hs
  by_cases h : p / s = k
  · rw [if_pos h, h]
    rw [h] at e
    by_cases h2 : j ≤ p % s ∧ p % s < j + c
    · rw [if_pos (by omega), if_pos h2]; congr 1; omega
    · rw [if_neg (by omega), if_neg h2]
  · rw [if_neg h, if_neg]
    rintro ⟨h1, h2⟩
    apply h
    have : p = (p - s * k) + s * k := by omega
    rw [this, Nat.add_mul_div_left _ _ hs, Nat.div_eq_of_lt (by omega), Nat.zero_add]
def Arr (w : World) (a : Option Addr) (n s : Nat) (x : Nat → Value) : Prop := 0 < n → ∃ b off, a = some ⟨b, off, none⟩ ∧ Cel w b off (n * s) x
section
variable {w w' : World} {a : Option Addr} {n s : Nat} {x : Nat → Value}
theorem Arr.below {B : Nat} (h : Arr w a n s x) (hb : Below B w w') (hB : ∀ b off, a = some ⟨b, off, none⟩ → b < B) : Arr w' a n s x := fun h0 => by
  obtain ⟨b, off, e, hc⟩ := h h0
  exact ⟨b, off, e, hc.below hb (hB b off e)⟩
theorem Arr.up (h : Arr w a n s x) (hb : Below w.heap.size w w') (hs : Nat.blt 0 s = true) : Arr w' a n s x := fun h0 => by
  obtain ⟨b, off, e, hc⟩ := h h0
  have hs' : 0 < s := by simpa [Nat.blt_eq] using hs
  exact ⟨b, off, e, hc.below hb (hc.lt (Nat.mul_pos h0 hs'))⟩
theorem Arr.at {F : Nat → Nat → Value} (h : Arr w a n s (flat s F)) {k : Nat} (hk : k < n) : ∃ b off, a = some ⟨b, off, none⟩ ∧ Cel w b (off + s * k) s (F k) := by
  obtain ⟨b, off, e, hc⟩ := h (by omega)
  refine ⟨b, off, e, fun i hi => ?_⟩
  have hlt : s * k + i < n * s := by
    have h1 : (k + 1) * s ≤ n * s := Nat.mul_le_mul_right s hk
    rw [Nat.add_mul, Nat.one_mul, Nat.mul_comm k s] at h1
    omega
  have := hc (s * k + i) hlt
  rw [flat_at rfl hi, ← Nat.add_assoc] at this
  exact this
theorem Own.arr {B : Nat} {E : TypeId} {c : Nat} (h : Own w B E s (.slice a n c) n x) : Arr w a n s x := fun h0 => by
  obtain ⟨g, cap, e, _, _, _, hc⟩ := h.form h0
  simp only [Value.slice.injEq, true_and] at e
  exact ⟨g, 0, e.1, hc⟩
theorem Own.addr {B : Nat} {E : TypeId} {c : Nat} (h : Own w B E s (.slice a n c) n x) (h0 : 0 < n) : ∃ g, a = some ⟨g, 0, none⟩ := by
  obtain ⟨g, cap, e, _⟩ := h.form h0
  simp only [Value.slice.injEq, true_and] at e
  exact ⟨g, e.1⟩
end
def Ty (w : World) (g : Nat) (T : TypeId) : Prop := ∃ c, w.heap[g]? = some (.cells c T (0, 0))
theorem Ty.ne {w : World} {g g' : Nat} {T T' : TypeId} (h : Ty w g T) (h' : Ty w g' T') (ne : T ≠ T') : g ≠ g' := fun e => by
  subst e
  obtain ⟨c, h⟩ := h
  obtain ⟨c', h'⟩ := h'
  rw [h] at h'
  simp only [Option.some.injEq, Obj.cells.injEq] at h'
  exact ne h'.2.1
theorem Blk.ty {w : World} {g n : Nat} {x : Nat → Value} {T : TypeId} (h : Blk w g n x T) : Ty w g T := ⟨_, h⟩
theorem Own.ty {w : World} {B : Nat} {E : TypeId} {s : Nat} {v : Value} {n : Nat} {x : Nat → Value} (h : Own w B E s v n x) {g : Nat} (hg : v.ownBlock = some g) : Ty w g E := by
  rcases h.2 with ⟨rfl, _⟩ | ⟨g', cap, cur, rfl, hb, hgg, _⟩
  · cases hg
  simp only [Value.ownBlock, Option.some.injEq] at hg; subst hg
  exact ⟨_, hgg⟩
theorem Own.tyB {w : World} {B : Nat} {E : TypeId} {s g cap : Nat} {n : Nat} {x : Nat → Value} (h : Own w B E s (.slice (some ⟨g, 0, none⟩) n cap) n x) : Ty w g E := h.ty rfl
structure ChT (Ts : List TypeId) (w w' : World) : Prop where
  os : w'.os = w.os
  tape : w'.tape = w.tape
  output : w'.output = w.output
  size : w.heap.size ≤ w'.heap.size
  block : ∀ k, k < w.heap.size → (∀ T, Ty w k T → Ts.contains T = false) → w'.heap[k]? = w.heap[k]?
theorem Ty.only {w : World} {k : Nat} {T T' : TypeId} (h : Ty w k T) (h' : Ty w k T') : T' = T := Classical.byContradiction fun ne => Ty.ne h' h ne rfl
section
variable {w w' : World} {T : TypeId} {Ts : List TypeId}
theorem ChT.of_stp {g : Nat} (hs : Stp g w w') (ht : Ty w g T) : ChT [T] w w' := ⟨hs.os, hs.tape, hs.output, hs.size, fun k hk hn => hs.block k hk fun e => by
  have := hn T (by rw [e]; exact ht)
  simp at this⟩
theorem ChT.of_grown {B : Nat} {s : Nat} {v : Value} {n : Nat} {x : Nat → Value} (hg : w.grownBy w' v.ownBlock) (h : Own w B T s v n x) : ChT [T] w w' := ⟨hg.os, hg.tape, hg.output, hg.size, fun k hk hn => hg.block k hk fun e => by
  have := hn T (h.ty e.symm)
  simp at this⟩
theorem ChT.of_below (h : Below w.heap.size w w') : ChT Ts w w' := ⟨h.os, h.tape, h.output, h.size, fun k hk _ => h.block k hk⟩
theorem ChT.of_chg {S : Nat → Prop} (h : Chg S w w') (ht : ∀ k, S k → ∃ T, Ty w k T ∧ Ts.contains T = true) : ChT Ts w w' := ⟨h.os, h.tape, h.output, h.size, fun k hk hn => h.block k hk fun e => by
  obtain ⟨T, h1, h2⟩ := ht k e
  rw [hn T h1] at h2; cases h2⟩
theorem ChT.refl (w : World) : ChT Ts w w := ⟨rfl, rfl, rfl, Nat.le_refl _, fun _ _ _ => rfl⟩
theorem ChT.trans (a b c : World) (h : ChT Ts a b) (k : ChT Ts b c) : ChT Ts a c := ⟨k.os.trans h.os, k.tape.trans h.tape, k.output.trans h.output, Nat.le_trans h.size k.size, fun i hi hn =>
  have e := h.block i hi hn
  (k.block i (Nat.lt_of_lt_of_le hi h.size) fun T ⟨cc, ht⟩ => hn T ⟨cc, by rw [← e]; exact ht⟩).trans e⟩
theorem Blk.chT {b n : Nat} {x : Nat → Value} {T0 : TypeId} (h : Blk w b n x T0) (hs : ChT Ts w w') (ne : Ts.contains T0 = false) : Blk w' b n x T0 := (hs.block b h.lt fun _ ht => by rw [Ty.only h.ty ht]; exact ne).trans h
theorem Own.chT {B : Nat} {E : TypeId} {s : Nat} {v : Value} {n : Nat} {x : Nat → Value} (h : Own w B E s v n x) (hs : ChT Ts w w') (ne : Ts.contains E = false) : Own w' B E s v n x := by
  refine ⟨h.1, ?_⟩
  rcases h.2 with a | ⟨g, cap, cur, rfl, hb, hg, rest⟩
  · exact .inl a
  exact .inr ⟨g, cap, cur, rfl, hb, (hs.block g (Array.getElem?_eq_some_iff.1 hg).1 fun _ ht => by rw [Ty.only ⟨_, hg⟩ ht]; exact ne).trans hg, rest⟩
theorem Own.mono {B B' : Nat} {E : TypeId} {s : Nat} {v : Value} {n : Nat} {x : Nat → Value} (h : Own w B E s v n x) (hB : B' ≤ B) : Own w B' E s v n x := by
  refine ⟨h.1, ?_⟩
  rcases h.2 with a | ⟨g, cap, cur, rfl, hb, rest⟩
  · exact .inl a
  exact .inr ⟨g, cap, cur, rfl, Nat.le_trans hB hb, rest⟩
theorem Own.congV {B : Nat} {E : TypeId} {s : Nat} {v v' : Value} {n : Nat} {x : Nat → Value} (h : Own w B E s v n x) (e : v = v') : Own w B E s v' n x := e ▸ h
end
section
variable {P : Program} {f : Nat → Value} {w : World} {o : Oper}
theorem x_shr {T T' : TypeId} {x y : Operand} {k yk : IntKind} {a q : Int} {b : Nat} (ho : o.op = .binOp .shr T x y T') (hx : ev f x = .int k a) (hy : ev f y = .int yk b) (hb : b ≤ k.bits) (hq : (2 : Int) ^ b = q) : Runs P f o w (.int k (a / q)) := by
  unfold Runs execOp
  simp only [ho, hx, hy]
  have hr : (binOp .shr T (.int k a) (.int yk (b : Int))).run P w = .ok (.int k (a / q)) w := by
    simp only [binOp]
    rw [shift_shr _ _ _ _ (by omega) (by omega), show ((b : Int)).toNat = b by omega, hq]
    simp
  simp only [Sem.run_bind, run_eqGuard_ints, Result.andThen_ok, hr, Sem.run_pure]
end
theorem ovr_ones {n o m : Nat} {x y : Nat → Value} (hx : ∀ j, j < n → (x j).oneCell' = true) (hy : ∀ j, j < m → (y j).oneCell' = true) : ∀ j, j < n → (ovr x o m y j).oneCell' = true := fun j hj => by
  unfold ovr; split
  · rename_i h; exact hy _ (by omega)
  · exact hx j hj
section
variable {P : Program} {f : Nat → Value} {w : World} {o : Oper}
theorem x_indexV {T E : TypeId} {x ix : Operand} {k : IntKind} {j m : Nat} {y : Nat → Value} {v : Value} (ho : o.op = .index T x ix) (hx : ev f x = .agg (varr m y)) (hi : ev f ix = .int k (j : Int)) (hu : P.underlying T = some (.array m E)) (hz : (P.info? E).map (·.size) = some 1) (hE : oneT P E = true) (hj : j < m) (hv : y j = v) : Runs P f o w v := by
  subst hv
  obtain ⟨z, hz1, hz2⟩ := Option.map_eq_some_iff.1 hz
  unfold Runs execOp
  simp only [ho, hx, hi]
  unfold oneT at hE
  cases hq : P.underlying E with
  | none => rw [hq] at hE; cases hE
  | some d =>
    rw [hq] at hE
    cases d <;> first
      | (cases hE; done)
      | (simp [Instr.index, asIntOf, underlying, hu, sizeOf, typeInfo, hz1, hz2, part, isAgg, hq, varr_get y hj]; intro h9; omega)
      | simp [Instr.index, asIntOf, underlying, hu, hj, sizeOf, typeInfo, hz1, hz2, part, isAgg, hq, varr_get y hj]
end
def shF (F : Nat → Nat → Value) (y : Nat → Value) (n k : Nat) : Nat → Nat → Value := fun i => if i ≤ k then (if i < n then F i else y) else F (i - 1)
def insF (F : Nat → Nat → Value) (k : Nat) (y : Nat → Value) : Nat → Nat → Value := fun i => if i < k then F i else if i = k then y else F (i - 1)
def insI {α : Type} (f : Nat → α) (k : Nat) (v : α) : Nat → α := fun i => if i < k then f i else if i = k then v else f (i - 1)
theorem sh_at {F : Nat → Nat → Value} {y : Nat → Value} {n k j : Nat} (h : j < k) (hk : k ≤ n) : shF F y n k j = F j := by unfold shF; rw [if_pos (by omega), if_pos (by omega)]
theorem sh_start {F : Nat → Nat → Value} {y : Nat → Value} {n : Nat} : ∀ i, i < n + 1 → ∀ j : Nat, updF F n y i j = shF F y n n i j := fun i hi j => by
  unfold updF shF
  rw [if_pos (show i ≤ n by omega)]
  by_cases h : i = n
  · rw [if_pos h, if_neg (by omega)]
  · rw [if_neg h, if_pos (by omega)]
theorem sh_step {F : Nat → Nat → Value} {y : Nat → Value} {n k j : Nat} (e : k = j + 1) (_hk : k ≤ n) : ∀ i, i < n + 1 → ∀ q : Nat, updF (shF F y n k) k (F j) i q = shF F y n j i q := fun i _ q => by
  unfold updF shF
  by_cases h : i = k
  · rw [if_pos h, if_neg (by omega), show i - 1 = j by omega]
  · rw [if_neg h]
    by_cases h2 : i ≤ j
    · rw [if_pos (by omega), if_pos h2]
    · rw [if_neg (by omega), if_neg h2]
theorem ins_end {F : Nat → Nat → Value} {y : Nat → Value} {n k : Nat} (hk : k ≤ n) : ∀ i, i < n + 1 → ∀ q : Nat, updF (shF F y n k) k y i q = insF F k y i q := fun i _ q => by
  unfold updF shF insF
  by_cases h : i = k
  · rw [if_pos h, if_neg (by omega), if_pos h]
  · rw [if_neg h]
    by_cases h2 : i < k
    · rw [if_pos (by omega), if_pos (by omega), if_pos h2]
    · rw [if_neg (by omega), if_neg h2, if_neg h]
def down (P : Nat → Bool) : Nat → Nat
  | 0 => 0
  | n + 1 => if P n then down P n else n + 1
theorem down_eq {P : Nat → Bool} {k : Nat} : ∀ {n : Nat}, k ≤ n → (∀ i, k ≤ i → i < n → P i = true) → (k = 0 ∨ ∀ j, k = j + 1 → P j = false) → k = down P n
  | 0, h, _, _ => by unfold down; omega
  | n + 1, h, h1, h2 => by
    unfold down
    by_cases e : k = n + 1
    · rcases h2 with h2 | h2
      · omega
      · rw [h2 n e, if_neg (by decide)]; exact e
    · rw [h1 n (by omega) (by omega), if_pos rfl]
      exact down_eq (by omega) (fun i a b => h1 i a (by omega)) h2
theorem down_le (P : Nat → Bool) : ∀ n, down P n ≤ n
  | 0 => Nat.le_refl _
  | n + 1 => by
    unfold down; split
    · have := down_le P n; omega
    · exact Nat.le_refl _
theorem down_gt {P : Nat → Bool} : ∀ {n i : Nat}, down P n ≤ i → i < n → P i = true
  | 0, _, _, h => absurd h (Nat.not_lt_zero _)
  | n + 1, i, h1, h2 => by
    unfold down at h1
    split at h1
    · rename_i hp
      by_cases e : i = n
      · subst e; exact hp
      · exact down_gt h1 (by omega)
    · omega
theorem down_no {P : Nat → Bool} : ∀ {n j : Nat}, down P n = j + 1 → P j = false
  | 0, _, h => by unfold down at h; omega
  | n + 1, j, h => by
    unfold down at h
    split at h
    · exact down_no h
    · rename_i hp
      have : j = n := by omega
      subst this
      exact Bool.eq_false_iff.2 hp
end Go.Proofs.Ytleajegppehbdaa.Fx
namespace Go.Proofs.Ytleajegppehbdaa.Fx
open Go.RowKit Go.MapKept
def Mp (w : World) (b n : Nat) (key : Nat → Int) (val : Nat → Value) : Prop :=
  ∃ es clock, w.heap[b]? = some (.map es clock) ∧ Stamped es clock ∧ es.size = n ∧ ∀ i, i < n → ∃ e, es[i]? = some e ∧ e.key = .int .u64 (key i) ∧ e.val = val i
def putI {α : Type} (f : Nat → α) (j : Nat) (v : α) : Nat → α := fun i => if i = j then v else f i
section
variable {w w' : World} {b n : Nat} {key : Nat → Int} {val : Nat → Value}
theorem Mp.lt (h : Mp w b n key val) : b < w.heap.size := by
  obtain ⟨es, c, h, _⟩ := h
  exact (Array.getElem?_eq_some_iff.1 h).1
theorem Mp.keep (h : Mp w b n key val) (e : w'.heap[b]? = w.heap[b]?) : Mp w' b n key val := by
  obtain ⟨es, c, h1, h2⟩ := h
  exact ⟨es, c, e.trans h1, h2⟩
theorem Mp.stp {g : Nat} (h : Mp w b n key val) (hs : Stp g w w') (ne : b ≠ g) : Mp w' b n key val := h.keep (hs.block b h.lt ne)
theorem Mp.up (h : Mp w b n key val) (hb : Below w.heap.size w w') : Mp w' b n key val := h.keep (hb.block b h.lt)
theorem Mp.belowB {B : Nat} (h : Mp w b n key val) (hb : Below B w w') (hg : b < B) : Mp w' b n key val := h.keep (hb.block b hg)
theorem Mp.noTy {T : TypeId} (h : Mp w b n key val) (ht : Ty w b T) : False := by
  obtain ⟨es, c, h, _⟩ := h
  obtain ⟨cs, ht⟩ := ht
  rw [h] at ht; cases ht
theorem Mp.chT {Ts : List TypeId} (h : Mp w b n key val) (hs : ChT Ts w w') (_ : True) : Mp w' b n key val := h.keep (hs.block b h.lt fun _ ht => (h.noTy ht).elim)
theorem Mp.ne {g : Nat} {T : TypeId} (h : Mp w b n key val) (ht : Ty w g T) : g ≠ b := fun e => h.noTy (e ▸ ht)
theorem Mp.cong {key' : Nat → Int} {val' : Nat → Value} (h : Mp w b n key val) (e : ∀ i, i < n → key i = key' i ∧ val i = val' i) : Mp w b n key' val' := by
  obtain ⟨es, c, h1, h2, h3, h4⟩ := h
  exact ⟨es, c, h1, h2, h3, fun i hi => by
    obtain ⟨x, a, d, f⟩ := h4 i hi
    exact ⟨x, a, by rw [d, (e i hi).1], by rw [f, (e i hi).2]⟩⟩
theorem Mp.inj (h : Mp w b n key val) : ∀ i j, i < n → j < n → key i = key j → i = j := fun i j hi hj e => by
  obtain ⟨es, c, _, ⟨_, _, hk⟩, hn, hg⟩ := h
  obtain ⟨x, hx, kx, _⟩ := hg i hi
  obtain ⟨y, hy, ky, _⟩ := hg j hj
  rw [Array.getElem?_eq_some_iff] at hx hy
  obtain ⟨hi', hx⟩ := hx
  obtain ⟨hj', hy⟩ := hy
  have hp := List.pairwise_iff_getElem.1 hk
  have key2 : ∀ a c (ha : a < es.size) (hc : c < es.size), a < c → es[a].key ≠ es[c].key := fun a c ha hc hac => by
    have := hp a c (by simpa using ha) (by simpa using hc) hac
    simpa only [List.getElem_map, Array.getElem_toList] using this
  rcases Nat.lt_trichotomy i j with h1 | h1 | h1
  · exact absurd (by rw [hx, hy, kx, ky, e]) (key2 i j hi' hj' h1)
  · exact h1
  · exact absurd (by rw [hx, hy, kx, ky, e]) (key2 j i hj' hi' h1)
end
section
variable {P : Program} {f : Nat → Value} {w : World} {o : Oper}
variable {b n : Nat} {key : Nat → Int} {val : Nat → Value}
theorem Mp.find (h : Mp w b n key val) {es : Array MapEntry} {c : Nat} (he : w.heap[b]? = some (.map es c)) (k : Int) :
    (Instr.findNow (.int .u64) (.int .u64 k) es.toList 0 = some none ∧ ∀ i, i < n → key i ≠ k) ∨ ∃ j, j < n ∧ key j = k ∧ Instr.findNow (.int .u64) (.int .u64 k) es.toList 0 = some (some (j, val j)) := by
  obtain ⟨es', c', h1, h2, h3, h4⟩ := h
  rw [he] at h1
  simp only [Option.some.injEq, Obj.map.injEq] at h1
  obtain ⟨rfl, rfl⟩ := h1
  have hkeys : ∀ x ∈ es.toList, IsKey (.int .u64) x.key := fun x hx => by
    obtain ⟨i, hi, e⟩ := List.getElem_of_mem hx
    obtain ⟨y, hy, ky, _⟩ := h4 i (by simpa [← h3] using hi)
    have : y = x := by
      have h5 : es.toList[i]? = some x := by rw [List.getElem?_eq_getElem hi, e]
      rw [Array.getElem?_toList, hy] at h5
      exact Option.some.inj h5
    rw [← this, ky]; exact rfl
  rcases findNow_spec (d := .int .u64) (k := .int .u64 k) rfl es.toList 0 hkeys with ⟨h5, h6⟩ | ⟨j, e, h5, h6, h7⟩
  · left
    refine ⟨h5, fun i hi e => ?_⟩
    obtain ⟨y, hy, ky, _⟩ := h4 i hi
    exact h6 y (Array.mem_toList_iff.2 (Array.mem_of_getElem? hy)) (by rw [ky, e])
  right
  have hj : j < n := by
    rw [Array.getElem?_toList] at h6
    rw [← h3]; exact (Array.getElem?_eq_some_iff.1 h6).1
  obtain ⟨y, hy, ky, vy⟩ := h4 j hj
  rw [Array.getElem?_toList, hy] at h6
  obtain rfl := Option.some.inj h6
  rw [ky] at h7
  simp only [Value.int.injEq, true_and] at h7
  exact ⟨j, hj, h7, by rw [h5, Nat.zero_add, vy]⟩
end
def It (w : World) (r b n : Nat) (S : Nat → Bool) : Prop :=
  ∃ es clock since seen c0, w.heap[b]? = some (.map es clock) ∧ w.heap[r]? = some (.mapIter (some b) since seen c0) ∧ (∀ x ∈ es.toList, x.born < since) ∧ since ≤ c0 ∧ es.size = n ∧ (∀ x ∈ es.toList, x.born < clock) ∧ since ≤ clock ∧ (∀ (i j : Nat) (x y : MapEntry), es[i]? = some x → es[j]? = some y → x.born = y.born → i = j) ∧ ∀ i, i < n → ∃ e, es[i]? = some e ∧ seen.contains e.born = S i
section
variable {w w' : World} {r b n : Nat} {S : Nat → Bool}
theorem It.lt (h : It w r b n S) : r < w.heap.size := by
  obtain ⟨es, c, s, se, c0, _, h, _⟩ := h
  exact (Array.getElem?_eq_some_iff.1 h).1
theorem It.ltb (h : It w r b n S) : b < w.heap.size := by
  obtain ⟨es, c, s, se, c0, h, _⟩ := h
  exact (Array.getElem?_eq_some_iff.1 h).1
theorem It.keep (h : It w r b n S) (e : w'.heap[b]? = w.heap[b]?) (e2 : w'.heap[r]? = w.heap[r]?) : It w' r b n S := by
  obtain ⟨es, c, s, se, c0, h1, h2, h3⟩ := h
  exact ⟨es, c, s, se, c0, e.trans h1, e2.trans h2, h3⟩
theorem It.up (h : It w r b n S) (hb : Below w.heap.size w w') : It w' r b n S := h.keep (hb.block b h.ltb) (hb.block r h.lt)
theorem It.noTy {T : TypeId} (h : It w r b n S) (ht : Ty w r T) : False := by
  obtain ⟨es, c, s, se, c0, _, h, _⟩ := h
  obtain ⟨cs, ht⟩ := ht
  rw [h] at ht; cases ht
theorem It.noTyb {T : TypeId} (h : It w r b n S) (ht : Ty w b T) : False := by
  obtain ⟨es, c, s, se, c0, h, _⟩ := h
  obtain ⟨cs, ht⟩ := ht
  rw [h] at ht; cases ht
theorem It.chT {Ts : List TypeId} (h : It w r b n S) (hs : ChT Ts w w') (_ : True) : It w' r b n S := h.keep (hs.block b h.ltb fun _ ht => (h.noTyb ht).elim) (hs.block r h.lt fun _ ht => (h.noTy ht).elim)
theorem It.rb (h : It w r b n S) : r ≠ b := fun e => by
  obtain ⟨es, c, s, se, c0, h1, h2, _⟩ := h
  rw [e, h1] at h2; cases h2
end
def Itc (w : World) (r b i : Nat) : Prop :=
  ∃ es clock since seen e, w.heap[b]? = some (.map es clock) ∧ w.heap[r]? = some (.mapIter (some b) since (Array.push seen e.born) clock) ∧ es[i]? = some e ∧ (es.toList.map (·.born)).Nodup
section
variable {w w' : World} {r b i : Nat}
theorem Itc.lt (h : Itc w r b i) : r < w.heap.size := by
  obtain ⟨es, c, s, se, e, _, h, _⟩ := h
  exact (Array.getElem?_eq_some_iff.1 h).1
theorem Itc.ltb (h : Itc w r b i) : b < w.heap.size := by
  obtain ⟨es, c, s, se, e, h, _⟩ := h
  exact (Array.getElem?_eq_some_iff.1 h).1
theorem Itc.keep (h : Itc w r b i) (e : w'.heap[b]? = w.heap[b]?) (e2 : w'.heap[r]? = w.heap[r]?) : Itc w' r b i := by
  obtain ⟨es, c, s, se, x, h1, h2, h3⟩ := h
  exact ⟨es, c, s, se, x, e.trans h1, e2.trans h2, h3⟩
theorem Itc.up (h : Itc w r b i) (hb : Below w.heap.size w w') : Itc w' r b i := h.keep (hb.block b h.ltb) (hb.block r h.lt)
theorem Itc.noTy {T : TypeId} (h : Itc w r b i) (ht : Ty w r T) : False := by
  obtain ⟨es, c, s, se, e, _, h, _⟩ := h
  obtain ⟨cs, ht⟩ := ht
  rw [h] at ht; cases ht
theorem Itc.noTyb {T : TypeId} (h : Itc w r b i) (ht : Ty w b T) : False := by
  obtain ⟨es, c, s, se, e, h, _⟩ := h
  obtain ⟨cs, ht⟩ := ht
  rw [h] at ht; cases ht
theorem Itc.chT {Ts : List TypeId} (h : Itc w r b i) (hs : ChT Ts w w') (_ : True) : Itc w' r b i := h.keep (hs.block b h.ltb fun _ ht => (h.noTyb ht).elim) (hs.block r h.lt fun _ ht => (h.noTy ht).elim)
end
def Fam (w : World) (n : Nat) (pb : Nat → Nat) (s : Nat) (x : Nat → Nat → Value) (T : TypeId) : Prop := ∀ i, i < n → Blk w (pb i) s (x i) T
section
variable {w w' : World} {n s : Nat} {pb : Nat → Nat} {x : Nat → Nat → Value} {T : TypeId}
theorem Fam.up (h : Fam w n pb s x T) (hb : Below w.heap.size w w') : Fam w' n pb s x T := fun i hi => (h i hi).stp (Sb hb) (Nat.ne_of_lt (h i hi).lt)
theorem Fam.chT {Ts : List TypeId} (h : Fam w n pb s x T) (hs : ChT Ts w w') (ne : Ts.contains T = false) : Fam w' n pb s x T := fun i hi => (h i hi).chT hs ne
theorem Fam.stp {g : Nat} (h : Fam w n pb s x T) (hs : Stp g w w') (ne : ∀ i, i < n → pb i ≠ g) : Fam w' n pb s x T := fun i hi => (h i hi).stp hs (ne i hi)
theorem Fam.put {j : Nat} {y : Nat → Value} (h : Fam w n pb s x T) (hs : Stp (pb j) w w') (hb : Blk w' (pb j) s y T) (hi : ∀ i k, i < n → k < n → pb i = pb k → i = k) (hj : j < n) : Fam w' n pb s (putI x j y) T := fun i hin => by
  unfold putI
  by_cases e : i = j
  · subst e; rw [if_pos rfl]; exact hb
  · rw [if_neg e]; exact (h i hin).stp hs fun e2 => e (hi i j hin hj e2)
theorem Fam.to {x' : Nat → Nat → Value} (h : Fam w n pb s x T) (e : ∀ i, i < n → x i = x' i) : Fam w n pb s x' T := fun i hi => e i hi ▸ h i hi
theorem Fam.push {g : Nat} {y : Nat → Value} (h : Fam w n pb s x T) (hb : Blk w g s y T) : Fam w (n + 1) (putI pb n g) s (putI x n y) T := fun i hi => by
  unfold putI
  by_cases e : i = n
  · rw [if_pos e, if_pos e]; exact hb
  · rw [if_neg e, if_neg e]; exact h i (by omega)
end
section
variable {P : Program} {n0 : Nat} {Q : Post} {f : Nat → Value} {w : World} {ops : Array Oper} {rest : List Oper} {o : Oper} {b n : Nat} {key : Nat → Int} {val : Nat → Value}
theorem L.range {T K E : TypeId} {x : Operand} (hw : Region.wanted o (yf ops f) = true) (hd : inn n0 o.dst = true) (ho : o.op = .range T x) (hx : ev f x = .map (some b)) (h : Mp w b n key val) (hu : P.underlying T = some (.map K E))
    (hc : ∀ g w', g = w.heap.size → It w' g b n (fun _ => false) → Stp w.heap.size w w' → w'.heap.size = w.heap.size + 1 → L P n0 ops Q rest (put f o.dst (.pointer (some ⟨g, 0, none⟩))) w') : L P n0 ops Q (o :: rest) f w := by
  have hm := h
  obtain ⟨es, c, h1, h2, h3, h4⟩ := hm
  have hr := run_range_map (P := P) w T K E b es c hu h1
  have hrun : (execOp (ev f) o).run P w = .ok (.value (.pointer (some ⟨w.heap.size, 0, none⟩))) (w.alloc (.mapIter (some b) c #[] c)) := by
    unfold execOp
    simp only [ho, hx, Sem.run_bind, hr, Result.andThen_ok, Sem.run_pure]
  refine L.val hw hrun hd (hc _ _ rfl ?_ (Stp.alloc _ _) (by simp))
  refine ⟨es, c, c, #[], c, ?_, by rw [alloc_at, if_pos rfl], h2.1, Nat.le_refl _, h3, h2.1, Nat.le_refl _, fun i j x y hx hy e => ?_, fun i hi => ?_⟩
  · rw [alloc_at, if_neg (Nat.ne_of_lt h.lt)]; exact h1
  · rw [Array.getElem?_eq_some_iff] at hx hy
    obtain ⟨hi', hx⟩ := hx
    obtain ⟨hj', hy⟩ := hy
    have hp := List.pairwise_iff_getElem.1 h2.2.1
    have key2 : ∀ a c (ha : a < es.size) (hc : c < es.size), a < c → es[a].born ≠ es[c].born := fun a c ha hc hac => by
      have := hp a c (by simpa using ha) (by simpa using hc) hac
      simpa only [List.getElem_map, Array.getElem_toList] using this
    rcases Nat.lt_trichotomy i j with h5 | h5 | h5
    · exact absurd (by rw [hx, hy, e]) (key2 i j hi' hj' h5)
    · exact h5
    exact absurd (by rw [hx, hy, e]) (key2 j i hj' hi' h5)
  obtain ⟨e, he, _⟩ := h4 i hi
  exact ⟨e, he, by simp⟩
theorem L.next {x : Operand} {r : Nat} {S : Nat → Bool} (hw : Region.wanted o (yf ops f) = true) (hd : inn n0 o.dst = true) (ho : o.op = .next x false) (hx : ev f x = .pointer (some ⟨r, 0, none⟩)) (h : Mp w b n key val) (hi : It w r b n S)
    (hc0 : (∀ i, i < n → S i = true) → L P n0 ops Q rest (put f o.dst (.tuple #[.bool false])) w)
    (hc1 : ∀ i w', i < n → S i = false → It w' r b n (putI S i true) → Itc w' r b i → Stp r w w' → w'.heap.size = w.heap.size → L P n0 ops Q rest (put f o.dst (.tuple #[.bool true, .int .u64 (key i), val i])) w') : L P n0 ops Q (o :: rest) f w := by
  obtain ⟨es, c, since, seen, c0, h1, h2, h3, h4, h5, h6, h7, h8, h9⟩ := hi
  obtain ⟨es', c', k1, kst, _, k4⟩ := h
  rw [h1] at k1
  simp only [Option.some.injEq, Obj.map.injEq] at k1
  obtain ⟨rfl, rfl⟩ := k1
  have hrb : r ≠ b := fun e => by rw [e, h1] at h2; cases h2
  rcases run_next_at (P := P) w o.type r b since c0 seen es c h2 h1 h3 h4 with ⟨z, hr⟩ | ⟨e, he, w1, hw1, hr⟩
  · have hrun : (execOp (ev f) o).run P w = .ok (.value (.tuple #[.bool false])) w := by
      unfold execOp
      simp only [ho, hx, Sem.run_bind, hr, Result.andThen_ok, Sem.run_pure]
    refine L.val hw hrun hd (hc0 fun i hi => ?_)
    obtain ⟨y, hy, hs⟩ := h9 i hi
    rw [← hs]
    cases hq : seen.contains y.born with
    | true => rfl
    | false =>
      have hmem : y ∈ leftOf es seen := by
        unfold leftOf
        rw [Array.mem_filter]
        exact ⟨Array.mem_of_getElem? hy, by rw [hq]; rfl⟩
      have := Array.size_pos_of_mem hmem
      omega
  have hrun : (execOp (ev f) o).run P w = .ok (.value (.tuple #[.bool true, e.key, e.val])) (Go.ChangeMaps.setBlock w1 r (.mapIter (some b) since (seen.push e.born) c)) := by
    unfold execOp
    simp only [ho, hx, Sem.run_bind, hr, Result.andThen_ok, Sem.run_pure]
  have hmem : e ∈ leftOf es seen := Array.mem_toList_iff.1 he
  unfold leftOf at hmem
  rw [Array.mem_filter] at hmem
  obtain ⟨hme, hns⟩ := hmem
  obtain ⟨i, hi, ei⟩ := Array.getElem_of_mem hme
  have hes : es[i]? = some e := by rw [Array.getElem?_eq_getElem hi, ei]
  obtain ⟨y, hy, ky, vy⟩ := k4 i (by omega)
  rw [hes] at hy
  obtain rfl := Option.some.inj hy
  obtain ⟨y2, hy2, hs⟩ := h9 i (by omega)
  rw [hes] at hy2
  obtain rfl := Option.some.inj hy2
  have hsf : S i = false := by rw [← hs]; simpa using hns
  have hh : w1.os = w.os ∧ w1.tape = w.tape ∧ w1.output = w.output ∧ w1.heap = w.heap := by rcases hw1 with rfl | rfl <;> exact ⟨rfl, rfl, rfl, rfl⟩
  have hsz : (Go.ChangeMaps.setBlock w1 r (.mapIter (some b) since (seen.push e.born) c)).heap.size = w.heap.size := by
    show (w1.heap.setIfInBounds r _).size = _; rw [hh.2.2.2]; simp
  have hst : Stp r w (Go.ChangeMaps.setBlock w1 r (.mapIter (some b) since (seen.push e.born) c)) :=
    ⟨hh.1, hh.2.1, hh.2.2.1, by rw [hsz]; exact Nat.le_refl _, fun k _ hne => by show (w1.heap.setIfInBounds r _)[k]? = _; rw [hh.2.2.2, Array.getElem?_setIfInBounds_ne (Ne.symm hne)]⟩
  have hrlt : r < w1.heap.size := by
    rcases hw1 with rfl | rfl <;> exact (Array.getElem?_eq_some_iff.1 h2).1
  rw [ky, vy] at hrun
  have q1 : (Go.ChangeMaps.setBlock w1 r (.mapIter (some b) since (seen.push e.born) c)).heap[b]? = some (.map es c) := by rw [hst.block b (Array.getElem?_eq_some_iff.1 h1).1 (Ne.symm hrb)]; exact h1
  have q2 : (Go.ChangeMaps.setBlock w1 r (.mapIter (some b) since (seen.push e.born) c)).heap[r]? = some (.mapIter (some b) since (seen.push e.born) c) := by simp [Go.ChangeMaps.setBlock, hrlt]
  refine L.val hw hrun hd (hc1 i _ (by omega) hsf ⟨es, c, since, seen.push e.born, c, q1, q2, h3, h7, h5, h6, h7, h8, fun j hj => ?_⟩ ⟨es, c, since, seen, e, q1, q2, hes, kst.2.1⟩ hst hsz)
  obtain ⟨y3, hy3, hs3⟩ := h9 j hj
  refine ⟨y3, hy3, ?_⟩
  unfold putI
  by_cases e5 : j = i
  · subst e5
    rw [hes] at hy3
    obtain rfl := Option.some.inj hy3
    rw [if_pos rfl]; simp
  rw [if_neg e5, ← hs3]
  have hne : y3.born ≠ e.born := fun e6 => e5 (h8 j i y3 e hy3 hes e6)
  cases hq : seen.contains y3.born with
  | true => simp at hq ⊢; exact .inl hq
  | false => simp at hq ⊢; exact ⟨hq, hne⟩
end
structure ChM (r : Nat) (w w' : World) : Prop where
  s : Stp r w w'
  no : ∀ T, ¬ Ty w r T
section
variable {w w' : World} {r b n : Nat}
theorem Mp.chm {m : Nat} {key : Nat → Int} {val : Nat → Value} (h : Mp w r m key val) (hs : Stp r w w') : ChM r w w' := ⟨hs, fun _ ht => h.noTy ht⟩
theorem It.chm {m q : Nat} {S : Nat → Bool} (h : It w r q m S) (hs : Stp r w w') : ChM r w w' := ⟨hs, fun _ ht => h.noTy ht⟩
theorem Itc.chm {q i : Nat} (h : Itc w r q i) (hs : Stp r w w') : ChM r w w' := ⟨hs, fun _ ht => h.noTy ht⟩
end
open Classical in
structure ChX (Ts : List TypeId) (w w' : World) : Prop where
  os : w'.os = w.os
  tape : w'.tape = w.tape
  output : w'.output = w.output
  size : w.heap.size ≤ w'.heap.size
  block : ∀ k T, Ty w k T → Ts.contains T = false → w'.heap[k]? = w.heap[k]?
section
variable {w w' w2 : World} {Ts Us : List TypeId}
theorem ChX.refl (w : World) : ChX Ts w w := ⟨rfl, rfl, rfl, Nat.le_refl _, fun _ _ _ _ => rfl⟩
theorem Ty.ltw {k : Nat} {T : TypeId} (h : Ty w k T) : k < w.heap.size := by
  obtain ⟨c, h⟩ := h
  exact (Array.getElem?_eq_some_iff.1 h).1
theorem ChX.trans (w w' w2 : World) (h : ChX Ts w w') (k : ChX Ts w' w2) : ChX Ts w w2 := ⟨k.os.trans h.os, k.tape.trans h.tape, k.output.trans h.output, Nat.le_trans h.size k.size, fun i T ht hT => by
  have e := h.block i T ht hT
  obtain ⟨c, hc⟩ := ht
  exact (k.block i T ⟨c, e.trans hc⟩ hT).trans e⟩
theorem ChX.of_chT (h : ChT Ts w w') : ChX Ts w w' := ⟨h.os, h.tape, h.output, h.size, fun k T ht hT => h.block k ht.ltw fun T' ht' => by rw [Ty.only ht ht']; exact hT⟩
theorem ChX.of_below (h : Below w.heap.size w w') : ChX Ts w w' := .of_chT (.of_below h)
theorem Blk.chX {b n : Nat} {x : Nat → Value} {T : TypeId} (h : Blk w b n x T) (hs : ChX Ts w w') (ne : Ts.contains T = false) : Blk w' b n x T := (hs.block b T h.ty ne).trans h
theorem Fam.chX {n s : Nat} {pb : Nat → Nat} {x : Nat → Nat → Value} {T : TypeId} (h : Fam w n pb s x T) (hs : ChX Ts w w') (ne : Ts.contains T = false) : Fam w' n pb s x T := fun i hi => (h i hi).chX hs ne
theorem Own.chX {B s n : Nat} {E : TypeId} {v : Value} {x : Nat → Value} (h : Own w B E s v n x) (hs : ChX Ts w w') (ne : Ts.contains E = false) : Own w' B E s v n x := by
  refine ⟨h.1, ?_⟩
  rcases h.2 with hn | ⟨g, cap, cur, hv, hB, hg, rest⟩
  · exact .inl hn
  exact .inr ⟨g, cap, cur, hv, hB, (hs.block g E ⟨cur, hg⟩ ne).trans hg, rest⟩
end
end Go.Proofs.Ytleajegppehbdaa.Fx
namespace Go.Proofs.Ytleajegppehbdaa.Fx
open Go.RowKit
section
variable {P : Program} {n0 : Nat} {Q : Post} {f : Nat → Value} {w : World} {ops : Array Oper} {rest : List Oper} {o : Oper}
theorem x_hi {T E : TypeId} {x hi : Operand} {a : Option Addr} {B n c s : Nat} {k : IntKind} {j : Nat} {y : Nat → Value} (ho : o.op = .slice T x none (some hi) none) (hx : ev f x = .slice a n c) (hh : ev f hi = .int k (j : Int)) (hu : P.underlying T = some (.slice E)) (hs : (P.info? E).map (·.size) = some s) (hj : j ≤ n) (hown : Own w B E s (.slice a n c) n y) :
    Runs P f o w (.slice a j c) := by
  obtain ⟨i, hi', _⟩ := Option.map_eq_some_iff.1 hs
  unfold Runs execOp
  simp only [ho, hx, hh, Option.map_some, Option.map_none]
  have e1 : (0 : Int) ≤ (j : Int) := by omega
  rcases hown.2 with ⟨h1, rfl⟩ | ⟨g, cap, cur, h1, _, _, hn, _⟩
  · simp only [Value.slice.injEq] at h1
    obtain ⟨rfl, _, rfl⟩ := h1
    obtain rfl : j = 0 := by omega
    simp [Instr.sliceAt, Instr.slice, underlying, hu, Instr.sliceBounds, Instr.sliceBound, asIntOf, sizeOf, typeInfo, hi']
  simp only [Value.slice.injEq] at h1
  obtain ⟨rfl, _, rfl⟩ := h1
  have hj2 : j ≤ c := by omega
  simp [Instr.sliceAt, Instr.slice, underlying, hu, Instr.sliceBounds, Instr.sliceBound, asIntOf, hj2, e1, sizeOf, typeInfo, hi', Addr.add]
theorem L.lo {T E : TypeId} {x lo : Operand} {a : Option Addr} {B n c s m : Nat} {k : IntKind} {j : Nat} {y : Nat → Value} (hw : Region.wanted o (yf ops f) = true) (hd : inn n0 o.dst = true) (ho : o.op = .slice T x (some lo) none none) (hx : ev f x = .slice a n c) (hl : ev f lo = .int k (j : Int)) (hu : P.underlying T = some (.slice E)) (hs : (P.info? E).map (·.size) = some s) (hj : n = j + m) (hown : Own w B E s (.slice a n c) n y)
    (hc : ∀ a', Arr w a' m s (fun p => y (j * s + p)) → L P n0 ops Q rest (put f o.dst (.slice a' m (c - j))) w) : L P n0 ops Q (o :: rest) f w := by
  by_cases h0 : n = 0
  · obtain rfl : j = 0 := by omega
    obtain rfl : m = 0 := by omega
    subst h0
    rcases hown.2 with ⟨h1, _⟩ | ⟨g, cap, cur, h1, _, _, hn, _⟩
    · simp only [Value.slice.injEq] at h1
      obtain ⟨rfl, _, rfl⟩ := h1
      obtain ⟨i, hi', _⟩ := Option.map_eq_some_iff.1 hs
      refine Lv _ (?_ : Runs P f o w (.slice none 0 0)) (hc none fun h => absurd h (Nat.lt_irrefl 0)) hw hd
      unfold Runs execOp
      simp only [ho, hx, hl, Option.map_some, Option.map_none]
      simp [Instr.sliceAt, Instr.slice, underlying, hu, Instr.sliceBounds, Instr.sliceBound, asIntOf, sizeOf, typeInfo, hi']
    simp only [Value.slice.injEq] at h1
    obtain ⟨rfl, _, rfl⟩ := h1
    exact Lv _ (x_sliceLo2 (A := if c = 0 then some ⟨g, 0, none⟩ else some ⟨g, 0 + 0 * s, none⟩) (n' := 0) (c' := c - 0) ho hx hl hu hs (Nat.le_refl _) rfl rfl rfl) (hc _ fun h => absurd h (Nat.lt_irrefl 0)) hw hd
  obtain ⟨g, c2, e1, hB, hg, hnc, hcel⟩ := hown.form (by omega)
  simp only [Value.slice.injEq] at e1
  obtain ⟨rfl, _, rfl⟩ := e1
  refine Lv _ (x_sliceLo2 (A := if c = j then some ⟨g, 0, none⟩ else some ⟨g, 0 + j * s, none⟩) (n' := m) (c' := c - j) ho hx hl hu hs (by omega) rfl (by omega) rfl) (hc _ fun hm => ?_) hw hd
  rw [if_neg (by omega)]
  refine ⟨g, _, rfl, fun p hp => ?_⟩
  have hlt : j * s + p < n * s := by
    have : n * s = j * s + m * s := by rw [hj, Nat.add_mul]
    omega
  have := hcel (j * s + p) hlt
  rw [Nat.zero_add] at this
  rw [Nat.zero_add]; exact this
theorem Own.arrLe {B n c s j : Nat} {E : TypeId} {a : Option Addr} {y : Nat → Value} (h : Own w B E s (.slice a n c) n y) (hj : j ≤ n) : Arr w a j s y := fun h0 => by
  obtain ⟨g, c2, e1, hB, hg, hnc, hcel⟩ := h.form (by omega)
  simp only [Value.slice.injEq] at e1
  refine ⟨g, 0, e1.1, fun p hp => hcel p ?_⟩
  exact Nat.lt_of_lt_of_le hp (Nat.mul_le_mul_right s hj)
theorem Own.weak {B B' n s : Nat} {E : TypeId} {v : Value} {y : Nat → Value} (h : Own w B E s v n y) (hB : B' ≤ B) : Own w B' E s v n y := by
  refine ⟨h.1, ?_⟩
  rcases h.2 with hn | ⟨g, cap, cur, hv, hb, rest⟩
  · exact .inl hn
  exact .inr ⟨g, cap, cur, hv, Nat.le_trans hB hb, rest⟩
end
end Go.Proofs.Ytleajegppehbdaa.Fx
namespace Go.Proofs.Ytleajegppehbdaa.Fx
open Go.RowKit
section
variable {P : Program} {n0 : Nat} {Q : Post} {f : Nat → Value} {w : World} {ops : Array Oper} {rest : List Oper} {o : Oper}
theorem x_sliceArr {T E : TypeId} {x : Operand} {b off n s : Nat} (ho : o.op = .slice T x none none none) (hx : ev f x = .pointer (some ⟨b, off, none⟩)) (hu : P.underlying T = some (.array n E)) (hs : (P.info? E).map (·.size) = some s) :
    Runs P f o w (.slice (some ⟨b, off, none⟩) n n) := by
  obtain ⟨i, hi', hs'⟩ := Option.map_eq_some_iff.1 hs
  unfold Runs execOp
  simp only [ho, hx, Option.map_none]
  by_cases h : n = 0
  · subst h; simp [Instr.sliceAt, Instr.sureAddr, underlying, hu, Instr.sliceBounds, sizeOf, typeInfo, hi']
  simp [Instr.sliceAt, Instr.sureAddr, underlying, hu, Instr.sliceBounds, sizeOf, typeInfo, hi', Addr.add, hs']
end
end Go.Proofs.Ytleajegppehbdaa.Fx
namespace Go.Proofs.Ytleajegppehbdaa
open Go.RowKit Rt
open Fx (x_move x_assign x_field x_load1 x_pickF x_pickT x_nil x_conv x_indexS x_index x_leqF x_loadA x_len x_gtrF x_build x_eqlF x_eqlT Lv sN Ln Ws Qv Wl Rp Wc Qs Wr Sb Lk Wk rC rV sR)
namespace Rt
def nodeB (v : EvM) (l : Int) : Bool := decide (l ≤ v.amt) && decide (v.amt ≤ 1125899906842624)
def evNodeV (v : EvM) : EvM := ⟨v.o, v.seq, v.deps, v.kind, 0, v.dst, 0, v.req, v.of⟩
def reqB (v : EvM) : Bool := decide (0 < v.req)
def evReqV (v : EvM) : EvM := ⟨v.o, v.seq, v.deps, v.kind, v.node, v.dst, v.amt, 0, v.of⟩
def ofV' (v : EvM) : EvM := ⟨v.o, v.seq, v.deps, v.kind, v.node, v.dst, v.amt, 0, 0⟩
def toB (v : EvM) : Bool := regE v.dst && !decide (v.dst = v.o)
def evToV (v : EvM) : EvM := ⟨v.o, v.seq, v.deps, v.kind, v.node, 0, v.amt, v.req, v.of⟩
end Rt
def Rt.ofkB (v : EvM) : Bool := decide (0 < v.req) && (decide (0 < v.of) && !decide (v.of = v.req))
theorem v_region (n : Int) (w : World) :
    Calls Try.prog 58 #[.int .i64 (n)] w fun e w' => e = .returned (.bool (regE n)) ∧ w' = w := by
 refine Fx.enter Try.func58 rfl (n := 9) rfl (by rfl) ?_
 refine Ws (Wl (Lv (.bool false) (x_assign rfl rfl) (Ln (sN (Ws (Wl (Lv (.int .i64 (n)) (x_move rfl rfl) ?_)))))))
 by_cases c4 : 1 ≤ n
 ·refine Lv (.bool true) (Fx.x_geqT rfl rfl rfl c4) (Lv (.bool true) (x_move rfl rfl) (Lv (.int .i64 (n)) (x_move rfl rfl) ?_))
  by_cases c7 : n ≤ 6
  ·refine Lv (.bool true) (Fx.x_leqT rfl rfl rfl c7) (Lv (.bool true) (x_pickT rfl rfl rfl) (Lv (.bool true) (x_assign rfl rfl) (Ln (sN (Wr (⟨.bool true, rV Try.results58 (by exact rfl), ?_⟩))))))
   exact ⟨congrArg (fun q => Ending.returned (Value.bool q)) (by simp only [regE]; first | (symm; simp; omega) | (symm; simp; done)), rfl⟩
  refine Lv (.bool false) (x_leqF rfl rfl rfl c7) (Lv (.bool false) (x_pickT rfl rfl rfl) (Lv (.bool false) (x_assign rfl rfl) (Ln (sN (Wr (⟨.bool false, rV Try.results58 (by exact rfl), ?_⟩))))))
  exact ⟨congrArg (fun q => Ending.returned (Value.bool q)) (by simp only [regE]; first | (symm; simp; omega) | (symm; simp; done)), rfl⟩
 refine Lv (.bool false) (Fx.x_geqF rfl rfl rfl c4) (Lv (.bool false) (x_move rfl rfl) (Lk (by rfl) rfl (Lk (by rfl) rfl (Lv (.bool false) (x_pickF rfl rfl rfl) (Lv (.bool false) (x_assign rfl rfl) (Ln (sN (Wr (⟨.bool false, rV Try.results58 (by exact rfl), ?_⟩)))))))))
 exact ⟨congrArg (fun q => Ending.returned (Value.bool q)) (by simp only [regE]; first | (symm; simp; omega) | (symm; simp; done)), rfl⟩
theorem v_node (l : Int) (v : EvM) (g : Nat) (w : World) (hp : Fx.Blk w g 14 (evY v) 128) :
    Calls Try.prog 79 #[(pt g), .int .i64 (l)] w fun e w' => e = .returned (.bool (nodeB v l)) ∧ Fx.Blk w' g 14 (evY (evNodeV v)) 128 ∧ Fx.Stp g w w' := by
 have lg := hp.lt
 refine Fx.enter Try.func79 rfl (n := 30) rfl (by rfl) ?_
 refine Ws (Wl (Lv (.bool false) (x_assign rfl rfl) (Ln (sN (Ws (Wl (Lv ((pt g)) (x_move rfl rfl) (Lv ((pt g)) (x_nil rfl rfl) (Lv ((pt g)) (x_field rfl rfl Try.underlying128 rfl (s := 14) (by kernel_rfl) rfl rfl) (Lv ((pf g 11)) (x_field rfl rfl Try.underlying50 rfl (s := 1) (by kernel_rfl) rfl (by show _ + 11 = _; omega)) (Lv (.int .i64 (v.amt)) (x_load1 (x := evY v) rfl rfl (by kernel_rfl) hp.cel (i := 11) (by omega) (by omega) rfl) (Lv (.int .i64 (l)) (x_move rfl rfl) ?_))))))))))))
 by_cases c12 : l ≤ v.amt
 ·refine Lv (.bool true) (Fx.x_geqT rfl rfl rfl c12) (Lv (.bool true) (x_move rfl rfl) (Lv ((pt g)) (x_move rfl rfl) (Lv ((pt g)) (x_nil rfl rfl) (Lv ((pt g)) (x_field rfl rfl Try.underlying128 rfl (s := 14) (by kernel_rfl) rfl rfl) (Lv ((pf g 11)) (x_field rfl rfl Try.underlying50 rfl (s := 1) (by kernel_rfl) rfl (by show _ + 11 = _; omega)) (Lv (.int .i64 (v.amt)) (x_load1 (x := evY v) rfl rfl (by kernel_rfl) hp.cel (i := 11) (by omega) (by omega) rfl) ?_))))))
  by_cases c19 : v.amt ≤ 1125899906842624
  ·refine Lv (.bool true) (Fx.x_leqT rfl rfl rfl c19) (Lv (.bool true) (x_pickT rfl rfl rfl) (Lv (.bool true) (x_assign rfl rfl) (Ln (sN (Ws (Wl (Lv ((pt g)) (x_move rfl rfl) (Lv ((pt g)) (x_move rfl rfl) (Lv ((pt g)) (x_nil rfl rfl) (Lv ((pt g)) (x_field rfl rfl Try.underlying128 rfl (s := 14) (by kernel_rfl) rfl rfl) (Lv ((pf g 9)) (x_field rfl rfl Try.underlying50 rfl (s := 1) (by kernel_rfl) rfl (by show _ + 9 = _; omega)) (Fx.L.store1 (x := evY v) (u := .int .u64 (0)) (by rfl) rfl rfl rfl rfl (by rfl) (by kernel_rfl) hp (i := 9) (by omega) fun w1 m1 s1 z1 => ?_))))))))))))
   have m2 : Fx.Blk w1 g 14 (evY (⟨v.o, v.seq, v.deps, v.kind, 0, v.dst, v.amt, v.req, v.of⟩ : EvM)) 128 := m1.congr (fun j hj => by rcases j with _|_|_|_|_|_|_|_|_|_|_|_|_|_|j <;> first | rfl | omega)
   have b1 := (Fx.Stp.refl g w).then s1 (by omega)
   refine Lv ((pt g)) (x_nil rfl rfl) (Lv ((pt g)) (x_field rfl rfl Try.underlying128 rfl (s := 14) (by kernel_rfl) rfl rfl) (Lv ((pf g 11)) (x_field rfl rfl Try.underlying50 rfl (s := 1) (by kernel_rfl) rfl (by show _ + 11 = _; omega)) (Fx.L.store1 (x := evY (⟨v.o, v.seq, v.deps, v.kind, 0, v.dst, v.amt, v.req, v.of⟩ : EvM)) (u := .int .i64 (0)) (by rfl) rfl rfl rfl rfl (by rfl) (by kernel_rfl) m2 (i := 11) (by omega) fun w2 m3 s2 z2 => ?_)))
   have m4 : Fx.Blk w2 g 14 (evY (⟨v.o, v.seq, v.deps, v.kind, 0, v.dst, 0, v.req, v.of⟩ : EvM)) 128 := m3.congr (fun j hj => by rcases j with _|_|_|_|_|_|_|_|_|_|_|_|_|_|j <;> first | rfl | omega)
   have b2 := b1.then s2 (by omega)
   refine Ln (sN (Ws (Wl (Lv (.bool true) (x_move rfl rfl) (Lv (.bool true) (x_assign rfl rfl) (Ln (sN (Wr (⟨.bool true, rV Try.results79 (by exact rfl), ?_⟩)))))))))
   exact ⟨congrArg (fun q => Ending.returned (Value.bool q)) (by simp only [nodeB]; first | (symm; simp; omega) | (symm; simp; done)), m4, b2⟩
  refine Lv (.bool false) (x_leqF rfl rfl rfl c19) (Lv (.bool false) (x_pickT rfl rfl rfl) (Lv (.bool false) (x_assign rfl rfl) (Ln (sN (Ws (Wl (Lv ((pt g)) (x_move rfl rfl) (Lv ((pt g)) (x_move rfl rfl) (Lv ((pt g)) (x_nil rfl rfl) (Lv ((pt g)) (x_field rfl rfl Try.underlying128 rfl (s := 14) (by kernel_rfl) rfl rfl) (Lv ((pf g 9)) (x_field rfl rfl Try.underlying50 rfl (s := 1) (by kernel_rfl) rfl (by show _ + 9 = _; omega)) (Fx.L.store1 (x := evY v) (u := .int .u64 (0)) (by rfl) rfl rfl rfl rfl (by rfl) (by kernel_rfl) hp (i := 9) (by omega) fun w3 m5 s3 z3 => ?_))))))))))))
  have m6 : Fx.Blk w3 g 14 (evY (⟨v.o, v.seq, v.deps, v.kind, 0, v.dst, v.amt, v.req, v.of⟩ : EvM)) 128 := m5.congr (fun j hj => by rcases j with _|_|_|_|_|_|_|_|_|_|_|_|_|_|j <;> first | rfl | omega)
  have b3 := (Fx.Stp.refl g w).then s3 (by omega)
  refine Lv ((pt g)) (x_nil rfl rfl) (Lv ((pt g)) (x_field rfl rfl Try.underlying128 rfl (s := 14) (by kernel_rfl) rfl rfl) (Lv ((pf g 11)) (x_field rfl rfl Try.underlying50 rfl (s := 1) (by kernel_rfl) rfl (by show _ + 11 = _; omega)) (Fx.L.store1 (x := evY (⟨v.o, v.seq, v.deps, v.kind, 0, v.dst, v.amt, v.req, v.of⟩ : EvM)) (u := .int .i64 (0)) (by rfl) rfl rfl rfl rfl (by rfl) (by kernel_rfl) m6 (i := 11) (by omega) fun w4 m7 s4 z4 => ?_)))
  have m8 : Fx.Blk w4 g 14 (evY (⟨v.o, v.seq, v.deps, v.kind, 0, v.dst, 0, v.req, v.of⟩ : EvM)) 128 := m7.congr (fun j hj => by rcases j with _|_|_|_|_|_|_|_|_|_|_|_|_|_|j <;> first | rfl | omega)
  have b4 := b3.then s4 (by omega)
  refine Ln (sN (Ws (Wl (Lv (.bool false) (x_move rfl rfl) (Lv (.bool false) (x_assign rfl rfl) (Ln (sN (Wr (⟨.bool false, rV Try.results79 (by exact rfl), ?_⟩)))))))))
  exact ⟨congrArg (fun q => Ending.returned (Value.bool q)) (by simp only [nodeB]; first | (symm; simp; omega) | (symm; simp; done)), m8, b4⟩
 refine Lv (.bool false) (Fx.x_geqF rfl rfl rfl c12) (Lv (.bool false) (x_move rfl rfl) (Lk (by rfl) rfl (Lk (by rfl) rfl (Lk (by rfl) rfl (Lk (by rfl) rfl (Lk (by rfl) rfl (Lk (by rfl) rfl (Lv (.bool false) (x_pickF rfl rfl rfl) (Lv (.bool false) (x_assign rfl rfl) (Ln (sN (Ws (Wl (Lv ((pt g)) (x_move rfl rfl) (Lv ((pt g)) (x_move rfl rfl) (Lv ((pt g)) (x_nil rfl rfl) (Lv ((pt g)) (x_field rfl rfl Try.underlying128 rfl (s := 14) (by kernel_rfl) rfl rfl) (Lv ((pf g 9)) (x_field rfl rfl Try.underlying50 rfl (s := 1) (by kernel_rfl) rfl (by show _ + 9 = _; omega)) (Fx.L.store1 (x := evY v) (u := .int .u64 (0)) (by rfl) rfl rfl rfl rfl (by rfl) (by kernel_rfl) hp (i := 9) (by omega) fun w5 m9 s5 z5 => ?_)))))))))))))))))))
 have m10 : Fx.Blk w5 g 14 (evY (⟨v.o, v.seq, v.deps, v.kind, 0, v.dst, v.amt, v.req, v.of⟩ : EvM)) 128 := m9.congr (fun j hj => by rcases j with _|_|_|_|_|_|_|_|_|_|_|_|_|_|j <;> first | rfl | omega)
 have b5 := (Fx.Stp.refl g w).then s5 (by omega)
 refine Lv ((pt g)) (x_nil rfl rfl) (Lv ((pt g)) (x_field rfl rfl Try.underlying128 rfl (s := 14) (by kernel_rfl) rfl rfl) (Lv ((pf g 11)) (x_field rfl rfl Try.underlying50 rfl (s := 1) (by kernel_rfl) rfl (by show _ + 11 = _; omega)) (Fx.L.store1 (x := evY (⟨v.o, v.seq, v.deps, v.kind, 0, v.dst, v.amt, v.req, v.of⟩ : EvM)) (u := .int .i64 (0)) (by rfl) rfl rfl rfl rfl (by rfl) (by kernel_rfl) m10 (i := 11) (by omega) fun w6 m11 s6 z6 => ?_)))
 have m12 : Fx.Blk w6 g 14 (evY (⟨v.o, v.seq, v.deps, v.kind, 0, v.dst, 0, v.req, v.of⟩ : EvM)) 128 := m11.congr (fun j hj => by rcases j with _|_|_|_|_|_|_|_|_|_|_|_|_|_|j <;> first | rfl | omega)
 have b6 := b5.then s6 (by omega)
 refine Ln (sN (Ws (Wl (Lv (.bool false) (x_move rfl rfl) (Lv (.bool false) (x_assign rfl rfl) (Ln (sN (Wr (⟨.bool false, rV Try.results79 (by exact rfl), ?_⟩)))))))))
 exact ⟨congrArg (fun q => Ending.returned (Value.bool q)) (by simp only [nodeB]; first | (symm; simp; omega) | (symm; simp; done)), m12, b6⟩
theorem v_req (v : EvM) (g : Nat) (w : World) (hp : Fx.Blk w g 14 (evY v) 128) :
    Calls Try.prog 80 #[(pt g)] w fun e w' => e = .returned (.bool (reqB v)) ∧ Fx.Blk w' g 14 (evY (evReqV v)) 128 ∧ Fx.Stp g w w' := by
 have lg := hp.lt
 refine Fx.enter Try.func80 rfl (n := 15) rfl (by rfl) ?_
 refine Ws (Wl (Lv (.bool false) (x_assign rfl rfl) (Ln (sN (Ws (Wl (Lv ((pt g)) (x_move rfl rfl) (Lv ((pt g)) (x_nil rfl rfl) (Lv ((pt g)) (x_field rfl rfl Try.underlying128 rfl (s := 14) (by kernel_rfl) rfl rfl) (Lv ((pf g 12)) (x_field rfl rfl Try.underlying50 rfl (s := 1) (by kernel_rfl) rfl (by show _ + 12 = _; omega)) (Lv (.int .u64 (v.req)) (x_load1 (x := evY v) rfl rfl (by kernel_rfl) hp.cel (i := 12) (by omega) (by omega) rfl) ?_)))))))))))
 by_cases c9 : 0 < v.req
 ·refine Lv (.bool true) (Fx.x_gtrT rfl rfl rfl c9) (Lv (.bool true) (x_assign rfl rfl) (Ln (sN (Ws (Wl (Lv ((pt g)) (x_move rfl rfl) (Lv ((pt g)) (x_nil rfl rfl) (Lv ((pt g)) (x_field rfl rfl Try.underlying128 rfl (s := 14) (by kernel_rfl) rfl rfl) (Lv ((pf g 12)) (x_field rfl rfl Try.underlying50 rfl (s := 1) (by kernel_rfl) rfl (by show _ + 12 = _; omega)) (Fx.L.store1 (x := evY v) (u := .int .u64 (0)) (by rfl) rfl rfl rfl rfl (by rfl) (by kernel_rfl) hp (i := 12) (by omega) fun w1 m1 s1 z1 => ?_))))))))))
  have m2 : Fx.Blk w1 g 14 (evY (⟨v.o, v.seq, v.deps, v.kind, v.node, v.dst, v.amt, 0, v.of⟩ : EvM)) 128 := m1.congr (fun j hj => by rcases j with _|_|_|_|_|_|_|_|_|_|_|_|_|_|j <;> first | rfl | omega)
  have b1 := (Fx.Stp.refl g w).then s1 (by omega)
  refine Ln (sN (Ws (Wl (Lv (.bool true) (x_move rfl rfl) (Lv (.bool true) (x_assign rfl rfl) (Ln (sN (Wr (⟨.bool true, rV Try.results80 (by exact rfl), ?_⟩)))))))))
  exact ⟨congrArg (fun q => Ending.returned (Value.bool q)) (by simp only [reqB]; first | (symm; simp; omega) | (symm; simp; done)), m2, b1⟩
 refine Lv (.bool false) (x_gtrF rfl rfl rfl c9) (Lv (.bool false) (x_assign rfl rfl) (Ln (sN (Ws (Wl (Lv ((pt g)) (x_move rfl rfl) (Lv ((pt g)) (x_nil rfl rfl) (Lv ((pt g)) (x_field rfl rfl Try.underlying128 rfl (s := 14) (by kernel_rfl) rfl rfl) (Lv ((pf g 12)) (x_field rfl rfl Try.underlying50 rfl (s := 1) (by kernel_rfl) rfl (by show _ + 12 = _; omega)) (Fx.L.store1 (x := evY v) (u := .int .u64 (0)) (by rfl) rfl rfl rfl rfl (by rfl) (by kernel_rfl) hp (i := 12) (by omega) fun w2 m3 s2 z2 => ?_))))))))))
 have m4 : Fx.Blk w2 g 14 (evY (⟨v.o, v.seq, v.deps, v.kind, v.node, v.dst, v.amt, 0, v.of⟩ : EvM)) 128 := m3.congr (fun j hj => by rcases j with _|_|_|_|_|_|_|_|_|_|_|_|_|_|j <;> first | rfl | omega)
 have b2 := (Fx.Stp.refl g w).then s2 (by omega)
 refine Ln (sN (Ws (Wl (Lv (.bool false) (x_move rfl rfl) (Lv (.bool false) (x_assign rfl rfl) (Ln (sN (Wr (⟨.bool false, rV Try.results80 (by exact rfl), ?_⟩)))))))))
 exact ⟨congrArg (fun q => Ending.returned (Value.bool q)) (by simp only [reqB]; first | (symm; simp; omega) | (symm; simp; done)), m4, b2⟩
theorem v_of (v : EvM) (g : Nat) (w : World) (hp : Fx.Blk w g 14 (evY v) 128) :
    Calls Try.prog 81 #[(pt g)] w fun e w' => e = .returned (.bool (ofkB v)) ∧ Fx.Blk w' g 14 (evY (ofV' v)) 128 ∧ Fx.Stp g w w' := by
 have lg := hp.lt
 refine Fx.enter Try.func81 rfl (n := 32) rfl (by rfl) ?_
 refine Ws (Wl (Lv (.bool false) (x_assign rfl rfl) (Ln (sN (Ws ?_)))))
 -- region 1 draws
 refine Fx.W.quiet (fun v1 => ∃ q, v1 = World.drewN w q) (by kernel_rfl) (by kernel_rfl) ⟨1, rfl⟩ ?_
 refine Qv ((pt g)) (fun v1 hv1 => x_move rfl rfl) (Qv ((pt g)) (fun v1 hv1 => x_nil rfl rfl) (Qv ((pt g)) (fun v1 hv1 => x_field rfl rfl Try.underlying128 rfl (s := 14) (by kernel_rfl) rfl rfl) (Qv ((pf g 13)) (fun v1 hv1 => x_field rfl rfl Try.underlying50 rfl (s := 1) (by kernel_rfl) rfl (by show _ + 13 = _; omega)) (Qv (.int .u64 (v.of)) (fun v1 hv1 => x_load1 (x := evY v) rfl rfl (by kernel_rfl) (by obtain ⟨qd, rfl⟩ := hv1; exact hp.cel) (i := 13) (by omega) (by omega) rfl) ?_))))
 by_cases c9 : 0 < v.of
 ·refine Qv (.bool true) (fun v1 hv1 => Fx.x_gtrT rfl rfl rfl c9) (Qv (.bool true) (fun v1 hv1 => x_move rfl rfl) (Qv ((pt g)) (fun v1 hv1 => x_move rfl rfl) (Qv ((pt g)) (fun v1 hv1 => x_nil rfl rfl) (Qv ((pt g)) (fun v1 hv1 => x_field rfl rfl Try.underlying128 rfl (s := 14) (by kernel_rfl) rfl rfl) (Qv ((pf g 13)) (fun v1 hv1 => x_field rfl rfl Try.underlying50 rfl (s := 1) (by kernel_rfl) rfl (by show _ + 13 = _; omega)) (Qv (.int .u64 (v.of)) (fun v1 hv1 => x_load1 (x := evY v) rfl rfl (by kernel_rfl) (by obtain ⟨qd, rfl⟩ := hv1; exact hp.cel) (i := 13) (by omega) (by omega) rfl) (Qv ((pt g)) (fun v1 hv1 => x_move rfl rfl) (Qv ((pt g)) (fun v1 hv1 => x_nil rfl rfl) (Qv ((pt g)) (fun v1 hv1 => x_field rfl rfl Try.underlying128 rfl (s := 14) (by kernel_rfl) rfl rfl) (Qv ((pf g 12)) (fun v1 hv1 => x_field rfl rfl Try.underlying50 rfl (s := 1) (by kernel_rfl) rfl (by show _ + 12 = _; omega)) (Qv (.int .u64 (v.req)) (fun v1 hv1 => x_load1 (x := evY v) rfl rfl (by kernel_rfl) (by obtain ⟨qd, rfl⟩ := hv1; exact hp.cel) (i := 12) (by omega) (by omega) rfl) ?_)))))))))))
  by_cases c21 : v.of = v.req
  ·refine Qv (.bool false) (fun v1 hv1 => Fx.x_neqF rfl rfl rfl c21) (Qv (.bool false) (fun v1 hv1 => x_pickT rfl rfl rfl) (Qv (.bool false) (fun v1 hv1 => x_assign rfl rfl) (Fx.Qt.nil ?_)))
   rintro _ ⟨qd, rfl⟩
   obtain ⟨wq1, ewq1⟩ : ∃ v1, v1 = World.drewN w qd := ⟨_, rfl⟩
   rw [← ewq1]
   have s1 : Fx.Stp w.heap.size w wq1 := by rw [ewq1]; exact Sb (bdrN w qd)
   have m1 := hp.stp s1 hp.ne
   have b1 := (Fx.Stp.refl g w).then s1 (.inr (Fx.Stp.refl g w).size)
   clear ewq1
   refine sN (Ws (Wl (Lv ((pt g)) (x_move rfl rfl) (Lv ((pt g)) (x_nil rfl rfl) (Lv ((pt g)) (x_field rfl rfl Try.underlying128 rfl (s := 14) (by kernel_rfl) rfl rfl) (Lv ((pf g 13)) (x_field rfl rfl Try.underlying50 rfl (s := 1) (by kernel_rfl) rfl (by show _ + 13 = _; omega)) (Fx.L.store1 (x := evY v) (u := .int .u64 (0)) (by rfl) rfl rfl rfl rfl (by rfl) (by kernel_rfl) m1 (i := 13) (by omega) fun w1 m2 s2 z1 => ?_)))))))
   have m3 : Fx.Blk w1 g 14 (evY (⟨v.o, v.seq, v.deps, v.kind, v.node, v.dst, v.amt, v.req, 0⟩ : EvM)) 128 := m2.congr (fun j hj => by rcases j with _|_|_|_|_|_|_|_|_|_|_|_|_|_|j <;> first | rfl | omega)
   have b2 := b1.then s2 (by omega)
   refine Ln (sN (Ws (Wl (Lv ((pt g)) (x_move rfl rfl) (Fx.L.call (by rfl) (rC (args := [(pt g)]) rfl rfl Try.func80 rfl rfl) rfl ((v_req (⟨v.o, v.seq, v.deps, v.kind, v.node, v.dst, v.amt, v.req, 0⟩ : EvM) g _ m3).mono ?_))))))
   rintro e w2 ⟨he, m4, s3⟩
   have b3 := b2.then s3 (by omega)
   by_cases c28 : reqB (⟨v.o, v.seq, v.deps, v.kind, v.node, v.dst, v.amt, v.req, 0⟩ : EvM) = true
   ·refine ⟨.bool true, by rw [he, c28], ?_⟩
    clear he
    refine Lv (.bool true) (x_move rfl rfl) (Lv (.bool false) (x_move rfl rfl) (Lv (.bool false) (x_pickT rfl rfl rfl) (Lv (.bool false) (x_assign rfl rfl) (Ln (sN (Wr (⟨.bool false, rV Try.results81 (by exact rfl), ?_⟩)))))))
    exact ⟨congrArg (fun q => Ending.returned (Value.bool q)) (by simp only [ofkB, reqB] at *; first | (symm; simp; omega) | (symm; simp at *; omega) | (symm; simp at *; done)), m4, b3⟩
   rw [Bool.not_eq_true] at c28
   refine ⟨.bool false, by rw [he, c28], ?_⟩
   clear he
   refine Lv (.bool false) (x_move rfl rfl) (Lk (by rfl) rfl (Lv (.bool false) (x_pickF rfl rfl rfl) (Lv (.bool false) (x_assign rfl rfl) (Ln (sN (Wr (⟨.bool false, rV Try.results81 (by exact rfl), ?_⟩)))))))
   exact ⟨congrArg (fun q => Ending.returned (Value.bool q)) (by simp only [ofkB, reqB] at *; first | (symm; simp; omega) | (symm; simp at *; omega) | (symm; simp at *; done)), m4, b3⟩
  refine Qv (.bool true) (fun v1 hv1 => Fx.x_neqT rfl rfl rfl c21) (Qv (.bool true) (fun v1 hv1 => x_pickT rfl rfl rfl) (Qv (.bool true) (fun v1 hv1 => x_assign rfl rfl) (Fx.Qt.nil ?_)))
  rintro _ ⟨qd, rfl⟩
  obtain ⟨wq2, ewq2⟩ : ∃ v1, v1 = World.drewN w qd := ⟨_, rfl⟩
  rw [← ewq2]
  have s4 : Fx.Stp w.heap.size w wq2 := by rw [ewq2]; exact Sb (bdrN w qd)
  have m5 := hp.stp s4 hp.ne
  have b4 := (Fx.Stp.refl g w).then s4 (.inr (Fx.Stp.refl g w).size)
  clear ewq2
  refine sN (Ws (Wl (Lv ((pt g)) (x_move rfl rfl) (Lv ((pt g)) (x_nil rfl rfl) (Lv ((pt g)) (x_field rfl rfl Try.underlying128 rfl (s := 14) (by kernel_rfl) rfl rfl) (Lv ((pf g 13)) (x_field rfl rfl Try.underlying50 rfl (s := 1) (by kernel_rfl) rfl (by show _ + 13 = _; omega)) (Fx.L.store1 (x := evY v) (u := .int .u64 (0)) (by rfl) rfl rfl rfl rfl (by rfl) (by kernel_rfl) m5 (i := 13) (by omega) fun w3 m6 s5 z2 => ?_)))))))
  have m7 : Fx.Blk w3 g 14 (evY (⟨v.o, v.seq, v.deps, v.kind, v.node, v.dst, v.amt, v.req, 0⟩ : EvM)) 128 := m6.congr (fun j hj => by rcases j with _|_|_|_|_|_|_|_|_|_|_|_|_|_|j <;> first | rfl | omega)
  have b5 := b4.then s5 (by omega)
  refine Ln (sN (Ws (Wl (Lv ((pt g)) (x_move rfl rfl) (Fx.L.call (by rfl) (rC (args := [(pt g)]) rfl rfl Try.func80 rfl rfl) rfl ((v_req (⟨v.o, v.seq, v.deps, v.kind, v.node, v.dst, v.amt, v.req, 0⟩ : EvM) g _ m7).mono ?_))))))
  rintro e w4 ⟨he, m8, s6⟩
  have b6 := b5.then s6 (by omega)
  by_cases c28 : reqB (⟨v.o, v.seq, v.deps, v.kind, v.node, v.dst, v.amt, v.req, 0⟩ : EvM) = true
  ·refine ⟨.bool true, by rw [he, c28], ?_⟩
   clear he
   refine Lv (.bool true) (x_move rfl rfl) (Lv (.bool true) (x_move rfl rfl) (Lv (.bool true) (x_pickT rfl rfl rfl) (Lv (.bool true) (x_assign rfl rfl) (Ln (sN (Wr (⟨.bool true, rV Try.results81 (by exact rfl), ?_⟩)))))))
   exact ⟨congrArg (fun q => Ending.returned (Value.bool q)) (by simp only [ofkB, reqB] at *; first | (symm; simp; omega) | (symm; simp at *; omega) | (symm; simp at *; done)), m8, b6⟩
  rw [Bool.not_eq_true] at c28
  refine ⟨.bool false, by rw [he, c28], ?_⟩
  clear he
  refine Lv (.bool false) (x_move rfl rfl) (Lk (by rfl) rfl (Lv (.bool false) (x_pickF rfl rfl rfl) (Lv (.bool false) (x_assign rfl rfl) (Ln (sN (Wr (⟨.bool false, rV Try.results81 (by exact rfl), ?_⟩)))))))
  exact ⟨congrArg (fun q => Ending.returned (Value.bool q)) (by simp only [ofkB, reqB] at *; first | (symm; simp; omega) | (symm; simp at *; omega) | (symm; simp at *; done)), m8, b6⟩
 refine Qv (.bool false) (fun v1 hv1 => x_gtrF rfl rfl rfl c9) (Qv (.bool false) (fun v1 hv1 => x_move rfl rfl) (Qs (by rfl) rfl (Qs (by rfl) rfl (Qs (by rfl) rfl (Qs (by rfl) rfl (Qs (by rfl) rfl (Qs (by rfl) rfl (Qs (by rfl) rfl (Qs (by rfl) rfl (Qs (by rfl) rfl (Qs (by rfl) rfl (Qs (by rfl) rfl (Qv (.bool false) (fun v1 hv1 => x_pickF rfl rfl rfl) (Qv (.bool false) (fun v1 hv1 => x_assign rfl rfl) (Fx.Qt.nil ?_)))))))))))))))
 rintro _ ⟨qd, rfl⟩
 obtain ⟨wq3, ewq3⟩ : ∃ v1, v1 = World.drewN w qd := ⟨_, rfl⟩
 rw [← ewq3]
 have s7 : Fx.Stp w.heap.size w wq3 := by rw [ewq3]; exact Sb (bdrN w qd)
 have m9 := hp.stp s7 hp.ne
 have b7 := (Fx.Stp.refl g w).then s7 (.inr (Fx.Stp.refl g w).size)
 clear ewq3
 refine sN (Ws (Wl (Lv ((pt g)) (x_move rfl rfl) (Lv ((pt g)) (x_nil rfl rfl) (Lv ((pt g)) (x_field rfl rfl Try.underlying128 rfl (s := 14) (by kernel_rfl) rfl rfl) (Lv ((pf g 13)) (x_field rfl rfl Try.underlying50 rfl (s := 1) (by kernel_rfl) rfl (by show _ + 13 = _; omega)) (Fx.L.store1 (x := evY v) (u := .int .u64 (0)) (by rfl) rfl rfl rfl rfl (by rfl) (by kernel_rfl) m9 (i := 13) (by omega) fun w5 m10 s8 z3 => ?_)))))))
 have m11 : Fx.Blk w5 g 14 (evY (⟨v.o, v.seq, v.deps, v.kind, v.node, v.dst, v.amt, v.req, 0⟩ : EvM)) 128 := m10.congr (fun j hj => by rcases j with _|_|_|_|_|_|_|_|_|_|_|_|_|_|j <;> first | rfl | omega)
 have b8 := b7.then s8 (by omega)
 refine Ln (sN (Ws (Wl (Lv ((pt g)) (x_move rfl rfl) (Fx.L.call (by rfl) (rC (args := [(pt g)]) rfl rfl Try.func80 rfl rfl) rfl ((v_req (⟨v.o, v.seq, v.deps, v.kind, v.node, v.dst, v.amt, v.req, 0⟩ : EvM) g _ m11).mono ?_))))))
 rintro e w6 ⟨he, m12, s9⟩
 have b9 := b8.then s9 (by omega)
 by_cases c28 : reqB (⟨v.o, v.seq, v.deps, v.kind, v.node, v.dst, v.amt, v.req, 0⟩ : EvM) = true
 ·refine ⟨.bool true, by rw [he, c28], ?_⟩
  clear he
  refine Lv (.bool true) (x_move rfl rfl) (Lv (.bool false) (x_move rfl rfl) (Lv (.bool false) (x_pickT rfl rfl rfl) (Lv (.bool false) (x_assign rfl rfl) (Ln (sN (Wr (⟨.bool false, rV Try.results81 (by exact rfl), ?_⟩)))))))
  exact ⟨congrArg (fun q => Ending.returned (Value.bool q)) (by simp only [ofkB, reqB] at *; first | (symm; simp; omega) | (symm; simp at *; omega) | (symm; simp at *; done)), m12, b9⟩
 rw [Bool.not_eq_true] at c28
 refine ⟨.bool false, by rw [he, c28], ?_⟩
 clear he
 refine Lv (.bool false) (x_move rfl rfl) (Lk (by rfl) rfl (Lv (.bool false) (x_pickF rfl rfl rfl) (Lv (.bool false) (x_assign rfl rfl) (Ln (sN (Wr (⟨.bool false, rV Try.results81 (by exact rfl), ?_⟩)))))))
 exact ⟨congrArg (fun q => Ending.returned (Value.bool q)) (by simp only [ofkB, reqB] at *; first | (symm; simp; omega) | (symm; simp at *; omega) | (symm; simp at *; done)), m12, b9⟩
theorem v_to (v : EvM) (g : Nat) (w : World) (hp : Fx.Blk w g 14 (evY v) 128) :
    Calls Try.prog 82 #[(pt g)] w fun e w' => e = .returned (.bool (toB v)) ∧ Fx.Blk w' g 14 (evY (evToV v)) 128 ∧ Fx.Stp g w w' := by
 have lg := hp.lt
 refine Fx.enter Try.func82 rfl (n := 28) rfl (by rfl) ?_
 refine Ws (Wl (Lv (.bool false) (x_assign rfl rfl) (Ln (sN (Ws ?_)))))
 -- region 1 draws
 refine Fx.W.quiet (fun v1 => Below w.heap.size w v1) (by kernel_rfl) (by kernel_rfl) (Below.refl _ _).drew ?_
 refine Qv ((pt g)) (fun v1 hv1 => x_move rfl rfl) (Qv ((pt g)) (fun v1 hv1 => x_nil rfl rfl) (Qv ((pt g)) (fun v1 hv1 => x_field rfl rfl Try.underlying128 rfl (s := 14) (by kernel_rfl) rfl rfl) (Qv ((pf g 10)) (fun v1 hv1 => x_field rfl rfl Try.underlying50 rfl (s := 1) (by kernel_rfl) rfl (by show _ + 10 = _; omega)) (Qv (.int .i64 (v.dst)) (fun v1 hv1 => x_load1 (x := evY v) rfl rfl (by kernel_rfl) (hp.cel.below hv1 (by have := hp.lt; omega)) (i := 10) (by omega) (by omega) rfl) ?_))))
 by_cases c9 : (regE v.dst) = true
 ·refine Fx.Qt.call (v := .bool true) (by rfl) (fun v1 hv1 => rC (args := [.int .i64 (v.dst)]) rfl rfl Try.func58 rfl rfl) rfl (fun v1 hv1 => (v_region v.dst _).mono fun e v2 h => ⟨by rw [h.1, c9], by rw [h.2]; exact hv1⟩) ?_
  refine Qv (.bool true) (fun v1 hv1 => x_move rfl rfl) (Qv ((pt g)) (fun v1 hv1 => x_move rfl rfl) (Qv ((pt g)) (fun v1 hv1 => x_nil rfl rfl) (Qv ((pt g)) (fun v1 hv1 => x_field rfl rfl Try.underlying128 rfl (s := 14) (by kernel_rfl) rfl rfl) (Qv ((pf g 10)) (fun v1 hv1 => x_field rfl rfl Try.underlying50 rfl (s := 1) (by kernel_rfl) rfl (by show _ + 10 = _; omega)) (Qv (.int .i64 (v.dst)) (fun v1 hv1 => x_load1 (x := evY v) rfl rfl (by kernel_rfl) (hp.cel.below hv1 (by have := hp.lt; omega)) (i := 10) (by omega) (by omega) rfl) (Qv ((pt g)) (fun v1 hv1 => x_move rfl rfl) (Qv ((pt g)) (fun v1 hv1 => x_nil rfl rfl) (Qv ((pt g)) (fun v1 hv1 => x_field rfl rfl Try.underlying128 rfl (s := 14) (by kernel_rfl) rfl rfl) (Qv ((pt g)) (fun v1 hv1 => x_field rfl rfl Try.underlying50 rfl (s := 1) (by kernel_rfl) rfl rfl) (Qv (.int .i64 (v.o)) (fun v1 hv1 => x_load1 (x := evY v) rfl rfl (by kernel_rfl) (hp.cel.below hv1 (by have := hp.lt; omega)) (i := 0) (by omega) (by omega) rfl) ?_))))))))))
  by_cases c21 : v.dst = v.o
  ·refine Qv (.bool false) (fun v1 hv1 => Fx.x_neqF rfl rfl rfl c21) (Qv (.bool false) (fun v1 hv1 => x_pickT rfl rfl rfl) (Qv (.bool false) (fun v1 hv1 => x_assign rfl rfl) (Fx.Qt.nil ?_)))
   intro wb1 hbwb1
   have s1 : Fx.Stp w.heap.size w wb1 := Sb hbwb1
   have m1 := hp.stp s1 hp.ne
   have b1 := (Fx.Stp.refl g w).then s1 (.inr (Fx.Stp.refl g w).size)
   refine sN (Ws (Wl (Lv ((pt g)) (x_move rfl rfl) (Lv ((pt g)) (x_nil rfl rfl) (Lv ((pt g)) (x_field rfl rfl Try.underlying128 rfl (s := 14) (by kernel_rfl) rfl rfl) (Lv ((pf g 10)) (x_field rfl rfl Try.underlying50 rfl (s := 1) (by kernel_rfl) rfl (by show _ + 10 = _; omega)) (Fx.L.store1 (x := evY v) (u := .int .i64 (0)) (by rfl) rfl rfl rfl rfl (by rfl) (by kernel_rfl) m1 (i := 10) (by omega) fun w1 m2 s2 z1 => ?_)))))))
   have m3 : Fx.Blk w1 g 14 (evY (⟨v.o, v.seq, v.deps, v.kind, v.node, 0, v.amt, v.req, v.of⟩ : EvM)) 128 := m2.congr (fun j hj => by rcases j with _|_|_|_|_|_|_|_|_|_|_|_|_|_|j <;> first | rfl | omega)
   have b2 := b1.then s2 (by omega)
   refine Ln (sN (Ws (Wl (Lv (.bool false) (x_move rfl rfl) (Lv (.bool false) (x_assign rfl rfl) (Ln (sN (Wr (⟨.bool false, rV Try.results82 (by exact rfl), ?_⟩)))))))))
   exact ⟨congrArg (fun q => Ending.returned (Value.bool q)) (by unfold toB; rw [c9]; first | (symm; simp; omega) | (symm; simp; done)), m3, b2⟩
  refine Qv (.bool true) (fun v1 hv1 => Fx.x_neqT rfl rfl rfl c21) (Qv (.bool true) (fun v1 hv1 => x_pickT rfl rfl rfl) (Qv (.bool true) (fun v1 hv1 => x_assign rfl rfl) (Fx.Qt.nil ?_)))
  intro wb2 hbwb2
  have s3 : Fx.Stp w.heap.size w wb2 := Sb hbwb2
  have m4 := hp.stp s3 hp.ne
  have b3 := (Fx.Stp.refl g w).then s3 (.inr (Fx.Stp.refl g w).size)
  refine sN (Ws (Wl (Lv ((pt g)) (x_move rfl rfl) (Lv ((pt g)) (x_nil rfl rfl) (Lv ((pt g)) (x_field rfl rfl Try.underlying128 rfl (s := 14) (by kernel_rfl) rfl rfl) (Lv ((pf g 10)) (x_field rfl rfl Try.underlying50 rfl (s := 1) (by kernel_rfl) rfl (by show _ + 10 = _; omega)) (Fx.L.store1 (x := evY v) (u := .int .i64 (0)) (by rfl) rfl rfl rfl rfl (by rfl) (by kernel_rfl) m4 (i := 10) (by omega) fun w2 m5 s4 z2 => ?_)))))))
  have m6 : Fx.Blk w2 g 14 (evY (⟨v.o, v.seq, v.deps, v.kind, v.node, 0, v.amt, v.req, v.of⟩ : EvM)) 128 := m5.congr (fun j hj => by rcases j with _|_|_|_|_|_|_|_|_|_|_|_|_|_|j <;> first | rfl | omega)
  have b4 := b3.then s4 (by omega)
  refine Ln (sN (Ws (Wl (Lv (.bool true) (x_move rfl rfl) (Lv (.bool true) (x_assign rfl rfl) (Ln (sN (Wr (⟨.bool true, rV Try.results82 (by exact rfl), ?_⟩)))))))))
  exact ⟨congrArg (fun q => Ending.returned (Value.bool q)) (by unfold toB; rw [c9]; first | (symm; simp; omega) | (symm; simp; done)), m6, b4⟩
 rw [Bool.not_eq_true] at c9
 refine Fx.Qt.call (v := .bool false) (by rfl) (fun v1 hv1 => rC (args := [.int .i64 (v.dst)]) rfl rfl Try.func58 rfl rfl) rfl (fun v1 hv1 => (v_region v.dst _).mono fun e v2 h => ⟨by rw [h.1, c9], by rw [h.2]; exact hv1⟩) ?_
 refine Qv (.bool false) (fun v1 hv1 => x_move rfl rfl) (Qs (by rfl) rfl (Qs (by rfl) rfl (Qs (by rfl) rfl (Qs (by rfl) rfl (Qs (by rfl) rfl (Qs (by rfl) rfl (Qs (by rfl) rfl (Qs (by rfl) rfl (Qs (by rfl) rfl (Qs (by rfl) rfl (Qs (by rfl) rfl (Qv (.bool false) (fun v1 hv1 => x_pickF rfl rfl rfl) (Qv (.bool false) (fun v1 hv1 => x_assign rfl rfl) (Fx.Qt.nil ?_))))))))))))))
 intro wb3 hbwb3
 have s5 : Fx.Stp w.heap.size w wb3 := Sb hbwb3
 have m7 := hp.stp s5 hp.ne
 have b5 := (Fx.Stp.refl g w).then s5 (.inr (Fx.Stp.refl g w).size)
 refine sN (Ws (Wl (Lv ((pt g)) (x_move rfl rfl) (Lv ((pt g)) (x_nil rfl rfl) (Lv ((pt g)) (x_field rfl rfl Try.underlying128 rfl (s := 14) (by kernel_rfl) rfl rfl) (Lv ((pf g 10)) (x_field rfl rfl Try.underlying50 rfl (s := 1) (by kernel_rfl) rfl (by show _ + 10 = _; omega)) (Fx.L.store1 (x := evY v) (u := .int .i64 (0)) (by rfl) rfl rfl rfl rfl (by rfl) (by kernel_rfl) m7 (i := 10) (by omega) fun w3 m8 s6 z3 => ?_)))))))
 have m9 : Fx.Blk w3 g 14 (evY (⟨v.o, v.seq, v.deps, v.kind, v.node, 0, v.amt, v.req, v.of⟩ : EvM)) 128 := m8.congr (fun j hj => by rcases j with _|_|_|_|_|_|_|_|_|_|_|_|_|_|j <;> first | rfl | omega)
 have b6 := b5.then s6 (by omega)
 refine Ln (sN (Ws (Wl (Lv (.bool false) (x_move rfl rfl) (Lv (.bool false) (x_assign rfl rfl) (Ln (sN (Wr (⟨.bool false, rV Try.results82 (by exact rfl), ?_⟩)))))))))
 exact ⟨congrArg (fun q => Ending.returned (Value.bool q)) (by unfold toB; rw [c9]; first | (symm; simp; omega) | (symm; simp; done)), m9, b6⟩
namespace Rt
def kindB (v : EvM) : Bool :=
  if v.kind = 1 then nodeB v 0 else if v.kind = 2 then nodeB v 1 else if v.kind = 3 then nodeB v 1 && reqB v else if v.kind = 4 then ofkB v else if v.kind = 5 then nodeB v 1 && toB v else if v.kind = 6 then toB v else decide (v.kind = 7)
def kindV (v : EvM) : EvM :=
  if v.kind = 1 then evNodeV v else if v.kind = 2 then evNodeV v else if v.kind = 3 then evReqV (evNodeV v) else if v.kind = 4 then ofV' v else if v.kind = 5 then evToV (evNodeV v) else if v.kind = 6 then evToV v else v
def bareV (v : EvM) : EvM := ⟨v.o, v.seq, v.deps, v.kind, 0, 0, 0, 0, 0⟩
theorem ev_iff (a b : EvM) : (∀ i, i < 14 → evY a i = evY b i) ↔ a.o = b.o ∧ a.seq = b.seq ∧ (∀ i, i < 6 → a.deps i = b.deps i) ∧ a.kind = b.kind ∧ a.node = b.node ∧ a.dst = b.dst ∧ a.amt = b.amt ∧ a.req = b.req ∧ a.of = b.of := by
  constructor
  · intro h
    have h0 : Value.int .i64 a.o = .int .i64 b.o := h 0 (by decide)
    have h1 : Value.int .u64 a.seq = .int .u64 b.seq := h 1 (by decide)
    have h8 : Value.int .u8 a.kind = .int .u8 b.kind := h 8 (by decide)
    have h9 : Value.int .u64 a.node = .int .u64 b.node := h 9 (by decide)
    have h10 : Value.int .i64 a.dst = .int .i64 b.dst := h 10 (by decide)
    have h11 : Value.int .i64 a.amt = .int .i64 b.amt := h 11 (by decide)
    have h12 : Value.int .u64 a.req = .int .u64 b.req := h 12 (by decide)
    have h13 : Value.int .u64 a.of = .int .u64 b.of := h 13 (by decide)
    simp only [Value.int.injEq, true_and] at h0 h1 h8 h9 h10 h11 h12 h13
    refine ⟨h0, h1, fun i hi => ?_, h8, h9, h10, h11, h12, h13⟩
    have h2 := h (i + 2) (by omega)
    rw [evY_deps a rfl hi, evY_deps b rfl hi] at h2
    simpa using h2
  rintro ⟨h0, h1, h2, h8, h9, h10, h11, h12, h13⟩ i hi
  unfold evY
  rw [h0, h1, h8, h9, h10, h11, h12, h13]
  by_cases c0 : i = 0
  · rw [if_pos c0, if_pos c0]
  by_cases c1 : i = 1
  · rw [if_neg c0, if_pos c1, if_neg c0, if_pos c1]
  by_cases c2 : i < 8
  · rw [if_neg c0, if_neg c1, if_pos c2, if_neg c0, if_neg c1, if_pos c2, h2 _ (by omega)]
  rw [if_neg c0, if_neg c1, if_neg c2, if_neg c0, if_neg c1, if_neg c2]
theorem kind_bare {v : EvM} (h0 : kindB v = true) : (∀ i, i < 14 → evY (kindV v) i = evY (bareV v) i) ↔ sameE v = true := by
  have h := h0
  rw [ev_iff]
  unfold kindB at h
  unfold kindV sameE ownE bareV
  simp only [Bool.and_eq_true, decide_eq_true_eq]
  split at h
  · rename_i k; simp [k, evNodeV, and_assoc]
  split at h
  · rename_i k1 k; simp [k, evNodeV, and_assoc]
  split at h
  · rename_i k1 k2 k; simp [k, evNodeV, evReqV, and_assoc]
  split at h
  · rename_i k1 k2 k3 k; simp [k, ofV', and_assoc]
  split at h
  · rename_i k1 k2 k3 k4 k; simp [k, evNodeV, evToV, and_assoc]
  split at h
  · rename_i k1 k2 k3 k4 k5 k; simp [k, evToV, and_assoc]
  rename_i k1 k2 k3 k4 k5 k6; simp [k1, k2, k3, k4, k5, k6, and_assoc]
theorem kind_fields {v : EvM} (h : sameE v = true) : fieldsE v = kindB v := by
  unfold sameE ownE at h
  unfold fieldsE kindB someE nodeB ofkB toB otherE reqB
  simp only [Bool.and_eq_true, decide_eq_true_eq] at h
  split <;> try rfl
  rename_i k1
  split <;> try rfl
  rename_i k2
  split
  · congr 1
  rename_i k3
  split
  · rename_i k4; rw [Bool.eq_iff_iff]; simp only [Bool.and_eq_true, decide_eq_true_eq, Bool.not_eq_true', decide_eq_false_iff_not]; omega
  split <;> rfl
def mxs (x : Nat → Int) : Nat → Int
  | 0 => x 0
  | k + 1 => if x (k + 1) > mxs x k then x (k + 1) else mxs x k
theorem mxs_ge (x : Nat → Int) : ∀ n i, i ≤ n → x i ≤ mxs x n
  | 0, i, h => by rw [show i = 0 by omega]; exact Int.le_refl _
  | n + 1, i, h => by
    unfold mxs
    by_cases e : i = n + 1
    · subst e; split <;> omega
    · have := mxs_ge x n i (by omega); split <;> omega
theorem mxs_in (x : Nat → Int) : ∀ n, ∃ i, i ≤ n ∧ mxs x n = x i
  | 0 => ⟨0, Nat.le_refl _, rfl⟩
  | n + 1 => by
    unfold mxs
    split
    · exact ⟨n + 1, Nat.le_refl _, rfl⟩
    · obtain ⟨i, hi, e⟩ := mxs_in x n; exact ⟨i, by omega, e⟩
theorem mxs_no {v : EvM} (h : 1099511627776 ≤ mxs v.deps 5) : depsOk v = false := by
  obtain ⟨i, hi, e⟩ := mxs_in v.deps 5
  exact depsOk_no (k := i) (by omega) (by omega)
theorem mxs_yes {v : EvM} (h : ¬ 1099511627776 ≤ mxs v.deps 5) : depsOk v = true :=
  depsOk_yes (k := 6) (by omega) fun i hi => by have := mxs_ge v.deps 5 i (by omega); omega
def KindR (v : EvM) (b : Bool) (v' : EvM) : Prop := b = kindB v ∧ (b = true → v' = kindV v)
end Rt
set_option maxHeartbeats 1000000 in
theorem v_kind (v : EvM) (g : Nat) (w : World) (hp : Fx.Blk w g 14 (evY v) 128) :
    Calls Try.prog 60 #[(pt g)] w fun e w' => ∃ b v', e = .returned (.bool b) ∧ Fx.Blk w' g 14 (evY v') 128 ∧ Fx.Stp g w w' ∧ KindR v b v' := by
 have lg := hp.lt
 refine Fx.enter Try.func60 rfl (n := 46) rfl (by rfl) ?_
 refine Ws (Wl (Lv (.bool false) (x_assign rfl rfl) (Ln (sN (Ws (Ws (Wl (Lv ((pt g)) (x_move rfl rfl) (Lv ((pt g)) (x_nil rfl rfl) (Lv ((pt g)) (x_field rfl rfl Try.underlying128 rfl (s := 14) (by kernel_rfl) rfl rfl) (Lv ((pf g 8)) (x_field rfl rfl Try.underlying50 rfl (s := 1) (by kernel_rfl) rfl (by show _ + 8 = _; omega)) (Lv (.int .u8 (v.kind)) (x_load1 (x := evY v) rfl rfl (by kernel_rfl) hp.cel (i := 8) (by omega) (by omega) rfl) (Ln (sN (Fx.W.block (Ws (Wl ?_)))))))))))))))))
 by_cases c9 : v.kind = 1
 ·refine Lv (.bool true) (x_eqlT rfl rfl rfl c9) (Lv (.bool true) (x_assign rfl rfl) (Ln (sN (Wc (b := true) rfl (fun _ => Ws (Wl (Lv ((pt g)) (x_move rfl rfl) ?_))) (fun h => nomatch h)))))
  refine Fx.L.call (by rfl) (rC (args := [(pt g), .int .i64 (0)]) rfl rfl Try.func79 rfl rfl) rfl ((v_node 0 v g _ hp).mono ?_)
  rintro e w1 ⟨he, m1, s1⟩
  have b1 := (Fx.Stp.refl g w).then s1 (by omega)
  by_cases c11 : nodeB v 0 = true
  ·refine ⟨.bool true, by rw [he, c11], ?_⟩
   clear he
   refine Lv (.bool true) (x_assign rfl rfl) (Ln (sN (Wr (Fx.blkR (sR (⟨.bool true, rV Try.results60 (by exact rfl), ?_⟩))))))
   refine ⟨_, _, rfl, m1, b1, Eq.symm (by unfold kindB; rw [if_pos c9, (show nodeB v 0 = true from c11)]; try rfl), fun hb => ?_⟩
   unfold kindV; rw [if_pos c9]; try rfl
  rw [Bool.not_eq_true] at c11
  refine ⟨.bool false, by rw [he, c11], ?_⟩
  clear he
  refine Lv (.bool false) (x_assign rfl rfl) (Ln (sN (Wr (Fx.blkR (sR (⟨.bool false, rV Try.results60 (by exact rfl), ?_⟩))))))
  refine ⟨_, _, rfl, m1, b1, Eq.symm (by unfold kindB; rw [if_pos c9, (show nodeB v 0 = false from c11)]; try rfl), fun hb => ?_⟩
  cases hb
 refine Lv (.bool false) (x_eqlF rfl rfl rfl c9) (Lv (.bool false) (x_assign rfl rfl) (Ln (sN (Wc (b := false) rfl (fun h => nomatch h) (fun _ => Ws (Wl ?_))))))
 by_cases c13 : v.kind = 2
 ·refine Lv (.bool true) (x_eqlT rfl rfl rfl c13) (Lv (.bool true) (x_assign rfl rfl) (Ln (sN (Wc (b := true) rfl (fun _ => Ws (Wl (Lv ((pt g)) (x_move rfl rfl) ?_))) (fun h => nomatch h)))))
  refine Fx.L.call (by rfl) (rC (args := [(pt g), .int .i64 (1)]) rfl rfl Try.func79 rfl rfl) rfl ((v_node 1 v g _ hp).mono ?_)
  rintro e w2 ⟨he, m2, s2⟩
  have b2 := (Fx.Stp.refl g w).then s2 (by omega)
  by_cases c15 : nodeB v 1 = true
  ·refine ⟨.bool true, by rw [he, c15], ?_⟩
   clear he
   refine Lv (.bool true) (x_assign rfl rfl) (Ln (sN (Wr (Fx.blkR (sR (⟨.bool true, rV Try.results60 (by exact rfl), ?_⟩))))))
   refine ⟨_, _, rfl, m2, b2, Eq.symm (by unfold kindB; rw [if_neg c9, if_pos c13, (show nodeB v 1 = true from c15)]; try rfl), fun hb => ?_⟩
   unfold kindV; rw [if_neg c9, if_pos c13]; try rfl
  rw [Bool.not_eq_true] at c15
  refine ⟨.bool false, by rw [he, c15], ?_⟩
  clear he
  refine Lv (.bool false) (x_assign rfl rfl) (Ln (sN (Wr (Fx.blkR (sR (⟨.bool false, rV Try.results60 (by exact rfl), ?_⟩))))))
  refine ⟨_, _, rfl, m2, b2, Eq.symm (by unfold kindB; rw [if_neg c9, if_pos c13, (show nodeB v 1 = false from c15)]; try rfl), fun hb => ?_⟩
  cases hb
 refine Lv (.bool false) (x_eqlF rfl rfl rfl c13) (Lv (.bool false) (x_assign rfl rfl) (Ln (sN (Wc (b := false) rfl (fun h => nomatch h) (fun _ => Ws (Wl ?_))))))
 by_cases c17 : v.kind = 3
 ·refine Lv (.bool true) (x_eqlT rfl rfl rfl c17) (Lv (.bool true) (x_assign rfl rfl) (Ln (sN (Wc (b := true) rfl (fun _ => Ws (Wl (Lv ((pt g)) (x_move rfl rfl) ?_))) (fun h => nomatch h)))))
  refine Fx.L.call (by rfl) (rC (args := [(pt g), .int .i64 (1)]) rfl rfl Try.func79 rfl rfl) rfl ((v_node 1 v g _ hp).mono ?_)
  rintro e w3 ⟨he, m3, s3⟩
  have b3 := (Fx.Stp.refl g w).then s3 (by omega)
  by_cases c19 : nodeB v 1 = true
  ·refine ⟨.bool true, by rw [he, c19], ?_⟩
   clear he
   refine Lv (.bool true) (x_move rfl rfl) (Lv ((pt g)) (x_move rfl rfl) (Fx.L.call (by rfl) (rC (args := [(pt g)]) rfl rfl Try.func80 rfl rfl) rfl ((v_req (⟨v.o, v.seq, v.deps, v.kind, 0, v.dst, 0, v.req, v.of⟩ : EvM) g _ m3).mono ?_)))
   rintro e w4 ⟨he, m4, s4⟩
   have b4 := b3.then s4 (by omega)
   by_cases c22 : reqB (⟨v.o, v.seq, v.deps, v.kind, 0, v.dst, 0, v.req, v.of⟩ : EvM) = true
   ·refine ⟨.bool true, by rw [he, c22], ?_⟩
    clear he
    refine Lv (.bool true) (x_pickT rfl rfl rfl) (Lv (.bool true) (x_assign rfl rfl) (Ln (sN (Wr (Fx.blkR (sR (⟨.bool true, rV Try.results60 (by exact rfl), ?_⟩)))))))
    refine ⟨_, _, rfl, m4, b4, Eq.symm (by unfold kindB; rw [if_neg c9, if_neg c13, if_pos c17, (show nodeB v 1 = true from c19), (show reqB v = true from c22)]; try rfl), fun hb => ?_⟩
    unfold kindV; rw [if_neg c9, if_neg c13, if_pos c17]; try rfl
   rw [Bool.not_eq_true] at c22
   refine ⟨.bool false, by rw [he, c22], ?_⟩
   clear he
   refine Lv (.bool false) (x_pickT rfl rfl rfl) (Lv (.bool false) (x_assign rfl rfl) (Ln (sN (Wr (Fx.blkR (sR (⟨.bool false, rV Try.results60 (by exact rfl), ?_⟩)))))))
   refine ⟨_, _, rfl, m4, b4, Eq.symm (by unfold kindB; rw [if_neg c9, if_neg c13, if_pos c17, (show nodeB v 1 = true from c19), (show reqB v = false from c22)]; try rfl), fun hb => ?_⟩
   cases hb
  rw [Bool.not_eq_true] at c19
  refine ⟨.bool false, by rw [he, c19], ?_⟩
  clear he
  refine Lv (.bool false) (x_move rfl rfl) (Lk (by rfl) rfl (Lk (by rfl) rfl (Lv (.bool false) (x_pickF rfl rfl rfl) (Lv (.bool false) (x_assign rfl rfl) (Ln (sN (Wr (Fx.blkR (sR (⟨.bool false, rV Try.results60 (by exact rfl), ?_⟩))))))))))
  refine ⟨_, _, rfl, m3, b3, Eq.symm (by unfold kindB; rw [if_neg c9, if_neg c13, if_pos c17, (show nodeB v 1 = false from c19)]; try rfl), fun hb => ?_⟩
  cases hb
 refine Lv (.bool false) (x_eqlF rfl rfl rfl c17) (Lv (.bool false) (x_assign rfl rfl) (Ln (sN (Wc (b := false) rfl (fun h => nomatch h) (fun _ => Ws (Wl ?_))))))
 by_cases c25 : v.kind = 4
 ·refine Lv (.bool true) (x_eqlT rfl rfl rfl c25) (Lv (.bool true) (x_assign rfl rfl) (Ln (sN (Wc (b := true) rfl (fun _ => Ws (Wl (Lv ((pt g)) (x_move rfl rfl) ?_))) (fun h => nomatch h)))))
  refine Fx.L.call (by rfl) (rC (args := [(pt g)]) rfl rfl Try.func81 rfl rfl) rfl ((v_of v g _ hp).mono ?_)
  rintro e w5 ⟨he, m5, s5⟩
  have b5 := (Fx.Stp.refl g w).then s5 (by omega)
  by_cases c27 : ofkB v = true
  ·refine ⟨.bool true, by rw [he, c27], ?_⟩
   clear he
   refine Lv (.bool true) (x_assign rfl rfl) (Ln (sN (Wr (Fx.blkR (sR (⟨.bool true, rV Try.results60 (by exact rfl), ?_⟩))))))
   refine ⟨_, _, rfl, m5, b5, Eq.symm (by unfold kindB; rw [if_neg c9, if_neg c13, if_neg c17, if_pos c25, (show ofkB v = true from c27)]; try rfl), fun hb => ?_⟩
   unfold kindV; rw [if_neg c9, if_neg c13, if_neg c17, if_pos c25]; try rfl
  rw [Bool.not_eq_true] at c27
  refine ⟨.bool false, by rw [he, c27], ?_⟩
  clear he
  refine Lv (.bool false) (x_assign rfl rfl) (Ln (sN (Wr (Fx.blkR (sR (⟨.bool false, rV Try.results60 (by exact rfl), ?_⟩))))))
  refine ⟨_, _, rfl, m5, b5, Eq.symm (by unfold kindB; rw [if_neg c9, if_neg c13, if_neg c17, if_pos c25, (show ofkB v = false from c27)]; try rfl), fun hb => ?_⟩
  cases hb
 refine Lv (.bool false) (x_eqlF rfl rfl rfl c25) (Lv (.bool false) (x_assign rfl rfl) (Ln (sN (Wc (b := false) rfl (fun h => nomatch h) (fun _ => Ws (Wl ?_))))))
 by_cases c29 : v.kind = 5
 ·refine Lv (.bool true) (x_eqlT rfl rfl rfl c29) (Lv (.bool true) (x_assign rfl rfl) (Ln (sN (Wc (b := true) rfl (fun _ => Ws (Wl (Lv ((pt g)) (x_move rfl rfl) ?_))) (fun h => nomatch h)))))
  refine Fx.L.call (by rfl) (rC (args := [(pt g), .int .i64 (1)]) rfl rfl Try.func79 rfl rfl) rfl ((v_node 1 v g _ hp).mono ?_)
  rintro e w6 ⟨he, m6, s6⟩
  have b6 := (Fx.Stp.refl g w).then s6 (by omega)
  by_cases c31 : nodeB v 1 = true
  ·refine ⟨.bool true, by rw [he, c31], ?_⟩
   clear he
   refine Lv (.bool true) (x_move rfl rfl) (Lv ((pt g)) (x_move rfl rfl) (Fx.L.call (by rfl) (rC (args := [(pt g)]) rfl rfl Try.func82 rfl rfl) rfl ((v_to (⟨v.o, v.seq, v.deps, v.kind, 0, v.dst, 0, v.req, v.of⟩ : EvM) g _ m6).mono ?_)))
   rintro e w7 ⟨he, m7, s7⟩
   have b7 := b6.then s7 (by omega)
   by_cases c34 : toB (⟨v.o, v.seq, v.deps, v.kind, 0, v.dst, 0, v.req, v.of⟩ : EvM) = true
   ·refine ⟨.bool true, by rw [he, c34], ?_⟩
    clear he
    refine Lv (.bool true) (x_pickT rfl rfl rfl) (Lv (.bool true) (x_assign rfl rfl) (Ln (sN (Wr (Fx.blkR (sR (⟨.bool true, rV Try.results60 (by exact rfl), ?_⟩)))))))
    refine ⟨_, _, rfl, m7, b7, Eq.symm (by unfold kindB; rw [if_neg c9, if_neg c13, if_neg c17, if_neg c25, if_pos c29, (show nodeB v 1 = true from c31), (show toB v = true from c34)]; try rfl), fun hb => ?_⟩
    unfold kindV; rw [if_neg c9, if_neg c13, if_neg c17, if_neg c25, if_pos c29]; try rfl
   rw [Bool.not_eq_true] at c34
   refine ⟨.bool false, by rw [he, c34], ?_⟩
   clear he
   refine Lv (.bool false) (x_pickT rfl rfl rfl) (Lv (.bool false) (x_assign rfl rfl) (Ln (sN (Wr (Fx.blkR (sR (⟨.bool false, rV Try.results60 (by exact rfl), ?_⟩)))))))
   refine ⟨_, _, rfl, m7, b7, Eq.symm (by unfold kindB; rw [if_neg c9, if_neg c13, if_neg c17, if_neg c25, if_pos c29, (show nodeB v 1 = true from c31), (show toB v = false from c34)]; try rfl), fun hb => ?_⟩
   cases hb
  rw [Bool.not_eq_true] at c31
  refine ⟨.bool false, by rw [he, c31], ?_⟩
  clear he
  refine Lv (.bool false) (x_move rfl rfl) (Lk (by rfl) rfl (Lk (by rfl) rfl (Lv (.bool false) (x_pickF rfl rfl rfl) (Lv (.bool false) (x_assign rfl rfl) (Ln (sN (Wr (Fx.blkR (sR (⟨.bool false, rV Try.results60 (by exact rfl), ?_⟩))))))))))
  refine ⟨_, _, rfl, m6, b6, Eq.symm (by unfold kindB; rw [if_neg c9, if_neg c13, if_neg c17, if_neg c25, if_pos c29, (show nodeB v 1 = false from c31)]; try rfl), fun hb => ?_⟩
  cases hb
 refine Lv (.bool false) (x_eqlF rfl rfl rfl c29) (Lv (.bool false) (x_assign rfl rfl) (Ln (sN (Wc (b := false) rfl (fun h => nomatch h) (fun _ => Ws (Wl ?_))))))
 by_cases c37 : v.kind = 6
 ·refine Lv (.bool true) (x_eqlT rfl rfl rfl c37) (Lv (.bool true) (x_assign rfl rfl) (Ln (sN (Wc (b := true) rfl (fun _ => Ws (Wl (Lv ((pt g)) (x_move rfl rfl) ?_))) (fun h => nomatch h)))))
  refine Fx.L.call (by rfl) (rC (args := [(pt g)]) rfl rfl Try.func82 rfl rfl) rfl ((v_to v g _ hp).mono ?_)
  rintro e w8 ⟨he, m8, s8⟩
  have b8 := (Fx.Stp.refl g w).then s8 (by omega)
  by_cases c39 : toB v = true
  ·refine ⟨.bool true, by rw [he, c39], ?_⟩
   clear he
   refine Lv (.bool true) (x_assign rfl rfl) (Ln (sN (Wr (Fx.blkR (sR (⟨.bool true, rV Try.results60 (by exact rfl), ?_⟩))))))
   refine ⟨_, _, rfl, m8, b8, Eq.symm (by unfold kindB; rw [if_neg c9, if_neg c13, if_neg c17, if_neg c25, if_neg c29, if_pos c37, (show toB v = true from c39)]; try rfl), fun hb => ?_⟩
   unfold kindV; rw [if_neg c9, if_neg c13, if_neg c17, if_neg c25, if_neg c29, if_pos c37]; try rfl
  rw [Bool.not_eq_true] at c39
  refine ⟨.bool false, by rw [he, c39], ?_⟩
  clear he
  refine Lv (.bool false) (x_assign rfl rfl) (Ln (sN (Wr (Fx.blkR (sR (⟨.bool false, rV Try.results60 (by exact rfl), ?_⟩))))))
  refine ⟨_, _, rfl, m8, b8, Eq.symm (by unfold kindB; rw [if_neg c9, if_neg c13, if_neg c17, if_neg c25, if_neg c29, if_pos c37, (show toB v = false from c39)]; try rfl), fun hb => ?_⟩
  cases hb
 refine Lv (.bool false) (x_eqlF rfl rfl rfl c37) (Lv (.bool false) (x_assign rfl rfl) (Ln (sN (Wc (b := false) rfl (fun h => nomatch h) (fun _ => Wk (Fx.blkN (sN (Ws (Wl (Lv ((pt g)) (x_move rfl rfl) (Lv ((pt g)) (x_nil rfl rfl) (Lv ((pt g)) (x_field rfl rfl Try.underlying128 rfl (s := 14) (by kernel_rfl) rfl rfl) (Lv ((pf g 8)) (x_field rfl rfl Try.underlying50 rfl (s := 1) (by kernel_rfl) rfl (by show _ + 8 = _; omega)) (Lv (.int .u8 (v.kind)) (x_load1 (x := evY v) rfl rfl (by kernel_rfl) hp.cel (i := 8) (by omega) (by omega) rfl) ?_))))))))))))))
 by_cases c45 : v.kind = 7
 ·refine Lv (.bool true) (x_eqlT rfl rfl rfl c45) (Lv (.bool true) (x_assign rfl rfl) (Ln (sN (Wr (⟨.bool true, rV Try.results60 (by exact rfl), ?_⟩)))))
  refine ⟨_, _, rfl, hp, (Fx.Stp.refl g w), Eq.symm (by unfold kindB; rw [if_neg c9, if_neg c13, if_neg c17, if_neg c25, if_neg c29, if_neg c37, decide_eq_true c45]; try rfl), fun hb => ?_⟩
  unfold kindV; rw [if_neg c9, if_neg c13, if_neg c17, if_neg c25, if_neg c29, if_neg c37]; try rfl
 refine Lv (.bool false) (x_eqlF rfl rfl rfl c45) (Lv (.bool false) (x_assign rfl rfl) (Ln (sN (Wr (⟨.bool false, rV Try.results60 (by exact rfl), ?_⟩)))))
 refine ⟨_, _, rfl, hp, (Fx.Stp.refl g w), Eq.symm (by unfold kindB; rw [if_neg c9, if_neg c13, if_neg c17, if_neg c25, if_neg c29, if_neg c37, decide_eq_false c45]; try rfl), fun hb => ?_⟩
 cases hb
theorem v_max (x : Nat → Int) (b off : Nat) (w : World) (hx : Fx.Cel w b off 6 (Fx.rv .u64 x)) :
    Calls Try.prog 59 #[.slice (some ⟨b, off, none⟩) (6) (6)] w fun e w' => e = .returned (.int .u64 (mxs x 5)) ∧ Below w.heap.size w w' := by
 have lb := hx.lt (by omega)
 refine Fx.enter Try.func59 rfl (n := 25) rfl (by rfl) ?_
 refine Ws (Wl (Lv (.int .u64 (0)) (x_assign rfl rfl) (Ln (sN (Ws (Ws (Wl (Lv (.slice (some ⟨b, off, none⟩) (6) (6)) (x_move rfl rfl) (Lv (.int .i64 (6)) (x_len rfl rfl rfl (by kernel_rfl)) (Lv (.bool false) (Fx.x_lssF rfl rfl rfl (by omega)) (Ln (sN (Wc (b := false) rfl (fun h => nomatch h) (fun _ => Wk (sN (Ws (Wl (Lv (.slice (some ⟨b, off, none⟩) (6) (6)) (x_move rfl rfl) (Lv ((pf b off)) (x_indexS rfl rfl rfl Try.underlying67 (s := 1) (by kernel_rfl) (by omega) (by omega) (by omega)) (Lv (.int .u64 (x 0)) (x_load1 (x := Fx.rv .u64 x) rfl rfl (by kernel_rfl) hx (i := 0) (by omega) (by omega) rfl) (Lv (.int .u64 (x 0)) (x_assign rfl rfl) (Ln (sN (Ws (Ws (Wl (Lv (.int .i64 (1)) (x_assign rfl rfl) (Ln (sN (Fx.W.block (Fx.W.loop (fun f w_ => ∃ k : Nat, k ≤ 5 ∧ f 0 = .slice (some ⟨b, off, none⟩) (6) (6) ∧ f 3 = .int .u64 (mxs x k) ∧ f 4 = .int .i64 (((k : Int) + 1)) ∧ Fx.Cel w_ b off 6 (Fx.rv .u64 x) ∧ Below w.heap.size w w_) (fun f _ => (6 - (intOf (f 4)).toNat)) ⟨0, by omega, (by rfl), rfl, Fx.ic, hx, (Below.refl w.heap.size w)⟩ ?_)))))))))))))))))))))))))))))))
 rintro f1 w1 ⟨k, hk, h1, h2, h3, m1, b1⟩
 refine Ws (Ws (Wl (Lv (.int .i64 (((k : Int) + 1))) (x_move rfl h3) (Lv (.slice (some ⟨b, off, none⟩) (6) (6)) (x_move rfl h1) (Lv (.int .i64 (6)) (x_len rfl rfl rfl (by kernel_rfl)) ?_)))))
 by_cases c15 : ((k : Int) + 1) < 6
 ·refine Lv (.bool true) (Fx.x_lssT rfl rfl rfl c15) (Ln (sN (Wc (b := true) rfl (fun _ => Wk (sN (Ws (Fx.W.block (Wl (Lv (.int .u64 (mxs x k)) (x_move rfl h2) ?_)))))) (fun h => nomatch h))))
  refine Lv (.slice (some ⟨b, off, none⟩) (6) (6)) (x_move rfl h1) (Lv (.int .i64 (((k : Int) + 1))) (x_move rfl h3) (Lv ((pf b (k + off + 1))) (x_indexS rfl rfl rfl Try.underlying67 (s := 1) (by kernel_rfl) (by omega) (by omega) (by omega)) (Lv (.int .u64 (x (k + 1))) (x_load1 (x := Fx.rv .u64 x) rfl rfl (by kernel_rfl) m1 (i := k + 1) (by omega) (by omega) rfl) (Lv (.int .u64 (mxs x (k + 1))) (Fx.x_max rfl rfl rfl) (Lv (.int .u64 (mxs x (k + 1))) (x_assign rfl rfl) (Ln (Fx.blkN (sN (Wl (Lv (.int .i64 (((k : Int) + 1))) (x_move rfl h3) (Lv (.int .i64 ((k : Int) + 2)) (Fx.x_add rfl rfl rfl Fx.io) (Lv (.int .i64 ((k : Int) + 2)) (x_assign rfl rfl) (Ln (Fx.lpN ⟨k + 1, by omega, h1, rfl, Fx.ic, m1, b1⟩ ?_))))))))))))))
  show (6 - (intOf ((.int .i64 ((k : Int) + 2)))).toNat) < _
  simp only [h3, intOf]; omega
 refine Lv (.bool false) (Fx.x_lssF rfl rfl rfl c15) (Ln (sN (Wc (b := false) rfl (fun h => nomatch h) (fun _ => Fx.W.exit (Fx.seqX (Fx.lpX (Fx.blkX (sN (Ws (Wl (Lv (.int .u64 (mxs x k)) (x_move rfl h2) (Lv (.int .u64 (mxs x k)) (x_assign rfl rfl) (Ln (sN (Wr (⟨.int .u64 (mxs x k), rV Try.results59 (by exact rfl), ?_⟩))))))))))))))))
 have e5 : k = 5 := by omega
 exact ⟨by rw [e5], b1⟩
theorem Kd_cong {ks : List (Option IntKind)} {x y : Nat → Value} (h : Fx.Kd ks y) (e : ∀ j, j < ks.length → x j = y j) : Fx.Kd ks x := fun i hi => by rw [e i hi]; exact h i hi
namespace Rt
theorem bareV_wf {v : EvM} (h : EvWf v) : EvWf (bareV v) := by
  have z : U64r 0 := ⟨by decide, by decide⟩
  have y : I64r 0 := ⟨by decide, by decide⟩
  exact ⟨h.o, h.seq, h.deps, h.kind, z, y, y, z, z⟩
theorem kindV_wf {v : EvM} (h : EvWf v) : EvWf (kindV v) := by
  have z : U64r 0 := ⟨by decide, by decide⟩
  have y : I64r 0 := ⟨by decide, by decide⟩
  unfold kindV
  split
  · exact ⟨h.o, h.seq, h.deps, h.kind, z, h.dst, y, h.req, h.of⟩
  split
  · exact ⟨h.o, h.seq, h.deps, h.kind, z, h.dst, y, h.req, h.of⟩
  split
  · exact ⟨h.o, h.seq, h.deps, h.kind, z, h.dst, y, z, h.of⟩
  split
  · exact ⟨h.o, h.seq, h.deps, h.kind, h.node, h.dst, h.amt, z, z⟩
  split
  · exact ⟨h.o, h.seq, h.deps, h.kind, z, y, y, h.req, h.of⟩
  split
  · exact ⟨h.o, h.seq, h.deps, h.kind, h.node, y, h.amt, h.req, h.of⟩
  exact h
end Rt
set_option maxHeartbeats 2000000 in
theorem v_may (v : EvM) (w : World) (hv : EvWf v) :
    Calls Try.prog 42 #[.agg (Fx.varr 14 (evY v))] w fun e w' => e = .returned (.bool (mayE v)) ∧ Below w.heap.size w w' := by
 refine Fx.enter Try.func42 rfl (n := 55) rfl (by rfl) ?_
 refine Ws (Wl (Fx.L.box (m := 14) (y := evY v) (by rfl) rfl rfl (Fx.cells_agg _ _) rfl fun g1 w1 eg1 m1 s1 z1 => ?_))
 have b1 := s1.below (Below.refl w.heap.size w) (Below.refl w.heap.size w).size (Below.refl w.heap.size w).size
 have lg1 : w.heap.size ≤ g1 := by rw [eg1]; exact (Below.refl w.heap.size w).size
 have tg1 : g1 < w1.heap.size := m1.lt
 clear eg1
 refine Lv (.bool false) (x_assign rfl rfl) (Ln (sN (Ws (Ws ?_))))
 -- region 1 draws
 refine Fx.W.quiet (fun v1 => Below w1.heap.size w1 v1) (by kernel_rfl) (by kernel_rfl) (Below.refl _ _).drew ?_
 refine Qv ((pt g1)) (fun v1 hv1 => x_field rfl rfl Try.underlying50 rfl (s := 1) (by kernel_rfl) rfl rfl) (Qv (.int .i64 (v.o)) (fun v1 hv1 => x_load1 (x := evY v) rfl rfl (by kernel_rfl) (m1.cel.below hv1 (by have := m1.lt; omega)) (i := 0) (by omega) (by omega) rfl) ?_)
 by_cases c6 : (regE v.o) = true
 ·obtain ⟨a, ha, ea⟩ := regE_nat c6
  refine Fx.Qt.call (v := .bool true) (by rfl) (fun v1 hv1 => rC (args := [.int .i64 (v.o)]) rfl rfl Try.func58 rfl rfl) rfl (fun v1 hv1 => (v_region v.o _).mono fun e v2 h => ⟨by rw [h.1, c6], by rw [h.2]; exact hv1⟩) ?_
  refine Qv (.bool false) (fun v1 hv1 => Fx.x_notF rfl rfl) (Qv (.bool false) (fun v1 hv1 => x_move rfl rfl) (Qv ((pf g1 1)) (fun v1 hv1 => x_field rfl rfl Try.underlying50 rfl (s := 1) (by kernel_rfl) rfl (by show _ + 1 = _; omega)) (Qv (.int .u64 (v.seq)) (fun v1 hv1 => x_load1 (x := evY v) rfl rfl (by kernel_rfl) (m1.cel.below hv1 (by have := m1.lt; omega)) (i := 1) (by omega) (by omega) rfl) ?_)))
  by_cases c11 : v.seq < 1
  ·refine Qv (.bool true) (fun v1 hv1 => Fx.x_lssT rfl rfl rfl c11) (Qv (.bool true) (fun v1 hv1 => x_pickF rfl rfl rfl) (Qv (.bool true) (fun v1 hv1 => x_move rfl rfl) (Qs (by rfl) rfl (Qs (by rfl) rfl (Qs (by rfl) rfl (Qv (.bool true) (fun v1 hv1 => x_pickT rfl rfl rfl) (Qv (.bool true) (fun v1 hv1 => x_move rfl rfl) (Qs (by rfl) rfl (Qs (by rfl) rfl (Qs (by rfl) rfl (Qs (by rfl) rfl (Qs (by rfl) rfl (Qs (by rfl) rfl (Qs (by rfl) rfl (Qs (by rfl) rfl (Qs (by rfl) rfl (Qs (by rfl) rfl (Qv (.bool true) (fun v1 hv1 => x_pickT rfl rfl rfl) (Fx.Qt.nil ?_)))))))))))))))))))
   intro wb1 hbwb1
   have s2 : Fx.Stp w1.heap.size w1 wb1 := Sb hbwb1
   have m2 := m1.stp s2 m1.ne
   have b2 := s2.below b1 b1.size b1.size
   refine sN (Wc (b := true) rfl (fun _ => Ws (Wl (Lv (.bool false) (x_assign rfl rfl) ?_))) (fun h => nomatch h))
   refine Ln (sN (Wr (sR (⟨.bool false, rV Try.results42 (by exact rfl), ?_⟩))))
   have m2 : decide (1 ≤ v.seq) = false := decide_eq_false (by omega)
   exact ⟨congrArg (fun q => Ending.returned (Value.bool q)) (Eq.symm (by unfold mayE; rw [c6, m2]; try rfl)), b2⟩
  refine Qv (.bool false) (fun v1 hv1 => Fx.x_lssF rfl rfl rfl c11) (Qv (.bool false) (fun v1 hv1 => x_pickF rfl rfl rfl) (Qv (.bool false) (fun v1 hv1 => x_move rfl rfl) (Qv ((pf g1 1)) (fun v1 hv1 => x_field rfl rfl Try.underlying50 rfl (s := 1) (by kernel_rfl) rfl (by show _ + 1 = _; omega)) (Qv (.int .u64 (v.seq)) (fun v1 hv1 => x_load1 (x := evY v) rfl rfl (by kernel_rfl) (m1.cel.below hv1 (by have := m1.lt; omega)) (i := 1) (by omega) (by omega) rfl) ?_))))
  by_cases c16 : 1099511627776 ≤ v.seq
  ·refine Qv (.bool true) (fun v1 hv1 => Fx.x_geqT rfl rfl rfl c16) (Qv (.bool true) (fun v1 hv1 => x_pickF rfl rfl rfl) (Qv (.bool true) (fun v1 hv1 => x_move rfl rfl) (Qs (by rfl) rfl (Qs (by rfl) rfl (Qs (by rfl) rfl (Qs (by rfl) rfl (Qs (by rfl) rfl (Qs (by rfl) rfl (Qs (by rfl) rfl (Qs (by rfl) rfl (Qs (by rfl) rfl (Qs (by rfl) rfl (Qv (.bool true) (fun v1 hv1 => x_pickT rfl rfl rfl) (Fx.Qt.nil ?_))))))))))))))
   intro wb2 hbwb2
   have s3 : Fx.Stp w1.heap.size w1 wb2 := Sb hbwb2
   have m3 := m1.stp s3 m1.ne
   have b3 := s3.below b1 b1.size b1.size
   refine sN (Wc (b := true) rfl (fun _ => Ws (Wl (Lv (.bool false) (x_assign rfl rfl) ?_))) (fun h => nomatch h))
   refine Ln (sN (Wr (sR (⟨.bool false, rV Try.results42 (by exact rfl), ?_⟩))))
   have m2 : decide (1 ≤ v.seq) = true := decide_eq_true (by omega)
   have m3 : decide (v.seq < 1099511627776) = false := decide_eq_false (by omega)
   exact ⟨congrArg (fun q => Ending.returned (Value.bool q)) (Eq.symm (by unfold mayE; rw [c6, m2, m3]; try rfl)), b3⟩
  refine Qv (.bool false) (fun v1 hv1 => Fx.x_geqF rfl rfl rfl c16) (Qv (.bool false) (fun v1 hv1 => x_pickF rfl rfl rfl) (Qv (.bool false) (fun v1 hv1 => x_move rfl rfl) (Qv ((pt g1)) (fun v1 hv1 => x_field rfl rfl Try.underlying50 rfl (s := 1) (by kernel_rfl) rfl rfl) (Qv (.int .i64 (v.o)) (fun v1 hv1 => x_load1 (x := evY v) rfl rfl (by kernel_rfl) (m1.cel.below hv1 (by have := m1.lt; omega)) (i := 0) (by omega) (by omega) rfl) (Qv (.int .i64 ((a : Int))) (fun v1 hv1 => Fx.x_sub rfl rfl rfl Fx.io) (Qv ((pf g1 2)) (fun v1 hv1 => x_field rfl rfl Try.underlying50 rfl (s := 6) (by kernel_rfl) rfl (by show _ + 2 = _; omega)) (Qv ((pf g1 (a + 2))) (fun v1 hv1 => x_index rfl rfl rfl Try.underlying32 (s := 1) (by kernel_rfl) (by omega) (by omega) (by omega)) (Qv (.int .u64 (v.deps a)) (fun v1 hv1 => x_load1 (x := evY v) rfl rfl (by kernel_rfl) (m1.cel.below hv1 (by have := m1.lt; omega)) (i := a + 2) (by omega) (by omega) (evY_deps _ (by omega) (by omega))) (Qv ((pf g1 1)) (fun v1 hv1 => x_field rfl rfl Try.underlying50 rfl (s := 1) (by kernel_rfl) rfl (by show _ + 1 = _; omega)) (Qv (.int .u64 (v.seq)) (fun v1 hv1 => x_load1 (x := evY v) rfl rfl (by kernel_rfl) (m1.cel.below hv1 (by have := m1.lt; omega)) (i := 1) (by omega) (by omega) rfl) (Qv (.int .u64 (v.seq - 1)) (fun v1 hv1 => Fx.x_sub rfl rfl rfl (Fx.u64e (by omega) (by omega))) ?_)))))))))))
  by_cases c28 : (v.deps a) = (v.seq - 1)
  ·refine Qv (.bool false) (fun v1 hv1 => Fx.x_neqF rfl rfl rfl c28) (Qv (.bool false) (fun v1 hv1 => x_pickF rfl rfl rfl) (Fx.Qt.nil ?_))
   intro wb3 hbwb3
   have s4 : Fx.Stp w1.heap.size w1 wb3 := Sb hbwb3
   have m4 := m1.stp s4 m1.ne
   have b4 := s4.below b1 b1.size b1.size
   refine sN (Wc (b := false) rfl (fun h => nomatch h) (fun _ => Wk (sN (Ws (Ws (Wl (Lv ((pf g1 2)) (x_field rfl rfl Try.underlying50 rfl (s := 6) (by kernel_rfl) rfl (by show _ + 2 = _; omega)) (Lv (.slice (some ⟨g1, 2, none⟩) (6) (6)) (Fx.x_sliceArr rfl rfl Try.underlying32 (s := 1) (by kernel_rfl)) (Fx.L.call (by rfl) (rC (args := [.slice (some ⟨g1, 2, none⟩) (6) (6)]) rfl rfl Try.func59 rfl rfl) rfl ((v_max v.deps g1 2 _ (fun j hj => by have h1 := m4.cel (2 + j) (by omega); rw [Nat.zero_add] at h1; rw [h1, evY_deps v (p := 2 + j) (j := j) (by omega) hj]; rfl)).mono ?_))))))))))
   rintro e w2 ⟨he, hb1⟩
   refine ⟨.int .u64 (mxs v.deps 5), by rw [he], ?_⟩
   clear he
   have s5 := Sb hb1
   have m5 := m4.stp s5 m4.ne
   have b5 := s5.below b4 b4.size b4.size
   by_cases c33 : 1099511627776 ≤ (mxs v.deps 5)
   ·refine Lv (.bool true) (Fx.x_geqT rfl rfl rfl c33) (Ln (sN (Wc (b := true) rfl (fun _ => Ws (Wl (Lv (.bool false) (x_assign rfl rfl) ?_))) (fun h => nomatch h))))
    refine Ln (sN (Wr (sR (⟨.bool false, rV Try.results42 (by exact rfl), ?_⟩))))
    have m2 : decide (1 ≤ v.seq) = true := decide_eq_true (by omega)
    have m3 : decide (v.seq < 1099511627776) = true := decide_eq_true (by omega)
    have m4 : decide (v.deps (v.o - 1).toNat = v.seq - 1) = true := decide_eq_true (by rw [show (v.o - 1).toNat = a by omega]; exact c28)
    have m5 := mxs_no c33
    exact ⟨congrArg (fun q => Ending.returned (Value.bool q)) (Eq.symm (by unfold mayE; rw [c6, m2, m3, m4, m5]; try rfl)), b5⟩
   refine Lv (.bool false) (Fx.x_geqF rfl rfl rfl c33) (Ln (sN (Wc (b := false) rfl (fun h => nomatch h) (fun _ => Wk (sN (Ws (Wl (Lv (.agg (Fx.varr 14 (evY v))) (x_loadA (x := evY v) (y := evY v) rfl rfl (by kernel_rfl) (by kernel_rfl) m5.cel (i := 0) (by omega) (by omega) (fun j _ => by rw [Nat.zero_add])) (Lv (.agg (Fx.varr 14 (Fx.ovr (fun zq => if zq < 1 then .int .i64 (0) else if zq < 8 then .int .u64 (0) else if zq < 9 then .int .u8 (0) else if zq < 10 then .int .u64 (0) else if zq < 12 then .int .i64 (0) else .int .u64 (0)) 0 14 (evY v)))) (x_build (vs := [(0, .agg (Fx.varr 14 (evY v)))]) (places := #[(0, 14)]) (m := 14) (x := fun zq => if zq < 1 then .int .i64 (0) else if zq < 8 then .int .u64 (0) else if zq < 9 then .int .u8 (0) else if zq < 10 then .int .u64 (0) else if zq < 12 then .int .i64 (0) else .int .u64 (0)) rfl rfl Try.underlying128 (by kernel_rfl) (by kernel_rfl) (by rw [Fx.fill_step (off := 0) (s := 14) (y := evY v) (by kernel_rfl) (Fx.cells_agg _ _) (by rfl)]; rfl)) (Fx.L.box (m := 14) (y := Fx.ovr (fun zq => if zq < 1 then .int .i64 (0) else if zq < 8 then .int .u64 (0) else if zq < 9 then .int .u8 (0) else if zq < 10 then .int .u64 (0) else if zq < 12 then .int .i64 (0) else .int .u64 (0)) 0 14 (evY v)) (by rfl) rfl rfl (Fx.cells_agg _ _) rfl fun g2 w3 eg2 m6 s6 z2 => ?_))))))))))
   have m7 := m5.stp s6 m5.ne
   have b6 := s6.below b5 b5.size b5.size
   have lg2 : w.heap.size ≤ g2 := by rw [eg2]; exact b5.size
   have ng2m7 : g1 ≠ g2 := by rw [eg2]; exact Nat.ne_of_lt (m5.lt)
   have tg2 : g2 < w3.heap.size := m6.lt
   clear eg2
   refine Lv ((pt g2)) (x_assign rfl rfl) (Ln (sN (Ws ?_)))
   have m8 : Fx.Blk w3 g2 14 (evY v) 128 := m6.congr (fun j hj => by rcases j with _|_|_|_|_|_|_|_|_|_|_|_|_|_|j <;> first | rfl | omega)
   -- region 6 draws
   refine Fx.W.reord [0, 1, 2, 3, 4, 5, 7, 9, 11, 13, 6, 8, 10, 12, 14, 15, 16, 17, 18] [0, 3, 0, 0, 0, 0, 4, 0, 4, 0, 4, 0, 4, 0, 4, 0, 0, 0, 0] (Fx.ChX [128]) Fx.ChX.refl Fx.ChX.trans (certs := [(2, 1, [1]), (3, 1, [2, 1]), (4, 1, [2, 1]), (5, 1, [2, 1]), (7, 1, [2, 1]), (9, 1, [2, 1]), (11, 1, [2, 1]), (13, 1, [2, 1]), (6, 1, [2, 1]), (8, 1, [2, 1]), (10, 1, [2, 1]), (12, 1, [2, 1]), (14, 1, [2, 1]), (15, 1, [2, 1]), (16, 1, [2, 1]), (17, 1, [2, 1]), (18, 1, [1])]) (by kernel_rfl) (by kernel_rfl) (by kernel_rfl) (by kernel_rfl) (by kernel_rfl) fun wt1 hbwt1 hzwt1 => ?_
   have s7 : Fx.Stp w3.heap.size w3 wt1 := Sb hbwt1
   have m9 := m7.stp s7 m7.ne
   have m10 := m8.stp s7 m8.ne
   have b7 := s7.below b6 b6.size b6.size
   refine Rp ((pt g2)) (fun v1 => x_move rfl rfl) (Fx.R.eff (by rfl) ?_)
   refine Fx.L.call (by rfl) (rC (args := [(pt g2)]) rfl rfl Try.func60 rfl rfl) rfl ((v_kind v g2 _ m10).mono ?_)
   rintro e w4 ⟨b, v', he, m11, s8, hkb, hkv⟩
   have m12 := m9.stp s8 (by omega)
   have b8 := s8.below b7 b7.size (by omega)
   cases b
   ·refine ⟨.bool false, he, ?_⟩
    clear he
    refine Ln (Rp (.bool false) (fun v1 => x_move rfl rfl) (Fx.R.skip (by rfl) (Fx.R.skip (by rfl) (Fx.R.skip (by rfl) (Fx.R.skip (by rfl) (Fx.R.skip (by rfl) (Fx.R.skip (by rfl) (Fx.R.skip (by rfl) (Fx.R.skip (by rfl) (Fx.R.skip (by rfl) (Fx.R.skip (by rfl) (Fx.R.skip (by rfl) (Fx.R.skip (by rfl) (Fx.R.skip (by rfl) (Fx.R.skip (by rfl) (Rp (.bool false) (fun v1 => x_pickF rfl rfl rfl) (Rp (.bool false) (fun v1 => x_assign rfl rfl) (Fx.R.nil (sN (Wr (⟨.bool false, rV Try.results42 (by exact rfl), ?_⟩)))))))))))))))))))))
    have m2 : decide (1 ≤ v.seq) = true := decide_eq_true (by omega)
    have m3 : decide (v.seq < 1099511627776) = true := decide_eq_true (by omega)
    have m4 : decide (v.deps (v.o - 1).toNat = v.seq - 1) = true := decide_eq_true (by rw [show (v.o - 1).toNat = a by omega]; exact c28)
    have m5 := mxs_yes c33
    have m6 : sameE v = true → fieldsE v = false := fun h => by rw [kind_fields h, ← hkb]
    have m7 : (sameE v && fieldsE v) = false := by cases h : sameE v with | false => rfl | true => exact m6 h
    have m8 : (true && true && true && true && true && sameE v && fieldsE v) = false := m7
    exact ⟨congrArg (fun q => Ending.returned (Value.bool q)) (Eq.symm (by unfold mayE; rw [c6, m2, m3, m4, m5, m8]; try rfl)), b8⟩
   refine ⟨.bool true, he, ?_⟩
   clear he
   rw [hkv rfl] at m11
   refine Ln (Rp (.bool true) (fun v1 => x_move rfl rfl) (Rp ((pt g2)) (fun v1 => x_move rfl rfl) (Rp ((pt g2)) (fun v1 => x_nil rfl rfl) (Rp ((pt g2)) (fun v1 => x_field rfl rfl Try.underlying128 rfl (s := 14) (by kernel_rfl) rfl rfl) (Rp ((pt g1)) (fun v1 => x_field rfl rfl Try.underlying50 rfl (s := 1) (by kernel_rfl) rfl rfl) (Rp ((pf g1 1)) (fun v1 => x_field rfl rfl Try.underlying50 rfl (s := 1) (by kernel_rfl) rfl (by show _ + 1 = _; omega)) (Rp ((pf g1 2)) (fun v1 => x_field rfl rfl Try.underlying50 rfl (s := 6) (by kernel_rfl) rfl (by show _ + 2 = _; omega)) (Rp ((pf g1 8)) (fun v1 => x_field rfl rfl Try.underlying50 rfl (s := 1) (by kernel_rfl) rfl (by show _ + 8 = _; omega)) (Fx.R.s (.agg (Fx.varr 14 (evY (kindV v)))) (x_loadA (x := evY (kindV v)) (y := evY (kindV v)) rfl rfl (by kernel_rfl) (by kernel_rfl) m11.cel (i := 0) (by omega) (by omega) (fun j _ => by rw [Nat.zero_add])) ?_)))))))))
   refine Fx.R.s (.int .i64 (v.o)) (x_load1 (x := evY v) rfl rfl (by kernel_rfl) m12.cel (i := 0) (by omega) (by omega) rfl) ?_
   refine Fx.R.s (.int .u64 (v.seq)) (x_load1 (x := evY v) rfl rfl (by kernel_rfl) m12.cel (i := 1) (by omega) (by omega) rfl) ?_
   refine Fx.R.s (.agg (Fx.varr 6 (Fx.rv .u64 v.deps))) (x_loadA (x := evY v) (y := Fx.rv .u64 v.deps) rfl rfl (by kernel_rfl) (by kernel_rfl) m12.cel (i := 2) (by omega) (by omega) (fun j hj => evY_deps _ (by omega) hj)) ?_
   refine Fx.R.s (.int .u8 (v.kind)) (x_load1 (x := evY v) rfl rfl (by kernel_rfl) m12.cel (i := 8) (by omega) (by omega) rfl) ?_
   refine Rp (.agg (Fx.varr 14 (Fx.ovr (Fx.ovr (Fx.ovr (Fx.ovr (fun zq => if zq < 1 then .int .i64 (0) else if zq < 8 then .int .u64 (0) else if zq < 9 then .int .u8 (0) else if zq < 10 then .int .u64 (0) else if zq < 12 then .int .i64 (0) else .int .u64 (0)) 0 1 (fun _ => .int .i64 (v.o))) 1 1 (fun _ => .int .u64 (v.seq))) 2 6 (Fx.rv .u64 v.deps)) 8 1 (fun _ => .int .u8 (v.kind))))) (fun v1 => x_build (vs := [(0, .int .i64 (v.o)), (1, .int .u64 (v.seq)), (2, .agg (Fx.varr 6 (Fx.rv .u64 v.deps))), (3, .int .u8 (v.kind))]) (places := #[(0, 1), (1, 1), (2, 6), (8, 1), (9, 1), (10, 1), (11, 1), (12, 1), (13, 1)]) (m := 14) (x := fun zq => if zq < 1 then .int .i64 (0) else if zq < 8 then .int .u64 (0) else if zq < 9 then .int .u8 (0) else if zq < 10 then .int .u64 (0) else if zq < 12 then .int .i64 (0) else .int .u64 (0)) rfl rfl Try.underlying50 (by kernel_rfl) (by kernel_rfl) (by rw [Fx.fill_step (off := 0) (s := 1) (y := fun _ => .int .i64 (v.o)) (by kernel_rfl) (Fx.cells_one (by rfl)) (by rfl)]; rw [Fx.fill_step (off := 1) (s := 1) (y := fun _ => .int .u64 (v.seq)) (by kernel_rfl) (Fx.cells_one (by rfl)) (by rfl)]; rw [Fx.fill_step (off := 2) (s := 6) (y := Fx.rv .u64 v.deps) (by kernel_rfl) (Fx.cells_agg _ _) (by rfl)]; rw [Fx.fill_step (off := 8) (s := 1) (y := fun _ => .int .u8 (v.kind)) (by kernel_rfl) (Fx.cells_one (by rfl)) (by rfl)]; rfl)) ?_
   by_cases c53 : ∀ i, i < 14 → (evY (kindV v)) i = (Fx.ovr (Fx.ovr (Fx.ovr (Fx.ovr (fun zq => if zq < 1 then .int .i64 (0) else if zq < 8 then .int .u64 (0) else if zq < 9 then .int .u8 (0) else if zq < 10 then .int .u64 (0) else if zq < 12 then .int .i64 (0) else .int .u64 (0)) 0 1 (fun _ => .int .i64 (v.o))) 1 1 (fun _ => .int .u64 (v.seq))) 2 6 (Fx.rv .u64 v.deps)) 8 1 (fun _ => .int .u8 (v.kind))) i
   ·refine Rp (.bool true) (fun v1 => Fx.x_eqlA (n := 14) (ks := [(some .i64), (some .u64), (some .u64), (some .u64), (some .u64), (some .u64), (some .u64), (some .u64), (some .u8), (some .u64), (some .i64), (some .i64), (some .u64), (some .u64)]) (X := evY (kindV v)) (Y := Fx.ovr (Fx.ovr (Fx.ovr (Fx.ovr (fun zq => if zq < 1 then .int .i64 (0) else if zq < 8 then .int .u64 (0) else if zq < 9 then .int .u8 (0) else if zq < 10 then .int .u64 (0) else if zq < 12 then .int .i64 (0) else .int .u64 (0)) 0 1 (fun _ => .int .i64 (v.o))) 1 1 (fun _ => .int .u64 (v.seq))) 2 6 (Fx.rv .u64 v.deps)) 8 1 (fun _ => .int .u8 (v.kind))) 12 true rfl rfl rfl (Fx.yesb c53) (kd_ev (kindV_wf hv)) (Kd_cong (kd_ev (bareV_wf hv)) (fun j hj => by rcases j with _|_|_|_|_|_|_|_|_|_|_|_|_|_|j <;> first | rfl | exact absurd hj (by simp))) rfl (by kernel_rfl) (by kernel_rfl) (by kernel_rfl) (by kernel_rfl) (by kernel_rfl)) (Rp (.bool true) (fun v1 => x_pickT rfl rfl rfl) (Rp (.bool true) (fun v1 => x_assign rfl rfl) (Fx.R.nil (sN (Wr (⟨.bool true, rV Try.results42 (by exact rfl), ?_⟩))))))
    have m2 : decide (1 ≤ v.seq) = true := decide_eq_true (by omega)
    have m3 : decide (v.seq < 1099511627776) = true := decide_eq_true (by omega)
    have m4 : decide (v.deps (v.o - 1).toNat = v.seq - 1) = true := decide_eq_true (by rw [show (v.o - 1).toNat = a by omega]; exact c28)
    have m5 := mxs_yes c33
    have m6 := (kind_bare hkb.symm).1 (fun i hi => (c53 i hi).trans (by rcases i with _|_|_|_|_|_|_|_|_|_|_|_|_|_|i <;> first | rfl | omega))
    have m7 := (kind_fields m6).trans hkb.symm
    exact ⟨congrArg (fun q => Ending.returned (Value.bool q)) (Eq.symm (by unfold mayE; rw [c6, m2, m3, m4, m5, m6, m7]; try rfl)), b8⟩
   refine Rp (.bool false) (fun v1 => Fx.x_eqlA (n := 14) (ks := [(some .i64), (some .u64), (some .u64), (some .u64), (some .u64), (some .u64), (some .u64), (some .u64), (some .u8), (some .u64), (some .i64), (some .i64), (some .u64), (some .u64)]) (X := evY (kindV v)) (Y := Fx.ovr (Fx.ovr (Fx.ovr (Fx.ovr (fun zq => if zq < 1 then .int .i64 (0) else if zq < 8 then .int .u64 (0) else if zq < 9 then .int .u8 (0) else if zq < 10 then .int .u64 (0) else if zq < 12 then .int .i64 (0) else .int .u64 (0)) 0 1 (fun _ => .int .i64 (v.o))) 1 1 (fun _ => .int .u64 (v.seq))) 2 6 (Fx.rv .u64 v.deps)) 8 1 (fun _ => .int .u8 (v.kind))) 12 false rfl rfl rfl (Fx.nob c53) (kd_ev (kindV_wf hv)) (Kd_cong (kd_ev (bareV_wf hv)) (fun j hj => by rcases j with _|_|_|_|_|_|_|_|_|_|_|_|_|_|j <;> first | rfl | exact absurd hj (by simp))) rfl (by kernel_rfl) (by kernel_rfl) (by kernel_rfl) (by kernel_rfl) (by kernel_rfl)) (Rp (.bool false) (fun v1 => x_pickT rfl rfl rfl) (Rp (.bool false) (fun v1 => x_assign rfl rfl) (Fx.R.nil (sN (Wr (⟨.bool false, rV Try.results42 (by exact rfl), ?_⟩))))))
   have m2 : decide (1 ≤ v.seq) = true := decide_eq_true (by omega)
   have m3 : decide (v.seq < 1099511627776) = true := decide_eq_true (by omega)
   have m4 : decide (v.deps (v.o - 1).toNat = v.seq - 1) = true := decide_eq_true (by rw [show (v.o - 1).toNat = a by omega]; exact c28)
   have m5 := mxs_yes c33
   have m6 : sameE v = false := Bool.eq_false_iff.2 (fun h => c53 (fun i hi => ((kind_bare hkb.symm).2 h i hi).trans (by rcases i with _|_|_|_|_|_|_|_|_|_|_|_|_|_|i <;> first | rfl | omega)))
   exact ⟨congrArg (fun q => Ending.returned (Value.bool q)) (Eq.symm (by unfold mayE; rw [c6, m2, m3, m4, m5, m6]; try rfl)), b8⟩
  refine Qv (.bool true) (fun v1 hv1 => Fx.x_neqT rfl rfl rfl c28) (Qv (.bool true) (fun v1 hv1 => x_pickF rfl rfl rfl) (Fx.Qt.nil ?_))
  intro wb4 hbwb4
  have s9 : Fx.Stp w1.heap.size w1 wb4 := Sb hbwb4
  have b9 := s9.below b1 b1.size b1.size
  refine sN (Wc (b := true) rfl (fun _ => Ws (Wl (Lv (.bool false) (x_assign rfl rfl) ?_))) (fun h => nomatch h))
  refine Ln (sN (Wr (sR (⟨.bool false, rV Try.results42 (by exact rfl), ?_⟩))))
  have m2 : decide (1 ≤ v.seq) = true := decide_eq_true (by omega)
  have m3 : decide (v.seq < 1099511627776) = true := decide_eq_true (by omega)
  have m4 : decide (v.deps (v.o - 1).toNat = v.seq - 1) = false := decide_eq_false (by rw [show (v.o - 1).toNat = a by omega]; exact c28)
  exact ⟨congrArg (fun q => Ending.returned (Value.bool q)) (Eq.symm (by unfold mayE; rw [c6, m2, m3, m4]; try rfl)), b9⟩
 rw [Bool.not_eq_true] at c6
 refine Fx.Qt.call (v := .bool false) (by rfl) (fun v1 hv1 => rC (args := [.int .i64 (v.o)]) rfl rfl Try.func58 rfl rfl) rfl (fun v1 hv1 => (v_region v.o _).mono fun e v2 h => ⟨by rw [h.1, c6], by rw [h.2]; exact hv1⟩) ?_
 refine Qv (.bool true) (fun v1 hv1 => Fx.x_notT rfl rfl) (Qv (.bool true) (fun v1 hv1 => x_move rfl rfl) (Qs (by rfl) rfl (Qs (by rfl) rfl (Qs (by rfl) rfl (Qv (.bool true) (fun v1 hv1 => x_pickT rfl rfl rfl) (Qv (.bool true) (fun v1 hv1 => x_move rfl rfl) (Qs (by rfl) rfl (Qs (by rfl) rfl (Qs (by rfl) rfl (Qv (.bool true) (fun v1 hv1 => x_pickT rfl rfl rfl) (Qv (.bool true) (fun v1 hv1 => x_move rfl rfl) (Qs (by rfl) rfl (Qs (by rfl) rfl (Qs (by rfl) rfl (Qs (by rfl) rfl (Qs (by rfl) rfl (Qs (by rfl) rfl (Qs (by rfl) rfl (Qs (by rfl) rfl (Qs (by rfl) rfl (Qs (by rfl) rfl (Qv (.bool true) (fun v1 hv1 => x_pickT rfl rfl rfl) (Fx.Qt.nil ?_)))))))))))))))))))))))
 intro wb5 hbwb5
 have s10 : Fx.Stp w1.heap.size w1 wb5 := Sb hbwb5
 have b10 := s10.below b1 b1.size b1.size
 refine sN (Wc (b := true) rfl (fun _ => Ws (Wl (Lv (.bool false) (x_assign rfl rfl) ?_))) (fun h => nomatch h))
 refine Ln (sN (Wr (sR (⟨.bool false, rV Try.results42 (by exact rfl), ?_⟩))))
 exact ⟨congrArg (fun q => Ending.returned (Value.bool q)) (Eq.symm (by unfold mayE; rw [c6]; try rfl)), b10⟩
namespace Rt
def hasB (K : Nat → Int) (o seq : Int) : Bool := regE o && decide (0 < seq) && decide (seq ≤ K (o - 1).toNat)
theorem leAll_iff {a b : Nat → Int} : leAll a b = true ↔ ∀ i, i < 6 → Fx.rv .u64 (fun p => mx6 (a p) (b p)) i = Fx.rv .u64 b i := by
  unfold leAll
  rw [List.all_eq_true]
  have e : ∀ i, Fx.rv .u64 (fun p => mx6 (a p) (b p)) i = Fx.rv .u64 b i ↔ a i ≤ b i := fun i => by
    show Value.int .u64 (mx6 (a i) (b i)) = .int .u64 (b i) ↔ _
    simp only [Value.int.injEq, true_and]; unfold mx6; split <;> omega
  constructor
  · intro h i hi; have := h i (List.mem_range.2 hi); rw [e]; exact of_decide_eq_true this
  intro h i hi; have := h i (List.mem_range.1 hi); rw [e] at this; exact decide_eq_true this
def Kr (K : Nat → Int) : Prop := ∀ i, i < 6 → U64r (K i)
theorem Kr.kd {K : Nat → Int} (h : Kr K) : Fx.Kd (List.replicate 6 (some .u64)) (Fx.rv .u64 K) := Fx.kd_rv fun i hi => Fx.wfu64 (h i hi)
theorem Kr.mx {K L : Nat → Int} (h : Kr K) (h2 : Kr L) : Kr (fun p => mx6 (K p) (L p)) := fun i hi => by
  have q1 := h i hi; have q2 := h2 i hi; show U64r (mx6 (K i) (L i)); unfold mx6; split <;> assumption
end Rt
theorem g_join2 {w : World} {g : Nat} {T : TypeId} {x : Nat → Value} (D K : Nat → Int) (h : Fx.Blk w g (2 * 6) x T) (e : x = vx (V2 D K)) :
    Calls Try.prog 36 #[.slice (some ⟨g, 0, none⟩) 2 2] w fun e w' => e = .returned (.agg (Fx.varr 6 (Fx.rv .u64 fun p => mx6 (D p) (K p)))) ∧ Below w.heap.size w w' :=
  g_join (some ⟨g, 0, none⟩) 2 2 (V2 D K) w (by omega) (fun _ => ⟨Nat.le_refl _, g, 0, rfl, (h.to e).cel⟩)
theorem v_vreg (n : Int) (w : World) :
    Calls Try.prog 83 #[.int .i64 (n)] w fun e w' => e = .returned (.bool (regE n)) ∧ w' = w := by
 refine Fx.enter Try.func83 rfl (n := 9) rfl (by rfl) ?_
 refine Ws (Wl (Lv (.bool false) (x_assign rfl rfl) (Ln (sN (Ws (Wl (Lv (.int .i64 (n)) (x_move rfl rfl) ?_)))))))
 by_cases c4 : 1 ≤ n
 ·refine Lv (.bool true) (Fx.x_geqT rfl rfl rfl c4) (Lv (.bool true) (x_move rfl rfl) (Lv (.int .i64 (n)) (x_move rfl rfl) ?_))
  by_cases c7 : n ≤ 6
  ·refine Lv (.bool true) (Fx.x_leqT rfl rfl rfl c7) (Lv (.bool true) (x_pickT rfl rfl rfl) (Lv (.bool true) (x_assign rfl rfl) (Ln (sN (Wr (⟨.bool true, rV Try.results83 (by exact rfl), ?_⟩))))))
   exact ⟨congrArg (fun q => Ending.returned (Value.bool q)) (by simp only [regE]; first | (symm; simp; omega) | (symm; simp; done)), rfl⟩
  refine Lv (.bool false) (x_leqF rfl rfl rfl c7) (Lv (.bool false) (x_pickT rfl rfl rfl) (Lv (.bool false) (x_assign rfl rfl) (Ln (sN (Wr (⟨.bool false, rV Try.results83 (by exact rfl), ?_⟩))))))
  exact ⟨congrArg (fun q => Ending.returned (Value.bool q)) (by simp only [regE]; first | (symm; simp; omega) | (symm; simp; done)), rfl⟩
 refine Lv (.bool false) (Fx.x_geqF rfl rfl rfl c4) (Lv (.bool false) (x_move rfl rfl) (Lk (by rfl) rfl (Lk (by rfl) rfl (Lv (.bool false) (x_pickF rfl rfl rfl) (Lv (.bool false) (x_assign rfl rfl) (Ln (sN (Wr (⟨.bool false, rV Try.results83 (by exact rfl), ?_⟩)))))))))
 exact ⟨congrArg (fun q => Ending.returned (Value.bool q)) (by simp only [regE]; first | (symm; simp; omega) | (symm; simp; done)), rfl⟩
theorem v_has (K : Nat → Int) (o q : Int) (w : World) :
    Calls Try.prog 61 #[.agg (Fx.varr 6 (Fx.rv .u64 K)), .int .i64 (o), .int .u64 (q)] w fun e w' => e = .returned (.bool (hasB K o q)) ∧ Below w.heap.size w w' := by
 refine Fx.enter Try.func61 rfl (n := 21) rfl (by rfl) ?_
 refine Ws (Wl (Fx.L.box (m := 6) (y := Fx.rv .u64 K) (by rfl) rfl rfl (Fx.cells_agg _ _) rfl fun g1 w1 eg1 m1 s1 z1 => ?_))
 have b1 := s1.below (Below.refl w.heap.size w) (Below.refl w.heap.size w).size (Below.refl w.heap.size w).size
 have lg1 : w.heap.size ≤ g1 := by rw [eg1]; exact (Below.refl w.heap.size w).size
 have tg1 : g1 < w1.heap.size := m1.lt
 clear eg1
 refine Lv (.bool false) (x_assign rfl rfl) (Ln (sN (Ws (Wl (Lv (.int .i64 (o)) (x_move rfl rfl) ?_)))))
 by_cases c8 : (regE o) = true
 ·obtain ⟨a, ha, ea⟩ := regE_nat c8
  refine Fx.L.call (by rfl) (rC (args := [.int .i64 (o)]) rfl rfl Try.func83 rfl rfl) rfl ((v_vreg o _).mono ?_)
  rintro e v1 ⟨he, hv1⟩
  subst v1
  refine ⟨.bool true, by rw [he, c8], ?_⟩
  clear he
  refine Lv (.bool true) (x_move rfl rfl) (Lv (.int .u64 (q)) (x_move rfl rfl) ?_)
  by_cases c11 : 0 < q
  ·refine Lv (.bool true) (Fx.x_gtrT rfl rfl rfl c11) (Lv (.bool true) (x_pickT rfl rfl rfl) (Lv (.bool true) (x_move rfl rfl) (Lv (.int .i64 (o)) (x_move rfl rfl) (Lv (.int .i64 ((a : Int))) (Fx.x_sub rfl rfl rfl Fx.io) (Lv ((pf g1 a)) (x_index rfl rfl rfl Try.underlying32 (s := 1) (by kernel_rfl) (by omega) (by omega) (by omega)) (Lv (.int .u64 (K a)) (x_load1 (x := Fx.rv .u64 K) rfl rfl (by kernel_rfl) m1.cel (i := a) (by omega) (by omega) rfl) (Lv (.int .u64 (q)) (x_move rfl rfl) ?_)))))))
   by_cases c19 : q ≤ (K a)
   ·refine Lv (.bool true) (Fx.x_geqT rfl rfl rfl c19) (Lv (.bool true) (x_pickT rfl rfl rfl) (Lv (.bool true) (x_assign rfl rfl) (Ln (sN (Wr (⟨.bool true, rV Try.results61 (by exact rfl), ?_⟩))))))
    have m2 : decide (0 < q) = true := decide_eq_true c11
    have m3 : decide (q ≤ K (o - 1).toNat) = true := decide_eq_true (by rw [show (o - 1).toNat = a by omega]; exact c19)
    exact ⟨congrArg (fun q => Ending.returned (Value.bool q)) (Eq.symm (by unfold hasB; rw [c8, m2, m3]; try rfl)), b1⟩
   refine Lv (.bool false) (Fx.x_geqF rfl rfl rfl c19) (Lv (.bool false) (x_pickT rfl rfl rfl) (Lv (.bool false) (x_assign rfl rfl) (Ln (sN (Wr (⟨.bool false, rV Try.results61 (by exact rfl), ?_⟩))))))
   have m2 : decide (0 < q) = true := decide_eq_true c11
   have m3 : decide (q ≤ K (o - 1).toNat) = false := decide_eq_false (by rw [show (o - 1).toNat = a by omega]; exact c19)
   exact ⟨congrArg (fun q => Ending.returned (Value.bool q)) (Eq.symm (by unfold hasB; rw [c8, m2, m3]; try rfl)), b1⟩
  refine Lv (.bool false) (x_gtrF rfl rfl rfl c11) (Lv (.bool false) (x_pickT rfl rfl rfl) (Lv (.bool false) (x_move rfl rfl) (Lk (by rfl) rfl (Lk (by rfl) rfl (Lk (by rfl) rfl (Lk (by rfl) rfl (Lk (by rfl) rfl (Lk (by rfl) rfl (Lv (.bool false) (x_pickF rfl rfl rfl) (Lv (.bool false) (x_assign rfl rfl) (Ln (sN (Wr (⟨.bool false, rV Try.results61 (by exact rfl), ?_⟩))))))))))))))
  have m2 : decide (0 < q) = false := decide_eq_false c11
  exact ⟨congrArg (fun q => Ending.returned (Value.bool q)) (Eq.symm (by unfold hasB; rw [c8, m2]; try rfl)), b1⟩
 rw [Bool.not_eq_true] at c8
 refine Fx.L.call (by rfl) (rC (args := [.int .i64 (o)]) rfl rfl Try.func83 rfl rfl) rfl ((v_vreg o _).mono ?_)
 rintro e v1 ⟨he, hv1⟩
 subst v1
 refine ⟨.bool false, by rw [he, c8], ?_⟩
 clear he
 refine Lv (.bool false) (x_move rfl rfl) (Lk (by rfl) rfl (Lk (by rfl) rfl (Lv (.bool false) (x_pickF rfl rfl rfl) (Lv (.bool false) (x_move rfl rfl) (Lk (by rfl) rfl (Lk (by rfl) rfl (Lk (by rfl) rfl (Lk (by rfl) rfl (Lk (by rfl) rfl (Lk (by rfl) rfl (Lv (.bool false) (x_pickF rfl rfl rfl) (Lv (.bool false) (x_assign rfl rfl) (Ln (sN (Wr (⟨.bool false, rV Try.results61 (by exact rfl), ?_⟩))))))))))))))))
 exact ⟨congrArg (fun q => Ending.returned (Value.bool q)) (Eq.symm (by unfold hasB; rw [c8]; try rfl)), b1⟩
theorem v_less (D K : Nat → Int) (w : World) (hD : Kr D) (hK : Kr K) :
    Calls Try.prog 62 #[.agg (Fx.varr 6 (Fx.rv .u64 D)), .agg (Fx.varr 6 (Fx.rv .u64 K))] w fun e w' => e = .returned (.bool (leAll D K)) ∧ Below w.heap.size w w' := by
 refine Fx.enter Try.func62 rfl (n := 11) rfl (by rfl) ?_
 refine Ws (Wl (Fx.L.box (m := 6) (y := Fx.rv .u64 D) (by rfl) rfl rfl (Fx.cells_agg _ _) rfl fun g1 w1 eg1 m1 s1 z1 => ?_))
 have b1 := s1.below (Below.refl w.heap.size w) (Below.refl w.heap.size w).size (Below.refl w.heap.size w).size
 have lg1 : w.heap.size ≤ g1 := by rw [eg1]; exact (Below.refl w.heap.size w).size
 have tg1 : g1 < w1.heap.size := m1.lt
 clear eg1
 refine Fx.L.box (m := 6) (y := Fx.rv .u64 K) (by rfl) rfl rfl (Fx.cells_agg _ _) rfl fun g2 w2 eg2 m2 s2 z2 => ?_
 have m3 := m1.stp s2 m1.ne
 have b2 := s2.below b1 b1.size b1.size
 have lg2 : w.heap.size ≤ g2 := by rw [eg2]; exact b1.size
 have ng2m3 : g1 ≠ g2 := by rw [eg2]; exact Nat.ne_of_lt (m1.lt)
 have tg2 : g2 < w2.heap.size := m2.lt
 clear eg2
 refine Lv (.bool false) (x_assign rfl rfl) (Ln (sN (Ws ?_)))
 -- region 1 draws
 refine Fx.W.reord [0, 1, 4, 2, 3, 5, 6] [4, 4, 2, 2, 1, 0, 0] Fx.Mk Fx.Mk.refl Fx.Mk.trans (certs := [(2, 0, [0]), (3, 0, [2, 0]), (2, 1, [1]), (3, 1, [2, 1]), (3, 2, [2]), (5, 2, [3, 2]), (6, 2, [2]), (5, 3, [3]), (6, 3, [3])]) (by kernel_rfl) (by kernel_rfl) (by kernel_rfl) (by kernel_rfl) (by kernel_rfl) fun wt1 hbwt1 hzwt1 => ?_
 have s3 : Fx.Stp w2.heap.size w2 wt1 := Sb hbwt1
 have m4 := m3.stp s3 m3.ne
 have m5 := m2.stp s3 m2.ne
 have b3 := s3.below b2 b2.size b2.size
 refine Fx.R.s (.agg (Fx.varr 6 (Fx.rv .u64 D))) (x_loadA (x := Fx.rv .u64 D) (y := Fx.rv .u64 D) rfl rfl (by kernel_rfl) (by kernel_rfl) m4.cel (i := 0) (by omega) (by omega) (fun j _ => by rw [Nat.zero_add])) ?_
 refine Fx.R.s (.agg (Fx.varr 6 (Fx.rv .u64 K))) (x_loadA (x := Fx.rv .u64 K) (y := Fx.rv .u64 K) rfl rfl (by kernel_rfl) (by kernel_rfl) m5.cel (i := 0) (by omega) (by omega) (fun j _ => by rw [Nat.zero_add])) ?_
 refine Fx.R.read (v := .agg (Fx.varr 6 (Fx.rv .u64 K))) (by rfl) (by rfl) (Fx.Mk.refl _) (fun v1 hv1 => x_loadA (x := Fx.rv .u64 K) (y := Fx.rv .u64 K) rfl rfl (by kernel_rfl) (by kernel_rfl) (m5.cel.below hv1 (by have := m5.lt; omega)) (i := 0) (by omega) (by omega) (fun j _ => by rw [Nat.zero_add])) ?_
 refine Fx.R.make (by rfl) ?_
 refine Fx.L.bslice (vs := [(0, .agg (Fx.varr 6 (Fx.rv .u64 D))), (1, .agg (Fx.varr 6 (Fx.rv .u64 K)))]) (s := 6) (zc := Fx.rv .u64 (fun _ => 0)) (y := Fx.ovr (Fx.ovr (fun j => (Fx.rv .u64 (fun _ => 0)) (j % 6)) (0 * 6) 6 (Fx.rv .u64 D)) (1 * 6) 6 (Fx.rv .u64 K)) (by rfl) rfl rfl Try.underlying107 (by kernel_rfl) (by rfl) (by rfl) (by kernel_rfl) (by rw [Fx.fill_step (off := 0 * 6) (s := 6) (y := Fx.rv .u64 D) rfl (Fx.cells_agg _ _) (by rfl)]; rw [Fx.fill_step (off := 1 * 6) (s := 6) (y := Fx.rv .u64 K) rfl (Fx.cells_agg _ _) (by rfl)]; rfl) rfl fun g3 w3 eg3 m6 s4 z3 => ?_
 have b4 := s4.below b3 b3.size b3.size
 have lg3 : w.heap.size ≤ g3 := by rw [eg3]; exact b3.size
 have ng3m7 : g1 ≠ g3 := by rw [eg3]; exact Nat.ne_of_lt (m4.lt)
 have ng3m8 : g2 ≠ g3 := by rw [eg3]; exact Nat.ne_of_lt (m5.lt)
 have tg3 : g3 < w3.heap.size := m6.lt
 clear eg3
 refine Ln ⟨s4.old, ?_⟩
 refine Fx.R.make (by rfl) ?_
 refine Fx.L.call (by rfl) (rC (args := [.slice (some ⟨g3, 0, none⟩) (2) (2)]) rfl rfl Try.func36 rfl rfl) rfl ((g_join2 D K m6 (V2_eq D K)).mono ?_)
 rintro e w4 ⟨he, hb1⟩
 refine ⟨.agg (Fx.varr 6 (Fx.rv .u64 (fun p => mx6 (D p) (K p)))), by rw [he], ?_⟩
 clear he
 have s5 := Sb hb1
 have b5 := s5.below b4 b4.size b4.size
 refine Ln ⟨s5.old, ?_⟩
 by_cases c10 : ∀ i, i < 6 → (Fx.rv .u64 (fun p => mx6 (D p) (K p))) i = (Fx.rv .u64 K) i
 ·refine Rp (.bool true) (fun v1 => Fx.x_eqlA (n := 6) (ks := List.replicate 6 (some .u64)) (X := Fx.rv .u64 (fun p => mx6 (D p) (K p))) (Y := Fx.rv .u64 K) 12 true rfl rfl rfl (Fx.yesb c10) (hD.mx hK).kd hK.kd rfl (by kernel_rfl) (by kernel_rfl) (by kernel_rfl) (by kernel_rfl) (by kernel_rfl)) (Rp (.bool true) (fun v1 => x_assign rfl rfl) (Fx.R.nil (sN (Wr (⟨.bool true, rV Try.results62 (by exact rfl), ?_⟩)))))
  exact ⟨congrArg (fun q => Ending.returned (Value.bool q)) (Eq.symm (leAll_iff.2 c10)), b5⟩
 refine Rp (.bool false) (fun v1 => Fx.x_eqlA (n := 6) (ks := List.replicate 6 (some .u64)) (X := Fx.rv .u64 (fun p => mx6 (D p) (K p))) (Y := Fx.rv .u64 K) 12 false rfl rfl rfl (Fx.nob c10) (hD.mx hK).kd hK.kd rfl (by kernel_rfl) (by kernel_rfl) (by kernel_rfl) (by kernel_rfl) (by kernel_rfl)) (Rp (.bool false) (fun v1 => x_assign rfl rfl) (Fx.R.nil (sN (Wr (⟨.bool false, rV Try.results62 (by exact rfl), ?_⟩)))))
 exact ⟨congrArg (fun q => Ending.returned (Value.bool q)) (Eq.symm (Bool.eq_false_iff.2 (fun h => c10 (leAll_iff.1 h)))), b5⟩
theorem Rt.late_has {K : Nat → Int} {v : EvM} (h : mayE v = true) : lateE K v = hasB K v.o v.seq := by
  have h1 := may_reg h; have h2 := (may_seq h).1
  unfold lateE hasB; rw [h, h1, show decide (0 < v.seq) = true from decide_eq_true (by omega)]; rfl
theorem v_late (K : Nat → Int) (v : EvM) (w : World) (hv : EvWf v) :
    Calls Try.prog 43 #[.agg (Fx.varr 6 (Fx.rv .u64 K)), .agg (Fx.varr 14 (evY v))] w fun e w' => e = .returned (.bool (lateE K v)) ∧ Below w.heap.size w w' := by
 refine Fx.enter Try.func43 rfl (n := 15) rfl (by rfl) ?_
 refine Ws (Wl (Fx.L.box (m := 6) (y := Fx.rv .u64 K) (by rfl) rfl rfl (Fx.cells_agg _ _) rfl fun g1 w1 eg1 m1 s1 z1 => ?_))
 have b1 := s1.below (Below.refl w.heap.size w) (Below.refl w.heap.size w).size (Below.refl w.heap.size w).size
 have lg1 : w.heap.size ≤ g1 := by rw [eg1]; exact (Below.refl w.heap.size w).size
 have tg1 : g1 < w1.heap.size := m1.lt
 clear eg1
 refine Fx.L.box (m := 14) (y := evY v) (by rfl) rfl rfl (Fx.cells_agg _ _) rfl fun g2 w2 eg2 m2 s2 z2 => ?_
 have m3 := m1.stp s2 m1.ne
 have b2 := s2.below b1 b1.size b1.size
 have lg2 : w.heap.size ≤ g2 := by rw [eg2]; exact b1.size
 have ng2m3 : g1 ≠ g2 := by rw [eg2]; exact Nat.ne_of_lt (m1.lt)
 have tg2 : g2 < w2.heap.size := m2.lt
 clear eg2
 refine Lv (.bool false) (x_assign rfl rfl) (Ln (sN (Ws (Wl (Lv (.agg (Fx.varr 14 (evY v))) (x_loadA (x := evY v) (y := evY v) rfl rfl (by kernel_rfl) (by kernel_rfl) m2.cel (i := 0) (by omega) (by omega) (fun j _ => by rw [Nat.zero_add])) ?_)))))
 by_cases c6 : (mayE v) = true
 ·refine Fx.L.call (by rfl) (rC (args := [.agg (Fx.varr 14 (evY v))]) rfl rfl Try.func42 rfl rfl) rfl ((v_may v _ hv).mono ?_)
  rintro e w3 ⟨he, hb1⟩
  refine ⟨.bool true, by rw [he, c6], ?_⟩
  clear he
  have s3 := Sb hb1
  have m4 := m3.stp s3 m3.ne
  have m5 := m2.stp s3 m2.ne
  have b3 := s3.below b2 b2.size b2.size
  refine Lv (.bool true) (x_move rfl rfl) (Lv (.agg (Fx.varr 6 (Fx.rv .u64 K))) (x_loadA (x := Fx.rv .u64 K) (y := Fx.rv .u64 K) rfl rfl (by kernel_rfl) (by kernel_rfl) m4.cel (i := 0) (by omega) (by omega) (fun j _ => by rw [Nat.zero_add])) (Lv ((pt g2)) (x_field rfl rfl Try.underlying50 rfl (s := 1) (by kernel_rfl) rfl rfl) (Lv (.int .i64 (v.o)) (x_load1 (x := evY v) rfl rfl (by kernel_rfl) m5.cel (i := 0) (by omega) (by omega) rfl) (Lv ((pf g2 1)) (x_field rfl rfl Try.underlying50 rfl (s := 1) (by kernel_rfl) rfl (by show _ + 1 = _; omega)) (Lv (.int .u64 (v.seq)) (x_load1 (x := evY v) rfl rfl (by kernel_rfl) m5.cel (i := 1) (by omega) (by omega) rfl) ?_)))))
  by_cases c13 : (hasB K v.o v.seq) = true
  ·refine Fx.L.call (by rfl) (rC (args := [.agg (Fx.varr 6 (Fx.rv .u64 K)), .int .i64 (v.o), .int .u64 (v.seq)]) rfl rfl Try.func61 rfl rfl) rfl ((v_has K v.o v.seq _).mono ?_)
   rintro e w4 ⟨he, hb2⟩
   refine ⟨.bool true, by rw [he, c13], ?_⟩
   clear he
   have s4 := Sb hb2
   have b4 := s4.below b3 b3.size b3.size
   refine Lv (.bool true) (x_pickT rfl rfl rfl) (Lv (.bool true) (x_assign rfl rfl) (Ln (sN (Wr (⟨.bool true, rV Try.results43 (by exact rfl), ?_⟩)))))
   exact ⟨congrArg (fun q => Ending.returned (Value.bool q)) (Eq.symm ((late_has c6).trans c13)), b4⟩
  rw [Bool.not_eq_true] at c13
  refine Fx.L.call (by rfl) (rC (args := [.agg (Fx.varr 6 (Fx.rv .u64 K)), .int .i64 (v.o), .int .u64 (v.seq)]) rfl rfl Try.func61 rfl rfl) rfl ((v_has K v.o v.seq _).mono ?_)
  rintro e w5 ⟨he, hb3⟩
  refine ⟨.bool false, by rw [he, c13], ?_⟩
  clear he
  have s5 := Sb hb3
  have b5 := s5.below b3 b3.size b3.size
  refine Lv (.bool false) (x_pickT rfl rfl rfl) (Lv (.bool false) (x_assign rfl rfl) (Ln (sN (Wr (⟨.bool false, rV Try.results43 (by exact rfl), ?_⟩)))))
  exact ⟨congrArg (fun q => Ending.returned (Value.bool q)) (Eq.symm ((late_has c6).trans c13)), b5⟩
 rw [Bool.not_eq_true] at c6
 refine Fx.L.call (by rfl) (rC (args := [.agg (Fx.varr 14 (evY v))]) rfl rfl Try.func42 rfl rfl) rfl ((v_may v _ hv).mono ?_)
 rintro e w6 ⟨he, hb4⟩
 refine ⟨.bool false, by rw [he, c6], ?_⟩
 clear he
 have s6 := Sb hb4
 have b6 := s6.below b2 b2.size b2.size
 refine Lv (.bool false) (x_move rfl rfl) (Lk (by rfl) rfl (Lk (by rfl) rfl (Lk (by rfl) rfl (Lk (by rfl) rfl (Lk (by rfl) rfl (Lk (by rfl) rfl (Lv (.bool false) (x_pickF rfl rfl rfl) (Lv (.bool false) (x_assign rfl rfl) (Ln (sN (Wr (⟨.bool false, rV Try.results43 (by exact rfl), ?_⟩))))))))))))
 exact ⟨congrArg (fun q => Ending.returned (Value.bool q)) (Eq.symm (by unfold lateE; rw [c6]; rfl)), b6⟩
theorem v_ready (K : Nat → Int) (v : EvM) (w : World) (hv : EvWf v) (hK : Kr K) :
    Calls Try.prog 44 #[.agg (Fx.varr 6 (Fx.rv .u64 K)), .agg (Fx.varr 14 (evY v))] w fun e w' => e = .returned (.bool (readyE K v)) ∧ Below w.heap.size w w' := by
 refine Fx.enter Try.func44 rfl (n := 24) rfl (by rfl) ?_
 refine Ws (Wl (Fx.L.box (m := 6) (y := Fx.rv .u64 K) (by rfl) rfl rfl (Fx.cells_agg _ _) rfl fun g1 w1 eg1 m1 s1 z1 => ?_))
 have b1 := s1.below (Below.refl w.heap.size w) (Below.refl w.heap.size w).size (Below.refl w.heap.size w).size
 have lg1 : w.heap.size ≤ g1 := by rw [eg1]; exact (Below.refl w.heap.size w).size
 have tg1 : g1 < w1.heap.size := m1.lt
 clear eg1
 refine Fx.L.box (m := 14) (y := evY v) (by rfl) rfl rfl (Fx.cells_agg _ _) rfl fun g2 w2 eg2 m2 s2 z2 => ?_
 have m3 := m1.stp s2 m1.ne
 have b2 := s2.below b1 b1.size b1.size
 have lg2 : w.heap.size ≤ g2 := by rw [eg2]; exact b1.size
 have ng2m3 : g1 ≠ g2 := by rw [eg2]; exact Nat.ne_of_lt (m1.lt)
 have tg2 : g2 < w2.heap.size := m2.lt
 clear eg2
 refine Lv (.bool false) (x_assign rfl rfl) (Ln (sN (Ws ?_)))
 -- region 1 draws
 refine Fx.W.quiet (fun v1 => Below w2.heap.size w2 v1) (by kernel_rfl) (by kernel_rfl) (Below.refl _ _).drew ?_
 refine Qv (.agg (Fx.varr 14 (evY v))) (fun v1 hv1 => x_loadA (x := evY v) (y := evY v) rfl rfl (by kernel_rfl) (by kernel_rfl) (m2.cel.below hv1 (by have := m2.lt; omega)) (i := 0) (by omega) (by omega) (fun j _ => by rw [Nat.zero_add])) ?_
 by_cases c6 : (mayE v) = true
 ·obtain ⟨a, ha, ea⟩ := regE_nat (may_reg c6)
  have hs1 := may_seq c6
  refine Fx.Qt.call (v := .bool true) (by rfl) (fun v1 hv1 => rC (args := [.agg (Fx.varr 14 (evY v))]) rfl rfl Try.func42 rfl rfl) rfl (fun v1 hv1 => (v_may v _ hv).mono fun e v2 h => ⟨by rw [h.1, c6], bch hv1 h.2⟩) ?_
  refine Qv (.bool true) (fun v1 hv1 => x_move rfl rfl) (Qv ((pt g2)) (fun v1 hv1 => x_field rfl rfl Try.underlying50 rfl (s := 1) (by kernel_rfl) rfl rfl) (Qv (.int .i64 (v.o)) (fun v1 hv1 => x_load1 (x := evY v) rfl rfl (by kernel_rfl) (m2.cel.below hv1 (by have := m2.lt; omega)) (i := 0) (by omega) (by omega) rfl) (Qv (.int .i64 ((a : Int))) (fun v1 hv1 => Fx.x_sub rfl rfl rfl Fx.io) (Qv ((pf g1 a)) (fun v1 hv1 => x_index rfl rfl rfl Try.underlying32 (s := 1) (by kernel_rfl) (by omega) (by omega) (by omega)) (Qv (.int .u64 (K a)) (fun v1 hv1 => x_load1 (x := Fx.rv .u64 K) rfl rfl (by kernel_rfl) (m3.cel.below hv1 (by have := m3.lt; omega)) (i := a) (by omega) (by omega) rfl) (Qv ((pf g2 1)) (fun v1 hv1 => x_field rfl rfl Try.underlying50 rfl (s := 1) (by kernel_rfl) rfl (by show _ + 1 = _; omega)) (Qv (.int .u64 (v.seq)) (fun v1 hv1 => x_load1 (x := evY v) rfl rfl (by kernel_rfl) (m2.cel.below hv1 (by have := m2.lt; omega)) (i := 1) (by omega) (by omega) rfl) (Qv (.int .u64 (v.seq - 1)) (fun v1 hv1 => Fx.x_sub rfl rfl rfl (Fx.u64e (by omega) (by omega))) ?_))))))))
  by_cases c16 : (K a) = (v.seq - 1)
  ·refine Qv (.bool true) (fun v1 hv1 => x_eqlT rfl rfl rfl c16) (Qv (.bool true) (fun v1 hv1 => x_pickT rfl rfl rfl) (Qv (.bool true) (fun v1 hv1 => x_move rfl rfl) (Qv ((pf g2 2)) (fun v1 hv1 => x_field rfl rfl Try.underlying50 rfl (s := 6) (by kernel_rfl) rfl (by show _ + 2 = _; omega)) (Qv (.agg (Fx.varr 6 (Fx.rv .u64 v.deps))) (fun v1 hv1 => x_loadA (x := evY v) (y := Fx.rv .u64 v.deps) rfl rfl (by kernel_rfl) (by kernel_rfl) (m2.cel.below hv1 (by have := m2.lt; omega)) (i := 2) (by omega) (by omega) (fun j hj => evY_deps _ (by omega) hj)) (Qv (.agg (Fx.varr 6 (Fx.rv .u64 K))) (fun v1 hv1 => x_loadA (x := Fx.rv .u64 K) (y := Fx.rv .u64 K) rfl rfl (by kernel_rfl) (by kernel_rfl) (m3.cel.below hv1 (by have := m3.lt; omega)) (i := 0) (by omega) (by omega) (fun j _ => by rw [Nat.zero_add])) ?_)))))
   by_cases c22 : (leAll v.deps K) = true
   ·refine Fx.Qt.call (v := .bool true) (by rfl) (fun v1 hv1 => rC (args := [.agg (Fx.varr 6 (Fx.rv .u64 v.deps)), .agg (Fx.varr 6 (Fx.rv .u64 K))]) rfl rfl Try.func62 rfl rfl) rfl (fun v1 hv1 => (v_less v.deps K _ hv.deps hK).mono fun e v2 h => ⟨by rw [h.1, c22], bch hv1 h.2⟩) ?_
    refine Qv (.bool true) (fun v1 hv1 => x_pickT rfl rfl rfl) (Qv (.bool true) (fun v1 hv1 => x_assign rfl rfl) (Fx.Qt.nil ?_))
    intro wb1 hbwb1
    have s3 : Fx.Stp w2.heap.size w2 wb1 := Sb hbwb1
    have b3 := s3.below b2 b2.size b2.size
    refine sN (Wr (⟨.bool true, rV Try.results44 (by exact rfl), ?_⟩))
    have m2 : decide (v.seq = K (v.o - 1).toNat + 1) = true := decide_eq_true (by rw [show (v.o - 1).toNat = a by omega]; omega)
    exact ⟨congrArg (fun q => Ending.returned (Value.bool q)) (Eq.symm (by unfold readyE; rw [c6, m2, c22]; try rfl)), b3⟩
   rw [Bool.not_eq_true] at c22
   refine Fx.Qt.call (v := .bool false) (by rfl) (fun v1 hv1 => rC (args := [.agg (Fx.varr 6 (Fx.rv .u64 v.deps)), .agg (Fx.varr 6 (Fx.rv .u64 K))]) rfl rfl Try.func62 rfl rfl) rfl (fun v1 hv1 => (v_less v.deps K _ hv.deps hK).mono fun e v2 h => ⟨by rw [h.1, c22], bch hv1 h.2⟩) ?_
   refine Qv (.bool false) (fun v1 hv1 => x_pickT rfl rfl rfl) (Qv (.bool false) (fun v1 hv1 => x_assign rfl rfl) (Fx.Qt.nil ?_))
   intro wb2 hbwb2
   have s4 : Fx.Stp w2.heap.size w2 wb2 := Sb hbwb2
   have b4 := s4.below b2 b2.size b2.size
   refine sN (Wr (⟨.bool false, rV Try.results44 (by exact rfl), ?_⟩))
   have m2 : decide (v.seq = K (v.o - 1).toNat + 1) = true := decide_eq_true (by rw [show (v.o - 1).toNat = a by omega]; omega)
   exact ⟨congrArg (fun q => Ending.returned (Value.bool q)) (Eq.symm (by unfold readyE; rw [c6, m2, c22]; try rfl)), b4⟩
  refine Qv (.bool false) (fun v1 hv1 => x_eqlF rfl rfl rfl c16) (Qv (.bool false) (fun v1 hv1 => x_pickT rfl rfl rfl) (Qv (.bool false) (fun v1 hv1 => x_move rfl rfl) (Qs (by rfl) rfl (Qs (by rfl) rfl (Qs (by rfl) rfl (Qs (by rfl) rfl (Qv (.bool false) (fun v1 hv1 => x_pickF rfl rfl rfl) (Qv (.bool false) (fun v1 hv1 => x_assign rfl rfl) (Fx.Qt.nil ?_)))))))))
  intro wb3 hbwb3
  have s5 : Fx.Stp w2.heap.size w2 wb3 := Sb hbwb3
  have b5 := s5.below b2 b2.size b2.size
  refine sN (Wr (⟨.bool false, rV Try.results44 (by exact rfl), ?_⟩))
  have m2 : decide (v.seq = K (v.o - 1).toNat + 1) = false := decide_eq_false (by rw [show (v.o - 1).toNat = a by omega]; omega)
  exact ⟨congrArg (fun q => Ending.returned (Value.bool q)) (Eq.symm (by unfold readyE; rw [c6, m2]; try rfl)), b5⟩
 rw [Bool.not_eq_true] at c6
 refine Fx.Qt.call (v := .bool false) (by rfl) (fun v1 hv1 => rC (args := [.agg (Fx.varr 14 (evY v))]) rfl rfl Try.func42 rfl rfl) rfl (fun v1 hv1 => (v_may v _ hv).mono fun e v2 h => ⟨by rw [h.1, c6], bch hv1 h.2⟩) ?_
 refine Qv (.bool false) (fun v1 hv1 => x_move rfl rfl) (Qs (by rfl) rfl (Qs (by rfl) rfl (Qs (by rfl) rfl (Qs (by rfl) rfl (Qs (by rfl) rfl (Qs (by rfl) rfl (Qs (by rfl) rfl (Qs (by rfl) rfl (Qs (by rfl) rfl (Qv (.bool false) (fun v1 hv1 => x_pickF rfl rfl rfl) (Qv (.bool false) (fun v1 hv1 => x_move rfl rfl) (Qs (by rfl) rfl (Qs (by rfl) rfl (Qs (by rfl) rfl (Qs (by rfl) rfl (Qv (.bool false) (fun v1 hv1 => x_pickF rfl rfl rfl) (Qv (.bool false) (fun v1 hv1 => x_assign rfl rfl) (Fx.Qt.nil ?_))))))))))))))))))
 intro wb4 hbwb4
 have s6 : Fx.Stp w2.heap.size w2 wb4 := Sb hbwb4
 have b6 := s6.below b2 b2.size b2.size
 refine sN (Wr (⟨.bool false, rV Try.results44 (by exact rfl), ?_⟩))
 exact ⟨congrArg (fun q => Ending.returned (Value.bool q)) (Eq.symm (by unfold readyE; rw [c6]; try rfl)), b6⟩
namespace Rt
structure ItM where
  e : EvM
  tm : Int
def it0 : ItM := ⟨⟨0, 0, fun _ => 0, 0, 0, 0, 0, 0, 0⟩, 0⟩
def itY (x : ItM) : Nat → Value := fun p => if p < 14 then evY x.e p else .int .u64 x.tm
theorem itY_ev (x : ItM) {p : Nat} {v : Value} (hp : p < 14) (e : evY x.e p = v) : itY x p = v := by unfold itY; rw [if_pos hp]; exact e
theorem itY_one (x : ItM) (j : Nat) : (itY x j).oneCell' = true := by
  unfold itY; split
  · rename_i h; exact evY_one _ j h
  rfl
def itX (l : List ItM) : Nat → Value := Fx.flat 15 fun q => itY (l.getD q it0)
def plc (x : ItM) (s : Int) : Int := if x.e.seq ≤ s then -1 else 1
structure PlaceR (l : List ItM) (s : Int) (r : Nat) : Prop where
  le : r ≤ l.length
  lo : ∀ q, q < r → (l.getD q it0).e.seq ≤ s
  hi : ∀ q, r ≤ q → q < l.length → s < (l.getD q it0).e.seq
def SeqUp (l : List ItM) : Prop := ∀ q r, q < r → r < l.length → (l.getD q it0).e.seq < (l.getD r it0).e.seq
theorem pl_lo {l : List ItM} {s : Int} {i h : Nat} (hs : SeqUp l) (hh : h < l.length) (hp : plc (l.getD h it0) s < 0) : ∀ q, q < h + 1 → (l.getD q it0).e.seq ≤ s := fun q hq => by
  have h1 : (l.getD h it0).e.seq ≤ s := by unfold plc at hp; split at hp <;> omega
  rcases Nat.lt_or_ge q h with h2 | h2
  · have := hs q h h2 hh; omega
  · rw [show q = h by omega]; exact h1
theorem pl_hi {l : List ItM} {s : Int} {h : Nat} (hs : SeqUp l) (hh : h < l.length) (hp : ¬ plc (l.getD h it0) s < 0) : ∀ q, h ≤ q → q < l.length → s < (l.getD q it0).e.seq := fun q hq hl => by
  have h1 : s < (l.getD h it0).e.seq := by unfold plc at hp; split at hp <;> omega
  rcases Nat.lt_or_ge h q with h2 | h2
  · have := hs h q h2 hl; omega
  · rw [show q = h by omega]; exact h1
end Rt
theorem v_plc (x : ItM) (s : Int) (w : World) :
    Calls Try.prog 68 #[.agg (Fx.varr 15 (itY x)), .int .u64 (s)] w fun e w' => e = .returned (.int .i64 (plc x s)) ∧ Below w.heap.size w w' := by
 refine Fx.enter Try.func68 rfl (n := 10) rfl (by rfl) ?_
 refine Ws (Wl (Fx.L.box (m := 15) (y := itY x) (by rfl) rfl rfl (Fx.cells_agg _ _) rfl fun g1 w1 eg1 m1 s1 z1 => ?_))
 have b1 := s1.below (Below.refl w.heap.size w) (Below.refl w.heap.size w).size (Below.refl w.heap.size w).size
 have lg1 : w.heap.size ≤ g1 := by rw [eg1]; exact (Below.refl w.heap.size w).size
 have tg1 : g1 < w1.heap.size := m1.lt
 clear eg1
 refine Lv (.int .i64 (0)) (x_assign rfl rfl) (Ln (sN (Ws (Ws (Wl (Lv ((pt g1)) (x_field rfl rfl Try.underlying106 rfl (s := 14) (by kernel_rfl) rfl rfl) (Lv ((pf g1 1)) (x_field rfl rfl Try.underlying50 rfl (s := 1) (by kernel_rfl) rfl (by show _ + 1 = _; omega)) (Lv (.int .u64 (x.e.seq)) (x_load1 (x := itY x) rfl rfl (by kernel_rfl) m1.cel (i := 1) (by omega) (by omega) (itY_ev x (by omega) rfl)) (Lv (.int .u64 (s)) (x_move rfl rfl) ?_)))))))))
 by_cases c9 : x.e.seq ≤ s
 ·refine Lv (.bool true) (Fx.x_leqT rfl rfl rfl c9) (Ln (sN (Wc (b := true) rfl (fun _ => Ws (Wl (Lv (.int .i64 (-1)) (x_assign rfl rfl) ?_))) (fun h => nomatch h))))
  refine Ln (sN (Wr (sR (⟨.int .i64 (-1), rV Try.results68 (by exact rfl), ?_⟩))))
  exact ⟨congrArg (fun q => Ending.returned (Value.int .i64 q)) (Eq.symm (by unfold plc; exact if_pos c9)), b1⟩
 refine Lv (.bool false) (x_leqF rfl rfl rfl c9) (Ln (sN (Wc (b := false) rfl (fun h => nomatch h) (fun _ => Wk (sN (Ws (Wl (Lv (.int .i64 (1)) (x_assign rfl rfl) (Ln (sN (Wr (⟨.int .i64 (1), rV Try.results68 (by exact rfl), ?_⟩))))))))))))
 exact ⟨congrArg (fun q => Ending.returned (Value.int .i64 q)) (Eq.symm (by unfold plc; exact if_neg c9)), b1⟩
theorem v_search (l : List ItM) (a : Option Addr) (cap : Nat) (s : Int) (w : World) (hn : l.length ≤ 1000000) (hs : SeqUp l) (hl : Fx.Arr w a l.length 15 (itX l)) :
    Calls Try.prog 67 #[.slice a (l.length) (cap), .int .u64 (s), .func (.func 68) #[] #[]] w fun e w' => ∃ r : Nat, e = .returned (.tuple #[.int .i64 (r : Int), .bool false]) ∧ PlaceR l s r ∧ Below w.heap.size w w' := by
 refine Fx.enter Try.func67 rfl (n := 49) rfl (by rfl) ?_
 refine Ws (Wl (Lv (.int .i64 (0)) (x_assign rfl rfl) (Lv (.bool false) (x_assign rfl rfl) (Ln (sN (Ws (Wl (Lv (.slice a (l.length) (cap)) (x_move rfl rfl) (Lv (.int .i64 ((l.length : Int))) (x_len rfl rfl rfl (by kernel_rfl)) (Lv (.int .i64 ((l.length : Int))) (x_assign rfl rfl) (Ln (sN (Ws (Wl (Lv (.int .i64 ((l.length : Int))) (x_move rfl rfl) (Lv (.int .i64 (0)) (x_assign rfl rfl) (Lv (.int .i64 ((l.length : Int))) (x_assign rfl rfl) (Ln (sN (Ws (Fx.W.block (Fx.W.loop (fun f w_ => ∃ i : Nat, ∃ j : Nat, i ≤ j ∧ j ≤ l.length ∧ (∀ q, q < i → (l.getD q it0).e.seq ≤ s) ∧ (∀ q, j ≤ q → q < l.length → s < (l.getD q it0).e.seq) ∧ f 0 = .slice a (l.length) (cap) ∧ f 1 = .int .u64 (s) ∧ f 2 = .func (.func 68) #[] #[] ∧ f 8 = .int .i64 (((l.length : Nat) : Int)) ∧ f 9 = .int .i64 ((i : Int)) ∧ f 10 = .int .i64 ((j : Int)) ∧ Below w.heap.size w w_) (fun f _ => ((intOf (f 10)).toNat - (intOf (f 9)).toNat)) ⟨0, l.length, by omega, by omega, (fun _ h => absurd h (by omega)), (fun _ h1 h2 => absurd h2 (by omega)), (by rfl), Fx.ic, (by rfl), Fx.ic, Fx.ic, Fx.ic, (Below.refl w.heap.size w)⟩ ?_))))))))))))))))))))))
 rintro f1 w1 ⟨i, j, hij, hj, hlo, hhi, h1, h2, h3, h4, h5, h6, b1⟩
 refine Ws (Ws (Wl (Lv (.int .i64 ((i : Int))) (x_move rfl h5) (Lv (.int .i64 ((j : Int))) (x_move rfl h6) ?_))))
 by_cases c17 : (i : Int) < (j : Int)
 ·refine Lv (.bool true) (Fx.x_lssT rfl rfl rfl c17) (Ln (sN (Wc (b := true) rfl (fun _ => Wk (sN (Fx.W.block (Ws ?_)))) (fun h => nomatch h))))
  obtain ⟨h, eh⟩ : ∃ h : Nat, h = (i + j) / 2 := ⟨_, rfl⟩
  refine Wl (Lv (.int .i64 ((i : Int))) (x_move rfl h5) (Lv (.int .i64 ((j : Int))) (x_move rfl h6) (Lv (.int .i64 ((i : Int) + (j : Int))) (Fx.x_add rfl rfl rfl Fx.io) (Lv (.int .u64 ((i : Int) + (j : Int))) (x_conv rfl rfl (by kernel_rfl) Try.underlying136 (Fx.u64e (by omega) rfl)) (Lv (.int .u64 (((i : Int) + (j : Int)) / 2)) (Fx.x_shr (b := 1) (q := 2) rfl rfl rfl (by decide) (by decide)) (Lv (.int .i64 ((h : Int))) (x_conv rfl rfl (by kernel_rfl) Try.underlying3 Fx.io) (Lv (.int .i64 ((h : Int))) (x_assign rfl rfl) (Ln (sN (Ws (Wl (Lv (.func (.func 68) #[] #[]) (x_move rfl h3) (Lv (.slice a (l.length) (cap)) (x_move rfl h1) (Lv (.int .i64 ((h : Int))) (x_move rfl rfl) ?_))))))))))))))
  obtain ⟨bq1, oq1, eq1, m1⟩ := (hl.up b1 rfl) (by omega)
  have lbq1 : bq1 < w1.heap.size := m1.lt (by omega)
  refine Lv ((pf bq1 (15 * h + oq1))) (x_indexS rfl (rfl.trans (congrArg (fun q => Value.slice q (l.length) (cap)) eq1)) rfl Try.underlying97 (s := 15) (by kernel_rfl) (by omega) (by omega) (by omega)) (Lv (.agg (Fx.varr 15 (itY ((l).getD h it0)))) (x_loadA (x := itX l) (y := itY ((l).getD h it0)) rfl rfl (by kernel_rfl) (by kernel_rfl) m1 (i := 15 * h) (by omega) (by omega) (fun jq hjq => Fx.flat_at (k := h) (by omega) hjq)) (Lv (.int .u64 (s)) (x_move rfl h2) (Fx.L.call (by rfl) (Fx.r_clo (args := [.agg (Fx.varr 15 (itY ((l).getD h it0))), .int .u64 (s)]) rfl rfl rfl (all := #[.agg (Fx.varr 15 (itY ((l).getD h it0))), .int .u64 (s)]) rfl Try.func68 rfl rfl) rfl ((v_plc ((l).getD h it0) s _).mono ?_))))
  rintro e w2 ⟨he, hb1⟩
  refine ⟨.int .i64 (plc ((l).getD h it0) s), by rw [he], ?_⟩
  clear he
  have s1 := Sb hb1
  have b2 := s1.below b1 b1.size b1.size
  by_cases c31 : (plc ((l).getD h it0) s) < 0
  ·refine Lv (.bool true) (Fx.x_lssT rfl rfl rfl c31) (Ln (sN (Wc (b := true) rfl (fun _ => Wl (Lv (.int .i64 ((h : Int))) (x_move rfl rfl) ?_)) (fun h => nomatch h))))
   refine Lv (.int .i64 ((h : Int) + 1)) (Fx.x_add rfl rfl rfl Fx.io) (Lv (.int .i64 ((h : Int) + 1)) (x_assign rfl rfl) (Ln (Fx.blkN (Fx.lpN ⟨h + 1, j, by omega, by omega, (pl_lo (i := i) hs (by omega) c31), hhi, h1, (h2.trans Fx.ic), h3, (h4.trans Fx.ic), Fx.ic, (h6.trans Fx.ic), b2⟩ ?_))))
   show ((intOf (f1 10)).toNat - (intOf ((.int .i64 ((h : Int) + 1)))).toNat) < _
   simp only [h6, h5, intOf]; omega
  refine Lv (.bool false) (Fx.x_lssF rfl rfl rfl c31) (Ln (sN (Wc (b := false) rfl (fun h => nomatch h) (fun _ => Wl (Lv (.int .i64 ((h : Int))) (x_move rfl rfl) (Lv (.int .i64 ((h : Int))) (x_assign rfl rfl) (Ln (Fx.blkN (Fx.lpN ⟨i, h, by omega, by omega, hlo, (pl_hi hs (by omega) c31), h1, (h2.trans Fx.ic), h3, (h4.trans Fx.ic), (h5.trans Fx.ic), Fx.ic, b2⟩ ?_)))))))))
  show ((intOf ((.int .i64 ((h : Int))))).toNat - (intOf (f1 9)).toNat) < _
  simp only [h6, h5, intOf]; omega
 refine Lv (.bool false) (Fx.x_lssF rfl rfl rfl c17) (Ln (sN (Wc (b := false) rfl (fun h => nomatch h) (fun _ => Fx.W.exit (Fx.seqX (Fx.lpX (Fx.blkX (sN (Ws (Wl (Lv (.int .i64 ((i : Int))) (x_move rfl h5) (Lv (.int .i64 ((i : Int))) (x_move rfl h5) (Lv (.int .i64 (((l.length : Nat) : Int))) (x_move rfl h4) ?_)))))))))))))
 by_cases c38 : (i : Int) < ((l.length : Nat) : Int)
 ·refine Lv (.bool true) (Fx.x_lssT rfl rfl rfl c38) (Lv (.bool true) (x_move rfl rfl) (Lv (.func (.func 68) #[] #[]) (x_move rfl h3) (Lv (.slice a (l.length) (cap)) (x_move rfl h1) (Lv (.int .i64 ((i : Int))) (x_move rfl h5) ?_))))
  obtain ⟨bq2, oq2, eq2, m3⟩ := (hl.up b1 rfl) (by omega)
  have lbq2 : bq2 < w1.heap.size := m3.lt (by omega)
  refine Lv ((pf bq2 (15 * i + oq2))) (x_indexS rfl (rfl.trans (congrArg (fun q => Value.slice q (l.length) (cap)) eq2)) rfl Try.underlying97 (s := 15) (by kernel_rfl) (by omega) (by omega) (by omega)) (Lv (.agg (Fx.varr 15 (itY ((l).getD i it0)))) (x_loadA (x := itX l) (y := itY ((l).getD i it0)) rfl rfl (by kernel_rfl) (by kernel_rfl) m3 (i := 15 * i) (by omega) (by omega) (fun jq hjq => Fx.flat_at (k := i) (by omega) hjq)) (Lv (.int .u64 (s)) (x_move rfl h2) (Fx.L.call (by rfl) (Fx.r_clo (args := [.agg (Fx.varr 15 (itY ((l).getD i it0))), .int .u64 (s)]) rfl rfl rfl (all := #[.agg (Fx.varr 15 (itY ((l).getD i it0))), .int .u64 (s)]) rfl Try.func68 rfl rfl) rfl ((v_plc ((l).getD i it0) s _).mono ?_))))
  rintro e w3 ⟨he, hb2⟩
  refine ⟨.int .i64 (plc ((l).getD i it0) s), by rw [he], ?_⟩
  clear he
  have s2 := Sb hb2
  have b3 := s2.below b1 b1.size b1.size
  refine Lv (.bool false) (x_eqlF rfl rfl rfl (by unfold plc; split <;> omega)) (Lv (.bool false) (x_pickT rfl rfl rfl) (Lv (.int .i64 ((i : Int))) (x_assign rfl rfl) (Lv (.bool false) (x_assign rfl rfl) (Ln (sN (Wr (⟨.tuple #[.int .i64 ((i : Int)), .bool false], Fx.retV2 Try.results67 (by exact rfl) (by exact rfl), ?_⟩)))))))
  exact ⟨i, rfl, ⟨by omega, hlo, fun q h1 h2 => hhi q (by omega) h2⟩, b3⟩
 refine Lv (.bool false) (Fx.x_lssF rfl rfl rfl c38) (Lv (.bool false) (x_move rfl rfl) (Lk (by rfl) rfl (Lk (by rfl) rfl (Lk (by rfl) rfl (Lk (by rfl) rfl (Lk (by rfl) rfl (Lk (by rfl) rfl (Lk (by rfl) rfl (Lk (by rfl) rfl (Lv (.bool false) (x_pickF rfl rfl rfl) (Lv (.int .i64 ((i : Int))) (x_assign rfl rfl) (Lv (.bool false) (x_assign rfl rfl) (Ln (sN (Wr (⟨.tuple #[.int .i64 ((i : Int)), .bool false], Fx.retV2 Try.results67 (by exact rfl) (by exact rfl), ?_⟩))))))))))))))))
 exact ⟨i, rfl, ⟨by omega, hlo, fun q h1 h2 => hhi q (by omega) h2⟩, b1⟩
theorem v_place (l : List ItM) (a : Option Addr) (cap : Nat) (s : Int) (w : World) (hn : l.length ≤ 1000000) (hs : SeqUp l) (hl : Fx.Arr w a l.length 15 (itX l)) :
    Calls Try.prog 49 #[.slice a (l.length) (cap), .int .u64 (s)] w fun e w' => ∃ r : Nat, e = .returned (.int .i64 (r : Int)) ∧ PlaceR l s r ∧ Below w.heap.size w w' := by
 refine Fx.enter Try.func49 rfl (n := 14) rfl (by rfl) ?_
 refine Ws (Wl (Lv (.int .i64 (0)) (x_assign rfl rfl) (Ln (sN (Ws (Wl (Lv (.slice a (l.length) (cap)) (x_move rfl rfl) (Lv (.int .u64 (s)) (x_move rfl rfl) (Fx.L.call (by rfl) (rC (args := [.slice a (l.length) (cap), .int .u64 (s), .func (.func 68) #[] #[]]) rfl rfl Try.func67 rfl rfl) rfl ((v_search l a cap s _ hn hs (hl.up (Below.refl w.heap.size w) rfl)).mono ?_))))))))))
 rintro e w1 ⟨r, he, hr, hb1⟩
 refine ⟨_, he, ?_⟩
 clear he
 have s1 := Sb hb1
 have b1 := s1.below (Below.refl w.heap.size w) (Below.refl w.heap.size w).size (Below.refl w.heap.size w).size
 refine Lv (.tuple #[.int .i64 ((r : Int)), .bool false]) (x_move rfl rfl) (Lv (.int .i64 ((r : Int))) (Fx.x_extract rfl rfl rfl) (Lv (.bool false) (Fx.x_extract rfl rfl rfl) (Lv (.int .i64 ((r : Int))) (x_assign rfl rfl) (Lv (.bool false) (x_assign rfl rfl) (Ln (sN (Ws (Wl (Lv (.int .i64 ((r : Int))) (x_move rfl rfl) (Lv (.int .i64 ((r : Int))) (x_assign rfl rfl) (Ln (sN (Wr (⟨.int .i64 ((r : Int)), rV Try.results49 (by exact rfl), ?_⟩))))))))))))))
 exact ⟨r, rfl, hr, b1⟩
def Two (w0 w : World) (g1 c1 : Nat) (l1 : List Int) (g2 c2 : Nat) (l2 : List Int) : Prop :=
  w.ownsRow w0.heap.size 2 1 (.slice (some ⟨g1, 0, none⟩) l1.length c1) l1.length (l1.map (Value.int .i64)) ∧
  w.ownsRow w0.heap.size 2 1 (.slice (some ⟨g2, 0, none⟩) l2.length c2) l2.length (l2.map (Value.int .i64)) ∧ g1 ≠ g2 ∧ Below w0.heap.size w0 w
theorem Two.alloc {w0 w : World} {g1 c1 : Nat} {l1 : List Int} {g2 c2 : Nat} {l2 : List Int} (h : Two w0 w g1 c1 l1 g2 c2 l2) (o : Obj) : Two w0 (w.alloc o) g1 c1 l1 g2 c2 l2 :=
  ⟨World.ownsRow.alloc h.1 o, World.ownsRow.alloc h.2.1 o, h.2.2.1, h.2.2.2.alloc h.2.2.2.size o⟩
theorem Two.drew {w0 w : World} {g1 c1 : Nat} {l1 : List Int} {g2 c2 : Nat} {l2 : List Int} (h : Two w0 w g1 c1 l1 g2 c2 l2) : Two w0 w.drew g1 c1 l1 g2 c2 l2 :=
  ⟨h.1, h.2.1, h.2.2.1, h.2.2.2.drew⟩
theorem Two.swap {w0 w : World} {g1 c1 : Nat} {l1 : List Int} {g2 c2 : Nat} {l2 : List Int} (h : Two w0 w g1 c1 l1 g2 c2 l2) : Two w0 w g2 c2 l2 g1 c1 l1 := ⟨h.2.1, h.1, h.2.2.1.symm, h.2.2.2⟩
theorem Two.start (w : World) (v a b : Int) : Two w ((w.alloc (.cells #[.int .i64 v] 2)).alloc (.cells #[.int .i64 a, .int .i64 b] 2)) w.heap.size 1 [v] (w.heap.size + 1) 2 [a, b] := by
  refine ⟨World.ownsRow.alloc (World.ownsRow_lit w #[.int .i64 v] 1 (Nat.le_refl _) (by unfold maxLen; omega) rfl) _, ?_, by omega, ((Below.refl _ _).alloc (Nat.le_refl _) _).alloc (by simp) _⟩
  have := World.ownsRow_lit (base := w.heap.size) (e := 2) (size := 1) (w.alloc (.cells #[.int .i64 v] 2)) #[.int .i64 a, .int .i64 b] 2 (by simp) (by unfold maxLen; omega) rfl
  simpa using this
theorem Two.at {w0 w : World} {g1 c1 : Nat} {l1 : List Int} {g2 c2 : Nat} {l2 : List Int} (h : Two w0 w g1 c1 l1 g2 c2 l2) {b : Nat} {x : Nat → Int} {T : TypeId} {fz : Nat × Nat} (hb : w0.heap[b]? = some (.cells (iarr .i64 54 x) T fz)) (i : Nat) (hi : i < 54) :
    w.cell? ⟨b, i, none⟩ = some (.int .i64 (x i)) :=
  iarr_cell ((h.2.2.2.block b (Array.getElem?_eq_some_iff.1 hb).1).trans hb) i hi
theorem Two.lt {w0 w : World} {g1 c1 : Nat} {l1 : List Int} {g2 c2 : Nat} {l2 : List Int} (h : Two w0 w g1 c1 l1 g2 c2 l2) {b : Nat} (hb : b < w0.heap.size) : b < w.heap.size := Nat.lt_of_lt_of_le hb h.2.2.2.size
namespace Rt
def mayK (x : Nat → Int) (k : Nat) : Bool := (localM x k).2 && decide (0 ≤ (localM x k).1) && decide (F x k ≤ C x k) && (R x k k == 0)
def mayN (x : Nat → Int) : Nat → Bool
  | 0 => true
  | k + 1 => mayN x k && mayK x k
def gs (x : Nat → Int) : List Int := [x 0, x 1, x 2, x 3, x 4, x 5]
def may (x : Nat → Int) : Bool := mayN x 6 && ((sumI (gs x)).2 && decide ((sumI (gs x)).1 ≤ 1125899906842624))
end Rt
namespace Rt
def regB (i : Int) : Bool := decide (1 ≤ i) && decide (i ≤ 6)
def localV (x : Nat → Int) (i : Int) : Int := if regB i && may x then (localM x (i.toNat - 1)).1 else 0
theorem okN_bd {n : Int} (h : okN n = true) : 0 ≤ n ∧ n ≤ 1125899906842624 := by unfold okN at h; simpa using h
theorem sumI_ok {l : List Int} (h : (sumI l).2 = true) : sumOk l = true := by
  unfold sumI at h
  by_cases h2 : sumOk l = true
  · exact h2
  rw [if_neg h2] at h; exact absurd h (by decide)
theorem sumOk_mem {l : List Int} (h : sumOk l = true) {n : Int} (hn : n ∈ l) : 0 ≤ n ∧ n ≤ 1125899906842624 := by
  unfold sumOk at h
  rw [List.all_eq_true] at h
  exact okN_bd (h n hn)
theorem outs_mem (x : Nat → Int) (k : Nat) : ∀ j, C x k ∈ outs x k j
  | 0 => by simp [outs]
  | j + 1 => by rw [outs]; exact List.mem_append_left _ (outs_mem x k j)
theorem outs_memR (x : Nat → Int) (k i : Nat) : ∀ j, i < j → R x k i ∈ outs x k j
  | 0, h => absurd h (by omega)
  | j + 1, h => by
    rw [outs]
    by_cases e : i = j
    · subst e; simp
    · exact List.mem_append_left _ (outs_memR x k i j (by omega))
theorem ins_mem (x : Nat → Int) (k : Nat) : ∀ j, G x k ∈ ins x k j ∧ F x k ∈ ins x k j
  | 0 => by simp [ins]
  | j + 1 => by rw [ins]; exact ⟨List.mem_append_left _ (ins_mem x k j).1, List.mem_append_left _ (ins_mem x k j).2⟩
theorem mayN_at (x : Nat → Int) (k : Nat) : ∀ n, mayN x n = true → k < n → mayK x k = true
  | 0, _, hk => absurd hk (by omega)
  | n + 1, h, hk => by
    rw [mayN, Bool.and_eq_true] at h
    by_cases e : k = n
    · subst e; exact h.2
    · exact mayN_at x k n h.1 (by omega)
theorem may_mayK {x : Nat → Int} (h : may x = true) (k : Nat) (hk : k < 6) : mayK x k = true := by
  unfold may at h; rw [Bool.and_eq_true] at h; exact mayN_at x k 6 h.1 hk
structure KOk (x : Nat → Int) (k : Nat) : Prop where
  g : 0 ≤ G x k ∧ G x k ≤ 1125899906842624
  c : 0 ≤ C x k ∧ C x k ≤ 1125899906842624
  f : 0 ≤ F x k ∧ F x k ≤ 1125899906842624
  fc : F x k ≤ C x k
  r : ∀ i, i < 6 → 0 ≤ R x k i ∧ R x k i ≤ 1125899906842624
  l : 0 ≤ (localM x k).1
  rkk : R x k k = 0
  l2 : (localM x k).2 = true
theorem mayK_ok {x : Nat → Int} {k : Nat} (h : mayK x k = true) : KOk x k := by
  unfold mayK at h
  rw [Bool.and_eq_true, Bool.and_eq_true, Bool.and_eq_true] at h
  obtain ⟨⟨⟨h1, h2⟩, h3⟩, h4⟩ := h
  have h1' := h1
  unfold localM at h1
  rw [Bool.and_eq_true] at h1
  have ho := sumI_ok h1.1
  have hi := sumI_ok h1.2
  exact ⟨sumOk_mem hi (ins_mem x k 6).1, sumOk_mem ho (outs_mem x k 6), sumOk_mem hi (ins_mem x k 6).2, by simpa using h3, fun i hi' => sumOk_mem ho (outs_memR x k i 6 hi'), by simpa using h2, by simpa using h4, h1'⟩
theorem may_ok {x : Nat → Int} (h : may x = true) (k : Nat) (hk : k < 6) : KOk x k := mayK_ok (may_mayK h k hk)
end Rt
namespace Rt
def zero : Nat → Int := fun _ => 0
def turnedM (x : Nat → Int) (n : Int) (is : Bool) (em : Int) (off : Nat) : (Nat → Int) × Int :=
  if may x && decide (1 ≤ n) && decide (n ≤ 1125899906842624) then
    if is then
      if em = 0 then
        if x off + n ≤ 1125899906842624 then (upd x off (x off + n), 0) else (zero, 6)
      else (zero, em)
    else (zero, 10)
  else (zero, 1)
end Rt
section
namespace Rt
def own (p : Nat) : Nat := if p < 6 then p else if p < 12 then p - 6 else if p < 18 then p - 12 else (p - 18) / 6
end Rt
def JS (w0 : World) (g : Nat) (x y : Nat → Int) (w' : World) : Prop := w'.heap[g]? = some (.cells (iarr .i64 54 x) 121 (0, 0)) ∧ w'.heap[g + 1]? = some (.cells (iarr .i64 54 y) 121 (0, 0)) ∧ w'.heap[g + 1 + 1]? = some (.cells (iarr .i64 54 zero) 121 (0, 0)) ∧ Below g w0 w'
theorem JS.drew {w0 w : World} {g : Nat} {x y : Nat → Int} (h : JS w0 g x y w) : JS w0 g x y w.drew := ⟨h.1, h.2.1, h.2.2.1, bN h.2.2.2 1⟩
theorem JS.a {w0 w : World} {g : Nat} {x y : Nat → Int} (h : JS w0 g x y w) (i : Nat) (hi : i < 54) : w.cell? ⟨g, i, none⟩ = some (.int .i64 (x i)) := iarr_cell h.1 i hi
theorem JS.b {w0 w : World} {g : Nat} {x y : Nat → Int} (h : JS w0 g x y w) (i : Nat) (hi : i < 54) : w.cell? ⟨g + 1, i, none⟩ = some (.int .i64 (y i)) := iarr_cell h.2.1 i hi
theorem JS.set {w0 w : World} {g : Nat} {x y : Nat → Int} (h : JS w0 g x y w) (i : Nat) (v : Int) : JS w0 g (upd x i v) y (w.setCell ⟨g, i, none⟩ (.int .i64 v)) := by
  obtain ⟨a, b, z, c⟩ := h
  refine ⟨?_, ?_, ?_, ?_⟩
  · rw [heap_setCell_same _ _ _ _ _ _ a, iarr_set]
  · rw [heap_setCell_other _ _ _ _ (by simp)]; exact b
  · rw [heap_setCell_other _ _ _ _ (by simp; omega)]; exact z
  exact c.setCell (Nat.le_refl _) _
theorem JS.congr {w0 w : World} {g : Nat} {x y x' : Nat → Int} (h : JS w0 g x y w) (hx : ∀ i, i < 54 → x i = x' i) : JS w0 g x' y w := by
  unfold JS at *; rw [← iarr_congr hx]; exact h
def JSb (w0 : World) (g : Nat) (x y : Nat → Int) (b : Bool) (w' : World) : Prop := ∃ x', JS w0 g x' y w' ∧ (b = false → x' = x)
theorem JSb.a {w0 w : World} {g : Nat} {x y : Nat → Int} (h : JSb w0 g x y false w) (i : Nat) (hi : i < 54) : w.cell? ⟨g, i, none⟩ = some (.int .i64 (x i)) := by
  obtain ⟨x', h, e⟩ := h
  rw [← e rfl]; exact h.a i hi
attribute [local irreducible] Oper.wp wpList Code.wp
end
section
namespace Rt
def takeE (x : Nat → Int) (i n : Int) : Int := if decide (localV x i < n) then 11 else 0
def takeM (x : Nat → Int) (i n : Int) : (Nat → Int) × Int := turnedM x n (regB i) (takeE x i n) (6 + (i.toNat - 1))
end Rt
attribute [local irreducible] Oper.wp wpList Code.wp
end
section
namespace Rt
def freeE (x : Nat → Int) (i n : Int) : Int := if decide (C x (i.toNat - 1) - F x (i.toNat - 1) < n) then 12 else 0
def freeM (x : Nat → Int) (i n : Int) : (Nat → Int) × Int := turnedM x n (regB i) (freeE x i n) (12 + (i.toNat - 1))
end Rt
attribute [local irreducible] Oper.wp wpList Code.wp
end
namespace Rt
def moveE (x : Nat → Int) (i j n : Int) : Int := if i = j then 1 else if decide (localV x i < n) then 11 else 0
def moveO (i j : Int) : Nat := 18 + (i.toNat - 1) * 6 + (j.toNat - 1)
def moveM (x : Nat → Int) (i j n : Int) : (Nat → Int) × Int := turnedM x n (regB i && regB j) (moveE x i j n) (moveO i j)
end Rt
section
def RS3 (x : Nat → Int) (g : Nat) (i j n : Int) (w' : World) : Prop := w'.heap[g]? = some (.cells (iarr .i64 54 x) 121 (0, 0)) ∧ w'.cell? ⟨g + 1, 0, none⟩ = some (.int .i64 i) ∧ w'.cell? ⟨g + 1 + 1, 0, none⟩ = some (.int .i64 j) ∧ w'.cell? ⟨g + 1 + 1 + 1, 0, none⟩ = some (.int .i64 n)
theorem RS3.up {x : Nat → Int} {g : Nat} {i j n : Int} {w w' : World} (h : RS3 x g i j n w) (hb : Below w.heap.size w w') : RS3 x g i j n w' := by
  obtain ⟨a, b, c, d⟩ := h
  exact ⟨(hb.block _ (Array.getElem?_eq_some_iff.1 a).1).trans a, (hb.cell (p := ⟨g + 1, 0, none⟩) (block_lt_of_cell b)).trans b, (hb.cell (p := ⟨g + 1 + 1, 0, none⟩) (block_lt_of_cell c)).trans c, (hb.cell (p := ⟨g + 1 + 1 + 1, 0, none⟩) (block_lt_of_cell d)).trans d⟩
theorem RS3.row {x : Nat → Int} {g : Nat} {i j n : Int} {w : World} (h : RS3 x g i j n w) (cs : Array Value) : RS3 x g i j n (w.setRow (g + 1 + 1 + 1 + 1) cs) := by
  obtain ⟨a, b, c, d⟩ := h
  exact ⟨(setRow_other _ _ _ _ (by omega)).trans a, (World.cell?_of_block (setRow_other _ _ _ _ (by show g + 1 ≠ _; omega))).trans b, (World.cell?_of_block (setRow_other _ _ _ _ (by show g + 1 + 1 ≠ _; omega))).trans c, (World.cell?_of_block (setRow_other _ _ _ _ (by show g + 1 + 1 + 1 ≠ _; omega))).trans d⟩
attribute [local irreducible] Oper.wp wpList Code.wp
end
end Go.Proofs.Ytleajegppehbdaa
namespace Go.Proofs.Ytleajegppehbdaa
open Go.RowKit
namespace Rt
def L (x : Nat → Int) (k : Nat) : Int := G x k + F x k + R x 0 k + R x 1 k + R x 2 k + R x 3 k + R x 4 k + R x 5 k - C x k - R x k 0 - R x k 1 - R x k 2 - R x k 3 - R x k 4 - R x k 5
def Ent (x : Nat → Int) : Prop := ∀ p, p < 54 → 0 ≤ x p ∧ x p ≤ 1125899906842624
def All (x : Nat → Int) : Prop := ∀ k, k < 6 → 0 ≤ L x k ∧ F x k ≤ C x k ∧ R x k k = 0
def gSum (x : Nat → Int) : Int := G x 0 + G x 1 + G x 2 + G x 3 + G x 4 + G x 5
theorem sumI_eq {l : List Int} (h : sumOk l = true) : sumI l = (l.sum, true) := by unfold sumI; rw [if_pos h]
theorem Ent.outs {x : Nat → Int} (h : Ent x) (k : Nat) (hk : k < 6) : sumOk (outs x k 6) = true := by
  have e := fun j (hj : j < 6) => h (18 + k * 6 + j) (by omega)
  have c := h (6 + k) (by omega)
  unfold sumOk
  rw [List.all_eq_true]
  intro n hn
  have : n = x (6 + k) ∨ n = x (18 + k * 6 + 0) ∨ n = x (18 + k * 6 + 1) ∨ n = x (18 + k * 6 + 2) ∨ n = x (18 + k * 6 + 3) ∨ n = x (18 + k * 6 + 4) ∨ n = x (18 + k * 6 + 5) := by
    simpa [Rt.outs, C, R, or_assoc] using hn
  unfold okN
  rw [Bool.and_eq_true, decide_eq_true_eq, decide_eq_true_eq]
  rcases this with h | h | h | h | h | h | h <;> subst h
  · exact c
  all_goals exact e _ (by omega)
theorem Ent.ins {x : Nat → Int} (h : Ent x) (k : Nat) (hk : k < 6) : sumOk (ins x k 6) = true := by
  have e := fun j (hj : j < 6) => h (18 + j * 6 + k) (by omega)
  have c := h k (by omega)
  have f := h (12 + k) (by omega)
  unfold sumOk
  rw [List.all_eq_true]
  intro n hn
  have : n = x k ∨ n = x (12 + k) ∨ n = x (18 + 0 * 6 + k) ∨ n = x (18 + 1 * 6 + k) ∨ n = x (18 + 2 * 6 + k) ∨ n = x (18 + 3 * 6 + k) ∨ n = x (18 + 4 * 6 + k) ∨ n = x (18 + 5 * 6 + k) := by
    simpa [Rt.ins, G, F, R, or_assoc] using hn
  unfold okN
  rw [Bool.and_eq_true, decide_eq_true_eq, decide_eq_true_eq]
  rcases this with h | h | h | h | h | h | h | h <;> subst h
  · exact c
  · exact f
  all_goals exact e _ (by omega)
theorem outs_sum (x : Nat → Int) (k : Nat) : (Rt.outs x k 6).sum = C x k + R x k 0 + R x k 1 + R x k 2 + R x k 3 + R x k 4 + R x k 5 := by simp [Rt.outs]; omega
theorem ins_sum (x : Nat → Int) (k : Nat) : (Rt.ins x k 6).sum = G x k + F x k + R x 0 k + R x 1 k + R x 2 k + R x 3 k + R x 4 k + R x 5 k := by simp [Rt.ins]; omega
theorem localM_eq {x : Nat → Int} (h : Ent x) (k : Nat) (hk : k < 6) : localM x k = (L x k, true) := by
  unfold localM
  rw [sumI_eq (h.outs k hk), sumI_eq (h.ins k hk), outs_sum, ins_sum]
  unfold L
  refine Prod.ext ?_ rfl
  dsimp only
  omega
theorem may_ent {x : Nat → Int} (h : may x = true) : Ent x := by
  intro p hp
  by_cases h1 : p < 6
  · exact (may_ok h p h1).g
  by_cases h2 : p < 12
  · have := (may_ok h (p - 6) (by omega)).c
    unfold C at this; rwa [show 6 + (p - 6) = p by omega] at this
  by_cases h3 : p < 18
  · have := (may_ok h (p - 12) (by omega)).f
    unfold F at this; rwa [show 12 + (p - 12) = p by omega] at this
  have := (may_ok h ((p - 18) / 6) (by omega)).r ((p - 18) % 6) (by omega)
  unfold R at this; rwa [show 18 + (p - 18) / 6 * 6 + (p - 18) % 6 = p by omega] at this
theorem gs_ok {x : Nat → Int} (h : Ent x) : sumOk (gs x) = true := by
  unfold sumOk
  rw [List.all_eq_true]
  intro n hn
  have : n = x 0 ∨ n = x 1 ∨ n = x 2 ∨ n = x 3 ∨ n = x 4 ∨ n = x 5 := by simpa [gs, or_assoc] using hn
  unfold okN
  rw [Bool.and_eq_true, decide_eq_true_eq, decide_eq_true_eq]
  rcases this with e | e | e | e | e | e <;> subst e <;> exact h _ (by omega)
theorem gs_sum (x : Nat → Int) : (gs x).sum = gSum x := by simp [gs, gSum, G]; omega
theorem may_iff (x : Nat → Int) : may x = true ↔ Ent x ∧ All x ∧ gSum x ≤ 1125899906842624 := by
  constructor
  · intro h
    have he := may_ent h
    refine ⟨he, fun k hk => ?_, ?_⟩
    · have o := may_ok h k hk
      have := o.l
      rw [localM_eq he k hk] at this
      exact ⟨this, o.fc, o.rkk⟩
    unfold may at h
    rw [Bool.and_eq_true, Bool.and_eq_true, sumI_eq (gs_ok he), gs_sum] at h
    simpa using h.2.2
  rintro ⟨he, ha, hg⟩
  have hk : ∀ k, k < 6 → mayK x k = true := by
    intro k hk
    obtain ⟨a, b, c⟩ := ha k hk
    unfold mayK
    rw [localM_eq he k hk]
    simp only [Bool.and_eq_true, decide_eq_true_eq, beq_iff_eq]
    exact ⟨⟨⟨trivial, a⟩, b⟩, c⟩
  have hn : ∀ n, n ≤ 6 → mayN x n = true := by
    intro n
    induction n with
    | zero => intro _; rfl
    | succ n ih => intro hn; rw [show mayN x (n + 1) = (mayN x n && mayK x n) from rfl, ih (by omega), hk n (by omega)]; rfl
  unfold may
  rw [hn 6 (by omega), sumI_eq (gs_ok he), gs_sum, decide_eq_true hg]
  rfl
theorem localV_L {x : Nat → Int} (h : may x = true) (k : Nat) (hk : k < 6) : localV x ((k : Int) + 1) = L x k := by
  unfold localV
  rw [h, Bool.and_true, if_pos (by unfold regB; simp; omega), show ((k : Int) + 1).toNat - 1 = k by omega, localM_eq (may_ent h) k hk]
def uSum (x : Nat → Int) : Int := (C x 0 - F x 0) + (C x 1 - F x 1) + (C x 2 - F x 2) + (C x 3 - F x 3) + (C x 4 - F x 4) + (C x 5 - F x 5)
theorem R_upd (x : Nat → Int) (i j : Nat) (hi : i < 6) (hj : j < 6) (d : Int) (a b : Nat) (ha : a < 6) (hb : b < 6) :
    R (upd x (18 + i * 6 + j) (x (18 + i * 6 + j) + d)) a b = R x a b + (if a = i then if b = j then d else 0 else 0) := by
  unfold R upd
  by_cases h1 : a = i
  · by_cases h2 : b = j
    · subst h1 h2; simp
    rw [if_neg (by omega), if_pos h1, if_neg h2]; omega
  rw [if_neg (by omega), if_neg h1]; omega
theorem L_move (x : Nat → Int) (i j : Nat) (hi : i < 6) (hj : j < 6) (d : Int) (k : Nat) (hk : k < 6) :
    L (upd x (18 + i * 6 + j) (x (18 + i * 6 + j) + d)) k = L x k + (if k = j then d else 0) - (if k = i then d else 0) := by
  have hG : G (upd x (18 + i * 6 + j) (x (18 + i * 6 + j) + d)) k = G x k := upd_other _ _ _ _ (by omega)
  have hC : C (upd x (18 + i * 6 + j) (x (18 + i * 6 + j) + d)) k = C x k := upd_other _ _ _ _ (by omega)
  have hF : F (upd x (18 + i * 6 + j) (x (18 + i * 6 + j) + d)) k = F x k := upd_other _ _ _ _ (by omega)
  unfold L
  rw [hG, hC, hF, R_upd x i j hi hj d 0 k (by omega) hk, R_upd x i j hi hj d 1 k (by omega) hk, R_upd x i j hi hj d 2 k (by omega) hk, R_upd x i j hi hj d 3 k (by omega) hk, R_upd x i j hi hj d 4 k (by omega) hk, R_upd x i j hi hj d 5 k (by omega) hk,
    R_upd x i j hi hj d k 0 hk (by omega), R_upd x i j hi hj d k 1 hk (by omega), R_upd x i j hi hj d k 2 hk (by omega), R_upd x i j hi hj d k 3 hk (by omega), R_upd x i j hi hj d k 4 hk (by omega), R_upd x i j hi hj d k 5 hk (by omega)]
  have e1 : (if 0 = i then if k = j then d else 0 else 0) + (if 1 = i then if k = j then d else 0 else 0) + (if 2 = i then if k = j then d else 0 else 0) + (if 3 = i then if k = j then d else 0 else 0) + (if 4 = i then if k = j then d else 0 else 0) + (if 5 = i then if k = j then d else 0 else 0) = (if k = j then d else 0) := by
    have : i = 0 ∨ i = 1 ∨ i = 2 ∨ i = 3 ∨ i = 4 ∨ i = 5 := by omega
    rcases this with h | h | h | h | h | h <;> subst h <;> simp
  have e2 : (if k = i then if 0 = j then d else 0 else 0) + (if k = i then if 1 = j then d else 0 else 0) + (if k = i then if 2 = j then d else 0 else 0) + (if k = i then if 3 = j then d else 0 else 0) + (if k = i then if 4 = j then d else 0 else 0) + (if k = i then if 5 = j then d else 0 else 0) = (if k = i then d else 0) := by
    have : j = 0 ∨ j = 1 ∨ j = 2 ∨ j = 3 ∨ j = 4 ∨ j = 5 := by omega
    rcases this with h | h | h | h | h | h <;> subst h <;> simp
  generalize (if 0 = i then if k = j then d else 0 else 0) = a0 at *
  generalize (if 1 = i then if k = j then d else 0 else 0) = a1 at *
  generalize (if 2 = i then if k = j then d else 0 else 0) = a2 at *
  generalize (if 3 = i then if k = j then d else 0 else 0) = a3 at *
  generalize (if 4 = i then if k = j then d else 0 else 0) = a4 at *
  generalize (if 5 = i then if k = j then d else 0 else 0) = a5 at *
  generalize (if k = i then if 0 = j then d else 0 else 0) = b0 at *
  generalize (if k = i then if 1 = j then d else 0 else 0) = b1 at *
  generalize (if k = i then if 2 = j then d else 0 else 0) = b2 at *
  generalize (if k = i then if 3 = j then d else 0 else 0) = b3 at *
  generalize (if k = i then if 4 = j then d else 0 else 0) = b4 at *
  generalize (if k = i then if 5 = j then d else 0 else 0) = b5 at *
  rw [← e1, ← e2]
  omega
end Rt
end Go.Proofs.Ytleajegppehbdaa
namespace Go.Proofs.Ytleajegppehbdaa
open Go.RowKit Rt
open Fx (x_move x_assign x_field x_load1 x_pickF x_pickT x_nil x_conv x_indexS x_index x_leqF x_loadA x_len x_gtrF x_build x_eqlF x_eqlT Lv sN Ln Ws Qv Wl Rp Wc Qs Wr Sb Lk Wk rC rV sR)
structure StM where
  inn : Nat → Bool
  left : Nat → Bool
  known : Nat → Int
  na : Option Addr
  nn : Nat
  nc : Nat
  ga : Option Addr
  gn : Nat
  gc : Nat
def stY (s : StM) : Nat → Value := fun p => if p < 6 then .bool (s.inn p) else if p < 12 then .bool (s.left (p - 6)) else if p < 18 then .int .u64 (s.known (p - 12)) else if p = 18 then .slice s.na s.nn s.nc else .slice s.ga s.gn s.gc
theorem stY_in (s : StM) {p : Nat} (h : p < 6) : stY s p = .bool (s.inn p) := by unfold stY; rw [if_pos h]
theorem stY_left (s : StM) {p q : Nat} (h : p < 6) (e : q = p + 6) : stY s q = .bool (s.left p) := by subst e; unfold stY; rw [if_neg (by omega), if_pos (by omega), Nat.add_sub_cancel]
theorem stY_known (s : StM) {p q : Nat} (h : p < 6) (e : q = p + 12) : stY s q = .int .u64 (s.known p) := by subst e; unfold stY; rw [if_neg (by omega), if_neg (by omega), if_pos (by omega), Nat.add_sub_cancel]
def ndY (id par : Int) (R : Nat → Int) : Nat → Value := fun p => if p = 0 then .int .u64 id else if p = 1 then .int .u64 par else .int .i64 (R (p - 2))
theorem ndY_row (id par : Int) (R : Nat → Int) (q : Nat) : ndY id par R (2 + q) = Fx.rv .i64 R q := by unfold ndY Fx.rv; rw [if_neg (by omega), if_neg (by omega), Nat.add_sub_cancel_left]
def Nds (w : World) (a : Option Addr) (n : Nat) (id par : Nat → Int) (R : Nat → Nat → Int) : Prop := ∀ k, k < n → ∃ b off, a = some ⟨b, off, none⟩ ∧ Fx.Cel w b (off + 56 * k) 56 (ndY (id k) (par k) (R k))
theorem Nds.below {w w' : World} {a : Option Addr} {n : Nat} {id par : Nat → Int} {R : Nat → Nat → Int} (h : Nds w a n id par R) (hb : Below w.heap.size w w') : Nds w' a n id par R := fun k hk => by
  obtain ⟨b, off, e, hc⟩ := h k hk
  exact ⟨b, off, e, hc.below hb (hc.lt (by omega))⟩
end Go.Proofs.Ytleajegppehbdaa
