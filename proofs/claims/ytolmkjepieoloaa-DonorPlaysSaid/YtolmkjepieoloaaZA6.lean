/-
  What the proof of the law rests on, part 6: walks of functions, and plain laws; each says its conditions itself.
-/
import Derived.Deep.Slices
import Derived.Lib.SmallJoins
import Derived.ChangeArms
import Derived.Test.YtolmkjepieoloaaZA5
namespace Go.Proofs.Ytolmkjepieoloaa
open Go.RowKit Rt
theorem Rt.apply_may {L : LdC} {v : EvM} (h : applyE L v = 0) : mayE v = true := by
  unfold applyE at h
  split at h; · cases h
  rename_i h1; simpa using h1
theorem WldO.mono {w : World} {B p T T' : Nat} {M : WM} (h : WldO w B p M T) (hT : T ≤ T') : WldO w B p M T' := { h with inv := fun i hi => (h.inv i hi).mono hT }
set_option maxRecDepth 20000 in
set_option maxHeartbeats 2000000 in
theorem l_do (M : WM) (B p T : Nat) (x : ActM) (w : World) (hW : WldO w B p M T) (hB : B ≤ w.heap.size) (hx : ActOk x) (han : M.an ≤ 60) (hT : T ≤ 890000) :
    Calls Try.prog 23 #[.pointer (some ⟨p, 0, none⟩), .agg (Fx.varr 9 (actY x))] w fun e w' => (∃ v, e = .returned v) ∧ ∃ M', WldO w' B p M' (T + 3660) ∧ M'.n = M.n ∧ M'.an ≤ M.an + 1 ∧ Below B w w' := by
 have hWc := hW.c
 have hWl := hW.l
 have hWa := hW.a
 have hWg := hW.g
 have hn1 := hW.n1
 have hn6 := hW.n6
 have hpB := hW.pB
 have lpp : p < w.heap.size := hWc.lt
 have hxw := hx.who
 have hxo := hx.other
 have hxk := hx.kind
 have hxn := hx.node
 have hxt := hx.dst
 have hxa := hx.amt
 have hxr := hx.req
 have hxf := hx.of
 refine Fx.enter Try.func23 rfl (n := 94) rfl (by rfl) ?_
 refine Fx.W.seq (Fx.W.list (Fx.L.box (m := 9) (y := actY x) (by rfl) rfl rfl (Fx.cells_agg _ _) rfl fun g1 w1 eg1 m1 s1 z1 => ?_))
 have m2 := hWc.stp s1 (Nat.ne_of_lt (hWc.lt))
 have m3 := hWl.stp s1 (hWl.notNew (Nat.le_refl _))
 have m4 := hWa.stp s1 (hWa.notNew (Nat.le_refl _))
 have m5 := hWg.up s1.old
 have m6 := hW.up s1.old
 have b1 := s1.below (Below.refl B w) (Nat.le_trans hB (Below.refl B w).size) (Nat.le_trans hB (Below.refl B w).size)
 have lg1 : w.heap.size ≤ g1 := by rw [eg1]; exact (Below.refl B w).size
 have ng1m2 : p ≠ g1 := by rw [eg1]; exact Nat.ne_of_lt (hWc.lt)
 have tg1 : g1 < w1.heap.size := m1.lt
 clear eg1
 refine Fx.L.new (m := 14) (y := fun zq => if zq < 1 then .int .i64 (0) else if zq < 8 then .int .u64 (0) else if zq < 9 then .int .u8 (0) else if zq < 10 then .int .u64 (0) else if zq < 12 then .int .i64 (0) else .int .u64 (0)) (by rfl) rfl (by kernel_rfl) rfl fun g2 w2 eg2 m7 s2 z2 => ?_
 have m8 := m2.stp s2 (Nat.ne_of_lt (m2.lt))
 have m9 := m3.stp s2 (m3.notNew (Nat.le_refl _))
 have m10 := m4.stp s2 (m4.notNew (Nat.le_refl _))
 have m11 := m5.up s2.old
 have m12 := m6.up s2.old
 have m13 := m1.stp s2 (Nat.ne_of_lt (m1.lt))
 have b2 := s2.below b1 (Nat.le_trans hB b1.size) (Nat.le_trans hB b1.size)
 have lg2 : w.heap.size ≤ g2 := by rw [eg2]; exact b1.size
 have ng2m8 : p ≠ g2 := by rw [eg2]; exact Nat.ne_of_lt (m2.lt)
 have ng2m10 : (.slice M.aa (M.an) (M.ac) : Value).ownBlock ≠ some g2 := by rw [eg2]; exact m4.notNew (Nat.le_refl _)
 have ng2m13 : g1 ≠ g2 := by rw [eg2]; exact Nat.ne_of_lt (m1.lt)
 have tg2 : g2 < w2.heap.size := m7.lt
 clear eg2
 refine Fx.L.nil (Fx.seqN (Fx.W.seq ?_))
 obtain ⟨o, eo⟩ : ∃ r, r = x.who % M.n := ⟨_, rfl⟩
 have ho : o < M.n := by rw [eo]; exact Nat.mod_lt _ (by omega)
 -- region 1 draws
 refine Fx.W.quiet (fun v1 => ∃ q, v1 = World.drewN w2 q) (by kernel_rfl) (by kernel_rfl) ⟨1, rfl⟩ ?_
 refine Fx.Qt.v (.pointer (some ⟨g1, 0, none⟩)) (fun v1 hv1 => Fx.x_field rfl rfl Try.underlying58 rfl (s := 1) (by kernel_rfl) rfl rfl) ?_
 refine Fx.Qt.v (.int .u8 ((x.who : Int))) (fun v1 hv1 => Fx.x_load1 (x := actY x) rfl rfl (by kernel_rfl) (by obtain ⟨qd, rfl⟩ := hv1; exact m13.cel) (i := 0) (by omega) (by omega) rfl) ?_
 refine Fx.Qt.v (.int .i64 ((x.who : Int))) (fun v1 hv1 => Fx.x_conv rfl rfl (by kernel_rfl) Try.underlying3 (Fx.i64e (by omega) rfl)) ?_
 refine Fx.Qt.v (.pointer (some ⟨p, 0, none⟩)) (fun v1 hv1 => Fx.x_move rfl rfl) ?_
 refine Fx.Qt.v (.pointer (some ⟨p, 0, none⟩)) (fun v1 hv1 => Fx.x_nil rfl rfl) ?_
 refine Fx.Qt.v (.pointer (some ⟨p, 0, none⟩)) (fun v1 hv1 => Fx.x_field rfl rfl Try.underlying63 rfl (s := 1) (by kernel_rfl) rfl rfl) ?_
 refine Fx.Qt.v (.slice M.la (M.n) (M.lc)) (fun v1 hv1 => Fx.x_load1 (x := wdY (.slice M.la (M.n) (M.lc)) (.slice M.aa (M.an) (M.ac))) rfl rfl (by kernel_rfl) (by obtain ⟨qd, rfl⟩ := hv1; exact m8.cel) (i := 0) (by omega) (by omega) rfl) ?_
 refine Fx.Qt.v (.int .i64 ((M.n : Int))) (fun v1 hv1 => Fx.x_len rfl rfl rfl (by kernel_rfl)) ?_
 refine Fx.Qt.v (.int .i64 ((o : Int))) (fun v1 hv1 => Fx.x_rem rfl rfl rfl (by omega) (remL eo)) ?_
 refine Fx.Qt.v (.int .i64 ((o : Int))) (fun v1 hv1 => Fx.x_assign rfl rfl) ?_
 refine Fx.Qt.nil ?_
 rintro _ ⟨qd, rfl⟩
 obtain ⟨wq1, ewq1⟩ : ∃ v1, v1 = World.drewN w2 qd := ⟨_, rfl⟩
 rw [← ewq1]
 have s3 : Fx.Stp w2.heap.size w2 wq1 := by rw [ewq1]; exact Fx.Stp.of_below (bdrN w2 qd)
 have m14 := m8.stp s3 (Nat.ne_of_lt (m8.lt))
 have m15 := m9.stp s3 (m9.notNew (Nat.le_refl _))
 have m16 := m10.stp s3 (m10.notNew (Nat.le_refl _))
 have m17 := m11.up s3.old
 have m18 := m12.up s3.old
 have m19 := m13.stp s3 (Nat.ne_of_lt (m13.lt))
 have m20 := m7.stp s3 (Nat.ne_of_lt (m7.lt))
 have b3 := s3.below b2 (Nat.le_trans hB b2.size) (Nat.le_trans hB b2.size)
 clear ewq1
 refine Fx.seqN (Fx.W.seq (Fx.W.seq (Fx.W.list (Fx.L.v (.pointer (some ⟨g1, 1, none⟩)) (Fx.x_field rfl rfl Try.underlying58 rfl (s := 1) (by kernel_rfl) rfl (by show _ + 1 = _; omega)) ?_))))
 by_cases c19 : x.meet = true
 ·refine Fx.L.v (.bool true) (Fx.x_load1 (x := actY x) rfl rfl (by kernel_rfl) m19.cel (i := 1) (by omega) (by omega) ((show _ = Value.bool x.meet from rfl).trans (congrArg Value.bool c19))) ?_
  refine Fx.L.nil (Fx.seqN (Fx.W.cond (b := true) rfl (fun _ => Fx.W.seq ?_) (fun h => nomatch h)))
  obtain ⟨r48, er48⟩ : ∃ r, r = x.other % M.n := ⟨_, rfl⟩
  have hr48 : r48 < M.n := by rw [er48]; exact Nat.mod_lt _ (by omega)
  have hLo1 := m17 r48 (by omega)
  have hLo1c := hLo1.c
  have hLo2 := m17 o (by omega)
  -- region 3 draws
  refine Fx.W.reord [0, 1, 2, 4, 5, 6, 7, 9, 12, 13, 14, 16, 17, 18, 20, 23, 24, 25, 3, 8, 10, 11, 15, 19, 21, 22, 26, 27, 28, 29, 30, 31, 32, 33, 34, 35, 36, 37] [0, 0, 0, 1, 0, 0, 0, 0, 4, 0, 0, 4, 0, 0, 0, 4, 0, 0, 0, 4, 0, 4, 0, 0, 0, 0, 4, 0, 0, 0, 4, 0, 0, 0, 4, 2, 0, 3] Fx.Mk Fx.Mk.refl Fx.Mk.trans (certs := [(37, 3, [3]), (35, 8, [11, 10, 8]), (37, 8, [8]), (35, 11, [11]), (37, 11, [11]), (35, 15, [15]), (37, 15, [15]), (35, 19, [34, 33, 32, 31, 30, 29, 19]), (37, 19, [19]), (35, 21, [34, 33, 32, 31, 30, 29, 28, 22, 21]), (37, 21, [21]), (35, 26, [34, 33, 32, 31, 30, 29, 28, 27, 26]), (37, 26, [26]), (35, 30, [34, 33, 32, 31, 30]), (37, 30, [30]), (35, 34, [34]), (37, 34, [34]), (36, 35, [35]), (37, 35, [35])]) (by kernel_rfl) (by kernel_rfl) (by kernel_rfl) (by kernel_rfl) (by kernel_rfl) fun wt1 hbwt1 hzwt1 => ?_
  have s4 : Fx.Stp wq1.heap.size wq1 wt1 := Fx.Stp.of_below hbwt1
  have m21 := m14.stp s4 (Nat.ne_of_lt (m14.lt))
  have m22 := m15.stp s4 (m15.notNew (Nat.le_refl _))
  have m23 := m16.stp s4 (m16.notNew (Nat.le_refl _))
  have m24 := m17.up s4.old
  have m25 := m19.stp s4 (Nat.ne_of_lt (m19.lt))
  have m26 := m20.stp s4 (Nat.ne_of_lt (m20.lt))
  have m27 := hLo1c.stp s4 (Nat.ne_of_lt (hLo1c.lt))
  have m28 := hLo2.up s4.old
  have b4 := s4.below b3 (Nat.le_trans hB b3.size) (Nat.le_trans hB b3.size)
  refine Fx.R.p (.pointer (some ⟨p, 0, none⟩)) (fun v1 => Fx.x_move rfl rfl) ?_
  refine Fx.R.p (.pointer (some ⟨p, 0, none⟩)) (fun v1 => Fx.x_nil rfl rfl) ?_
  refine Fx.R.p (.pointer (some ⟨p, 0, none⟩)) (fun v1 => Fx.x_field rfl rfl Try.underlying63 rfl (s := 1) (by kernel_rfl) rfl rfl) ?_
  refine Fx.R.p (.int .i64 ((o : Int))) (fun v1 => Fx.x_move rfl rfl) ?_
  refine Fx.R.p (.pointer (some ⟨p, 0, none⟩)) (fun v1 => Fx.x_move rfl rfl) ?_
  refine Fx.R.p (.pointer (some ⟨p, 0, none⟩)) (fun v1 => Fx.x_nil rfl rfl) ?_
  refine Fx.R.p (.pointer (some ⟨p, 0, none⟩)) (fun v1 => Fx.x_field rfl rfl Try.underlying63 rfl (s := 1) (by kernel_rfl) rfl rfl) ?_
  refine Fx.R.p (.int .i64 ((o : Int))) (fun v1 => Fx.x_move rfl rfl) ?_
  refine Fx.R.p (.pointer (some ⟨p, 0, none⟩)) (fun v1 => Fx.x_move rfl rfl) ?_
  refine Fx.R.p (.pointer (some ⟨p, 0, none⟩)) (fun v1 => Fx.x_nil rfl rfl) ?_
  refine Fx.R.p (.pointer (some ⟨p, 1, none⟩)) (fun v1 => Fx.x_field rfl rfl Try.underlying63 rfl (s := 1) (by kernel_rfl) rfl (by show _ + 1 = _; omega)) ?_
  refine Fx.R.p (.pointer (some ⟨p, 0, none⟩)) (fun v1 => Fx.x_move rfl rfl) ?_
  refine Fx.R.p (.pointer (some ⟨p, 0, none⟩)) (fun v1 => Fx.x_nil rfl rfl) ?_
  refine Fx.R.p (.pointer (some ⟨p, 0, none⟩)) (fun v1 => Fx.x_field rfl rfl Try.underlying63 rfl (s := 1) (by kernel_rfl) rfl rfl) ?_
  refine Fx.R.p (.pointer (some ⟨g1, 2, none⟩)) (fun v1 => Fx.x_field rfl rfl Try.underlying58 rfl (s := 1) (by kernel_rfl) rfl (by show _ + 2 = _; omega)) ?_
  refine Fx.R.p (.pointer (some ⟨p, 0, none⟩)) (fun v1 => Fx.x_move rfl rfl) ?_
  refine Fx.R.p (.pointer (some ⟨p, 0, none⟩)) (fun v1 => Fx.x_nil rfl rfl) ?_
  refine Fx.R.p (.pointer (some ⟨p, 0, none⟩)) (fun v1 => Fx.x_field rfl rfl Try.underlying63 rfl (s := 1) (by kernel_rfl) rfl rfl) ?_
  refine Fx.R.read (v := .slice M.la (M.n) (M.lc)) (by rfl) (by rfl) (Fx.Mk.refl _) (fun v1 hv1 => Fx.x_load1 (x := wdY (.slice M.la (M.n) (M.lc)) (.slice M.aa (M.an) (M.ac))) rfl rfl (by kernel_rfl) (m21.cel.below hv1 (by have := m21.lt; omega)) (i := 0) (by omega) (by omega) rfl) ?_
  refine Fx.R.s (.slice M.la (M.n) (M.lc)) (Fx.x_load1 (x := wdY (.slice M.la (M.n) (M.lc)) (.slice M.aa (M.an) (M.ac))) rfl rfl (by kernel_rfl) m21.cel (i := 0) (by omega) (by omega) rfl) ?_
  obtain ⟨gq1, eq1⟩ := m22.addr (by omega)
  have m29 : Fx.Own wt1 B 59 1 (.slice (some ⟨gq1, 0, none⟩) M.n M.lc) M.n (ptX M.pl) := m22.congV (congrArg (fun q => Value.slice q M.n M.lc) eq1)
  refine Fx.R.p (.pointer (some ⟨gq1, o, none⟩)) (fun v1 => Fx.x_indexS rfl (rfl.trans (congrArg (fun q => Value.slice q (M.n) (M.lc)) eq1)) rfl Try.underlying60 (s := 1) (by kernel_rfl) (by omega) (by omega) (by omega)) ?_
  refine Fx.R.s (.pointer (some ⟨(M.pl o), 0, none⟩)) (Fx.x_load1 (x := ptX M.pl) rfl rfl (by kernel_rfl) m29.cel (i := o) (by omega) (by omega) rfl) ?_
  refine Fx.R.s (.slice M.aa (M.an) (M.ac)) (Fx.x_load1 (x := wdY (.slice M.la (M.n) (M.lc)) (.slice M.aa (M.an) (M.ac))) rfl rfl (by kernel_rfl) m21.cel (i := 1) (by omega) (by omega) rfl) ?_
  refine Fx.R.s (.slice M.la (M.n) (M.lc)) (Fx.x_load1 (x := wdY (.slice M.la (M.n) (M.lc)) (.slice M.aa (M.an) (M.ac))) rfl rfl (by kernel_rfl) m21.cel (i := 0) (by omega) (by omega) rfl) ?_
  refine Fx.R.s (.int .u8 ((x.other : Int))) (Fx.x_load1 (x := actY x) rfl rfl (by kernel_rfl) m25.cel (i := 2) (by omega) (by omega) rfl) ?_
  refine Fx.R.p (.int .i64 ((x.other : Int))) (fun v1 => Fx.x_conv rfl rfl (by kernel_rfl) Try.underlying3 (Fx.i64e (by omega) rfl)) ?_
  refine Fx.R.s (.slice M.la (M.n) (M.lc)) (Fx.x_load1 (x := wdY (.slice M.la (M.n) (M.lc)) (.slice M.aa (M.an) (M.ac))) rfl rfl (by kernel_rfl) m21.cel (i := 0) (by omega) (by omega) rfl) ?_
  refine Fx.R.p (.int .i64 ((M.n : Int))) (fun v1 => Fx.x_len rfl rfl rfl (by kernel_rfl)) ?_
  refine Fx.R.p (.int .i64 ((r48 : Int))) (fun v1 => Fx.x_rem rfl rfl rfl (by omega) (remL er48)) ?_
  refine Fx.R.p (.pointer (some ⟨gq1, r48, none⟩)) (fun v1 => Fx.x_indexS rfl (rfl.trans (congrArg (fun q => Value.slice q (M.n) (M.lc)) eq1)) rfl Try.underlying60 (s := 1) (by kernel_rfl) (by omega) (by omega) (by omega)) ?_
  refine Fx.R.s (.pointer (some ⟨(M.pl r48), 0, none⟩)) (Fx.x_load1 (x := ptX M.pl) rfl rfl (by kernel_rfl) m29.cel (i := r48) (by omega) (by omega) rfl) ?_
  refine Fx.R.p (.pointer (some ⟨(M.pl r48), 0, none⟩)) (fun v1 => Fx.x_nil rfl rfl) ?_
  refine Fx.R.p (.pointer (some ⟨(M.pl r48), 0, none⟩)) (fun v1 => Fx.x_field rfl rfl Try.underlying71 rfl (s := 20) (by kernel_rfl) rfl rfl) ?_
  refine Fx.R.p (.pointer (some ⟨(M.pl r48), 12, none⟩)) (fun v1 => Fx.x_field rfl rfl Try.underlying43 rfl (s := 6) (by kernel_rfl) rfl (by show _ + 12 = _; omega)) ?_
  refine Fx.R.s (.agg (Fx.varr 6 (Fx.rv .u64 ((M.ml r48).s.known)))) (Fx.x_loadA (x := ldY (M.ml r48)) (y := Fx.rv .u64 ((M.ml r48).s.known)) rfl rfl (by kernel_rfl) (by kernel_rfl) m27.cel (i := 12) (by omega) (by omega) (fun j hj => ldY_st _ (by omega) (stY_known _ hj (by omega)))) ?_
  refine Fx.R.make (by rfl) ?_
  refine Fx.L.call (by rfl) (Fx.r_call (args := [.pointer (some ⟨(M.pl o), 0, none⟩), .slice M.aa (M.an) (M.ac), .agg (Fx.varr 6 (Fx.rv .u64 ((M.ml r48).s.known)))]) rfl rfl Try.func69 rfl rfl) rfl ((l_learn (M.ml o) B (M.pl o) T M.aa M.an M.ac M.ev ((M.ml r48).s.known) _ m28 (hW.inv o (by omega)) m23.arr hW.wf hW.may han hT).mono ?_)
  rintro e9 w3 ⟨p3, m3, he, _, hI3, hL1, hb1⟩
  refine ⟨.pointer (some ⟨p3, 0, none⟩), he, ?_⟩
  clear he
  have s5 := Fx.Stp.of_below hb1
  have m30 := m21.stp s5 (Nat.ne_of_lt (m21.lt))
  have m31 := m23.stp s5 (m23.notNew (Nat.le_refl _))
  have m32 := m24.up s5.old
  have m33 := m25.stp s5 (Nat.ne_of_lt (m25.lt))
  have m34 := m26.stp s5 (Nat.ne_of_lt (m26.lt))
  have m35 := m27.stp s5 (Nat.ne_of_lt (m27.lt))
  have m36 := m29.stpB s5 (Nat.ne_of_lt (m29.lt))
  have b5 := s5.below b4 (Nat.le_trans hB b4.size) (Nat.le_trans hB b4.size)
  refine Fx.L.nil ⟨s5.old, ?_⟩
  refine Fx.R.p (.pointer (some ⟨gq1, o, none⟩)) (fun v1 => Fx.x_indexS rfl (rfl.trans (congrArg (fun q => Value.slice q (M.n) (M.lc)) eq1)) rfl Try.underlying60 (s := 1) (by kernel_rfl) (by omega) (by omega) (by omega)) ?_
  refine Fx.R.eff (by rfl) ?_
  refine Fx.L.own1 (x := ptX M.pl) (u := .pointer (some ⟨p3, 0, none⟩)) (by rfl) rfl rfl rfl rfl (by rfl) (by kernel_rfl) m36 (i := o) (by omega) fun w4 m37 s6 z3 => ?_
  have hct1 := Fx.ChT.of_stp s6 m36.tyB
  have m38 := m30.chT hct1 (by decide)
  have m39 := m31.chT hct1 (by decide)
  have m40 := m32.chT hct1 (by decide)
  have m41 := m33.chT hct1 (by decide)
  have m42 := m34.chT hct1 (by decide)
  have m43 := m35.chT hct1 (by decide)
  have m44 := hL1.chT hct1 (by decide)
  have b6 := s6.below b5 (Nat.le_trans hB b5.size) m36.blk.1
  have m45 : Fx.Own w4 B 59 1 (.slice (some ⟨gq1, 0, none⟩) M.n M.lc) M.n (ptX (updA M.pl o p3)) := m37.congr (fun jq _ => congrFun pt_put jq)
  refine Fx.L.nil (Fx.R.nil (Fx.seqN (Fx.W.seq (Fx.W.list (Fx.L.v (.agg (Fx.varr 14 (fun zq => if zq < 1 then .int .i64 (0) else if zq < 8 then .int .u64 (0) else if zq < 9 then .int .u8 (0) else if zq < 10 then .int .u64 (0) else if zq < 12 then .int .i64 (0) else .int .u64 (0)))) (Fx.x_build (vs := []) (places := #[(0, 1), (1, 1), (2, 6), (8, 1), (9, 1), (10, 1), (11, 1), (12, 1), (13, 1)]) (m := 14) (x := fun zq => if zq < 1 then .int .i64 (0) else if zq < 8 then .int .u64 (0) else if zq < 9 then .int .u8 (0) else if zq < 10 then .int .u64 (0) else if zq < 12 then .int .i64 (0) else .int .u64 (0)) rfl rfl Try.underlying54 (by kernel_rfl) (by kernel_rfl) (by rfl)) ?_)))))
  refine Fx.L.storeA (x := fun zq => if zq < 1 then .int .i64 (0) else if zq < 8 then .int .u64 (0) else if zq < 9 then .int .u8 (0) else if zq < 10 then .int .u64 (0) else if zq < 12 then .int .i64 (0) else .int .u64 (0)) (y := fun zq => if zq < 1 then .int .i64 (0) else if zq < 8 then .int .u64 (0) else if zq < 9 then .int .u8 (0) else if zq < 10 then .int .u64 (0) else if zq < 12 then .int .i64 (0) else .int .u64 (0)) (by rfl) rfl rfl rfl rfl (fun jq _ => by show ((fun zq => if zq < 1 then .int .i64 (0) else if zq < 8 then .int .u64 (0) else if zq < 9 then .int .u8 (0) else if zq < 10 then .int .u64 (0) else if zq < 12 then .int .i64 (0) else .int .u64 (0) : Nat → Value) jq).oneCell' = true; simp only []; repeat (first | rfl | split)) (by kernel_rfl) m42 (i := 0) (by omega) fun w5 m46 s7 z4 => ?_
  have m47 : Fx.Blk w5 g2 14 (fun zq => if zq < 1 then .int .i64 (0) else if zq < 8 then .int .u64 (0) else if zq < 9 then .int .u8 (0) else if zq < 10 then .int .u64 (0) else if zq < 12 then .int .i64 (0) else .int .u64 (0)) 54 := Fx.ovr_all m46
  have hct2 := Fx.ChT.of_stp s7 m42.ty
  have m48 := m38.chT hct2 (by decide)
  have m49 := m39.stp s7 ng2m10
  have m50 := m40.chT hct2 (by decide)
  have m51 := m41.chT hct2 (by decide)
  have m52 := m43.chT hct2 (by decide)
  have m53 := m44.chT hct2 (by decide)
  have m54 := m45.chT hct2 (by decide)
  have b7 := s7.below b6 (Nat.le_trans hB b6.size) (by omega)
  refine Fx.L.nil (Fx.seqN (Fx.W.ret (Fx.seqR (⟨.agg (Fx.varr 14 (fun zq => if zq < 1 then .int .i64 (0) else if zq < 8 then .int .u64 (0) else if zq < 9 then .int .u8 (0) else if zq < 10 then .int .u64 (0) else if zq < 12 then .int .i64 (0) else .int .u64 (0))), Fx.retV1 Try.results23 ⟨_, rfl, Fx.run_loadV m47.cel (by kernel_rfl) (by kernel_rfl)⟩, ?_⟩))))
  have m55 : Fx.Own w5 B 59 1 (.slice M.la (M.n) (M.lc)) M.n (ptX (updA M.pl o p3)) := m54.congV (congrArg (fun q => Value.slice q M.n M.lc) eq1.symm)
  exact ⟨⟨_, rfl⟩, { M with pl := updA M.pl o p3, ml := updA M.ml o m3 }, { c := m48, l := m55, a := m49, g := m50.put m53, inv := (fun i hi => by show Inv (updA M.ml o m3 i).core _; unfold updA; split; exact hI3; exact (hW.inv i hi).mono (by omega)), wf := hW.wf, may := hW.may, pB := hpB, n1 := hn1, n6 := hn6 }, rfl, (by show M.an ≤ M.an + 1; omega), b7⟩
 ·rw [Bool.not_eq_true] at c19
  refine Fx.L.v (.bool false) (Fx.x_load1 (x := actY x) rfl rfl (by kernel_rfl) m19.cel (i := 1) (by omega) (by omega) ((show _ = Value.bool x.meet from rfl).trans (congrArg Value.bool c19))) ?_
  refine Fx.L.nil (Fx.seqN (Fx.W.cond (b := false) rfl (fun h => nomatch h) (fun _ => Fx.W.skip (Fx.seqN (Fx.W.seq (Fx.W.list (Fx.L.v (.pointer (some ⟨p, 0, none⟩)) (Fx.x_move rfl rfl) ?_)))))))
  refine Fx.L.v (.agg (Fx.varr 9 (actY x))) (Fx.x_loadA (x := actY x) (y := actY x) rfl rfl (by kernel_rfl) (by kernel_rfl) m19.cel (i := 0) (by omega) (by omega) (fun j _ => by rw [Nat.zero_add])) ?_
  refine Fx.L.call (by rfl) (Fx.r_call (args := [.pointer (some ⟨p, 0, none⟩), .agg (Fx.varr 9 (actY x))]) rfl rfl Try.func70 rfl rfl) rfl ((l_event M B p T x _ m18 hx).mono ?_)
  rintro e9 w6 ⟨V, hV, he, hb2⟩
  refine ⟨_, he, ?_⟩
  clear he
  have s8 := Fx.Stp.of_below hb2
  have m56 := m14.stp s8 (Nat.ne_of_lt (m14.lt))
  have m57 := m15.stp s8 (m15.notNew (Nat.le_refl _))
  have m58 := m16.stp s8 (m16.notNew (Nat.le_refl _))
  have m59 := m17.up s8.old
  have m60 := m18.up s8.old
  have m61 := m19.stp s8 (Nat.ne_of_lt (m19.lt))
  have m62 := m20.stp s8 (Nat.ne_of_lt (m20.lt))
  have b8 := s8.below b3 (Nat.le_trans hB b3.size) (Nat.le_trans hB b3.size)
  refine Fx.L.new (m := 14) (y := fun zq => if zq < 1 then .int .i64 (0) else if zq < 8 then .int .u64 (0) else if zq < 9 then .int .u8 (0) else if zq < 10 then .int .u64 (0) else if zq < 12 then .int .i64 (0) else .int .u64 (0)) (by rfl) rfl (by kernel_rfl) rfl fun g3 w7 eg3 m63 s9 z5 => ?_
  have m64 := m56.stp s9 (Nat.ne_of_lt (m56.lt))
  have m65 := m57.stp s9 (m57.notNew (Nat.le_refl _))
  have m66 := m58.stp s9 (m58.notNew (Nat.le_refl _))
  have m67 := m59.up s9.old
  have m68 := m61.stp s9 (Nat.ne_of_lt (m61.lt))
  have m69 := m62.stp s9 (Nat.ne_of_lt (m62.lt))
  have b9 := s9.below b8 (Nat.le_trans hB b8.size) (Nat.le_trans hB b8.size)
  have lg3 : w.heap.size ≤ g3 := by rw [eg3]; exact b8.size
  have ng3m64 : p ≠ g3 := by rw [eg3]; exact Nat.ne_of_lt (m56.lt)
  have ng3m66 : (.slice M.aa (M.an) (M.ac) : Value).ownBlock ≠ some g3 := by rw [eg3]; exact m58.notNew (Nat.le_refl _)
  have ng3m68 : g1 ≠ g3 := by rw [eg3]; exact Nat.ne_of_lt (m61.lt)
  have ng3m69 : g2 ≠ g3 := by rw [eg3]; exact Nat.ne_of_lt (m62.lt)
  have tg3 : g3 < w7.heap.size := m63.lt
  clear eg3
  refine Fx.L.storeA (x := fun zq => if zq < 1 then .int .i64 (0) else if zq < 8 then .int .u64 (0) else if zq < 9 then .int .u8 (0) else if zq < 10 then .int .u64 (0) else if zq < 12 then .int .i64 (0) else .int .u64 (0)) (y := evY V) (by rfl) rfl rfl rfl rfl (evY_one _) (by kernel_rfl) m63 (i := 0) (by omega) fun w8 m70 s10 z6 => ?_
  have m71 : Fx.Blk w8 g3 14 (evY V) 54 := Fx.ovr_all m70
  have hct3 := Fx.ChT.of_stp s10 m63.ty
  have m72 := m64.chT hct3 (by decide)
  have m73 := m65.chT hct3 (by decide)
  have m74 := m66.stp s10 ng3m66
  have m75 := m67.chT hct3 (by decide)
  have m76 := m68.chT hct3 (by decide)
  have m77 := m69.stp s10 (by omega)
  have b10 := s10.below b9 (Nat.le_trans hB b9.size) (by omega)
  refine Fx.L.nil (Fx.seqN (Fx.W.seq ?_))
  have hLo3 := m75 o (by omega)
  -- region 6 draws
  refine Fx.W.reord [0, 1, 2, 4, 3, 5, 6, 7, 8, 9, 10, 11, 12, 13] [0, 0, 0, 4, 0, 0, 4, 4, 3, 0, 0, 0, 0, 0] Fx.Mk Fx.Mk.refl Fx.Mk.trans (certs := [(8, 3, [6, 5, 3]), (8, 6, [6]), (8, 7, [7]), (9, 8, [8]), (10, 8, [9, 8]), (11, 8, [9, 8]), (12, 8, [8]), (13, 8, [8])]) (by kernel_rfl) (by kernel_rfl) (by kernel_rfl) (by kernel_rfl) (by kernel_rfl) fun wt2 hbwt2 hzwt2 => ?_
  have s11 : Fx.Stp w8.heap.size w8 wt2 := Fx.Stp.of_below hbwt2
  have m78 := m72.stp s11 (Nat.ne_of_lt (m72.lt))
  have m79 := m73.stp s11 (m73.notNew (Nat.le_refl _))
  have m80 := m74.stp s11 (m74.notNew (Nat.le_refl _))
  have m81 := m75.up s11.old
  have m82 := m76.stp s11 (Nat.ne_of_lt (m76.lt))
  have m83 := m77.stp s11 (Nat.ne_of_lt (m77.lt))
  have m84 := m71.stp s11 (Nat.ne_of_lt (m71.lt))
  have m85 := hLo3.up s11.old
  have b11 := s11.below b10 (Nat.le_trans hB b10.size) (Nat.le_trans hB b10.size)
  refine Fx.R.p (.pointer (some ⟨p, 0, none⟩)) (fun v1 => Fx.x_move rfl rfl) ?_
  refine Fx.R.p (.pointer (some ⟨p, 0, none⟩)) (fun v1 => Fx.x_nil rfl rfl) ?_
  refine Fx.R.p (.pointer (some ⟨p, 0, none⟩)) (fun v1 => Fx.x_field rfl rfl Try.underlying63 rfl (s := 1) (by kernel_rfl) rfl rfl) ?_
  refine Fx.R.p (.int .i64 ((o : Int))) (fun v1 => Fx.x_move rfl rfl) ?_
  refine Fx.R.s (.slice M.la (M.n) (M.lc)) (Fx.x_load1 (x := wdY (.slice M.la (M.n) (M.lc)) (.slice M.aa (M.an) (M.ac))) rfl rfl (by kernel_rfl) m78.cel (i := 0) (by omega) (by omega) rfl) ?_
  obtain ⟨gq2, eq2⟩ := m79.addr (by omega)
  have m86 : Fx.Own wt2 B 59 1 (.slice (some ⟨gq2, 0, none⟩) M.n M.lc) M.n (ptX M.pl) := m79.congV (congrArg (fun q => Value.slice q M.n M.lc) eq2)
  refine Fx.R.p (.pointer (some ⟨gq2, o, none⟩)) (fun v1 => Fx.x_indexS rfl (rfl.trans (congrArg (fun q => Value.slice q (M.n) (M.lc)) eq2)) rfl Try.underlying60 (s := 1) (by kernel_rfl) (by omega) (by omega) (by omega)) ?_
  refine Fx.R.s (.pointer (some ⟨(M.pl o), 0, none⟩)) (Fx.x_load1 (x := ptX M.pl) rfl rfl (by kernel_rfl) m86.cel (i := o) (by omega) (by omega) rfl) ?_
  refine Fx.R.s (.agg (Fx.varr 14 (evY V))) (Fx.x_loadA (x := evY V) (y := evY V) rfl rfl (by kernel_rfl) (by kernel_rfl) m84.cel (i := 0) (by omega) (by omega) (fun j _ => by rw [Nat.zero_add])) ?_
  refine Fx.R.eff (by rfl) ?_
  refine Fx.L.call (by rfl) (Fx.r_call (args := [.pointer (some ⟨(M.pl o), 0, none⟩), .agg (Fx.varr 14 (evY V))]) rfl rfl Try.func57 rfl rfl) rfl ((l_apply (M.ml o) B (M.pl o) T V _ m85 hV (hW.inv o (by omega)).w (by omega)).mono ?_)
  rintro e9 w9 ⟨p3, m3, he, hc3, hL2, hb3⟩
  refine ⟨.tuple #[.pointer (some ⟨p3, 0, none⟩), .int .i64 (applyE (M.ml o).core V)], he, ?_⟩
  clear he
  have s12 := Fx.Stp.of_below hb3
  have m87 := m78.stp s12 (Nat.ne_of_lt (m78.lt))
  have m88 := m80.stp s12 (m80.notNew (Nat.le_refl _))
  have m89 := m81.up s12.old
  have m90 := m82.stp s12 (Nat.ne_of_lt (m82.lt))
  have m91 := m83.stp s12 (Nat.ne_of_lt (m83.lt))
  have m92 := m84.stp s12 (Nat.ne_of_lt (m84.lt))
  have m93 := m86.stpB s12 (Nat.ne_of_lt (m86.lt))
  have b12 := s12.below b11 (Nat.le_trans hB b11.size) (Nat.le_trans hB b11.size)
  refine Fx.L.nil (Fx.R.p (.tuple #[.pointer (some ⟨p3, 0, none⟩), .int .i64 (applyE (M.ml o).core V)]) (fun v1 => Fx.x_move rfl rfl) ?_)
  refine Fx.R.p (.pointer (some ⟨p3, 0, none⟩)) (fun v1 => Fx.x_extract rfl rfl rfl) ?_
  refine Fx.R.p (.int .i64 (applyE (M.ml o).core V)) (fun v1 => Fx.x_extract rfl rfl rfl) ?_
  refine Fx.R.p (.pointer (some ⟨p3, 0, none⟩)) (fun v1 => Fx.x_assign rfl rfl) ?_
  refine Fx.R.p (.int .i64 (applyE (M.ml o).core V)) (fun v1 => Fx.x_assign rfl rfl) ?_
  refine Fx.R.nil (Fx.seqN (Fx.W.seq (Fx.W.seq (Fx.W.list (Fx.L.v (.int .i64 (applyE (M.ml o).core V)) (Fx.x_move rfl rfl) ?_)))))
  by_cases c74 : (applyE (M.ml o).core V) = 0
  ·refine Fx.L.v (.bool false) (Fx.x_neqF rfl rfl rfl c74) ?_
   refine Fx.L.nil (Fx.seqN (Fx.W.cond (b := false) rfl (fun h => nomatch h) (fun _ => Fx.W.skip (Fx.seqN (Fx.W.seq (Fx.W.list (Fx.L.v (.pointer (some ⟨p, 0, none⟩)) (Fx.x_move rfl rfl) ?_)))))))
   refine Fx.L.v (.pointer (some ⟨p, 0, none⟩)) (Fx.x_nil rfl rfl) ?_
   refine Fx.L.v (.pointer (some ⟨p, 0, none⟩)) (Fx.x_field rfl rfl Try.underlying63 rfl (s := 1) (by kernel_rfl) rfl rfl) ?_
   refine Fx.L.v (.slice M.la (M.n) (M.lc)) (Fx.x_load1 (x := wdY (.slice M.la (M.n) (M.lc)) (.slice M.aa (M.an) (M.ac))) rfl rfl (by kernel_rfl) m87.cel (i := 0) (by omega) (by omega) rfl) ?_
   refine Fx.L.v (.int .i64 ((o : Int))) (Fx.x_move rfl rfl) ?_
   refine Fx.L.v (.pointer (some ⟨p3, 0, none⟩)) (Fx.x_move rfl rfl) ?_
   refine Fx.L.v (.pointer (some ⟨gq2, o, none⟩)) (Fx.x_indexS rfl (rfl.trans (congrArg (fun q => Value.slice q (M.n) (M.lc)) eq2)) rfl Try.underlying60 (s := 1) (by kernel_rfl) (by omega) (by omega) (by omega)) ?_
   refine Fx.L.own1 (x := ptX M.pl) (u := .pointer (some ⟨p3, 0, none⟩)) (by rfl) rfl rfl rfl rfl (by rfl) (by kernel_rfl) m93 (i := o) (by omega) fun w10 m94 s13 z7 => ?_
   have hct4 := Fx.ChT.of_stp s13 m93.tyB
   have m95 := m87.chT hct4 (by decide)
   have m96 := m88.chT hct4 (by decide)
   have m97 := m89.chT hct4 (by decide)
   have m98 := m90.chT hct4 (by decide)
   have m99 := m91.chT hct4 (by decide)
   have m100 := m92.chT hct4 (by decide)
   have m101 := hL2.chT hct4 (by decide)
   have b13 := s13.below b12 (Nat.le_trans hB b12.size) m93.blk.1
   have m102 : Fx.Own w10 B 59 1 (.slice (some ⟨gq2, 0, none⟩) M.n M.lc) M.n (ptX (updA M.pl o p3)) := m94.congr (fun jq _ => congrFun pt_put jq)
   refine Fx.L.nil (Fx.seqN (Fx.W.seq ?_))
   have m103 : Fx.Own w10 B 59 1 (.slice M.la (M.n) (M.lc)) M.n (ptX (updA M.pl o p3)) := m102.congV (congrArg (fun q => Value.slice q M.n M.lc) eq2.symm)
   -- region 10 draws
   refine Fx.W.reord [0, 1, 2, 3, 4, 5, 6, 7, 8, 9, 10] [0, 0, 0, 0, 1, 4, 2, 2, 0, 0, 3] (Fx.ChT [54]) Fx.ChT.refl Fx.ChT.trans (certs := [(10, 4, [4]), (6, 5, [5]), (7, 5, [6, 5]), (10, 5, [5]), (7, 6, [6]), (8, 6, [6]), (9, 6, [6]), (10, 6, [6]), (8, 7, [7]), (9, 7, [7]), (10, 7, [7])]) (by kernel_rfl) (by kernel_rfl) (by kernel_rfl) (by kernel_rfl) (by kernel_rfl) fun wt3 hbwt3 hzwt3 => ?_
   have s14 : Fx.Stp w10.heap.size w10 wt3 := Fx.Stp.of_below hbwt3
   have m104 := m95.stp s14 (Nat.ne_of_lt (m95.lt))
   have m105 := m96.stp s14 (m96.notNew (Nat.le_refl _))
   have m106 := m97.up s14.old
   have m107 := m98.stp s14 (Nat.ne_of_lt (m98.lt))
   have m108 := m99.stp s14 (Nat.ne_of_lt (m99.lt))
   have m109 := m100.stp s14 (Nat.ne_of_lt (m100.lt))
   have m110 := m101.up s14.old
   have m111 := m103.stp s14 (m103.notNew (Nat.le_refl _))
   have b14 := s14.below b13 (Nat.le_trans hB b13.size) (Nat.le_trans hB b13.size)
   refine Fx.R.p (.pointer (some ⟨p, 0, none⟩)) (fun v1 => Fx.x_move rfl rfl) ?_
   refine Fx.R.p (.pointer (some ⟨p, 0, none⟩)) (fun v1 => Fx.x_move rfl rfl) ?_
   refine Fx.R.p (.pointer (some ⟨p, 0, none⟩)) (fun v1 => Fx.x_nil rfl rfl) ?_
   refine Fx.R.p (.pointer (some ⟨p, 1, none⟩)) (fun v1 => Fx.x_field rfl rfl Try.underlying63 rfl (s := 1) (by kernel_rfl) rfl (by show _ + 1 = _; omega)) ?_
   refine Fx.R.read (v := .slice M.aa (M.an) (M.ac)) (by rfl) (by rfl) (Fx.ChT.refl _) (fun v1 hv1 => Fx.x_load1 (x := wdY (.slice M.la (M.n) (M.lc)) (.slice M.aa (M.an) (M.ac))) rfl rfl (by kernel_rfl) (m104.chT hv1 (by decide)).cel (i := 1) (by omega) (by omega) rfl) ?_
   refine Fx.R.s (.agg (Fx.varr 14 (evY V))) (Fx.x_loadA (x := evY V) (y := evY V) rfl rfl (by kernel_rfl) (by kernel_rfl) m109.cel (i := 0) (by omega) (by omega) (fun j _ => by rw [Nat.zero_add])) ?_
   refine Fx.R.make (by rfl) ?_
   refine Fx.L.bslice (vs := [(0, .agg (Fx.varr 14 (evY V)))]) (s := 14) (zc := fun zq => if zq < 1 then .int .i64 (0) else if zq < 8 then .int .u64 (0) else if zq < 9 then .int .u8 (0) else if zq < 10 then .int .u64 (0) else if zq < 12 then .int .i64 (0) else .int .u64 (0)) (y := Fx.ovr (fun j => (fun zq => if zq < 1 then .int .i64 (0) else if zq < 8 then .int .u64 (0) else if zq < 9 then .int .u8 (0) else if zq < 10 then .int .u64 (0) else if zq < 12 then .int .i64 (0) else .int .u64 (0)) (j % 14)) (0 * 14) 14 (evY V)) (by rfl) rfl rfl Try.underlying61 (by kernel_rfl) (by rfl) (by rfl) (by kernel_rfl) (by rw [Fx.fill_step (off := 0 * 14) (s := 14) (y := evY V) rfl (Fx.cells_agg _ _) (by rfl)]; rfl) rfl fun g4 w11 eg4 m112 s15 z8 => ?_
   have m113 := m104.stp s15 (Nat.ne_of_lt (m104.lt))
   have m114 := m105.stp s15 (m105.notNew (Nat.le_refl _))
   have m115 := m106.up s15.old
   have m116 := m107.stp s15 (Nat.ne_of_lt (m107.lt))
   have m117 := m108.stp s15 (Nat.ne_of_lt (m108.lt))
   have m118 := m109.stp s15 (Nat.ne_of_lt (m109.lt))
   have m119 := m110.up s15.old
   have m120 := m111.stp s15 (m111.notNew (Nat.le_refl _))
   have b15 := s15.below b14 (Nat.le_trans hB b14.size) (Nat.le_trans hB b14.size)
   have lg4 : w.heap.size ≤ g4 := by rw [eg4]; exact b14.size
   have ng4m113 : p ≠ g4 := by rw [eg4]; exact Nat.ne_of_lt (m104.lt)
   have ng4m114 : (.slice M.aa (M.an) (M.ac) : Value).ownBlock ≠ some g4 := by rw [eg4]; exact m105.notNew (Nat.le_refl _)
   have ng4m116 : g1 ≠ g4 := by rw [eg4]; exact Nat.ne_of_lt (m107.lt)
   have ng4m117 : g2 ≠ g4 := by rw [eg4]; exact Nat.ne_of_lt (m108.lt)
   have ng4m118 : g3 ≠ g4 := by rw [eg4]; exact Nat.ne_of_lt (m109.lt)
   have tg4 : g4 < w11.heap.size := m112.lt
   clear eg4
   refine Fx.L.nil ⟨Fx.ChT.of_below s15.old, ?_⟩
   refine Fx.R.make (by rfl) ?_
   refine Fx.L.app (B := B) (s := 14) (bytes := 112) (k := M.an) (m := 1) (v := .slice M.aa (M.an) (M.ac)) (x := evX M.ev) (by rfl) rfl rfl rfl Try.underlying61 (by kernel_rfl) (by kernel_rfl) rfl rfl m114 m112.cel (ovr_one (fun j => (show (evY V j).oneCell' = true by unfold evY; repeat (first | rfl | split)))) (by omega) (by omega) (by omega) (Nat.le_trans hB b15.size) fun g5 cap1 w12 ho1 hg1 hgv1 hlt1 => ?_
   have hct5 := Fx.ChT.of_grown hg1 m114
   have m122 := m113.chT hct5 (by decide)
   have m123 := m115.chT hct5 (by decide)
   have m124 := m116.chT hct5 (by decide)
   have m125 := m117.grown hg1 ng2m10
   have ng5m125 : g2 ≠ g5 := fun e => hgv1.elim (fun e2 => ng2m10 (by rw [e]; exact e2)) (fun e2 => by have := m117.lt; omega)
   have m126 := m118.grown hg1 ng3m66
   have ng5m126 : g3 ≠ g5 := fun e => hgv1.elim (fun e2 => ng3m66 (by rw [e]; exact e2)) (fun e2 => by have := m118.lt; omega)
   have m127 := m119.chT hct5 (by decide)
   have m128 := m120.chT hct5 (by decide)
   have m121 : Fx.Own w12 B 54 14 (.slice (some ⟨g5, 0, none⟩) (M.an + 1) cap1) (M.an + 1) (evX (updA M.ev M.an V)) := (ho1.congr (fun j hj => ev_app j hj))
   have b16 : Below B w w12 := Fx.Below.grow b15 hg1 (Nat.le_trans hB b15.size) (fun q hq => (m114.ge hq).1)
   refine Fx.L.nil ⟨hct5, ?_⟩
   refine Fx.R.p (.pointer (some ⟨p, 0, none⟩)) (fun v1 => Fx.x_nil rfl rfl) ?_
   refine Fx.R.p (.pointer (some ⟨p, 1, none⟩)) (fun v1 => Fx.x_field rfl rfl Try.underlying63 rfl (s := 1) (by kernel_rfl) rfl (by show _ + 1 = _; omega)) ?_
   refine Fx.R.eff (by rfl) ?_
   refine Fx.L.store1 (x := wdY (.slice M.la (M.n) (M.lc)) (.slice M.aa (M.an) (M.ac))) (u := .slice (some ⟨g5, 0, none⟩) (M.an + 1) (cap1)) (by rfl) rfl rfl rfl rfl (by rfl) (by kernel_rfl) m122 (i := 1) (by omega) fun w13 m129 s16 z9 => ?_
   have m130 : Fx.Blk w13 p 2 (wdY (.slice M.la (M.n) (M.lc)) (.slice (some ⟨g5, 0, none⟩) (M.an + 1) (cap1))) 63 := m129.congr (wdY_1 _ _ _)
   have hct6 := Fx.ChT.of_stp s16 m122.ty
   have m131 := m123.chT hct6 (by decide)
   have m132 := m124.chT hct6 (by decide)
   have m133 := m125.chT hct6 (by decide)
   have m134 := m126.chT hct6 (by decide)
   have m135 := m127.chT hct6 (by decide)
   have m136 := m128.chT hct6 (by decide)
   have m137 := m121.chT hct6 (by decide)
   have b17 := s16.below b16 (Nat.le_trans hB b16.size) (by omega)
   refine Fx.L.nil (Fx.R.nil (Fx.seqN (Fx.W.seq (Fx.W.list (Fx.L.v (.agg (Fx.varr 14 (evY V))) (Fx.x_loadA (x := evY V) (y := evY V) rfl rfl (by kernel_rfl) (by kernel_rfl) m134.cel (i := 0) (by omega) (by omega) (fun j _ => by rw [Nat.zero_add])) ?_)))))
   refine Fx.L.storeA (x := fun zq => if zq < 1 then .int .i64 (0) else if zq < 8 then .int .u64 (0) else if zq < 9 then .int .u8 (0) else if zq < 10 then .int .u64 (0) else if zq < 12 then .int .i64 (0) else .int .u64 (0)) (y := evY V) (by rfl) rfl rfl rfl rfl (evY_one _) (by kernel_rfl) m133 (i := 0) (by omega) fun w14 m138 s17 z10 => ?_
   have m139 : Fx.Blk w14 g2 14 (evY V) 54 := Fx.ovr_all m138
   have hct7 := Fx.ChT.of_stp s17 m133.ty
   have m140 := m131.chT hct7 (by decide)
   have m141 := m132.chT hct7 (by decide)
   have m142 := m134.stp s17 (by omega)
   have m143 := m135.chT hct7 (by decide)
   have m144 := m136.chT hct7 (by decide)
   have m145 := m137.stpB s17 (by omega)
   have m146 := m130.chT hct7 (by decide)
   have b18 := s17.below b17 (Nat.le_trans hB b17.size) (by omega)
   refine Fx.L.nil (Fx.seqN (Fx.W.ret (⟨.agg (Fx.varr 14 (evY V)), Fx.retV1 Try.results23 ⟨_, rfl, Fx.run_loadV m139.cel (by kernel_rfl) (by kernel_rfl)⟩, ?_⟩)))
   have hinv : Inv m3.core (T + 3660) := by rw [hc3]; exact (inv_apply (hW.inv o (by omega))).mono (by omega)
   exact ⟨⟨_, rfl⟩, { M with pl := updA M.pl o p3, ml := updA M.ml o m3, an := M.an + 1, aa := some ⟨g5, 0, none⟩, ac := cap1, ev := updA M.ev M.an V }, { c := m146, l := m144, a := m145, g := m140.put m143, inv := (fun i hi => by show Inv (updA M.ml o m3 i).core _; unfold updA; split; exact hinv; exact (hW.inv i hi).mono (by omega)), wf := (fun k hk => by have hk2 : k < M.an + 1 := hk; show EvWf (updA M.ev M.an V k); unfold updA; split; exact hV; exact hW.wf k (by omega)), may := (fun k hk => by have hk2 : k < M.an + 1 := hk; show mayE (updA M.ev M.an V k) = true; unfold updA; split; exact apply_may c74; exact hW.may k (by omega)), pB := hpB, n1 := hn1, n6 := hn6 }, rfl, Nat.le_refl _, b18⟩
  ·refine Fx.L.v (.bool true) (Fx.x_neqT rfl rfl rfl c74) ?_
   refine Fx.L.nil (Fx.seqN (Fx.W.cond (b := true) rfl (fun _ => Fx.W.seq (Fx.W.list (Fx.L.v (.agg (Fx.varr 14 (fun zq => if zq < 1 then .int .i64 (0) else if zq < 8 then .int .u64 (0) else if zq < 9 then .int .u8 (0) else if zq < 10 then .int .u64 (0) else if zq < 12 then .int .i64 (0) else .int .u64 (0)))) (Fx.x_build (vs := []) (places := #[(0, 1), (1, 1), (2, 6), (8, 1), (9, 1), (10, 1), (11, 1), (12, 1), (13, 1)]) (m := 14) (x := fun zq => if zq < 1 then .int .i64 (0) else if zq < 8 then .int .u64 (0) else if zq < 9 then .int .u8 (0) else if zq < 10 then .int .u64 (0) else if zq < 12 then .int .i64 (0) else .int .u64 (0)) rfl rfl Try.underlying54 (by kernel_rfl) (by kernel_rfl) (by rfl)) ?_))) (fun h => nomatch h)))
   refine Fx.L.storeA (x := fun zq => if zq < 1 then .int .i64 (0) else if zq < 8 then .int .u64 (0) else if zq < 9 then .int .u8 (0) else if zq < 10 then .int .u64 (0) else if zq < 12 then .int .i64 (0) else .int .u64 (0)) (y := fun zq => if zq < 1 then .int .i64 (0) else if zq < 8 then .int .u64 (0) else if zq < 9 then .int .u8 (0) else if zq < 10 then .int .u64 (0) else if zq < 12 then .int .i64 (0) else .int .u64 (0)) (by rfl) rfl rfl rfl rfl (fun jq _ => by show ((fun zq => if zq < 1 then .int .i64 (0) else if zq < 8 then .int .u64 (0) else if zq < 9 then .int .u8 (0) else if zq < 10 then .int .u64 (0) else if zq < 12 then .int .i64 (0) else .int .u64 (0) : Nat → Value) jq).oneCell' = true; simp only []; repeat (first | rfl | split)) (by kernel_rfl) m91 (i := 0) (by omega) fun w15 m147 s18 z11 => ?_
   have m148 : Fx.Blk w15 g2 14 (fun zq => if zq < 1 then .int .i64 (0) else if zq < 8 then .int .u64 (0) else if zq < 9 then .int .u8 (0) else if zq < 10 then .int .u64 (0) else if zq < 12 then .int .i64 (0) else .int .u64 (0)) 54 := Fx.ovr_all m147
   have hct8 := Fx.ChT.of_stp s18 m91.ty
   have m149 := m87.chT hct8 (by decide)
   have m150 := m88.stp s18 ng2m10
   have m151 := m89.chT hct8 (by decide)
   have m152 := m90.chT hct8 (by decide)
   have m153 := m92.stp s18 (by omega)
   have m154 := m93.chT hct8 (by decide)
   have m155 := hL2.chT hct8 (by decide)
   have b19 := s18.below b12 (Nat.le_trans hB b12.size) (by omega)
   refine Fx.L.nil (Fx.seqN (Fx.W.ret (Fx.seqR (⟨.agg (Fx.varr 14 (fun zq => if zq < 1 then .int .i64 (0) else if zq < 8 then .int .u64 (0) else if zq < 9 then .int .u8 (0) else if zq < 10 then .int .u64 (0) else if zq < 12 then .int .i64 (0) else .int .u64 (0))), Fx.retV1 Try.results23 ⟨_, rfl, Fx.run_loadV m148.cel (by kernel_rfl) (by kernel_rfl)⟩, ?_⟩))))
   have m156 : Fx.Own w15 B 59 1 (.slice M.la (M.n) (M.lc)) M.n (ptX M.pl) := m154.congV (congrArg (fun q => Value.slice q M.n M.lc) eq2.symm)
   exact ⟨⟨_, rfl⟩, M, { c := m149, l := m156, a := m150, g := m151, inv := fun i hi => (hW.inv i hi).mono (by omega), wf := hW.wf, may := hW.may, pB := hpB, n1 := hn1, n6 := hn6 }, rfl, by omega, b19⟩
end Go.Proofs.Ytolmkjepieoloaa
namespace Go.Proofs.Ytolmkjepieoloaa
open Go.RowKit Go.WideShapes Go.ChangeShapes Go.Deep
theorem spotless1 {w : World} {x : Addr} {v : Value} (h : w.cell? x = some v) : ∃ b off, x = ⟨b, off, none⟩ := by
  obtain ⟨b, off, spot⟩ := x
  cases spot with
  | none => exact ⟨b, off, rfl⟩
  | some q =>
    unfold World.cell? at h
    simp at h
    split at h <;> cases h
def At4 (k0 k1 k2 k3 : IntKind) (w : World) (b off : Nat) (x0 x1 x2 x3 : Int) : Prop :=
  w.cell? ⟨b, off, none⟩ = some (.int k0 x0) ∧ w.cell? ⟨b, off + 1, none⟩ = some (.int k1 x1) ∧ w.cell? ⟨b, off + 2, none⟩ = some (.int k2 x2) ∧ w.cell? ⟨b, off + 3, none⟩ = some (.int k3 x3)
def Wf4 (k0 k1 k2 k3 : IntKind) (x0 x1 x2 x3 : Int) : Prop := (Lit.int k0 x0).wf = true ∧ (Lit.int k1 x1).wf = true ∧ (Lit.int k2 x2).wf = true ∧ (Lit.int k3 x3).wf = true
def Sl4 (k0 k1 k2 k3 : IntKind) (w : World) (a : Option Addr) (len : Nat) (X0 X1 X2 X3 : Nat → Int) : Prop :=
  ∀ i, i < len → (∃ b off, a = some ⟨b, off, none⟩ ∧ At4 k0 k1 k2 k3 w b (off + i * 4) (X0 i) (X1 i) (X2 i) (X3 i)) ∧ Wf4 k0 k1 k2 k3 (X0 i) (X1 i) (X2 i) (X3 i)
theorem Sl4.up {k0 k1 k2 k3 : IntKind} {w w' : World} {a : Option Addr} {len : Nat} {X0 X1 X2 X3 : Nat → Int} (h : Sl4 k0 k1 k2 k3 w a len X0 X1 X2 X3) (hb : Below w.heap.size w w') : Sl4 k0 k1 k2 k3 w' a len X0 X1 X2 X3 := by
  intro i hi
  obtain ⟨⟨b, off, e, q0, q1, q2, q3⟩, hw⟩ := h i hi
  have hlt := block_lt_of_cell q0
  dsimp only at hlt
  exact ⟨⟨b, off, e, (hb.cell (p := ⟨b, off + i * 4, none⟩) hlt).trans q0, (hb.cell (p := ⟨b, off + i * 4 + 1, none⟩) hlt).trans q1, (hb.cell (p := ⟨b, off + i * 4 + 2, none⟩) hlt).trans q2, (hb.cell (p := ⟨b, off + i * 4 + 3, none⟩) hlt).trans q3⟩, hw⟩
end Go.Proofs.Ytolmkjepieoloaa
namespace Go.Proofs.Ytolmkjepieoloaa
open Go.RowKit Go.WideShapes Go.ChangeShapes Go.Deep
def flatKb (P : Program) : Nat → TypeId → Option (List (Option IntKind))
  | 0, _ => none
  | d + 1, t => match P.underlying t with
    | some (.int k) => some [some k]
    | some .bool => some [none]
    | some (.array n e) => (flatKb P d e).bind fun ks => if P.cellsOf e = ks.length ∧ P.cellsOf t = n * ks.length then some (List.replicate n ks).flatten else none
    | some (.struct fs) => (fs.toList.foldlM (fun l f => (flatKb P d f.type).bind fun ks => if f.offset = l.length ∧ P.cellsOf f.type = ks.length then some (l ++ ks) else none) []).bind fun l => if P.cellsOf t = l.length then some l else none
    | _ => none
def OkV (k : Option IntKind) (v : Value) : Prop := match k with | some k => ∃ n, v = .int k n ∧ (Lit.int k n).wf = true | none => ∃ b, v = .bool b
def FlatV (ks : List (Option IntKind)) (cs : List Value) : Prop := cs.length = ks.length ∧ ∀ (j : Nat) (k : Option IntKind), ks[j]? = some k → ∃ v, cs[j]? = some v ∧ OkV k v
theorem flatb_rep {ks : List (Option IntKind)} {k : Option IntKind} : ∀ (n j : Nat), (List.replicate n ks).flatten[j]? = some k → ks[j % ks.length]? = some k ∧ j / ks.length < n
  | 0, j, h => by simp at h
  | n + 1, j, h => by
    rw [List.replicate_succ, List.flatten_cons] at h
    by_cases hj : j < ks.length
    · rw [List.getElem?_append_left hj] at h
      rw [Nat.mod_eq_of_lt hj, Nat.div_eq_of_lt hj]; exact ⟨h, by omega⟩
    · rw [List.getElem?_append_right (by omega)] at h
      have hs : 0 < ks.length := by
        rcases Nat.eq_zero_or_pos ks.length with e | e
        · obtain ⟨h1, _⟩ := flatb_rep n _ h
          have := (List.getElem?_eq_some_iff.1 h1).1; omega
        · exact e
      obtain ⟨h1, h2⟩ := flatb_rep n _ h
      rw [Nat.mod_eq_sub_mod (by omega), Nat.div_eq_sub_div hs (by omega)]
      exact ⟨h1, by omega⟩
section
variable {H : Type} {enc : TypeId × Value → H} {P : Program} {w : World} {base : Nat} {spare : Nat → Bool} {held : Bool}
theorem flatb_part {ks : List (Option IntKind)} {cs : List Value} {o s j : Nat} {k : Option IntKind} (h : FlatV ks ((cs.drop o).take s)) (hs : s = ks.length) (hk : ks[j]? = some k) : ∃ v, cs[o + j]? = some v ∧ OkV k v := by
  obtain ⟨n, h1, h2⟩ := h.2 j k hk
  have hj := (List.getElem?_eq_some_iff.1 hk).1
  rw [List.getElem?_take_of_lt (by omega), List.getElem?_drop] at h1
  exact ⟨n, h1, h2⟩
theorem flatKb_ok : ∀ (d : Nat) (t : TypeId) (ks : List (Option IntKind)), flatKb P d t = some ks → ∀ (fuel : Nat) (cs : List Value) (x : DataW H × List MemPlace), DataW.trod enc P w base spare held fuel t cs = some x → FlatV ks cs
  | 0, _, _, h => by simp [flatKb] at h
  | d + 1, t, ks, h => by
    intro fuel cs x hx
    unfold flatKb at h
    split at h
    · rename_i k hu
      simp only [Option.some.injEq] at h; subst h
      obtain ⟨n, rfl, _, hw⟩ := DataW.trod_int hu hx
      refine ⟨rfl, fun j k' hk => ?_⟩
      match j, hk with
      | 0, hk => simp at hk; subst hk; exact ⟨_, rfl, n, rfl, hw⟩
      | j + 1, hk => simp at hk
    · rename_i hu
      simp only [Option.some.injEq] at h; subst h
      obtain ⟨b, rfl, _⟩ := DataW.trod_bool hu hx
      refine ⟨rfl, fun j k' hk => ?_⟩
      match j, hk with
      | 0, hk => simp at hk; subst hk; exact ⟨_, rfl, b, rfl⟩
      | j + 1, hk => simp at hk
    · rename_i n e hu
      obtain ⟨ks', hks, h⟩ := Option.bind_eq_some_iff.1 h
      split at h
      · rename_i hc
        simp only [Option.some.injEq] at h; subst h
        obtain ⟨xs, m, _, _, hl, hlen, hel⟩ := DataW.trod_array hu hx
        refine ⟨by rw [hl, hc.2]; simp, fun j k hk => ?_⟩
        obtain ⟨h1, h2⟩ := flatb_rep n j hk
        have hi := hel (j / ks'.length) h2
        rw [List.getElem?_eq_getElem (by omega), hc.1] at hi
        have := flatb_part (flatKb_ok d e ks' hks _ _ _ hi) rfl h1
        rw [Nat.mul_comm, Nat.div_add_mod] at this
        exact this
      · cases h
    · rename_i fs hu
      obtain ⟨l, hl, h⟩ := Option.bind_eq_some_iff.1 h
      split at h
      · rename_i hc
        simp only [Option.some.injEq] at h; subst h
        obtain ⟨xs, m, _, _, hlc, hlen, hf⟩ := DataW.trod_struct hu hx
        refine ⟨by rw [hlc, hc], ?_⟩
        have hf' : ∀ f, f ∈ fs.toList → ∃ y, DataW.trod enc P w base spare held m f.type ((cs.drop f.offset).take (P.cellsOf f.type)) = some y := by
          intro f hfm
          obtain ⟨i, hi, e⟩ := List.mem_iff_getElem.1 hfm
          have hi' : i < fs.size := by simpa using hi
          have h1 : fs[i]? = some f := by rw [Array.getElem?_eq_getElem hi']; simpa using e
          have := hf i f h1
          rw [List.getElem?_eq_getElem (by rw [hlen]; exact hi')] at this
          exact ⟨_, this⟩
        have key : ∀ (L : List Field) (acc : List (Option IntKind)), (∀ f, f ∈ L → ∃ y, DataW.trod enc P w base spare held m f.type ((cs.drop f.offset).take (P.cellsOf f.type)) = some y) → (∀ (j : Nat) (k : Option IntKind), acc[j]? = some k → ∃ v, cs[j]? = some v ∧ OkV k v) → ∀ l, L.foldlM (fun l f => (flatKb P d f.type).bind fun ks => if f.offset = l.length ∧ P.cellsOf f.type = ks.length then some (l ++ ks) else none) acc = some l → ∀ (j : Nat) (k : Option IntKind), l[j]? = some k → ∃ v, cs[j]? = some v ∧ OkV k v := by
          intro L
          induction L with
          | nil => intro acc _ ha l hl; simp at hl; subst hl; exact ha
          | cons f L ih =>
            intro acc hL ha l hl
            rw [List.foldlM_cons] at hl
            obtain ⟨l1, h1, h2⟩ := Option.bind_eq_some_iff.1 hl
            obtain ⟨kf, hkf, h3⟩ := Option.bind_eq_some_iff.1 h1
            split at h3
            · rename_i hcc
              simp only [Option.some.injEq] at h3; subst h3
              refine ih (acc ++ kf) (fun g hg => hL g (List.mem_cons_of_mem _ hg)) (fun j k hk => ?_) l h2
              by_cases hj : j < acc.length
              · rw [List.getElem?_append_left hj] at hk; exact ha j k hk
              · rw [List.getElem?_append_right (by omega)] at hk
                obtain ⟨y, hy⟩ := hL f (List.mem_cons_self ..)
                have := flatb_part (flatKb_ok d f.type kf hkf _ _ _ hy) hcc.2 hk
                rw [hcc.1, show acc.length + (j - acc.length) = j by omega] at this
                exact this
            · cases h3
        exact key fs.toList [] hf' (fun j k hk => by simp at hk) l hl
      · cases h
    · cases h
end
section
variable {H : Type} {enc : TypeId × Value → H} {P : Program} {w : World} {base : Nat} {spare : Nat → Bool} {held : Bool}
theorem open_rows {t e : TypeId} {ks : List (Option IntKind)} {fuel D : Nat} {cs : List Value} {x : DataW H × List MemPlace} (ht : P.underlying t = some (.slice e)) (hk : flatKb P D e = some ks) (ce : P.cellsOf e = ks.length) (hs : 0 < ks.length)
    (h : DataW.trod enc P w base spare held fuel t cs = some x) : ∃ a len cap, cs = [.slice a len cap] ∧ len ≤ maxLen ∧ len ≤ cap ∧ ∃ X : Nat → Nat → Value, (∀ i, i < len → ∀ (j : Nat) (k : Option IntKind), ks[j]? = some k → OkV k (X i j)) ∧ Fx.Arr w a len ks.length (Fx.flat ks.length X) := by
  rcases open_slice ht h with ⟨rfl, _⟩ | ⟨a', len, cap, m, n, D', Pl, rfl, _, hl, hm, hmm, _, hx⟩
  · exact ⟨none, 0, 0, rfl, by unfold maxLen; omega, Nat.le_refl _, fun _ _ => undef, fun i hi => absurd hi (by omega), fun h => absurd h (by omega)⟩
  · have hlm : len ≤ m := by rw [hmm]; split <;> omega
    have each : ∀ i j : Nat, ∃ q : Value, i < len → ∀ k, ks[j]? = some k → w.cell? (a'.add (i * ks.length + j)) = some q ∧ OkV k q := by
      intro i j
      by_cases hi : i < len ∧ j < ks.length
      · obtain ⟨cs', g1, g2⟩ := hx i (by omega)
        rw [ce] at g1
        obtain ⟨_, hlen, hcell⟩ := World.cells?_some g1
        obtain ⟨q, h1, h2⟩ := (flatKb_ok _ _ _ hk _ _ _ g2).2 j _ (List.getElem?_eq_getElem hi.2)
        refine ⟨q, fun _ k hkj => ?_⟩
        rw [List.getElem?_eq_getElem hi.2, Option.some.injEq] at hkj
        subst hkj
        have q0 := hcell j (by omega)
        rw [add_add] at q0
        exact ⟨by rw [← h1]; simpa using q0, h2⟩
      · refine ⟨undef, fun h1 k h2 => absurd ⟨h1, (List.getElem?_eq_some_iff.1 h2).1⟩ hi⟩
    refine ⟨some a', len, cap, rfl, by omega, hl, fun i j => Classical.choose (each i j), fun i hi j k hkj => (Classical.choose_spec (each i j) hi k hkj).2, fun h0 => ?_⟩
    have e0 : a'.add (0 * ks.length + 0) = a' := by unfold Addr.add; simp
    obtain ⟨q00, h00⟩ := each 0 0
    have hk0 := List.getElem?_eq_getElem hs
    have h00' := (h00 h0 _ hk0)
    have h01 := h00'.1
    rw [e0] at h01
    have e1 : ∃ b off, a' = ⟨b, off, none⟩ := by
      have h02 := h00'.2
      unfold OkV at h02
      split at h02
      · obtain ⟨nn, rfl, _⟩ := h02; exact spotless1 h01
      · obtain ⟨bb, rfl⟩ := h02
        unfold World.cell? at h01
        cases a' with
        | mk b off sp =>
          cases sp with
          | none => exact ⟨b, off, rfl⟩
          | some s => simp at h01; split at h01 <;> simp_all
    obtain ⟨b, off, e1⟩ := e1
    refine ⟨b, off, by rw [e1], fun p hp => ?_⟩
    have hj : p % ks.length < ks.length := Nat.mod_lt _ hs
    have hi : p / ks.length < len := Nat.div_lt_of_lt_mul (by rw [Nat.mul_comm]; exact hp)
    have := (Classical.choose_spec (each (p / ks.length) (p % ks.length)) hi _ (List.getElem?_eq_getElem hj)).1
    have ea : a'.add (p / ks.length * ks.length + p % ks.length) = ⟨b, off + p, none⟩ := by rw [e1, addr_add, Nat.mul_comm, Nat.div_add_mod]
    exact (congrArg w.cell? ea).symm.trans this
end
end Go.Proofs.Ytolmkjepieoloaa
namespace Go.Proofs.Ytolmkjepieoloaa
open Go.RowKit Go.WideShapes Go.ChangeShapes Go.Deep Rt
def boolOf : Value → Bool | .bool b => b | _ => false
theorem OkV.int {k : IntKind} {v : Value} (h : OkV (some k) v) : v = .int k (intOf v) ∧ (Lit.int k (intOf v)).wf = true := by
  obtain ⟨n, rfl, hw⟩ := h; exact ⟨rfl, hw⟩
theorem OkV.bool {v : Value} (h : OkV none v) : v = .bool (boolOf v) := by
  obtain ⟨b, rfl⟩ := h; rfl
theorem wf_u8 {n : Int} (h : (Lit.int .u8 n).wf = true) : 0 ≤ n ∧ n ≤ 255 := by simp [Lit.wf, IntKind.min, IntKind.max, IntKind.bits, IntKind.signed] at h; omega
theorem wf_u16 {n : Int} (h : (Lit.int .u16 n).wf = true) : 0 ≤ n ∧ n ≤ 65535 := by simp [Lit.wf, IntKind.min, IntKind.max, IntKind.bits, IntKind.signed] at h; omega
theorem wf_u64 {n : Int} (h : (Lit.int .u64 n).wf = true) : U64r n := by simp [Lit.wf, IntKind.min, IntKind.max, IntKind.bits, IntKind.signed] at h; unfold U64r; omega
theorem wf_64 {n : Int} (h : (Lit.int .i64 n).wf = true) : I64r n := by simp [Lit.wf, IntKind.min, IntKind.max, IntKind.bits, IntKind.signed] at h; unfold I64r; omega
theorem nat_u8 {n : Int} (h : (Lit.int .u8 n).wf = true) : ∃ m : Nat, n = (m : Int) ∧ m ≤ 255 := by
  have := wf_u8 h; exact ⟨n.toNat, by omega, by omega⟩
theorem Fx.Arr.congr {w : World} {a : Option Addr} {n s : Nat} {x y : Nat → Value} (h : Fx.Arr w a n s x) (e : ∀ p, p < n * s → x p = y p) : Fx.Arr w a n s y := fun h0 => by
  obtain ⟨b, off, ea, hc⟩ := h h0
  exact ⟨b, off, ea, fun i hi => by rw [← e i hi]; exact hc i hi⟩
def actKs : List (Option IntKind) := [some .u8, none, some .u8, some .u8, some .u8, some .u8, some .u16, some .u8, some .u8]
def actOf (X : Nat → Value) : ActM := ⟨(intOf (X 0)).toNat, boolOf (X 1), (intOf (X 2)).toNat, (intOf (X 3)).toNat, (intOf (X 4)).toNat, (intOf (X 5)).toNat, (intOf (X 6)).toNat, (intOf (X 7)).toNat, (intOf (X 8)).toNat⟩
theorem actOf_ok {X : Nat → Value} (h : ∀ (j : Nat) (k : Option IntKind), actKs[j]? = some k → OkV k (X j)) : ActOk (actOf X) ∧ ∀ j, j < 9 → X j = actY (actOf X) j := by
  have u8 : ∀ j, actKs[j]? = some (some .u8) → X j = .int .u8 ((intOf (X j)).toNat : Int) ∧ (intOf (X j)).toNat ≤ 255 := fun j hj => by
    obtain ⟨e, hw⟩ := (h j _ hj).int
    have := wf_u8 hw
    exact ⟨by rw [Int.toNat_of_nonneg this.1]; exact e, by omega⟩
  have h6 : X 6 = .int .u16 ((intOf (X 6)).toNat : Int) ∧ (intOf (X 6)).toNat ≤ 65535 := by
    obtain ⟨e, hw⟩ := (h 6 (some .u16) rfl).int
    have := wf_u16 hw
    exact ⟨by rw [Int.toNat_of_nonneg this.1]; exact e, by omega⟩
  refine ⟨⟨(u8 0 rfl).2, (u8 2 rfl).2, (u8 3 rfl).2, (u8 4 rfl).2, (u8 5 rfl).2, h6.2, (u8 7 rfl).2, (u8 8 rfl).2⟩, fun j hj => ?_⟩
  rcases j with _|_|_|_|_|_|_|_|_|j
  · exact (u8 0 rfl).1
  · exact (h 1 none rfl).bool
  · exact (u8 2 rfl).1
  · exact (u8 3 rfl).1
  · exact (u8 4 rfl).1
  · exact (u8 5 rfl).1
  · exact h6.1
  · exact (u8 7 rfl).1
  · exact (u8 8 rfl).1
  · omega
section
variable {H : Type} {enc : TypeId × Value → H} {P : Program} {w : World}
theorem open_acts {t e : TypeId} {a : Option Addr} {len cap D : Nat} {d : DataW H} {ps : List MemPlace} (ht : P.underlying t = some (.slice e)) (hk : flatKb P D e = some actKs) (ce : P.cellsOf e = 9)
    (h : DataW.Trod enc P w 0 (fun _ => true) true t (.slice a len cap) d ps) : ∃ xa : Nat → ActM, (∀ i, i < len → ActOk (xa i)) ∧ Fx.Arr w a len 9 (Fx.flat 9 fun k => actY (xa k)) := by
  obtain ⟨fuel, hf⟩ := h
  obtain ⟨a', l', c', hcs, _, _, X, hX, hA⟩ := open_rows ht hk ce (by decide) hf
  simp [Value.cells] at hcs
  obtain ⟨rfl, rfl, rfl⟩ := hcs
  exact ⟨fun i => actOf (X i), fun i hi => (actOf_ok (hX i hi)).1, hA.congr (Fx.flat_cong fun k hk j hj => (actOf_ok (hX k hk)).2 j hj)⟩
def ndKs : List (Option IntKind) := some .u64 :: some .u64 :: List.replicate 54 (some .i64)
def grKs : List (Option IntKind) := [some .i64, some .u64, some .u64, some .i64, some .u64]
theorem nd_ok {X : Nat → Value} (h : ∀ (j : Nat) (k : Option IntKind), ndKs[j]? = some k → OkV k (X j)) : (U64r (intOf (X 0)) ∧ U64r (intOf (X 1)) ∧ ∀ p, p < 54 → I64r (intOf (X (p + 2)))) ∧ ∀ j, j < 56 → X j = ndY (intOf (X 0)) (intOf (X 1)) (fun p => intOf (X (p + 2))) j := by
  have h0 := (h 0 (some .u64) rfl).int
  have h1 := (h 1 (some .u64) rfl).int
  have hp : ∀ p, p < 54 → X (p + 2) = .int .i64 (intOf (X (p + 2))) ∧ _ := fun p hp => (h (p + 2) (some .i64) (by show (List.replicate 54 (some IntKind.i64))[p]? = _; rw [List.getElem?_replicate, if_pos hp])).int
  refine ⟨⟨wf_u64 h0.2, wf_u64 h1.2, fun p h2 => wf_64 (hp p h2).2⟩, fun j hj => ?_⟩
  unfold ndY
  by_cases e0 : j = 0
  · subst e0; exact h0.1
  · by_cases e1 : j = 1
    · subst e1; exact h1.1
    · rw [if_neg e0, if_neg e1]
      have := (hp (j - 2) (by omega)).1
      rw [show j - 2 + 2 = j by omega] at this
      show X j = .int .i64 (intOf (X (j - 2 + 2)))
      rw [show j - 2 + 2 = j by omega]; exact this
theorem gr_ok {X : Nat → Value} (h : ∀ (j : Nat) (k : Option IntKind), grKs[j]? = some k → OkV k (X j)) : (I64r (intOf (X 0)) ∧ U64r (intOf (X 1)) ∧ U64r (intOf (X 2)) ∧ I64r (intOf (X 3)) ∧ U64r (intOf (X 4))) ∧ ∀ j, j < 5 → X j = grY (fun p => intOf (X p)) j := by
  have h0 := (h 0 (some .i64) rfl).int
  have h1 := (h 1 (some .u64) rfl).int
  have h2 := (h 2 (some .u64) rfl).int
  have h3 := (h 3 (some .i64) rfl).int
  have h4 := (h 4 (some .u64) rfl).int
  refine ⟨⟨wf_64 h0.2, wf_u64 h1.2, wf_u64 h2.2, wf_64 h3.2, wf_u64 h4.2⟩, fun j hj => ?_⟩
  rcases j with _|_|_|_|_|j
  · exact h0.1
  · exact h1.1
  · exact h2.1
  · exact h3.1
  · exact h4.1
  · omega
structure StA (w : World) (s : StM) (id par : Nat → Int) (R g : Nat → Nat → Int) : Prop where
  an : Fx.Arr w s.na s.nn 56 (Fx.flat 56 fun k => ndY (id k) (par k) (R k))
  ag : Fx.Arr w s.ga s.gn 5 (Fx.flat 5 fun k => grY (g k))
  wn : ∀ k, k < s.nn → U64r (id k) ∧ U64r (par k) ∧ ∀ p, p < 54 → I64r (R k p)
  wg : ∀ k, k < s.gn → I64r (g k 0) ∧ U64r (g k 1) ∧ U64r (g k 2) ∧ I64r (g k 3) ∧ U64r (g k 4)
  wk : ∀ i, i < 6 → U64r (s.known i)
  bn : s.nn ≤ maxLen
  bg : s.gn ≤ maxLen
theorem StA.nds {s : StM} {id par : Nat → Int} {R g : Nat → Nat → Int} (h : StA w s id par R g) : Nds w s.na s.nn id par R := fun _ hk => h.an.at hk
set_option maxHeartbeats 2000000 in
theorem open_state {r : Reach} {base : Nat} {t tb tv tn tg en eg : TypeId} {fs : Array Field} {v : Value} {D : Nat} {d : DataW H} {ps : List MemPlace} (ht : P.underlying t = some (.struct fs)) (h5 : fs.toList.map (fun f => (f.offset, f.type)) = [(0, tb), (6, tb), (12, tv), (18, tn), (19, tg)]) (ct : P.cellsOf t = 20)
    (cb : P.cellsOf tb = 6) (cv : P.cellsOf tv = 6) (cn : P.cellsOf tn = 1) (cg : P.cellsOf tg = 1) (kb : flatKb P D tb = some (List.replicate 6 none)) (kv : flatKb P D tv = some (List.replicate 6 (some .u64))) (sn : P.underlying tn = some (.slice en)) (sg : P.underlying tg = some (.slice eg))
    (kn : flatKb P D en = some ndKs) (kg : flatKb P D eg = some grKs) (cen : P.cellsOf en = 56) (ceg : P.cellsOf eg = 5) (hw : Value.okWide P w r base t v)
    (h : DataW.Trod enc P w 0 (fun _ => true) true t v d ps) : ∃ s id par R g, v = .agg (Fx.varr 20 (stY s)) ∧ StA w s id par R g := by
  unfold Value.okWide at hw
  rw [ht] at hw
  obtain ⟨cs, rfl, hsz, _⟩ := hw
  rw [ct] at hsz
  obtain ⟨fuel, hf⟩ := h
  have hf : DataW.trod enc P w 0 (fun _ => true) true fuel t cs.toList = some (d, ps) := hf
  obtain ⟨xs, n, _, _, hlen, hxl, hel⟩ := DataW.trod_struct ht hf
  have fld : ∀ (i off : Nat) (ft : TypeId), (fs.toList.map (fun f => (f.offset, f.type)))[i]? = some (off, ft) → ∃ y, DataW.trod enc P w 0 (fun _ => true) true n ft ((cs.toList.drop off).take (P.cellsOf ft)) = some y := fun i off ft hi => by
    rw [List.getElem?_map] at hi
    obtain ⟨f, hf1, hf2⟩ := Option.map_eq_some_iff.1 hi
    simp only [Prod.mk.injEq] at hf2
    obtain ⟨rfl, rfl⟩ := hf2
    rw [Array.getElem?_toList] at hf1
    have h1 := hel i f hf1
    have hi2 := (Array.getElem?_eq_some_iff.1 hf1).1
    rw [List.getElem?_eq_getElem (by omega)] at h1
    exact ⟨_, h1⟩
  rw [h5] at fld
  obtain ⟨y0, f0⟩ := fld 0 0 tb rfl
  obtain ⟨y1, f1⟩ := fld 1 6 tb rfl
  obtain ⟨y2, f2⟩ := fld 2 12 tv rfl
  obtain ⟨y3, f3⟩ := fld 3 18 tn rfl
  obtain ⟨y4, f4⟩ := fld 4 19 tg rfl
  have b0 := flatKb_ok _ _ _ kb _ _ _ f0
  have b1 := flatKb_ok _ _ _ kb _ _ _ f1
  have b2 := flatKb_ok _ _ _ kv _ _ _ f2
  obtain ⟨na, nn, nc, e3, bn, _, X, hX, hA⟩ := open_rows sn kn cen (by decide) f3
  obtain ⟨ga, gn, gc, e4, bg, _, Y, hY, hB⟩ := open_rows sg kg ceg (by decide) f4
  have cell : ∀ (off m j : Nat) (v : Value), j < m → ((cs.toList.drop off).take m)[j]? = some v → cs[off + j]? = some v := fun off m j v hj hv => by
    rw [List.getElem?_take_of_lt hj, List.getElem?_drop, Array.getElem?_toList] at hv; exact hv
  have c0 : ∀ j, j < 6 → ∃ b, cs[j]? = some (.bool b) := fun j hj => by
    obtain ⟨v, hv, b, rfl⟩ := b0.2 j none (by rw [List.getElem?_replicate, if_pos hj])
    exact ⟨b, by have := cell 0 _ j _ (by rw [cb]; exact hj) hv; rwa [Nat.zero_add] at this⟩
  have c1 : ∀ j, j < 6 → ∃ b, cs[j + 6]? = some (.bool b) := fun j hj => by
    obtain ⟨v, hv, b, rfl⟩ := b1.2 j none (by rw [List.getElem?_replicate, if_pos hj])
    exact ⟨b, by have := cell 6 _ j _ (by rw [cb]; exact hj) hv; rwa [Nat.add_comm] at this⟩
  have c2 : ∀ j, j < 6 → ∃ n, cs[j + 12]? = some (.int .u64 n) ∧ U64r n := fun j hj => by
    obtain ⟨v, hv, q, rfl, hw⟩ := b2.2 j (some .u64) (by rw [List.getElem?_replicate, if_pos hj])
    exact ⟨q, by have := cell 12 _ j _ (by rw [cv]; exact hj) hv; rwa [Nat.add_comm] at this, wf_u64 hw⟩
  have c3 : cs[18]? = some (.slice na nn nc) := cell 18 (P.cellsOf tn) 0 _ (by rw [cn]; decide) (by rw [e3]; rfl)
  have c4 : cs[19]? = some (.slice ga gn gc) := cell 19 (P.cellsOf tg) 0 _ (by rw [cg]; decide) (by rw [e4]; rfl)
  let s : StM := ⟨fun i => boolOf (cs.getD i undef), fun i => boolOf (cs.getD (i + 6) undef), fun i => intOf (cs.getD (i + 12) undef), na, nn, nc, ga, gn, gc⟩
  have gd : ∀ i v, cs[i]? = some v → cs.getD i undef = v := fun i v hv => by rw [Array.getD_eq_getD_getElem?, hv]; rfl
  have hX' := fun k (hk : k < nn) => nd_ok (hX k hk)
  have hY' := fun k (hk : k < gn) => gr_ok (hY k hk)
  refine ⟨s, fun k => intOf (X k 0), fun k => intOf (X k 1), fun k p => intOf (X k (p + 2)), fun k p => intOf (Y k p), ?_, {
    an := hA.congr (Fx.flat_cong fun k hk j hj => (hX' k hk).2 j hj)
    ag := hB.congr (Fx.flat_cong fun k hk j hj => (hY' k hk).2 j hj)
    wn := fun k hk => (hX' k hk).1
    wg := fun k hk => (hY' k hk).1
    wk := fun i hi => by
      obtain ⟨q, hq, hu⟩ := c2 i hi
      show U64r (intOf (cs.getD (i + 12) undef))
      rw [gd _ _ hq]; exact hu
    bn := bn
    bg := bg }⟩
  congr 1
  refine Fx.varr_ext hsz fun i hi => ?_
  unfold stY
  by_cases h1 : i < 6
  · obtain ⟨b, hb⟩ := c0 i h1
    rw [if_pos h1, hb]
    show _ = some (Value.bool (boolOf (cs.getD i undef)))
    rw [gd _ _ hb]; rfl
  · rw [if_neg h1]
    by_cases h2 : i < 12
    · obtain ⟨b, hb⟩ := c1 (i - 6) (by omega)
      rw [show i - 6 + 6 = i by omega] at hb
      rw [if_pos h2, hb]
      show _ = some (Value.bool (boolOf (cs.getD (i - 6 + 6) undef)))
      rw [show i - 6 + 6 = i by omega, gd _ _ hb]; rfl
    · rw [if_neg h2]
      by_cases h3 : i < 18
      · obtain ⟨q, hq, _⟩ := c2 (i - 12) (by omega)
        rw [show i - 12 + 12 = i by omega] at hq
        rw [if_pos h3, hq]
        show _ = some (Value.int .u64 (intOf (cs.getD (i - 12 + 12) undef)))
        rw [show i - 12 + 12 = i by omega, gd _ _ hq]; rfl
      · rw [if_neg h3]
        by_cases h4 : i = 18
        · subst h4; rw [if_pos rfl, c3]
        · rw [if_neg h4, show i = 19 by omega, c4]
end
end Go.Proofs.Ytolmkjepieoloaa
namespace Go.Proofs.Ytolmkjepieoloaa
open Go.RowKit Rt
namespace Rt
theorem share_zero {l n : Int} (h : l < 1 ∨ n < 1 ∨ 1125899906842624 < l ∨ 1125899906842624 < n) : shareM l n = 0 := by
  unfold shareM
  rw [if_neg]
  intro hc
  rw [Bool.and_eq_true] at hc
  have h1 := mayS_bd hc.1
  have h2 := mayS_bd hc.2
  omega
theorem share_some {l n : Int} (h1 : ¬ l < 1) (h2 : ¬ n < 1) (h3 : ¬ 1125899906842624 < l) (h4 : ¬ 1125899906842624 < n) : shareM l n = mnI n ((l + 1) / 2) := by
  unfold shareM
  rw [if_pos]
  unfold mayS
  rw [decide_eq_true (by omega), decide_eq_true (by omega), decide_eq_true (by omega), decide_eq_true (by omega)]; rfl
def refQ (s : StM) (i : Int) (r : Nat → Int) (st : Int × Int) : Nat → Int × Int
  | 0 => st
  | j + 1 => if ¬ (j : Int) + 1 = i ∧ s.inn j = true ∧ s.left j = false ∧ (refQ s i r st j).1 < localV r ((j : Int) + 1) then (localV r ((j : Int) + 1), (j : Int) + 1) else refQ s i r st j
def refP (s : StM) (id : Nat → Int) (R : Nat → Nat → Int) (i node : Int) : Nat → Int × Int
  | 0 => (0, 0)
  | k + 1 => if id k = node then refQ s i (R k) (refP s id R i node k) 6 else refP s id R i node k
def refW (s : StM) (id : Nat → Int) (R : Nat → Nat → Int) (i node : Int) : Int := (refP s id R i node s.nn).2
section
variable {s : StM} {id : Nat → Int} {R : Nat → Nat → Int} {i node b2 w2 b wv : Int} {j k : Nat} {r : Nat → Int} {st : Int × Int}
theorem refQ_yes (h : refQ s i r st j = (b2, w2)) (h1 : ¬ (j : Int) + 1 = i) (h2 : s.inn j = true) (h3 : s.left j = false) (h4 : b2 < localV r ((j : Int) + 1)) : refQ s i r st (j + 1) = (localV r ((j : Int) + 1), (j : Int) + 1) := by
  unfold refQ; rw [h]; exact if_pos ⟨h1, h2, h3, h4⟩
theorem refQ_no (h : refQ s i r st j = (b2, w2)) (h1 : ¬ (¬ (j : Int) + 1 = i ∧ s.inn j = true ∧ s.left j = false ∧ b2 < localV r ((j : Int) + 1))) : refQ s i r st (j + 1) = (b2, w2) := by
  unfold refQ; rw [h]; exact if_neg h1
theorem refP_yes (h : refP s id R i node k = (b, wv)) (hi : id k = node) (h2 : refQ s i (R k) (b, wv) 6 = (b2, w2)) : refP s id R i node (k + 1) = (b2, w2) := by
  unfold refP; rw [if_pos hi, h, h2]
theorem refP_no (h : refP s id R i node k = (b, wv)) (hi : ¬ id k = node) : refP s id R i node (k + 1) = (b, wv) := by
  unfold refP; rw [if_neg hi, h]
theorem whomN_none {n : Nat} (h : ∀ k, k < n → id k ≠ node) : ∀ {j : Int}, whomN id R node j n = 0 := by
  intro j
  induction n with
  | zero => rfl
  | succ n ih => unfold whomN; rw [if_neg (h n (by omega))]; exact ih fun k hk => h k (by omega)
theorem refP_none {n : Nat} (h : ∀ k, k < n → id k ≠ node) : refP s id R i node n = (0, 0) := by
  induction n with
  | zero => rfl
  | succ n ih => unfold refP; rw [if_neg (h n (by omega))]; exact ih fun k hk => h k (by omega)
theorem whomN_one {n k0 : Nat} (hk : k0 < n) (hid : id k0 = node) (hu : ∀ k, k < n → k ≠ k0 → id k ≠ node) {j : Int} : whomN id R node j n = mxI 0 (localV (R k0) j) := by
  induction n with
  | zero => omega
  | succ n ih =>
    unfold whomN
    by_cases e : k0 = n
    · subst e
      rw [if_pos hid, whomN_none fun k hk => hu k (by omega) (by omega)]
    · rw [if_neg (hu n (by omega) (fun h => e h.symm))]
      exact ih (by omega) fun k hk => hu k (by omega)
theorem refP_one {n k0 : Nat} (hk : k0 < n) (hid : id k0 = node) (hu : ∀ k, k < n → k ≠ k0 → id k ≠ node) : refP s id R i node n = refQ s i (R k0) (0, 0) 6 := by
  induction n with
  | zero => omega
  | succ n ih =>
    unfold refP
    by_cases e : k0 = n
    · subst e
      rw [if_pos hid, refP_none fun k hk => hu k (by omega) (by omega)]
    · rw [if_neg (hu n (by omega) (fun h => e h.symm))]
      exact ih (by omega) fun k hk => hu k (by omega)
theorem best_zero {v : Nat → Int} (h : ∀ k, v k = 0) : ∀ n, bestN v n = (0, 0)
  | 0 => rfl
  | n + 1 => by unfold bestN; rw [best_zero h n, h n]; rfl
theorem whom_eq (hu : ∀ a c, a < s.nn → c < s.nn → id a = id c → a = c) : whomM s id R i node = refW s id R i node := by
  unfold whomM refW
  by_cases hex : ∃ k0, k0 < s.nn ∧ id k0 = node
  · obtain ⟨k0, hk, hid⟩ := hex
    have hu' : ∀ k, k < s.nn → k ≠ k0 → id k ≠ node := fun k h1 h2 h3 => h2 (hu k k0 h1 hk (h3.trans hid.symm))
    rw [refP_one hk hid hu']
    have key : ∀ n, 0 ≤ (bestN (whomV s id R i node) n).2 ∧ (refQ s i (R k0) (0, 0) n) = ((bestN (whomV s id R i node) n).2, (bestN (whomV s id R i node) n).1) := by
      intro n
      induction n with
      | zero => exact ⟨Int.le_refl _, rfl⟩
      | succ n ih =>
        obtain ⟨h0, h1⟩ := ih
        have hv : whomV s id R i node n = if decide ((n : Int) + 1 = i) || !s.inn n || s.left n then 0 else mxI 0 (localV (R k0) ((n : Int) + 1)) := by
          unfold whomV; rw [whomN_one hk hid hu']
        have hm : ∀ x : Int, mxI 0 x = if x > 0 then x else 0 := fun x => rfl
        have hb : bestN (whomV s id R i node) (n + 1) = if (bestN (whomV s id R i node) n).2 < whomV s id R i node n then ((n : Int) + 1, whomV s id R i node n) else bestN (whomV s id R i node) n := rfl
        have hq : refQ s i (R k0) (0, 0) (n + 1) = if ¬ (n : Int) + 1 = i ∧ s.inn n = true ∧ s.left n = false ∧ (refQ s i (R k0) (0, 0) n).1 < localV (R k0) ((n : Int) + 1) then (localV (R k0) ((n : Int) + 1), (n : Int) + 1) else refQ s i (R k0) (0, 0) n := rfl
        rw [h1] at hq
        have claim : ((bestN (whomV s id R i node) n).2 < whomV s id R i node n ∧ whomV s id R i node n = localV (R k0) ((n : Int) + 1) ∧ (¬ (n : Int) + 1 = i ∧ s.inn n = true ∧ s.left n = false ∧ (bestN (whomV s id R i node) n).2 < localV (R k0) ((n : Int) + 1))) ∨
            (¬ (bestN (whomV s id R i node) n).2 < whomV s id R i node n ∧ ¬ (¬ (n : Int) + 1 = i ∧ s.inn n = true ∧ s.left n = false ∧ (bestN (whomV s id R i node) n).2 < localV (R k0) ((n : Int) + 1))) := by
          by_cases c1 : (n : Int) + 1 = i
          · right
            rw [decide_eq_true c1] at hv
            simp only [Bool.true_or, if_true] at hv
            exact ⟨by rw [hv]; omega, fun h => h.1 c1⟩
          · rw [decide_eq_false c1] at hv
            cases c2 : s.inn n
            · right
              rw [c2] at hv
              simp only [Bool.not_false, Bool.false_or, Bool.true_or, if_true] at hv
              exact ⟨by rw [hv]; omega, fun h => by cases h.2.1⟩
            · cases c3 : s.left n
              · rw [c2, c3] at hv
                simp only [Bool.not_true, Bool.false_or, Bool.or_false, Bool.false_eq_true, if_false] at hv
                rw [hm] at hv
                by_cases c4 : (bestN (whomV s id R i node) n).2 < localV (R k0) ((n : Int) + 1)
                · left
                  rw [if_pos (by omega)] at hv
                  exact ⟨by rw [hv]; exact c4, hv, c1, rfl, rfl, c4⟩
                · right
                  refine ⟨?_, fun h => c4 h.2.2.2⟩
                  split at hv <;> omega
              · right
                rw [c2, c3] at hv
                simp only [Bool.or_true, if_true] at hv
                exact ⟨by rw [hv]; omega, fun h => by cases h.2.2.1⟩
        rcases claim with ⟨q1, q2, q3⟩ | ⟨q1, q2⟩
        · rw [hb, hq, if_pos q1, if_pos q3, q2]
          exact ⟨by show 0 ≤ localV (R k0) ((n : Int) + 1); omega, rfl⟩
        · rw [hb, hq, if_neg q1, if_neg q2]
          exact ⟨h0, rfl⟩
    rw [(key 6).2]
  · have hn : ∀ k, k < s.nn → id k ≠ node := fun k h1 h2 => hex ⟨k, h1, h2⟩
    rw [refP_none hn, best_zero]
    intro k
    unfold whomV
    split
    · rfl
    · exact whomN_none hn
end
end Rt
theorem r_share (l n : Int) (w : World) :
    Calls Try.prog 26 #[.int .i64 (l), .int .i64 (n)] w fun e w' => e = .returned (.int .i64 (shareM l n)) ∧ w' = w := by
 refine Fx.enter Try.func26 rfl (n := 24) rfl (by rfl) ?_
 refine Fx.W.seq (Fx.W.list (Fx.L.v (.int .i64 (0)) (Fx.x_assign rfl rfl) ?_))
 refine Fx.L.nil (Fx.seqN (Fx.W.seq (Fx.W.seq (Fx.W.list (Fx.L.v (.int .i64 (l)) (Fx.x_move rfl rfl) ?_)))))
 by_cases c6 : l < 1
 ·refine Fx.L.v (.bool true) (Fx.x_lssT rfl rfl rfl c6) ?_
  refine Fx.L.v (.bool true) (Fx.x_move rfl rfl) ?_
  refine Fx.L.skip (by rfl) rfl ?_
  refine Fx.L.skip (by rfl) rfl ?_
  refine Fx.L.v (.bool true) (Fx.x_pickT rfl rfl rfl) ?_
  refine Fx.L.v (.bool true) (Fx.x_move rfl rfl) ?_
  refine Fx.L.skip (by rfl) rfl ?_
  refine Fx.L.skip (by rfl) rfl ?_
  refine Fx.L.v (.bool true) (Fx.x_pickT rfl rfl rfl) ?_
  refine Fx.L.v (.bool true) (Fx.x_move rfl rfl) ?_
  refine Fx.L.skip (by rfl) rfl ?_
  refine Fx.L.skip (by rfl) rfl ?_
  refine Fx.L.v (.bool true) (Fx.x_pickT rfl rfl rfl) ?_
  refine Fx.L.nil (Fx.seqN (Fx.W.cond (b := true) rfl (fun _ => Fx.W.seq (Fx.W.list (Fx.L.v (.int .i64 (0)) (Fx.x_assign rfl rfl) ?_))) (fun h => nomatch h)))
  refine Fx.L.nil (Fx.seqN (Fx.W.ret (Fx.seqR (⟨.int .i64 (0), Fx.retV1 Try.results26 (by exact rfl), ?_⟩))))
  exact ⟨congrArg (fun q => Ending.returned (Value.int .i64 q)) (share_zero (.inl c6)).symm, rfl⟩
 ·refine Fx.L.v (.bool false) (Fx.x_lssF rfl rfl rfl c6) ?_
  refine Fx.L.v (.bool false) (Fx.x_move rfl rfl) ?_
  refine Fx.L.v (.int .i64 (n)) (Fx.x_move rfl rfl) ?_
  by_cases c9 : n < 1
  ·refine Fx.L.v (.bool true) (Fx.x_lssT rfl rfl rfl c9) ?_
   refine Fx.L.v (.bool true) (Fx.x_pickF rfl rfl rfl) ?_
   refine Fx.L.v (.bool true) (Fx.x_move rfl rfl) ?_
   refine Fx.L.skip (by rfl) rfl ?_
   refine Fx.L.skip (by rfl) rfl ?_
   refine Fx.L.v (.bool true) (Fx.x_pickT rfl rfl rfl) ?_
   refine Fx.L.v (.bool true) (Fx.x_move rfl rfl) ?_
   refine Fx.L.skip (by rfl) rfl ?_
   refine Fx.L.skip (by rfl) rfl ?_
   refine Fx.L.v (.bool true) (Fx.x_pickT rfl rfl rfl) ?_
   refine Fx.L.nil (Fx.seqN (Fx.W.cond (b := true) rfl (fun _ => Fx.W.seq (Fx.W.list (Fx.L.v (.int .i64 (0)) (Fx.x_assign rfl rfl) ?_))) (fun h => nomatch h)))
   refine Fx.L.nil (Fx.seqN (Fx.W.ret (Fx.seqR (⟨.int .i64 (0), Fx.retV1 Try.results26 (by exact rfl), ?_⟩))))
   exact ⟨congrArg (fun q => Ending.returned (Value.int .i64 q)) (share_zero (.inr (.inl c9))).symm, rfl⟩
  ·refine Fx.L.v (.bool false) (Fx.x_lssF rfl rfl rfl c9) ?_
   refine Fx.L.v (.bool false) (Fx.x_pickF rfl rfl rfl) ?_
   refine Fx.L.v (.bool false) (Fx.x_move rfl rfl) ?_
   refine Fx.L.v (.int .i64 (l)) (Fx.x_move rfl rfl) ?_
   by_cases c13 : 1125899906842624 < l
   ·refine Fx.L.v (.bool true) (Fx.x_gtrT rfl rfl rfl c13) ?_
    refine Fx.L.v (.bool true) (Fx.x_pickF rfl rfl rfl) ?_
    refine Fx.L.v (.bool true) (Fx.x_move rfl rfl) ?_
    refine Fx.L.skip (by rfl) rfl ?_
    refine Fx.L.skip (by rfl) rfl ?_
    refine Fx.L.v (.bool true) (Fx.x_pickT rfl rfl rfl) ?_
    refine Fx.L.nil (Fx.seqN (Fx.W.cond (b := true) rfl (fun _ => Fx.W.seq (Fx.W.list (Fx.L.v (.int .i64 (0)) (Fx.x_assign rfl rfl) ?_))) (fun h => nomatch h)))
    refine Fx.L.nil (Fx.seqN (Fx.W.ret (Fx.seqR (⟨.int .i64 (0), Fx.retV1 Try.results26 (by exact rfl), ?_⟩))))
    exact ⟨congrArg (fun q => Ending.returned (Value.int .i64 q)) (share_zero (.inr (.inr (.inl c13)))).symm, rfl⟩
   ·refine Fx.L.v (.bool false) (Fx.x_gtrF rfl rfl rfl c13) ?_
    refine Fx.L.v (.bool false) (Fx.x_pickF rfl rfl rfl) ?_
    refine Fx.L.v (.bool false) (Fx.x_move rfl rfl) ?_
    refine Fx.L.v (.int .i64 (n)) (Fx.x_move rfl rfl) ?_
    by_cases c17 : 1125899906842624 < n
    ·refine Fx.L.v (.bool true) (Fx.x_gtrT rfl rfl rfl c17) ?_
     refine Fx.L.v (.bool true) (Fx.x_pickF rfl rfl rfl) ?_
     refine Fx.L.nil (Fx.seqN (Fx.W.cond (b := true) rfl (fun _ => Fx.W.seq (Fx.W.list (Fx.L.v (.int .i64 (0)) (Fx.x_assign rfl rfl) ?_))) (fun h => nomatch h)))
     refine Fx.L.nil (Fx.seqN (Fx.W.ret (Fx.seqR (⟨.int .i64 (0), Fx.retV1 Try.results26 (by exact rfl), ?_⟩))))
     exact ⟨congrArg (fun q => Ending.returned (Value.int .i64 q)) (share_zero (.inr (.inr (.inr c17)))).symm, rfl⟩
    ·refine Fx.L.v (.bool false) (Fx.x_gtrF rfl rfl rfl c17) ?_
     refine Fx.L.v (.bool false) (Fx.x_pickF rfl rfl rfl) ?_
     refine Fx.L.nil (Fx.seqN (Fx.W.cond (b := false) rfl (fun h => nomatch h) (fun _ => Fx.W.skip (Fx.seqN (Fx.W.seq (Fx.W.list (Fx.L.v (.int .i64 (n)) (Fx.x_move rfl rfl) ?_)))))))
     refine Fx.L.v (.int .i64 (l)) (Fx.x_move rfl rfl) ?_
     refine Fx.L.v (.int .i64 (l + 1)) (Fx.x_add rfl rfl rfl (Fx.i64e (by omega) (by omega))) ?_
     refine Fx.L.v (.int .i64 ((l + 1) / 2)) (Fx.x_quo rfl rfl rfl (by omega) (by rw [Int.tdiv_eq_ediv_of_nonneg (by omega)]; exact Fx.i64e (by omega) rfl)) ?_
     refine Fx.L.v (.int .i64 (mnI n ((l + 1) / 2))) (Fx.x_min rfl rfl rfl) ?_
     refine Fx.L.v (.int .i64 (mnI n ((l + 1) / 2))) (Fx.x_assign rfl rfl) ?_
     refine Fx.L.nil (Fx.seqN (Fx.W.ret (⟨.int .i64 (mnI n ((l + 1) / 2)), Fx.retV1 Try.results26 (by exact rfl), ?_⟩)))
     exact ⟨congrArg (fun q => Ending.returned (Value.int .i64 q)) (share_some c6 c9 c13 c17).symm, rfl⟩
set_option maxRecDepth 10000 in
theorem r_whom (s : StM) (id par : Nat → Int) (R : Nat → Nat → Int) (i node : Int) (w : World) (hnn : s.nn ≤ 1000000) (hnd : Nds w s.na s.nn id par R) :
    Calls Try.prog 28 #[.agg (Fx.varr 20 (stY s)), .int .i64 (i), .int .u64 (node)] w fun e w' => e = .returned (.int .i64 (refW s id R i node)) ∧ Below w.heap.size w w' := by
 refine Fx.enter Try.func28 rfl (n := 67) rfl (by rfl) ?_
 refine Fx.W.seq (Fx.W.list (Fx.L.box (m := 20) (y := stY s) (by rfl) rfl rfl (Fx.cells_agg _ _) rfl fun g1 w1 eg1 m1 s1 z1 => ?_))
 have b1 := s1.below (Below.refl w.heap.size w) (Below.refl w.heap.size w).size (Below.refl w.heap.size w).size
 have lg1 : w.heap.size ≤ g1 := by rw [eg1]; exact (Below.refl w.heap.size w).size
 have tg1 : g1 < w1.heap.size := m1.lt
 clear eg1
 refine Fx.L.v (.int .i64 (0)) (Fx.x_assign rfl rfl) ?_
 refine Fx.L.nil (Fx.seqN (Fx.W.seq (Fx.W.list (Fx.L.v (.int .i64 (0)) (Fx.x_assign rfl rfl) ?_))))
 refine Fx.L.nil (Fx.seqN (Fx.W.seq (Fx.W.list (Fx.L.v (.int .i64 (0)) (Fx.x_assign rfl rfl) ?_))))
 refine Fx.L.nil (Fx.seqN (Fx.W.seq (Fx.W.seq (Fx.W.list (Fx.L.v (.int .i64 (0)) (Fx.x_assign rfl rfl) ?_)))))
 refine Fx.L.nil (Fx.seqN (Fx.W.block (Fx.W.loop (fun f w_ => ∃ k : Nat, ∃ b : Int, ∃ wv : Int, k ≤ s.nn ∧ refP s id R i node k = (b, wv) ∧ f 1 = .int .i64 (i) ∧ f 2 = .int .u64 (node) ∧ f 3 = .pointer (some ⟨g1, 0, none⟩) ∧ f 7 = .int .i64 (b) ∧ f 8 = .int .i64 (wv) ∧ f 9 = .int .i64 ((k : Int)) ∧ Fx.Blk w_ g1 20 (stY s) 43 ∧ Below w.heap.size w w_) (fun f _ => (s.nn - (intOf (f 9)).toNat)) ⟨0, 0, 0, by omega, rfl, (by first | rfl | exact congrArg (Value.int .i64) (by omega)), (by first | rfl | exact congrArg (Value.int .u64) (by omega)), (by rfl), (by first | rfl | exact congrArg (Value.int .i64) (by omega)), (by first | rfl | exact congrArg (Value.int .i64) (by omega)), (by first | rfl | exact congrArg (Value.int .i64) (by omega)), m1, b1⟩ ?_)))
 rintro f1 w2 ⟨k, b, wv, hk, hP, h1, h2, h3, h4, h5, h6, m2, b2⟩
 refine Fx.W.seq (Fx.W.seq (Fx.W.list (Fx.L.v (.int .i64 ((k : Int))) (Fx.x_move rfl h6) ?_)))
 refine Fx.L.v (.pointer (some ⟨g1, 18, none⟩)) (Fx.x_field rfl h3 Try.underlying43 rfl (s := 1) (by kernel_rfl) rfl (by show _ + 18 = _; omega)) ?_
 refine Fx.L.v (.slice s.na (s.nn) (s.nc)) (Fx.x_load1 (x := stY s) rfl rfl (by kernel_rfl) m2.cel (i := 18) (by omega) (by omega) rfl) ?_
 refine Fx.L.v (.int .i64 ((s.nn : Int))) (Fx.x_len rfl rfl rfl (by kernel_rfl)) ?_
 by_cases c16 : (k : Int) < (s.nn : Int)
 ·refine Fx.L.v (.bool true) (Fx.x_lssT rfl rfl rfl c16) ?_
  refine Fx.L.nil (Fx.seqN (Fx.W.cond (b := true) rfl (fun _ => Fx.W.skip (Fx.seqN (Fx.W.seq (Fx.W.block (Fx.W.seq (Fx.W.list (Fx.L.v (.int .i64 (1)) (Fx.x_assign rfl rfl) ?_))))))) (fun h => nomatch h)))
  refine Fx.L.nil (Fx.seqN (Fx.W.block (Fx.W.loop (fun f w_ => ∃ j : Nat, ∃ b2 : Int, ∃ w2 : Int, j ≤ 6 ∧ ((j = 0 ∨ id k = node)) ∧ refQ s i (R k) (b, wv) j = (b2, w2) ∧ f 1 = .int .i64 (i) ∧ f 2 = .int .u64 (node) ∧ f 3 = .pointer (some ⟨g1, 0, none⟩) ∧ f 7 = .int .i64 (b2) ∧ f 8 = .int .i64 (w2) ∧ f 9 = .int .i64 ((k : Int)) ∧ f 10 = .int .i64 ((j : Int) + 1) ∧ Fx.Blk w_ g1 20 (stY s) 43 ∧ Below w.heap.size w w_) (fun f _ => (7 - (intOf (f 10)).toNat)) ⟨0, b, wv, by omega, .inl rfl, rfl, (h1.trans (by first | rfl | exact congrArg (Value.int .i64) (by omega))), (h2.trans (by first | rfl | exact congrArg (Value.int .u64) (by omega))), h3, (h4.trans (by first | rfl | exact congrArg (Value.int .i64) (by omega))), (h5.trans (by first | rfl | exact congrArg (Value.int .i64) (by omega))), (h6.trans (by first | rfl | exact congrArg (Value.int .i64) (by omega))), (by first | rfl | exact congrArg (Value.int .i64) (by omega)), m2, b2⟩ ?_)))
  rintro f2 w3 ⟨j, b2, w2, hj, hjk, hQ, h7, h8, h9, h10, h11, h12, h13, m3, b3⟩
  refine Fx.W.seq (Fx.W.seq ?_)
  obtain ⟨b4, off1, ea1, hcn1⟩ := hnd k (by omega)
  have lb4 : b4 < w.heap.size := hcn1.lt (by omega)
  have m4 := hcn1.below b3 lb4
  refine Fx.W.list (Fx.L.v (.int .i64 ((j : Int) + 1)) (Fx.x_move rfl h13) ?_)
  by_cases c20 : ((j : Int) + 1) ≤ 6
  ·refine Fx.L.v (.bool true) (Fx.x_leqT rfl rfl rfl c20) ?_
   refine Fx.L.v (.bool true) (Fx.x_move rfl rfl) ?_
   refine Fx.L.v (.pointer (some ⟨g1, 18, none⟩)) (Fx.x_field rfl h9 Try.underlying43 rfl (s := 1) (by kernel_rfl) rfl (by show _ + 18 = _; omega)) ?_
   refine Fx.L.v (.slice s.na (s.nn) (s.nc)) (Fx.x_load1 (x := stY s) rfl rfl (by kernel_rfl) m3.cel (i := 18) (by omega) (by omega) rfl) ?_
   refine Fx.L.v (.int .i64 ((k : Int))) (Fx.x_move rfl h12) ?_
   refine Fx.L.v (.pointer (some ⟨b4, 56 * k + off1, none⟩)) (Fx.x_indexS rfl (rfl.trans (congrArg (fun q => Value.slice q (s.nn) (s.nc)) ea1)) rfl Try.underlying40 (s := 56) (by kernel_rfl) (by omega) (by omega) (by omega)) ?_
   refine Fx.L.v (.pointer (some ⟨b4, 56 * k + off1, none⟩)) (Fx.x_field rfl rfl Try.underlying50 rfl (s := 1) (by kernel_rfl) rfl rfl) ?_
   refine Fx.L.v (.int .u64 (id k)) (Fx.x_load1 (x := ndY (id k) (par k) (R k)) rfl rfl (by kernel_rfl) m4 (i := 0) (by omega) (by omega) rfl) ?_
   refine Fx.L.v (.int .u64 (node)) (Fx.x_move rfl h8) ?_
   by_cases c29 : (id k) = node
   ·refine Fx.L.v (.bool true) (Fx.x_eqlT rfl rfl rfl c29) ?_
    refine Fx.L.v (.bool true) (Fx.x_pickT rfl rfl rfl) ?_
    refine Fx.L.nil (Fx.seqN (Fx.W.cond (b := true) rfl (fun _ => Fx.W.skip (Fx.seqN (Fx.W.seq (Fx.W.block (Fx.W.seq (Fx.W.list (Fx.L.v (.pointer (some ⟨g1, 18, none⟩)) (Fx.x_field rfl h9 Try.underlying43 rfl (s := 1) (by kernel_rfl) rfl (by show _ + 18 = _; omega)) ?_))))))) (fun h => nomatch h)))
    refine Fx.L.v (.slice s.na (s.nn) (s.nc)) (Fx.x_load1 (x := stY s) rfl rfl (by kernel_rfl) m3.cel (i := 18) (by omega) (by omega) rfl) ?_
    refine Fx.L.v (.int .i64 ((k : Int))) (Fx.x_move rfl h12) ?_
    refine Fx.L.v (.pointer (some ⟨b4, 56 * k + off1, none⟩)) (Fx.x_indexS rfl (rfl.trans (congrArg (fun q => Value.slice q (s.nn) (s.nc)) ea1)) rfl Try.underlying40 (s := 56) (by kernel_rfl) (by omega) (by omega) (by omega)) ?_
    refine Fx.L.v (.pointer (some ⟨b4, 56 * k + off1 + 2, none⟩)) (Fx.x_field rfl rfl Try.underlying50 rfl (s := 54) (by kernel_rfl) rfl (by show _ + 2 = _; omega)) ?_
    refine Fx.L.v (.agg (Fx.varr 54 (Fx.rv .i64 (R k)))) (Fx.x_loadA (x := ndY (id k) (par k) (R k)) (y := Fx.rv .i64 (R k)) rfl rfl (by kernel_rfl) (by kernel_rfl) m4 (i := 2) (by omega) (by omega) (fun q _ => ndY_row _ _ _ q)) ?_
    refine Fx.L.v (.int .i64 ((j : Int) + 1)) (Fx.x_move rfl h13) ?_
    refine Fx.L.call (by rfl) (Fx.r_call (args := [.agg (Fx.varr 54 (Fx.rv .i64 (R k))), .int .i64 ((j : Int) + 1)]) rfl rfl Try.func52 rfl rfl) rfl ((f7_localV (R k) ((j : Int) + 1) _).mono ?_)
    rintro e w4 ⟨he, hb1⟩
    refine ⟨.int .i64 (localV (R k) ((j : Int) + 1)), by rw [he], ?_⟩
    clear he
    have s2 := Fx.Stp.of_below hb1
    have m5 := m3.stp s2 (Nat.ne_of_lt (m3.lt))
    have m6 := m4.stp s2 (Nat.ne_of_lt (m4.lt (by omega)))
    have b5 := s2.below b3 b3.size b3.size
    refine Fx.L.v (.int .i64 (localV (R k) ((j : Int) + 1))) (Fx.x_assign rfl rfl) ?_
    refine Fx.L.nil (Fx.seqN (Fx.W.seq (Fx.W.list (Fx.L.v (.int .i64 ((j : Int) + 1)) (Fx.x_move rfl h13) ?_))))
    refine Fx.L.v (.int .i64 (i)) (Fx.x_move rfl h7) ?_
    by_cases c43 : ((j : Int) + 1) = i
    ·refine Fx.L.v (.bool false) (Fx.x_neqF rfl rfl rfl c43) ?_
     refine Fx.L.v (.bool false) (Fx.x_move rfl rfl) ?_
     refine Fx.L.skip (by rfl) rfl ?_
     refine Fx.L.skip (by rfl) rfl ?_
     refine Fx.L.skip (by rfl) rfl ?_
     refine Fx.L.skip (by rfl) rfl ?_
     refine Fx.L.skip (by rfl) rfl ?_
     refine Fx.L.v (.bool false) (Fx.x_pickF rfl rfl rfl) ?_
     refine Fx.L.v (.bool false) (Fx.x_move rfl rfl) ?_
     refine Fx.L.skip (by rfl) rfl ?_
     refine Fx.L.skip (by rfl) rfl ?_
     refine Fx.L.skip (by rfl) rfl ?_
     refine Fx.L.skip (by rfl) rfl ?_
     refine Fx.L.skip (by rfl) rfl ?_
     refine Fx.L.skip (by rfl) rfl ?_
     refine Fx.L.v (.bool false) (Fx.x_pickF rfl rfl rfl) ?_
     refine Fx.L.v (.bool false) (Fx.x_move rfl rfl) ?_
     refine Fx.L.skip (by rfl) rfl ?_
     refine Fx.L.skip (by rfl) rfl ?_
     refine Fx.L.skip (by rfl) rfl ?_
     refine Fx.L.v (.bool false) (Fx.x_pickF rfl rfl rfl) ?_
     refine Fx.L.nil (Fx.seqN (Fx.W.cond (b := false) rfl (fun h => nomatch h) (fun _ => Fx.W.skip (Fx.blkN (Fx.seqN (Fx.W.list (Fx.L.v (.int .i64 ((j : Int) + 1)) (Fx.x_move rfl h13) ?_)))))))
     refine Fx.L.v (.int .i64 ((j : Int) + 2)) (Fx.x_add rfl rfl rfl (Fx.i64e (by omega) (by omega))) ?_
     refine Fx.L.v (.int .i64 ((j : Int) + 2)) (Fx.x_assign rfl rfl) ?_
     refine Fx.L.nil (Fx.lpN ⟨j + 1, b2, w2, by omega, .inr c29, (refQ_no hQ (fun h => h.1 c43)), (h7.trans (by first | rfl | exact congrArg (Value.int .i64) (by omega))), (h8.trans (by first | rfl | exact congrArg (Value.int .u64) (by omega))), h9, (h10.trans (by first | rfl | exact congrArg (Value.int .i64) (by omega))), (h11.trans (by first | rfl | exact congrArg (Value.int .i64) (by omega))), (h12.trans (by first | rfl | exact congrArg (Value.int .i64) (by omega))), (by first | rfl | exact congrArg (Value.int .i64) (by omega)), m5, b5⟩ ?_)
     show (7 - (intOf ((.int .i64 ((j : Int) + 2)))).toNat) < _
     simp only [h13, intOf]; omega
    ·refine Fx.L.v (.bool true) (Fx.x_neqT rfl rfl rfl c43) ?_
     refine Fx.L.v (.bool true) (Fx.x_move rfl rfl) ?_
     refine Fx.L.v (.int .i64 ((j : Int) + 1)) (Fx.x_move rfl h13) ?_
     refine Fx.L.v (.int .i64 ((j : Int))) (Fx.x_sub rfl rfl rfl (Fx.i64e (by omega) (by omega))) ?_
     refine Fx.L.v (.pointer (some ⟨g1, 0, none⟩)) (Fx.x_field rfl h9 Try.underlying43 rfl (s := 6) (by kernel_rfl) rfl rfl) ?_
     refine Fx.L.v (.pointer (some ⟨g1, j, none⟩)) (Fx.x_index rfl rfl rfl Try.underlying39 (s := 1) (by kernel_rfl) (by omega) (by omega) (by omega)) ?_
     by_cases c49 : (s.inn j) = true
     ·refine Fx.L.v (.bool true) (Fx.x_load1 (x := stY s) rfl rfl (by kernel_rfl) m5.cel (i := j) (by omega) (by omega) ((stY_in _ (by omega)).trans (congrArg Value.bool c49))) ?_
      refine Fx.L.v (.bool true) (Fx.x_pickT rfl rfl rfl) ?_
      refine Fx.L.v (.bool true) (Fx.x_move rfl rfl) ?_
      refine Fx.L.v (.int .i64 ((j : Int) + 1)) (Fx.x_move rfl h13) ?_
      refine Fx.L.v (.int .i64 ((j : Int))) (Fx.x_sub rfl rfl rfl (Fx.i64e (by omega) (by omega))) ?_
      refine Fx.L.v (.pointer (some ⟨g1, 6, none⟩)) (Fx.x_field rfl h9 Try.underlying43 rfl (s := 6) (by kernel_rfl) rfl (by show _ + 6 = _; omega)) ?_
      refine Fx.L.v (.pointer (some ⟨g1, j + 6, none⟩)) (Fx.x_index rfl rfl rfl Try.underlying39 (s := 1) (by kernel_rfl) (by omega) (by omega) (by omega)) ?_
      by_cases c56 : (s.left j) = true
      ·refine Fx.L.v (.bool true) (Fx.x_load1 (x := stY s) rfl rfl (by kernel_rfl) m5.cel (i := j + 6) (by omega) (by omega) ((stY_left _ (by omega) (by omega)).trans (congrArg Value.bool c56))) ?_
       refine Fx.L.v (.bool false) (Fx.x_notF rfl rfl) ?_
       refine Fx.L.v (.bool false) (Fx.x_pickT rfl rfl rfl) ?_
       refine Fx.L.v (.bool false) (Fx.x_move rfl rfl) ?_
       refine Fx.L.skip (by rfl) rfl ?_
       refine Fx.L.skip (by rfl) rfl ?_
       refine Fx.L.skip (by rfl) rfl ?_
       refine Fx.L.v (.bool false) (Fx.x_pickF rfl rfl rfl) ?_
       refine Fx.L.nil (Fx.seqN (Fx.W.cond (b := false) rfl (fun h => nomatch h) (fun _ => Fx.W.skip (Fx.blkN (Fx.seqN (Fx.W.list (Fx.L.v (.int .i64 ((j : Int) + 1)) (Fx.x_move rfl h13) ?_)))))))
       refine Fx.L.v (.int .i64 ((j : Int) + 2)) (Fx.x_add rfl rfl rfl (Fx.i64e (by omega) (by omega))) ?_
       refine Fx.L.v (.int .i64 ((j : Int) + 2)) (Fx.x_assign rfl rfl) ?_
       refine Fx.L.nil (Fx.lpN ⟨j + 1, b2, w2, by omega, .inr c29, (refQ_no hQ (fun h => by rw [c56] at h; cases h.2.2.1)), (h7.trans (by first | rfl | exact congrArg (Value.int .i64) (by omega))), (h8.trans (by first | rfl | exact congrArg (Value.int .u64) (by omega))), h9, (h10.trans (by first | rfl | exact congrArg (Value.int .i64) (by omega))), (h11.trans (by first | rfl | exact congrArg (Value.int .i64) (by omega))), (h12.trans (by first | rfl | exact congrArg (Value.int .i64) (by omega))), (by first | rfl | exact congrArg (Value.int .i64) (by omega)), m5, b5⟩ ?_)
       show (7 - (intOf ((.int .i64 ((j : Int) + 2)))).toNat) < _
       simp only [h13, intOf]; omega
      ·rw [Bool.not_eq_true] at c56
       refine Fx.L.v (.bool false) (Fx.x_load1 (x := stY s) rfl rfl (by kernel_rfl) m5.cel (i := j + 6) (by omega) (by omega) ((stY_left _ (by omega) (by omega)).trans (congrArg Value.bool c56))) ?_
       refine Fx.L.v (.bool true) (Fx.x_notT rfl rfl) ?_
       refine Fx.L.v (.bool true) (Fx.x_pickT rfl rfl rfl) ?_
       refine Fx.L.v (.bool true) (Fx.x_move rfl rfl) ?_
       refine Fx.L.v (.int .i64 (localV (R k) ((j : Int) + 1))) (Fx.x_move rfl rfl) ?_
       refine Fx.L.v (.int .i64 (b2)) (Fx.x_move rfl h10) ?_
       by_cases c62 : b2 < (localV (R k) ((j : Int) + 1))
       ·refine Fx.L.v (.bool true) (Fx.x_gtrT rfl rfl rfl c62) ?_
        refine Fx.L.v (.bool true) (Fx.x_pickT rfl rfl rfl) ?_
        refine Fx.L.nil (Fx.seqN (Fx.W.cond (b := true) rfl (fun _ => Fx.W.seq (Fx.W.list (Fx.L.v (.int .i64 (localV (R k) ((j : Int) + 1))) (Fx.x_move rfl rfl) ?_))) (fun h => nomatch h)))
        refine Fx.L.v (.int .i64 (localV (R k) ((j : Int) + 1))) (Fx.x_assign rfl rfl) ?_
        refine Fx.L.nil (Fx.seqN (Fx.W.list (Fx.L.v (.int .i64 ((j : Int) + 1)) (Fx.x_move rfl h13) ?_)))
        refine Fx.L.v (.int .i64 ((j : Int) + 1)) (Fx.x_assign rfl rfl) ?_
        refine Fx.L.nil (Fx.blkN (Fx.seqN (Fx.W.list (Fx.L.v (.int .i64 ((j : Int) + 1)) (Fx.x_move rfl h13) ?_))))
        refine Fx.L.v (.int .i64 ((j : Int) + 2)) (Fx.x_add rfl rfl rfl (Fx.i64e (by omega) (by omega))) ?_
        refine Fx.L.v (.int .i64 ((j : Int) + 2)) (Fx.x_assign rfl rfl) ?_
        refine Fx.L.nil (Fx.lpN ⟨j + 1, localV (R k) ((j : Int) + 1), ((j : Int) + 1), by omega, .inr c29, (refQ_yes hQ c43 c49 c56 c62), (h7.trans (by first | rfl | exact congrArg (Value.int .i64) (by omega))), (h8.trans (by first | rfl | exact congrArg (Value.int .u64) (by omega))), h9, (by first | rfl | exact congrArg (Value.int .i64) (by omega)), (by first | rfl | exact congrArg (Value.int .i64) (by omega)), (h12.trans (by first | rfl | exact congrArg (Value.int .i64) (by omega))), (by first | rfl | exact congrArg (Value.int .i64) (by omega)), m5, b5⟩ ?_)
        show (7 - (intOf ((.int .i64 ((j : Int) + 2)))).toNat) < _
        simp only [h13, intOf]; omega
       ·refine Fx.L.v (.bool false) (Fx.x_gtrF rfl rfl rfl c62) ?_
        refine Fx.L.v (.bool false) (Fx.x_pickT rfl rfl rfl) ?_
        refine Fx.L.nil (Fx.seqN (Fx.W.cond (b := false) rfl (fun h => nomatch h) (fun _ => Fx.W.skip (Fx.blkN (Fx.seqN (Fx.W.list (Fx.L.v (.int .i64 ((j : Int) + 1)) (Fx.x_move rfl h13) ?_)))))))
        refine Fx.L.v (.int .i64 ((j : Int) + 2)) (Fx.x_add rfl rfl rfl (Fx.i64e (by omega) (by omega))) ?_
        refine Fx.L.v (.int .i64 ((j : Int) + 2)) (Fx.x_assign rfl rfl) ?_
        refine Fx.L.nil (Fx.lpN ⟨j + 1, b2, w2, by omega, .inr c29, (refQ_no hQ (fun h => c62 h.2.2.2)), (h7.trans (by first | rfl | exact congrArg (Value.int .i64) (by omega))), (h8.trans (by first | rfl | exact congrArg (Value.int .u64) (by omega))), h9, (h10.trans (by first | rfl | exact congrArg (Value.int .i64) (by omega))), (h11.trans (by first | rfl | exact congrArg (Value.int .i64) (by omega))), (h12.trans (by first | rfl | exact congrArg (Value.int .i64) (by omega))), (by first | rfl | exact congrArg (Value.int .i64) (by omega)), m5, b5⟩ ?_)
        show (7 - (intOf ((.int .i64 ((j : Int) + 2)))).toNat) < _
        simp only [h13, intOf]; omega
     ·rw [Bool.not_eq_true] at c49
      refine Fx.L.v (.bool false) (Fx.x_load1 (x := stY s) rfl rfl (by kernel_rfl) m5.cel (i := j) (by omega) (by omega) ((stY_in _ (by omega)).trans (congrArg Value.bool c49))) ?_
      refine Fx.L.v (.bool false) (Fx.x_pickT rfl rfl rfl) ?_
      refine Fx.L.v (.bool false) (Fx.x_move rfl rfl) ?_
      refine Fx.L.skip (by rfl) rfl ?_
      refine Fx.L.skip (by rfl) rfl ?_
      refine Fx.L.skip (by rfl) rfl ?_
      refine Fx.L.skip (by rfl) rfl ?_
      refine Fx.L.skip (by rfl) rfl ?_
      refine Fx.L.skip (by rfl) rfl ?_
      refine Fx.L.v (.bool false) (Fx.x_pickF rfl rfl rfl) ?_
      refine Fx.L.v (.bool false) (Fx.x_move rfl rfl) ?_
      refine Fx.L.skip (by rfl) rfl ?_
      refine Fx.L.skip (by rfl) rfl ?_
      refine Fx.L.skip (by rfl) rfl ?_
      refine Fx.L.v (.bool false) (Fx.x_pickF rfl rfl rfl) ?_
      refine Fx.L.nil (Fx.seqN (Fx.W.cond (b := false) rfl (fun h => nomatch h) (fun _ => Fx.W.skip (Fx.blkN (Fx.seqN (Fx.W.list (Fx.L.v (.int .i64 ((j : Int) + 1)) (Fx.x_move rfl h13) ?_)))))))
      refine Fx.L.v (.int .i64 ((j : Int) + 2)) (Fx.x_add rfl rfl rfl (Fx.i64e (by omega) (by omega))) ?_
      refine Fx.L.v (.int .i64 ((j : Int) + 2)) (Fx.x_assign rfl rfl) ?_
      refine Fx.L.nil (Fx.lpN ⟨j + 1, b2, w2, by omega, .inr c29, (refQ_no hQ (fun h => by rw [c49] at h; cases h.2.1)), (h7.trans (by first | rfl | exact congrArg (Value.int .i64) (by omega))), (h8.trans (by first | rfl | exact congrArg (Value.int .u64) (by omega))), h9, (h10.trans (by first | rfl | exact congrArg (Value.int .i64) (by omega))), (h11.trans (by first | rfl | exact congrArg (Value.int .i64) (by omega))), (h12.trans (by first | rfl | exact congrArg (Value.int .i64) (by omega))), (by first | rfl | exact congrArg (Value.int .i64) (by omega)), m5, b5⟩ ?_)
      show (7 - (intOf ((.int .i64 ((j : Int) + 2)))).toNat) < _
      simp only [h13, intOf]; omega
   ·refine Fx.L.v (.bool false) (Fx.x_eqlF rfl rfl rfl c29) ?_
    refine Fx.L.v (.bool false) (Fx.x_pickT rfl rfl rfl) ?_
    refine Fx.L.nil (Fx.seqN (Fx.W.cond (b := false) rfl (fun h => nomatch h) (fun _ => Fx.W.exit (Fx.seqX (Fx.lpX (Fx.blkX (Fx.blkN (Fx.seqN (Fx.W.list (Fx.L.v (.int .i64 ((k : Int))) (Fx.x_move rfl h12) ?_))))))))))
    refine Fx.L.v (.int .i64 ((k : Int) + 1)) (Fx.x_add rfl rfl rfl (Fx.i64e (by omega) (by omega))) ?_
    refine Fx.L.v (.int .i64 ((k : Int) + 1)) (Fx.x_assign rfl rfl) ?_
    refine Fx.L.nil (Fx.lpN ⟨k + 1, b2, w2, by omega, (by obtain rfl : j = 0 := hjk.resolve_right c29; rw [← hQ]; exact refP_no hP c29), (h7.trans (by first | rfl | exact congrArg (Value.int .i64) (by omega))), (h8.trans (by first | rfl | exact congrArg (Value.int .u64) (by omega))), h9, (h10.trans (by first | rfl | exact congrArg (Value.int .i64) (by omega))), (h11.trans (by first | rfl | exact congrArg (Value.int .i64) (by omega))), (by first | rfl | exact congrArg (Value.int .i64) (by omega)), m3, b3⟩ ?_)
    show (s.nn - (intOf ((.int .i64 ((k : Int) + 1)))).toNat) < _
    simp only [h6, intOf]; omega
  ·refine Fx.L.v (.bool false) (Fx.x_leqF rfl rfl rfl c20) ?_
   refine Fx.L.v (.bool false) (Fx.x_move rfl rfl) ?_
   refine Fx.L.skip (by rfl) rfl ?_
   refine Fx.L.skip (by rfl) rfl ?_
   refine Fx.L.skip (by rfl) rfl ?_
   refine Fx.L.skip (by rfl) rfl ?_
   refine Fx.L.skip (by rfl) rfl ?_
   refine Fx.L.skip (by rfl) rfl ?_
   refine Fx.L.skip (by rfl) rfl ?_
   refine Fx.L.skip (by rfl) rfl ?_
   refine Fx.L.v (.bool false) (Fx.x_pickF rfl rfl rfl) ?_
   refine Fx.L.nil (Fx.seqN (Fx.W.cond (b := false) rfl (fun h => nomatch h) (fun _ => Fx.W.exit (Fx.seqX (Fx.lpX (Fx.blkX (Fx.blkN (Fx.seqN (Fx.W.list (Fx.L.v (.int .i64 ((k : Int))) (Fx.x_move rfl h12) ?_))))))))))
   refine Fx.L.v (.int .i64 ((k : Int) + 1)) (Fx.x_add rfl rfl rfl (Fx.i64e (by omega) (by omega))) ?_
   refine Fx.L.v (.int .i64 ((k : Int) + 1)) (Fx.x_assign rfl rfl) ?_
   refine Fx.L.nil (Fx.lpN ⟨k + 1, b2, w2, by omega, (refP_yes hP (hjk.resolve_left (by omega)) (by rw [show 6 = j by omega]; exact hQ)), (h7.trans (by first | rfl | exact congrArg (Value.int .i64) (by omega))), (h8.trans (by first | rfl | exact congrArg (Value.int .u64) (by omega))), h9, (h10.trans (by first | rfl | exact congrArg (Value.int .i64) (by omega))), (h11.trans (by first | rfl | exact congrArg (Value.int .i64) (by omega))), (by first | rfl | exact congrArg (Value.int .i64) (by omega)), m3, b3⟩ ?_)
   show (s.nn - (intOf ((.int .i64 ((k : Int) + 1)))).toNat) < _
   simp only [h6, intOf]; omega
 ·refine Fx.L.v (.bool false) (Fx.x_lssF rfl rfl rfl c16) ?_
  refine Fx.L.nil (Fx.seqN (Fx.W.cond (b := false) rfl (fun h => nomatch h) (fun _ => Fx.W.exit (Fx.seqX (Fx.lpX (Fx.blkX (Fx.seqN (Fx.W.seq (Fx.W.list (Fx.L.v (.int .i64 (wv)) (Fx.x_move rfl h5) ?_))))))))))
  refine Fx.L.v (.int .i64 (wv)) (Fx.x_assign rfl rfl) ?_
  refine Fx.L.nil (Fx.seqN (Fx.W.ret (⟨.int .i64 (wv), Fx.retV1 Try.results28 (by exact rfl), ?_⟩)))
  exact ⟨congrArg (fun q => Ending.returned (Value.int .i64 q)) (by unfold refW; rw [show s.nn = k by omega, hP]), b2⟩
end Go.Proofs.Ytolmkjepieoloaa
namespace Go.Proofs.Ytolmkjepieoloaa
open Go.RowKit Rt
theorem l_newWorld2 (n : Nat) (m : Int) (w : World) (hm : m = (n : Int)) (hn1 : 1 ≤ n) (hn6 : n ≤ 6) :
    Calls Try.prog 22 #[.int .i64 m] w fun e w' => ∃ p M, e = .returned (.pointer (some ⟨p, 0, none⟩)) ∧ M.n = n ∧ M.an = 0 ∧ WldO w' w.heap.size p M 0 ∧ Below w.heap.size w w' := by
  subst hm; exact l_newWorld n w hn1 hn6
theorem Fx.Blk.belowB {w w' : World} {B g n : Nat} {x : Nat → Value} {T : TypeId} (h : Fx.Blk w g n x T) (hb : Below B w w') (hg : g < B) : Fx.Blk w' g n x T := (hb.block g hg).trans h
theorem bchB {B : Nat} {w0 w1 w2 : World} (h : Below w0.heap.size w0 w1) (hb : Below B w1 w2) (hB : w0.heap.size ≤ B) : Below w0.heap.size w0 w2 := h.trans (hb.mono hB)
theorem Rt.un_step {id : Nat → Int} {k : Nat} (h : ∀ a c, a < c → c < k → id a ≠ id c) (h2 : ∀ a, a < k → id a ≠ id k) : ∀ a c, a < c → c < k + 1 → id a ≠ id c := fun a c h1 h3 => by
  by_cases e : c = k
  · subst e; exact h2 a h1
  · exact h a c h1 (by omega)
theorem Rt.ui_step {id : Nat → Int} {j k : Nat} (h : ∀ a, a < j → id a ≠ id k) (h2 : ¬ id j = id k) : ∀ a, a < j + 1 → id a ≠ id k := fun a ha => by
  by_cases e : a = j
  · subst e; exact h2
  · exact h a (by omega)
theorem Rt.un_inj {id : Nat → Int} {n : Nat} (h : ∀ a c, a < c → c < n → id a ≠ id c) : ∀ a c, a < n → c < n → id a = id c → a = c := fun a c ha hc e => by
  rcases Nat.lt_trichotomy a c with h1 | h1 | h1
  · exact absurd e (h a c h1 hc)
  · exact h1
  · exact absurd e.symm (h c a h1 ha)
set_option maxRecDepth 20000 in
set_option maxHeartbeats 2000000 in
theorem plays14_any (l n : Int) (rb : Nat) (aa0 : Option Addr) (na ca : Nat) (xa : Nat → ActM) (s : StM) (id par : Nat → Int) (R g : Nat → Nat → Int) (i node : Int) (pk : Nat) (w : World) (hrb : rb ≤ 255) (hpk : pk ≤ 255) (hxa : ∀ k, k < na → ActOk (xa k)) (hacts : Fx.Arr w aa0 na 9 (Fx.flat 9 fun k => actY (xa k))) (hs : StA w s id par R g) :
    Calls Try.prog 4 #[.int .i64 (l), .int .i64 (n), .int .u8 ((rb : Int)), .slice aa0 (na) (ca), .agg (Fx.varr 20 (stY s)), .int .i64 (i), .int .u64 (node), .int .u8 ((pk : Int))] w fun e w' => e = .returned (.bool true) ∧ Below w.heap.size w w' := by
 have hsn := hs.an
 have bns := hs.bn
 have bns : s.nn ≤ 9223372036854775807 := bns
 refine Fx.enter Try.func4 rfl (n := 132) rfl (by rfl) ?_
 refine Fx.W.seq (Fx.W.list (Fx.L.box (m := 20) (y := stY s) (by rfl) rfl rfl (Fx.cells_agg _ _) rfl fun g1 w1 eg1 m1 s1 z1 => ?_))
 have b1 := s1.below (Below.refl w.heap.size w) (Below.refl w.heap.size w).size (Below.refl w.heap.size w).size
 have lg1 : w.heap.size ≤ g1 := by rw [eg1]; exact (Below.refl w.heap.size w).size
 have tg1 : g1 < w1.heap.size := m1.lt
 clear eg1
 refine Fx.L.v (.bool false) (Fx.x_assign rfl rfl) ?_
 refine Fx.L.nil (Fx.seqN (Fx.W.seq (Fx.W.seq (Fx.W.list (Fx.L.v (.slice aa0 (na) (ca)) (Fx.x_move rfl rfl) ?_)))))
 by_cases c24 : (decide ((na : Int) ≤ 60)) = true
 ·refine Fx.L.call (by rfl) (Fx.r_call (args := [.slice aa0 (na) (ca)]) rfl rfl Try.func20 rfl rfl) rfl ((l_few _ _ _ _).mono ?_)
  rintro e v1 ⟨he, hv1⟩
  subst v1
  refine ⟨.bool true, by rw [he, c24], ?_⟩
  clear he
  refine Fx.L.v (.bool false) (Fx.x_notF rfl rfl) ?_
  refine Fx.L.v (.bool false) (Fx.x_move rfl rfl) ?_
  refine Fx.L.v (.pointer (some ⟨g1, 18, none⟩)) (Fx.x_field rfl rfl Try.underlying43 rfl (s := 1) (by kernel_rfl) rfl (by show _ + 18 = _; omega)) ?_
  refine Fx.L.v (.slice s.na (s.nn) (s.nc)) (Fx.x_load1 (x := stY s) rfl rfl (by kernel_rfl) m1.cel (i := 18) (by omega) (by omega) rfl) ?_
  refine Fx.L.v (.int .i64 ((s.nn : Int))) (Fx.x_len rfl rfl rfl (by kernel_rfl)) ?_
  by_cases c30 : 20 < (s.nn : Int)
  ·refine Fx.L.v (.bool true) (Fx.x_gtrT rfl rfl rfl c30) ?_
   refine Fx.L.v (.bool true) (Fx.x_pickF rfl rfl rfl) ?_
   refine Fx.L.nil (Fx.seqN (Fx.W.cond (b := true) rfl (fun _ => Fx.W.seq (Fx.W.list (Fx.L.call (by rfl) (Fx.r_call (args := []) rfl rfl Try.func21 rfl rfl) rfl ((works14_any _).mono ?_)))) (fun h => nomatch h)))
   rintro e w2 ⟨he, hb1⟩
   refine ⟨.bool true, by rw [he], ?_⟩
   clear he
   have s2 := Fx.Stp.of_below hb1
   have m2 := m1.stp s2 (Nat.ne_of_lt (m1.lt))
   have b2 := s2.below b1 b1.size b1.size
   refine Fx.L.v (.bool true) (Fx.x_assign rfl rfl) ?_
   refine Fx.L.nil (Fx.seqN (Fx.W.ret (Fx.seqR (⟨.bool true, Fx.retV1 Try.results4 (by exact rfl), ?_⟩))))
   exact ⟨rfl, b2⟩
  ·refine Fx.L.v (.bool false) (Fx.x_gtrF rfl rfl rfl c30) ?_
   refine Fx.L.v (.bool false) (Fx.x_pickF rfl rfl rfl) ?_
   refine Fx.L.nil (Fx.seqN (Fx.W.cond (b := false) rfl (fun h => nomatch h) (fun _ => Fx.W.skip (Fx.seqN (Fx.W.seq (Fx.W.seq (Fx.W.list (Fx.L.v (.int .i64 (0)) (Fx.x_assign rfl rfl) ?_))))))))
   refine Fx.L.nil (Fx.seqN (Fx.W.block (Fx.W.loop (fun f w_ => ∃ k : Nat, k ≤ s.nn ∧ (∀ a c, a < c → c < k → id a ≠ id c) ∧ f 0 = .int .i64 (l) ∧ f 1 = .int .i64 (n) ∧ f 2 = .int .u8 ((rb : Int)) ∧ f 3 = .slice aa0 (na) (ca) ∧ f 5 = .int .i64 (i) ∧ f 6 = .int .u64 (node) ∧ f 7 = .int .u8 ((pk : Int)) ∧ f 12 = .pointer (some ⟨g1, 0, none⟩) ∧ f 17 = .int .i64 ((k : Int)) ∧ Fx.Blk w_ g1 20 (stY s) 43 ∧ Below w.heap.size w w_) (fun f _ => (s.nn - (intOf (f 17)).toNat)) ⟨0, by omega, (fun a c _ h => absurd h (Nat.not_lt_zero _)), (by first | rfl | exact congrArg (Value.int .i64) (by omega)), (by first | rfl | exact congrArg (Value.int .i64) (by omega)), (by first | rfl | exact congrArg (Value.int .u8) (by omega)), (by rfl), (by first | rfl | exact congrArg (Value.int .i64) (by omega)), (by first | rfl | exact congrArg (Value.int .u64) (by omega)), (by first | rfl | exact congrArg (Value.int .u8) (by omega)), (by rfl), (by first | rfl | exact congrArg (Value.int .i64) (by omega)), m1, b1⟩ ?_)))
   rintro f1 w3 ⟨k, hk, hun, h1, h2, h3, h4, h5, h6, h7, h8, h9, m3, b3⟩
   refine Fx.W.seq (Fx.W.seq (Fx.W.list (Fx.L.v (.int .i64 ((k : Int))) (Fx.x_move rfl h9) ?_)))
   refine Fx.L.v (.pointer (some ⟨g1, 18, none⟩)) (Fx.x_field rfl h8 Try.underlying43 rfl (s := 1) (by kernel_rfl) rfl (by show _ + 18 = _; omega)) ?_
   refine Fx.L.v (.slice s.na (s.nn) (s.nc)) (Fx.x_load1 (x := stY s) rfl rfl (by kernel_rfl) m3.cel (i := 18) (by omega) (by omega) rfl) ?_
   refine Fx.L.v (.int .i64 ((s.nn : Int))) (Fx.x_len rfl rfl rfl (by kernel_rfl)) ?_
   by_cases c37 : (k : Int) < (s.nn : Int)
   ·refine Fx.L.v (.bool true) (Fx.x_lssT rfl rfl rfl c37) ?_
    refine Fx.L.nil (Fx.seqN (Fx.W.cond (b := true) rfl (fun _ => Fx.W.skip (Fx.seqN (Fx.W.seq (Fx.W.block (Fx.W.seq (Fx.W.list (Fx.L.v (.int .i64 (0)) (Fx.x_assign rfl rfl) ?_))))))) (fun h => nomatch h)))
    refine Fx.L.nil (Fx.seqN (Fx.W.block (Fx.W.loop (fun f w_ => ∃ j : Nat, j ≤ k ∧ (∀ a, a < j → id a ≠ id k) ∧ f 0 = .int .i64 (l) ∧ f 1 = .int .i64 (n) ∧ f 2 = .int .u8 ((rb : Int)) ∧ f 3 = .slice aa0 (na) (ca) ∧ f 5 = .int .i64 (i) ∧ f 6 = .int .u64 (node) ∧ f 7 = .int .u8 ((pk : Int)) ∧ f 12 = .pointer (some ⟨g1, 0, none⟩) ∧ f 17 = .int .i64 ((k : Int)) ∧ f 18 = .int .i64 ((j : Int)) ∧ Fx.Blk w_ g1 20 (stY s) 43 ∧ Below w.heap.size w w_) (fun f _ => (k - (intOf (f 18)).toNat)) ⟨0, by omega, (fun a h => absurd h (Nat.not_lt_zero _)), (h1.trans (by first | rfl | exact congrArg (Value.int .i64) (by omega))), (h2.trans (by first | rfl | exact congrArg (Value.int .i64) (by omega))), (h3.trans (by first | rfl | exact congrArg (Value.int .u8) (by omega))), h4, (h5.trans (by first | rfl | exact congrArg (Value.int .i64) (by omega))), (h6.trans (by first | rfl | exact congrArg (Value.int .u64) (by omega))), (h7.trans (by first | rfl | exact congrArg (Value.int .u8) (by omega))), h8, (h9.trans (by first | rfl | exact congrArg (Value.int .i64) (by omega))), (by first | rfl | exact congrArg (Value.int .i64) (by omega)), m3, b3⟩ ?_)))
    rintro f2 w4 ⟨j, hj, hui, h10, h11, h12, h13, h14, h15, h16, h17, h18, h19, m4, b4⟩
    refine Fx.W.seq (Fx.W.seq (Fx.W.list (Fx.L.v (.int .i64 ((j : Int))) (Fx.x_move rfl h19) ?_)))
    refine Fx.L.v (.int .i64 ((k : Int))) (Fx.x_move rfl h18) ?_
    by_cases c42 : (j : Int) < (k : Int)
    ·refine Fx.L.v (.bool true) (Fx.x_lssT rfl rfl rfl c42) ?_
     refine Fx.L.nil (Fx.seqN (Fx.W.cond (b := true) rfl (fun _ => Fx.W.skip (Fx.seqN (Fx.W.seq (Fx.W.block (Fx.W.seq ?_))))) (fun h => nomatch h)))
     -- region 9 draws
     refine Fx.W.quiet (fun v1 => ∃ q, v1 = World.drewN w4 q) (by kernel_rfl) (by kernel_rfl) ⟨1, rfl⟩ ?_
     refine Fx.Qt.v (.pointer (some ⟨g1, 18, none⟩)) (fun v1 hv1 => Fx.x_field rfl h17 Try.underlying43 rfl (s := 1) (by kernel_rfl) rfl (by show _ + 18 = _; omega)) ?_
     refine Fx.Qt.v (.slice s.na (s.nn) (s.nc)) (fun v1 hv1 => Fx.x_load1 (x := stY s) rfl rfl (by kernel_rfl) (by obtain ⟨qd, rfl⟩ := hv1; exact m4.cel) (i := 18) (by omega) (by omega) rfl) ?_
     refine Fx.Qt.v (.int .i64 ((j : Int))) (fun v1 hv1 => Fx.x_move rfl h19) ?_
     obtain ⟨bq1, oq1, eq1, m5⟩ := (hsn.up b4 rfl) (by omega)
     have lbq1 : bq1 < w4.heap.size := m5.lt (by omega)
     refine Fx.Qt.v (.pointer (some ⟨bq1, 56 * j + oq1, none⟩)) (fun v1 hv1 => Fx.x_indexS rfl (rfl.trans (congrArg (fun q => Value.slice q (s.nn) (s.nc)) eq1)) rfl Try.underlying40 (s := 56) (by kernel_rfl) (by omega) (by omega) (by omega)) ?_
     refine Fx.Qt.v (.pointer (some ⟨bq1, 56 * j + oq1, none⟩)) (fun v1 hv1 => Fx.x_field rfl rfl Try.underlying50 rfl (s := 1) (by kernel_rfl) rfl rfl) ?_
     refine Fx.Qt.v (.int .u64 (id j)) (fun v1 hv1 => Fx.x_load1 (x := Fx.flat 56 (fun kq => ndY (id kq) (par kq) (R kq))) rfl rfl (by kernel_rfl) (by obtain ⟨qd, rfl⟩ := hv1; exact m5) (i := 56 * j) (by omega) (by omega) (Fx.flat_cell (k := j) (j := 0) (by omega) (by omega) rfl)) ?_
     refine Fx.Qt.v (.pointer (some ⟨g1, 18, none⟩)) (fun v1 hv1 => Fx.x_field rfl h17 Try.underlying43 rfl (s := 1) (by kernel_rfl) rfl (by show _ + 18 = _; omega)) ?_
     refine Fx.Qt.v (.slice s.na (s.nn) (s.nc)) (fun v1 hv1 => Fx.x_load1 (x := stY s) rfl rfl (by kernel_rfl) (by obtain ⟨qd, rfl⟩ := hv1; exact m4.cel) (i := 18) (by omega) (by omega) rfl) ?_
     refine Fx.Qt.v (.int .i64 ((k : Int))) (fun v1 hv1 => Fx.x_move rfl h18) ?_
     refine Fx.Qt.v (.pointer (some ⟨bq1, 56 * k + oq1, none⟩)) (fun v1 hv1 => Fx.x_indexS rfl (rfl.trans (congrArg (fun q => Value.slice q (s.nn) (s.nc)) eq1)) rfl Try.underlying40 (s := 56) (by kernel_rfl) (by omega) (by omega) (by omega)) ?_
     refine Fx.Qt.v (.pointer (some ⟨bq1, 56 * k + oq1, none⟩)) (fun v1 hv1 => Fx.x_field rfl rfl Try.underlying50 rfl (s := 1) (by kernel_rfl) rfl rfl) ?_
     refine Fx.Qt.v (.int .u64 (id k)) (fun v1 hv1 => Fx.x_load1 (x := Fx.flat 56 (fun kq => ndY (id kq) (par kq) (R kq))) rfl rfl (by kernel_rfl) (by obtain ⟨qd, rfl⟩ := hv1; exact m5) (i := 56 * k) (by omega) (by omega) (Fx.flat_cell (k := k) (j := 0) (by omega) (by omega) rfl)) ?_
     by_cases c57 : (id j) = (id k)
     ·refine Fx.Qt.v (.bool true) (fun v1 hv1 => Fx.x_eqlT rfl rfl rfl c57) ?_
      refine Fx.Qt.nil ?_
      rintro _ ⟨qd, rfl⟩
      obtain ⟨wq1, ewq1⟩ : ∃ v1, v1 = World.drewN w4 qd := ⟨_, rfl⟩
      rw [← ewq1]
      have s3 : Fx.Stp w4.heap.size w4 wq1 := by rw [ewq1]; exact Fx.Stp.of_below (bdrN w4 qd)
      have m6 := m4.stp s3 (Nat.ne_of_lt (m4.lt))
      have m7 := m5.stp s3 (Nat.ne_of_lt (m5.lt (by omega)))
      have b5 := s3.below b4 b4.size b4.size
      clear ewq1
      refine Fx.seqN (Fx.W.cond (b := true) rfl (fun _ => Fx.W.seq (Fx.W.list (Fx.L.call (by rfl) (Fx.r_call (args := []) rfl rfl Try.func21 rfl rfl) rfl ((works14_any _).mono ?_)))) (fun h => nomatch h))
      rintro e w5 ⟨he, hb2⟩
      refine ⟨.bool true, by rw [he], ?_⟩
      clear he
      have s4 := Fx.Stp.of_below hb2
      have m8 := m6.stp s4 (Nat.ne_of_lt (m6.lt))
      have m9 := m7.stp s4 (Nat.ne_of_lt (m7.lt (by omega)))
      have b6 := s4.below b5 b5.size b5.size
      refine Fx.L.v (.bool true) (Fx.x_assign rfl rfl) ?_
      refine Fx.L.nil (Fx.seqN (Fx.W.ret (Fx.blkR (Fx.seqR (Fx.lpR (Fx.blkR (Fx.blkR (Fx.seqR (Fx.lpR (Fx.blkR (Fx.seqR (⟨.bool true, Fx.retV1 Try.results4 (by exact rfl), ?_⟩))))))))))))
      exact ⟨rfl, b6⟩
     ·refine Fx.Qt.v (.bool false) (fun v1 hv1 => Fx.x_eqlF rfl rfl rfl c57) ?_
      refine Fx.Qt.nil ?_
      rintro _ ⟨qd, rfl⟩
      obtain ⟨wq2, ewq2⟩ : ∃ v1, v1 = World.drewN w4 qd := ⟨_, rfl⟩
      rw [← ewq2]
      have s5 : Fx.Stp w4.heap.size w4 wq2 := by rw [ewq2]; exact Fx.Stp.of_below (bdrN w4 qd)
      have m10 := m4.stp s5 (Nat.ne_of_lt (m4.lt))
      have m11 := m5.stp s5 (Nat.ne_of_lt (m5.lt (by omega)))
      have b7 := s5.below b4 b4.size b4.size
      clear ewq2
      refine Fx.seqN (Fx.W.cond (b := false) rfl (fun h => nomatch h) (fun _ => Fx.W.skip (Fx.blkN (Fx.seqN (Fx.W.list (Fx.L.v (.int .i64 ((j : Int))) (Fx.x_move rfl h19) ?_))))))
      refine Fx.L.v (.int .i64 ((j : Int) + 1)) (Fx.x_add rfl rfl rfl (Fx.i64e (by omega) (by omega))) ?_
      refine Fx.L.v (.int .i64 ((j : Int) + 1)) (Fx.x_assign rfl rfl) ?_
      refine Fx.L.nil (Fx.lpN ⟨j + 1, by omega, (ui_step hui c57), (h10.trans (by first | rfl | exact congrArg (Value.int .i64) (by omega))), (h11.trans (by first | rfl | exact congrArg (Value.int .i64) (by omega))), (h12.trans (by first | rfl | exact congrArg (Value.int .u8) (by omega))), h13, (h14.trans (by first | rfl | exact congrArg (Value.int .i64) (by omega))), (h15.trans (by first | rfl | exact congrArg (Value.int .u64) (by omega))), (h16.trans (by first | rfl | exact congrArg (Value.int .u8) (by omega))), h17, (h18.trans (by first | rfl | exact congrArg (Value.int .i64) (by omega))), (by first | rfl | exact congrArg (Value.int .i64) (by omega)), m10, b7⟩ ?_)
      show (k - (intOf ((.int .i64 ((j : Int) + 1)))).toNat) < _
      simp only [h19, intOf]; omega
    ·refine Fx.L.v (.bool false) (Fx.x_lssF rfl rfl rfl c42) ?_
     refine Fx.L.nil (Fx.seqN (Fx.W.cond (b := false) rfl (fun h => nomatch h) (fun _ => Fx.W.exit (Fx.seqX (Fx.lpX (Fx.blkX (Fx.blkN (Fx.seqN (Fx.W.list (Fx.L.v (.int .i64 ((k : Int))) (Fx.x_move rfl h18) ?_))))))))))
     refine Fx.L.v (.int .i64 ((k : Int) + 1)) (Fx.x_add rfl rfl rfl (Fx.i64e (by omega) (by omega))) ?_
     refine Fx.L.v (.int .i64 ((k : Int) + 1)) (Fx.x_assign rfl rfl) ?_
     refine Fx.L.nil (Fx.lpN ⟨k + 1, by omega, (un_step hun (by rw [show k = j by omega] at hui ⊢; exact hui)), (h10.trans (by first | rfl | exact congrArg (Value.int .i64) (by omega))), (h11.trans (by first | rfl | exact congrArg (Value.int .i64) (by omega))), (h12.trans (by first | rfl | exact congrArg (Value.int .u8) (by omega))), h13, (h14.trans (by first | rfl | exact congrArg (Value.int .i64) (by omega))), (h15.trans (by first | rfl | exact congrArg (Value.int .u64) (by omega))), (h16.trans (by first | rfl | exact congrArg (Value.int .u8) (by omega))), h17, (by first | rfl | exact congrArg (Value.int .i64) (by omega)), m4, b4⟩ ?_)
     show (s.nn - (intOf ((.int .i64 ((k : Int) + 1)))).toNat) < _
     simp only [h9, intOf]; omega
   ·refine Fx.L.v (.bool false) (Fx.x_lssF rfl rfl rfl c37) ?_
    refine Fx.L.nil (Fx.seqN (Fx.W.cond (b := false) rfl (fun h => nomatch h) (fun _ => Fx.W.exit (Fx.seqX (Fx.lpX (Fx.blkX (Fx.seqN (Fx.W.seq ?_))))))))
    have hna := of_decide_eq_true c24
    obtain ⟨rn, ern⟩ : ∃ r, r = rb % 6 := ⟨_, rfl⟩
    have hrn : rn < 6 := by rw [ern]; exact Nat.mod_lt _ (by omega)
    have hun : ∀ a c, a < c → c < s.nn → id a ≠ id c := by rw [show s.nn = k by omega]; exact hun
    refine Fx.W.list (Fx.L.v (.int .u8 ((rb : Int))) (Fx.x_move rfl h3) ?_)
    refine Fx.L.v (.int .i64 ((rb : Int))) (Fx.x_conv rfl rfl (by kernel_rfl) Try.underlying3 (Fx.i64e (by omega) rfl)) ?_
    refine Fx.L.v (.int .i64 ((rn : Int))) (Fx.x_rem rfl rfl rfl (by omega) (remL ern)) ?_
    refine Fx.L.v (.int .i64 ((rn : Int) + 1)) (Fx.x_add rfl rfl rfl (Fx.i64e (by omega) (by omega))) ?_
    refine Fx.L.call (by rfl) (Fx.r_call (args := [.int .i64 ((rn : Int) + 1)]) rfl rfl Try.func22 rfl rfl) rfl ((l_newWorld2 (rn + 1) _ _ (by omega) (by omega) (by omega)).mono ?_)
    rintro e9 w6 ⟨pw, M0, he, hMn, hMa, hW0, hbw⟩
    refine ⟨.pointer (some ⟨pw, 0, none⟩), he, ?_⟩
    clear he
    have sB := b3.size
    have lBg1 : g1 < w3.heap.size := m3.lt
    have s6 := Fx.Stp.of_below hbw
    have m12 := m3.stp s6 (Nat.ne_of_lt (m3.lt))
    have b8 := s6.below b3 b3.size b3.size
    have sW : w3.heap.size ≤ w6.heap.size := hbw.size
    refine Fx.L.v (.pointer (some ⟨pw, 0, none⟩)) (Fx.x_assign rfl rfl) ?_
    refine Fx.L.nil (Fx.seqN (Fx.W.seq (Fx.W.seq (Fx.W.list (Fx.L.v (.int .i64 (0)) (Fx.x_assign rfl rfl) ?_)))))
    refine Fx.L.nil (Fx.seqN (Fx.W.block (Fx.W.loop (fun f w_ => ∃ k : Nat, ∃ M9 : WM, ∃ T9 : Nat, k ≤ na ∧ T9 ≤ 3660 * k ∧ M9.n = M0.n ∧ M9.an ≤ k ∧ w3.heap.size ≤ w_.heap.size ∧ f 0 = .int .i64 (l) ∧ f 1 = .int .i64 (n) ∧ f 3 = .slice aa0 (na) (ca) ∧ f 5 = .int .i64 (i) ∧ f 6 = .int .u64 (node) ∧ f 7 = .int .u8 ((pk : Int)) ∧ f 12 = .pointer (some ⟨g1, 0, none⟩) ∧ f 19 = .pointer (some ⟨pw, 0, none⟩) ∧ f 20 = .int .i64 ((k : Int)) ∧ Fx.Blk w_ g1 20 (stY s) 43 ∧ WldO w_ w3.heap.size pw M9 T9 ∧ Below w.heap.size w w_) (fun f _ => (na - (intOf (f 20)).toNat)) ⟨0, M0, 0, by omega, by omega, rfl, by omega, sW, (h1.trans (by first | rfl | exact congrArg (Value.int .i64) (by omega))), (h2.trans (by first | rfl | exact congrArg (Value.int .i64) (by omega))), h4, (h5.trans (by first | rfl | exact congrArg (Value.int .i64) (by omega))), (h6.trans (by first | rfl | exact congrArg (Value.int .u64) (by omega))), (h7.trans (by first | rfl | exact congrArg (Value.int .u8) (by omega))), h8, (by rfl), (by first | rfl | exact congrArg (Value.int .i64) (by omega)), m12, hW0, b8⟩ ?_)))
    rintro f3 w7 ⟨k, M9, T9, hk, hTk, hMn9, hMa9, sWk, h20, h21, h22, h23, h24, h25, h26, h27, h28, m13, m14, b9⟩
    refine Fx.W.seq (Fx.W.seq (Fx.W.list (Fx.L.v (.int .i64 ((k : Int))) (Fx.x_move rfl h28) ?_)))
    refine Fx.L.v (.slice aa0 (na) (ca)) (Fx.x_move rfl h22) ?_
    refine Fx.L.v (.int .i64 ((na : Int))) (Fx.x_len rfl rfl rfl (by kernel_rfl)) ?_
    by_cases c67 : (k : Int) < (na : Int)
    ·refine Fx.L.v (.bool true) (Fx.x_lssT rfl rfl rfl c67) ?_
     refine Fx.L.nil (Fx.seqN (Fx.W.cond (b := true) rfl (fun _ => Fx.W.skip (Fx.seqN (Fx.W.seq (Fx.W.block (Fx.W.list (Fx.L.v (.pointer (some ⟨pw, 0, none⟩)) (Fx.x_move rfl h27) ?_)))))) (fun h => nomatch h)))
     refine Fx.L.v (.slice aa0 (na) (ca)) (Fx.x_move rfl h22) ?_
     refine Fx.L.v (.int .i64 ((k : Int))) (Fx.x_move rfl h28) ?_
     obtain ⟨bq2, oq2, eq2, m15⟩ := (hacts.up b9 rfl) (by omega)
     have lbq2 : bq2 < w7.heap.size := m15.lt (by omega)
     refine Fx.L.v (.pointer (some ⟨bq2, 9 * k + oq2, none⟩)) (Fx.x_indexS rfl (rfl.trans (congrArg (fun q => Value.slice q (na) (ca)) eq2)) rfl Try.underlying38 (s := 9) (by kernel_rfl) (by omega) (by omega) (by omega)) ?_
     refine Fx.L.v (.agg (Fx.varr 9 (actY (xa k)))) (Fx.x_loadA (x := Fx.flat 9 fun k => actY (xa k)) (y := actY (xa k)) rfl rfl (by kernel_rfl) (by kernel_rfl) m15 (i := 9 * k) (by omega) (by omega) (fun jq hjq => Fx.flat_at (k := k) (by omega) hjq)) ?_
     refine Fx.L.call (by rfl) (Fx.r_call (args := [.pointer (some ⟨pw, 0, none⟩), .agg (Fx.varr 9 (actY (xa k)))]) rfl rfl Try.func23 rfl rfl) rfl ((l_do M9 w3.heap.size pw T9 (xa k) _ m14 sWk (hxa k (by omega)) (by omega) (by omega)).mono ?_)
     rintro e9 w8 ⟨⟨v9, he⟩, M2, hW1, hM2n, hM2a, hb3⟩
     refine ⟨v9, he, ?_⟩
     clear he
     have m16 : Fx.Blk w8 g1 20 (stY s) 43 := m13.belowB hb3 lBg1
     have b10 : Below w.heap.size w w8 := bchB b9 hb3 sB
     have sW1 : w3.heap.size ≤ w8.heap.size := by have := hb3.size; omega
     have sWn : w3.heap.size ≤ w8.heap.size := by have := hb3.size; omega
     refine Fx.L.nil (Fx.blkN (Fx.seqN (Fx.W.list (Fx.L.v (.int .i64 ((k : Int))) (Fx.x_move rfl h28) ?_))))
     refine Fx.L.v (.int .i64 ((k : Int) + 1)) (Fx.x_add rfl rfl rfl (Fx.i64e (by omega) (by omega))) ?_
     refine Fx.L.v (.int .i64 ((k : Int) + 1)) (Fx.x_assign rfl rfl) ?_
     refine Fx.L.nil (Fx.lpN ⟨k + 1, M2, (T9 + 3660), by omega, by omega, (hM2n.trans hMn9), by omega, sWn, (h20.trans (by first | rfl | exact congrArg (Value.int .i64) (by omega))), (h21.trans (by first | rfl | exact congrArg (Value.int .i64) (by omega))), h22, (h23.trans (by first | rfl | exact congrArg (Value.int .i64) (by omega))), (h24.trans (by first | rfl | exact congrArg (Value.int .u64) (by omega))), (h25.trans (by first | rfl | exact congrArg (Value.int .u8) (by omega))), h26, h27, (by first | rfl | exact congrArg (Value.int .i64) (by omega)), m16, hW1, b10⟩ ?_)
     show (na - (intOf ((.int .i64 ((k : Int) + 1)))).toNat) < _
     simp only [h28, intOf]; omega
    ·refine Fx.L.v (.bool false) (Fx.x_lssF rfl rfl rfl c67) ?_
     refine Fx.L.nil (Fx.seqN (Fx.W.cond (b := false) rfl (fun h => nomatch h) (fun _ => Fx.W.exit (Fx.seqX (Fx.lpX (Fx.blkX (Fx.seqN (Fx.W.seq ?_))))))))
     have hMn1 : M9.n = rn + 1 := hMn9.trans hMn
     obtain ⟨q, eq⟩ : ∃ r, r = pk % M9.n := ⟨_, rfl⟩
     have hq : q < M9.n := by rw [eq]; exact Nat.mod_lt _ (by omega)
     have hWc := m14.c
     have hWl := m14.l
     have hWa := m14.a
     have hWg := m14.g
     -- region 16 draws
     refine Fx.W.quiet (fun v1 => ∃ q, v1 = World.drewN w7 q) (by kernel_rfl) (by kernel_rfl) ⟨1, rfl⟩ ?_
     refine Fx.Qt.v (.pointer (some ⟨pw, 0, none⟩)) (fun v1 hv1 => Fx.x_move rfl h27) ?_
     refine Fx.Qt.v (.pointer (some ⟨pw, 0, none⟩)) (fun v1 hv1 => Fx.x_nil rfl rfl) ?_
     refine Fx.Qt.v (.pointer (some ⟨pw, 0, none⟩)) (fun v1 hv1 => Fx.x_field rfl rfl Try.underlying63 rfl (s := 1) (by kernel_rfl) rfl rfl) ?_
     refine Fx.Qt.v (.slice M9.la (M9.n) (M9.lc)) (fun v1 hv1 => Fx.x_load1 (x := wdY (.slice M9.la (M9.n) (M9.lc)) (.slice M9.aa (M9.an) (M9.ac))) rfl rfl (by kernel_rfl) (by obtain ⟨qd, rfl⟩ := hv1; exact hWc.cel) (i := 0) (by omega) (by omega) rfl) ?_
     refine Fx.Qt.v (.int .u8 ((pk : Int))) (fun v1 hv1 => Fx.x_move rfl h25) ?_
     refine Fx.Qt.v (.int .i64 ((pk : Int))) (fun v1 hv1 => Fx.x_conv rfl rfl (by kernel_rfl) Try.underlying3 (Fx.i64e (by omega) rfl)) ?_
     refine Fx.Qt.v (.pointer (some ⟨pw, 0, none⟩)) (fun v1 hv1 => Fx.x_move rfl h27) ?_
     refine Fx.Qt.v (.pointer (some ⟨pw, 0, none⟩)) (fun v1 hv1 => Fx.x_nil rfl rfl) ?_
     refine Fx.Qt.v (.pointer (some ⟨pw, 0, none⟩)) (fun v1 hv1 => Fx.x_field rfl rfl Try.underlying63 rfl (s := 1) (by kernel_rfl) rfl rfl) ?_
     refine Fx.Qt.v (.slice M9.la (M9.n) (M9.lc)) (fun v1 hv1 => Fx.x_load1 (x := wdY (.slice M9.la (M9.n) (M9.lc)) (.slice M9.aa (M9.an) (M9.ac))) rfl rfl (by kernel_rfl) (by obtain ⟨qd, rfl⟩ := hv1; exact hWc.cel) (i := 0) (by omega) (by omega) rfl) ?_
     refine Fx.Qt.v (.int .i64 ((M9.n : Int))) (fun v1 hv1 => Fx.x_len rfl rfl rfl (by kernel_rfl)) ?_
     refine Fx.Qt.v (.int .i64 ((q : Int))) (fun v1 hv1 => Fx.x_rem rfl rfl rfl (by omega) (remL eq)) ?_
     obtain ⟨gq1, eq3⟩ := hWl.addr (by omega)
     have m17 : Fx.Own w7 w3.heap.size 59 1 (.slice (some ⟨gq1, 0, none⟩) M9.n M9.lc) M9.n (ptX M9.pl) := hWl.congV (congrArg (fun q => Value.slice q M9.n M9.lc) eq3)
     refine Fx.Qt.v (.pointer (some ⟨gq1, q, none⟩)) (fun v1 hv1 => Fx.x_indexS rfl (rfl.trans (congrArg (fun q => Value.slice q (M9.n) (M9.lc)) eq3)) rfl Try.underlying60 (s := 1) (by kernel_rfl) (by omega) (by omega) (by omega)) ?_
     refine Fx.Qt.v (.pointer (some ⟨(M9.pl q), 0, none⟩)) (fun v1 hv1 => Fx.x_load1 (x := ptX M9.pl) rfl rfl (by kernel_rfl) (by obtain ⟨qd, rfl⟩ := hv1; exact m17.cel) (i := q) (by omega) (by omega) rfl) ?_
     refine Fx.Qt.v (.pointer (some ⟨(M9.pl q), 0, none⟩)) (fun v1 hv1 => Fx.x_assign rfl rfl) ?_
     refine Fx.Qt.nil ?_
     rintro _ ⟨qd, rfl⟩
     obtain ⟨wq3, ewq3⟩ : ∃ v1, v1 = World.drewN w7 qd := ⟨_, rfl⟩
     rw [← ewq3]
     have s7 : Fx.Stp w7.heap.size w7 wq3 := by rw [ewq3]; exact Fx.Stp.of_below (bdrN w7 qd)
     have m18 := m13.stp s7 (Nat.ne_of_lt (m13.lt))
     have m19 := hWc.stp s7 (Nat.ne_of_lt (hWc.lt))
     have m20 := hWa.stp s7 (hWa.notNew (Nat.le_refl _))
     have m21 := hWg.up s7.old
     have m22 := m14.up s7.old
     have m23 := m17.stpB s7 (Nat.ne_of_lt (m17.lt))
     have b11 := s7.below b9 b9.size b9.size
     clear ewq3
     refine Fx.seqN (Fx.W.seq ?_)
     have hLo := m22.g q (by omega)
     have hLoc := hLo.c
     have hLob := hLo.bn
     have hWi := m22.inv q (by omega)
     refine Fx.W.list (Fx.L.v (.pointer (some ⟨(M9.pl q), 0, none⟩)) (Fx.x_move rfl rfl) ?_)
     refine Fx.L.v (.int .u8 ((pk : Int))) (Fx.x_move rfl h25) ?_
     refine Fx.L.v (.int .i64 ((pk : Int))) (Fx.x_conv rfl rfl (by kernel_rfl) Try.underlying3 (Fx.i64e (by omega) rfl)) ?_
     refine Fx.L.call (by rfl) (Fx.r_call (args := [.pointer (some ⟨(M9.pl q), 0, none⟩), .int .i64 ((pk : Int))]) rfl rfl Try.func24 rfl rfl) rfl ((l_nodeId (M9.ml q) (M9.pl q) pk _ hLo.ldg (by omega)).mono ?_)
     rintro e w9 ⟨he, hb4⟩
     refine ⟨.int .u64 (nodeM (M9.ml q) pk), by rw [he], ?_⟩
     clear he
     have s8 := Fx.Stp.of_below hb4
     have m24 := m18.stp s8 (Nat.ne_of_lt (m18.lt))
     have m25 := hLoc.stp s8 (Nat.ne_of_lt (hLoc.lt))
     have m26 := hLo.up s8.old
     have b12 := s8.below b11 b11.size b11.size
     refine Fx.L.v (.int .u64 (nodeM (M9.ml q) pk)) (Fx.x_assign rfl rfl) ?_
     refine Fx.L.nil (Fx.seqN (Fx.W.seq ?_))
     -- region 18 draws
     refine Fx.W.quiet (fun v1 => Below w9.heap.size w9 v1) (by kernel_rfl) (by kernel_rfl) (Below.refl _ _).drew ?_
     refine Fx.Qt.v (.int .i64 (l)) (fun v1 hv1 => Fx.x_move rfl h20) ?_
     refine Fx.Qt.v (.int .i64 (n)) (fun v1 hv1 => Fx.x_move rfl h21) ?_
     refine Fx.Qt.call (v := .int .i64 (shareM l n)) (by rfl) (fun v1 hv1 => Fx.r_call (args := [.int .i64 (l), .int .i64 (n)]) rfl rfl Try.func25 rfl rfl) rfl (fun v1 hv1 => (d_share l n _).mono fun e v2 h => ⟨h.1, by rw [h.2]; exact hv1⟩) ?_
     refine Fx.Qt.v (.int .i64 (l)) (fun v1 hv1 => Fx.x_move rfl h20) ?_
     refine Fx.Qt.v (.int .i64 (n)) (fun v1 hv1 => Fx.x_move rfl h21) ?_
     refine Fx.Qt.call (v := .int .i64 (shareM l n)) (by rfl) (fun v1 hv1 => Fx.r_call (args := [.int .i64 (l), .int .i64 (n)]) rfl rfl Try.func26 rfl rfl) rfl (fun v1 hv1 => (r_share l n _).mono fun e v2 h => ⟨h.1, by rw [h.2]; exact hv1⟩) ?_
     refine Fx.Qt.v (.bool true) (fun v1 hv1 => Fx.x_eqlT rfl rfl rfl rfl) ?_
     refine Fx.Qt.v (.bool true) (fun v1 hv1 => Fx.x_move rfl rfl) ?_
     refine Fx.Qt.v (.agg (Fx.varr 20 (stY s))) (fun v1 hv1 => Fx.x_loadA (x := stY s) (y := stY s) rfl h26 (by kernel_rfl) (by kernel_rfl) (m24.cel.below hv1 (by have := m24.lt; omega)) (i := 0) (by omega) (by omega) (fun j _ => by rw [Nat.zero_add])) ?_
     refine Fx.Qt.v (.int .i64 (i)) (fun v1 hv1 => Fx.x_move rfl h23) ?_
     refine Fx.Qt.v (.int .u64 (node)) (fun v1 hv1 => Fx.x_move rfl h24) ?_
     refine Fx.Qt.call (v := .int .i64 (whomM s id R i node)) (by rfl) (fun v1 hv1 => Fx.r_call (args := [.agg (Fx.varr 20 (stY s)), .int .i64 (i), .int .u64 (node)]) rfl rfl Try.func27 rfl rfl) rfl (fun v1 hv1 => (d_whom s id par R i node _ (by omega) ((hs.nds.below b12).below hv1)).mono fun e v2 h => ⟨h.1, bch hv1 h.2⟩) ?_
     refine Fx.Qt.v (.agg (Fx.varr 20 (stY s))) (fun v1 hv1 => Fx.x_loadA (x := stY s) (y := stY s) rfl h26 (by kernel_rfl) (by kernel_rfl) (m24.cel.below hv1 (by have := m24.lt; omega)) (i := 0) (by omega) (by omega) (fun j _ => by rw [Nat.zero_add])) ?_
     refine Fx.Qt.v (.int .i64 (i)) (fun v1 hv1 => Fx.x_move rfl h23) ?_
     refine Fx.Qt.v (.int .u64 (node)) (fun v1 hv1 => Fx.x_move rfl h24) ?_
     refine Fx.Qt.call (v := .int .i64 (refW s id R i node)) (by rfl) (fun v1 hv1 => Fx.r_call (args := [.agg (Fx.varr 20 (stY s)), .int .i64 (i), .int .u64 (node)]) rfl rfl Try.func28 rfl rfl) rfl (fun v1 hv1 => (r_whom s id par R i node _ (by omega) ((hs.nds.below b12).below hv1)).mono fun e v2 h => ⟨h.1, bch hv1 h.2⟩) ?_
     refine Fx.Qt.v (.bool true) (fun v1 hv1 => Fx.x_eqlT rfl rfl rfl (whom_eq (un_inj hun))) ?_
     refine Fx.Qt.v (.bool true) (fun v1 hv1 => Fx.x_pickT rfl rfl rfl) ?_
     refine Fx.Qt.v (.bool true) (fun v1 hv1 => Fx.x_move rfl rfl) ?_
     refine Fx.Qt.v (.pointer (some ⟨(M9.pl q), 0, none⟩)) (fun v1 hv1 => Fx.x_move rfl rfl) ?_
     refine Fx.Qt.v (.pointer (some ⟨(M9.pl q), 0, none⟩)) (fun v1 hv1 => Fx.x_nil rfl rfl) ?_
     refine Fx.Qt.v (.pointer (some ⟨(M9.pl q), 0, none⟩)) (fun v1 hv1 => Fx.x_field rfl rfl Try.underlying71 rfl (s := 20) (by kernel_rfl) rfl rfl) ?_
     refine Fx.Qt.v (.agg (Fx.varr 20 (stY (M9.ml q).s))) (fun v1 hv1 => Fx.x_loadA (x := ldY (M9.ml q)) (y := stY (M9.ml q).s) rfl rfl (by kernel_rfl) (by kernel_rfl) (m25.cel.below hv1 (by have := m25.lt; omega)) (i := 0) (by omega) (by omega) (fun jq hjq => (show ldY _ (0 + jq) = stY _ jq by rw [Nat.zero_add]; exact ldY_st _ hjq rfl))) ?_
     refine Fx.Qt.v (.int .i64 (i)) (fun v1 hv1 => Fx.x_move rfl h23) ?_
     refine Fx.Qt.v (.int .u64 (nodeM (M9.ml q) pk)) (fun v1 hv1 => Fx.x_move rfl rfl) ?_
     refine Fx.Qt.call (v := .int .i64 (whomM (M9.ml q).s (M9.ml q).id (M9.ml q).R i (nodeM (M9.ml q) pk))) (by rfl) (fun v1 hv1 => Fx.r_call (args := [.agg (Fx.varr 20 (stY (M9.ml q).s)), .int .i64 (i), .int .u64 (nodeM (M9.ml q) pk)]) rfl rfl Try.func27 rfl rfl) rfl (fun v1 hv1 => (d_whom (M9.ml q).s (M9.ml q).id (M9.ml q).par (M9.ml q).R i (nodeM (M9.ml q) pk) _ (by omega) (m26.ldg.n.below hv1)).mono fun e v2 h => ⟨h.1, bch hv1 h.2⟩) ?_
     refine Fx.Qt.v (.pointer (some ⟨(M9.pl q), 0, none⟩)) (fun v1 hv1 => Fx.x_move rfl rfl) ?_
     refine Fx.Qt.v (.pointer (some ⟨(M9.pl q), 0, none⟩)) (fun v1 hv1 => Fx.x_nil rfl rfl) ?_
     refine Fx.Qt.v (.pointer (some ⟨(M9.pl q), 0, none⟩)) (fun v1 hv1 => Fx.x_field rfl rfl Try.underlying71 rfl (s := 20) (by kernel_rfl) rfl rfl) ?_
     refine Fx.Qt.v (.agg (Fx.varr 20 (stY (M9.ml q).s))) (fun v1 hv1 => Fx.x_loadA (x := ldY (M9.ml q)) (y := stY (M9.ml q).s) rfl rfl (by kernel_rfl) (by kernel_rfl) (m25.cel.below hv1 (by have := m25.lt; omega)) (i := 0) (by omega) (by omega) (fun jq hjq => (show ldY _ (0 + jq) = stY _ jq by rw [Nat.zero_add]; exact ldY_st _ hjq rfl))) ?_
     refine Fx.Qt.v (.int .i64 (i)) (fun v1 hv1 => Fx.x_move rfl h23) ?_
     refine Fx.Qt.v (.int .u64 (nodeM (M9.ml q) pk)) (fun v1 hv1 => Fx.x_move rfl rfl) ?_
     refine Fx.Qt.call (v := .int .i64 (refW (M9.ml q).s (M9.ml q).id (M9.ml q).R i (nodeM (M9.ml q) pk))) (by rfl) (fun v1 hv1 => Fx.r_call (args := [.agg (Fx.varr 20 (stY (M9.ml q).s)), .int .i64 (i), .int .u64 (nodeM (M9.ml q) pk)]) rfl rfl Try.func28 rfl rfl) rfl (fun v1 hv1 => (r_whom (M9.ml q).s (M9.ml q).id (M9.ml q).par (M9.ml q).R i (nodeM (M9.ml q) pk) _ (by omega) (m26.ldg.n.below hv1)).mono fun e v2 h => ⟨h.1, bch hv1 h.2⟩) ?_
     refine Fx.Qt.v (.bool true) (fun v1 hv1 => Fx.x_eqlT rfl rfl rfl (whom_eq (fun a c h1 h2 h3 => hWi.inj a c h1 h2 h3))) ?_
     refine Fx.Qt.v (.bool true) (fun v1 hv1 => Fx.x_pickT rfl rfl rfl) ?_
     refine Fx.Qt.v (.bool true) (fun v1 hv1 => Fx.x_move rfl rfl) ?_
     refine Fx.Qt.call (v := .bool true) (by rfl) (fun v1 hv1 => Fx.r_call (args := []) rfl rfl Try.func21 rfl rfl) rfl (fun v1 hv1 => (works14_any _).mono fun e v2 h => ⟨h.1, bch hv1 h.2⟩) ?_
     refine Fx.Qt.v (.bool true) (fun v1 hv1 => Fx.x_pickT rfl rfl rfl) ?_
     refine Fx.Qt.v (.bool true) (fun v1 hv1 => Fx.x_assign rfl rfl) ?_
     refine Fx.Qt.nil ?_
     intro wb1 hbwb1
     have s9 : Fx.Stp w9.heap.size w9 wb1 := Fx.Stp.of_below hbwb1
     have m27 := m24.stp s9 (Nat.ne_of_lt (m24.lt))
     have m28 := m25.stp s9 (Nat.ne_of_lt (m25.lt))
     have m29 := m26.up s9.old
     have b13 := s9.below b12 b12.size b12.size
     refine Fx.seqN (Fx.W.ret (⟨.bool true, Fx.retV1 Try.results4 (by exact rfl), ?_⟩))
     exact ⟨rfl, b13⟩
 ·rw [Bool.not_eq_true] at c24
  refine Fx.L.call (by rfl) (Fx.r_call (args := [.slice aa0 (na) (ca)]) rfl rfl Try.func20 rfl rfl) rfl ((l_few _ _ _ _).mono ?_)
  rintro e v1 ⟨he, hv1⟩
  subst v1
  refine ⟨.bool false, by rw [he, c24], ?_⟩
  clear he
  refine Fx.L.v (.bool true) (Fx.x_notT rfl rfl) ?_
  refine Fx.L.v (.bool true) (Fx.x_move rfl rfl) ?_
  refine Fx.L.skip (by rfl) rfl ?_
  refine Fx.L.skip (by rfl) rfl ?_
  refine Fx.L.skip (by rfl) rfl ?_
  refine Fx.L.skip (by rfl) rfl ?_
  refine Fx.L.v (.bool true) (Fx.x_pickT rfl rfl rfl) ?_
  refine Fx.L.nil (Fx.seqN (Fx.W.cond (b := true) rfl (fun _ => Fx.W.seq (Fx.W.list (Fx.L.call (by rfl) (Fx.r_call (args := []) rfl rfl Try.func21 rfl rfl) rfl ((works14_any _).mono ?_)))) (fun h => nomatch h)))
  rintro e w10 ⟨he, hb5⟩
  refine ⟨.bool true, by rw [he], ?_⟩
  clear he
  have s10 := Fx.Stp.of_below hb5
  have m30 := m1.stp s10 (Nat.ne_of_lt (m1.lt))
  have b14 := s10.below b1 b1.size b1.size
  refine Fx.L.v (.bool true) (Fx.x_assign rfl rfl) ?_
  refine Fx.L.nil (Fx.seqN (Fx.W.ret (Fx.seqR (⟨.bool true, Fx.retV1 Try.results4 (by exact rfl), ?_⟩))))
  exact ⟨rfl, b14⟩
end Go.Proofs.Ytolmkjepieoloaa
