/-
  What the proof of the law rests on, part 5: walks of functions, and plain laws; each says its conditions itself.
-/
import Derived.Shelf.SlSortCmp.NoneTotal
import Derived.Shelf.SlSortCmp.WholeK
import Derived.Lib.SliceRun
import Derived.Ground.SlsfProg
import Derived.Test.YtleajegppehbdaaProg
import Derived.StillTailTactics
import Derived.Test.YtleajegppehbdaaZE4
namespace Go.Proofs.Ytleajegppehbdaa
open Go.RowKit Rt
open Fx (x_move x_assign x_field x_load1 x_pickF x_pickT x_nil x_conv x_indexS x_index x_leqF x_loadA x_len x_gtrF x_build x_eqlF x_eqlT Lv sN Ln Ws Qv Wl Rp Wc Qs Wr Sb Lk Wk rC rV sR)
namespace Rt
structure InvW (L : LdC) (T : Nat) : Prop where
  nn : L.nn ≤ 33
  gn : L.gn ≤ T
  rn : ∀ i, i < 6 → L.rn i ≤ T
  tn : ∀ x, L.node x = findT L.t L.tn x
  dx : ∀ x, ∃ D, D ≤ 1000 ∧ findT L.t L.tn (iterT L.t L.tn D x) < 0
  may : ∀ k, k < L.nn → may (L.R k) = true
  kn : KnOk L.known
open Classical in
noncomputable def applyE (L : LdC) (v : EvM) : Int :=
  if mayE v = false then 1 else if lateE L.known v = true then 14 else if readyE L.known v = false then 13 else if L.inn (regN v) = false ∨ L.left (regN v) = true then 10 else doesE L v
def knowC (L : LdC) (v : EvM) : LdC := { L with known := updA L.known (regN v) (L.known (regN v) + 1) }
open Classical in
noncomputable def applyC (L : LdC) (v : EvM) : LdC := if applyE L v = 0 then knowC (doesC L v) v else L
theorem doesC_known (L : LdC) (v : EvM) : (doesC L v).known = L.known := by
  unfold doesC
  split; · unfold makesC; rfl
  split; · unfold raiseC; rfl
  split; · unfold takesC addReq; rfl
  split; · unfold freesC addReq; rfl
  split; · unfold movesC; rfl
  split <;> rfl
end Rt
set_option maxRecDepth 20000 in
set_option maxHeartbeats 2000000 in
theorem l_apply (m : LdM) (B p T : Nat) (v : EvM) (w : World) (hL : LdO w B p m) (hv : EvWf v) (hI : InvW m.core T) (hT : T ≤ 900000) :
    Calls Try.prog 41 #[.pointer (some ⟨p, 0, none⟩), .agg (Fx.varr 14 (evY v))] w fun e w' => ∃ p' m', e = .returned (.tuple #[.pointer (some ⟨p', 0, none⟩), .int .i64 (applyE m.core v)]) ∧ m'.core = applyC m.core v ∧ LdO w' B p' m' ∧ Below w.heap.size w w' := by
 have hLc := hL.c
 have lpp : p < w.heap.size := hLc.lt
 have hpB := hL.pB
 refine Fx.enter Try.func41 rfl (n := 73) rfl (by rfl) ?_
 refine Ws (Wl (Fx.L.box (m := 14) (y := evY v) (by rfl) rfl rfl (Fx.cells_agg _ _) rfl fun g1 w1 eg1 m1 s1 z1 => ?_))
 have m2 := hL.up s1.old
 have m3 := hLc.stp s1 (Nat.ne_of_lt (hLc.lt))
 have b1 := s1.below (Below.refl w.heap.size w) (Below.refl w.heap.size w).size (Below.refl w.heap.size w).size
 have lg1 : w.heap.size ≤ g1 := by rw [eg1]; exact (Below.refl w.heap.size w).size
 have ng1m3 : p ≠ g1 := by rw [eg1]; exact Nat.ne_of_lt (hLc.lt)
 have tg1 : g1 < w1.heap.size := m1.lt
 clear eg1
 refine Lv (.pointer none) (x_assign rfl rfl) (Lv (.int .i64 (0)) (x_assign rfl rfl) (Ln (sN (Ws (Ws (Wl (Lv (.agg (Fx.varr 14 (evY v))) (x_loadA (x := evY v) (y := evY v) rfl rfl (by kernel_rfl) (by kernel_rfl) m1.cel (i := 0) (by omega) (by omega) (fun j _ => by rw [Nat.zero_add])) ?_)))))))
 by_cases c10 : (mayE v) = true
 ·refine Fx.L.call (by rfl) (rC (args := [.agg (Fx.varr 14 (evY v))]) rfl rfl Try.func45 rfl rfl) rfl ((e_may v _ hv).mono ?_)
  rintro e w2 ⟨he, hb1⟩
  refine ⟨.bool true, by rw [he, c10], ?_⟩
  clear he
  have s2 := Sb hb1
  have m4 := m2.up s2.old
  have m5 := m3.stp s2 (Nat.ne_of_lt (m3.lt))
  have m6 := m1.stp s2 (Nat.ne_of_lt (m1.lt))
  have b2 := s2.below b1 b1.size b1.size
  refine Lv (.bool false) (Fx.x_notF rfl rfl) (Ln (sN (Wc (b := false) rfl (fun h => nomatch h) (fun _ => Wk (sN (Ws (Ws ?_)))))))
  -- region 3 draws
  refine Fx.W.quiet (fun v1 => Below w2.heap.size w2 v1) (by kernel_rfl) (by kernel_rfl) (Below.refl _ _).drew ?_
  refine Qv (.pointer (some ⟨p, 0, none⟩)) (fun v1 hv1 => x_move rfl rfl) (Qv (.pointer (some ⟨p, 0, none⟩)) (fun v1 hv1 => x_nil rfl rfl) (Qv (.pointer (some ⟨p, 0, none⟩)) (fun v1 hv1 => x_field rfl rfl Try.underlying70 rfl (s := 20) (by kernel_rfl) rfl rfl) (Qv (.pointer (some ⟨p, 12, none⟩)) (fun v1 hv1 => x_field rfl rfl Try.underlying65 rfl (s := 6) (by kernel_rfl) rfl (by show _ + 12 = _; omega)) (Qv (.agg (Fx.varr 6 (Fx.rv .u64 m.s.known))) (fun v1 hv1 => x_loadA (x := ldY m) (y := Fx.rv .u64 m.s.known) rfl rfl (by kernel_rfl) (by kernel_rfl) (m5.cel.below hv1 (by have := m5.lt; omega)) (i := 12) (by omega) (by omega) (fun j hj => ldY_st _ (by omega) (stY_known _ hj (by omega)))) (Qv (.agg (Fx.varr 14 (evY v))) (fun v1 hv1 => x_loadA (x := evY v) (y := evY v) rfl rfl (by kernel_rfl) (by kernel_rfl) (m6.cel.below hv1 (by have := m6.lt; omega)) (i := 0) (by omega) (by omega) (fun j _ => by rw [Nat.zero_add])) ?_)))))
  by_cases c19 : (lateE m.s.known v) = true
  ·refine Fx.Qt.call (v := .bool true) (by rfl) (fun v1 hv1 => rC (args := [.agg (Fx.varr 6 (Fx.rv .u64 m.s.known)), .agg (Fx.varr 14 (evY v))]) rfl rfl Try.func46 rfl rfl) rfl (fun v1 hv1 => (e_late m.s.known v _ hv).mono fun e v2 h => ⟨by rw [h.1, c19], bch hv1 h.2⟩) ?_
   refine Fx.Qt.nil ?_
   intro wb1 hbwb1
   have s3 : Fx.Stp w2.heap.size w2 wb1 := Sb hbwb1
   have m7 := m4.up s3.old
   have b3 := s3.below b2 b2.size b2.size
   refine sN (Wc (b := true) rfl (fun _ => Ws (Wl (Lv (.pointer (some ⟨p, 0, none⟩)) (x_move rfl rfl) ?_))) (fun h => nomatch h))
   refine Lv (.pointer (some ⟨p, 0, none⟩)) (x_assign rfl rfl) (Lv (.int .i64 (14)) (x_assign rfl rfl) (Ln (sN (Wr (sR (⟨.tuple #[.pointer (some ⟨p, 0, none⟩), .int .i64 (14)], Fx.retV2 Try.results41 (by exact rfl) (by exact rfl), ?_⟩))))))
   have ee : applyE m.core v = 14 := by unfold applyE; rw [if_neg (by rw [c10]; decide)]; exact if_pos c19
   have ec : applyC m.core v = m.core := by unfold applyC; rw [if_neg (by rw [ee]; decide)]
   exact ⟨p, m, by rw [ee], ec.symm, m7, b3⟩
  rw [Bool.not_eq_true] at c19
  refine Fx.Qt.call (v := .bool false) (by rfl) (fun v1 hv1 => rC (args := [.agg (Fx.varr 6 (Fx.rv .u64 m.s.known)), .agg (Fx.varr 14 (evY v))]) rfl rfl Try.func46 rfl rfl) rfl (fun v1 hv1 => (e_late m.s.known v _ hv).mono fun e v2 h => ⟨by rw [h.1, c19], bch hv1 h.2⟩) ?_
  refine Fx.Qt.nil ?_
  intro wb2 hbwb2
  have s4 : Fx.Stp w2.heap.size w2 wb2 := Sb hbwb2
  have m10 := m4.up s4.old
  have m11 := m5.stp s4 (Nat.ne_of_lt (m5.lt))
  have m12 := m6.stp s4 (Nat.ne_of_lt (m6.lt))
  have b4 := s4.below b2 b2.size b2.size
  refine sN (Wc (b := false) rfl (fun h => nomatch h) (fun _ => Wk (sN (Ws (Ws ?_)))))
  -- region 5 draws
  refine Fx.W.quiet (fun v1 => Below wb2.heap.size wb2 v1) (by kernel_rfl) (by kernel_rfl) (Below.refl _ _).drew ?_
  refine Qv (.pointer (some ⟨p, 0, none⟩)) (fun v1 hv1 => x_move rfl rfl) (Qv (.pointer (some ⟨p, 0, none⟩)) (fun v1 hv1 => x_nil rfl rfl) (Qv (.pointer (some ⟨p, 0, none⟩)) (fun v1 hv1 => x_field rfl rfl Try.underlying70 rfl (s := 20) (by kernel_rfl) rfl rfl) (Qv (.pointer (some ⟨p, 12, none⟩)) (fun v1 hv1 => x_field rfl rfl Try.underlying65 rfl (s := 6) (by kernel_rfl) rfl (by show _ + 12 = _; omega)) (Qv (.agg (Fx.varr 6 (Fx.rv .u64 m.s.known))) (fun v1 hv1 => x_loadA (x := ldY m) (y := Fx.rv .u64 m.s.known) rfl rfl (by kernel_rfl) (by kernel_rfl) (m11.cel.below hv1 (by have := m11.lt; omega)) (i := 12) (by omega) (by omega) (fun j hj => ldY_st _ (by omega) (stY_known _ hj (by omega)))) (Qv (.agg (Fx.varr 14 (evY v))) (fun v1 hv1 => x_loadA (x := evY v) (y := evY v) rfl rfl (by kernel_rfl) (by kernel_rfl) (m12.cel.below hv1 (by have := m12.lt; omega)) (i := 0) (by omega) (by omega) (fun j _ => by rw [Nat.zero_add])) ?_)))))
  by_cases c27 : (readyE m.s.known v) = true
  ·refine Fx.Qt.call (v := .bool true) (by rfl) (fun v1 hv1 => rC (args := [.agg (Fx.varr 6 (Fx.rv .u64 m.s.known)), .agg (Fx.varr 14 (evY v))]) rfl rfl Try.func47 rfl rfl) rfl (fun v1 hv1 => (e_ready m.s.known v _ hv hI.kn).mono fun e v2 h => ⟨by rw [h.1, c27], bch hv1 h.2⟩) ?_
   refine Qv (.bool false) (fun v1 hv1 => Fx.x_notF rfl rfl) (Fx.Qt.nil ?_)
   intro wb3 hbwb3
   have s5 : Fx.Stp wb2.heap.size wb2 wb3 := Sb hbwb3
   have m13 := m10.up s5.old
   have m14 := m11.stp s5 (Nat.ne_of_lt (m11.lt))
   have m15 := m12.stp s5 (Nat.ne_of_lt (m12.lt))
   have b5 := s5.below b4 b4.size b4.size
   refine sN (Wc (b := false) rfl (fun h => nomatch h) (fun _ => Wk (sN (Ws ?_))))
   obtain ⟨a, ha, ho⟩ := regE_nat (may_reg c10)
   refine Wl (Lv (.pointer (some ⟨g1, 0, none⟩)) (x_field rfl rfl Try.underlying50 rfl (s := 1) (by kernel_rfl) rfl rfl) (Lv (.int .i64 (v.o)) (x_load1 (x := evY v) rfl rfl (by kernel_rfl) m15.cel (i := 0) (by omega) (by omega) rfl) (Lv (.int .i64 ((a : Int))) (Fx.x_sub rfl rfl rfl (Fx.i64e (by omega) (by omega))) (Lv (.int .i64 ((a : Int))) (x_assign rfl rfl) (Ln (sN (Ws (Ws (Wl (Lv (.pointer (some ⟨p, 0, none⟩)) (x_move rfl rfl) (Lv (.int .i64 ((a : Int))) (x_move rfl rfl) (Lv (.pointer (some ⟨p, 0, none⟩)) (x_nil rfl rfl) (Lv (.pointer (some ⟨p, 0, none⟩)) (x_field rfl rfl Try.underlying70 rfl (s := 20) (by kernel_rfl) rfl rfl) (Lv (.pointer (some ⟨p, 0, none⟩)) (x_field rfl rfl Try.underlying65 rfl (s := 6) (by kernel_rfl) rfl rfl) (Lv (.pointer (some ⟨p, a, none⟩)) (x_index rfl rfl rfl Try.underlying61 (s := 1) (by kernel_rfl) (by omega) (by omega) (by omega)) ?_)))))))))))))))
   by_cases c39 : (m.s.inn a) = true
   ·refine Lv (.bool true) (x_load1 (x := ldY m) rfl rfl (by kernel_rfl) m14.cel (i := a) (by omega) (by omega) ((ldY_st _ (by omega) (stY_in _ (by omega))).trans (congrArg Value.bool c39))) (Lv (.bool false) (Fx.x_notF rfl rfl) (Lv (.bool false) (x_move rfl rfl) (Lv (.pointer (some ⟨p, 0, none⟩)) (x_move rfl rfl) (Lv (.int .i64 ((a : Int))) (x_move rfl rfl) (Lv (.pointer (some ⟨p, 0, none⟩)) (x_nil rfl rfl) (Lv (.pointer (some ⟨p, 0, none⟩)) (x_field rfl rfl Try.underlying70 rfl (s := 20) (by kernel_rfl) rfl rfl) (Lv (.pointer (some ⟨p, 6, none⟩)) (x_field rfl rfl Try.underlying65 rfl (s := 6) (by kernel_rfl) rfl (by show _ + 6 = _; omega)) (Lv (.pointer (some ⟨p, a + 6, none⟩)) (x_index rfl rfl rfl Try.underlying61 (s := 1) (by kernel_rfl) (by omega) (by omega) (by omega)) ?_))))))))
    by_cases c48 : (m.s.left a) = true
    ·refine Lv (.bool true) (x_load1 (x := ldY m) rfl rfl (by kernel_rfl) m14.cel (i := a + 6) (by omega) (by omega) ((ldY_st _ (by omega) (stY_left _ (by omega) (by omega))).trans (congrArg Value.bool c48))) (Lv (.bool true) (x_pickF rfl rfl rfl) (Ln (sN (Wc (b := true) rfl (fun _ => Ws (Wl (Lv (.pointer (some ⟨p, 0, none⟩)) (x_move rfl rfl) ?_))) (fun h => nomatch h)))))
     refine Lv (.pointer (some ⟨p, 0, none⟩)) (x_assign rfl rfl) (Lv (.int .i64 (10)) (x_assign rfl rfl) (Ln (sN (Wr (sR (⟨.tuple #[.pointer (some ⟨p, 0, none⟩), .int .i64 (10)], Fx.retV2 Try.results41 (by exact rfl) (by exact rfl), ?_⟩))))))
     have eN : regN v = a := by unfold regN; omega
     have ee : applyE m.core v = 10 := by unfold applyE; rw [if_neg (by rw [c10]; decide), if_neg (by rw [show lateE m.core.known v = false from c19]; decide), if_neg (by rw [show readyE m.core.known v = true from c27]; decide), eN]; exact if_pos (.inr c48)
     have ec : applyC m.core v = m.core := by unfold applyC; rw [if_neg (by rw [ee]; decide)]
     exact ⟨p, m, by rw [ee], ec.symm, m13, b5⟩
    rw [Bool.not_eq_true] at c48
    refine Lv (.bool false) (x_load1 (x := ldY m) rfl rfl (by kernel_rfl) m14.cel (i := a + 6) (by omega) (by omega) ((ldY_st _ (by omega) (stY_left _ (by omega) (by omega))).trans (congrArg Value.bool c48))) (Lv (.bool false) (x_pickF rfl rfl rfl) (Ln (sN (Wc (b := false) rfl (fun h => nomatch h) (fun _ => Wk (sN (Ws (Wl (Lv (.pointer (some ⟨p, 0, none⟩)) (x_move rfl rfl) (Fx.L.call (by rfl) (rC (args := [.pointer (some ⟨p, 0, none⟩)]) rfl rfl Try.func56 rfl rfl) rfl ((l_copy m p _ m13.ldg (by have := hI.nn; have e : m.core.nn = m.s.nn := rfl; omega) m13.bt).mono ?_)))))))))))
    rintro e w3 ⟨p2, m2, he, hco, hL2, hbc⟩
    refine ⟨.pointer (some ⟨p2, 0, none⟩), he, ?_⟩
    clear he
    have s6 := Sb hbc
    have m18 := m15.stp s6 (Nat.ne_of_lt (m15.lt))
    have b6 := s6.below b5 b5.size b5.size
    have hI2 : InvW m2.core T := by rw [hco]; exact hI
    refine Lv (.pointer (some ⟨p2, 0, none⟩)) (x_assign rfl rfl) (Ln (sN (Ws ?_)))
    have hL2s := hL2
    refine Wl (Lv (.pointer (some ⟨p2, 0, none⟩)) (x_move rfl rfl) (Lv (.agg (Fx.varr 14 (evY v))) (x_loadA (x := evY v) (y := evY v) rfl rfl (by kernel_rfl) (by kernel_rfl) m18.cel (i := 0) (by omega) (by omega) (fun j _ => by rw [Nat.zero_add])) (Fx.L.call (by rfl) (rC (args := [.pointer (some ⟨p2, 0, none⟩), .agg (Fx.varr 14 (evY v))]) rfl rfl Try.func57 rfl rfl) rfl ((l_does m2 wb3.heap.size p2 a v _ hL2s hbc.size ha ho (by have h9 : m2.s.nn ≤ 33 := hI2.nn; omega) (Nat.le_trans hI2.gn hT) (fun i hi => Nat.le_trans (hI2.rn i hi) hT) hI2.tn hI2.dx hv c10 hI2.may).mono ?_))))
    rintro e w4 ⟨he, hbd, hL3⟩
    refine ⟨.int .i64 (doesE m.core v), by rw [← hco]; exact he, ?_⟩
    clear he
    rw [hco] at hL3
    have b8 : Below wb3.heap.size wb3 w4 := hbc.trans hbd
    have b7 : Below w.heap.size w w4 := b6.trans (hbd.mono (Nat.le_trans (Nat.le_refl _) b5.size))
    have m19 : LdO w4 B p m := m13.up b8
    refine Lv (.int .i64 (doesE m.core v)) (x_assign rfl rfl) (Ln (sN (Ws (Ws (Wl (Lv (.int .i64 (doesE m.core v)) (x_move rfl rfl) ?_))))))
    by_cases c57 : (doesE m.core v) = 0
    ·refine Lv (.bool false) (Fx.x_neqF rfl rfl rfl c57) (Ln (sN (Wc (b := false) rfl (fun h => nomatch h) (fun _ => Wk (sN (Ws ?_))))))
     obtain ⟨m3, hc3, hL3b⟩ := hL3 c57
     have hMc := hL3b.c
     have hMn := hL3b.n
     have hMg := hL3b.g
     have hMt := hL3b.tc
     have hMtr := hL3b.t
     have hMr := hL3b.r
     have ek3 : m3.s.known = m.s.known := by show m3.core.known = _; rw [hc3, doesC_known]; rfl
     have hk3 := hI.kn a ha
     have hk3 : 0 ≤ m3.s.known a ∧ m3.s.known a < 1099511627776 := by rw [ek3]; exact hk3
     have lp2 := hL3b.pB
     have sw1 := b5.size
     -- region 14 draws
     refine Fx.W.reord [0, 1, 2, 3, 4, 5, 8, 9, 10, 6, 7, 11, 12] [0, 0, 0, 0, 0, 0, 4, 0, 0, 0, 0, 0, 3] Fx.Mk Fx.Mk.refl Fx.Mk.trans (certs := [(12, 6, [6])]) (by kernel_rfl) (by kernel_rfl) (by kernel_rfl) (by kernel_rfl) (by kernel_rfl) fun wt1 hbwt1 hzwt1 => ?_
     have s7 : Fx.Stp w4.heap.size w4 wt1 := Sb hbwt1
     have m20 := hMc.stp s7 (Nat.ne_of_lt (hMc.lt))
     have m21 := hMn.stp s7 (hMn.notNew (Nat.le_refl _))
     have m22 := hMg.stp s7 (hMg.notNew (Nat.le_refl _))
     have m23 := hMt.stp s7 (Nat.ne_of_lt (hMt.lt))
     have m24 := hMtr.stp s7 (hMtr.notNew (Nat.le_refl _))
     have m25 := hMr.up s7.old
     have b9 := s7.below b7 b7.size b7.size
     refine Rp (.pointer (some ⟨p2, 0, none⟩)) (fun v1 => x_move rfl rfl) (Rp (.int .i64 ((a : Int))) (fun v1 => x_move rfl rfl) (Rp (.pointer (some ⟨p2, 0, none⟩)) (fun v1 => x_nil rfl rfl) (Rp (.pointer (some ⟨p2, 0, none⟩)) (fun v1 => x_field rfl rfl Try.underlying70 rfl (s := 20) (by kernel_rfl) rfl rfl) (Rp (.pointer (some ⟨p2, 12, none⟩)) (fun v1 => x_field rfl rfl Try.underlying65 rfl (s := 6) (by kernel_rfl) rfl (by show _ + 12 = _; omega)) (Rp (.pointer (some ⟨p2, a + 12, none⟩)) (fun v1 => x_index rfl rfl rfl Try.underlying32 (s := 1) (by kernel_rfl) (by omega) (by omega) (by omega)) (Rp (.pointer (some ⟨p2, 0, none⟩)) (fun v1 => x_nil rfl rfl) (Rp (.pointer (some ⟨p2, 0, none⟩)) (fun v1 => x_field rfl rfl Try.underlying70 rfl (s := 20) (by kernel_rfl) rfl rfl) (Rp (.pointer (some ⟨p2, 12, none⟩)) (fun v1 => x_field rfl rfl Try.underlying65 rfl (s := 6) (by kernel_rfl) rfl (by show _ + 12 = _; omega)) (Fx.R.s (.int .u64 (m3.s.known a)) (x_load1 (x := ldY m3) rfl rfl (by kernel_rfl) m20.cel (i := a + 12) (by omega) (by omega) (ldY_st _ (by omega) (stY_known _ (by omega) (by omega)))) ?_)))))))))
     refine Rp (.int .u64 (m3.s.known a + 1)) (fun v1 => Fx.x_add rfl rfl rfl (Fx.u64e (by omega) (by omega))) (Rp (.pointer (some ⟨p2, a + 12, none⟩)) (fun v1 => x_index rfl rfl rfl Try.underlying32 (s := 1) (by kernel_rfl) (by omega) (by omega) (by omega)) (Fx.R.eff (by rfl) ?_))
     refine Fx.L.store1 (x := ldY m3) (u := .int .u64 (m3.s.known a + 1)) (by rfl) rfl rfl rfl rfl (by rfl) (by kernel_rfl) m20 (i := a + 12) (by omega) fun w5 m26 s8 z2 => ?_
     have hct1 := Fx.ChT.of_stp s8 m20.ty
     have m27 := m21.chT hct1 (by decide)
     have m28 := m22.chT hct1 (by decide)
     have m29 := m23.chT hct1 (by decide)
     have m30 := m24.chT hct1 (by decide)
     have m31 := m25.chT hct1 (by decide)
     have b10 := s8.below b9 b9.size (by omega)
     refine Ln (Fx.R.nil (sN (Ws (Wl (Lv (.pointer (some ⟨p2, 0, none⟩)) (x_move rfl rfl) (Lv (.pointer (some ⟨p2, 0, none⟩)) (x_assign rfl rfl) (Lv (.int .i64 (0)) (x_assign rfl rfl) (Ln (sN (Wr (⟨.tuple #[.pointer (some ⟨p2, 0, none⟩), .int .i64 (0)], Fx.retV2 Try.results41 (by exact rfl) (by exact rfl), ?_⟩)))))))))))
     have eN : regN v = a := by unfold regN; omega
     have ee : applyE m.core v = 0 := by unfold applyE; rw [if_neg (by rw [c10]; decide), if_neg (by rw [show lateE m.core.known v = false from c19]; decide), if_neg (by rw [show readyE m.core.known v = true from c27]; decide), eN]; rw [if_neg (show ¬ (m.core.inn a = false ∨ m.core.left a = true) from fun h => h.elim (fun h => by rw [show m.core.inn a = true from c39] at h; cases h) (fun h => by rw [show m.core.left a = false from c48] at h; cases h))]; exact c57
     have hfin : LdO w5 wb3.heap.size p2 { m3 with s := { m3.s with known := updA m3.s.known a (m3.s.known a + 1) } } := { c := m26.to (ldY_known m3 ha rfl _), n := m27, g := m28, tc := m29, t := m30, r := m31, pB := hL3b.pB, tB := hL3b.tB, bn := hL3b.bn, bg := hL3b.bg, bt := hL3b.bt, br := hL3b.br }
     refine ⟨p2, { m3 with s := { m3.s with known := updA m3.s.known a (m3.s.known a + 1) } }, by rw [ee], ?_, hfin.mono (by have := hL.pB; have := lpp; omega), b10⟩
     unfold applyC; rw [if_pos ee]; unfold knowC; rw [eN, doesC_known, ← hc3, show m.core.known = m3.s.known from ek3.symm]; rfl
    refine Lv (.bool true) (Fx.x_neqT rfl rfl rfl c57) (Ln (sN (Wc (b := true) rfl (fun _ => Ws (Wl (Lv (.pointer (some ⟨p, 0, none⟩)) (x_move rfl rfl) ?_))) (fun h => nomatch h))))
    refine Lv (.int .i64 (doesE m.core v)) (x_move rfl rfl) (Lv (.pointer (some ⟨p, 0, none⟩)) (x_assign rfl rfl) (Lv (.int .i64 (doesE m.core v)) (x_assign rfl rfl) (Ln (sN (Wr (sR (⟨.tuple #[.pointer (some ⟨p, 0, none⟩), .int .i64 (doesE m.core v)], Fx.retV2 Try.results41 (by exact rfl) (by exact rfl), ?_⟩)))))))
    have eN : regN v = a := by unfold regN; omega
    have ee : applyE m.core v = doesE m.core v := by unfold applyE; rw [if_neg (by rw [c10]; decide), if_neg (by rw [show lateE m.core.known v = false from c19]; decide), if_neg (by rw [show readyE m.core.known v = true from c27]; decide), eN]; rw [if_neg (show ¬ (m.core.inn a = false ∨ m.core.left a = true) from fun h => h.elim (fun h => by rw [show m.core.inn a = true from c39] at h; cases h) (fun h => by rw [show m.core.left a = false from c48] at h; cases h))]
    have ec : applyC m.core v = m.core := by unfold applyC; rw [if_neg (by rw [ee]; exact c57)]
    exact ⟨p, m, by rw [ee], ec.symm, m19, b7⟩
   rw [Bool.not_eq_true] at c39
   refine Lv (.bool false) (x_load1 (x := ldY m) rfl rfl (by kernel_rfl) m14.cel (i := a) (by omega) (by omega) ((ldY_st _ (by omega) (stY_in _ (by omega))).trans (congrArg Value.bool c39))) (Lv (.bool true) (Fx.x_notT rfl rfl) (Lv (.bool true) (x_move rfl rfl) (Lk (by rfl) rfl (Lk (by rfl) rfl (Lk (by rfl) rfl (Lk (by rfl) rfl (Lk (by rfl) rfl (Lk (by rfl) rfl (Lk (by rfl) rfl (Lv (.bool true) (x_pickT rfl rfl rfl) (Ln (sN (Wc (b := true) rfl (fun _ => Ws (Wl (Lv (.pointer (some ⟨p, 0, none⟩)) (x_move rfl rfl) ?_))) (fun h => nomatch h))))))))))))))
   refine Lv (.pointer (some ⟨p, 0, none⟩)) (x_assign rfl rfl) (Lv (.int .i64 (10)) (x_assign rfl rfl) (Ln (sN (Wr (sR (⟨.tuple #[.pointer (some ⟨p, 0, none⟩), .int .i64 (10)], Fx.retV2 Try.results41 (by exact rfl) (by exact rfl), ?_⟩))))))
   have eN : regN v = a := by unfold regN; omega
   have ee : applyE m.core v = 10 := by unfold applyE; rw [if_neg (by rw [c10]; decide), if_neg (by rw [show lateE m.core.known v = false from c19]; decide), if_neg (by rw [show readyE m.core.known v = true from c27]; decide), eN]; exact if_pos (.inl c39)
   have ec : applyC m.core v = m.core := by unfold applyC; rw [if_neg (by rw [ee]; decide)]
   exact ⟨p, m, by rw [ee], ec.symm, m13, b5⟩
  rw [Bool.not_eq_true] at c27
  refine Fx.Qt.call (v := .bool false) (by rfl) (fun v1 hv1 => rC (args := [.agg (Fx.varr 6 (Fx.rv .u64 m.s.known)), .agg (Fx.varr 14 (evY v))]) rfl rfl Try.func47 rfl rfl) rfl (fun v1 hv1 => (e_ready m.s.known v _ hv hI.kn).mono fun e v2 h => ⟨by rw [h.1, c27], bch hv1 h.2⟩) ?_
  refine Qv (.bool true) (fun v1 hv1 => Fx.x_notT rfl rfl) (Fx.Qt.nil ?_)
  intro wb4 hbwb4
  have s9 : Fx.Stp wb2.heap.size wb2 wb4 := Sb hbwb4
  have m32 := m10.up s9.old
  have b11 := s9.below b4 b4.size b4.size
  refine sN (Wc (b := true) rfl (fun _ => Ws (Wl (Lv (.pointer (some ⟨p, 0, none⟩)) (x_move rfl rfl) ?_))) (fun h => nomatch h))
  refine Lv (.pointer (some ⟨p, 0, none⟩)) (x_assign rfl rfl) (Lv (.int .i64 (13)) (x_assign rfl rfl) (Ln (sN (Wr (sR (⟨.tuple #[.pointer (some ⟨p, 0, none⟩), .int .i64 (13)], Fx.retV2 Try.results41 (by exact rfl) (by exact rfl), ?_⟩))))))
  have ee : applyE m.core v = 13 := by unfold applyE; rw [if_neg (by rw [c10]; decide), if_neg (by rw [show lateE m.core.known v = false from c19]; decide)]; exact if_pos c27
  have ec : applyC m.core v = m.core := by unfold applyC; rw [if_neg (by rw [ee]; decide)]
  exact ⟨p, m, by rw [ee], ec.symm, m32, b11⟩
 rw [Bool.not_eq_true] at c10
 refine Fx.L.call (by rfl) (rC (args := [.agg (Fx.varr 14 (evY v))]) rfl rfl Try.func45 rfl rfl) rfl ((e_may v _ hv).mono ?_)
 rintro e w6 ⟨he, hb2⟩
 refine ⟨.bool false, by rw [he, c10], ?_⟩
 clear he
 have s10 := Sb hb2
 have m35 := m2.up s10.old
 have b12 := s10.below b1 b1.size b1.size
 refine Lv (.bool true) (Fx.x_notT rfl rfl) (Ln (sN (Wc (b := true) rfl (fun _ => Ws (Wl (Lv (.pointer (some ⟨p, 0, none⟩)) (x_move rfl rfl) ?_))) (fun h => nomatch h))))
 refine Lv (.pointer (some ⟨p, 0, none⟩)) (x_assign rfl rfl) (Lv (.int .i64 (1)) (x_assign rfl rfl) (Ln (sN (Wr (sR (⟨.tuple #[.pointer (some ⟨p, 0, none⟩), .int .i64 (1)], Fx.retV2 Try.results41 (by exact rfl) (by exact rfl), ?_⟩))))))
 have ee : applyE m.core v = 1 := by unfold applyE; exact if_pos c10
 have ec : applyC m.core v = m.core := by unfold applyC; rw [if_neg (by rw [ee]; decide)]
 exact ⟨p, m, by rw [ee], ec.symm, m35, b12⟩
section
namespace Rt
structure Inv0 (L : LdC) (T : Nat) : Prop where
  tnn : L.tn = L.nn
  nn : L.nn ≤ 32
  tid : ∀ i, i < L.nn → L.t i 0 = L.id i ∧ L.t i 1 = L.par i
  rise : ∀ i j, i < j → j < L.nn → L.id i < L.id j
  pos : ∀ i, i < L.nn → 1 ≤ L.id i
  top : ∀ i, i < L.nn → L.id i < 7696581394432
  up : ∀ i, i < L.nn → L.par i = 0 ∨ ∃ j, j < L.nn ∧ L.id j = L.par i
  dep : ∀ x, ∃ D, D ≤ 4 ∧ findT L.t L.tn (iterT L.t L.tn D x) < 0
  gn : L.gn ≤ T
  rn : ∀ i, i < 6 → L.rn i ≤ T
  may : ∀ k, k < L.nn → may (L.R k) = true
  g47 : ∀ k, k < L.nn → ∀ a, a < 6 → L.R k a ≤ 140737488355328
  kn : KnOk L.known
theorem ilt (a : Int) : a < 0 ∨ 0 ≤ a := by omega
theorem findT_iff {t : Nat → Nat → Int} {tn : Nat} {x : Int} : 0 ≤ findT t tn x ↔ ∃ i, i < tn ∧ t i 0 = x := by
  constructor
  · intro h
    obtain ⟨j, hj, _, e⟩ := find_nat h
    exact ⟨j, hj, e⟩
  rintro ⟨i, hi, e⟩
  rcases firstI_spec (fun i => decide (t i 0 = x)) tn with ⟨k, _, e2, _⟩ | ⟨_, h2⟩
  · unfold findT; rw [e2]; omega
  have := h2 i hi; rw [decide_eq_true e] at this; cases this
theorem findT_no {t : Nat → Nat → Int} {tn : Nat} {x : Int} : findT t tn x < 0 ↔ ∀ i, i < tn → t i 0 ≠ x := by
  constructor
  · intro h i hi e
    have := findT_iff.2 ⟨i, hi, e⟩; omega
  intro h
  rcases ilt (findT t tn x) with h1 | h1
  · exact h1
  obtain ⟨i, hi, e⟩ := findT_iff.1 h1
  exact absurd e (h i hi)
theorem findT_at {t : Nat → Nat → Int} {tn i : Nat} (hu : ∀ i j, i < tn → j < tn → t i 0 = t j 0 → i = j) (hi : i < tn) : findT t tn (t i 0) = (i : Int) := by
  obtain ⟨j, hj, e, e2⟩ := find_nat (findT_iff.2 ⟨i, hi, rfl⟩)
  rw [e, hu j i hj hi e2]
theorem iter_shift {t : Nat → Nat → Int} {tn : Nat} {x : Int} : ∀ j, iterT t tn (j + 1) x = iterT t tn j (iterT t tn 1 x)
  | 0 => rfl
  | j + 1 => by
    show t (findT t tn (iterT t tn (j + 1) x)).toNat 1 = t (findT t tn (iterT t tn j (iterT t tn 1 x))).toNat 1
    rw [iter_shift j]
section
variable {L : LdC} {T : Nat}
theorem Inv0.inj (h : Inv0 L T) : ∀ i j, i < L.nn → j < L.nn → L.id i = L.id j → i = j := fun i j hi hj e => by
  rcases Nat.lt_trichotomy i j with h1 | h1 | h1
  · have := h.rise i j h1 hj; omega
  · exact h1
  · have := h.rise j i h1 hi; omega
theorem Inv0.tinj (h : Inv0 L T) : ∀ i j, i < L.tn → j < L.tn → L.t i 0 = L.t j 0 → i = j := fun i j hi hj e => by
  rw [h.tnn] at hi hj
  rw [(h.tid i hi).1, (h.tid j hj).1] at e
  exact h.inj i j hi hj e
theorem firstI_cong {P Q : Nat → Bool} : ∀ {n : Nat}, (∀ i, i < n → P i = Q i) → firstI P n = firstI Q n
  | 0, _ => rfl
  | n + 1, h => by
    simp only [firstI]
    rw [firstI_cong (n := n) fun i hi => h i (by omega), h n (by omega)]
theorem Inv0.node (h : Inv0 L T) (x : Int) : L.node x = findT L.t L.tn x := by
  unfold LdC.node findT
  rw [h.tnn]
  exact firstI_cong fun i hi => by rw [(h.tid i hi).1]
theorem Inv0.w (h : Inv0 L T) : InvW L T where
  nn := by have := h.nn; omega
  gn := h.gn
  rn := h.rn
  tn := h.node
  dx := fun x => by obtain ⟨D, hD, hx⟩ := h.dep x; exact ⟨D, by omega, hx⟩
  may := h.may
  kn := h.kn
theorem Inv0.mono {T' : Nat} (h : Inv0 L T) (hT : T ≤ T') : Inv0 L T' := { h with gn := Nat.le_trans h.gn hT, rn := fun i hi => Nat.le_trans (h.rn i hi) hT }
theorem insI_lt {α : Type} {f : Nat → α} {k i : Nat} {v : α} (h : i < k) : Fx.insI f k v i = f i := by unfold Fx.insI; rw [if_pos h]
theorem insI_eq {α : Type} {f : Nat → α} {k : Nat} {v : α} : Fx.insI f k v k = v := by unfold Fx.insI; rw [if_neg (by omega), if_pos rfl]
theorem insI_gt {α : Type} {f : Nat → α} {k i : Nat} {v : α} (h : k < i) : Fx.insI f k v i = f (i - 1) := by unfold Fx.insI; rw [if_neg (by omega), if_neg (by omega)]
theorem insI_old {k i n : Nat} (hk : k ≤ n) (hi : i < n + 1) : i = k ∨ ∃ j, j < n ∧ (∀ {α : Type} (f : Nat → α) (v : α), Fx.insI f k v i = f j) ∧ (j < k → i = j) ∧ (k ≤ j → i = j + 1) := by
  rcases Nat.lt_trichotomy i k with h | h | h
  · exact .inr ⟨i, by omega, fun f v => insI_lt h, fun _ => rfl, fun h2 => by omega⟩
  · exact .inl h
  exact .inr ⟨i - 1, by omega, fun f v => insI_gt h, fun h2 => by omega, fun _ => by omega⟩
theorem insI_new {k j n : Nat} (hj : j < n) : ∃ i, i < n + 1 ∧ i ≠ k ∧ ∀ {α : Type} (f : Nat → α) (v : α), Fx.insI f k v i = f j := by
  by_cases h : j < k
  · exact ⟨j, by omega, by omega, fun f v => insI_lt h⟩
  exact ⟨j + 1, by omega, by omega, fun f v => by rw [insI_gt (by omega)]; rfl⟩
theorem insT_eq (t : Nat → Nat → Int) (k : Nat) (id par : Int) (i : Nat) : insT t k id par i = Fx.insI t k (fun j => if j = 0 then id else par) i := rfl
theorem down_cong {P Q : Nat → Bool} : ∀ {n : Nat}, (∀ i, i < n → P i = Q i) → Fx.down P n = Fx.down Q n
  | 0, _ => rfl
  | n + 1, h => by
    unfold Fx.down
    rw [down_cong (n := n) fun i hi => h i (by omega), h n (by omega)]
structure TreeUp (t t' : Nat → Nat → Int) (tn : Nat) (id par : Int) : Prop where
  u : ∀ i j, i < tn → j < tn → t i 0 = t j 0 → i = j
  u' : ∀ i j, i < tn + 1 → j < tn + 1 → t' i 0 = t' j 0 → i = j
  no : ∀ i, i < tn → t i 0 ≠ id
  old : ∀ i, i < tn → ∃ j, j < tn + 1 ∧ t' j = t i
  new : ∃ j, j < tn + 1 ∧ t' j 0 = id ∧ t' j 1 = par
  back : ∀ j, j < tn + 1 → t' j 0 = id ∨ ∃ i, i < tn ∧ t' j = t i
variable {t t' : Nat → Nat → Int} {tn : Nat} {id par : Int}
theorem TreeUp.find (h : TreeUp t t' tn id par) {x : Int} : 0 ≤ findT t' (tn + 1) x ↔ (0 ≤ findT t tn x ∨ x = id) := by
  rw [findT_iff, findT_iff]
  constructor
  · rintro ⟨j, hj, e⟩
    rcases h.back j hj with h1 | ⟨i, hi, h1⟩
    · exact .inr (e.symm.trans h1)
    exact .inl ⟨i, hi, by rw [← h1]; exact e⟩
  rintro (⟨i, hi, e⟩ | e)
  · obtain ⟨j, hj, h1⟩ := h.old i hi
    exact ⟨j, hj, by rw [h1]; exact e⟩
  obtain ⟨j, hj, h1, _⟩ := h.new
  exact ⟨j, hj, h1.trans e.symm⟩
theorem TreeUp.par_old (h : TreeUp t t' tn id par) {x : Int} (hx : 0 ≤ findT t tn x) : t' (findT t' (tn + 1) x).toNat 1 = t (findT t tn x).toNat 1 := by
  obtain ⟨i, hi, e⟩ := findT_iff.1 hx
  obtain ⟨j, hj, e2⟩ := h.old i hi
  have h1 : findT t tn x = (i : Int) := by rw [← e]; exact findT_at h.u hi
  have h2 : findT t' (tn + 1) x = (j : Int) := by
    have : t' j 0 = x := by rw [e2]; exact e
    rw [← this]; exact findT_at h.u' hj
  rw [h1, h2]
  show t' j 1 = t i 1
  rw [e2]
theorem TreeUp.iter (h : TreeUp t t' tn id par) {x : Int} : ∀ K, (∀ i, i < K → 0 ≤ findT t tn (iterT t tn i x)) → iterT t' (tn + 1) K x = iterT t tn K x
  | 0, _ => rfl
  | K + 1, hk => by
    have ih := TreeUp.iter h K fun i hi => hk i (by omega)
    show t' (findT t' (tn + 1) (iterT t' (tn + 1) K x)).toNat 1 = t (findT t tn (iterT t tn K x)).toNat 1
    rw [ih]; exact h.par_old (hk K (by omega))
theorem first_end {t : Nat → Nat → Int} {tn : Nat} {x : Int} : ∀ D, findT t tn (iterT t tn D x) < 0 → ∃ K, K ≤ D ∧ findT t tn (iterT t tn K x) < 0 ∧ ∀ i, i < K → 0 ≤ findT t tn (iterT t tn i x)
  | 0, h => ⟨0, Nat.le_refl _, h, fun _ hi => absurd hi (Nat.not_lt_zero _)⟩
  | D + 1, h => by
    by_cases hall : ∀ i, i < D + 1 → 0 ≤ findT t tn (iterT t tn i x)
    · exact ⟨D + 1, Nat.le_refl _, h, hall⟩
    · obtain ⟨i, hi⟩ := Classical.not_forall.1 hall
      obtain ⟨hi, h2⟩ := Classical.not_imp.1 hi
      rcases Nat.lt_or_ge i D with h3 | h3
      · -- an earlier end
        have : ∀ n, n ≤ D → (∃ j, j ≤ n ∧ findT t tn (iterT t tn j x) < 0) → ∃ K, K ≤ n ∧ findT t tn (iterT t tn K x) < 0 ∧ ∀ i, i < K → 0 ≤ findT t tn (iterT t tn i x) := by
          intro n
          induction n with
          | zero => rintro _ ⟨j, hj, hn⟩; obtain rfl : j = 0 := by omega
                    exact ⟨0, Nat.le_refl _, hn, fun _ hi => absurd hi (Nat.not_lt_zero _)⟩
          | succ n ih =>
            rintro hn ⟨j, hj, hj2⟩
            by_cases h5 : ∃ j, j ≤ n ∧ findT t tn (iterT t tn j x) < 0
            · obtain ⟨K, hK, h6⟩ := ih (by omega) h5; exact ⟨K, by omega, h6⟩
            · refine ⟨n + 1, Nat.le_refl _, ?_, fun i hi => ?_⟩
              · by_cases e : j = n + 1
                · rw [← e]; exact hj2
                · exact absurd ⟨j, by omega, hj2⟩ h5
              · rcases ilt (findT t tn (iterT t tn i x)) with h7 | h7
                · exact absurd ⟨i, by omega, h7⟩ h5
                · exact h7
        obtain ⟨K, hK, h4⟩ := this i (by omega) ⟨i, Nat.le_refl _, by omega⟩
        exact ⟨K, by omega, h4⟩
      · obtain rfl : i = D := by omega
        obtain ⟨K, hK, h4⟩ := first_end (t := t) (tn := tn) (x := x) i (by omega)
        exact ⟨K, by omega, h4⟩
theorem TreeUp.dep (h : TreeUp t t' tn id par) (hid : 1 ≤ id) (hup : ∀ i, i < tn → t i 1 = 0 ∨ 0 ≤ findT t tn (t i 1)) (hpar : par = 0 ∨ 0 ≤ findT t tn par) (hz : findT t tn 0 < 0) (hd : ∀ x, ∃ D, D ≤ 4 ∧ findT t tn (iterT t tn D x) < 0) (hdeep : ¬ deepT t tn par) :
    ∀ x, ∃ D, D ≤ 4 ∧ findT t' (tn + 1) (iterT t' (tn + 1) D x) < 0 := by
  -- an end of an old path is none of the new tree's nodes
  have hidn : findT t tn id < 0 := findT_no.2 h.no
  have key : ∀ x K, x ≠ id → findT t tn (iterT t tn K x) < 0 → (∀ i, i < K → 0 ≤ findT t tn (iterT t tn i x)) → findT t' (tn + 1) (iterT t' (tn + 1) K x) < 0 := fun x K hx hK hall => by
    rw [h.iter K hall]
    rcases ilt (findT t' (tn + 1) (iterT t tn K x)) with h1 | h1
    · exact h1
    · exfalso
      rcases h.find.1 h1 with h2 | h2
      · omega
      · cases K with
        | zero => exact hx h2
        | succ K =>
          have hf := hall K (by omega)
          obtain ⟨i, hi, e⟩ := findT_iff.1 hf
          have e3 : iterT t tn (K + 1) x = t i 1 := by
            show t (findT t tn (iterT t tn K x)).toNat 1 = t i 1
            rw [← e, findT_at h.u hi]; rfl
          rw [e3] at h2 hK
          rcases hup i hi with h4 | h4
          · omega
          · omega
  intro x
  by_cases hx : x = id
  · subst hx
    obtain ⟨i, hi⟩ := Classical.not_forall.1 hdeep
    obtain ⟨hi4, hi⟩ := Classical.not_imp.1 hi
    obtain ⟨K, hK, hK2, hall⟩ := first_end (t := t) (tn := tn) (x := par) i (by omega)
    refine ⟨K + 1, by omega, ?_⟩
    have e1 : iterT t' (tn + 1) 1 x = par := by
      obtain ⟨j, hj, e2, e3⟩ := h.new
      show t' (findT t' (tn + 1) x).toNat 1 = par
      rw [← e2, findT_at h.u' hj]; exact e3
    rw [iter_shift, e1]
    refine key par K ?_ hK2 hall
    rintro rfl
    rcases hpar with h1 | h1 <;> omega
  obtain ⟨D, hD, hD2⟩ := hd x
  obtain ⟨K, hK, hK2, hall⟩ := first_end D hD2
  exact ⟨K, by omega, key x K hx hK2 hall⟩
end
end Rt
end
section
namespace Rt
section
variable {L : LdC} {T : Nat} {v : EvM}
theorem addE_ok {t : Nat → Nat → Int} {tn : Nat} {id par : Int} (h : addE t tn id par = 0) : id ≠ 0 ∧ findT t tn id < 0 ∧ (par = 0 ∨ 0 ≤ findT t tn par) ∧ tn < 32 ∧ ¬ deepT t tn par := by
  unfold addE at h
  split at h; · cases h
  rename_i h1
  split at h; · cases h
  rename_i h2
  split at h; · cases h
  rename_i h3
  split at h; · cases h
  rename_i h4
  refine ⟨h1, by omega, ?_, ?_, fun hd => h4 (.inr hd)⟩
  · rcases ilt (findT t tn par) with h5 | h5
    · by_cases h6 : par = 0
      · exact .inl h6
      exact absurd ⟨h6, h5⟩ h3
    exact .inr h5
  rcases Nat.lt_or_ge tn 32 with h5 | h5
  · exact h5
  exact absurd (Or.inl h5) h4
theorem may_bd (h : mayE v = true) : 1 ≤ v.o ∧ v.o ≤ 6 ∧ 1 ≤ v.seq ∧ v.seq < 1099511627776 := by
  have h1 := may_reg h
  have h2 := may_seq h
  unfold regE at h1
  simp only [Bool.and_eq_true, decide_eq_true_eq] at h1
  exact ⟨h1.1, h1.2, h2.1, h2.2⟩
theorem idE_may (h : mayE v = true) : idE v.o v.seq = 1099511627776 * v.o + v.seq := by
  have := may_bd h
  unfold idE; rw [if_pos (by omega)]
theorem regN_lt (h : mayE v = true) : regN v < 6 := by
  have := may_bd h; unfold regN; omega
theorem may_new {a : Nat} {n : Int} (ha : a < 6) (h0 : 0 ≤ n) (h1 : n ≤ 1125899906842624) : may (upd (fun _ => 0) a n) = true := by
  have e : ∀ p, upd (fun _ => 0) a n p = if p = a then n else 0 := fun p => rfl
  rw [may_iff]
  refine ⟨fun p hp => ?_, fun k hk => ?_, ?_⟩
  · rw [e]; split <;> omega
  · have hr : ∀ i j, R (upd (fun _ => 0) a n) i j = 0 := fun i j => by unfold R; rw [e, if_neg (by omega)]
    refine ⟨?_, ?_, hr k k⟩
    · unfold L
      simp only [hr]
      have hg : 0 ≤ G (upd (fun _ => 0) a n) k := by unfold G; rw [e]; split <;> omega
      have hf : F (upd (fun _ => 0) a n) k = 0 := by unfold F; rw [e, if_neg (by omega)]
      have hc : C (upd (fun _ => 0) a n) k = 0 := by unfold C; rw [e, if_neg (by omega)]
      omega
    have hf : F (upd (fun _ => 0) a n) k = 0 := by unfold F; rw [e, if_neg (by omega)]
    have hc : C (upd (fun _ => 0) a n) k = 0 := by unfold C; rw [e, if_neg (by omega)]
    omega
  unfold gSum G
  simp only [e]
  have : (if 0 = a then n else 0) + (if 1 = a then n else 0) + (if 2 = a then n else 0) + (if 3 = a then n else 0) + (if 4 = a then n else 0) + (if 5 = a then n else 0) = n := six a ha n
  omega
theorem makes_tree (h : Inv0 L T) (hm : mayE v = true) (hk : v.kind = 1) (hE : makesE L v = 0) : ∃ k, k ≤ L.nn ∧ 1 ≤ idE v.o v.seq ∧ L.nn < 32 ∧ (0 ≤ v.amt ∧ v.amt ≤ 140737488355328) ∧ (v.node = 0 ∨ 0 ≤ findT L.t L.tn v.node) ∧ ¬ deepT L.t L.tn v.node ∧
    makesC L v = { L with nn := L.nn + 1, id := Fx.insI L.id k (idE v.o v.seq), par := Fx.insI L.par k v.node, R := Fx.insI L.R k (upd (fun _ => 0) (regN v) v.amt), tn := L.tn + 1, t := insT L.t k (idE v.o v.seq) v.node } ∧
    (∀ i j, i < j → j < L.nn + 1 → Fx.insI L.id k (idE v.o v.seq) i < Fx.insI L.id k (idE v.o v.seq) j) ∧ (∀ i, i < L.nn + 1 → insT L.t k (idE v.o v.seq) v.node i 0 = Fx.insI L.id k (idE v.o v.seq) i ∧ insT L.t k (idE v.o v.seq) v.node i 1 = Fx.insI L.par k v.node i) ∧
    TreeUp L.t (insT L.t k (idE v.o v.seq) v.node) L.tn (idE v.o v.seq) v.node := by
  unfold makesE at hE
  split at hE
  · cases hE
  rename_i h47
  obtain ⟨a1, a2, a3, a4, a5⟩ := addE_ok hE
  have hb := may_bd hm
  have hid := idE_may hm
  have hro := regN_lt hm
  have hamt : 0 ≤ v.amt ∧ v.amt ≤ 140737488355328 := by
    have h8 : ¬ 140737488355328 < v.amt := fun h => h47 (.inr h)
    unfold mayE at hm
    simp only [Bool.and_eq_true] at hm
    have hf := hm.2
    unfold fieldsE at hf
    rw [if_pos hk] at hf
    simp only [Bool.and_eq_true, decide_eq_true_eq] at hf
    omega
  generalize hx : idE v.o v.seq = x at *
  have hx1 : 1 ≤ x := by omega
  have ekt : Fx.down (fun i => decide (x < L.t i 0)) L.tn = downI L.id L.nn x := by
    unfold downI; rw [h.tnn]; exact down_cong fun i hi => by rw [(h.tid i hi).1]
  have eC : makesC L v = { L with nn := L.nn + 1, id := Fx.insI L.id (downI L.id L.nn x) x, par := Fx.insI L.par (downI L.id L.nn x) v.node, R := Fx.insI L.R (downI L.id L.nn x) (upd (fun _ => 0) (regN v) v.amt), tn := L.tn + 1, t := insT L.t (downI L.id L.nn x) x v.node } := by
    unfold makesC; rw [hx, ekt]; rfl
  generalize hkk : downI L.id L.nn x = k at *
  have hkn : k ≤ L.nn := by rw [← hkk]; exact Fx.down_le _ _
  have hno : ∀ i, i < L.nn → L.id i ≠ x := fun i hi e => findT_no.1 a2 i (by rw [h.tnn]; exact hi) (by rw [(h.tid i hi).1]; exact e)
  have hB : ∀ q, k ≤ q → q < L.nn → x < L.id q := fun q h1 h2 => by
    have := Fx.down_gt (P := fun i => decide (x < L.id i)) (n := L.nn) (i := q) (by show downI L.id L.nn x ≤ q; omega) h2
    exact of_decide_eq_true this
  have hA : ∀ q, q < k → L.id q < x := fun q h1 => by
    obtain ⟨j, rfl⟩ : ∃ j, k = j + 1 := ⟨k - 1, by omega⟩
    have h2 := Fx.down_no (P := fun i => decide (x < L.id i)) (n := L.nn) (j := j) hkk
    have h3 : ¬ x < L.id j := of_decide_eq_false h2
    have h4 := hno j (by omega)
    by_cases e : q = j
    · subst e; omega
    · have := h.rise q j (by omega) (by omega); omega
  have hnt : L.nn < 32 := by have := h.tnn; omega
  have hrise : ∀ i j, i < j → j < L.nn + 1 → Fx.insI L.id k x i < Fx.insI L.id k x j := fun i j hij hj => by
    rcases insI_old hkn (show i < L.nn + 1 by omega) with rfl | ⟨q, hq, eq, q1, q2⟩
    · rcases insI_old hkn hj with rfl | ⟨r, hr, er, r1, r2⟩
      · omega
      · rw [insI_eq, er]
        exact hB r (by omega) hr
    · rcases insI_old hkn hj with rfl | ⟨r, hr, er, r1, r2⟩
      · rw [insI_eq, eq]
        exact hA q (by omega)
      · rw [eq, er]
        exact h.rise q r (by omega) hr
  have htid : ∀ i, i < L.nn + 1 → insT L.t k x v.node i 0 = Fx.insI L.id k x i ∧ insT L.t k x v.node i 1 = Fx.insI L.par k v.node i := fun i hi => by
    rw [insT_eq]
    rcases insI_old hkn hi with rfl | ⟨q, hq, eq, _, _⟩
    · rw [insI_eq, insI_eq, insI_eq]; exact ⟨rfl, rfl⟩
    · rw [eq, eq, eq]; exact h.tid q hq
  have hinj : ∀ i j, i < L.nn + 1 → j < L.nn + 1 → Fx.insI L.id k x i = Fx.insI L.id k x j → i = j := fun i j hi hj e => by
    rcases Nat.lt_trichotomy i j with h1 | h1 | h1
    · have := hrise i j h1 hj; omega
    · exact h1
    · have := hrise j i h1 hi; omega
  have hup : TreeUp L.t (insT L.t k x v.node) L.tn x v.node := {
    u := h.tinj
    u' := fun i j hi hj e => by
      rw [h.tnn] at hi hj
      rw [(htid i hi).1, (htid j hj).1] at e
      exact hinj i j hi hj e
    no := findT_no.1 a2
    old := fun i hi => by
      obtain ⟨j, hj, _, e⟩ := insI_new (k := k) hi
      exact ⟨j, hj, by rw [insT_eq]; exact e L.t _⟩
    new := ⟨k, by have := h.tnn; omega, by rw [insT_eq, insI_eq]; rfl, by rw [insT_eq, insI_eq]; rfl⟩
    back := fun j hj => by
      rw [h.tnn] at hj
      rcases insI_old hkn hj with rfl | ⟨q, hq, eq, _, _⟩
      · exact .inl (by rw [insT_eq, insI_eq]; rfl)
      · exact .inr ⟨q, by rw [h.tnn]; exact hq, by rw [insT_eq]; exact eq L.t _⟩ }
  exact ⟨k, hkn, hx1, hnt, hamt, a3, a5, eC, hrise, htid, hup⟩
theorem inv_makes (h : Inv0 L T) (hm : mayE v = true) (hk : v.kind = 1) (hE : makesE L v = 0) : Inv0 (makesC L v) (T + 1) := by
  obtain ⟨k, hkn, hx1, hnt, hamt, a3, a5, eC, hrise, htid, hup⟩ := makes_tree h hm hk hE
  have hb := may_bd hm
  have hid := idE_may hm
  have hro := regN_lt hm
  rw [eC]
  generalize hx : idE v.o v.seq = x at *
  have hold : ∀ j, j < L.nn → ∃ i, i < L.nn + 1 ∧ Fx.insI L.id k x i = L.id j := fun j hj => by
    obtain ⟨i, hi, _, e⟩ := insI_new (k := k) hj
    exact ⟨i, hi, e L.id x⟩
  have hz : findT L.t L.tn 0 < 0 := findT_no.2 fun i hi e => by
    rw [h.tnn] at hi
    rw [(h.tid i hi).1] at e
    have := h.pos i hi; omega
  have hpar1 : v.node = 0 ∨ ∃ j, j < L.nn ∧ L.id j = v.node := by
    rcases a3 with e | e
    · exact .inl e
    · obtain ⟨i, hi, e2⟩ := findT_iff.1 e
      rw [h.tnn] at hi
      exact .inr ⟨i, hi, by rw [← (h.tid i hi).1]; exact e2⟩
  exact {
    tnn := by show L.tn + 1 = L.nn + 1; rw [h.tnn]
    nn := by show L.nn + 1 ≤ 32; omega
    tid := htid
    rise := hrise
    pos := fun i hi => by
      show 1 ≤ Fx.insI L.id k x i
      rcases insI_old hkn hi with rfl | ⟨q, hq, eq, _, _⟩
      · rw [insI_eq]; exact hx1
      · rw [eq]; exact h.pos q hq
    top := fun i hi => by
      show Fx.insI L.id k x i < _
      rcases insI_old hkn hi with rfl | ⟨q, hq, eq, _, _⟩
      · rw [insI_eq]; omega
      · rw [eq]; exact h.top q hq
    up := fun i hi => by
      show Fx.insI L.par k v.node i = 0 ∨ ∃ j, j < L.nn + 1 ∧ Fx.insI L.id k x j = Fx.insI L.par k v.node i
      have hh : ∀ y, (y = 0 ∨ ∃ j, j < L.nn ∧ L.id j = y) → (y = 0 ∨ ∃ j, j < L.nn + 1 ∧ Fx.insI L.id k x j = y) := fun y hy => hy.imp id fun ⟨j, hj, e⟩ => by
        obtain ⟨i, hi, e2⟩ := hold j hj
        exact ⟨i, hi, e2.trans e⟩
      rcases insI_old hkn hi with rfl | ⟨q, hq, eq, _, _⟩
      · rw [insI_eq]; exact hh _ hpar1
      · rw [eq]; exact hh _ (h.up q hq)
    dep := by
      show ∀ y, ∃ D, D ≤ 4 ∧ findT (insT L.t k x v.node) (L.tn + 1) (iterT (insT L.t k x v.node) (L.tn + 1) D y) < 0
      refine hup.dep hx1 (fun i hi => ?_) a3 hz h.dep a5
      have hi' := hi
      rw [h.tnn] at hi'
      rw [(h.tid i hi').2]
      rcases h.up i hi' with e | ⟨j, hj, e⟩
      · exact .inl e
      · exact .inr (findT_iff.2 ⟨j, by rw [h.tnn]; exact hj, by rw [(h.tid j hj).1]; exact e⟩)
    gn := Nat.le_succ_of_le h.gn
    rn := fun i hi => Nat.le_succ_of_le (h.rn i hi)
    may := fun i hi => by
      show may (Fx.insI L.R k _ i) = true
      rcases insI_old hkn hi with rfl | ⟨q, hq, eq, _, _⟩
      · rw [insI_eq]; exact may_new hro hamt.1 (by omega)
      · rw [eq]; exact h.may q hq
    g47 := fun i hi b hb' => by
      show Fx.insI L.R k _ i b ≤ _
      rcases insI_old hkn hi with rfl | ⟨q, hq, eq, _, _⟩
      · rw [insI_eq]
        show (if b = regN v then v.amt else 0) ≤ _
        split <;> omega
      · rw [eq]; exact h.g47 q hq b hb'
    kn := h.kn }
theorem inv_R {L' : LdC} {T' : Nat} (h : Inv0 L T) (e1 : L'.nn = L.nn) (e2 : L'.id = L.id) (e3 : L'.par = L.par) (e4 : L'.tn = L.tn) (e5 : L'.t = L.t) (e6 : L'.known = L.known) (hg : L'.gn ≤ T') (hr : ∀ i, i < 6 → L'.rn i ≤ T')
    (hP : ∀ k, k < L.nn → may (L'.R k) = true ∧ ∀ a, a < 6 → L'.R k a ≤ 140737488355328) : Inv0 L' T' where
  tnn := by rw [e1, e4]; exact h.tnn
  nn := by rw [e1]; exact h.nn
  tid := by rw [e1, e2, e3, e5]; exact h.tid
  rise := by rw [e1, e2]; exact h.rise
  pos := by rw [e1, e2]; exact h.pos
  top := by rw [e1, e2]; exact h.top
  up := by rw [e1, e2, e3]; exact h.up
  dep := by rw [e4, e5]; exact h.dep
  gn := hg
  rn := hr
  may := by rw [e1]; exact fun k hk => (hP k hk).1
  g47 := by rw [e1]; exact fun k hk => (hP k hk).2
  kn := by rw [e6]; exact h.kn
def Ok47 (x : Nat → Int) : Prop := may x = true ∧ ∀ a, a < 6 → x a ≤ 140737488355328
theorem walkR_ok {f : (Nat → Int) → (Nat → Int) × Int} {idx : Nat → Nat} {R : Nat → Nat → Int} {n : Nat} (hs : ∀ x, Ok47 x → (f x).2 = 0 → Ok47 (f x).1) (h0 : ∀ k, k < n → Ok47 (R k)) : ∀ K k, k < n → Ok47 ((walkR f idx R K).1 k)
  | 0, k, hk => h0 k hk
  | K + 1, k, hk => by
    have ih := walkR_ok hs h0 (idx := idx) K
    unfold walkR
    by_cases h1 : (walkR f idx R K).2 = 0
    · rw [if_pos h1]
      by_cases h2 : (f ((walkR f idx R K).1 (idx K))).2 = 0
      · rw [if_pos h2]
        show Ok47 (if k = idx K then _ else _)
        by_cases h3 : k = idx K
        · rw [if_pos h3]; exact hs _ (by rw [← h3]; exact ih k hk) h2
        · rw [if_neg h3]; exact ih k hk
      · rw [if_neg h2]; exact ih k hk
    · rw [if_neg h1]; exact ih k hk
theorem take_47 {x : Nat → Int} {i n : Int} (h : Ok47 x) (h2 : (takeM x i n).2 = 0) : Ok47 (takeM x i n).1 := by
  obtain ⟨a, ha, _, _, _, _, _, hm, _, _, _, e⟩ := take_ok h2
  exact ⟨hm, fun b hb => by rw [e, upd_other _ _ _ _ (by omega)]; exact h.2 b hb⟩
theorem free_47 {x : Nat → Int} {i n : Int} (h : Ok47 x) (h2 : (freeM x i n).2 = 0) : Ok47 (freeM x i n).1 := by
  obtain ⟨a, ha, _, _, _, _, hm, _, _, _, e⟩ := free_ok h2
  exact ⟨hm, fun b hb => by rw [e, upd_other _ _ _ _ (by omega)]; exact h.2 b hb⟩
theorem move_47 {x : Nat → Int} {i j n : Int} (h : Ok47 x) (h2 : (moveM x i j n).2 = 0) : Ok47 (moveM x i j n).1 := by
  obtain ⟨a, b, ha, hb, _, _, _, _, _, _, hm, e⟩ := move_ok h2
  exact ⟨hm.may, fun c hc => by rw [e, upd_other _ _ _ _ (by omega)]; exact h.2 c hc⟩
theorem raise_47 {x : Nat → Int} {a : Nat} {n : Int} (ha : a < 6) (h : Ok47 x) (hn : 0 ≤ n) (h2 : ¬ 140737488355328 < x a + n) : Ok47 (upd x a (x a + n)) := by
  have hm := (may_iff x).1 h.1
  have e : ∀ p, upd x a (x a + n) p = if p = a then x a + n else x p := fun p => rfl
  have hx := hm.1 a (by omega)
  have hg : ∀ b, b < 6 → upd x a (x a + n) b ≤ 140737488355328 := fun b hb => by
    rw [e]; split
    · omega
    · exact h.2 b hb
  refine ⟨(may_iff _).2 ⟨fun p hp => ?_, fun k hk => ?_, ?_⟩, hg⟩
  · have := hm.1 p hp
    rw [e]; split <;> omega
  · obtain ⟨h3, h4, h5⟩ := hm.2.1 k hk
    have hc : C (upd x a (x a + n)) k = C x k := by unfold C; rw [e, if_neg (by omega)]
    have hf : F (upd x a (x a + n)) k = F x k := by unfold F; rw [e, if_neg (by omega)]
    refine ⟨?_, ?_, ?_⟩
    · rw [L_low x a (by omega), hc, hf, G_upd]; split <;> omega
    · rw [hc, hf]; exact h4
    unfold R; rw [e, if_neg (by omega)]; exact h5
  unfold gSum G
  have := hg 0 (by omega); have := hg 1 (by omega); have := hg 2 (by omega); have := hg 3 (by omega); have := hg 4 (by omega); have := hg 5 (by omega)
  omega
theorem Inv0.ok47 (h : Inv0 L T) : ∀ k, k < L.nn → Ok47 (L.R k) := fun k hk => ⟨h.may k hk, h.g47 k hk⟩
theorem rn_more (h : Inv0 L T) (a : Nat) : ∀ i, i < 6 → updA L.rn a (L.rn a + 1) i ≤ T + 1 := fun i hi => by
  unfold updA
  by_cases e : i = a
  · subst e; rw [if_pos rfl]; have := h.rn i hi; omega
  · rw [if_neg e]; have := h.rn i hi; omega
theorem updA_ok {q : Nat} {r : Nat → Int} (h : ∀ k, k < L.nn → Ok47 (L.R k)) (hr : Ok47 r) : ∀ k, k < L.nn → Ok47 (updA L.R q r k) := fun k hk => by
  unfold updA; split
  · exact hr
  · exact h k hk
theorem Inv0.nodeK (h : Inv0 L T) {x : Int} (hx : ¬ L.node x < 0) : (L.node x).toNat < L.nn := by
  rw [h.node] at hx ⊢
  obtain ⟨j, hj, e, _⟩ := find_nat (show 0 ≤ findT L.t L.tn x by omega)
  rw [e]; have := h.tnn; simp; omega
theorem inv_takes (h : Inv0 L T) (hw : ∀ k, k < L.nn → Ok47 ((takesW L v).1 k)) : Inv0 (takesC L v) (T + 1) := by
  unfold takesC addReq
  generalize takesW L v = W at hw
  exact inv_R h rfl rfl rfl rfl rfl rfl (Nat.succ_le_succ h.gn) (rn_more h _) hw
theorem inv_frees (h : Inv0 L T) (hw : ∀ k, k < L.nn → Ok47 ((freesW L v).1 k)) : Inv0 (freesC L v) (T + 1) := by
  unfold freesC addReq
  generalize freesW L v = W at hw
  exact inv_R h rfl rfl rfl rfl rfl rfl (Nat.le_succ_of_le h.gn) (rn_more h _) hw
theorem inv_does (h : Inv0 L T) (hm : mayE v = true) (hE : doesE L v = 0) : Inv0 (doesC L v) (T + 1) := by
  have hk := fields_kind hm
  have hro := regN_lt hm
  have hg := h.gn
  have hT : ∀ i, i < 6 → L.rn i ≤ T + 1 := fun i hi => Nat.le_succ_of_le (h.rn i hi)
  unfold doesE at hE
  unfold doesC
  by_cases k1 : v.kind = 1
  · rw [if_pos k1] at hE ⊢; exact inv_makes h hm k1 hE
  by_cases k2 : v.kind = 2
  · rw [if_neg k1, if_pos k2] at hE ⊢
    unfold raiseE at hE
    split at hE; · cases hE
    rename_i n1
    split at hE; · cases hE
    rename_i n2
    have hb := fields_amt hm (.inl k2)
    exact inv_R h rfl rfl rfl rfl rfl rfl (Nat.le_succ_of_le hg) hT (updA_ok h.ok47 (raise_47 hro (h.ok47 _ (h.nodeK n1)) (by omega) n2))
  by_cases k3 : v.kind = 3
  · rw [if_neg k1, if_neg k2, if_pos k3] at hE ⊢
    have hw : ∀ k, k < L.nn → Ok47 ((takesW L v).1 k) := by unfold takesW; exact walkR_ok (fun x => take_47) h.ok47 _
    exact inv_takes h hw
  by_cases k4 : v.kind = 4
  · rw [if_neg k1, if_neg k2, if_neg k3, if_pos k4] at hE ⊢
    have hw : ∀ k, k < L.nn → Ok47 ((freesW L v).1 k) := by unfold freesW; exact walkR_ok (fun x => free_47) h.ok47 _
    exact inv_frees h hw
  by_cases k5 : v.kind = 5
  · rw [if_neg k1, if_neg k2, if_neg k3, if_neg k4, if_pos k5] at hE ⊢
    unfold movesE at hE
    split at hE; · cases hE
    rename_i n1
    split at hE; · cases hE
    exact inv_R h rfl rfl rfl rfl rfl rfl (Nat.le_succ_of_le hg) hT (updA_ok h.ok47 (move_47 (h.ok47 _ (h.nodeK n1)) hE))
  rw [if_neg k1, if_neg k2, if_neg k3, if_neg k4, if_neg k5]
  split
  · exact inv_R h rfl rfl rfl rfl rfl rfl (Nat.le_succ_of_le hg) hT h.ok47
  exact inv_R h rfl rfl rfl rfl rfl rfl (Nat.le_succ_of_le hg) hT h.ok47
theorem inv0_apply (h : Inv0 L T) : Inv0 (applyC L v) (T + 1) := by
  unfold applyC
  by_cases h0 : applyE L v = 0
  · rw [if_pos h0]
    unfold applyE at h0
    split at h0; · cases h0
    rename_i h1
    split at h0; · cases h0
    split at h0; · cases h0
    rename_i h3
    split at h0; · cases h0
    have hm : mayE v = true := by simpa using h1
    have hr : readyE L.known v = true := by simpa using h3
    have hd := inv_does h hm h0
    have hro := regN_lt hm
    have hs := may_seq hm
    refine { hd with kn := fun i hi => ?_ }
    have ek : (knowC (doesC L v) v).known = updA L.known (regN v) (L.known (regN v) + 1) := by unfold knowC; simp only [doesC_known]
    rw [ek]
    unfold readyE at hr
    simp only [Bool.and_eq_true, decide_eq_true_eq] at hr
    have hk := h.kn
    unfold updA
    split
    · have h5 := hr.1.2
      have h6 : v.seq = L.known (regN v) + 1 := h5
      have := hk (regN v) hro
      omega
    exact hk i hi
  rw [if_neg h0]; exact h.mono (Nat.le_succ T)
end
end Rt
end
section
namespace Rt
def cntP (t : Nat → Nat → Int) (tn : Nat) (x y : Int) : Nat → Int
  | 0 => 0
  | k + 1 => cntP t tn x y k + if iterT t tn k x = y then 1 else 0
def cntT (t : Nat → Nat → Int) (tn : Nat) (x y : Int) : Int := cntP t tn x y (pathK t tn x)
def openG (t : Nat → Nat → Int) (tn : Nat) (g : Nat → Int) (y : Int) : Int := if g 4 = 0 then g 3 * cntT t tn (g 2) y else 0
def openN (t : Nat → Nat → Int) (tn : Nat) (g : Nat → Nat → Int) (y : Int) : Nat → Int
  | 0 => 0
  | q + 1 => openN t tn g y q + openG t tn (g q) y
structure InvS (L : LdC) : Prop where
  us : ∀ k, k < L.nn → uSum (L.R k) = openN L.t L.tn L.g (L.id k) L.gn
  gb : ∀ q, q < L.gn → 0 ≤ findT L.t L.tn (L.g q 2) ∧ 1 ≤ L.g q 0 ∧ L.g q 0 ≤ 6 ∧ 0 ≤ L.g q 3 ∧ L.g q 3 ≤ 1125899906842624
structure EvSm (v : EvM) : Prop where
  amt : v.amt ≤ 65536
  req : v.req ≤ 256
structure InvB (L : LdC) (T : Nat) : Prop where
  kt : ∀ i, i < 6 → L.known i ≤ T
  rb : ∀ k, k < L.nn → ∀ a, a < 54 → L.R k a ≤ 2097152 * T
  rq : ∀ i, i < 6 → ∀ j, j < L.rn i → L.rq i j ≤ 256
structure Inv (L : LdC) (T : Nat) : Prop extends Inv0 L T where
  s : InvS L
  b : InvB L T
section
variable {L : LdC} {T : Nat} {v : EvM}
theorem lead_lt {P : Nat → Bool} : ∀ {n i : Nat}, i < lead P n → P i = true
  | 0, i, h => absurd h (Nat.not_lt_zero _)
  | n + 1, i, h => by
    unfold lead at h
    by_cases e : lead P n = n ∧ P n = true
    · rw [if_pos e] at h
      by_cases e2 : i = n
      · rw [e2]; exact e.2
      · exact lead_lt (n := n) (by omega)
    · rw [if_neg e] at h; exact lead_lt h
theorem pathK_lt {t : Nat → Nat → Int} {tn i : Nat} {x : Int} (h : i < pathK t tn x) : 0 ≤ findT t tn (iterT t tn i x) := of_decide_eq_true (lead_lt (P := fun i => decide (0 ≤ findT t tn (iterT t tn i x))) h)
theorem open_cong {t t' : Nat → Nat → Int} {tn tn' : Nat} {g g' : Nat → Nat → Int} {y y' : Int} : ∀ n, (∀ q, q < n → openG t' tn' (g' q) y' = openG t tn (g q) y) → openN t' tn' g' y' n = openN t tn g y n
  | 0, _ => rfl
  | n + 1, h => by unfold openN; rw [open_cong n fun q hq => h q (by omega), h n (by omega)]
theorem open_zero {t : Nat → Nat → Int} {tn : Nat} {g : Nat → Nat → Int} {y : Int} : ∀ n, (∀ q, q < n → openG t tn (g q) y = 0) → openN t tn g y n = 0
  | 0, _ => rfl
  | n + 1, h => by unfold openN; rw [open_zero n fun q hq => h q (by omega), h n (by omega)]; rfl
theorem open_upd {t : Nat → Nat → Int} {tn k : Nat} {g : Nat → Nat → Int} {x : Nat → Int} {y : Int} : ∀ n, k < n → openN t tn (updA g k x) y n = openN t tn g y n - openG t tn (g k) y + openG t tn x y
  | 0, h => absurd h (Nat.not_lt_zero _)
  | n + 1, h => by
    unfold openN
    by_cases e : k = n
    · subst e
      rw [open_cong (t := t) (tn := tn) (g := g) (y := y) k fun q hq => by unfold updA; rw [if_neg (by omega)]]
      unfold updA; rw [if_pos rfl]; omega
    · rw [open_upd n (by omega)]
      have : updA g k x n = g n := if_neg (fun h => e h.symm)
      rw [this]; omega
theorem open_ins {t : Nat → Nat → Int} {tn k : Nat} {g : Nat → Nat → Int} {x : Nat → Int} {y : Int} : ∀ n, k ≤ n → openN t tn (Fx.insI g k x) y (n + 1) = openN t tn g y n + openG t tn x y
  | 0, h => by
    obtain rfl : k = 0 := by omega
    show (0 : Int) + openG t tn (Fx.insI g 0 x 0) y = 0 + _
    rw [insI_eq]
  | n + 1, h => by
    by_cases e : k = n + 1
    · subst e
      show openN t tn (Fx.insI g (n + 1) x) y (n + 1) + openG t tn (Fx.insI g (n + 1) x (n + 1)) y = _
      rw [insI_eq, open_cong (t := t) (tn := tn) (g := g) (y := y) (n + 1) fun q hq => by rw [insI_lt hq]]
    · show openN t tn (Fx.insI g k x) y (n + 1) + openG t tn (Fx.insI g k x (n + 1)) y = openN t tn g y n + openG t tn (g n) y + _
      rw [open_ins n (by omega), insI_gt (by omega), Nat.add_sub_cancel]; omega
def cntI (idx : Nat → Nat) (k : Nat) : Nat → Int
  | 0 => 0
  | j + 1 => cntI idx k j + if idx j = k then 1 else 0
theorem walkR_sum {f : (Nat → Int) → (Nat → Int) × Int} {idx : Nat → Nat} {R : Nat → Nat → Int} {d : Int} (hf : ∀ x, (f x).2 = 0 → uSum (f x).1 = uSum x + d) : ∀ K, (walkR f idx R K).2 = 0 → ∀ k, uSum ((walkR f idx R K).1 k) = uSum (R k) + d * cntI idx k K
  | 0, _, k => by show uSum (R k) = uSum (R k) + d * 0; omega
  | K + 1, h, k => by
    unfold walkR at h ⊢
    by_cases h1 : (walkR f idx R K).2 = 0
    · have ih := walkR_sum hf K h1 k
      rw [if_pos h1] at h ⊢
      by_cases h2 : (f ((walkR f idx R K).1 (idx K))).2 = 0
      · rw [if_pos h2]
        show uSum (updA _ (idx K) _ k) = _
        unfold updA cntI
        rw [Int.mul_add]
        by_cases h3 : k = idx K
        · subst h3
          rw [if_pos rfl, if_pos rfl, hf _ h2, ih]; omega
        · rw [if_neg h3, if_neg (fun h => h3 h.symm), ih]; omega
      · rw [if_neg h2] at h; exact absurd h h2
    · rw [if_neg h1] at h; exact absurd h h1
theorem cnt_eq {t : Nat → Nat → Int} {tn k : Nat} {x y : Int} {idx : Nat → Nat} : ∀ K, (∀ i, i < K → (idx i = k ↔ iterT t tn i x = y)) → cntI idx k K = cntP t tn x y K
  | 0, _ => rfl
  | K + 1, h => by
    unfold cntI cntP
    rw [cnt_eq K fun i hi => h i (by omega)]
    by_cases e : idx K = k
    · rw [if_pos e, if_pos ((h K (by omega)).1 e)]
    · rw [if_neg e, if_neg (fun h2 => e ((h K (by omega)).2 h2))]
theorem idx_iff (h : Inv0 L T) {x : Int} {i k : Nat} (hk : k < L.nn) (hi : i < pathK L.t L.tn x) : idxT L x i = k ↔ iterT L.t L.tn i x = L.id k := by
  obtain ⟨j, hj, e, e2⟩ := find_nat (pathK_lt hi)
  have hj' : j < L.nn := by rw [← h.tnn]; exact hj
  have hx : idxT L x i = j := by unfold idxT; rw [h.node, e]; rfl
  rw [hx]
  have e3 : L.id j = iterT L.t L.tn i x := by rw [← (h.tid j hj').1]; exact e2
  constructor
  · rintro rfl; exact e3.symm
  intro e4; exact h.inj j k hj' hk (e3.trans e4)
theorem uSum_low {x : Nat → Int} {a : Nat} {n : Int} (ha : a < 6) : uSum (upd x a n) = uSum x := by
  have hc : ∀ k, C (upd x a n) k = C x k := fun k => upd_other _ _ _ _ (by omega)
  have hf : ∀ k, F (upd x a n) k = F x k := fun k => upd_other _ _ _ _ (by omega)
  unfold uSum; simp only [hc, hf]
theorem req_some (h : mayE v = true) (hk : v.kind = 4) : 1 ≤ v.req := by
  unfold mayE at h
  simp only [Bool.and_eq_true] at h
  have hf := h.2
  unfold fieldsE at hf
  rw [if_neg (by omega), if_neg (by omega), if_neg (by omega), if_pos hk] at hf
  simp only [Bool.and_eq_true, decide_eq_true_eq] at hf
  exact hf.1.1
theorem gb_ins {n k : Nat} {g : Nat → Nat → Int} {x : Nat → Int} (hk : k ≤ n) (P : (Nat → Int) → Prop) (h : ∀ q, q < n → P (g q)) (hx : P x) : ∀ q, q < n + 1 → P (Fx.insI g k x q) := fun q hq => by
  rcases insI_old hk hq with rfl | ⟨j, hj, e, _, _⟩
  · rw [insI_eq]; exact hx
  · rw [e]; exact h j hj
attribute [local irreducible] pathK in
theorem invS_takes (h0 : Inv0 L T) (h : InvS L) (hm : mayE v = true) (hk : v.kind = 3) (hE : takesE L v = 0) : InvS (takesC L v) := by
  unfold takesE at hE
  split at hE; · cases hE
  split at hE; · cases hE
  rename_i hp
  have hb := may_bd hm
  have ha := fields_amt hm (.inr (.inl hk))
  unfold takesC addReq
  have hsum := walkR_sum (f := fun x => takeM x v.o v.amt) (idx := idxT L v.node) (R := L.R) (d := v.amt) (fun x hx => by obtain ⟨_, _, _, _, _, _, _, _, _, _, hu, _⟩ := take_ok hx; exact hu) _ hE
  refine ⟨fun k hk => ?_, fun q hq => ?_⟩
  · show uSum ((takesW L v).1 k) = openN L.t L.tn (Fx.insI L.g (Fx.down (fun i => gtG v (L.g i)) L.gn) (grN v)) (L.id k) (L.gn + 1)
    rw [open_ins _ (Fx.down_le _ _)]
    have := hsum k
    rw [show openG L.t L.tn (grN v) (L.id k) = v.amt * cntT L.t L.tn v.node (L.id k) from rfl, ← h.us k hk]
    unfold cntT
    rw [← cnt_eq (idx := idxT L v.node) (k := k) _ fun i hi => idx_iff h0 hk hi]
    exact this
  exact gb_ins (Fx.down_le _ _) (fun y => 0 ≤ findT L.t L.tn (y 2) ∧ 1 ≤ y 0 ∧ y 0 ≤ 6 ∧ 0 ≤ y 3 ∧ y 3 ≤ 1125899906842624) h.gb
    ⟨pathK_lt (i := 0) (x := v.node) (by omega), hb.1, hb.2.1, by show 0 ≤ v.amt; omega, ha.2⟩ q hq
attribute [local irreducible] pathK in
theorem invS_frees (h0 : Inv0 L T) (h : InvS L) (hm : mayE v = true) (hk : v.kind = 4) (hE : freesE L v = 0) : InvS (freesC L v) := by
  unfold freesE at hE
  split at hE; · cases hE
  split at hE; · cases hE
  rename_i hp
  have hr := req_some hm hk
  have hg : 0 ≤ L.grant v.o v.of := by rcases ilt (L.grant v.o v.of) with h | h; · exact absurd (.inl h) hp
                                       · exact h
  have hz : L.g (kgN L v) 4 = 0 := by
    by_cases e : L.g (kgN L v) 4 = 0
    · exact e
    · exact absurd (.inr e) hp
  have hkg : kgN L v < L.gn := by
    rcases firstI_spec (fun i => decide (L.g i 0 = v.o) && decide (L.g i 1 = v.of)) L.gn with ⟨k, hk, e, _⟩ | ⟨e, _⟩
    · have e' : L.grant v.o v.of = (k : Int) := e
      unfold kgN; rw [e']; exact hk
    · have e' : L.grant v.o v.of = -1 := e
      omega
  unfold freesC addReq freesW
  unfold freesW at hE
  generalize kgN L v = q at *
  have hsum := walkR_sum (f := fun x => freeM x v.o (L.g q 3)) (idx := idxT L (L.g q 2)) (R := L.R) (d := -(L.g q 3)) (fun x hx => by obtain ⟨_, _, _, _, _, _, _, _, _, hu, _⟩ := free_ok hx; rw [hu]; omega) _ hE
  have hb := h.gb q hkg
  refine ⟨fun k hk => ?_, fun p hp => ?_⟩
  · show uSum ((walkR _ _ _ _).1 k) = openN L.t L.tn (updA L.g q (updA (L.g q) 4 v.req)) (L.id k) L.gn
    rw [open_upd _ hkg, ← h.us k hk, hsum k]
    have e1 : openG L.t L.tn (updA (L.g q) 4 v.req) (L.id k) = 0 := by
      unfold openG; rw [if_neg]; show ¬ v.req = 0; omega
    have e2 : openG L.t L.tn (L.g q) (L.id k) = L.g q 3 * cntT L.t L.tn (L.g q 2) (L.id k) := if_pos hz
    rw [e1, e2]
    unfold cntT
    rw [← cnt_eq (idx := idxT L (L.g q 2)) (k := k) _ fun i hi => idx_iff h0 hk hi, Int.neg_mul]
    omega
  show 0 ≤ findT L.t L.tn (updA L.g q (updA (L.g q) 4 v.req) p 2) ∧ 1 ≤ updA L.g q (updA (L.g q) 4 v.req) p 0 ∧ updA L.g q (updA (L.g q) 4 v.req) p 0 ≤ 6 ∧ 0 ≤ updA L.g q (updA (L.g q) 4 v.req) p 3 ∧ updA L.g q (updA (L.g q) 4 v.req) p 3 ≤ 1125899906842624
  by_cases e : p = q
  · subst e
    have e1 : ∀ j, j ≠ 4 → updA L.g p (updA (L.g p) 4 v.req) p j = L.g p j := fun j hj => by
      show (if p = p then updA (L.g p) 4 v.req else L.g p) j = _
      rw [if_pos rfl]; exact if_neg hj
    rw [e1 2 (by omega), e1 0 (by omega), e1 3 (by omega)]; exact hb
  have e1 : updA L.g q (updA (L.g q) 4 v.req) p = L.g p := if_neg e
  rw [e1]; exact h.gb p hp
theorem invS_R {L' : LdC} (h : InvS L) (e1 : L'.nn = L.nn) (e2 : L'.id = L.id) (e3 : L'.tn = L.tn) (e4 : L'.t = L.t) (e5 : L'.gn = L.gn) (e6 : L'.g = L.g) (hR : ∀ k, k < L.nn → uSum (L'.R k) = uSum (L.R k)) : InvS L' := by
  refine ⟨fun k hk => ?_, fun q hq => ?_⟩
  · rw [e1] at hk; rw [e2, e3, e4, e5, e6, hR k hk]; exact h.us k hk
  rw [e5] at hq; rw [e3, e4, e6]; exact h.gb q hq
theorem updA_u {q : Nat} {r : Nat → Int} {R : Nat → Nat → Int} (hr : uSum r = uSum (R q)) (k : Nat) : uSum (updA R q r k) = uSum (R k) := by
  unfold updA; split
  · rename_i e; rw [e]; exact hr
  rfl
theorem TreeUp.path {t t' : Nat → Nat → Int} {tn : Nat} {id par z y : Int} (h : TreeUp t t' tn id par) (hid : 1 ≤ id) (hup : ∀ i, i < tn → t i 1 = 0 ∨ 0 ≤ findT t tn (t i 1)) (hd : ∃ D, D ≤ 4 ∧ findT t tn (iterT t tn D z) < 0) (hz : 0 ≤ findT t tn z) :
    cntT t' (tn + 1) z y = cntT t tn z y ∧ (y = id → cntT t tn z y = 0) := by
  obtain ⟨D, hD, hD2⟩ := hd
  obtain ⟨K, hK, hK2, hall⟩ := first_end D hD2
  have eK : K = pathK t tn z := pathK_eq hall hK2 hD2 (by omega)
  have hit : ∀ i, i ≤ K → iterT t' (tn + 1) i z = iterT t tn i z := fun i hi => h.iter i fun j hj => hall j (by omega)
  have hend : findT t' (tn + 1) (iterT t' (tn + 1) K z) < 0 := by
    rw [hit K (Nat.le_refl _)]
    rcases ilt (findT t' (tn + 1) (iterT t tn K z)) with h1 | h1
    · exact h1
    · exfalso
      rcases h.find.1 h1 with h2 | h2
      · omega
      · cases K with
        | zero => have : findT t tn z < 0 := hK2; omega
        | succ K =>
          obtain ⟨i, hi, e⟩ := findT_iff.1 (hall K (by omega))
          have e3 : iterT t tn (K + 1) z = t i 1 := by
            show t (findT t tn (iterT t tn K z)).toNat 1 = t i 1
            rw [← e, findT_at h.u hi]; rfl
          rw [e3] at h2 hK2
          rcases hup i hi with h4 | h4
          · omega
          · omega
  have eK' : K = pathK t' (tn + 1) z := pathK_eq (fun i hi => by rw [hit i (by omega)]; exact h.find.2 (.inl (hall i hi))) hend hend (by omega)
  have hc : ∀ n, n ≤ K → cntP t' (tn + 1) z y n = cntP t tn z y n := by
    intro n
    induction n with
    | zero => intro _; rfl
    | succ n ih => intro hn; unfold cntP; rw [ih (by omega), hit n (by omega)]
  refine ⟨?_, fun hy => ?_⟩
  · unfold cntT; rw [← eK, ← eK']; exact hc K (Nat.le_refl _)
  subst hy
  have : ∀ n, n ≤ K → cntP t tn z y n = 0 := by
    intro n
    induction n with
    | zero => intro _; rfl
    | succ n ih =>
      intro hn; unfold cntP
      rw [ih (by omega), if_neg]
      · rfl
      · intro e
        have := hall n (by omega)
        rw [e] at this
        have h5 := findT_no.2 h.no
        omega
  unfold cntT; rw [← eK]; exact this K (Nat.le_refl _)
attribute [local irreducible] pathK in
theorem invS_makes (h0 : Inv0 L T) (h : InvS L) (hm : mayE v = true) (hk : v.kind = 1) (hE : makesE L v = 0) : InvS (makesC L v) := by
  obtain ⟨k, hkn, hx1, hnt, hamt, a3, a5, eC, hrise, htid, hup⟩ := makes_tree h0 hm hk hE
  have hro := regN_lt hm
  rw [eC]
  generalize idE v.o v.seq = x at *
  have hpar : ∀ i, i < L.tn → L.t i 1 = 0 ∨ 0 ≤ findT L.t L.tn (L.t i 1) := fun i hi => by
    have hi' := hi
    rw [h0.tnn] at hi'
    rw [(h0.tid i hi').2]
    rcases h0.up i hi' with e | ⟨j, hj, e⟩
    · exact .inl e
    · exact .inr (findT_iff.2 ⟨j, by rw [h0.tnn]; exact hj, by rw [(h0.tid j hj).1]; exact e⟩)
  have hp : ∀ q, q < L.gn → ∀ y, cntT (insT L.t k x v.node) (L.tn + 1) (L.g q 2) y = cntT L.t L.tn (L.g q 2) y ∧ (y = x → cntT L.t L.tn (L.g q 2) y = 0) := fun q hq y => hup.path hx1 hpar (h0.dep _) (h.gb q hq).1
  refine ⟨fun i hi => ?_, fun q hq => ?_⟩
  · show uSum (Fx.insI L.R k (upd (fun _ => 0) (regN v) v.amt) i) = openN (insT L.t k x v.node) (L.tn + 1) L.g (Fx.insI L.id k x i) L.gn
    rw [open_cong (t := L.t) (tn := L.tn) (g := L.g) (y := Fx.insI L.id k x i) L.gn fun q hq => by unfold openG; rw [(hp q hq _).1]]
    rcases insI_old hkn hi with rfl | ⟨j, hj, e, _, _⟩
    · rw [insI_eq, insI_eq, uSum_low hro, open_zero L.gn fun q hq => by unfold openG; rw [(hp q hq _).2 rfl, Int.mul_zero]; exact ite_self _]
      rfl
    rw [e, e]; exact h.us j hj
  have hg := h.gb q hq
  exact ⟨hup.find.2 (.inl hg.1), hg.2⟩
theorem invS_does (h0 : Inv0 L T) (h : InvS L) (hm : mayE v = true) (hE : doesE L v = 0) : InvS (doesC L v) := by
  have hk := fields_kind hm
  have hro := regN_lt hm
  unfold doesE at hE
  unfold doesC
  by_cases k1 : v.kind = 1
  · rw [if_pos k1] at hE ⊢; exact invS_makes h0 h hm k1 hE
  by_cases k2 : v.kind = 2
  · rw [if_neg k1, if_pos k2] at hE ⊢
    exact invS_R h rfl rfl rfl rfl rfl rfl fun k _ => updA_u (uSum_low hro) k
  by_cases k3 : v.kind = 3
  · rw [if_neg k1, if_neg k2, if_pos k3] at hE ⊢; exact invS_takes h0 h hm k3 hE
  by_cases k4 : v.kind = 4
  · rw [if_neg k1, if_neg k2, if_neg k3, if_pos k4] at hE ⊢; exact invS_frees h0 h hm k4 hE
  by_cases k5 : v.kind = 5
  · rw [if_neg k1, if_neg k2, if_neg k3, if_neg k4, if_pos k5] at hE ⊢
    unfold movesE at hE
    split at hE; · cases hE
    split at hE; · cases hE
    obtain ⟨_, _, _, _, _, _, _, _, _, _, hM, _⟩ := move_ok hE
    exact invS_R h rfl rfl rfl rfl rfl rfl fun k _ => updA_u hM.u k
  rw [if_neg k1, if_neg k2, if_neg k3, if_neg k4, if_neg k5]
  split
  · exact invS_R h rfl rfl rfl rfl rfl rfl fun _ _ => rfl
  exact invS_R h rfl rfl rfl rfl rfl rfl fun _ _ => rfl
theorem pathK_le {t : Nat → Nat → Int} {tn D : Nat} {x : Int} (h : findT t tn (iterT t tn D x) < 0) : pathK t tn x ≤ D := by
  rcases Nat.lt_or_ge D (pathK t tn x) with h1 | h1
  · have := pathK_lt h1; omega
  exact h1
theorem Inv0.path4 (h : Inv0 L T) (x : Int) : pathK L.t L.tn x ≤ 4 := by
  obtain ⟨D, hD, h2⟩ := h.dep x
  have := pathK_le h2; omega
theorem updc_bd {x : Nat → Int} {p : Nat} {n c : Int} (h : ∀ a, a < 54 → x a ≤ c) (hn : n ≤ c) : ∀ a, a < 54 → upd x p n a ≤ c := fun a ha => by
  show (if a = p then n else x a) ≤ c
  split
  · exact hn
  · exact h a ha
theorem walkR_bd {f : (Nat → Int) → (Nat → Int) × Int} {idx : Nat → Nat} {R : Nat → Nat → Int} {n : Nat} {B d : Int} (hd : 0 ≤ d) (hf : ∀ x c, (f x).2 = 0 → (∀ a, a < 54 → x a ≤ c) → ∀ a, a < 54 → (f x).1 a ≤ c + d) (h0 : ∀ k, k < n → ∀ a, a < 54 → R k a ≤ B) : ∀ (K : Nat) k, k < n → ∀ a, a < 54 → (walkR f idx R K).1 k a ≤ B + d * (K : Int)
  | 0, k, hk, a, ha => by have h := h0 k hk a ha; show R k a ≤ B + d * 0; omega
  | K + 1, k, hk, a, ha => by
    have ih := walkR_bd hd hf h0 (idx := idx) K
    have e : d * ((K + 1 : Nat) : Int) = d * (K : Int) + d := by rw [Int.natCast_succ, Int.mul_add, Int.mul_one]
    rw [e]
    unfold walkR
    by_cases h1 : (walkR f idx R K).2 = 0
    · rw [if_pos h1]
      by_cases h2 : (f ((walkR f idx R K).1 (idx K))).2 = 0
      · rw [if_pos h2]
        show (if k = idx K then _ else _ : Nat → Int) a ≤ _
        by_cases h3 : k = idx K
        · rw [if_pos h3]
          have := hf _ (B + d * (K : Int)) h2 (by rw [← h3]; exact ih k hk) a ha; omega
        · rw [if_neg h3]; have := ih k hk a ha; omega
      · rw [if_neg h2]; have := ih k hk a ha; show (walkR f idx R K).1 k a ≤ _; omega
    · rw [if_neg h1]; have := ih k hk a ha; omega
theorem takeM_bd {i n c : Int} {x : Nat → Int} (hn : n ≤ 65536) (h : (takeM x i n).2 = 0) (hx : ∀ a, a < 54 → x a ≤ c) : ∀ a, a < 54 → (takeM x i n).1 a ≤ c + 65536 := by
  obtain ⟨a, ha, _, _, _, _, _, _, _, _, _, e⟩ := take_ok h
  rw [e]
  have := hx (6 + a) (by omega)
  exact updc_bd (fun b hb => by have := hx b hb; omega) (by omega)
theorem freeM_bd {i n c : Int} {x : Nat → Int} (h : (freeM x i n).2 = 0) (hx : ∀ a, a < 54 → x a ≤ c) : ∀ a, a < 54 → (freeM x i n).1 a ≤ c + 0 := by
  obtain ⟨a, ha, _, _, _, h5, _, _, _, _, e⟩ := free_ok h
  rw [e, Int.add_zero]
  have h1 := hx (6 + a) (by omega)
  have h2 : n ≤ x (6 + a) - x (12 + a) := h5
  exact updc_bd hx (by omega)
theorem rq_more (h : InvB L T) {a : Nat} {r : Int} (hr : r ≤ 256) : ∀ i, i < 6 → ∀ j, j < updA L.rn a (L.rn a + 1) i → updA L.rq a (updA (L.rq a) (L.rn a) r) i j ≤ 256 := fun i hi j hj => by
  unfold updA at hj ⊢
  by_cases e : i = a
  · subst e
    rw [if_pos rfl] at hj ⊢
    by_cases e2 : j = L.rn i
    · rw [if_pos e2]; exact hr
    · rw [if_neg e2]; exact h.rq i hi j (by omega)
  · rw [if_neg e] at hj ⊢; exact h.rq i hi j hj
attribute [local irreducible] pathK in
theorem invB_does (h0 : Inv0 L T) (h : InvB L T) (hs : EvSm v) (hm : mayE v = true) (hE : doesE L v = 0) :
    (∀ k, k < (doesC L v).nn → ∀ a, a < 54 → (doesC L v).R k a ≤ 2097152 * ((T + 1 : Nat) : Int)) ∧ (∀ i, i < 6 → ∀ j, j < (doesC L v).rn i → (doesC L v).rq i j ≤ 256) := by
  have hk := fields_kind hm
  have hro := regN_lt hm
  have hT : (0 : Int) ≤ (T : Int) := Int.natCast_nonneg _
  have hTs : ((T + 1 : Nat) : Int) = (T : Int) + 1 := Int.natCast_succ _
  have hmono : ∀ k, k < L.nn → ∀ a, a < 54 → L.R k a ≤ 2097152 * ((T + 1 : Nat) : Int) := fun k hk a ha => by have := h.rb k hk a ha; omega
  have hup : ∀ q r, (∀ a, a < 54 → r a ≤ 2097152 * ((T + 1 : Nat) : Int)) → ∀ k, k < L.nn → ∀ a, a < 54 → updA L.R q r k a ≤ 2097152 * ((T + 1 : Nat) : Int) := fun q r hr k hk a ha => by
    unfold updA; split
    · exact hr a ha
    · exact hmono k hk a ha
  have hsa := hs.amt
  unfold doesE at hE
  unfold doesC
  by_cases k1 : v.kind = 1
  · rw [if_pos k1] at hE ⊢
    obtain ⟨k, hkn, hx1, hnt, hamt, a3, a5, eC, hrise, htid, hup2⟩ := makes_tree h0 hm k1 hE
    rw [eC]
    refine ⟨fun i hi a ha => ?_, h.rq⟩
    show Fx.insI L.R k (upd (fun _ => 0) (regN v) v.amt) i a ≤ _
    rcases insI_old hkn hi with rfl | ⟨j, hj, e, _, _⟩
    · rw [insI_eq]
      exact updc_bd (c := 2097152 * ((T + 1 : Nat) : Int)) (fun b _ => by omega) (by omega) a ha
    rw [e]; exact hmono j hj a ha
  by_cases k2 : v.kind = 2
  · rw [if_neg k1, if_pos k2] at hE ⊢
    unfold raiseE at hE
    split at hE; · cases hE
    rename_i n1
    split at hE; · cases hE
    have hq := h0.nodeK n1
    have h54 := h.rb _ hq (regN v) (by omega)
    exact ⟨hup _ _ (updc_bd (fun b hb => hmono _ hq b hb) (by omega)), h.rq⟩
  by_cases k3 : v.kind = 3
  · rw [if_neg k1, if_neg k2, if_pos k3] at hE ⊢
    have hw : ∀ k, k < L.nn → ∀ a, a < 54 → (takesW L v).1 k a ≤ 2097152 * ((T + 1 : Nat) : Int) := fun k hk a ha => by
      have h4 := h0.path4 v.node
      have := walkR_bd (f := fun x => takeM x v.o v.amt) (idx := idxT L v.node) (by decide) (fun x c => takeM_bd hsa) h.rb (pathK L.t L.tn v.node) k hk a ha
      unfold takesW; omega
    unfold takesC addReq
    generalize takesW L v = W at hw
    exact ⟨hw, rq_more h hs.req⟩
  by_cases k4 : v.kind = 4
  · rw [if_neg k1, if_neg k2, if_neg k3, if_pos k4] at hE ⊢
    have hw : ∀ k, k < L.nn → ∀ a, a < 54 → (freesW L v).1 k a ≤ 2097152 * ((T + 1 : Nat) : Int) := fun k hk a ha => by
      have := walkR_bd (f := fun x => freeM x v.o (L.g (kgN L v) 3)) (idx := idxT L (L.g (kgN L v) 2)) (Int.le_refl 0) (fun x c => freeM_bd) h.rb (pathK L.t L.tn (L.g (kgN L v) 2)) k hk a ha
      unfold freesW; omega
    unfold freesC addReq
    generalize freesW L v = W at hw
    exact ⟨hw, rq_more h hs.req⟩
  by_cases k5 : v.kind = 5
  · rw [if_neg k1, if_neg k2, if_neg k3, if_neg k4, if_pos k5] at hE ⊢
    unfold movesE at hE
    split at hE; · cases hE
    rename_i n1
    split at hE; · cases hE
    have hq := h0.nodeK n1
    obtain ⟨a, b, ha, hb, _, _, _, _, _, _, _, e⟩ := move_ok hE
    have h54 := h.rb _ hq (18 + a * 6 + b) (by omega)
    have h55 := hup (L.node v.node).toNat _ (updc_bd (x := L.R (L.node v.node).toNat) (p := 18 + a * 6 + b) (n := L.R (L.node v.node).toNat (18 + a * 6 + b) + v.amt) (fun b hb => hmono _ hq b hb) (by omega))
    refine ⟨?_, h.rq⟩
    show ∀ k, k < L.nn → ∀ c, c < 54 → updA L.R (L.node v.node).toNat (moveW L v).1 k c ≤ _
    unfold moveW
    rw [e]; exact h55
  rw [if_neg k1, if_neg k2, if_neg k3, if_neg k4, if_neg k5]
  split
  · exact ⟨hmono, h.rq⟩
  exact ⟨hmono, h.rq⟩
theorem InvB.mono {T' : Nat} (h : InvB L T) (hT : T ≤ T') : InvB L T' where
  kt := fun i hi => by have := h.kt i hi; omega
  rb := fun k hk a ha => by have := h.rb k hk a ha; omega
  rq := h.rq
theorem inv_apply (hs : EvSm v) (h : Inv L T) : Inv (applyC L v) (T + 1) := by
  refine ⟨inv0_apply h.toInv0, ?_, ?_⟩ <;> unfold applyC <;> by_cases h0 : applyE L v = 0
  · rw [if_pos h0]
    unfold applyE at h0
    split at h0; · cases h0
    rename_i h1
    split at h0; · cases h0
    split at h0; · cases h0
    split at h0; · cases h0
    have hm : mayE v = true := by simpa using h1
    have hd := invS_does h.toInv0 h.s hm h0
    exact ⟨hd.us, hd.gb⟩
  · rw [if_neg h0]; exact h.s
  · rw [if_pos h0]
    unfold applyE at h0
    split at h0; · cases h0
    rename_i h1
    split at h0; · cases h0
    split at h0; · cases h0
    split at h0; · cases h0
    have hm : mayE v = true := by simpa using h1
    have hd := invB_does h.toInv0 h.b hs hm h0
    refine ⟨fun i hi => ?_, hd.1, hd.2⟩
    have ek : (knowC (doesC L v) v).known = updA L.known (regN v) (L.known (regN v) + 1) := by unfold knowC; simp only [doesC_known]
    rw [ek]
    have h1 := h.b.kt i hi
    have h2 := h.b.kt (regN v) (regN_lt hm)
    unfold updA
    split <;> omega
  rw [if_neg h0]; exact h.b.mono (Nat.le_succ T)
theorem Inv.mono {T' : Nat} (h : Inv L T) (hT : T ≤ T') : Inv L T' := ⟨h.toInv0.mono hT, h.s, h.b.mono hT⟩
end
end Rt
end
section
namespace Rt
def evX (e : Nat → EvM) : Nat → Value := Fx.flat 14 fun k => evY (e k)
noncomputable def passC (e : Nat → EvM) (K : Nat → Int) (L : LdC) : Nat → LdC
  | 0 => L
  | j + 1 => if (e j).seq ≤ K (regN (e j)) then applyC (passC e K L j) (e j) else passC e K L j
def sameK (L M : LdC) : Prop := ∀ i, i < 6 → L.known i = M.known i
open Classical in
noncomputable def learnN (e : Nat → EvM) (n : Nat) (K : Nat → Int) : Nat → LdC → LdC
  | 0, L => L
  | f + 1, L => if sameK (passC e K L n) L then passC e K L n else learnN e n K f (passC e K L n)
noncomputable def learnC (e : Nat → EvM) (n : Nat) (K : Nat → Int) (L : LdC) : LdC := learnN e n K (n + 1) L
section
variable {e : Nat → EvM} {K : Nat → Int} {L M M' : LdC} {j n r : Nat}
theorem pass_yes (h : M = passC e K L j) (hc : (e j).seq ≤ K (regN (e j))) (h' : M' = applyC M (e j)) : M' = passC e K L (j + 1) := by unfold passC; rw [if_pos hc, ← h, h']
theorem pass_no (h : M = passC e K L j) (hc : ¬ (e j).seq ≤ K (regN (e j))) : M = passC e K L (j + 1) := by unfold passC; rw [if_neg hc, ← h]
theorem learn_end (hr : r ≤ n) (h : M = passC e K L n) (hs : sameK M L) : learnN e n K (n + 1 - r) L = M := by
  rw [show n + 1 - r = (n - r) + 1 by omega]; unfold learnN; rw [← h, if_pos hs]
theorem learn_on (hr : r ≤ n) (h : M = passC e K L n) (hs : ¬ sameK M L) : learnN e n K (n + 1 - (r + 1)) M = learnN e n K (n + 1 - r) L := by
  rw [show n + 1 - r = (n - r) + 1 by omega, show n + 1 - (r + 1) = n - r by omega]
  conv => rhs; unfold learnN
  rw [← h, if_neg hs]
theorem sameK_iff {m m' : LdM} : sameK m.core m'.core ↔ ∀ i, i < 6 → (Fx.rv .u64 m.s.known) i = (Fx.rv .u64 m'.s.known) i := by
  unfold sameK Fx.rv
  simp only [Value.int.injEq, true_and]; exact Iff.rfl
end
theorem KnOk.kd {K : Nat → Int} (h : KnOk K) : Fx.Kd (List.replicate 6 (some .u64)) (Fx.rv .u64 K) := Fx.kd_rv fun i hi => Fx.wfu64 (by have := h i hi; omega)
end Rt
attribute [irreducible] Rt.learnN
set_option maxRecDepth 20000 in
theorem l_learn (m : LdM) (B p T : Nat) (aa : Option Addr) (an ac : Nat) (ev : Nat → EvM) (K : Nat → Int) (w : World) (hL : LdO w B p m) (hI : Inv m.core T) (hA : Fx.Arr w aa an 14 (evX ev)) (hwf : ∀ k, k < an → EvWf (ev k)) (hmay : ∀ k, k < an → mayE (ev k) = true) (hsm : ∀ k, k < an → EvSm (ev k)) (han : an ≤ 60) (hT : T ≤ 890000) :
    Calls Try.prog 39 #[.pointer (some ⟨p, 0, none⟩), .slice aa (an) (ac), .agg (Fx.varr 6 (Fx.rv .u64 K))] w fun e w' => ∃ p' m', e = .returned (.pointer (some ⟨p', 0, none⟩)) ∧ m'.core = learnC ev an K m.core ∧ Inv m'.core (T + 3660) ∧ LdO w' B p' m' ∧ Below w.heap.size w w' := by
 refine Fx.enter Try.func39 rfl (n := 59) rfl (by rfl) ?_
 refine Ws (Wl (Fx.L.box (m := 6) (y := Fx.rv .u64 K) (by rfl) rfl rfl (Fx.cells_agg _ _) rfl fun g1 w1 eg1 m1 s1 z1 => ?_))
 have m2 := hL.up s1.old
 have b1 := s1.below (Below.refl w.heap.size w) (Below.refl w.heap.size w).size (Below.refl w.heap.size w).size
 have lg1 : w.heap.size ≤ g1 := by rw [eg1]; exact (Below.refl w.heap.size w).size
 have tg1 : g1 < w1.heap.size := m1.lt
 clear eg1
 refine Lv (.pointer none) (x_assign rfl rfl) (Ln (sN (Ws (Ws (Wl (Lv (.int .i64 (0)) (x_assign rfl rfl) (Ln (sN (Fx.W.block (Fx.W.loop (fun f w_ => ∃ r : Nat, ∃ p1 : Nat, ∃ m1 : LdM, ∃ T1 : Nat, r ≤ an + 1 ∧ learnN ev an K (an + 1 - r) m1.core = learnC ev an K m.core ∧ Inv m1.core T1 ∧ T1 ≤ T + r * 60 ∧ f 0 = .pointer (some ⟨p1, 0, none⟩) ∧ f 1 = .slice aa (an) (ac) ∧ f 5 = .pointer (some ⟨g1, 0, none⟩) ∧ f 7 = .int .i64 ((r : Int)) ∧ Fx.Blk w_ g1 6 (Fx.rv .u64 K) 32 ∧ LdO w_ B p1 m1 ∧ Below w.heap.size w w_) (fun f _ => (an + 1 - (intOf (f 7)).toNat)) ⟨0, p, m, T, by omega, rfl, hI, by omega, (by rfl), (by rfl), (by rfl), (by first | rfl | exact congrArg (Value.int .i64) (by omega)), m1, m2, b1⟩ ?_))))))))))
 rintro f1 w2 ⟨r, p1, m1, T1, hr, hc1, hI1, hT1, h1, h2, h3, h4, m3, m4, b2⟩
 refine Ws (Ws (Wl (Lv (.int .i64 ((r : Int))) (x_move rfl h4) (Lv (.slice aa (an) (ac)) (x_move rfl h2) (Lv (.int .i64 ((an : Int))) (x_len rfl rfl rfl (by kernel_rfl)) ?_)))))
 by_cases c13 : (r : Int) ≤ (an : Int)
 ·refine Lv (.bool true) (Fx.x_leqT rfl rfl rfl c13) (Ln (sN (Wc (b := true) rfl (fun _ => Wk (sN (Ws (Fx.W.block (Ws ?_))))) (fun h => nomatch h))))
  have hLc1 := m4.c
  refine Wl (Lv (.pointer (some ⟨p1, 0, none⟩)) (x_move rfl h1) (Lv (.pointer (some ⟨p1, 0, none⟩)) (x_nil rfl rfl) (Lv (.pointer (some ⟨p1, 0, none⟩)) (x_field rfl rfl Try.underlying70 rfl (s := 20) (by kernel_rfl) rfl rfl) (Lv (.pointer (some ⟨p1, 12, none⟩)) (x_field rfl rfl Try.underlying65 rfl (s := 6) (by kernel_rfl) rfl (by show _ + 12 = _; omega)) (Lv (.agg (Fx.varr 6 (Fx.rv .u64 m1.s.known))) (x_loadA (x := ldY m1) (y := Fx.rv .u64 m1.s.known) rfl rfl (by kernel_rfl) (by kernel_rfl) hLc1.cel (i := 12) (by omega) (by omega) (fun j hj => ldY_st _ (by omega) (stY_known _ hj (by omega)))) (Fx.L.new (m := 6) (y := Fx.rv .u64 (fun _ => 0)) (by rfl) rfl (by kernel_rfl) rfl fun g2 w3 eg2 m5 s2 z2 => ?_))))))
  have m6 := m3.stp s2 (Nat.ne_of_lt (m3.lt))
  have m7 := m4.up s2.old
  have b3 := s2.below b2 b2.size b2.size
  have lg2 : w.heap.size ≤ g2 := by rw [eg2]; exact b2.size
  have ng2m6 : g1 ≠ g2 := by rw [eg2]; exact Nat.ne_of_lt (m3.lt)
  have ng2m8 : p1 ≠ g2 := by rw [eg2]; exact Nat.ne_of_lt (hLc1.lt)
  have tg2 : g2 < w3.heap.size := m5.lt
  clear eg2
  refine Fx.L.storeA (x := Fx.rv .u64 (fun _ => 0)) (y := Fx.rv .u64 m1.s.known) (by rfl) rfl rfl rfl rfl (fun _ _ => rfl) (by kernel_rfl) m5 (i := 0) (by omega) fun w4 m9 s3 z3 => ?_
  have m10 : Fx.Blk w4 g2 6 (Fx.rv .u64 m1.s.known) 32 := Fx.ovr_all m9
  have m11 := m6.stp s3 (by omega)
  have hct1 := Fx.ChT.of_stp s3 m5.ty
  have m12 := m7.chT hct1 (by decide)
  have b4 := s3.below b3 b3.size (by omega)
  refine Ln (sN (Ws (Ws (Wl (Lv (.int .i64 (0)) (x_assign rfl rfl) (Ln (sN (Fx.W.block (Fx.W.loop (fun f w_ => ∃ j : Nat, ∃ p2 : Nat, ∃ m2 : LdM, ∃ T2 : Nat, j ≤ an ∧ m2.core = passC ev K m1.core j ∧ Inv m2.core T2 ∧ T2 ≤ T + r * 60 + j ∧ f 0 = .pointer (some ⟨p2, 0, none⟩) ∧ f 1 = .slice aa (an) (ac) ∧ f 5 = .pointer (some ⟨g1, 0, none⟩) ∧ f 7 = .int .i64 ((r : Int)) ∧ f 8 = .pointer (some ⟨g2, 0, none⟩) ∧ f 9 = .int .i64 ((j : Int)) ∧ Fx.Blk w_ g1 6 (Fx.rv .u64 K) 32 ∧ Fx.Blk w_ g2 6 (Fx.rv .u64 m1.s.known) 32 ∧ LdO w_ B p2 m2 ∧ Below w.heap.size w w_) (fun f _ => (an - (intOf (f 9)).toNat)) ⟨0, p1, m1, T1, by omega, rfl, hI1, by omega, h1, h2, h3, (h4.trans (by first | rfl | exact congrArg (Value.int .i64) (by omega))), (by rfl), (by first | rfl | exact congrArg (Value.int .i64) (by omega)), m11, m10, m12, b4⟩ ?_)))))))))
  rintro f2 w5 ⟨j, p2, m2, T2, hj, hc2, hI2, hT2, h5, h6, h7, h8, h9, h10, m14, m15, m16, b5⟩
  refine Ws (Ws (Wl (Lv (.int .i64 ((j : Int))) (x_move rfl h10) (Lv (.slice aa (an) (ac)) (x_move rfl h6) (Lv (.int .i64 ((an : Int))) (x_len rfl rfl rfl (by kernel_rfl)) ?_)))))
  by_cases c24 : (j : Int) < (an : Int)
  ·refine Lv (.bool true) (Fx.x_lssT rfl rfl rfl c24) (Ln (sN (Wc (b := true) rfl (fun _ => Wk (sN (Ws (Fx.W.block (Ws ?_))))) (fun h => nomatch h))))
   obtain ⟨a, ha, ho⟩ := regE_nat (may_reg (hmay j (by omega)))
   have eN : regN (ev j) = a := by unfold regN; omega
   -- region 8 draws
   refine Fx.W.quiet (fun v1 => ∃ q, v1 = World.drewN w5 q) (by kernel_rfl) (by kernel_rfl) ⟨1, rfl⟩ ?_
   refine Qv (.slice aa (an) (ac)) (fun v1 hv1 => x_move rfl h6) (Qv (.int .i64 ((j : Int))) (fun v1 hv1 => x_move rfl h10) ?_)
   obtain ⟨bq1, oq1, eq1, m17⟩ := (hA.up b5 rfl) (by omega)
   have lbq1 : bq1 < w5.heap.size := m17.lt (by omega)
   refine Qv (.pointer (some ⟨bq1, 14 * j + oq1, none⟩)) (fun v1 hv1 => x_indexS rfl (rfl.trans (congrArg (fun q => Value.slice q (an) (ac)) eq1)) rfl Try.underlying46 (s := 14) (by kernel_rfl) (by omega) (by omega) (by omega)) (Qv (.pointer (some ⟨bq1, 14 * j + oq1 + 1, none⟩)) (fun v1 hv1 => x_field rfl rfl Try.underlying50 rfl (s := 1) (by kernel_rfl) rfl (by show _ + 1 = _; omega)) (Qv (.int .u64 ((ev j).seq)) (fun v1 hv1 => x_load1 (x := evX ev) rfl rfl (by kernel_rfl) (by obtain ⟨qd, rfl⟩ := hv1; exact m17) (i := 14 * j + 1) (by omega) (by omega) (Fx.flat_cell (k := j) (j := 1) (by omega) (by omega) rfl)) (Qv (.slice aa (an) (ac)) (fun v1 hv1 => x_move rfl h6) (Qv (.int .i64 ((j : Int))) (fun v1 hv1 => x_move rfl h10) (Qv (.pointer (some ⟨bq1, 14 * j + oq1, none⟩)) (fun v1 hv1 => x_indexS rfl (rfl.trans (congrArg (fun q => Value.slice q (an) (ac)) eq1)) rfl Try.underlying46 (s := 14) (by kernel_rfl) (by omega) (by omega) (by omega)) (Qv (.pointer (some ⟨bq1, 14 * j + oq1, none⟩)) (fun v1 hv1 => x_field rfl rfl Try.underlying50 rfl (s := 1) (by kernel_rfl) rfl rfl) (Qv (.int .i64 ((ev j).o)) (fun v1 hv1 => x_load1 (x := evX ev) rfl rfl (by kernel_rfl) (by obtain ⟨qd, rfl⟩ := hv1; exact m17) (i := 14 * j) (by omega) (by omega) (Fx.flat_cell (k := j) (j := 0) (by omega) (by omega) rfl)) (Qv (.int .i64 ((a : Int))) (fun v1 hv1 => Fx.x_sub rfl rfl rfl (Fx.i64e (by omega) (by omega))) (Qv (.pointer (some ⟨g1, a, none⟩)) (fun v1 hv1 => x_index rfl h7 rfl Try.underlying32 (s := 1) (by kernel_rfl) (by omega) (by omega) (by omega)) (Qv (.int .u64 (K a)) (fun v1 hv1 => x_load1 (x := Fx.rv .u64 K) rfl rfl (by kernel_rfl) (by obtain ⟨qd, rfl⟩ := hv1; exact m14.cel) (i := a) (by omega) (by omega) rfl) ?_))))))))))
   by_cases c40 : ((ev j).seq) ≤ (K a)
   ·refine Qv (.bool true) (fun v1 hv1 => Fx.x_leqT rfl rfl rfl c40) (Fx.Qt.nil ?_)
    rintro _ ⟨qd, rfl⟩
    obtain ⟨wq1, ewq1⟩ : ∃ v1, v1 = World.drewN w5 qd := ⟨_, rfl⟩
    rw [← ewq1]
    have s4 : Fx.Stp w5.heap.size w5 wq1 := by rw [ewq1]; exact Sb (bdrN w5 qd)
    have m18 := m14.stp s4 (Nat.ne_of_lt (m14.lt))
    have m19 := m15.stp s4 (Nat.ne_of_lt (m15.lt))
    have m20 := m16.up s4.old
    have m21 := m17.stp s4 (Nat.ne_of_lt (m17.lt (by omega)))
    have b6 := s4.below b5 b5.size b5.size
    clear ewq1
    refine sN (Wc (b := true) rfl (fun _ => Wl (Lv (.pointer (some ⟨p2, 0, none⟩)) (x_move rfl h5) ?_)) (fun h => nomatch h))
    refine Lv (.slice aa (an) (ac)) (x_move rfl h6) (Lv (.int .i64 ((j : Int))) (x_move rfl h10) (Lv (.pointer (some ⟨bq1, 14 * j + oq1, none⟩)) (x_indexS rfl (rfl.trans (congrArg (fun q => Value.slice q (an) (ac)) eq1)) rfl Try.underlying46 (s := 14) (by kernel_rfl) (by omega) (by omega) (by omega)) (Lv (.agg (Fx.varr 14 (evY (ev j)))) (x_loadA (x := evX ev) (y := evY (ev j)) rfl rfl (by kernel_rfl) (by kernel_rfl) m21 (i := 14 * j) (by omega) (by omega) (fun jq hjq => Fx.flat_at (k := j) (by omega) hjq)) (Fx.L.call (by rfl) (rC (args := [.pointer (some ⟨p2, 0, none⟩), .agg (Fx.varr 14 (evY (ev j)))]) rfl rfl Try.func41 rfl rfl) rfl ((l_apply m2 B p2 T2 (ev j) _ m20 (hwf j (by omega)) hI2.w (by omega)).mono ?_)))))
    rintro e9 w6 ⟨p3, m3, he, hc3, hL1, hb1⟩
    refine ⟨.tuple #[.pointer (some ⟨p3, 0, none⟩), .int .i64 (applyE m2.core (ev j))], he, ?_⟩
    clear he
    have s5 := Sb hb1
    have m22 := m18.stp s5 (Nat.ne_of_lt (m18.lt))
    have m23 := m19.stp s5 (Nat.ne_of_lt (m19.lt))
    have b7 := s5.below b6 b6.size b6.size
    refine Lv (.tuple #[.pointer (some ⟨p3, 0, none⟩), .int .i64 (applyE m2.core (ev j))]) (x_move rfl rfl) (Lv (.pointer (some ⟨p3, 0, none⟩)) (Fx.x_extract rfl rfl rfl) (Lv (.int .i64 (applyE m2.core (ev j))) (Fx.x_extract rfl rfl rfl) (Lv (.pointer (some ⟨p3, 0, none⟩)) (x_assign rfl rfl) (Ln (Fx.blkN (sN (Wl (Lv (.int .i64 ((j : Int))) (x_move rfl h10) (Lv (.int .i64 ((j : Int) + 1)) (Fx.x_add rfl rfl rfl (Fx.i64e (by omega) (by omega))) (Lv (.int .i64 ((j : Int) + 1)) (x_assign rfl rfl) (Ln (Fx.lpN ⟨j + 1, p3, m3, T2 + 1, by omega, (pass_yes hc2 (by rw [eN]; exact c40) hc3), (by rw [hc3]; exact inv_apply (hsm j (by omega)) hI2), by omega, (by rfl), h6, h7, (h8.trans (by first | rfl | exact congrArg (Value.int .i64) (by omega))), h9, (by first | rfl | exact congrArg (Value.int .i64) (by omega)), m22, m23, hL1, b7⟩ ?_))))))))))))
    show (an - (intOf ((.int .i64 ((j : Int) + 1)))).toNat) < _
    simp only [h10, intOf]; omega
   refine Qv (.bool false) (fun v1 hv1 => x_leqF rfl rfl rfl c40) (Fx.Qt.nil ?_)
   rintro _ ⟨qd, rfl⟩
   obtain ⟨wq2, ewq2⟩ : ∃ v1, v1 = World.drewN w5 qd := ⟨_, rfl⟩
   rw [← ewq2]
   have s6 : Fx.Stp w5.heap.size w5 wq2 := by rw [ewq2]; exact Sb (bdrN w5 qd)
   have m25 := m14.stp s6 (Nat.ne_of_lt (m14.lt))
   have m26 := m15.stp s6 (Nat.ne_of_lt (m15.lt))
   have m27 := m16.up s6.old
   have b8 := s6.below b5 b5.size b5.size
   clear ewq2
   refine sN (Wc (b := false) rfl (fun h => nomatch h) (fun _ => Wk (Fx.blkN (sN (Wl (Lv (.int .i64 ((j : Int))) (x_move rfl h10) (Lv (.int .i64 ((j : Int) + 1)) (Fx.x_add rfl rfl rfl (Fx.i64e (by omega) (by omega))) (Lv (.int .i64 ((j : Int) + 1)) (x_assign rfl rfl) (Ln (Fx.lpN ⟨j + 1, p2, m2, T2, by omega, (pass_no hc2 (by rw [eN]; exact c40)), hI2, by omega, h5, h6, h7, (h8.trans (by first | rfl | exact congrArg (Value.int .i64) (by omega))), h9, (by first | rfl | exact congrArg (Value.int .i64) (by omega)), m25, m26, m27, b8⟩ ?_))))))))))
   show (an - (intOf ((.int .i64 ((j : Int) + 1)))).toNat) < _
   simp only [h10, intOf]; omega
  refine Lv (.bool false) (Fx.x_lssF rfl rfl rfl c24) (Ln (sN (Wc (b := false) rfl (fun h => nomatch h) (fun _ => Fx.W.exit (Fx.seqX (Fx.lpX (Fx.blkX (sN (Ws ?_)))))))))
  have hLc2 := m16.c
  -- region 10 draws
  refine Fx.W.quiet (fun v1 => ∃ q, v1 = World.drewN w5 q) (by kernel_rfl) (by kernel_rfl) ⟨1, rfl⟩ ?_
  refine Qv (.pointer (some ⟨p2, 0, none⟩)) (fun v1 hv1 => x_move rfl h5) (Qv (.pointer (some ⟨p2, 0, none⟩)) (fun v1 hv1 => x_nil rfl rfl) (Qv (.pointer (some ⟨p2, 0, none⟩)) (fun v1 hv1 => x_field rfl rfl Try.underlying70 rfl (s := 20) (by kernel_rfl) rfl rfl) (Qv (.pointer (some ⟨p2, 12, none⟩)) (fun v1 hv1 => x_field rfl rfl Try.underlying65 rfl (s := 6) (by kernel_rfl) rfl (by show _ + 12 = _; omega)) (Qv (.agg (Fx.varr 6 (Fx.rv .u64 m2.s.known))) (fun v1 hv1 => x_loadA (x := ldY m2) (y := Fx.rv .u64 m2.s.known) rfl rfl (by kernel_rfl) (by kernel_rfl) (by obtain ⟨qd, rfl⟩ := hv1; exact hLc2.cel) (i := 12) (by omega) (by omega) (fun j hj => ldY_st _ (by omega) (stY_known _ hj (by omega)))) (Qv (.agg (Fx.varr 6 (Fx.rv .u64 m1.s.known))) (fun v1 hv1 => x_loadA (x := Fx.rv .u64 m1.s.known) (y := Fx.rv .u64 m1.s.known) rfl h9 (by kernel_rfl) (by kernel_rfl) (by obtain ⟨qd, rfl⟩ := hv1; exact m15.cel) (i := 0) (by omega) (by omega) (fun j _ => by rw [Nat.zero_add])) ?_)))))
  by_cases c56 : ∀ i, i < 6 → (Fx.rv .u64 m2.s.known) i = (Fx.rv .u64 m1.s.known) i
  ·refine Qv (.bool true) (fun v1 hv1 => Fx.x_eqlA (n := 6) (ks := List.replicate 6 (some .u64)) (X := Fx.rv .u64 m2.s.known) (Y := Fx.rv .u64 m1.s.known) 12 true rfl rfl rfl (Fx.yesb c56) (KnOk.kd hI2.kn) (KnOk.kd hI1.kn) rfl (by kernel_rfl) (by kernel_rfl) (by kernel_rfl) (by kernel_rfl) (by kernel_rfl)) (Fx.Qt.nil ?_)
   rintro _ ⟨qd, rfl⟩
   obtain ⟨wq3, ewq3⟩ : ∃ v1, v1 = World.drewN w5 qd := ⟨_, rfl⟩
   rw [← ewq3]
   have s7 : Fx.Stp w5.heap.size w5 wq3 := by rw [ewq3]; exact Sb (bdrN w5 qd)
   have m31 := m16.up s7.old
   have b9 := s7.below b5 b5.size b5.size
   clear ewq3
   refine sN (Wc (b := true) rfl (fun _ => Ws (Wl (Lv (.pointer (some ⟨p2, 0, none⟩)) (x_move rfl h5) ?_))) (fun h => nomatch h))
   refine Lv (.pointer (some ⟨p2, 0, none⟩)) (x_assign rfl rfl) (Ln (sN (Wr (Fx.blkR (sR (Fx.lpR (Fx.blkR (sR (⟨.pointer (some ⟨p2, 0, none⟩), rV Try.results39 (by exact rfl), ?_⟩)))))))))
   exact ⟨p2, m2, rfl, ((learn_end (n := an) (r := r) (by omega) (by rw [show an = j by omega]; exact hc2) (sameK_iff.2 c56)).symm.trans hc1), hI2.mono (by omega), m31, b9⟩
  refine Qv (.bool false) (fun v1 hv1 => Fx.x_eqlA (n := 6) (ks := List.replicate 6 (some .u64)) (X := Fx.rv .u64 m2.s.known) (Y := Fx.rv .u64 m1.s.known) 12 false rfl rfl rfl (Fx.nob c56) (KnOk.kd hI2.kn) (KnOk.kd hI1.kn) rfl (by kernel_rfl) (by kernel_rfl) (by kernel_rfl) (by kernel_rfl) (by kernel_rfl)) (Fx.Qt.nil ?_)
  rintro _ ⟨qd, rfl⟩
  obtain ⟨wq4, ewq4⟩ : ∃ v1, v1 = World.drewN w5 qd := ⟨_, rfl⟩
  rw [← ewq4]
  have s8 : Fx.Stp w5.heap.size w5 wq4 := by rw [ewq4]; exact Sb (bdrN w5 qd)
  have m33 := m14.stp s8 (Nat.ne_of_lt (m14.lt))
  have m35 := m16.up s8.old
  have b10 := s8.below b5 b5.size b5.size
  clear ewq4
  refine sN (Wc (b := false) rfl (fun h => nomatch h) (fun _ => Wk (Fx.blkN (sN (Wl (Lv (.int .i64 ((r : Int))) (x_move rfl h8) (Lv (.int .i64 ((r : Int) + 1)) (Fx.x_add rfl rfl rfl (Fx.i64e (by omega) (by omega))) (Lv (.int .i64 ((r : Int) + 1)) (x_assign rfl rfl) (Ln (Fx.lpN ⟨r + 1, p2, m2, T2, by omega, (learn_on (by omega) (by rw [show an = j by omega]; exact hc2) (fun h => c56 (sameK_iff.1 h))).trans hc1, hI2, by omega, h5, h6, h7, (by first | rfl | exact congrArg (Value.int .i64) (by omega)), m33, m35, b10⟩ ?_))))))))))
  show (an + 1 - (intOf ((.int .i64 ((r : Int) + 1)))).toNat) < _
  simp only [h4, intOf]; omega
 refine Lv (.bool false) (x_leqF rfl rfl rfl c13) (Ln (sN (Wc (b := false) rfl (fun h => nomatch h) (fun _ => Fx.W.exit (Fx.seqX (Fx.lpX (Fx.blkX (sN (Ws (Wl (Lv (.pointer (some ⟨p1, 0, none⟩)) (x_move rfl h1) (Lv (.pointer (some ⟨p1, 0, none⟩)) (x_assign rfl rfl) (Ln (sN (Wr (⟨.pointer (some ⟨p1, 0, none⟩), rV Try.results39 (by exact rfl), ?_⟩))))))))))))))))
 exact ⟨p1, m1, rfl, (by rw [← hc1, show an + 1 - r = 0 by omega]; unfold learnN; rfl), hI1.mono (by omega), m4, b2⟩
end
section
namespace Rt
def zeroE : EvM := ⟨0, 0, fun _ => 0, 0, 0, 0, 0, 0, 0⟩
def cntE (ev : Nat → EvM) : Nat → Nat → Int
  | 0, _ => 0
  | k + 1, i => cntE ev k i + if regN (ev k) = i then 1 else 0
structure KnC (ev : Nat → EvM) (an : Nat) (K : Nat → Int) : Prop where
  le : ∀ i, i < 6 → K i ≤ cntE ev an i
  cl : ∀ k, k < an → (ev k).seq ≤ K (regN (ev k)) → ∀ i, i < 6 → (ev k).deps i ≤ K i
structure Cz (n an : Nat) (ev : Nat → EvM) (kn : Nat → Nat → Int) : Prop where
  rd : ∀ k, k < an → readyE (cntE ev k) (ev k) = true
  reg : ∀ k, k < an → regN (ev k) < n
  own : ∀ o, o < n → kn o o = cntE ev an o
  kc : ∀ o, o < n → KnC ev an (kn o)
section
variable {ev : Nat → EvM} {an n j k i : Nat} {K : Nat → Int} {kn kn' : Nat → Nat → Int} {v : EvM} {L : LdC}
theorem cnt_le : ∀ d k i, cntE ev k i ≤ cntE ev (k + d) i
  | 0, _, _ => Int.le_refl _
  | d + 1, k, i => by have := cnt_le d k i; show _ ≤ cntE ev (k + d) i + _; split <;> omega
theorem cnt_mono (h : j ≤ k) : cntE ev j i ≤ cntE ev k i := by have := cnt_le (ev := ev) (k - j) j i; rwa [show j + (k - j) = k by omega] at this
theorem cnt_hit (h : j < k) : cntE ev j (regN (ev j)) + 1 ≤ cntE ev k (regN (ev j)) := by
  have h1 : cntE ev (j + 1) (regN (ev j)) ≤ cntE ev k (regN (ev j)) := cnt_mono (by omega)
  have h2 : cntE ev (j + 1) (regN (ev j)) = cntE ev j (regN (ev j)) + 1 := by show _ + (if _ then _ else _) = _; rw [if_pos rfl]
  omega
theorem rdy (h : readyE K v = true) : mayE v = true ∧ v.seq = K (regN v) + 1 ∧ ∀ i, i < 6 → v.deps i ≤ K i := by
  unfold readyE at h
  simp only [Bool.and_eq_true, decide_eq_true_eq] at h
  refine ⟨h.1.1, h.1.2, fun i hi => ?_⟩
  have := h.2
  unfold leAll at this
  rw [List.all_eq_true] at this
  exact of_decide_eq_true (this i (List.mem_range.2 hi))
theorem rdy_mk (h1 : mayE v = true) (h2 : v.seq = K (regN v) + 1) (h3 : ∀ i, i < 6 → v.deps i ≤ K i) : readyE K v = true := by
  unfold readyE
  simp only [Bool.and_eq_true, decide_eq_true_eq]
  refine ⟨⟨h1, h2⟩, ?_⟩
  unfold leAll
  rw [List.all_eq_true]
  intro i hi
  exact decide_eq_true (h3 i (List.mem_range.1 hi))
theorem Cz.seq (h : Cz n an ev kn) (hk : k < an) : (ev k).seq = cntE ev k (regN (ev k)) + 1 := (rdy (h.rd k hk)).2.1
theorem Cz.seq_le (h : Cz n an ev kn) (hk : k < an) : (ev k).seq ≤ cntE ev an (regN (ev k)) := by rw [h.seq hk]; exact cnt_hit hk
theorem Cz.uniq (h : Cz n an ev kn) (hj : j < an) (hk : k < an) (e1 : regN (ev j) = regN (ev k)) (e2 : (ev j).seq = (ev k).seq) : j = k := by
  rw [h.seq hj, h.seq hk] at e2
  rcases Nat.lt_trichotomy j k with h1 | h1 | h1
  · have := cnt_hit (ev := ev) h1; rw [e1] at this e2; omega
  · exact h1
  have := cnt_hit (ev := ev) h1; rw [← e1] at this e2; omega
theorem Cz.step (h : Cz n an ev kn) (hc : KnC ev an K) (hj : j < an) (hr : readyE K (ev j) = true) : KnC ev an (updA K (regN (ev j)) (K (regN (ev j)) + 1)) := by
  obtain ⟨_, r2, r3⟩ := rdy hr
  have up : ∀ i, K i ≤ updA K (regN (ev j)) (K (regN (ev j)) + 1) i := fun i => by unfold updA; split <;> (try subst_vars) <;> omega
  refine ⟨fun i hi => ?_, fun k hk hs i hi => ?_⟩
  · unfold updA; split
    · rename_i e; rw [e, ← r2]; exact h.seq_le hj
    exact hc.le i hi
  by_cases e : (ev k).seq ≤ K (regN (ev k))
  · exact Int.le_trans (hc.cl k hk e i hi) (up i)
  unfold updA at hs
  split at hs
  · rename_i e2
    rw [e2] at e
    have : k = j := h.uniq hk hj e2 (by omega)
    subst this
    exact Int.le_trans (r3 i hi) (up i)
  exact absurd hs e
theorem apply_ready (h : applyE L v = 0) : readyE L.known v = true := by
  unfold applyE at h
  split at h; · cases h
  split at h; · cases h
  split at h; · cases h
  rename_i h3
  cases e : readyE L.known v with
  | true => rfl
  | false => exact absurd e h3
theorem applyC_known (L : LdC) (v : EvM) : (applyE L v = 0 ∧ (applyC L v).known = updA L.known (regN v) (L.known (regN v) + 1)) ∨ (applyE L v ≠ 0 ∧ applyC L v = L) := by
  by_cases h : applyE L v = 0
  · refine .inl ⟨h, ?_⟩
    unfold applyC; rw [if_pos h]
    show updA (doesC L v).known _ _ = _
    rw [doesC_known]
  refine .inr ⟨h, ?_⟩
  unfold applyC; rw [if_neg h]
def KnO (ev : Nat → EvM) (an o : Nat) (K : Nat → Int) : Prop := KnC ev an K ∧ K o = cntE ev an o
theorem Cz.apply (h : Cz n an ev kn) {o : Nat} (hL : KnO ev an o L.known) (hj : j < an) : KnO ev an o (applyC L (ev j)).known := by
  rcases applyC_known L (ev j) with ⟨h1, h2⟩ | ⟨_, h2⟩
  · have hr := apply_ready h1
    rw [h2]
    refine ⟨h.step hL.1 hj hr, ?_⟩
    unfold updA
    split
    · rename_i e
      have := (rdy hr).2.1
      have h3 := h.seq_le hj
      rw [← e] at this h3
      have := hL.2
      omega
    exact hL.2
  rw [h2]; exact hL
theorem Cz.pass (h : Cz n an ev kn) {o : Nat} {Km : Nat → Int} (hL : KnO ev an o L.known) : ∀ j, j ≤ an → KnO ev an o (passC ev Km L j).known
  | 0, _ => hL
  | j + 1, hj => by
    unfold passC
    split
    · exact h.apply (h.pass hL j (by omega)) (by omega)
    · exact h.pass hL j (by omega)
theorem Cz.learnN (h : Cz n an ev kn) {o : Nat} {Km : Nat → Int} : ∀ f L, KnO ev an o L.known → KnO ev an o (learnN ev an Km f L).known
  | 0, L, hL => by unfold Rt.learnN; exact hL
  | f + 1, L, hL => by
    unfold Rt.learnN
    split
    · exact h.pass hL an (Nat.le_refl _)
    · exact h.learnN f _ (h.pass hL an (Nat.le_refl _))
theorem Cz.learn (h : Cz n an ev kn) {o : Nat} (ho : o < n) {Km : Nat → Int} (hk : L.known = kn o) (e1 : ∀ q, q ≠ o → kn' q = kn q) (e2 : kn' o = (learnC ev an Km L).known) : Cz n an ev kn' := by
  have h1 : KnO ev an o (learnC ev an Km L).known := h.learnN (an + 1) L (by rw [hk]; exact ⟨h.kc o ho, h.own o ho⟩)
  refine ⟨h.rd, h.reg, fun q hq => ?_, fun q hq => ?_⟩
  · by_cases e : q = o
    · subst e; rw [e2]; exact h1.2
    rw [e1 q e]; exact h.own q hq
  by_cases e : q = o
  · subst e; rw [e2]; exact h1.1
  rw [e1 q e]; exact h.kc q hq
theorem cnt_upd : ∀ k, k ≤ an → ∀ i, cntE (updA ev an v) k i = cntE ev k i
  | 0, _, _ => rfl
  | k + 1, hk, i => by
    have e : updA ev an v k = ev k := by unfold updA; rw [if_neg (by omega)]
    show cntE (updA ev an v) k i + (if regN (updA ev an v k) = i then 1 else 0) = cntE ev k i + if regN (ev k) = i then 1 else 0
    rw [e, cnt_upd k (by omega) i]
theorem cnt_new (i : Nat) : cntE (updA ev an v) (an + 1) i = cntE ev an i + if regN v = i then 1 else 0 := by
  show cntE (updA ev an v) an i + (if regN (updA ev an v an) = i then 1 else 0) = _
  rw [cnt_upd an (Nat.le_refl _)]
  unfold updA; rw [if_pos rfl]
theorem Cz.event (h : Cz n an ev kn) {o : Nat} (ho : o < n) (hr : readyE (kn o) v = true) (hv : regN v = o) (hd : v.deps = kn o) (e1 : ∀ q, q ≠ o → kn' q = kn q) (e2 : kn' o = updA (kn o) o (kn o o + 1)) : Cz n (an + 1) (updA ev an v) kn' := by
  obtain ⟨r1, r2, r3⟩ := rdy hr
  rw [hv] at r2
  have old : ∀ k, k < an → updA ev an v k = ev k := fun k hk => by unfold updA; rw [if_neg (by omega)]
  have new : updA ev an v an = v := by unfold updA; rw [if_pos rfl]
  have hown := h.own o ho
  refine ⟨fun k hk => ?_, fun k hk => ?_, fun q hq => ?_, fun q hq => ⟨fun i hi => ?_, fun k hk hs i hi => ?_⟩⟩
  · have e : cntE (updA ev an v) k = cntE ev k := funext fun i => cnt_upd k (by omega) i
    rw [e]
    by_cases ek : k = an
    · subst ek; rw [new]
      refine rdy_mk r1 (by rw [hv, r2, hown]) fun i hi => ?_
      exact Int.le_trans (r3 i hi) ((h.kc o ho).le i hi)
    rw [old k (by omega)]; exact h.rd k (by omega)
  · by_cases ek : k = an
    · subst ek; rw [new, hv]; exact ho
    rw [old k (by omega)]; exact h.reg k (by omega)
  · rw [cnt_new, hv]
    by_cases e : q = o
    · subst e; rw [e2, if_pos rfl]; unfold updA; rw [if_pos rfl, hown]
    rw [e1 q e, if_neg (fun x => e x.symm), h.own q hq, Int.add_zero]
  · rw [cnt_new, hv]
    by_cases e : q = o
    · subst e; rw [e2]; unfold updA
      split
      · rename_i ei; subst ei; rw [if_pos rfl, hown]; exact Int.le_refl _
      have := (h.kc q hq).le i hi; split <;> omega
    rw [e1 q e]; have := (h.kc q hq).le i hi; split <;> omega
  by_cases ek : k = an
  · subst ek
    rw [new] at hs ⊢
    by_cases e : q = o
    · subst e; rw [e2, hd]; unfold updA; split <;> (try subst_vars) <;> omega
    rw [e1 q e, hv, r2] at hs
    have := (h.kc q hq).le o
    have h6 : o < 6 := by have := regN_lt r1; omega
    have := this h6
    omega
  rw [old k (by omega)] at hs ⊢
  by_cases e : q = o
  · subst e
    rw [e2] at hs ⊢
    have up : ∀ i, kn q i ≤ updA (kn q) q (kn q q + 1) i := fun i => by unfold updA; split <;> (try subst_vars) <;> omega
    refine Int.le_trans ((h.kc q hq).cl k (by omega) ?_ i hi) (up i)
    unfold updA at hs
    split at hs
    · rename_i e3; have := h.seq_le (k := k) (by omega); rw [e3] at this ⊢; omega
    exact hs
  rw [e1 q e] at hs ⊢; exact (h.kc q hq).cl k (by omega) hs i hi
theorem Cz.zero (n : Nat) (h : ∀ o, o < n → kn o = fun _ => 0) : Cz n 0 ev kn := ⟨fun _ h => absurd h (Nat.not_lt_zero _), fun _ h => absurd h (Nat.not_lt_zero _), fun o ho => by rw [h o ho]; rfl, fun o ho => ⟨fun i _ => by rw [h o ho]; exact Int.le_refl _, fun _ h => absurd h (Nat.not_lt_zero _)⟩⟩
end
end Rt
end
section
namespace Rt
def GetR (m : LgM) (i q : Int) (v : EvM) (b : Bool) : Prop :=
  (b = true ∧ regE i = true ∧ ∃ r, r < (m.L (i - 1).toNat).length ∧ v = ((m.L (i - 1).toNat).getD r it0).e ∧ v.seq = q) ∨
  (b = false ∧ v = zeroE ∧ (regE i = false ∨ q = 0 ∨ ∀ r, r < (m.L (i - 1).toNat).length → ((m.L (i - 1).toNat).getD r it0).e.seq ≠ q))
theorem it_bld (v : EvM) (c : Int) (z : Nat → Value) : ∀ q, q < 15 → Fx.ovr (Fx.ovr z 0 14 (evY v)) 14 1 (fun _ => .int .u64 c) q = itY ⟨v, c⟩ q := fun q hq => by
  unfold Fx.ovr itY
  by_cases h : q < 14
  · rw [if_neg (by omega), if_pos (by omega), if_pos h, Nat.sub_zero]
  · rw [if_pos (by omega), if_neg h]
theorem it_bone (v : EvM) (c : Int) (z z2 : Nat → Value) : ∀ j, j < 1 * 15 → (Fx.ovr z2 (0 * 15) 15 (Fx.ovr (Fx.ovr z 0 14 (evY v)) 14 1 (fun _ => .int .u64 c)) j).oneCell' = true := fun j hj => by
  show (if 0 * 15 ≤ j ∧ j < 0 * 15 + 15 then _ else _ : Value).oneCell' = true
  rw [if_pos (by omega), it_bld v c z _ (by omega)]; exact itY_one _ _
theorem it_app {l : List ItM} {v : EvM} {c : Int} {z z2 : Nat → Value} : ∀ j, j < (l.length + 1) * 15 → Fx.appX (itX l) (l.length * 15) (Fx.ovr z2 (0 * 15) 15 (Fx.ovr (Fx.ovr z 0 14 (evY v)) 14 1 (fun _ => .int .u64 c))) j = itX (l ++ [⟨v, c⟩]) j := fun j hj =>
  (Fx.app_flat j hj).trans (Fx.flat_cong (fun k hk q hq => by
    unfold Fx.updF
    by_cases e : k = l.length
    · subst e; rw [if_pos rfl, it_bld v c z q hq]; simp
    · rw [if_neg e]; simp [List.getElem?_append_left (show k < l.length by omega)]) j hj)
theorem Lss.app {w w' : World} {B a g cap : Nat} {m : LgM} {x : ItM} (h : Lss w B m) (ha : a < 6)
    (hO : Fx.Own w' B 106 15 (.slice (some ⟨g, 0, none⟩) ((m.L a).length + 1) cap) ((m.L a).length + 1) (itX (m.L a ++ [x]))) (hg : w.grownBy w' (lvV m a).ownBlock) (hgv : (lvV m a).ownBlock = some g ∨ g = w.heap.size) :
    Lss w' B { m with a := updA m.a a (some ⟨g, 0, none⟩), c := updA m.c a cap, L := updA m.L a (m.L a ++ [x]) } := by
  refine h.put ha (by simpa using hO) (fun i hi e => ?_) (fun q hq => by obtain rfl : g = q := Option.some.inj hq; exact hgv.imp id (fun e => by omega))
  refine World.ownsRow.kept (h.1 i hi) hg ?_
  by_cases hn : (lvV m i).ownBlock = none
  · exact .inl hn
  right
  intro e3
  cases hq : (lvV m i).ownBlock with
  | none => exact hn hq
  | some q => rw [hq] at e3; exact h.2 i a hi ha e q hq e3.symm
def addG (m : LgM) (v : EvM) : Int := if mayE v = false then 1 else if lateE m.K v = true then 14 else if readyE m.K v = false then 13 else 0
def AddR (m m' : LgM) (v : EvM) : Prop := m'.K = upd m.K (regN v) v.seq ∧ m'.cnt = m.cnt + 1 ∧ m'.L = updA m.L (regN v) (m.L (regN v) ++ [⟨v, m.cnt⟩])
def SepS (w : World) (p : Nat) (m m' : LgM) : Prop := ∀ k, lgS p m' k → lgS p m k ∨ w.heap.size ≤ k
theorem SepS.add {w w3 : World} {p a g cap : Nat} {m m' : LgM} {l : List ItM} (ha : a < 6) (h1 : m'.a = updA m.a a (some ⟨g, 0, none⟩)) (h2 : m'.c = updA m.c a cap) (h3 : m'.L = updA m.L a l) (hgv : (lvV m a).ownBlock = some g ∨ g = w3.heap.size) (hs : w.heap.size ≤ w3.heap.size) : SepS w p m m' := fun k hk => by
  rcases hk with rfl | ⟨i, hi, e⟩
  · exact .inl (.inl rfl)
  · unfold lvV at e
    rw [h1, h2, h3] at e
    unfold updA at e
    by_cases c : i = a
    · subst c
      rw [if_pos rfl, if_pos rfl, if_pos rfl] at e
      obtain rfl : g = k := Option.some.inj e
      rcases hgv with h | h
      · exact .inl (.inr ⟨i, hi, h⟩)
      · exact .inr (by omega)
    · rw [if_neg c, if_neg c, if_neg c] at e
      exact .inl (.inr ⟨i, hi, e⟩)
theorem Lss.y {w : World} {B : Nat} {m : LgM} (h : Lss w B m) {m' : LgM} (e1 : m'.a = m.a) (e2 : m'.c = m.c) (e3 : m'.L = m.L) : Lss w B m' := by
  have e : ∀ i, lvV m' i = lvV m i := fun i => by unfold lvV; rw [e1, e2, e3]
  exact ⟨fun i hi => by rw [e, e3]; exact h.1 i hi, fun i j hi hj => by rw [e, e]; exact h.2 i j hi hj⟩
end Rt
open Rt
set_option maxRecDepth 10000 in
set_option maxHeartbeats 1000000 in
theorem o_add (v : EvM) (m : LgM) (B p T : Nat) (w : World) (h : LgO w B p m T) (hB : B ≤ w.heap.size) (hT : T ≤ 900000) (hv : EvWf v) :
    Calls Try.prog 19 #[.pointer (some ⟨p, 0, none⟩), .agg (Fx.varr 14 (evY v))] w fun e w' => e = .returned (.int .i64 (addG m v)) ∧ Fx.Chg (lgS p m) w w' ∧ (addG m v = 0 → ∃ m', LgO w' B p m' (T + 1) ∧ AddR m m' v ∧ SepS w p m m') ∧ (addG m v ≠ 0 → LgO w' B p m T) := by
 refine Fx.enter Try.func19 rfl (n := 64) rfl (by rfl) ?_
 have hbk := h.blk
 have tp := hbk.lt
 have hls := h.ls
 have hcn := h.cn
 have hgp := h.gp
 have hkr := h.kr
 have hrs := may_seq (v := v)
 refine Ws (Wl (Fx.L.box (m := 14) (y := evY v) (by rfl) rfl rfl (Fx.cells_agg _ _) rfl fun g1 w1 eg1 m1 s1 z1 => ?_))
 have m2 := hbk.stp s1 (Nat.ne_of_lt (hbk.lt))
 have m3 := hls.up s1.old
 have b1 := (Fx.Chg.refl (lgS p m) w).then s1 (.inr (Fx.Chg.refl (lgS p m) w).size)
 have lg1 : w.heap.size ≤ g1 := by rw [eg1]; exact (Fx.Chg.refl (lgS p m) w).size
 have ng1m2 : p ≠ g1 := by rw [eg1]; exact Nat.ne_of_lt (hbk.lt)
 have tg1 : g1 < w1.heap.size := m1.lt
 clear eg1
 refine Lv (.int .i64 (0)) (x_assign rfl rfl) (Ln (sN (Ws (Fx.W.block (Ws (Wl (Lv (.pointer (some ⟨p, 0, none⟩)) (x_move rfl rfl) (Lv (.bool false) (Fx.x_eqNil rfl rfl rfl (by kernel_rfl)) (Lv (.bool false) (x_assign rfl rfl) (Ln (sN (Wc (b := false) rfl (fun h => nomatch h) (fun _ => Ws (Wl (Lv (.agg (Fx.varr 14 (evY v))) (x_loadA (x := evY v) (y := evY v) rfl rfl (by kernel_rfl) (by kernel_rfl) m1.cel (i := 0) (by omega) (by omega) (fun j _ => by rw [Nat.zero_add])) ?_)))))))))))))))
 by_cases c11 : (mayE v) = true
 ·obtain ⟨a, ha, ea⟩ := regE_nat (may_reg c11)
  refine Fx.L.call (by rfl) (rC (args := [.agg (Fx.varr 14 (evY v))]) rfl rfl Try.func42 rfl rfl) rfl ((v_may v _ hv).mono ?_)
  rintro e w2 ⟨he, hb1⟩
  refine ⟨.bool true, by rw [he, c11], ?_⟩
  clear he
  have s2 := Sb hb1
  have m4 := m2.stp s2 (Nat.ne_of_lt (m2.lt))
  have m5 := m3.up s2.old
  have m6 := m1.stp s2 (Nat.ne_of_lt (m1.lt))
  have b2 := b1.then s2 (.inr b1.size)
  refine Lv (.bool false) (Fx.x_notF rfl rfl) (Lv (.bool false) (x_assign rfl rfl) (Ln (sN (Wc (b := false) rfl (fun h => nomatch h) (fun _ => Ws ?_)))))
  -- region 5 draws
  refine Fx.W.quiet (fun v1 => Below w2.heap.size w2 v1) (by kernel_rfl) (by kernel_rfl) (Below.refl _ _).drew ?_
  refine Qv (.pointer (some ⟨p, 0, none⟩)) (fun v1 hv1 => x_move rfl rfl) (Qv (.pointer (some ⟨p, 0, none⟩)) (fun v1 hv1 => x_nil rfl rfl) (Qv (.pointer (some ⟨p, 6, none⟩)) (fun v1 hv1 => x_field rfl rfl Try.underlying100 rfl (s := 6) (by kernel_rfl) rfl (by show _ + 6 = _; omega)) (Qv (.agg (Fx.varr 6 (Fx.rv .u64 m.K))) (fun v1 hv1 => x_loadA (x := lgY m) (y := Fx.rv .u64 m.K) rfl rfl (by kernel_rfl) (by kernel_rfl) (m4.cel.below hv1 (by have := m4.lt; omega)) (i := 6) (by omega) (by omega) (fun j hj => lgY_K m (by omega) hj)) (Qv (.agg (Fx.varr 14 (evY v))) (fun v1 hv1 => x_loadA (x := evY v) (y := evY v) rfl rfl (by kernel_rfl) (by kernel_rfl) (m6.cel.below hv1 (by have := m6.lt; omega)) (i := 0) (by omega) (by omega) (fun j _ => by rw [Nat.zero_add])) ?_))))
  by_cases c19 : (lateE m.K v) = true
  ·refine Fx.Qt.call (v := .bool true) (by rfl) (fun v1 hv1 => rC (args := [.agg (Fx.varr 6 (Fx.rv .u64 m.K)), .agg (Fx.varr 14 (evY v))]) rfl rfl Try.func43 rfl rfl) rfl (fun v1 hv1 => (v_late m.K v _ hv).mono fun e v2 h => ⟨by rw [h.1, c19], bch hv1 h.2⟩) ?_
   refine Qv (.bool true) (fun v1 hv1 => x_assign rfl rfl) (Fx.Qt.nil ?_)
   intro wb1 hbwb1
   have s3 : Fx.Stp w2.heap.size w2 wb1 := Sb hbwb1
   have m7 := m4.stp s3 (Nat.ne_of_lt (m4.lt))
   have m8 := m5.up s3.old
   have b3 := b2.then s3 (.inr b2.size)
   refine sN (Wc (b := true) rfl (fun _ => Ws (Wl (Lv (.int .i64 (14)) (x_assign rfl rfl) ?_))) (fun h => nomatch h))
   refine Ln (sN (Wr (Fx.blkR (sR (⟨.int .i64 (14), rV Try.results19 (by exact rfl), ?_⟩)))))
   have ee : addG m v = 14 := by unfold addG; rw [if_neg (show ¬ mayE v = false by rw [c11]; decide), if_pos c19]
   exact ⟨by rw [ee], b3, fun h0 => (by rw [ee] at h0; cases h0), fun _ => ⟨m7, m8, hgp, h.len, h.cn, h.kr, h.wf⟩⟩
  rw [Bool.not_eq_true] at c19
  refine Fx.Qt.call (v := .bool false) (by rfl) (fun v1 hv1 => rC (args := [.agg (Fx.varr 6 (Fx.rv .u64 m.K)), .agg (Fx.varr 14 (evY v))]) rfl rfl Try.func43 rfl rfl) rfl (fun v1 hv1 => (v_late m.K v _ hv).mono fun e v2 h => ⟨by rw [h.1, c19], bch hv1 h.2⟩) ?_
  refine Qv (.bool false) (fun v1 hv1 => x_assign rfl rfl) (Fx.Qt.nil ?_)
  intro wb2 hbwb2
  have s4 : Fx.Stp w2.heap.size w2 wb2 := Sb hbwb2
  have m10 := m4.stp s4 (Nat.ne_of_lt (m4.lt))
  have m11 := m5.up s4.old
  have m12 := m6.stp s4 (Nat.ne_of_lt (m6.lt))
  have b4 := b2.then s4 (.inr b2.size)
  refine sN (Wc (b := false) rfl (fun h => nomatch h) (fun _ => Ws ?_))
  -- region 7 draws
  refine Fx.W.quiet (fun v1 => Below wb2.heap.size wb2 v1) (by kernel_rfl) (by kernel_rfl) (Below.refl _ _).drew ?_
  refine Qv (.pointer (some ⟨p, 0, none⟩)) (fun v1 hv1 => x_move rfl rfl) (Qv (.pointer (some ⟨p, 0, none⟩)) (fun v1 hv1 => x_nil rfl rfl) (Qv (.pointer (some ⟨p, 6, none⟩)) (fun v1 hv1 => x_field rfl rfl Try.underlying100 rfl (s := 6) (by kernel_rfl) rfl (by show _ + 6 = _; omega)) (Qv (.agg (Fx.varr 6 (Fx.rv .u64 m.K))) (fun v1 hv1 => x_loadA (x := lgY m) (y := Fx.rv .u64 m.K) rfl rfl (by kernel_rfl) (by kernel_rfl) (m10.cel.below hv1 (by have := m10.lt; omega)) (i := 6) (by omega) (by omega) (fun j hj => lgY_K m (by omega) hj)) (Qv (.agg (Fx.varr 14 (evY v))) (fun v1 hv1 => x_loadA (x := evY v) (y := evY v) rfl rfl (by kernel_rfl) (by kernel_rfl) (m12.cel.below hv1 (by have := m12.lt; omega)) (i := 0) (by omega) (by omega) (fun j _ => by rw [Nat.zero_add])) ?_))))
  by_cases c26 : (readyE m.K v) = true
  ·refine Fx.Qt.call (v := .bool true) (by rfl) (fun v1 hv1 => rC (args := [.agg (Fx.varr 6 (Fx.rv .u64 m.K)), .agg (Fx.varr 14 (evY v))]) rfl rfl Try.func44 rfl rfl) rfl (fun v1 hv1 => (v_ready m.K v _ hv hkr).mono fun e v2 h => ⟨by rw [h.1, c26], bch hv1 h.2⟩) ?_
   refine Qv (.bool false) (fun v1 hv1 => Fx.x_notF rfl rfl) (Qv (.bool false) (fun v1 hv1 => x_assign rfl rfl) (Fx.Qt.nil ?_))
   intro wb3 hbwb3
   have s5 : Fx.Stp wb2.heap.size wb2 wb3 := Sb hbwb3
   have m13 := m10.stp s5 (Nat.ne_of_lt (m10.lt))
   have m14 := m11.up s5.old
   have m15 := m12.stp s5 (Nat.ne_of_lt (m12.lt))
   have b5 := b4.then s5 (.inr b4.size)
   refine sN (Wc (b := false) rfl (fun h => nomatch h) (fun _ => Wk (Fx.blkN (sN (Ws (Wl (Lv (.pointer (some ⟨g1, 0, none⟩)) (x_field rfl rfl Try.underlying50 rfl (s := 1) (by kernel_rfl) rfl rfl) (Lv (.int .i64 (v.o)) (x_load1 (x := evY v) rfl rfl (by kernel_rfl) m15.cel (i := 0) (by omega) (by omega) rfl) (Lv (.int .i64 ((a : Int))) (Fx.x_sub rfl rfl rfl (Fx.i64e (by omega) (by omega))) (Lv (.int .i64 ((a : Int))) (x_assign rfl rfl) (Ln (sN (Ws ?_)))))))))))))
   have hsq := hrs c11
   have hln := h.len a ha
   have m16 : Fx.Own wb3 B 106 15 (.slice (m.a a) ((m.L a).length) ((m.c a))) ((m.L a).length) (itX (m.L a)) := m14.1 a ha
   -- region 10 draws
   refine Fx.W.reord [0, 1, 2, 3, 4, 5, 6, 9, 10, 11, 16, 17, 7, 8, 12, 13, 14, 15, 18, 19] [0, 0, 0, 0, 0, 0, 0, 1, 4, 0, 0, 0, 4, 0, 2, 2, 0, 0, 0, 3] (Fx.ChT [106]) Fx.ChT.refl Fx.ChT.trans (certs := [(19, 7, [7]), (14, 8, [13, 8]), (15, 8, [14, 13, 8]), (19, 8, [8]), (14, 12, [13, 12]), (15, 12, [14, 13, 12]), (19, 12, [12]), (15, 14, [14]), (18, 14, [14]), (19, 14, [14]), (18, 15, [15]), (19, 15, [15])]) (by kernel_rfl) (by kernel_rfl) (by kernel_rfl) (by kernel_rfl) (by kernel_rfl) fun wt1 hbwt1 hzwt1 => ?_
   have s6 : Fx.Stp wb3.heap.size wb3 wt1 := Sb hbwt1
   have m17 := m13.stp s6 (Nat.ne_of_lt (m13.lt))
   have m18 := m14.up s6.old
   have m19 := m15.stp s6 (Nat.ne_of_lt (m15.lt))
   have m20 := m16.stp s6 (m16.notNew (Nat.le_refl _))
   have b6 := b5.then s6 (.inr b5.size)
   refine Rp (.pointer (some ⟨p, 0, none⟩)) (fun v1 => x_move rfl rfl) (Rp (.int .i64 ((a : Int))) (fun v1 => x_move rfl rfl) (Rp (.pointer (some ⟨p, 0, none⟩)) (fun v1 => x_move rfl rfl) (Rp (.int .i64 ((a : Int))) (fun v1 => x_move rfl rfl) (Rp (.pointer (some ⟨p, 0, none⟩)) (fun v1 => x_nil rfl rfl) (Rp (.pointer (some ⟨p, 0, none⟩)) (fun v1 => x_field rfl rfl Try.underlying100 rfl (s := 6) (by kernel_rfl) rfl rfl) (Rp (.pointer (some ⟨p, a, none⟩)) (fun v1 => x_index rfl rfl rfl Try.underlying98 (s := 1) (by kernel_rfl) (by omega) (by omega) (by omega)) (Rp (.pointer (some ⟨p, 0, none⟩)) (fun v1 => x_move rfl rfl) (Rp (.pointer (some ⟨p, 0, none⟩)) (fun v1 => x_nil rfl rfl) (Rp (.pointer (some ⟨p, 12, none⟩)) (fun v1 => x_field rfl rfl Try.underlying100 rfl (s := 1) (by kernel_rfl) rfl (by show _ + 12 = _; omega)) (Rp (.pointer (some ⟨p, 0, none⟩)) (fun v1 => x_nil rfl rfl) (Rp (.pointer (some ⟨p, 0, none⟩)) (fun v1 => x_field rfl rfl Try.underlying100 rfl (s := 6) (by kernel_rfl) rfl rfl) (Fx.R.read (v := .slice (m.a a) ((m.L a).length) ((m.c a))) (by rfl) (by rfl) (Fx.ChT.refl _) (fun v1 hv1 => x_load1 (x := lgY m) rfl rfl (by kernel_rfl) (m17.chT hv1 (by decide)).cel (i := a) (by omega) (by omega) (lgY_v m (by omega))) ?_))))))))))))
   refine Fx.R.s (.agg (Fx.varr 14 (evY v))) (x_loadA (x := evY v) (y := evY v) rfl rfl (by kernel_rfl) (by kernel_rfl) m19.cel (i := 0) (by omega) (by omega) (fun j _ => by rw [Nat.zero_add])) ?_
   refine Fx.R.s (.int .u64 (m.cnt)) (x_load1 (x := lgY m) rfl rfl (by kernel_rfl) m17.cel (i := 12) (by omega) (by omega) rfl) ?_
   refine Rp (.agg (Fx.varr 15 (Fx.ovr (Fx.ovr (fun zq => if zq < 1 then .int .i64 (0) else if zq < 8 then .int .u64 (0) else if zq < 9 then .int .u8 (0) else if zq < 10 then .int .u64 (0) else if zq < 12 then .int .i64 (0) else .int .u64 (0)) 0 14 (evY v)) 14 1 (fun _ => .int .u64 (m.cnt))))) (fun v1 => x_build (vs := [(0, .agg (Fx.varr 14 (evY v))), (1, .int .u64 (m.cnt))]) (places := #[(0, 14), (14, 1)]) (m := 15) (x := fun zq => if zq < 1 then .int .i64 (0) else if zq < 8 then .int .u64 (0) else if zq < 9 then .int .u8 (0) else if zq < 10 then .int .u64 (0) else if zq < 12 then .int .i64 (0) else .int .u64 (0)) rfl rfl Try.underlying106 (by kernel_rfl) (by kernel_rfl) (by rw [Fx.fill_step (off := 0) (s := 14) (y := evY v) (by kernel_rfl) (Fx.cells_agg _ _) (by rfl)]; rw [Fx.fill_step (off := 14) (s := 1) (y := fun _ => .int .u64 (m.cnt)) (by kernel_rfl) (Fx.cells_one (by rfl)) (by rfl)]; rfl)) (Fx.R.make (by rfl) ?_)
   refine Fx.L.bslice (vs := [(0, .agg (Fx.varr 15 (Fx.ovr (Fx.ovr (fun zq => if zq < 1 then .int .i64 (0) else if zq < 8 then .int .u64 (0) else if zq < 9 then .int .u8 (0) else if zq < 10 then .int .u64 (0) else if zq < 12 then .int .i64 (0) else .int .u64 (0)) 0 14 (evY v)) 14 1 (fun _ => .int .u64 (m.cnt)))))]) (s := 15) (zc := fun zq => if zq < 1 then .int .i64 (0) else if zq < 8 then .int .u64 (0) else if zq < 9 then .int .u8 (0) else if zq < 10 then .int .u64 (0) else if zq < 12 then .int .i64 (0) else .int .u64 (0)) (y := Fx.ovr (fun j => (fun zq => if zq < 1 then .int .i64 (0) else if zq < 8 then .int .u64 (0) else if zq < 9 then .int .u8 (0) else if zq < 10 then .int .u64 (0) else if zq < 12 then .int .i64 (0) else .int .u64 (0)) (j % 15)) (0 * 15) 15 (Fx.ovr (Fx.ovr (fun zq => if zq < 1 then .int .i64 (0) else if zq < 8 then .int .u64 (0) else if zq < 9 then .int .u8 (0) else if zq < 10 then .int .u64 (0) else if zq < 12 then .int .i64 (0) else .int .u64 (0)) 0 14 (evY v)) 14 1 (fun _ => .int .u64 (m.cnt)))) (by rfl) rfl rfl Try.underlying97 (by kernel_rfl) (by rfl) (by rfl) (by kernel_rfl) (by rw [Fx.fill_step (off := 0 * 15) (s := 15) (y := Fx.ovr (Fx.ovr (fun zq => if zq < 1 then .int .i64 (0) else if zq < 8 then .int .u64 (0) else if zq < 9 then .int .u8 (0) else if zq < 10 then .int .u64 (0) else if zq < 12 then .int .i64 (0) else .int .u64 (0)) 0 14 (evY v)) 14 1 (fun _ => .int .u64 (m.cnt))) rfl (Fx.cells_agg _ _) (by rfl)]; rfl) rfl fun g2 w3 eg2 m21 s7 z2 => ?_
   have m22 := m17.stp s7 (Nat.ne_of_lt (m17.lt))
   have m23 := m18.up s7.old
   have m24 := m19.stp s7 (Nat.ne_of_lt (m19.lt))
   have m25 := m20.stp s7 (m20.notNew (Nat.le_refl _))
   have b7 := b6.then s7 (.inr b6.size)
   have lg2 : w.heap.size ≤ g2 := by rw [eg2]; exact b6.size
   have ng2m22 : p ≠ g2 := by rw [eg2]; exact Nat.ne_of_lt (m17.lt)
   have ng2m24 : g1 ≠ g2 := by rw [eg2]; exact Nat.ne_of_lt (m19.lt)
   have ng2m25 : (.slice (m.a a) ((m.L a).length) ((m.c a)) : Value).ownBlock ≠ some g2 := by rw [eg2]; exact m20.notNew (Nat.le_refl _)
   have tg2 : g2 < w3.heap.size := m21.lt
   clear eg2
   refine Ln ⟨Fx.ChT.of_below s7.old, ?_⟩
   refine Fx.R.make (by rfl) ?_
   refine Fx.L.app (B := B) (s := 15) (bytes := 120) (k := ((m.L a).length)) (m := 1) (v := .slice (m.a a) ((m.L a).length) ((m.c a))) (x := itX (m.L a)) (by rfl) rfl rfl rfl Try.underlying97 (by kernel_rfl) (by kernel_rfl) rfl rfl m25 m21.cel (it_bone _ _ _ _) (by omega) (by omega) (by omega) (Nat.le_trans hB b7.size) fun g3 cap1 w4 ho1 hg1 hgv1 hlt1 => ?_
   have hct1 := Fx.ChT.of_grown hg1 m25
   have m27 := m22.chT hct1 (by decide)
   have m28 := m24.chT hct1 (by decide)
   have m26 : Fx.Own w4 B 106 15 (.slice (some ⟨g3, 0, none⟩) (((m.L a).length) + 1) cap1) (((m.L a).length) + 1) (itX (m.L a ++ [⟨v, m.cnt⟩])) := (ho1.congr (fun j hj => it_app j hj))
   have b8 : Fx.Chg (lgS p m) w w4 := Fx.Chg.grow b7 hg1 (fun q hq => .inl (.inr ⟨a, ha, hq⟩))
   have m29 : Lss w4 B { m with a := updA m.a a (some ⟨g3, 0, none⟩), c := updA m.c a cap1, L := updA m.L a (m.L a ++ [⟨v, m.cnt⟩]) } := Lss.app m23 ha m26 hg1 hgv1
   refine Ln ⟨hct1, ?_⟩
   refine Rp (.pointer (some ⟨p, a, none⟩)) (fun v1 => x_index rfl rfl rfl Try.underlying98 (s := 1) (by kernel_rfl) (by omega) (by omega) (by omega)) (Fx.R.eff (by rfl) ?_)
   refine Fx.L.store1 (x := lgY m) (u := .slice (some ⟨g3, 0, none⟩) (((m.L a).length) + 1) (cap1)) (by rfl) rfl rfl rfl rfl (by rfl) (by kernel_rfl) m27 (i := a) (by omega) fun w5 m30 s8 z3 => ?_
   have m31 : Fx.Blk w5 p 13 (lgY { m with a := updA m.a a (some ⟨g3, 0, none⟩), c := updA m.c a cap1, L := updA m.L a (m.L a ++ [⟨v, m.cnt⟩]) }) 100 := m30.to (lgY_put m ha _ _ _ _ (by simp))
   have hct2 := Fx.ChT.of_stp s8 m27.ty
   have m32 := m28.chT hct2 (by decide)
   have m33 := m29.chT hct2 (by decide)
   have b9 := b8.then s8 (.inl (.inl rfl))
   refine Ln (Fx.R.nil (sN (Ws ?_)))
   -- region 11 draws
   refine Fx.W.tail 7 (by kernel_rfl) (by kernel_rfl) fun wt2 hbwt2 hzwt2 => ?_
   have s9 : Fx.Stp w5.heap.size w5 wt2 := Sb hbwt2
   have m34 := m32.stp s9 (Nat.ne_of_lt (m32.lt))
   have m35 := m33.up s9.old
   have m36 := m31.stp s9 (Nat.ne_of_lt (m31.lt))
   have b10 := b9.then s9 (.inr b9.size)
   refine Fx.St.v (.pointer (some ⟨p, 0, none⟩)) (x_move rfl rfl) (Fx.St.v (.int .i64 ((a : Int))) (x_move rfl rfl) (Fx.St.v (.pointer (some ⟨g1, 1, none⟩)) (x_field rfl rfl Try.underlying50 rfl (s := 1) (by kernel_rfl) rfl (by show _ + 1 = _; omega)) (Fx.St.v (.int .u64 (v.seq)) (x_load1 (x := evY v) rfl rfl (by kernel_rfl) m34.cel (i := 1) (by omega) (by omega) rfl) (Fx.St.v (.pointer (some ⟨p, 0, none⟩)) (x_nil rfl rfl) (Fx.St.v (.pointer (some ⟨p, 6, none⟩)) (x_field rfl rfl Try.underlying100 rfl (s := 6) (by kernel_rfl) rfl (by show _ + 6 = _; omega)) (Fx.St.v (.pointer (some ⟨p, a + 6, none⟩)) (x_index rfl rfl rfl Try.underlying32 (s := 1) (by kernel_rfl) (by omega) (by omega) (by omega)) (Fx.St.nil ?_)))))))
   refine Fx.L.store1 (x := lgY { m with a := updA m.a a (some ⟨g3, 0, none⟩), c := updA m.c a cap1, L := updA m.L a (m.L a ++ [⟨v, m.cnt⟩]) }) (u := .int .u64 (v.seq)) (by rfl) rfl rfl rfl rfl (by rfl) (by kernel_rfl) m36 (i := a + 6) (by omega) fun w6 m37 s10 z4 => ?_
   have m38 : Fx.Blk w6 p 13 (lgY { m with a := updA m.a a (some ⟨g3, 0, none⟩), c := updA m.c a cap1, L := updA m.L a (m.L a ++ [⟨v, m.cnt⟩]), K := upd m.K a v.seq }) 100 := m37.to (lgY_known _ (by omega) ha _)
   have hct3 := Fx.ChT.of_stp s10 m36.ty
   have m40 := m35.chT hct3 (by decide)
   have b11 := b10.then s10 (.inl (.inl rfl))
   refine Ln (sN (Ws (Wl (Lv (.pointer (some ⟨p, 0, none⟩)) (x_move rfl rfl) (Lv (.pointer (some ⟨p, 0, none⟩)) (x_nil rfl rfl) (Lv (.pointer (some ⟨p, 12, none⟩)) (x_field rfl rfl Try.underlying100 rfl (s := 1) (by kernel_rfl) rfl (by show _ + 12 = _; omega)) (Lv (.int .u64 (m.cnt)) (x_load1 (x := lgY { m with a := updA m.a a (some ⟨g3, 0, none⟩), c := updA m.c a cap1, L := updA m.L a (m.L a ++ [⟨v, m.cnt⟩]), K := upd m.K a v.seq }) rfl rfl (by kernel_rfl) m38.cel (i := 12) (by omega) (by omega) rfl) (Lv (.int .u64 (m.cnt + 1)) (Fx.x_add rfl rfl rfl (Fx.u64e (by omega) (by omega))) (Lv (.pointer (some ⟨p, 0, none⟩)) (x_nil rfl rfl) (Lv (.pointer (some ⟨p, 12, none⟩)) (x_field rfl rfl Try.underlying100 rfl (s := 1) (by kernel_rfl) rfl (by show _ + 12 = _; omega)) (Fx.L.store1 (x := lgY { m with a := updA m.a a (some ⟨g3, 0, none⟩), c := updA m.c a cap1, L := updA m.L a (m.L a ++ [⟨v, m.cnt⟩]), K := upd m.K a v.seq }) (u := .int .u64 (m.cnt + 1)) (by rfl) rfl rfl rfl rfl (by rfl) (by kernel_rfl) m38 (i := 12) (by omega) fun w7 m41 s11 z5 => ?_)))))))))))
   have m42 : Fx.Blk w7 p 13 (lgY { m with a := updA m.a a (some ⟨g3, 0, none⟩), c := updA m.c a cap1, L := updA m.L a (m.L a ++ [⟨v, m.cnt⟩]), K := upd m.K a v.seq, cnt := m.cnt + 1 }) 100 := m41.congr (lgY_cnt _ _)
   have hct4 := Fx.ChT.of_stp s11 m38.ty
   have m44 := m40.chT hct4 (by decide)
   have b12 := b11.then s11 (.inl (.inl rfl))
   refine Ln (sN (Ws (Wl (Lv (.int .i64 (0)) (x_assign rfl rfl) (Ln (sN (Wr (⟨.int .i64 (0), rV Try.results19 (by exact rfl), ?_⟩))))))))
   have ee : addG m v = 0 := by unfold addG; rw [if_neg (show ¬ mayE v = false by rw [c11]; decide), if_neg (show ¬ lateE m.K v = true by rw [c19]; decide), if_neg (show ¬ readyE m.K v = false by rw [c26]; decide)]
   have eN : regN v = a := by unfold regN; omega
   refine ⟨by rw [ee], b12, fun _ => ⟨_, ⟨m42, m44.y rfl rfl rfl, hgp, fun i hi => ?_, ⟨by show 0 ≤ m.cnt + 1; omega, by show m.cnt + 1 ≤ ((T + 1 : Nat) : Int); omega⟩, fun i hi => ?_, fun i hi x hx => ?_⟩, by unfold AddR; rw [eN]; exact ⟨rfl, rfl, rfl⟩, SepS.add ha rfl rfl rfl hgv1 b7.size⟩, fun hn => absurd ee hn⟩
   ·show (updA m.L a (m.L a ++ [⟨v, m.cnt⟩]) i).length ≤ T + 1
    have := h.len i hi; unfold updA; split
    ·simp; omega
    omega
   ·show U64r (upd m.K a v.seq i)
    unfold upd; split
    ·exact hv.seq
    exact h.kr i hi
   have hx : x ∈ updA m.L a (m.L a ++ [⟨v, m.cnt⟩]) i := hx
   unfold updA at hx; split at hx
   ·rcases List.mem_append.1 hx with h1 | h1
    ·exact h.wf a ha x h1
    rw [List.mem_singleton.1 h1]; exact hv
   exact h.wf i hi x hx
  rw [Bool.not_eq_true] at c26
  refine Fx.Qt.call (v := .bool false) (by rfl) (fun v1 hv1 => rC (args := [.agg (Fx.varr 6 (Fx.rv .u64 m.K)), .agg (Fx.varr 14 (evY v))]) rfl rfl Try.func44 rfl rfl) rfl (fun v1 hv1 => (v_ready m.K v _ hv hkr).mono fun e v2 h => ⟨by rw [h.1, c26], bch hv1 h.2⟩) ?_
  refine Qv (.bool true) (fun v1 hv1 => Fx.x_notT rfl rfl) (Qv (.bool true) (fun v1 hv1 => x_assign rfl rfl) (Fx.Qt.nil ?_))
  intro wb4 hbwb4
  have s12 : Fx.Stp wb2.heap.size wb2 wb4 := Sb hbwb4
  have m45 := m10.stp s12 (Nat.ne_of_lt (m10.lt))
  have m46 := m11.up s12.old
  have b13 := b4.then s12 (.inr b4.size)
  refine sN (Wc (b := true) rfl (fun _ => Ws (Wl (Lv (.int .i64 (13)) (x_assign rfl rfl) ?_))) (fun h => nomatch h))
  refine Ln (sN (Wr (Fx.blkR (sR (⟨.int .i64 (13), rV Try.results19 (by exact rfl), ?_⟩)))))
  have ee : addG m v = 13 := by unfold addG; rw [if_neg (show ¬ mayE v = false by rw [c11]; decide), if_neg (show ¬ lateE m.K v = true by rw [c19]; decide), if_pos c26]
  exact ⟨by rw [ee], b13, fun h0 => (by rw [ee] at h0; cases h0), fun _ => ⟨m45, m46, hgp, h.len, h.cn, h.kr, h.wf⟩⟩
 rw [Bool.not_eq_true] at c11
 refine Fx.L.call (by rfl) (rC (args := [.agg (Fx.varr 14 (evY v))]) rfl rfl Try.func42 rfl rfl) rfl ((v_may v _ hv).mono ?_)
 rintro e w8 ⟨he, hb2⟩
 refine ⟨.bool false, by rw [he, c11], ?_⟩
 clear he
 have s13 := Sb hb2
 have m48 := m2.stp s13 (Nat.ne_of_lt (m2.lt))
 have m49 := m3.up s13.old
 have b14 := b1.then s13 (.inr b1.size)
 refine Lv (.bool true) (Fx.x_notT rfl rfl) (Lv (.bool true) (x_assign rfl rfl) (Ln (sN (Wc (b := true) rfl (fun _ => Ws (Wl (Lv (.int .i64 (1)) (x_assign rfl rfl) ?_))) (fun h => nomatch h)))))
 refine Ln (sN (Wr (Fx.blkR (sR (⟨.int .i64 (1), rV Try.results19 (by exact rfl), ?_⟩)))))
 have ee : addG m v = 1 := by unfold addG; rw [if_pos c11]
 exact ⟨by rw [ee], b14, fun h0 => (by rw [ee] at h0; cases h0), fun _ => ⟨m48, m49, hgp, h.len, h.cn, h.kr, h.wf⟩⟩
end
end Go.Proofs.Ytleajegppehbdaa
namespace Go.Proofs.Ytleajegppehbdaa.Fx
open Go.RowKit Go.Shelf Go.Sort Go.Lib
def cmp3 (a b : Int) : Int := if a < b then -1 else if b < a then 1 else 0
theorem cmp3_lt (a b : Int) : cmp3 a b < 0 ↔ a < b := by
  unfold cmp3
  split
  · simp_all
  split <;> simp_all
theorem swo_key {α : Type} (ky : α → Int) : SWO (ltOf fun x y => cmp3 (ky x) (ky y)) := by
  have e : ∀ x y, (ltOf fun x y => cmp3 (ky x) (ky y)) x y = decide (ky x < ky y) := fun x y => by
    unfold ltOf
    exact decide_eq_decide.2 (cmp3_lt _ _)
  refine ⟨fun x => ?_, fun x y z h1 h2 => ?_, fun x y z h1 h2 => ?_⟩ <;> simp only [e, decide_eq_true_eq, decide_eq_false_iff_not] at * <;> omega
end Go.Proofs.Ytleajegppehbdaa.Fx
namespace Go.Proofs.Ytleajegppehbdaa.Fx
open Go.RowKit Go.Shelf Go.Sort Go.Lib
theorem ownK_sorted {w : World} {B g cap m N s : Nat} {E : TypeId} (d' : Array Value) (os : Array Obj) {x : Nat → Value} (h : Own w B E s (.slice (some ⟨g, 0, none⟩) m cap) m x) (hd : d'.size = m * s) :
    Own (sortWorld id w g 0 N d' os) B E s (.slice (some ⟨g, 0, none⟩) m cap) m (fun q => d'[q]!) ∧ Stp g w (sortWorld id w g 0 N d' os) := by
  rcases h.2 with ⟨h1, _⟩ | ⟨g', cap', cur, h1, hB, hg, hn, hm, hs, ht⟩
  · cases h1
  simp only [Value.slice.injEq, Option.some.injEq, Addr.mk.injEq] at h1
  obtain ⟨⟨rfl, _⟩, _, rfl⟩ := h1
  have hl : g < w.heap.size := (Array.getElem?_eq_some_iff.1 hg).1
  have hb : (sortWorld id w g 0 N d' os).heap = (w.heap.modify g (onCells (putCells id 0 d'))) ++ os := rfl
  have hbk : ∀ k, k < w.heap.size → (sortWorld id w g 0 N d' os).heap[k]? = (w.heap.modify g (onCells (putCells id 0 d')))[k]? := fun k hk => by
    rw [hb, Array.getElem?_append_left (by simpa using hk)]
  have hms : m * s ≤ cap * s := Nat.mul_le_mul_right s hn
  refine ⟨⟨by simp, .inr ⟨g, cap, putCells id 0 d' cur, rfl, hB, ?_, hn, hm, ?_, ?_⟩⟩, ⟨rfl, rfl, rfl, by rw [hb]; simp, fun k hk ne => ?_⟩⟩
  · rw [hbk g hl, Array.getElem?_modify, if_pos rfl, hg]; rfl
  · simp [putCells, hs]
  · apply List.ext_getElem?
    intro i
    by_cases hi : i < m * s
    · have hi2 : i < cur.size := by omega
      rw [List.getElem?_take_of_lt (by omega), Array.getElem?_toList]
      unfold putCells
      rw [Array.getElem?_mapIdx, Array.getElem?_eq_getElem hi2]
      simp [hi, hd]
    rw [List.getElem?_eq_none (by simp; omega), List.getElem?_eq_none (by simp; omega)]
  rw [hbk k hk, Array.getElem?_modify, if_neg (Ne.symm ne)]
theorem ownK_holds {w : World} {B g cap m s : Nat} {E : TypeId} (d : Array Value) {x : Nat → Value} (h : Own w B E s (.slice (some ⟨g, 0, none⟩) m cap) m x) (hd : d.size = m * s) (hx : ∀ q, q < m * s → x q = d[q]!) (hm0 : 0 < m) :
    Holds id w g 0 d ∧ g < w.heap.size := by
  obtain ⟨g', cap', e, _, hl, _, hc⟩ := h.form hm0
  rcases h.2 with ⟨h1, _⟩ | ⟨g2, cap2, cur, h1, hB, hg, hn, hm, hs, ht⟩
  · cases h1
  simp only [Value.slice.injEq, Option.some.injEq, Addr.mk.injEq] at h1 e
  obtain ⟨⟨rfl, _⟩, _, rfl⟩ := h1
  obtain ⟨⟨rfl, _⟩, _, rfl⟩ := e
  refine ⟨fun j hj => ⟨?_, ?_⟩, hl⟩
  · have h2 := hc j (by omega)
    rw [h2, hx j (by omega)]; rfl
  simp [World.frozen?, hg]
theorem list_flat {α : Type} [Inhabited α] {s : Nat} {enc : α → Nat → Value} {e0 : α} {l : List α} (hs : 0 < s) : ∀ q, q < l.length * s → flat s (fun k => enc (l.getD k e0)) q = (Go.Sort.flatK (fun x => (List.range s).map (enc x)) s l.toArray)[q]! := fun q hq => by
  have h1 : q / s < l.length := Nat.div_lt_of_lt_mul (by rw [Nat.mul_comm]; exact hq)
  have h2 : q % s < s := Nat.mod_lt _ hs
  rw [Go.Sort.get_flatK _ _ _ q (by simpa using hq)]
  unfold flat
  have e1 : l.toArray[q / s]! = l.getD (q / s) e0 := by simp [h1]
  rw [e1]
  simp [h2]
theorem sort_agg {P : Program} {ρ : Ren} (LS : SlLaysF0.n6 P ρ) {gc : Nat} (eg : ∀ args w, (callFunc gc args).run P w = .ok (.enter gc args) w) {w : World} {B cap s : Nat} {a : Option Addr} {E : TypeId} (hs0 : 0 < s)
    (aE : ∀ w, (isAgg (ρ.t 24)).run P w = .ok true w) (zE : ∀ w, (Go.sizeOf (ρ.t 24)).run P w = .ok s w) {α : Type} [Inhabited α] {enc : α → Nat → Value} {e0 : α} (h1 : ∀ x j, j < s → (enc x j).oneCell' = true) {ky : α → Int} {l : List α}
    (h : Own w B E s (.slice a l.length cap) l.length (flat s fun q => enc (l.getD q e0)))
    (hc : ∀ w1 x y, Calls P gc #[.agg (varr s (enc x)), .agg (varr s (enc y))] w1 fun e w' => e = .returned (.int .i64 (cmp3 (ky x) (ky y))) ∧ ∃ q os', w' = grow (w1.drewN q) os') (hm : l.length < 4611686018427387904) :
    Calls P (ρ.f 6) #[.slice a l.length cap, .func (.func gc) #[] #[]] w fun e w' => e = .returned (.tuple #[]) ∧ ∃ l' : List α, l'.Perm l ∧ l'.Pairwise (fun x y => ky x ≤ ky y) ∧ Own w' B E s (.slice a l.length cap) l.length (flat s fun q => enc (l'.getD q e0)) ∧ (∀ k, k < w.heap.size → (Value.slice a l.length cap).ownBlock ≠ some k → w'.heap[k]? = w.heap[k]?) ∧ ChT [E] w w' ∧ Below B w w' := by
  by_cases h0 : l.length = 0
  · have hl : l = [] := List.length_eq_zero_iff.1 h0
    subst hl
    refine (AnyF.slices_SortFunc_none LS a cap _ w).mono ?_
    rintro e w' ⟨he, rfl⟩
    exact ⟨he, [], List.Perm.refl _, List.Pairwise.nil, h, fun _ _ _ => rfl, ChT.refl _, Below.refl _ _⟩
  obtain ⟨g, c2, e1, hB, hg, hmc, _⟩ := h.form (by omega)
  simp only [Value.slice.injEq] at e1
  obtain ⟨rfl, _, rfl⟩ := e1
  have hk : ∀ x, ((fun x => (List.range s).map (enc x)) x).length = s := fun x => by simp
  have hsz : (Go.Sort.flatK (fun x => (List.range s).map (enc x)) s l.toArray).size = l.length * s := by simp
  obtain ⟨hH, hl⟩ := ownK_holds _ h hsz (list_flat hs0) (by omega)
  have hty : Ty w g E := h.ty rfl
  have hv : ∀ x, ((List.range s).map (enc x)).toArray = varr s (enc x) := fun x => by
    apply Array.ext
    · simp [varr_size]
    · intro i h1 h2
      have h3 : i < s := by simpa using h1
      have := varr_get (enc x) h3
      rw [Array.getElem?_eq_getElem h2] at this
      rw [Option.some.inj this]; simp
  have hs := AnyQ.slices_SortFunc LS s aE zE (fun x => (List.range s).map (enc x)) hk (fun x v hv => by
      obtain ⟨j, hj, rfl⟩ := List.mem_map.1 hv
      exact h1 x j (List.mem_range.1 hj)) (fun x y => cmp3 (ky x) (ky y)) (swo_key _) gc #[] g 0 cap l.toArray w eg
    (fun N os dk hdk x y => by rw [hv, hv]; exact hc _ x y) hH hl (by simpa using hm)
  rw [show l.toArray.size = l.length by simp] at hs
  refine hs.mono ?_
  rintro e w' ⟨he, d', N, os, ⟨p1, _, p3⟩, hso, rfl⟩
  have p1 : d'.size = l.length := by simpa using p1
  have hw : sortWorldK (fun x => (List.range s).map (enc x)) s w g 0 N d' os = sortWorld id w g 0 N (Go.Sort.flatK (fun x => (List.range s).map (enc x)) s d') os := rfl
  rw [hw]
  obtain ⟨o1, o2⟩ := ownK_sorted (N := N) (Go.Sort.flatK (fun x => (List.range s).map (enc x)) s d') os h (by simp [p1])
  have e1 : (d'.extract 0 l.length).toList = d'.toList := by
    rw [← p1]; simp
  have e2 : (l.toArray.extract 0 l.length).toList = l := by simp
  rw [e1, e2] at p3
  refine ⟨he, d'.toList, p3, ?_, ?_, fun k hk hne => o2.block k hk (fun e => hne (by rw [e]; rfl)), ChT.of_stp o2 hty, ⟨o2.os, o2.tape, o2.output, o2.size, fun k hk => o2.block k (by omega) (by omega)⟩⟩
  · rw [List.pairwise_iff_getElem]
    intro i j hi hj hij
    have h3 := hso i j (Nat.zero_le _) hij (by rw [← p1]; simpa using hj)
    unfold ltOf at h3
    rw [decide_eq_false_iff_not, cmp3_lt] at h3
    have a1 : d'[i]! = d'.toList[i] := by rw [getElem!_pos d' i (by simpa using hi)]; simp
    have a2 : d'[j]! = d'.toList[j] := by rw [getElem!_pos d' j (by simpa using hj)]; simp
    rw [a1, a2] at h3
    exact Int.not_lt.1 h3
  have := fun q (hq : q < l.length * s) => list_flat (enc := enc) (e0 := e0) (l := d'.toList) hs0 q (by simpa [p1] using hq)
  have o3 : Own (sortWorld id w g 0 N (Go.Sort.flatK (fun x => (List.range s).map (enc x)) s d') os) B E s (.slice (some ⟨g, 0, none⟩) l.length cap) l.length (flat s fun q => enc (d'.toList.getD q e0)) := o1.congr fun q hq => by
    have := this q hq
    simp only [Array.toArray_toList] at this
    exact this.symm
  exact o3
section
variable {P : Program} {f : Nat → Value} {w : World} {o : Oper}
theorem runs_i {k : IntKind} {a b : Int} (h : Runs P f o w (.int k a)) (e : a = b) : Runs P f o w (.int k b) := e ▸ h
def loA (s j c : Nat) : Option Addr → Option Addr
  | none => none
  | some ad => if c = j then some ad else some ⟨ad.block, ad.off + j * s, ad.spot⟩
theorem x_lo {w0 : World} {T E : TypeId} {x lo : Operand} {a : Option Addr} {B n c s : Nat} {k : IntKind} {j : Nat} {y : Nat → Value} (ho : o.op = .slice T x (some lo) none none) (hx : ev f x = .slice a n c) (hl : ev f lo = .int k (j : Int)) (hu : P.underlying T = some (.slice E)) (hs : (P.info? E).map (·.size) = some s) (hj : j ≤ n) (hown : Own w0 B E s (.slice a n c) n y) :
    Runs P f o w (.slice (loA s j c a) (n - j) (c - j)) := by
  rcases hown.2 with ⟨h1, rfl⟩ | ⟨g, cap, cur, h1, _, _, hn, _⟩
  · simp only [Value.slice.injEq] at h1
    obtain ⟨rfl, _, rfl⟩ := h1
    obtain rfl : j = 0 := by omega
    obtain ⟨i, hi', _⟩ := Option.map_eq_some_iff.1 hs
    unfold Runs execOp
    simp only [ho, hx, hl, Option.map_some, Option.map_none]
    simp [Instr.sliceAt, Instr.slice, underlying, hu, Instr.sliceBounds, Instr.sliceBound, asIntOf, sizeOf, typeInfo, hi', loA]
  simp only [Value.slice.injEq] at h1
  obtain ⟨rfl, _, rfl⟩ := h1
  have := x_sliceLo2 (P := P) (w := w) (A := if c = j then some ⟨g, 0, none⟩ else some ⟨g, 0 + j * s, none⟩) (n' := n - j) (c' := c - j) ho hx hl hu hs (by omega) rfl rfl rfl
  exact this
end
theorem Own.arrLo {w : World} {B n c s j : Nat} {E : TypeId} {a : Option Addr} {y : Nat → Value} (h : Own w B E s (.slice a n c) n y) (_hj : j ≤ n) : Arr w (loA s j c a) (n - j) s (fun p => y (j * s + p)) := fun h0 => by
  obtain ⟨g, c2, e1, hB, hg, hnc, hcel⟩ := h.form (by omega)
  simp only [Value.slice.injEq] at e1
  obtain ⟨rfl, _, rfl⟩ := e1
  refine ⟨g, 0 + j * s, ?_, fun p hp => ?_⟩
  · show (if c = j then _ else _) = _
    rw [if_neg (by omega)]
  · have hlt : j * s + p < n * s := by
      have : n * s = j * s + (n - j) * s := by rw [← Nat.add_mul]; congr 1; omega
      omega
    have := hcel (j * s + p) hlt
    rw [Nat.zero_add] at this
    rw [Nat.zero_add]; exact this
end Go.Proofs.Ytleajegppehbdaa.Fx
namespace Go.Proofs.Ytleajegppehbdaa
open Go.RowKit Rt
open Fx (x_move x_assign x_field x_load1 x_pickF x_pickT x_nil x_conv x_indexS x_index x_leqF x_loadA x_len x_gtrF x_build x_eqlF x_eqlT Lv sN Ln Ws Qv Wl Rp Wc Qs Wr Sb Lk Wk rC rV sR)
theorem Rt.itX_one (l : List ItM) (j : Nat) : (itX l j).oneCell' = true := itY_one _ _
namespace Rt
def flt (l : List ItM) (s : Int) : List ItM := l.filter fun x => decide (s < x.e.seq)
theorem flt_drop {l : List ItM} {s : Int} {r : Nat} (h : PlaceR l s r) : l.drop r = flt l s := by
  unfold flt
  have e : l = l.take r ++ l.drop r := (List.take_append_drop r l).symm
  have h1 : (l.take r).filter (fun x => decide (s < x.e.seq)) = [] := by
    rw [List.filter_eq_nil_iff]
    intro x hx
    obtain ⟨i, hi, rfl⟩ := List.mem_iff_getElem.1 hx
    have hi2 : i < r := by simp at hi; omega
    have h2 := h.lo i hi2
    have h3 : l.getD i it0 = (l.take r)[i] := by have := h.le; rw [List.getElem_take]; simp [show i < l.length by omega]
    rw [h3] at h2
    exact fun e => by have := of_decide_eq_true e; omega
  have h2 : (l.drop r).filter (fun x => decide (s < x.e.seq)) = l.drop r := by
    rw [List.filter_eq_self]
    intro x hx
    obtain ⟨i, hi, rfl⟩ := List.mem_iff_getElem.1 hx
    have hi2 : r + i < l.length := by simp at hi; omega
    have h2 := h.hi (r + i) (by omega) hi2
    have h3 : l.getD (r + i) it0 = (l.drop r)[i] := by rw [List.getElem_drop]; simp [hi2]
    rw [h3] at h2
    exact decide_eq_true h2
  conv => rhs; rw [e, List.filter_append, h1, h2, List.nil_append]
theorem flt_len {l : List ItM} {s : Int} {r : Nat} (h : PlaceR l s r) : l.length - r = (flt l s).length := by rw [← flt_drop h, List.length_drop]
theorem flt_x {l : List ItM} {s : Int} {r : Nat} (h : PlaceR l s r) (p : Nat) (hp : p < (l.length - r) * 15) : itX l (r * 15 + p) = itX (flt l s) p := by
  rw [← flt_drop h]
  unfold itX Fx.flat
  have h1 : p / 15 < l.length - r := Nat.div_lt_of_lt_mul (by rw [Nat.mul_comm]; exact hp)
  rw [show (r * 15 + p) / 15 = r + p / 15 by omega, show (r * 15 + p) % 15 = p % 15 by omega]
  show itY (l.getD (r + p / 15) it0) _ = itY ((l.drop r).getD (p / 15) it0) _
  congr 1
  rw [List.getD_eq_getElem?_getD, List.getD_eq_getElem?_getD, List.getElem?_drop]
end Rt
theorem c_nan (n : Int) (w : World) :
    Calls Try.prog 71 #[.int .u64 (n)] w fun e w' => e = .returned (.bool false) ∧ w' = w := by
 refine Fx.enter Try.func71 rfl (n := 6) rfl (by rfl) ?_
 refine Ws (Wl (Lv (.bool false) (x_assign rfl rfl) (Ln (sN (Ws (Wl (Lv (.int .u64 (n)) (x_move rfl rfl) (Lv (.int .u64 (n)) (x_move rfl rfl) (Lv (.bool false) (Fx.x_neqF rfl rfl rfl rfl) (Lv (.bool false) (x_assign rfl rfl) (Ln (sN (Wr (⟨.bool false, rV Try.results71 (by exact rfl), ?_⟩))))))))))))))
 exact ⟨rfl, rfl⟩
theorem c_cmp (a b : Int) (w : World) :
    Calls Try.prog 53 #[.int .u64 (a), .int .u64 (b)] w fun e w' => e = .returned (.int .i64 (Fx.cmp3 a b)) ∧ w' = w := by
 refine Fx.enter Try.func53 rfl (n := 20) rfl (by rfl) ?_
 refine Ws (Wl (Lv (.int .i64 (0)) (x_assign rfl rfl) (Ln (sN (Ws (Wl (Lv (.int .u64 (a)) (x_move rfl rfl) (Fx.L.call (by rfl) (rC (args := [.int .u64 (a)]) rfl rfl Try.func71 rfl rfl) rfl ((c_nan a _).mono ?_)))))))))
 rintro e v1 ⟨he, hv1⟩
 subst v1
 refine ⟨.bool false, by rw [he], ?_⟩
 clear he
 refine Lv (.bool false) (x_assign rfl rfl) (Ln (sN (Ws (Wl (Lv (.int .u64 (b)) (x_move rfl rfl) (Fx.L.call (by rfl) (rC (args := [.int .u64 (b)]) rfl rfl Try.func71 rfl rfl) rfl ((c_nan b _).mono ?_)))))))
 rintro e v1 ⟨he, hv1⟩
 subst v1
 refine ⟨.bool false, by rw [he], ?_⟩
 clear he
 refine Lv (.bool false) (x_assign rfl rfl) (Ln (sN (Ws (Ws (Wl (Lv (.bool false) (x_move rfl rfl) (Ln (sN (Wc (b := false) rfl (fun h => nomatch h) (fun _ => Wk (sN (Ws (Ws (Wl (Lv (.bool false) (x_move rfl rfl) (Ln (sN (Wc (b := false) rfl (fun h => nomatch h) (fun _ => Wk (sN (Ws (Ws (Wl (Lv (.int .u64 (a)) (x_move rfl rfl) (Lv (.int .u64 (b)) (x_move rfl rfl) ?_)))))))))))))))))))))))))
 by_cases c16 : a < b
 ·refine Lv (.bool true) (Fx.x_lssT rfl rfl rfl c16) (Ln (sN (Wc (b := true) rfl (fun _ => Ws (Wl (Lv (.int .i64 (-1)) (x_assign rfl rfl) ?_))) (fun h => nomatch h))))
  refine Ln (sN (Wr (sR (⟨.int .i64 (-1), rV Try.results53 (by exact rfl), ?_⟩))))
  exact ⟨by unfold Fx.cmp3; simp [c16], rfl⟩
 refine Lv (.bool false) (Fx.x_lssF rfl rfl rfl c16) (Ln (sN (Wc (b := false) rfl (fun h => nomatch h) (fun _ => Wk (sN (Ws (Ws (Wl (Lv (.int .u64 (a)) (x_move rfl rfl) (Lv (.int .u64 (b)) (x_move rfl rfl) ?_))))))))))
 by_cases c19 : b < a
 ·refine Lv (.bool true) (Fx.x_gtrT rfl rfl rfl c19) (Ln (sN (Wc (b := true) rfl (fun _ => Ws (Wl (Lv (.int .i64 (1)) (x_assign rfl rfl) ?_))) (fun h => nomatch h))))
  refine Ln (sN (Wr (sR (⟨.int .i64 (1), rV Try.results53 (by exact rfl), ?_⟩))))
  exact ⟨by unfold Fx.cmp3; simp [c16, c19], rfl⟩
 refine Lv (.bool false) (x_gtrF rfl rfl rfl c19) (Ln (sN (Wc (b := false) rfl (fun h => nomatch h) (fun _ => Wk (sN (Ws (Wl (Lv (.int .i64 (0)) (x_assign rfl rfl) (Ln (sN (Wr (⟨.int .i64 (0), rV Try.results53 (by exact rfl), ?_⟩))))))))))))
 exact ⟨by unfold Fx.cmp3; simp [c16, c19], rfl⟩
end Go.Proofs.Ytleajegppehbdaa
namespace Go.Proofs.Ytleajegppehbdaa
open Go.Shelf
def laysS_ren : Go.Shelf.Ren := ⟨fun | 6 => 51 | 15 => 70 | 14 => 69 | 28 => 92 | 29 => 93 | 20 => 84 | 21 => 85 | 22 => 86 | 23 => 87 | 24 => 88 | 25 => 89 | 26 => 90 | 27 => 91 | 46 => 104 | 47 => 105 | 48 => 106 | 49 => 107 | 50 => 108 | 57 => 112 | n => n, fun | 22 => 97 | 24 => 106 | 25 => 112 | 3 => 3 | 39 => 136 | 0 => 0 | 53 => 152 | 55 => 30 | 4 => 4 | 46 => 146 | 45 => 145 | 50 => 131 | 5 => 5 | 9 => 9 | 66 => 163 | 70 => 167 | 76 => 172 | 77 => 173 | n => n, fun | n => n⟩
theorem laysS : Go.Proofs.SlLaysF0.n6 Try.prog laysS_ren := {
  mixed := by kernel_rfl
  f6 := ⟨Try.f51.name, by decide, Try.func51.trans (congrArg some (by kernel_rfl))⟩
  f14 := ⟨Try.f69.name, by decide, Try.func69.trans (congrArg some (by kernel_rfl))⟩
  f15 := Try.func70.trans (congrArg some (by kernel_rfl))
  f20 := ⟨Try.f84.name, by decide, Try.func84.trans (congrArg some (by kernel_rfl))⟩
  f21 := ⟨Try.f85.name, by decide, Try.func85.trans (congrArg some (by kernel_rfl))⟩
  f22 := ⟨Try.f86.name, by decide, Try.func86.trans (congrArg some (by kernel_rfl))⟩
  f23 := ⟨Try.f87.name, by decide, Try.func87.trans (congrArg some (by kernel_rfl))⟩
  f24 := ⟨Try.f88.name, by decide, Try.func88.trans (congrArg some (by kernel_rfl))⟩
  f25 := ⟨Try.f89.name, by decide, Try.func89.trans (congrArg some (by kernel_rfl))⟩
  f26 := ⟨Try.f90.name, by decide, Try.func90.trans (congrArg some (by kernel_rfl))⟩
  f27 := ⟨Try.f91.name, by decide, Try.func91.trans (congrArg some (by kernel_rfl))⟩
  f28 := Try.func92.trans (congrArg some (by kernel_rfl))
  f29 := Try.func93.trans (congrArg some (by kernel_rfl))
  f46 := ⟨Try.f104.name, by decide, Try.func104.trans (congrArg some (by kernel_rfl))⟩
  f47 := Try.func105.trans (congrArg some (by kernel_rfl))
  f48 := Try.func106.trans (congrArg some (by kernel_rfl))
  f49 := ⟨Try.f107.name, by decide, Try.func107.trans (congrArg some (by kernel_rfl))⟩
  f50 := ⟨Try.f108.name, by decide, Try.func108.trans (congrArg some (by kernel_rfl))⟩
  f57 := ⟨Try.f112.name, by decide, Try.func112.trans (congrArg some (by kernel_rfl))⟩
  t0 := Try.underlying0
  a0 := Try.isAgg0
  z0 := Try.sizeOf0
  v0 := Try.zeroValue0
  t3 := Try.underlying3
  a3 := Try.isAgg3
  z3 := Try.sizeOf3
  v3 := Try.zeroValue3
  t4 := Try.underlying4
  a4 := Try.isAgg4
  z4 := Try.sizeOf4
  v4 := Try.zeroValue4
  t5 := Try.underlying5
  a5 := Try.isAgg5
  z5 := Try.sizeOf5
  v5 := Try.zeroValue5
  t9 := Try.underlying9
  a9 := Try.isAgg9
  z9 := Try.sizeOf9
  v9 := Try.zeroValue9
  t22 := Try.underlying97
  a22 := Try.isAgg97
  z22 := Try.sizeOf97
  v22 := Try.zeroValue97
  t25 := Try.underlying112
  a25 := Try.isAgg112
  z25 := Try.sizeOf112
  v25 := Try.zeroValue112
  t39 := Try.underlying136
  a39 := Try.isAgg136
  z39 := Try.sizeOf136
  v39 := Try.zeroValue136
  t45 := Try.underlying145
  a45 := Try.isAgg145
  z45 := Try.sizeOf145
  v45 := Try.zeroValue145
  t46 := Try.underlying146
  a46 := Try.isAgg146
  z46 := Try.sizeOf146
  v46 := Try.zeroValue146
  t50 := Try.underlying131
  a50 := Try.isAgg131
  z50 := Try.sizeOf131
  v50 := Try.zeroValue131
  t53 := Try.underlying152
  a53 := Try.isAgg152
  z53 := Try.sizeOf152
  v53 := Try.zeroValue152
  t55 := Try.underlying30
  a55 := Try.isAgg30
  z55 := Try.sizeOf30
  v55 := Try.zeroValue30
  t66 := Try.underlying163
  a66 := Try.isAgg163
  z66 := Try.sizeOf163
  v66 := Try.zeroValue163
  t70 := Try.underlying167
  a70 := Try.isAgg167
  z70 := Try.sizeOf167
  v70 := Try.zeroValue167
  t76 := Try.underlying172
  a76 := Try.isAgg172
  z76 := Try.sizeOf172
  v76 := Try.zeroValue172
  t77 := Try.underlying173
  a77 := Try.isAgg173
  z77 := Try.sizeOf173
  v77 := Try.zeroValue173 }
end Go.Proofs.Ytleajegppehbdaa
namespace Go.Proofs.Ytleajegppehbdaa
open Go.RowKit Go.Shelf Go.Sort Rt
set_option maxHeartbeats 1000000 in
theorem v_cmpA (cx cy : Array Value) (a b : Int) (ha : cx[14]? = some (.int .u64 a)) (hb : cy[14]? = some (.int .u64 b)) (W : World) :
    Calls Try.prog 52 #[.agg cx, .agg cy] W fun e w' => e = .returned (.int .i64 (Fx.cmp3 a b)) ∧ ∃ q os', w' = grow (W.drewN q) os' := by
  have hcon := fun W' => c_cmp a b W'
  generalize Fx.cmp3 a b = r at hcon ⊢
  go_enter Try.func52, Try.ntmps52
  go_wp2_with (go_at_call 53; refine (hcon _).mono ?_; rintro e w' ⟨rfl, rfl⟩)
  go_ret
  exact ⟨rfl, 0, _, by rw [alloc_eq_grow, alloc_eq_grow, grow_grow]; rfl⟩
instance : Inhabited ItM := ⟨it0⟩
theorem o_sort {w : World} {B cap : Nat} {a : Option Addr} {l : List ItM} (h : Fx.Own w B 106 15 (.slice a l.length cap) l.length (itX l)) (hm : l.length ≤ 1000000) :
    Calls Try.prog 51 #[.slice a l.length cap, .func (.func 52) #[] #[]] w fun e w' => e = .returned (.tuple #[]) ∧ ∃ l' : List ItM, l'.Perm l ∧ l'.Pairwise (fun x y => x.tm ≤ y.tm) ∧ Fx.Own w' B 106 15 (.slice a l.length cap) l.length (itX l') ∧ (∀ k, k < w.heap.size → (Value.slice a l.length cap).ownBlock ≠ some k → w'.heap[k]? = w.heap[k]?) ∧ Fx.ChT [106] w w' ∧ Below B w w' :=
  Fx.sort_agg laysS (fun args w => enters_of Try.func52 (by kernel_rfl) rfl args w) (by decide) Try.isAgg106 Try.sizeOf106 (enc := itY) (e0 := it0) (ky := fun x => x.tm) (fun x j _ => itY_one x j) h
    (fun w1 x y => v_cmpA _ _ _ _ (Fx.varr_get _ (by decide)) (Fx.varr_get _ (by decide)) w1) (by omega)
end Go.Proofs.Ytleajegppehbdaa
namespace Go.Proofs.Ytleajegppehbdaa
open Go.RowKit Rt
open Fx (x_move x_assign x_field x_load1 x_pickF x_pickT x_nil x_conv x_indexS x_index x_leqF x_loadA x_len x_gtrF x_build x_eqlF x_eqlT Lv sN Ln Ws Qv Wl Rp Wc Qs Wr Sb Lk Wk rC rV sR)
namespace Rt
def sinceL (m : LgM) (V : Nat → Int) : Nat → List ItM
  | 0 => []
  | k + 1 => sinceL m V k ++ flt (m.L k) (V k)
theorem sinceL_len (m : LgM) (V : Nat → Int) (k : Nat) : (sinceL m V (k + 1)).length = (sinceL m V k).length + (flt (m.L k) (V k)).length := List.length_append
theorem flt_le (l : List ItM) (s : Int) : (flt l s).length ≤ l.length := List.length_filter_le _ _
theorem sinceL_le {m : LgM} {V : Nat → Int} {T : Nat} (h : ∀ i, i < 6 → (m.L i).length ≤ T) : ∀ k, k ≤ 6 → (sinceL m V k).length ≤ k * T
  | 0, _ => Nat.zero_le _
  | k + 1, hk => by have h1 := sinceL_le (V := V) h k (by omega); have h2 := h k (by omega); have h3 := flt_le (m.L k) (V k); rw [sinceL_len, Nat.add_mul, Nat.one_mul]; omega
theorem itX_left {l1 l2 : List ItM} {j : Nat} (h : j < l1.length * 15) : itX (l1 ++ l2) j = itX l1 j := by
  have h1 : j / 15 < l1.length := Nat.div_lt_of_lt_mul (by rw [Nat.mul_comm]; exact h)
  show itY ((l1 ++ l2).getD (j / 15) it0) _ = itY (l1.getD (j / 15) it0) _
  congr 1
  rw [List.getD_eq_getElem?_getD, List.getD_eq_getElem?_getD, List.getElem?_append_left h1]
theorem itX_right {l1 l2 : List ItM} {j : Nat} (h : l1.length * 15 ≤ j) : itX (l1 ++ l2) j = itX l2 (j - l1.length * 15) := by
  have h1 : l1.length ≤ j / 15 := (Nat.le_div_iff_mul_le (by decide)).2 h
  show itY ((l1 ++ l2).getD (j / 15) it0) _ = itY (l2.getD ((j - l1.length * 15) / 15) it0) ((j - l1.length * 15) % 15)
  rw [show (j - l1.length * 15) / 15 = j / 15 - l1.length by omega, show (j - l1.length * 15) % 15 = j % 15 by omega]
  congr 1
  rw [List.getD_eq_getElem?_getD, List.getD_eq_getElem?_getD, List.getElem?_append_right h1]
theorem since_app {m : LgM} {V : Nat → Int} {k r : Nat} (hp : PlaceR (m.L k) (V k) r) : ∀ j, j < (sinceL m V (k + 1)).length * 15 → Fx.appX (itX (sinceL m V k)) ((sinceL m V k).length * 15) (fun p => itX (m.L k) (r * 15 + p)) j = itX (sinceL m V (k + 1)) j := fun j hj => by
  rw [sinceL_len] at hj
  unfold Fx.appX
  show _ = itX (sinceL m V k ++ flt (m.L k) (V k)) j
  by_cases h : j < (sinceL m V k).length * 15
  · rw [if_pos h, itX_left h]
  · rw [if_neg h, itX_right (by omega)]
    exact flt_x hp _ (by rw [flt_len hp]; omega)
theorem ev_bone (v : EvM) (z : Nat → Value) : ∀ j, j < 1 * 14 → (Fx.ovr z (0 * 14) 14 (evY v) j).oneCell' = true := fun j hj => by
  unfold Fx.ovr; rw [if_pos (by omega)]; exact evY_one v _ (by omega)
theorem ev_next {e : Nat → EvM} {n : Nat} {z : Nat → Value} : ∀ j, j < (n + 1) * 14 → Fx.appX (evX e) (n * 14) (Fx.ovr z (0 * 14) 14 (evY (e n))) j = evX e j := fun j hj =>
  (Fx.app_flat j hj).trans (Fx.flat_cong (fun k _ q _ => by
    unfold Fx.updF
    by_cases e : k = n
    · subst e; rw [if_pos rfl]
    · rw [if_neg e]) j hj)
structure SinceR (m : LgM) (V : Nat → Int) (most : Int) (n : Nat) (l : List ItM) : Prop where
  perm : l.Perm (sinceL m V 6)
  up : l.Pairwise (fun x y => x.tm ≤ y.tm)
  n : n = min most.toNat (sinceL m V 6).length
end Rt
set_option maxRecDepth 10000 in
set_option maxHeartbeats 1000000 in
theorem o_since (V : Nat → Int) (most : Int) (m : LgM) (B p T : Nat) (w : World) (h : LgO w B p m T) (hT : T ≤ 100000) (hs : ∀ i, i < 6 → SeqUp (m.L i)) :
    Calls Try.prog 29 #[.pointer (some ⟨p, 0, none⟩), .agg (Fx.varr 6 (Fx.rv .u64 V)), .int .i64 (most)] w fun e w' => ∃ a n c l', e = .returned (.slice a n c) ∧ Fx.Own w' w.heap.size 50 14 (.slice a n c) n (evX (fun q => (l'.getD q it0).e)) ∧ SinceR m V most n l' ∧ Below w.heap.size w w' := by
 refine Fx.enter Try.func29 rfl (n := 53) rfl (by rfl) ?_
 have hbk := h.blk
 have tp := hbk.lt
 refine Ws (Wl (Fx.L.box (m := 6) (y := Fx.rv .u64 V) (by rfl) rfl rfl (Fx.cells_agg _ _) rfl fun g1 w1 eg1 m1 s1 z1 => ?_))
 have m2 := hbk.stp s1 (Nat.ne_of_lt (hbk.lt))
 have b1 := s1.below (Below.refl w.heap.size w) (Below.refl w.heap.size w).size (Below.refl w.heap.size w).size
 have lg1 : w.heap.size ≤ g1 := by rw [eg1]; exact (Below.refl w.heap.size w).size
 have ng1m2 : p ≠ g1 := by rw [eg1]; exact Nat.ne_of_lt (hbk.lt)
 have tg1 : g1 < w1.heap.size := m1.lt
 clear eg1
 refine Lv (.slice none 0 0) (x_assign rfl rfl) (Ln (sN (Ws (Ws (Wl (Lv (.pointer (some ⟨p, 0, none⟩)) (x_move rfl rfl) (Lv (.bool false) (Fx.x_eqNil rfl rfl rfl (by kernel_rfl)) (Ln (sN (Wc (b := false) rfl (fun h => nomatch h) (fun _ => Wk (sN (Ws (Wl (Lv (.slice none 0 0) (x_assign rfl rfl) (Ln (sN (Ws (Ws (Wl (Lv (.pointer (some ⟨p, 0, none⟩)) (x_move rfl rfl) (Lv (.pointer (some ⟨p, 0, none⟩)) (x_nil rfl rfl) (Lv (.pointer (some ⟨p, 0, none⟩)) (x_field rfl rfl Try.underlying100 rfl (s := 6) (by kernel_rfl) rfl rfl) (Lv (.agg (Fx.varr 6 (lvV m))) (x_loadA (x := lgY m) (y := lvV m) rfl rfl (by kernel_rfl) (by kernel_rfl) m2.cel (i := 0) (by omega) (by omega) (fun j hj => by rw [Nat.zero_add]; exact lgY_v m hj)) (Lv (.int .i64 (0)) (x_move rfl rfl) (Ln (sN (Fx.W.block ?_))))))))))))))))))))))))))))
 have m3 : Fx.Own w1 w.heap.size 106 15 (.slice none 0 0) 0 (itX (sinceL m V 0)) := Fx.Own.nil _ _ _ _ _
 refine Fx.W.loop (fun f w_ => ∃ k : Nat, ∃ aa : Option Addr, ∃ ca : Nat, k ≤ 6 ∧ f 0 = .pointer (some ⟨p, 0, none⟩) ∧ f 2 = .int .i64 (most) ∧ f 4 = .pointer (some ⟨g1, 0, none⟩) ∧ f 6 = .slice none 0 0 ∧ f 7 = .slice aa ((sinceL m V k).length) (ca) ∧ f 17 = .agg (Fx.varr 6 (lvV m)) ∧ f 18 = .int .i64 ((k : Int)) ∧ Fx.Blk w_ p 13 (lgY m) 100 ∧ Fx.Blk w_ g1 6 (Fx.rv .u64 V) 32 ∧ Fx.Own w_ w.heap.size 106 15 (.slice aa ((sinceL m V k).length) (ca)) ((sinceL m V k).length) (itX (sinceL m V k)) ∧ Below w.heap.size w w_) (fun f _ => (6 - (intOf (f 18)).toNat)) ⟨0, none, 0, by omega, (by rfl), (by first | rfl | exact congrArg (Value.int .i64) (by omega)), (by rfl), (by rfl), (by rfl), (by rfl), (by first | rfl | exact congrArg (Value.int .i64) (by omega)), m2, m1, m3, b1⟩ ?_
 rintro f1 w2 ⟨k, aa, ca, hk, h1, h2, h3, h4, h5, h6, h7, m4, m5, m6, b2⟩
 refine Ws (Wl ?_)
 by_cases c19 : (k : Int) < 6
 ·refine Lv (.bool true) (Fx.x_lssT rfl h7 rfl c19) (Ln (sN (Ws (Wc (b := true) rfl (fun _ => Wk (sN (Ws (Fx.W.block (Ws (Wl (Lv (.int .i64 ((k : Int))) (x_move rfl h7) ?_))))))) (fun h => nomatch h)))))
  refine Lv (.slice (m.a k) ((m.L k).length) ((m.c k))) (Fx.x_indexV (j := k) (y := lvV m) rfl h6 h7 Try.underlying98 (by kernel_rfl) (by kernel_rfl) (by omega) (rfl)) (Lv (.int .i64 ((k : Int))) (x_assign rfl rfl) (Lv (.slice (m.a k) ((m.L k).length) ((m.c k))) (x_assign rfl rfl) (Ln (sN ?_))))
  have hk1 := h.len k (by omega)
  have hk2 := sinceL_le (V := V) h.len k (by omega)
  have hk3 : k * T ≤ 6 * 100000 := Nat.mul_le_mul (by omega) hT
  have hk4 := sinceL_len m V k
  have m7 : Fx.Own w2 B 106 15 (.slice (m.a k) ((m.L k).length) ((m.c k))) ((m.L k).length) (itX (m.L k)) := (h.ls.1 k (by omega)).up b2
  refine Wl (Lv (.slice aa ((sinceL m V k).length) (ca)) (x_move rfl h5) (Lv (.slice (m.a k) ((m.L k).length) ((m.c k))) (x_move rfl rfl) (Lv (.slice (m.a k) ((m.L k).length) ((m.c k))) (x_move rfl rfl) (Lv (.int .i64 ((k : Int))) (x_move rfl rfl) (Lv (.pointer (some ⟨g1, k, none⟩)) (x_index rfl h3 rfl Try.underlying32 (s := 1) (by kernel_rfl) (by omega) (by omega) (by omega)) (Lv (.int .u64 (V k)) (x_load1 (x := Fx.rv .u64 V) rfl rfl (by kernel_rfl) m5.cel (i := k) (by omega) (by omega) rfl) (Fx.L.call (by rfl) (rC (args := [.slice (m.a k) ((m.L k).length) ((m.c k)), .int .u64 (V k)]) rfl rfl Try.func49 rfl rfl) rfl ((v_place (m.L k) _ _ (V k) _ (by omega) (hs k (by omega)) (m7.arr)).mono ?_))))))))
  rintro e w3 ⟨r, he, hr, hb1⟩
  refine ⟨_, he, ?_⟩
  clear he
  have s2 := Sb hb1
  have hrl := hr.le
  have m8 := m4.stp s2 (Nat.ne_of_lt (m4.lt))
  have m9 := m5.stp s2 (Nat.ne_of_lt (m5.lt))
  have m10 := m6.stp s2 (m6.notNew (Nat.le_refl _))
  have m11 := m7.stp s2 (m7.notNew (Nat.le_refl _))
  have b3 := s2.below b2 b2.size b2.size
  have hfl := flt_len hr
  refine Lv (.slice (Fx.loA 15 r (m.c k) (m.a k)) ((m.L k).length - r) ((m.c k) - r)) (Fx.x_lo (j := r) (s := 15) rfl rfl rfl Try.underlying97 (by kernel_rfl) (by omega) m11) (Fx.L.appAny (B := w.heap.size) (s := 15) (bytes := 120) (k := (sinceL m V k).length) (m := ((m.L k).length - r)) (v := .slice aa ((sinceL m V k).length) (ca)) (x := itX (sinceL m V k)) (by rfl) rfl rfl rfl Try.underlying97 (by kernel_rfl) (by kernel_rfl) rfl rfl m10 (m11.arrLo (by omega)) (fun j _ => itX_one _ _) (by omega) (by omega) b3.size fun vv1 w4 ho1 hg1 hgv1 => ?_)
  rw [show (sinceL m V k).length + ((m.L k).length - r) = (sinceL m V (k + 1)).length by omega] at ho1
  obtain ⟨a1, cap1, rfl⟩ := ho1.val
  have hct1 := Fx.ChT.of_grown hg1 m10
  have m13 := m8.chT hct1 (by decide)
  have m14 := m9.chT hct1 (by decide)
  have m12 : Fx.Own w4 w.heap.size 106 15 (.slice a1 ((sinceL m V (k + 1)).length) (cap1)) ((sinceL m V (k + 1)).length) (itX (sinceL m V (k + 1))) := (ho1.congr (fun j hj => since_app hr j hj))
  have b4 : Below w.heap.size w w4 := Fx.Below.grow b3 hg1 b3.size (fun q hq => (m10.ge hq).1)
  refine Lv (.slice a1 ((sinceL m V (k + 1)).length) (cap1)) (x_assign rfl rfl) (Ln (Fx.blkN (sN (Wl (Lv (.int .i64 ((k : Int) + 1)) (Fx.x_add rfl h7 rfl (Fx.i64e (by omega) (by omega))) (Lv (.int .i64 ((k : Int) + 1)) (x_move rfl rfl) (Ln ?_)))))))
  skip
  refine Fx.lpN ⟨k + 1, a1, cap1, by omega, h1, (h2.trans (by first | rfl | exact congrArg (Value.int .i64) (by omega))), h3, h4, (by rfl), h6, (by first | rfl | exact congrArg (Value.int .i64) (by omega)), m13, m14, m12, b4⟩ ?_
  show (6 - (intOf ((.int .i64 ((k : Int) + 1)))).toNat) < _
  simp only [h7, intOf]; omega
 refine Lv (.bool false) (Fx.x_lssF rfl h7 rfl c19) (Ln (sN (Ws (Wc (b := false) rfl (fun h => nomatch h) (fun _ => Fx.W.exit (Fx.seqX (Fx.lpX (Fx.blkX (sN (Ws ?_))))))))))
 have e6 : k = 6 := by omega
 subst e6
 have hk2 := sinceL_le (V := V) h.len 6 (by omega)
 have hk3 : 6 * T ≤ 6 * 100000 := Nat.mul_le_mul (by omega) hT
 refine Wl (Lv (.slice aa ((sinceL m V 6).length) (ca)) (x_move rfl h5) (Fx.L.call (by rfl) (rC (args := [.slice aa ((sinceL m V 6).length) (ca), .func (.func 52) #[] #[]]) rfl rfl Try.func51 rfl rfl) rfl ((o_sort m6 (by omega)).mono ?_)))
 rintro e9 w5 ⟨he, l', hpm, hup, m15, _, hct2, hb2⟩
 refine ⟨_, he, ?_⟩
 clear he
 have b5 := b2.trans hb2
 refine Ln (sN (Ws (Ws ?_)))
 obtain ⟨cc, ecc⟩ : ∃ cc : Nat, cc = min most.toNat (sinceL m V 6).length := ⟨_, rfl⟩
 have hcc : cc ≤ (sinceL m V 6).length := by omega
 refine Wl (Lv (.slice aa ((sinceL m V 6).length) (ca)) (x_move rfl h5) (Lv (.int .i64 (most)) (x_move rfl h2) (Lv (.slice aa ((sinceL m V 6).length) (ca)) (x_move rfl h5) (Lv (.int .i64 ((((sinceL m V 6).length : Nat) : Int))) (x_len rfl rfl rfl (by kernel_rfl)) (Lv (.int .i64 (if (((sinceL m V 6).length : Nat) : Int) < most then (((sinceL m V 6).length : Nat) : Int) else most)) (Fx.x_min rfl rfl rfl) (Lv (.int .i64 ((cc : Int))) (Fx.runs_i (Fx.x_max rfl rfl rfl) (by split <;> split at * <;> omega)) (Lv (.slice aa (cc) (ca)) (Fx.x_hi (j := cc) (s := 15) rfl rfl rfl Try.underlying97 (by kernel_rfl) (by omega) m15) (Lv (.int .i64 ((cc : Int))) (x_len rfl rfl rfl (by kernel_rfl)) (Lv (.int .i64 (0)) (x_move rfl rfl) (Ln (sN (Fx.W.block ?_))))))))))))
 have m16 : Fx.Own w5 w.heap.size 50 14 (.slice none 0 0) 0 (evX (fun q => (l'.getD q it0).e)) := Fx.Own.nil _ _ _ _ _
 refine Fx.W.loop (fun f w_ => ∃ i : Nat, ∃ oa : Option Addr, ∃ oc : Nat, i ≤ cc ∧ f 6 = .slice oa (i) (oc) ∧ f 40 = .slice aa (cc) (ca) ∧ f 41 = .int .i64 ((cc : Int)) ∧ f 42 = .int .i64 ((i : Int)) ∧ Fx.Own w_ w.heap.size 106 15 (.slice aa ((sinceL m V 6).length) (ca)) ((sinceL m V 6).length) (itX l') ∧ Fx.Own w_ w.heap.size 50 14 (.slice oa (i) (oc)) i (evX (fun q => (l'.getD q it0).e)) ∧ Below w.heap.size w w_) (fun f _ => (cc - (intOf (f 42)).toNat)) ⟨0, none, 0, by omega, h4, (by rfl), (by first | rfl | exact congrArg (Value.int .i64) (by omega)), (by first | rfl | exact congrArg (Value.int .i64) (by omega)), m15, m16, b5⟩ ?_
 rintro f2 w6 ⟨i, oa, oc, hi, h8, h9, h10, h11, m17, m18, b6⟩
 refine Ws (Wl ?_)
 by_cases c43 : (i : Int) < (cc : Int)
 ·refine Lv (.bool true) (Fx.x_lssT rfl h11 h10 c43) (Ln (sN (Ws (Wc (b := true) rfl (fun _ => Wk (sN (Ws (Fx.W.block (Ws ?_))))) (fun h => nomatch h)))))
  obtain ⟨bq, oq, eq, mq⟩ := (m17.arrLe (j := cc) (by omega)) (by omega)
  have lbq := mq.lt (by omega)
  refine Wl (Lv (.pointer (some ⟨bq, 15 * i + oq, none⟩)) (x_indexS rfl (h9.trans (congrArg (fun q => Value.slice q (cc) (ca)) eq)) h11 Try.underlying97 (s := 15) (by kernel_rfl) (by omega) (by omega) (by omega)) (Lv (.agg (Fx.varr 15 (itY ((l').getD i it0)))) (x_loadA (x := itX l') (y := itY ((l').getD i it0)) rfl rfl (by kernel_rfl) (by kernel_rfl) mq (i := 15 * i) (by omega) (by omega) (fun jq hjq => Fx.flat_at (k := i) (by omega) hjq)) (Fx.L.new (m := 15) (y := fun zq => if zq < 1 then .int .i64 (0) else if zq < 8 then .int .u64 (0) else if zq < 9 then .int .u8 (0) else if zq < 10 then .int .u64 (0) else if zq < 12 then .int .i64 (0) else .int .u64 (0)) (by rfl) rfl (by kernel_rfl) rfl fun g2 w7 eg2 m19 s3 z2 => ?_)))
  have m20 := m17.stp s3 (m17.notNew (Nat.le_refl _))
  have m21 := m18.stp s3 (m18.notNew (Nat.le_refl _))
  have m22 := mq.stp s3 (Nat.ne_of_lt (mq.lt (by omega)))
  have b7 := s3.below b6 b6.size b6.size
  have lg2 : w.heap.size ≤ g2 := by rw [eg2]; exact b6.size
  have ng2m20 : (.slice aa ((sinceL m V 6).length) (ca) : Value).ownBlock ≠ some g2 := by rw [eg2]; exact m17.notNew (Nat.le_refl _)
  have ng2m22 : bq ≠ g2 := by rw [eg2]; exact Nat.ne_of_lt (mq.lt (by omega))
  have tg2 : g2 < w7.heap.size := m19.lt
  clear eg2
  refine Fx.L.storeA (x := fun zq => if zq < 1 then .int .i64 (0) else if zq < 8 then .int .u64 (0) else if zq < 9 then .int .u8 (0) else if zq < 10 then .int .u64 (0) else if zq < 12 then .int .i64 (0) else .int .u64 (0)) (y := itY ((l').getD i it0)) (by rfl) rfl rfl rfl rfl (fun j _ => itY_one _ j) (by kernel_rfl) m19 (i := 0) (by omega) fun w8 m23 s4 z3 => ?_
  have m24 : Fx.Blk w8 g2 15 (itY ((l').getD i it0)) 106 := Fx.ovr_all m23
  have m25 := m20.stp s4 ng2m20
  have hct3 := Fx.ChT.of_stp s4 m19.ty
  have m26 := m21.chT hct3 (by decide)
  have m27 := m22.stp s4 (by omega)
  have b8 := s4.below b7 b7.size (by omega)
  refine Ln (sN (Wl (Lv (.slice oa (i) (oc)) (x_move rfl h8) (Lv (.pointer (some ⟨g2, 0, none⟩)) (x_field rfl rfl Try.underlying106 rfl (s := 14) (by kernel_rfl) rfl rfl) (Lv (.agg (Fx.varr 14 (evY ((l').getD i it0).e))) (x_loadA (x := itY ((l').getD i it0)) (y := evY ((l').getD i it0).e) rfl rfl (by kernel_rfl) (by kernel_rfl) m24.cel (i := 0) (by omega) (by omega) (fun j hj => by rw [Nat.zero_add]; exact itY_ev _ hj rfl)) (Fx.L.bslice (vs := [(0, .agg (Fx.varr 14 (evY ((l').getD i it0).e)))]) (s := 14) (zc := fun zq => if zq < 1 then .int .i64 (0) else if zq < 8 then .int .u64 (0) else if zq < 9 then .int .u8 (0) else if zq < 10 then .int .u64 (0) else if zq < 12 then .int .i64 (0) else .int .u64 (0)) (y := Fx.ovr (fun j => (fun zq => if zq < 1 then .int .i64 (0) else if zq < 8 then .int .u64 (0) else if zq < 9 then .int .u8 (0) else if zq < 10 then .int .u64 (0) else if zq < 12 then .int .i64 (0) else .int .u64 (0)) (j % 14)) (0 * 14) 14 (evY ((l').getD i it0).e)) (by rfl) rfl rfl Try.underlying46 (by kernel_rfl) (by rfl) (by rfl) (by kernel_rfl) (by rw [Fx.fill_step (off := 0 * 14) (s := 14) (y := evY ((l').getD i it0).e) rfl (Fx.cells_agg _ _) (by rfl)]; rfl) rfl fun g3 w9 eg3 m28 s5 z4 => ?_))))))
  have m29 := m25.stp s5 (m25.notNew (Nat.le_refl _))
  have m30 := m26.stp s5 (m26.notNew (Nat.le_refl _))
  have b9 := s5.below b8 b8.size b8.size
  have lg3 : w.heap.size ≤ g3 := by rw [eg3]; exact b8.size
  have ng3m30 : (.slice oa (i) (oc) : Value).ownBlock ≠ some g3 := by rw [eg3]; exact m26.notNew (Nat.le_refl _)
  have ng3m31 : g2 ≠ g3 := by rw [eg3]; exact Nat.ne_of_lt (m24.lt)
  have tg3 : g3 < w9.heap.size := m28.lt
  clear eg3
  refine Fx.L.app (B := w.heap.size) (s := 14) (bytes := 112) (k := i) (m := 1) (v := .slice oa (i) (oc)) (x := evX (fun q => (l'.getD q it0).e)) (by rfl) rfl rfl rfl Try.underlying46 (by kernel_rfl) (by kernel_rfl) rfl rfl m30 m28.cel (ev_bone _ _) (by omega) (by omega) (by omega) b9.size fun g4 cap2 w10 ho2 hg2 hgv2 hlt1 => ?_
  have hct4 := Fx.ChT.of_grown hg2 m30
  have m33 := m29.chT hct4 (by decide)
  have m32 : Fx.Own w10 w.heap.size 50 14 (.slice (some ⟨g4, 0, none⟩) (i + 1) cap2) (i + 1) (evX (fun q => (l'.getD q it0).e)) := (ho2.congr (fun j hj => ev_next j hj))
  have b10 : Below w.heap.size w w10 := Fx.Below.grow b9 hg2 b9.size (fun q hq => (m30.ge hq).1)
  refine Lv (.slice (some ⟨g4, 0, none⟩) (i + 1) (cap2)) (x_assign rfl rfl) (Ln (Fx.blkN (sN (Wl (Lv (.int .i64 ((i : Int) + 1)) (Fx.x_add rfl h11 rfl (Fx.i64e (by omega) (by omega))) (Lv (.int .i64 ((i : Int) + 1)) (x_move rfl rfl) (Ln ?_)))))))
  skip
  refine Fx.lpN ⟨i + 1, (some ⟨g4, 0, none⟩), cap2, by omega, (by rfl), h9, (h10.trans (by first | rfl | exact congrArg (Value.int .i64) (by omega))), (by first | rfl | exact congrArg (Value.int .i64) (by omega)), m33, m32, b10⟩ ?_
  show (cc - (intOf ((.int .i64 ((i : Int) + 1)))).toNat) < _
  simp only [h11, intOf]; omega
 refine Lv (.bool false) (Fx.x_lssF rfl h11 h10 c43) (Ln (sN (Ws (Wc (b := false) rfl (fun h => nomatch h) (fun _ => Fx.W.exit (Fx.seqX (Fx.lpX (Fx.blkX (sN (Ws (Wl (Lv (.slice oa (i) (oc)) (x_move rfl h8) (Lv (.slice oa (i) (oc)) (x_assign rfl rfl) (Ln (sN (Wr (⟨.slice oa (i) (oc), rV Try.results29 (by exact rfl), ?_⟩)))))))))))))))))
 have ei : i = cc := by omega
 subst ei
 exact ⟨_, _, _, l', rfl, m18, ⟨hpm, hup, ecc⟩, b6⟩
section
namespace Rt
def keepB (V : Nat → Int) (x : ItM) : Bool := decide (V (regN x.e) < x.e.seq)
def ofB2 (i : Nat) (x : ItM) : Bool := decide (regN x.e = i)
structure Gs (m : LgM) (G : List ItM) : Prop where
  L : ∀ i, i < 6 → m.L i = G.filter (ofB2 i)
  tm : G.Pairwise (fun x y => x.tm < y.tm)
  tb : ∀ x ∈ G, x.tm < m.cnt
  may : ∀ x ∈ G, mayE x.e = true
  wf : ∀ x ∈ G, EvWf x.e
  seq : G.Pairwise (fun x y => regN x.e = regN y.e → x.e.seq < y.e.seq)
  kn : ∀ x ∈ G, x.e.seq ≤ m.K (regN x.e)
  kok : KnOk m.K
theorem Gs.new : Gs newL [] := ⟨fun _ _ => rfl, List.Pairwise.nil, fun _ h => (by cases h), fun _ h => (by cases h), fun _ h => (by cases h), List.Pairwise.nil, fun _ h => (by cases h), fun _ _ => ⟨Int.le_refl _, by show (0 : Int) < _; decide⟩⟩
theorem regN_may {v : EvM} (h : mayE v = true) : regN v < 6 ∧ v.o = (regN v : Int) + 1 := by
  obtain ⟨a, ha, ea⟩ := regE_nat (may_reg h)
  unfold regN
  omega
section
variable {m m' : LgM} {G : List ItM} {v : EvM} {V : Nat → Int}
theorem Gs.seqUp (h : Gs m G) : ∀ i, i < 6 → SeqUp (m.L i) := fun i hi q r hqr hr => by
  rw [h.L i hi] at hr ⊢
  have h1 := List.pairwise_iff_getElem.1 (h.seq.filter (ofB2 i)) q r (by omega) hr hqr
  have hm : ∀ k, (hk : k < (G.filter (ofB2 i)).length) → regN ((G.filter (ofB2 i))[k]).e = i := fun k hk => by
    have := (List.mem_filter.1 (List.getElem_mem hk)).2
    exact of_decide_eq_true this
  have h2 := h1 ((hm q (by omega)).trans (hm r hr).symm)
  rw [List.getD_eq_getElem?_getD, List.getD_eq_getElem?_getD, List.getElem?_eq_getElem (by omega), List.getElem?_eq_getElem hr]
  exact h2
theorem addG_ok (h : addG m v = 0) : mayE v = true ∧ readyE m.K v = true := by
  unfold addG at h
  cases h1 : mayE v with
  | false => rw [h1] at h; simp at h
  | true =>
    rw [h1] at h
    cases h2 : lateE m.K v with
    | true => rw [h2] at h; simp at h
    | false =>
      rw [h2] at h
      cases h3 : readyE m.K v with
      | false => rw [h3] at h; simp at h
      | true => exact ⟨rfl, rfl⟩
theorem ready_seq {K : Nat → Int} (h : readyE K v = true) : v.seq = K (regN v) + 1 ∧ ∀ i, i < 6 → v.deps i ≤ K i := by
  unfold readyE at h
  simp only [Bool.and_eq_true, decide_eq_true_eq] at h
  refine ⟨h.1.2, fun i hi => ?_⟩
  have := h.2
  unfold leAll at this
  rw [List.all_eq_true] at this
  exact of_decide_eq_true (this i (List.mem_range.2 hi))
theorem Gs.add (h : Gs m G) (ha : addG m v = 0) (hr : AddR m m' v) (hv : EvWf v) : Gs m' (G ++ [⟨v, m.cnt⟩]) := by
  obtain ⟨hm, hy⟩ := addG_ok ha
  obtain ⟨e1, e2, e3⟩ := hr
  obtain ⟨hs, _⟩ := ready_seq hy
  obtain ⟨hr6, _⟩ := regN_may hm
  have hsb := may_seq hm
  refine ⟨fun i hi => ?_, ?_, fun x hx => ?_, fun x hx => ?_, fun x hx => ?_, ?_, fun x hx => ?_, fun i hi => ?_⟩
  · rw [e3, List.filter_append]
    unfold updA
    by_cases e : i = regN v
    · subst e
      rw [if_pos rfl, h.L _ hi]
      simp [ofB2]
    rw [if_neg e, h.L _ hi]
    simp [ofB2, Ne.symm e]
  · rw [List.pairwise_append]
    refine ⟨h.tm, List.pairwise_singleton _ _, fun x hx y hy => ?_⟩
    rw [List.mem_singleton.1 hy]
    exact h.tb x hx
  · rw [e2]
    rcases List.mem_append.1 hx with h1 | h1
    · have := h.tb x h1; omega
    rw [List.mem_singleton.1 h1]; show m.cnt < _; omega
  · rcases List.mem_append.1 hx with h1 | h1
    · exact h.may x h1
    rw [List.mem_singleton.1 h1]; exact hm
  · rcases List.mem_append.1 hx with h1 | h1
    · exact h.wf x h1
    rw [List.mem_singleton.1 h1]; exact hv
  · rw [List.pairwise_append]
    refine ⟨h.seq, List.pairwise_singleton _ _, fun x hx y hy e => ?_⟩
    rw [List.mem_singleton.1 hy] at e ⊢
    have h1 := h.kn x hx
    show x.e.seq < v.seq
    have e : regN x.e = regN v := e
    rw [e] at h1
    omega
  · rw [e1]
    rcases List.mem_append.1 hx with h1 | h1
    · have h2 := h.kn x h1
      unfold upd
      split
      · rename_i e; rw [e] at h2; omega
      exact h2
    rw [List.mem_singleton.1 h1]
    show v.seq ≤ upd m.K (regN v) v.seq (regN v)
    unfold upd; rw [if_pos rfl]; exact Int.le_refl _
  rw [e1]
  unfold upd
  split
  · omega
  exact h.kok i hi
def catR (G : List ItM) : Nat → List ItM
  | 0 => []
  | k + 1 => catR G k ++ G.filter (ofB2 k)
theorem cat_perm (G : List ItM) : ∀ k, (catR G k).Perm (G.filter fun x => decide (regN x.e < k))
  | 0 => by simp [catR]
  | k + 1 => by
    have h1 := cat_perm G k
    have h2 := List.filter_append_perm (fun x => decide (regN x.e < k)) (G.filter fun x => decide (regN x.e < k + 1))
    rw [List.filter_filter, List.filter_filter] at h2
    have e1 : (G.filter fun x => decide (regN x.e < k) && decide (regN x.e < k + 1)) = G.filter fun x => decide (regN x.e < k) := by
      apply List.filter_congr; intro x _
      rw [Bool.eq_iff_iff]; simp; omega
    have e2 : (G.filter fun x => (!decide (regN x.e < k)) && decide (regN x.e < k + 1)) = G.filter (ofB2 k) := by
      apply List.filter_congr; intro x _
      unfold ofB2
      rw [Bool.eq_iff_iff]; simp; omega
    rw [e1, e2] at h2
    exact (h1.append_right _).trans h2
theorem cat_all (h : ∀ x ∈ G, regN x.e < 6) : (catR G 6).Perm G := by
  refine (cat_perm G 6).trans (List.Perm.of_eq ?_)
  rw [List.filter_eq_self]
  intro x hx
  exact decide_eq_true (h x hx)
theorem Gs.reg (h : Gs m G) : ∀ x ∈ G, regN x.e < 6 := fun x hx => (regN_may (h.may x hx)).1
theorem Gs.flt (h : Gs m G) (V : Nat → Int) {i : Nat} (hi : i < 6) : flt (m.L i) (V i) = (G.filter (keepB V)).filter (ofB2 i) := by
  unfold Rt.flt
  rw [h.L i hi, List.filter_filter, List.filter_filter]
  apply List.filter_congr
  intro x _
  unfold ofB2 keepB
  rw [Bool.eq_iff_iff]
  simp only [Bool.and_eq_true, decide_eq_true_eq]
  constructor
  · rintro ⟨a, b⟩; exact ⟨b, by rw [b]; exact a⟩
  rintro ⟨a, b⟩; exact ⟨by rw [a] at b; exact b, a⟩
theorem Gs.sinceL (h : Gs m G) (V : Nat → Int) : ∀ k, k ≤ 6 → sinceL m V k = catR (G.filter (keepB V)) k
  | 0, _ => rfl
  | k + 1, hk => by
    show Rt.sinceL m V k ++ Rt.flt (m.L k) (V k) = _
    rw [h.sinceL V k (by omega), h.flt V (by omega)]; rfl
theorem Gs.since (h : Gs m G) {most : Int} {n : Nat} {l' : List ItM} (hs : SinceR m V most n l') : l' = G.filter (keepB V) ∧ n = min most.toNat (G.filter (keepB V)).length := by
  have h1 : (Rt.sinceL m V 6).Perm (G.filter (keepB V)) := by
    rw [h.sinceL V 6 (by omega)]
    exact cat_all fun x hx => h.reg x (List.mem_filter.1 hx).1
  have hp := hs.perm.trans h1
  refine ⟨?_, by rw [hs.n, h1.length_eq]⟩
  have ht := h.tm.filter (keepB V)
  refine List.Perm.eq_of_pairwise (le := fun x y : ItM => x.tm ≤ y.tm) (fun a b ha hb h2 h3 => ?_) hs.up (ht.imp fun h => Int.le_of_lt h) hp
  have ha := hp.subset ha
  obtain ⟨i, hi, ei⟩ := List.mem_iff_getElem.1 ha
  obtain ⟨j, hj, ej⟩ := List.mem_iff_getElem.1 hb
  rcases Nat.lt_trichotomy i j with h4 | h4 | h4
  · have := List.pairwise_iff_getElem.1 ht i j hi hj h4
    rw [ei, ej] at this; omega
  · subst h4; rw [← ei, ← ej]
  have := List.pairwise_iff_getElem.1 ht j i hj hi h4
  rw [ei, ej] at this; omega
theorem Gs.lens (h : Gs m G) : ∀ k, k ≤ 6 → lenN m k = (catR G k).length
  | 0, _ => rfl
  | k + 1, hk => by
    show lenN m k + (m.L k).length = (catR G k ++ _).length
    rw [h.lens k (by omega), List.length_append, h.L k (by omega)]
theorem Gs.len (h : Gs m G) : lenN m 6 = G.length := by rw [h.lens 6 (by omega)]; exact (cat_all h.reg).length_eq
theorem Gs.get (h : Gs m G) {i q : Int} {b : Bool} (hg : GetR m i q v b) : (b = true ∧ ∃ x ∈ G, x.e = v ∧ v.o = i ∧ v.seq = q) ∨ (b = false ∧ v = zeroE ∧ ∀ x ∈ G, ¬ (x.e.o = i ∧ x.e.seq = q)) := by
  rcases hg with ⟨hb, hr, r, hlt, hv, hs⟩ | ⟨hb, hv, hn⟩
  · obtain ⟨a, ha, ea⟩ := regE_nat hr
    have e : (i - 1).toNat = a := by omega
    rw [e] at hlt hv
    refine .inl ⟨hb, (m.L a).getD r it0, ?_, hv.symm, ?_, hs⟩
    · have h1 : (m.L a).getD r it0 ∈ m.L a := by rw [List.getD_eq_getElem?_getD, List.getElem?_eq_getElem hlt]; exact List.getElem_mem hlt
      rw [h.L a ha] at h1 ⊢
      exact (List.mem_filter.1 h1).1
    have h1 : (m.L a).getD r it0 ∈ m.L a := by rw [List.getD_eq_getElem?_getD, List.getElem?_eq_getElem hlt]; exact List.getElem_mem hlt
    rw [h.L a ha] at h1
    have h2 := List.mem_filter.1 h1
    rw [← h.L a ha] at h2
    have h3 := regN_may (h.may _ h2.1)
    have h4 : regN ((m.L a).getD r it0).e = a := of_decide_eq_true h2.2
    rw [hv]; omega
  refine .inr ⟨hb, hv, fun x hx ⟨e1, e2⟩ => ?_⟩
  have h3 := regN_may (h.may x hx)
  have h5 := may_seq (h.may x hx)
  rcases hn with h1 | h1 | h1
  · have := may_reg (h.may x hx); rw [e1, h1] at this; cases this
  · omega
  have e : (i - 1).toNat = regN x.e := by omega
  rw [e] at h1
  have h6 : x ∈ m.L (regN x.e) := by rw [h.L _ h3.1]; exact List.mem_filter.2 ⟨hx, decide_eq_true rfl⟩
  obtain ⟨r, hr, er⟩ := List.mem_iff_getElem.1 h6
  refine h1 r hr ?_
  rw [List.getD_eq_getElem?_getD, List.getElem?_eq_getElem hr, er]; exact e2
theorem Gs.uniq (h : Gs m G) {x y : ItM} (hx : x ∈ G) (hy : y ∈ G) (e1 : x.e.o = y.e.o) (e2 : x.e.seq = y.e.seq) : x = y := by
  obtain ⟨i, hi, ei⟩ := List.mem_iff_getElem.1 hx
  obtain ⟨j, hj, ej⟩ := List.mem_iff_getElem.1 hy
  have er : regN x.e = regN y.e := by unfold regN; rw [e1]
  rcases Nat.lt_trichotomy i j with h4 | h4 | h4
  · have := List.pairwise_iff_getElem.1 h.seq i j hi hj h4
    rw [ei, ej] at this; have := this er; omega
  · subst h4; rw [← ei, ← ej]
  have := List.pairwise_iff_getElem.1 h.seq j i hj hi h4
  rw [ei, ej] at this; have := this er.symm; omega
end
end Rt
end
section
namespace Rt
structure RlM where
  a : Option Addr
  c : Nat
  R : List EvM
  K : Nat → Int
def evL (R : List EvM) : Nat → Value := Fx.flat 14 fun q => evY (R.getD q zeroE)
def rlY (r : RlM) : Nat → Value := fun p => if p = 0 then .slice r.a r.R.length r.c else .int .u64 (r.K (p - 1))
theorem rlY_K (r : RlM) {p k : Nat} (e : p = k + 1) : rlY r p = .int .u64 (r.K k) := by subst e; unfold rlY; rw [if_neg (by omega), Nat.add_sub_cancel]
theorem rlY_put (r : RlM) (a : Option Addr) (n c : Nat) (R : List EvM) (h : n = R.length) : Fx.updV (rlY r) 0 (.slice a n c) = rlY { r with a := a, c := c, R := R } := by
  subst h; funext p; unfold Fx.updV rlY; split <;> rfl
theorem rlY_known (r : RlM) {i q : Nat} (hq : q = i + 1) (x : Int) : Fx.updV (rlY r) q (.int .u64 x) = rlY { r with K := upd r.K i x } := by
  subst hq
  funext p
  unfold Fx.updV rlY
  by_cases h : p = i + 1
  · subst h; rw [if_pos rfl, if_neg (by omega), Nat.add_sub_cancel]; simp [upd]
  rw [if_neg h]
  by_cases h2 : p = 0
  · rw [if_pos h2, if_pos h2]
  rw [if_neg h2, if_neg h2]; simp [upd, show ¬ p - 1 = i by omega]
structure RlO (w : World) (B q : Nat) (r : RlM) (T : Nat) : Prop where
  blk : Fx.Blk w q 7 (rlY r) 48
  own : Fx.Own w B 50 14 (.slice r.a r.R.length r.c) r.R.length (evL r.R)
  gp : B ≤ q
  len : r.R.length ≤ T
  may : ∀ v ∈ r.R, mayE v = true
  wf : ∀ v ∈ r.R, EvWf v
  kok : KnOk r.K
def rlS (q : Nat) (r : RlM) (k : Nat) : Prop := k = q ∨ (Value.slice r.a r.R.length r.c).ownBlock = some k
section
variable {w w' : World} {B q T : Nat} {r : RlM}
theorem RlO.up (h : RlO w B q r T) (hb : Below w.heap.size w w') : RlO w' B q r T := { h with blk := h.blk.stp (Sb hb) (Nat.ne_of_lt h.blk.lt), own := h.own.up hb }
theorem RlO.chT {Ts : List TypeId} (h : RlO w B q r T) (hs : Fx.ChT Ts w w') (h1 : Ts.contains 50 = false ∧ Ts.contains 48 = false) : RlO w' B q r T := { h with blk := h.blk.chT hs h1.2, own := h.own.chT hs h1.1 }
theorem RlO.mono {T' : Nat} (h : RlO w B q r T) (hT : T ≤ T') : RlO w B q r T' := { h with len := Nat.le_trans h.len hT }
theorem RlO.ge (h : RlO w B q r T) : ∀ k, rlS q r k → B ≤ k ∧ k < w.heap.size := fun k hk => by
  rcases hk with rfl | e
  · exact ⟨h.gp, h.blk.lt⟩
  · exact h.own.ge e
theorem RlO.chm (h : RlO w B q r T) (hs : Fx.Chg (rlS q r) w w') : Fx.ChT [50, 48] w w' := Fx.ChT.of_chg hs fun k hk => by
  rcases hk with rfl | e
  · exact ⟨_, h.blk.ty, by decide⟩
  · exact ⟨_, h.own.ty e, by decide⟩
theorem RlO.below (h : RlO w B q r T) (hB : B ≤ w.heap.size) (hs : Fx.Chg (rlS q r) w w') : Below B w w' := Fx.Chg.below (Below.refl B w) hs (fun k hk => (h.ge k hk).1) hB
end
def SepR (w : World) (q : Nat) (r r' : RlM) : Prop := ∀ k, rlS q r' k → rlS q r k ∨ w.heap.size ≤ k
theorem SepR.add {w w3 : World} {q g : Nat} {r r' : RlM} (hgv : (Value.slice r.a r.R.length r.c).ownBlock = some g ∨ g = w3.heap.size) (hs : w.heap.size ≤ w3.heap.size) (h4 : (Value.slice r'.a r'.R.length r'.c).ownBlock = some g := by rfl) : SepR w q r r' := fun k hk => by
  rcases hk with h | h
  · exact .inl (.inl h)
  · have e : g = k := Option.some.inj (h4.symm.trans h)
    rcases hgv with h5 | h5
    · exact .inl (.inr (e ▸ h5))
    · exact .inr (by omega)
def addK (K : Nat → Int) (v : EvM) : Int := if mayE v = false then 1 else if lateE K v = true then 14 else if readyE K v = false then 13 else 0
theorem addG_K (m : LgM) (v : EvM) : addG m v = addK m.K v := rfl
def keepE (V : Nat → Int) (v : EvM) : Bool := decide (V (regN v) < v.seq)
theorem evL_app {R : List EvM} {v : EvM} {z : Nat → Value} : ∀ j, j < (R.length + 1) * 14 → Fx.appX (evL R) (R.length * 14) (Fx.ovr z (0 * 14) 14 (evY v)) j = evL (R ++ [v]) j := fun j hj =>
  (Fx.app_flat j hj).trans (Fx.flat_cong (fun k hk q hq => by
    unfold Fx.updF
    by_cases e : k = R.length
    · subst e; rw [if_pos rfl]; simp
    · rw [if_neg e]; simp [List.getElem?_append_left (show k < R.length by omega)]) j hj)
theorem getD_mem {R : List EvM} {k : Nat} (h : k < R.length) : R.getD k zeroE ∈ R := by rw [List.getD_eq_getElem?_getD, List.getElem?_eq_getElem h]; exact List.getElem_mem h
theorem take_next {R : List EvM} {k : Nat} (h : k < R.length) : R.take (k + 1) = R.take k ++ [R.getD k zeroE] := by
  rw [List.take_add_one, List.getD_eq_getElem?_getD, List.getElem?_eq_getElem h]; rfl
theorem keep_yes {R X : List EvM} {V : Nat → Int} {k a : Nat} (hX : X = (R.take k).filter (keepE V)) (h : k < R.length) (ha : regN (R.getD k zeroE) = a) (hc : V a < (R.getD k zeroE).seq) : X ++ [R.getD k zeroE] = (R.take (k + 1)).filter (keepE V) := by
  rw [take_next h, List.filter_append, ← hX]
  congr 1
  rw [List.filter_cons, if_pos (by unfold keepE; rw [ha]; exact decide_eq_true hc)]; rfl
theorem keep_no {R X : List EvM} {V : Nat → Int} {k a : Nat} (hX : X = (R.take k).filter (keepE V)) (h : k < R.length) (ha : regN (R.getD k zeroE) = a) (hc : ¬ V a < (R.getD k zeroE).seq) : X = (R.take (k + 1)).filter (keepE V) := by
  rw [take_next h, List.filter_append, ← hX]
  rw [List.filter_cons, if_neg (by unfold keepE; rw [ha]; simpa using hc)]; simp
theorem keep_take {R X : List EvM} {V : Nat → Int} {k n : Nat} (hX : X = (R.take k).filter (keepE V)) (hn : X.length ≤ n) (he : k = R.length ∨ X.length = n) (_hk : k ≤ R.length) : X = (R.filter (keepE V)).take n := by
  have e : R = R.take k ++ R.drop k := (List.take_append_drop k R).symm
  have e2 : R.filter (keepE V) = X ++ (R.drop k).filter (keepE V) := by conv => lhs; rw [e, List.filter_append, ← hX]
  rw [e2, List.take_append]
  rcases he with h | h
  · rw [show R.drop k = [] from List.drop_eq_nil_of_le (by omega), List.take_of_length_le hn]; simp
  rw [List.take_of_length_le hn, h, Nat.sub_self, List.take_zero, List.append_nil]
def RGetR (R : List EvM) (i q : Int) (v : EvM) (b : Bool) : Prop := (b = true ∧ v ∈ R ∧ v.o = i ∧ v.seq = q) ∨ (b = false ∧ v = zeroE ∧ ∀ u ∈ R, ¬ (u.o = i ∧ u.seq = q))
end Rt
open Rt
set_option maxRecDepth 10000 in
set_option maxHeartbeats 1000000 in
theorem r16_add (v : EvM) (r : RlM) (B q T : Nat) (w : World) (h : RlO w B q r T) (hB : B ≤ w.heap.size) (hT : T ≤ 900000) (hv : EvWf v) :
    Calls Try.prog 20 #[.pointer (some ⟨q, 0, none⟩), .agg (Fx.varr 14 (evY v))] w fun e w' => e = .returned (.int .i64 (addK r.K v)) ∧ Fx.Chg (rlS q r) w w' ∧ (addK r.K v = 0 → ∃ r', RlO w' B q r' (T + 1) ∧ r'.R = r.R ++ [v] ∧ r'.K = upd r.K (regN v) v.seq ∧ SepR w q r r') ∧ (addK r.K v ≠ 0 → RlO w' B q r T) := by
 refine Fx.enter Try.func20 rfl (n := 43) rfl (by rfl) ?_
 have hbk := h.blk
 have tq := hbk.lt
 have how := h.own
 have hln := h.len
 have hgq := h.gp
 refine Ws (Wl (Fx.L.box (m := 14) (y := evY v) (by rfl) rfl rfl (Fx.cells_agg _ _) rfl fun g1 w1 eg1 m1 s1 z1 => ?_))
 have m2 := hbk.stp s1 (Nat.ne_of_lt (hbk.lt))
 have m3 := how.stp s1 (how.notNew (Nat.le_refl _))
 have b1 := (Fx.Chg.refl (rlS q r) w).then s1 (.inr (Fx.Chg.refl (rlS q r) w).size)
 have lg1 : w.heap.size ≤ g1 := by rw [eg1]; exact (Fx.Chg.refl (rlS q r) w).size
 have ng1m2 : q ≠ g1 := by rw [eg1]; exact Nat.ne_of_lt (hbk.lt)
 have ng1m3 : (.slice r.a (r.R.length) (r.c) : Value).ownBlock ≠ some g1 := by rw [eg1]; exact how.notNew (Nat.le_refl _)
 have tg1 : g1 < w1.heap.size := m1.lt
 clear eg1
 refine Lv (.int .i64 (0)) (x_assign rfl rfl) (Ln (sN (Ws (Ws (Wl (Lv (.agg (Fx.varr 14 (evY v))) (x_loadA (x := evY v) (y := evY v) rfl rfl (by kernel_rfl) (by kernel_rfl) m1.cel (i := 0) (by omega) (by omega) (fun j _ => by rw [Nat.zero_add])) ?_))))))
 by_cases c6 : (mayE v) = true
 ·obtain ⟨a, ha, ea⟩ := regE_nat (may_reg c6)
  refine Fx.L.call (by rfl) (rC (args := [.agg (Fx.varr 14 (evY v))]) rfl rfl Try.func45 rfl rfl) rfl ((e_may v _ hv).mono ?_)
  rintro e w2 ⟨he, hb1⟩
  refine ⟨.bool true, by rw [he, c6], ?_⟩
  clear he
  have s2 := Sb hb1
  have m4 := m2.stp s2 (Nat.ne_of_lt (m2.lt))
  have m5 := m3.stp s2 (m3.notNew (Nat.le_refl _))
  have m6 := m1.stp s2 (Nat.ne_of_lt (m1.lt))
  have b2 := b1.then s2 (.inr b1.size)
  refine Lv (.bool false) (Fx.x_notF rfl rfl) (Ln (sN (Wc (b := false) rfl (fun h => nomatch h) (fun _ => Wk (sN (Ws (Ws ?_)))))))
  -- region 3 draws
  refine Fx.W.quiet (fun v1 => Below w2.heap.size w2 v1) (by kernel_rfl) (by kernel_rfl) (Below.refl _ _).drew ?_
  refine Qv (.pointer (some ⟨q, 0, none⟩)) (fun v1 hv1 => x_move rfl rfl) (Qv (.pointer (some ⟨q, 0, none⟩)) (fun v1 hv1 => x_nil rfl rfl) (Qv (.pointer (some ⟨q, 1, none⟩)) (fun v1 hv1 => x_field rfl rfl Try.underlying48 rfl (s := 6) (by kernel_rfl) rfl (by show _ + 1 = _; omega)) (Qv (.agg (Fx.varr 6 (Fx.rv .u64 r.K))) (fun v1 hv1 => x_loadA (x := rlY r) (y := Fx.rv .u64 r.K) rfl rfl (by kernel_rfl) (by kernel_rfl) (m4.cel.below hv1 (by have := m4.lt; omega)) (i := 1) (by omega) (by omega) (fun j hj => rlY_K _ (by omega))) (Qv (.agg (Fx.varr 14 (evY v))) (fun v1 hv1 => x_loadA (x := evY v) (y := evY v) rfl rfl (by kernel_rfl) (by kernel_rfl) (m6.cel.below hv1 (by have := m6.lt; omega)) (i := 0) (by omega) (by omega) (fun j _ => by rw [Nat.zero_add])) ?_))))
  by_cases c13 : (lateE r.K v) = true
  ·refine Fx.Qt.call (v := .bool true) (by rfl) (fun v1 hv1 => rC (args := [.agg (Fx.varr 6 (Fx.rv .u64 r.K)), .agg (Fx.varr 14 (evY v))]) rfl rfl Try.func46 rfl rfl) rfl (fun v1 hv1 => (e_late r.K v _ hv).mono fun e v2 h => ⟨by rw [h.1, c13], bch hv1 h.2⟩) ?_
   refine Fx.Qt.nil ?_
   intro wb1 hbwb1
   have s3 : Fx.Stp w2.heap.size w2 wb1 := Sb hbwb1
   have m7 := m4.stp s3 (Nat.ne_of_lt (m4.lt))
   have m8 := m5.stp s3 (m5.notNew (Nat.le_refl _))
   have b3 := b2.then s3 (.inr b2.size)
   refine sN (Wc (b := true) rfl (fun _ => Ws (Wl (Lv (.int .i64 (14)) (x_assign rfl rfl) ?_))) (fun h => nomatch h))
   refine Ln (sN (Wr (sR (⟨.int .i64 (14), rV Try.results20 (by exact rfl), ?_⟩))))
   have ee : addK r.K v = 14 := by unfold addK; rw [if_neg (show ¬ mayE v = false by rw [c6]; decide), if_pos c13]
   exact ⟨by rw [ee], b3, fun h0 => (by rw [ee] at h0; cases h0), fun _ => ⟨m7, m8, hgq, h.len, h.may, h.wf, h.kok⟩⟩
  rw [Bool.not_eq_true] at c13
  refine Fx.Qt.call (v := .bool false) (by rfl) (fun v1 hv1 => rC (args := [.agg (Fx.varr 6 (Fx.rv .u64 r.K)), .agg (Fx.varr 14 (evY v))]) rfl rfl Try.func46 rfl rfl) rfl (fun v1 hv1 => (e_late r.K v _ hv).mono fun e v2 h => ⟨by rw [h.1, c13], bch hv1 h.2⟩) ?_
  refine Fx.Qt.nil ?_
  intro wb2 hbwb2
  have s4 : Fx.Stp w2.heap.size w2 wb2 := Sb hbwb2
  have m10 := m4.stp s4 (Nat.ne_of_lt (m4.lt))
  have m11 := m5.stp s4 (m5.notNew (Nat.le_refl _))
  have m12 := m6.stp s4 (Nat.ne_of_lt (m6.lt))
  have b4 := b2.then s4 (.inr b2.size)
  refine sN (Wc (b := false) rfl (fun h => nomatch h) (fun _ => Wk (sN (Ws (Ws ?_)))))
  -- region 5 draws
  refine Fx.W.quiet (fun v1 => Below wb2.heap.size wb2 v1) (by kernel_rfl) (by kernel_rfl) (Below.refl _ _).drew ?_
  refine Qv (.pointer (some ⟨q, 0, none⟩)) (fun v1 hv1 => x_move rfl rfl) (Qv (.pointer (some ⟨q, 0, none⟩)) (fun v1 hv1 => x_nil rfl rfl) (Qv (.pointer (some ⟨q, 1, none⟩)) (fun v1 hv1 => x_field rfl rfl Try.underlying48 rfl (s := 6) (by kernel_rfl) rfl (by show _ + 1 = _; omega)) (Qv (.agg (Fx.varr 6 (Fx.rv .u64 r.K))) (fun v1 hv1 => x_loadA (x := rlY r) (y := Fx.rv .u64 r.K) rfl rfl (by kernel_rfl) (by kernel_rfl) (m10.cel.below hv1 (by have := m10.lt; omega)) (i := 1) (by omega) (by omega) (fun j hj => rlY_K _ (by omega))) (Qv (.agg (Fx.varr 14 (evY v))) (fun v1 hv1 => x_loadA (x := evY v) (y := evY v) rfl rfl (by kernel_rfl) (by kernel_rfl) (m12.cel.below hv1 (by have := m12.lt; omega)) (i := 0) (by omega) (by omega) (fun j _ => by rw [Nat.zero_add])) ?_))))
  by_cases c19 : (readyE r.K v) = true
  ·refine Fx.Qt.call (v := .bool true) (by rfl) (fun v1 hv1 => rC (args := [.agg (Fx.varr 6 (Fx.rv .u64 r.K)), .agg (Fx.varr 14 (evY v))]) rfl rfl Try.func47 rfl rfl) rfl (fun v1 hv1 => (e_ready r.K v _ hv h.kok).mono fun e v2 h => ⟨by rw [h.1, c19], bch hv1 h.2⟩) ?_
   refine Qv (.bool false) (fun v1 hv1 => Fx.x_notF rfl rfl) (Fx.Qt.nil ?_)
   intro wb3 hbwb3
   have s5 : Fx.Stp wb2.heap.size wb2 wb3 := Sb hbwb3
   have m13 := m10.stp s5 (Nat.ne_of_lt (m10.lt))
   have m14 := m11.stp s5 (m11.notNew (Nat.le_refl _))
   have m15 := m12.stp s5 (Nat.ne_of_lt (m12.lt))
   have b5 := b4.then s5 (.inr b4.size)
   refine sN (Wc (b := false) rfl (fun h => nomatch h) (fun _ => Wk (sN (Ws ?_))))
   -- region 7 draws
   refine Fx.W.reord [0, 1, 2, 3, 4, 5, 6, 7, 8, 9, 10] [0, 0, 0, 0, 1, 4, 2, 2, 0, 0, 3] (Fx.ChT [50]) Fx.ChT.refl Fx.ChT.trans (certs := [(10, 4, [4]), (6, 5, [5]), (7, 5, [6, 5]), (10, 5, [5]), (7, 6, [6]), (8, 6, [6]), (9, 6, [6]), (10, 6, [6]), (8, 7, [7]), (9, 7, [7]), (10, 7, [7])]) (by kernel_rfl) (by kernel_rfl) (by kernel_rfl) (by kernel_rfl) (by kernel_rfl) fun wt1 hbwt1 hzwt1 => ?_
   have s6 : Fx.Stp wb3.heap.size wb3 wt1 := Sb hbwt1
   have m16 := m13.stp s6 (Nat.ne_of_lt (m13.lt))
   have m17 := m14.stp s6 (m14.notNew (Nat.le_refl _))
   have m18 := m15.stp s6 (Nat.ne_of_lt (m15.lt))
   have b6 := b5.then s6 (.inr b5.size)
   refine Rp (.pointer (some ⟨q, 0, none⟩)) (fun v1 => x_move rfl rfl) (Rp (.pointer (some ⟨q, 0, none⟩)) (fun v1 => x_move rfl rfl) (Rp (.pointer (some ⟨q, 0, none⟩)) (fun v1 => x_nil rfl rfl) (Rp (.pointer (some ⟨q, 0, none⟩)) (fun v1 => x_field rfl rfl Try.underlying48 rfl (s := 1) (by kernel_rfl) rfl rfl) (Fx.R.read (v := .slice r.a (r.R.length) (r.c)) (by rfl) (by rfl) (Fx.ChT.refl _) (fun v1 hv1 => x_load1 (x := rlY r) rfl rfl (by kernel_rfl) (m16.chT hv1 (by decide)).cel (i := 0) (by omega) (by omega) rfl) ?_))))
   refine Fx.R.s (.agg (Fx.varr 14 (evY v))) (x_loadA (x := evY v) (y := evY v) rfl rfl (by kernel_rfl) (by kernel_rfl) m18.cel (i := 0) (by omega) (by omega) (fun j _ => by rw [Nat.zero_add])) ?_
   refine Fx.R.make (by rfl) ?_
   refine Fx.L.bslice (vs := [(0, .agg (Fx.varr 14 (evY v)))]) (s := 14) (zc := fun zq => if zq < 1 then .int .i64 (0) else if zq < 8 then .int .u64 (0) else if zq < 9 then .int .u8 (0) else if zq < 10 then .int .u64 (0) else if zq < 12 then .int .i64 (0) else .int .u64 (0)) (y := Fx.ovr (fun j => (fun zq => if zq < 1 then .int .i64 (0) else if zq < 8 then .int .u64 (0) else if zq < 9 then .int .u8 (0) else if zq < 10 then .int .u64 (0) else if zq < 12 then .int .i64 (0) else .int .u64 (0)) (j % 14)) (0 * 14) 14 (evY v)) (by rfl) rfl rfl Try.underlying46 (by kernel_rfl) (by rfl) (by rfl) (by kernel_rfl) (by rw [Fx.fill_step (off := 0 * 14) (s := 14) (y := evY v) rfl (Fx.cells_agg _ _) (by rfl)]; rfl) rfl fun g2 w3 eg2 m19 s7 z2 => ?_
   have m20 := m16.stp s7 (Nat.ne_of_lt (m16.lt))
   have m21 := m17.stp s7 (m17.notNew (Nat.le_refl _))
   have m22 := m18.stp s7 (Nat.ne_of_lt (m18.lt))
   have b7 := b6.then s7 (.inr b6.size)
   have lg2 : w.heap.size ≤ g2 := by rw [eg2]; exact b6.size
   have ng2m20 : q ≠ g2 := by rw [eg2]; exact Nat.ne_of_lt (m16.lt)
   have ng2m21 : (.slice r.a (r.R.length) (r.c) : Value).ownBlock ≠ some g2 := by rw [eg2]; exact m17.notNew (Nat.le_refl _)
   have ng2m22 : g1 ≠ g2 := by rw [eg2]; exact Nat.ne_of_lt (m18.lt)
   have tg2 : g2 < w3.heap.size := m19.lt
   clear eg2
   refine Ln ⟨Fx.ChT.of_below s7.old, ?_⟩
   refine Fx.R.make (by rfl) ?_
   refine Fx.L.app (B := B) (s := 14) (bytes := 112) (k := (r.R.length)) (m := 1) (v := .slice r.a (r.R.length) (r.c)) (x := evL r.R) (by rfl) rfl rfl rfl Try.underlying46 (by kernel_rfl) (by kernel_rfl) rfl rfl m21 m19.cel (ev_bone _ _) (by omega) (by omega) (by omega) (Nat.le_trans hB b7.size) fun g3 cap1 w4 ho1 hg1 hgv1 hlt1 => ?_
   have hct1 := Fx.ChT.of_grown hg1 m21
   have m24 := m20.chT hct1 (by decide)
   have m25 := m22.grown hg1 ng1m3
   have ng3m25 : g1 ≠ g3 := fun e => hgv1.elim (fun e2 => ng1m3 (by rw [e]; exact e2)) (fun e2 => by have := m22.lt; omega)
   have m23 : Fx.Own w4 B 50 14 (.slice (some ⟨g3, 0, none⟩) (r.R.length + 1) cap1) (r.R.length + 1) (evL (r.R ++ [v])) := (ho1.congr (fun j hj => evL_app j hj))
   have b8 : Fx.Chg (rlS q r) w w4 := Fx.Chg.grow b7 hg1 (fun q hq => .inl (.inr hq))
   refine Ln ⟨hct1, ?_⟩
   refine Rp (.pointer (some ⟨q, 0, none⟩)) (fun v1 => x_nil rfl rfl) (Rp (.pointer (some ⟨q, 0, none⟩)) (fun v1 => x_field rfl rfl Try.underlying48 rfl (s := 1) (by kernel_rfl) rfl rfl) (Fx.R.eff (by rfl) ?_))
   refine Fx.L.store1 (x := rlY r) (u := .slice (some ⟨g3, 0, none⟩) (r.R.length + 1) (cap1)) (by rfl) rfl rfl rfl rfl (by rfl) (by kernel_rfl) m24 (i := 0) (by omega) fun w5 m26 s8 z3 => ?_
   have m27 : Fx.Blk w5 q 7 (rlY { r with a := some ⟨g3, 0, none⟩, c := cap1, R := r.R ++ [v] }) 48 := m26.to (rlY_put r _ _ _ _ (by simp))
   have hct2 := Fx.ChT.of_stp s8 m24.ty
   have m28 := m25.chT hct2 (by decide)
   have m29 := m23.chT hct2 (by decide)
   have b9 := b8.then s8 (.inl (.inl rfl))
   refine Ln (Fx.R.nil (sN (Ws ?_)))
   have hko := h.kok a ha
   -- region 8 draws
   refine Fx.W.tail 12 (by kernel_rfl) (by kernel_rfl) fun wt2 hbwt2 hzwt2 => ?_
   have s9 : Fx.Stp w5.heap.size w5 wt2 := Sb hbwt2
   have m30 := m28.stp s9 (Nat.ne_of_lt (m28.lt))
   have m31 := m29.stpB s9 (Nat.ne_of_lt (m29.lt))
   have m32 := m27.stp s9 (Nat.ne_of_lt (m27.lt))
   have b10 := b9.then s9 (.inr b9.size)
   refine Fx.St.v (.pointer (some ⟨q, 0, none⟩)) (x_move rfl rfl) (Fx.St.v (.pointer (some ⟨g1, 0, none⟩)) (x_field rfl rfl Try.underlying50 rfl (s := 1) (by kernel_rfl) rfl rfl) (Fx.St.v (.int .i64 (v.o)) (x_load1 (x := evY v) rfl rfl (by kernel_rfl) m30.cel (i := 0) (by omega) (by omega) rfl) (Fx.St.v (.int .i64 ((a : Int))) (Fx.x_sub rfl rfl rfl (Fx.i64e (by omega) (by omega))) (Fx.St.v (.pointer (some ⟨q, 0, none⟩)) (x_nil rfl rfl) (Fx.St.v (.pointer (some ⟨q, 1, none⟩)) (x_field rfl rfl Try.underlying48 rfl (s := 6) (by kernel_rfl) rfl (by show _ + 1 = _; omega)) (Fx.St.v (.pointer (some ⟨q, a + 1, none⟩)) (x_index rfl rfl rfl Try.underlying32 (s := 1) (by kernel_rfl) (by omega) (by omega) (by omega)) (Fx.St.v (.int .u64 (r.K a)) (x_load1 (x := rlY { r with a := some ⟨g3, 0, none⟩, c := cap1, R := r.R ++ [v] }) rfl rfl (by kernel_rfl) m32.cel (i := a + 1) (by omega) (by omega) (rlY_K _ (by omega))) (Fx.St.v (.int .u64 ((r.K a) + 1)) (Fx.x_add rfl rfl rfl (Fx.u64e (by omega) (by omega))) (Fx.St.v (.pointer (some ⟨q, 0, none⟩)) (x_nil rfl rfl) (Fx.St.v (.pointer (some ⟨q, 1, none⟩)) (x_field rfl rfl Try.underlying48 rfl (s := 6) (by kernel_rfl) rfl (by show _ + 1 = _; omega)) (Fx.St.v (.pointer (some ⟨q, a + 1, none⟩)) (x_index rfl rfl rfl Try.underlying32 (s := 1) (by kernel_rfl) (by omega) (by omega) (by omega)) (Fx.St.nil ?_))))))))))))
   refine Fx.L.store1 (x := rlY { r with a := some ⟨g3, 0, none⟩, c := cap1, R := r.R ++ [v] }) (u := .int .u64 ((r.K a) + 1)) (by rfl) rfl rfl rfl rfl (by rfl) (by kernel_rfl) m32 (i := a + 1) (by omega) fun w6 m33 s10 z4 => ?_
   have m34 : Fx.Blk w6 q 7 (rlY { r with a := some ⟨g3, 0, none⟩, c := cap1, R := r.R ++ [v], K := upd r.K a (r.K a + 1) }) 48 := m33.to (rlY_known _ (by omega) _)
   have hct3 := Fx.ChT.of_stp s10 m32.ty
   have m36 := m31.chT hct3 (by decide)
   have b11 := b10.then s10 (.inl (.inl rfl))
   refine Ln (sN (Ws (Wl (Lv (.int .i64 (0)) (x_assign rfl rfl) (Ln (sN (Wr (⟨.int .i64 (0), rV Try.results20 (by exact rfl), ?_⟩))))))))
   have ee : addK r.K v = 0 := by unfold addK; rw [if_neg (show ¬ mayE v = false by rw [c6]; decide), if_neg (show ¬ lateE r.K v = true by rw [c13]; decide), if_neg (show ¬ readyE r.K v = false by rw [c19]; decide)]
   have eN : regN v = a := by unfold regN; omega
   obtain ⟨hsq, _⟩ := ready_seq c19
   rw [eN] at hsq
   refine ⟨by rw [ee], b11, fun _ => ⟨_, ⟨m34, by simpa using m36, hgq, by show (r.R ++ [v]).length ≤ T + 1; simp; omega, fun x hx => ?_, fun x hx => ?_, fun i hi => ?_⟩, rfl, by rw [eN, hsq], SepR.add hgv1 b7.size⟩, fun hn => absurd ee hn⟩
   ·rcases List.mem_append.1 hx with h1 | h1
    ·exact h.may x h1
    rw [List.mem_singleton.1 h1]; exact c6
   ·rcases List.mem_append.1 hx with h1 | h1
    ·exact h.wf x h1
    rw [List.mem_singleton.1 h1]; exact hv
   have hko := h.kok i hi; have hsb := may_seq c6
   show 0 ≤ upd r.K a (r.K a + 1) i ∧ upd r.K a (r.K a + 1) i < _
   unfold upd; split
   ·omega
   exact hko
  rw [Bool.not_eq_true] at c19
  refine Fx.Qt.call (v := .bool false) (by rfl) (fun v1 hv1 => rC (args := [.agg (Fx.varr 6 (Fx.rv .u64 r.K)), .agg (Fx.varr 14 (evY v))]) rfl rfl Try.func47 rfl rfl) rfl (fun v1 hv1 => (e_ready r.K v _ hv h.kok).mono fun e v2 h => ⟨by rw [h.1, c19], bch hv1 h.2⟩) ?_
  refine Qv (.bool true) (fun v1 hv1 => Fx.x_notT rfl rfl) (Fx.Qt.nil ?_)
  intro wb4 hbwb4
  have s11 : Fx.Stp wb2.heap.size wb2 wb4 := Sb hbwb4
  have m37 := m10.stp s11 (Nat.ne_of_lt (m10.lt))
  have m38 := m11.stp s11 (m11.notNew (Nat.le_refl _))
  have b12 := b4.then s11 (.inr b4.size)
  refine sN (Wc (b := true) rfl (fun _ => Ws (Wl (Lv (.int .i64 (13)) (x_assign rfl rfl) ?_))) (fun h => nomatch h))
  refine Ln (sN (Wr (sR (⟨.int .i64 (13), rV Try.results20 (by exact rfl), ?_⟩))))
  have ee : addK r.K v = 13 := by unfold addK; rw [if_neg (show ¬ mayE v = false by rw [c6]; decide), if_neg (show ¬ lateE r.K v = true by rw [c13]; decide), if_pos c19]
  exact ⟨by rw [ee], b12, fun h0 => (by rw [ee] at h0; cases h0), fun _ => ⟨m37, m38, hgq, h.len, h.may, h.wf, h.kok⟩⟩
 rw [Bool.not_eq_true] at c6
 refine Fx.L.call (by rfl) (rC (args := [.agg (Fx.varr 14 (evY v))]) rfl rfl Try.func45 rfl rfl) rfl ((e_may v _ hv).mono ?_)
 rintro e w7 ⟨he, hb2⟩
 refine ⟨.bool false, by rw [he, c6], ?_⟩
 clear he
 have s12 := Sb hb2
 have m40 := m2.stp s12 (Nat.ne_of_lt (m2.lt))
 have m41 := m3.stp s12 (m3.notNew (Nat.le_refl _))
 have b13 := b1.then s12 (.inr b1.size)
 refine Lv (.bool true) (Fx.x_notT rfl rfl) (Ln (sN (Wc (b := true) rfl (fun _ => Ws (Wl (Lv (.int .i64 (1)) (x_assign rfl rfl) ?_))) (fun h => nomatch h))))
 refine Ln (sN (Wr (sR (⟨.int .i64 (1), rV Try.results20 (by exact rfl), ?_⟩))))
 have ee : addK r.K v = 1 := by unfold addK; rw [if_pos c6]
 exact ⟨by rw [ee], b13, fun h0 => (by rw [ee] at h0; cases h0), fun _ => ⟨m40, m41, hgq, h.len, h.may, h.wf, h.kok⟩⟩
end
theorem r16_since (V : Nat → Int) (most : Int) (r : RlM) (B q T : Nat) (w : World) (h : RlO w B q r T) (hT : T ≤ 1000000) :
    Calls Try.prog 25 #[.pointer (some ⟨q, 0, none⟩), .agg (Fx.varr 6 (Fx.rv .u64 V)), .int .i64 (most)] w fun e w' => ∃ a c, e = .returned (.slice a ((r.R.filter (keepE V)).take most.toNat).length c) ∧ Fx.Own w' w.heap.size 50 14 (.slice a ((r.R.filter (keepE V)).take most.toNat).length c) ((r.R.filter (keepE V)).take most.toNat).length (evL ((r.R.filter (keepE V)).take most.toNat)) ∧ Below w.heap.size w w' := by
 refine Fx.enter Try.func25 rfl (n := 55) rfl (by rfl) ?_
 have hbk := h.blk
 have tq := hbk.lt
 have hln := h.len
 have har := h.own.arr
 refine Ws (Wl (Fx.L.box (m := 6) (y := Fx.rv .u64 V) (by rfl) rfl rfl (Fx.cells_agg _ _) rfl fun g1 w1 eg1 m1 s1 z1 => ?_))
 have m2 := hbk.stp s1 (Nat.ne_of_lt (hbk.lt))
 have b1 := s1.below (Below.refl w.heap.size w) (Below.refl w.heap.size w).size (Below.refl w.heap.size w).size
 have lg1 : w.heap.size ≤ g1 := by rw [eg1]; exact (Below.refl w.heap.size w).size
 have ng1m2 : q ≠ g1 := by rw [eg1]; exact Nat.ne_of_lt (hbk.lt)
 have tg1 : g1 < w1.heap.size := m1.lt
 clear eg1
 refine Lv (.slice none 0 0) (x_assign rfl rfl) (Ln (sN (Ws (Wl (Lv (.slice none 0 0) (x_assign rfl rfl) (Ln (sN (Ws (Ws (Wl (Lv (.int .i64 (0)) (x_assign rfl rfl) (Ln (sN (Fx.W.block ?_))))))))))))))
 have m3 : Fx.Own w1 w.heap.size 50 14 (.slice none 0 0) ([] : List EvM).length (evL []) := Fx.Own.nil _ _ _ _ _
 refine Fx.W.loop (fun f w_ => ∃ i : Nat, ∃ X : List EvM, ∃ oa : Option Addr, ∃ oc : Nat, i ≤ r.R.length ∧ X = (r.R.take i).filter (keepE V) ∧ X.length ≤ most.toNat ∧ f 0 = .pointer (some ⟨q, 0, none⟩) ∧ f 8 = .int .i64 ((i : Int)) ∧ f 7 = .slice oa (X.length) (oc) ∧ f 2 = .int .i64 (most) ∧ f 4 = .pointer (some ⟨g1, 0, none⟩) ∧ f 6 = .slice none 0 0 ∧ Fx.Blk w_ q 7 (rlY r) 48 ∧ Fx.Blk w_ g1 6 (Fx.rv .u64 V) 32 ∧ Fx.Own w_ w.heap.size 50 14 (.slice oa (X.length) (oc)) X.length (evL X) ∧ Below w.heap.size w w_) (fun f _ => (r.R.length - (intOf (f 8)).toNat)) ⟨0, [], none, 0, by omega, (by simp), (Nat.zero_le _), (by rfl), (by first | rfl | exact congrArg (Value.int .i64) (by omega)), (by rfl), (by first | rfl | exact congrArg (Value.int .i64) (by omega)), (by rfl), (by rfl), m2, m1, m3, b1⟩ ?_
 rintro f1 w2 ⟨i, X, oa, oc, hi, hX, hXn, h1, h2, h3, h4, h5, h6, m4, m5, m6, b2⟩
 have hXl : X.length ≤ r.R.length := by rw [hX]; exact Nat.le_trans (List.length_filter_le _ _) (by rw [List.length_take]; omega)
 refine Ws (Ws (Wl (Lv (.int .i64 ((i : Int))) (x_move rfl h2) (Lv (.pointer (some ⟨q, 0, none⟩)) (x_move rfl h1) (Lv (.pointer (some ⟨q, 0, none⟩)) (x_nil rfl rfl) (Lv (.pointer (some ⟨q, 0, none⟩)) (x_field rfl rfl Try.underlying48 rfl (s := 1) (by kernel_rfl) rfl rfl) (Lv (.slice r.a (r.R.length) (r.c)) (x_load1 (x := rlY r) rfl rfl (by kernel_rfl) m4.cel (i := 0) (by omega) (by omega) rfl) (Lv (.int .i64 ((r.R.length : Int))) (x_len rfl rfl rfl (by kernel_rfl)) ?_))))))))
 by_cases c15 : (i : Int) < (r.R.length : Int)
 ·refine Lv (.bool true) (Fx.x_lssT rfl rfl rfl c15) (Lv (.bool true) (x_move rfl rfl) (Lv (.slice oa (X.length) (oc)) (x_move rfl h3) (Lv (.int .i64 ((X.length : Int))) (x_len rfl rfl rfl (by kernel_rfl)) (Lv (.int .i64 (most)) (x_move rfl h4) ?_))))
  by_cases c20 : (X.length : Int) < most
  ·refine Lv (.bool true) (Fx.x_lssT rfl rfl rfl c20) (Lv (.bool true) (x_pickT rfl rfl rfl) (Ln (sN (Wc (b := true) rfl (fun _ => Wk (sN (Ws (Fx.W.block (Ws ?_))))) (fun h => nomatch h)))))
   obtain ⟨a, ha, ea⟩ := regE_nat (may_reg (h.may _ (getD_mem (R := r.R) (k := i) (by omega))))
   have eN : regN (r.R.getD i zeroE) = a := by unfold regN; omega
   -- region 5 draws
   refine Fx.W.quiet (fun v1 => ∃ q, v1 = World.drewN w2 q) (by kernel_rfl) (by kernel_rfl) ⟨1, rfl⟩ ?_
   refine Qv (.pointer (some ⟨q, 0, none⟩)) (fun v1 hv1 => x_move rfl h1) (Qv (.pointer (some ⟨q, 0, none⟩)) (fun v1 hv1 => x_nil rfl rfl) (Qv (.pointer (some ⟨q, 0, none⟩)) (fun v1 hv1 => x_field rfl rfl Try.underlying48 rfl (s := 1) (by kernel_rfl) rfl rfl) (Qv (.slice r.a (r.R.length) (r.c)) (fun v1 hv1 => x_load1 (x := rlY r) rfl rfl (by kernel_rfl) (by obtain ⟨qd, rfl⟩ := hv1; exact m4.cel) (i := 0) (by omega) (by omega) rfl) (Qv (.int .i64 ((i : Int))) (fun v1 hv1 => x_move rfl h2) ?_))))
   obtain ⟨bq1, oq1, eq1, m7z⟩ := har (by omega)
   have lbq1z : bq1 < w.heap.size := m7z.lt (by omega)
   have m7 := m7z.below b2 lbq1z
   have lbq1 : bq1 < w2.heap.size := m7.lt (by omega)
   refine Qv (.pointer (some ⟨bq1, 14 * i + oq1, none⟩)) (fun v1 hv1 => x_indexS rfl (rfl.trans (congrArg (fun q => Value.slice q (r.R.length) (r.c)) eq1)) rfl Try.underlying46 (s := 14) (by kernel_rfl) (by omega) (by omega) (by omega)) (Qv (.pointer (some ⟨bq1, 14 * i + oq1 + 1, none⟩)) (fun v1 hv1 => x_field rfl rfl Try.underlying50 rfl (s := 1) (by kernel_rfl) rfl (by show _ + 1 = _; omega)) (Qv (.int .u64 (((r.R).getD i zeroE).seq)) (fun v1 hv1 => x_load1 (x := evL r.R) rfl rfl (by kernel_rfl) (by obtain ⟨qd, rfl⟩ := hv1; exact m7) (i := 14 * i + 1) (by omega) (by omega) (Fx.flat_cell (k := i) (j := 1) (by omega) (by omega) rfl)) (Qv (.pointer (some ⟨q, 0, none⟩)) (fun v1 hv1 => x_move rfl h1) (Qv (.pointer (some ⟨q, 0, none⟩)) (fun v1 hv1 => x_nil rfl rfl) (Qv (.pointer (some ⟨q, 0, none⟩)) (fun v1 hv1 => x_field rfl rfl Try.underlying48 rfl (s := 1) (by kernel_rfl) rfl rfl) (Qv (.slice r.a (r.R.length) (r.c)) (fun v1 hv1 => x_load1 (x := rlY r) rfl rfl (by kernel_rfl) (by obtain ⟨qd, rfl⟩ := hv1; exact m4.cel) (i := 0) (by omega) (by omega) rfl) (Qv (.int .i64 ((i : Int))) (fun v1 hv1 => x_move rfl h2) (Qv (.pointer (some ⟨bq1, 14 * i + oq1, none⟩)) (fun v1 hv1 => x_indexS rfl (rfl.trans (congrArg (fun q => Value.slice q (r.R.length) (r.c)) eq1)) rfl Try.underlying46 (s := 14) (by kernel_rfl) (by omega) (by omega) (by omega)) (Qv (.pointer (some ⟨bq1, 14 * i + oq1, none⟩)) (fun v1 hv1 => x_field rfl rfl Try.underlying50 rfl (s := 1) (by kernel_rfl) rfl rfl) (Qv (.int .i64 (((r.R).getD i zeroE).o)) (fun v1 hv1 => x_load1 (x := evL r.R) rfl rfl (by kernel_rfl) (by obtain ⟨qd, rfl⟩ := hv1; exact m7) (i := 14 * i) (by omega) (by omega) (Fx.flat_cell (k := i) (j := 0) (by omega) (by omega) rfl)) (Qv (.int .i64 ((a : Int))) (fun v1 hv1 => Fx.x_sub rfl rfl rfl (Fx.i64e (by omega) (by omega))) (Qv (.pointer (some ⟨g1, a, none⟩)) (fun v1 hv1 => x_index rfl h5 rfl Try.underlying32 (s := 1) (by kernel_rfl) (by omega) (by omega) (by omega)) (Qv (.int .u64 (V a)) (fun v1 hv1 => x_load1 (x := Fx.rv .u64 V) rfl rfl (by kernel_rfl) (by obtain ⟨qd, rfl⟩ := hv1; exact m5.cel) (i := a) (by omega) (by omega) rfl) ?_)))))))))))))
   by_cases c43 : (V a) < (((r.R).getD i zeroE).seq)
   ·refine Qv (.bool true) (fun v1 hv1 => Fx.x_gtrT rfl rfl rfl c43) (Fx.Qt.nil ?_)
    rintro _ ⟨qd, rfl⟩
    obtain ⟨wq1, ewq1⟩ : ∃ v1, v1 = World.drewN w2 qd := ⟨_, rfl⟩
    rw [← ewq1]
    have s2 : Fx.Stp w2.heap.size w2 wq1 := by rw [ewq1]; exact Sb (bdrN w2 qd)
    have m8 := m4.stp s2 (Nat.ne_of_lt (m4.lt))
    have m9 := m5.stp s2 (Nat.ne_of_lt (m5.lt))
    have m10 := m6.stp s2 (m6.notNew (Nat.le_refl _))
    have m11 := m7.stp s2 (Nat.ne_of_lt (m7.lt (by omega)))
    have b3 := s2.below b2 b2.size b2.size
    clear ewq1
    refine sN (Wc (b := true) rfl (fun _ => Wl (Lv (.slice oa (X.length) (oc)) (x_move rfl h3) ?_)) (fun h => nomatch h))
    refine Lv (.pointer (some ⟨q, 0, none⟩)) (x_move rfl h1) (Lv (.pointer (some ⟨q, 0, none⟩)) (x_nil rfl rfl) (Lv (.pointer (some ⟨q, 0, none⟩)) (x_field rfl rfl Try.underlying48 rfl (s := 1) (by kernel_rfl) rfl rfl) (Lv (.slice r.a (r.R.length) (r.c)) (x_load1 (x := rlY r) rfl rfl (by kernel_rfl) m8.cel (i := 0) (by omega) (by omega) rfl) (Lv (.int .i64 ((i : Int))) (x_move rfl h2) (Lv (.pointer (some ⟨bq1, 14 * i + oq1, none⟩)) (x_indexS rfl (rfl.trans (congrArg (fun q => Value.slice q (r.R.length) (r.c)) eq1)) rfl Try.underlying46 (s := 14) (by kernel_rfl) (by omega) (by omega) (by omega)) (Lv (.agg (Fx.varr 14 (evY ((r.R).getD i zeroE)))) (x_loadA (x := evL r.R) (y := evY ((r.R).getD i zeroE)) rfl rfl (by kernel_rfl) (by kernel_rfl) m11 (i := 14 * i) (by omega) (by omega) (fun jq hjq => Fx.flat_at (k := i) (by omega) hjq)) (Fx.L.bslice (vs := [(0, .agg (Fx.varr 14 (evY ((r.R).getD i zeroE))))]) (s := 14) (zc := fun zq => if zq < 1 then .int .i64 (0) else if zq < 8 then .int .u64 (0) else if zq < 9 then .int .u8 (0) else if zq < 10 then .int .u64 (0) else if zq < 12 then .int .i64 (0) else .int .u64 (0)) (y := Fx.ovr (fun j => (fun zq => if zq < 1 then .int .i64 (0) else if zq < 8 then .int .u64 (0) else if zq < 9 then .int .u8 (0) else if zq < 10 then .int .u64 (0) else if zq < 12 then .int .i64 (0) else .int .u64 (0)) (j % 14)) (0 * 14) 14 (evY ((r.R).getD i zeroE))) (by rfl) rfl rfl Try.underlying46 (by kernel_rfl) (by rfl) (by rfl) (by kernel_rfl) (by rw [Fx.fill_step (off := 0 * 14) (s := 14) (y := evY ((r.R).getD i zeroE)) rfl (Fx.cells_agg _ _) (by rfl)]; rfl) rfl fun g2 w3 eg2 m12 s3 z2 => ?_)))))))
    have m13 := m8.stp s3 (Nat.ne_of_lt (m8.lt))
    have m14 := m9.stp s3 (Nat.ne_of_lt (m9.lt))
    have m15 := m10.stp s3 (m10.notNew (Nat.le_refl _))
    have b4 := s3.below b3 b3.size b3.size
    have lg2 : w.heap.size ≤ g2 := by rw [eg2]; exact b3.size
    have ng2m13 : q ≠ g2 := by rw [eg2]; exact Nat.ne_of_lt (m8.lt)
    have ng2m14 : g1 ≠ g2 := by rw [eg2]; exact Nat.ne_of_lt (m9.lt)
    have ng2m15 : (.slice oa (X.length) (oc) : Value).ownBlock ≠ some g2 := by rw [eg2]; exact m10.notNew (Nat.le_refl _)
    have ng2m16 : bq1 ≠ g2 := by rw [eg2]; exact Nat.ne_of_lt (m11.lt (by omega))
    have tg2 : g2 < w3.heap.size := m12.lt
    clear eg2
    refine Fx.L.app (B := w.heap.size) (s := 14) (bytes := 112) (k := X.length) (m := 1) (v := .slice oa (X.length) (oc)) (x := evL X) (by rfl) rfl rfl rfl Try.underlying46 (by kernel_rfl) (by kernel_rfl) rfl rfl m15 m12.cel (ev_bone _ _) (by omega) (by omega) (by omega) b4.size fun g3 cap1 w4 ho1 hg1 hgv1 hlt1 => ?_
    have hct1 := Fx.ChT.of_grown hg1 m15
    have m18 := m13.chT hct1 (by decide)
    have m19 := m14.chT hct1 (by decide)
    have m17 : Fx.Own w4 w.heap.size 50 14 (.slice (some ⟨g3, 0, none⟩) (X.length + 1) cap1) (X.length + 1) (evL (X ++ [r.R.getD i zeroE])) := (ho1.congr (fun j hj => evL_app j hj))
    have b5 : Below w.heap.size w w4 := Fx.Below.grow b4 hg1 b4.size (fun q hq => (m15.ge hq).1)
    refine Lv (.slice (some ⟨g3, 0, none⟩) (X.length + 1) (cap1)) (x_assign rfl rfl) (Ln (Fx.blkN (sN (Wl (Lv (.int .i64 ((i : Int))) (x_move rfl h2) (Lv (.int .i64 ((i : Int) + 1)) (Fx.x_add rfl rfl rfl (Fx.i64e (by omega) (by omega))) (Lv (.int .i64 ((i : Int) + 1)) (x_assign rfl rfl) (Ln ?_))))))))
    have m21 : Fx.Own w4 w.heap.size 50 14 (.slice (some ⟨g3, 0, none⟩) (X ++ [r.R.getD i zeroE]).length cap1) (X ++ [r.R.getD i zeroE]).length (evL (X ++ [r.R.getD i zeroE])) := by rw [List.length_append]; exact m17
    skip
    refine Fx.lpN ⟨i + 1, (X ++ [r.R.getD i zeroE]), (some ⟨g3, 0, none⟩), cap1, by omega, (keep_yes hX (by omega) eN c43), (by rw [List.length_append]; show X.length + 1 ≤ _; omega), h1, (by first | rfl | exact congrArg (Value.int .i64) (by omega)), (by show Value.slice _ _ _ = _; rw [List.length_append]; rfl), (h4.trans (by first | rfl | exact congrArg (Value.int .i64) (by omega))), h5, h6, m18, m19, m21, b5⟩ ?_
    show (r.R.length - (intOf ((.int .i64 ((i : Int) + 1)))).toNat) < _
    simp only [h2, intOf]; omega
   refine Qv (.bool false) (fun v1 hv1 => x_gtrF rfl rfl rfl c43) (Fx.Qt.nil ?_)
   rintro _ ⟨qd, rfl⟩
   obtain ⟨wq2, ewq2⟩ : ∃ v1, v1 = World.drewN w2 qd := ⟨_, rfl⟩
   rw [← ewq2]
   have s4 : Fx.Stp w2.heap.size w2 wq2 := by rw [ewq2]; exact Sb (bdrN w2 qd)
   have m22 := m4.stp s4 (Nat.ne_of_lt (m4.lt))
   have m23 := m5.stp s4 (Nat.ne_of_lt (m5.lt))
   have m24 := m6.stp s4 (m6.notNew (Nat.le_refl _))
   have b6 := s4.below b2 b2.size b2.size
   clear ewq2
   refine sN (Wc (b := false) rfl (fun h => nomatch h) (fun _ => Wk (Fx.blkN (sN (Wl (Lv (.int .i64 ((i : Int))) (x_move rfl h2) (Lv (.int .i64 ((i : Int) + 1)) (Fx.x_add rfl rfl rfl (Fx.i64e (by omega) (by omega))) (Lv (.int .i64 ((i : Int) + 1)) (x_assign rfl rfl) (Ln ?_)))))))))
   skip
   refine Fx.lpN ⟨i + 1, X, oa, oc, by omega, (keep_no hX (by omega) eN c43), hXn, h1, (by first | rfl | exact congrArg (Value.int .i64) (by omega)), h3, (h4.trans (by first | rfl | exact congrArg (Value.int .i64) (by omega))), h5, h6, m22, m23, m24, b6⟩ ?_
   show (r.R.length - (intOf ((.int .i64 ((i : Int) + 1)))).toNat) < _
   simp only [h2, intOf]; omega
  refine Lv (.bool false) (Fx.x_lssF rfl rfl rfl c20) (Lv (.bool false) (x_pickT rfl rfl rfl) (Ln (sN (Wc (b := false) rfl (fun h => nomatch h) (fun _ => Fx.W.exit (Fx.seqX (Fx.lpX (Fx.blkX (sN (Ws (Wl (Lv (.slice oa (X.length) (oc)) (x_move rfl h3) (Lv (.slice oa (X.length) (oc)) (x_assign rfl rfl) (Ln (sN (Wr (⟨.slice oa (X.length) (oc), rV Try.results25 (by exact rfl), ?_⟩)))))))))))))))))
  have hfin := keep_take hX hXn (by omega) hi
  exact ⟨_, _, by rw [← hfin], by rw [← hfin]; exact m6, b2⟩
 refine Lv (.bool false) (Fx.x_lssF rfl rfl rfl c15) (Lv (.bool false) (x_move rfl rfl) (Lk (by rfl) rfl (Lk (by rfl) rfl (Lk (by rfl) rfl (Lk (by rfl) rfl (Lv (.bool false) (x_pickF rfl rfl rfl) (Ln (sN (Wc (b := false) rfl (fun h => nomatch h) (fun _ => Fx.W.exit (Fx.seqX (Fx.lpX (Fx.blkX (sN (Ws (Wl (Lv (.slice oa (X.length) (oc)) (x_move rfl h3) (Lv (.slice oa (X.length) (oc)) (x_assign rfl rfl) (Ln (sN (Wr (⟨.slice oa (X.length) (oc), rV Try.results25 (by exact rfl), ?_⟩))))))))))))))))))))))
 have hfin := keep_take hX hXn (by omega) hi
 exact ⟨_, _, by rw [← hfin], by rw [← hfin]; exact m6, b2⟩
theorem r_same (n : Nat) (e1 e2 : Nat → EvM) (sa sb : Option Addr) (ca cb : Nat) (w : World) (hn : n ≤ 1000000) (he : ∀ i, i < n → e1 i = e2 i) (hw : ∀ i, i < n → EvWf (e1 i)) (hsa : Fx.Arr w sa n 14 (evX e1)) (hsb : Fx.Arr w sb n 14 (evX e2)) :
    Calls Try.prog 23 #[.slice sa (n) (ca), .slice sb (n) (cb)] w fun e w' => e = .returned (.bool true) ∧ Below w.heap.size w w' := by
 refine Fx.enter Try.func23 rfl (n := 26) rfl (by rfl) ?_
 refine Ws (Wl (Lv (.bool false) (x_assign rfl rfl) (Ln (sN (Ws (Ws (Wl (Lv (.slice sa (n) (ca)) (x_move rfl rfl) (Lv (.int .i64 ((n : Int))) (x_len rfl rfl rfl (by kernel_rfl)) (Lv (.slice sb (n) (cb)) (x_move rfl rfl) (Lv (.int .i64 ((n : Int))) (x_len rfl rfl rfl (by kernel_rfl)) (Lv (.bool false) (Fx.x_neqF rfl rfl rfl rfl) (Ln (sN (Wc (b := false) rfl (fun h => nomatch h) (fun _ => Wk (sN (Ws (Ws (Wl (Lv (.int .i64 (0)) (x_assign rfl rfl) (Ln (sN (Fx.W.block (Fx.W.loop (fun f w_ => ∃ i : Nat, i ≤ n ∧ f 0 = .slice sa (n) (ca) ∧ f 1 = .slice sb (n) (cb) ∧ f 5 = .int .i64 ((i : Int)) ∧ Below w.heap.size w w_) (fun f _ => (n - (intOf (f 5)).toNat)) ⟨0, by omega, (by rfl), (by rfl), (by first | rfl | exact congrArg (Value.int .i64) (by omega)), (Below.refl w.heap.size w)⟩ ?_)))))))))))))))))))))))))
 rintro f1 w1 ⟨i, hi, h1, h2, h3, b1⟩
 refine Ws (Ws (Wl (Lv (.int .i64 ((i : Int))) (x_move rfl h3) (Lv (.slice sa (n) (ca)) (x_move rfl h1) (Lv (.int .i64 ((n : Int))) (x_len rfl rfl rfl (by kernel_rfl)) ?_)))))
 by_cases c14 : (i : Int) < (n : Int)
 ·refine Lv (.bool true) (Fx.x_lssT rfl rfl rfl c14) (Ln (sN (Wc (b := true) rfl (fun _ => Wk (sN (Ws (Fx.W.block (Ws ?_))))) (fun h => nomatch h))))
  -- region 6 draws
  refine Fx.W.quiet (fun v1 => ∃ q, v1 = World.drewN w1 q) (by kernel_rfl) (by kernel_rfl) ⟨1, rfl⟩ ?_
  refine Qv (.slice sa (n) (ca)) (fun v1 hv1 => x_move rfl h1) (Qv (.int .i64 ((i : Int))) (fun v1 hv1 => x_move rfl h3) ?_)
  obtain ⟨bq1, oq1, eq1, m1⟩ := (hsa.up b1 rfl) (by omega)
  have lbq1 : bq1 < w1.heap.size := m1.lt (by omega)
  refine Qv (.pointer (some ⟨bq1, 14 * i + oq1, none⟩)) (fun v1 hv1 => x_indexS rfl (rfl.trans (congrArg (fun q => Value.slice q (n) (ca)) eq1)) rfl Try.underlying46 (s := 14) (by kernel_rfl) (by omega) (by omega) (by omega)) (Qv (.agg (Fx.varr 14 (evY (e1 i)))) (fun v1 hv1 => x_loadA (x := evX e1) (y := evY (e1 i)) rfl rfl (by kernel_rfl) (by kernel_rfl) (by obtain ⟨qd, rfl⟩ := hv1; exact m1) (i := 14 * i) (by omega) (by omega) (fun jq hjq => Fx.flat_at (k := i) (by omega) hjq)) (Qv (.slice sb (n) (cb)) (fun v1 hv1 => x_move rfl h2) (Qv (.int .i64 ((i : Int))) (fun v1 hv1 => x_move rfl h3) ?_)))
  obtain ⟨bq2, oq2, eq2, m2⟩ := (hsb.up b1 rfl) (by omega)
  have lbq2 : bq2 < w1.heap.size := m2.lt (by omega)
  refine Qv (.pointer (some ⟨bq2, 14 * i + oq2, none⟩)) (fun v1 hv1 => x_indexS rfl (rfl.trans (congrArg (fun q => Value.slice q (n) (cb)) eq2)) rfl Try.underlying46 (s := 14) (by kernel_rfl) (by omega) (by omega) (by omega)) (Qv (.agg (Fx.varr 14 (evY (e2 i)))) (fun v1 hv1 => x_loadA (x := evX e2) (y := evY (e2 i)) rfl rfl (by kernel_rfl) (by kernel_rfl) (by obtain ⟨qd, rfl⟩ := hv1; exact m2) (i := 14 * i) (by omega) (by omega) (fun jq hjq => Fx.flat_at (k := i) (by omega) hjq)) (Qv (.bool false) (fun v1 hv1 => Fx.x_neqA (n := 14) (ks := [(some .i64), (some .u64), (some .u64), (some .u64), (some .u64), (some .u64), (some .u64), (some .u64), (some .u8), (some .u64), (some .i64), (some .i64), (some .u64), (some .u64)]) (X := evY (e1 i)) (Y := evY (e2 i)) 12 true rfl rfl rfl (Fx.yesb (fun j hj => by rw [he i (by omega)])) (kd_ev (hw i (by omega))) (kd_ev (he i (by omega) ▸ hw i (by omega))) rfl (by kernel_rfl) (by kernel_rfl) (by kernel_rfl) (by kernel_rfl) (by kernel_rfl)) (Fx.Qt.nil ?_)))
  rintro _ ⟨qd, rfl⟩
  obtain ⟨wq1, ewq1⟩ : ∃ v1, v1 = World.drewN w1 qd := ⟨_, rfl⟩
  rw [← ewq1]
  have s1 : Fx.Stp w1.heap.size w1 wq1 := by rw [ewq1]; exact Sb (bdrN w1 qd)
  have b2 := s1.below b1 b1.size b1.size
  clear ewq1
  refine sN (Wc (b := false) rfl (fun h => nomatch h) (fun _ => Wk (Fx.blkN (sN (Wl (Lv (.int .i64 ((i : Int))) (x_move rfl h3) (Lv (.int .i64 ((i : Int) + 1)) (Fx.x_add rfl rfl rfl (Fx.i64e (by omega) (by omega))) (Lv (.int .i64 ((i : Int) + 1)) (x_assign rfl rfl) (Ln (Fx.lpN ⟨i + 1, by omega, h1, h2, (by first | rfl | exact congrArg (Value.int .i64) (by omega)), b2⟩ ?_))))))))))
  show (n - (intOf ((.int .i64 ((i : Int) + 1)))).toNat) < _
  simp only [h3, intOf]; omega
 refine Lv (.bool false) (Fx.x_lssF rfl rfl rfl c14) (Ln (sN (Wc (b := false) rfl (fun h => nomatch h) (fun _ => Fx.W.exit (Fx.seqX (Fx.lpX (Fx.blkX (sN (Ws (Wl (Lv (.bool true) (x_assign rfl rfl) (Ln (sN (Wr (⟨.bool true, rV Try.results23 (by exact rfl), ?_⟩)))))))))))))))
 exact ⟨rfl, b1⟩
namespace Rt
theorem LgO.weak {w : World} {B B' p T : Nat} {m : LgM} (h : LgO w B p m T) (hB : B' ≤ B) : LgO w B' p m T := { h with ls := ⟨fun i hi => (h.ls.1 i hi).mono hB, h.ls.2⟩, gp := Nat.le_trans hB h.gp }
end Rt
namespace Rt
def wdY (x y : Value) : Nat → Value := fun q => if q = 0 then x else y
theorem wdY_0 (x y v : Value) : Fx.updV (wdY x y) 0 v = wdY v y := by funext q; unfold Fx.updV wdY; split <;> rfl
theorem wdY_1 (x y v : Value) : ∀ j, j < 2 → Fx.updV (wdY x y) 1 v j = wdY x v j := fun j hj => by
  unfold Fx.updV wdY
  rcases j with _|_|j
  · rfl
  · rfl
  · omega
def ptX (pl : Nat → Nat) : Nat → Value := fun i => .pointer (some ⟨pl i, 0, none⟩)
def Lds (w : World) (B n : Nat) (pl : Nat → Nat) (ml : Nat → LdM) : Prop := ∀ i, i < n → LdO w B (pl i) (ml i)
theorem Lds.up {w w' : World} {B n : Nat} {pl : Nat → Nat} {ml : Nat → LdM} (h : Lds w B n pl ml) (hb : Below w.heap.size w w') : Lds w' B n pl ml := fun i hi => (h i hi).up hb
theorem Lds.chT {w w' : World} {B n : Nat} {pl : Nat → Nat} {ml : Nat → LdM} {Ts : List TypeId} (h : Lds w B n pl ml) (hs : Fx.ChT Ts w w') (ne : (ldTs.all fun T => !Ts.contains T) = true) : Lds w' B n pl ml := fun i hi => (h i hi).chT hs ne
theorem Lds.put {w : World} {B n o p : Nat} {pl : Nat → Nat} {ml : Nat → LdM} {m : LdM} (h : Lds w B n pl ml) (hl : LdO w B p m) : Lds w B n (updA pl o p) (updA ml o m) := fun i hi => by
  unfold updA
  by_cases e : i = o
  · rw [if_pos e, if_pos e]; exact hl
  · rw [if_neg e, if_neg e]; exact h i hi
theorem Lds.snoc {w : World} {B n p : Nat} {pl : Nat → Nat} {ml : Nat → LdM} {m : LdM} (h : Lds w B n pl ml) (hl : LdO w B p m) : Lds w B (n + 1) (updA pl n p) (updA ml n m) := fun i hi => by
  unfold updA
  by_cases e : i = n
  · rw [if_pos e, if_pos e]; exact hl
  · rw [if_neg e, if_neg e]; exact h i (by omega)
theorem pt_app {n p : Nat} {pl : Nat → Nat} {z : Nat → Value} : ∀ j, j < (n + 1) * 1 → Fx.appX (ptX pl) (n * 1) (Fx.ovr z (0 * 1) 1 (fun _ => .pointer (some ⟨p, 0, none⟩))) j = ptX (updA pl n p) j := by
  intro j hj
  unfold Fx.appX ptX updA
  by_cases h : j < n * 1
  · rw [if_pos h, if_neg (by omega)]
  rw [if_neg h, if_pos (by omega)]
  unfold Fx.ovr
  rw [if_pos (by omega)]
theorem pt_put {o p : Nat} {pl : Nat → Nat} : Fx.updV (ptX pl) o (.pointer (some ⟨p, 0, none⟩)) = ptX (updA pl o p) := by
  funext j; unfold Fx.updV ptX updA
  by_cases h : j = o
  · rw [if_pos h, if_pos h]
  rw [if_neg h, if_neg h]
theorem ev_app {n : Nat} {e : Nat → EvM} {v : EvM} {z : Nat → Value} : ∀ j, j < (n + 1) * 14 → Fx.appX (evX e) (n * 14) (Fx.ovr z (0 * 14) 14 (evY v)) j = evX (updA e n v) j := fun j hj =>
  (Fx.app_flat j hj).trans (Fx.flat_cong (fun i _ q _ => by unfold Fx.updF updA; split <;> rfl) j hj)
structure WM where
  n : Nat
  la : Option Addr
  lc : Nat
  pl : Nat → Nat
  ml : Nat → LdM
  an : Nat
  aa : Option Addr
  ac : Nat
  ev : Nat → EvM
end Rt
structure WldO (w : World) (B p : Nat) (M : WM) (T : Nat) : Prop where
  c : Fx.Blk w p 2 (wdY (.slice M.la M.n M.lc) (.slice M.aa M.an M.ac)) 74
  l : Fx.Own w B 71 1 (.slice M.la M.n M.lc) M.n (ptX M.pl)
  a : Fx.Own w B 50 14 (.slice M.aa M.an M.ac) M.an (evX M.ev)
  g : Lds w B M.n M.pl M.ml
  inv : ∀ i, i < M.n → Inv (M.ml i).core T
  wf : ∀ k, k < M.an → EvWf (M.ev k)
  may : ∀ k, k < M.an → mayE (M.ev k) = true
  sm : ∀ k, k < M.an → EvSm (M.ev k)
  cz : Cz M.n M.an M.ev fun o => (M.ml o).s.known
  pB : B ≤ p
  n1 : 1 ≤ M.n
  n6 : M.n ≤ 6
def wdTs : List Nat := [74, 71, 50] ++ ldTs
theorem WldO.up {w w' : World} {B p T : Nat} {M : WM} (h : WldO w B p M T) (hb : Below w.heap.size w w') : WldO w' B p M T := { h with c := h.c.stp (Sb hb) (Nat.ne_of_lt h.c.lt), l := h.l.up hb, a := h.a.up hb, g := h.g.up hb }
theorem WldO.chT {w w' : World} {B p T : Nat} {M : WM} {Ts : List TypeId} (h : WldO w B p M T) (hs : Fx.ChT Ts w w') (ne : (wdTs.all fun T => !Ts.contains T) = true) : WldO w' B p M T := by
  have hq : ∀ T' ∈ wdTs, Ts.contains T' = false := fun T' hT => by
    have := List.all_eq_true.1 ne T' hT
    simpa using this
  exact { h with c := h.c.chT hs (hq _ (by decide)), l := h.l.chT hs (hq _ (by decide)), a := h.a.chT hs (hq _ (by decide)), g := h.g.chT hs (List.all_eq_true.2 fun T hT => List.all_eq_true.1 ne T (List.mem_append_right _ hT)) }
theorem newM_lo {w : World} {B p k tb : Nat} (hc : Fx.Blk w p 27 (ldY (newM k tb)) 70) (ht : Fx.Blk w tb 1 (fun _ => .slice none 0 0) 117) (h1 : B ≤ p) (h2 : B ≤ tb) : LdO w B p (newM k tb) where
  c := hc
  n := Fx.Own.nil _ _ _ _ _
  g := Fx.Own.nil _ _ _ _ _
  tc := ht
  t := Fx.Own.nil _ _ _ _ _
  r := ⟨fun _ _ => Fx.Own.nil _ _ _ _ _, fun _ _ _ _ _ _ e => by cases e⟩
  pB := h1
  tB := h2
  bn := Nat.zero_le _
  bg := Nat.zero_le _
  bt := Nat.zero_le _
  br := fun _ _ => Nat.zero_le _
theorem Rt.newM_inv (k tb : Nat) : Inv (newM k tb).core 0 where
  tnn := rfl
  nn := Nat.zero_le _
  tid := fun _ h => absurd h (Nat.not_lt_zero _)
  rise := fun _ _ _ h => absurd h (Nat.not_lt_zero _)
  pos := fun _ h => absurd h (Nat.not_lt_zero _)
  top := fun _ h => absurd h (Nat.not_lt_zero _)
  up := fun _ h => absurd h (Nat.not_lt_zero _)
  dep := fun _ => ⟨0, Nat.zero_le _, by show (-1 : Int) < 0; decide⟩
  gn := Nat.le_refl _
  rn := fun _ _ => Nat.le_refl _
  may := fun _ h => absurd h (Nat.not_lt_zero _)
  g47 := fun _ h => absurd h (Nat.not_lt_zero _)
  kn := fun _ _ => ⟨Int.le_refl _, by show (0 : Int) < _; decide⟩
  s := ⟨fun _ h => absurd h (Nat.not_lt_zero _), fun _ h => absurd h (Nat.not_lt_zero _)⟩
  b := ⟨fun _ _ => Int.le_refl _, fun _ h => absurd h (Nat.not_lt_zero _), fun _ _ _ h => absurd h (Nat.not_lt_zero _)⟩
set_option maxRecDepth 20000 in
theorem l_newWorld (n : Nat) (w : World) (hn1 : 1 ≤ n) (hn6 : n ≤ 6) :
    Calls Try.prog 16 #[.int .i64 ((n : Int))] w fun e w' => ∃ p M, e = .returned (.pointer (some ⟨p, 0, none⟩)) ∧ M.n = n ∧ M.an = 0 ∧ (∀ i, (M.ml i).core = (newM n 0).core) ∧ WldO w' w.heap.size p M 0 ∧ Below w.heap.size w w' := by
 refine Fx.enter Try.func16 rfl (n := 30) rfl (by rfl) ?_
 refine Ws (Wl (Lv (.pointer none) (x_assign rfl rfl) (Ln (sN (Ws (Wl (Lv (.agg (Fx.varr 2 (fun _ => .slice none 0 0))) (x_build (vs := []) (places := #[(0, 1), (1, 1)]) (m := 2) (x := fun _ => .slice none 0 0) rfl rfl Try.underlying74 (by kernel_rfl) (by kernel_rfl) (by rfl)) (Fx.L.box (m := 2) (y := fun _ => .slice none 0 0) (by rfl) rfl rfl (Fx.cells_agg _ _) rfl fun g1 w1 eg1 m1 s1 z1 => ?_))))))))
 have b1 := s1.below (Below.refl w.heap.size w) (Below.refl w.heap.size w).size (Below.refl w.heap.size w).size
 have lg1 : w.heap.size ≤ g1 := by rw [eg1]; exact (Below.refl w.heap.size w).size
 have tg1 : g1 < w1.heap.size := m1.lt
 clear eg1
 refine Lv (.pointer (some ⟨g1, 0, none⟩)) (x_assign rfl rfl) (Ln (sN (Ws (Ws (Wl (Lv (.int .i64 (0)) (x_assign rfl rfl) (Ln (sN (Fx.W.block ?_)))))))))
 have m2 : Fx.Blk w1 g1 2 (wdY (.slice none 0 0) (.slice none 0 0)) 74 := m1.congr (fun j _ => by unfold wdY; split <;> rfl)
 have m3 : Fx.Own w1 w.heap.size 71 1 (.slice none 0 0) 0 (ptX (fun _ => 0)) := Fx.Own.nil _ _ _ _ _
 have m4 : Lds w1 w.heap.size 0 (fun _ => 0) (fun _ => newM n 0) := fun _ h => absurd h (Nat.not_lt_zero _)
 refine Fx.W.loop (fun f w_ => ∃ k : Nat, ∃ a : Option Addr, ∃ cap : Nat, ∃ pl : Nat → Nat, ∃ ml : Nat → LdM, k ≤ n ∧ (∀ i, ∃ tb, ml i = newM n tb) ∧ f 0 = .int .i64 ((n : Int)) ∧ f 3 = .pointer (some ⟨g1, 0, none⟩) ∧ f 4 = .int .i64 ((k : Int)) ∧ Fx.Blk w_ g1 2 (wdY (.slice a k cap) (.slice none 0 0)) 74 ∧ Fx.Own w_ w.heap.size 71 1 (.slice a (k) (cap)) k (ptX pl) ∧ Lds w_ w.heap.size k pl ml ∧ Below w.heap.size w w_) (fun f _ => (n - (intOf (f 4)).toNat)) ⟨0, none, 0, (fun _ => 0), (fun _ => newM n 0), by omega, (fun _ => ⟨0, rfl⟩), (by first | rfl | exact congrArg (Value.int .i64) (by omega)), (by rfl), (by first | rfl | exact congrArg (Value.int .i64) (by omega)), m2, m3, m4, b1⟩ ?_
 rintro f1 w2 ⟨k, a, cap, pl, ml, hk, hml, h1, h2, h3, m5, m6, m7, b2⟩
 refine Ws (Ws (Wl (Lv (.int .i64 ((k : Int))) (x_move rfl h3) (Lv (.int .i64 ((n : Int))) (x_move rfl h1) ?_))))
 by_cases c11 : (k : Int) < (n : Int)
 ·refine Lv (.bool true) (Fx.x_lssT rfl rfl rfl c11) (Ln (sN (Wc (b := true) rfl (fun _ => Wk (sN (Ws (Fx.W.block (Ws (Wl (Lv (.int .i64 ((n : Int))) (x_move rfl h1) ?_))))))) (fun h => nomatch h))))
  refine Fx.L.call (by rfl) (rC (args := [.int .i64 ((n : Int))]) rfl rfl Try.func38 rfl rfl) rfl ((l_new n _ hn1 hn6).mono ?_)
  rintro e9 w3 ⟨p3, tb3, he, hp3, _, hb3, hc3, ht3, htb3⟩
  refine ⟨.tuple #[.pointer (some ⟨p3, 0, none⟩), .int .i64 (0)], he, ?_⟩
  clear he
  have s2 := Sb hb3
  have m8 := m5.stp s2 (Nat.ne_of_lt (m5.lt))
  have m9 := m6.stp s2 (m6.notNew (Nat.le_refl _))
  have m10 := m7.up s2.old
  have b3 := s2.below b2 b2.size b2.size
  have hL1 : LdO w3 w.heap.size p3 (newM n tb3) := newM_lo hc3 ht3 (Nat.le_trans b2.size hp3) (Nat.le_trans b2.size htb3)
  refine Lv (.tuple #[.pointer (some ⟨p3, 0, none⟩), .int .i64 (0)]) (x_move rfl rfl) (Lv (.pointer (some ⟨p3, 0, none⟩)) (Fx.x_extract rfl rfl rfl) (Lv (.int .i64 (0)) (Fx.x_extract rfl rfl rfl) (Lv (.pointer (some ⟨p3, 0, none⟩)) (x_assign rfl rfl) (Lv (.int .i64 (0)) (x_assign rfl rfl) (Ln (sN (Wl (Lv (.pointer (some ⟨g1, 0, none⟩)) (x_move rfl h2) (Lv (.pointer (some ⟨g1, 0, none⟩)) (x_move rfl h2) (Lv (.pointer (some ⟨g1, 0, none⟩)) (x_nil rfl rfl) (Lv (.pointer (some ⟨g1, 0, none⟩)) (x_field rfl rfl Try.underlying74 rfl (s := 1) (by kernel_rfl) rfl rfl) (Lv (.slice a (k) (cap)) (x_load1 (x := wdY (.slice a k cap) (.slice none 0 0)) rfl rfl (by kernel_rfl) m8.cel (i := 0) (by omega) (by omega) rfl) (Lv (.pointer (some ⟨p3, 0, none⟩)) (x_move rfl rfl) (Fx.L.bslice (vs := [(0, .pointer (some ⟨p3, 0, none⟩))]) (s := 1) (zc := fun _ => .pointer none) (y := Fx.ovr (fun j => .pointer none) (0 * 1) 1 (fun _ => .pointer (some ⟨p3, 0, none⟩))) (by rfl) rfl rfl Try.underlying72 (by kernel_rfl) (by rfl) (by rfl) (by kernel_rfl) (by rw [Fx.fill_step (off := 0 * 1) (s := 1) (y := fun _ => .pointer (some ⟨p3, 0, none⟩)) rfl (Fx.cells_one (by rfl)) (by rfl)]; rfl) rfl fun g2 w4 eg2 m11 s3 z2 => ?_))))))))))))))
  have m12 := m8.stp s3 (Nat.ne_of_lt (m8.lt))
  have m13 := m9.stp s3 (m9.notNew (Nat.le_refl _))
  have m14 := m10.up s3.old
  have m15 := hL1.up s3.old
  have b4 := s3.below b3 b3.size b3.size
  have lg2 : w.heap.size ≤ g2 := by rw [eg2]; exact b3.size
  have ng2m12 : g1 ≠ g2 := by rw [eg2]; exact Nat.ne_of_lt (m8.lt)
  have ng2m13 : (.slice a (k) (cap) : Value).ownBlock ≠ some g2 := by rw [eg2]; exact m9.notNew (Nat.le_refl _)
  have tg2 : g2 < w4.heap.size := m11.lt
  clear eg2
  refine Fx.L.app (B := w.heap.size) (s := 1) (bytes := 8) (k := k) (m := 1) (v := .slice a (k) (cap)) (x := ptX pl) (by rfl) rfl rfl rfl Try.underlying72 (by kernel_rfl) (by kernel_rfl) rfl rfl m13 m11.cel (ovr_one (fun _ => rfl)) (by omega) (by omega) (by omega) b4.size fun g3 cap1 w5 ho1 hg1 hgv1 hlt1 => ?_
  have hct1 := Fx.ChT.of_grown hg1 m13
  have m17 := m12.chT hct1 (by decide)
  have m18 := m14.chT hct1 (by decide)
  have m19 := m15.chT hct1 (by decide)
  have m16 : Fx.Own w5 w.heap.size 71 1 (.slice (some ⟨g3, 0, none⟩) (k + 1) cap1) (k + 1) (ptX (updA pl k p3)) := (ho1.congr (fun j hj => pt_app j hj))
  have b5 : Below w.heap.size w w5 := Fx.Below.grow b4 hg1 b4.size (fun q hq => (m13.ge hq).1)
  refine Lv (.pointer (some ⟨g1, 0, none⟩)) (x_nil rfl rfl) (Lv (.pointer (some ⟨g1, 0, none⟩)) (x_field rfl rfl Try.underlying74 rfl (s := 1) (by kernel_rfl) rfl rfl) (Fx.L.store1 (x := wdY (.slice a k cap) (.slice none 0 0)) (u := .slice (some ⟨g3, 0, none⟩) (k + 1) (cap1)) (by rfl) rfl rfl rfl rfl (by rfl) (by kernel_rfl) m17 (i := 0) (by omega) fun w6 m20 s4 z3 => ?_))
  have m21 : Fx.Blk w6 g1 2 (wdY (.slice (some ⟨g3, 0, none⟩) (k + 1) (cap1)) (.slice none 0 0)) 74 := m20.to (wdY_0 _ _ _)
  have hct2 := Fx.ChT.of_stp s4 m17.ty
  have m22 := m18.chT hct2 (by decide)
  have m23 := m19.chT hct2 (by decide)
  have m24 := m16.chT hct2 (by decide)
  have b6 := s4.below b5 b5.size (by omega)
  refine Ln (Fx.blkN (sN (Wl (Lv (.int .i64 ((k : Int))) (x_move rfl h3) (Lv (.int .i64 ((k : Int) + 1)) (Fx.x_add rfl rfl rfl (Fx.i64e (by omega) (by omega))) (Lv (.int .i64 ((k : Int) + 1)) (x_assign rfl rfl) (Ln ?_)))))))
  have m25 : Lds w6 w.heap.size (k + 1) (updA pl k p3) (updA ml k (newM n tb3)) := m22.snoc m23
  skip
  refine Fx.lpN ⟨k + 1, (some ⟨g3, 0, none⟩), cap1, (updA pl k p3), (updA ml k (newM n tb3)), by omega, (fun i => by unfold updA; split <;> first | exact ⟨_, rfl⟩ | exact hml i), (h1.trans (by first | rfl | exact congrArg (Value.int .i64) (by omega))), h2, (by first | rfl | exact congrArg (Value.int .i64) (by omega)), m21, m24, m25, b6⟩ ?_
  show (n - (intOf ((.int .i64 ((k : Int) + 1)))).toNat) < _
  simp only [h3, intOf]; omega
 refine Lv (.bool false) (Fx.x_lssF rfl rfl rfl c11) (Ln (sN (Wc (b := false) rfl (fun h => nomatch h) (fun _ => Fx.W.exit (Fx.seqX (Fx.lpX (Fx.blkX (sN (Ws (Wl (Lv (.pointer (some ⟨g1, 0, none⟩)) (x_move rfl h2) (Lv (.pointer (some ⟨g1, 0, none⟩)) (x_assign rfl rfl) (Ln (sN (Wr (⟨.pointer (some ⟨g1, 0, none⟩), rV Try.results16 (by exact rfl), ?_⟩))))))))))))))))
 obtain rfl : k = n := by omega
 exact ⟨g1, ⟨k, a, cap, pl, ml, 0, none, 0, fun _ => ⟨0, 0, fun _ => 0, 0, 0, 0, 0, 0, 0⟩⟩, rfl, rfl, rfl, (fun i => by obtain ⟨tb, e⟩ := hml i; show (ml i).core = _; rw [e]; rfl), { c := m5, l := m6, a := Fx.Own.nil _ _ _ _ _, g := m7, inv := fun i _ => by obtain ⟨tb, e⟩ := hml i; show Inv (ml i).core 0; rw [e]; exact newM_inv k tb, wf := fun _ h => absurd h (Nat.not_lt_zero _), may := fun _ h => absurd h (Nat.not_lt_zero _), sm := fun _ h => absurd h (Nat.not_lt_zero _), cz := Cz.zero k (fun o _ => by obtain ⟨tb, e⟩ := hml o; show (ml o).s.known = _; rw [e]; rfl), pB := lg1, n1 := hn1, n6 := hn6 }, b2⟩
end Go.Proofs.Ytleajegppehbdaa
