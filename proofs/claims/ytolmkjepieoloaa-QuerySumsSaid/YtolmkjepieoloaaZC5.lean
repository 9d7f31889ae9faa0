/-
  What the proof of the law rests on, part 5: walks of functions, and plain laws; each says its conditions itself.
-/
import Derived.Deep.Slices
import Derived.Lib.SmallJoins
import Derived.ChangeArms
import Derived.Test.YtolmkjepieoloaaZC4
namespace Go.Proofs.Ytolmkjepieoloaa
open Go.RowKit Rt
namespace Rt
structure InvW (L : LdC) (T : Nat) : Prop where
  nn : L.nn ≤ 33
  gn : L.gn ≤ T
  rn : ∀ i, i < 6 → L.rn i ≤ T
  tn : ∀ x, L.node x = findT L.t L.tn x
  dx : ∀ x, ∃ D, D ≤ 1000 ∧ findT L.t L.tn (iterT L.t L.tn D x) < 0
  may : ∀ k, k < L.nn → may (L.R k) = true
  kn : KnOk L.known
open Classical in
noncomputable def applyE (L : LdC) (v : EvM) : Int :=
  if mayE v = false then 1 else if lateE L.known v = true then 14 else if readyE L.known v = false then 13 else if L.inn (regN v) = false ∨ L.left (regN v) = true then 10 else doesE L v
def knowC (L : LdC) (v : EvM) : LdC := { L with known := updA L.known (regN v) (L.known (regN v) + 1) }
open Classical in
noncomputable def applyC (L : LdC) (v : EvM) : LdC := if applyE L v = 0 then knowC (doesC L v) v else L
theorem doesC_known (L : LdC) (v : EvM) : (doesC L v).known = L.known := by
  unfold doesC
  split; · unfold makesC; rfl
  split; · unfold raiseC; rfl
  split; · unfold takesC addReq; rfl
  split; · unfold freesC addReq; rfl
  split; · unfold movesC; rfl
  split <;> rfl
end Rt
set_option maxRecDepth 20000 in
set_option maxHeartbeats 2000000 in
theorem l_apply (m : LdM) (B p T : Nat) (v : EvM) (w : World) (hL : LdO w B p m) (hv : EvWf v) (hI : InvW m.core T) (hT : T ≤ 900000) :
    Calls Try.prog 57 #[.pointer (some ⟨p, 0, none⟩), .agg (Fx.varr 14 (evY v))] w fun e w' => ∃ p' m', e = .returned (.tuple #[.pointer (some ⟨p', 0, none⟩), .int .i64 (applyE m.core v)]) ∧ m'.core = applyC m.core v ∧ LdO w' B p' m' ∧ Below w.heap.size w w' := by
 have hLc := hL.c
 have lpp : p < w.heap.size := hLc.lt
 have hpB := hL.pB
 refine Fx.enter Try.func57 rfl (n := 73) rfl (by rfl) ?_
 refine Fx.W.seq (Fx.W.list (Fx.L.box (m := 14) (y := evY v) (by rfl) rfl rfl (Fx.cells_agg _ _) rfl fun g1 w1 eg1 m1 s1 z1 => ?_))
 have m2 := hL.up s1.old
 have m3 := hLc.stp s1 (Nat.ne_of_lt (hLc.lt))
 have b1 := s1.below (Below.refl w.heap.size w) (Below.refl w.heap.size w).size (Below.refl w.heap.size w).size
 have lg1 : w.heap.size ≤ g1 := by rw [eg1]; exact (Below.refl w.heap.size w).size
 have ng1m3 : p ≠ g1 := by rw [eg1]; exact Nat.ne_of_lt (hLc.lt)
 have tg1 : g1 < w1.heap.size := m1.lt
 clear eg1
 refine Fx.L.v (.pointer none) (Fx.x_assign rfl rfl) ?_
 refine Fx.L.v (.int .i64 (0)) (Fx.x_assign rfl rfl) ?_
 refine Fx.L.nil (Fx.seqN (Fx.W.seq (Fx.W.seq (Fx.W.list (Fx.L.v (.agg (Fx.varr 14 (evY v))) (Fx.x_loadA (x := evY v) (y := evY v) rfl rfl (by kernel_rfl) (by kernel_rfl) m1.cel (i := 0) (by omega) (by omega) (fun j _ => by rw [Nat.zero_add])) ?_)))))
 by_cases c10 : (mayE v) = true
 ·refine Fx.L.call (by rfl) (Fx.r_call (args := [.agg (Fx.varr 14 (evY v))]) rfl rfl Try.func100 rfl rfl) rfl ((e_may v _ hv).mono ?_)
  rintro e w2 ⟨he, hb1⟩
  refine ⟨.bool true, by rw [he, c10], ?_⟩
  clear he
  have s2 := Fx.Stp.of_below hb1
  have m4 := m2.up s2.old
  have m5 := m3.stp s2 (Nat.ne_of_lt (m3.lt))
  have m6 := m1.stp s2 (Nat.ne_of_lt (m1.lt))
  have b2 := s2.below b1 b1.size b1.size
  refine Fx.L.v (.bool false) (Fx.x_notF rfl rfl) ?_
  refine Fx.L.nil (Fx.seqN (Fx.W.cond (b := false) rfl (fun h => nomatch h) (fun _ => Fx.W.skip (Fx.seqN (Fx.W.seq (Fx.W.seq ?_))))))
  -- region 3 draws
  refine Fx.W.quiet (fun v1 => Below w2.heap.size w2 v1) (by kernel_rfl) (by kernel_rfl) (Below.refl _ _).drew ?_
  refine Fx.Qt.v (.pointer (some ⟨p, 0, none⟩)) (fun v1 hv1 => Fx.x_move rfl rfl) ?_
  refine Fx.Qt.v (.pointer (some ⟨p, 0, none⟩)) (fun v1 hv1 => Fx.x_nil rfl rfl) ?_
  refine Fx.Qt.v (.pointer (some ⟨p, 0, none⟩)) (fun v1 hv1 => Fx.x_field rfl rfl Try.underlying71 rfl (s := 20) (by kernel_rfl) rfl rfl) ?_
  refine Fx.Qt.v (.pointer (some ⟨p, 12, none⟩)) (fun v1 hv1 => Fx.x_field rfl rfl Try.underlying43 rfl (s := 6) (by kernel_rfl) rfl (by show _ + 12 = _; omega)) ?_
  refine Fx.Qt.v (.agg (Fx.varr 6 (Fx.rv .u64 m.s.known))) (fun v1 hv1 => Fx.x_loadA (x := ldY m) (y := Fx.rv .u64 m.s.known) rfl rfl (by kernel_rfl) (by kernel_rfl) (m5.cel.below hv1 (by have := m5.lt; omega)) (i := 12) (by omega) (by omega) (fun j hj => ldY_st _ (by omega) (stY_known _ hj (by omega)))) ?_
  refine Fx.Qt.v (.agg (Fx.varr 14 (evY v))) (fun v1 hv1 => Fx.x_loadA (x := evY v) (y := evY v) rfl rfl (by kernel_rfl) (by kernel_rfl) (m6.cel.below hv1 (by have := m6.lt; omega)) (i := 0) (by omega) (by omega) (fun j _ => by rw [Nat.zero_add])) ?_
  by_cases c19 : (lateE m.s.known v) = true
  ·refine Fx.Qt.call (v := .bool true) (by rfl) (fun v1 hv1 => Fx.r_call (args := [.agg (Fx.varr 6 (Fx.rv .u64 m.s.known)), .agg (Fx.varr 14 (evY v))]) rfl rfl Try.func101 rfl rfl) rfl (fun v1 hv1 => (e_late m.s.known v _ hv).mono fun e v2 h => ⟨by rw [h.1, c19], bch hv1 h.2⟩) ?_
   refine Fx.Qt.nil ?_
   intro wb1 hbwb1
   have s3 : Fx.Stp w2.heap.size w2 wb1 := Fx.Stp.of_below hbwb1
   have m7 := m4.up s3.old
   have m8 := m5.stp s3 (Nat.ne_of_lt (m5.lt))
   have m9 := m6.stp s3 (Nat.ne_of_lt (m6.lt))
   have b3 := s3.below b2 b2.size b2.size
   refine Fx.seqN (Fx.W.cond (b := true) rfl (fun _ => Fx.W.seq (Fx.W.list (Fx.L.v (.pointer (some ⟨p, 0, none⟩)) (Fx.x_move rfl rfl) ?_))) (fun h => nomatch h))
   refine Fx.L.v (.pointer (some ⟨p, 0, none⟩)) (Fx.x_assign rfl rfl) ?_
   refine Fx.L.v (.int .i64 (14)) (Fx.x_assign rfl rfl) ?_
   refine Fx.L.nil (Fx.seqN (Fx.W.ret (Fx.seqR (⟨.tuple #[.pointer (some ⟨p, 0, none⟩), .int .i64 (14)], Fx.retV2 Try.results57 (by exact rfl) (by exact rfl), ?_⟩))))
   have ee : applyE m.core v = 14 := by unfold applyE; rw [if_neg (by rw [c10]; decide)]; exact if_pos c19
   have ec : applyC m.core v = m.core := by unfold applyC; rw [if_neg (by rw [ee]; decide)]
   exact ⟨p, m, by rw [ee], ec.symm, m7, b3⟩
  ·rw [Bool.not_eq_true] at c19
   refine Fx.Qt.call (v := .bool false) (by rfl) (fun v1 hv1 => Fx.r_call (args := [.agg (Fx.varr 6 (Fx.rv .u64 m.s.known)), .agg (Fx.varr 14 (evY v))]) rfl rfl Try.func101 rfl rfl) rfl (fun v1 hv1 => (e_late m.s.known v _ hv).mono fun e v2 h => ⟨by rw [h.1, c19], bch hv1 h.2⟩) ?_
   refine Fx.Qt.nil ?_
   intro wb2 hbwb2
   have s4 : Fx.Stp w2.heap.size w2 wb2 := Fx.Stp.of_below hbwb2
   have m10 := m4.up s4.old
   have m11 := m5.stp s4 (Nat.ne_of_lt (m5.lt))
   have m12 := m6.stp s4 (Nat.ne_of_lt (m6.lt))
   have b4 := s4.below b2 b2.size b2.size
   refine Fx.seqN (Fx.W.cond (b := false) rfl (fun h => nomatch h) (fun _ => Fx.W.skip (Fx.seqN (Fx.W.seq (Fx.W.seq ?_)))))
   -- region 5 draws
   refine Fx.W.quiet (fun v1 => Below wb2.heap.size wb2 v1) (by kernel_rfl) (by kernel_rfl) (Below.refl _ _).drew ?_
   refine Fx.Qt.v (.pointer (some ⟨p, 0, none⟩)) (fun v1 hv1 => Fx.x_move rfl rfl) ?_
   refine Fx.Qt.v (.pointer (some ⟨p, 0, none⟩)) (fun v1 hv1 => Fx.x_nil rfl rfl) ?_
   refine Fx.Qt.v (.pointer (some ⟨p, 0, none⟩)) (fun v1 hv1 => Fx.x_field rfl rfl Try.underlying71 rfl (s := 20) (by kernel_rfl) rfl rfl) ?_
   refine Fx.Qt.v (.pointer (some ⟨p, 12, none⟩)) (fun v1 hv1 => Fx.x_field rfl rfl Try.underlying43 rfl (s := 6) (by kernel_rfl) rfl (by show _ + 12 = _; omega)) ?_
   refine Fx.Qt.v (.agg (Fx.varr 6 (Fx.rv .u64 m.s.known))) (fun v1 hv1 => Fx.x_loadA (x := ldY m) (y := Fx.rv .u64 m.s.known) rfl rfl (by kernel_rfl) (by kernel_rfl) (m11.cel.below hv1 (by have := m11.lt; omega)) (i := 12) (by omega) (by omega) (fun j hj => ldY_st _ (by omega) (stY_known _ hj (by omega)))) ?_
   refine Fx.Qt.v (.agg (Fx.varr 14 (evY v))) (fun v1 hv1 => Fx.x_loadA (x := evY v) (y := evY v) rfl rfl (by kernel_rfl) (by kernel_rfl) (m12.cel.below hv1 (by have := m12.lt; omega)) (i := 0) (by omega) (by omega) (fun j _ => by rw [Nat.zero_add])) ?_
   by_cases c27 : (readyE m.s.known v) = true
   ·refine Fx.Qt.call (v := .bool true) (by rfl) (fun v1 hv1 => Fx.r_call (args := [.agg (Fx.varr 6 (Fx.rv .u64 m.s.known)), .agg (Fx.varr 14 (evY v))]) rfl rfl Try.func102 rfl rfl) rfl (fun v1 hv1 => (e_ready m.s.known v _ hv hI.kn).mono fun e v2 h => ⟨by rw [h.1, c27], bch hv1 h.2⟩) ?_
    refine Fx.Qt.v (.bool false) (fun v1 hv1 => Fx.x_notF rfl rfl) ?_
    refine Fx.Qt.nil ?_
    intro wb3 hbwb3
    have s5 : Fx.Stp wb2.heap.size wb2 wb3 := Fx.Stp.of_below hbwb3
    have m13 := m10.up s5.old
    have m14 := m11.stp s5 (Nat.ne_of_lt (m11.lt))
    have m15 := m12.stp s5 (Nat.ne_of_lt (m12.lt))
    have b5 := s5.below b4 b4.size b4.size
    refine Fx.seqN (Fx.W.cond (b := false) rfl (fun h => nomatch h) (fun _ => Fx.W.skip (Fx.seqN (Fx.W.seq ?_))))
    obtain ⟨a, ha, ho⟩ := regE_nat (may_reg c10)
    refine Fx.W.list (Fx.L.v (.pointer (some ⟨g1, 0, none⟩)) (Fx.x_field rfl rfl Try.underlying54 rfl (s := 1) (by kernel_rfl) rfl rfl) ?_)
    refine Fx.L.v (.int .i64 (v.o)) (Fx.x_load1 (x := evY v) rfl rfl (by kernel_rfl) m15.cel (i := 0) (by omega) (by omega) rfl) ?_
    refine Fx.L.v (.int .i64 ((a : Int))) (Fx.x_sub rfl rfl rfl (Fx.i64e (by omega) (by omega))) ?_
    refine Fx.L.v (.int .i64 ((a : Int))) (Fx.x_assign rfl rfl) ?_
    refine Fx.L.nil (Fx.seqN (Fx.W.seq (Fx.W.seq (Fx.W.list (Fx.L.v (.pointer (some ⟨p, 0, none⟩)) (Fx.x_move rfl rfl) ?_)))))
    refine Fx.L.v (.int .i64 ((a : Int))) (Fx.x_move rfl rfl) ?_
    refine Fx.L.v (.pointer (some ⟨p, 0, none⟩)) (Fx.x_nil rfl rfl) ?_
    refine Fx.L.v (.pointer (some ⟨p, 0, none⟩)) (Fx.x_field rfl rfl Try.underlying71 rfl (s := 20) (by kernel_rfl) rfl rfl) ?_
    refine Fx.L.v (.pointer (some ⟨p, 0, none⟩)) (Fx.x_field rfl rfl Try.underlying43 rfl (s := 6) (by kernel_rfl) rfl rfl) ?_
    refine Fx.L.v (.pointer (some ⟨p, a, none⟩)) (Fx.x_index rfl rfl rfl Try.underlying39 (s := 1) (by kernel_rfl) (by omega) (by omega) (by omega)) ?_
    by_cases c39 : (m.s.inn a) = true
    ·refine Fx.L.v (.bool true) (Fx.x_load1 (x := ldY m) rfl rfl (by kernel_rfl) m14.cel (i := a) (by omega) (by omega) ((ldY_st _ (by omega) (stY_in _ (by omega))).trans (congrArg Value.bool c39))) ?_
     refine Fx.L.v (.bool false) (Fx.x_notF rfl rfl) ?_
     refine Fx.L.v (.bool false) (Fx.x_move rfl rfl) ?_
     refine Fx.L.v (.pointer (some ⟨p, 0, none⟩)) (Fx.x_move rfl rfl) ?_
     refine Fx.L.v (.int .i64 ((a : Int))) (Fx.x_move rfl rfl) ?_
     refine Fx.L.v (.pointer (some ⟨p, 0, none⟩)) (Fx.x_nil rfl rfl) ?_
     refine Fx.L.v (.pointer (some ⟨p, 0, none⟩)) (Fx.x_field rfl rfl Try.underlying71 rfl (s := 20) (by kernel_rfl) rfl rfl) ?_
     refine Fx.L.v (.pointer (some ⟨p, 6, none⟩)) (Fx.x_field rfl rfl Try.underlying43 rfl (s := 6) (by kernel_rfl) rfl (by show _ + 6 = _; omega)) ?_
     refine Fx.L.v (.pointer (some ⟨p, a + 6, none⟩)) (Fx.x_index rfl rfl rfl Try.underlying39 (s := 1) (by kernel_rfl) (by omega) (by omega) (by omega)) ?_
     by_cases c48 : (m.s.left a) = true
     ·refine Fx.L.v (.bool true) (Fx.x_load1 (x := ldY m) rfl rfl (by kernel_rfl) m14.cel (i := a + 6) (by omega) (by omega) ((ldY_st _ (by omega) (stY_left _ (by omega) (by omega))).trans (congrArg Value.bool c48))) ?_
      refine Fx.L.v (.bool true) (Fx.x_pickF rfl rfl rfl) ?_
      refine Fx.L.nil (Fx.seqN (Fx.W.cond (b := true) rfl (fun _ => Fx.W.seq (Fx.W.list (Fx.L.v (.pointer (some ⟨p, 0, none⟩)) (Fx.x_move rfl rfl) ?_))) (fun h => nomatch h)))
      refine Fx.L.v (.pointer (some ⟨p, 0, none⟩)) (Fx.x_assign rfl rfl) ?_
      refine Fx.L.v (.int .i64 (10)) (Fx.x_assign rfl rfl) ?_
      refine Fx.L.nil (Fx.seqN (Fx.W.ret (Fx.seqR (⟨.tuple #[.pointer (some ⟨p, 0, none⟩), .int .i64 (10)], Fx.retV2 Try.results57 (by exact rfl) (by exact rfl), ?_⟩))))
      have eN : regN v = a := by unfold regN; omega
      have ee : applyE m.core v = 10 := by unfold applyE; rw [if_neg (by rw [c10]; decide), if_neg (by rw [show lateE m.core.known v = false from c19]; decide), if_neg (by rw [show readyE m.core.known v = true from c27]; decide), eN]; exact if_pos (.inr c48)
      have ec : applyC m.core v = m.core := by unfold applyC; rw [if_neg (by rw [ee]; decide)]
      exact ⟨p, m, by rw [ee], ec.symm, m13, b5⟩
     ·rw [Bool.not_eq_true] at c48
      refine Fx.L.v (.bool false) (Fx.x_load1 (x := ldY m) rfl rfl (by kernel_rfl) m14.cel (i := a + 6) (by omega) (by omega) ((ldY_st _ (by omega) (stY_left _ (by omega) (by omega))).trans (congrArg Value.bool c48))) ?_
      refine Fx.L.v (.bool false) (Fx.x_pickF rfl rfl rfl) ?_
      refine Fx.L.nil (Fx.seqN (Fx.W.cond (b := false) rfl (fun h => nomatch h) (fun _ => Fx.W.skip (Fx.seqN (Fx.W.seq (Fx.W.list (Fx.L.v (.pointer (some ⟨p, 0, none⟩)) (Fx.x_move rfl rfl) ?_)))))))
      refine Fx.L.call (by rfl) (Fx.r_call (args := [.pointer (some ⟨p, 0, none⟩)]) rfl rfl Try.func103 rfl rfl) rfl ((l_copy m p _ m13.ldg (by have := hI.nn; have e : m.core.nn = m.s.nn := rfl; omega) m13.bt).mono ?_)
      rintro e w3 ⟨p2, m2, he, hco, hL2, hbc⟩
      refine ⟨.pointer (some ⟨p2, 0, none⟩), he, ?_⟩
      clear he
      have s6 := Fx.Stp.of_below hbc
      have m16 := m13.up s6.old
      have m17 := m14.stp s6 (Nat.ne_of_lt (m14.lt))
      have m18 := m15.stp s6 (Nat.ne_of_lt (m15.lt))
      have b6 := s6.below b5 b5.size b5.size
      have hI2 : InvW m2.core T := by rw [hco]; exact hI
      refine Fx.L.v (.pointer (some ⟨p2, 0, none⟩)) (Fx.x_assign rfl rfl) ?_
      refine Fx.L.nil (Fx.seqN (Fx.W.seq ?_))
      have hL2s := hL2
      refine Fx.W.list (Fx.L.v (.pointer (some ⟨p2, 0, none⟩)) (Fx.x_move rfl rfl) ?_)
      refine Fx.L.v (.agg (Fx.varr 14 (evY v))) (Fx.x_loadA (x := evY v) (y := evY v) rfl rfl (by kernel_rfl) (by kernel_rfl) m18.cel (i := 0) (by omega) (by omega) (fun j _ => by rw [Nat.zero_add])) ?_
      refine Fx.L.call (by rfl) (Fx.r_call (args := [.pointer (some ⟨p2, 0, none⟩), .agg (Fx.varr 14 (evY v))]) rfl rfl Try.func104 rfl rfl) rfl ((l_does m2 wb3.heap.size p2 a v _ hL2s hbc.size ha ho (by have h9 : m2.s.nn ≤ 33 := hI2.nn; omega) (Nat.le_trans hI2.gn hT) (fun i hi => Nat.le_trans (hI2.rn i hi) hT) hI2.tn hI2.dx hv c10 hI2.may).mono ?_)
      rintro e w4 ⟨he, hbd, hL3⟩
      refine ⟨.int .i64 (doesE m.core v), by rw [← hco]; exact he, ?_⟩
      clear he
      rw [hco] at hL3
      have b8 : Below wb3.heap.size wb3 w4 := hbc.trans hbd
      have b7 : Below w.heap.size w w4 := b6.trans (hbd.mono (Nat.le_trans (Nat.le_refl _) b5.size))
      have m19 : LdO w4 B p m := m13.up b8
      refine Fx.L.v (.int .i64 (doesE m.core v)) (Fx.x_assign rfl rfl) ?_
      refine Fx.L.nil (Fx.seqN (Fx.W.seq (Fx.W.seq (Fx.W.list (Fx.L.v (.int .i64 (doesE m.core v)) (Fx.x_move rfl rfl) ?_)))))
      by_cases c57 : (doesE m.core v) = 0
      ·refine Fx.L.v (.bool false) (Fx.x_neqF rfl rfl rfl c57) ?_
       refine Fx.L.nil (Fx.seqN (Fx.W.cond (b := false) rfl (fun h => nomatch h) (fun _ => Fx.W.skip (Fx.seqN (Fx.W.seq ?_)))))
       obtain ⟨m3, hc3, hL3b⟩ := hL3 c57
       have hMc := hL3b.c
       have hMn := hL3b.n
       have hMg := hL3b.g
       have hMt := hL3b.tc
       have hMtr := hL3b.t
       have hMr := hL3b.r
       have ek3 : m3.s.known = m.s.known := by show m3.core.known = _; rw [hc3, doesC_known]; rfl
       have hk3 := hI.kn a ha
       have hk3 : 0 ≤ m3.s.known a ∧ m3.s.known a < 1099511627776 := by rw [ek3]; exact hk3
       have lp2 := hL3b.pB
       have sw1 := b5.size
       -- region 14 draws
       refine Fx.W.reord [0, 1, 2, 3, 4, 5, 8, 9, 10, 6, 7, 11, 12] [0, 0, 0, 0, 0, 0, 4, 0, 0, 0, 0, 0, 3] Fx.Mk Fx.Mk.refl Fx.Mk.trans (certs := [(12, 6, [6])]) (by kernel_rfl) (by kernel_rfl) (by kernel_rfl) (by kernel_rfl) (by kernel_rfl) fun wt1 hbwt1 hzwt1 => ?_
       have s7 : Fx.Stp w4.heap.size w4 wt1 := Fx.Stp.of_below hbwt1
       have m20 := hMc.stp s7 (Nat.ne_of_lt (hMc.lt))
       have m21 := hMn.stp s7 (hMn.notNew (Nat.le_refl _))
       have m22 := hMg.stp s7 (hMg.notNew (Nat.le_refl _))
       have m23 := hMt.stp s7 (Nat.ne_of_lt (hMt.lt))
       have m24 := hMtr.stp s7 (hMtr.notNew (Nat.le_refl _))
       have m25 := hMr.up s7.old
       have b9 := s7.below b7 b7.size b7.size
       refine Fx.R.p (.pointer (some ⟨p2, 0, none⟩)) (fun v1 => Fx.x_move rfl rfl) ?_
       refine Fx.R.p (.int .i64 ((a : Int))) (fun v1 => Fx.x_move rfl rfl) ?_
       refine Fx.R.p (.pointer (some ⟨p2, 0, none⟩)) (fun v1 => Fx.x_nil rfl rfl) ?_
       refine Fx.R.p (.pointer (some ⟨p2, 0, none⟩)) (fun v1 => Fx.x_field rfl rfl Try.underlying71 rfl (s := 20) (by kernel_rfl) rfl rfl) ?_
       refine Fx.R.p (.pointer (some ⟨p2, 12, none⟩)) (fun v1 => Fx.x_field rfl rfl Try.underlying43 rfl (s := 6) (by kernel_rfl) rfl (by show _ + 12 = _; omega)) ?_
       refine Fx.R.p (.pointer (some ⟨p2, a + 12, none⟩)) (fun v1 => Fx.x_index rfl rfl rfl Try.underlying29 (s := 1) (by kernel_rfl) (by omega) (by omega) (by omega)) ?_
       refine Fx.R.p (.pointer (some ⟨p2, 0, none⟩)) (fun v1 => Fx.x_nil rfl rfl) ?_
       refine Fx.R.p (.pointer (some ⟨p2, 0, none⟩)) (fun v1 => Fx.x_field rfl rfl Try.underlying71 rfl (s := 20) (by kernel_rfl) rfl rfl) ?_
       refine Fx.R.p (.pointer (some ⟨p2, 12, none⟩)) (fun v1 => Fx.x_field rfl rfl Try.underlying43 rfl (s := 6) (by kernel_rfl) rfl (by show _ + 12 = _; omega)) ?_
       refine Fx.R.s (.int .u64 (m3.s.known a)) (Fx.x_load1 (x := ldY m3) rfl rfl (by kernel_rfl) m20.cel (i := a + 12) (by omega) (by omega) (ldY_st _ (by omega) (stY_known _ (by omega) (by omega)))) ?_
       refine Fx.R.p (.int .u64 (m3.s.known a + 1)) (fun v1 => Fx.x_add rfl rfl rfl (Fx.u64e (by omega) (by omega))) ?_
       refine Fx.R.p (.pointer (some ⟨p2, a + 12, none⟩)) (fun v1 => Fx.x_index rfl rfl rfl Try.underlying29 (s := 1) (by kernel_rfl) (by omega) (by omega) (by omega)) ?_
       refine Fx.R.eff (by rfl) ?_
       refine Fx.L.store1 (x := ldY m3) (u := .int .u64 (m3.s.known a + 1)) (by rfl) rfl rfl rfl rfl (by rfl) (by kernel_rfl) m20 (i := a + 12) (by omega) fun w5 m26 s8 z2 => ?_
       have hct1 := Fx.ChT.of_stp s8 m20.ty
       have m27 := m21.chT hct1 (by decide)
       have m28 := m22.chT hct1 (by decide)
       have m29 := m23.chT hct1 (by decide)
       have m30 := m24.chT hct1 (by decide)
       have m31 := m25.chT hct1 (by decide)
       have b10 := s8.below b9 b9.size (by omega)
       refine Fx.L.nil (Fx.R.nil (Fx.seqN (Fx.W.seq (Fx.W.list (Fx.L.v (.pointer (some ⟨p2, 0, none⟩)) (Fx.x_move rfl rfl) ?_)))))
       refine Fx.L.v (.pointer (some ⟨p2, 0, none⟩)) (Fx.x_assign rfl rfl) ?_
       refine Fx.L.v (.int .i64 (0)) (Fx.x_assign rfl rfl) ?_
       refine Fx.L.nil (Fx.seqN (Fx.W.ret (⟨.tuple #[.pointer (some ⟨p2, 0, none⟩), .int .i64 (0)], Fx.retV2 Try.results57 (by exact rfl) (by exact rfl), ?_⟩)))
       have eN : regN v = a := by unfold regN; omega
       have ee : applyE m.core v = 0 := by unfold applyE; rw [if_neg (by rw [c10]; decide), if_neg (by rw [show lateE m.core.known v = false from c19]; decide), if_neg (by rw [show readyE m.core.known v = true from c27]; decide), eN]; rw [if_neg (show ¬ (m.core.inn a = false ∨ m.core.left a = true) from fun h => h.elim (fun h => by rw [show m.core.inn a = true from c39] at h; cases h) (fun h => by rw [show m.core.left a = false from c48] at h; cases h))]; exact c57
       have hfin : LdO w5 wb3.heap.size p2 { m3 with s := { m3.s with known := updA m3.s.known a (m3.s.known a + 1) } } := { c := m26.to (ldY_known m3 ha rfl _), n := m27, g := m28, tc := m29, t := m30, r := m31, pB := hL3b.pB, tB := hL3b.tB, bn := hL3b.bn, bg := hL3b.bg, bt := hL3b.bt, br := hL3b.br }
       refine ⟨p2, { m3 with s := { m3.s with known := updA m3.s.known a (m3.s.known a + 1) } }, by rw [ee], ?_, hfin.mono (by have := hL.pB; have := lpp; omega), b10⟩
       unfold applyC; rw [if_pos ee]; unfold knowC; rw [eN, doesC_known, ← hc3, show m.core.known = m3.s.known from ek3.symm]; rfl
      ·refine Fx.L.v (.bool true) (Fx.x_neqT rfl rfl rfl c57) ?_
       refine Fx.L.nil (Fx.seqN (Fx.W.cond (b := true) rfl (fun _ => Fx.W.seq (Fx.W.list (Fx.L.v (.pointer (some ⟨p, 0, none⟩)) (Fx.x_move rfl rfl) ?_))) (fun h => nomatch h)))
       refine Fx.L.v (.int .i64 (doesE m.core v)) (Fx.x_move rfl rfl) ?_
       refine Fx.L.v (.pointer (some ⟨p, 0, none⟩)) (Fx.x_assign rfl rfl) ?_
       refine Fx.L.v (.int .i64 (doesE m.core v)) (Fx.x_assign rfl rfl) ?_
       refine Fx.L.nil (Fx.seqN (Fx.W.ret (Fx.seqR (⟨.tuple #[.pointer (some ⟨p, 0, none⟩), .int .i64 (doesE m.core v)], Fx.retV2 Try.results57 (by exact rfl) (by exact rfl), ?_⟩))))
       have eN : regN v = a := by unfold regN; omega
       have ee : applyE m.core v = doesE m.core v := by unfold applyE; rw [if_neg (by rw [c10]; decide), if_neg (by rw [show lateE m.core.known v = false from c19]; decide), if_neg (by rw [show readyE m.core.known v = true from c27]; decide), eN]; rw [if_neg (show ¬ (m.core.inn a = false ∨ m.core.left a = true) from fun h => h.elim (fun h => by rw [show m.core.inn a = true from c39] at h; cases h) (fun h => by rw [show m.core.left a = false from c48] at h; cases h))]
       have ec : applyC m.core v = m.core := by unfold applyC; rw [if_neg (by rw [ee]; exact c57)]
       exact ⟨p, m, by rw [ee], ec.symm, m19, b7⟩
    ·rw [Bool.not_eq_true] at c39
     refine Fx.L.v (.bool false) (Fx.x_load1 (x := ldY m) rfl rfl (by kernel_rfl) m14.cel (i := a) (by omega) (by omega) ((ldY_st _ (by omega) (stY_in _ (by omega))).trans (congrArg Value.bool c39))) ?_
     refine Fx.L.v (.bool true) (Fx.x_notT rfl rfl) ?_
     refine Fx.L.v (.bool true) (Fx.x_move rfl rfl) ?_
     refine Fx.L.skip (by rfl) rfl ?_
     refine Fx.L.skip (by rfl) rfl ?_
     refine Fx.L.skip (by rfl) rfl ?_
     refine Fx.L.skip (by rfl) rfl ?_
     refine Fx.L.skip (by rfl) rfl ?_
     refine Fx.L.skip (by rfl) rfl ?_
     refine Fx.L.skip (by rfl) rfl ?_
     refine Fx.L.v (.bool true) (Fx.x_pickT rfl rfl rfl) ?_
     refine Fx.L.nil (Fx.seqN (Fx.W.cond (b := true) rfl (fun _ => Fx.W.seq (Fx.W.list (Fx.L.v (.pointer (some ⟨p, 0, none⟩)) (Fx.x_move rfl rfl) ?_))) (fun h => nomatch h)))
     refine Fx.L.v (.pointer (some ⟨p, 0, none⟩)) (Fx.x_assign rfl rfl) ?_
     refine Fx.L.v (.int .i64 (10)) (Fx.x_assign rfl rfl) ?_
     refine Fx.L.nil (Fx.seqN (Fx.W.ret (Fx.seqR (⟨.tuple #[.pointer (some ⟨p, 0, none⟩), .int .i64 (10)], Fx.retV2 Try.results57 (by exact rfl) (by exact rfl), ?_⟩))))
     have eN : regN v = a := by unfold regN; omega
     have ee : applyE m.core v = 10 := by unfold applyE; rw [if_neg (by rw [c10]; decide), if_neg (by rw [show lateE m.core.known v = false from c19]; decide), if_neg (by rw [show readyE m.core.known v = true from c27]; decide), eN]; exact if_pos (.inl c39)
     have ec : applyC m.core v = m.core := by unfold applyC; rw [if_neg (by rw [ee]; decide)]
     exact ⟨p, m, by rw [ee], ec.symm, m13, b5⟩
   ·rw [Bool.not_eq_true] at c27
    refine Fx.Qt.call (v := .bool false) (by rfl) (fun v1 hv1 => Fx.r_call (args := [.agg (Fx.varr 6 (Fx.rv .u64 m.s.known)), .agg (Fx.varr 14 (evY v))]) rfl rfl Try.func102 rfl rfl) rfl (fun v1 hv1 => (e_ready m.s.known v _ hv hI.kn).mono fun e v2 h => ⟨by rw [h.1, c27], bch hv1 h.2⟩) ?_
    refine Fx.Qt.v (.bool true) (fun v1 hv1 => Fx.x_notT rfl rfl) ?_
    refine Fx.Qt.nil ?_
    intro wb4 hbwb4
    have s9 : Fx.Stp wb2.heap.size wb2 wb4 := Fx.Stp.of_below hbwb4
    have m32 := m10.up s9.old
    have m33 := m11.stp s9 (Nat.ne_of_lt (m11.lt))
    have m34 := m12.stp s9 (Nat.ne_of_lt (m12.lt))
    have b11 := s9.below b4 b4.size b4.size
    refine Fx.seqN (Fx.W.cond (b := true) rfl (fun _ => Fx.W.seq (Fx.W.list (Fx.L.v (.pointer (some ⟨p, 0, none⟩)) (Fx.x_move rfl rfl) ?_))) (fun h => nomatch h))
    refine Fx.L.v (.pointer (some ⟨p, 0, none⟩)) (Fx.x_assign rfl rfl) ?_
    refine Fx.L.v (.int .i64 (13)) (Fx.x_assign rfl rfl) ?_
    refine Fx.L.nil (Fx.seqN (Fx.W.ret (Fx.seqR (⟨.tuple #[.pointer (some ⟨p, 0, none⟩), .int .i64 (13)], Fx.retV2 Try.results57 (by exact rfl) (by exact rfl), ?_⟩))))
    have ee : applyE m.core v = 13 := by unfold applyE; rw [if_neg (by rw [c10]; decide), if_neg (by rw [show lateE m.core.known v = false from c19]; decide)]; exact if_pos c27
    have ec : applyC m.core v = m.core := by unfold applyC; rw [if_neg (by rw [ee]; decide)]
    exact ⟨p, m, by rw [ee], ec.symm, m32, b11⟩
 ·rw [Bool.not_eq_true] at c10
  refine Fx.L.call (by rfl) (Fx.r_call (args := [.agg (Fx.varr 14 (evY v))]) rfl rfl Try.func100 rfl rfl) rfl ((e_may v _ hv).mono ?_)
  rintro e w6 ⟨he, hb2⟩
  refine ⟨.bool false, by rw [he, c10], ?_⟩
  clear he
  have s10 := Fx.Stp.of_below hb2
  have m35 := m2.up s10.old
  have m36 := m3.stp s10 (Nat.ne_of_lt (m3.lt))
  have m37 := m1.stp s10 (Nat.ne_of_lt (m1.lt))
  have b12 := s10.below b1 b1.size b1.size
  refine Fx.L.v (.bool true) (Fx.x_notT rfl rfl) ?_
  refine Fx.L.nil (Fx.seqN (Fx.W.cond (b := true) rfl (fun _ => Fx.W.seq (Fx.W.list (Fx.L.v (.pointer (some ⟨p, 0, none⟩)) (Fx.x_move rfl rfl) ?_))) (fun h => nomatch h)))
  refine Fx.L.v (.pointer (some ⟨p, 0, none⟩)) (Fx.x_assign rfl rfl) ?_
  refine Fx.L.v (.int .i64 (1)) (Fx.x_assign rfl rfl) ?_
  refine Fx.L.nil (Fx.seqN (Fx.W.ret (Fx.seqR (⟨.tuple #[.pointer (some ⟨p, 0, none⟩), .int .i64 (1)], Fx.retV2 Try.results57 (by exact rfl) (by exact rfl), ?_⟩))))
  have ee : applyE m.core v = 1 := by unfold applyE; exact if_pos c10
  have ec : applyC m.core v = m.core := by unfold applyC; rw [if_neg (by rw [ee]; decide)]
  exact ⟨p, m, by rw [ee], ec.symm, m35, b12⟩
end Go.Proofs.Ytolmkjepieoloaa
namespace Go.Proofs.Ytolmkjepieoloaa
open Go.RowKit Rt
namespace Rt
structure Inv0 (L : LdC) (T : Nat) : Prop where
  tnn : L.tn = L.nn
  nn : L.nn ≤ 32
  tid : ∀ i, i < L.nn → L.t i 0 = L.id i ∧ L.t i 1 = L.par i
  rise : ∀ i j, i < j → j < L.nn → L.id i < L.id j
  pos : ∀ i, i < L.nn → 1 ≤ L.id i
  top : ∀ i, i < L.nn → L.id i < 7696581394432
  up : ∀ i, i < L.nn → L.par i = 0 ∨ ∃ j, j < L.nn ∧ L.id j = L.par i
  dep : ∀ x, ∃ D, D ≤ 4 ∧ findT L.t L.tn (iterT L.t L.tn D x) < 0
  gn : L.gn ≤ T
  rn : ∀ i, i < 6 → L.rn i ≤ T
  may : ∀ k, k < L.nn → may (L.R k) = true
  g47 : ∀ k, k < L.nn → ∀ a, a < 6 → L.R k a ≤ 140737488355328
  kn : KnOk L.known
theorem ilt (a : Int) : a < 0 ∨ 0 ≤ a := by omega
theorem findT_iff {t : Nat → Nat → Int} {tn : Nat} {x : Int} : 0 ≤ findT t tn x ↔ ∃ i, i < tn ∧ t i 0 = x := by
  constructor
  · intro h
    obtain ⟨j, hj, _, e⟩ := find_nat h
    exact ⟨j, hj, e⟩
  · rintro ⟨i, hi, e⟩
    rcases firstI_spec (fun i => decide (t i 0 = x)) tn with ⟨k, _, e2, _⟩ | ⟨_, h2⟩
    · unfold findT; rw [e2]; omega
    · have := h2 i hi; rw [decide_eq_true e] at this; cases this
theorem findT_no {t : Nat → Nat → Int} {tn : Nat} {x : Int} : findT t tn x < 0 ↔ ∀ i, i < tn → t i 0 ≠ x := by
  constructor
  · intro h i hi e
    have := findT_iff.2 ⟨i, hi, e⟩; omega
  · intro h
    rcases ilt (findT t tn x) with h1 | h1
    · exact h1
    · obtain ⟨i, hi, e⟩ := findT_iff.1 h1
      exact absurd e (h i hi)
theorem findT_at {t : Nat → Nat → Int} {tn i : Nat} (hu : ∀ i j, i < tn → j < tn → t i 0 = t j 0 → i = j) (hi : i < tn) : findT t tn (t i 0) = (i : Int) := by
  obtain ⟨j, hj, e, e2⟩ := find_nat (findT_iff.2 ⟨i, hi, rfl⟩)
  rw [e, hu j i hj hi e2]
theorem iter_shift {t : Nat → Nat → Int} {tn : Nat} {x : Int} : ∀ j, iterT t tn (j + 1) x = iterT t tn j (iterT t tn 1 x)
  | 0 => rfl
  | j + 1 => by
    show t (findT t tn (iterT t tn (j + 1) x)).toNat 1 = t (findT t tn (iterT t tn j (iterT t tn 1 x))).toNat 1
    rw [iter_shift j]
section
variable {L : LdC} {T : Nat}
theorem Inv0.inj (h : Inv0 L T) : ∀ i j, i < L.nn → j < L.nn → L.id i = L.id j → i = j := fun i j hi hj e => by
  rcases Nat.lt_trichotomy i j with h1 | h1 | h1
  · have := h.rise i j h1 hj; omega
  · exact h1
  · have := h.rise j i h1 hi; omega
theorem Inv0.tinj (h : Inv0 L T) : ∀ i j, i < L.tn → j < L.tn → L.t i 0 = L.t j 0 → i = j := fun i j hi hj e => by
  rw [h.tnn] at hi hj
  rw [(h.tid i hi).1, (h.tid j hj).1] at e
  exact h.inj i j hi hj e
theorem firstI_cong {P Q : Nat → Bool} : ∀ {n : Nat}, (∀ i, i < n → P i = Q i) → firstI P n = firstI Q n
  | 0, _ => rfl
  | n + 1, h => by
    simp only [firstI]
    rw [firstI_cong (n := n) fun i hi => h i (by omega), h n (by omega)]
theorem Inv0.node (h : Inv0 L T) (x : Int) : L.node x = findT L.t L.tn x := by
  unfold LdC.node findT
  rw [h.tnn]
  exact firstI_cong fun i hi => by rw [(h.tid i hi).1]
theorem Inv0.w (h : Inv0 L T) : InvW L T where
  nn := by have := h.nn; omega
  gn := h.gn
  rn := h.rn
  tn := h.node
  dx := fun x => by obtain ⟨D, hD, hx⟩ := h.dep x; exact ⟨D, by omega, hx⟩
  may := h.may
  kn := h.kn
theorem Inv0.mono {T' : Nat} (h : Inv0 L T) (hT : T ≤ T') : Inv0 L T' := { h with gn := Nat.le_trans h.gn hT, rn := fun i hi => Nat.le_trans (h.rn i hi) hT }
theorem insI_lt {α : Type} {f : Nat → α} {k i : Nat} {v : α} (h : i < k) : Fx.insI f k v i = f i := by unfold Fx.insI; rw [if_pos h]
theorem insI_eq {α : Type} {f : Nat → α} {k : Nat} {v : α} : Fx.insI f k v k = v := by unfold Fx.insI; rw [if_neg (by omega), if_pos rfl]
theorem insI_gt {α : Type} {f : Nat → α} {k i : Nat} {v : α} (h : k < i) : Fx.insI f k v i = f (i - 1) := by unfold Fx.insI; rw [if_neg (by omega), if_neg (by omega)]
theorem insI_old {k i n : Nat} (hk : k ≤ n) (hi : i < n + 1) : i = k ∨ ∃ j, j < n ∧ (∀ {α : Type} (f : Nat → α) (v : α), Fx.insI f k v i = f j) ∧ (j < k → i = j) ∧ (k ≤ j → i = j + 1) := by
  rcases Nat.lt_trichotomy i k with h | h | h
  · exact .inr ⟨i, by omega, fun f v => insI_lt h, fun _ => rfl, fun h2 => by omega⟩
  · exact .inl h
  · exact .inr ⟨i - 1, by omega, fun f v => insI_gt h, fun h2 => by omega, fun _ => by omega⟩
theorem insI_new {k j n : Nat} (hj : j < n) : ∃ i, i < n + 1 ∧ i ≠ k ∧ ∀ {α : Type} (f : Nat → α) (v : α), Fx.insI f k v i = f j := by
  by_cases h : j < k
  · exact ⟨j, by omega, by omega, fun f v => insI_lt h⟩
  · exact ⟨j + 1, by omega, by omega, fun f v => by rw [insI_gt (by omega)]; rfl⟩
theorem insT_eq (t : Nat → Nat → Int) (k : Nat) (id par : Int) (i : Nat) : insT t k id par i = Fx.insI t k (fun j => if j = 0 then id else par) i := rfl
theorem down_cong {P Q : Nat → Bool} : ∀ {n : Nat}, (∀ i, i < n → P i = Q i) → Fx.down P n = Fx.down Q n
  | 0, _ => rfl
  | n + 1, h => by
    unfold Fx.down
    rw [down_cong (n := n) fun i hi => h i (by omega), h n (by omega)]
structure TreeUp (t t' : Nat → Nat → Int) (tn : Nat) (id par : Int) : Prop where
  u : ∀ i j, i < tn → j < tn → t i 0 = t j 0 → i = j
  u' : ∀ i j, i < tn + 1 → j < tn + 1 → t' i 0 = t' j 0 → i = j
  no : ∀ i, i < tn → t i 0 ≠ id
  old : ∀ i, i < tn → ∃ j, j < tn + 1 ∧ t' j = t i
  new : ∃ j, j < tn + 1 ∧ t' j 0 = id ∧ t' j 1 = par
  back : ∀ j, j < tn + 1 → t' j 0 = id ∨ ∃ i, i < tn ∧ t' j = t i
variable {t t' : Nat → Nat → Int} {tn : Nat} {id par : Int}
theorem TreeUp.find (h : TreeUp t t' tn id par) {x : Int} : 0 ≤ findT t' (tn + 1) x ↔ (0 ≤ findT t tn x ∨ x = id) := by
  rw [findT_iff, findT_iff]
  constructor
  · rintro ⟨j, hj, e⟩
    rcases h.back j hj with h1 | ⟨i, hi, h1⟩
    · exact .inr (e.symm.trans h1)
    · exact .inl ⟨i, hi, by rw [← h1]; exact e⟩
  · rintro (⟨i, hi, e⟩ | e)
    · obtain ⟨j, hj, h1⟩ := h.old i hi
      exact ⟨j, hj, by rw [h1]; exact e⟩
    · obtain ⟨j, hj, h1, _⟩ := h.new
      exact ⟨j, hj, h1.trans e.symm⟩
theorem TreeUp.par_old (h : TreeUp t t' tn id par) {x : Int} (hx : 0 ≤ findT t tn x) : t' (findT t' (tn + 1) x).toNat 1 = t (findT t tn x).toNat 1 := by
  obtain ⟨i, hi, e⟩ := findT_iff.1 hx
  obtain ⟨j, hj, e2⟩ := h.old i hi
  have h1 : findT t tn x = (i : Int) := by rw [← e]; exact findT_at h.u hi
  have h2 : findT t' (tn + 1) x = (j : Int) := by
    have : t' j 0 = x := by rw [e2]; exact e
    rw [← this]; exact findT_at h.u' hj
  rw [h1, h2]
  show t' j 1 = t i 1
  rw [e2]
theorem TreeUp.iter (h : TreeUp t t' tn id par) {x : Int} : ∀ K, (∀ i, i < K → 0 ≤ findT t tn (iterT t tn i x)) → iterT t' (tn + 1) K x = iterT t tn K x
  | 0, _ => rfl
  | K + 1, hk => by
    have ih := TreeUp.iter h K fun i hi => hk i (by omega)
    show t' (findT t' (tn + 1) (iterT t' (tn + 1) K x)).toNat 1 = t (findT t tn (iterT t tn K x)).toNat 1
    rw [ih]; exact h.par_old (hk K (by omega))
theorem first_end {t : Nat → Nat → Int} {tn : Nat} {x : Int} : ∀ D, findT t tn (iterT t tn D x) < 0 → ∃ K, K ≤ D ∧ findT t tn (iterT t tn K x) < 0 ∧ ∀ i, i < K → 0 ≤ findT t tn (iterT t tn i x)
  | 0, h => ⟨0, Nat.le_refl _, h, fun _ hi => absurd hi (Nat.not_lt_zero _)⟩
  | D + 1, h => by
    by_cases hall : ∀ i, i < D + 1 → 0 ≤ findT t tn (iterT t tn i x)
    · exact ⟨D + 1, Nat.le_refl _, h, hall⟩
    · obtain ⟨i, hi⟩ := Classical.not_forall.1 hall
      obtain ⟨hi, h2⟩ := Classical.not_imp.1 hi
      rcases Nat.lt_or_ge i D with h3 | h3
      · -- an earlier end
        have : ∀ n, n ≤ D → (∃ j, j ≤ n ∧ findT t tn (iterT t tn j x) < 0) → ∃ K, K ≤ n ∧ findT t tn (iterT t tn K x) < 0 ∧ ∀ i, i < K → 0 ≤ findT t tn (iterT t tn i x) := by
          intro n
          induction n with
          | zero => rintro _ ⟨j, hj, hn⟩; obtain rfl : j = 0 := by omega
                    exact ⟨0, Nat.le_refl _, hn, fun _ hi => absurd hi (Nat.not_lt_zero _)⟩
          | succ n ih =>
            rintro hn ⟨j, hj, hj2⟩
            by_cases h5 : ∃ j, j ≤ n ∧ findT t tn (iterT t tn j x) < 0
            · obtain ⟨K, hK, h6⟩ := ih (by omega) h5; exact ⟨K, by omega, h6⟩
            · refine ⟨n + 1, Nat.le_refl _, ?_, fun i hi => ?_⟩
              · by_cases e : j = n + 1
                · rw [← e]; exact hj2
                · exact absurd ⟨j, by omega, hj2⟩ h5
              · rcases ilt (findT t tn (iterT t tn i x)) with h7 | h7
                · exact absurd ⟨i, by omega, h7⟩ h5
                · exact h7
        obtain ⟨K, hK, h4⟩ := this i (by omega) ⟨i, Nat.le_refl _, by omega⟩
        exact ⟨K, by omega, h4⟩
      · obtain rfl : i = D := by omega
        obtain ⟨K, hK, h4⟩ := first_end (t := t) (tn := tn) (x := x) i (by omega)
        exact ⟨K, by omega, h4⟩
theorem TreeUp.dep (h : TreeUp t t' tn id par) (hid : 1 ≤ id) (hup : ∀ i, i < tn → t i 1 = 0 ∨ 0 ≤ findT t tn (t i 1)) (hpar : par = 0 ∨ 0 ≤ findT t tn par) (hz : findT t tn 0 < 0) (hd : ∀ x, ∃ D, D ≤ 4 ∧ findT t tn (iterT t tn D x) < 0) (hdeep : ¬ deepT t tn par) :
    ∀ x, ∃ D, D ≤ 4 ∧ findT t' (tn + 1) (iterT t' (tn + 1) D x) < 0 := by
  -- an end of an old path is none of the new tree's nodes
  have hidn : findT t tn id < 0 := findT_no.2 h.no
  have key : ∀ x K, x ≠ id → findT t tn (iterT t tn K x) < 0 → (∀ i, i < K → 0 ≤ findT t tn (iterT t tn i x)) → findT t' (tn + 1) (iterT t' (tn + 1) K x) < 0 := fun x K hx hK hall => by
    rw [h.iter K hall]
    rcases ilt (findT t' (tn + 1) (iterT t tn K x)) with h1 | h1
    · exact h1
    · exfalso
      rcases h.find.1 h1 with h2 | h2
      · omega
      · cases K with
        | zero => exact hx h2
        | succ K =>
          have hf := hall K (by omega)
          obtain ⟨i, hi, e⟩ := findT_iff.1 hf
          have e3 : iterT t tn (K + 1) x = t i 1 := by
            show t (findT t tn (iterT t tn K x)).toNat 1 = t i 1
            rw [← e, findT_at h.u hi]; rfl
          rw [e3] at h2 hK
          rcases hup i hi with h4 | h4
          · omega
          · omega
  intro x
  by_cases hx : x = id
  · subst hx
    obtain ⟨i, hi⟩ := Classical.not_forall.1 hdeep
    obtain ⟨hi4, hi⟩ := Classical.not_imp.1 hi
    obtain ⟨K, hK, hK2, hall⟩ := first_end (t := t) (tn := tn) (x := par) i (by omega)
    refine ⟨K + 1, by omega, ?_⟩
    have e1 : iterT t' (tn + 1) 1 x = par := by
      obtain ⟨j, hj, e2, e3⟩ := h.new
      show t' (findT t' (tn + 1) x).toNat 1 = par
      rw [← e2, findT_at h.u' hj]; exact e3
    rw [iter_shift, e1]
    refine key par K ?_ hK2 hall
    rintro rfl
    rcases hpar with h1 | h1 <;> omega
  · obtain ⟨D, hD, hD2⟩ := hd x
    obtain ⟨K, hK, hK2, hall⟩ := first_end D hD2
    exact ⟨K, by omega, key x K hx hK2 hall⟩
end
end Rt
end Go.Proofs.Ytolmkjepieoloaa
namespace Go.Proofs.Ytolmkjepieoloaa
open Go.RowKit Rt
namespace Rt
section
variable {L : LdC} {T : Nat} {v : EvM}
theorem addE_ok {t : Nat → Nat → Int} {tn : Nat} {id par : Int} (h : addE t tn id par = 0) : id ≠ 0 ∧ findT t tn id < 0 ∧ (par = 0 ∨ 0 ≤ findT t tn par) ∧ tn < 32 ∧ ¬ deepT t tn par := by
  unfold addE at h
  split at h; · cases h
  rename_i h1
  split at h; · cases h
  rename_i h2
  split at h; · cases h
  rename_i h3
  split at h; · cases h
  rename_i h4
  refine ⟨h1, by omega, ?_, ?_, fun hd => h4 (.inr hd)⟩
  · rcases ilt (findT t tn par) with h5 | h5
    · by_cases h6 : par = 0
      · exact .inl h6
      · exact absurd ⟨h6, h5⟩ h3
    · exact .inr h5
  · rcases Nat.lt_or_ge tn 32 with h5 | h5
    · exact h5
    · exact absurd (Or.inl h5) h4
theorem may_bd (h : mayE v = true) : 1 ≤ v.o ∧ v.o ≤ 6 ∧ 1 ≤ v.seq ∧ v.seq < 1099511627776 := by
  have h1 := may_reg h
  have h2 := may_seq h
  unfold regE at h1
  simp only [Bool.and_eq_true, decide_eq_true_eq] at h1
  exact ⟨h1.1, h1.2, h2.1, h2.2⟩
theorem idE_may (h : mayE v = true) : idE v.o v.seq = 1099511627776 * v.o + v.seq := by
  have := may_bd h
  unfold idE; rw [if_pos (by omega)]
theorem regN_lt (h : mayE v = true) : regN v < 6 := by
  have := may_bd h; unfold regN; omega
theorem may_new {a : Nat} {n : Int} (ha : a < 6) (h0 : 0 ≤ n) (h1 : n ≤ 1125899906842624) : may (upd (fun _ => 0) a n) = true := by
  have e : ∀ p, upd (fun _ => 0) a n p = if p = a then n else 0 := fun p => rfl
  rw [may_iff]
  refine ⟨fun p hp => ?_, fun k hk => ?_, ?_⟩
  · rw [e]; split <;> omega
  · have hr : ∀ i j, R (upd (fun _ => 0) a n) i j = 0 := fun i j => by unfold R; rw [e, if_neg (by omega)]
    refine ⟨?_, ?_, hr k k⟩
    · unfold L
      simp only [hr]
      have hg : 0 ≤ G (upd (fun _ => 0) a n) k := by unfold G; rw [e]; split <;> omega
      have hf : F (upd (fun _ => 0) a n) k = 0 := by unfold F; rw [e, if_neg (by omega)]
      have hc : C (upd (fun _ => 0) a n) k = 0 := by unfold C; rw [e, if_neg (by omega)]
      omega
    · have hf : F (upd (fun _ => 0) a n) k = 0 := by unfold F; rw [e, if_neg (by omega)]
      have hc : C (upd (fun _ => 0) a n) k = 0 := by unfold C; rw [e, if_neg (by omega)]
      omega
  · unfold gSum G
    simp only [e]
    have : (if 0 = a then n else 0) + (if 1 = a then n else 0) + (if 2 = a then n else 0) + (if 3 = a then n else 0) + (if 4 = a then n else 0) + (if 5 = a then n else 0) = n := six a ha n
    omega
theorem makes_tree (h : Inv0 L T) (hm : mayE v = true) (hk : v.kind = 1) (hE : makesE L v = 0) : ∃ k, k ≤ L.nn ∧ 1 ≤ idE v.o v.seq ∧ L.nn < 32 ∧ (0 ≤ v.amt ∧ v.amt ≤ 140737488355328) ∧ (v.node = 0 ∨ 0 ≤ findT L.t L.tn v.node) ∧ ¬ deepT L.t L.tn v.node ∧
    makesC L v = { L with nn := L.nn + 1, id := Fx.insI L.id k (idE v.o v.seq), par := Fx.insI L.par k v.node, R := Fx.insI L.R k (upd (fun _ => 0) (regN v) v.amt), tn := L.tn + 1, t := insT L.t k (idE v.o v.seq) v.node } ∧
    (∀ i j, i < j → j < L.nn + 1 → Fx.insI L.id k (idE v.o v.seq) i < Fx.insI L.id k (idE v.o v.seq) j) ∧ (∀ i, i < L.nn + 1 → insT L.t k (idE v.o v.seq) v.node i 0 = Fx.insI L.id k (idE v.o v.seq) i ∧ insT L.t k (idE v.o v.seq) v.node i 1 = Fx.insI L.par k v.node i) ∧
    TreeUp L.t (insT L.t k (idE v.o v.seq) v.node) L.tn (idE v.o v.seq) v.node := by
  unfold makesE at hE
  split at hE
  · cases hE
  rename_i h47
  obtain ⟨a1, a2, a3, a4, a5⟩ := addE_ok hE
  have hb := may_bd hm
  have hid := idE_may hm
  have hro := regN_lt hm
  have hamt : 0 ≤ v.amt ∧ v.amt ≤ 140737488355328 := by
    have h8 : ¬ 140737488355328 < v.amt := fun h => h47 (.inr h)
    unfold mayE at hm
    simp only [Bool.and_eq_true] at hm
    have hf := hm.2
    unfold fieldsE at hf
    rw [if_pos hk] at hf
    simp only [Bool.and_eq_true, decide_eq_true_eq] at hf
    omega
  generalize hx : idE v.o v.seq = x at *
  have hx1 : 1 ≤ x := by omega
  have ekt : Fx.down (fun i => decide (x < L.t i 0)) L.tn = downI L.id L.nn x := by
    unfold downI; rw [h.tnn]; exact down_cong fun i hi => by rw [(h.tid i hi).1]
  have eC : makesC L v = { L with nn := L.nn + 1, id := Fx.insI L.id (downI L.id L.nn x) x, par := Fx.insI L.par (downI L.id L.nn x) v.node, R := Fx.insI L.R (downI L.id L.nn x) (upd (fun _ => 0) (regN v) v.amt), tn := L.tn + 1, t := insT L.t (downI L.id L.nn x) x v.node } := by
    unfold makesC; rw [hx, ekt]; rfl
  generalize hkk : downI L.id L.nn x = k at *
  have hkn : k ≤ L.nn := by rw [← hkk]; exact Fx.down_le _ _
  have hno : ∀ i, i < L.nn → L.id i ≠ x := fun i hi e => findT_no.1 a2 i (by rw [h.tnn]; exact hi) (by rw [(h.tid i hi).1]; exact e)
  have hB : ∀ q, k ≤ q → q < L.nn → x < L.id q := fun q h1 h2 => by
    have := Fx.down_gt (P := fun i => decide (x < L.id i)) (n := L.nn) (i := q) (by show downI L.id L.nn x ≤ q; omega) h2
    exact of_decide_eq_true this
  have hA : ∀ q, q < k → L.id q < x := fun q h1 => by
    obtain ⟨j, rfl⟩ : ∃ j, k = j + 1 := ⟨k - 1, by omega⟩
    have h2 := Fx.down_no (P := fun i => decide (x < L.id i)) (n := L.nn) (j := j) hkk
    have h3 : ¬ x < L.id j := of_decide_eq_false h2
    have h4 := hno j (by omega)
    by_cases e : q = j
    · subst e; omega
    · have := h.rise q j (by omega) (by omega); omega
  have hnt : L.nn < 32 := by have := h.tnn; omega
  have hrise : ∀ i j, i < j → j < L.nn + 1 → Fx.insI L.id k x i < Fx.insI L.id k x j := fun i j hij hj => by
    rcases insI_old hkn (show i < L.nn + 1 by omega) with rfl | ⟨q, hq, eq, q1, q2⟩
    · rcases insI_old hkn hj with rfl | ⟨r, hr, er, r1, r2⟩
      · omega
      · rw [insI_eq, er]
        exact hB r (by omega) hr
    · rcases insI_old hkn hj with rfl | ⟨r, hr, er, r1, r2⟩
      · rw [insI_eq, eq]
        exact hA q (by omega)
      · rw [eq, er]
        exact h.rise q r (by omega) hr
  have htid : ∀ i, i < L.nn + 1 → insT L.t k x v.node i 0 = Fx.insI L.id k x i ∧ insT L.t k x v.node i 1 = Fx.insI L.par k v.node i := fun i hi => by
    rw [insT_eq]
    rcases insI_old hkn hi with rfl | ⟨q, hq, eq, _, _⟩
    · rw [insI_eq, insI_eq, insI_eq]; exact ⟨rfl, rfl⟩
    · rw [eq, eq, eq]; exact h.tid q hq
  have hinj : ∀ i j, i < L.nn + 1 → j < L.nn + 1 → Fx.insI L.id k x i = Fx.insI L.id k x j → i = j := fun i j hi hj e => by
    rcases Nat.lt_trichotomy i j with h1 | h1 | h1
    · have := hrise i j h1 hj; omega
    · exact h1
    · have := hrise j i h1 hi; omega
  have hup : TreeUp L.t (insT L.t k x v.node) L.tn x v.node := {
    u := h.tinj
    u' := fun i j hi hj e => by
      rw [h.tnn] at hi hj
      rw [(htid i hi).1, (htid j hj).1] at e
      exact hinj i j hi hj e
    no := findT_no.1 a2
    old := fun i hi => by
      obtain ⟨j, hj, _, e⟩ := insI_new (k := k) hi
      exact ⟨j, hj, by rw [insT_eq]; exact e L.t _⟩
    new := ⟨k, by have := h.tnn; omega, by rw [insT_eq, insI_eq]; rfl, by rw [insT_eq, insI_eq]; rfl⟩
    back := fun j hj => by
      rw [h.tnn] at hj
      rcases insI_old hkn hj with rfl | ⟨q, hq, eq, _, _⟩
      · exact .inl (by rw [insT_eq, insI_eq]; rfl)
      · exact .inr ⟨q, by rw [h.tnn]; exact hq, by rw [insT_eq]; exact eq L.t _⟩ }
  exact ⟨k, hkn, hx1, hnt, hamt, a3, a5, eC, hrise, htid, hup⟩
theorem inv_makes (h : Inv0 L T) (hm : mayE v = true) (hk : v.kind = 1) (hE : makesE L v = 0) : Inv0 (makesC L v) (T + 1) := by
  obtain ⟨k, hkn, hx1, hnt, hamt, a3, a5, eC, hrise, htid, hup⟩ := makes_tree h hm hk hE
  have hb := may_bd hm
  have hid := idE_may hm
  have hro := regN_lt hm
  rw [eC]
  generalize hx : idE v.o v.seq = x at *
  have hold : ∀ j, j < L.nn → ∃ i, i < L.nn + 1 ∧ Fx.insI L.id k x i = L.id j := fun j hj => by
    obtain ⟨i, hi, _, e⟩ := insI_new (k := k) hj
    exact ⟨i, hi, e L.id x⟩
  have hz : findT L.t L.tn 0 < 0 := findT_no.2 fun i hi e => by
    rw [h.tnn] at hi
    rw [(h.tid i hi).1] at e
    have := h.pos i hi; omega
  have hpar1 : v.node = 0 ∨ ∃ j, j < L.nn ∧ L.id j = v.node := by
    rcases a3 with e | e
    · exact .inl e
    · obtain ⟨i, hi, e2⟩ := findT_iff.1 e
      rw [h.tnn] at hi
      exact .inr ⟨i, hi, by rw [← (h.tid i hi).1]; exact e2⟩
  exact {
    tnn := by show L.tn + 1 = L.nn + 1; rw [h.tnn]
    nn := by show L.nn + 1 ≤ 32; omega
    tid := htid
    rise := hrise
    pos := fun i hi => by
      show 1 ≤ Fx.insI L.id k x i
      rcases insI_old hkn hi with rfl | ⟨q, hq, eq, _, _⟩
      · rw [insI_eq]; exact hx1
      · rw [eq]; exact h.pos q hq
    top := fun i hi => by
      show Fx.insI L.id k x i < _
      rcases insI_old hkn hi with rfl | ⟨q, hq, eq, _, _⟩
      · rw [insI_eq]; omega
      · rw [eq]; exact h.top q hq
    up := fun i hi => by
      show Fx.insI L.par k v.node i = 0 ∨ ∃ j, j < L.nn + 1 ∧ Fx.insI L.id k x j = Fx.insI L.par k v.node i
      have hh : ∀ y, (y = 0 ∨ ∃ j, j < L.nn ∧ L.id j = y) → (y = 0 ∨ ∃ j, j < L.nn + 1 ∧ Fx.insI L.id k x j = y) := fun y hy => hy.imp id fun ⟨j, hj, e⟩ => by
        obtain ⟨i, hi, e2⟩ := hold j hj
        exact ⟨i, hi, e2.trans e⟩
      rcases insI_old hkn hi with rfl | ⟨q, hq, eq, _, _⟩
      · rw [insI_eq]; exact hh _ hpar1
      · rw [eq]; exact hh _ (h.up q hq)
    dep := by
      show ∀ y, ∃ D, D ≤ 4 ∧ findT (insT L.t k x v.node) (L.tn + 1) (iterT (insT L.t k x v.node) (L.tn + 1) D y) < 0
      refine hup.dep hx1 (fun i hi => ?_) a3 hz h.dep a5
      have hi' := hi
      rw [h.tnn] at hi'
      rw [(h.tid i hi').2]
      rcases h.up i hi' with e | ⟨j, hj, e⟩
      · exact .inl e
      · exact .inr (findT_iff.2 ⟨j, by rw [h.tnn]; exact hj, by rw [(h.tid j hj).1]; exact e⟩)
    gn := Nat.le_succ_of_le h.gn
    rn := fun i hi => Nat.le_succ_of_le (h.rn i hi)
    may := fun i hi => by
      show may (Fx.insI L.R k _ i) = true
      rcases insI_old hkn hi with rfl | ⟨q, hq, eq, _, _⟩
      · rw [insI_eq]; exact may_new hro hamt.1 (by omega)
      · rw [eq]; exact h.may q hq
    g47 := fun i hi b hb' => by
      show Fx.insI L.R k _ i b ≤ _
      rcases insI_old hkn hi with rfl | ⟨q, hq, eq, _, _⟩
      · rw [insI_eq]
        show (if b = regN v then v.amt else 0) ≤ _
        split <;> omega
      · rw [eq]; exact h.g47 q hq b hb'
    kn := h.kn }
theorem inv_R {L' : LdC} {T' : Nat} (h : Inv0 L T) (e1 : L'.nn = L.nn) (e2 : L'.id = L.id) (e3 : L'.par = L.par) (e4 : L'.tn = L.tn) (e5 : L'.t = L.t) (e6 : L'.known = L.known) (hg : L'.gn ≤ T') (hr : ∀ i, i < 6 → L'.rn i ≤ T')
    (hP : ∀ k, k < L.nn → may (L'.R k) = true ∧ ∀ a, a < 6 → L'.R k a ≤ 140737488355328) : Inv0 L' T' where
  tnn := by rw [e1, e4]; exact h.tnn
  nn := by rw [e1]; exact h.nn
  tid := by rw [e1, e2, e3, e5]; exact h.tid
  rise := by rw [e1, e2]; exact h.rise
  pos := by rw [e1, e2]; exact h.pos
  top := by rw [e1, e2]; exact h.top
  up := by rw [e1, e2, e3]; exact h.up
  dep := by rw [e4, e5]; exact h.dep
  gn := hg
  rn := hr
  may := by rw [e1]; exact fun k hk => (hP k hk).1
  g47 := by rw [e1]; exact fun k hk => (hP k hk).2
  kn := by rw [e6]; exact h.kn
def Ok47 (x : Nat → Int) : Prop := may x = true ∧ ∀ a, a < 6 → x a ≤ 140737488355328
theorem walkR_ok {f : (Nat → Int) → (Nat → Int) × Int} {idx : Nat → Nat} {R : Nat → Nat → Int} {n : Nat} (hs : ∀ x, Ok47 x → (f x).2 = 0 → Ok47 (f x).1) (h0 : ∀ k, k < n → Ok47 (R k)) : ∀ K k, k < n → Ok47 ((walkR f idx R K).1 k)
  | 0, k, hk => h0 k hk
  | K + 1, k, hk => by
    have ih := walkR_ok hs h0 (idx := idx) K
    unfold walkR
    by_cases h1 : (walkR f idx R K).2 = 0
    · rw [if_pos h1]
      by_cases h2 : (f ((walkR f idx R K).1 (idx K))).2 = 0
      · rw [if_pos h2]
        show Ok47 (if k = idx K then _ else _)
        by_cases h3 : k = idx K
        · rw [if_pos h3]; exact hs _ (by rw [← h3]; exact ih k hk) h2
        · rw [if_neg h3]; exact ih k hk
      · rw [if_neg h2]; exact ih k hk
    · rw [if_neg h1]; exact ih k hk
theorem take_47 {x : Nat → Int} {i n : Int} (h : Ok47 x) (h2 : (takeM x i n).2 = 0) : Ok47 (takeM x i n).1 := by
  obtain ⟨a, ha, _, _, _, _, _, hm, _, _, _, e⟩ := take_ok h2
  exact ⟨hm, fun b hb => by rw [e, upd_other _ _ _ _ (by omega)]; exact h.2 b hb⟩
theorem free_47 {x : Nat → Int} {i n : Int} (h : Ok47 x) (h2 : (freeM x i n).2 = 0) : Ok47 (freeM x i n).1 := by
  obtain ⟨a, ha, _, _, _, _, hm, _, _, _, e⟩ := free_ok h2
  exact ⟨hm, fun b hb => by rw [e, upd_other _ _ _ _ (by omega)]; exact h.2 b hb⟩
theorem move_47 {x : Nat → Int} {i j n : Int} (h : Ok47 x) (h2 : (moveM x i j n).2 = 0) : Ok47 (moveM x i j n).1 := by
  obtain ⟨a, b, ha, hb, _, _, _, _, _, _, hm, e⟩ := move_ok h2
  exact ⟨hm.may, fun c hc => by rw [e, upd_other _ _ _ _ (by omega)]; exact h.2 c hc⟩
theorem raise_47 {x : Nat → Int} {a : Nat} {n : Int} (ha : a < 6) (h : Ok47 x) (hn : 0 ≤ n) (h2 : ¬ 140737488355328 < x a + n) : Ok47 (upd x a (x a + n)) := by
  have hm := (may_iff x).1 h.1
  have e : ∀ p, upd x a (x a + n) p = if p = a then x a + n else x p := fun p => rfl
  have hx := hm.1 a (by omega)
  have hg : ∀ b, b < 6 → upd x a (x a + n) b ≤ 140737488355328 := fun b hb => by
    rw [e]; split
    · omega
    · exact h.2 b hb
  refine ⟨(may_iff _).2 ⟨fun p hp => ?_, fun k hk => ?_, ?_⟩, hg⟩
  · have := hm.1 p hp
    rw [e]; split <;> omega
  · obtain ⟨h3, h4, h5⟩ := hm.2.1 k hk
    have hc : C (upd x a (x a + n)) k = C x k := by unfold C; rw [e, if_neg (by omega)]
    have hf : F (upd x a (x a + n)) k = F x k := by unfold F; rw [e, if_neg (by omega)]
    refine ⟨?_, ?_, ?_⟩
    · rw [L_low x a (by omega), hc, hf, G_upd]; split <;> omega
    · rw [hc, hf]; exact h4
    · unfold R; rw [e, if_neg (by omega)]; exact h5
  · unfold gSum G
    have := hg 0 (by omega); have := hg 1 (by omega); have := hg 2 (by omega); have := hg 3 (by omega); have := hg 4 (by omega); have := hg 5 (by omega)
    omega
theorem Inv0.ok47 (h : Inv0 L T) : ∀ k, k < L.nn → Ok47 (L.R k) := fun k hk => ⟨h.may k hk, h.g47 k hk⟩
theorem rn_more (h : Inv0 L T) (a : Nat) : ∀ i, i < 6 → updA L.rn a (L.rn a + 1) i ≤ T + 1 := fun i hi => by
  unfold updA
  by_cases e : i = a
  · subst e; rw [if_pos rfl]; have := h.rn i hi; omega
  · rw [if_neg e]; have := h.rn i hi; omega
theorem updA_ok {q : Nat} {r : Nat → Int} (h : ∀ k, k < L.nn → Ok47 (L.R k)) (hr : Ok47 r) : ∀ k, k < L.nn → Ok47 (updA L.R q r k) := fun k hk => by
  unfold updA; split
  · exact hr
  · exact h k hk
theorem Inv0.nodeK (h : Inv0 L T) {x : Int} (hx : ¬ L.node x < 0) : (L.node x).toNat < L.nn := by
  rw [h.node] at hx ⊢
  obtain ⟨j, hj, e, _⟩ := find_nat (show 0 ≤ findT L.t L.tn x by omega)
  rw [e]; have := h.tnn; simp; omega
theorem inv_takes (h : Inv0 L T) (hw : ∀ k, k < L.nn → Ok47 ((takesW L v).1 k)) : Inv0 (takesC L v) (T + 1) := by
  unfold takesC addReq
  generalize takesW L v = W at hw
  exact inv_R h rfl rfl rfl rfl rfl rfl (Nat.succ_le_succ h.gn) (rn_more h _) hw
theorem inv_frees (h : Inv0 L T) (hw : ∀ k, k < L.nn → Ok47 ((freesW L v).1 k)) : Inv0 (freesC L v) (T + 1) := by
  unfold freesC addReq
  generalize freesW L v = W at hw
  exact inv_R h rfl rfl rfl rfl rfl rfl (Nat.le_succ_of_le h.gn) (rn_more h _) hw
theorem inv_does (h : Inv0 L T) (hm : mayE v = true) (hE : doesE L v = 0) : Inv0 (doesC L v) (T + 1) := by
  have hk := fields_kind hm
  have hro := regN_lt hm
  have hg := h.gn
  have hT : ∀ i, i < 6 → L.rn i ≤ T + 1 := fun i hi => Nat.le_succ_of_le (h.rn i hi)
  unfold doesE at hE
  unfold doesC
  by_cases k1 : v.kind = 1
  · rw [if_pos k1] at hE ⊢; exact inv_makes h hm k1 hE
  by_cases k2 : v.kind = 2
  · rw [if_neg k1, if_pos k2] at hE ⊢
    unfold raiseE at hE
    split at hE; · cases hE
    rename_i n1
    split at hE; · cases hE
    rename_i n2
    have hb := fields_amt hm (.inl k2)
    exact inv_R h rfl rfl rfl rfl rfl rfl (Nat.le_succ_of_le hg) hT (updA_ok h.ok47 (raise_47 hro (h.ok47 _ (h.nodeK n1)) (by omega) n2))
  by_cases k3 : v.kind = 3
  · rw [if_neg k1, if_neg k2, if_pos k3] at hE ⊢
    have hw : ∀ k, k < L.nn → Ok47 ((takesW L v).1 k) := by unfold takesW; exact walkR_ok (fun x => take_47) h.ok47 _
    exact inv_takes h hw
  by_cases k4 : v.kind = 4
  · rw [if_neg k1, if_neg k2, if_neg k3, if_pos k4] at hE ⊢
    have hw : ∀ k, k < L.nn → Ok47 ((freesW L v).1 k) := by unfold freesW; exact walkR_ok (fun x => free_47) h.ok47 _
    exact inv_frees h hw
  by_cases k5 : v.kind = 5
  · rw [if_neg k1, if_neg k2, if_neg k3, if_neg k4, if_pos k5] at hE ⊢
    unfold movesE at hE
    split at hE; · cases hE
    rename_i n1
    split at hE; · cases hE
    exact inv_R h rfl rfl rfl rfl rfl rfl (Nat.le_succ_of_le hg) hT (updA_ok h.ok47 (move_47 (h.ok47 _ (h.nodeK n1)) hE))
  rw [if_neg k1, if_neg k2, if_neg k3, if_neg k4, if_neg k5]
  split
  · exact inv_R h rfl rfl rfl rfl rfl rfl (Nat.le_succ_of_le hg) hT h.ok47
  · exact inv_R h rfl rfl rfl rfl rfl rfl (Nat.le_succ_of_le hg) hT h.ok47
theorem inv0_apply (h : Inv0 L T) : Inv0 (applyC L v) (T + 1) := by
  unfold applyC
  by_cases h0 : applyE L v = 0
  · rw [if_pos h0]
    unfold applyE at h0
    split at h0; · cases h0
    rename_i h1
    split at h0; · cases h0
    split at h0; · cases h0
    rename_i h3
    split at h0; · cases h0
    have hm : mayE v = true := by simpa using h1
    have hr : readyE L.known v = true := by simpa using h3
    have hd := inv_does h hm h0
    have hro := regN_lt hm
    have hs := may_seq hm
    refine { hd with kn := fun i hi => ?_ }
    have ek : (knowC (doesC L v) v).known = updA L.known (regN v) (L.known (regN v) + 1) := by unfold knowC; simp only [doesC_known]
    rw [ek]
    unfold readyE at hr
    simp only [Bool.and_eq_true, decide_eq_true_eq] at hr
    have hk := h.kn
    unfold updA
    split
    · have h5 := hr.1.2
      have h6 : v.seq = L.known (regN v) + 1 := h5
      have := hk (regN v) hro
      omega
    · exact hk i hi
  · rw [if_neg h0]; exact h.mono (Nat.le_succ T)
end
end Rt
end Go.Proofs.Ytolmkjepieoloaa
namespace Go.Proofs.Ytolmkjepieoloaa
open Go.RowKit Rt
namespace Rt
def cntP (t : Nat → Nat → Int) (tn : Nat) (x y : Int) : Nat → Int
  | 0 => 0
  | k + 1 => cntP t tn x y k + if iterT t tn k x = y then 1 else 0
def cntT (t : Nat → Nat → Int) (tn : Nat) (x y : Int) : Int := cntP t tn x y (pathK t tn x)
def openG (t : Nat → Nat → Int) (tn : Nat) (g : Nat → Int) (y : Int) : Int := if g 4 = 0 then g 3 * cntT t tn (g 2) y else 0
def openN (t : Nat → Nat → Int) (tn : Nat) (g : Nat → Nat → Int) (y : Int) : Nat → Int
  | 0 => 0
  | q + 1 => openN t tn g y q + openG t tn (g q) y
structure InvS (L : LdC) : Prop where
  us : ∀ k, k < L.nn → uSum (L.R k) = openN L.t L.tn L.g (L.id k) L.gn
  gb : ∀ q, q < L.gn → 0 ≤ findT L.t L.tn (L.g q 2) ∧ 1 ≤ L.g q 0 ∧ L.g q 0 ≤ 6 ∧ 0 ≤ L.g q 3 ∧ L.g q 3 ≤ 1125899906842624
structure Inv (L : LdC) (T : Nat) : Prop extends Inv0 L T where
  s : InvS L
section
variable {L : LdC} {T : Nat} {v : EvM}
theorem lead_lt {P : Nat → Bool} : ∀ {n i : Nat}, i < lead P n → P i = true
  | 0, i, h => absurd h (Nat.not_lt_zero _)
  | n + 1, i, h => by
    unfold lead at h
    by_cases e : lead P n = n ∧ P n = true
    · rw [if_pos e] at h
      by_cases e2 : i = n
      · rw [e2]; exact e.2
      · exact lead_lt (n := n) (by omega)
    · rw [if_neg e] at h; exact lead_lt h
theorem pathK_lt {t : Nat → Nat → Int} {tn i : Nat} {x : Int} (h : i < pathK t tn x) : 0 ≤ findT t tn (iterT t tn i x) := of_decide_eq_true (lead_lt (P := fun i => decide (0 ≤ findT t tn (iterT t tn i x))) h)
theorem open_cong {t t' : Nat → Nat → Int} {tn tn' : Nat} {g g' : Nat → Nat → Int} {y y' : Int} : ∀ n, (∀ q, q < n → openG t' tn' (g' q) y' = openG t tn (g q) y) → openN t' tn' g' y' n = openN t tn g y n
  | 0, _ => rfl
  | n + 1, h => by unfold openN; rw [open_cong n fun q hq => h q (by omega), h n (by omega)]
theorem open_zero {t : Nat → Nat → Int} {tn : Nat} {g : Nat → Nat → Int} {y : Int} : ∀ n, (∀ q, q < n → openG t tn (g q) y = 0) → openN t tn g y n = 0
  | 0, _ => rfl
  | n + 1, h => by unfold openN; rw [open_zero n fun q hq => h q (by omega), h n (by omega)]; rfl
theorem open_upd {t : Nat → Nat → Int} {tn k : Nat} {g : Nat → Nat → Int} {x : Nat → Int} {y : Int} : ∀ n, k < n → openN t tn (updA g k x) y n = openN t tn g y n - openG t tn (g k) y + openG t tn x y
  | 0, h => absurd h (Nat.not_lt_zero _)
  | n + 1, h => by
    unfold openN
    by_cases e : k = n
    · subst e
      rw [open_cong (t := t) (tn := tn) (g := g) (y := y) k fun q hq => by unfold updA; rw [if_neg (by omega)]]
      unfold updA; rw [if_pos rfl]; omega
    · rw [open_upd n (by omega)]
      have : updA g k x n = g n := if_neg (fun h => e h.symm)
      rw [this]; omega
theorem open_ins {t : Nat → Nat → Int} {tn k : Nat} {g : Nat → Nat → Int} {x : Nat → Int} {y : Int} : ∀ n, k ≤ n → openN t tn (Fx.insI g k x) y (n + 1) = openN t tn g y n + openG t tn x y
  | 0, h => by
    obtain rfl : k = 0 := by omega
    show (0 : Int) + openG t tn (Fx.insI g 0 x 0) y = 0 + _
    rw [insI_eq]
  | n + 1, h => by
    by_cases e : k = n + 1
    · subst e
      show openN t tn (Fx.insI g (n + 1) x) y (n + 1) + openG t tn (Fx.insI g (n + 1) x (n + 1)) y = _
      rw [insI_eq, open_cong (t := t) (tn := tn) (g := g) (y := y) (n + 1) fun q hq => by rw [insI_lt hq]]
    · show openN t tn (Fx.insI g k x) y (n + 1) + openG t tn (Fx.insI g k x (n + 1)) y = openN t tn g y n + openG t tn (g n) y + _
      rw [open_ins n (by omega), insI_gt (by omega), Nat.add_sub_cancel]; omega
def cntI (idx : Nat → Nat) (k : Nat) : Nat → Int
  | 0 => 0
  | j + 1 => cntI idx k j + if idx j = k then 1 else 0
theorem walkR_sum {f : (Nat → Int) → (Nat → Int) × Int} {idx : Nat → Nat} {R : Nat → Nat → Int} {d : Int} (hf : ∀ x, (f x).2 = 0 → uSum (f x).1 = uSum x + d) : ∀ K, (walkR f idx R K).2 = 0 → ∀ k, uSum ((walkR f idx R K).1 k) = uSum (R k) + d * cntI idx k K
  | 0, _, k => by show uSum (R k) = uSum (R k) + d * 0; omega
  | K + 1, h, k => by
    unfold walkR at h ⊢
    by_cases h1 : (walkR f idx R K).2 = 0
    · have ih := walkR_sum hf K h1 k
      rw [if_pos h1] at h ⊢
      by_cases h2 : (f ((walkR f idx R K).1 (idx K))).2 = 0
      · rw [if_pos h2]
        show uSum (updA _ (idx K) _ k) = _
        unfold updA cntI
        rw [Int.mul_add]
        by_cases h3 : k = idx K
        · subst h3
          rw [if_pos rfl, if_pos rfl, hf _ h2, ih]; omega
        · rw [if_neg h3, if_neg (fun h => h3 h.symm), ih]; omega
      · rw [if_neg h2] at h; exact absurd h h2
    · rw [if_neg h1] at h; exact absurd h h1
theorem cnt_eq {t : Nat → Nat → Int} {tn k : Nat} {x y : Int} {idx : Nat → Nat} : ∀ K, (∀ i, i < K → (idx i = k ↔ iterT t tn i x = y)) → cntI idx k K = cntP t tn x y K
  | 0, _ => rfl
  | K + 1, h => by
    unfold cntI cntP
    rw [cnt_eq K fun i hi => h i (by omega)]
    by_cases e : idx K = k
    · rw [if_pos e, if_pos ((h K (by omega)).1 e)]
    · rw [if_neg e, if_neg (fun h2 => e ((h K (by omega)).2 h2))]
theorem idx_iff (h : Inv0 L T) {x : Int} {i k : Nat} (hk : k < L.nn) (hi : i < pathK L.t L.tn x) : idxT L x i = k ↔ iterT L.t L.tn i x = L.id k := by
  obtain ⟨j, hj, e, e2⟩ := find_nat (pathK_lt hi)
  have hj' : j < L.nn := by rw [← h.tnn]; exact hj
  have hx : idxT L x i = j := by unfold idxT; rw [h.node, e]; rfl
  rw [hx]
  have e3 : L.id j = iterT L.t L.tn i x := by rw [← (h.tid j hj').1]; exact e2
  constructor
  · rintro rfl; exact e3.symm
  · intro e4; exact h.inj j k hj' hk (e3.trans e4)
theorem uSum_low {x : Nat → Int} {a : Nat} {n : Int} (ha : a < 6) : uSum (upd x a n) = uSum x := by
  have hc : ∀ k, C (upd x a n) k = C x k := fun k => upd_other _ _ _ _ (by omega)
  have hf : ∀ k, F (upd x a n) k = F x k := fun k => upd_other _ _ _ _ (by omega)
  unfold uSum; simp only [hc, hf]
theorem req_some (h : mayE v = true) (hk : v.kind = 4) : 1 ≤ v.req := by
  unfold mayE at h
  simp only [Bool.and_eq_true] at h
  have hf := h.2
  unfold fieldsE at hf
  rw [if_neg (by omega), if_neg (by omega), if_neg (by omega), if_pos hk] at hf
  simp only [Bool.and_eq_true, decide_eq_true_eq] at hf
  exact hf.1.1
theorem gb_ins {n k : Nat} {g : Nat → Nat → Int} {x : Nat → Int} (hk : k ≤ n) (P : (Nat → Int) → Prop) (h : ∀ q, q < n → P (g q)) (hx : P x) : ∀ q, q < n + 1 → P (Fx.insI g k x q) := fun q hq => by
  rcases insI_old hk hq with rfl | ⟨j, hj, e, _, _⟩
  · rw [insI_eq]; exact hx
  · rw [e]; exact h j hj
attribute [local irreducible] pathK in
theorem invS_takes (h0 : Inv0 L T) (h : InvS L) (hm : mayE v = true) (hk : v.kind = 3) (hE : takesE L v = 0) : InvS (takesC L v) := by
  unfold takesE at hE
  split at hE; · cases hE
  split at hE; · cases hE
  rename_i hp
  have hb := may_bd hm
  have ha := fields_amt hm (.inr (.inl hk))
  unfold takesC addReq
  have hsum := walkR_sum (f := fun x => takeM x v.o v.amt) (idx := idxT L v.node) (R := L.R) (d := v.amt) (fun x hx => by obtain ⟨_, _, _, _, _, _, _, _, _, _, hu, _⟩ := take_ok hx; exact hu) _ hE
  refine ⟨fun k hk => ?_, fun q hq => ?_⟩
  · show uSum ((takesW L v).1 k) = openN L.t L.tn (Fx.insI L.g (Fx.down (fun i => gtG v (L.g i)) L.gn) (grN v)) (L.id k) (L.gn + 1)
    rw [open_ins _ (Fx.down_le _ _)]
    have := hsum k
    rw [show openG L.t L.tn (grN v) (L.id k) = v.amt * cntT L.t L.tn v.node (L.id k) from rfl, ← h.us k hk]
    unfold cntT
    rw [← cnt_eq (idx := idxT L v.node) (k := k) _ fun i hi => idx_iff h0 hk hi]
    exact this
  · exact gb_ins (Fx.down_le _ _) (fun y => 0 ≤ findT L.t L.tn (y 2) ∧ 1 ≤ y 0 ∧ y 0 ≤ 6 ∧ 0 ≤ y 3 ∧ y 3 ≤ 1125899906842624) h.gb
      ⟨pathK_lt (i := 0) (x := v.node) (by omega), hb.1, hb.2.1, by show 0 ≤ v.amt; omega, ha.2⟩ q hq
attribute [local irreducible] pathK in
theorem invS_frees (h0 : Inv0 L T) (h : InvS L) (hm : mayE v = true) (hk : v.kind = 4) (hE : freesE L v = 0) : InvS (freesC L v) := by
  unfold freesE at hE
  split at hE; · cases hE
  split at hE; · cases hE
  rename_i hp
  have hr := req_some hm hk
  have hg : 0 ≤ L.grant v.o v.of := by rcases ilt (L.grant v.o v.of) with h | h; · exact absurd (.inl h) hp
                                       · exact h
  have hz : L.g (kgN L v) 4 = 0 := by
    by_cases e : L.g (kgN L v) 4 = 0
    · exact e
    · exact absurd (.inr e) hp
  have hkg : kgN L v < L.gn := by
    rcases firstI_spec (fun i => decide (L.g i 0 = v.o) && decide (L.g i 1 = v.of)) L.gn with ⟨k, hk, e, _⟩ | ⟨e, _⟩
    · have e' : L.grant v.o v.of = (k : Int) := e
      unfold kgN; rw [e']; exact hk
    · have e' : L.grant v.o v.of = -1 := e
      omega
  unfold freesC addReq freesW
  unfold freesW at hE
  generalize kgN L v = q at *
  have hsum := walkR_sum (f := fun x => freeM x v.o (L.g q 3)) (idx := idxT L (L.g q 2)) (R := L.R) (d := -(L.g q 3)) (fun x hx => by obtain ⟨_, _, _, _, _, _, _, _, _, hu, _⟩ := free_ok hx; rw [hu]; omega) _ hE
  have hb := h.gb q hkg
  refine ⟨fun k hk => ?_, fun p hp => ?_⟩
  · show uSum ((walkR _ _ _ _).1 k) = openN L.t L.tn (updA L.g q (updA (L.g q) 4 v.req)) (L.id k) L.gn
    rw [open_upd _ hkg, ← h.us k hk, hsum k]
    have e1 : openG L.t L.tn (updA (L.g q) 4 v.req) (L.id k) = 0 := by
      unfold openG; rw [if_neg]; show ¬ v.req = 0; omega
    have e2 : openG L.t L.tn (L.g q) (L.id k) = L.g q 3 * cntT L.t L.tn (L.g q 2) (L.id k) := if_pos hz
    rw [e1, e2]
    unfold cntT
    rw [← cnt_eq (idx := idxT L (L.g q 2)) (k := k) _ fun i hi => idx_iff h0 hk hi, Int.neg_mul]
    omega
  · show 0 ≤ findT L.t L.tn (updA L.g q (updA (L.g q) 4 v.req) p 2) ∧ 1 ≤ updA L.g q (updA (L.g q) 4 v.req) p 0 ∧ updA L.g q (updA (L.g q) 4 v.req) p 0 ≤ 6 ∧ 0 ≤ updA L.g q (updA (L.g q) 4 v.req) p 3 ∧ updA L.g q (updA (L.g q) 4 v.req) p 3 ≤ 1125899906842624
    by_cases e : p = q
    · subst e
      have e1 : ∀ j, j ≠ 4 → updA L.g p (updA (L.g p) 4 v.req) p j = L.g p j := fun j hj => by
        show (if p = p then updA (L.g p) 4 v.req else L.g p) j = _
        rw [if_pos rfl]; exact if_neg hj
      rw [e1 2 (by omega), e1 0 (by omega), e1 3 (by omega)]; exact hb
    · have e1 : updA L.g q (updA (L.g q) 4 v.req) p = L.g p := if_neg e
      rw [e1]; exact h.gb p hp
theorem invS_R {L' : LdC} (h : InvS L) (e1 : L'.nn = L.nn) (e2 : L'.id = L.id) (e3 : L'.tn = L.tn) (e4 : L'.t = L.t) (e5 : L'.gn = L.gn) (e6 : L'.g = L.g) (hR : ∀ k, k < L.nn → uSum (L'.R k) = uSum (L.R k)) : InvS L' := by
  refine ⟨fun k hk => ?_, fun q hq => ?_⟩
  · rw [e1] at hk; rw [e2, e3, e4, e5, e6, hR k hk]; exact h.us k hk
  · rw [e5] at hq; rw [e3, e4, e6]; exact h.gb q hq
theorem updA_u {q : Nat} {r : Nat → Int} {R : Nat → Nat → Int} (hr : uSum r = uSum (R q)) (k : Nat) : uSum (updA R q r k) = uSum (R k) := by
  unfold updA; split
  · rename_i e; rw [e]; exact hr
  · rfl
theorem TreeUp.path {t t' : Nat → Nat → Int} {tn : Nat} {id par z y : Int} (h : TreeUp t t' tn id par) (hid : 1 ≤ id) (hup : ∀ i, i < tn → t i 1 = 0 ∨ 0 ≤ findT t tn (t i 1)) (hd : ∃ D, D ≤ 4 ∧ findT t tn (iterT t tn D z) < 0) (hz : 0 ≤ findT t tn z) :
    cntT t' (tn + 1) z y = cntT t tn z y ∧ (y = id → cntT t tn z y = 0) := by
  obtain ⟨D, hD, hD2⟩ := hd
  obtain ⟨K, hK, hK2, hall⟩ := first_end D hD2
  have eK : K = pathK t tn z := pathK_eq hall hK2 hD2 (by omega)
  have hit : ∀ i, i ≤ K → iterT t' (tn + 1) i z = iterT t tn i z := fun i hi => h.iter i fun j hj => hall j (by omega)
  have hend : findT t' (tn + 1) (iterT t' (tn + 1) K z) < 0 := by
    rw [hit K (Nat.le_refl _)]
    rcases ilt (findT t' (tn + 1) (iterT t tn K z)) with h1 | h1
    · exact h1
    · exfalso
      rcases h.find.1 h1 with h2 | h2
      · omega
      · cases K with
        | zero => have : findT t tn z < 0 := hK2; omega
        | succ K =>
          obtain ⟨i, hi, e⟩ := findT_iff.1 (hall K (by omega))
          have e3 : iterT t tn (K + 1) z = t i 1 := by
            show t (findT t tn (iterT t tn K z)).toNat 1 = t i 1
            rw [← e, findT_at h.u hi]; rfl
          rw [e3] at h2 hK2
          rcases hup i hi with h4 | h4
          · omega
          · omega
  have eK' : K = pathK t' (tn + 1) z := pathK_eq (fun i hi => by rw [hit i (by omega)]; exact h.find.2 (.inl (hall i hi))) hend hend (by omega)
  have hc : ∀ n, n ≤ K → cntP t' (tn + 1) z y n = cntP t tn z y n := by
    intro n
    induction n with
    | zero => intro _; rfl
    | succ n ih => intro hn; unfold cntP; rw [ih (by omega), hit n (by omega)]
  refine ⟨?_, fun hy => ?_⟩
  · unfold cntT; rw [← eK, ← eK']; exact hc K (Nat.le_refl _)
  · subst hy
    have : ∀ n, n ≤ K → cntP t tn z y n = 0 := by
      intro n
      induction n with
      | zero => intro _; rfl
      | succ n ih =>
        intro hn; unfold cntP
        rw [ih (by omega), if_neg]
        · rfl
        · intro e
          have := hall n (by omega)
          rw [e] at this
          have h5 := findT_no.2 h.no
          omega
    unfold cntT; rw [← eK]; exact this K (Nat.le_refl _)
attribute [local irreducible] pathK in
theorem invS_makes (h0 : Inv0 L T) (h : InvS L) (hm : mayE v = true) (hk : v.kind = 1) (hE : makesE L v = 0) : InvS (makesC L v) := by
  obtain ⟨k, hkn, hx1, hnt, hamt, a3, a5, eC, hrise, htid, hup⟩ := makes_tree h0 hm hk hE
  have hro := regN_lt hm
  rw [eC]
  generalize idE v.o v.seq = x at *
  have hpar : ∀ i, i < L.tn → L.t i 1 = 0 ∨ 0 ≤ findT L.t L.tn (L.t i 1) := fun i hi => by
    have hi' := hi
    rw [h0.tnn] at hi'
    rw [(h0.tid i hi').2]
    rcases h0.up i hi' with e | ⟨j, hj, e⟩
    · exact .inl e
    · exact .inr (findT_iff.2 ⟨j, by rw [h0.tnn]; exact hj, by rw [(h0.tid j hj).1]; exact e⟩)
  have hp : ∀ q, q < L.gn → ∀ y, cntT (insT L.t k x v.node) (L.tn + 1) (L.g q 2) y = cntT L.t L.tn (L.g q 2) y ∧ (y = x → cntT L.t L.tn (L.g q 2) y = 0) := fun q hq y => hup.path hx1 hpar (h0.dep _) (h.gb q hq).1
  refine ⟨fun i hi => ?_, fun q hq => ?_⟩
  · show uSum (Fx.insI L.R k (upd (fun _ => 0) (regN v) v.amt) i) = openN (insT L.t k x v.node) (L.tn + 1) L.g (Fx.insI L.id k x i) L.gn
    rw [open_cong (t := L.t) (tn := L.tn) (g := L.g) (y := Fx.insI L.id k x i) L.gn fun q hq => by unfold openG; rw [(hp q hq _).1]]
    rcases insI_old hkn hi with rfl | ⟨j, hj, e, _, _⟩
    · rw [insI_eq, insI_eq, uSum_low hro, open_zero L.gn fun q hq => by unfold openG; rw [(hp q hq _).2 rfl, Int.mul_zero]; exact ite_self _]
      rfl
    · rw [e, e]; exact h.us j hj
  · have hg := h.gb q hq
    exact ⟨hup.find.2 (.inl hg.1), hg.2⟩
theorem invS_does (h0 : Inv0 L T) (h : InvS L) (hm : mayE v = true) (hE : doesE L v = 0) : InvS (doesC L v) := by
  have hk := fields_kind hm
  have hro := regN_lt hm
  unfold doesE at hE
  unfold doesC
  by_cases k1 : v.kind = 1
  · rw [if_pos k1] at hE ⊢; exact invS_makes h0 h hm k1 hE
  by_cases k2 : v.kind = 2
  · rw [if_neg k1, if_pos k2] at hE ⊢
    exact invS_R h rfl rfl rfl rfl rfl rfl fun k _ => updA_u (uSum_low hro) k
  by_cases k3 : v.kind = 3
  · rw [if_neg k1, if_neg k2, if_pos k3] at hE ⊢; exact invS_takes h0 h hm k3 hE
  by_cases k4 : v.kind = 4
  · rw [if_neg k1, if_neg k2, if_neg k3, if_pos k4] at hE ⊢; exact invS_frees h0 h hm k4 hE
  by_cases k5 : v.kind = 5
  · rw [if_neg k1, if_neg k2, if_neg k3, if_neg k4, if_pos k5] at hE ⊢
    unfold movesE at hE
    split at hE; · cases hE
    split at hE; · cases hE
    obtain ⟨_, _, _, _, _, _, _, _, _, _, hM, _⟩ := move_ok hE
    exact invS_R h rfl rfl rfl rfl rfl rfl fun k _ => updA_u hM.u k
  rw [if_neg k1, if_neg k2, if_neg k3, if_neg k4, if_neg k5]
  split
  · exact invS_R h rfl rfl rfl rfl rfl rfl fun _ _ => rfl
  · exact invS_R h rfl rfl rfl rfl rfl rfl fun _ _ => rfl
theorem inv_apply (h : Inv L T) : Inv (applyC L v) (T + 1) := by
  refine ⟨inv0_apply h.toInv0, ?_⟩
  unfold applyC
  by_cases h0 : applyE L v = 0
  · rw [if_pos h0]
    unfold applyE at h0
    split at h0; · cases h0
    rename_i h1
    split at h0; · cases h0
    split at h0; · cases h0
    split at h0; · cases h0
    have hm : mayE v = true := by simpa using h1
    have hd := invS_does h.toInv0 h.s hm h0
    exact ⟨hd.us, hd.gb⟩
  · rw [if_neg h0]; exact h.s
theorem Inv.mono {T' : Nat} (h : Inv L T) (hT : T ≤ T') : Inv L T' := ⟨h.toInv0.mono hT, h.s⟩
end
end Rt
end Go.Proofs.Ytolmkjepieoloaa
namespace Go.Proofs.Ytolmkjepieoloaa
open Go.RowKit Rt
namespace Rt
def evX (e : Nat → EvM) : Nat → Value := Fx.flat 14 fun k => evY (e k)
noncomputable def passC (e : Nat → EvM) (K : Nat → Int) (L : LdC) : Nat → LdC
  | 0 => L
  | j + 1 => if (e j).seq ≤ K (regN (e j)) then applyC (passC e K L j) (e j) else passC e K L j
def sameK (L M : LdC) : Prop := ∀ i, i < 6 → L.known i = M.known i
open Classical in
noncomputable def learnN (e : Nat → EvM) (n : Nat) (K : Nat → Int) : Nat → LdC → LdC
  | 0, L => L
  | f + 1, L => if sameK (passC e K L n) L then passC e K L n else learnN e n K f (passC e K L n)
noncomputable def learnC (e : Nat → EvM) (n : Nat) (K : Nat → Int) (L : LdC) : LdC := learnN e n K (n + 1) L
section
variable {e : Nat → EvM} {K : Nat → Int} {L M M' : LdC} {j n r : Nat}
theorem pass_yes (h : M = passC e K L j) (hc : (e j).seq ≤ K (regN (e j))) (h' : M' = applyC M (e j)) : M' = passC e K L (j + 1) := by unfold passC; rw [if_pos hc, ← h, h']
theorem pass_no (h : M = passC e K L j) (hc : ¬ (e j).seq ≤ K (regN (e j))) : M = passC e K L (j + 1) := by unfold passC; rw [if_neg hc, ← h]
theorem learn_end (hr : r ≤ n) (h : M = passC e K L n) (hs : sameK M L) : learnN e n K (n + 1 - r) L = M := by
  rw [show n + 1 - r = (n - r) + 1 by omega]; unfold learnN; rw [← h, if_pos hs]
theorem learn_on (hr : r ≤ n) (h : M = passC e K L n) (hs : ¬ sameK M L) : learnN e n K (n + 1 - (r + 1)) M = learnN e n K (n + 1 - r) L := by
  rw [show n + 1 - r = (n - r) + 1 by omega, show n + 1 - (r + 1) = n - r by omega]
  conv => rhs; unfold learnN
  rw [← h, if_neg hs]
theorem sameK_iff {m m' : LdM} : sameK m.core m'.core ↔ ∀ i, i < 6 → (Fx.rv .u64 m.s.known) i = (Fx.rv .u64 m'.s.known) i := by
  unfold sameK Fx.rv
  simp only [Value.int.injEq, true_and]; exact Iff.rfl
end
theorem KnOk.kd {K : Nat → Int} (h : KnOk K) : Fx.Kd (List.replicate 6 (some .u64)) (Fx.rv .u64 K) := Fx.kd_rv fun i hi => Fx.wfu64 (by have := h i hi; omega)
end Rt
attribute [irreducible] Rt.learnN
set_option maxRecDepth 20000 in
theorem l_learn (m : LdM) (B p T : Nat) (aa : Option Addr) (an ac : Nat) (ev : Nat → EvM) (K : Nat → Int) (w : World) (hL : LdO w B p m) (hI : Inv m.core T) (hA : Fx.Arr w aa an 14 (evX ev)) (hwf : ∀ k, k < an → EvWf (ev k)) (hmay : ∀ k, k < an → mayE (ev k) = true) (han : an ≤ 60) (hT : T ≤ 890000) :
    Calls Try.prog 69 #[.pointer (some ⟨p, 0, none⟩), .slice aa (an) (ac), .agg (Fx.varr 6 (Fx.rv .u64 K))] w fun e w' => ∃ p' m', e = .returned (.pointer (some ⟨p', 0, none⟩)) ∧ m'.core = learnC ev an K m.core ∧ Inv m'.core (T + 3660) ∧ LdO w' B p' m' ∧ Below w.heap.size w w' := by
 refine Fx.enter Try.func69 rfl (n := 59) rfl (by rfl) ?_
 refine Fx.W.seq (Fx.W.list (Fx.L.box (m := 6) (y := Fx.rv .u64 K) (by rfl) rfl rfl (Fx.cells_agg _ _) rfl fun g1 w1 eg1 m1 s1 z1 => ?_))
 have m2 := hL.up s1.old
 have b1 := s1.below (Below.refl w.heap.size w) (Below.refl w.heap.size w).size (Below.refl w.heap.size w).size
 have lg1 : w.heap.size ≤ g1 := by rw [eg1]; exact (Below.refl w.heap.size w).size
 have tg1 : g1 < w1.heap.size := m1.lt
 clear eg1
 refine Fx.L.v (.pointer none) (Fx.x_assign rfl rfl) ?_
 refine Fx.L.nil (Fx.seqN (Fx.W.seq (Fx.W.seq (Fx.W.list (Fx.L.v (.int .i64 (0)) (Fx.x_assign rfl rfl) ?_)))))
 refine Fx.L.nil (Fx.seqN (Fx.W.block (Fx.W.loop (fun f w_ => ∃ r : Nat, ∃ p1 : Nat, ∃ m1 : LdM, ∃ T1 : Nat, r ≤ an + 1 ∧ learnN ev an K (an + 1 - r) m1.core = learnC ev an K m.core ∧ Inv m1.core T1 ∧ T1 ≤ T + r * 60 ∧ f 0 = .pointer (some ⟨p1, 0, none⟩) ∧ f 1 = .slice aa (an) (ac) ∧ f 5 = .pointer (some ⟨g1, 0, none⟩) ∧ f 7 = .int .i64 ((r : Int)) ∧ Fx.Blk w_ g1 6 (Fx.rv .u64 K) 29 ∧ LdO w_ B p1 m1 ∧ Below w.heap.size w w_) (fun f _ => (an + 1 - (intOf (f 7)).toNat)) ⟨0, p, m, T, by omega, rfl, hI, by omega, (by rfl), (by rfl), (by rfl), (by first | rfl | exact congrArg (Value.int .i64) (by omega)), m1, m2, b1⟩ ?_)))
 rintro f1 w2 ⟨r, p1, m1, T1, hr, hc1, hI1, hT1, h1, h2, h3, h4, m3, m4, b2⟩
 refine Fx.W.seq (Fx.W.seq (Fx.W.list (Fx.L.v (.int .i64 ((r : Int))) (Fx.x_move rfl h4) ?_)))
 refine Fx.L.v (.slice aa (an) (ac)) (Fx.x_move rfl h2) ?_
 refine Fx.L.v (.int .i64 ((an : Int))) (Fx.x_len rfl rfl rfl (by kernel_rfl)) ?_
 by_cases c13 : (r : Int) ≤ (an : Int)
 ·refine Fx.L.v (.bool true) (Fx.x_leqT rfl rfl rfl c13) ?_
  refine Fx.L.nil (Fx.seqN (Fx.W.cond (b := true) rfl (fun _ => Fx.W.skip (Fx.seqN (Fx.W.seq (Fx.W.block (Fx.W.seq ?_))))) (fun h => nomatch h)))
  have hLc1 := m4.c
  refine Fx.W.list (Fx.L.v (.pointer (some ⟨p1, 0, none⟩)) (Fx.x_move rfl h1) ?_)
  refine Fx.L.v (.pointer (some ⟨p1, 0, none⟩)) (Fx.x_nil rfl rfl) ?_
  refine Fx.L.v (.pointer (some ⟨p1, 0, none⟩)) (Fx.x_field rfl rfl Try.underlying71 rfl (s := 20) (by kernel_rfl) rfl rfl) ?_
  refine Fx.L.v (.pointer (some ⟨p1, 12, none⟩)) (Fx.x_field rfl rfl Try.underlying43 rfl (s := 6) (by kernel_rfl) rfl (by show _ + 12 = _; omega)) ?_
  refine Fx.L.v (.agg (Fx.varr 6 (Fx.rv .u64 m1.s.known))) (Fx.x_loadA (x := ldY m1) (y := Fx.rv .u64 m1.s.known) rfl rfl (by kernel_rfl) (by kernel_rfl) hLc1.cel (i := 12) (by omega) (by omega) (fun j hj => ldY_st _ (by omega) (stY_known _ hj (by omega)))) ?_
  refine Fx.L.new (m := 6) (y := Fx.rv .u64 (fun _ => 0)) (by rfl) rfl (by kernel_rfl) rfl fun g2 w3 eg2 m5 s2 z2 => ?_
  have m6 := m3.stp s2 (Nat.ne_of_lt (m3.lt))
  have m7 := m4.up s2.old
  have m8 := hLc1.stp s2 (Nat.ne_of_lt (hLc1.lt))
  have b3 := s2.below b2 b2.size b2.size
  have lg2 : w.heap.size ≤ g2 := by rw [eg2]; exact b2.size
  have ng2m6 : g1 ≠ g2 := by rw [eg2]; exact Nat.ne_of_lt (m3.lt)
  have ng2m8 : p1 ≠ g2 := by rw [eg2]; exact Nat.ne_of_lt (hLc1.lt)
  have tg2 : g2 < w3.heap.size := m5.lt
  clear eg2
  refine Fx.L.storeA (x := Fx.rv .u64 (fun _ => 0)) (y := Fx.rv .u64 m1.s.known) (by rfl) rfl rfl rfl rfl (fun _ _ => rfl) (by kernel_rfl) m5 (i := 0) (by omega) fun w4 m9 s3 z3 => ?_
  have m10 : Fx.Blk w4 g2 6 (Fx.rv .u64 m1.s.known) 29 := Fx.ovr_all m9
  have m11 := m6.stp s3 (by omega)
  have hct1 := Fx.ChT.of_stp s3 m5.ty
  have m12 := m7.chT hct1 (by decide)
  have m13 := m8.chT hct1 (by decide)
  have b4 := s3.below b3 b3.size (by omega)
  refine Fx.L.nil (Fx.seqN (Fx.W.seq (Fx.W.seq (Fx.W.list (Fx.L.v (.int .i64 (0)) (Fx.x_assign rfl rfl) ?_)))))
  refine Fx.L.nil (Fx.seqN (Fx.W.block (Fx.W.loop (fun f w_ => ∃ j : Nat, ∃ p2 : Nat, ∃ m2 : LdM, ∃ T2 : Nat, j ≤ an ∧ m2.core = passC ev K m1.core j ∧ Inv m2.core T2 ∧ T2 ≤ T + r * 60 + j ∧ f 0 = .pointer (some ⟨p2, 0, none⟩) ∧ f 1 = .slice aa (an) (ac) ∧ f 5 = .pointer (some ⟨g1, 0, none⟩) ∧ f 7 = .int .i64 ((r : Int)) ∧ f 8 = .pointer (some ⟨g2, 0, none⟩) ∧ f 9 = .int .i64 ((j : Int)) ∧ Fx.Blk w_ g1 6 (Fx.rv .u64 K) 29 ∧ Fx.Blk w_ g2 6 (Fx.rv .u64 m1.s.known) 29 ∧ LdO w_ B p2 m2 ∧ Below w.heap.size w w_) (fun f _ => (an - (intOf (f 9)).toNat)) ⟨0, p1, m1, T1, by omega, rfl, hI1, by omega, h1, h2, h3, (h4.trans (by first | rfl | exact congrArg (Value.int .i64) (by omega))), (by rfl), (by first | rfl | exact congrArg (Value.int .i64) (by omega)), m11, m10, m12, b4⟩ ?_)))
  rintro f2 w5 ⟨j, p2, m2, T2, hj, hc2, hI2, hT2, h5, h6, h7, h8, h9, h10, m14, m15, m16, b5⟩
  refine Fx.W.seq (Fx.W.seq (Fx.W.list (Fx.L.v (.int .i64 ((j : Int))) (Fx.x_move rfl h10) ?_)))
  refine Fx.L.v (.slice aa (an) (ac)) (Fx.x_move rfl h6) ?_
  refine Fx.L.v (.int .i64 ((an : Int))) (Fx.x_len rfl rfl rfl (by kernel_rfl)) ?_
  by_cases c24 : (j : Int) < (an : Int)
  ·refine Fx.L.v (.bool true) (Fx.x_lssT rfl rfl rfl c24) ?_
   refine Fx.L.nil (Fx.seqN (Fx.W.cond (b := true) rfl (fun _ => Fx.W.skip (Fx.seqN (Fx.W.seq (Fx.W.block (Fx.W.seq ?_))))) (fun h => nomatch h)))
   obtain ⟨a, ha, ho⟩ := regE_nat (may_reg (hmay j (by omega)))
   have eN : regN (ev j) = a := by unfold regN; omega
   -- region 8 draws
   refine Fx.W.quiet (fun v1 => ∃ q, v1 = World.drewN w5 q) (by kernel_rfl) (by kernel_rfl) ⟨1, rfl⟩ ?_
   refine Fx.Qt.v (.slice aa (an) (ac)) (fun v1 hv1 => Fx.x_move rfl h6) ?_
   refine Fx.Qt.v (.int .i64 ((j : Int))) (fun v1 hv1 => Fx.x_move rfl h10) ?_
   obtain ⟨bq1, oq1, eq1, m17⟩ := (hA.up b5 rfl) (by omega)
   have lbq1 : bq1 < w5.heap.size := m17.lt (by omega)
   refine Fx.Qt.v (.pointer (some ⟨bq1, 14 * j + oq1, none⟩)) (fun v1 hv1 => Fx.x_indexS rfl (rfl.trans (congrArg (fun q => Value.slice q (an) (ac)) eq1)) rfl Try.underlying61 (s := 14) (by kernel_rfl) (by omega) (by omega) (by omega)) ?_
   refine Fx.Qt.v (.pointer (some ⟨bq1, 14 * j + oq1 + 1, none⟩)) (fun v1 hv1 => Fx.x_field rfl rfl Try.underlying54 rfl (s := 1) (by kernel_rfl) rfl (by show _ + 1 = _; omega)) ?_
   refine Fx.Qt.v (.int .u64 ((ev j).seq)) (fun v1 hv1 => Fx.x_load1 (x := evX ev) rfl rfl (by kernel_rfl) (by obtain ⟨qd, rfl⟩ := hv1; exact m17) (i := 14 * j + 1) (by omega) (by omega) (Fx.flat_cell (k := j) (j := 1) (by omega) (by omega) rfl)) ?_
   refine Fx.Qt.v (.slice aa (an) (ac)) (fun v1 hv1 => Fx.x_move rfl h6) ?_
   refine Fx.Qt.v (.int .i64 ((j : Int))) (fun v1 hv1 => Fx.x_move rfl h10) ?_
   refine Fx.Qt.v (.pointer (some ⟨bq1, 14 * j + oq1, none⟩)) (fun v1 hv1 => Fx.x_indexS rfl (rfl.trans (congrArg (fun q => Value.slice q (an) (ac)) eq1)) rfl Try.underlying61 (s := 14) (by kernel_rfl) (by omega) (by omega) (by omega)) ?_
   refine Fx.Qt.v (.pointer (some ⟨bq1, 14 * j + oq1, none⟩)) (fun v1 hv1 => Fx.x_field rfl rfl Try.underlying54 rfl (s := 1) (by kernel_rfl) rfl rfl) ?_
   refine Fx.Qt.v (.int .i64 ((ev j).o)) (fun v1 hv1 => Fx.x_load1 (x := evX ev) rfl rfl (by kernel_rfl) (by obtain ⟨qd, rfl⟩ := hv1; exact m17) (i := 14 * j) (by omega) (by omega) (Fx.flat_cell (k := j) (j := 0) (by omega) (by omega) rfl)) ?_
   refine Fx.Qt.v (.int .i64 ((a : Int))) (fun v1 hv1 => Fx.x_sub rfl rfl rfl (Fx.i64e (by omega) (by omega))) ?_
   refine Fx.Qt.v (.pointer (some ⟨g1, a, none⟩)) (fun v1 hv1 => Fx.x_index rfl h7 rfl Try.underlying29 (s := 1) (by kernel_rfl) (by omega) (by omega) (by omega)) ?_
   refine Fx.Qt.v (.int .u64 (K a)) (fun v1 hv1 => Fx.x_load1 (x := Fx.rv .u64 K) rfl rfl (by kernel_rfl) (by obtain ⟨qd, rfl⟩ := hv1; exact m14.cel) (i := a) (by omega) (by omega) rfl) ?_
   by_cases c40 : ((ev j).seq) ≤ (K a)
   ·refine Fx.Qt.v (.bool true) (fun v1 hv1 => Fx.x_leqT rfl rfl rfl c40) ?_
    refine Fx.Qt.nil ?_
    rintro _ ⟨qd, rfl⟩
    obtain ⟨wq1, ewq1⟩ : ∃ v1, v1 = World.drewN w5 qd := ⟨_, rfl⟩
    rw [← ewq1]
    have s4 : Fx.Stp w5.heap.size w5 wq1 := by rw [ewq1]; exact Fx.Stp.of_below (bdrN w5 qd)
    have m18 := m14.stp s4 (Nat.ne_of_lt (m14.lt))
    have m19 := m15.stp s4 (Nat.ne_of_lt (m15.lt))
    have m20 := m16.up s4.old
    have m21 := m17.stp s4 (Nat.ne_of_lt (m17.lt (by omega)))
    have b6 := s4.below b5 b5.size b5.size
    clear ewq1
    refine Fx.seqN (Fx.W.cond (b := true) rfl (fun _ => Fx.W.list (Fx.L.v (.pointer (some ⟨p2, 0, none⟩)) (Fx.x_move rfl h5) ?_)) (fun h => nomatch h))
    refine Fx.L.v (.slice aa (an) (ac)) (Fx.x_move rfl h6) ?_
    refine Fx.L.v (.int .i64 ((j : Int))) (Fx.x_move rfl h10) ?_
    refine Fx.L.v (.pointer (some ⟨bq1, 14 * j + oq1, none⟩)) (Fx.x_indexS rfl (rfl.trans (congrArg (fun q => Value.slice q (an) (ac)) eq1)) rfl Try.underlying61 (s := 14) (by kernel_rfl) (by omega) (by omega) (by omega)) ?_
    refine Fx.L.v (.agg (Fx.varr 14 (evY (ev j)))) (Fx.x_loadA (x := evX ev) (y := evY (ev j)) rfl rfl (by kernel_rfl) (by kernel_rfl) m21 (i := 14 * j) (by omega) (by omega) (fun jq hjq => Fx.flat_at (k := j) (by omega) hjq)) ?_
    refine Fx.L.call (by rfl) (Fx.r_call (args := [.pointer (some ⟨p2, 0, none⟩), .agg (Fx.varr 14 (evY (ev j)))]) rfl rfl Try.func57 rfl rfl) rfl ((l_apply m2 B p2 T2 (ev j) _ m20 (hwf j (by omega)) hI2.w (by omega)).mono ?_)
    rintro e9 w6 ⟨p3, m3, he, hc3, hL1, hb1⟩
    refine ⟨.tuple #[.pointer (some ⟨p3, 0, none⟩), .int .i64 (applyE m2.core (ev j))], he, ?_⟩
    clear he
    have s5 := Fx.Stp.of_below hb1
    have m22 := m18.stp s5 (Nat.ne_of_lt (m18.lt))
    have m23 := m19.stp s5 (Nat.ne_of_lt (m19.lt))
    have m24 := m21.stp s5 (Nat.ne_of_lt (m21.lt (by omega)))
    have b7 := s5.below b6 b6.size b6.size
    refine Fx.L.v (.tuple #[.pointer (some ⟨p3, 0, none⟩), .int .i64 (applyE m2.core (ev j))]) (Fx.x_move rfl rfl) ?_
    refine Fx.L.v (.pointer (some ⟨p3, 0, none⟩)) (Fx.x_extract rfl rfl rfl) ?_
    refine Fx.L.v (.int .i64 (applyE m2.core (ev j))) (Fx.x_extract rfl rfl rfl) ?_
    refine Fx.L.v (.pointer (some ⟨p3, 0, none⟩)) (Fx.x_assign rfl rfl) ?_
    refine Fx.L.nil (Fx.blkN (Fx.seqN (Fx.W.list (Fx.L.v (.int .i64 ((j : Int))) (Fx.x_move rfl h10) ?_))))
    refine Fx.L.v (.int .i64 ((j : Int) + 1)) (Fx.x_add rfl rfl rfl (Fx.i64e (by omega) (by omega))) ?_
    refine Fx.L.v (.int .i64 ((j : Int) + 1)) (Fx.x_assign rfl rfl) ?_
    refine Fx.L.nil (Fx.lpN ⟨j + 1, p3, m3, T2 + 1, by omega, (pass_yes hc2 (by rw [eN]; exact c40) hc3), (by rw [hc3]; exact inv_apply hI2), by omega, (by rfl), h6, h7, (h8.trans (by first | rfl | exact congrArg (Value.int .i64) (by omega))), h9, (by first | rfl | exact congrArg (Value.int .i64) (by omega)), m22, m23, hL1, b7⟩ ?_)
    show (an - (intOf ((.int .i64 ((j : Int) + 1)))).toNat) < _
    simp only [h10, intOf]; omega
   ·refine Fx.Qt.v (.bool false) (fun v1 hv1 => Fx.x_leqF rfl rfl rfl c40) ?_
    refine Fx.Qt.nil ?_
    rintro _ ⟨qd, rfl⟩
    obtain ⟨wq2, ewq2⟩ : ∃ v1, v1 = World.drewN w5 qd := ⟨_, rfl⟩
    rw [← ewq2]
    have s6 : Fx.Stp w5.heap.size w5 wq2 := by rw [ewq2]; exact Fx.Stp.of_below (bdrN w5 qd)
    have m25 := m14.stp s6 (Nat.ne_of_lt (m14.lt))
    have m26 := m15.stp s6 (Nat.ne_of_lt (m15.lt))
    have m27 := m16.up s6.old
    have m28 := m17.stp s6 (Nat.ne_of_lt (m17.lt (by omega)))
    have b8 := s6.below b5 b5.size b5.size
    clear ewq2
    refine Fx.seqN (Fx.W.cond (b := false) rfl (fun h => nomatch h) (fun _ => Fx.W.skip (Fx.blkN (Fx.seqN (Fx.W.list (Fx.L.v (.int .i64 ((j : Int))) (Fx.x_move rfl h10) ?_))))))
    refine Fx.L.v (.int .i64 ((j : Int) + 1)) (Fx.x_add rfl rfl rfl (Fx.i64e (by omega) (by omega))) ?_
    refine Fx.L.v (.int .i64 ((j : Int) + 1)) (Fx.x_assign rfl rfl) ?_
    refine Fx.L.nil (Fx.lpN ⟨j + 1, p2, m2, T2, by omega, (pass_no hc2 (by rw [eN]; exact c40)), hI2, by omega, h5, h6, h7, (h8.trans (by first | rfl | exact congrArg (Value.int .i64) (by omega))), h9, (by first | rfl | exact congrArg (Value.int .i64) (by omega)), m25, m26, m27, b8⟩ ?_)
    show (an - (intOf ((.int .i64 ((j : Int) + 1)))).toNat) < _
    simp only [h10, intOf]; omega
  ·refine Fx.L.v (.bool false) (Fx.x_lssF rfl rfl rfl c24) ?_
   refine Fx.L.nil (Fx.seqN (Fx.W.cond (b := false) rfl (fun h => nomatch h) (fun _ => Fx.W.exit (Fx.seqX (Fx.lpX (Fx.blkX (Fx.seqN (Fx.W.seq ?_))))))))
   have hLc2 := m16.c
   -- region 10 draws
   refine Fx.W.quiet (fun v1 => ∃ q, v1 = World.drewN w5 q) (by kernel_rfl) (by kernel_rfl) ⟨1, rfl⟩ ?_
   refine Fx.Qt.v (.pointer (some ⟨p2, 0, none⟩)) (fun v1 hv1 => Fx.x_move rfl h5) ?_
   refine Fx.Qt.v (.pointer (some ⟨p2, 0, none⟩)) (fun v1 hv1 => Fx.x_nil rfl rfl) ?_
   refine Fx.Qt.v (.pointer (some ⟨p2, 0, none⟩)) (fun v1 hv1 => Fx.x_field rfl rfl Try.underlying71 rfl (s := 20) (by kernel_rfl) rfl rfl) ?_
   refine Fx.Qt.v (.pointer (some ⟨p2, 12, none⟩)) (fun v1 hv1 => Fx.x_field rfl rfl Try.underlying43 rfl (s := 6) (by kernel_rfl) rfl (by show _ + 12 = _; omega)) ?_
   refine Fx.Qt.v (.agg (Fx.varr 6 (Fx.rv .u64 m2.s.known))) (fun v1 hv1 => Fx.x_loadA (x := ldY m2) (y := Fx.rv .u64 m2.s.known) rfl rfl (by kernel_rfl) (by kernel_rfl) (by obtain ⟨qd, rfl⟩ := hv1; exact hLc2.cel) (i := 12) (by omega) (by omega) (fun j hj => ldY_st _ (by omega) (stY_known _ hj (by omega)))) ?_
   refine Fx.Qt.v (.agg (Fx.varr 6 (Fx.rv .u64 m1.s.known))) (fun v1 hv1 => Fx.x_loadA (x := Fx.rv .u64 m1.s.known) (y := Fx.rv .u64 m1.s.known) rfl h9 (by kernel_rfl) (by kernel_rfl) (by obtain ⟨qd, rfl⟩ := hv1; exact m15.cel) (i := 0) (by omega) (by omega) (fun j _ => by rw [Nat.zero_add])) ?_
   by_cases c56 : ∀ i, i < 6 → (Fx.rv .u64 m2.s.known) i = (Fx.rv .u64 m1.s.known) i
   ·refine Fx.Qt.v (.bool true) (fun v1 hv1 => Fx.x_eqlA (n := 6) (ks := List.replicate 6 (some .u64)) (X := Fx.rv .u64 m2.s.known) (Y := Fx.rv .u64 m1.s.known) 12 true rfl rfl rfl (Fx.yesb c56) (KnOk.kd hI2.kn) (KnOk.kd hI1.kn) rfl (by kernel_rfl) (by kernel_rfl) (by kernel_rfl) (by kernel_rfl) (by kernel_rfl)) ?_
    refine Fx.Qt.nil ?_
    rintro _ ⟨qd, rfl⟩
    obtain ⟨wq3, ewq3⟩ : ∃ v1, v1 = World.drewN w5 qd := ⟨_, rfl⟩
    rw [← ewq3]
    have s7 : Fx.Stp w5.heap.size w5 wq3 := by rw [ewq3]; exact Fx.Stp.of_below (bdrN w5 qd)
    have m29 := m14.stp s7 (Nat.ne_of_lt (m14.lt))
    have m30 := m15.stp s7 (Nat.ne_of_lt (m15.lt))
    have m31 := m16.up s7.old
    have m32 := hLc2.stp s7 (Nat.ne_of_lt (hLc2.lt))
    have b9 := s7.below b5 b5.size b5.size
    clear ewq3
    refine Fx.seqN (Fx.W.cond (b := true) rfl (fun _ => Fx.W.seq (Fx.W.list (Fx.L.v (.pointer (some ⟨p2, 0, none⟩)) (Fx.x_move rfl h5) ?_))) (fun h => nomatch h))
    refine Fx.L.v (.pointer (some ⟨p2, 0, none⟩)) (Fx.x_assign rfl rfl) ?_
    refine Fx.L.nil (Fx.seqN (Fx.W.ret (Fx.blkR (Fx.seqR (Fx.lpR (Fx.blkR (Fx.seqR (⟨.pointer (some ⟨p2, 0, none⟩), Fx.retV1 Try.results69 (by exact rfl), ?_⟩))))))))
    exact ⟨p2, m2, rfl, ((learn_end (n := an) (r := r) (by omega) (by rw [show an = j by omega]; exact hc2) (sameK_iff.2 c56)).symm.trans hc1), hI2.mono (by omega), m31, b9⟩
   ·refine Fx.Qt.v (.bool false) (fun v1 hv1 => Fx.x_eqlA (n := 6) (ks := List.replicate 6 (some .u64)) (X := Fx.rv .u64 m2.s.known) (Y := Fx.rv .u64 m1.s.known) 12 false rfl rfl rfl (Fx.nob c56) (KnOk.kd hI2.kn) (KnOk.kd hI1.kn) rfl (by kernel_rfl) (by kernel_rfl) (by kernel_rfl) (by kernel_rfl) (by kernel_rfl)) ?_
    refine Fx.Qt.nil ?_
    rintro _ ⟨qd, rfl⟩
    obtain ⟨wq4, ewq4⟩ : ∃ v1, v1 = World.drewN w5 qd := ⟨_, rfl⟩
    rw [← ewq4]
    have s8 : Fx.Stp w5.heap.size w5 wq4 := by rw [ewq4]; exact Fx.Stp.of_below (bdrN w5 qd)
    have m33 := m14.stp s8 (Nat.ne_of_lt (m14.lt))
    have m34 := m15.stp s8 (Nat.ne_of_lt (m15.lt))
    have m35 := m16.up s8.old
    have m36 := hLc2.stp s8 (Nat.ne_of_lt (hLc2.lt))
    have b10 := s8.below b5 b5.size b5.size
    clear ewq4
    refine Fx.seqN (Fx.W.cond (b := false) rfl (fun h => nomatch h) (fun _ => Fx.W.skip (Fx.blkN (Fx.seqN (Fx.W.list (Fx.L.v (.int .i64 ((r : Int))) (Fx.x_move rfl h8) ?_))))))
    refine Fx.L.v (.int .i64 ((r : Int) + 1)) (Fx.x_add rfl rfl rfl (Fx.i64e (by omega) (by omega))) ?_
    refine Fx.L.v (.int .i64 ((r : Int) + 1)) (Fx.x_assign rfl rfl) ?_
    refine Fx.L.nil (Fx.lpN ⟨r + 1, p2, m2, T2, by omega, (learn_on (by omega) (by rw [show an = j by omega]; exact hc2) (fun h => c56 (sameK_iff.1 h))).trans hc1, hI2, by omega, h5, h6, h7, (by first | rfl | exact congrArg (Value.int .i64) (by omega)), m33, m35, b10⟩ ?_)
    show (an + 1 - (intOf ((.int .i64 ((r : Int) + 1)))).toNat) < _
    simp only [h4, intOf]; omega
 ·refine Fx.L.v (.bool false) (Fx.x_leqF rfl rfl rfl c13) ?_
  refine Fx.L.nil (Fx.seqN (Fx.W.cond (b := false) rfl (fun h => nomatch h) (fun _ => Fx.W.exit (Fx.seqX (Fx.lpX (Fx.blkX (Fx.seqN (Fx.W.seq (Fx.W.list (Fx.L.v (.pointer (some ⟨p1, 0, none⟩)) (Fx.x_move rfl h1) ?_))))))))))
  refine Fx.L.v (.pointer (some ⟨p1, 0, none⟩)) (Fx.x_assign rfl rfl) ?_
  refine Fx.L.nil (Fx.seqN (Fx.W.ret (⟨.pointer (some ⟨p1, 0, none⟩), Fx.retV1 Try.results69 (by exact rfl), ?_⟩)))
  exact ⟨p1, m1, rfl, (by rw [← hc1, show an + 1 - r = 0 by omega]; unfold learnN; rfl), hI1.mono (by omega), m4, b2⟩
end Go.Proofs.Ytolmkjepieoloaa
namespace Go.Proofs.Ytolmkjepieoloaa
open Go.RowKit Rt
namespace Rt
def wdY (x y : Value) : Nat → Value := fun q => if q = 0 then x else y
theorem wdY_0 (x y v : Value) : Fx.updV (wdY x y) 0 v = wdY v y := by funext q; unfold Fx.updV wdY; split <;> rfl
theorem wdY_1 (x y v : Value) : ∀ j, j < 2 → Fx.updV (wdY x y) 1 v j = wdY x v j := fun j hj => by
  unfold Fx.updV wdY
  rcases j with _|_|j
  · rfl
  · rfl
  · omega
def ptX (pl : Nat → Nat) : Nat → Value := fun i => .pointer (some ⟨pl i, 0, none⟩)
def Lds (w : World) (B n : Nat) (pl : Nat → Nat) (ml : Nat → LdM) : Prop := ∀ i, i < n → LdO w B (pl i) (ml i)
theorem Lds.up {w w' : World} {B n : Nat} {pl : Nat → Nat} {ml : Nat → LdM} (h : Lds w B n pl ml) (hb : Below w.heap.size w w') : Lds w' B n pl ml := fun i hi => (h i hi).up hb
theorem Lds.chT {w w' : World} {B n : Nat} {pl : Nat → Nat} {ml : Nat → LdM} {Ts : List TypeId} (h : Lds w B n pl ml) (hs : Fx.ChT Ts w w') (ne : (ldTs.all fun T => !Ts.contains T) = true) : Lds w' B n pl ml := fun i hi => (h i hi).chT hs ne
theorem Lds.put {w : World} {B n o p : Nat} {pl : Nat → Nat} {ml : Nat → LdM} {m : LdM} (h : Lds w B n pl ml) (hl : LdO w B p m) : Lds w B n (updA pl o p) (updA ml o m) := fun i hi => by
  unfold updA
  by_cases e : i = o
  · rw [if_pos e, if_pos e]; exact hl
  · rw [if_neg e, if_neg e]; exact h i hi
theorem Lds.snoc {w : World} {B n p : Nat} {pl : Nat → Nat} {ml : Nat → LdM} {m : LdM} (h : Lds w B n pl ml) (hl : LdO w B p m) : Lds w B (n + 1) (updA pl n p) (updA ml n m) := fun i hi => by
  unfold updA
  by_cases e : i = n
  · rw [if_pos e, if_pos e]; exact hl
  · rw [if_neg e, if_neg e]; exact h i (by omega)
theorem pt_app {n p : Nat} {pl : Nat → Nat} {z : Nat → Value} : ∀ j, j < (n + 1) * 1 → Fx.appX (ptX pl) (n * 1) (Fx.ovr z (0 * 1) 1 (fun _ => .pointer (some ⟨p, 0, none⟩))) j = ptX (updA pl n p) j := by
  intro j hj
  unfold Fx.appX ptX updA
  by_cases h : j < n * 1
  · rw [if_pos h, if_neg (by omega)]
  · rw [if_neg h, if_pos (by omega)]
    unfold Fx.ovr
    rw [if_pos (by omega)]
theorem pt_put {o p : Nat} {pl : Nat → Nat} : Fx.updV (ptX pl) o (.pointer (some ⟨p, 0, none⟩)) = ptX (updA pl o p) := by
  funext j; unfold Fx.updV ptX updA
  by_cases h : j = o
  · rw [if_pos h, if_pos h]
  · rw [if_neg h, if_neg h]
theorem ev_app {n : Nat} {e : Nat → EvM} {v : EvM} {z : Nat → Value} : ∀ j, j < (n + 1) * 14 → Fx.appX (evX e) (n * 14) (Fx.ovr z (0 * 14) 14 (evY v)) j = evX (updA e n v) j := fun j hj =>
  (Fx.app_flat j hj).trans (Fx.flat_cong (fun i _ q _ => by unfold Fx.updF updA; split <;> rfl) j hj)
structure WM where
  n : Nat
  la : Option Addr
  lc : Nat
  pl : Nat → Nat
  ml : Nat → LdM
  an : Nat
  aa : Option Addr
  ac : Nat
  ev : Nat → EvM
end Rt
structure WldO (w : World) (B p : Nat) (M : WM) (T : Nat) : Prop where
  c : Fx.Blk w p 2 (wdY (.slice M.la M.n M.lc) (.slice M.aa M.an M.ac)) 63
  l : Fx.Own w B 59 1 (.slice M.la M.n M.lc) M.n (ptX M.pl)
  a : Fx.Own w B 54 14 (.slice M.aa M.an M.ac) M.an (evX M.ev)
  g : Lds w B M.n M.pl M.ml
  inv : ∀ i, i < M.n → Inv (M.ml i).core T
  wf : ∀ k, k < M.an → EvWf (M.ev k)
  may : ∀ k, k < M.an → mayE (M.ev k) = true
  pB : B ≤ p
  n1 : 1 ≤ M.n
  n6 : M.n ≤ 6
def wdTs : List Nat := [63, 59, 54] ++ ldTs
theorem WldO.up {w w' : World} {B p T : Nat} {M : WM} (h : WldO w B p M T) (hb : Below w.heap.size w w') : WldO w' B p M T := { h with c := h.c.stp (Fx.Stp.of_below hb) (Nat.ne_of_lt h.c.lt), l := h.l.up hb, a := h.a.up hb, g := h.g.up hb }
theorem WldO.chT {w w' : World} {B p T : Nat} {M : WM} {Ts : List TypeId} (h : WldO w B p M T) (hs : Fx.ChT Ts w w') (ne : (wdTs.all fun T => !Ts.contains T) = true) : WldO w' B p M T := by
  have hq : ∀ T' ∈ wdTs, Ts.contains T' = false := fun T' hT => by
    have := List.all_eq_true.1 ne T' hT
    simpa using this
  exact { h with c := h.c.chT hs (hq _ (by decide)), l := h.l.chT hs (hq _ (by decide)), a := h.a.chT hs (hq _ (by decide)), g := h.g.chT hs (List.all_eq_true.2 fun T hT => List.all_eq_true.1 ne T (List.mem_append_right _ hT)) }
theorem newM_lo {w : World} {B p k tb : Nat} (hc : Fx.Blk w p 27 (ldY (newM k tb)) 71) (ht : Fx.Blk w tb 1 (fun _ => .slice none 0 0) 163) (h1 : B ≤ p) (h2 : B ≤ tb) : LdO w B p (newM k tb) where
  c := hc
  n := Fx.Own.nil _ _ _ _ _
  g := Fx.Own.nil _ _ _ _ _
  tc := ht
  t := Fx.Own.nil _ _ _ _ _
  r := ⟨fun _ _ => Fx.Own.nil _ _ _ _ _, fun _ _ _ _ _ _ e => by cases e⟩
  pB := h1
  tB := h2
  bn := Nat.zero_le _
  bg := Nat.zero_le _
  bt := Nat.zero_le _
  br := fun _ _ => Nat.zero_le _
theorem Rt.newM_inv (k tb : Nat) : Inv (newM k tb).core 0 where
  tnn := rfl
  nn := Nat.zero_le _
  tid := fun _ h => absurd h (Nat.not_lt_zero _)
  rise := fun _ _ _ h => absurd h (Nat.not_lt_zero _)
  pos := fun _ h => absurd h (Nat.not_lt_zero _)
  top := fun _ h => absurd h (Nat.not_lt_zero _)
  up := fun _ h => absurd h (Nat.not_lt_zero _)
  dep := fun _ => ⟨0, Nat.zero_le _, by show (-1 : Int) < 0; decide⟩
  gn := Nat.le_refl _
  rn := fun _ _ => Nat.le_refl _
  may := fun _ h => absurd h (Nat.not_lt_zero _)
  g47 := fun _ h => absurd h (Nat.not_lt_zero _)
  kn := fun _ _ => ⟨Int.le_refl _, by show (0 : Int) < _; decide⟩
  s := ⟨fun _ h => absurd h (Nat.not_lt_zero _), fun _ h => absurd h (Nat.not_lt_zero _)⟩
set_option maxRecDepth 20000 in
theorem l_newWorld (n : Nat) (w : World) (hn1 : 1 ≤ n) (hn6 : n ≤ 6) :
    Calls Try.prog 22 #[.int .i64 ((n : Int))] w fun e w' => ∃ p M, e = .returned (.pointer (some ⟨p, 0, none⟩)) ∧ M.n = n ∧ M.an = 0 ∧ WldO w' w.heap.size p M 0 ∧ Below w.heap.size w w' := by
 refine Fx.enter Try.func22 rfl (n := 30) rfl (by rfl) ?_
 refine Fx.W.seq (Fx.W.list (Fx.L.v (.pointer none) (Fx.x_assign rfl rfl) ?_))
 refine Fx.L.nil (Fx.seqN (Fx.W.seq (Fx.W.list (Fx.L.v (.agg (Fx.varr 2 (fun _ => .slice none 0 0))) (Fx.x_build (vs := []) (places := #[(0, 1), (1, 1)]) (m := 2) (x := fun _ => .slice none 0 0) rfl rfl Try.underlying63 (by kernel_rfl) (by kernel_rfl) (by rfl)) ?_))))
 refine Fx.L.box (m := 2) (y := fun _ => .slice none 0 0) (by rfl) rfl rfl (Fx.cells_agg _ _) rfl fun g1 w1 eg1 m1 s1 z1 => ?_
 have b1 := s1.below (Below.refl w.heap.size w) (Below.refl w.heap.size w).size (Below.refl w.heap.size w).size
 have lg1 : w.heap.size ≤ g1 := by rw [eg1]; exact (Below.refl w.heap.size w).size
 have tg1 : g1 < w1.heap.size := m1.lt
 clear eg1
 refine Fx.L.v (.pointer (some ⟨g1, 0, none⟩)) (Fx.x_assign rfl rfl) ?_
 refine Fx.L.nil (Fx.seqN (Fx.W.seq (Fx.W.seq (Fx.W.list (Fx.L.v (.int .i64 (0)) (Fx.x_assign rfl rfl) ?_)))))
 refine Fx.L.nil (Fx.seqN (Fx.W.block ?_))
 have m2 : Fx.Blk w1 g1 2 (wdY (.slice none 0 0) (.slice none 0 0)) 63 := m1.congr (fun j _ => by unfold wdY; split <;> rfl)
 have m3 : Fx.Own w1 w.heap.size 59 1 (.slice none 0 0) 0 (ptX (fun _ => 0)) := Fx.Own.nil _ _ _ _ _
 have m4 : Lds w1 w.heap.size 0 (fun _ => 0) (fun _ => newM n 0) := fun _ h => absurd h (Nat.not_lt_zero _)
 refine Fx.W.loop (fun f w_ => ∃ k : Nat, ∃ a : Option Addr, ∃ cap : Nat, ∃ pl : Nat → Nat, ∃ ml : Nat → LdM, k ≤ n ∧ (∀ i, ∃ tb, ml i = newM n tb) ∧ f 0 = .int .i64 ((n : Int)) ∧ f 3 = .pointer (some ⟨g1, 0, none⟩) ∧ f 4 = .int .i64 ((k : Int)) ∧ Fx.Blk w_ g1 2 (wdY (.slice a k cap) (.slice none 0 0)) 63 ∧ Fx.Own w_ w.heap.size 59 1 (.slice a (k) (cap)) k (ptX pl) ∧ Lds w_ w.heap.size k pl ml ∧ Below w.heap.size w w_) (fun f _ => (n - (intOf (f 4)).toNat)) ⟨0, none, 0, (fun _ => 0), (fun _ => newM n 0), by omega, (fun _ => ⟨0, rfl⟩), (by first | rfl | exact congrArg (Value.int .i64) (by omega)), (by rfl), (by first | rfl | exact congrArg (Value.int .i64) (by omega)), m2, m3, m4, b1⟩ ?_
 rintro f1 w2 ⟨k, a, cap, pl, ml, hk, hml, h1, h2, h3, m5, m6, m7, b2⟩
 refine Fx.W.seq (Fx.W.seq (Fx.W.list (Fx.L.v (.int .i64 ((k : Int))) (Fx.x_move rfl h3) ?_)))
 refine Fx.L.v (.int .i64 ((n : Int))) (Fx.x_move rfl h1) ?_
 by_cases c11 : (k : Int) < (n : Int)
 ·refine Fx.L.v (.bool true) (Fx.x_lssT rfl rfl rfl c11) ?_
  refine Fx.L.nil (Fx.seqN (Fx.W.cond (b := true) rfl (fun _ => Fx.W.skip (Fx.seqN (Fx.W.seq (Fx.W.block (Fx.W.seq (Fx.W.list (Fx.L.v (.int .i64 ((n : Int))) (Fx.x_move rfl h1) ?_))))))) (fun h => nomatch h)))
  refine Fx.L.call (by rfl) (Fx.r_call (args := [.int .i64 ((n : Int))]) rfl rfl Try.func68 rfl rfl) rfl ((l_new n _ hn1 hn6).mono ?_)
  rintro e9 w3 ⟨p3, tb3, he, hp3, _, hb3, hc3, ht3, htb3⟩
  refine ⟨.tuple #[.pointer (some ⟨p3, 0, none⟩), .int .i64 (0)], he, ?_⟩
  clear he
  have s2 := Fx.Stp.of_below hb3
  have m8 := m5.stp s2 (Nat.ne_of_lt (m5.lt))
  have m9 := m6.stp s2 (m6.notNew (Nat.le_refl _))
  have m10 := m7.up s2.old
  have b3 := s2.below b2 b2.size b2.size
  have hL1 : LdO w3 w.heap.size p3 (newM n tb3) := newM_lo hc3 ht3 (Nat.le_trans b2.size hp3) (Nat.le_trans b2.size htb3)
  refine Fx.L.v (.tuple #[.pointer (some ⟨p3, 0, none⟩), .int .i64 (0)]) (Fx.x_move rfl rfl) ?_
  refine Fx.L.v (.pointer (some ⟨p3, 0, none⟩)) (Fx.x_extract rfl rfl rfl) ?_
  refine Fx.L.v (.int .i64 (0)) (Fx.x_extract rfl rfl rfl) ?_
  refine Fx.L.v (.pointer (some ⟨p3, 0, none⟩)) (Fx.x_assign rfl rfl) ?_
  refine Fx.L.v (.int .i64 (0)) (Fx.x_assign rfl rfl) ?_
  refine Fx.L.nil (Fx.seqN (Fx.W.list (Fx.L.v (.pointer (some ⟨g1, 0, none⟩)) (Fx.x_move rfl h2) ?_)))
  refine Fx.L.v (.pointer (some ⟨g1, 0, none⟩)) (Fx.x_move rfl h2) ?_
  refine Fx.L.v (.pointer (some ⟨g1, 0, none⟩)) (Fx.x_nil rfl rfl) ?_
  refine Fx.L.v (.pointer (some ⟨g1, 0, none⟩)) (Fx.x_field rfl rfl Try.underlying63 rfl (s := 1) (by kernel_rfl) rfl rfl) ?_
  refine Fx.L.v (.slice a (k) (cap)) (Fx.x_load1 (x := wdY (.slice a k cap) (.slice none 0 0)) rfl rfl (by kernel_rfl) m8.cel (i := 0) (by omega) (by omega) rfl) ?_
  refine Fx.L.v (.pointer (some ⟨p3, 0, none⟩)) (Fx.x_move rfl rfl) ?_
  refine Fx.L.bslice (vs := [(0, .pointer (some ⟨p3, 0, none⟩))]) (s := 1) (zc := fun _ => .pointer none) (y := Fx.ovr (fun j => .pointer none) (0 * 1) 1 (fun _ => .pointer (some ⟨p3, 0, none⟩))) (by rfl) rfl rfl Try.underlying60 (by kernel_rfl) (by rfl) (by rfl) (by kernel_rfl) (by rw [Fx.fill_step (off := 0 * 1) (s := 1) (y := fun _ => .pointer (some ⟨p3, 0, none⟩)) rfl (Fx.cells_one (by rfl)) (by rfl)]; rfl) rfl fun g2 w4 eg2 m11 s3 z2 => ?_
  have m12 := m8.stp s3 (Nat.ne_of_lt (m8.lt))
  have m13 := m9.stp s3 (m9.notNew (Nat.le_refl _))
  have m14 := m10.up s3.old
  have m15 := hL1.up s3.old
  have b4 := s3.below b3 b3.size b3.size
  have lg2 : w.heap.size ≤ g2 := by rw [eg2]; exact b3.size
  have ng2m12 : g1 ≠ g2 := by rw [eg2]; exact Nat.ne_of_lt (m8.lt)
  have ng2m13 : (.slice a (k) (cap) : Value).ownBlock ≠ some g2 := by rw [eg2]; exact m9.notNew (Nat.le_refl _)
  have tg2 : g2 < w4.heap.size := m11.lt
  clear eg2
  refine Fx.L.app (B := w.heap.size) (s := 1) (bytes := 8) (k := k) (m := 1) (v := .slice a (k) (cap)) (x := ptX pl) (by rfl) rfl rfl rfl Try.underlying60 (by kernel_rfl) (by kernel_rfl) rfl rfl m13 m11.cel (ovr_one (fun _ => rfl)) (by omega) (by omega) (by omega) b4.size fun g3 cap1 w5 ho1 hg1 hgv1 hlt1 => ?_
  have hct1 := Fx.ChT.of_grown hg1 m13
  have m17 := m12.chT hct1 (by decide)
  have m18 := m14.chT hct1 (by decide)
  have m19 := m15.chT hct1 (by decide)
  have m16 : Fx.Own w5 w.heap.size 59 1 (.slice (some ⟨g3, 0, none⟩) (k + 1) cap1) (k + 1) (ptX (updA pl k p3)) := (ho1.congr (fun j hj => pt_app j hj))
  have b5 : Below w.heap.size w w5 := Fx.Below.grow b4 hg1 b4.size (fun q hq => (m13.ge hq).1)
  refine Fx.L.v (.pointer (some ⟨g1, 0, none⟩)) (Fx.x_nil rfl rfl) ?_
  refine Fx.L.v (.pointer (some ⟨g1, 0, none⟩)) (Fx.x_field rfl rfl Try.underlying63 rfl (s := 1) (by kernel_rfl) rfl rfl) ?_
  refine Fx.L.store1 (x := wdY (.slice a k cap) (.slice none 0 0)) (u := .slice (some ⟨g3, 0, none⟩) (k + 1) (cap1)) (by rfl) rfl rfl rfl rfl (by rfl) (by kernel_rfl) m17 (i := 0) (by omega) fun w6 m20 s4 z3 => ?_
  have m21 : Fx.Blk w6 g1 2 (wdY (.slice (some ⟨g3, 0, none⟩) (k + 1) (cap1)) (.slice none 0 0)) 63 := m20.to (wdY_0 _ _ _)
  have hct2 := Fx.ChT.of_stp s4 m17.ty
  have m22 := m18.chT hct2 (by decide)
  have m23 := m19.chT hct2 (by decide)
  have m24 := m16.chT hct2 (by decide)
  have b6 := s4.below b5 b5.size (by omega)
  refine Fx.L.nil (Fx.blkN (Fx.seqN (Fx.W.list (Fx.L.v (.int .i64 ((k : Int))) (Fx.x_move rfl h3) ?_))))
  refine Fx.L.v (.int .i64 ((k : Int) + 1)) (Fx.x_add rfl rfl rfl (Fx.i64e (by omega) (by omega))) ?_
  refine Fx.L.v (.int .i64 ((k : Int) + 1)) (Fx.x_assign rfl rfl) ?_
  refine Fx.L.nil ?_
  have m25 : Lds w6 w.heap.size (k + 1) (updA pl k p3) (updA ml k (newM n tb3)) := m22.snoc m23
  skip
  refine Fx.lpN ⟨k + 1, (some ⟨g3, 0, none⟩), cap1, (updA pl k p3), (updA ml k (newM n tb3)), by omega, (fun i => by unfold updA; split <;> first | exact ⟨_, rfl⟩ | exact hml i), (h1.trans (by first | rfl | exact congrArg (Value.int .i64) (by omega))), h2, (by first | rfl | exact congrArg (Value.int .i64) (by omega)), m21, m24, m25, b6⟩ ?_
  show (n - (intOf ((.int .i64 ((k : Int) + 1)))).toNat) < _
  simp only [h3, intOf]; omega
 ·refine Fx.L.v (.bool false) (Fx.x_lssF rfl rfl rfl c11) ?_
  refine Fx.L.nil (Fx.seqN (Fx.W.cond (b := false) rfl (fun h => nomatch h) (fun _ => Fx.W.exit (Fx.seqX (Fx.lpX (Fx.blkX (Fx.seqN (Fx.W.seq (Fx.W.list (Fx.L.v (.pointer (some ⟨g1, 0, none⟩)) (Fx.x_move rfl h2) ?_))))))))))
  refine Fx.L.v (.pointer (some ⟨g1, 0, none⟩)) (Fx.x_assign rfl rfl) ?_
  refine Fx.L.nil (Fx.seqN (Fx.W.ret (⟨.pointer (some ⟨g1, 0, none⟩), Fx.retV1 Try.results22 (by exact rfl), ?_⟩)))
  obtain rfl : k = n := by omega
  exact ⟨g1, ⟨k, a, cap, pl, ml, 0, none, 0, fun _ => ⟨0, 0, fun _ => 0, 0, 0, 0, 0, 0, 0⟩⟩, rfl, rfl, rfl, { c := m5, l := m6, a := Fx.Own.nil _ _ _ _ _, g := m7, inv := fun i _ => by obtain ⟨tb, e⟩ := hml i; show Inv (ml i).core 0; rw [e]; exact newM_inv k tb, wf := fun _ h => absurd h (Nat.not_lt_zero _), may := fun _ h => absurd h (Nat.not_lt_zero _), pB := lg1, n1 := hn1, n6 := hn6 }, b2⟩
end Go.Proofs.Ytolmkjepieoloaa
namespace Go.Proofs.Ytolmkjepieoloaa
open Go.RowKit Rt
namespace Rt
structure ActM where
  who : Nat
  meet : Bool
  other : Nat
  kind : Nat
  node : Nat
  dst : Nat
  amt : Nat
  req : Nat
  of : Nat
structure ActOk (x : ActM) : Prop where
  who : x.who ≤ 255
  other : x.other ≤ 255
  kind : x.kind ≤ 255
  node : x.node ≤ 255
  dst : x.dst ≤ 255
  amt : x.amt ≤ 65535
  req : x.req ≤ 255
  of : x.of ≤ 255
def actY (x : ActM) : Nat → Value := fun p => if p = 0 then .int .u8 (x.who : Int) else if p = 1 then .bool x.meet else if p = 2 then .int .u8 (x.other : Int) else if p = 3 then .int .u8 (x.kind : Int) else if p = 4 then .int .u8 (x.node : Int) else if p = 5 then .int .u8 (x.dst : Int) else if p = 6 then .int .u16 (x.amt : Int) else if p = 7 then .int .u8 (x.req : Int) else .int .u8 (x.of : Int)
theorem remL {k n r : Nat} (e : r = k % n) : Int.tmod (k : Int) (n : Int) = (r : Int) := by
  rw [Int.tmod_eq_emod_of_nonneg (by omega), e]
  exact (Int.natCast_emod k n).symm
theorem ev_node (V : EvM) (x : Int) : ∀ j, j < 14 → Fx.updV (evY V) 9 (.int .u64 x) j = evY { V with node := x } j := fun j hj => by
  rcases j with _|_|_|_|_|_|_|_|_|_|_|_|_|_|j <;> first | rfl | omega
theorem ev_dst (V : EvM) (x : Int) : ∀ j, j < 14 → Fx.updV (evY V) 10 (.int .i64 x) j = evY ⟨V.o, V.seq, V.deps, V.kind, V.node, x, V.amt, V.req, V.of⟩ j := fun j hj => by
  rcases j with _|_|_|_|_|_|_|_|_|_|_|_|_|_|j <;> first | rfl | omega
theorem ev_amt (V : EvM) (x : Int) : ∀ j, j < 14 → Fx.updV (evY V) 11 (.int .i64 x) j = evY { V with amt := x } j := fun j hj => by
  rcases j with _|_|_|_|_|_|_|_|_|_|_|_|_|_|j <;> first | rfl | omega
theorem ev_req (V : EvM) (x : Int) : ∀ j, j < 14 → Fx.updV (evY V) 12 (.int .u64 x) j = evY { V with req := x } j := fun j hj => by
  rcases j with _|_|_|_|_|_|_|_|_|_|_|_|_|_|j <;> first | rfl | omega
theorem ev_of (V : EvM) (x : Int) : ∀ j, j < 14 → Fx.updV (evY V) 13 (.int .u64 x) j = evY { V with of := x } j := fun j hj => by
  rcases j with _|_|_|_|_|_|_|_|_|_|_|_|_|_|j <;> first | rfl | omega
end Rt
set_option maxRecDepth 20000 in
set_option maxHeartbeats 2000000 in
theorem l_event (M : WM) (B p T : Nat) (x : ActM) (w : World) (hW : WldO w B p M T) (hx : ActOk x) :
    Calls Try.prog 70 #[.pointer (some ⟨p, 0, none⟩), .agg (Fx.varr 9 (actY x))] w fun e w' => ∃ V, EvWf V ∧ e = .returned (.agg (Fx.varr 14 (evY V))) ∧ Below w.heap.size w w' := by
 have hWc := hW.c
 have hWl := hW.l
 have hWa := hW.a
 have hWg := hW.g
 have hn1 := hW.n1
 have hn6 := hW.n6
 have hpB := hW.pB
 have lpp : p < w.heap.size := hWc.lt
 have hxw := hx.who
 have hxo := hx.other
 have hxk := hx.kind
 have hxn := hx.node
 have hxt := hx.dst
 have hxa := hx.amt
 have hxr := hx.req
 have hxf := hx.of
 refine Fx.enter Try.func70 rfl (n := 143) rfl (by rfl) ?_
 refine Fx.W.seq (Fx.W.list (Fx.L.box (m := 9) (y := actY x) (by rfl) rfl rfl (Fx.cells_agg _ _) rfl fun g1 w1 eg1 m1 s1 z1 => ?_))
 have m2 := hWc.stp s1 (Nat.ne_of_lt (hWc.lt))
 have m3 := hWl.stp s1 (hWl.notNew (Nat.le_refl _))
 have m4 := hWa.stp s1 (hWa.notNew (Nat.le_refl _))
 have m5 := hWg.up s1.old
 have b1 := s1.below (Below.refl w.heap.size w) (Below.refl w.heap.size w).size (Below.refl w.heap.size w).size
 have lg1 : w.heap.size ≤ g1 := by rw [eg1]; exact (Below.refl w.heap.size w).size
 have ng1m2 : p ≠ g1 := by rw [eg1]; exact Nat.ne_of_lt (hWc.lt)
 have tg1 : g1 < w1.heap.size := m1.lt
 clear eg1
 refine Fx.L.new (m := 14) (y := fun zq => if zq < 1 then .int .i64 (0) else if zq < 8 then .int .u64 (0) else if zq < 9 then .int .u8 (0) else if zq < 10 then .int .u64 (0) else if zq < 12 then .int .i64 (0) else .int .u64 (0)) (by rfl) rfl (by kernel_rfl) rfl fun g2 w2 eg2 m6 s2 z2 => ?_
 have m7 := m2.stp s2 (Nat.ne_of_lt (m2.lt))
 have m8 := m3.stp s2 (m3.notNew (Nat.le_refl _))
 have m9 := m4.stp s2 (m4.notNew (Nat.le_refl _))
 have m10 := m5.up s2.old
 have m11 := m1.stp s2 (Nat.ne_of_lt (m1.lt))
 have b2 := s2.below b1 b1.size b1.size
 have lg2 : w.heap.size ≤ g2 := by rw [eg2]; exact b1.size
 have ng2m7 : p ≠ g2 := by rw [eg2]; exact Nat.ne_of_lt (m2.lt)
 have ng2m9 : (.slice M.aa (M.an) (M.ac) : Value).ownBlock ≠ some g2 := by rw [eg2]; exact m4.notNew (Nat.le_refl _)
 have ng2m11 : g1 ≠ g2 := by rw [eg2]; exact Nat.ne_of_lt (m1.lt)
 have tg2 : g2 < w2.heap.size := m6.lt
 clear eg2
 refine Fx.L.nil (Fx.seqN (Fx.W.seq ?_))
 obtain ⟨o, eo⟩ : ∃ r, r = x.who % M.n := ⟨_, rfl⟩
 have ho : o < M.n := by rw [eo]; exact Nat.mod_lt _ (by omega)
 -- region 1 draws
 refine Fx.W.quiet (fun v1 => ∃ q, v1 = World.drewN w2 q) (by kernel_rfl) (by kernel_rfl) ⟨1, rfl⟩ ?_
 refine Fx.Qt.v (.pointer (some ⟨g1, 0, none⟩)) (fun v1 hv1 => Fx.x_field rfl rfl Try.underlying58 rfl (s := 1) (by kernel_rfl) rfl rfl) ?_
 refine Fx.Qt.v (.int .u8 ((x.who : Int))) (fun v1 hv1 => Fx.x_load1 (x := actY x) rfl rfl (by kernel_rfl) (by obtain ⟨qd, rfl⟩ := hv1; exact m11.cel) (i := 0) (by omega) (by omega) rfl) ?_
 refine Fx.Qt.v (.int .i64 ((x.who : Int))) (fun v1 hv1 => Fx.x_conv rfl rfl (by kernel_rfl) Try.underlying3 (Fx.i64e (by omega) rfl)) ?_
 refine Fx.Qt.v (.pointer (some ⟨p, 0, none⟩)) (fun v1 hv1 => Fx.x_move rfl rfl) ?_
 refine Fx.Qt.v (.pointer (some ⟨p, 0, none⟩)) (fun v1 hv1 => Fx.x_nil rfl rfl) ?_
 refine Fx.Qt.v (.pointer (some ⟨p, 0, none⟩)) (fun v1 hv1 => Fx.x_field rfl rfl Try.underlying63 rfl (s := 1) (by kernel_rfl) rfl rfl) ?_
 refine Fx.Qt.v (.slice M.la (M.n) (M.lc)) (fun v1 hv1 => Fx.x_load1 (x := wdY (.slice M.la (M.n) (M.lc)) (.slice M.aa (M.an) (M.ac))) rfl rfl (by kernel_rfl) (by obtain ⟨qd, rfl⟩ := hv1; exact m7.cel) (i := 0) (by omega) (by omega) rfl) ?_
 refine Fx.Qt.v (.int .i64 ((M.n : Int))) (fun v1 hv1 => Fx.x_len rfl rfl rfl (by kernel_rfl)) ?_
 refine Fx.Qt.v (.int .i64 ((o : Int))) (fun v1 hv1 => Fx.x_rem rfl rfl rfl (by omega) (remL eo)) ?_
 refine Fx.Qt.v (.int .i64 ((o : Int))) (fun v1 hv1 => Fx.x_assign rfl rfl) ?_
 refine Fx.Qt.nil ?_
 rintro _ ⟨qd, rfl⟩
 obtain ⟨wq1, ewq1⟩ : ∃ v1, v1 = World.drewN w2 qd := ⟨_, rfl⟩
 rw [← ewq1]
 have s3 : Fx.Stp w2.heap.size w2 wq1 := by rw [ewq1]; exact Fx.Stp.of_below (bdrN w2 qd)
 have m12 := m7.stp s3 (Nat.ne_of_lt (m7.lt))
 have m13 := m8.stp s3 (m8.notNew (Nat.le_refl _))
 have m14 := m9.stp s3 (m9.notNew (Nat.le_refl _))
 have m15 := m10.up s3.old
 have m16 := m11.stp s3 (Nat.ne_of_lt (m11.lt))
 have m17 := m6.stp s3 (Nat.ne_of_lt (m6.lt))
 have b3 := s3.below b2 b2.size b2.size
 clear ewq1
 refine Fx.seqN (Fx.W.seq (Fx.W.list (Fx.L.v (.pointer (some ⟨p, 0, none⟩)) (Fx.x_move rfl rfl) ?_)))
 refine Fx.L.v (.pointer (some ⟨p, 0, none⟩)) (Fx.x_nil rfl rfl) ?_
 refine Fx.L.v (.pointer (some ⟨p, 0, none⟩)) (Fx.x_field rfl rfl Try.underlying63 rfl (s := 1) (by kernel_rfl) rfl rfl) ?_
 refine Fx.L.v (.slice M.la (M.n) (M.lc)) (Fx.x_load1 (x := wdY (.slice M.la (M.n) (M.lc)) (.slice M.aa (M.an) (M.ac))) rfl rfl (by kernel_rfl) m12.cel (i := 0) (by omega) (by omega) rfl) ?_
 refine Fx.L.v (.int .i64 ((o : Int))) (Fx.x_move rfl rfl) ?_
 obtain ⟨gq1, eq1⟩ := m13.addr (by omega)
 have m18 : Fx.Own wq1 B 59 1 (.slice (some ⟨gq1, 0, none⟩) M.n M.lc) M.n (ptX M.pl) := m13.congV (congrArg (fun q => Value.slice q M.n M.lc) eq1)
 refine Fx.L.v (.pointer (some ⟨gq1, o, none⟩)) (Fx.x_indexS rfl (rfl.trans (congrArg (fun q => Value.slice q (M.n) (M.lc)) eq1)) rfl Try.underlying60 (s := 1) (by kernel_rfl) (by omega) (by omega) (by omega)) ?_
 refine Fx.L.v (.pointer (some ⟨(M.pl o), 0, none⟩)) (Fx.x_load1 (x := ptX M.pl) rfl rfl (by kernel_rfl) m18.cel (i := o) (by omega) (by omega) rfl) ?_
 refine Fx.L.v (.pointer (some ⟨(M.pl o), 0, none⟩)) (Fx.x_assign rfl rfl) ?_
 refine Fx.L.nil (Fx.seqN (Fx.W.seq ?_))
 obtain ⟨r42, er42⟩ : ∃ r, r = x.kind % 7 := ⟨_, rfl⟩
 have hr42 : r42 < 7 := by rw [er42]; exact Nat.mod_lt _ (by omega)
 have hLo1 := m15 o (by omega)
 have hLo1c := hLo1.c
 have hLo1n := hLo1.n
 have hkn := (hW.inv o (by omega)).kn
 have hko := hkn o (by omega)
 have hko : 0 ≤ (M.ml o).s.known o ∧ (M.ml o).s.known o < 1099511627776 := hko
 have hU : ∀ k, k < (M.ml o).s.nn → U64r ((M.ml o).id k) := fun k hk => by have h1 := (hW.inv o (by omega)).pos k hk; have h2 := (hW.inv o (by omega)).top k hk; exact ⟨by show (0 : Int) ≤ (M.ml o).core.id k; omega, by show (M.ml o).core.id k ≤ _; omega⟩
 have hbn := (hW.g o (by omega)).bn
 -- region 3 draws
 refine Fx.W.one (T := 54) (T' := 54) (a := .tmp 7) (v := .tmp 44) (m := 14) (z := fun zq => if zq < 1 then .int .i64 (0) else if zq < 8 then .int .u64 (0) else if zq < 9 then .int .u8 (0) else if zq < 10 then .int .u64 (0) else if zq < 12 then .int .i64 (0) else .int .u64 (0)) (y := Fx.ovr (Fx.ovr (Fx.ovr (Fx.ovr (fun zq => if zq < 1 then .int .i64 (0) else if zq < 8 then .int .u64 (0) else if zq < 9 then .int .u8 (0) else if zq < 10 then .int .u64 (0) else if zq < 12 then .int .i64 (0) else .int .u64 (0)) 0 1 (fun _ => .int .i64 ((o : Int) + 1))) 1 1 (fun _ => .int .u64 ((M.ml o).s.known o + 1))) 2 6 (Fx.rv .u64 ((M.ml o).s.known))) 8 1 (fun _ => .int .u8 ((r42 : Int) + 1))) (u := .agg (Fx.varr 14 (Fx.ovr (Fx.ovr (Fx.ovr (Fx.ovr (fun zq => if zq < 1 then .int .i64 (0) else if zq < 8 then .int .u64 (0) else if zq < 9 then .int .u8 (0) else if zq < 10 then .int .u64 (0) else if zq < 12 then .int .i64 (0) else .int .u64 (0)) 0 1 (fun _ => .int .i64 ((o : Int) + 1))) 1 1 (fun _ => .int .u64 ((M.ml o).s.known o + 1))) 2 6 (Fx.rv .u64 ((M.ml o).s.known))) 8 1 (fun _ => .int .u8 ((r42 : Int) + 1))))) 20 21 (List.replicate 22 (0, 2, [], [])) #[.int .i64 ((o : Int)), .int .i64 ((o : Int) + 1), .pointer (some ⟨(M.pl o), 0, none⟩), .int .i64 ((o : Int)), .pointer (some ⟨(M.pl o), 0, none⟩), .pointer (some ⟨(M.pl o), 0, none⟩), .pointer (some ⟨(M.pl o), 12, none⟩), .pointer (some ⟨(M.pl o), o + 12, none⟩), .int .u64 ((M.ml o).s.known o), .int .u64 ((M.ml o).s.known o + 1), .pointer (some ⟨(M.pl o), 0, none⟩), .pointer (some ⟨(M.pl o), 0, none⟩), .pointer (some ⟨(M.pl o), 0, none⟩), .pointer (some ⟨(M.pl o), 12, none⟩), .agg (Fx.varr 6 (Fx.rv .u64 ((M.ml o).s.known))), .pointer (some ⟨g1, 3, none⟩), .int .u8 ((x.kind : Int)), .int .u8 ((r42 : Int)), .int .u8 ((r42 : Int) + 1), .agg (Fx.varr 14 (Fx.ovr (Fx.ovr (Fx.ovr (Fx.ovr (fun zq => if zq < 1 then .int .i64 (0) else if zq < 8 then .int .u64 (0) else if zq < 9 then .int .u8 (0) else if zq < 10 then .int .u64 (0) else if zq < 12 then .int .i64 (0) else .int .u64 (0)) 0 1 (fun _ => .int .i64 ((o : Int) + 1))) 1 1 (fun _ => .int .u64 ((M.ml o).s.known o + 1))) 2 6 (Fx.rv .u64 ((M.ml o).s.known))) 8 1 (fun _ => .int .u8 ((r42 : Int) + 1)))), undef, undef] (by kernel_rfl) (by kernel_rfl) (by kernel_rfl) (by kernel_rfl) (by kernel_rfl) (by kernel_rfl) rfl (by kernel_rfl) rfl rfl (by kernel_rfl) (fun g3 => (show Fx.ev _ (.tmp 7) = .pointer (some ⟨g3, 0, none⟩) from by kernel_rfl)) (fun g3 => (show Fx.ev _ (.tmp 44) = .agg (Fx.varr 14 (Fx.ovr (Fx.ovr (Fx.ovr (Fx.ovr (fun zq => if zq < 1 then .int .i64 (0) else if zq < 8 then .int .u64 (0) else if zq < 9 then .int .u8 (0) else if zq < 10 then .int .u64 (0) else if zq < 12 then .int .i64 (0) else .int .u64 (0)) 0 1 (fun _ => .int .i64 ((o : Int) + 1))) 1 1 (fun _ => .int .u64 ((M.ml o).s.known o + 1))) 2 6 (Fx.rv .u64 ((M.ml o).s.known))) 8 1 (fun _ => .int .u8 ((r42 : Int) + 1)))) from by kernel_rfl)) (Fx.cells_agg _ _) (Fx.ovr_ones (Fx.ovr_ones (Fx.ovr_ones (Fx.ovr_ones (fun jq _ => by show ((fun zq => if zq < 1 then .int .i64 (0) else if zq < 8 then .int .u64 (0) else if zq < 9 then .int .u8 (0) else if zq < 10 then .int .u64 (0) else if zq < 12 then .int .i64 (0) else .int .u64 (0) : Nat → Value) jq).oneCell' = true; simp only []; repeat (first | rfl | split)) (fun _ _ => rfl)) (fun _ _ => rfl)) (fun _ _ => rfl)) (fun _ _ => rfl)) (by kernel_rfl) (fun g3 => ?_) ?_
 ·refine ⟨?_, ?_, ?_, ?_, ?_, ?_, ?_, ?_, ?_, ?_, ?_, ?_, ?_, ?_, ?_, ?_, ?_, ?_, ?_, ?_, ?_, ?_, trivial⟩
  ·exact .inr (.inr (Fx.qb_yes (v := .int .i64 ((o : Int))) (by kernel_rfl) (by kernel_rfl) (Fx.qbV fun v1 hv1 => Fx.x_move rfl (show Fx.ev _ (.tmp 5) = .int .i64 ((o : Int)) from by kernel_rfl))))
  ·exact .inr (.inr (Fx.qb_yes (v := .int .i64 ((o : Int) + 1)) (by kernel_rfl) (by kernel_rfl) (Fx.qbV fun v1 hv1 => Fx.x_add rfl (show Fx.ev _ (.tmp 25) = .int .i64 ((o : Int)) from by kernel_rfl) (show Fx.ev _ (.const (.int .i64 (1))) = .int .i64 (1) from by kernel_rfl) (Fx.i64e (by omega) (by omega)))))
  ·exact .inr (.inr (Fx.qb_yes (v := .pointer (some ⟨(M.pl o), 0, none⟩)) (by kernel_rfl) (by kernel_rfl) (Fx.qbV fun v1 hv1 => Fx.x_move rfl (show Fx.ev _ (.tmp 6) = .pointer (some ⟨(M.pl o), 0, none⟩) from by kernel_rfl))))
  ·exact .inr (.inr (Fx.qb_yes (v := .int .i64 ((o : Int))) (by kernel_rfl) (by kernel_rfl) (Fx.qbV fun v1 hv1 => Fx.x_move rfl (show Fx.ev _ (.tmp 5) = .int .i64 ((o : Int)) from by kernel_rfl))))
  ·exact .inr (.inr (Fx.qb_yes (v := .pointer (some ⟨(M.pl o), 0, none⟩)) (by kernel_rfl) (by kernel_rfl) (Fx.qbV fun v1 hv1 => Fx.x_nil rfl (show Fx.ev _ (.tmp 27) = .pointer (some ⟨(M.pl o), 0, none⟩) from by kernel_rfl))))
  ·exact .inr (.inr (Fx.qb_yes (v := .pointer (some ⟨(M.pl o), 0, none⟩)) (by kernel_rfl) (by kernel_rfl) (Fx.qbV fun v1 hv1 => Fx.x_field rfl (show Fx.ev _ (.tmp 29) = .pointer (some ⟨(M.pl o), 0, none⟩) from by kernel_rfl) Try.underlying71 rfl (s := 20) (by kernel_rfl) rfl rfl)))
  ·exact .inr (.inr (Fx.qb_yes (v := .pointer (some ⟨(M.pl o), 12, none⟩)) (by kernel_rfl) (by kernel_rfl) (Fx.qbV fun v1 hv1 => Fx.x_field rfl (show Fx.ev _ (.tmp 30) = .pointer (some ⟨(M.pl o), 0, none⟩) from by kernel_rfl) Try.underlying43 rfl (s := 6) (by kernel_rfl) rfl (by show _ + 12 = _; omega))))
  ·exact .inr (.inr (Fx.qb_yes (v := .pointer (some ⟨(M.pl o), o + 12, none⟩)) (by kernel_rfl) (by kernel_rfl) (Fx.qbV fun v1 hv1 => Fx.x_index rfl (show Fx.ev _ (.tmp 31) = .pointer (some ⟨(M.pl o), 12, none⟩) from by kernel_rfl) (show Fx.ev _ (.tmp 28) = .int .i64 ((o : Int)) from by kernel_rfl) Try.underlying29 (s := 1) (by kernel_rfl) (by omega) (by omega) (by omega))))
  ·exact .inr (.inr (Fx.qb_yes (v := .int .u64 ((M.ml o).s.known o)) (by kernel_rfl) (by kernel_rfl) (Fx.qbV fun v1 hv1 => Fx.x_load1 (x := ldY (M.ml o)) rfl (show Fx.ev _ (.tmp 32) = .pointer (some ⟨(M.pl o), o + 12, none⟩) from by kernel_rfl) (by kernel_rfl) (hLo1c.cel.below hv1 (by have := hLo1c.lt; omega)) (i := o + 12) (by omega) (by omega) (ldY_st _ (by omega) (stY_known _ (by omega) (by omega))))))
  ·exact .inr (.inr (Fx.qb_yes (v := .int .u64 ((M.ml o).s.known o + 1)) (by kernel_rfl) (by kernel_rfl) (Fx.qbV fun v1 hv1 => Fx.x_add rfl (show Fx.ev _ (.tmp 33) = .int .u64 ((M.ml o).s.known o) from by kernel_rfl) (show Fx.ev _ (.const (.int .u64 (1))) = .int .u64 (1) from by kernel_rfl) (Fx.u64e (by omega) (by omega)))))
  ·exact .inr (.inr (Fx.qb_yes (v := .pointer (some ⟨(M.pl o), 0, none⟩)) (by kernel_rfl) (by kernel_rfl) (Fx.qbV fun v1 hv1 => Fx.x_move rfl (show Fx.ev _ (.tmp 6) = .pointer (some ⟨(M.pl o), 0, none⟩) from by kernel_rfl))))
  ·exact .inr (.inr (Fx.qb_yes (v := .pointer (some ⟨(M.pl o), 0, none⟩)) (by kernel_rfl) (by kernel_rfl) (Fx.qbV fun v1 hv1 => Fx.x_nil rfl (show Fx.ev _ (.tmp 35) = .pointer (some ⟨(M.pl o), 0, none⟩) from by kernel_rfl))))
  ·exact .inr (.inr (Fx.qb_yes (v := .pointer (some ⟨(M.pl o), 0, none⟩)) (by kernel_rfl) (by kernel_rfl) (Fx.qbV fun v1 hv1 => Fx.x_field rfl (show Fx.ev _ (.tmp 36) = .pointer (some ⟨(M.pl o), 0, none⟩) from by kernel_rfl) Try.underlying71 rfl (s := 20) (by kernel_rfl) rfl rfl)))
  ·exact .inr (.inr (Fx.qb_yes (v := .pointer (some ⟨(M.pl o), 12, none⟩)) (by kernel_rfl) (by kernel_rfl) (Fx.qbV fun v1 hv1 => Fx.x_field rfl (show Fx.ev _ (.tmp 37) = .pointer (some ⟨(M.pl o), 0, none⟩) from by kernel_rfl) Try.underlying43 rfl (s := 6) (by kernel_rfl) rfl (by show _ + 12 = _; omega))))
  ·exact .inr (.inr (Fx.qb_yes (v := .agg (Fx.varr 6 (Fx.rv .u64 ((M.ml o).s.known)))) (by kernel_rfl) (by kernel_rfl) (Fx.qbV fun v1 hv1 => Fx.x_loadA (x := ldY (M.ml o)) (y := Fx.rv .u64 ((M.ml o).s.known)) rfl (show Fx.ev _ (.tmp 38) = .pointer (some ⟨(M.pl o), 12, none⟩) from by kernel_rfl) (by kernel_rfl) (by kernel_rfl) (hLo1c.cel.below hv1 (by have := hLo1c.lt; omega)) (i := 12) (by omega) (by omega) (fun j hj => ldY_st _ (by omega) (stY_known _ hj (by omega))))))
  ·exact .inr (.inr (Fx.qb_yes (v := .pointer (some ⟨g1, 3, none⟩)) (by kernel_rfl) (by kernel_rfl) (Fx.qbV fun v1 hv1 => Fx.x_field rfl (show Fx.ev _ (.tmp 3) = .pointer (some ⟨g1, 0, none⟩) from by kernel_rfl) Try.underlying58 rfl (s := 1) (by kernel_rfl) rfl (by show _ + 3 = _; omega))))
  ·exact .inr (.inr (Fx.qb_yes (v := .int .u8 ((x.kind : Int))) (by kernel_rfl) (by kernel_rfl) (Fx.qbV fun v1 hv1 => Fx.x_load1 (x := actY x) rfl (show Fx.ev _ (.tmp 40) = .pointer (some ⟨g1, 3, none⟩) from by kernel_rfl) (by kernel_rfl) (m16.cel.below hv1 (by have := m16.lt; omega)) (i := 3) (by omega) (by omega) rfl)))
  ·exact .inr (.inr (Fx.qb_yes (v := .int .u8 ((r42 : Int))) (by kernel_rfl) (by kernel_rfl) (Fx.qbV fun v1 hv1 => Fx.x_rem rfl (show Fx.ev _ (.tmp 41) = .int .u8 ((x.kind : Int)) from by kernel_rfl) (show Fx.ev _ (.const (.int .u8 (7))) = .int .u8 (7) from by kernel_rfl) (by omega) (remL er42))))
  ·exact .inr (.inr (Fx.qb_yes (v := .int .u8 ((r42 : Int) + 1)) (by kernel_rfl) (by kernel_rfl) (Fx.qbV fun v1 hv1 => Fx.x_add rfl (show Fx.ev _ (.const (.int .u8 (1))) = .int .u8 (1) from by kernel_rfl) (show Fx.ev _ (.tmp 42) = .int .u8 ((r42 : Int)) from by kernel_rfl) (Fx.u8e (by omega) (by omega)))))
  ·exact .inr (.inr (Fx.qb_yes (v := .agg (Fx.varr 14 (Fx.ovr (Fx.ovr (Fx.ovr (Fx.ovr (fun zq => if zq < 1 then .int .i64 (0) else if zq < 8 then .int .u64 (0) else if zq < 9 then .int .u8 (0) else if zq < 10 then .int .u64 (0) else if zq < 12 then .int .i64 (0) else .int .u64 (0)) 0 1 (fun _ => .int .i64 ((o : Int) + 1))) 1 1 (fun _ => .int .u64 ((M.ml o).s.known o + 1))) 2 6 (Fx.rv .u64 ((M.ml o).s.known))) 8 1 (fun _ => .int .u8 ((r42 : Int) + 1))))) (by kernel_rfl) (by kernel_rfl) (Fx.qbV fun v1 hv1 => Fx.x_build (vs := [(0, .int .i64 ((o : Int) + 1)), (1, .int .u64 ((M.ml o).s.known o + 1)), (2, .agg (Fx.varr 6 (Fx.rv .u64 ((M.ml o).s.known)))), (3, .int .u8 ((r42 : Int) + 1))]) (places := #[(0, 1), (1, 1), (2, 6), (8, 1), (9, 1), (10, 1), (11, 1), (12, 1), (13, 1)]) (m := 14) (x := fun zq => if zq < 1 then .int .i64 (0) else if zq < 8 then .int .u64 (0) else if zq < 9 then .int .u8 (0) else if zq < 10 then .int .u64 (0) else if zq < 12 then .int .i64 (0) else .int .u64 (0)) rfl (Fx.parts4 (show Fx.ev _ (.tmp 26) = .int .i64 ((o : Int) + 1) from by kernel_rfl) (show Fx.ev _ (.tmp 34) = .int .u64 ((M.ml o).s.known o + 1) from by kernel_rfl) (show Fx.ev _ (.tmp 39) = .agg (Fx.varr 6 (Fx.rv .u64 ((M.ml o).s.known))) from by kernel_rfl) (show Fx.ev _ (.tmp 43) = .int .u8 ((r42 : Int) + 1) from by kernel_rfl)) Try.underlying54 (by kernel_rfl) (by kernel_rfl) (by rw [Fx.fill_step (off := 0) (s := 1) (y := fun _ => .int .i64 ((o : Int) + 1)) (by kernel_rfl) (Fx.cells_one (by rfl)) (by rfl)]; rw [Fx.fill_step (off := 1) (s := 1) (y := fun _ => .int .u64 ((M.ml o).s.known o + 1)) (by kernel_rfl) (Fx.cells_one (by rfl)) (by rfl)]; rw [Fx.fill_step (off := 2) (s := 6) (y := Fx.rv .u64 ((M.ml o).s.known)) (by kernel_rfl) (Fx.cells_agg _ _) (by rfl)]; rw [Fx.fill_step (off := 8) (s := 1) (y := fun _ => .int .u8 ((r42 : Int) + 1)) (by kernel_rfl) (Fx.cells_one (by rfl)) (by rfl)]; rfl))))
  ·exact .inl rfl
  ·exact .inr (.inl rfl)
 ·rintro g3 w3 f1 hf1 lg3 m19 hb1
  have s4 := Fx.Stp.of_below hb1
  have ng3m12 : p ≠ g3 := Nat.ne_of_lt (Nat.lt_of_lt_of_le (m12.lt) lg3)
  have ng3m16 : g1 ≠ g3 := Nat.ne_of_lt (Nat.lt_of_lt_of_le (m16.lt) lg3)
  have ng3m17 : g2 ≠ g3 := Nat.ne_of_lt (Nat.lt_of_lt_of_le (m17.lt) lg3)
  have ng3m18 : gq1 ≠ g3 := Nat.ne_of_lt (Nat.lt_of_lt_of_le (m18.lt) lg3)
  have ng3hLo1c : (M.pl o) ≠ g3 := Nat.ne_of_lt (Nat.lt_of_lt_of_le (hLo1c.lt) lg3)
  have ng3m14 : (.slice M.aa (M.an) (M.ac) : Value).ownBlock ≠ some g3 := fun e => by have := (m14.ge e).2; omega
  have m20 := m12.stp s4 (Nat.ne_of_lt (m12.lt))
  have m21 := m14.stp s4 (m14.notNew (Nat.le_refl _))
  have m22 := m15.up s4.old
  have m23 := m16.stp s4 (Nat.ne_of_lt (m16.lt))
  have m24 := m17.stp s4 (Nat.ne_of_lt (m17.lt))
  have m25 := m18.stpB s4 (Nat.ne_of_lt (m18.lt))
  have m26 := hLo1c.stp s4 (Nat.ne_of_lt (hLo1c.lt))
  have m27 := hLo1n.stp s4 (hLo1n.notNew (Nat.le_refl _))
  have b4 := s4.below b3 b3.size b3.size
  have lg3 : w.heap.size ≤ g3 := Nat.le_trans b3.size lg3
  have tg3 : g3 < w3.heap.size := m19.lt
  have q1 : f1 3 = .pointer (some ⟨g1, 0, none⟩) := by rw [hf1]; kernel_rfl
  have q2 : f1 4 = .pointer (some ⟨g2, 0, none⟩) := by rw [hf1]; kernel_rfl
  have q3 : f1 6 = .pointer (some ⟨(M.pl o), 0, none⟩) := by rw [hf1]; kernel_rfl
  have q4 : f1 7 = .pointer (some ⟨g3, 0, none⟩) := by rw [hf1]; kernel_rfl
  clear hf1
  refine Fx.seqN (Fx.W.seq ?_)
  obtain ⟨V0, eV0⟩ : ∃ V : EvM, V = (⟨(o : Int) + 1, (M.ml o).s.known o + 1, (M.ml o).s.known, (r42 : Int) + 1, 0, 0, 0, 0, 0⟩ : EvM) := ⟨_, rfl⟩
  have hz1 : U64r 0 := ⟨by decide, by decide⟩
  have hz2 : I64r 0 := ⟨by decide, by decide⟩
  have wf0 : EvWf V0 := by rw [eV0]; exact ⟨⟨by show (_ : Int) ≤ (o : Int) + 1; omega, by show (o : Int) + 1 ≤ _; omega⟩, ⟨by show (0 : Int) ≤ (M.ml o).s.known o + 1; omega, by show (M.ml o).s.known o + 1 ≤ _; omega⟩, fun i hi => ⟨(hkn i hi).1, by have q : (M.ml o).s.known i < 1099511627776 := (hkn i hi).2; show (M.ml o).s.known i ≤ _; omega⟩, ⟨by show (0 : Int) ≤ (r42 : Int) + 1; omega, by show (r42 : Int) + 1 ≤ 255; omega⟩, hz1, hz2, hz2, hz1, hz1⟩
  have m28 : Fx.Blk w3 g3 14 (evY V0) 54 := m19.congr (fun j hj => by rw [eV0]; rcases j with _|_|_|_|_|_|_|_|_|_|_|_|_|_|j <;> first | rfl | omega | exact congrArg (Value.int .u8) (by omega))
  have ek0 : V0.kind = (r42 : Int) + 1 := by rw [eV0]
  refine Fx.W.list (Fx.L.v (.int .u64 (0)) (Fx.x_assign rfl rfl) ?_)
  refine Fx.L.nil (Fx.seqN (Fx.W.seq (Fx.W.seq ?_)))
  have hLo2 := m22 o (by omega)
  have hLo2c := hLo2.c
  have hLo2n := hLo2.n
  refine Fx.W.list (Fx.L.v (.pointer (some ⟨(M.pl o), 0, none⟩)) (Fx.x_move rfl q3) ?_)
  refine Fx.L.v (.pointer (some ⟨(M.pl o), 0, none⟩)) (Fx.x_nil rfl rfl) ?_
  refine Fx.L.v (.pointer (some ⟨(M.pl o), 0, none⟩)) (Fx.x_field rfl rfl Try.underlying71 rfl (s := 20) (by kernel_rfl) rfl rfl) ?_
  refine Fx.L.v (.pointer (some ⟨(M.pl o), 18, none⟩)) (Fx.x_field rfl rfl Try.underlying43 rfl (s := 1) (by kernel_rfl) rfl (by show _ + 18 = _; omega)) ?_
  refine Fx.L.v (.slice (M.ml o).s.na ((M.ml o).s.nn) ((M.ml o).s.nc)) (Fx.x_load1 (x := ldY (M.ml o)) rfl rfl (by kernel_rfl) hLo2c.cel (i := 18) (by omega) (by omega) rfl) ?_
  refine Fx.L.v (.int .i64 ((((M.ml o).s.nn : Nat) : Int))) (Fx.x_len rfl rfl rfl (by kernel_rfl)) ?_
  by_cases c51 : 0 < (((M.ml o).s.nn : Nat) : Int)
  ·refine Fx.L.v (.bool true) (Fx.x_gtrT rfl rfl rfl c51) ?_
   refine Fx.L.nil (Fx.seqN (Fx.W.cond (b := true) rfl (fun _ => ?_) (fun h => nomatch h)))
   obtain ⟨r66, er66⟩ : ∃ r, r = x.node % (M.ml o).s.nn := ⟨_, rfl⟩
   have hr66 : r66 < (M.ml o).s.nn := by rw [er66]; exact Nat.mod_lt _ (by omega)
   have hnode : U64r ((M.ml o).id r66) := hU r66 hr66
   -- region 6 draws
   refine Fx.W.quiet (fun v1 => ∃ q, v1 = World.drewN w3 q) (by kernel_rfl) (by kernel_rfl) ⟨1, rfl⟩ ?_
   refine Fx.Qt.v (.pointer (some ⟨(M.pl o), 0, none⟩)) (fun v1 hv1 => Fx.x_move rfl q3) ?_
   refine Fx.Qt.v (.pointer (some ⟨(M.pl o), 0, none⟩)) (fun v1 hv1 => Fx.x_nil rfl rfl) ?_
   refine Fx.Qt.v (.pointer (some ⟨(M.pl o), 0, none⟩)) (fun v1 hv1 => Fx.x_field rfl rfl Try.underlying71 rfl (s := 20) (by kernel_rfl) rfl rfl) ?_
   refine Fx.Qt.v (.pointer (some ⟨(M.pl o), 18, none⟩)) (fun v1 hv1 => Fx.x_field rfl rfl Try.underlying43 rfl (s := 1) (by kernel_rfl) rfl (by show _ + 18 = _; omega)) ?_
   refine Fx.Qt.v (.slice (M.ml o).s.na ((M.ml o).s.nn) ((M.ml o).s.nc)) (fun v1 hv1 => Fx.x_load1 (x := ldY (M.ml o)) rfl rfl (by kernel_rfl) (by obtain ⟨qd, rfl⟩ := hv1; exact hLo2c.cel) (i := 18) (by omega) (by omega) rfl) ?_
   refine Fx.Qt.v (.pointer (some ⟨g1, 4, none⟩)) (fun v1 hv1 => Fx.x_field rfl q1 Try.underlying58 rfl (s := 1) (by kernel_rfl) rfl (by show _ + 4 = _; omega)) ?_
   refine Fx.Qt.v (.int .u8 ((x.node : Int))) (fun v1 hv1 => Fx.x_load1 (x := actY x) rfl rfl (by kernel_rfl) (by obtain ⟨qd, rfl⟩ := hv1; exact m23.cel) (i := 4) (by omega) (by omega) rfl) ?_
   refine Fx.Qt.v (.int .i64 ((x.node : Int))) (fun v1 hv1 => Fx.x_conv rfl rfl (by kernel_rfl) Try.underlying3 (Fx.i64e (by omega) rfl)) ?_
   refine Fx.Qt.v (.pointer (some ⟨(M.pl o), 0, none⟩)) (fun v1 hv1 => Fx.x_move rfl q3) ?_
   refine Fx.Qt.v (.pointer (some ⟨(M.pl o), 0, none⟩)) (fun v1 hv1 => Fx.x_nil rfl rfl) ?_
   refine Fx.Qt.v (.pointer (some ⟨(M.pl o), 0, none⟩)) (fun v1 hv1 => Fx.x_field rfl rfl Try.underlying71 rfl (s := 20) (by kernel_rfl) rfl rfl) ?_
   refine Fx.Qt.v (.pointer (some ⟨(M.pl o), 18, none⟩)) (fun v1 hv1 => Fx.x_field rfl rfl Try.underlying43 rfl (s := 1) (by kernel_rfl) rfl (by show _ + 18 = _; omega)) ?_
   refine Fx.Qt.v (.slice (M.ml o).s.na ((M.ml o).s.nn) ((M.ml o).s.nc)) (fun v1 hv1 => Fx.x_load1 (x := ldY (M.ml o)) rfl rfl (by kernel_rfl) (by obtain ⟨qd, rfl⟩ := hv1; exact hLo2c.cel) (i := 18) (by omega) (by omega) rfl) ?_
   refine Fx.Qt.v (.int .i64 ((((M.ml o).s.nn : Nat) : Int))) (fun v1 hv1 => Fx.x_len rfl rfl rfl (by kernel_rfl)) ?_
   refine Fx.Qt.v (.int .i64 ((r66 : Int))) (fun v1 hv1 => Fx.x_rem rfl rfl rfl (by omega) (remL er66)) ?_
   obtain ⟨gq2, eq2⟩ := m27.addr (by omega)
   have m29 : Fx.Own w3 B 50 56 (.slice (some ⟨gq2, 0, none⟩) ((M.ml o).s.nn) ((M.ml o).s.nc)) ((M.ml o).s.nn) (ndX (M.ml o)) := m27.congV (congrArg (fun q => Value.slice q ((M.ml o).s.nn) ((M.ml o).s.nc)) eq2)
   refine Fx.Qt.v (.pointer (some ⟨gq2, 56 * r66, none⟩)) (fun v1 hv1 => Fx.x_indexS rfl (rfl.trans (congrArg (fun q => Value.slice q ((M.ml o).s.nn) ((M.ml o).s.nc)) eq2)) rfl Try.underlying40 (s := 56) (by kernel_rfl) (by omega) (by omega) (by omega)) ?_
   refine Fx.Qt.v (.pointer (some ⟨gq2, 56 * r66, none⟩)) (fun v1 hv1 => Fx.x_field rfl rfl Try.underlying50 rfl (s := 1) (by kernel_rfl) rfl rfl) ?_
   refine Fx.Qt.v (.int .u64 ((M.ml o).id r66)) (fun v1 hv1 => Fx.x_load1 (x := ndX (M.ml o)) rfl rfl (by kernel_rfl) (by obtain ⟨qd, rfl⟩ := hv1; exact m29.cel) (i := 56 * r66) (by omega) (by omega) (Fx.flat_cell (k := r66) (j := 0) (by omega) (by omega) rfl)) ?_
   refine Fx.Qt.v (.int .u64 ((M.ml o).id r66)) (fun v1 hv1 => Fx.x_assign rfl rfl) ?_
   refine Fx.Qt.nil ?_
   rintro _ ⟨qd, rfl⟩
   obtain ⟨wq2, ewq2⟩ : ∃ v1, v1 = World.drewN w3 qd := ⟨_, rfl⟩
   rw [← ewq2]
   have s5 : Fx.Stp w3.heap.size w3 wq2 := by rw [ewq2]; exact Fx.Stp.of_below (bdrN w3 qd)
   have m30 := m20.stp s5 (Nat.ne_of_lt (m20.lt))
   have m31 := m21.stp s5 (m21.notNew (Nat.le_refl _))
   have m32 := m22.up s5.old
   have m33 := m23.stp s5 (Nat.ne_of_lt (m23.lt))
   have m34 := m24.stp s5 (Nat.ne_of_lt (m24.lt))
   have m35 := m25.stpB s5 (Nat.ne_of_lt (m25.lt))
   have m36 := m28.stp s5 (Nat.ne_of_lt (m28.lt))
   have m37 := hLo2c.stp s5 (Nat.ne_of_lt (hLo2c.lt))
   have m38 := hLo2n.stp s5 (hLo2n.notNew (Nat.le_refl _))
   have m39 := m29.stpB s5 (Nat.ne_of_lt (m29.lt))
   have b5 := s5.below b4 b4.size b4.size
   clear ewq2
   refine Fx.seqN (Fx.W.seq (Fx.W.seq (Fx.W.list (Fx.L.v (.pointer (some ⟨g3, 8, none⟩)) (Fx.x_field rfl q4 Try.underlying54 rfl (s := 1) (by kernel_rfl) rfl (by show _ + 8 = _; omega)) ?_))))
   refine Fx.L.v (.int .u8 (V0.kind)) (Fx.x_load1 (x := evY V0) rfl rfl (by kernel_rfl) m36.cel (i := 8) (by omega) (by omega) rfl) ?_
   refine Fx.L.nil (Fx.seqN (Fx.W.block (Fx.W.seq (Fx.W.list ?_))))
   by_cases c73 : V0.kind = 1
   ·refine Fx.L.v (.bool true) (Fx.x_eqlT rfl rfl rfl c73) ?_
    refine Fx.L.v (.bool true) (Fx.x_assign rfl rfl) ?_
    refine Fx.L.nil (Fx.seqN (Fx.W.cond (b := true) rfl (fun _ => Fx.W.seq (Fx.W.seq ?_)) (fun h => nomatch h)))
    obtain ⟨r76, er76⟩ : ∃ r, r = x.node % 2 := ⟨_, rfl⟩
    have hr76 : r76 < 2 := by rw [er76]; exact Nat.mod_lt _ (by omega)
    refine Fx.W.list (Fx.L.v (.pointer (some ⟨g1, 4, none⟩)) (Fx.x_field rfl q1 Try.underlying58 rfl (s := 1) (by kernel_rfl) rfl (by show _ + 4 = _; omega)) ?_)
    refine Fx.L.v (.int .u8 ((x.node : Int))) (Fx.x_load1 (x := actY x) rfl rfl (by kernel_rfl) m33.cel (i := 4) (by omega) (by omega) rfl) ?_
    refine Fx.L.v (.int .u8 ((r76 : Int))) (Fx.x_rem rfl rfl rfl (by omega) (remL er76)) ?_
    by_cases c77 : (r76 : Int) = 1
    ·refine Fx.L.v (.bool true) (Fx.x_eqlT rfl rfl rfl c77) ?_
     refine Fx.L.nil (Fx.seqN (Fx.W.cond (b := true) rfl (fun _ => Fx.W.list (Fx.L.v (.int .u64 ((M.ml o).id r66)) (Fx.x_move rfl rfl) ?_)) (fun h => nomatch h)))
     refine Fx.L.v (.pointer (some ⟨g3, 9, none⟩)) (Fx.x_field rfl q4 Try.underlying54 rfl (s := 1) (by kernel_rfl) rfl (by show _ + 9 = _; omega)) ?_
     refine Fx.L.store1 (x := evY V0) (u := .int .u64 ((M.ml o).id r66)) (by rfl) rfl rfl rfl rfl (by rfl) (by kernel_rfl) m36 (i := 9) (by omega) fun w4 m40 s6 z3 => ?_
     obtain ⟨V1, eV1⟩ : ∃ V : EvM, V = ⟨V0.o, V0.seq, V0.deps, V0.kind, (M.ml o).id r66, V0.dst, V0.amt, V0.req, V0.of⟩ := ⟨_, rfl⟩
     have wfV1 : EvWf V1 := by rw [eV1]; exact ⟨wf0.o, wf0.seq, wf0.deps, wf0.kind, hnode, wf0.dst, wf0.amt, wf0.req, wf0.of⟩
     have m41 : Fx.Blk w4 g3 14 (evY V1) 54 := m40.congr (fun j hj => by rw [eV1]; exact ev_node _ _ j hj)
     have hct1 := Fx.ChT.of_stp s6 m36.ty
     have m42 := m30.chT hct1 (by decide)
     have m43 := m31.stp s6 ng3m14
     have m44 := m32.chT hct1 (by decide)
     have m45 := m33.chT hct1 (by decide)
     have m46 := m34.stp s6 (by omega)
     have m47 := m35.chT hct1 (by decide)
     have m48 := m37.chT hct1 (by decide)
     have m49 := m38.chT hct1 (by decide)
     have m50 := m39.chT hct1 (by decide)
     have b6 := s6.below b5 b5.size (by omega)
     refine Fx.L.nil (Fx.seqN (Fx.W.list (Fx.L.v (.pointer (some ⟨g1, 6, none⟩)) (Fx.x_field rfl q1 Try.underlying58 rfl (s := 1) (by kernel_rfl) rfl (by show _ + 6 = _; omega)) ?_)))
     refine Fx.L.v (.int .u16 ((x.amt : Int))) (Fx.x_load1 (x := actY x) rfl rfl (by kernel_rfl) m45.cel (i := 6) (by omega) (by omega) rfl) ?_
     refine Fx.L.v (.int .i64 ((x.amt : Int))) (Fx.x_conv rfl rfl (by kernel_rfl) Try.underlying2 (Fx.i64e (by omega) rfl)) ?_
     refine Fx.L.v (.pointer (some ⟨g3, 11, none⟩)) (Fx.x_field rfl q4 Try.underlying54 rfl (s := 1) (by kernel_rfl) rfl (by show _ + 11 = _; omega)) ?_
     refine Fx.L.store1 (x := evY V1) (u := .int .i64 ((x.amt : Int))) (by rfl) rfl rfl rfl rfl (by rfl) (by kernel_rfl) m41 (i := 11) (by omega) fun w5 m51 s7 z4 => ?_
     obtain ⟨V2, eV2⟩ : ∃ V : EvM, V = ⟨V1.o, V1.seq, V1.deps, V1.kind, V1.node, V1.dst, (x.amt : Int), V1.req, V1.of⟩ := ⟨_, rfl⟩
     have wfV2 : EvWf V2 := by rw [eV2]; exact ⟨wfV1.o, wfV1.seq, wfV1.deps, wfV1.kind, wfV1.node, wfV1.dst, (show I64r ((x.amt : Int)) from ⟨by omega, by omega⟩), wfV1.req, wfV1.of⟩
     have m52 : Fx.Blk w5 g3 14 (evY V2) 54 := m51.congr (fun j hj => by rw [eV2]; exact ev_amt _ _ j hj)
     have hct2 := Fx.ChT.of_stp s7 m41.ty
     have m53 := m42.chT hct2 (by decide)
     have m54 := m43.stp s7 ng3m14
     have m55 := m44.chT hct2 (by decide)
     have m56 := m45.chT hct2 (by decide)
     have m57 := m46.stp s7 (by omega)
     have m58 := m47.chT hct2 (by decide)
     have m59 := m48.chT hct2 (by decide)
     have m60 := m49.chT hct2 (by decide)
     have m61 := m50.chT hct2 (by decide)
     have b7 := s7.below b6 b6.size (by omega)
     refine Fx.L.nil (Fx.blkN (Fx.seqN (Fx.W.seq (Fx.W.list (Fx.L.v (.agg (Fx.varr 14 (evY V2))) (Fx.x_loadA (x := evY V2) (y := evY V2) rfl q4 (by kernel_rfl) (by kernel_rfl) m52.cel (i := 0) (by omega) (by omega) (fun j _ => by rw [Nat.zero_add])) ?_)))))
     refine Fx.L.storeA (x := fun zq => if zq < 1 then .int .i64 (0) else if zq < 8 then .int .u64 (0) else if zq < 9 then .int .u8 (0) else if zq < 10 then .int .u64 (0) else if zq < 12 then .int .i64 (0) else .int .u64 (0)) (y := evY V2) (by rfl) rfl rfl q2 rfl (evY_one _) (by kernel_rfl) m57 (i := 0) (by omega) fun w6 m62 s8 z5 => ?_
     have m63 : Fx.Blk w6 g2 14 (evY V2) 54 := Fx.ovr_all m62
     have hct3 := Fx.ChT.of_stp s8 m57.ty
     have m64 := m53.chT hct3 (by decide)
     have m65 := m54.stp s8 ng2m9
     have m66 := m55.chT hct3 (by decide)
     have m67 := m56.chT hct3 (by decide)
     have m68 := m58.chT hct3 (by decide)
     have m69 := m59.chT hct3 (by decide)
     have m70 := m60.chT hct3 (by decide)
     have m71 := m61.chT hct3 (by decide)
     have m72 := m52.stp s8 (by omega)
     have b8 := s8.below b7 b7.size (by omega)
     refine Fx.L.nil (Fx.seqN (Fx.W.ret (⟨.agg (Fx.varr 14 (evY V2)), Fx.retV1 Try.results70 ⟨_, q2, Fx.run_loadV m63.cel (by kernel_rfl) (by kernel_rfl)⟩, ?_⟩)))
     exact ⟨V2, wfV2, rfl, b8⟩
    ·refine Fx.L.v (.bool false) (Fx.x_eqlF rfl rfl rfl c77) ?_
     refine Fx.L.nil (Fx.seqN (Fx.W.cond (b := false) rfl (fun h => nomatch h) (fun _ => Fx.W.skip (Fx.seqN (Fx.W.list (Fx.L.v (.pointer (some ⟨g1, 6, none⟩)) (Fx.x_field rfl q1 Try.underlying58 rfl (s := 1) (by kernel_rfl) rfl (by show _ + 6 = _; omega)) ?_))))))
     refine Fx.L.v (.int .u16 ((x.amt : Int))) (Fx.x_load1 (x := actY x) rfl rfl (by kernel_rfl) m33.cel (i := 6) (by omega) (by omega) rfl) ?_
     refine Fx.L.v (.int .i64 ((x.amt : Int))) (Fx.x_conv rfl rfl (by kernel_rfl) Try.underlying2 (Fx.i64e (by omega) rfl)) ?_
     refine Fx.L.v (.pointer (some ⟨g3, 11, none⟩)) (Fx.x_field rfl q4 Try.underlying54 rfl (s := 1) (by kernel_rfl) rfl (by show _ + 11 = _; omega)) ?_
     refine Fx.L.store1 (x := evY V0) (u := .int .i64 ((x.amt : Int))) (by rfl) rfl rfl rfl rfl (by rfl) (by kernel_rfl) m36 (i := 11) (by omega) fun w7 m73 s9 z6 => ?_
     obtain ⟨V3, eV3⟩ : ∃ V : EvM, V = ⟨V0.o, V0.seq, V0.deps, V0.kind, V0.node, V0.dst, (x.amt : Int), V0.req, V0.of⟩ := ⟨_, rfl⟩
     have wfV3 : EvWf V3 := by rw [eV3]; exact ⟨wf0.o, wf0.seq, wf0.deps, wf0.kind, wf0.node, wf0.dst, (show I64r ((x.amt : Int)) from ⟨by omega, by omega⟩), wf0.req, wf0.of⟩
     have m74 : Fx.Blk w7 g3 14 (evY V3) 54 := m73.congr (fun j hj => by rw [eV3]; exact ev_amt _ _ j hj)
     have hct4 := Fx.ChT.of_stp s9 m36.ty
     have m75 := m30.chT hct4 (by decide)
     have m76 := m31.stp s9 ng3m14
     have m77 := m32.chT hct4 (by decide)
     have m78 := m33.chT hct4 (by decide)
     have m79 := m34.stp s9 (by omega)
     have m80 := m35.chT hct4 (by decide)
     have m81 := m37.chT hct4 (by decide)
     have m82 := m38.chT hct4 (by decide)
     have m83 := m39.chT hct4 (by decide)
     have b9 := s9.below b5 b5.size (by omega)
     refine Fx.L.nil (Fx.blkN (Fx.seqN (Fx.W.seq (Fx.W.list (Fx.L.v (.agg (Fx.varr 14 (evY V3))) (Fx.x_loadA (x := evY V3) (y := evY V3) rfl q4 (by kernel_rfl) (by kernel_rfl) m74.cel (i := 0) (by omega) (by omega) (fun j _ => by rw [Nat.zero_add])) ?_)))))
     refine Fx.L.storeA (x := fun zq => if zq < 1 then .int .i64 (0) else if zq < 8 then .int .u64 (0) else if zq < 9 then .int .u8 (0) else if zq < 10 then .int .u64 (0) else if zq < 12 then .int .i64 (0) else .int .u64 (0)) (y := evY V3) (by rfl) rfl rfl q2 rfl (evY_one _) (by kernel_rfl) m79 (i := 0) (by omega) fun w8 m84 s10 z7 => ?_
     have m85 : Fx.Blk w8 g2 14 (evY V3) 54 := Fx.ovr_all m84
     have hct5 := Fx.ChT.of_stp s10 m79.ty
     have m86 := m75.chT hct5 (by decide)
     have m87 := m76.stp s10 ng2m9
     have m88 := m77.chT hct5 (by decide)
     have m89 := m78.chT hct5 (by decide)
     have m90 := m80.chT hct5 (by decide)
     have m91 := m81.chT hct5 (by decide)
     have m92 := m82.chT hct5 (by decide)
     have m93 := m83.chT hct5 (by decide)
     have m94 := m74.stp s10 (by omega)
     have b10 := s10.below b9 b9.size (by omega)
     refine Fx.L.nil (Fx.seqN (Fx.W.ret (⟨.agg (Fx.varr 14 (evY V3)), Fx.retV1 Try.results70 ⟨_, q2, Fx.run_loadV m85.cel (by kernel_rfl) (by kernel_rfl)⟩, ?_⟩)))
     exact ⟨V3, wfV3, rfl, b10⟩
   ·refine Fx.L.v (.bool false) (Fx.x_eqlF rfl rfl rfl c73) ?_
    refine Fx.L.v (.bool false) (Fx.x_assign rfl rfl) ?_
    refine Fx.L.nil (Fx.seqN (Fx.W.cond (b := false) rfl (fun h => nomatch h) (fun _ => Fx.W.seq (Fx.W.list ?_))))
    by_cases c85 : V0.kind = 2
    ·refine Fx.L.v (.bool true) (Fx.x_eqlT rfl rfl rfl c85) ?_
     refine Fx.L.v (.bool true) (Fx.x_assign rfl rfl) ?_
     refine Fx.L.nil (Fx.seqN (Fx.W.cond (b := true) rfl (fun _ => Fx.W.seq (Fx.W.list (Fx.L.v (.int .u64 ((M.ml o).id r66)) (Fx.x_move rfl rfl) ?_))) (fun h => nomatch h)))
     refine Fx.L.v (.pointer (some ⟨g3, 9, none⟩)) (Fx.x_field rfl q4 Try.underlying54 rfl (s := 1) (by kernel_rfl) rfl (by show _ + 9 = _; omega)) ?_
     refine Fx.L.store1 (x := evY V0) (u := .int .u64 ((M.ml o).id r66)) (by rfl) rfl rfl rfl rfl (by rfl) (by kernel_rfl) m36 (i := 9) (by omega) fun w9 m95 s11 z8 => ?_
     obtain ⟨V4, eV4⟩ : ∃ V : EvM, V = ⟨V0.o, V0.seq, V0.deps, V0.kind, (M.ml o).id r66, V0.dst, V0.amt, V0.req, V0.of⟩ := ⟨_, rfl⟩
     have wfV4 : EvWf V4 := by rw [eV4]; exact ⟨wf0.o, wf0.seq, wf0.deps, wf0.kind, hnode, wf0.dst, wf0.amt, wf0.req, wf0.of⟩
     have m96 : Fx.Blk w9 g3 14 (evY V4) 54 := m95.congr (fun j hj => by rw [eV4]; exact ev_node _ _ j hj)
     have hct6 := Fx.ChT.of_stp s11 m36.ty
     have m97 := m30.chT hct6 (by decide)
     have m98 := m31.stp s11 ng3m14
     have m99 := m32.chT hct6 (by decide)
     have m100 := m33.chT hct6 (by decide)
     have m101 := m34.stp s11 (by omega)
     have m102 := m35.chT hct6 (by decide)
     have m103 := m37.chT hct6 (by decide)
     have m104 := m38.chT hct6 (by decide)
     have m105 := m39.chT hct6 (by decide)
     have b11 := s11.below b5 b5.size (by omega)
     refine Fx.L.nil (Fx.seqN (Fx.W.list (Fx.L.v (.pointer (some ⟨g1, 6, none⟩)) (Fx.x_field rfl q1 Try.underlying58 rfl (s := 1) (by kernel_rfl) rfl (by show _ + 6 = _; omega)) ?_)))
     refine Fx.L.v (.int .u16 ((x.amt : Int))) (Fx.x_load1 (x := actY x) rfl rfl (by kernel_rfl) m100.cel (i := 6) (by omega) (by omega) rfl) ?_
     refine Fx.L.v (.int .i64 ((x.amt : Int))) (Fx.x_conv rfl rfl (by kernel_rfl) Try.underlying2 (Fx.i64e (by omega) rfl)) ?_
     refine Fx.L.v (.int .i64 ((x.amt : Int) + 1)) (Fx.x_add rfl rfl rfl (Fx.i64e (by omega) (by omega))) ?_
     refine Fx.L.v (.pointer (some ⟨g3, 11, none⟩)) (Fx.x_field rfl q4 Try.underlying54 rfl (s := 1) (by kernel_rfl) rfl (by show _ + 11 = _; omega)) ?_
     refine Fx.L.store1 (x := evY V4) (u := .int .i64 ((x.amt : Int) + 1)) (by rfl) rfl rfl rfl rfl (by rfl) (by kernel_rfl) m96 (i := 11) (by omega) fun w10 m106 s12 z9 => ?_
     obtain ⟨V5, eV5⟩ : ∃ V : EvM, V = ⟨V4.o, V4.seq, V4.deps, V4.kind, V4.node, V4.dst, (x.amt : Int) + 1, V4.req, V4.of⟩ := ⟨_, rfl⟩
     have wfV5 : EvWf V5 := by rw [eV5]; exact ⟨wfV4.o, wfV4.seq, wfV4.deps, wfV4.kind, wfV4.node, wfV4.dst, (show I64r ((x.amt : Int) + 1) from ⟨by omega, by omega⟩), wfV4.req, wfV4.of⟩
     have m107 : Fx.Blk w10 g3 14 (evY V5) 54 := m106.congr (fun j hj => by rw [eV5]; exact ev_amt _ _ j hj)
     have hct7 := Fx.ChT.of_stp s12 m96.ty
     have m108 := m97.chT hct7 (by decide)
     have m109 := m98.stp s12 ng3m14
     have m110 := m99.chT hct7 (by decide)
     have m111 := m100.chT hct7 (by decide)
     have m112 := m101.stp s12 (by omega)
     have m113 := m102.chT hct7 (by decide)
     have m114 := m103.chT hct7 (by decide)
     have m115 := m104.chT hct7 (by decide)
     have m116 := m105.chT hct7 (by decide)
     have b12 := s12.below b11 b11.size (by omega)
     refine Fx.L.nil (Fx.blkN (Fx.seqN (Fx.W.seq (Fx.W.list (Fx.L.v (.agg (Fx.varr 14 (evY V5))) (Fx.x_loadA (x := evY V5) (y := evY V5) rfl q4 (by kernel_rfl) (by kernel_rfl) m107.cel (i := 0) (by omega) (by omega) (fun j _ => by rw [Nat.zero_add])) ?_)))))
     refine Fx.L.storeA (x := fun zq => if zq < 1 then .int .i64 (0) else if zq < 8 then .int .u64 (0) else if zq < 9 then .int .u8 (0) else if zq < 10 then .int .u64 (0) else if zq < 12 then .int .i64 (0) else .int .u64 (0)) (y := evY V5) (by rfl) rfl rfl q2 rfl (evY_one _) (by kernel_rfl) m112 (i := 0) (by omega) fun w11 m117 s13 z10 => ?_
     have m118 : Fx.Blk w11 g2 14 (evY V5) 54 := Fx.ovr_all m117
     have hct8 := Fx.ChT.of_stp s13 m112.ty
     have m119 := m108.chT hct8 (by decide)
     have m120 := m109.stp s13 ng2m9
     have m121 := m110.chT hct8 (by decide)
     have m122 := m111.chT hct8 (by decide)
     have m123 := m113.chT hct8 (by decide)
     have m124 := m114.chT hct8 (by decide)
     have m125 := m115.chT hct8 (by decide)
     have m126 := m116.chT hct8 (by decide)
     have m127 := m107.stp s13 (by omega)
     have b13 := s13.below b12 b12.size (by omega)
     refine Fx.L.nil (Fx.seqN (Fx.W.ret (⟨.agg (Fx.varr 14 (evY V5)), Fx.retV1 Try.results70 ⟨_, q2, Fx.run_loadV m118.cel (by kernel_rfl) (by kernel_rfl)⟩, ?_⟩)))
     exact ⟨V5, wfV5, rfl, b13⟩
    ·refine Fx.L.v (.bool false) (Fx.x_eqlF rfl rfl rfl c85) ?_
     refine Fx.L.v (.bool false) (Fx.x_assign rfl rfl) ?_
     refine Fx.L.nil (Fx.seqN (Fx.W.cond (b := false) rfl (fun h => nomatch h) (fun _ => Fx.W.seq (Fx.W.list ?_))))
     by_cases c94 : V0.kind = 3
     ·refine Fx.L.v (.bool true) (Fx.x_eqlT rfl rfl rfl c94) ?_
      refine Fx.L.v (.bool true) (Fx.x_assign rfl rfl) ?_
      refine Fx.L.nil (Fx.seqN (Fx.W.cond (b := true) rfl (fun _ => Fx.W.seq (Fx.W.list (Fx.L.v (.int .u64 ((M.ml o).id r66)) (Fx.x_move rfl rfl) ?_))) (fun h => nomatch h)))
      refine Fx.L.v (.pointer (some ⟨g3, 9, none⟩)) (Fx.x_field rfl q4 Try.underlying54 rfl (s := 1) (by kernel_rfl) rfl (by show _ + 9 = _; omega)) ?_
      refine Fx.L.store1 (x := evY V0) (u := .int .u64 ((M.ml o).id r66)) (by rfl) rfl rfl rfl rfl (by rfl) (by kernel_rfl) m36 (i := 9) (by omega) fun w12 m128 s14 z11 => ?_
      obtain ⟨V6, eV6⟩ : ∃ V : EvM, V = ⟨V0.o, V0.seq, V0.deps, V0.kind, (M.ml o).id r66, V0.dst, V0.amt, V0.req, V0.of⟩ := ⟨_, rfl⟩
      have wfV6 : EvWf V6 := by rw [eV6]; exact ⟨wf0.o, wf0.seq, wf0.deps, wf0.kind, hnode, wf0.dst, wf0.amt, wf0.req, wf0.of⟩
      have m129 : Fx.Blk w12 g3 14 (evY V6) 54 := m128.congr (fun j hj => by rw [eV6]; exact ev_node _ _ j hj)
      have hct9 := Fx.ChT.of_stp s14 m36.ty
      have m130 := m30.chT hct9 (by decide)
      have m131 := m31.stp s14 ng3m14
      have m132 := m32.chT hct9 (by decide)
      have m133 := m33.chT hct9 (by decide)
      have m134 := m34.stp s14 (by omega)
      have m135 := m35.chT hct9 (by decide)
      have m136 := m37.chT hct9 (by decide)
      have m137 := m38.chT hct9 (by decide)
      have m138 := m39.chT hct9 (by decide)
      have b14 := s14.below b5 b5.size (by omega)
      refine Fx.L.nil (Fx.seqN (Fx.W.seq (Fx.W.list (Fx.L.v (.pointer (some ⟨g1, 6, none⟩)) (Fx.x_field rfl q1 Try.underlying58 rfl (s := 1) (by kernel_rfl) rfl (by show _ + 6 = _; omega)) ?_))))
      refine Fx.L.v (.int .u16 ((x.amt : Int))) (Fx.x_load1 (x := actY x) rfl rfl (by kernel_rfl) m133.cel (i := 6) (by omega) (by omega) rfl) ?_
      refine Fx.L.v (.int .i64 ((x.amt : Int))) (Fx.x_conv rfl rfl (by kernel_rfl) Try.underlying2 (Fx.i64e (by omega) rfl)) ?_
      refine Fx.L.v (.int .i64 ((x.amt : Int) + 1)) (Fx.x_add rfl rfl rfl (Fx.i64e (by omega) (by omega))) ?_
      refine Fx.L.v (.pointer (some ⟨g3, 11, none⟩)) (Fx.x_field rfl q4 Try.underlying54 rfl (s := 1) (by kernel_rfl) rfl (by show _ + 11 = _; omega)) ?_
      refine Fx.L.store1 (x := evY V6) (u := .int .i64 ((x.amt : Int) + 1)) (by rfl) rfl rfl rfl rfl (by rfl) (by kernel_rfl) m129 (i := 11) (by omega) fun w13 m139 s15 z12 => ?_
      obtain ⟨V7, eV7⟩ : ∃ V : EvM, V = ⟨V6.o, V6.seq, V6.deps, V6.kind, V6.node, V6.dst, (x.amt : Int) + 1, V6.req, V6.of⟩ := ⟨_, rfl⟩
      have wfV7 : EvWf V7 := by rw [eV7]; exact ⟨wfV6.o, wfV6.seq, wfV6.deps, wfV6.kind, wfV6.node, wfV6.dst, (show I64r ((x.amt : Int) + 1) from ⟨by omega, by omega⟩), wfV6.req, wfV6.of⟩
      have m140 : Fx.Blk w13 g3 14 (evY V7) 54 := m139.congr (fun j hj => by rw [eV7]; exact ev_amt _ _ j hj)
      have hct10 := Fx.ChT.of_stp s15 m129.ty
      have m141 := m130.chT hct10 (by decide)
      have m142 := m131.stp s15 ng3m14
      have m143 := m132.chT hct10 (by decide)
      have m144 := m133.chT hct10 (by decide)
      have m145 := m134.stp s15 (by omega)
      have m146 := m135.chT hct10 (by decide)
      have m147 := m136.chT hct10 (by decide)
      have m148 := m137.chT hct10 (by decide)
      have m149 := m138.chT hct10 (by decide)
      have b15 := s15.below b14 b14.size (by omega)
      refine Fx.L.nil (Fx.seqN (Fx.W.list (Fx.L.v (.pointer (some ⟨g1, 7, none⟩)) (Fx.x_field rfl q1 Try.underlying58 rfl (s := 1) (by kernel_rfl) rfl (by show _ + 7 = _; omega)) ?_)))
      refine Fx.L.v (.int .u8 ((x.req : Int))) (Fx.x_load1 (x := actY x) rfl rfl (by kernel_rfl) m144.cel (i := 7) (by omega) (by omega) rfl) ?_
      refine Fx.L.v (.int .u64 ((x.req : Int))) (Fx.x_conv rfl rfl (by kernel_rfl) Try.underlying27 (Fx.u64e (by omega) rfl)) ?_
      refine Fx.L.v (.int .u64 ((x.req : Int) + 1)) (Fx.x_add rfl rfl rfl (Fx.u64e (by omega) (by omega))) ?_
      refine Fx.L.v (.pointer (some ⟨g3, 12, none⟩)) (Fx.x_field rfl q4 Try.underlying54 rfl (s := 1) (by kernel_rfl) rfl (by show _ + 12 = _; omega)) ?_
      refine Fx.L.store1 (x := evY V7) (u := .int .u64 ((x.req : Int) + 1)) (by rfl) rfl rfl rfl rfl (by rfl) (by kernel_rfl) m140 (i := 12) (by omega) fun w14 m150 s16 z13 => ?_
      obtain ⟨V8, eV8⟩ : ∃ V : EvM, V = ⟨V7.o, V7.seq, V7.deps, V7.kind, V7.node, V7.dst, V7.amt, (x.req : Int) + 1, V7.of⟩ := ⟨_, rfl⟩
      have wfV8 : EvWf V8 := by rw [eV8]; exact ⟨wfV7.o, wfV7.seq, wfV7.deps, wfV7.kind, wfV7.node, wfV7.dst, wfV7.amt, (show U64r ((x.req : Int) + 1) from ⟨by omega, by omega⟩), wfV7.of⟩
      have m151 : Fx.Blk w14 g3 14 (evY V8) 54 := m150.congr (fun j hj => by rw [eV8]; exact ev_req _ _ j hj)
      have hct11 := Fx.ChT.of_stp s16 m140.ty
      have m152 := m141.chT hct11 (by decide)
      have m153 := m142.stp s16 ng3m14
      have m154 := m143.chT hct11 (by decide)
      have m155 := m144.chT hct11 (by decide)
      have m156 := m145.stp s16 (by omega)
      have m157 := m146.chT hct11 (by decide)
      have m158 := m147.chT hct11 (by decide)
      have m159 := m148.chT hct11 (by decide)
      have m160 := m149.chT hct11 (by decide)
      have b16 := s16.below b15 b15.size (by omega)
      refine Fx.L.nil (Fx.blkN (Fx.seqN (Fx.W.seq (Fx.W.list (Fx.L.v (.agg (Fx.varr 14 (evY V8))) (Fx.x_loadA (x := evY V8) (y := evY V8) rfl q4 (by kernel_rfl) (by kernel_rfl) m151.cel (i := 0) (by omega) (by omega) (fun j _ => by rw [Nat.zero_add])) ?_)))))
      refine Fx.L.storeA (x := fun zq => if zq < 1 then .int .i64 (0) else if zq < 8 then .int .u64 (0) else if zq < 9 then .int .u8 (0) else if zq < 10 then .int .u64 (0) else if zq < 12 then .int .i64 (0) else .int .u64 (0)) (y := evY V8) (by rfl) rfl rfl q2 rfl (evY_one _) (by kernel_rfl) m156 (i := 0) (by omega) fun w15 m161 s17 z14 => ?_
      have m162 : Fx.Blk w15 g2 14 (evY V8) 54 := Fx.ovr_all m161
      have hct12 := Fx.ChT.of_stp s17 m156.ty
      have m163 := m152.chT hct12 (by decide)
      have m164 := m153.stp s17 ng2m9
      have m165 := m154.chT hct12 (by decide)
      have m166 := m155.chT hct12 (by decide)
      have m167 := m157.chT hct12 (by decide)
      have m168 := m158.chT hct12 (by decide)
      have m169 := m159.chT hct12 (by decide)
      have m170 := m160.chT hct12 (by decide)
      have m171 := m151.stp s17 (by omega)
      have b17 := s17.below b16 b16.size (by omega)
      refine Fx.L.nil (Fx.seqN (Fx.W.ret (⟨.agg (Fx.varr 14 (evY V8)), Fx.retV1 Try.results70 ⟨_, q2, Fx.run_loadV m162.cel (by kernel_rfl) (by kernel_rfl)⟩, ?_⟩)))
      exact ⟨V8, wfV8, rfl, b17⟩
     ·refine Fx.L.v (.bool false) (Fx.x_eqlF rfl rfl rfl c94) ?_
      refine Fx.L.v (.bool false) (Fx.x_assign rfl rfl) ?_
      refine Fx.L.nil (Fx.seqN (Fx.W.cond (b := false) rfl (fun h => nomatch h) (fun _ => Fx.W.seq (Fx.W.list ?_))))
      by_cases c108 : V0.kind = 4
      ·refine Fx.L.v (.bool true) (Fx.x_eqlT rfl rfl rfl c108) ?_
       refine Fx.L.v (.bool true) (Fx.x_assign rfl rfl) ?_
       refine Fx.L.nil (Fx.seqN (Fx.W.cond (b := true) rfl (fun _ => Fx.W.seq (Fx.W.list (Fx.L.v (.pointer (some ⟨g1, 7, none⟩)) (Fx.x_field rfl q1 Try.underlying58 rfl (s := 1) (by kernel_rfl) rfl (by show _ + 7 = _; omega)) ?_))) (fun h => nomatch h)))
       refine Fx.L.v (.int .u8 ((x.req : Int))) (Fx.x_load1 (x := actY x) rfl rfl (by kernel_rfl) m33.cel (i := 7) (by omega) (by omega) rfl) ?_
       refine Fx.L.v (.int .u64 ((x.req : Int))) (Fx.x_conv rfl rfl (by kernel_rfl) Try.underlying27 (Fx.u64e (by omega) rfl)) ?_
       refine Fx.L.v (.int .u64 ((x.req : Int) + 1)) (Fx.x_add rfl rfl rfl (Fx.u64e (by omega) (by omega))) ?_
       refine Fx.L.v (.pointer (some ⟨g3, 12, none⟩)) (Fx.x_field rfl q4 Try.underlying54 rfl (s := 1) (by kernel_rfl) rfl (by show _ + 12 = _; omega)) ?_
       refine Fx.L.store1 (x := evY V0) (u := .int .u64 ((x.req : Int) + 1)) (by rfl) rfl rfl rfl rfl (by rfl) (by kernel_rfl) m36 (i := 12) (by omega) fun w16 m172 s18 z15 => ?_
       obtain ⟨V9, eV9⟩ : ∃ V : EvM, V = ⟨V0.o, V0.seq, V0.deps, V0.kind, V0.node, V0.dst, V0.amt, (x.req : Int) + 1, V0.of⟩ := ⟨_, rfl⟩
       have wfV9 : EvWf V9 := by rw [eV9]; exact ⟨wf0.o, wf0.seq, wf0.deps, wf0.kind, wf0.node, wf0.dst, wf0.amt, (show U64r ((x.req : Int) + 1) from ⟨by omega, by omega⟩), wf0.of⟩
       have m173 : Fx.Blk w16 g3 14 (evY V9) 54 := m172.congr (fun j hj => by rw [eV9]; exact ev_req _ _ j hj)
       have hct13 := Fx.ChT.of_stp s18 m36.ty
       have m174 := m30.chT hct13 (by decide)
       have m175 := m31.stp s18 ng3m14
       have m176 := m32.chT hct13 (by decide)
       have m177 := m33.chT hct13 (by decide)
       have m178 := m34.stp s18 (by omega)
       have m179 := m35.chT hct13 (by decide)
       have m180 := m37.chT hct13 (by decide)
       have m181 := m38.chT hct13 (by decide)
       have m182 := m39.chT hct13 (by decide)
       have b18 := s18.below b5 b5.size (by omega)
       refine Fx.L.nil (Fx.seqN (Fx.W.list (Fx.L.v (.pointer (some ⟨g1, 8, none⟩)) (Fx.x_field rfl q1 Try.underlying58 rfl (s := 1) (by kernel_rfl) rfl (by show _ + 8 = _; omega)) ?_)))
       refine Fx.L.v (.int .u8 ((x.of : Int))) (Fx.x_load1 (x := actY x) rfl rfl (by kernel_rfl) m177.cel (i := 8) (by omega) (by omega) rfl) ?_
       refine Fx.L.v (.int .u64 ((x.of : Int))) (Fx.x_conv rfl rfl (by kernel_rfl) Try.underlying27 (Fx.u64e (by omega) rfl)) ?_
       refine Fx.L.v (.int .u64 ((x.of : Int) + 1)) (Fx.x_add rfl rfl rfl (Fx.u64e (by omega) (by omega))) ?_
       refine Fx.L.v (.pointer (some ⟨g3, 13, none⟩)) (Fx.x_field rfl q4 Try.underlying54 rfl (s := 1) (by kernel_rfl) rfl (by show _ + 13 = _; omega)) ?_
       refine Fx.L.store1 (x := evY V9) (u := .int .u64 ((x.of : Int) + 1)) (by rfl) rfl rfl rfl rfl (by rfl) (by kernel_rfl) m173 (i := 13) (by omega) fun w17 m183 s19 z16 => ?_
       obtain ⟨V10, eV10⟩ : ∃ V : EvM, V = ⟨V9.o, V9.seq, V9.deps, V9.kind, V9.node, V9.dst, V9.amt, V9.req, (x.of : Int) + 1⟩ := ⟨_, rfl⟩
       have wfV10 : EvWf V10 := by rw [eV10]; exact ⟨wfV9.o, wfV9.seq, wfV9.deps, wfV9.kind, wfV9.node, wfV9.dst, wfV9.amt, wfV9.req, (show U64r ((x.of : Int) + 1) from ⟨by omega, by omega⟩)⟩
       have m184 : Fx.Blk w17 g3 14 (evY V10) 54 := m183.congr (fun j hj => by rw [eV10]; exact ev_of _ _ j hj)
       have hct14 := Fx.ChT.of_stp s19 m173.ty
       have m185 := m174.chT hct14 (by decide)
       have m186 := m175.stp s19 ng3m14
       have m187 := m176.chT hct14 (by decide)
       have m188 := m177.chT hct14 (by decide)
       have m189 := m178.stp s19 (by omega)
       have m190 := m179.chT hct14 (by decide)
       have m191 := m180.chT hct14 (by decide)
       have m192 := m181.chT hct14 (by decide)
       have m193 := m182.chT hct14 (by decide)
       have b19 := s19.below b18 b18.size (by omega)
       refine Fx.L.nil (Fx.blkN (Fx.seqN (Fx.W.seq (Fx.W.list (Fx.L.v (.agg (Fx.varr 14 (evY V10))) (Fx.x_loadA (x := evY V10) (y := evY V10) rfl q4 (by kernel_rfl) (by kernel_rfl) m184.cel (i := 0) (by omega) (by omega) (fun j _ => by rw [Nat.zero_add])) ?_)))))
       refine Fx.L.storeA (x := fun zq => if zq < 1 then .int .i64 (0) else if zq < 8 then .int .u64 (0) else if zq < 9 then .int .u8 (0) else if zq < 10 then .int .u64 (0) else if zq < 12 then .int .i64 (0) else .int .u64 (0)) (y := evY V10) (by rfl) rfl rfl q2 rfl (evY_one _) (by kernel_rfl) m189 (i := 0) (by omega) fun w18 m194 s20 z17 => ?_
       have m195 : Fx.Blk w18 g2 14 (evY V10) 54 := Fx.ovr_all m194
       have hct15 := Fx.ChT.of_stp s20 m189.ty
       have m196 := m185.chT hct15 (by decide)
       have m197 := m186.stp s20 ng2m9
       have m198 := m187.chT hct15 (by decide)
       have m199 := m188.chT hct15 (by decide)
       have m200 := m190.chT hct15 (by decide)
       have m201 := m191.chT hct15 (by decide)
       have m202 := m192.chT hct15 (by decide)
       have m203 := m193.chT hct15 (by decide)
       have m204 := m184.stp s20 (by omega)
       have b20 := s20.below b19 b19.size (by omega)
       refine Fx.L.nil (Fx.seqN (Fx.W.ret (⟨.agg (Fx.varr 14 (evY V10)), Fx.retV1 Try.results70 ⟨_, q2, Fx.run_loadV m195.cel (by kernel_rfl) (by kernel_rfl)⟩, ?_⟩)))
       exact ⟨V10, wfV10, rfl, b20⟩
      ·refine Fx.L.v (.bool false) (Fx.x_eqlF rfl rfl rfl c108) ?_
       refine Fx.L.v (.bool false) (Fx.x_assign rfl rfl) ?_
       refine Fx.L.nil (Fx.seqN (Fx.W.cond (b := false) rfl (fun h => nomatch h) (fun _ => Fx.W.seq (Fx.W.list ?_))))
       by_cases c120 : V0.kind = 5
       ·refine Fx.L.v (.bool true) (Fx.x_eqlT rfl rfl rfl c120) ?_
        refine Fx.L.v (.bool true) (Fx.x_assign rfl rfl) ?_
        refine Fx.L.nil (Fx.seqN (Fx.W.cond (b := true) rfl (fun _ => Fx.W.seq (Fx.W.list (Fx.L.v (.int .u64 ((M.ml o).id r66)) (Fx.x_move rfl rfl) ?_))) (fun h => nomatch h)))
        refine Fx.L.v (.pointer (some ⟨g3, 9, none⟩)) (Fx.x_field rfl q4 Try.underlying54 rfl (s := 1) (by kernel_rfl) rfl (by show _ + 9 = _; omega)) ?_
        refine Fx.L.store1 (x := evY V0) (u := .int .u64 ((M.ml o).id r66)) (by rfl) rfl rfl rfl rfl (by rfl) (by kernel_rfl) m36 (i := 9) (by omega) fun w19 m205 s21 z18 => ?_
        obtain ⟨V11, eV11⟩ : ∃ V : EvM, V = ⟨V0.o, V0.seq, V0.deps, V0.kind, (M.ml o).id r66, V0.dst, V0.amt, V0.req, V0.of⟩ := ⟨_, rfl⟩
        have wfV11 : EvWf V11 := by rw [eV11]; exact ⟨wf0.o, wf0.seq, wf0.deps, wf0.kind, hnode, wf0.dst, wf0.amt, wf0.req, wf0.of⟩
        have m206 : Fx.Blk w19 g3 14 (evY V11) 54 := m205.congr (fun j hj => by rw [eV11]; exact ev_node _ _ j hj)
        have hct16 := Fx.ChT.of_stp s21 m36.ty
        have m207 := m30.chT hct16 (by decide)
        have m208 := m31.stp s21 ng3m14
        have m209 := m32.chT hct16 (by decide)
        have m210 := m33.chT hct16 (by decide)
        have m211 := m34.stp s21 (by omega)
        have m212 := m35.chT hct16 (by decide)
        have m213 := m37.chT hct16 (by decide)
        have m214 := m38.chT hct16 (by decide)
        have m215 := m39.chT hct16 (by decide)
        have b21 := s21.below b5 b5.size (by omega)
        refine Fx.L.nil (Fx.seqN (Fx.W.seq (Fx.W.list (Fx.L.v (.pointer (some ⟨g1, 6, none⟩)) (Fx.x_field rfl q1 Try.underlying58 rfl (s := 1) (by kernel_rfl) rfl (by show _ + 6 = _; omega)) ?_))))
        refine Fx.L.v (.int .u16 ((x.amt : Int))) (Fx.x_load1 (x := actY x) rfl rfl (by kernel_rfl) m210.cel (i := 6) (by omega) (by omega) rfl) ?_
        refine Fx.L.v (.int .i64 ((x.amt : Int))) (Fx.x_conv rfl rfl (by kernel_rfl) Try.underlying2 (Fx.i64e (by omega) rfl)) ?_
        refine Fx.L.v (.int .i64 ((x.amt : Int) + 1)) (Fx.x_add rfl rfl rfl (Fx.i64e (by omega) (by omega))) ?_
        refine Fx.L.v (.pointer (some ⟨g3, 11, none⟩)) (Fx.x_field rfl q4 Try.underlying54 rfl (s := 1) (by kernel_rfl) rfl (by show _ + 11 = _; omega)) ?_
        refine Fx.L.store1 (x := evY V11) (u := .int .i64 ((x.amt : Int) + 1)) (by rfl) rfl rfl rfl rfl (by rfl) (by kernel_rfl) m206 (i := 11) (by omega) fun w20 m216 s22 z19 => ?_
        obtain ⟨V12, eV12⟩ : ∃ V : EvM, V = ⟨V11.o, V11.seq, V11.deps, V11.kind, V11.node, V11.dst, (x.amt : Int) + 1, V11.req, V11.of⟩ := ⟨_, rfl⟩
        have wfV12 : EvWf V12 := by rw [eV12]; exact ⟨wfV11.o, wfV11.seq, wfV11.deps, wfV11.kind, wfV11.node, wfV11.dst, (show I64r ((x.amt : Int) + 1) from ⟨by omega, by omega⟩), wfV11.req, wfV11.of⟩
        have m217 : Fx.Blk w20 g3 14 (evY V12) 54 := m216.congr (fun j hj => by rw [eV12]; exact ev_amt _ _ j hj)
        have hct17 := Fx.ChT.of_stp s22 m206.ty
        have m218 := m207.chT hct17 (by decide)
        have m219 := m208.stp s22 ng3m14
        have m220 := m209.chT hct17 (by decide)
        have m221 := m210.chT hct17 (by decide)
        have m222 := m211.stp s22 (by omega)
        have m223 := m212.chT hct17 (by decide)
        have m224 := m213.chT hct17 (by decide)
        have m225 := m214.chT hct17 (by decide)
        have m226 := m215.chT hct17 (by decide)
        have b22 := s22.below b21 b21.size (by omega)
        refine Fx.L.nil (Fx.seqN ?_)
        obtain ⟨r6, er6⟩ : ∃ r, r = x.dst % 6 := ⟨_, rfl⟩
        have hr6 : r6 < 6 := by rw [er6]; exact Nat.mod_lt _ (by omega)
        refine Fx.W.list (Fx.L.v (.pointer (some ⟨g1, 5, none⟩)) (Fx.x_field rfl q1 Try.underlying58 rfl (s := 1) (by kernel_rfl) rfl (by show _ + 5 = _; omega)) ?_)
        refine Fx.L.v (.int .u8 ((x.dst : Int))) (Fx.x_load1 (x := actY x) rfl rfl (by kernel_rfl) m221.cel (i := 5) (by omega) (by omega) rfl) ?_
        refine Fx.L.v (.int .i64 ((x.dst : Int))) (Fx.x_conv rfl rfl (by kernel_rfl) Try.underlying3 (Fx.i64e (by omega) rfl)) ?_
        refine Fx.L.v (.int .i64 ((r6 : Int))) (Fx.x_rem rfl rfl rfl (by omega) (remL er6)) ?_
        refine Fx.L.v (.int .i64 ((r6 : Int) + 1)) (Fx.x_add rfl rfl rfl (Fx.i64e (by omega) (by omega))) ?_
        refine Fx.L.v (.pointer (some ⟨g3, 10, none⟩)) (Fx.x_field rfl q4 Try.underlying54 rfl (s := 1) (by kernel_rfl) rfl (by show _ + 10 = _; omega)) ?_
        refine Fx.L.store1 (x := evY V12) (u := .int .i64 ((r6 : Int) + 1)) (by rfl) rfl rfl rfl rfl (by rfl) (by kernel_rfl) m217 (i := 10) (by omega) fun w21 m227 s23 z20 => ?_
        obtain ⟨V13, eV13⟩ : ∃ V : EvM, V = ⟨V12.o, V12.seq, V12.deps, V12.kind, V12.node, (r6 : Int) + 1, V12.amt, V12.req, V12.of⟩ := ⟨_, rfl⟩
        have wfV13 : EvWf V13 := by rw [eV13]; exact ⟨wfV12.o, wfV12.seq, wfV12.deps, wfV12.kind, wfV12.node, (show I64r ((r6 : Int) + 1) from ⟨by omega, by omega⟩), wfV12.amt, wfV12.req, wfV12.of⟩
        have m228 : Fx.Blk w21 g3 14 (evY V13) 54 := m227.congr (fun j hj => by rw [eV13]; exact ev_dst _ _ j hj)
        have hct18 := Fx.ChT.of_stp s23 m217.ty
        have m229 := m218.chT hct18 (by decide)
        have m230 := m219.stp s23 ng3m14
        have m231 := m220.chT hct18 (by decide)
        have m232 := m221.chT hct18 (by decide)
        have m233 := m222.stp s23 (by omega)
        have m234 := m223.chT hct18 (by decide)
        have m235 := m224.chT hct18 (by decide)
        have m236 := m225.chT hct18 (by decide)
        have m237 := m226.chT hct18 (by decide)
        have b23 := s23.below b22 b22.size (by omega)
        refine Fx.L.nil (Fx.blkN (Fx.seqN (Fx.W.seq (Fx.W.list (Fx.L.v (.agg (Fx.varr 14 (evY V13))) (Fx.x_loadA (x := evY V13) (y := evY V13) rfl q4 (by kernel_rfl) (by kernel_rfl) m228.cel (i := 0) (by omega) (by omega) (fun j _ => by rw [Nat.zero_add])) ?_)))))
        refine Fx.L.storeA (x := fun zq => if zq < 1 then .int .i64 (0) else if zq < 8 then .int .u64 (0) else if zq < 9 then .int .u8 (0) else if zq < 10 then .int .u64 (0) else if zq < 12 then .int .i64 (0) else .int .u64 (0)) (y := evY V13) (by rfl) rfl rfl q2 rfl (evY_one _) (by kernel_rfl) m233 (i := 0) (by omega) fun w22 m238 s24 z21 => ?_
        have m239 : Fx.Blk w22 g2 14 (evY V13) 54 := Fx.ovr_all m238
        have hct19 := Fx.ChT.of_stp s24 m233.ty
        have m240 := m229.chT hct19 (by decide)
        have m241 := m230.stp s24 ng2m9
        have m242 := m231.chT hct19 (by decide)
        have m243 := m232.chT hct19 (by decide)
        have m244 := m234.chT hct19 (by decide)
        have m245 := m235.chT hct19 (by decide)
        have m246 := m236.chT hct19 (by decide)
        have m247 := m237.chT hct19 (by decide)
        have m248 := m228.stp s24 (by omega)
        have b24 := s24.below b23 b23.size (by omega)
        refine Fx.L.nil (Fx.seqN (Fx.W.ret (⟨.agg (Fx.varr 14 (evY V13)), Fx.retV1 Try.results70 ⟨_, q2, Fx.run_loadV m239.cel (by kernel_rfl) (by kernel_rfl)⟩, ?_⟩)))
        exact ⟨V13, wfV13, rfl, b24⟩
       ·refine Fx.L.v (.bool false) (Fx.x_eqlF rfl rfl rfl c120) ?_
        refine Fx.L.v (.bool false) (Fx.x_assign rfl rfl) ?_
        refine Fx.L.nil (Fx.seqN (Fx.W.cond (b := false) rfl (fun h => nomatch h) (fun _ => Fx.W.seq (Fx.W.list ?_))))
        by_cases c135 : V0.kind = 6
        ·refine Fx.L.v (.bool true) (Fx.x_eqlT rfl rfl rfl c135) ?_
         refine Fx.L.v (.bool true) (Fx.x_assign rfl rfl) ?_
         refine Fx.L.nil (Fx.seqN (Fx.W.cond (b := true) rfl (fun _ => ?_) (fun h => nomatch h)))
         obtain ⟨r6, er6⟩ : ∃ r, r = x.dst % 6 := ⟨_, rfl⟩
         have hr6 : r6 < 6 := by rw [er6]; exact Nat.mod_lt _ (by omega)
         refine Fx.W.list (Fx.L.v (.pointer (some ⟨g1, 5, none⟩)) (Fx.x_field rfl q1 Try.underlying58 rfl (s := 1) (by kernel_rfl) rfl (by show _ + 5 = _; omega)) ?_)
         refine Fx.L.v (.int .u8 ((x.dst : Int))) (Fx.x_load1 (x := actY x) rfl rfl (by kernel_rfl) m33.cel (i := 5) (by omega) (by omega) rfl) ?_
         refine Fx.L.v (.int .i64 ((x.dst : Int))) (Fx.x_conv rfl rfl (by kernel_rfl) Try.underlying3 (Fx.i64e (by omega) rfl)) ?_
         refine Fx.L.v (.int .i64 ((r6 : Int))) (Fx.x_rem rfl rfl rfl (by omega) (remL er6)) ?_
         refine Fx.L.v (.int .i64 ((r6 : Int) + 1)) (Fx.x_add rfl rfl rfl (Fx.i64e (by omega) (by omega))) ?_
         refine Fx.L.v (.pointer (some ⟨g3, 10, none⟩)) (Fx.x_field rfl q4 Try.underlying54 rfl (s := 1) (by kernel_rfl) rfl (by show _ + 10 = _; omega)) ?_
         refine Fx.L.store1 (x := evY V0) (u := .int .i64 ((r6 : Int) + 1)) (by rfl) rfl rfl rfl rfl (by rfl) (by kernel_rfl) m36 (i := 10) (by omega) fun w23 m249 s25 z22 => ?_
         obtain ⟨V14, eV14⟩ : ∃ V : EvM, V = ⟨V0.o, V0.seq, V0.deps, V0.kind, V0.node, (r6 : Int) + 1, V0.amt, V0.req, V0.of⟩ := ⟨_, rfl⟩
         have wfV14 : EvWf V14 := by rw [eV14]; exact ⟨wf0.o, wf0.seq, wf0.deps, wf0.kind, wf0.node, (show I64r ((r6 : Int) + 1) from ⟨by omega, by omega⟩), wf0.amt, wf0.req, wf0.of⟩
         have m250 : Fx.Blk w23 g3 14 (evY V14) 54 := m249.congr (fun j hj => by rw [eV14]; exact ev_dst _ _ j hj)
         have hct20 := Fx.ChT.of_stp s25 m36.ty
         have m251 := m30.chT hct20 (by decide)
         have m252 := m31.stp s25 ng3m14
         have m253 := m32.chT hct20 (by decide)
         have m254 := m33.chT hct20 (by decide)
         have m255 := m34.stp s25 (by omega)
         have m256 := m35.chT hct20 (by decide)
         have m257 := m37.chT hct20 (by decide)
         have m258 := m38.chT hct20 (by decide)
         have m259 := m39.chT hct20 (by decide)
         have b25 := s25.below b5 b5.size (by omega)
         refine Fx.L.nil (Fx.blkN (Fx.seqN (Fx.W.seq (Fx.W.list (Fx.L.v (.agg (Fx.varr 14 (evY V14))) (Fx.x_loadA (x := evY V14) (y := evY V14) rfl q4 (by kernel_rfl) (by kernel_rfl) m250.cel (i := 0) (by omega) (by omega) (fun j _ => by rw [Nat.zero_add])) ?_)))))
         refine Fx.L.storeA (x := fun zq => if zq < 1 then .int .i64 (0) else if zq < 8 then .int .u64 (0) else if zq < 9 then .int .u8 (0) else if zq < 10 then .int .u64 (0) else if zq < 12 then .int .i64 (0) else .int .u64 (0)) (y := evY V14) (by rfl) rfl rfl q2 rfl (evY_one _) (by kernel_rfl) m255 (i := 0) (by omega) fun w24 m260 s26 z23 => ?_
         have m261 : Fx.Blk w24 g2 14 (evY V14) 54 := Fx.ovr_all m260
         have hct21 := Fx.ChT.of_stp s26 m255.ty
         have m262 := m251.chT hct21 (by decide)
         have m263 := m252.stp s26 ng2m9
         have m264 := m253.chT hct21 (by decide)
         have m265 := m254.chT hct21 (by decide)
         have m266 := m256.chT hct21 (by decide)
         have m267 := m257.chT hct21 (by decide)
         have m268 := m258.chT hct21 (by decide)
         have m269 := m259.chT hct21 (by decide)
         have m270 := m250.stp s26 (by omega)
         have b26 := s26.below b25 b25.size (by omega)
         refine Fx.L.nil (Fx.seqN (Fx.W.ret (⟨.agg (Fx.varr 14 (evY V14)), Fx.retV1 Try.results70 ⟨_, q2, Fx.run_loadV m261.cel (by kernel_rfl) (by kernel_rfl)⟩, ?_⟩)))
         exact ⟨V14, wfV14, rfl, b26⟩
        ·refine Fx.L.v (.bool false) (Fx.x_eqlF rfl rfl rfl c135) ?_
         refine Fx.L.v (.bool false) (Fx.x_assign rfl rfl) ?_
         refine Fx.L.nil (Fx.seqN (Fx.W.cond (b := false) rfl (fun h => nomatch h) (fun _ => Fx.W.skip (Fx.blkN (Fx.seqN (Fx.W.seq (Fx.W.list (Fx.L.v (.agg (Fx.varr 14 (evY V0))) (Fx.x_loadA (x := evY V0) (y := evY V0) rfl q4 (by kernel_rfl) (by kernel_rfl) m36.cel (i := 0) (by omega) (by omega) (fun j _ => by rw [Nat.zero_add])) ?_))))))))
         refine Fx.L.storeA (x := fun zq => if zq < 1 then .int .i64 (0) else if zq < 8 then .int .u64 (0) else if zq < 9 then .int .u8 (0) else if zq < 10 then .int .u64 (0) else if zq < 12 then .int .i64 (0) else .int .u64 (0)) (y := evY V0) (by rfl) rfl rfl q2 rfl (evY_one _) (by kernel_rfl) m34 (i := 0) (by omega) fun w25 m271 s27 z24 => ?_
         have m272 : Fx.Blk w25 g2 14 (evY V0) 54 := Fx.ovr_all m271
         have hct22 := Fx.ChT.of_stp s27 m34.ty
         have m273 := m30.chT hct22 (by decide)
         have m274 := m31.stp s27 ng2m9
         have m275 := m32.chT hct22 (by decide)
         have m276 := m33.chT hct22 (by decide)
         have m277 := m35.chT hct22 (by decide)
         have m278 := m36.stp s27 (by omega)
         have m279 := m37.chT hct22 (by decide)
         have m280 := m38.chT hct22 (by decide)
         have m281 := m39.chT hct22 (by decide)
         have b27 := s27.below b5 b5.size (by omega)
         refine Fx.L.nil (Fx.seqN (Fx.W.ret (⟨.agg (Fx.varr 14 (evY V0)), Fx.retV1 Try.results70 ⟨_, q2, Fx.run_loadV m272.cel (by kernel_rfl) (by kernel_rfl)⟩, ?_⟩)))
         exact ⟨V0, wf0, rfl, b27⟩
  ·refine Fx.L.v (.bool false) (Fx.x_gtrF rfl rfl rfl c51) ?_
   refine Fx.L.nil (Fx.seqN (Fx.W.cond (b := false) rfl (fun h => nomatch h) (fun _ => Fx.W.skip (Fx.seqN (Fx.W.seq (Fx.W.seq ?_))))))
   have hnode : U64r (0 : Int) := ⟨by decide, by decide⟩
   refine Fx.W.list (Fx.L.v (.pointer (some ⟨g3, 8, none⟩)) (Fx.x_field rfl q4 Try.underlying54 rfl (s := 1) (by kernel_rfl) rfl (by show _ + 8 = _; omega)) ?_)
   refine Fx.L.v (.int .u8 (V0.kind)) (Fx.x_load1 (x := evY V0) rfl rfl (by kernel_rfl) m28.cel (i := 8) (by omega) (by omega) rfl) ?_
   refine Fx.L.nil (Fx.seqN (Fx.W.block (Fx.W.seq (Fx.W.list ?_))))
   by_cases c73 : V0.kind = 1
   ·refine Fx.L.v (.bool true) (Fx.x_eqlT rfl rfl rfl c73) ?_
    refine Fx.L.v (.bool true) (Fx.x_assign rfl rfl) ?_
    refine Fx.L.nil (Fx.seqN (Fx.W.cond (b := true) rfl (fun _ => Fx.W.seq (Fx.W.seq ?_)) (fun h => nomatch h)))
    obtain ⟨r76, er76⟩ : ∃ r, r = x.node % 2 := ⟨_, rfl⟩
    have hr76 : r76 < 2 := by rw [er76]; exact Nat.mod_lt _ (by omega)
    refine Fx.W.list (Fx.L.v (.pointer (some ⟨g1, 4, none⟩)) (Fx.x_field rfl q1 Try.underlying58 rfl (s := 1) (by kernel_rfl) rfl (by show _ + 4 = _; omega)) ?_)
    refine Fx.L.v (.int .u8 ((x.node : Int))) (Fx.x_load1 (x := actY x) rfl rfl (by kernel_rfl) m23.cel (i := 4) (by omega) (by omega) rfl) ?_
    refine Fx.L.v (.int .u8 ((r76 : Int))) (Fx.x_rem rfl rfl rfl (by omega) (remL er76)) ?_
    by_cases c77 : (r76 : Int) = 1
    ·refine Fx.L.v (.bool true) (Fx.x_eqlT rfl rfl rfl c77) ?_
     refine Fx.L.nil (Fx.seqN (Fx.W.cond (b := true) rfl (fun _ => Fx.W.list (Fx.L.v (.int .u64 (0)) (Fx.x_move rfl rfl) ?_)) (fun h => nomatch h)))
     refine Fx.L.v (.pointer (some ⟨g3, 9, none⟩)) (Fx.x_field rfl q4 Try.underlying54 rfl (s := 1) (by kernel_rfl) rfl (by show _ + 9 = _; omega)) ?_
     refine Fx.L.store1 (x := evY V0) (u := .int .u64 (0)) (by rfl) rfl rfl rfl rfl (by rfl) (by kernel_rfl) m28 (i := 9) (by omega) fun w26 m282 s28 z25 => ?_
     obtain ⟨V15, eV15⟩ : ∃ V : EvM, V = ⟨V0.o, V0.seq, V0.deps, V0.kind, 0, V0.dst, V0.amt, V0.req, V0.of⟩ := ⟨_, rfl⟩
     have wfV15 : EvWf V15 := by rw [eV15]; exact ⟨wf0.o, wf0.seq, wf0.deps, wf0.kind, hnode, wf0.dst, wf0.amt, wf0.req, wf0.of⟩
     have m283 : Fx.Blk w26 g3 14 (evY V15) 54 := m282.congr (fun j hj => by rw [eV15]; exact ev_node _ _ j hj)
     have hct23 := Fx.ChT.of_stp s28 m28.ty
     have m284 := m20.chT hct23 (by decide)
     have m285 := m21.stp s28 ng3m14
     have m286 := m22.chT hct23 (by decide)
     have m287 := m23.chT hct23 (by decide)
     have m288 := m24.stp s28 (by omega)
     have m289 := m25.chT hct23 (by decide)
     have m290 := m27.chT hct23 (by decide)
     have m291 := hLo2c.chT hct23 (by decide)
     have m292 := hLo2n.chT hct23 (by decide)
     have b28 := s28.below b4 b4.size (by omega)
     refine Fx.L.nil (Fx.seqN (Fx.W.list (Fx.L.v (.pointer (some ⟨g1, 6, none⟩)) (Fx.x_field rfl q1 Try.underlying58 rfl (s := 1) (by kernel_rfl) rfl (by show _ + 6 = _; omega)) ?_)))
     refine Fx.L.v (.int .u16 ((x.amt : Int))) (Fx.x_load1 (x := actY x) rfl rfl (by kernel_rfl) m287.cel (i := 6) (by omega) (by omega) rfl) ?_
     refine Fx.L.v (.int .i64 ((x.amt : Int))) (Fx.x_conv rfl rfl (by kernel_rfl) Try.underlying2 (Fx.i64e (by omega) rfl)) ?_
     refine Fx.L.v (.pointer (some ⟨g3, 11, none⟩)) (Fx.x_field rfl q4 Try.underlying54 rfl (s := 1) (by kernel_rfl) rfl (by show _ + 11 = _; omega)) ?_
     refine Fx.L.store1 (x := evY V15) (u := .int .i64 ((x.amt : Int))) (by rfl) rfl rfl rfl rfl (by rfl) (by kernel_rfl) m283 (i := 11) (by omega) fun w27 m293 s29 z26 => ?_
     obtain ⟨V16, eV16⟩ : ∃ V : EvM, V = ⟨V15.o, V15.seq, V15.deps, V15.kind, V15.node, V15.dst, (x.amt : Int), V15.req, V15.of⟩ := ⟨_, rfl⟩
     have wfV16 : EvWf V16 := by rw [eV16]; exact ⟨wfV15.o, wfV15.seq, wfV15.deps, wfV15.kind, wfV15.node, wfV15.dst, (show I64r ((x.amt : Int)) from ⟨by omega, by omega⟩), wfV15.req, wfV15.of⟩
     have m294 : Fx.Blk w27 g3 14 (evY V16) 54 := m293.congr (fun j hj => by rw [eV16]; exact ev_amt _ _ j hj)
     have hct24 := Fx.ChT.of_stp s29 m283.ty
     have m295 := m284.chT hct24 (by decide)
     have m296 := m285.stp s29 ng3m14
     have m297 := m286.chT hct24 (by decide)
     have m298 := m287.chT hct24 (by decide)
     have m299 := m288.stp s29 (by omega)
     have m300 := m289.chT hct24 (by decide)
     have m301 := m290.chT hct24 (by decide)
     have m302 := m291.chT hct24 (by decide)
     have m303 := m292.chT hct24 (by decide)
     have b29 := s29.below b28 b28.size (by omega)
     refine Fx.L.nil (Fx.blkN (Fx.seqN (Fx.W.seq (Fx.W.list (Fx.L.v (.agg (Fx.varr 14 (evY V16))) (Fx.x_loadA (x := evY V16) (y := evY V16) rfl q4 (by kernel_rfl) (by kernel_rfl) m294.cel (i := 0) (by omega) (by omega) (fun j _ => by rw [Nat.zero_add])) ?_)))))
     refine Fx.L.storeA (x := fun zq => if zq < 1 then .int .i64 (0) else if zq < 8 then .int .u64 (0) else if zq < 9 then .int .u8 (0) else if zq < 10 then .int .u64 (0) else if zq < 12 then .int .i64 (0) else .int .u64 (0)) (y := evY V16) (by rfl) rfl rfl q2 rfl (evY_one _) (by kernel_rfl) m299 (i := 0) (by omega) fun w28 m304 s30 z27 => ?_
     have m305 : Fx.Blk w28 g2 14 (evY V16) 54 := Fx.ovr_all m304
     have hct25 := Fx.ChT.of_stp s30 m299.ty
     have m306 := m295.chT hct25 (by decide)
     have m307 := m296.stp s30 ng2m9
     have m308 := m297.chT hct25 (by decide)
     have m309 := m298.chT hct25 (by decide)
     have m310 := m300.chT hct25 (by decide)
     have m311 := m301.chT hct25 (by decide)
     have m312 := m302.chT hct25 (by decide)
     have m313 := m303.chT hct25 (by decide)
     have m314 := m294.stp s30 (by omega)
     have b30 := s30.below b29 b29.size (by omega)
     refine Fx.L.nil (Fx.seqN (Fx.W.ret (⟨.agg (Fx.varr 14 (evY V16)), Fx.retV1 Try.results70 ⟨_, q2, Fx.run_loadV m305.cel (by kernel_rfl) (by kernel_rfl)⟩, ?_⟩)))
     exact ⟨V16, wfV16, rfl, b30⟩
    ·refine Fx.L.v (.bool false) (Fx.x_eqlF rfl rfl rfl c77) ?_
     refine Fx.L.nil (Fx.seqN (Fx.W.cond (b := false) rfl (fun h => nomatch h) (fun _ => Fx.W.skip (Fx.seqN (Fx.W.list (Fx.L.v (.pointer (some ⟨g1, 6, none⟩)) (Fx.x_field rfl q1 Try.underlying58 rfl (s := 1) (by kernel_rfl) rfl (by show _ + 6 = _; omega)) ?_))))))
     refine Fx.L.v (.int .u16 ((x.amt : Int))) (Fx.x_load1 (x := actY x) rfl rfl (by kernel_rfl) m23.cel (i := 6) (by omega) (by omega) rfl) ?_
     refine Fx.L.v (.int .i64 ((x.amt : Int))) (Fx.x_conv rfl rfl (by kernel_rfl) Try.underlying2 (Fx.i64e (by omega) rfl)) ?_
     refine Fx.L.v (.pointer (some ⟨g3, 11, none⟩)) (Fx.x_field rfl q4 Try.underlying54 rfl (s := 1) (by kernel_rfl) rfl (by show _ + 11 = _; omega)) ?_
     refine Fx.L.store1 (x := evY V0) (u := .int .i64 ((x.amt : Int))) (by rfl) rfl rfl rfl rfl (by rfl) (by kernel_rfl) m28 (i := 11) (by omega) fun w29 m315 s31 z28 => ?_
     obtain ⟨V17, eV17⟩ : ∃ V : EvM, V = ⟨V0.o, V0.seq, V0.deps, V0.kind, V0.node, V0.dst, (x.amt : Int), V0.req, V0.of⟩ := ⟨_, rfl⟩
     have wfV17 : EvWf V17 := by rw [eV17]; exact ⟨wf0.o, wf0.seq, wf0.deps, wf0.kind, wf0.node, wf0.dst, (show I64r ((x.amt : Int)) from ⟨by omega, by omega⟩), wf0.req, wf0.of⟩
     have m316 : Fx.Blk w29 g3 14 (evY V17) 54 := m315.congr (fun j hj => by rw [eV17]; exact ev_amt _ _ j hj)
     have hct26 := Fx.ChT.of_stp s31 m28.ty
     have m317 := m20.chT hct26 (by decide)
     have m318 := m21.stp s31 ng3m14
     have m319 := m22.chT hct26 (by decide)
     have m320 := m23.chT hct26 (by decide)
     have m321 := m24.stp s31 (by omega)
     have m322 := m25.chT hct26 (by decide)
     have m323 := m27.chT hct26 (by decide)
     have m324 := hLo2c.chT hct26 (by decide)
     have m325 := hLo2n.chT hct26 (by decide)
     have b31 := s31.below b4 b4.size (by omega)
     refine Fx.L.nil (Fx.blkN (Fx.seqN (Fx.W.seq (Fx.W.list (Fx.L.v (.agg (Fx.varr 14 (evY V17))) (Fx.x_loadA (x := evY V17) (y := evY V17) rfl q4 (by kernel_rfl) (by kernel_rfl) m316.cel (i := 0) (by omega) (by omega) (fun j _ => by rw [Nat.zero_add])) ?_)))))
     refine Fx.L.storeA (x := fun zq => if zq < 1 then .int .i64 (0) else if zq < 8 then .int .u64 (0) else if zq < 9 then .int .u8 (0) else if zq < 10 then .int .u64 (0) else if zq < 12 then .int .i64 (0) else .int .u64 (0)) (y := evY V17) (by rfl) rfl rfl q2 rfl (evY_one _) (by kernel_rfl) m321 (i := 0) (by omega) fun w30 m326 s32 z29 => ?_
     have m327 : Fx.Blk w30 g2 14 (evY V17) 54 := Fx.ovr_all m326
     have hct27 := Fx.ChT.of_stp s32 m321.ty
     have m328 := m317.chT hct27 (by decide)
     have m329 := m318.stp s32 ng2m9
     have m330 := m319.chT hct27 (by decide)
     have m331 := m320.chT hct27 (by decide)
     have m332 := m322.chT hct27 (by decide)
     have m333 := m323.chT hct27 (by decide)
     have m334 := m324.chT hct27 (by decide)
     have m335 := m325.chT hct27 (by decide)
     have m336 := m316.stp s32 (by omega)
     have b32 := s32.below b31 b31.size (by omega)
     refine Fx.L.nil (Fx.seqN (Fx.W.ret (⟨.agg (Fx.varr 14 (evY V17)), Fx.retV1 Try.results70 ⟨_, q2, Fx.run_loadV m327.cel (by kernel_rfl) (by kernel_rfl)⟩, ?_⟩)))
     exact ⟨V17, wfV17, rfl, b32⟩
   ·refine Fx.L.v (.bool false) (Fx.x_eqlF rfl rfl rfl c73) ?_
    refine Fx.L.v (.bool false) (Fx.x_assign rfl rfl) ?_
    refine Fx.L.nil (Fx.seqN (Fx.W.cond (b := false) rfl (fun h => nomatch h) (fun _ => Fx.W.seq (Fx.W.list ?_))))
    by_cases c85 : V0.kind = 2
    ·refine Fx.L.v (.bool true) (Fx.x_eqlT rfl rfl rfl c85) ?_
     refine Fx.L.v (.bool true) (Fx.x_assign rfl rfl) ?_
     refine Fx.L.nil (Fx.seqN (Fx.W.cond (b := true) rfl (fun _ => Fx.W.seq (Fx.W.list (Fx.L.v (.int .u64 (0)) (Fx.x_move rfl rfl) ?_))) (fun h => nomatch h)))
     refine Fx.L.v (.pointer (some ⟨g3, 9, none⟩)) (Fx.x_field rfl q4 Try.underlying54 rfl (s := 1) (by kernel_rfl) rfl (by show _ + 9 = _; omega)) ?_
     refine Fx.L.store1 (x := evY V0) (u := .int .u64 (0)) (by rfl) rfl rfl rfl rfl (by rfl) (by kernel_rfl) m28 (i := 9) (by omega) fun w31 m337 s33 z30 => ?_
     obtain ⟨V18, eV18⟩ : ∃ V : EvM, V = ⟨V0.o, V0.seq, V0.deps, V0.kind, 0, V0.dst, V0.amt, V0.req, V0.of⟩ := ⟨_, rfl⟩
     have wfV18 : EvWf V18 := by rw [eV18]; exact ⟨wf0.o, wf0.seq, wf0.deps, wf0.kind, hnode, wf0.dst, wf0.amt, wf0.req, wf0.of⟩
     have m338 : Fx.Blk w31 g3 14 (evY V18) 54 := m337.congr (fun j hj => by rw [eV18]; exact ev_node _ _ j hj)
     have hct28 := Fx.ChT.of_stp s33 m28.ty
     have m339 := m20.chT hct28 (by decide)
     have m340 := m21.stp s33 ng3m14
     have m341 := m22.chT hct28 (by decide)
     have m342 := m23.chT hct28 (by decide)
     have m343 := m24.stp s33 (by omega)
     have m344 := m25.chT hct28 (by decide)
     have m345 := m27.chT hct28 (by decide)
     have m346 := hLo2c.chT hct28 (by decide)
     have m347 := hLo2n.chT hct28 (by decide)
     have b33 := s33.below b4 b4.size (by omega)
     refine Fx.L.nil (Fx.seqN (Fx.W.list (Fx.L.v (.pointer (some ⟨g1, 6, none⟩)) (Fx.x_field rfl q1 Try.underlying58 rfl (s := 1) (by kernel_rfl) rfl (by show _ + 6 = _; omega)) ?_)))
     refine Fx.L.v (.int .u16 ((x.amt : Int))) (Fx.x_load1 (x := actY x) rfl rfl (by kernel_rfl) m342.cel (i := 6) (by omega) (by omega) rfl) ?_
     refine Fx.L.v (.int .i64 ((x.amt : Int))) (Fx.x_conv rfl rfl (by kernel_rfl) Try.underlying2 (Fx.i64e (by omega) rfl)) ?_
     refine Fx.L.v (.int .i64 ((x.amt : Int) + 1)) (Fx.x_add rfl rfl rfl (Fx.i64e (by omega) (by omega))) ?_
     refine Fx.L.v (.pointer (some ⟨g3, 11, none⟩)) (Fx.x_field rfl q4 Try.underlying54 rfl (s := 1) (by kernel_rfl) rfl (by show _ + 11 = _; omega)) ?_
     refine Fx.L.store1 (x := evY V18) (u := .int .i64 ((x.amt : Int) + 1)) (by rfl) rfl rfl rfl rfl (by rfl) (by kernel_rfl) m338 (i := 11) (by omega) fun w32 m348 s34 z31 => ?_
     obtain ⟨V19, eV19⟩ : ∃ V : EvM, V = ⟨V18.o, V18.seq, V18.deps, V18.kind, V18.node, V18.dst, (x.amt : Int) + 1, V18.req, V18.of⟩ := ⟨_, rfl⟩
     have wfV19 : EvWf V19 := by rw [eV19]; exact ⟨wfV18.o, wfV18.seq, wfV18.deps, wfV18.kind, wfV18.node, wfV18.dst, (show I64r ((x.amt : Int) + 1) from ⟨by omega, by omega⟩), wfV18.req, wfV18.of⟩
     have m349 : Fx.Blk w32 g3 14 (evY V19) 54 := m348.congr (fun j hj => by rw [eV19]; exact ev_amt _ _ j hj)
     have hct29 := Fx.ChT.of_stp s34 m338.ty
     have m350 := m339.chT hct29 (by decide)
     have m351 := m340.stp s34 ng3m14
     have m352 := m341.chT hct29 (by decide)
     have m353 := m342.chT hct29 (by decide)
     have m354 := m343.stp s34 (by omega)
     have m355 := m344.chT hct29 (by decide)
     have m356 := m345.chT hct29 (by decide)
     have m357 := m346.chT hct29 (by decide)
     have m358 := m347.chT hct29 (by decide)
     have b34 := s34.below b33 b33.size (by omega)
     refine Fx.L.nil (Fx.blkN (Fx.seqN (Fx.W.seq (Fx.W.list (Fx.L.v (.agg (Fx.varr 14 (evY V19))) (Fx.x_loadA (x := evY V19) (y := evY V19) rfl q4 (by kernel_rfl) (by kernel_rfl) m349.cel (i := 0) (by omega) (by omega) (fun j _ => by rw [Nat.zero_add])) ?_)))))
     refine Fx.L.storeA (x := fun zq => if zq < 1 then .int .i64 (0) else if zq < 8 then .int .u64 (0) else if zq < 9 then .int .u8 (0) else if zq < 10 then .int .u64 (0) else if zq < 12 then .int .i64 (0) else .int .u64 (0)) (y := evY V19) (by rfl) rfl rfl q2 rfl (evY_one _) (by kernel_rfl) m354 (i := 0) (by omega) fun w33 m359 s35 z32 => ?_
     have m360 : Fx.Blk w33 g2 14 (evY V19) 54 := Fx.ovr_all m359
     have hct30 := Fx.ChT.of_stp s35 m354.ty
     have m361 := m350.chT hct30 (by decide)
     have m362 := m351.stp s35 ng2m9
     have m363 := m352.chT hct30 (by decide)
     have m364 := m353.chT hct30 (by decide)
     have m365 := m355.chT hct30 (by decide)
     have m366 := m356.chT hct30 (by decide)
     have m367 := m357.chT hct30 (by decide)
     have m368 := m358.chT hct30 (by decide)
     have m369 := m349.stp s35 (by omega)
     have b35 := s35.below b34 b34.size (by omega)
     refine Fx.L.nil (Fx.seqN (Fx.W.ret (⟨.agg (Fx.varr 14 (evY V19)), Fx.retV1 Try.results70 ⟨_, q2, Fx.run_loadV m360.cel (by kernel_rfl) (by kernel_rfl)⟩, ?_⟩)))
     exact ⟨V19, wfV19, rfl, b35⟩
    ·refine Fx.L.v (.bool false) (Fx.x_eqlF rfl rfl rfl c85) ?_
     refine Fx.L.v (.bool false) (Fx.x_assign rfl rfl) ?_
     refine Fx.L.nil (Fx.seqN (Fx.W.cond (b := false) rfl (fun h => nomatch h) (fun _ => Fx.W.seq (Fx.W.list ?_))))
     by_cases c94 : V0.kind = 3
     ·refine Fx.L.v (.bool true) (Fx.x_eqlT rfl rfl rfl c94) ?_
      refine Fx.L.v (.bool true) (Fx.x_assign rfl rfl) ?_
      refine Fx.L.nil (Fx.seqN (Fx.W.cond (b := true) rfl (fun _ => Fx.W.seq (Fx.W.list (Fx.L.v (.int .u64 (0)) (Fx.x_move rfl rfl) ?_))) (fun h => nomatch h)))
      refine Fx.L.v (.pointer (some ⟨g3, 9, none⟩)) (Fx.x_field rfl q4 Try.underlying54 rfl (s := 1) (by kernel_rfl) rfl (by show _ + 9 = _; omega)) ?_
      refine Fx.L.store1 (x := evY V0) (u := .int .u64 (0)) (by rfl) rfl rfl rfl rfl (by rfl) (by kernel_rfl) m28 (i := 9) (by omega) fun w34 m370 s36 z33 => ?_
      obtain ⟨V20, eV20⟩ : ∃ V : EvM, V = ⟨V0.o, V0.seq, V0.deps, V0.kind, 0, V0.dst, V0.amt, V0.req, V0.of⟩ := ⟨_, rfl⟩
      have wfV20 : EvWf V20 := by rw [eV20]; exact ⟨wf0.o, wf0.seq, wf0.deps, wf0.kind, hnode, wf0.dst, wf0.amt, wf0.req, wf0.of⟩
      have m371 : Fx.Blk w34 g3 14 (evY V20) 54 := m370.congr (fun j hj => by rw [eV20]; exact ev_node _ _ j hj)
      have hct31 := Fx.ChT.of_stp s36 m28.ty
      have m372 := m20.chT hct31 (by decide)
      have m373 := m21.stp s36 ng3m14
      have m374 := m22.chT hct31 (by decide)
      have m375 := m23.chT hct31 (by decide)
      have m376 := m24.stp s36 (by omega)
      have m377 := m25.chT hct31 (by decide)
      have m378 := m27.chT hct31 (by decide)
      have m379 := hLo2c.chT hct31 (by decide)
      have m380 := hLo2n.chT hct31 (by decide)
      have b36 := s36.below b4 b4.size (by omega)
      refine Fx.L.nil (Fx.seqN (Fx.W.seq (Fx.W.list (Fx.L.v (.pointer (some ⟨g1, 6, none⟩)) (Fx.x_field rfl q1 Try.underlying58 rfl (s := 1) (by kernel_rfl) rfl (by show _ + 6 = _; omega)) ?_))))
      refine Fx.L.v (.int .u16 ((x.amt : Int))) (Fx.x_load1 (x := actY x) rfl rfl (by kernel_rfl) m375.cel (i := 6) (by omega) (by omega) rfl) ?_
      refine Fx.L.v (.int .i64 ((x.amt : Int))) (Fx.x_conv rfl rfl (by kernel_rfl) Try.underlying2 (Fx.i64e (by omega) rfl)) ?_
      refine Fx.L.v (.int .i64 ((x.amt : Int) + 1)) (Fx.x_add rfl rfl rfl (Fx.i64e (by omega) (by omega))) ?_
      refine Fx.L.v (.pointer (some ⟨g3, 11, none⟩)) (Fx.x_field rfl q4 Try.underlying54 rfl (s := 1) (by kernel_rfl) rfl (by show _ + 11 = _; omega)) ?_
      refine Fx.L.store1 (x := evY V20) (u := .int .i64 ((x.amt : Int) + 1)) (by rfl) rfl rfl rfl rfl (by rfl) (by kernel_rfl) m371 (i := 11) (by omega) fun w35 m381 s37 z34 => ?_
      obtain ⟨V21, eV21⟩ : ∃ V : EvM, V = ⟨V20.o, V20.seq, V20.deps, V20.kind, V20.node, V20.dst, (x.amt : Int) + 1, V20.req, V20.of⟩ := ⟨_, rfl⟩
      have wfV21 : EvWf V21 := by rw [eV21]; exact ⟨wfV20.o, wfV20.seq, wfV20.deps, wfV20.kind, wfV20.node, wfV20.dst, (show I64r ((x.amt : Int) + 1) from ⟨by omega, by omega⟩), wfV20.req, wfV20.of⟩
      have m382 : Fx.Blk w35 g3 14 (evY V21) 54 := m381.congr (fun j hj => by rw [eV21]; exact ev_amt _ _ j hj)
      have hct32 := Fx.ChT.of_stp s37 m371.ty
      have m383 := m372.chT hct32 (by decide)
      have m384 := m373.stp s37 ng3m14
      have m385 := m374.chT hct32 (by decide)
      have m386 := m375.chT hct32 (by decide)
      have m387 := m376.stp s37 (by omega)
      have m388 := m377.chT hct32 (by decide)
      have m389 := m378.chT hct32 (by decide)
      have m390 := m379.chT hct32 (by decide)
      have m391 := m380.chT hct32 (by decide)
      have b37 := s37.below b36 b36.size (by omega)
      refine Fx.L.nil (Fx.seqN (Fx.W.list (Fx.L.v (.pointer (some ⟨g1, 7, none⟩)) (Fx.x_field rfl q1 Try.underlying58 rfl (s := 1) (by kernel_rfl) rfl (by show _ + 7 = _; omega)) ?_)))
      refine Fx.L.v (.int .u8 ((x.req : Int))) (Fx.x_load1 (x := actY x) rfl rfl (by kernel_rfl) m386.cel (i := 7) (by omega) (by omega) rfl) ?_
      refine Fx.L.v (.int .u64 ((x.req : Int))) (Fx.x_conv rfl rfl (by kernel_rfl) Try.underlying27 (Fx.u64e (by omega) rfl)) ?_
      refine Fx.L.v (.int .u64 ((x.req : Int) + 1)) (Fx.x_add rfl rfl rfl (Fx.u64e (by omega) (by omega))) ?_
      refine Fx.L.v (.pointer (some ⟨g3, 12, none⟩)) (Fx.x_field rfl q4 Try.underlying54 rfl (s := 1) (by kernel_rfl) rfl (by show _ + 12 = _; omega)) ?_
      refine Fx.L.store1 (x := evY V21) (u := .int .u64 ((x.req : Int) + 1)) (by rfl) rfl rfl rfl rfl (by rfl) (by kernel_rfl) m382 (i := 12) (by omega) fun w36 m392 s38 z35 => ?_
      obtain ⟨V22, eV22⟩ : ∃ V : EvM, V = ⟨V21.o, V21.seq, V21.deps, V21.kind, V21.node, V21.dst, V21.amt, (x.req : Int) + 1, V21.of⟩ := ⟨_, rfl⟩
      have wfV22 : EvWf V22 := by rw [eV22]; exact ⟨wfV21.o, wfV21.seq, wfV21.deps, wfV21.kind, wfV21.node, wfV21.dst, wfV21.amt, (show U64r ((x.req : Int) + 1) from ⟨by omega, by omega⟩), wfV21.of⟩
      have m393 : Fx.Blk w36 g3 14 (evY V22) 54 := m392.congr (fun j hj => by rw [eV22]; exact ev_req _ _ j hj)
      have hct33 := Fx.ChT.of_stp s38 m382.ty
      have m394 := m383.chT hct33 (by decide)
      have m395 := m384.stp s38 ng3m14
      have m396 := m385.chT hct33 (by decide)
      have m397 := m386.chT hct33 (by decide)
      have m398 := m387.stp s38 (by omega)
      have m399 := m388.chT hct33 (by decide)
      have m400 := m389.chT hct33 (by decide)
      have m401 := m390.chT hct33 (by decide)
      have m402 := m391.chT hct33 (by decide)
      have b38 := s38.below b37 b37.size (by omega)
      refine Fx.L.nil (Fx.blkN (Fx.seqN (Fx.W.seq (Fx.W.list (Fx.L.v (.agg (Fx.varr 14 (evY V22))) (Fx.x_loadA (x := evY V22) (y := evY V22) rfl q4 (by kernel_rfl) (by kernel_rfl) m393.cel (i := 0) (by omega) (by omega) (fun j _ => by rw [Nat.zero_add])) ?_)))))
      refine Fx.L.storeA (x := fun zq => if zq < 1 then .int .i64 (0) else if zq < 8 then .int .u64 (0) else if zq < 9 then .int .u8 (0) else if zq < 10 then .int .u64 (0) else if zq < 12 then .int .i64 (0) else .int .u64 (0)) (y := evY V22) (by rfl) rfl rfl q2 rfl (evY_one _) (by kernel_rfl) m398 (i := 0) (by omega) fun w37 m403 s39 z36 => ?_
      have m404 : Fx.Blk w37 g2 14 (evY V22) 54 := Fx.ovr_all m403
      have hct34 := Fx.ChT.of_stp s39 m398.ty
      have m405 := m394.chT hct34 (by decide)
      have m406 := m395.stp s39 ng2m9
      have m407 := m396.chT hct34 (by decide)
      have m408 := m397.chT hct34 (by decide)
      have m409 := m399.chT hct34 (by decide)
      have m410 := m400.chT hct34 (by decide)
      have m411 := m401.chT hct34 (by decide)
      have m412 := m402.chT hct34 (by decide)
      have m413 := m393.stp s39 (by omega)
      have b39 := s39.below b38 b38.size (by omega)
      refine Fx.L.nil (Fx.seqN (Fx.W.ret (⟨.agg (Fx.varr 14 (evY V22)), Fx.retV1 Try.results70 ⟨_, q2, Fx.run_loadV m404.cel (by kernel_rfl) (by kernel_rfl)⟩, ?_⟩)))
      exact ⟨V22, wfV22, rfl, b39⟩
     ·refine Fx.L.v (.bool false) (Fx.x_eqlF rfl rfl rfl c94) ?_
      refine Fx.L.v (.bool false) (Fx.x_assign rfl rfl) ?_
      refine Fx.L.nil (Fx.seqN (Fx.W.cond (b := false) rfl (fun h => nomatch h) (fun _ => Fx.W.seq (Fx.W.list ?_))))
      by_cases c108 : V0.kind = 4
      ·refine Fx.L.v (.bool true) (Fx.x_eqlT rfl rfl rfl c108) ?_
       refine Fx.L.v (.bool true) (Fx.x_assign rfl rfl) ?_
       refine Fx.L.nil (Fx.seqN (Fx.W.cond (b := true) rfl (fun _ => Fx.W.seq (Fx.W.list (Fx.L.v (.pointer (some ⟨g1, 7, none⟩)) (Fx.x_field rfl q1 Try.underlying58 rfl (s := 1) (by kernel_rfl) rfl (by show _ + 7 = _; omega)) ?_))) (fun h => nomatch h)))
       refine Fx.L.v (.int .u8 ((x.req : Int))) (Fx.x_load1 (x := actY x) rfl rfl (by kernel_rfl) m23.cel (i := 7) (by omega) (by omega) rfl) ?_
       refine Fx.L.v (.int .u64 ((x.req : Int))) (Fx.x_conv rfl rfl (by kernel_rfl) Try.underlying27 (Fx.u64e (by omega) rfl)) ?_
       refine Fx.L.v (.int .u64 ((x.req : Int) + 1)) (Fx.x_add rfl rfl rfl (Fx.u64e (by omega) (by omega))) ?_
       refine Fx.L.v (.pointer (some ⟨g3, 12, none⟩)) (Fx.x_field rfl q4 Try.underlying54 rfl (s := 1) (by kernel_rfl) rfl (by show _ + 12 = _; omega)) ?_
       refine Fx.L.store1 (x := evY V0) (u := .int .u64 ((x.req : Int) + 1)) (by rfl) rfl rfl rfl rfl (by rfl) (by kernel_rfl) m28 (i := 12) (by omega) fun w38 m414 s40 z37 => ?_
       obtain ⟨V23, eV23⟩ : ∃ V : EvM, V = ⟨V0.o, V0.seq, V0.deps, V0.kind, V0.node, V0.dst, V0.amt, (x.req : Int) + 1, V0.of⟩ := ⟨_, rfl⟩
       have wfV23 : EvWf V23 := by rw [eV23]; exact ⟨wf0.o, wf0.seq, wf0.deps, wf0.kind, wf0.node, wf0.dst, wf0.amt, (show U64r ((x.req : Int) + 1) from ⟨by omega, by omega⟩), wf0.of⟩
       have m415 : Fx.Blk w38 g3 14 (evY V23) 54 := m414.congr (fun j hj => by rw [eV23]; exact ev_req _ _ j hj)
       have hct35 := Fx.ChT.of_stp s40 m28.ty
       have m416 := m20.chT hct35 (by decide)
       have m417 := m21.stp s40 ng3m14
       have m418 := m22.chT hct35 (by decide)
       have m419 := m23.chT hct35 (by decide)
       have m420 := m24.stp s40 (by omega)
       have m421 := m25.chT hct35 (by decide)
       have m422 := m27.chT hct35 (by decide)
       have m423 := hLo2c.chT hct35 (by decide)
       have m424 := hLo2n.chT hct35 (by decide)
       have b40 := s40.below b4 b4.size (by omega)
       refine Fx.L.nil (Fx.seqN (Fx.W.list (Fx.L.v (.pointer (some ⟨g1, 8, none⟩)) (Fx.x_field rfl q1 Try.underlying58 rfl (s := 1) (by kernel_rfl) rfl (by show _ + 8 = _; omega)) ?_)))
       refine Fx.L.v (.int .u8 ((x.of : Int))) (Fx.x_load1 (x := actY x) rfl rfl (by kernel_rfl) m419.cel (i := 8) (by omega) (by omega) rfl) ?_
       refine Fx.L.v (.int .u64 ((x.of : Int))) (Fx.x_conv rfl rfl (by kernel_rfl) Try.underlying27 (Fx.u64e (by omega) rfl)) ?_
       refine Fx.L.v (.int .u64 ((x.of : Int) + 1)) (Fx.x_add rfl rfl rfl (Fx.u64e (by omega) (by omega))) ?_
       refine Fx.L.v (.pointer (some ⟨g3, 13, none⟩)) (Fx.x_field rfl q4 Try.underlying54 rfl (s := 1) (by kernel_rfl) rfl (by show _ + 13 = _; omega)) ?_
       refine Fx.L.store1 (x := evY V23) (u := .int .u64 ((x.of : Int) + 1)) (by rfl) rfl rfl rfl rfl (by rfl) (by kernel_rfl) m415 (i := 13) (by omega) fun w39 m425 s41 z38 => ?_
       obtain ⟨V24, eV24⟩ : ∃ V : EvM, V = ⟨V23.o, V23.seq, V23.deps, V23.kind, V23.node, V23.dst, V23.amt, V23.req, (x.of : Int) + 1⟩ := ⟨_, rfl⟩
       have wfV24 : EvWf V24 := by rw [eV24]; exact ⟨wfV23.o, wfV23.seq, wfV23.deps, wfV23.kind, wfV23.node, wfV23.dst, wfV23.amt, wfV23.req, (show U64r ((x.of : Int) + 1) from ⟨by omega, by omega⟩)⟩
       have m426 : Fx.Blk w39 g3 14 (evY V24) 54 := m425.congr (fun j hj => by rw [eV24]; exact ev_of _ _ j hj)
       have hct36 := Fx.ChT.of_stp s41 m415.ty
       have m427 := m416.chT hct36 (by decide)
       have m428 := m417.stp s41 ng3m14
       have m429 := m418.chT hct36 (by decide)
       have m430 := m419.chT hct36 (by decide)
       have m431 := m420.stp s41 (by omega)
       have m432 := m421.chT hct36 (by decide)
       have m433 := m422.chT hct36 (by decide)
       have m434 := m423.chT hct36 (by decide)
       have m435 := m424.chT hct36 (by decide)
       have b41 := s41.below b40 b40.size (by omega)
       refine Fx.L.nil (Fx.blkN (Fx.seqN (Fx.W.seq (Fx.W.list (Fx.L.v (.agg (Fx.varr 14 (evY V24))) (Fx.x_loadA (x := evY V24) (y := evY V24) rfl q4 (by kernel_rfl) (by kernel_rfl) m426.cel (i := 0) (by omega) (by omega) (fun j _ => by rw [Nat.zero_add])) ?_)))))
       refine Fx.L.storeA (x := fun zq => if zq < 1 then .int .i64 (0) else if zq < 8 then .int .u64 (0) else if zq < 9 then .int .u8 (0) else if zq < 10 then .int .u64 (0) else if zq < 12 then .int .i64 (0) else .int .u64 (0)) (y := evY V24) (by rfl) rfl rfl q2 rfl (evY_one _) (by kernel_rfl) m431 (i := 0) (by omega) fun w40 m436 s42 z39 => ?_
       have m437 : Fx.Blk w40 g2 14 (evY V24) 54 := Fx.ovr_all m436
       have hct37 := Fx.ChT.of_stp s42 m431.ty
       have m438 := m427.chT hct37 (by decide)
       have m439 := m428.stp s42 ng2m9
       have m440 := m429.chT hct37 (by decide)
       have m441 := m430.chT hct37 (by decide)
       have m442 := m432.chT hct37 (by decide)
       have m443 := m433.chT hct37 (by decide)
       have m444 := m434.chT hct37 (by decide)
       have m445 := m435.chT hct37 (by decide)
       have m446 := m426.stp s42 (by omega)
       have b42 := s42.below b41 b41.size (by omega)
       refine Fx.L.nil (Fx.seqN (Fx.W.ret (⟨.agg (Fx.varr 14 (evY V24)), Fx.retV1 Try.results70 ⟨_, q2, Fx.run_loadV m437.cel (by kernel_rfl) (by kernel_rfl)⟩, ?_⟩)))
       exact ⟨V24, wfV24, rfl, b42⟩
      ·refine Fx.L.v (.bool false) (Fx.x_eqlF rfl rfl rfl c108) ?_
       refine Fx.L.v (.bool false) (Fx.x_assign rfl rfl) ?_
       refine Fx.L.nil (Fx.seqN (Fx.W.cond (b := false) rfl (fun h => nomatch h) (fun _ => Fx.W.seq (Fx.W.list ?_))))
       by_cases c120 : V0.kind = 5
       ·refine Fx.L.v (.bool true) (Fx.x_eqlT rfl rfl rfl c120) ?_
        refine Fx.L.v (.bool true) (Fx.x_assign rfl rfl) ?_
        refine Fx.L.nil (Fx.seqN (Fx.W.cond (b := true) rfl (fun _ => Fx.W.seq (Fx.W.list (Fx.L.v (.int .u64 (0)) (Fx.x_move rfl rfl) ?_))) (fun h => nomatch h)))
        refine Fx.L.v (.pointer (some ⟨g3, 9, none⟩)) (Fx.x_field rfl q4 Try.underlying54 rfl (s := 1) (by kernel_rfl) rfl (by show _ + 9 = _; omega)) ?_
        refine Fx.L.store1 (x := evY V0) (u := .int .u64 (0)) (by rfl) rfl rfl rfl rfl (by rfl) (by kernel_rfl) m28 (i := 9) (by omega) fun w41 m447 s43 z40 => ?_
        obtain ⟨V25, eV25⟩ : ∃ V : EvM, V = ⟨V0.o, V0.seq, V0.deps, V0.kind, 0, V0.dst, V0.amt, V0.req, V0.of⟩ := ⟨_, rfl⟩
        have wfV25 : EvWf V25 := by rw [eV25]; exact ⟨wf0.o, wf0.seq, wf0.deps, wf0.kind, hnode, wf0.dst, wf0.amt, wf0.req, wf0.of⟩
        have m448 : Fx.Blk w41 g3 14 (evY V25) 54 := m447.congr (fun j hj => by rw [eV25]; exact ev_node _ _ j hj)
        have hct38 := Fx.ChT.of_stp s43 m28.ty
        have m449 := m20.chT hct38 (by decide)
        have m450 := m21.stp s43 ng3m14
        have m451 := m22.chT hct38 (by decide)
        have m452 := m23.chT hct38 (by decide)
        have m453 := m24.stp s43 (by omega)
        have m454 := m25.chT hct38 (by decide)
        have m455 := m27.chT hct38 (by decide)
        have m456 := hLo2c.chT hct38 (by decide)
        have m457 := hLo2n.chT hct38 (by decide)
        have b43 := s43.below b4 b4.size (by omega)
        refine Fx.L.nil (Fx.seqN (Fx.W.seq (Fx.W.list (Fx.L.v (.pointer (some ⟨g1, 6, none⟩)) (Fx.x_field rfl q1 Try.underlying58 rfl (s := 1) (by kernel_rfl) rfl (by show _ + 6 = _; omega)) ?_))))
        refine Fx.L.v (.int .u16 ((x.amt : Int))) (Fx.x_load1 (x := actY x) rfl rfl (by kernel_rfl) m452.cel (i := 6) (by omega) (by omega) rfl) ?_
        refine Fx.L.v (.int .i64 ((x.amt : Int))) (Fx.x_conv rfl rfl (by kernel_rfl) Try.underlying2 (Fx.i64e (by omega) rfl)) ?_
        refine Fx.L.v (.int .i64 ((x.amt : Int) + 1)) (Fx.x_add rfl rfl rfl (Fx.i64e (by omega) (by omega))) ?_
        refine Fx.L.v (.pointer (some ⟨g3, 11, none⟩)) (Fx.x_field rfl q4 Try.underlying54 rfl (s := 1) (by kernel_rfl) rfl (by show _ + 11 = _; omega)) ?_
        refine Fx.L.store1 (x := evY V25) (u := .int .i64 ((x.amt : Int) + 1)) (by rfl) rfl rfl rfl rfl (by rfl) (by kernel_rfl) m448 (i := 11) (by omega) fun w42 m458 s44 z41 => ?_
        obtain ⟨V26, eV26⟩ : ∃ V : EvM, V = ⟨V25.o, V25.seq, V25.deps, V25.kind, V25.node, V25.dst, (x.amt : Int) + 1, V25.req, V25.of⟩ := ⟨_, rfl⟩
        have wfV26 : EvWf V26 := by rw [eV26]; exact ⟨wfV25.o, wfV25.seq, wfV25.deps, wfV25.kind, wfV25.node, wfV25.dst, (show I64r ((x.amt : Int) + 1) from ⟨by omega, by omega⟩), wfV25.req, wfV25.of⟩
        have m459 : Fx.Blk w42 g3 14 (evY V26) 54 := m458.congr (fun j hj => by rw [eV26]; exact ev_amt _ _ j hj)
        have hct39 := Fx.ChT.of_stp s44 m448.ty
        have m460 := m449.chT hct39 (by decide)
        have m461 := m450.stp s44 ng3m14
        have m462 := m451.chT hct39 (by decide)
        have m463 := m452.chT hct39 (by decide)
        have m464 := m453.stp s44 (by omega)
        have m465 := m454.chT hct39 (by decide)
        have m466 := m455.chT hct39 (by decide)
        have m467 := m456.chT hct39 (by decide)
        have m468 := m457.chT hct39 (by decide)
        have b44 := s44.below b43 b43.size (by omega)
        refine Fx.L.nil (Fx.seqN ?_)
        obtain ⟨r6, er6⟩ : ∃ r, r = x.dst % 6 := ⟨_, rfl⟩
        have hr6 : r6 < 6 := by rw [er6]; exact Nat.mod_lt _ (by omega)
        refine Fx.W.list (Fx.L.v (.pointer (some ⟨g1, 5, none⟩)) (Fx.x_field rfl q1 Try.underlying58 rfl (s := 1) (by kernel_rfl) rfl (by show _ + 5 = _; omega)) ?_)
        refine Fx.L.v (.int .u8 ((x.dst : Int))) (Fx.x_load1 (x := actY x) rfl rfl (by kernel_rfl) m463.cel (i := 5) (by omega) (by omega) rfl) ?_
        refine Fx.L.v (.int .i64 ((x.dst : Int))) (Fx.x_conv rfl rfl (by kernel_rfl) Try.underlying3 (Fx.i64e (by omega) rfl)) ?_
        refine Fx.L.v (.int .i64 ((r6 : Int))) (Fx.x_rem rfl rfl rfl (by omega) (remL er6)) ?_
        refine Fx.L.v (.int .i64 ((r6 : Int) + 1)) (Fx.x_add rfl rfl rfl (Fx.i64e (by omega) (by omega))) ?_
        refine Fx.L.v (.pointer (some ⟨g3, 10, none⟩)) (Fx.x_field rfl q4 Try.underlying54 rfl (s := 1) (by kernel_rfl) rfl (by show _ + 10 = _; omega)) ?_
        refine Fx.L.store1 (x := evY V26) (u := .int .i64 ((r6 : Int) + 1)) (by rfl) rfl rfl rfl rfl (by rfl) (by kernel_rfl) m459 (i := 10) (by omega) fun w43 m469 s45 z42 => ?_
        obtain ⟨V27, eV27⟩ : ∃ V : EvM, V = ⟨V26.o, V26.seq, V26.deps, V26.kind, V26.node, (r6 : Int) + 1, V26.amt, V26.req, V26.of⟩ := ⟨_, rfl⟩
        have wfV27 : EvWf V27 := by rw [eV27]; exact ⟨wfV26.o, wfV26.seq, wfV26.deps, wfV26.kind, wfV26.node, (show I64r ((r6 : Int) + 1) from ⟨by omega, by omega⟩), wfV26.amt, wfV26.req, wfV26.of⟩
        have m470 : Fx.Blk w43 g3 14 (evY V27) 54 := m469.congr (fun j hj => by rw [eV27]; exact ev_dst _ _ j hj)
        have hct40 := Fx.ChT.of_stp s45 m459.ty
        have m471 := m460.chT hct40 (by decide)
        have m472 := m461.stp s45 ng3m14
        have m473 := m462.chT hct40 (by decide)
        have m474 := m463.chT hct40 (by decide)
        have m475 := m464.stp s45 (by omega)
        have m476 := m465.chT hct40 (by decide)
        have m477 := m466.chT hct40 (by decide)
        have m478 := m467.chT hct40 (by decide)
        have m479 := m468.chT hct40 (by decide)
        have b45 := s45.below b44 b44.size (by omega)
        refine Fx.L.nil (Fx.blkN (Fx.seqN (Fx.W.seq (Fx.W.list (Fx.L.v (.agg (Fx.varr 14 (evY V27))) (Fx.x_loadA (x := evY V27) (y := evY V27) rfl q4 (by kernel_rfl) (by kernel_rfl) m470.cel (i := 0) (by omega) (by omega) (fun j _ => by rw [Nat.zero_add])) ?_)))))
        refine Fx.L.storeA (x := fun zq => if zq < 1 then .int .i64 (0) else if zq < 8 then .int .u64 (0) else if zq < 9 then .int .u8 (0) else if zq < 10 then .int .u64 (0) else if zq < 12 then .int .i64 (0) else .int .u64 (0)) (y := evY V27) (by rfl) rfl rfl q2 rfl (evY_one _) (by kernel_rfl) m475 (i := 0) (by omega) fun w44 m480 s46 z43 => ?_
        have m481 : Fx.Blk w44 g2 14 (evY V27) 54 := Fx.ovr_all m480
        have hct41 := Fx.ChT.of_stp s46 m475.ty
        have m482 := m471.chT hct41 (by decide)
        have m483 := m472.stp s46 ng2m9
        have m484 := m473.chT hct41 (by decide)
        have m485 := m474.chT hct41 (by decide)
        have m486 := m476.chT hct41 (by decide)
        have m487 := m477.chT hct41 (by decide)
        have m488 := m478.chT hct41 (by decide)
        have m489 := m479.chT hct41 (by decide)
        have m490 := m470.stp s46 (by omega)
        have b46 := s46.below b45 b45.size (by omega)
        refine Fx.L.nil (Fx.seqN (Fx.W.ret (⟨.agg (Fx.varr 14 (evY V27)), Fx.retV1 Try.results70 ⟨_, q2, Fx.run_loadV m481.cel (by kernel_rfl) (by kernel_rfl)⟩, ?_⟩)))
        exact ⟨V27, wfV27, rfl, b46⟩
       ·refine Fx.L.v (.bool false) (Fx.x_eqlF rfl rfl rfl c120) ?_
        refine Fx.L.v (.bool false) (Fx.x_assign rfl rfl) ?_
        refine Fx.L.nil (Fx.seqN (Fx.W.cond (b := false) rfl (fun h => nomatch h) (fun _ => Fx.W.seq (Fx.W.list ?_))))
        by_cases c135 : V0.kind = 6
        ·refine Fx.L.v (.bool true) (Fx.x_eqlT rfl rfl rfl c135) ?_
         refine Fx.L.v (.bool true) (Fx.x_assign rfl rfl) ?_
         refine Fx.L.nil (Fx.seqN (Fx.W.cond (b := true) rfl (fun _ => ?_) (fun h => nomatch h)))
         obtain ⟨r6, er6⟩ : ∃ r, r = x.dst % 6 := ⟨_, rfl⟩
         have hr6 : r6 < 6 := by rw [er6]; exact Nat.mod_lt _ (by omega)
         refine Fx.W.list (Fx.L.v (.pointer (some ⟨g1, 5, none⟩)) (Fx.x_field rfl q1 Try.underlying58 rfl (s := 1) (by kernel_rfl) rfl (by show _ + 5 = _; omega)) ?_)
         refine Fx.L.v (.int .u8 ((x.dst : Int))) (Fx.x_load1 (x := actY x) rfl rfl (by kernel_rfl) m23.cel (i := 5) (by omega) (by omega) rfl) ?_
         refine Fx.L.v (.int .i64 ((x.dst : Int))) (Fx.x_conv rfl rfl (by kernel_rfl) Try.underlying3 (Fx.i64e (by omega) rfl)) ?_
         refine Fx.L.v (.int .i64 ((r6 : Int))) (Fx.x_rem rfl rfl rfl (by omega) (remL er6)) ?_
         refine Fx.L.v (.int .i64 ((r6 : Int) + 1)) (Fx.x_add rfl rfl rfl (Fx.i64e (by omega) (by omega))) ?_
         refine Fx.L.v (.pointer (some ⟨g3, 10, none⟩)) (Fx.x_field rfl q4 Try.underlying54 rfl (s := 1) (by kernel_rfl) rfl (by show _ + 10 = _; omega)) ?_
         refine Fx.L.store1 (x := evY V0) (u := .int .i64 ((r6 : Int) + 1)) (by rfl) rfl rfl rfl rfl (by rfl) (by kernel_rfl) m28 (i := 10) (by omega) fun w45 m491 s47 z44 => ?_
         obtain ⟨V28, eV28⟩ : ∃ V : EvM, V = ⟨V0.o, V0.seq, V0.deps, V0.kind, V0.node, (r6 : Int) + 1, V0.amt, V0.req, V0.of⟩ := ⟨_, rfl⟩
         have wfV28 : EvWf V28 := by rw [eV28]; exact ⟨wf0.o, wf0.seq, wf0.deps, wf0.kind, wf0.node, (show I64r ((r6 : Int) + 1) from ⟨by omega, by omega⟩), wf0.amt, wf0.req, wf0.of⟩
         have m492 : Fx.Blk w45 g3 14 (evY V28) 54 := m491.congr (fun j hj => by rw [eV28]; exact ev_dst _ _ j hj)
         have hct42 := Fx.ChT.of_stp s47 m28.ty
         have m493 := m20.chT hct42 (by decide)
         have m494 := m21.stp s47 ng3m14
         have m495 := m22.chT hct42 (by decide)
         have m496 := m23.chT hct42 (by decide)
         have m497 := m24.stp s47 (by omega)
         have m498 := m25.chT hct42 (by decide)
         have m499 := m27.chT hct42 (by decide)
         have m500 := hLo2c.chT hct42 (by decide)
         have m501 := hLo2n.chT hct42 (by decide)
         have b47 := s47.below b4 b4.size (by omega)
         refine Fx.L.nil (Fx.blkN (Fx.seqN (Fx.W.seq (Fx.W.list (Fx.L.v (.agg (Fx.varr 14 (evY V28))) (Fx.x_loadA (x := evY V28) (y := evY V28) rfl q4 (by kernel_rfl) (by kernel_rfl) m492.cel (i := 0) (by omega) (by omega) (fun j _ => by rw [Nat.zero_add])) ?_)))))
         refine Fx.L.storeA (x := fun zq => if zq < 1 then .int .i64 (0) else if zq < 8 then .int .u64 (0) else if zq < 9 then .int .u8 (0) else if zq < 10 then .int .u64 (0) else if zq < 12 then .int .i64 (0) else .int .u64 (0)) (y := evY V28) (by rfl) rfl rfl q2 rfl (evY_one _) (by kernel_rfl) m497 (i := 0) (by omega) fun w46 m502 s48 z45 => ?_
         have m503 : Fx.Blk w46 g2 14 (evY V28) 54 := Fx.ovr_all m502
         have hct43 := Fx.ChT.of_stp s48 m497.ty
         have m504 := m493.chT hct43 (by decide)
         have m505 := m494.stp s48 ng2m9
         have m506 := m495.chT hct43 (by decide)
         have m507 := m496.chT hct43 (by decide)
         have m508 := m498.chT hct43 (by decide)
         have m509 := m499.chT hct43 (by decide)
         have m510 := m500.chT hct43 (by decide)
         have m511 := m501.chT hct43 (by decide)
         have m512 := m492.stp s48 (by omega)
         have b48 := s48.below b47 b47.size (by omega)
         refine Fx.L.nil (Fx.seqN (Fx.W.ret (⟨.agg (Fx.varr 14 (evY V28)), Fx.retV1 Try.results70 ⟨_, q2, Fx.run_loadV m503.cel (by kernel_rfl) (by kernel_rfl)⟩, ?_⟩)))
         exact ⟨V28, wfV28, rfl, b48⟩
        ·refine Fx.L.v (.bool false) (Fx.x_eqlF rfl rfl rfl c135) ?_
         refine Fx.L.v (.bool false) (Fx.x_assign rfl rfl) ?_
         refine Fx.L.nil (Fx.seqN (Fx.W.cond (b := false) rfl (fun h => nomatch h) (fun _ => Fx.W.skip (Fx.blkN (Fx.seqN (Fx.W.seq (Fx.W.list (Fx.L.v (.agg (Fx.varr 14 (evY V0))) (Fx.x_loadA (x := evY V0) (y := evY V0) rfl q4 (by kernel_rfl) (by kernel_rfl) m28.cel (i := 0) (by omega) (by omega) (fun j _ => by rw [Nat.zero_add])) ?_))))))))
         refine Fx.L.storeA (x := fun zq => if zq < 1 then .int .i64 (0) else if zq < 8 then .int .u64 (0) else if zq < 9 then .int .u8 (0) else if zq < 10 then .int .u64 (0) else if zq < 12 then .int .i64 (0) else .int .u64 (0)) (y := evY V0) (by rfl) rfl rfl q2 rfl (evY_one _) (by kernel_rfl) m24 (i := 0) (by omega) fun w47 m513 s49 z46 => ?_
         have m514 : Fx.Blk w47 g2 14 (evY V0) 54 := Fx.ovr_all m513
         have hct44 := Fx.ChT.of_stp s49 m24.ty
         have m515 := m20.chT hct44 (by decide)
         have m516 := m21.stp s49 ng2m9
         have m517 := m22.chT hct44 (by decide)
         have m518 := m23.chT hct44 (by decide)
         have m519 := m25.chT hct44 (by decide)
         have m520 := m27.chT hct44 (by decide)
         have m521 := m28.stp s49 (by omega)
         have m522 := hLo2c.chT hct44 (by decide)
         have m523 := hLo2n.chT hct44 (by decide)
         have b49 := s49.below b4 b4.size (by omega)
         refine Fx.L.nil (Fx.seqN (Fx.W.ret (⟨.agg (Fx.varr 14 (evY V0)), Fx.retV1 Try.results70 ⟨_, q2, Fx.run_loadV m514.cel (by kernel_rfl) (by kernel_rfl)⟩, ?_⟩)))
         exact ⟨V0, wf0, rfl, b49⟩
end Go.Proofs.Ytolmkjepieoloaa
namespace Go.Proofs.Ytolmkjepieoloaa
open Go.RowKit Rt
theorem Rt.apply_may {L : LdC} {v : EvM} (h : applyE L v = 0) : mayE v = true := by
  unfold applyE at h
  split at h; · cases h
  rename_i h1; simpa using h1
theorem WldO.mono {w : World} {B p T T' : Nat} {M : WM} (h : WldO w B p M T) (hT : T ≤ T') : WldO w B p M T' := { h with inv := fun i hi => (h.inv i hi).mono hT }
set_option maxRecDepth 20000 in
set_option maxHeartbeats 2000000 in
theorem l_do (M : WM) (B p T : Nat) (x : ActM) (w : World) (hW : WldO w B p M T) (hB : B ≤ w.heap.size) (hx : ActOk x) (han : M.an ≤ 60) (hT : T ≤ 890000) :
    Calls Try.prog 23 #[.pointer (some ⟨p, 0, none⟩), .agg (Fx.varr 9 (actY x))] w fun e w' => (∃ v, e = .returned v) ∧ ∃ M', WldO w' B p M' (T + 3660) ∧ M'.n = M.n ∧ M'.an ≤ M.an + 1 ∧ Below B w w' := by
 have hWc := hW.c
 have hWl := hW.l
 have hWa := hW.a
 have hWg := hW.g
 have hn1 := hW.n1
 have hn6 := hW.n6
 have hpB := hW.pB
 have lpp : p < w.heap.size := hWc.lt
 have hxw := hx.who
 have hxo := hx.other
 have hxk := hx.kind
 have hxn := hx.node
 have hxt := hx.dst
 have hxa := hx.amt
 have hxr := hx.req
 have hxf := hx.of
 refine Fx.enter Try.func23 rfl (n := 94) rfl (by rfl) ?_
 refine Fx.W.seq (Fx.W.list (Fx.L.box (m := 9) (y := actY x) (by rfl) rfl rfl (Fx.cells_agg _ _) rfl fun g1 w1 eg1 m1 s1 z1 => ?_))
 have m2 := hWc.stp s1 (Nat.ne_of_lt (hWc.lt))
 have m3 := hWl.stp s1 (hWl.notNew (Nat.le_refl _))
 have m4 := hWa.stp s1 (hWa.notNew (Nat.le_refl _))
 have m5 := hWg.up s1.old
 have m6 := hW.up s1.old
 have b1 := s1.below (Below.refl B w) (Nat.le_trans hB (Below.refl B w).size) (Nat.le_trans hB (Below.refl B w).size)
 have lg1 : w.heap.size ≤ g1 := by rw [eg1]; exact (Below.refl B w).size
 have ng1m2 : p ≠ g1 := by rw [eg1]; exact Nat.ne_of_lt (hWc.lt)
 have tg1 : g1 < w1.heap.size := m1.lt
 clear eg1
 refine Fx.L.new (m := 14) (y := fun zq => if zq < 1 then .int .i64 (0) else if zq < 8 then .int .u64 (0) else if zq < 9 then .int .u8 (0) else if zq < 10 then .int .u64 (0) else if zq < 12 then .int .i64 (0) else .int .u64 (0)) (by rfl) rfl (by kernel_rfl) rfl fun g2 w2 eg2 m7 s2 z2 => ?_
 have m8 := m2.stp s2 (Nat.ne_of_lt (m2.lt))
 have m9 := m3.stp s2 (m3.notNew (Nat.le_refl _))
 have m10 := m4.stp s2 (m4.notNew (Nat.le_refl _))
 have m11 := m5.up s2.old
 have m12 := m6.up s2.old
 have m13 := m1.stp s2 (Nat.ne_of_lt (m1.lt))
 have b2 := s2.below b1 (Nat.le_trans hB b1.size) (Nat.le_trans hB b1.size)
 have lg2 : w.heap.size ≤ g2 := by rw [eg2]; exact b1.size
 have ng2m8 : p ≠ g2 := by rw [eg2]; exact Nat.ne_of_lt (m2.lt)
 have ng2m10 : (.slice M.aa (M.an) (M.ac) : Value).ownBlock ≠ some g2 := by rw [eg2]; exact m4.notNew (Nat.le_refl _)
 have ng2m13 : g1 ≠ g2 := by rw [eg2]; exact Nat.ne_of_lt (m1.lt)
 have tg2 : g2 < w2.heap.size := m7.lt
 clear eg2
 refine Fx.L.nil (Fx.seqN (Fx.W.seq ?_))
 obtain ⟨o, eo⟩ : ∃ r, r = x.who % M.n := ⟨_, rfl⟩
 have ho : o < M.n := by rw [eo]; exact Nat.mod_lt _ (by omega)
 -- region 1 draws
 refine Fx.W.quiet (fun v1 => ∃ q, v1 = World.drewN w2 q) (by kernel_rfl) (by kernel_rfl) ⟨1, rfl⟩ ?_
 refine Fx.Qt.v (.pointer (some ⟨g1, 0, none⟩)) (fun v1 hv1 => Fx.x_field rfl rfl Try.underlying58 rfl (s := 1) (by kernel_rfl) rfl rfl) ?_
 refine Fx.Qt.v (.int .u8 ((x.who : Int))) (fun v1 hv1 => Fx.x_load1 (x := actY x) rfl rfl (by kernel_rfl) (by obtain ⟨qd, rfl⟩ := hv1; exact m13.cel) (i := 0) (by omega) (by omega) rfl) ?_
 refine Fx.Qt.v (.int .i64 ((x.who : Int))) (fun v1 hv1 => Fx.x_conv rfl rfl (by kernel_rfl) Try.underlying3 (Fx.i64e (by omega) rfl)) ?_
 refine Fx.Qt.v (.pointer (some ⟨p, 0, none⟩)) (fun v1 hv1 => Fx.x_move rfl rfl) ?_
 refine Fx.Qt.v (.pointer (some ⟨p, 0, none⟩)) (fun v1 hv1 => Fx.x_nil rfl rfl) ?_
 refine Fx.Qt.v (.pointer (some ⟨p, 0, none⟩)) (fun v1 hv1 => Fx.x_field rfl rfl Try.underlying63 rfl (s := 1) (by kernel_rfl) rfl rfl) ?_
 refine Fx.Qt.v (.slice M.la (M.n) (M.lc)) (fun v1 hv1 => Fx.x_load1 (x := wdY (.slice M.la (M.n) (M.lc)) (.slice M.aa (M.an) (M.ac))) rfl rfl (by kernel_rfl) (by obtain ⟨qd, rfl⟩ := hv1; exact m8.cel) (i := 0) (by omega) (by omega) rfl) ?_
 refine Fx.Qt.v (.int .i64 ((M.n : Int))) (fun v1 hv1 => Fx.x_len rfl rfl rfl (by kernel_rfl)) ?_
 refine Fx.Qt.v (.int .i64 ((o : Int))) (fun v1 hv1 => Fx.x_rem rfl rfl rfl (by omega) (remL eo)) ?_
 refine Fx.Qt.v (.int .i64 ((o : Int))) (fun v1 hv1 => Fx.x_assign rfl rfl) ?_
 refine Fx.Qt.nil ?_
 rintro _ ⟨qd, rfl⟩
 obtain ⟨wq1, ewq1⟩ : ∃ v1, v1 = World.drewN w2 qd := ⟨_, rfl⟩
 rw [← ewq1]
 have s3 : Fx.Stp w2.heap.size w2 wq1 := by rw [ewq1]; exact Fx.Stp.of_below (bdrN w2 qd)
 have m14 := m8.stp s3 (Nat.ne_of_lt (m8.lt))
 have m15 := m9.stp s3 (m9.notNew (Nat.le_refl _))
 have m16 := m10.stp s3 (m10.notNew (Nat.le_refl _))
 have m17 := m11.up s3.old
 have m18 := m12.up s3.old
 have m19 := m13.stp s3 (Nat.ne_of_lt (m13.lt))
 have m20 := m7.stp s3 (Nat.ne_of_lt (m7.lt))
 have b3 := s3.below b2 (Nat.le_trans hB b2.size) (Nat.le_trans hB b2.size)
 clear ewq1
 refine Fx.seqN (Fx.W.seq (Fx.W.seq (Fx.W.list (Fx.L.v (.pointer (some ⟨g1, 1, none⟩)) (Fx.x_field rfl rfl Try.underlying58 rfl (s := 1) (by kernel_rfl) rfl (by show _ + 1 = _; omega)) ?_))))
 by_cases c19 : x.meet = true
 ·refine Fx.L.v (.bool true) (Fx.x_load1 (x := actY x) rfl rfl (by kernel_rfl) m19.cel (i := 1) (by omega) (by omega) ((show _ = Value.bool x.meet from rfl).trans (congrArg Value.bool c19))) ?_
  refine Fx.L.nil (Fx.seqN (Fx.W.cond (b := true) rfl (fun _ => Fx.W.seq ?_) (fun h => nomatch h)))
  obtain ⟨r48, er48⟩ : ∃ r, r = x.other % M.n := ⟨_, rfl⟩
  have hr48 : r48 < M.n := by rw [er48]; exact Nat.mod_lt _ (by omega)
  have hLo1 := m17 r48 (by omega)
  have hLo1c := hLo1.c
  have hLo2 := m17 o (by omega)
  -- region 3 draws
  refine Fx.W.reord [0, 1, 2, 4, 5, 6, 7, 9, 12, 13, 14, 16, 17, 18, 20, 23, 24, 25, 3, 8, 10, 11, 15, 19, 21, 22, 26, 27, 28, 29, 30, 31, 32, 33, 34, 35, 36, 37] [0, 0, 0, 1, 0, 0, 0, 0, 4, 0, 0, 4, 0, 0, 0, 4, 0, 0, 0, 4, 0, 4, 0, 0, 0, 0, 4, 0, 0, 0, 4, 0, 0, 0, 4, 2, 0, 3] Fx.Mk Fx.Mk.refl Fx.Mk.trans (certs := [(37, 3, [3]), (35, 8, [11, 10, 8]), (37, 8, [8]), (35, 11, [11]), (37, 11, [11]), (35, 15, [15]), (37, 15, [15]), (35, 19, [34, 33, 32, 31, 30, 29, 19]), (37, 19, [19]), (35, 21, [34, 33, 32, 31, 30, 29, 28, 22, 21]), (37, 21, [21]), (35, 26, [34, 33, 32, 31, 30, 29, 28, 27, 26]), (37, 26, [26]), (35, 30, [34, 33, 32, 31, 30]), (37, 30, [30]), (35, 34, [34]), (37, 34, [34]), (36, 35, [35]), (37, 35, [35])]) (by kernel_rfl) (by kernel_rfl) (by kernel_rfl) (by kernel_rfl) (by kernel_rfl) fun wt1 hbwt1 hzwt1 => ?_
  have s4 : Fx.Stp wq1.heap.size wq1 wt1 := Fx.Stp.of_below hbwt1
  have m21 := m14.stp s4 (Nat.ne_of_lt (m14.lt))
  have m22 := m15.stp s4 (m15.notNew (Nat.le_refl _))
  have m23 := m16.stp s4 (m16.notNew (Nat.le_refl _))
  have m24 := m17.up s4.old
  have m25 := m19.stp s4 (Nat.ne_of_lt (m19.lt))
  have m26 := m20.stp s4 (Nat.ne_of_lt (m20.lt))
  have m27 := hLo1c.stp s4 (Nat.ne_of_lt (hLo1c.lt))
  have m28 := hLo2.up s4.old
  have b4 := s4.below b3 (Nat.le_trans hB b3.size) (Nat.le_trans hB b3.size)
  refine Fx.R.p (.pointer (some ⟨p, 0, none⟩)) (fun v1 => Fx.x_move rfl rfl) ?_
  refine Fx.R.p (.pointer (some ⟨p, 0, none⟩)) (fun v1 => Fx.x_nil rfl rfl) ?_
  refine Fx.R.p (.pointer (some ⟨p, 0, none⟩)) (fun v1 => Fx.x_field rfl rfl Try.underlying63 rfl (s := 1) (by kernel_rfl) rfl rfl) ?_
  refine Fx.R.p (.int .i64 ((o : Int))) (fun v1 => Fx.x_move rfl rfl) ?_
  refine Fx.R.p (.pointer (some ⟨p, 0, none⟩)) (fun v1 => Fx.x_move rfl rfl) ?_
  refine Fx.R.p (.pointer (some ⟨p, 0, none⟩)) (fun v1 => Fx.x_nil rfl rfl) ?_
  refine Fx.R.p (.pointer (some ⟨p, 0, none⟩)) (fun v1 => Fx.x_field rfl rfl Try.underlying63 rfl (s := 1) (by kernel_rfl) rfl rfl) ?_
  refine Fx.R.p (.int .i64 ((o : Int))) (fun v1 => Fx.x_move rfl rfl) ?_
  refine Fx.R.p (.pointer (some ⟨p, 0, none⟩)) (fun v1 => Fx.x_move rfl rfl) ?_
  refine Fx.R.p (.pointer (some ⟨p, 0, none⟩)) (fun v1 => Fx.x_nil rfl rfl) ?_
  refine Fx.R.p (.pointer (some ⟨p, 1, none⟩)) (fun v1 => Fx.x_field rfl rfl Try.underlying63 rfl (s := 1) (by kernel_rfl) rfl (by show _ + 1 = _; omega)) ?_
  refine Fx.R.p (.pointer (some ⟨p, 0, none⟩)) (fun v1 => Fx.x_move rfl rfl) ?_
  refine Fx.R.p (.pointer (some ⟨p, 0, none⟩)) (fun v1 => Fx.x_nil rfl rfl) ?_
  refine Fx.R.p (.pointer (some ⟨p, 0, none⟩)) (fun v1 => Fx.x_field rfl rfl Try.underlying63 rfl (s := 1) (by kernel_rfl) rfl rfl) ?_
  refine Fx.R.p (.pointer (some ⟨g1, 2, none⟩)) (fun v1 => Fx.x_field rfl rfl Try.underlying58 rfl (s := 1) (by kernel_rfl) rfl (by show _ + 2 = _; omega)) ?_
  refine Fx.R.p (.pointer (some ⟨p, 0, none⟩)) (fun v1 => Fx.x_move rfl rfl) ?_
  refine Fx.R.p (.pointer (some ⟨p, 0, none⟩)) (fun v1 => Fx.x_nil rfl rfl) ?_
  refine Fx.R.p (.pointer (some ⟨p, 0, none⟩)) (fun v1 => Fx.x_field rfl rfl Try.underlying63 rfl (s := 1) (by kernel_rfl) rfl rfl) ?_
  refine Fx.R.read (v := .slice M.la (M.n) (M.lc)) (by rfl) (by rfl) (Fx.Mk.refl _) (fun v1 hv1 => Fx.x_load1 (x := wdY (.slice M.la (M.n) (M.lc)) (.slice M.aa (M.an) (M.ac))) rfl rfl (by kernel_rfl) (m21.cel.below hv1 (by have := m21.lt; omega)) (i := 0) (by omega) (by omega) rfl) ?_
  refine Fx.R.s (.slice M.la (M.n) (M.lc)) (Fx.x_load1 (x := wdY (.slice M.la (M.n) (M.lc)) (.slice M.aa (M.an) (M.ac))) rfl rfl (by kernel_rfl) m21.cel (i := 0) (by omega) (by omega) rfl) ?_
  obtain ⟨gq1, eq1⟩ := m22.addr (by omega)
  have m29 : Fx.Own wt1 B 59 1 (.slice (some ⟨gq1, 0, none⟩) M.n M.lc) M.n (ptX M.pl) := m22.congV (congrArg (fun q => Value.slice q M.n M.lc) eq1)
  refine Fx.R.p (.pointer (some ⟨gq1, o, none⟩)) (fun v1 => Fx.x_indexS rfl (rfl.trans (congrArg (fun q => Value.slice q (M.n) (M.lc)) eq1)) rfl Try.underlying60 (s := 1) (by kernel_rfl) (by omega) (by omega) (by omega)) ?_
  refine Fx.R.s (.pointer (some ⟨(M.pl o), 0, none⟩)) (Fx.x_load1 (x := ptX M.pl) rfl rfl (by kernel_rfl) m29.cel (i := o) (by omega) (by omega) rfl) ?_
  refine Fx.R.s (.slice M.aa (M.an) (M.ac)) (Fx.x_load1 (x := wdY (.slice M.la (M.n) (M.lc)) (.slice M.aa (M.an) (M.ac))) rfl rfl (by kernel_rfl) m21.cel (i := 1) (by omega) (by omega) rfl) ?_
  refine Fx.R.s (.slice M.la (M.n) (M.lc)) (Fx.x_load1 (x := wdY (.slice M.la (M.n) (M.lc)) (.slice M.aa (M.an) (M.ac))) rfl rfl (by kernel_rfl) m21.cel (i := 0) (by omega) (by omega) rfl) ?_
  refine Fx.R.s (.int .u8 ((x.other : Int))) (Fx.x_load1 (x := actY x) rfl rfl (by kernel_rfl) m25.cel (i := 2) (by omega) (by omega) rfl) ?_
  refine Fx.R.p (.int .i64 ((x.other : Int))) (fun v1 => Fx.x_conv rfl rfl (by kernel_rfl) Try.underlying3 (Fx.i64e (by omega) rfl)) ?_
  refine Fx.R.s (.slice M.la (M.n) (M.lc)) (Fx.x_load1 (x := wdY (.slice M.la (M.n) (M.lc)) (.slice M.aa (M.an) (M.ac))) rfl rfl (by kernel_rfl) m21.cel (i := 0) (by omega) (by omega) rfl) ?_
  refine Fx.R.p (.int .i64 ((M.n : Int))) (fun v1 => Fx.x_len rfl rfl rfl (by kernel_rfl)) ?_
  refine Fx.R.p (.int .i64 ((r48 : Int))) (fun v1 => Fx.x_rem rfl rfl rfl (by omega) (remL er48)) ?_
  refine Fx.R.p (.pointer (some ⟨gq1, r48, none⟩)) (fun v1 => Fx.x_indexS rfl (rfl.trans (congrArg (fun q => Value.slice q (M.n) (M.lc)) eq1)) rfl Try.underlying60 (s := 1) (by kernel_rfl) (by omega) (by omega) (by omega)) ?_
  refine Fx.R.s (.pointer (some ⟨(M.pl r48), 0, none⟩)) (Fx.x_load1 (x := ptX M.pl) rfl rfl (by kernel_rfl) m29.cel (i := r48) (by omega) (by omega) rfl) ?_
  refine Fx.R.p (.pointer (some ⟨(M.pl r48), 0, none⟩)) (fun v1 => Fx.x_nil rfl rfl) ?_
  refine Fx.R.p (.pointer (some ⟨(M.pl r48), 0, none⟩)) (fun v1 => Fx.x_field rfl rfl Try.underlying71 rfl (s := 20) (by kernel_rfl) rfl rfl) ?_
  refine Fx.R.p (.pointer (some ⟨(M.pl r48), 12, none⟩)) (fun v1 => Fx.x_field rfl rfl Try.underlying43 rfl (s := 6) (by kernel_rfl) rfl (by show _ + 12 = _; omega)) ?_
  refine Fx.R.s (.agg (Fx.varr 6 (Fx.rv .u64 ((M.ml r48).s.known)))) (Fx.x_loadA (x := ldY (M.ml r48)) (y := Fx.rv .u64 ((M.ml r48).s.known)) rfl rfl (by kernel_rfl) (by kernel_rfl) m27.cel (i := 12) (by omega) (by omega) (fun j hj => ldY_st _ (by omega) (stY_known _ hj (by omega)))) ?_
  refine Fx.R.make (by rfl) ?_
  refine Fx.L.call (by rfl) (Fx.r_call (args := [.pointer (some ⟨(M.pl o), 0, none⟩), .slice M.aa (M.an) (M.ac), .agg (Fx.varr 6 (Fx.rv .u64 ((M.ml r48).s.known)))]) rfl rfl Try.func69 rfl rfl) rfl ((l_learn (M.ml o) B (M.pl o) T M.aa M.an M.ac M.ev ((M.ml r48).s.known) _ m28 (hW.inv o (by omega)) m23.arr hW.wf hW.may han hT).mono ?_)
  rintro e9 w3 ⟨p3, m3, he, _, hI3, hL1, hb1⟩
  refine ⟨.pointer (some ⟨p3, 0, none⟩), he, ?_⟩
  clear he
  have s5 := Fx.Stp.of_below hb1
  have m30 := m21.stp s5 (Nat.ne_of_lt (m21.lt))
  have m31 := m23.stp s5 (m23.notNew (Nat.le_refl _))
  have m32 := m24.up s5.old
  have m33 := m25.stp s5 (Nat.ne_of_lt (m25.lt))
  have m34 := m26.stp s5 (Nat.ne_of_lt (m26.lt))
  have m35 := m27.stp s5 (Nat.ne_of_lt (m27.lt))
  have m36 := m29.stpB s5 (Nat.ne_of_lt (m29.lt))
  have b5 := s5.below b4 (Nat.le_trans hB b4.size) (Nat.le_trans hB b4.size)
  refine Fx.L.nil ⟨s5.old, ?_⟩
  refine Fx.R.p (.pointer (some ⟨gq1, o, none⟩)) (fun v1 => Fx.x_indexS rfl (rfl.trans (congrArg (fun q => Value.slice q (M.n) (M.lc)) eq1)) rfl Try.underlying60 (s := 1) (by kernel_rfl) (by omega) (by omega) (by omega)) ?_
  refine Fx.R.eff (by rfl) ?_
  refine Fx.L.own1 (x := ptX M.pl) (u := .pointer (some ⟨p3, 0, none⟩)) (by rfl) rfl rfl rfl rfl (by rfl) (by kernel_rfl) m36 (i := o) (by omega) fun w4 m37 s6 z3 => ?_
  have hct1 := Fx.ChT.of_stp s6 m36.tyB
  have m38 := m30.chT hct1 (by decide)
  have m39 := m31.chT hct1 (by decide)
  have m40 := m32.chT hct1 (by decide)
  have m41 := m33.chT hct1 (by decide)
  have m42 := m34.chT hct1 (by decide)
  have m43 := m35.chT hct1 (by decide)
  have m44 := hL1.chT hct1 (by decide)
  have b6 := s6.below b5 (Nat.le_trans hB b5.size) m36.blk.1
  have m45 : Fx.Own w4 B 59 1 (.slice (some ⟨gq1, 0, none⟩) M.n M.lc) M.n (ptX (updA M.pl o p3)) := m37.congr (fun jq _ => congrFun pt_put jq)
  refine Fx.L.nil (Fx.R.nil (Fx.seqN (Fx.W.seq (Fx.W.list (Fx.L.v (.agg (Fx.varr 14 (fun zq => if zq < 1 then .int .i64 (0) else if zq < 8 then .int .u64 (0) else if zq < 9 then .int .u8 (0) else if zq < 10 then .int .u64 (0) else if zq < 12 then .int .i64 (0) else .int .u64 (0)))) (Fx.x_build (vs := []) (places := #[(0, 1), (1, 1), (2, 6), (8, 1), (9, 1), (10, 1), (11, 1), (12, 1), (13, 1)]) (m := 14) (x := fun zq => if zq < 1 then .int .i64 (0) else if zq < 8 then .int .u64 (0) else if zq < 9 then .int .u8 (0) else if zq < 10 then .int .u64 (0) else if zq < 12 then .int .i64 (0) else .int .u64 (0)) rfl rfl Try.underlying54 (by kernel_rfl) (by kernel_rfl) (by rfl)) ?_)))))
  refine Fx.L.storeA (x := fun zq => if zq < 1 then .int .i64 (0) else if zq < 8 then .int .u64 (0) else if zq < 9 then .int .u8 (0) else if zq < 10 then .int .u64 (0) else if zq < 12 then .int .i64 (0) else .int .u64 (0)) (y := fun zq => if zq < 1 then .int .i64 (0) else if zq < 8 then .int .u64 (0) else if zq < 9 then .int .u8 (0) else if zq < 10 then .int .u64 (0) else if zq < 12 then .int .i64 (0) else .int .u64 (0)) (by rfl) rfl rfl rfl rfl (fun jq _ => by show ((fun zq => if zq < 1 then .int .i64 (0) else if zq < 8 then .int .u64 (0) else if zq < 9 then .int .u8 (0) else if zq < 10 then .int .u64 (0) else if zq < 12 then .int .i64 (0) else .int .u64 (0) : Nat → Value) jq).oneCell' = true; simp only []; repeat (first | rfl | split)) (by kernel_rfl) m42 (i := 0) (by omega) fun w5 m46 s7 z4 => ?_
  have m47 : Fx.Blk w5 g2 14 (fun zq => if zq < 1 then .int .i64 (0) else if zq < 8 then .int .u64 (0) else if zq < 9 then .int .u8 (0) else if zq < 10 then .int .u64 (0) else if zq < 12 then .int .i64 (0) else .int .u64 (0)) 54 := Fx.ovr_all m46
  have hct2 := Fx.ChT.of_stp s7 m42.ty
  have m48 := m38.chT hct2 (by decide)
  have m49 := m39.stp s7 ng2m10
  have m50 := m40.chT hct2 (by decide)
  have m51 := m41.chT hct2 (by decide)
  have m52 := m43.chT hct2 (by decide)
  have m53 := m44.chT hct2 (by decide)
  have m54 := m45.chT hct2 (by decide)
  have b7 := s7.below b6 (Nat.le_trans hB b6.size) (by omega)
  refine Fx.L.nil (Fx.seqN (Fx.W.ret (Fx.seqR (⟨.agg (Fx.varr 14 (fun zq => if zq < 1 then .int .i64 (0) else if zq < 8 then .int .u64 (0) else if zq < 9 then .int .u8 (0) else if zq < 10 then .int .u64 (0) else if zq < 12 then .int .i64 (0) else .int .u64 (0))), Fx.retV1 Try.results23 ⟨_, rfl, Fx.run_loadV m47.cel (by kernel_rfl) (by kernel_rfl)⟩, ?_⟩))))
  have m55 : Fx.Own w5 B 59 1 (.slice M.la (M.n) (M.lc)) M.n (ptX (updA M.pl o p3)) := m54.congV (congrArg (fun q => Value.slice q M.n M.lc) eq1.symm)
  exact ⟨⟨_, rfl⟩, { M with pl := updA M.pl o p3, ml := updA M.ml o m3 }, { c := m48, l := m55, a := m49, g := m50.put m53, inv := (fun i hi => by show Inv (updA M.ml o m3 i).core _; unfold updA; split; exact hI3; exact (hW.inv i hi).mono (by omega)), wf := hW.wf, may := hW.may, pB := hpB, n1 := hn1, n6 := hn6 }, rfl, (by show M.an ≤ M.an + 1; omega), b7⟩
 ·rw [Bool.not_eq_true] at c19
  refine Fx.L.v (.bool false) (Fx.x_load1 (x := actY x) rfl rfl (by kernel_rfl) m19.cel (i := 1) (by omega) (by omega) ((show _ = Value.bool x.meet from rfl).trans (congrArg Value.bool c19))) ?_
  refine Fx.L.nil (Fx.seqN (Fx.W.cond (b := false) rfl (fun h => nomatch h) (fun _ => Fx.W.skip (Fx.seqN (Fx.W.seq (Fx.W.list (Fx.L.v (.pointer (some ⟨p, 0, none⟩)) (Fx.x_move rfl rfl) ?_)))))))
  refine Fx.L.v (.agg (Fx.varr 9 (actY x))) (Fx.x_loadA (x := actY x) (y := actY x) rfl rfl (by kernel_rfl) (by kernel_rfl) m19.cel (i := 0) (by omega) (by omega) (fun j _ => by rw [Nat.zero_add])) ?_
  refine Fx.L.call (by rfl) (Fx.r_call (args := [.pointer (some ⟨p, 0, none⟩), .agg (Fx.varr 9 (actY x))]) rfl rfl Try.func70 rfl rfl) rfl ((l_event M B p T x _ m18 hx).mono ?_)
  rintro e9 w6 ⟨V, hV, he, hb2⟩
  refine ⟨_, he, ?_⟩
  clear he
  have s8 := Fx.Stp.of_below hb2
  have m56 := m14.stp s8 (Nat.ne_of_lt (m14.lt))
  have m57 := m15.stp s8 (m15.notNew (Nat.le_refl _))
  have m58 := m16.stp s8 (m16.notNew (Nat.le_refl _))
  have m59 := m17.up s8.old
  have m60 := m18.up s8.old
  have m61 := m19.stp s8 (Nat.ne_of_lt (m19.lt))
  have m62 := m20.stp s8 (Nat.ne_of_lt (m20.lt))
  have b8 := s8.below b3 (Nat.le_trans hB b3.size) (Nat.le_trans hB b3.size)
  refine Fx.L.new (m := 14) (y := fun zq => if zq < 1 then .int .i64 (0) else if zq < 8 then .int .u64 (0) else if zq < 9 then .int .u8 (0) else if zq < 10 then .int .u64 (0) else if zq < 12 then .int .i64 (0) else .int .u64 (0)) (by rfl) rfl (by kernel_rfl) rfl fun g3 w7 eg3 m63 s9 z5 => ?_
  have m64 := m56.stp s9 (Nat.ne_of_lt (m56.lt))
  have m65 := m57.stp s9 (m57.notNew (Nat.le_refl _))
  have m66 := m58.stp s9 (m58.notNew (Nat.le_refl _))
  have m67 := m59.up s9.old
  have m68 := m61.stp s9 (Nat.ne_of_lt (m61.lt))
  have m69 := m62.stp s9 (Nat.ne_of_lt (m62.lt))
  have b9 := s9.below b8 (Nat.le_trans hB b8.size) (Nat.le_trans hB b8.size)
  have lg3 : w.heap.size ≤ g3 := by rw [eg3]; exact b8.size
  have ng3m64 : p ≠ g3 := by rw [eg3]; exact Nat.ne_of_lt (m56.lt)
  have ng3m66 : (.slice M.aa (M.an) (M.ac) : Value).ownBlock ≠ some g3 := by rw [eg3]; exact m58.notNew (Nat.le_refl _)
  have ng3m68 : g1 ≠ g3 := by rw [eg3]; exact Nat.ne_of_lt (m61.lt)
  have ng3m69 : g2 ≠ g3 := by rw [eg3]; exact Nat.ne_of_lt (m62.lt)
  have tg3 : g3 < w7.heap.size := m63.lt
  clear eg3
  refine Fx.L.storeA (x := fun zq => if zq < 1 then .int .i64 (0) else if zq < 8 then .int .u64 (0) else if zq < 9 then .int .u8 (0) else if zq < 10 then .int .u64 (0) else if zq < 12 then .int .i64 (0) else .int .u64 (0)) (y := evY V) (by rfl) rfl rfl rfl rfl (evY_one _) (by kernel_rfl) m63 (i := 0) (by omega) fun w8 m70 s10 z6 => ?_
  have m71 : Fx.Blk w8 g3 14 (evY V) 54 := Fx.ovr_all m70
  have hct3 := Fx.ChT.of_stp s10 m63.ty
  have m72 := m64.chT hct3 (by decide)
  have m73 := m65.chT hct3 (by decide)
  have m74 := m66.stp s10 ng3m66
  have m75 := m67.chT hct3 (by decide)
  have m76 := m68.chT hct3 (by decide)
  have m77 := m69.stp s10 (by omega)
  have b10 := s10.below b9 (Nat.le_trans hB b9.size) (by omega)
  refine Fx.L.nil (Fx.seqN (Fx.W.seq ?_))
  have hLo3 := m75 o (by omega)
  -- region 6 draws
  refine Fx.W.reord [0, 1, 2, 4, 3, 5, 6, 7, 8, 9, 10, 11, 12, 13] [0, 0, 0, 4, 0, 0, 4, 4, 3, 0, 0, 0, 0, 0] Fx.Mk Fx.Mk.refl Fx.Mk.trans (certs := [(8, 3, [6, 5, 3]), (8, 6, [6]), (8, 7, [7]), (9, 8, [8]), (10, 8, [9, 8]), (11, 8, [9, 8]), (12, 8, [8]), (13, 8, [8])]) (by kernel_rfl) (by kernel_rfl) (by kernel_rfl) (by kernel_rfl) (by kernel_rfl) fun wt2 hbwt2 hzwt2 => ?_
  have s11 : Fx.Stp w8.heap.size w8 wt2 := Fx.Stp.of_below hbwt2
  have m78 := m72.stp s11 (Nat.ne_of_lt (m72.lt))
  have m79 := m73.stp s11 (m73.notNew (Nat.le_refl _))
  have m80 := m74.stp s11 (m74.notNew (Nat.le_refl _))
  have m81 := m75.up s11.old
  have m82 := m76.stp s11 (Nat.ne_of_lt (m76.lt))
  have m83 := m77.stp s11 (Nat.ne_of_lt (m77.lt))
  have m84 := m71.stp s11 (Nat.ne_of_lt (m71.lt))
  have m85 := hLo3.up s11.old
  have b11 := s11.below b10 (Nat.le_trans hB b10.size) (Nat.le_trans hB b10.size)
  refine Fx.R.p (.pointer (some ⟨p, 0, none⟩)) (fun v1 => Fx.x_move rfl rfl) ?_
  refine Fx.R.p (.pointer (some ⟨p, 0, none⟩)) (fun v1 => Fx.x_nil rfl rfl) ?_
  refine Fx.R.p (.pointer (some ⟨p, 0, none⟩)) (fun v1 => Fx.x_field rfl rfl Try.underlying63 rfl (s := 1) (by kernel_rfl) rfl rfl) ?_
  refine Fx.R.p (.int .i64 ((o : Int))) (fun v1 => Fx.x_move rfl rfl) ?_
  refine Fx.R.s (.slice M.la (M.n) (M.lc)) (Fx.x_load1 (x := wdY (.slice M.la (M.n) (M.lc)) (.slice M.aa (M.an) (M.ac))) rfl rfl (by kernel_rfl) m78.cel (i := 0) (by omega) (by omega) rfl) ?_
  obtain ⟨gq2, eq2⟩ := m79.addr (by omega)
  have m86 : Fx.Own wt2 B 59 1 (.slice (some ⟨gq2, 0, none⟩) M.n M.lc) M.n (ptX M.pl) := m79.congV (congrArg (fun q => Value.slice q M.n M.lc) eq2)
  refine Fx.R.p (.pointer (some ⟨gq2, o, none⟩)) (fun v1 => Fx.x_indexS rfl (rfl.trans (congrArg (fun q => Value.slice q (M.n) (M.lc)) eq2)) rfl Try.underlying60 (s := 1) (by kernel_rfl) (by omega) (by omega) (by omega)) ?_
  refine Fx.R.s (.pointer (some ⟨(M.pl o), 0, none⟩)) (Fx.x_load1 (x := ptX M.pl) rfl rfl (by kernel_rfl) m86.cel (i := o) (by omega) (by omega) rfl) ?_
  refine Fx.R.s (.agg (Fx.varr 14 (evY V))) (Fx.x_loadA (x := evY V) (y := evY V) rfl rfl (by kernel_rfl) (by kernel_rfl) m84.cel (i := 0) (by omega) (by omega) (fun j _ => by rw [Nat.zero_add])) ?_
  refine Fx.R.eff (by rfl) ?_
  refine Fx.L.call (by rfl) (Fx.r_call (args := [.pointer (some ⟨(M.pl o), 0, none⟩), .agg (Fx.varr 14 (evY V))]) rfl rfl Try.func57 rfl rfl) rfl ((l_apply (M.ml o) B (M.pl o) T V _ m85 hV (hW.inv o (by omega)).w (by omega)).mono ?_)
  rintro e9 w9 ⟨p3, m3, he, hc3, hL2, hb3⟩
  refine ⟨.tuple #[.pointer (some ⟨p3, 0, none⟩), .int .i64 (applyE (M.ml o).core V)], he, ?_⟩
  clear he
  have s12 := Fx.Stp.of_below hb3
  have m87 := m78.stp s12 (Nat.ne_of_lt (m78.lt))
  have m88 := m80.stp s12 (m80.notNew (Nat.le_refl _))
  have m89 := m81.up s12.old
  have m90 := m82.stp s12 (Nat.ne_of_lt (m82.lt))
  have m91 := m83.stp s12 (Nat.ne_of_lt (m83.lt))
  have m92 := m84.stp s12 (Nat.ne_of_lt (m84.lt))
  have m93 := m86.stpB s12 (Nat.ne_of_lt (m86.lt))
  have b12 := s12.below b11 (Nat.le_trans hB b11.size) (Nat.le_trans hB b11.size)
  refine Fx.L.nil (Fx.R.p (.tuple #[.pointer (some ⟨p3, 0, none⟩), .int .i64 (applyE (M.ml o).core V)]) (fun v1 => Fx.x_move rfl rfl) ?_)
  refine Fx.R.p (.pointer (some ⟨p3, 0, none⟩)) (fun v1 => Fx.x_extract rfl rfl rfl) ?_
  refine Fx.R.p (.int .i64 (applyE (M.ml o).core V)) (fun v1 => Fx.x_extract rfl rfl rfl) ?_
  refine Fx.R.p (.pointer (some ⟨p3, 0, none⟩)) (fun v1 => Fx.x_assign rfl rfl) ?_
  refine Fx.R.p (.int .i64 (applyE (M.ml o).core V)) (fun v1 => Fx.x_assign rfl rfl) ?_
  refine Fx.R.nil (Fx.seqN (Fx.W.seq (Fx.W.seq (Fx.W.list (Fx.L.v (.int .i64 (applyE (M.ml o).core V)) (Fx.x_move rfl rfl) ?_)))))
  by_cases c74 : (applyE (M.ml o).core V) = 0
  ·refine Fx.L.v (.bool false) (Fx.x_neqF rfl rfl rfl c74) ?_
   refine Fx.L.nil (Fx.seqN (Fx.W.cond (b := false) rfl (fun h => nomatch h) (fun _ => Fx.W.skip (Fx.seqN (Fx.W.seq (Fx.W.list (Fx.L.v (.pointer (some ⟨p, 0, none⟩)) (Fx.x_move rfl rfl) ?_)))))))
   refine Fx.L.v (.pointer (some ⟨p, 0, none⟩)) (Fx.x_nil rfl rfl) ?_
   refine Fx.L.v (.pointer (some ⟨p, 0, none⟩)) (Fx.x_field rfl rfl Try.underlying63 rfl (s := 1) (by kernel_rfl) rfl rfl) ?_
   refine Fx.L.v (.slice M.la (M.n) (M.lc)) (Fx.x_load1 (x := wdY (.slice M.la (M.n) (M.lc)) (.slice M.aa (M.an) (M.ac))) rfl rfl (by kernel_rfl) m87.cel (i := 0) (by omega) (by omega) rfl) ?_
   refine Fx.L.v (.int .i64 ((o : Int))) (Fx.x_move rfl rfl) ?_
   refine Fx.L.v (.pointer (some ⟨p3, 0, none⟩)) (Fx.x_move rfl rfl) ?_
   refine Fx.L.v (.pointer (some ⟨gq2, o, none⟩)) (Fx.x_indexS rfl (rfl.trans (congrArg (fun q => Value.slice q (M.n) (M.lc)) eq2)) rfl Try.underlying60 (s := 1) (by kernel_rfl) (by omega) (by omega) (by omega)) ?_
   refine Fx.L.own1 (x := ptX M.pl) (u := .pointer (some ⟨p3, 0, none⟩)) (by rfl) rfl rfl rfl rfl (by rfl) (by kernel_rfl) m93 (i := o) (by omega) fun w10 m94 s13 z7 => ?_
   have hct4 := Fx.ChT.of_stp s13 m93.tyB
   have m95 := m87.chT hct4 (by decide)
   have m96 := m88.chT hct4 (by decide)
   have m97 := m89.chT hct4 (by decide)
   have m98 := m90.chT hct4 (by decide)
   have m99 := m91.chT hct4 (by decide)
   have m100 := m92.chT hct4 (by decide)
   have m101 := hL2.chT hct4 (by decide)
   have b13 := s13.below b12 (Nat.le_trans hB b12.size) m93.blk.1
   have m102 : Fx.Own w10 B 59 1 (.slice (some ⟨gq2, 0, none⟩) M.n M.lc) M.n (ptX (updA M.pl o p3)) := m94.congr (fun jq _ => congrFun pt_put jq)
   refine Fx.L.nil (Fx.seqN (Fx.W.seq ?_))
   have m103 : Fx.Own w10 B 59 1 (.slice M.la (M.n) (M.lc)) M.n (ptX (updA M.pl o p3)) := m102.congV (congrArg (fun q => Value.slice q M.n M.lc) eq2.symm)
   -- region 10 draws
   refine Fx.W.reord [0, 1, 2, 3, 4, 5, 6, 7, 8, 9, 10] [0, 0, 0, 0, 1, 4, 2, 2, 0, 0, 3] (Fx.ChT [54]) Fx.ChT.refl Fx.ChT.trans (certs := [(10, 4, [4]), (6, 5, [5]), (7, 5, [6, 5]), (10, 5, [5]), (7, 6, [6]), (8, 6, [6]), (9, 6, [6]), (10, 6, [6]), (8, 7, [7]), (9, 7, [7]), (10, 7, [7])]) (by kernel_rfl) (by kernel_rfl) (by kernel_rfl) (by kernel_rfl) (by kernel_rfl) fun wt3 hbwt3 hzwt3 => ?_
   have s14 : Fx.Stp w10.heap.size w10 wt3 := Fx.Stp.of_below hbwt3
   have m104 := m95.stp s14 (Nat.ne_of_lt (m95.lt))
   have m105 := m96.stp s14 (m96.notNew (Nat.le_refl _))
   have m106 := m97.up s14.old
   have m107 := m98.stp s14 (Nat.ne_of_lt (m98.lt))
   have m108 := m99.stp s14 (Nat.ne_of_lt (m99.lt))
   have m109 := m100.stp s14 (Nat.ne_of_lt (m100.lt))
   have m110 := m101.up s14.old
   have m111 := m103.stp s14 (m103.notNew (Nat.le_refl _))
   have b14 := s14.below b13 (Nat.le_trans hB b13.size) (Nat.le_trans hB b13.size)
   refine Fx.R.p (.pointer (some ⟨p, 0, none⟩)) (fun v1 => Fx.x_move rfl rfl) ?_
   refine Fx.R.p (.pointer (some ⟨p, 0, none⟩)) (fun v1 => Fx.x_move rfl rfl) ?_
   refine Fx.R.p (.pointer (some ⟨p, 0, none⟩)) (fun v1 => Fx.x_nil rfl rfl) ?_
   refine Fx.R.p (.pointer (some ⟨p, 1, none⟩)) (fun v1 => Fx.x_field rfl rfl Try.underlying63 rfl (s := 1) (by kernel_rfl) rfl (by show _ + 1 = _; omega)) ?_
   refine Fx.R.read (v := .slice M.aa (M.an) (M.ac)) (by rfl) (by rfl) (Fx.ChT.refl _) (fun v1 hv1 => Fx.x_load1 (x := wdY (.slice M.la (M.n) (M.lc)) (.slice M.aa (M.an) (M.ac))) rfl rfl (by kernel_rfl) (m104.chT hv1 (by decide)).cel (i := 1) (by omega) (by omega) rfl) ?_
   refine Fx.R.s (.agg (Fx.varr 14 (evY V))) (Fx.x_loadA (x := evY V) (y := evY V) rfl rfl (by kernel_rfl) (by kernel_rfl) m109.cel (i := 0) (by omega) (by omega) (fun j _ => by rw [Nat.zero_add])) ?_
   refine Fx.R.make (by rfl) ?_
   refine Fx.L.bslice (vs := [(0, .agg (Fx.varr 14 (evY V)))]) (s := 14) (zc := fun zq => if zq < 1 then .int .i64 (0) else if zq < 8 then .int .u64 (0) else if zq < 9 then .int .u8 (0) else if zq < 10 then .int .u64 (0) else if zq < 12 then .int .i64 (0) else .int .u64 (0)) (y := Fx.ovr (fun j => (fun zq => if zq < 1 then .int .i64 (0) else if zq < 8 then .int .u64 (0) else if zq < 9 then .int .u8 (0) else if zq < 10 then .int .u64 (0) else if zq < 12 then .int .i64 (0) else .int .u64 (0)) (j % 14)) (0 * 14) 14 (evY V)) (by rfl) rfl rfl Try.underlying61 (by kernel_rfl) (by rfl) (by rfl) (by kernel_rfl) (by rw [Fx.fill_step (off := 0 * 14) (s := 14) (y := evY V) rfl (Fx.cells_agg _ _) (by rfl)]; rfl) rfl fun g4 w11 eg4 m112 s15 z8 => ?_
   have m113 := m104.stp s15 (Nat.ne_of_lt (m104.lt))
   have m114 := m105.stp s15 (m105.notNew (Nat.le_refl _))
   have m115 := m106.up s15.old
   have m116 := m107.stp s15 (Nat.ne_of_lt (m107.lt))
   have m117 := m108.stp s15 (Nat.ne_of_lt (m108.lt))
   have m118 := m109.stp s15 (Nat.ne_of_lt (m109.lt))
   have m119 := m110.up s15.old
   have m120 := m111.stp s15 (m111.notNew (Nat.le_refl _))
   have b15 := s15.below b14 (Nat.le_trans hB b14.size) (Nat.le_trans hB b14.size)
   have lg4 : w.heap.size ≤ g4 := by rw [eg4]; exact b14.size
   have ng4m113 : p ≠ g4 := by rw [eg4]; exact Nat.ne_of_lt (m104.lt)
   have ng4m114 : (.slice M.aa (M.an) (M.ac) : Value).ownBlock ≠ some g4 := by rw [eg4]; exact m105.notNew (Nat.le_refl _)
   have ng4m116 : g1 ≠ g4 := by rw [eg4]; exact Nat.ne_of_lt (m107.lt)
   have ng4m117 : g2 ≠ g4 := by rw [eg4]; exact Nat.ne_of_lt (m108.lt)
   have ng4m118 : g3 ≠ g4 := by rw [eg4]; exact Nat.ne_of_lt (m109.lt)
   have tg4 : g4 < w11.heap.size := m112.lt
   clear eg4
   refine Fx.L.nil ⟨Fx.ChT.of_below s15.old, ?_⟩
   refine Fx.R.make (by rfl) ?_
   refine Fx.L.app (B := B) (s := 14) (bytes := 112) (k := M.an) (m := 1) (v := .slice M.aa (M.an) (M.ac)) (x := evX M.ev) (by rfl) rfl rfl rfl Try.underlying61 (by kernel_rfl) (by kernel_rfl) rfl rfl m114 m112.cel (ovr_one (fun j => (show (evY V j).oneCell' = true by unfold evY; repeat (first | rfl | split)))) (by omega) (by omega) (by omega) (Nat.le_trans hB b15.size) fun g5 cap1 w12 ho1 hg1 hgv1 hlt1 => ?_
   have hct5 := Fx.ChT.of_grown hg1 m114
   have m122 := m113.chT hct5 (by decide)
   have m123 := m115.chT hct5 (by decide)
   have m124 := m116.chT hct5 (by decide)
   have m125 := m117.grown hg1 ng2m10
   have ng5m125 : g2 ≠ g5 := fun e => hgv1.elim (fun e2 => ng2m10 (by rw [e]; exact e2)) (fun e2 => by have := m117.lt; omega)
   have m126 := m118.grown hg1 ng3m66
   have ng5m126 : g3 ≠ g5 := fun e => hgv1.elim (fun e2 => ng3m66 (by rw [e]; exact e2)) (fun e2 => by have := m118.lt; omega)
   have m127 := m119.chT hct5 (by decide)
   have m128 := m120.chT hct5 (by decide)
   have m121 : Fx.Own w12 B 54 14 (.slice (some ⟨g5, 0, none⟩) (M.an + 1) cap1) (M.an + 1) (evX (updA M.ev M.an V)) := (ho1.congr (fun j hj => ev_app j hj))
   have b16 : Below B w w12 := Fx.Below.grow b15 hg1 (Nat.le_trans hB b15.size) (fun q hq => (m114.ge hq).1)
   refine Fx.L.nil ⟨hct5, ?_⟩
   refine Fx.R.p (.pointer (some ⟨p, 0, none⟩)) (fun v1 => Fx.x_nil rfl rfl) ?_
   refine Fx.R.p (.pointer (some ⟨p, 1, none⟩)) (fun v1 => Fx.x_field rfl rfl Try.underlying63 rfl (s := 1) (by kernel_rfl) rfl (by show _ + 1 = _; omega)) ?_
   refine Fx.R.eff (by rfl) ?_
   refine Fx.L.store1 (x := wdY (.slice M.la (M.n) (M.lc)) (.slice M.aa (M.an) (M.ac))) (u := .slice (some ⟨g5, 0, none⟩) (M.an + 1) (cap1)) (by rfl) rfl rfl rfl rfl (by rfl) (by kernel_rfl) m122 (i := 1) (by omega) fun w13 m129 s16 z9 => ?_
   have m130 : Fx.Blk w13 p 2 (wdY (.slice M.la (M.n) (M.lc)) (.slice (some ⟨g5, 0, none⟩) (M.an + 1) (cap1))) 63 := m129.congr (wdY_1 _ _ _)
   have hct6 := Fx.ChT.of_stp s16 m122.ty
   have m131 := m123.chT hct6 (by decide)
   have m132 := m124.chT hct6 (by decide)
   have m133 := m125.chT hct6 (by decide)
   have m134 := m126.chT hct6 (by decide)
   have m135 := m127.chT hct6 (by decide)
   have m136 := m128.chT hct6 (by decide)
   have m137 := m121.chT hct6 (by decide)
   have b17 := s16.below b16 (Nat.le_trans hB b16.size) (by omega)
   refine Fx.L.nil (Fx.R.nil (Fx.seqN (Fx.W.seq (Fx.W.list (Fx.L.v (.agg (Fx.varr 14 (evY V))) (Fx.x_loadA (x := evY V) (y := evY V) rfl rfl (by kernel_rfl) (by kernel_rfl) m134.cel (i := 0) (by omega) (by omega) (fun j _ => by rw [Nat.zero_add])) ?_)))))
   refine Fx.L.storeA (x := fun zq => if zq < 1 then .int .i64 (0) else if zq < 8 then .int .u64 (0) else if zq < 9 then .int .u8 (0) else if zq < 10 then .int .u64 (0) else if zq < 12 then .int .i64 (0) else .int .u64 (0)) (y := evY V) (by rfl) rfl rfl rfl rfl (evY_one _) (by kernel_rfl) m133 (i := 0) (by omega) fun w14 m138 s17 z10 => ?_
   have m139 : Fx.Blk w14 g2 14 (evY V) 54 := Fx.ovr_all m138
   have hct7 := Fx.ChT.of_stp s17 m133.ty
   have m140 := m131.chT hct7 (by decide)
   have m141 := m132.chT hct7 (by decide)
   have m142 := m134.stp s17 (by omega)
   have m143 := m135.chT hct7 (by decide)
   have m144 := m136.chT hct7 (by decide)
   have m145 := m137.stpB s17 (by omega)
   have m146 := m130.chT hct7 (by decide)
   have b18 := s17.below b17 (Nat.le_trans hB b17.size) (by omega)
   refine Fx.L.nil (Fx.seqN (Fx.W.ret (⟨.agg (Fx.varr 14 (evY V)), Fx.retV1 Try.results23 ⟨_, rfl, Fx.run_loadV m139.cel (by kernel_rfl) (by kernel_rfl)⟩, ?_⟩)))
   have hinv : Inv m3.core (T + 3660) := by rw [hc3]; exact (inv_apply (hW.inv o (by omega))).mono (by omega)
   exact ⟨⟨_, rfl⟩, { M with pl := updA M.pl o p3, ml := updA M.ml o m3, an := M.an + 1, aa := some ⟨g5, 0, none⟩, ac := cap1, ev := updA M.ev M.an V }, { c := m146, l := m144, a := m145, g := m140.put m143, inv := (fun i hi => by show Inv (updA M.ml o m3 i).core _; unfold updA; split; exact hinv; exact (hW.inv i hi).mono (by omega)), wf := (fun k hk => by have hk2 : k < M.an + 1 := hk; show EvWf (updA M.ev M.an V k); unfold updA; split; exact hV; exact hW.wf k (by omega)), may := (fun k hk => by have hk2 : k < M.an + 1 := hk; show mayE (updA M.ev M.an V k) = true; unfold updA; split; exact apply_may c74; exact hW.may k (by omega)), pB := hpB, n1 := hn1, n6 := hn6 }, rfl, Nat.le_refl _, b18⟩
  ·refine Fx.L.v (.bool true) (Fx.x_neqT rfl rfl rfl c74) ?_
   refine Fx.L.nil (Fx.seqN (Fx.W.cond (b := true) rfl (fun _ => Fx.W.seq (Fx.W.list (Fx.L.v (.agg (Fx.varr 14 (fun zq => if zq < 1 then .int .i64 (0) else if zq < 8 then .int .u64 (0) else if zq < 9 then .int .u8 (0) else if zq < 10 then .int .u64 (0) else if zq < 12 then .int .i64 (0) else .int .u64 (0)))) (Fx.x_build (vs := []) (places := #[(0, 1), (1, 1), (2, 6), (8, 1), (9, 1), (10, 1), (11, 1), (12, 1), (13, 1)]) (m := 14) (x := fun zq => if zq < 1 then .int .i64 (0) else if zq < 8 then .int .u64 (0) else if zq < 9 then .int .u8 (0) else if zq < 10 then .int .u64 (0) else if zq < 12 then .int .i64 (0) else .int .u64 (0)) rfl rfl Try.underlying54 (by kernel_rfl) (by kernel_rfl) (by rfl)) ?_))) (fun h => nomatch h)))
   refine Fx.L.storeA (x := fun zq => if zq < 1 then .int .i64 (0) else if zq < 8 then .int .u64 (0) else if zq < 9 then .int .u8 (0) else if zq < 10 then .int .u64 (0) else if zq < 12 then .int .i64 (0) else .int .u64 (0)) (y := fun zq => if zq < 1 then .int .i64 (0) else if zq < 8 then .int .u64 (0) else if zq < 9 then .int .u8 (0) else if zq < 10 then .int .u64 (0) else if zq < 12 then .int .i64 (0) else .int .u64 (0)) (by rfl) rfl rfl rfl rfl (fun jq _ => by show ((fun zq => if zq < 1 then .int .i64 (0) else if zq < 8 then .int .u64 (0) else if zq < 9 then .int .u8 (0) else if zq < 10 then .int .u64 (0) else if zq < 12 then .int .i64 (0) else .int .u64 (0) : Nat → Value) jq).oneCell' = true; simp only []; repeat (first | rfl | split)) (by kernel_rfl) m91 (i := 0) (by omega) fun w15 m147 s18 z11 => ?_
   have m148 : Fx.Blk w15 g2 14 (fun zq => if zq < 1 then .int .i64 (0) else if zq < 8 then .int .u64 (0) else if zq < 9 then .int .u8 (0) else if zq < 10 then .int .u64 (0) else if zq < 12 then .int .i64 (0) else .int .u64 (0)) 54 := Fx.ovr_all m147
   have hct8 := Fx.ChT.of_stp s18 m91.ty
   have m149 := m87.chT hct8 (by decide)
   have m150 := m88.stp s18 ng2m10
   have m151 := m89.chT hct8 (by decide)
   have m152 := m90.chT hct8 (by decide)
   have m153 := m92.stp s18 (by omega)
   have m154 := m93.chT hct8 (by decide)
   have m155 := hL2.chT hct8 (by decide)
   have b19 := s18.below b12 (Nat.le_trans hB b12.size) (by omega)
   refine Fx.L.nil (Fx.seqN (Fx.W.ret (Fx.seqR (⟨.agg (Fx.varr 14 (fun zq => if zq < 1 then .int .i64 (0) else if zq < 8 then .int .u64 (0) else if zq < 9 then .int .u8 (0) else if zq < 10 then .int .u64 (0) else if zq < 12 then .int .i64 (0) else .int .u64 (0))), Fx.retV1 Try.results23 ⟨_, rfl, Fx.run_loadV m148.cel (by kernel_rfl) (by kernel_rfl)⟩, ?_⟩))))
   have m156 : Fx.Own w15 B 59 1 (.slice M.la (M.n) (M.lc)) M.n (ptX M.pl) := m154.congV (congrArg (fun q => Value.slice q M.n M.lc) eq2.symm)
   exact ⟨⟨_, rfl⟩, M, { c := m149, l := m156, a := m150, g := m151, inv := fun i hi => (hW.inv i hi).mono (by omega), wf := hW.wf, may := hW.may, pB := hpB, n1 := hn1, n6 := hn6 }, rfl, by omega, b19⟩
end Go.Proofs.Ytolmkjepieoloaa
namespace Go.Proofs.Ytolmkjepieoloaa
open Go.RowKit Go.WideShapes Go.ChangeShapes Go.Deep
theorem spotless1 {w : World} {x : Addr} {v : Value} (h : w.cell? x = some v) : ∃ b off, x = ⟨b, off, none⟩ := by
  obtain ⟨b, off, spot⟩ := x
  cases spot with
  | none => exact ⟨b, off, rfl⟩
  | some q =>
    unfold World.cell? at h
    simp at h
    split at h <;> cases h
def At4 (k0 k1 k2 k3 : IntKind) (w : World) (b off : Nat) (x0 x1 x2 x3 : Int) : Prop :=
  w.cell? ⟨b, off, none⟩ = some (.int k0 x0) ∧ w.cell? ⟨b, off + 1, none⟩ = some (.int k1 x1) ∧ w.cell? ⟨b, off + 2, none⟩ = some (.int k2 x2) ∧ w.cell? ⟨b, off + 3, none⟩ = some (.int k3 x3)
def Wf4 (k0 k1 k2 k3 : IntKind) (x0 x1 x2 x3 : Int) : Prop := (Lit.int k0 x0).wf = true ∧ (Lit.int k1 x1).wf = true ∧ (Lit.int k2 x2).wf = true ∧ (Lit.int k3 x3).wf = true
def Sl4 (k0 k1 k2 k3 : IntKind) (w : World) (a : Option Addr) (len : Nat) (X0 X1 X2 X3 : Nat → Int) : Prop :=
  ∀ i, i < len → (∃ b off, a = some ⟨b, off, none⟩ ∧ At4 k0 k1 k2 k3 w b (off + i * 4) (X0 i) (X1 i) (X2 i) (X3 i)) ∧ Wf4 k0 k1 k2 k3 (X0 i) (X1 i) (X2 i) (X3 i)
theorem Sl4.up {k0 k1 k2 k3 : IntKind} {w w' : World} {a : Option Addr} {len : Nat} {X0 X1 X2 X3 : Nat → Int} (h : Sl4 k0 k1 k2 k3 w a len X0 X1 X2 X3) (hb : Below w.heap.size w w') : Sl4 k0 k1 k2 k3 w' a len X0 X1 X2 X3 := by
  intro i hi
  obtain ⟨⟨b, off, e, q0, q1, q2, q3⟩, hw⟩ := h i hi
  have hlt := block_lt_of_cell q0
  dsimp only at hlt
  exact ⟨⟨b, off, e, (hb.cell (p := ⟨b, off + i * 4, none⟩) hlt).trans q0, (hb.cell (p := ⟨b, off + i * 4 + 1, none⟩) hlt).trans q1, (hb.cell (p := ⟨b, off + i * 4 + 2, none⟩) hlt).trans q2, (hb.cell (p := ⟨b, off + i * 4 + 3, none⟩) hlt).trans q3⟩, hw⟩
end Go.Proofs.Ytolmkjepieoloaa
namespace Go.Proofs.Ytolmkjepieoloaa
open Go.RowKit Go.WideShapes Go.ChangeShapes Go.Deep
def flatKb (P : Program) : Nat → TypeId → Option (List (Option IntKind))
  | 0, _ => none
  | d + 1, t => match P.underlying t with
    | some (.int k) => some [some k]
    | some .bool => some [none]
    | some (.array n e) => (flatKb P d e).bind fun ks => if P.cellsOf e = ks.length ∧ P.cellsOf t = n * ks.length then some (List.replicate n ks).flatten else none
    | some (.struct fs) => (fs.toList.foldlM (fun l f => (flatKb P d f.type).bind fun ks => if f.offset = l.length ∧ P.cellsOf f.type = ks.length then some (l ++ ks) else none) []).bind fun l => if P.cellsOf t = l.length then some l else none
    | _ => none
def OkV (k : Option IntKind) (v : Value) : Prop := match k with | some k => ∃ n, v = .int k n ∧ (Lit.int k n).wf = true | none => ∃ b, v = .bool b
def FlatV (ks : List (Option IntKind)) (cs : List Value) : Prop := cs.length = ks.length ∧ ∀ (j : Nat) (k : Option IntKind), ks[j]? = some k → ∃ v, cs[j]? = some v ∧ OkV k v
theorem flatb_rep {ks : List (Option IntKind)} {k : Option IntKind} : ∀ (n j : Nat), (List.replicate n ks).flatten[j]? = some k → ks[j % ks.length]? = some k ∧ j / ks.length < n
  | 0, j, h => by simp at h
  | n + 1, j, h => by
    rw [List.replicate_succ, List.flatten_cons] at h
    by_cases hj : j < ks.length
    · rw [List.getElem?_append_left hj] at h
      rw [Nat.mod_eq_of_lt hj, Nat.div_eq_of_lt hj]; exact ⟨h, by omega⟩
    · rw [List.getElem?_append_right (by omega)] at h
      have hs : 0 < ks.length := by
        rcases Nat.eq_zero_or_pos ks.length with e | e
        · obtain ⟨h1, _⟩ := flatb_rep n _ h
          have := (List.getElem?_eq_some_iff.1 h1).1; omega
        · exact e
      obtain ⟨h1, h2⟩ := flatb_rep n _ h
      rw [Nat.mod_eq_sub_mod (by omega), Nat.div_eq_sub_div hs (by omega)]
      exact ⟨h1, by omega⟩
section
variable {H : Type} {enc : TypeId × Value → H} {P : Program} {w : World} {base : Nat} {spare : Nat → Bool} {held : Bool}
theorem flatb_part {ks : List (Option IntKind)} {cs : List Value} {o s j : Nat} {k : Option IntKind} (h : FlatV ks ((cs.drop o).take s)) (hs : s = ks.length) (hk : ks[j]? = some k) : ∃ v, cs[o + j]? = some v ∧ OkV k v := by
  obtain ⟨n, h1, h2⟩ := h.2 j k hk
  have hj := (List.getElem?_eq_some_iff.1 hk).1
  rw [List.getElem?_take_of_lt (by omega), List.getElem?_drop] at h1
  exact ⟨n, h1, h2⟩
theorem flatKb_ok : ∀ (d : Nat) (t : TypeId) (ks : List (Option IntKind)), flatKb P d t = some ks → ∀ (fuel : Nat) (cs : List Value) (x : DataW H × List MemPlace), DataW.trod enc P w base spare held fuel t cs = some x → FlatV ks cs
  | 0, _, _, h => by simp [flatKb] at h
  | d + 1, t, ks, h => by
    intro fuel cs x hx
    unfold flatKb at h
    split at h
    · rename_i k hu
      simp only [Option.some.injEq] at h; subst h
      obtain ⟨n, rfl, _, hw⟩ := DataW.trod_int hu hx
      refine ⟨rfl, fun j k' hk => ?_⟩
      match j, hk with
      | 0, hk => simp at hk; subst hk; exact ⟨_, rfl, n, rfl, hw⟩
      | j + 1, hk => simp at hk
    · rename_i hu
      simp only [Option.some.injEq] at h; subst h
      obtain ⟨b, rfl, _⟩ := DataW.trod_bool hu hx
      refine ⟨rfl, fun j k' hk => ?_⟩
      match j, hk with
      | 0, hk => simp at hk; subst hk; exact ⟨_, rfl, b, rfl⟩
      | j + 1, hk => simp at hk
    · rename_i n e hu
      obtain ⟨ks', hks, h⟩ := Option.bind_eq_some_iff.1 h
      split at h
      · rename_i hc
        simp only [Option.some.injEq] at h; subst h
        obtain ⟨xs, m, _, _, hl, hlen, hel⟩ := DataW.trod_array hu hx
        refine ⟨by rw [hl, hc.2]; simp, fun j k hk => ?_⟩
        obtain ⟨h1, h2⟩ := flatb_rep n j hk
        have hi := hel (j / ks'.length) h2
        rw [List.getElem?_eq_getElem (by omega), hc.1] at hi
        have := flatb_part (flatKb_ok d e ks' hks _ _ _ hi) rfl h1
        rw [Nat.mul_comm, Nat.div_add_mod] at this
        exact this
      · cases h
    · rename_i fs hu
      obtain ⟨l, hl, h⟩ := Option.bind_eq_some_iff.1 h
      split at h
      · rename_i hc
        simp only [Option.some.injEq] at h; subst h
        obtain ⟨xs, m, _, _, hlc, hlen, hf⟩ := DataW.trod_struct hu hx
        refine ⟨by rw [hlc, hc], ?_⟩
        have hf' : ∀ f, f ∈ fs.toList → ∃ y, DataW.trod enc P w base spare held m f.type ((cs.drop f.offset).take (P.cellsOf f.type)) = some y := by
          intro f hfm
          obtain ⟨i, hi, e⟩ := List.mem_iff_getElem.1 hfm
          have hi' : i < fs.size := by simpa using hi
          have h1 : fs[i]? = some f := by rw [Array.getElem?_eq_getElem hi']; simpa using e
          have := hf i f h1
          rw [List.getElem?_eq_getElem (by rw [hlen]; exact hi')] at this
          exact ⟨_, this⟩
        have key : ∀ (L : List Field) (acc : List (Option IntKind)), (∀ f, f ∈ L → ∃ y, DataW.trod enc P w base spare held m f.type ((cs.drop f.offset).take (P.cellsOf f.type)) = some y) → (∀ (j : Nat) (k : Option IntKind), acc[j]? = some k → ∃ v, cs[j]? = some v ∧ OkV k v) → ∀ l, L.foldlM (fun l f => (flatKb P d f.type).bind fun ks => if f.offset = l.length ∧ P.cellsOf f.type = ks.length then some (l ++ ks) else none) acc = some l → ∀ (j : Nat) (k : Option IntKind), l[j]? = some k → ∃ v, cs[j]? = some v ∧ OkV k v := by
          intro L
          induction L with
          | nil => intro acc _ ha l hl; simp at hl; subst hl; exact ha
          | cons f L ih =>
            intro acc hL ha l hl
            rw [List.foldlM_cons] at hl
            obtain ⟨l1, h1, h2⟩ := Option.bind_eq_some_iff.1 hl
            obtain ⟨kf, hkf, h3⟩ := Option.bind_eq_some_iff.1 h1
            split at h3
            · rename_i hcc
              simp only [Option.some.injEq] at h3; subst h3
              refine ih (acc ++ kf) (fun g hg => hL g (List.mem_cons_of_mem _ hg)) (fun j k hk => ?_) l h2
              by_cases hj : j < acc.length
              · rw [List.getElem?_append_left hj] at hk; exact ha j k hk
              · rw [List.getElem?_append_right (by omega)] at hk
                obtain ⟨y, hy⟩ := hL f (List.mem_cons_self ..)
                have := flatb_part (flatKb_ok d f.type kf hkf _ _ _ hy) hcc.2 hk
                rw [hcc.1, show acc.length + (j - acc.length) = j by omega] at this
                exact this
            · cases h3
        exact key fs.toList [] hf' (fun j k hk => by simp at hk) l hl
      · cases h
    · cases h
end
section
variable {H : Type} {enc : TypeId × Value → H} {P : Program} {w : World} {base : Nat} {spare : Nat → Bool} {held : Bool}
theorem open_rows {t e : TypeId} {ks : List (Option IntKind)} {fuel D : Nat} {cs : List Value} {x : DataW H × List MemPlace} (ht : P.underlying t = some (.slice e)) (hk : flatKb P D e = some ks) (ce : P.cellsOf e = ks.length) (hs : 0 < ks.length)
    (h : DataW.trod enc P w base spare held fuel t cs = some x) : ∃ a len cap, cs = [.slice a len cap] ∧ len ≤ maxLen ∧ len ≤ cap ∧ ∃ X : Nat → Nat → Value, (∀ i, i < len → ∀ (j : Nat) (k : Option IntKind), ks[j]? = some k → OkV k (X i j)) ∧ Fx.Arr w a len ks.length (Fx.flat ks.length X) := by
  rcases open_slice ht h with ⟨rfl, _⟩ | ⟨a', len, cap, m, n, D', Pl, rfl, _, hl, hm, hmm, _, hx⟩
  · exact ⟨none, 0, 0, rfl, by unfold maxLen; omega, Nat.le_refl _, fun _ _ => undef, fun i hi => absurd hi (by omega), fun h => absurd h (by omega)⟩
  · have hlm : len ≤ m := by rw [hmm]; split <;> omega
    have each : ∀ i j : Nat, ∃ q : Value, i < len → ∀ k, ks[j]? = some k → w.cell? (a'.add (i * ks.length + j)) = some q ∧ OkV k q := by
      intro i j
      by_cases hi : i < len ∧ j < ks.length
      · obtain ⟨cs', g1, g2⟩ := hx i (by omega)
        rw [ce] at g1
        obtain ⟨_, hlen, hcell⟩ := World.cells?_some g1
        obtain ⟨q, h1, h2⟩ := (flatKb_ok _ _ _ hk _ _ _ g2).2 j _ (List.getElem?_eq_getElem hi.2)
        refine ⟨q, fun _ k hkj => ?_⟩
        rw [List.getElem?_eq_getElem hi.2, Option.some.injEq] at hkj
        subst hkj
        have q0 := hcell j (by omega)
        rw [add_add] at q0
        exact ⟨by rw [← h1]; simpa using q0, h2⟩
      · refine ⟨undef, fun h1 k h2 => absurd ⟨h1, (List.getElem?_eq_some_iff.1 h2).1⟩ hi⟩
    refine ⟨some a', len, cap, rfl, by omega, hl, fun i j => Classical.choose (each i j), fun i hi j k hkj => (Classical.choose_spec (each i j) hi k hkj).2, fun h0 => ?_⟩
    have e0 : a'.add (0 * ks.length + 0) = a' := by unfold Addr.add; simp
    obtain ⟨q00, h00⟩ := each 0 0
    have hk0 := List.getElem?_eq_getElem hs
    have h00' := (h00 h0 _ hk0)
    have h01 := h00'.1
    rw [e0] at h01
    have e1 : ∃ b off, a' = ⟨b, off, none⟩ := by
      have h02 := h00'.2
      unfold OkV at h02
      split at h02
      · obtain ⟨nn, rfl, _⟩ := h02; exact spotless1 h01
      · obtain ⟨bb, rfl⟩ := h02
        unfold World.cell? at h01
        cases a' with
        | mk b off sp =>
          cases sp with
          | none => exact ⟨b, off, rfl⟩
          | some s => simp at h01; split at h01 <;> simp_all
    obtain ⟨b, off, e1⟩ := e1
    refine ⟨b, off, by rw [e1], fun p hp => ?_⟩
    have hj : p % ks.length < ks.length := Nat.mod_lt _ hs
    have hi : p / ks.length < len := Nat.div_lt_of_lt_mul (by rw [Nat.mul_comm]; exact hp)
    have := (Classical.choose_spec (each (p / ks.length) (p % ks.length)) hi _ (List.getElem?_eq_getElem hj)).1
    have ea : a'.add (p / ks.length * ks.length + p % ks.length) = ⟨b, off + p, none⟩ := by rw [e1, addr_add, Nat.mul_comm, Nat.div_add_mod]
    exact (congrArg w.cell? ea).symm.trans this
end
end Go.Proofs.Ytolmkjepieoloaa
namespace Go.Proofs.Ytolmkjepieoloaa
open Go.RowKit Go.WideShapes Go.ChangeShapes Go.Deep Rt
def boolOf : Value → Bool | .bool b => b | _ => false
theorem OkV.int {k : IntKind} {v : Value} (h : OkV (some k) v) : v = .int k (intOf v) ∧ (Lit.int k (intOf v)).wf = true := by
  obtain ⟨n, rfl, hw⟩ := h; exact ⟨rfl, hw⟩
theorem OkV.bool {v : Value} (h : OkV none v) : v = .bool (boolOf v) := by
  obtain ⟨b, rfl⟩ := h; rfl
theorem wf_u8 {n : Int} (h : (Lit.int .u8 n).wf = true) : 0 ≤ n ∧ n ≤ 255 := by simp [Lit.wf, IntKind.min, IntKind.max, IntKind.bits, IntKind.signed] at h; omega
theorem wf_u16 {n : Int} (h : (Lit.int .u16 n).wf = true) : 0 ≤ n ∧ n ≤ 65535 := by simp [Lit.wf, IntKind.min, IntKind.max, IntKind.bits, IntKind.signed] at h; omega
theorem nat_u8 {n : Int} (h : (Lit.int .u8 n).wf = true) : ∃ m : Nat, n = (m : Int) ∧ m ≤ 255 := by
  have := wf_u8 h; exact ⟨n.toNat, by omega, by omega⟩
theorem Fx.Arr.congr {w : World} {a : Option Addr} {n s : Nat} {x y : Nat → Value} (h : Fx.Arr w a n s x) (e : ∀ p, p < n * s → x p = y p) : Fx.Arr w a n s y := fun h0 => by
  obtain ⟨b, off, ea, hc⟩ := h h0
  exact ⟨b, off, ea, fun i hi => by rw [← e i hi]; exact hc i hi⟩
def actKs : List (Option IntKind) := [some .u8, none, some .u8, some .u8, some .u8, some .u8, some .u16, some .u8, some .u8]
def actOf (X : Nat → Value) : ActM := ⟨(intOf (X 0)).toNat, boolOf (X 1), (intOf (X 2)).toNat, (intOf (X 3)).toNat, (intOf (X 4)).toNat, (intOf (X 5)).toNat, (intOf (X 6)).toNat, (intOf (X 7)).toNat, (intOf (X 8)).toNat⟩
theorem actOf_ok {X : Nat → Value} (h : ∀ (j : Nat) (k : Option IntKind), actKs[j]? = some k → OkV k (X j)) : ActOk (actOf X) ∧ ∀ j, j < 9 → X j = actY (actOf X) j := by
  have u8 : ∀ j, actKs[j]? = some (some .u8) → X j = .int .u8 ((intOf (X j)).toNat : Int) ∧ (intOf (X j)).toNat ≤ 255 := fun j hj => by
    obtain ⟨e, hw⟩ := (h j _ hj).int
    have := wf_u8 hw
    exact ⟨by rw [Int.toNat_of_nonneg this.1]; exact e, by omega⟩
  have h6 : X 6 = .int .u16 ((intOf (X 6)).toNat : Int) ∧ (intOf (X 6)).toNat ≤ 65535 := by
    obtain ⟨e, hw⟩ := (h 6 (some .u16) rfl).int
    have := wf_u16 hw
    exact ⟨by rw [Int.toNat_of_nonneg this.1]; exact e, by omega⟩
  refine ⟨⟨(u8 0 rfl).2, (u8 2 rfl).2, (u8 3 rfl).2, (u8 4 rfl).2, (u8 5 rfl).2, h6.2, (u8 7 rfl).2, (u8 8 rfl).2⟩, fun j hj => ?_⟩
  rcases j with _|_|_|_|_|_|_|_|_|j
  · exact (u8 0 rfl).1
  · exact (h 1 none rfl).bool
  · exact (u8 2 rfl).1
  · exact (u8 3 rfl).1
  · exact (u8 4 rfl).1
  · exact (u8 5 rfl).1
  · exact h6.1
  · exact (u8 7 rfl).1
  · exact (u8 8 rfl).1
  · omega
section
variable {H : Type} {enc : TypeId × Value → H} {P : Program} {w : World}
theorem open_acts {t e : TypeId} {a : Option Addr} {len cap D : Nat} {d : DataW H} {ps : List MemPlace} (ht : P.underlying t = some (.slice e)) (hk : flatKb P D e = some actKs) (ce : P.cellsOf e = 9)
    (h : DataW.Trod enc P w 0 (fun _ => true) true t (.slice a len cap) d ps) : ∃ xa : Nat → ActM, (∀ i, i < len → ActOk (xa i)) ∧ Fx.Arr w a len 9 (Fx.flat 9 fun k => actY (xa k)) := by
  obtain ⟨fuel, hf⟩ := h
  obtain ⟨a', l', c', hcs, _, _, X, hX, hA⟩ := open_rows ht hk ce (by decide) hf
  simp [Value.cells] at hcs
  obtain ⟨rfl, rfl, rfl⟩ := hcs
  exact ⟨fun i => actOf (X i), fun i hi => (actOf_ok (hX i hi)).1, hA.congr (Fx.flat_cong fun k hk j hj => (actOf_ok (hX k hk)).2 j hj)⟩
end
end Go.Proofs.Ytolmkjepieoloaa
namespace Go.Proofs.Ytolmkjepieoloaa
open Go.RowKit Rt
namespace Rt
def firstS (id : Nat → Int) (n : Nat) (x : Int) : Int := firstI (fun i => decide (id i = x)) n
def iterS (id par : Nat → Int) (n : Nat) : Nat → Int → Int
  | 0, x => x
  | k + 1, x => par (firstS id n (iterS id par n k x)).toNat
def pathS (id par : Nat → Int) (n : Nat) (x : Int) : Nat := lead (fun i => decide (0 ≤ firstS id n (iterS id par n i x))) 32
def ptU (id par : Nat → Int) (n : Nat) (x : Int) : Nat → Value := fun q => .int .u64 (iterS id par n q x)
theorem path_end {id par : Nat → Int} {n k : Nat} {x : Int} (h : ∀ i, i < k → 0 ≤ firstS id n (iterS id par n i x)) (h2 : firstS id n (iterS id par n k x) < 0) (hk : k ≤ 32) : k = pathS id par n x :=
  (lead_eq (fun i hi => decide_eq_true (h i hi)) (decide_eq_false (by omega)) hk).symm
theorem path_all {id par : Nat → Int} {n : Nat} {x : Int} (h : ∀ i, i < 32 → 0 ≤ firstS id n (iterS id par n i x)) : 32 = pathS id par n x := (lead_all fun i hi => decide_eq_true (h i hi)).symm
theorem path_le {id par : Nat → Int} {n : Nat} {x : Int} : pathS id par n x ≤ 32 := lead_le _ _
end Rt
theorem q_find1 (idv parv : Int) (Rv : Nat → Int) (gx : Nat) (x : Int) (w : World) (hgx : Fx.Blk w gx 1 (fun _ => .int .u64 (x)) 27) :
    Calls Try.prog 113 #[.agg (Fx.varr 56 (ndY (idv) (parv) (Rv))), .pointer (some ⟨gx, 0, none⟩)] w fun e w' => e = .returned (.bool (decide (idv = x))) ∧ Below w.heap.size w w' := by
 have lgx := hgx.lt
 refine Fx.enter Try.func113 rfl (n := 8) rfl (by rfl) ?_
 refine Fx.W.seq (Fx.W.list (Fx.L.box (m := 56) (y := ndY (idv) (parv) (Rv)) (by rfl) rfl rfl (Fx.cells_agg _ _) rfl fun g1 w1 eg1 m1 s1 z1 => ?_))
 have m2 := hgx.stp s1 (Nat.ne_of_lt (hgx.lt))
 have b1 := s1.below (Below.refl w.heap.size w) (Below.refl w.heap.size w).size (Below.refl w.heap.size w).size
 have lg1 : w.heap.size ≤ g1 := by rw [eg1]; exact (Below.refl w.heap.size w).size
 have ng1m2 : gx ≠ g1 := by rw [eg1]; exact Nat.ne_of_lt (hgx.lt)
 have tg1 : g1 < w1.heap.size := m1.lt
 clear eg1
 refine Fx.L.v (.bool false) (Fx.x_assign rfl rfl) ?_
 refine Fx.L.nil (Fx.seqN (Fx.W.seq (Fx.W.list (Fx.L.v (.pointer (some ⟨g1, 0, none⟩)) (Fx.x_field rfl rfl Try.underlying50 rfl (s := 1) (by kernel_rfl) rfl rfl) ?_))))
 refine Fx.L.v (.int .u64 (idv)) (Fx.x_load1 (x := ndY (idv) (parv) (Rv)) rfl rfl (by kernel_rfl) m1.cel (i := 0) (by omega) (by omega) rfl) ?_
 refine Fx.L.v (.int .u64 (x)) (Fx.x_load1 (x := fun _ => .int .u64 (x)) rfl rfl (by kernel_rfl) m2.cel (i := 0) (by omega) (by omega) rfl) ?_
 by_cases c7 : idv = x
 ·refine Fx.L.v (.bool true) (Fx.x_eqlT rfl rfl rfl c7) ?_
  refine Fx.L.v (.bool true) (Fx.x_assign rfl rfl) ?_
  refine Fx.L.nil (Fx.seqN (Fx.W.ret (⟨.bool true, Fx.retV1 Try.results113 (by exact rfl), ?_⟩)))
  exact ⟨by rw [decide_eq_true c7], b1⟩
 ·refine Fx.L.v (.bool false) (Fx.x_eqlF rfl rfl rfl c7) ?_
  refine Fx.L.v (.bool false) (Fx.x_assign rfl rfl) ?_
  refine Fx.L.nil (Fx.seqN (Fx.W.ret (⟨.bool false, Fx.retV1 Try.results113 (by exact rfl), ?_⟩)))
  exact ⟨by rw [decide_eq_false c7], b1⟩
theorem q_index (a : Option Addr) (n cap : Nat) (id par : Nat → Int) (R : Nat → Nat → Int) (gx : Nat) (x : Int) (w : World) (hnd : Fx.Arr w a n 56 (Fx.flat 56 fun k => ndY (id k) (par k) (R k))) (hgx : Fx.Blk w gx 1 (fun _ => .int .u64 (x)) 27) (hn : n ≤ 1000000) :
    Calls Try.prog 112 #[.slice a (n) (cap), .func (.func 113) #[] #[.pointer (some ⟨gx, 0, none⟩)]] w fun e w' => e = .returned (.int .i64 (firstS id n x)) ∧ Below w.heap.size w w' := by
 have lgx := hgx.lt
 refine Fx.enter Try.func112 rfl (n := 19) rfl (by rfl) ?_
 refine Fx.W.seq (Fx.W.list (Fx.L.v (.int .i64 (0)) (Fx.x_assign rfl rfl) ?_))
 refine Fx.L.nil (Fx.seqN (Fx.W.seq (Fx.W.seq (Fx.W.list (Fx.L.v (.slice a (n) (cap)) (Fx.x_move rfl rfl) ?_)))))
 refine Fx.L.v (.int .i64 ((n : Int))) (Fx.x_len rfl rfl rfl (by kernel_rfl)) ?_
 refine Fx.L.v (.int .i64 (0)) (Fx.x_move rfl rfl) ?_
 refine Fx.L.nil (Fx.seqN (Fx.W.block (Fx.W.loop (fun f w_ => ∃ k : Nat, k ≤ n ∧ (∀ i, i < k → (fun i => decide (id i = x)) i = false) ∧ f 0 = .slice a (n) (cap) ∧ f 1 = .func (.func 113) #[] #[.pointer (some ⟨gx, 0, none⟩)] ∧ f 7 = .int .i64 ((n : Int)) ∧ f 8 = .int .i64 ((k : Int)) ∧ Fx.Blk w_ gx 1 (fun _ => .int .u64 (x)) 27 ∧ Below w.heap.size w w_) (fun f _ => (n - (intOf (f 8)).toNat)) ⟨0, by omega, (fun i h => absurd h (by omega)), (by rfl), (by rfl), (by first | rfl | exact congrArg (Value.int .i64) (by omega)), (by first | rfl | exact congrArg (Value.int .i64) (by omega)), hgx, (Below.refl w.heap.size w)⟩ ?_)))
 rintro f1 w1 ⟨k, hk, hall, h1, h2, h3, h4, m1, b1⟩
 refine Fx.W.seq (Fx.W.list ?_)
 by_cases c9 : (k : Int) < (n : Int)
 ·refine Fx.L.v (.bool true) (Fx.x_lssT rfl h4 h3 c9) ?_
  refine Fx.L.nil (Fx.seqN (Fx.W.seq (Fx.W.cond (b := true) rfl (fun _ => Fx.W.skip (Fx.seqN (Fx.W.seq (Fx.W.block (Fx.W.seq (Fx.W.list (Fx.L.v (.int .i64 ((k : Int))) (Fx.x_move rfl h4) ?_))))))) (fun h => nomatch h))))
  refine Fx.L.v (.int .i64 ((k : Int))) (Fx.x_assign rfl rfl) ?_
  refine Fx.L.nil (Fx.seqN (Fx.W.seq (Fx.W.list (Fx.L.v (.func (.func 113) #[] #[.pointer (some ⟨gx, 0, none⟩)]) (Fx.x_move rfl h2) ?_))))
  refine Fx.L.v (.slice a (n) (cap)) (Fx.x_move rfl h1) ?_
  refine Fx.L.v (.int .i64 ((k : Int))) (Fx.x_move rfl rfl) ?_
  obtain ⟨bq1, oq1, eq1, m2⟩ := (hnd.up b1 rfl) (by omega)
  have lbq1 : bq1 < w1.heap.size := m2.lt (by omega)
  refine Fx.L.v (.pointer (some ⟨bq1, 56 * k + oq1, none⟩)) (Fx.x_indexS rfl (rfl.trans (congrArg (fun q => Value.slice q (n) (cap)) eq1)) rfl Try.underlying40 (s := 56) (by kernel_rfl) (by omega) (by omega) (by omega)) ?_
  refine Fx.L.v (.agg (Fx.varr 56 (ndY (id k) (par k) (R k)))) (Fx.x_loadA (x := Fx.flat 56 (fun kq => ndY (id kq) (par kq) (R kq))) (y := ndY (id k) (par k) (R k)) rfl rfl (by kernel_rfl) (by kernel_rfl) m2 (i := 56 * k) (by omega) (by omega) (fun jq hjq => Fx.flat_at (k := k) (by omega) hjq)) ?_
  by_cases c16 : (decide (id k = x)) = true
  ·refine Fx.L.call (by rfl) (Fx.r_clo (args := [.agg (Fx.varr 56 (ndY (id k) (par k) (R k)))]) rfl rfl rfl (all := #[.agg (Fx.varr 56 (ndY (id k) (par k) (R k))), .pointer (some ⟨gx, 0, none⟩)]) rfl Try.func113 rfl rfl) rfl ((q_find1 (id k) (par k) (R k) gx x _ m1).mono ?_)
   rintro e w2 ⟨he, hb1⟩
   refine ⟨.bool true, by rw [he, c16], ?_⟩
   clear he
   have s1 := Fx.Stp.of_below hb1
   have m3 := m1.stp s1 (Nat.ne_of_lt (m1.lt))
   have m4 := m2.stp s1 (Nat.ne_of_lt (m2.lt (by omega)))
   have b2 := s1.below b1 b1.size b1.size
   refine Fx.L.nil (Fx.seqN (Fx.W.cond (b := true) rfl (fun _ => Fx.W.seq (Fx.W.list (Fx.L.v (.int .i64 ((k : Int))) (Fx.x_move rfl rfl) ?_))) (fun h => nomatch h)))
   refine Fx.L.v (.int .i64 ((k : Int))) (Fx.x_assign rfl rfl) ?_
   refine Fx.L.nil (Fx.seqN (Fx.W.ret (Fx.blkR (Fx.seqR (Fx.lpR (Fx.blkR (Fx.seqR (⟨.int .i64 ((k : Int)), Fx.retV1 Try.results112 (by exact rfl), ?_⟩))))))))
   exact ⟨congrArg (fun q => Ending.returned (Value.int .i64 q)) (Eq.symm (firstI_hit hall c16 (by omega))), b2⟩
  ·rw [Bool.not_eq_true] at c16
   refine Fx.L.call (by rfl) (Fx.r_clo (args := [.agg (Fx.varr 56 (ndY (id k) (par k) (R k)))]) rfl rfl rfl (all := #[.agg (Fx.varr 56 (ndY (id k) (par k) (R k))), .pointer (some ⟨gx, 0, none⟩)]) rfl Try.func113 rfl rfl) rfl ((q_find1 (id k) (par k) (R k) gx x _ m1).mono ?_)
   rintro e w3 ⟨he, hb2⟩
   refine ⟨.bool false, by rw [he, c16], ?_⟩
   clear he
   have s2 := Fx.Stp.of_below hb2
   have m5 := m1.stp s2 (Nat.ne_of_lt (m1.lt))
   have m6 := m2.stp s2 (Nat.ne_of_lt (m2.lt (by omega)))
   have b3 := s2.below b1 b1.size b1.size
   refine Fx.L.nil (Fx.seqN (Fx.W.cond (b := false) rfl (fun h => nomatch h) (fun _ => Fx.W.skip (Fx.blkN (Fx.seqN (Fx.W.list (Fx.L.v (.int .i64 ((k : Int) + 1)) (Fx.x_add rfl h4 rfl (Fx.i64e (by omega) (by omega))) ?_)))))))
   refine Fx.L.v (.int .i64 ((k : Int) + 1)) (Fx.x_move rfl rfl) ?_
   refine Fx.L.nil (Fx.lpN ⟨k + 1, by omega, (none_step hall c16), h1, h2, (h3.trans (by first | rfl | exact congrArg (Value.int .i64) (by omega))), (by first | rfl | exact congrArg (Value.int .i64) (by omega)), m5, b3⟩ ?_)
   show (n - (intOf ((.int .i64 ((k : Int) + 1)))).toNat) < _
   simp only [h4, intOf]; omega
 ·refine Fx.L.v (.bool false) (Fx.x_lssF rfl h4 h3 c9) ?_
  refine Fx.L.nil (Fx.seqN (Fx.W.seq (Fx.W.cond (b := false) rfl (fun h => nomatch h) (fun _ => Fx.W.exit (Fx.seqX (Fx.lpX (Fx.blkX (Fx.seqN (Fx.W.seq (Fx.W.list (Fx.L.v (.int .i64 (-1)) (Fx.x_assign rfl rfl) ?_)))))))))))
  refine Fx.L.nil (Fx.seqN (Fx.W.ret (⟨.int .i64 (-1), Fx.retV1 Try.results112 (by exact rfl), ?_⟩)))
  exact ⟨congrArg (fun q => Ending.returned (Value.int .i64 q)) (Eq.symm (firstI_none (fun i hi => hall i (by omega)))), b1⟩
theorem q_find (s : StM) (id par : Nat → Int) (R : Nat → Nat → Int) (x : Int) (w : World) (hnd : Fx.Arr w s.na s.nn 56 (Fx.flat 56 fun k => ndY (id k) (par k) (R k))) (hnn : s.nn ≤ 1000000) :
    Calls Try.prog 77 #[.agg (Fx.varr 20 (stY s)), .int .u64 (x)] w fun e w' => e = .returned (.int .i64 (firstS id s.nn x)) ∧ Below w.heap.size w w' := by
 refine Fx.enter Try.func77 rfl (n := 9) rfl (by rfl) ?_
 refine Fx.W.seq (Fx.W.list (Fx.L.box (m := 20) (y := stY s) (by rfl) rfl rfl (Fx.cells_agg _ _) rfl fun g1 w1 eg1 m1 s1 z1 => ?_))
 have b1 := s1.below (Below.refl w.heap.size w) (Below.refl w.heap.size w).size (Below.refl w.heap.size w).size
 have lg1 : w.heap.size ≤ g1 := by rw [eg1]; exact (Below.refl w.heap.size w).size
 have tg1 : g1 < w1.heap.size := m1.lt
 clear eg1
 refine Fx.L.box (m := 1) (y := fun _ => .int .u64 (x)) (by rfl) rfl rfl (Fx.cells_one (by rfl)) rfl fun g2 w2 eg2 m2 s2 z2 => ?_
 have m3 := m1.stp s2 (Nat.ne_of_lt (m1.lt))
 have b2 := s2.below b1 b1.size b1.size
 have lg2 : w.heap.size ≤ g2 := by rw [eg2]; exact b1.size
 have ng2m3 : g1 ≠ g2 := by rw [eg2]; exact Nat.ne_of_lt (m1.lt)
 have tg2 : g2 < w2.heap.size := m2.lt
 clear eg2
 refine Fx.L.v (.int .i64 (0)) (Fx.x_assign rfl rfl) ?_
 refine Fx.L.nil (Fx.seqN (Fx.W.seq (Fx.W.list (Fx.L.v (.pointer (some ⟨g1, 18, none⟩)) (Fx.x_field rfl rfl Try.underlying43 rfl (s := 1) (by kernel_rfl) rfl (by show _ + 18 = _; omega)) ?_))))
 refine Fx.L.v (.slice s.na (s.nn) (s.nc)) (Fx.x_load1 (x := stY s) rfl rfl (by kernel_rfl) m3.cel (i := 18) (by omega) (by omega) rfl) ?_
 refine Fx.L.v (.func (.func 113) #[] #[.pointer (some ⟨g2, 0, none⟩)]) (Fx.x_func (us := []) (vs := [.pointer (some ⟨g2, 0, none⟩)]) rfl rfl rfl) ?_
 refine Fx.L.call (by rfl) (Fx.r_call (args := [.slice s.na (s.nn) (s.nc), .func (.func 113) #[] #[.pointer (some ⟨g2, 0, none⟩)]]) rfl rfl Try.func112 rfl rfl) rfl ((q_index s.na s.nn s.nc id par R g2 x _ (hnd.up b2 rfl) m2 hnn).mono ?_)
 rintro e w3 ⟨he, hb1⟩
 refine ⟨.int .i64 (firstS id s.nn x), by rw [he], ?_⟩
 clear he
 have s3 := Fx.Stp.of_below hb1
 have m4 := m3.stp s3 (Nat.ne_of_lt (m3.lt))
 have m5 := m2.stp s3 (Nat.ne_of_lt (m2.lt))
 have b3 := s3.below b2 b2.size b2.size
 refine Fx.L.v (.int .i64 (firstS id s.nn x)) (Fx.x_assign rfl rfl) ?_
 refine Fx.L.nil (Fx.seqN (Fx.W.ret (⟨.int .i64 (firstS id s.nn x), Fx.retV1 Try.results77 (by exact rfl), ?_⟩)))
 exact ⟨rfl, b3⟩
end Go.Proofs.Ytolmkjepieoloaa
