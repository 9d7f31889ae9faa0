/-
  What the proof of the law rests on, part 4: walks of functions, and plain laws; each says its conditions itself.
-/
import Derived.Deep.Slices
import Derived.Lib.SmallJoins
import Derived.Test.YtolmkjepieoloaaZF3
namespace Go.Proofs.Ytolmkjepieoloaa
open Go.RowKit Rt
open Fx (x_move x_assign x_field x_load1 x_pickF x_pickT x_nil x_conv x_indexS x_index x_leqF x_loadA x_len x_gtrF x_build x_eqlF x_eqlT)
namespace Rt
def raiseE (L : LdC) (v : EvM) : Int := if L.node v.node < 0 then 9 else if 140737488355328 < L.R (L.node v.node).toNat (regN v) + v.amt then 6 else 0
def raiseC (L : LdC) (v : EvM) : LdC := { L with R := updA L.R (L.node v.node).toNat (upd (L.R (L.node v.node).toNat) (regN v) (L.R (L.node v.node).toNat (regN v) + v.amt)) }
def moveW (L : LdC) (v : EvM) : (Nat → Int) × Int := moveM (L.R (L.node v.node).toNat) v.o v.dst v.amt
def movesE (L : LdC) (v : EvM) : Int := if L.node v.node < 0 then 9 else if v.dst < 1 ∨ 6 < v.dst ∨ L.inn (v.dst - 1).toNat = false then 10 else (moveW L v).2
def movesC (L : LdC) (v : EvM) : LdC := { L with R := updA L.R (L.node v.node).toNat (moveW L v).1 }
noncomputable def doesE (L : LdC) (v : EvM) : Int :=
  if v.kind = 1 then makesE L v else if v.kind = 2 then raiseE L v else if v.kind = 3 then takesE L v else if v.kind = 4 then freesE L v else if v.kind = 5 then movesE L v else 0
def doesC (L : LdC) (v : EvM) : LdC :=
  if v.kind = 1 then makesC L v else if v.kind = 2 then raiseC L v else if v.kind = 3 then takesC L v else if v.kind = 4 then freesC L v else if v.kind = 5 then movesC L v
  else if v.kind = 6 then { L with inn := updA L.inn (v.dst - 1).toNat true } else { L with left := updA L.left (regN v) true }
theorem ndR1_store {n q a : Nat} {id par : Nat → Int} {R : Nat → Nat → Int} {x : Int} : ∀ i, i < n → ∀ j, j < 56 → Fx.updF (fun kq => ndY (id kq) (par kq) (R kq)) q (Fx.updV (ndY (id q) (par q) (R q)) (a + 2) (.int .i64 x)) i j = ndY (id i) (par i) (updA R q (upd (R q) a x) i) j := fun i _ j _ => by
  unfold Fx.updF
  by_cases h : i = q
  · subst h; rw [if_pos rfl, ndY_upd rfl]; unfold updA; rw [if_pos rfl]
  · rw [if_neg h]; unfold updA; rw [if_neg h]
theorem ldY_inn (m : LdM) {i : Nat} (hi : i < 6) : Fx.updV (ldY m) i (.bool true) = ldY { m with s := { m.s with inn := updA m.s.inn i true } } := by
  funext p
  unfold Fx.updV ldY
  by_cases h : p = i
  · subst h; rw [if_pos rfl, if_pos (by omega)]; unfold stY; rw [if_pos hi]; simp [updA]
  · rw [if_neg h]
    by_cases h2 : p < 20
    · rw [if_pos h2, if_pos h2]; unfold stY
      by_cases h3 : p < 6
      · rw [if_pos h3, if_pos h3]; simp [updA, h]
      · rw [if_neg h3, if_neg h3]
    · rw [if_neg h2, if_neg h2]
theorem ldY_left (m : LdM) {i q : Nat} (hi : i < 6) (hq : q = i + 6) : Fx.updV (ldY m) q (.bool true) = ldY { m with s := { m.s with left := updA m.s.left i true } } := by
  subst hq
  funext p
  unfold Fx.updV ldY
  by_cases h : p = i + 6
  · subst h; rw [if_pos rfl, if_pos (by omega)]; unfold stY; rw [if_neg (by omega), if_pos (by omega)]; simp [updA]
  · rw [if_neg h]
    by_cases h2 : p < 20
    · rw [if_pos h2, if_pos h2]; unfold stY
      by_cases h3 : p < 6
      · rw [if_pos h3, if_pos h3]
      · rw [if_neg h3, if_neg h3]
        by_cases h4 : p < 12
        · rw [if_pos h4, if_pos h4]; simp [updA, show ¬ p - 6 = i by omega]
        · rw [if_neg h4, if_neg h4]
    · rw [if_neg h2, if_neg h2]
theorem ldY_known (m : LdM) {i q : Nat} (hi : i < 6) (hq : q = i + 12) (x : Int) : Fx.updV (ldY m) q (.int .u64 x) = ldY { m with s := { m.s with known := updA m.s.known i x } } := by
  subst hq
  funext p
  unfold Fx.updV ldY
  by_cases h : p = i + 12
  · subst h; rw [if_pos rfl, if_pos (by omega)]; unfold stY; rw [if_neg (by omega), if_neg (by omega), if_pos (by omega)]; simp [updA]
  · rw [if_neg h]
    by_cases h2 : p < 20
    · rw [if_pos h2, if_pos h2]; unfold stY
      by_cases h3 : p < 6
      · rw [if_pos h3, if_pos h3]
      · rw [if_neg h3, if_neg h3]
        by_cases h4 : p < 12
        · rw [if_pos h4, if_pos h4]
        · rw [if_neg h4, if_neg h4]
          by_cases h5 : p < 18
          · rw [if_pos h5, if_pos h5]; simp [updA, show ¬ p - 12 = i by omega]
          · rw [if_neg h5, if_neg h5]
    · rw [if_neg h2, if_neg h2]
theorem fields_kind {v : EvM} (h : mayE v = true) : 1 ≤ v.kind ∧ v.kind ≤ 7 := by
  unfold mayE at h
  simp only [Bool.and_eq_true] at h
  have hf := h.2
  unfold fieldsE at hf
  split at hf; · omega
  split at hf; · omega
  split at hf; · omega
  split at hf; · omega
  split at hf; · omega
  split at hf; · omega
  have := of_decide_eq_true hf; omega
theorem fields_amt {v : EvM} (h : mayE v = true) (hk : v.kind = 2 ∨ v.kind = 3 ∨ v.kind = 5) : 1 ≤ v.amt ∧ v.amt ≤ 1125899906842624 := by
  unfold mayE at h
  simp only [Bool.and_eq_true] at h
  have hf := h.2
  unfold fieldsE at hf
  rw [if_neg (by omega)] at hf
  have key : someE v = true → 1 ≤ v.amt ∧ v.amt ≤ 1125899906842624 := fun h => by unfold someE at h; simpa using h
  split at hf; · exact key hf
  split at hf; · rw [Bool.and_eq_true] at hf; exact key hf.1
  rw [if_neg (by omega)] at hf
  split at hf; · rw [Bool.and_eq_true] at hf; exact key hf.1
  omega
theorem fields_to {v : EvM} (h : mayE v = true) (hk : v.kind = 6) : ∃ b : Nat, b < 6 ∧ v.dst = (b : Int) + 1 := by
  unfold mayE at h
  simp only [Bool.and_eq_true] at h
  have hf := h.2
  unfold fieldsE at hf
  rw [if_neg (by omega), if_neg (by omega), if_neg (by omega), if_neg (by omega), if_neg (by omega), if_pos hk] at hf
  unfold otherE at hf
  rw [Bool.and_eq_true] at hf
  exact regE_nat hf.1
end Rt
set_option maxRecDepth 20000 in
set_option maxHeartbeats 2000000 in
theorem l_does (m : LdM) (B p a : Nat) (v : EvM) (w : World) (hL : LdO w B p m) (hB : B ≤ w.heap.size) (ha : a < 6) (ho : v.o = (a : Int) + 1) (bnn : m.s.nn ≤ 900) (bgg : m.s.gn ≤ 900000) (brr : ∀ i, i < 6 → m.rn i ≤ 900000) (hTN : ∀ x, m.node x = findT m.t m.tn x) (hDx : ∀ x, ∃ D, D ≤ 1000 ∧ findT m.t m.tn (iterT m.t m.tn D x) < 0) (hv : EvWf v) (hmay : mayE v = true) (hR : ∀ k, k < m.s.nn → may (m.R k) = true) :
    Calls Try.prog 104 #[.pointer (some ⟨p, 0, none⟩), .agg (Fx.varr 14 (evY v))] w fun e w' => e = .returned (.int .i64 (doesE m.core v)) ∧ Below B w w' ∧ (doesE m.core v = 0 → ∃ m', m'.core = doesC m.core v ∧ LdO w' B p m') := by
 have hLp := hL.pB
 have hLtb := hL.tB
 have bn := hL.bn
 have bg := hL.bg
 have bt := hL.bt
 have lpp : p < w.heap.size := hL.c.lt
 have ltb : m.tb < w.heap.size := hL.tc.lt
 have hvk := hv.kind
 have hvt := hv.dst
 have hkr := fields_kind hmay
 obtain ⟨D, hD2, hD⟩ := hDx v.node
 refine Fx.enter Try.func104 rfl (n := 152) rfl (by rfl) ?_
 refine Fx.W.seq (Fx.W.list (Fx.L.box (m := 14) (y := evY v) (by rfl) rfl rfl (Fx.cells_agg _ _) rfl fun g1 w1 eg1 m1 s1 z1 => ?_))
 have m2 := hL.up s1.old
 have b1 := s1.below (Below.refl B w) (Nat.le_trans hB (Below.refl B w).size) (Nat.le_trans hB (Below.refl B w).size)
 have lg1 : w.heap.size ≤ g1 := by rw [eg1]; exact (Below.refl B w).size
 have tg1 : g1 < w1.heap.size := m1.lt
 clear eg1
 refine Fx.L.v (.int .i64 (0)) (x_assign rfl rfl) (Fx.L.nil (Fx.seqN (Fx.W.seq (Fx.W.seq (Fx.W.list (Fx.L.v (.pointer (some ⟨g1, 8, none⟩)) (x_field rfl rfl Try.underlying54 rfl (s := 1) (by kernel_rfl) rfl (by show _ + 8 = _; omega)) (Fx.L.v (.int .u8 (v.kind)) (x_load1 (x := evY v) rfl rfl (by kernel_rfl) m1.cel (i := 8) (by omega) (by omega) rfl) (Fx.L.nil (Fx.seqN (Fx.W.block (Fx.W.seq (Fx.W.list ?_))))))))))))
 by_cases c12 : v.kind = 1
 ·refine Fx.L.v (.bool true) (x_eqlT rfl rfl rfl c12) (Fx.L.v (.bool true) (x_assign rfl rfl) (Fx.L.nil (Fx.seqN (Fx.W.cond (b := true) rfl (fun _ => Fx.W.seq (Fx.W.list (Fx.L.v (.pointer (some ⟨p, 0, none⟩)) (x_move rfl rfl) ?_))) (fun h => nomatch h)))))
  refine Fx.L.v (.agg (Fx.varr 14 (evY v))) (x_loadA (x := evY v) (y := evY v) rfl rfl (by kernel_rfl) (by kernel_rfl) m1.cel (i := 0) (by omega) (by omega) (fun j _ => by rw [Nat.zero_add])) (Fx.L.call (by rfl) (Fx.r_call (args := [.pointer (some ⟨p, 0, none⟩), .agg (Fx.varr 14 (evY v))]) rfl rfl Try.func120 rfl rfl) rfl ((l_makes m B p a D v _ m2 (Nat.le_trans hB b1.size) ha ho bnn hD hD2).mono ?_))
  rintro e w2 ⟨he, hb1, hr1⟩
  refine ⟨.int .i64 (makesE m.core v), he, ?_⟩
  clear he
  have b2 : Below B w w2 := b1.trans hb1
  refine Fx.L.v (.int .i64 (makesE m.core v)) (x_assign rfl rfl) (Fx.L.nil (Fx.seqN (Fx.W.ret (Fx.blkR (Fx.seqR (⟨.int .i64 (makesE m.core v), Fx.retV1 Try.results104 (by exact rfl), ?_⟩))))))
  have ee : doesE m.core v = makesE m.core v := by unfold doesE; rw [if_pos c12]
  have ec : doesC m.core v = makesC m.core v := by unfold doesC; rw [if_pos c12]
  exact ⟨congrArg (fun q => Ending.returned (Value.int .i64 q)) ee.symm, b2, fun h0 => by rw [ec]; exact hr1 (ee.symm.trans h0)⟩
 ·refine Fx.L.v (.bool false) (x_eqlF rfl rfl rfl c12) (Fx.L.v (.bool false) (x_assign rfl rfl) (Fx.L.nil (Fx.seqN (Fx.W.cond (b := false) rfl (fun h => nomatch h) (fun _ => Fx.W.seq (Fx.W.list ?_))))))
  by_cases c17 : v.kind = 2
  ·refine Fx.L.v (.bool true) (x_eqlT rfl rfl rfl c17) (Fx.L.v (.bool true) (x_assign rfl rfl) (Fx.L.nil (Fx.seqN (Fx.W.cond (b := true) rfl (fun _ => Fx.W.seq ?_) (fun h => nomatch h)))))
   have hLc := m2.c
   have hLn := m2.n
   have hLg := m2.g
   have hLt := m2.tc
   have hLtr := m2.t
   have hLr := m2.r
   refine Fx.W.list (Fx.L.v (.pointer (some ⟨p, 0, none⟩)) (x_move rfl rfl) (Fx.L.v (.pointer (some ⟨g1, 9, none⟩)) (x_field rfl rfl Try.underlying54 rfl (s := 1) (by kernel_rfl) rfl (by show _ + 9 = _; omega)) (Fx.L.v (.int .u64 (v.node)) (x_load1 (x := evY v) rfl rfl (by kernel_rfl) m1.cel (i := 9) (by omega) (by omega) rfl) ?_)))
   have hld1 : Ldg w1 p m := { c := hLc.cel, an := hLn.arr, ag := hLg.arr, tc := hLt.cel, at2 := hLtr.arr, ar := fun i hi => (hLr.1 i hi).arr, bn := (by show m.s.nn ≤ 1000000; omega), bg := bg, bt := (by show m.tn ≤ 1000000; omega), br := hL.br }
   refine Fx.L.call (by rfl) (Fx.r_call (args := [.pointer (some ⟨p, 0, none⟩), .int .u64 (v.node)]) rfl rfl Try.func121 rfl rfl) rfl ((l_node m p v.node _ hld1).mono ?_)
   rintro e w3 ⟨he, hb2⟩
   refine ⟨.int .i64 (m.node v.node), by rw [he], ?_⟩
   clear he
   have s2 := Fx.Stp.of_below hb2
   have m3 := m1.stp s2 (Nat.ne_of_lt (m1.lt))
   have m4 := hLc.stp s2 (Nat.ne_of_lt (hLc.lt))
   have m5 := hLn.stp s2 (hLn.notNew (Nat.le_refl _))
   have m6 := hLg.stp s2 (hLg.notNew (Nat.le_refl _))
   have m7 := hLt.stp s2 (Nat.ne_of_lt (hLt.lt))
   have m8 := hLtr.stp s2 (hLtr.notNew (Nat.le_refl _))
   have m9 := hLr.up s2.old
   have b3 := s2.below b1 (Nat.le_trans hB b1.size) (Nat.le_trans hB b1.size)
   refine Fx.L.v (.int .i64 (m.node v.node)) (x_assign rfl rfl) (Fx.L.nil (Fx.seqN (Fx.W.seq (Fx.W.seq (Fx.W.list (Fx.L.v (.int .i64 (m.node v.node)) (x_move rfl rfl) ?_))))))
   by_cases c23 : (m.node v.node) < 0
   ·refine Fx.L.v (.bool true) (Fx.x_lssT rfl rfl rfl c23) (Fx.L.nil (Fx.seqN (Fx.W.cond (b := true) rfl (fun _ => Fx.W.seq (Fx.W.list (Fx.L.v (.int .i64 (9)) (x_assign rfl rfl) ?_))) (fun h => nomatch h))))
    refine Fx.L.nil (Fx.seqN (Fx.W.ret (Fx.seqR (Fx.blkR (Fx.seqR (⟨.int .i64 (9), Fx.retV1 Try.results104 (by exact rfl), ?_⟩))))))
    have eN : regN v = a := by unfold regN; omega
    have ee : doesE m.core v = 9 := by unfold doesE; rw [if_neg c12, if_pos c17]; unfold raiseE; exact if_pos c23
    exact ⟨congrArg (fun q => Ending.returned (Value.int .i64 q)) ee.symm, b3, fun h0 => by rw [ee] at h0; cases h0⟩
   ·obtain ⟨kn, hkq, ekq, _⟩ := node_at (m := m) (x := v.node) (by omega)
    have ekq : m.node v.node = (kn : Int) := ekq
    have ekN : (m.core.node v.node).toNat = kn := by show (m.node v.node).toNat = kn; rw [ekq]; rfl
    refine Fx.L.v (.bool false) (Fx.x_lssF rfl rfl rfl c23) (Fx.L.nil (Fx.seqN (Fx.W.cond (b := false) rfl (fun h => nomatch h) (fun _ => Fx.W.skip (Fx.seqN (Fx.W.seq (Fx.W.seq ?_)))))))
    have hRb := may_ent (hR kn hkq) a (by omega)
    have hab := fields_amt hmay (.inl c17)
    -- region 8 draws
    refine Fx.W.quiet (fun v1 => ∃ q, v1 = World.drewN w3 q) (by kernel_rfl) (by kernel_rfl) ⟨1, rfl⟩ ?_
    refine Fx.Qt.v (.pointer (some ⟨p, 0, none⟩)) (fun v1 hv1 => x_move rfl rfl) (Fx.Qt.v (.pointer (some ⟨p, 0, none⟩)) (fun v1 hv1 => x_nil rfl rfl) (Fx.Qt.v (.pointer (some ⟨p, 0, none⟩)) (fun v1 hv1 => x_field rfl rfl Try.underlying71 rfl (s := 20) (by kernel_rfl) rfl rfl) (Fx.Qt.v (.pointer (some ⟨p, 18, none⟩)) (fun v1 hv1 => x_field rfl rfl Try.underlying43 rfl (s := 1) (by kernel_rfl) rfl (by show _ + 18 = _; omega)) (Fx.Qt.v (.slice m.s.na (m.s.nn) (m.s.nc)) (fun v1 hv1 => x_load1 (x := ldY m) rfl rfl (by kernel_rfl) (by obtain ⟨qd, rfl⟩ := hv1; exact m4.cel) (i := 18) (by omega) (by omega) rfl) (Fx.Qt.v (.int .i64 ((kn : Int))) (fun v1 hv1 => x_move rfl (congrArg (Value.int .i64) ekq)) (Fx.Qt.v (.pointer (some ⟨g1, 0, none⟩)) (fun v1 hv1 => x_field rfl rfl Try.underlying54 rfl (s := 1) (by kernel_rfl) rfl rfl) (Fx.Qt.v (.int .i64 (v.o)) (fun v1 hv1 => x_load1 (x := evY v) rfl rfl (by kernel_rfl) (by obtain ⟨qd, rfl⟩ := hv1; exact m3.cel) (i := 0) (by omega) (by omega) rfl) (Fx.Qt.v (.int .i64 ((a : Int))) (fun v1 hv1 => Fx.x_sub rfl rfl rfl (Fx.i64e (by omega) (by omega))) ?_))))))))
    obtain ⟨gq1, eq1⟩ := m5.addr (by omega)
    have m10 : Fx.Own w3 B 50 56 (.slice (some ⟨gq1, 0, none⟩) m.s.nn m.s.nc) m.s.nn (ndX m) := m5.congV (congrArg (fun q => Value.slice q m.s.nn m.s.nc) eq1)
    refine Fx.Qt.v (.pointer (some ⟨gq1, 56 * kn, none⟩)) (fun v1 hv1 => x_indexS rfl (rfl.trans (congrArg (fun q => Value.slice q (m.s.nn) (m.s.nc)) eq1)) rfl Try.underlying40 (s := 56) (by kernel_rfl) (by omega) (by omega) (by omega)) (Fx.Qt.v (.pointer (some ⟨gq1, 56 * kn + 2, none⟩)) (fun v1 hv1 => x_field rfl rfl Try.underlying50 rfl (s := 54) (by kernel_rfl) rfl (by show _ + 2 = _; omega)) (Fx.Qt.v (.pointer (some ⟨gq1, 56 * kn + 2, none⟩)) (fun v1 hv1 => x_field rfl rfl Try.underlying48 rfl (s := 6) (by kernel_rfl) rfl rfl) (Fx.Qt.v (.pointer (some ⟨gq1, a + 56 * kn + 2, none⟩)) (fun v1 hv1 => x_index rfl rfl rfl Try.underlying45 (s := 1) (by kernel_rfl) (by omega) (by omega) (by omega)) (Fx.Qt.v (.int .i64 ((m.R kn) a)) (fun v1 hv1 => x_load1 (x := ndX m) rfl rfl (by kernel_rfl) (by obtain ⟨qd, rfl⟩ := hv1; exact m10.cel) (i := a + 56 * kn + 2) (by omega) (by omega) (Fx.flat_cell (k := kn) (j := a + 2) (by omega) (by omega) (ndY_at _ _ _ (by omega)))) (Fx.Qt.v (.pointer (some ⟨g1, 11, none⟩)) (fun v1 hv1 => x_field rfl rfl Try.underlying54 rfl (s := 1) (by kernel_rfl) rfl (by show _ + 11 = _; omega)) (Fx.Qt.v (.int .i64 (v.amt)) (fun v1 hv1 => x_load1 (x := evY v) rfl rfl (by kernel_rfl) (by obtain ⟨qd, rfl⟩ := hv1; exact m3.cel) (i := 11) (by omega) (by omega) rfl) (Fx.Qt.v (.int .i64 (((m.R kn) a) + v.amt)) (fun v1 hv1 => Fx.x_add rfl rfl rfl (Fx.i64e (by omega) (by omega))) ?_)))))))
    by_cases c41 : 140737488355328 < (((m.R kn) a) + v.amt)
    ·refine Fx.Qt.v (.bool true) (fun v1 hv1 => Fx.x_gtrT rfl rfl rfl c41) (Fx.Qt.nil ?_)
     rintro _ ⟨qd, rfl⟩
     obtain ⟨wq1, ewq1⟩ : ∃ v1, v1 = World.drewN w3 qd := ⟨_, rfl⟩
     rw [← ewq1]
     have s3 : Fx.Stp w3.heap.size w3 wq1 := by rw [ewq1]; exact Fx.Stp.of_below (bdrN w3 qd)
     have b4 := s3.below b3 (Nat.le_trans hB b3.size) (Nat.le_trans hB b3.size)
     clear ewq1
     refine Fx.seqN (Fx.W.cond (b := true) rfl (fun _ => Fx.W.seq (Fx.W.list (Fx.L.v (.int .i64 (6)) (x_assign rfl rfl) ?_))) (fun h => nomatch h))
     refine Fx.L.nil (Fx.seqN (Fx.W.ret (Fx.seqR (Fx.blkR (Fx.seqR (⟨.int .i64 (6), Fx.retV1 Try.results104 (by exact rfl), ?_⟩))))))
     have eN : regN v = a := by unfold regN; omega
     have ee : doesE m.core v = 6 := by unfold doesE; rw [if_neg c12, if_pos c17]; unfold raiseE; rw [ekN, eN, if_neg (show ¬ m.core.node v.node < 0 from c23)]; exact if_pos c41
     exact ⟨congrArg (fun q => Ending.returned (Value.int .i64 q)) ee.symm, b4, fun h0 => by rw [ee] at h0; cases h0⟩
    ·refine Fx.Qt.v (.bool false) (fun v1 hv1 => x_gtrF rfl rfl rfl c41) (Fx.Qt.nil ?_)
     rintro _ ⟨qd, rfl⟩
     obtain ⟨wq2, ewq2⟩ : ∃ v1, v1 = World.drewN w3 qd := ⟨_, rfl⟩
     rw [← ewq2]
     have s4 : Fx.Stp w3.heap.size w3 wq2 := by rw [ewq2]; exact Fx.Stp.of_below (bdrN w3 qd)
     have m18 := m3.stp s4 (Nat.ne_of_lt (m3.lt))
     have m19 := m4.stp s4 (Nat.ne_of_lt (m4.lt))
     have m20 := m6.stp s4 (m6.notNew (Nat.le_refl _))
     have m21 := m7.stp s4 (Nat.ne_of_lt (m7.lt))
     have m22 := m8.stp s4 (m8.notNew (Nat.le_refl _))
     have m23 := m9.up s4.old
     have m24 := m10.stpB s4 (Nat.ne_of_lt (m10.lt))
     have b5 := s4.below b3 (Nat.le_trans hB b3.size) (Nat.le_trans hB b3.size)
     clear ewq2
     refine Fx.seqN (Fx.W.cond (b := false) rfl (fun h => nomatch h) (fun _ => Fx.W.skip (Fx.seqN ?_)))
     -- region 10 draws
     refine Fx.W.reord [0, 1, 2, 3, 5, 6, 14, 4, 9, 10, 11, 17, 18, 19, 7, 8, 12, 13, 15, 16, 20, 21] [0, 0, 0, 0, 4, 0, 0, 4, 0, 0, 0, 0, 0, 4, 0, 4, 0, 0, 0, 0, 0, 3] Fx.Mk Fx.Mk.refl Fx.Mk.trans (certs := [(21, 4, [4]), (21, 7, [7]), (21, 13, [13]), (21, 15, [15])]) (by kernel_rfl) (by kernel_rfl) (by kernel_rfl) (by kernel_rfl) (by kernel_rfl) fun wt1 hbwt1 hzwt1 => ?_
     have s5 : Fx.Stp wq2.heap.size wq2 wt1 := Fx.Stp.of_below hbwt1
     have m25 := m18.stp s5 (Nat.ne_of_lt (m18.lt))
     have m26 := m19.stp s5 (Nat.ne_of_lt (m19.lt))
     have m27 := m20.stp s5 (m20.notNew (Nat.le_refl _))
     have m28 := m21.stp s5 (Nat.ne_of_lt (m21.lt))
     have m29 := m22.stp s5 (m22.notNew (Nat.le_refl _))
     have m30 := m23.up s5.old
     have m31 := m24.stpB s5 (Nat.ne_of_lt (m24.lt))
     have b6 := s5.below b5 (Nat.le_trans hB b5.size) (Nat.le_trans hB b5.size)
     refine Fx.R.p (.pointer (some ⟨p, 0, none⟩)) (fun v1 => x_move rfl rfl) (Fx.R.p (.pointer (some ⟨p, 0, none⟩)) (fun v1 => x_nil rfl rfl) (Fx.R.p (.pointer (some ⟨p, 0, none⟩)) (fun v1 => x_field rfl rfl Try.underlying71 rfl (s := 20) (by kernel_rfl) rfl rfl) (Fx.R.p (.pointer (some ⟨p, 18, none⟩)) (fun v1 => x_field rfl rfl Try.underlying43 rfl (s := 1) (by kernel_rfl) rfl (by show _ + 18 = _; omega)) (Fx.R.p (.int .i64 ((kn : Int))) (fun v1 => x_move rfl (congrArg (Value.int .i64) ekq)) (Fx.R.p (.pointer (some ⟨g1, 0, none⟩)) (fun v1 => x_field rfl rfl Try.underlying54 rfl (s := 1) (by kernel_rfl) rfl rfl) (Fx.R.p (.pointer (some ⟨g1, 11, none⟩)) (fun v1 => x_field rfl rfl Try.underlying54 rfl (s := 1) (by kernel_rfl) rfl (by show _ + 11 = _; omega)) (Fx.R.s (.slice m.s.na (m.s.nn) (m.s.nc)) (x_load1 (x := ldY m) rfl rfl (by kernel_rfl) m26.cel (i := 18) (by omega) (by omega) rfl) ?_)))))))
     refine Fx.R.p (.pointer (some ⟨gq1, 56 * kn, none⟩)) (fun v1 => x_indexS rfl (rfl.trans (congrArg (fun q => Value.slice q (m.s.nn) (m.s.nc)) eq1)) rfl Try.underlying40 (s := 56) (by kernel_rfl) (by omega) (by omega) (by omega)) (Fx.R.p (.pointer (some ⟨gq1, 56 * kn + 2, none⟩)) (fun v1 => x_field rfl rfl Try.underlying50 rfl (s := 54) (by kernel_rfl) rfl (by show _ + 2 = _; omega)) (Fx.R.p (.pointer (some ⟨gq1, 56 * kn + 2, none⟩)) (fun v1 => x_field rfl rfl Try.underlying48 rfl (s := 6) (by kernel_rfl) rfl rfl) (Fx.R.p (.pointer (some ⟨gq1, 56 * kn, none⟩)) (fun v1 => x_indexS rfl (rfl.trans (congrArg (fun q => Value.slice q (m.s.nn) (m.s.nc)) eq1)) rfl Try.underlying40 (s := 56) (by kernel_rfl) (by omega) (by omega) (by omega)) (Fx.R.p (.pointer (some ⟨gq1, 56 * kn + 2, none⟩)) (fun v1 => x_field rfl rfl Try.underlying50 rfl (s := 54) (by kernel_rfl) rfl (by show _ + 2 = _; omega)) (Fx.R.p (.pointer (some ⟨gq1, 56 * kn + 2, none⟩)) (fun v1 => x_field rfl rfl Try.underlying48 rfl (s := 6) (by kernel_rfl) rfl rfl) (Fx.R.s (.int .i64 (v.o)) (x_load1 (x := evY v) rfl rfl (by kernel_rfl) m25.cel (i := 0) (by omega) (by omega) rfl) ?_))))))
     refine Fx.R.p (.int .i64 ((a : Int))) (fun v1 => Fx.x_sub rfl rfl rfl (Fx.i64e (by omega) (by omega))) (Fx.R.p (.pointer (some ⟨gq1, a + 56 * kn + 2, none⟩)) (fun v1 => x_index rfl rfl rfl Try.underlying45 (s := 1) (by kernel_rfl) (by omega) (by omega) (by omega)) (Fx.R.s (.int .i64 ((m.R kn) a)) (x_load1 (x := ndX m) rfl rfl (by kernel_rfl) m31.cel (i := a + 56 * kn + 2) (by omega) (by omega) (Fx.flat_cell (k := kn) (j := a + 2) (by omega) (by omega) (ndY_at _ _ _ (by omega)))) ?_))
     refine Fx.R.s (.int .i64 (v.amt)) (x_load1 (x := evY v) rfl rfl (by kernel_rfl) m25.cel (i := 11) (by omega) (by omega) rfl) ?_
     refine Fx.R.p (.int .i64 (((m.R kn) a) + v.amt)) (fun v1 => Fx.x_add rfl rfl rfl (Fx.i64e (by omega) (by omega))) (Fx.R.p (.pointer (some ⟨gq1, a + 56 * kn + 2, none⟩)) (fun v1 => x_index rfl rfl rfl Try.underlying45 (s := 1) (by kernel_rfl) (by omega) (by omega) (by omega)) (Fx.R.eff (by rfl) ?_))
     refine Fx.L.own1 (x := ndX m) (u := .int .i64 (((m.R kn) a) + v.amt)) (by rfl) rfl rfl rfl rfl (by rfl) (by kernel_rfl) m31 (i := a + 56 * kn + 2) (by omega) fun w4 m32 s6 z2 => ?_
     have hct1 := Fx.ChT.of_stp s6 m31.tyB
     have m34 := m26.chT hct1 (by decide)
     have m35 := m27.chT hct1 (by decide)
     have m36 := m28.chT hct1 (by decide)
     have m37 := m29.chT hct1 (by decide)
     have m38 := m30.chT hct1 (by decide)
     have b7 := s6.below b6 (Nat.le_trans hB b6.size) m31.blk.1
     have m39 : Fx.Own w4 B 50 56 (.slice (some ⟨gq1, 0, none⟩) m.s.nn m.s.nc) m.s.nn (Fx.flat 56 (fun kq => ndY (m.id kq) (m.par kq) (updA m.R kn (upd (m.R kn) a (((m.R kn) a) + v.amt)) kq))) := m32.congr (fun pq hp => (Fx.updV_flat (k := kn) (j := a + 2) (by omega) (by omega) pq hp).trans (Fx.flat_cong (fun i hi j hj => ndR1_store (a := a) (x := ((m.R kn) a) + v.amt) (q := kn) (id := m.id) (par := m.par) (R := m.R) i hi j hj) pq hp))
     refine Fx.L.nil (Fx.R.nil (Fx.blkN (Fx.seqN (Fx.W.seq (Fx.W.list (Fx.L.v (.int .i64 (0)) (x_assign rfl rfl) (Fx.L.nil (Fx.seqN (Fx.W.ret (⟨.int .i64 (0), Fx.retV1 Try.results104 (by exact rfl), ?_⟩))))))))))
     have eN : regN v = a := by unfold regN; omega
     have m40 : Fx.Own w4 B 50 56 (.slice m.s.na (m.s.nn) (m.s.nc)) m.s.nn (Fx.flat 56 (fun kq => ndY (m.id kq) (m.par kq) (updA m.R kn (upd (m.R kn) a (((m.R kn) a) + v.amt)) kq))) := m39.congV (congrArg (fun q => Value.slice q m.s.nn m.s.nc) eq1.symm)
     have ee : doesE m.core v = 0 := by unfold doesE; rw [if_neg c12, if_pos c17]; unfold raiseE; rw [ekN, eN, if_neg (show ¬ m.core.node v.node < 0 from c23)]; exact if_neg c41
     refine ⟨congrArg (fun q => Ending.returned (Value.int .i64 q)) ee.symm, b7, fun _ => ⟨{ m with R := updA m.R kn (upd (m.R kn) a (m.R kn a + v.amt)) }, by symm; unfold doesC; rw [if_neg c12, if_pos c17]; unfold raiseC; rw [ekN, eN]; rfl, ?_⟩⟩
     exact { c := m34, n := m40, g := m35, tc := m36, t := m37, r := m38, pB := hLp, tB := hLtb, bn := bn, bg := bg, bt := bt, br := hL.br }
  ·refine Fx.L.v (.bool false) (x_eqlF rfl rfl rfl c17) (Fx.L.v (.bool false) (x_assign rfl rfl) (Fx.L.nil (Fx.seqN (Fx.W.cond (b := false) rfl (fun h => nomatch h) (fun _ => Fx.W.seq (Fx.W.list ?_))))))
   by_cases c64 : v.kind = 3
   ·refine Fx.L.v (.bool true) (x_eqlT rfl rfl rfl c64) (Fx.L.v (.bool true) (x_assign rfl rfl) (Fx.L.nil (Fx.seqN (Fx.W.cond (b := true) rfl (fun _ => Fx.W.seq (Fx.W.list (Fx.L.v (.pointer (some ⟨p, 0, none⟩)) (x_move rfl rfl) ?_))) (fun h => nomatch h)))))
    refine Fx.L.v (.agg (Fx.varr 14 (evY v))) (x_loadA (x := evY v) (y := evY v) rfl rfl (by kernel_rfl) (by kernel_rfl) m1.cel (i := 0) (by omega) (by omega) (fun j _ => by rw [Nat.zero_add])) (Fx.L.call (by rfl) (Fx.r_call (args := [.pointer (some ⟨p, 0, none⟩), .agg (Fx.varr 14 (evY v))]) rfl rfl Try.func122 rfl rfl) rfl ((l_takes m B p a D v _ m2 (Nat.le_trans hB b1.size) ha ho bgg brr hTN hD hD2).mono ?_))
    rintro e w5 ⟨he, hb3, hr2⟩
    refine ⟨.int .i64 (takesE m.core v), he, ?_⟩
    clear he
    have b8 : Below B w w5 := b1.trans hb3
    refine Fx.L.v (.int .i64 (takesE m.core v)) (x_assign rfl rfl) (Fx.L.nil (Fx.seqN (Fx.W.ret (Fx.blkR (Fx.seqR (⟨.int .i64 (takesE m.core v), Fx.retV1 Try.results104 (by exact rfl), ?_⟩))))))
    have ee : doesE m.core v = takesE m.core v := by unfold doesE; rw [if_neg c12, if_neg c17, if_pos c64]
    have ec : doesC m.core v = takesC m.core v := by unfold doesC; rw [if_neg c12, if_neg c17, if_pos c64]
    exact ⟨congrArg (fun q => Ending.returned (Value.int .i64 q)) ee.symm, b8, fun h0 => by rw [ec]; exact hr2 (ee.symm.trans h0)⟩
   ·refine Fx.L.v (.bool false) (x_eqlF rfl rfl rfl c64) (Fx.L.v (.bool false) (x_assign rfl rfl) (Fx.L.nil (Fx.seqN (Fx.W.cond (b := false) rfl (fun h => nomatch h) (fun _ => Fx.W.seq (Fx.W.list ?_))))))
    by_cases c69 : v.kind = 4
    ·refine Fx.L.v (.bool true) (x_eqlT rfl rfl rfl c69) (Fx.L.v (.bool true) (x_assign rfl rfl) (Fx.L.nil (Fx.seqN (Fx.W.cond (b := true) rfl (fun _ => Fx.W.seq (Fx.W.list (Fx.L.v (.pointer (some ⟨p, 0, none⟩)) (x_move rfl rfl) ?_))) (fun h => nomatch h)))))
     refine Fx.L.v (.agg (Fx.varr 14 (evY v))) (x_loadA (x := evY v) (y := evY v) rfl rfl (by kernel_rfl) (by kernel_rfl) m1.cel (i := 0) (by omega) (by omega) (fun j _ => by rw [Nat.zero_add])) (Fx.L.call (by rfl) (Fx.r_call (args := [.pointer (some ⟨p, 0, none⟩), .agg (Fx.varr 14 (evY v))]) rfl rfl Try.func123 rfl rfl) rfl ((l_frees m B p a  v _ m2 (Nat.le_trans hB b1.size) ha ho bgg brr hTN hDx).mono ?_))
     rintro e w6 ⟨he, hb4, hr3⟩
     refine ⟨.int .i64 (freesE m.core v), he, ?_⟩
     clear he
     have b9 : Below B w w6 := b1.trans hb4
     refine Fx.L.v (.int .i64 (freesE m.core v)) (x_assign rfl rfl) (Fx.L.nil (Fx.seqN (Fx.W.ret (Fx.blkR (Fx.seqR (⟨.int .i64 (freesE m.core v), Fx.retV1 Try.results104 (by exact rfl), ?_⟩))))))
     have ee : doesE m.core v = freesE m.core v := by unfold doesE; rw [if_neg c12, if_neg c17, if_neg c64, if_pos c69]
     have ec : doesC m.core v = freesC m.core v := by unfold doesC; rw [if_neg c12, if_neg c17, if_neg c64, if_pos c69]
     exact ⟨congrArg (fun q => Ending.returned (Value.int .i64 q)) ee.symm, b9, fun h0 => by rw [ec]; exact hr3 (ee.symm.trans h0)⟩
    ·refine Fx.L.v (.bool false) (x_eqlF rfl rfl rfl c69) (Fx.L.v (.bool false) (x_assign rfl rfl) (Fx.L.nil (Fx.seqN (Fx.W.cond (b := false) rfl (fun h => nomatch h) (fun _ => Fx.W.seq (Fx.W.list ?_))))))
     by_cases c74 : v.kind = 5
     ·refine Fx.L.v (.bool true) (x_eqlT rfl rfl rfl c74) (Fx.L.v (.bool true) (x_assign rfl rfl) (Fx.L.nil (Fx.seqN (Fx.W.cond (b := true) rfl (fun _ => Fx.W.seq ?_) (fun h => nomatch h)))))
      have hLc := m2.c
      have hLn := m2.n
      have hLg := m2.g
      have hLt := m2.tc
      have hLtr := m2.t
      have hLr := m2.r
      refine Fx.W.list (Fx.L.v (.pointer (some ⟨p, 0, none⟩)) (x_move rfl rfl) (Fx.L.v (.pointer (some ⟨g1, 9, none⟩)) (x_field rfl rfl Try.underlying54 rfl (s := 1) (by kernel_rfl) rfl (by show _ + 9 = _; omega)) (Fx.L.v (.int .u64 (v.node)) (x_load1 (x := evY v) rfl rfl (by kernel_rfl) m1.cel (i := 9) (by omega) (by omega) rfl) ?_)))
      have hld2 : Ldg w1 p m := { c := hLc.cel, an := hLn.arr, ag := hLg.arr, tc := hLt.cel, at2 := hLtr.arr, ar := fun i hi => (hLr.1 i hi).arr, bn := (by show m.s.nn ≤ 1000000; omega), bg := bg, bt := (by show m.tn ≤ 1000000; omega), br := hL.br }
      refine Fx.L.call (by rfl) (Fx.r_call (args := [.pointer (some ⟨p, 0, none⟩), .int .u64 (v.node)]) rfl rfl Try.func121 rfl rfl) rfl ((l_node m p v.node _ hld2).mono ?_)
      rintro e w7 ⟨he, hb5⟩
      refine ⟨.int .i64 (m.node v.node), by rw [he], ?_⟩
      clear he
      have s7 := Fx.Stp.of_below hb5
      have m41 := m1.stp s7 (Nat.ne_of_lt (m1.lt))
      have m42 := hLc.stp s7 (Nat.ne_of_lt (hLc.lt))
      have m43 := hLn.stp s7 (hLn.notNew (Nat.le_refl _))
      have m44 := hLg.stp s7 (hLg.notNew (Nat.le_refl _))
      have m45 := hLt.stp s7 (Nat.ne_of_lt (hLt.lt))
      have m46 := hLtr.stp s7 (hLtr.notNew (Nat.le_refl _))
      have m47 := hLr.up s7.old
      have b10 := s7.below b1 (Nat.le_trans hB b1.size) (Nat.le_trans hB b1.size)
      refine Fx.L.v (.int .i64 (m.node v.node)) (x_assign rfl rfl) (Fx.L.nil (Fx.seqN (Fx.W.seq (Fx.W.seq (Fx.W.list (Fx.L.v (.int .i64 (m.node v.node)) (x_move rfl rfl) ?_))))))
      by_cases c80 : (m.node v.node) < 0
      ·refine Fx.L.v (.bool true) (Fx.x_lssT rfl rfl rfl c80) (Fx.L.nil (Fx.seqN (Fx.W.cond (b := true) rfl (fun _ => Fx.W.seq (Fx.W.list (Fx.L.v (.int .i64 (9)) (x_assign rfl rfl) ?_))) (fun h => nomatch h))))
       refine Fx.L.nil (Fx.seqN (Fx.W.ret (Fx.seqR (Fx.blkR (Fx.seqR (⟨.int .i64 (9), Fx.retV1 Try.results104 (by exact rfl), ?_⟩))))))
       have eN : regN v = a := by unfold regN; omega
       have ee : doesE m.core v = 9 := by unfold doesE; rw [if_neg c12, if_neg c17, if_neg c64, if_neg c69, if_pos c74]; unfold movesE; exact if_pos c80
       exact ⟨congrArg (fun q => Ending.returned (Value.int .i64 q)) ee.symm, b10, fun h0 => by rw [ee] at h0; cases h0⟩
      ·obtain ⟨kn, hkq, ekq, _⟩ := node_at (m := m) (x := v.node) (by omega)
       have ekq : m.node v.node = (kn : Int) := ekq
       have ekN : (m.core.node v.node).toNat = kn := by show (m.node v.node).toNat = kn; rw [ekq]; rfl
       refine Fx.L.v (.bool false) (Fx.x_lssF rfl rfl rfl c80) (Fx.L.nil (Fx.seqN (Fx.W.cond (b := false) rfl (fun h => nomatch h) (fun _ => Fx.W.skip (Fx.seqN (Fx.W.seq (Fx.W.seq ?_)))))))
       -- region 19 draws
       refine Fx.W.quiet (fun v1 => ∃ q, v1 = World.drewN w7 q) (by kernel_rfl) (by kernel_rfl) ⟨1, rfl⟩ ?_
       refine Fx.Qt.v (.pointer (some ⟨g1, 10, none⟩)) (fun v1 hv1 => x_field rfl rfl Try.underlying54 rfl (s := 1) (by kernel_rfl) rfl (by show _ + 10 = _; omega)) (Fx.Qt.v (.int .i64 (v.dst)) (fun v1 hv1 => x_load1 (x := evY v) rfl rfl (by kernel_rfl) (by obtain ⟨qd, rfl⟩ := hv1; exact m41.cel) (i := 10) (by omega) (by omega) rfl) ?_)
       by_cases c83 : v.dst < 1
       ·refine Fx.Qt.v (.bool true) (fun v1 hv1 => Fx.x_lssT rfl rfl rfl c83) (Fx.Qt.v (.bool true) (fun v1 hv1 => x_move rfl rfl) (Fx.Qt.skip (by rfl) rfl (Fx.Qt.skip (by rfl) rfl (Fx.Qt.skip (by rfl) rfl (Fx.Qt.v (.bool true) (fun v1 hv1 => x_pickT rfl rfl rfl) (Fx.Qt.v (.bool true) (fun v1 hv1 => x_move rfl rfl) (Fx.Qt.skip (by rfl) rfl (Fx.Qt.skip (by rfl) rfl (Fx.Qt.skip (by rfl) rfl (Fx.Qt.skip (by rfl) rfl (Fx.Qt.skip (by rfl) rfl (Fx.Qt.skip (by rfl) rfl (Fx.Qt.skip (by rfl) rfl (Fx.Qt.skip (by rfl) rfl (Fx.Qt.skip (by rfl) rfl (Fx.Qt.skip (by rfl) rfl (Fx.Qt.v (.bool true) (fun v1 hv1 => x_pickT rfl rfl rfl) (Fx.Qt.nil ?_))))))))))))))))))
        rintro _ ⟨qd, rfl⟩
        obtain ⟨wq3, ewq3⟩ : ∃ v1, v1 = World.drewN w7 qd := ⟨_, rfl⟩
        rw [← ewq3]
        have s8 : Fx.Stp w7.heap.size w7 wq3 := by rw [ewq3]; exact Fx.Stp.of_below (bdrN w7 qd)
        have b11 := s8.below b10 (Nat.le_trans hB b10.size) (Nat.le_trans hB b10.size)
        clear ewq3
        refine Fx.seqN (Fx.W.cond (b := true) rfl (fun _ => Fx.W.seq (Fx.W.list (Fx.L.v (.int .i64 (10)) (x_assign rfl rfl) ?_))) (fun h => nomatch h))
        refine Fx.L.nil (Fx.seqN (Fx.W.ret (Fx.seqR (Fx.blkR (Fx.seqR (⟨.int .i64 (10), Fx.retV1 Try.results104 (by exact rfl), ?_⟩))))))
        have eN : regN v = a := by unfold regN; omega
        have ee : doesE m.core v = 10 := by unfold doesE; rw [if_neg c12, if_neg c17, if_neg c64, if_neg c69, if_pos c74]; unfold movesE; rw [if_neg (show ¬ m.core.node v.node < 0 from c80)]; exact if_pos (.inl c83)
        exact ⟨congrArg (fun q => Ending.returned (Value.int .i64 q)) ee.symm, b11, fun h0 => by rw [ee] at h0; cases h0⟩
       ·refine Fx.Qt.v (.bool false) (fun v1 hv1 => Fx.x_lssF rfl rfl rfl c83) (Fx.Qt.v (.bool false) (fun v1 hv1 => x_move rfl rfl) (Fx.Qt.v (.pointer (some ⟨g1, 10, none⟩)) (fun v1 hv1 => x_field rfl rfl Try.underlying54 rfl (s := 1) (by kernel_rfl) rfl (by show _ + 10 = _; omega)) (Fx.Qt.v (.int .i64 (v.dst)) (fun v1 hv1 => x_load1 (x := evY v) rfl rfl (by kernel_rfl) (by obtain ⟨qd, rfl⟩ := hv1; exact m41.cel) (i := 10) (by omega) (by omega) rfl) ?_)))
        by_cases c87 : 6 < v.dst
        ·refine Fx.Qt.v (.bool true) (fun v1 hv1 => Fx.x_gtrT rfl rfl rfl c87) (Fx.Qt.v (.bool true) (fun v1 hv1 => x_pickF rfl rfl rfl) (Fx.Qt.v (.bool true) (fun v1 hv1 => x_move rfl rfl) (Fx.Qt.skip (by rfl) rfl (Fx.Qt.skip (by rfl) rfl (Fx.Qt.skip (by rfl) rfl (Fx.Qt.skip (by rfl) rfl (Fx.Qt.skip (by rfl) rfl (Fx.Qt.skip (by rfl) rfl (Fx.Qt.skip (by rfl) rfl (Fx.Qt.skip (by rfl) rfl (Fx.Qt.skip (by rfl) rfl (Fx.Qt.skip (by rfl) rfl (Fx.Qt.v (.bool true) (fun v1 hv1 => x_pickT rfl rfl rfl) (Fx.Qt.nil ?_))))))))))))))
         rintro _ ⟨qd, rfl⟩
         obtain ⟨wq4, ewq4⟩ : ∃ v1, v1 = World.drewN w7 qd := ⟨_, rfl⟩
         rw [← ewq4]
         have s9 : Fx.Stp w7.heap.size w7 wq4 := by rw [ewq4]; exact Fx.Stp.of_below (bdrN w7 qd)
         have b12 := s9.below b10 (Nat.le_trans hB b10.size) (Nat.le_trans hB b10.size)
         clear ewq4
         refine Fx.seqN (Fx.W.cond (b := true) rfl (fun _ => Fx.W.seq (Fx.W.list (Fx.L.v (.int .i64 (10)) (x_assign rfl rfl) ?_))) (fun h => nomatch h))
         refine Fx.L.nil (Fx.seqN (Fx.W.ret (Fx.seqR (Fx.blkR (Fx.seqR (⟨.int .i64 (10), Fx.retV1 Try.results104 (by exact rfl), ?_⟩))))))
         have eN : regN v = a := by unfold regN; omega
         have ee : doesE m.core v = 10 := by unfold doesE; rw [if_neg c12, if_neg c17, if_neg c64, if_neg c69, if_pos c74]; unfold movesE; rw [if_neg (show ¬ m.core.node v.node < 0 from c80)]; exact if_pos (.inr (.inl c87))
         exact ⟨congrArg (fun q => Ending.returned (Value.int .i64 q)) ee.symm, b12, fun h0 => by rw [ee] at h0; cases h0⟩
        ·obtain ⟨b9, hb9, eb9⟩ : ∃ b : Nat, b < 6 ∧ v.dst = (b : Int) + 1 := ⟨(v.dst - 1).toNat, by omega, by omega⟩
         refine Fx.Qt.v (.bool false) (fun v1 hv1 => x_gtrF rfl rfl rfl c87) (Fx.Qt.v (.bool false) (fun v1 hv1 => x_pickF rfl rfl rfl) (Fx.Qt.v (.bool false) (fun v1 hv1 => x_move rfl rfl) (Fx.Qt.v (.pointer (some ⟨p, 0, none⟩)) (fun v1 hv1 => x_move rfl rfl) (Fx.Qt.v (.pointer (some ⟨g1, 10, none⟩)) (fun v1 hv1 => x_field rfl rfl Try.underlying54 rfl (s := 1) (by kernel_rfl) rfl (by show _ + 10 = _; omega)) (Fx.Qt.v (.int .i64 (v.dst)) (fun v1 hv1 => x_load1 (x := evY v) rfl rfl (by kernel_rfl) (by obtain ⟨qd, rfl⟩ := hv1; exact m41.cel) (i := 10) (by omega) (by omega) rfl) (Fx.Qt.v (.int .i64 ((b9 : Int))) (fun v1 hv1 => Fx.x_sub rfl rfl rfl (Fx.i64e (by omega) (by omega))) (Fx.Qt.v (.pointer (some ⟨p, 0, none⟩)) (fun v1 hv1 => x_nil rfl rfl) (Fx.Qt.v (.pointer (some ⟨p, 0, none⟩)) (fun v1 hv1 => x_field rfl rfl Try.underlying71 rfl (s := 20) (by kernel_rfl) rfl rfl) (Fx.Qt.v (.pointer (some ⟨p, 0, none⟩)) (fun v1 hv1 => x_field rfl rfl Try.underlying43 rfl (s := 6) (by kernel_rfl) rfl rfl) (Fx.Qt.v (.pointer (some ⟨p, b9, none⟩)) (fun v1 hv1 => x_index rfl rfl rfl Try.underlying39 (s := 1) (by kernel_rfl) (by omega) (by omega) (by omega)) ?_))))))))))
         by_cases c98 : (m.s.inn b9) = true
         ·refine Fx.Qt.v (.bool true) (fun v1 hv1 => x_load1 (x := ldY m) rfl rfl (by kernel_rfl) (by obtain ⟨qd, rfl⟩ := hv1; exact m42.cel) (i := b9) (by omega) (by omega) ((ldY_st _ (by omega) (stY_in _ (by omega))).trans (congrArg Value.bool c98))) (Fx.Qt.v (.bool false) (fun v1 hv1 => Fx.x_notF rfl rfl) (Fx.Qt.v (.bool false) (fun v1 hv1 => x_pickF rfl rfl rfl) (Fx.Qt.nil ?_)))
          rintro _ ⟨qd, rfl⟩
          obtain ⟨wq5, ewq5⟩ : ∃ v1, v1 = World.drewN w7 qd := ⟨_, rfl⟩
          rw [← ewq5]
          have s10 : Fx.Stp w7.heap.size w7 wq5 := by rw [ewq5]; exact Fx.Stp.of_below (bdrN w7 qd)
          have m62 := m41.stp s10 (Nat.ne_of_lt (m41.lt))
          have m63 := m42.stp s10 (Nat.ne_of_lt (m42.lt))
          have m64 := m43.stp s10 (m43.notNew (Nat.le_refl _))
          have m65 := m44.stp s10 (m44.notNew (Nat.le_refl _))
          have m66 := m45.stp s10 (Nat.ne_of_lt (m45.lt))
          have m67 := m46.stp s10 (m46.notNew (Nat.le_refl _))
          have m68 := m47.up s10.old
          have b13 := s10.below b10 (Nat.le_trans hB b10.size) (Nat.le_trans hB b10.size)
          clear ewq5
          refine Fx.seqN (Fx.W.cond (b := false) rfl (fun h => nomatch h) (fun _ => Fx.W.skip (Fx.seqN (Fx.W.seq ?_))))
          -- region 21 draws
          obtain ⟨gq2, eq2⟩ := m64.addr (by omega)
          have m69 : Fx.Own wq5 B 50 56 (.slice (some ⟨gq2, 0, none⟩) m.s.nn m.s.nc) m.s.nn (ndX m) := m64.congV (congrArg (fun q => Value.slice q m.s.nn m.s.nc) eq2)
          refine Fx.W.one (T := 48) (T' := 48) (a := .tmp 7) (v := .tmp 118) (m := 54) (z := Fx.rv .i64 (fun _ => 0)) (y := Fx.rv .i64 ((moveM (m.R kn) v.o v.dst v.amt).1)) (u := .agg (Fx.varr 54 (Fx.rv .i64 ((moveM (m.R kn) v.o v.dst v.amt).1)))) 19 20 (List.replicate 22 (0, 2, [], [])) #[.pointer (some ⟨p, 0, none⟩), .pointer (some ⟨p, 0, none⟩), .pointer (some ⟨p, 0, none⟩), .pointer (some ⟨p, 18, none⟩), .slice m.s.na (m.s.nn) (m.s.nc), .int .i64 ((kn : Int)), .pointer (some ⟨gq2, 56 * kn, none⟩), .pointer (some ⟨gq2, 56 * kn + 2, none⟩), .agg (Fx.varr 54 (Fx.rv .i64 (m.R kn))), .pointer (some ⟨g1, 0, none⟩), .int .i64 (v.o), .pointer (some ⟨g1, 10, none⟩), .int .i64 (v.dst), .pointer (some ⟨g1, 11, none⟩), .int .i64 (v.amt), .tuple #[.agg (Fx.varr 54 (Fx.rv .i64 ((moveM (m.R kn) v.o v.dst v.amt).1))), .int .i64 ((moveM (m.R kn) v.o v.dst v.amt).2)], .tuple #[.agg (Fx.varr 54 (Fx.rv .i64 ((moveM (m.R kn) v.o v.dst v.amt).1))), .int .i64 ((moveM (m.R kn) v.o v.dst v.amt).2)], .agg (Fx.varr 54 (Fx.rv .i64 ((moveM (m.R kn) v.o v.dst v.amt).1))), .int .i64 ((moveM (m.R kn) v.o v.dst v.amt).2), undef, undef, .int .i64 ((moveM (m.R kn) v.o v.dst v.amt).2)] (by kernel_rfl) (by kernel_rfl) (by kernel_rfl) (by kernel_rfl) (by kernel_rfl) (by kernel_rfl) rfl (by kernel_rfl) rfl rfl (by kernel_rfl) (fun g2 => (show Fx.ev _ (.tmp 7) = .pointer (some ⟨g2, 0, none⟩) from by kernel_rfl)) (fun g2 => (show Fx.ev _ (.tmp 118) = .agg (Fx.varr 54 (Fx.rv .i64 ((moveM (m.R kn) v.o v.dst v.amt).1))) from by kernel_rfl)) (Fx.cells_agg _ _) (fun _ _ => rfl) (by kernel_rfl) (fun g2 => ?_) ?_
          ·refine ⟨?_, ?_, ?_, ?_, ?_, ?_, ?_, ?_, ?_, ?_, ?_, ?_, ?_, ?_, ?_, ?_, ?_, ?_, ?_, ?_, ?_, ?_, trivial⟩
           ·exact .inr (.inr (Fx.qb_yes (v := .pointer (some ⟨p, 0, none⟩)) (by kernel_rfl) (by kernel_rfl) (Fx.qbV fun v1 hv1 => x_move rfl (show Fx.ev _ (.tmp 0) = .pointer (some ⟨p, 0, none⟩) from by kernel_rfl))))
           ·exact .inr (.inr (Fx.qb_yes (v := .pointer (some ⟨p, 0, none⟩)) (by kernel_rfl) (by kernel_rfl) (Fx.qbV fun v1 hv1 => x_nil rfl (show Fx.ev _ (.tmp 102) = .pointer (some ⟨p, 0, none⟩) from by kernel_rfl))))
           ·exact .inr (.inr (Fx.qb_yes (v := .pointer (some ⟨p, 0, none⟩)) (by kernel_rfl) (by kernel_rfl) (Fx.qbV fun v1 hv1 => x_field rfl (show Fx.ev _ (.tmp 103) = .pointer (some ⟨p, 0, none⟩) from by kernel_rfl) Try.underlying71 rfl (s := 20) (by kernel_rfl) rfl rfl)))
           ·exact .inr (.inr (Fx.qb_yes (v := .pointer (some ⟨p, 18, none⟩)) (by kernel_rfl) (by kernel_rfl) (Fx.qbV fun v1 hv1 => x_field rfl (show Fx.ev _ (.tmp 104) = .pointer (some ⟨p, 0, none⟩) from by kernel_rfl) Try.underlying43 rfl (s := 1) (by kernel_rfl) rfl (by show _ + 18 = _; omega))))
           ·exact .inr (.inr (Fx.qb_yes (v := .slice m.s.na (m.s.nn) (m.s.nc)) (by kernel_rfl) (by kernel_rfl) (Fx.qbV fun v1 hv1 => x_load1 (x := ldY m) rfl (show Fx.ev _ (.tmp 105) = .pointer (some ⟨p, 18, none⟩) from by kernel_rfl) (by kernel_rfl) (m63.cel.below hv1 (by have := m63.lt; omega)) (i := 18) (by omega) (by omega) rfl)))
           ·exact .inr (.inr (Fx.qb_yes (v := .int .i64 ((kn : Int))) (by kernel_rfl) (by kernel_rfl) (Fx.qbV fun v1 hv1 => x_move rfl ((Fx.fOne_out (by kernel_rfl)).trans (congrArg (Value.int .i64) ekq)))))
           ·exact .inr (.inr (Fx.qb_yes (v := .pointer (some ⟨gq2, 56 * kn, none⟩)) (by kernel_rfl) (by kernel_rfl) (Fx.qbV fun v1 hv1 => x_indexS rfl ((show Fx.ev _ (.tmp 106) = .slice m.s.na (m.s.nn) (m.s.nc) from by kernel_rfl).trans (congrArg (fun q => Value.slice q (m.s.nn) (m.s.nc)) eq2)) (show Fx.ev _ (.tmp 107) = .int .i64 ((kn : Int)) from by kernel_rfl) Try.underlying40 (s := 56) (by kernel_rfl) (by omega) (by omega) (by omega))))
           ·exact .inr (.inr (Fx.qb_yes (v := .pointer (some ⟨gq2, 56 * kn + 2, none⟩)) (by kernel_rfl) (by kernel_rfl) (Fx.qbV fun v1 hv1 => x_field rfl (show Fx.ev _ (.tmp 108) = .pointer (some ⟨gq2, 56 * kn, none⟩) from by kernel_rfl) Try.underlying50 rfl (s := 54) (by kernel_rfl) rfl (by show _ + 2 = _; omega))))
           ·exact .inr (.inr (Fx.qb_yes (v := .agg (Fx.varr 54 (Fx.rv .i64 (m.R kn)))) (by kernel_rfl) (by kernel_rfl) (Fx.qbV fun v1 hv1 => x_loadA (x := ndX m) (y := Fx.rv .i64 (m.R kn)) rfl (show Fx.ev _ (.tmp 109) = .pointer (some ⟨gq2, 56 * kn + 2, none⟩) from by kernel_rfl) (by kernel_rfl) (by kernel_rfl) (m69.cel.below hv1 (by have := m69.lt; omega)) (i := 56 * kn + 2) (by omega) (by omega) (fun jq hjq => (Fx.flat_at (k := kn) (j := 2 + jq) (by omega) (by omega)).trans ((fun jq _ => ndY_row _ _ _ jq) jq hjq)))))
           ·exact .inr (.inr (Fx.qb_yes (v := .pointer (some ⟨g1, 0, none⟩)) (by kernel_rfl) (by kernel_rfl) (Fx.qbV fun v1 hv1 => x_field rfl (show Fx.ev _ (.tmp 3) = .pointer (some ⟨g1, 0, none⟩) from by kernel_rfl) Try.underlying54 rfl (s := 1) (by kernel_rfl) rfl rfl)))
           ·exact .inr (.inr (Fx.qb_yes (v := .int .i64 (v.o)) (by kernel_rfl) (by kernel_rfl) (Fx.qbV fun v1 hv1 => x_load1 (x := evY v) rfl (show Fx.ev _ (.tmp 111) = .pointer (some ⟨g1, 0, none⟩) from by kernel_rfl) (by kernel_rfl) (m62.cel.below hv1 (by have := m62.lt; omega)) (i := 0) (by omega) (by omega) rfl)))
           ·exact .inr (.inr (Fx.qb_yes (v := .pointer (some ⟨g1, 10, none⟩)) (by kernel_rfl) (by kernel_rfl) (Fx.qbV fun v1 hv1 => x_field rfl (show Fx.ev _ (.tmp 3) = .pointer (some ⟨g1, 0, none⟩) from by kernel_rfl) Try.underlying54 rfl (s := 1) (by kernel_rfl) rfl (by show _ + 10 = _; omega))))
           ·exact .inr (.inr (Fx.qb_yes (v := .int .i64 (v.dst)) (by kernel_rfl) (by kernel_rfl) (Fx.qbV fun v1 hv1 => x_load1 (x := evY v) rfl (show Fx.ev _ (.tmp 113) = .pointer (some ⟨g1, 10, none⟩) from by kernel_rfl) (by kernel_rfl) (m62.cel.below hv1 (by have := m62.lt; omega)) (i := 10) (by omega) (by omega) rfl)))
           ·exact .inr (.inr (Fx.qb_yes (v := .pointer (some ⟨g1, 11, none⟩)) (by kernel_rfl) (by kernel_rfl) (Fx.qbV fun v1 hv1 => x_field rfl (show Fx.ev _ (.tmp 3) = .pointer (some ⟨g1, 0, none⟩) from by kernel_rfl) Try.underlying54 rfl (s := 1) (by kernel_rfl) rfl (by show _ + 11 = _; omega))))
           ·exact .inr (.inr (Fx.qb_yes (v := .int .i64 (v.amt)) (by kernel_rfl) (by kernel_rfl) (Fx.qbV fun v1 hv1 => x_load1 (x := evY v) rfl (show Fx.ev _ (.tmp 115) = .pointer (some ⟨g1, 11, none⟩) from by kernel_rfl) (by kernel_rfl) (m62.cel.below hv1 (by have := m62.lt; omega)) (i := 11) (by omega) (by omega) rfl)))
           ·exact .inr (.inr (Fx.qb_yes (v := .tuple #[.agg (Fx.varr 54 (Fx.rv .i64 ((moveM (m.R kn) v.o v.dst v.amt).1))), .int .i64 ((moveM (m.R kn) v.o v.dst v.amt).2)]) (by kernel_rfl) (by kernel_rfl) (Fx.qbC (fun v1 hv1 => Fx.r_call (args := [.agg (Fx.varr 54 (Fx.rv .i64 (m.R kn))), .int .i64 (v.o), .int .i64 (v.dst), .int .i64 (v.amt)]) rfl (Fx.args4 (show Fx.ev _ (.tmp 110) = .agg (Fx.varr 54 (Fx.rv .i64 (m.R kn))) from by kernel_rfl) (show Fx.ev _ (.tmp 112) = .int .i64 (v.o) from by kernel_rfl) (show Fx.ev _ (.tmp 114) = .int .i64 (v.dst) from by kernel_rfl) (show Fx.ev _ (.tmp 116) = .int .i64 (v.amt) from by kernel_rfl)) Try.func95 rfl rfl) (fun v1 hv1 => (f7_move (m.R kn) v.o v.dst v.amt _).mono fun e v2 h => ⟨h.1, h.2⟩))))
           ·exact .inr (.inr (Fx.qb_yes (v := .tuple #[.agg (Fx.varr 54 (Fx.rv .i64 ((moveM (m.R kn) v.o v.dst v.amt).1))), .int .i64 ((moveM (m.R kn) v.o v.dst v.amt).2)]) (by kernel_rfl) (by kernel_rfl) (Fx.qbV fun v1 hv1 => x_move rfl (show Fx.ev _ (.tmp 117) = .tuple #[.agg (Fx.varr 54 (Fx.rv .i64 ((moveM (m.R kn) v.o v.dst v.amt).1))), .int .i64 ((moveM (m.R kn) v.o v.dst v.amt).2)] from by kernel_rfl))))
           ·exact .inr (.inr (Fx.qb_yes (v := .agg (Fx.varr 54 (Fx.rv .i64 ((moveM (m.R kn) v.o v.dst v.amt).1)))) (by kernel_rfl) (by kernel_rfl) (Fx.qbV fun v1 hv1 => Fx.x_extract rfl (show Fx.ev _ (.tmp 101) = .tuple #[.agg (Fx.varr 54 (Fx.rv .i64 ((moveM (m.R kn) v.o v.dst v.amt).1))), .int .i64 ((moveM (m.R kn) v.o v.dst v.amt).2)] from by kernel_rfl) rfl)))
           ·exact .inr (.inr (Fx.qb_yes (v := .int .i64 ((moveM (m.R kn) v.o v.dst v.amt).2)) (by kernel_rfl) (by kernel_rfl) (Fx.qbV fun v1 hv1 => Fx.x_extract rfl (show Fx.ev _ (.tmp 101) = .tuple #[.agg (Fx.varr 54 (Fx.rv .i64 ((moveM (m.R kn) v.o v.dst v.amt).1))), .int .i64 ((moveM (m.R kn) v.o v.dst v.amt).2)] from by kernel_rfl) rfl)))
           ·exact .inl rfl
           ·exact .inr (.inl rfl)
           ·exact .inr (.inr (Fx.qb_yes (v := .int .i64 ((moveM (m.R kn) v.o v.dst v.amt).2)) (by kernel_rfl) (by kernel_rfl) (Fx.qbV fun v1 hv1 => x_assign rfl (show Fx.ev _ (.tmp 119) = .int .i64 ((moveM (m.R kn) v.o v.dst v.amt).2) from by kernel_rfl))))
          ·rintro g2 w8 f1 hf1 lg2 m70 hb6
           have s11 := Fx.Stp.of_below hb6
           have ng2m62 : g1 ≠ g2 := Nat.ne_of_lt (Nat.lt_of_lt_of_le (m62.lt) lg2)
           have ng2m63 : p ≠ g2 := Nat.ne_of_lt (Nat.lt_of_lt_of_le (m63.lt) lg2)
           have ng2m66 : m.tb ≠ g2 := Nat.ne_of_lt (Nat.lt_of_lt_of_le (m66.lt) lg2)
           have ng2m69 : gq2 ≠ g2 := Nat.ne_of_lt (Nat.lt_of_lt_of_le (m69.lt) lg2)
           have m72 := m63.stp s11 (Nat.ne_of_lt (m63.lt))
           have m73 := m65.stp s11 (m65.notNew (Nat.le_refl _))
           have m74 := m66.stp s11 (Nat.ne_of_lt (m66.lt))
           have m75 := m67.stp s11 (m67.notNew (Nat.le_refl _))
           have m76 := m68.up s11.old
           have m77 := m69.stpB s11 (Nat.ne_of_lt (m69.lt))
           have b14 := s11.below b13 (Nat.le_trans hB b13.size) (Nat.le_trans hB b13.size)
           have lg2 : w.heap.size ≤ g2 := Nat.le_trans b13.size lg2
           have tg2 : g2 < w8.heap.size := m70.lt
           have q1 : f1 0 = .pointer (some ⟨p, 0, none⟩) := by rw [hf1]; kernel_rfl
           have q2 : f1 4 = .int .i64 (0) := by rw [hf1]; kernel_rfl
           have q3 : f1 6 = .int .i64 ((kn : Int)) := by rw [hf1]; exact (Fx.fOne_out (by kernel_rfl)).trans (congrArg (Value.int .i64) ekq)
           have q4 : f1 7 = .pointer (some ⟨g2, 0, none⟩) := by rw [hf1]; kernel_rfl
           have q5 : f1 8 = .int .i64 ((moveM (m.R kn) v.o v.dst v.amt).2) := by rw [hf1]; kernel_rfl
           clear hf1
           refine Fx.seqN (Fx.W.seq (Fx.W.seq (Fx.W.list (Fx.L.v (.int .i64 ((moveM (m.R kn) v.o v.dst v.amt).2)) (x_move rfl q5) ?_))))
           by_cases c121 : ((moveM (m.R kn) v.o v.dst v.amt).2) = 0
           ·refine Fx.L.v (.bool false) (Fx.x_neqF rfl rfl rfl c121) (Fx.L.nil (Fx.seqN (Fx.W.cond (b := false) rfl (fun h => nomatch h) (fun _ => Fx.W.skip (Fx.seqN ?_)))))
            -- region 24 draws
            refine Fx.W.reord [0, 1, 2, 3, 5, 4, 6, 7, 8, 9] [0, 0, 0, 0, 4, 0, 4, 0, 0, 3] Fx.Mk Fx.Mk.refl Fx.Mk.trans (certs := [(9, 4, [4]), (9, 6, [6])]) (by kernel_rfl) (by kernel_rfl) (by kernel_rfl) (by kernel_rfl) (by kernel_rfl) fun wt2 hbwt2 hzwt2 => ?_
            have s12 : Fx.Stp w8.heap.size w8 wt2 := Fx.Stp.of_below hbwt2
            have m79 := m72.stp s12 (Nat.ne_of_lt (m72.lt))
            have m80 := m73.stp s12 (m73.notNew (Nat.le_refl _))
            have m81 := m74.stp s12 (Nat.ne_of_lt (m74.lt))
            have m82 := m75.stp s12 (m75.notNew (Nat.le_refl _))
            have m83 := m76.up s12.old
            have m84 := m77.stpB s12 (Nat.ne_of_lt (m77.lt))
            have m85 := m70.stp s12 (Nat.ne_of_lt (m70.lt))
            have b15 := s12.below b14 (Nat.le_trans hB b14.size) (Nat.le_trans hB b14.size)
            refine Fx.R.p (.pointer (some ⟨p, 0, none⟩)) (fun v1 => x_move rfl q1) (Fx.R.p (.pointer (some ⟨p, 0, none⟩)) (fun v1 => x_nil rfl rfl) (Fx.R.p (.pointer (some ⟨p, 0, none⟩)) (fun v1 => x_field rfl rfl Try.underlying71 rfl (s := 20) (by kernel_rfl) rfl rfl) (Fx.R.p (.pointer (some ⟨p, 18, none⟩)) (fun v1 => x_field rfl rfl Try.underlying43 rfl (s := 1) (by kernel_rfl) rfl (by show _ + 18 = _; omega)) (Fx.R.p (.int .i64 ((kn : Int))) (fun v1 => x_move rfl q3) (Fx.R.s (.slice m.s.na (m.s.nn) (m.s.nc)) (x_load1 (x := ldY m) rfl rfl (by kernel_rfl) m79.cel (i := 18) (by omega) (by omega) rfl) ?_)))))
            refine Fx.R.s (.agg (Fx.varr 54 (Fx.rv .i64 ((moveM (m.R kn) v.o v.dst v.amt).1)))) (x_loadA (x := Fx.rv .i64 ((moveM (m.R kn) v.o v.dst v.amt).1)) (y := Fx.rv .i64 ((moveM (m.R kn) v.o v.dst v.amt).1)) rfl q4 (by kernel_rfl) (by kernel_rfl) m85.cel (i := 0) (by omega) (by omega) (fun j _ => by rw [Nat.zero_add])) ?_
            refine Fx.R.p (.pointer (some ⟨gq2, 56 * kn, none⟩)) (fun v1 => x_indexS rfl (rfl.trans (congrArg (fun q => Value.slice q (m.s.nn) (m.s.nc)) eq2)) rfl Try.underlying40 (s := 56) (by kernel_rfl) (by omega) (by omega) (by omega)) (Fx.R.p (.pointer (some ⟨gq2, 56 * kn + 2, none⟩)) (fun v1 => x_field rfl rfl Try.underlying50 rfl (s := 54) (by kernel_rfl) rfl (by show _ + 2 = _; omega)) (Fx.R.eff (by rfl) ?_))
            refine Fx.L.ownA (x := ndX m) (y := Fx.rv .i64 ((moveM (m.R kn) v.o v.dst v.amt).1)) (by rfl) rfl rfl rfl rfl (fun _ _ => rfl) (by kernel_rfl) m84 (i := 56 * kn + 2) (by omega) fun w9 m86 s13 z3 => ?_
            have hct2 := Fx.ChT.of_stp s13 m84.tyB
            have m88 := m79.chT hct2 (by decide)
            have m89 := m80.chT hct2 (by decide)
            have m90 := m81.chT hct2 (by decide)
            have m91 := m82.chT hct2 (by decide)
            have m92 := m83.chT hct2 (by decide)
            have b16 := s13.below b15 (Nat.le_trans hB b15.size) m84.blk.1
            have m94 : Fx.Own w9 B 50 56 (.slice (some ⟨gq2, 0, none⟩) m.s.nn m.s.nc) m.s.nn (Fx.flat 56 (fun kq => ndY (m.id kq) (m.par kq) (updA m.R kn ((moveM (m.R kn) v.o v.dst v.amt).1) kq))) := m86.congr (fun pq hp => (Fx.ovrS_flat (k := kn) (j := 2) (by omega) (by omega) pq hp).trans (Fx.flat_cong (fun i hi j hj => ndR_store (r := (moveM (m.R kn) v.o v.dst v.amt).1) (q := kn) (id := m.id) (par := m.par) (R := m.R) i hi j hj) pq hp))
            refine Fx.L.nil (Fx.R.nil (Fx.blkN (Fx.seqN (Fx.W.seq (Fx.W.list (Fx.L.v (.int .i64 (0)) (x_assign rfl rfl) (Fx.L.nil (Fx.seqN (Fx.W.ret (⟨.int .i64 (0), Fx.retV1 Try.results104 (by exact rfl), ?_⟩))))))))))
            have eN : regN v = a := by unfold regN; omega
            have eto : ¬ (v.dst < 1 ∨ 6 < v.dst ∨ m.core.inn (v.dst - 1).toNat = false) := fun h => h.elim c83 (fun h => h.elim c87 (fun h => by rw [show (v.dst - 1).toNat = b9 by omega] at h; rw [show m.core.inn b9 = true from c98] at h; cases h))
            have eW : moveW m.core v = moveM (m.R kn) v.o v.dst v.amt := by unfold moveW; rw [ekN]; rfl
            have m95 : Fx.Own w9 B 50 56 (.slice m.s.na (m.s.nn) (m.s.nc)) m.s.nn (Fx.flat 56 (fun kq => ndY (m.id kq) (m.par kq) (updA m.R kn ((moveM (m.R kn) v.o v.dst v.amt).1) kq))) := m94.congV (congrArg (fun q => Value.slice q m.s.nn m.s.nc) eq2.symm)
            have ee : doesE m.core v = 0 := by unfold doesE; rw [if_neg c12, if_neg c17, if_neg c64, if_neg c69, if_pos c74]; unfold movesE; rw [if_neg (show ¬ m.core.node v.node < 0 from c80), if_neg eto, eW]; exact c121
            refine ⟨congrArg (fun q => Ending.returned (Value.int .i64 q)) ee.symm, b16, fun _ => ⟨{ m with R := updA m.R kn (moveM (m.R kn) v.o v.dst v.amt).1 }, by symm; unfold doesC; rw [if_neg c12, if_neg c17, if_neg c64, if_neg c69, if_pos c74]; unfold movesC; rw [ekN, eW]; rfl, ?_⟩⟩
            exact { c := m88, n := m95, g := m89, tc := m90, t := m91, r := m92, pB := hLp, tB := hLtb, bn := bn, bg := bg, bt := bt, br := hL.br }
           ·refine Fx.L.v (.bool true) (Fx.x_neqT rfl rfl rfl c121) (Fx.L.nil (Fx.seqN (Fx.W.cond (b := true) rfl (fun _ => Fx.W.seq (Fx.W.list (Fx.L.v (.int .i64 ((moveM (m.R kn) v.o v.dst v.amt).2)) (x_move rfl q5) ?_))) (fun h => nomatch h))))
            refine Fx.L.v (.int .i64 ((moveM (m.R kn) v.o v.dst v.amt).2)) (x_assign rfl rfl) (Fx.L.nil (Fx.seqN (Fx.W.ret (Fx.seqR (Fx.blkR (Fx.seqR (⟨.int .i64 ((moveM (m.R kn) v.o v.dst v.amt).2), Fx.retV1 Try.results104 (by exact rfl), ?_⟩)))))))
            have eN : regN v = a := by unfold regN; omega
            have eto : ¬ (v.dst < 1 ∨ 6 < v.dst ∨ m.core.inn (v.dst - 1).toNat = false) := fun h => h.elim c83 (fun h => h.elim c87 (fun h => by rw [show (v.dst - 1).toNat = b9 by omega] at h; rw [show m.core.inn b9 = true from c98] at h; cases h))
            have eW : moveW m.core v = moveM (m.R kn) v.o v.dst v.amt := by unfold moveW; rw [ekN]; rfl
            have ee : doesE m.core v = (moveM (m.R kn) v.o v.dst v.amt).2 := by unfold doesE; rw [if_neg c12, if_neg c17, if_neg c64, if_neg c69, if_pos c74]; unfold movesE; rw [if_neg (show ¬ m.core.node v.node < 0 from c80), if_neg eto, eW]
            exact ⟨congrArg (fun q => Ending.returned (Value.int .i64 q)) ee.symm, b14, fun h0 => by rw [ee] at h0; exact absurd h0 c121⟩
         ·rw [Bool.not_eq_true] at c98
          refine Fx.Qt.v (.bool false) (fun v1 hv1 => x_load1 (x := ldY m) rfl rfl (by kernel_rfl) (by obtain ⟨qd, rfl⟩ := hv1; exact m42.cel) (i := b9) (by omega) (by omega) ((ldY_st _ (by omega) (stY_in _ (by omega))).trans (congrArg Value.bool c98))) (Fx.Qt.v (.bool true) (fun v1 hv1 => Fx.x_notT rfl rfl) (Fx.Qt.v (.bool true) (fun v1 hv1 => x_pickF rfl rfl rfl) (Fx.Qt.nil ?_)))
          rintro _ ⟨qd, rfl⟩
          obtain ⟨wq6, ewq6⟩ : ∃ v1, v1 = World.drewN w7 qd := ⟨_, rfl⟩
          rw [← ewq6]
          have s14 : Fx.Stp w7.heap.size w7 wq6 := by rw [ewq6]; exact Fx.Stp.of_below (bdrN w7 qd)
          have b17 := s14.below b10 (Nat.le_trans hB b10.size) (Nat.le_trans hB b10.size)
          clear ewq6
          refine Fx.seqN (Fx.W.cond (b := true) rfl (fun _ => Fx.W.seq (Fx.W.list (Fx.L.v (.int .i64 (10)) (x_assign rfl rfl) ?_))) (fun h => nomatch h))
          refine Fx.L.nil (Fx.seqN (Fx.W.ret (Fx.seqR (Fx.blkR (Fx.seqR (⟨.int .i64 (10), Fx.retV1 Try.results104 (by exact rfl), ?_⟩))))))
          have eN : regN v = a := by unfold regN; omega
          have ee : doesE m.core v = 10 := by unfold doesE; rw [if_neg c12, if_neg c17, if_neg c64, if_neg c69, if_pos c74]; unfold movesE; rw [if_neg (show ¬ m.core.node v.node < 0 from c80)]; exact if_pos (.inr (.inr (by rw [show (v.dst - 1).toNat = b9 by omega]; exact c98)))
          exact ⟨congrArg (fun q => Ending.returned (Value.int .i64 q)) ee.symm, b17, fun h0 => by rw [ee] at h0; cases h0⟩
     ·refine Fx.L.v (.bool false) (x_eqlF rfl rfl rfl c74) (Fx.L.v (.bool false) (x_assign rfl rfl) (Fx.L.nil (Fx.seqN (Fx.W.cond (b := false) rfl (fun h => nomatch h) (fun _ => Fx.W.seq (Fx.W.list ?_))))))
      by_cases c133 : v.kind = 6
      ·refine Fx.L.v (.bool true) (x_eqlT rfl rfl rfl c133) (Fx.L.v (.bool true) (x_assign rfl rfl) (Fx.L.nil (Fx.seqN (Fx.W.cond (b := true) rfl (fun _ => ?_) (fun h => nomatch h)))))
       have hLc := m2.c
       have hLn := m2.n
       have hLg := m2.g
       have hLt := m2.tc
       have hLtr := m2.t
       have hLr := m2.r
       obtain ⟨b9, hb9, eb9⟩ := fields_to hmay c133
       -- region 26 draws
       refine Fx.W.reord [0, 1, 4, 5, 6, 2, 3, 7, 8] [0, 0, 4, 0, 0, 0, 0, 0, 3] Fx.Mk Fx.Mk.refl Fx.Mk.trans (certs := [(8, 2, [2])]) (by kernel_rfl) (by kernel_rfl) (by kernel_rfl) (by kernel_rfl) (by kernel_rfl) fun wt3 hbwt3 hzwt3 => ?_
       have s15 : Fx.Stp w1.heap.size w1 wt3 := Fx.Stp.of_below hbwt3
       have m103 := m1.stp s15 (Nat.ne_of_lt (m1.lt))
       have m104 := hLc.stp s15 (Nat.ne_of_lt (hLc.lt))
       have m105 := hLn.stp s15 (hLn.notNew (Nat.le_refl _))
       have m106 := hLg.stp s15 (hLg.notNew (Nat.le_refl _))
       have m107 := hLt.stp s15 (Nat.ne_of_lt (hLt.lt))
       have m108 := hLtr.stp s15 (hLtr.notNew (Nat.le_refl _))
       have m109 := hLr.up s15.old
       have b18 := s15.below b1 (Nat.le_trans hB b1.size) (Nat.le_trans hB b1.size)
       refine Fx.R.p (.pointer (some ⟨p, 0, none⟩)) (fun v1 => x_move rfl rfl) (Fx.R.p (.pointer (some ⟨g1, 10, none⟩)) (fun v1 => x_field rfl rfl Try.underlying54 rfl (s := 1) (by kernel_rfl) rfl (by show _ + 10 = _; omega)) (Fx.R.p (.pointer (some ⟨p, 0, none⟩)) (fun v1 => x_nil rfl rfl) (Fx.R.p (.pointer (some ⟨p, 0, none⟩)) (fun v1 => x_field rfl rfl Try.underlying71 rfl (s := 20) (by kernel_rfl) rfl rfl) (Fx.R.p (.pointer (some ⟨p, 0, none⟩)) (fun v1 => x_field rfl rfl Try.underlying43 rfl (s := 6) (by kernel_rfl) rfl rfl) (Fx.R.s (.int .i64 (v.dst)) (x_load1 (x := evY v) rfl rfl (by kernel_rfl) m103.cel (i := 10) (by omega) (by omega) rfl) ?_)))))
       refine Fx.R.p (.int .i64 ((b9 : Int))) (fun v1 => Fx.x_sub rfl rfl rfl (Fx.i64e (by omega) (by omega))) (Fx.R.p (.pointer (some ⟨p, b9, none⟩)) (fun v1 => x_index rfl rfl rfl Try.underlying39 (s := 1) (by kernel_rfl) (by omega) (by omega) (by omega)) (Fx.R.eff (by rfl) ?_))
       refine Fx.L.store1 (x := ldY m) (u := .bool true) (by rfl) rfl rfl rfl rfl (by rfl) (by kernel_rfl) m104 (i := b9) (by omega) fun w10 m110 s16 z4 => ?_
       have hct3 := Fx.ChT.of_stp s16 m104.ty
       have m112 := m105.chT hct3 (by decide)
       have m113 := m106.chT hct3 (by decide)
       have m114 := m107.chT hct3 (by decide)
       have m115 := m108.chT hct3 (by decide)
       have m116 := m109.chT hct3 (by decide)
       have b19 := s16.below b18 (Nat.le_trans hB b18.size) (by omega)
       refine Fx.L.nil (Fx.R.nil (Fx.blkN (Fx.seqN (Fx.W.seq (Fx.W.list (Fx.L.v (.int .i64 (0)) (x_assign rfl rfl) (Fx.L.nil (Fx.seqN (Fx.W.ret (⟨.int .i64 (0), Fx.retV1 Try.results104 (by exact rfl), ?_⟩))))))))))
       have eN : regN v = a := by unfold regN; omega
       have ee : doesE m.core v = 0 := by unfold doesE; rw [if_neg c12, if_neg c17, if_neg c64, if_neg c69, if_neg c74]
       refine ⟨congrArg (fun q => Ending.returned (Value.int .i64 q)) ee.symm, b19, fun _ => ⟨{ m with s := { m.s with inn := updA m.s.inn b9 true } }, by symm; unfold doesC; rw [if_neg c12, if_neg c17, if_neg c64, if_neg c69, if_neg c74, if_pos c133]; rw [show (v.dst - 1).toNat = b9 by omega]; rfl, ?_⟩⟩
       exact { c := m110.to (ldY_inn m hb9), n := m112, g := m113, tc := m114, t := m115, r := m116, pB := hLp, tB := hLtb, bn := bn, bg := bg, bt := bt, br := hL.br }
      ·refine Fx.L.v (.bool false) (x_eqlF rfl rfl rfl c133) (Fx.L.v (.bool false) (x_assign rfl rfl) (Fx.L.nil (Fx.seqN (Fx.W.cond (b := false) rfl (fun h => nomatch h) (fun _ => Fx.W.seq (Fx.W.list (Fx.L.v (.bool true) (x_eqlT rfl rfl rfl (by omega)) (Fx.L.v (.bool true) (x_assign rfl rfl) (Fx.L.nil (Fx.seqN (Fx.W.cond (b := true) rfl (fun _ => ?_) (fun h => nomatch h))))))))))))
       have hLc := m2.c
       have hLn := m2.n
       have hLg := m2.g
       have hLt := m2.tc
       have hLtr := m2.t
       have hLr := m2.r
       -- region 28 draws
       refine Fx.W.reord [0, 1, 4, 5, 6, 2, 3, 7, 8] [0, 0, 4, 0, 0, 0, 0, 0, 3] Fx.Mk Fx.Mk.refl Fx.Mk.trans (certs := [(8, 2, [2])]) (by kernel_rfl) (by kernel_rfl) (by kernel_rfl) (by kernel_rfl) (by kernel_rfl) fun wt4 hbwt4 hzwt4 => ?_
       have s17 : Fx.Stp w1.heap.size w1 wt4 := Fx.Stp.of_below hbwt4
       have m117 := m1.stp s17 (Nat.ne_of_lt (m1.lt))
       have m118 := hLc.stp s17 (Nat.ne_of_lt (hLc.lt))
       have m119 := hLn.stp s17 (hLn.notNew (Nat.le_refl _))
       have m120 := hLg.stp s17 (hLg.notNew (Nat.le_refl _))
       have m121 := hLt.stp s17 (Nat.ne_of_lt (hLt.lt))
       have m122 := hLtr.stp s17 (hLtr.notNew (Nat.le_refl _))
       have m123 := hLr.up s17.old
       have b20 := s17.below b1 (Nat.le_trans hB b1.size) (Nat.le_trans hB b1.size)
       refine Fx.R.p (.pointer (some ⟨p, 0, none⟩)) (fun v1 => x_move rfl rfl) (Fx.R.p (.pointer (some ⟨g1, 0, none⟩)) (fun v1 => x_field rfl rfl Try.underlying54 rfl (s := 1) (by kernel_rfl) rfl rfl) (Fx.R.p (.pointer (some ⟨p, 0, none⟩)) (fun v1 => x_nil rfl rfl) (Fx.R.p (.pointer (some ⟨p, 0, none⟩)) (fun v1 => x_field rfl rfl Try.underlying71 rfl (s := 20) (by kernel_rfl) rfl rfl) (Fx.R.p (.pointer (some ⟨p, 6, none⟩)) (fun v1 => x_field rfl rfl Try.underlying43 rfl (s := 6) (by kernel_rfl) rfl (by show _ + 6 = _; omega)) (Fx.R.s (.int .i64 (v.o)) (x_load1 (x := evY v) rfl rfl (by kernel_rfl) m117.cel (i := 0) (by omega) (by omega) rfl) ?_)))))
       refine Fx.R.p (.int .i64 ((a : Int))) (fun v1 => Fx.x_sub rfl rfl rfl (Fx.i64e (by omega) (by omega))) (Fx.R.p (.pointer (some ⟨p, a + 6, none⟩)) (fun v1 => x_index rfl rfl rfl Try.underlying39 (s := 1) (by kernel_rfl) (by omega) (by omega) (by omega)) (Fx.R.eff (by rfl) ?_))
       refine Fx.L.store1 (x := ldY m) (u := .bool true) (by rfl) rfl rfl rfl rfl (by rfl) (by kernel_rfl) m118 (i := a + 6) (by omega) fun w11 m124 s18 z5 => ?_
       have hct4 := Fx.ChT.of_stp s18 m118.ty
       have m126 := m119.chT hct4 (by decide)
       have m127 := m120.chT hct4 (by decide)
       have m128 := m121.chT hct4 (by decide)
       have m129 := m122.chT hct4 (by decide)
       have m130 := m123.chT hct4 (by decide)
       have b21 := s18.below b20 (Nat.le_trans hB b20.size) (by omega)
       refine Fx.L.nil (Fx.R.nil (Fx.blkN (Fx.seqN (Fx.W.seq (Fx.W.list (Fx.L.v (.int .i64 (0)) (x_assign rfl rfl) (Fx.L.nil (Fx.seqN (Fx.W.ret (⟨.int .i64 (0), Fx.retV1 Try.results104 (by exact rfl), ?_⟩))))))))))
       have eN : regN v = a := by unfold regN; omega
       have ee : doesE m.core v = 0 := by unfold doesE; rw [if_neg c12, if_neg c17, if_neg c64, if_neg c69, if_neg c74]
       refine ⟨congrArg (fun q => Ending.returned (Value.int .i64 q)) ee.symm, b21, fun _ => ⟨{ m with s := { m.s with left := updA m.s.left a true } }, by symm; unfold doesC; rw [if_neg c12, if_neg c17, if_neg c64, if_neg c69, if_neg c74, if_neg c133]; rw [eN]; rfl, ?_⟩⟩
       exact { c := m124.to (ldY_left m ha rfl), n := m126, g := m127, tc := m128, t := m129, r := m130, pB := hLp, tB := hLtb, bn := bn, bg := bg, bt := bt, br := hL.br }
namespace Rt
structure InvW (L : LdC) (T : Nat) : Prop where
  nn : L.nn ≤ 33
  gn : L.gn ≤ T
  rn : ∀ i, i < 6 → L.rn i ≤ T
  tn : ∀ x, L.node x = findT L.t L.tn x
  dx : ∀ x, ∃ D, D ≤ 1000 ∧ findT L.t L.tn (iterT L.t L.tn D x) < 0
  may : ∀ k, k < L.nn → may (L.R k) = true
  kn : KnOk L.known
open Classical in
noncomputable def applyE (L : LdC) (v : EvM) : Int :=
  if mayE v = false then 1 else if lateE L.known v = true then 14 else if readyE L.known v = false then 13 else if L.inn (regN v) = false ∨ L.left (regN v) = true then 10 else doesE L v
def knowC (L : LdC) (v : EvM) : LdC := { L with known := updA L.known (regN v) (L.known (regN v) + 1) }
open Classical in
noncomputable def applyC (L : LdC) (v : EvM) : LdC := if applyE L v = 0 then knowC (doesC L v) v else L
theorem doesC_known (L : LdC) (v : EvM) : (doesC L v).known = L.known := by
  unfold doesC
  split; · unfold makesC; rfl
  split; · unfold raiseC; rfl
  split; · unfold takesC addReq; rfl
  split; · unfold freesC addReq; rfl
  split; · unfold movesC; rfl
  split <;> rfl
end Rt
set_option maxRecDepth 20000 in
set_option maxHeartbeats 2000000 in
theorem l_apply (m : LdM) (B p T : Nat) (v : EvM) (w : World) (hL : LdO w B p m) (hv : EvWf v) (hI : InvW m.core T) (hT : T ≤ 900000) :
    Calls Try.prog 57 #[.pointer (some ⟨p, 0, none⟩), .agg (Fx.varr 14 (evY v))] w fun e w' => ∃ p' m', e = .returned (.tuple #[.pointer (some ⟨p', 0, none⟩), .int .i64 (applyE m.core v)]) ∧ m'.core = applyC m.core v ∧ LdO w' B p' m' ∧ Below w.heap.size w w' := by
 have hLc := hL.c
 have lpp : p < w.heap.size := hLc.lt
 have hpB := hL.pB
 refine Fx.enter Try.func57 rfl (n := 73) rfl (by rfl) ?_
 refine Fx.W.seq (Fx.W.list (Fx.L.box (m := 14) (y := evY v) (by rfl) rfl rfl (Fx.cells_agg _ _) rfl fun g1 w1 eg1 m1 s1 z1 => ?_))
 have m2 := hL.up s1.old
 have m3 := hLc.stp s1 (Nat.ne_of_lt (hLc.lt))
 have b1 := s1.below (Below.refl w.heap.size w) (Below.refl w.heap.size w).size (Below.refl w.heap.size w).size
 have lg1 : w.heap.size ≤ g1 := by rw [eg1]; exact (Below.refl w.heap.size w).size
 have ng1m3 : p ≠ g1 := by rw [eg1]; exact Nat.ne_of_lt (hLc.lt)
 have tg1 : g1 < w1.heap.size := m1.lt
 clear eg1
 refine Fx.L.v (.pointer none) (x_assign rfl rfl) (Fx.L.v (.int .i64 (0)) (x_assign rfl rfl) (Fx.L.nil (Fx.seqN (Fx.W.seq (Fx.W.seq (Fx.W.list (Fx.L.v (.agg (Fx.varr 14 (evY v))) (x_loadA (x := evY v) (y := evY v) rfl rfl (by kernel_rfl) (by kernel_rfl) m1.cel (i := 0) (by omega) (by omega) (fun j _ => by rw [Nat.zero_add])) ?_)))))))
 by_cases c10 : (mayE v) = true
 ·refine Fx.L.call (by rfl) (Fx.r_call (args := [.agg (Fx.varr 14 (evY v))]) rfl rfl Try.func100 rfl rfl) rfl ((e_may v _ hv).mono ?_)
  rintro e w2 ⟨he, hb1⟩
  refine ⟨.bool true, by rw [he, c10], ?_⟩
  clear he
  have s2 := Fx.Stp.of_below hb1
  have m4 := m2.up s2.old
  have m5 := m3.stp s2 (Nat.ne_of_lt (m3.lt))
  have m6 := m1.stp s2 (Nat.ne_of_lt (m1.lt))
  have b2 := s2.below b1 b1.size b1.size
  refine Fx.L.v (.bool false) (Fx.x_notF rfl rfl) (Fx.L.nil (Fx.seqN (Fx.W.cond (b := false) rfl (fun h => nomatch h) (fun _ => Fx.W.skip (Fx.seqN (Fx.W.seq (Fx.W.seq ?_)))))))
  -- region 3 draws
  refine Fx.W.quiet (fun v1 => Below w2.heap.size w2 v1) (by kernel_rfl) (by kernel_rfl) (Below.refl _ _).drew ?_
  refine Fx.Qt.v (.pointer (some ⟨p, 0, none⟩)) (fun v1 hv1 => x_move rfl rfl) (Fx.Qt.v (.pointer (some ⟨p, 0, none⟩)) (fun v1 hv1 => x_nil rfl rfl) (Fx.Qt.v (.pointer (some ⟨p, 0, none⟩)) (fun v1 hv1 => x_field rfl rfl Try.underlying71 rfl (s := 20) (by kernel_rfl) rfl rfl) (Fx.Qt.v (.pointer (some ⟨p, 12, none⟩)) (fun v1 hv1 => x_field rfl rfl Try.underlying43 rfl (s := 6) (by kernel_rfl) rfl (by show _ + 12 = _; omega)) (Fx.Qt.v (.agg (Fx.varr 6 (Fx.rv .u64 m.s.known))) (fun v1 hv1 => x_loadA (x := ldY m) (y := Fx.rv .u64 m.s.known) rfl rfl (by kernel_rfl) (by kernel_rfl) (m5.cel.below hv1 (by have := m5.lt; omega)) (i := 12) (by omega) (by omega) (fun j hj => ldY_st _ (by omega) (stY_known _ hj (by omega)))) (Fx.Qt.v (.agg (Fx.varr 14 (evY v))) (fun v1 hv1 => x_loadA (x := evY v) (y := evY v) rfl rfl (by kernel_rfl) (by kernel_rfl) (m6.cel.below hv1 (by have := m6.lt; omega)) (i := 0) (by omega) (by omega) (fun j _ => by rw [Nat.zero_add])) ?_)))))
  by_cases c19 : (lateE m.s.known v) = true
  ·refine Fx.Qt.call (v := .bool true) (by rfl) (fun v1 hv1 => Fx.r_call (args := [.agg (Fx.varr 6 (Fx.rv .u64 m.s.known)), .agg (Fx.varr 14 (evY v))]) rfl rfl Try.func101 rfl rfl) rfl (fun v1 hv1 => (e_late m.s.known v _ hv).mono fun e v2 h => ⟨by rw [h.1, c19], bch hv1 h.2⟩) ?_
   refine Fx.Qt.nil ?_
   intro wb1 hbwb1
   have s3 : Fx.Stp w2.heap.size w2 wb1 := Fx.Stp.of_below hbwb1
   have m7 := m4.up s3.old
   have b3 := s3.below b2 b2.size b2.size
   refine Fx.seqN (Fx.W.cond (b := true) rfl (fun _ => Fx.W.seq (Fx.W.list (Fx.L.v (.pointer (some ⟨p, 0, none⟩)) (x_move rfl rfl) ?_))) (fun h => nomatch h))
   refine Fx.L.v (.pointer (some ⟨p, 0, none⟩)) (x_assign rfl rfl) (Fx.L.v (.int .i64 (14)) (x_assign rfl rfl) (Fx.L.nil (Fx.seqN (Fx.W.ret (Fx.seqR (⟨.tuple #[.pointer (some ⟨p, 0, none⟩), .int .i64 (14)], Fx.retV2 Try.results57 (by exact rfl) (by exact rfl), ?_⟩))))))
   have ee : applyE m.core v = 14 := by unfold applyE; rw [if_neg (by rw [c10]; decide)]; exact if_pos c19
   have ec : applyC m.core v = m.core := by unfold applyC; rw [if_neg (by rw [ee]; decide)]
   exact ⟨p, m, by rw [ee], ec.symm, m7, b3⟩
  ·rw [Bool.not_eq_true] at c19
   refine Fx.Qt.call (v := .bool false) (by rfl) (fun v1 hv1 => Fx.r_call (args := [.agg (Fx.varr 6 (Fx.rv .u64 m.s.known)), .agg (Fx.varr 14 (evY v))]) rfl rfl Try.func101 rfl rfl) rfl (fun v1 hv1 => (e_late m.s.known v _ hv).mono fun e v2 h => ⟨by rw [h.1, c19], bch hv1 h.2⟩) ?_
   refine Fx.Qt.nil ?_
   intro wb2 hbwb2
   have s4 : Fx.Stp w2.heap.size w2 wb2 := Fx.Stp.of_below hbwb2
   have m10 := m4.up s4.old
   have m11 := m5.stp s4 (Nat.ne_of_lt (m5.lt))
   have m12 := m6.stp s4 (Nat.ne_of_lt (m6.lt))
   have b4 := s4.below b2 b2.size b2.size
   refine Fx.seqN (Fx.W.cond (b := false) rfl (fun h => nomatch h) (fun _ => Fx.W.skip (Fx.seqN (Fx.W.seq (Fx.W.seq ?_)))))
   -- region 5 draws
   refine Fx.W.quiet (fun v1 => Below wb2.heap.size wb2 v1) (by kernel_rfl) (by kernel_rfl) (Below.refl _ _).drew ?_
   refine Fx.Qt.v (.pointer (some ⟨p, 0, none⟩)) (fun v1 hv1 => x_move rfl rfl) (Fx.Qt.v (.pointer (some ⟨p, 0, none⟩)) (fun v1 hv1 => x_nil rfl rfl) (Fx.Qt.v (.pointer (some ⟨p, 0, none⟩)) (fun v1 hv1 => x_field rfl rfl Try.underlying71 rfl (s := 20) (by kernel_rfl) rfl rfl) (Fx.Qt.v (.pointer (some ⟨p, 12, none⟩)) (fun v1 hv1 => x_field rfl rfl Try.underlying43 rfl (s := 6) (by kernel_rfl) rfl (by show _ + 12 = _; omega)) (Fx.Qt.v (.agg (Fx.varr 6 (Fx.rv .u64 m.s.known))) (fun v1 hv1 => x_loadA (x := ldY m) (y := Fx.rv .u64 m.s.known) rfl rfl (by kernel_rfl) (by kernel_rfl) (m11.cel.below hv1 (by have := m11.lt; omega)) (i := 12) (by omega) (by omega) (fun j hj => ldY_st _ (by omega) (stY_known _ hj (by omega)))) (Fx.Qt.v (.agg (Fx.varr 14 (evY v))) (fun v1 hv1 => x_loadA (x := evY v) (y := evY v) rfl rfl (by kernel_rfl) (by kernel_rfl) (m12.cel.below hv1 (by have := m12.lt; omega)) (i := 0) (by omega) (by omega) (fun j _ => by rw [Nat.zero_add])) ?_)))))
   by_cases c27 : (readyE m.s.known v) = true
   ·refine Fx.Qt.call (v := .bool true) (by rfl) (fun v1 hv1 => Fx.r_call (args := [.agg (Fx.varr 6 (Fx.rv .u64 m.s.known)), .agg (Fx.varr 14 (evY v))]) rfl rfl Try.func102 rfl rfl) rfl (fun v1 hv1 => (e_ready m.s.known v _ hv hI.kn).mono fun e v2 h => ⟨by rw [h.1, c27], bch hv1 h.2⟩) ?_
    refine Fx.Qt.v (.bool false) (fun v1 hv1 => Fx.x_notF rfl rfl) (Fx.Qt.nil ?_)
    intro wb3 hbwb3
    have s5 : Fx.Stp wb2.heap.size wb2 wb3 := Fx.Stp.of_below hbwb3
    have m13 := m10.up s5.old
    have m14 := m11.stp s5 (Nat.ne_of_lt (m11.lt))
    have m15 := m12.stp s5 (Nat.ne_of_lt (m12.lt))
    have b5 := s5.below b4 b4.size b4.size
    refine Fx.seqN (Fx.W.cond (b := false) rfl (fun h => nomatch h) (fun _ => Fx.W.skip (Fx.seqN (Fx.W.seq ?_))))
    obtain ⟨a, ha, ho⟩ := regE_nat (may_reg c10)
    refine Fx.W.list (Fx.L.v (.pointer (some ⟨g1, 0, none⟩)) (x_field rfl rfl Try.underlying54 rfl (s := 1) (by kernel_rfl) rfl rfl) (Fx.L.v (.int .i64 (v.o)) (x_load1 (x := evY v) rfl rfl (by kernel_rfl) m15.cel (i := 0) (by omega) (by omega) rfl) (Fx.L.v (.int .i64 ((a : Int))) (Fx.x_sub rfl rfl rfl (Fx.i64e (by omega) (by omega))) (Fx.L.v (.int .i64 ((a : Int))) (x_assign rfl rfl) (Fx.L.nil (Fx.seqN (Fx.W.seq (Fx.W.seq (Fx.W.list (Fx.L.v (.pointer (some ⟨p, 0, none⟩)) (x_move rfl rfl) (Fx.L.v (.int .i64 ((a : Int))) (x_move rfl rfl) (Fx.L.v (.pointer (some ⟨p, 0, none⟩)) (x_nil rfl rfl) (Fx.L.v (.pointer (some ⟨p, 0, none⟩)) (x_field rfl rfl Try.underlying71 rfl (s := 20) (by kernel_rfl) rfl rfl) (Fx.L.v (.pointer (some ⟨p, 0, none⟩)) (x_field rfl rfl Try.underlying43 rfl (s := 6) (by kernel_rfl) rfl rfl) (Fx.L.v (.pointer (some ⟨p, a, none⟩)) (x_index rfl rfl rfl Try.underlying39 (s := 1) (by kernel_rfl) (by omega) (by omega) (by omega)) ?_)))))))))))))))
    by_cases c39 : (m.s.inn a) = true
    ·refine Fx.L.v (.bool true) (x_load1 (x := ldY m) rfl rfl (by kernel_rfl) m14.cel (i := a) (by omega) (by omega) ((ldY_st _ (by omega) (stY_in _ (by omega))).trans (congrArg Value.bool c39))) (Fx.L.v (.bool false) (Fx.x_notF rfl rfl) (Fx.L.v (.bool false) (x_move rfl rfl) (Fx.L.v (.pointer (some ⟨p, 0, none⟩)) (x_move rfl rfl) (Fx.L.v (.int .i64 ((a : Int))) (x_move rfl rfl) (Fx.L.v (.pointer (some ⟨p, 0, none⟩)) (x_nil rfl rfl) (Fx.L.v (.pointer (some ⟨p, 0, none⟩)) (x_field rfl rfl Try.underlying71 rfl (s := 20) (by kernel_rfl) rfl rfl) (Fx.L.v (.pointer (some ⟨p, 6, none⟩)) (x_field rfl rfl Try.underlying43 rfl (s := 6) (by kernel_rfl) rfl (by show _ + 6 = _; omega)) (Fx.L.v (.pointer (some ⟨p, a + 6, none⟩)) (x_index rfl rfl rfl Try.underlying39 (s := 1) (by kernel_rfl) (by omega) (by omega) (by omega)) ?_))))))))
     by_cases c48 : (m.s.left a) = true
     ·refine Fx.L.v (.bool true) (x_load1 (x := ldY m) rfl rfl (by kernel_rfl) m14.cel (i := a + 6) (by omega) (by omega) ((ldY_st _ (by omega) (stY_left _ (by omega) (by omega))).trans (congrArg Value.bool c48))) (Fx.L.v (.bool true) (x_pickF rfl rfl rfl) (Fx.L.nil (Fx.seqN (Fx.W.cond (b := true) rfl (fun _ => Fx.W.seq (Fx.W.list (Fx.L.v (.pointer (some ⟨p, 0, none⟩)) (x_move rfl rfl) ?_))) (fun h => nomatch h)))))
      refine Fx.L.v (.pointer (some ⟨p, 0, none⟩)) (x_assign rfl rfl) (Fx.L.v (.int .i64 (10)) (x_assign rfl rfl) (Fx.L.nil (Fx.seqN (Fx.W.ret (Fx.seqR (⟨.tuple #[.pointer (some ⟨p, 0, none⟩), .int .i64 (10)], Fx.retV2 Try.results57 (by exact rfl) (by exact rfl), ?_⟩))))))
      have eN : regN v = a := by unfold regN; omega
      have ee : applyE m.core v = 10 := by unfold applyE; rw [if_neg (by rw [c10]; decide), if_neg (by rw [show lateE m.core.known v = false from c19]; decide), if_neg (by rw [show readyE m.core.known v = true from c27]; decide), eN]; exact if_pos (.inr c48)
      have ec : applyC m.core v = m.core := by unfold applyC; rw [if_neg (by rw [ee]; decide)]
      exact ⟨p, m, by rw [ee], ec.symm, m13, b5⟩
     ·rw [Bool.not_eq_true] at c48
      refine Fx.L.v (.bool false) (x_load1 (x := ldY m) rfl rfl (by kernel_rfl) m14.cel (i := a + 6) (by omega) (by omega) ((ldY_st _ (by omega) (stY_left _ (by omega) (by omega))).trans (congrArg Value.bool c48))) (Fx.L.v (.bool false) (x_pickF rfl rfl rfl) (Fx.L.nil (Fx.seqN (Fx.W.cond (b := false) rfl (fun h => nomatch h) (fun _ => Fx.W.skip (Fx.seqN (Fx.W.seq (Fx.W.list (Fx.L.v (.pointer (some ⟨p, 0, none⟩)) (x_move rfl rfl) (Fx.L.call (by rfl) (Fx.r_call (args := [.pointer (some ⟨p, 0, none⟩)]) rfl rfl Try.func103 rfl rfl) rfl ((l_copy m p _ m13.ldg (by have := hI.nn; have e : m.core.nn = m.s.nn := rfl; omega) m13.bt).mono ?_)))))))))))
      rintro e w3 ⟨p2, m2, he, hco, hL2, hbc⟩
      refine ⟨.pointer (some ⟨p2, 0, none⟩), he, ?_⟩
      clear he
      have s6 := Fx.Stp.of_below hbc
      have m18 := m15.stp s6 (Nat.ne_of_lt (m15.lt))
      have b6 := s6.below b5 b5.size b5.size
      have hI2 : InvW m2.core T := by rw [hco]; exact hI
      refine Fx.L.v (.pointer (some ⟨p2, 0, none⟩)) (x_assign rfl rfl) (Fx.L.nil (Fx.seqN (Fx.W.seq ?_)))
      have hL2s := hL2
      refine Fx.W.list (Fx.L.v (.pointer (some ⟨p2, 0, none⟩)) (x_move rfl rfl) (Fx.L.v (.agg (Fx.varr 14 (evY v))) (x_loadA (x := evY v) (y := evY v) rfl rfl (by kernel_rfl) (by kernel_rfl) m18.cel (i := 0) (by omega) (by omega) (fun j _ => by rw [Nat.zero_add])) (Fx.L.call (by rfl) (Fx.r_call (args := [.pointer (some ⟨p2, 0, none⟩), .agg (Fx.varr 14 (evY v))]) rfl rfl Try.func104 rfl rfl) rfl ((l_does m2 wb3.heap.size p2 a v _ hL2s hbc.size ha ho (by have h9 : m2.s.nn ≤ 33 := hI2.nn; omega) (Nat.le_trans hI2.gn hT) (fun i hi => Nat.le_trans (hI2.rn i hi) hT) hI2.tn hI2.dx hv c10 hI2.may).mono ?_))))
      rintro e w4 ⟨he, hbd, hL3⟩
      refine ⟨.int .i64 (doesE m.core v), by rw [← hco]; exact he, ?_⟩
      clear he
      rw [hco] at hL3
      have b8 : Below wb3.heap.size wb3 w4 := hbc.trans hbd
      have b7 : Below w.heap.size w w4 := b6.trans (hbd.mono (Nat.le_trans (Nat.le_refl _) b5.size))
      have m19 : LdO w4 B p m := m13.up b8
      refine Fx.L.v (.int .i64 (doesE m.core v)) (x_assign rfl rfl) (Fx.L.nil (Fx.seqN (Fx.W.seq (Fx.W.seq (Fx.W.list (Fx.L.v (.int .i64 (doesE m.core v)) (x_move rfl rfl) ?_))))))
      by_cases c57 : (doesE m.core v) = 0
      ·refine Fx.L.v (.bool false) (Fx.x_neqF rfl rfl rfl c57) (Fx.L.nil (Fx.seqN (Fx.W.cond (b := false) rfl (fun h => nomatch h) (fun _ => Fx.W.skip (Fx.seqN (Fx.W.seq ?_))))))
       obtain ⟨m3, hc3, hL3b⟩ := hL3 c57
       have hMc := hL3b.c
       have hMn := hL3b.n
       have hMg := hL3b.g
       have hMt := hL3b.tc
       have hMtr := hL3b.t
       have hMr := hL3b.r
       have ek3 : m3.s.known = m.s.known := by show m3.core.known = _; rw [hc3, doesC_known]; rfl
       have hk3 := hI.kn a ha
       have hk3 : 0 ≤ m3.s.known a ∧ m3.s.known a < 1099511627776 := by rw [ek3]; exact hk3
       have lp2 := hL3b.pB
       have sw1 := b5.size
       -- region 14 draws
       refine Fx.W.reord [0, 1, 2, 3, 4, 5, 8, 9, 10, 6, 7, 11, 12] [0, 0, 0, 0, 0, 0, 4, 0, 0, 0, 0, 0, 3] Fx.Mk Fx.Mk.refl Fx.Mk.trans (certs := [(12, 6, [6])]) (by kernel_rfl) (by kernel_rfl) (by kernel_rfl) (by kernel_rfl) (by kernel_rfl) fun wt1 hbwt1 hzwt1 => ?_
       have s7 : Fx.Stp w4.heap.size w4 wt1 := Fx.Stp.of_below hbwt1
       have m20 := hMc.stp s7 (Nat.ne_of_lt (hMc.lt))
       have m21 := hMn.stp s7 (hMn.notNew (Nat.le_refl _))
       have m22 := hMg.stp s7 (hMg.notNew (Nat.le_refl _))
       have m23 := hMt.stp s7 (Nat.ne_of_lt (hMt.lt))
       have m24 := hMtr.stp s7 (hMtr.notNew (Nat.le_refl _))
       have m25 := hMr.up s7.old
       have b9 := s7.below b7 b7.size b7.size
       refine Fx.R.p (.pointer (some ⟨p2, 0, none⟩)) (fun v1 => x_move rfl rfl) (Fx.R.p (.int .i64 ((a : Int))) (fun v1 => x_move rfl rfl) (Fx.R.p (.pointer (some ⟨p2, 0, none⟩)) (fun v1 => x_nil rfl rfl) (Fx.R.p (.pointer (some ⟨p2, 0, none⟩)) (fun v1 => x_field rfl rfl Try.underlying71 rfl (s := 20) (by kernel_rfl) rfl rfl) (Fx.R.p (.pointer (some ⟨p2, 12, none⟩)) (fun v1 => x_field rfl rfl Try.underlying43 rfl (s := 6) (by kernel_rfl) rfl (by show _ + 12 = _; omega)) (Fx.R.p (.pointer (some ⟨p2, a + 12, none⟩)) (fun v1 => x_index rfl rfl rfl Try.underlying29 (s := 1) (by kernel_rfl) (by omega) (by omega) (by omega)) (Fx.R.p (.pointer (some ⟨p2, 0, none⟩)) (fun v1 => x_nil rfl rfl) (Fx.R.p (.pointer (some ⟨p2, 0, none⟩)) (fun v1 => x_field rfl rfl Try.underlying71 rfl (s := 20) (by kernel_rfl) rfl rfl) (Fx.R.p (.pointer (some ⟨p2, 12, none⟩)) (fun v1 => x_field rfl rfl Try.underlying43 rfl (s := 6) (by kernel_rfl) rfl (by show _ + 12 = _; omega)) (Fx.R.s (.int .u64 (m3.s.known a)) (x_load1 (x := ldY m3) rfl rfl (by kernel_rfl) m20.cel (i := a + 12) (by omega) (by omega) (ldY_st _ (by omega) (stY_known _ (by omega) (by omega)))) ?_)))))))))
       refine Fx.R.p (.int .u64 (m3.s.known a + 1)) (fun v1 => Fx.x_add rfl rfl rfl (Fx.u64e (by omega) (by omega))) (Fx.R.p (.pointer (some ⟨p2, a + 12, none⟩)) (fun v1 => x_index rfl rfl rfl Try.underlying29 (s := 1) (by kernel_rfl) (by omega) (by omega) (by omega)) (Fx.R.eff (by rfl) ?_))
       refine Fx.L.store1 (x := ldY m3) (u := .int .u64 (m3.s.known a + 1)) (by rfl) rfl rfl rfl rfl (by rfl) (by kernel_rfl) m20 (i := a + 12) (by omega) fun w5 m26 s8 z2 => ?_
       have hct1 := Fx.ChT.of_stp s8 m20.ty
       have m27 := m21.chT hct1 (by decide)
       have m28 := m22.chT hct1 (by decide)
       have m29 := m23.chT hct1 (by decide)
       have m30 := m24.chT hct1 (by decide)
       have m31 := m25.chT hct1 (by decide)
       have b10 := s8.below b9 b9.size (by omega)
       refine Fx.L.nil (Fx.R.nil (Fx.seqN (Fx.W.seq (Fx.W.list (Fx.L.v (.pointer (some ⟨p2, 0, none⟩)) (x_move rfl rfl) (Fx.L.v (.pointer (some ⟨p2, 0, none⟩)) (x_assign rfl rfl) (Fx.L.v (.int .i64 (0)) (x_assign rfl rfl) (Fx.L.nil (Fx.seqN (Fx.W.ret (⟨.tuple #[.pointer (some ⟨p2, 0, none⟩), .int .i64 (0)], Fx.retV2 Try.results57 (by exact rfl) (by exact rfl), ?_⟩)))))))))))
       have eN : regN v = a := by unfold regN; omega
       have ee : applyE m.core v = 0 := by unfold applyE; rw [if_neg (by rw [c10]; decide), if_neg (by rw [show lateE m.core.known v = false from c19]; decide), if_neg (by rw [show readyE m.core.known v = true from c27]; decide), eN]; rw [if_neg (show ¬ (m.core.inn a = false ∨ m.core.left a = true) from fun h => h.elim (fun h => by rw [show m.core.inn a = true from c39] at h; cases h) (fun h => by rw [show m.core.left a = false from c48] at h; cases h))]; exact c57
       have hfin : LdO w5 wb3.heap.size p2 { m3 with s := { m3.s with known := updA m3.s.known a (m3.s.known a + 1) } } := { c := m26.to (ldY_known m3 ha rfl _), n := m27, g := m28, tc := m29, t := m30, r := m31, pB := hL3b.pB, tB := hL3b.tB, bn := hL3b.bn, bg := hL3b.bg, bt := hL3b.bt, br := hL3b.br }
       refine ⟨p2, { m3 with s := { m3.s with known := updA m3.s.known a (m3.s.known a + 1) } }, by rw [ee], ?_, hfin.mono (by have := hL.pB; have := lpp; omega), b10⟩
       unfold applyC; rw [if_pos ee]; unfold knowC; rw [eN, doesC_known, ← hc3, show m.core.known = m3.s.known from ek3.symm]; rfl
      ·refine Fx.L.v (.bool true) (Fx.x_neqT rfl rfl rfl c57) (Fx.L.nil (Fx.seqN (Fx.W.cond (b := true) rfl (fun _ => Fx.W.seq (Fx.W.list (Fx.L.v (.pointer (some ⟨p, 0, none⟩)) (x_move rfl rfl) ?_))) (fun h => nomatch h))))
       refine Fx.L.v (.int .i64 (doesE m.core v)) (x_move rfl rfl) (Fx.L.v (.pointer (some ⟨p, 0, none⟩)) (x_assign rfl rfl) (Fx.L.v (.int .i64 (doesE m.core v)) (x_assign rfl rfl) (Fx.L.nil (Fx.seqN (Fx.W.ret (Fx.seqR (⟨.tuple #[.pointer (some ⟨p, 0, none⟩), .int .i64 (doesE m.core v)], Fx.retV2 Try.results57 (by exact rfl) (by exact rfl), ?_⟩)))))))
       have eN : regN v = a := by unfold regN; omega
       have ee : applyE m.core v = doesE m.core v := by unfold applyE; rw [if_neg (by rw [c10]; decide), if_neg (by rw [show lateE m.core.known v = false from c19]; decide), if_neg (by rw [show readyE m.core.known v = true from c27]; decide), eN]; rw [if_neg (show ¬ (m.core.inn a = false ∨ m.core.left a = true) from fun h => h.elim (fun h => by rw [show m.core.inn a = true from c39] at h; cases h) (fun h => by rw [show m.core.left a = false from c48] at h; cases h))]
       have ec : applyC m.core v = m.core := by unfold applyC; rw [if_neg (by rw [ee]; exact c57)]
       exact ⟨p, m, by rw [ee], ec.symm, m19, b7⟩
    ·rw [Bool.not_eq_true] at c39
     refine Fx.L.v (.bool false) (x_load1 (x := ldY m) rfl rfl (by kernel_rfl) m14.cel (i := a) (by omega) (by omega) ((ldY_st _ (by omega) (stY_in _ (by omega))).trans (congrArg Value.bool c39))) (Fx.L.v (.bool true) (Fx.x_notT rfl rfl) (Fx.L.v (.bool true) (x_move rfl rfl) (Fx.L.skip (by rfl) rfl (Fx.L.skip (by rfl) rfl (Fx.L.skip (by rfl) rfl (Fx.L.skip (by rfl) rfl (Fx.L.skip (by rfl) rfl (Fx.L.skip (by rfl) rfl (Fx.L.skip (by rfl) rfl (Fx.L.v (.bool true) (x_pickT rfl rfl rfl) (Fx.L.nil (Fx.seqN (Fx.W.cond (b := true) rfl (fun _ => Fx.W.seq (Fx.W.list (Fx.L.v (.pointer (some ⟨p, 0, none⟩)) (x_move rfl rfl) ?_))) (fun h => nomatch h))))))))))))))
     refine Fx.L.v (.pointer (some ⟨p, 0, none⟩)) (x_assign rfl rfl) (Fx.L.v (.int .i64 (10)) (x_assign rfl rfl) (Fx.L.nil (Fx.seqN (Fx.W.ret (Fx.seqR (⟨.tuple #[.pointer (some ⟨p, 0, none⟩), .int .i64 (10)], Fx.retV2 Try.results57 (by exact rfl) (by exact rfl), ?_⟩))))))
     have eN : regN v = a := by unfold regN; omega
     have ee : applyE m.core v = 10 := by unfold applyE; rw [if_neg (by rw [c10]; decide), if_neg (by rw [show lateE m.core.known v = false from c19]; decide), if_neg (by rw [show readyE m.core.known v = true from c27]; decide), eN]; exact if_pos (.inl c39)
     have ec : applyC m.core v = m.core := by unfold applyC; rw [if_neg (by rw [ee]; decide)]
     exact ⟨p, m, by rw [ee], ec.symm, m13, b5⟩
   ·rw [Bool.not_eq_true] at c27
    refine Fx.Qt.call (v := .bool false) (by rfl) (fun v1 hv1 => Fx.r_call (args := [.agg (Fx.varr 6 (Fx.rv .u64 m.s.known)), .agg (Fx.varr 14 (evY v))]) rfl rfl Try.func102 rfl rfl) rfl (fun v1 hv1 => (e_ready m.s.known v _ hv hI.kn).mono fun e v2 h => ⟨by rw [h.1, c27], bch hv1 h.2⟩) ?_
    refine Fx.Qt.v (.bool true) (fun v1 hv1 => Fx.x_notT rfl rfl) (Fx.Qt.nil ?_)
    intro wb4 hbwb4
    have s9 : Fx.Stp wb2.heap.size wb2 wb4 := Fx.Stp.of_below hbwb4
    have m32 := m10.up s9.old
    have b11 := s9.below b4 b4.size b4.size
    refine Fx.seqN (Fx.W.cond (b := true) rfl (fun _ => Fx.W.seq (Fx.W.list (Fx.L.v (.pointer (some ⟨p, 0, none⟩)) (x_move rfl rfl) ?_))) (fun h => nomatch h))
    refine Fx.L.v (.pointer (some ⟨p, 0, none⟩)) (x_assign rfl rfl) (Fx.L.v (.int .i64 (13)) (x_assign rfl rfl) (Fx.L.nil (Fx.seqN (Fx.W.ret (Fx.seqR (⟨.tuple #[.pointer (some ⟨p, 0, none⟩), .int .i64 (13)], Fx.retV2 Try.results57 (by exact rfl) (by exact rfl), ?_⟩))))))
    have ee : applyE m.core v = 13 := by unfold applyE; rw [if_neg (by rw [c10]; decide), if_neg (by rw [show lateE m.core.known v = false from c19]; decide)]; exact if_pos c27
    have ec : applyC m.core v = m.core := by unfold applyC; rw [if_neg (by rw [ee]; decide)]
    exact ⟨p, m, by rw [ee], ec.symm, m32, b11⟩
 ·rw [Bool.not_eq_true] at c10
  refine Fx.L.call (by rfl) (Fx.r_call (args := [.agg (Fx.varr 14 (evY v))]) rfl rfl Try.func100 rfl rfl) rfl ((e_may v _ hv).mono ?_)
  rintro e w6 ⟨he, hb2⟩
  refine ⟨.bool false, by rw [he, c10], ?_⟩
  clear he
  have s10 := Fx.Stp.of_below hb2
  have m35 := m2.up s10.old
  have b12 := s10.below b1 b1.size b1.size
  refine Fx.L.v (.bool true) (Fx.x_notT rfl rfl) (Fx.L.nil (Fx.seqN (Fx.W.cond (b := true) rfl (fun _ => Fx.W.seq (Fx.W.list (Fx.L.v (.pointer (some ⟨p, 0, none⟩)) (x_move rfl rfl) ?_))) (fun h => nomatch h))))
  refine Fx.L.v (.pointer (some ⟨p, 0, none⟩)) (x_assign rfl rfl) (Fx.L.v (.int .i64 (1)) (x_assign rfl rfl) (Fx.L.nil (Fx.seqN (Fx.W.ret (Fx.seqR (⟨.tuple #[.pointer (some ⟨p, 0, none⟩), .int .i64 (1)], Fx.retV2 Try.results57 (by exact rfl) (by exact rfl), ?_⟩))))))
  have ee : applyE m.core v = 1 := by unfold applyE; exact if_pos c10
  have ec : applyC m.core v = m.core := by unfold applyC; rw [if_neg (by rw [ee]; decide)]
  exact ⟨p, m, by rw [ee], ec.symm, m35, b12⟩
section
namespace Rt
structure Inv0 (L : LdC) (T : Nat) : Prop where
  tnn : L.tn = L.nn
  nn : L.nn ≤ 32
  tid : ∀ i, i < L.nn → L.t i 0 = L.id i ∧ L.t i 1 = L.par i
  rise : ∀ i j, i < j → j < L.nn → L.id i < L.id j
  pos : ∀ i, i < L.nn → 1 ≤ L.id i
  top : ∀ i, i < L.nn → L.id i < 7696581394432
  up : ∀ i, i < L.nn → L.par i = 0 ∨ ∃ j, j < L.nn ∧ L.id j = L.par i
  dep : ∀ x, ∃ D, D ≤ 4 ∧ findT L.t L.tn (iterT L.t L.tn D x) < 0
  gn : L.gn ≤ T
  rn : ∀ i, i < 6 → L.rn i ≤ T
  may : ∀ k, k < L.nn → may (L.R k) = true
  g47 : ∀ k, k < L.nn → ∀ a, a < 6 → L.R k a ≤ 140737488355328
  kn : KnOk L.known
theorem ilt (a : Int) : a < 0 ∨ 0 ≤ a := by omega
theorem findT_iff {t : Nat → Nat → Int} {tn : Nat} {x : Int} : 0 ≤ findT t tn x ↔ ∃ i, i < tn ∧ t i 0 = x := by
  constructor
  · intro h
    obtain ⟨j, hj, _, e⟩ := find_nat h
    exact ⟨j, hj, e⟩
  · rintro ⟨i, hi, e⟩
    rcases firstI_spec (fun i => decide (t i 0 = x)) tn with ⟨k, _, e2, _⟩ | ⟨_, h2⟩
    · unfold findT; rw [e2]; omega
    · have := h2 i hi; rw [decide_eq_true e] at this; cases this
theorem findT_no {t : Nat → Nat → Int} {tn : Nat} {x : Int} : findT t tn x < 0 ↔ ∀ i, i < tn → t i 0 ≠ x := by
  constructor
  · intro h i hi e
    have := findT_iff.2 ⟨i, hi, e⟩; omega
  · intro h
    rcases ilt (findT t tn x) with h1 | h1
    · exact h1
    · obtain ⟨i, hi, e⟩ := findT_iff.1 h1
      exact absurd e (h i hi)
theorem findT_at {t : Nat → Nat → Int} {tn i : Nat} (hu : ∀ i j, i < tn → j < tn → t i 0 = t j 0 → i = j) (hi : i < tn) : findT t tn (t i 0) = (i : Int) := by
  obtain ⟨j, hj, e, e2⟩ := find_nat (findT_iff.2 ⟨i, hi, rfl⟩)
  rw [e, hu j i hj hi e2]
theorem iter_shift {t : Nat → Nat → Int} {tn : Nat} {x : Int} : ∀ j, iterT t tn (j + 1) x = iterT t tn j (iterT t tn 1 x)
  | 0 => rfl
  | j + 1 => by
    show t (findT t tn (iterT t tn (j + 1) x)).toNat 1 = t (findT t tn (iterT t tn j (iterT t tn 1 x))).toNat 1
    rw [iter_shift j]
section
variable {L : LdC} {T : Nat}
theorem Inv0.inj (h : Inv0 L T) : ∀ i j, i < L.nn → j < L.nn → L.id i = L.id j → i = j := fun i j hi hj e => by
  rcases Nat.lt_trichotomy i j with h1 | h1 | h1
  · have := h.rise i j h1 hj; omega
  · exact h1
  · have := h.rise j i h1 hi; omega
theorem Inv0.tinj (h : Inv0 L T) : ∀ i j, i < L.tn → j < L.tn → L.t i 0 = L.t j 0 → i = j := fun i j hi hj e => by
  rw [h.tnn] at hi hj
  rw [(h.tid i hi).1, (h.tid j hj).1] at e
  exact h.inj i j hi hj e
theorem firstI_cong {P Q : Nat → Bool} : ∀ {n : Nat}, (∀ i, i < n → P i = Q i) → firstI P n = firstI Q n
  | 0, _ => rfl
  | n + 1, h => by
    simp only [firstI]
    rw [firstI_cong (n := n) fun i hi => h i (by omega), h n (by omega)]
theorem Inv0.node (h : Inv0 L T) (x : Int) : L.node x = findT L.t L.tn x := by
  unfold LdC.node findT
  rw [h.tnn]
  exact firstI_cong fun i hi => by rw [(h.tid i hi).1]
theorem Inv0.w (h : Inv0 L T) : InvW L T where
  nn := by have := h.nn; omega
  gn := h.gn
  rn := h.rn
  tn := h.node
  dx := fun x => by obtain ⟨D, hD, hx⟩ := h.dep x; exact ⟨D, by omega, hx⟩
  may := h.may
  kn := h.kn
theorem Inv0.mono {T' : Nat} (h : Inv0 L T) (hT : T ≤ T') : Inv0 L T' := { h with gn := Nat.le_trans h.gn hT, rn := fun i hi => Nat.le_trans (h.rn i hi) hT }
theorem insI_lt {α : Type} {f : Nat → α} {k i : Nat} {v : α} (h : i < k) : Fx.insI f k v i = f i := by unfold Fx.insI; rw [if_pos h]
theorem insI_eq {α : Type} {f : Nat → α} {k : Nat} {v : α} : Fx.insI f k v k = v := by unfold Fx.insI; rw [if_neg (by omega), if_pos rfl]
theorem insI_gt {α : Type} {f : Nat → α} {k i : Nat} {v : α} (h : k < i) : Fx.insI f k v i = f (i - 1) := by unfold Fx.insI; rw [if_neg (by omega), if_neg (by omega)]
theorem insI_old {k i n : Nat} (hk : k ≤ n) (hi : i < n + 1) : i = k ∨ ∃ j, j < n ∧ (∀ {α : Type} (f : Nat → α) (v : α), Fx.insI f k v i = f j) ∧ (j < k → i = j) ∧ (k ≤ j → i = j + 1) := by
  rcases Nat.lt_trichotomy i k with h | h | h
  · exact .inr ⟨i, by omega, fun f v => insI_lt h, fun _ => rfl, fun h2 => by omega⟩
  · exact .inl h
  · exact .inr ⟨i - 1, by omega, fun f v => insI_gt h, fun h2 => by omega, fun _ => by omega⟩
theorem insI_new {k j n : Nat} (hj : j < n) : ∃ i, i < n + 1 ∧ i ≠ k ∧ ∀ {α : Type} (f : Nat → α) (v : α), Fx.insI f k v i = f j := by
  by_cases h : j < k
  · exact ⟨j, by omega, by omega, fun f v => insI_lt h⟩
  · exact ⟨j + 1, by omega, by omega, fun f v => by rw [insI_gt (by omega)]; rfl⟩
theorem insT_eq (t : Nat → Nat → Int) (k : Nat) (id par : Int) (i : Nat) : insT t k id par i = Fx.insI t k (fun j => if j = 0 then id else par) i := rfl
theorem down_cong {P Q : Nat → Bool} : ∀ {n : Nat}, (∀ i, i < n → P i = Q i) → Fx.down P n = Fx.down Q n
  | 0, _ => rfl
  | n + 1, h => by
    unfold Fx.down
    rw [down_cong (n := n) fun i hi => h i (by omega), h n (by omega)]
structure TreeUp (t t' : Nat → Nat → Int) (tn : Nat) (id par : Int) : Prop where
  u : ∀ i j, i < tn → j < tn → t i 0 = t j 0 → i = j
  u' : ∀ i j, i < tn + 1 → j < tn + 1 → t' i 0 = t' j 0 → i = j
  no : ∀ i, i < tn → t i 0 ≠ id
  old : ∀ i, i < tn → ∃ j, j < tn + 1 ∧ t' j = t i
  new : ∃ j, j < tn + 1 ∧ t' j 0 = id ∧ t' j 1 = par
  back : ∀ j, j < tn + 1 → t' j 0 = id ∨ ∃ i, i < tn ∧ t' j = t i
variable {t t' : Nat → Nat → Int} {tn : Nat} {id par : Int}
theorem TreeUp.find (h : TreeUp t t' tn id par) {x : Int} : 0 ≤ findT t' (tn + 1) x ↔ (0 ≤ findT t tn x ∨ x = id) := by
  rw [findT_iff, findT_iff]
  constructor
  · rintro ⟨j, hj, e⟩
    rcases h.back j hj with h1 | ⟨i, hi, h1⟩
    · exact .inr (e.symm.trans h1)
    · exact .inl ⟨i, hi, by rw [← h1]; exact e⟩
  · rintro (⟨i, hi, e⟩ | e)
    · obtain ⟨j, hj, h1⟩ := h.old i hi
      exact ⟨j, hj, by rw [h1]; exact e⟩
    · obtain ⟨j, hj, h1, _⟩ := h.new
      exact ⟨j, hj, h1.trans e.symm⟩
theorem TreeUp.par_old (h : TreeUp t t' tn id par) {x : Int} (hx : 0 ≤ findT t tn x) : t' (findT t' (tn + 1) x).toNat 1 = t (findT t tn x).toNat 1 := by
  obtain ⟨i, hi, e⟩ := findT_iff.1 hx
  obtain ⟨j, hj, e2⟩ := h.old i hi
  have h1 : findT t tn x = (i : Int) := by rw [← e]; exact findT_at h.u hi
  have h2 : findT t' (tn + 1) x = (j : Int) := by
    have : t' j 0 = x := by rw [e2]; exact e
    rw [← this]; exact findT_at h.u' hj
  rw [h1, h2]
  show t' j 1 = t i 1
  rw [e2]
theorem TreeUp.iter (h : TreeUp t t' tn id par) {x : Int} : ∀ K, (∀ i, i < K → 0 ≤ findT t tn (iterT t tn i x)) → iterT t' (tn + 1) K x = iterT t tn K x
  | 0, _ => rfl
  | K + 1, hk => by
    have ih := TreeUp.iter h K fun i hi => hk i (by omega)
    show t' (findT t' (tn + 1) (iterT t' (tn + 1) K x)).toNat 1 = t (findT t tn (iterT t tn K x)).toNat 1
    rw [ih]; exact h.par_old (hk K (by omega))
theorem first_end {t : Nat → Nat → Int} {tn : Nat} {x : Int} : ∀ D, findT t tn (iterT t tn D x) < 0 → ∃ K, K ≤ D ∧ findT t tn (iterT t tn K x) < 0 ∧ ∀ i, i < K → 0 ≤ findT t tn (iterT t tn i x)
  | 0, h => ⟨0, Nat.le_refl _, h, fun _ hi => absurd hi (Nat.not_lt_zero _)⟩
  | D + 1, h => by
    by_cases hall : ∀ i, i < D + 1 → 0 ≤ findT t tn (iterT t tn i x)
    · exact ⟨D + 1, Nat.le_refl _, h, hall⟩
    · obtain ⟨i, hi⟩ := Classical.not_forall.1 hall
      obtain ⟨hi, h2⟩ := Classical.not_imp.1 hi
      rcases Nat.lt_or_ge i D with h3 | h3
      · -- an earlier end
        have : ∀ n, n ≤ D → (∃ j, j ≤ n ∧ findT t tn (iterT t tn j x) < 0) → ∃ K, K ≤ n ∧ findT t tn (iterT t tn K x) < 0 ∧ ∀ i, i < K → 0 ≤ findT t tn (iterT t tn i x) := by
          intro n
          induction n with
          | zero => rintro _ ⟨j, hj, hn⟩; obtain rfl : j = 0 := by omega
                    exact ⟨0, Nat.le_refl _, hn, fun _ hi => absurd hi (Nat.not_lt_zero _)⟩
          | succ n ih =>
            rintro hn ⟨j, hj, hj2⟩
            by_cases h5 : ∃ j, j ≤ n ∧ findT t tn (iterT t tn j x) < 0
            · obtain ⟨K, hK, h6⟩ := ih (by omega) h5; exact ⟨K, by omega, h6⟩
            · refine ⟨n + 1, Nat.le_refl _, ?_, fun i hi => ?_⟩
              · by_cases e : j = n + 1
                · rw [← e]; exact hj2
                · exact absurd ⟨j, by omega, hj2⟩ h5
              · rcases ilt (findT t tn (iterT t tn i x)) with h7 | h7
                · exact absurd ⟨i, by omega, h7⟩ h5
                · exact h7
        obtain ⟨K, hK, h4⟩ := this i (by omega) ⟨i, Nat.le_refl _, by omega⟩
        exact ⟨K, by omega, h4⟩
      · obtain rfl : i = D := by omega
        obtain ⟨K, hK, h4⟩ := first_end (t := t) (tn := tn) (x := x) i (by omega)
        exact ⟨K, by omega, h4⟩
theorem TreeUp.dep (h : TreeUp t t' tn id par) (hid : 1 ≤ id) (hup : ∀ i, i < tn → t i 1 = 0 ∨ 0 ≤ findT t tn (t i 1)) (hpar : par = 0 ∨ 0 ≤ findT t tn par) (hz : findT t tn 0 < 0) (hd : ∀ x, ∃ D, D ≤ 4 ∧ findT t tn (iterT t tn D x) < 0) (hdeep : ¬ deepT t tn par) :
    ∀ x, ∃ D, D ≤ 4 ∧ findT t' (tn + 1) (iterT t' (tn + 1) D x) < 0 := by
  -- an end of an old path is none of the new tree's nodes
  have hidn : findT t tn id < 0 := findT_no.2 h.no
  have key : ∀ x K, x ≠ id → findT t tn (iterT t tn K x) < 0 → (∀ i, i < K → 0 ≤ findT t tn (iterT t tn i x)) → findT t' (tn + 1) (iterT t' (tn + 1) K x) < 0 := fun x K hx hK hall => by
    rw [h.iter K hall]
    rcases ilt (findT t' (tn + 1) (iterT t tn K x)) with h1 | h1
    · exact h1
    · exfalso
      rcases h.find.1 h1 with h2 | h2
      · omega
      · cases K with
        | zero => exact hx h2
        | succ K =>
          have hf := hall K (by omega)
          obtain ⟨i, hi, e⟩ := findT_iff.1 hf
          have e3 : iterT t tn (K + 1) x = t i 1 := by
            show t (findT t tn (iterT t tn K x)).toNat 1 = t i 1
            rw [← e, findT_at h.u hi]; rfl
          rw [e3] at h2 hK
          rcases hup i hi with h4 | h4
          · omega
          · omega
  intro x
  by_cases hx : x = id
  · subst hx
    obtain ⟨i, hi⟩ := Classical.not_forall.1 hdeep
    obtain ⟨hi4, hi⟩ := Classical.not_imp.1 hi
    obtain ⟨K, hK, hK2, hall⟩ := first_end (t := t) (tn := tn) (x := par) i (by omega)
    refine ⟨K + 1, by omega, ?_⟩
    have e1 : iterT t' (tn + 1) 1 x = par := by
      obtain ⟨j, hj, e2, e3⟩ := h.new
      show t' (findT t' (tn + 1) x).toNat 1 = par
      rw [← e2, findT_at h.u' hj]; exact e3
    rw [iter_shift, e1]
    refine key par K ?_ hK2 hall
    rintro rfl
    rcases hpar with h1 | h1 <;> omega
  · obtain ⟨D, hD, hD2⟩ := hd x
    obtain ⟨K, hK, hK2, hall⟩ := first_end D hD2
    exact ⟨K, by omega, key x K hx hK2 hall⟩
end
end Rt
end
section
namespace Rt
section
variable {L : LdC} {T : Nat} {v : EvM}
theorem addE_ok {t : Nat → Nat → Int} {tn : Nat} {id par : Int} (h : addE t tn id par = 0) : id ≠ 0 ∧ findT t tn id < 0 ∧ (par = 0 ∨ 0 ≤ findT t tn par) ∧ tn < 32 ∧ ¬ deepT t tn par := by
  unfold addE at h
  split at h; · cases h
  rename_i h1
  split at h; · cases h
  rename_i h2
  split at h; · cases h
  rename_i h3
  split at h; · cases h
  rename_i h4
  refine ⟨h1, by omega, ?_, ?_, fun hd => h4 (.inr hd)⟩
  · rcases ilt (findT t tn par) with h5 | h5
    · by_cases h6 : par = 0
      · exact .inl h6
      · exact absurd ⟨h6, h5⟩ h3
    · exact .inr h5
  · rcases Nat.lt_or_ge tn 32 with h5 | h5
    · exact h5
    · exact absurd (Or.inl h5) h4
theorem may_bd (h : mayE v = true) : 1 ≤ v.o ∧ v.o ≤ 6 ∧ 1 ≤ v.seq ∧ v.seq < 1099511627776 := by
  have h1 := may_reg h
  have h2 := may_seq h
  unfold regE at h1
  simp only [Bool.and_eq_true, decide_eq_true_eq] at h1
  exact ⟨h1.1, h1.2, h2.1, h2.2⟩
theorem idE_may (h : mayE v = true) : idE v.o v.seq = 1099511627776 * v.o + v.seq := by
  have := may_bd h
  unfold idE; rw [if_pos (by omega)]
theorem regN_lt (h : mayE v = true) : regN v < 6 := by
  have := may_bd h; unfold regN; omega
theorem may_new {a : Nat} {n : Int} (ha : a < 6) (h0 : 0 ≤ n) (h1 : n ≤ 1125899906842624) : may (upd (fun _ => 0) a n) = true := by
  have e : ∀ p, upd (fun _ => 0) a n p = if p = a then n else 0 := fun p => rfl
  rw [may_iff]
  refine ⟨fun p hp => ?_, fun k hk => ?_, ?_⟩
  · rw [e]; split <;> omega
  · have hr : ∀ i j, R (upd (fun _ => 0) a n) i j = 0 := fun i j => by unfold R; rw [e, if_neg (by omega)]
    refine ⟨?_, ?_, hr k k⟩
    · unfold L
      simp only [hr]
      have hg : 0 ≤ G (upd (fun _ => 0) a n) k := by unfold G; rw [e]; split <;> omega
      have hf : F (upd (fun _ => 0) a n) k = 0 := by unfold F; rw [e, if_neg (by omega)]
      have hc : C (upd (fun _ => 0) a n) k = 0 := by unfold C; rw [e, if_neg (by omega)]
      omega
    · have hf : F (upd (fun _ => 0) a n) k = 0 := by unfold F; rw [e, if_neg (by omega)]
      have hc : C (upd (fun _ => 0) a n) k = 0 := by unfold C; rw [e, if_neg (by omega)]
      omega
  · unfold gSum G
    simp only [e]
    have : (if 0 = a then n else 0) + (if 1 = a then n else 0) + (if 2 = a then n else 0) + (if 3 = a then n else 0) + (if 4 = a then n else 0) + (if 5 = a then n else 0) = n := six a ha n
    omega
theorem makes_tree (h : Inv0 L T) (hm : mayE v = true) (hk : v.kind = 1) (hE : makesE L v = 0) : ∃ k, k ≤ L.nn ∧ 1 ≤ idE v.o v.seq ∧ L.nn < 32 ∧ (0 ≤ v.amt ∧ v.amt ≤ 140737488355328) ∧ (v.node = 0 ∨ 0 ≤ findT L.t L.tn v.node) ∧ ¬ deepT L.t L.tn v.node ∧
    makesC L v = { L with nn := L.nn + 1, id := Fx.insI L.id k (idE v.o v.seq), par := Fx.insI L.par k v.node, R := Fx.insI L.R k (upd (fun _ => 0) (regN v) v.amt), tn := L.tn + 1, t := insT L.t k (idE v.o v.seq) v.node } ∧
    (∀ i j, i < j → j < L.nn + 1 → Fx.insI L.id k (idE v.o v.seq) i < Fx.insI L.id k (idE v.o v.seq) j) ∧ (∀ i, i < L.nn + 1 → insT L.t k (idE v.o v.seq) v.node i 0 = Fx.insI L.id k (idE v.o v.seq) i ∧ insT L.t k (idE v.o v.seq) v.node i 1 = Fx.insI L.par k v.node i) ∧
    TreeUp L.t (insT L.t k (idE v.o v.seq) v.node) L.tn (idE v.o v.seq) v.node := by
  unfold makesE at hE
  split at hE
  · cases hE
  rename_i h47
  obtain ⟨a1, a2, a3, a4, a5⟩ := addE_ok hE
  have hb := may_bd hm
  have hid := idE_may hm
  have hro := regN_lt hm
  have hamt : 0 ≤ v.amt ∧ v.amt ≤ 140737488355328 := by
    have h8 : ¬ 140737488355328 < v.amt := fun h => h47 (.inr h)
    unfold mayE at hm
    simp only [Bool.and_eq_true] at hm
    have hf := hm.2
    unfold fieldsE at hf
    rw [if_pos hk] at hf
    simp only [Bool.and_eq_true, decide_eq_true_eq] at hf
    omega
  generalize hx : idE v.o v.seq = x at *
  have hx1 : 1 ≤ x := by omega
  have ekt : Fx.down (fun i => decide (x < L.t i 0)) L.tn = downI L.id L.nn x := by
    unfold downI; rw [h.tnn]; exact down_cong fun i hi => by rw [(h.tid i hi).1]
  have eC : makesC L v = { L with nn := L.nn + 1, id := Fx.insI L.id (downI L.id L.nn x) x, par := Fx.insI L.par (downI L.id L.nn x) v.node, R := Fx.insI L.R (downI L.id L.nn x) (upd (fun _ => 0) (regN v) v.amt), tn := L.tn + 1, t := insT L.t (downI L.id L.nn x) x v.node } := by
    unfold makesC; rw [hx, ekt]; rfl
  generalize hkk : downI L.id L.nn x = k at *
  have hkn : k ≤ L.nn := by rw [← hkk]; exact Fx.down_le _ _
  have hno : ∀ i, i < L.nn → L.id i ≠ x := fun i hi e => findT_no.1 a2 i (by rw [h.tnn]; exact hi) (by rw [(h.tid i hi).1]; exact e)
  have hB : ∀ q, k ≤ q → q < L.nn → x < L.id q := fun q h1 h2 => by
    have := Fx.down_gt (P := fun i => decide (x < L.id i)) (n := L.nn) (i := q) (by show downI L.id L.nn x ≤ q; omega) h2
    exact of_decide_eq_true this
  have hA : ∀ q, q < k → L.id q < x := fun q h1 => by
    obtain ⟨j, rfl⟩ : ∃ j, k = j + 1 := ⟨k - 1, by omega⟩
    have h2 := Fx.down_no (P := fun i => decide (x < L.id i)) (n := L.nn) (j := j) hkk
    have h3 : ¬ x < L.id j := of_decide_eq_false h2
    have h4 := hno j (by omega)
    by_cases e : q = j
    · subst e; omega
    · have := h.rise q j (by omega) (by omega); omega
  have hnt : L.nn < 32 := by have := h.tnn; omega
  have hrise : ∀ i j, i < j → j < L.nn + 1 → Fx.insI L.id k x i < Fx.insI L.id k x j := fun i j hij hj => by
    rcases insI_old hkn (show i < L.nn + 1 by omega) with rfl | ⟨q, hq, eq, q1, q2⟩
    · rcases insI_old hkn hj with rfl | ⟨r, hr, er, r1, r2⟩
      · omega
      · rw [insI_eq, er]
        exact hB r (by omega) hr
    · rcases insI_old hkn hj with rfl | ⟨r, hr, er, r1, r2⟩
      · rw [insI_eq, eq]
        exact hA q (by omega)
      · rw [eq, er]
        exact h.rise q r (by omega) hr
  have htid : ∀ i, i < L.nn + 1 → insT L.t k x v.node i 0 = Fx.insI L.id k x i ∧ insT L.t k x v.node i 1 = Fx.insI L.par k v.node i := fun i hi => by
    rw [insT_eq]
    rcases insI_old hkn hi with rfl | ⟨q, hq, eq, _, _⟩
    · rw [insI_eq, insI_eq, insI_eq]; exact ⟨rfl, rfl⟩
    · rw [eq, eq, eq]; exact h.tid q hq
  have hinj : ∀ i j, i < L.nn + 1 → j < L.nn + 1 → Fx.insI L.id k x i = Fx.insI L.id k x j → i = j := fun i j hi hj e => by
    rcases Nat.lt_trichotomy i j with h1 | h1 | h1
    · have := hrise i j h1 hj; omega
    · exact h1
    · have := hrise j i h1 hi; omega
  have hup : TreeUp L.t (insT L.t k x v.node) L.tn x v.node := {
    u := h.tinj
    u' := fun i j hi hj e => by
      rw [h.tnn] at hi hj
      rw [(htid i hi).1, (htid j hj).1] at e
      exact hinj i j hi hj e
    no := findT_no.1 a2
    old := fun i hi => by
      obtain ⟨j, hj, _, e⟩ := insI_new (k := k) hi
      exact ⟨j, hj, by rw [insT_eq]; exact e L.t _⟩
    new := ⟨k, by have := h.tnn; omega, by rw [insT_eq, insI_eq]; rfl, by rw [insT_eq, insI_eq]; rfl⟩
    back := fun j hj => by
      rw [h.tnn] at hj
      rcases insI_old hkn hj with rfl | ⟨q, hq, eq, _, _⟩
      · exact .inl (by rw [insT_eq, insI_eq]; rfl)
      · exact .inr ⟨q, by rw [h.tnn]; exact hq, by rw [insT_eq]; exact eq L.t _⟩ }
  exact ⟨k, hkn, hx1, hnt, hamt, a3, a5, eC, hrise, htid, hup⟩
theorem inv_makes (h : Inv0 L T) (hm : mayE v = true) (hk : v.kind = 1) (hE : makesE L v = 0) : Inv0 (makesC L v) (T + 1) := by
  obtain ⟨k, hkn, hx1, hnt, hamt, a3, a5, eC, hrise, htid, hup⟩ := makes_tree h hm hk hE
  have hb := may_bd hm
  have hid := idE_may hm
  have hro := regN_lt hm
  rw [eC]
  generalize hx : idE v.o v.seq = x at *
  have hold : ∀ j, j < L.nn → ∃ i, i < L.nn + 1 ∧ Fx.insI L.id k x i = L.id j := fun j hj => by
    obtain ⟨i, hi, _, e⟩ := insI_new (k := k) hj
    exact ⟨i, hi, e L.id x⟩
  have hz : findT L.t L.tn 0 < 0 := findT_no.2 fun i hi e => by
    rw [h.tnn] at hi
    rw [(h.tid i hi).1] at e
    have := h.pos i hi; omega
  have hpar1 : v.node = 0 ∨ ∃ j, j < L.nn ∧ L.id j = v.node := by
    rcases a3 with e | e
    · exact .inl e
    · obtain ⟨i, hi, e2⟩ := findT_iff.1 e
      rw [h.tnn] at hi
      exact .inr ⟨i, hi, by rw [← (h.tid i hi).1]; exact e2⟩
  exact {
    tnn := by show L.tn + 1 = L.nn + 1; rw [h.tnn]
    nn := by show L.nn + 1 ≤ 32; omega
    tid := htid
    rise := hrise
    pos := fun i hi => by
      show 1 ≤ Fx.insI L.id k x i
      rcases insI_old hkn hi with rfl | ⟨q, hq, eq, _, _⟩
      · rw [insI_eq]; exact hx1
      · rw [eq]; exact h.pos q hq
    top := fun i hi => by
      show Fx.insI L.id k x i < _
      rcases insI_old hkn hi with rfl | ⟨q, hq, eq, _, _⟩
      · rw [insI_eq]; omega
      · rw [eq]; exact h.top q hq
    up := fun i hi => by
      show Fx.insI L.par k v.node i = 0 ∨ ∃ j, j < L.nn + 1 ∧ Fx.insI L.id k x j = Fx.insI L.par k v.node i
      have hh : ∀ y, (y = 0 ∨ ∃ j, j < L.nn ∧ L.id j = y) → (y = 0 ∨ ∃ j, j < L.nn + 1 ∧ Fx.insI L.id k x j = y) := fun y hy => hy.imp id fun ⟨j, hj, e⟩ => by
        obtain ⟨i, hi, e2⟩ := hold j hj
        exact ⟨i, hi, e2.trans e⟩
      rcases insI_old hkn hi with rfl | ⟨q, hq, eq, _, _⟩
      · rw [insI_eq]; exact hh _ hpar1
      · rw [eq]; exact hh _ (h.up q hq)
    dep := by
      show ∀ y, ∃ D, D ≤ 4 ∧ findT (insT L.t k x v.node) (L.tn + 1) (iterT (insT L.t k x v.node) (L.tn + 1) D y) < 0
      refine hup.dep hx1 (fun i hi => ?_) a3 hz h.dep a5
      have hi' := hi
      rw [h.tnn] at hi'
      rw [(h.tid i hi').2]
      rcases h.up i hi' with e | ⟨j, hj, e⟩
      · exact .inl e
      · exact .inr (findT_iff.2 ⟨j, by rw [h.tnn]; exact hj, by rw [(h.tid j hj).1]; exact e⟩)
    gn := Nat.le_succ_of_le h.gn
    rn := fun i hi => Nat.le_succ_of_le (h.rn i hi)
    may := fun i hi => by
      show may (Fx.insI L.R k _ i) = true
      rcases insI_old hkn hi with rfl | ⟨q, hq, eq, _, _⟩
      · rw [insI_eq]; exact may_new hro hamt.1 (by omega)
      · rw [eq]; exact h.may q hq
    g47 := fun i hi b hb' => by
      show Fx.insI L.R k _ i b ≤ _
      rcases insI_old hkn hi with rfl | ⟨q, hq, eq, _, _⟩
      · rw [insI_eq]
        show (if b = regN v then v.amt else 0) ≤ _
        split <;> omega
      · rw [eq]; exact h.g47 q hq b hb'
    kn := h.kn }
theorem inv_R {L' : LdC} {T' : Nat} (h : Inv0 L T) (e1 : L'.nn = L.nn) (e2 : L'.id = L.id) (e3 : L'.par = L.par) (e4 : L'.tn = L.tn) (e5 : L'.t = L.t) (e6 : L'.known = L.known) (hg : L'.gn ≤ T') (hr : ∀ i, i < 6 → L'.rn i ≤ T')
    (hP : ∀ k, k < L.nn → may (L'.R k) = true ∧ ∀ a, a < 6 → L'.R k a ≤ 140737488355328) : Inv0 L' T' where
  tnn := by rw [e1, e4]; exact h.tnn
  nn := by rw [e1]; exact h.nn
  tid := by rw [e1, e2, e3, e5]; exact h.tid
  rise := by rw [e1, e2]; exact h.rise
  pos := by rw [e1, e2]; exact h.pos
  top := by rw [e1, e2]; exact h.top
  up := by rw [e1, e2, e3]; exact h.up
  dep := by rw [e4, e5]; exact h.dep
  gn := hg
  rn := hr
  may := by rw [e1]; exact fun k hk => (hP k hk).1
  g47 := by rw [e1]; exact fun k hk => (hP k hk).2
  kn := by rw [e6]; exact h.kn
def Ok47 (x : Nat → Int) : Prop := may x = true ∧ ∀ a, a < 6 → x a ≤ 140737488355328
theorem walkR_ok {f : (Nat → Int) → (Nat → Int) × Int} {idx : Nat → Nat} {R : Nat → Nat → Int} {n : Nat} (hs : ∀ x, Ok47 x → (f x).2 = 0 → Ok47 (f x).1) (h0 : ∀ k, k < n → Ok47 (R k)) : ∀ K k, k < n → Ok47 ((walkR f idx R K).1 k)
  | 0, k, hk => h0 k hk
  | K + 1, k, hk => by
    have ih := walkR_ok hs h0 (idx := idx) K
    unfold walkR
    by_cases h1 : (walkR f idx R K).2 = 0
    · rw [if_pos h1]
      by_cases h2 : (f ((walkR f idx R K).1 (idx K))).2 = 0
      · rw [if_pos h2]
        show Ok47 (if k = idx K then _ else _)
        by_cases h3 : k = idx K
        · rw [if_pos h3]; exact hs _ (by rw [← h3]; exact ih k hk) h2
        · rw [if_neg h3]; exact ih k hk
      · rw [if_neg h2]; exact ih k hk
    · rw [if_neg h1]; exact ih k hk
theorem take_47 {x : Nat → Int} {i n : Int} (h : Ok47 x) (h2 : (takeM x i n).2 = 0) : Ok47 (takeM x i n).1 := by
  obtain ⟨a, ha, _, _, _, _, _, hm, _, _, _, e⟩ := take_ok h2
  exact ⟨hm, fun b hb => by rw [e, upd_other _ _ _ _ (by omega)]; exact h.2 b hb⟩
theorem free_47 {x : Nat → Int} {i n : Int} (h : Ok47 x) (h2 : (freeM x i n).2 = 0) : Ok47 (freeM x i n).1 := by
  obtain ⟨a, ha, _, _, _, _, hm, _, _, _, e⟩ := free_ok h2
  exact ⟨hm, fun b hb => by rw [e, upd_other _ _ _ _ (by omega)]; exact h.2 b hb⟩
theorem move_47 {x : Nat → Int} {i j n : Int} (h : Ok47 x) (h2 : (moveM x i j n).2 = 0) : Ok47 (moveM x i j n).1 := by
  obtain ⟨a, b, ha, hb, _, _, _, _, _, _, hm, e⟩ := move_ok h2
  exact ⟨hm.may, fun c hc => by rw [e, upd_other _ _ _ _ (by omega)]; exact h.2 c hc⟩
theorem raise_47 {x : Nat → Int} {a : Nat} {n : Int} (ha : a < 6) (h : Ok47 x) (hn : 0 ≤ n) (h2 : ¬ 140737488355328 < x a + n) : Ok47 (upd x a (x a + n)) := by
  have hm := (may_iff x).1 h.1
  have e : ∀ p, upd x a (x a + n) p = if p = a then x a + n else x p := fun p => rfl
  have hx := hm.1 a (by omega)
  have hg : ∀ b, b < 6 → upd x a (x a + n) b ≤ 140737488355328 := fun b hb => by
    rw [e]; split
    · omega
    · exact h.2 b hb
  refine ⟨(may_iff _).2 ⟨fun p hp => ?_, fun k hk => ?_, ?_⟩, hg⟩
  · have := hm.1 p hp
    rw [e]; split <;> omega
  · obtain ⟨h3, h4, h5⟩ := hm.2.1 k hk
    have hc : C (upd x a (x a + n)) k = C x k := by unfold C; rw [e, if_neg (by omega)]
    have hf : F (upd x a (x a + n)) k = F x k := by unfold F; rw [e, if_neg (by omega)]
    refine ⟨?_, ?_, ?_⟩
    · rw [L_low x a (by omega), hc, hf, G_upd]; split <;> omega
    · rw [hc, hf]; exact h4
    · unfold R; rw [e, if_neg (by omega)]; exact h5
  · unfold gSum G
    have := hg 0 (by omega); have := hg 1 (by omega); have := hg 2 (by omega); have := hg 3 (by omega); have := hg 4 (by omega); have := hg 5 (by omega)
    omega
theorem Inv0.ok47 (h : Inv0 L T) : ∀ k, k < L.nn → Ok47 (L.R k) := fun k hk => ⟨h.may k hk, h.g47 k hk⟩
theorem rn_more (h : Inv0 L T) (a : Nat) : ∀ i, i < 6 → updA L.rn a (L.rn a + 1) i ≤ T + 1 := fun i hi => by
  unfold updA
  by_cases e : i = a
  · subst e; rw [if_pos rfl]; have := h.rn i hi; omega
  · rw [if_neg e]; have := h.rn i hi; omega
theorem updA_ok {q : Nat} {r : Nat → Int} (h : ∀ k, k < L.nn → Ok47 (L.R k)) (hr : Ok47 r) : ∀ k, k < L.nn → Ok47 (updA L.R q r k) := fun k hk => by
  unfold updA; split
  · exact hr
  · exact h k hk
theorem Inv0.nodeK (h : Inv0 L T) {x : Int} (hx : ¬ L.node x < 0) : (L.node x).toNat < L.nn := by
  rw [h.node] at hx ⊢
  obtain ⟨j, hj, e, _⟩ := find_nat (show 0 ≤ findT L.t L.tn x by omega)
  rw [e]; have := h.tnn; simp; omega
theorem inv_takes (h : Inv0 L T) (hw : ∀ k, k < L.nn → Ok47 ((takesW L v).1 k)) : Inv0 (takesC L v) (T + 1) := by
  unfold takesC addReq
  generalize takesW L v = W at hw
  exact inv_R h rfl rfl rfl rfl rfl rfl (Nat.succ_le_succ h.gn) (rn_more h _) hw
theorem inv_frees (h : Inv0 L T) (hw : ∀ k, k < L.nn → Ok47 ((freesW L v).1 k)) : Inv0 (freesC L v) (T + 1) := by
  unfold freesC addReq
  generalize freesW L v = W at hw
  exact inv_R h rfl rfl rfl rfl rfl rfl (Nat.le_succ_of_le h.gn) (rn_more h _) hw
theorem inv_does (h : Inv0 L T) (hm : mayE v = true) (hE : doesE L v = 0) : Inv0 (doesC L v) (T + 1) := by
  have hk := fields_kind hm
  have hro := regN_lt hm
  have hg := h.gn
  have hT : ∀ i, i < 6 → L.rn i ≤ T + 1 := fun i hi => Nat.le_succ_of_le (h.rn i hi)
  unfold doesE at hE
  unfold doesC
  by_cases k1 : v.kind = 1
  · rw [if_pos k1] at hE ⊢; exact inv_makes h hm k1 hE
  by_cases k2 : v.kind = 2
  · rw [if_neg k1, if_pos k2] at hE ⊢
    unfold raiseE at hE
    split at hE; · cases hE
    rename_i n1
    split at hE; · cases hE
    rename_i n2
    have hb := fields_amt hm (.inl k2)
    exact inv_R h rfl rfl rfl rfl rfl rfl (Nat.le_succ_of_le hg) hT (updA_ok h.ok47 (raise_47 hro (h.ok47 _ (h.nodeK n1)) (by omega) n2))
  by_cases k3 : v.kind = 3
  · rw [if_neg k1, if_neg k2, if_pos k3] at hE ⊢
    have hw : ∀ k, k < L.nn → Ok47 ((takesW L v).1 k) := by unfold takesW; exact walkR_ok (fun x => take_47) h.ok47 _
    exact inv_takes h hw
  by_cases k4 : v.kind = 4
  · rw [if_neg k1, if_neg k2, if_neg k3, if_pos k4] at hE ⊢
    have hw : ∀ k, k < L.nn → Ok47 ((freesW L v).1 k) := by unfold freesW; exact walkR_ok (fun x => free_47) h.ok47 _
    exact inv_frees h hw
  by_cases k5 : v.kind = 5
  · rw [if_neg k1, if_neg k2, if_neg k3, if_neg k4, if_pos k5] at hE ⊢
    unfold movesE at hE
    split at hE; · cases hE
    rename_i n1
    split at hE; · cases hE
    exact inv_R h rfl rfl rfl rfl rfl rfl (Nat.le_succ_of_le hg) hT (updA_ok h.ok47 (move_47 (h.ok47 _ (h.nodeK n1)) hE))
  rw [if_neg k1, if_neg k2, if_neg k3, if_neg k4, if_neg k5]
  split
  · exact inv_R h rfl rfl rfl rfl rfl rfl (Nat.le_succ_of_le hg) hT h.ok47
  · exact inv_R h rfl rfl rfl rfl rfl rfl (Nat.le_succ_of_le hg) hT h.ok47
theorem inv0_apply (h : Inv0 L T) : Inv0 (applyC L v) (T + 1) := by
  unfold applyC
  by_cases h0 : applyE L v = 0
  · rw [if_pos h0]
    unfold applyE at h0
    split at h0; · cases h0
    rename_i h1
    split at h0; · cases h0
    split at h0; · cases h0
    rename_i h3
    split at h0; · cases h0
    have hm : mayE v = true := by simpa using h1
    have hr : readyE L.known v = true := by simpa using h3
    have hd := inv_does h hm h0
    have hro := regN_lt hm
    have hs := may_seq hm
    refine { hd with kn := fun i hi => ?_ }
    have ek : (knowC (doesC L v) v).known = updA L.known (regN v) (L.known (regN v) + 1) := by unfold knowC; simp only [doesC_known]
    rw [ek]
    unfold readyE at hr
    simp only [Bool.and_eq_true, decide_eq_true_eq] at hr
    have hk := h.kn
    unfold updA
    split
    · have h5 := hr.1.2
      have h6 : v.seq = L.known (regN v) + 1 := h5
      have := hk (regN v) hro
      omega
    · exact hk i hi
  · rw [if_neg h0]; exact h.mono (Nat.le_succ T)
end
end Rt
end
section
namespace Rt
def cntP (t : Nat → Nat → Int) (tn : Nat) (x y : Int) : Nat → Int
  | 0 => 0
  | k + 1 => cntP t tn x y k + if iterT t tn k x = y then 1 else 0
def cntT (t : Nat → Nat → Int) (tn : Nat) (x y : Int) : Int := cntP t tn x y (pathK t tn x)
def openG (t : Nat → Nat → Int) (tn : Nat) (g : Nat → Int) (y : Int) : Int := if g 4 = 0 then g 3 * cntT t tn (g 2) y else 0
def openN (t : Nat → Nat → Int) (tn : Nat) (g : Nat → Nat → Int) (y : Int) : Nat → Int
  | 0 => 0
  | q + 1 => openN t tn g y q + openG t tn (g q) y
structure InvS (L : LdC) : Prop where
  us : ∀ k, k < L.nn → uSum (L.R k) = openN L.t L.tn L.g (L.id k) L.gn
  gb : ∀ q, q < L.gn → 0 ≤ findT L.t L.tn (L.g q 2) ∧ 1 ≤ L.g q 0 ∧ L.g q 0 ≤ 6 ∧ 0 ≤ L.g q 3 ∧ L.g q 3 ≤ 1125899906842624
structure EvSm (v : EvM) : Prop where
  amt : v.amt ≤ 65536
  req : v.req ≤ 256
structure InvB (L : LdC) (T : Nat) : Prop where
  kt : ∀ i, i < 6 → L.known i ≤ T
  rb : ∀ k, k < L.nn → ∀ a, a < 54 → L.R k a ≤ 2097152 * T
  rq : ∀ i, i < 6 → ∀ j, j < L.rn i → L.rq i j ≤ 256
structure Inv (L : LdC) (T : Nat) : Prop extends Inv0 L T where
  s : InvS L
  b : InvB L T
section
variable {L : LdC} {T : Nat} {v : EvM}
theorem lead_lt {P : Nat → Bool} : ∀ {n i : Nat}, i < lead P n → P i = true
  | 0, i, h => absurd h (Nat.not_lt_zero _)
  | n + 1, i, h => by
    unfold lead at h
    by_cases e : lead P n = n ∧ P n = true
    · rw [if_pos e] at h
      by_cases e2 : i = n
      · rw [e2]; exact e.2
      · exact lead_lt (n := n) (by omega)
    · rw [if_neg e] at h; exact lead_lt h
theorem pathK_lt {t : Nat → Nat → Int} {tn i : Nat} {x : Int} (h : i < pathK t tn x) : 0 ≤ findT t tn (iterT t tn i x) := of_decide_eq_true (lead_lt (P := fun i => decide (0 ≤ findT t tn (iterT t tn i x))) h)
theorem open_cong {t t' : Nat → Nat → Int} {tn tn' : Nat} {g g' : Nat → Nat → Int} {y y' : Int} : ∀ n, (∀ q, q < n → openG t' tn' (g' q) y' = openG t tn (g q) y) → openN t' tn' g' y' n = openN t tn g y n
  | 0, _ => rfl
  | n + 1, h => by unfold openN; rw [open_cong n fun q hq => h q (by omega), h n (by omega)]
theorem open_zero {t : Nat → Nat → Int} {tn : Nat} {g : Nat → Nat → Int} {y : Int} : ∀ n, (∀ q, q < n → openG t tn (g q) y = 0) → openN t tn g y n = 0
  | 0, _ => rfl
  | n + 1, h => by unfold openN; rw [open_zero n fun q hq => h q (by omega), h n (by omega)]; rfl
theorem open_upd {t : Nat → Nat → Int} {tn k : Nat} {g : Nat → Nat → Int} {x : Nat → Int} {y : Int} : ∀ n, k < n → openN t tn (updA g k x) y n = openN t tn g y n - openG t tn (g k) y + openG t tn x y
  | 0, h => absurd h (Nat.not_lt_zero _)
  | n + 1, h => by
    unfold openN
    by_cases e : k = n
    · subst e
      rw [open_cong (t := t) (tn := tn) (g := g) (y := y) k fun q hq => by unfold updA; rw [if_neg (by omega)]]
      unfold updA; rw [if_pos rfl]; omega
    · rw [open_upd n (by omega)]
      have : updA g k x n = g n := if_neg (fun h => e h.symm)
      rw [this]; omega
theorem open_ins {t : Nat → Nat → Int} {tn k : Nat} {g : Nat → Nat → Int} {x : Nat → Int} {y : Int} : ∀ n, k ≤ n → openN t tn (Fx.insI g k x) y (n + 1) = openN t tn g y n + openG t tn x y
  | 0, h => by
    obtain rfl : k = 0 := by omega
    show (0 : Int) + openG t tn (Fx.insI g 0 x 0) y = 0 + _
    rw [insI_eq]
  | n + 1, h => by
    by_cases e : k = n + 1
    · subst e
      show openN t tn (Fx.insI g (n + 1) x) y (n + 1) + openG t tn (Fx.insI g (n + 1) x (n + 1)) y = _
      rw [insI_eq, open_cong (t := t) (tn := tn) (g := g) (y := y) (n + 1) fun q hq => by rw [insI_lt hq]]
    · show openN t tn (Fx.insI g k x) y (n + 1) + openG t tn (Fx.insI g k x (n + 1)) y = openN t tn g y n + openG t tn (g n) y + _
      rw [open_ins n (by omega), insI_gt (by omega), Nat.add_sub_cancel]; omega
def cntI (idx : Nat → Nat) (k : Nat) : Nat → Int
  | 0 => 0
  | j + 1 => cntI idx k j + if idx j = k then 1 else 0
theorem walkR_sum {f : (Nat → Int) → (Nat → Int) × Int} {idx : Nat → Nat} {R : Nat → Nat → Int} {d : Int} (hf : ∀ x, (f x).2 = 0 → uSum (f x).1 = uSum x + d) : ∀ K, (walkR f idx R K).2 = 0 → ∀ k, uSum ((walkR f idx R K).1 k) = uSum (R k) + d * cntI idx k K
  | 0, _, k => by show uSum (R k) = uSum (R k) + d * 0; omega
  | K + 1, h, k => by
    unfold walkR at h ⊢
    by_cases h1 : (walkR f idx R K).2 = 0
    · have ih := walkR_sum hf K h1 k
      rw [if_pos h1] at h ⊢
      by_cases h2 : (f ((walkR f idx R K).1 (idx K))).2 = 0
      · rw [if_pos h2]
        show uSum (updA _ (idx K) _ k) = _
        unfold updA cntI
        rw [Int.mul_add]
        by_cases h3 : k = idx K
        · subst h3
          rw [if_pos rfl, if_pos rfl, hf _ h2, ih]; omega
        · rw [if_neg h3, if_neg (fun h => h3 h.symm), ih]; omega
      · rw [if_neg h2] at h; exact absurd h h2
    · rw [if_neg h1] at h; exact absurd h h1
theorem cnt_eq {t : Nat → Nat → Int} {tn k : Nat} {x y : Int} {idx : Nat → Nat} : ∀ K, (∀ i, i < K → (idx i = k ↔ iterT t tn i x = y)) → cntI idx k K = cntP t tn x y K
  | 0, _ => rfl
  | K + 1, h => by
    unfold cntI cntP
    rw [cnt_eq K fun i hi => h i (by omega)]
    by_cases e : idx K = k
    · rw [if_pos e, if_pos ((h K (by omega)).1 e)]
    · rw [if_neg e, if_neg (fun h2 => e ((h K (by omega)).2 h2))]
theorem idx_iff (h : Inv0 L T) {x : Int} {i k : Nat} (hk : k < L.nn) (hi : i < pathK L.t L.tn x) : idxT L x i = k ↔ iterT L.t L.tn i x = L.id k := by
  obtain ⟨j, hj, e, e2⟩ := find_nat (pathK_lt hi)
  have hj' : j < L.nn := by rw [← h.tnn]; exact hj
  have hx : idxT L x i = j := by unfold idxT; rw [h.node, e]; rfl
  rw [hx]
  have e3 : L.id j = iterT L.t L.tn i x := by rw [← (h.tid j hj').1]; exact e2
  constructor
  · rintro rfl; exact e3.symm
  · intro e4; exact h.inj j k hj' hk (e3.trans e4)
theorem uSum_low {x : Nat → Int} {a : Nat} {n : Int} (ha : a < 6) : uSum (upd x a n) = uSum x := by
  have hc : ∀ k, C (upd x a n) k = C x k := fun k => upd_other _ _ _ _ (by omega)
  have hf : ∀ k, F (upd x a n) k = F x k := fun k => upd_other _ _ _ _ (by omega)
  unfold uSum; simp only [hc, hf]
theorem req_some (h : mayE v = true) (hk : v.kind = 4) : 1 ≤ v.req := by
  unfold mayE at h
  simp only [Bool.and_eq_true] at h
  have hf := h.2
  unfold fieldsE at hf
  rw [if_neg (by omega), if_neg (by omega), if_neg (by omega), if_pos hk] at hf
  simp only [Bool.and_eq_true, decide_eq_true_eq] at hf
  exact hf.1.1
theorem gb_ins {n k : Nat} {g : Nat → Nat → Int} {x : Nat → Int} (hk : k ≤ n) (P : (Nat → Int) → Prop) (h : ∀ q, q < n → P (g q)) (hx : P x) : ∀ q, q < n + 1 → P (Fx.insI g k x q) := fun q hq => by
  rcases insI_old hk hq with rfl | ⟨j, hj, e, _, _⟩
  · rw [insI_eq]; exact hx
  · rw [e]; exact h j hj
attribute [local irreducible] pathK in
theorem invS_takes (h0 : Inv0 L T) (h : InvS L) (hm : mayE v = true) (hk : v.kind = 3) (hE : takesE L v = 0) : InvS (takesC L v) := by
  unfold takesE at hE
  split at hE; · cases hE
  split at hE; · cases hE
  rename_i hp
  have hb := may_bd hm
  have ha := fields_amt hm (.inr (.inl hk))
  unfold takesC addReq
  have hsum := walkR_sum (f := fun x => takeM x v.o v.amt) (idx := idxT L v.node) (R := L.R) (d := v.amt) (fun x hx => by obtain ⟨_, _, _, _, _, _, _, _, _, _, hu, _⟩ := take_ok hx; exact hu) _ hE
  refine ⟨fun k hk => ?_, fun q hq => ?_⟩
  · show uSum ((takesW L v).1 k) = openN L.t L.tn (Fx.insI L.g (Fx.down (fun i => gtG v (L.g i)) L.gn) (grN v)) (L.id k) (L.gn + 1)
    rw [open_ins _ (Fx.down_le _ _)]
    have := hsum k
    rw [show openG L.t L.tn (grN v) (L.id k) = v.amt * cntT L.t L.tn v.node (L.id k) from rfl, ← h.us k hk]
    unfold cntT
    rw [← cnt_eq (idx := idxT L v.node) (k := k) _ fun i hi => idx_iff h0 hk hi]
    exact this
  · exact gb_ins (Fx.down_le _ _) (fun y => 0 ≤ findT L.t L.tn (y 2) ∧ 1 ≤ y 0 ∧ y 0 ≤ 6 ∧ 0 ≤ y 3 ∧ y 3 ≤ 1125899906842624) h.gb
      ⟨pathK_lt (i := 0) (x := v.node) (by omega), hb.1, hb.2.1, by show 0 ≤ v.amt; omega, ha.2⟩ q hq
attribute [local irreducible] pathK in
theorem invS_frees (h0 : Inv0 L T) (h : InvS L) (hm : mayE v = true) (hk : v.kind = 4) (hE : freesE L v = 0) : InvS (freesC L v) := by
  unfold freesE at hE
  split at hE; · cases hE
  split at hE; · cases hE
  rename_i hp
  have hr := req_some hm hk
  have hg : 0 ≤ L.grant v.o v.of := by rcases ilt (L.grant v.o v.of) with h | h; · exact absurd (.inl h) hp
                                       · exact h
  have hz : L.g (kgN L v) 4 = 0 := by
    by_cases e : L.g (kgN L v) 4 = 0
    · exact e
    · exact absurd (.inr e) hp
  have hkg : kgN L v < L.gn := by
    rcases firstI_spec (fun i => decide (L.g i 0 = v.o) && decide (L.g i 1 = v.of)) L.gn with ⟨k, hk, e, _⟩ | ⟨e, _⟩
    · have e' : L.grant v.o v.of = (k : Int) := e
      unfold kgN; rw [e']; exact hk
    · have e' : L.grant v.o v.of = -1 := e
      omega
  unfold freesC addReq freesW
  unfold freesW at hE
  generalize kgN L v = q at *
  have hsum := walkR_sum (f := fun x => freeM x v.o (L.g q 3)) (idx := idxT L (L.g q 2)) (R := L.R) (d := -(L.g q 3)) (fun x hx => by obtain ⟨_, _, _, _, _, _, _, _, _, hu, _⟩ := free_ok hx; rw [hu]; omega) _ hE
  have hb := h.gb q hkg
  refine ⟨fun k hk => ?_, fun p hp => ?_⟩
  · show uSum ((walkR _ _ _ _).1 k) = openN L.t L.tn (updA L.g q (updA (L.g q) 4 v.req)) (L.id k) L.gn
    rw [open_upd _ hkg, ← h.us k hk, hsum k]
    have e1 : openG L.t L.tn (updA (L.g q) 4 v.req) (L.id k) = 0 := by
      unfold openG; rw [if_neg]; show ¬ v.req = 0; omega
    have e2 : openG L.t L.tn (L.g q) (L.id k) = L.g q 3 * cntT L.t L.tn (L.g q 2) (L.id k) := if_pos hz
    rw [e1, e2]
    unfold cntT
    rw [← cnt_eq (idx := idxT L (L.g q 2)) (k := k) _ fun i hi => idx_iff h0 hk hi, Int.neg_mul]
    omega
  · show 0 ≤ findT L.t L.tn (updA L.g q (updA (L.g q) 4 v.req) p 2) ∧ 1 ≤ updA L.g q (updA (L.g q) 4 v.req) p 0 ∧ updA L.g q (updA (L.g q) 4 v.req) p 0 ≤ 6 ∧ 0 ≤ updA L.g q (updA (L.g q) 4 v.req) p 3 ∧ updA L.g q (updA (L.g q) 4 v.req) p 3 ≤ 1125899906842624
    by_cases e : p = q
    · subst e
      have e1 : ∀ j, j ≠ 4 → updA L.g p (updA (L.g p) 4 v.req) p j = L.g p j := fun j hj => by
        show (if p = p then updA (L.g p) 4 v.req else L.g p) j = _
        rw [if_pos rfl]; exact if_neg hj
      rw [e1 2 (by omega), e1 0 (by omega), e1 3 (by omega)]; exact hb
    · have e1 : updA L.g q (updA (L.g q) 4 v.req) p = L.g p := if_neg e
      rw [e1]; exact h.gb p hp
theorem invS_R {L' : LdC} (h : InvS L) (e1 : L'.nn = L.nn) (e2 : L'.id = L.id) (e3 : L'.tn = L.tn) (e4 : L'.t = L.t) (e5 : L'.gn = L.gn) (e6 : L'.g = L.g) (hR : ∀ k, k < L.nn → uSum (L'.R k) = uSum (L.R k)) : InvS L' := by
  refine ⟨fun k hk => ?_, fun q hq => ?_⟩
  · rw [e1] at hk; rw [e2, e3, e4, e5, e6, hR k hk]; exact h.us k hk
  · rw [e5] at hq; rw [e3, e4, e6]; exact h.gb q hq
theorem updA_u {q : Nat} {r : Nat → Int} {R : Nat → Nat → Int} (hr : uSum r = uSum (R q)) (k : Nat) : uSum (updA R q r k) = uSum (R k) := by
  unfold updA; split
  · rename_i e; rw [e]; exact hr
  · rfl
theorem TreeUp.path {t t' : Nat → Nat → Int} {tn : Nat} {id par z y : Int} (h : TreeUp t t' tn id par) (hid : 1 ≤ id) (hup : ∀ i, i < tn → t i 1 = 0 ∨ 0 ≤ findT t tn (t i 1)) (hd : ∃ D, D ≤ 4 ∧ findT t tn (iterT t tn D z) < 0) (hz : 0 ≤ findT t tn z) :
    cntT t' (tn + 1) z y = cntT t tn z y ∧ (y = id → cntT t tn z y = 0) := by
  obtain ⟨D, hD, hD2⟩ := hd
  obtain ⟨K, hK, hK2, hall⟩ := first_end D hD2
  have eK : K = pathK t tn z := pathK_eq hall hK2 hD2 (by omega)
  have hit : ∀ i, i ≤ K → iterT t' (tn + 1) i z = iterT t tn i z := fun i hi => h.iter i fun j hj => hall j (by omega)
  have hend : findT t' (tn + 1) (iterT t' (tn + 1) K z) < 0 := by
    rw [hit K (Nat.le_refl _)]
    rcases ilt (findT t' (tn + 1) (iterT t tn K z)) with h1 | h1
    · exact h1
    · exfalso
      rcases h.find.1 h1 with h2 | h2
      · omega
      · cases K with
        | zero => have : findT t tn z < 0 := hK2; omega
        | succ K =>
          obtain ⟨i, hi, e⟩ := findT_iff.1 (hall K (by omega))
          have e3 : iterT t tn (K + 1) z = t i 1 := by
            show t (findT t tn (iterT t tn K z)).toNat 1 = t i 1
            rw [← e, findT_at h.u hi]; rfl
          rw [e3] at h2 hK2
          rcases hup i hi with h4 | h4
          · omega
          · omega
  have eK' : K = pathK t' (tn + 1) z := pathK_eq (fun i hi => by rw [hit i (by omega)]; exact h.find.2 (.inl (hall i hi))) hend hend (by omega)
  have hc : ∀ n, n ≤ K → cntP t' (tn + 1) z y n = cntP t tn z y n := by
    intro n
    induction n with
    | zero => intro _; rfl
    | succ n ih => intro hn; unfold cntP; rw [ih (by omega), hit n (by omega)]
  refine ⟨?_, fun hy => ?_⟩
  · unfold cntT; rw [← eK, ← eK']; exact hc K (Nat.le_refl _)
  · subst hy
    have : ∀ n, n ≤ K → cntP t tn z y n = 0 := by
      intro n
      induction n with
      | zero => intro _; rfl
      | succ n ih =>
        intro hn; unfold cntP
        rw [ih (by omega), if_neg]
        · rfl
        · intro e
          have := hall n (by omega)
          rw [e] at this
          have h5 := findT_no.2 h.no
          omega
    unfold cntT; rw [← eK]; exact this K (Nat.le_refl _)
attribute [local irreducible] pathK in
theorem invS_makes (h0 : Inv0 L T) (h : InvS L) (hm : mayE v = true) (hk : v.kind = 1) (hE : makesE L v = 0) : InvS (makesC L v) := by
  obtain ⟨k, hkn, hx1, hnt, hamt, a3, a5, eC, hrise, htid, hup⟩ := makes_tree h0 hm hk hE
  have hro := regN_lt hm
  rw [eC]
  generalize idE v.o v.seq = x at *
  have hpar : ∀ i, i < L.tn → L.t i 1 = 0 ∨ 0 ≤ findT L.t L.tn (L.t i 1) := fun i hi => by
    have hi' := hi
    rw [h0.tnn] at hi'
    rw [(h0.tid i hi').2]
    rcases h0.up i hi' with e | ⟨j, hj, e⟩
    · exact .inl e
    · exact .inr (findT_iff.2 ⟨j, by rw [h0.tnn]; exact hj, by rw [(h0.tid j hj).1]; exact e⟩)
  have hp : ∀ q, q < L.gn → ∀ y, cntT (insT L.t k x v.node) (L.tn + 1) (L.g q 2) y = cntT L.t L.tn (L.g q 2) y ∧ (y = x → cntT L.t L.tn (L.g q 2) y = 0) := fun q hq y => hup.path hx1 hpar (h0.dep _) (h.gb q hq).1
  refine ⟨fun i hi => ?_, fun q hq => ?_⟩
  · show uSum (Fx.insI L.R k (upd (fun _ => 0) (regN v) v.amt) i) = openN (insT L.t k x v.node) (L.tn + 1) L.g (Fx.insI L.id k x i) L.gn
    rw [open_cong (t := L.t) (tn := L.tn) (g := L.g) (y := Fx.insI L.id k x i) L.gn fun q hq => by unfold openG; rw [(hp q hq _).1]]
    rcases insI_old hkn hi with rfl | ⟨j, hj, e, _, _⟩
    · rw [insI_eq, insI_eq, uSum_low hro, open_zero L.gn fun q hq => by unfold openG; rw [(hp q hq _).2 rfl, Int.mul_zero]; exact ite_self _]
      rfl
    · rw [e, e]; exact h.us j hj
  · have hg := h.gb q hq
    exact ⟨hup.find.2 (.inl hg.1), hg.2⟩
theorem invS_does (h0 : Inv0 L T) (h : InvS L) (hm : mayE v = true) (hE : doesE L v = 0) : InvS (doesC L v) := by
  have hk := fields_kind hm
  have hro := regN_lt hm
  unfold doesE at hE
  unfold doesC
  by_cases k1 : v.kind = 1
  · rw [if_pos k1] at hE ⊢; exact invS_makes h0 h hm k1 hE
  by_cases k2 : v.kind = 2
  · rw [if_neg k1, if_pos k2] at hE ⊢
    exact invS_R h rfl rfl rfl rfl rfl rfl fun k _ => updA_u (uSum_low hro) k
  by_cases k3 : v.kind = 3
  · rw [if_neg k1, if_neg k2, if_pos k3] at hE ⊢; exact invS_takes h0 h hm k3 hE
  by_cases k4 : v.kind = 4
  · rw [if_neg k1, if_neg k2, if_neg k3, if_pos k4] at hE ⊢; exact invS_frees h0 h hm k4 hE
  by_cases k5 : v.kind = 5
  · rw [if_neg k1, if_neg k2, if_neg k3, if_neg k4, if_pos k5] at hE ⊢
    unfold movesE at hE
    split at hE; · cases hE
    split at hE; · cases hE
    obtain ⟨_, _, _, _, _, _, _, _, _, _, hM, _⟩ := move_ok hE
    exact invS_R h rfl rfl rfl rfl rfl rfl fun k _ => updA_u hM.u k
  rw [if_neg k1, if_neg k2, if_neg k3, if_neg k4, if_neg k5]
  split
  · exact invS_R h rfl rfl rfl rfl rfl rfl fun _ _ => rfl
  · exact invS_R h rfl rfl rfl rfl rfl rfl fun _ _ => rfl
theorem pathK_le {t : Nat → Nat → Int} {tn D : Nat} {x : Int} (h : findT t tn (iterT t tn D x) < 0) : pathK t tn x ≤ D := by
  rcases Nat.lt_or_ge D (pathK t tn x) with h1 | h1
  · have := pathK_lt h1; omega
  · exact h1
theorem Inv0.path4 (h : Inv0 L T) (x : Int) : pathK L.t L.tn x ≤ 4 := by
  obtain ⟨D, hD, h2⟩ := h.dep x
  have := pathK_le h2; omega
theorem updc_bd {x : Nat → Int} {p : Nat} {n c : Int} (h : ∀ a, a < 54 → x a ≤ c) (hn : n ≤ c) : ∀ a, a < 54 → upd x p n a ≤ c := fun a ha => by
  show (if a = p then n else x a) ≤ c
  split
  · exact hn
  · exact h a ha
theorem walkR_bd {f : (Nat → Int) → (Nat → Int) × Int} {idx : Nat → Nat} {R : Nat → Nat → Int} {n : Nat} {B d : Int} (hd : 0 ≤ d) (hf : ∀ x c, (f x).2 = 0 → (∀ a, a < 54 → x a ≤ c) → ∀ a, a < 54 → (f x).1 a ≤ c + d) (h0 : ∀ k, k < n → ∀ a, a < 54 → R k a ≤ B) : ∀ (K : Nat) k, k < n → ∀ a, a < 54 → (walkR f idx R K).1 k a ≤ B + d * (K : Int)
  | 0, k, hk, a, ha => by have h := h0 k hk a ha; show R k a ≤ B + d * 0; omega
  | K + 1, k, hk, a, ha => by
    have ih := walkR_bd hd hf h0 (idx := idx) K
    have e : d * ((K + 1 : Nat) : Int) = d * (K : Int) + d := by rw [Int.natCast_succ, Int.mul_add, Int.mul_one]
    rw [e]
    unfold walkR
    by_cases h1 : (walkR f idx R K).2 = 0
    · rw [if_pos h1]
      by_cases h2 : (f ((walkR f idx R K).1 (idx K))).2 = 0
      · rw [if_pos h2]
        show (if k = idx K then _ else _ : Nat → Int) a ≤ _
        by_cases h3 : k = idx K
        · rw [if_pos h3]
          have := hf _ (B + d * (K : Int)) h2 (by rw [← h3]; exact ih k hk) a ha; omega
        · rw [if_neg h3]; have := ih k hk a ha; omega
      · rw [if_neg h2]; have := ih k hk a ha; show (walkR f idx R K).1 k a ≤ _; omega
    · rw [if_neg h1]; have := ih k hk a ha; omega
theorem takeM_bd {i n c : Int} {x : Nat → Int} (hn : n ≤ 65536) (h : (takeM x i n).2 = 0) (hx : ∀ a, a < 54 → x a ≤ c) : ∀ a, a < 54 → (takeM x i n).1 a ≤ c + 65536 := by
  obtain ⟨a, ha, _, _, _, _, _, _, _, _, _, e⟩ := take_ok h
  rw [e]
  have := hx (6 + a) (by omega)
  exact updc_bd (fun b hb => by have := hx b hb; omega) (by omega)
theorem freeM_bd {i n c : Int} {x : Nat → Int} (h : (freeM x i n).2 = 0) (hx : ∀ a, a < 54 → x a ≤ c) : ∀ a, a < 54 → (freeM x i n).1 a ≤ c + 0 := by
  obtain ⟨a, ha, _, _, _, h5, _, _, _, _, e⟩ := free_ok h
  rw [e, Int.add_zero]
  have h1 := hx (6 + a) (by omega)
  have h2 : n ≤ x (6 + a) - x (12 + a) := h5
  exact updc_bd hx (by omega)
theorem rq_more (h : InvB L T) {a : Nat} {r : Int} (hr : r ≤ 256) : ∀ i, i < 6 → ∀ j, j < updA L.rn a (L.rn a + 1) i → updA L.rq a (updA (L.rq a) (L.rn a) r) i j ≤ 256 := fun i hi j hj => by
  unfold updA at hj ⊢
  by_cases e : i = a
  · subst e
    rw [if_pos rfl] at hj ⊢
    by_cases e2 : j = L.rn i
    · rw [if_pos e2]; exact hr
    · rw [if_neg e2]; exact h.rq i hi j (by omega)
  · rw [if_neg e] at hj ⊢; exact h.rq i hi j hj
attribute [local irreducible] pathK in
theorem invB_does (h0 : Inv0 L T) (h : InvB L T) (hs : EvSm v) (hm : mayE v = true) (hE : doesE L v = 0) :
    (∀ k, k < (doesC L v).nn → ∀ a, a < 54 → (doesC L v).R k a ≤ 2097152 * ((T + 1 : Nat) : Int)) ∧ (∀ i, i < 6 → ∀ j, j < (doesC L v).rn i → (doesC L v).rq i j ≤ 256) := by
  have hk := fields_kind hm
  have hro := regN_lt hm
  have hT : (0 : Int) ≤ (T : Int) := Int.natCast_nonneg _
  have hTs : ((T + 1 : Nat) : Int) = (T : Int) + 1 := Int.natCast_succ _
  have hmono : ∀ k, k < L.nn → ∀ a, a < 54 → L.R k a ≤ 2097152 * ((T + 1 : Nat) : Int) := fun k hk a ha => by have := h.rb k hk a ha; omega
  have hup : ∀ q r, (∀ a, a < 54 → r a ≤ 2097152 * ((T + 1 : Nat) : Int)) → ∀ k, k < L.nn → ∀ a, a < 54 → updA L.R q r k a ≤ 2097152 * ((T + 1 : Nat) : Int) := fun q r hr k hk a ha => by
    unfold updA; split
    · exact hr a ha
    · exact hmono k hk a ha
  have hsa := hs.amt
  unfold doesE at hE
  unfold doesC
  by_cases k1 : v.kind = 1
  · rw [if_pos k1] at hE ⊢
    obtain ⟨k, hkn, hx1, hnt, hamt, a3, a5, eC, hrise, htid, hup2⟩ := makes_tree h0 hm k1 hE
    rw [eC]
    refine ⟨fun i hi a ha => ?_, h.rq⟩
    show Fx.insI L.R k (upd (fun _ => 0) (regN v) v.amt) i a ≤ _
    rcases insI_old hkn hi with rfl | ⟨j, hj, e, _, _⟩
    · rw [insI_eq]
      exact updc_bd (c := 2097152 * ((T + 1 : Nat) : Int)) (fun b _ => by omega) (by omega) a ha
    · rw [e]; exact hmono j hj a ha
  by_cases k2 : v.kind = 2
  · rw [if_neg k1, if_pos k2] at hE ⊢
    unfold raiseE at hE
    split at hE; · cases hE
    rename_i n1
    split at hE; · cases hE
    have hq := h0.nodeK n1
    have h54 := h.rb _ hq (regN v) (by omega)
    exact ⟨hup _ _ (updc_bd (fun b hb => hmono _ hq b hb) (by omega)), h.rq⟩
  by_cases k3 : v.kind = 3
  · rw [if_neg k1, if_neg k2, if_pos k3] at hE ⊢
    have hw : ∀ k, k < L.nn → ∀ a, a < 54 → (takesW L v).1 k a ≤ 2097152 * ((T + 1 : Nat) : Int) := fun k hk a ha => by
      have h4 := h0.path4 v.node
      have := walkR_bd (f := fun x => takeM x v.o v.amt) (idx := idxT L v.node) (by decide) (fun x c => takeM_bd hsa) h.rb (pathK L.t L.tn v.node) k hk a ha
      unfold takesW; omega
    unfold takesC addReq
    generalize takesW L v = W at hw
    exact ⟨hw, rq_more h hs.req⟩
  by_cases k4 : v.kind = 4
  · rw [if_neg k1, if_neg k2, if_neg k3, if_pos k4] at hE ⊢
    have hw : ∀ k, k < L.nn → ∀ a, a < 54 → (freesW L v).1 k a ≤ 2097152 * ((T + 1 : Nat) : Int) := fun k hk a ha => by
      have := walkR_bd (f := fun x => freeM x v.o (L.g (kgN L v) 3)) (idx := idxT L (L.g (kgN L v) 2)) (Int.le_refl 0) (fun x c => freeM_bd) h.rb (pathK L.t L.tn (L.g (kgN L v) 2)) k hk a ha
      unfold freesW; omega
    unfold freesC addReq
    generalize freesW L v = W at hw
    exact ⟨hw, rq_more h hs.req⟩
  by_cases k5 : v.kind = 5
  · rw [if_neg k1, if_neg k2, if_neg k3, if_neg k4, if_pos k5] at hE ⊢
    unfold movesE at hE
    split at hE; · cases hE
    rename_i n1
    split at hE; · cases hE
    have hq := h0.nodeK n1
    obtain ⟨a, b, ha, hb, _, _, _, _, _, _, _, e⟩ := move_ok hE
    have h54 := h.rb _ hq (18 + a * 6 + b) (by omega)
    have h55 := hup (L.node v.node).toNat _ (updc_bd (x := L.R (L.node v.node).toNat) (p := 18 + a * 6 + b) (n := L.R (L.node v.node).toNat (18 + a * 6 + b) + v.amt) (fun b hb => hmono _ hq b hb) (by omega))
    refine ⟨?_, h.rq⟩
    show ∀ k, k < L.nn → ∀ c, c < 54 → updA L.R (L.node v.node).toNat (moveW L v).1 k c ≤ _
    unfold moveW
    rw [e]; exact h55
  rw [if_neg k1, if_neg k2, if_neg k3, if_neg k4, if_neg k5]
  split
  · exact ⟨hmono, h.rq⟩
  · exact ⟨hmono, h.rq⟩
theorem InvB.mono {T' : Nat} (h : InvB L T) (hT : T ≤ T') : InvB L T' where
  kt := fun i hi => by have := h.kt i hi; omega
  rb := fun k hk a ha => by have := h.rb k hk a ha; omega
  rq := h.rq
theorem inv_apply (hs : EvSm v) (h : Inv L T) : Inv (applyC L v) (T + 1) := by
  refine ⟨inv0_apply h.toInv0, ?_, ?_⟩ <;> unfold applyC <;> by_cases h0 : applyE L v = 0
  · rw [if_pos h0]
    unfold applyE at h0
    split at h0; · cases h0
    rename_i h1
    split at h0; · cases h0
    split at h0; · cases h0
    split at h0; · cases h0
    have hm : mayE v = true := by simpa using h1
    have hd := invS_does h.toInv0 h.s hm h0
    exact ⟨hd.us, hd.gb⟩
  · rw [if_neg h0]; exact h.s
  · rw [if_pos h0]
    unfold applyE at h0
    split at h0; · cases h0
    rename_i h1
    split at h0; · cases h0
    split at h0; · cases h0
    split at h0; · cases h0
    have hm : mayE v = true := by simpa using h1
    have hd := invB_does h.toInv0 h.b hs hm h0
    refine ⟨fun i hi => ?_, hd.1, hd.2⟩
    have ek : (knowC (doesC L v) v).known = updA L.known (regN v) (L.known (regN v) + 1) := by unfold knowC; simp only [doesC_known]
    rw [ek]
    have h1 := h.b.kt i hi
    have h2 := h.b.kt (regN v) (regN_lt hm)
    unfold updA
    split <;> omega
  · rw [if_neg h0]; exact h.b.mono (Nat.le_succ T)
theorem Inv.mono {T' : Nat} (h : Inv L T) (hT : T ≤ T') : Inv L T' := ⟨h.toInv0.mono hT, h.s, h.b.mono hT⟩
end
end Rt
end
section
namespace Rt
def evX (e : Nat → EvM) : Nat → Value := Fx.flat 14 fun k => evY (e k)
noncomputable def passC (e : Nat → EvM) (K : Nat → Int) (L : LdC) : Nat → LdC
  | 0 => L
  | j + 1 => if (e j).seq ≤ K (regN (e j)) then applyC (passC e K L j) (e j) else passC e K L j
def sameK (L M : LdC) : Prop := ∀ i, i < 6 → L.known i = M.known i
open Classical in
noncomputable def learnN (e : Nat → EvM) (n : Nat) (K : Nat → Int) : Nat → LdC → LdC
  | 0, L => L
  | f + 1, L => if sameK (passC e K L n) L then passC e K L n else learnN e n K f (passC e K L n)
noncomputable def learnC (e : Nat → EvM) (n : Nat) (K : Nat → Int) (L : LdC) : LdC := learnN e n K (n + 1) L
section
variable {e : Nat → EvM} {K : Nat → Int} {L M M' : LdC} {j n r : Nat}
theorem pass_yes (h : M = passC e K L j) (hc : (e j).seq ≤ K (regN (e j))) (h' : M' = applyC M (e j)) : M' = passC e K L (j + 1) := by unfold passC; rw [if_pos hc, ← h, h']
theorem pass_no (h : M = passC e K L j) (hc : ¬ (e j).seq ≤ K (regN (e j))) : M = passC e K L (j + 1) := by unfold passC; rw [if_neg hc, ← h]
theorem learn_end (hr : r ≤ n) (h : M = passC e K L n) (hs : sameK M L) : learnN e n K (n + 1 - r) L = M := by
  rw [show n + 1 - r = (n - r) + 1 by omega]; unfold learnN; rw [← h, if_pos hs]
theorem learn_on (hr : r ≤ n) (h : M = passC e K L n) (hs : ¬ sameK M L) : learnN e n K (n + 1 - (r + 1)) M = learnN e n K (n + 1 - r) L := by
  rw [show n + 1 - r = (n - r) + 1 by omega, show n + 1 - (r + 1) = n - r by omega]
  conv => rhs; unfold learnN
  rw [← h, if_neg hs]
theorem sameK_iff {m m' : LdM} : sameK m.core m'.core ↔ ∀ i, i < 6 → (Fx.rv .u64 m.s.known) i = (Fx.rv .u64 m'.s.known) i := by
  unfold sameK Fx.rv
  simp only [Value.int.injEq, true_and]; exact Iff.rfl
end
theorem KnOk.kd {K : Nat → Int} (h : KnOk K) : Fx.Kd (List.replicate 6 (some .u64)) (Fx.rv .u64 K) := Fx.kd_rv fun i hi => Fx.wfu64 (by have := h i hi; omega)
end Rt
attribute [irreducible] Rt.learnN
set_option maxRecDepth 20000 in
theorem l_learn (m : LdM) (B p T : Nat) (aa : Option Addr) (an ac : Nat) (ev : Nat → EvM) (K : Nat → Int) (w : World) (hL : LdO w B p m) (hI : Inv m.core T) (hA : Fx.Arr w aa an 14 (evX ev)) (hwf : ∀ k, k < an → EvWf (ev k)) (hmay : ∀ k, k < an → mayE (ev k) = true) (hsm : ∀ k, k < an → EvSm (ev k)) (han : an ≤ 60) (hT : T ≤ 890000) :
    Calls Try.prog 69 #[.pointer (some ⟨p, 0, none⟩), .slice aa (an) (ac), .agg (Fx.varr 6 (Fx.rv .u64 K))] w fun e w' => ∃ p' m', e = .returned (.pointer (some ⟨p', 0, none⟩)) ∧ m'.core = learnC ev an K m.core ∧ Inv m'.core (T + 3660) ∧ LdO w' B p' m' ∧ Below w.heap.size w w' := by
 refine Fx.enter Try.func69 rfl (n := 59) rfl (by rfl) ?_
 refine Fx.W.seq (Fx.W.list (Fx.L.box (m := 6) (y := Fx.rv .u64 K) (by rfl) rfl rfl (Fx.cells_agg _ _) rfl fun g1 w1 eg1 m1 s1 z1 => ?_))
 have m2 := hL.up s1.old
 have b1 := s1.below (Below.refl w.heap.size w) (Below.refl w.heap.size w).size (Below.refl w.heap.size w).size
 have lg1 : w.heap.size ≤ g1 := by rw [eg1]; exact (Below.refl w.heap.size w).size
 have tg1 : g1 < w1.heap.size := m1.lt
 clear eg1
 refine Fx.L.v (.pointer none) (x_assign rfl rfl) (Fx.L.nil (Fx.seqN (Fx.W.seq (Fx.W.seq (Fx.W.list (Fx.L.v (.int .i64 (0)) (x_assign rfl rfl) (Fx.L.nil (Fx.seqN (Fx.W.block (Fx.W.loop (fun f w_ => ∃ r : Nat, ∃ p1 : Nat, ∃ m1 : LdM, ∃ T1 : Nat, r ≤ an + 1 ∧ learnN ev an K (an + 1 - r) m1.core = learnC ev an K m.core ∧ Inv m1.core T1 ∧ T1 ≤ T + r * 60 ∧ f 0 = .pointer (some ⟨p1, 0, none⟩) ∧ f 1 = .slice aa (an) (ac) ∧ f 5 = .pointer (some ⟨g1, 0, none⟩) ∧ f 7 = .int .i64 ((r : Int)) ∧ Fx.Blk w_ g1 6 (Fx.rv .u64 K) 29 ∧ LdO w_ B p1 m1 ∧ Below w.heap.size w w_) (fun f _ => (an + 1 - (intOf (f 7)).toNat)) ⟨0, p, m, T, by omega, rfl, hI, by omega, (by rfl), (by rfl), (by rfl), (by first | rfl | exact congrArg (Value.int .i64) (by omega)), m1, m2, b1⟩ ?_))))))))))
 rintro f1 w2 ⟨r, p1, m1, T1, hr, hc1, hI1, hT1, h1, h2, h3, h4, m3, m4, b2⟩
 refine Fx.W.seq (Fx.W.seq (Fx.W.list (Fx.L.v (.int .i64 ((r : Int))) (x_move rfl h4) (Fx.L.v (.slice aa (an) (ac)) (x_move rfl h2) (Fx.L.v (.int .i64 ((an : Int))) (x_len rfl rfl rfl (by kernel_rfl)) ?_)))))
 by_cases c13 : (r : Int) ≤ (an : Int)
 ·refine Fx.L.v (.bool true) (Fx.x_leqT rfl rfl rfl c13) (Fx.L.nil (Fx.seqN (Fx.W.cond (b := true) rfl (fun _ => Fx.W.skip (Fx.seqN (Fx.W.seq (Fx.W.block (Fx.W.seq ?_))))) (fun h => nomatch h))))
  have hLc1 := m4.c
  refine Fx.W.list (Fx.L.v (.pointer (some ⟨p1, 0, none⟩)) (x_move rfl h1) (Fx.L.v (.pointer (some ⟨p1, 0, none⟩)) (x_nil rfl rfl) (Fx.L.v (.pointer (some ⟨p1, 0, none⟩)) (x_field rfl rfl Try.underlying71 rfl (s := 20) (by kernel_rfl) rfl rfl) (Fx.L.v (.pointer (some ⟨p1, 12, none⟩)) (x_field rfl rfl Try.underlying43 rfl (s := 6) (by kernel_rfl) rfl (by show _ + 12 = _; omega)) (Fx.L.v (.agg (Fx.varr 6 (Fx.rv .u64 m1.s.known))) (x_loadA (x := ldY m1) (y := Fx.rv .u64 m1.s.known) rfl rfl (by kernel_rfl) (by kernel_rfl) hLc1.cel (i := 12) (by omega) (by omega) (fun j hj => ldY_st _ (by omega) (stY_known _ hj (by omega)))) (Fx.L.new (m := 6) (y := Fx.rv .u64 (fun _ => 0)) (by rfl) rfl (by kernel_rfl) rfl fun g2 w3 eg2 m5 s2 z2 => ?_))))))
  have m6 := m3.stp s2 (Nat.ne_of_lt (m3.lt))
  have m7 := m4.up s2.old
  have b3 := s2.below b2 b2.size b2.size
  have lg2 : w.heap.size ≤ g2 := by rw [eg2]; exact b2.size
  have ng2m6 : g1 ≠ g2 := by rw [eg2]; exact Nat.ne_of_lt (m3.lt)
  have ng2m8 : p1 ≠ g2 := by rw [eg2]; exact Nat.ne_of_lt (hLc1.lt)
  have tg2 : g2 < w3.heap.size := m5.lt
  clear eg2
  refine Fx.L.storeA (x := Fx.rv .u64 (fun _ => 0)) (y := Fx.rv .u64 m1.s.known) (by rfl) rfl rfl rfl rfl (fun _ _ => rfl) (by kernel_rfl) m5 (i := 0) (by omega) fun w4 m9 s3 z3 => ?_
  have m10 : Fx.Blk w4 g2 6 (Fx.rv .u64 m1.s.known) 29 := Fx.ovr_all m9
  have m11 := m6.stp s3 (by omega)
  have hct1 := Fx.ChT.of_stp s3 m5.ty
  have m12 := m7.chT hct1 (by decide)
  have b4 := s3.below b3 b3.size (by omega)
  refine Fx.L.nil (Fx.seqN (Fx.W.seq (Fx.W.seq (Fx.W.list (Fx.L.v (.int .i64 (0)) (x_assign rfl rfl) (Fx.L.nil (Fx.seqN (Fx.W.block (Fx.W.loop (fun f w_ => ∃ j : Nat, ∃ p2 : Nat, ∃ m2 : LdM, ∃ T2 : Nat, j ≤ an ∧ m2.core = passC ev K m1.core j ∧ Inv m2.core T2 ∧ T2 ≤ T + r * 60 + j ∧ f 0 = .pointer (some ⟨p2, 0, none⟩) ∧ f 1 = .slice aa (an) (ac) ∧ f 5 = .pointer (some ⟨g1, 0, none⟩) ∧ f 7 = .int .i64 ((r : Int)) ∧ f 8 = .pointer (some ⟨g2, 0, none⟩) ∧ f 9 = .int .i64 ((j : Int)) ∧ Fx.Blk w_ g1 6 (Fx.rv .u64 K) 29 ∧ Fx.Blk w_ g2 6 (Fx.rv .u64 m1.s.known) 29 ∧ LdO w_ B p2 m2 ∧ Below w.heap.size w w_) (fun f _ => (an - (intOf (f 9)).toNat)) ⟨0, p1, m1, T1, by omega, rfl, hI1, by omega, h1, h2, h3, (h4.trans (by first | rfl | exact congrArg (Value.int .i64) (by omega))), (by rfl), (by first | rfl | exact congrArg (Value.int .i64) (by omega)), m11, m10, m12, b4⟩ ?_)))))))))
  rintro f2 w5 ⟨j, p2, m2, T2, hj, hc2, hI2, hT2, h5, h6, h7, h8, h9, h10, m14, m15, m16, b5⟩
  refine Fx.W.seq (Fx.W.seq (Fx.W.list (Fx.L.v (.int .i64 ((j : Int))) (x_move rfl h10) (Fx.L.v (.slice aa (an) (ac)) (x_move rfl h6) (Fx.L.v (.int .i64 ((an : Int))) (x_len rfl rfl rfl (by kernel_rfl)) ?_)))))
  by_cases c24 : (j : Int) < (an : Int)
  ·refine Fx.L.v (.bool true) (Fx.x_lssT rfl rfl rfl c24) (Fx.L.nil (Fx.seqN (Fx.W.cond (b := true) rfl (fun _ => Fx.W.skip (Fx.seqN (Fx.W.seq (Fx.W.block (Fx.W.seq ?_))))) (fun h => nomatch h))))
   obtain ⟨a, ha, ho⟩ := regE_nat (may_reg (hmay j (by omega)))
   have eN : regN (ev j) = a := by unfold regN; omega
   -- region 8 draws
   refine Fx.W.quiet (fun v1 => ∃ q, v1 = World.drewN w5 q) (by kernel_rfl) (by kernel_rfl) ⟨1, rfl⟩ ?_
   refine Fx.Qt.v (.slice aa (an) (ac)) (fun v1 hv1 => x_move rfl h6) (Fx.Qt.v (.int .i64 ((j : Int))) (fun v1 hv1 => x_move rfl h10) ?_)
   obtain ⟨bq1, oq1, eq1, m17⟩ := (hA.up b5 rfl) (by omega)
   have lbq1 : bq1 < w5.heap.size := m17.lt (by omega)
   refine Fx.Qt.v (.pointer (some ⟨bq1, 14 * j + oq1, none⟩)) (fun v1 hv1 => x_indexS rfl (rfl.trans (congrArg (fun q => Value.slice q (an) (ac)) eq1)) rfl Try.underlying61 (s := 14) (by kernel_rfl) (by omega) (by omega) (by omega)) (Fx.Qt.v (.pointer (some ⟨bq1, 14 * j + oq1 + 1, none⟩)) (fun v1 hv1 => x_field rfl rfl Try.underlying54 rfl (s := 1) (by kernel_rfl) rfl (by show _ + 1 = _; omega)) (Fx.Qt.v (.int .u64 ((ev j).seq)) (fun v1 hv1 => x_load1 (x := evX ev) rfl rfl (by kernel_rfl) (by obtain ⟨qd, rfl⟩ := hv1; exact m17) (i := 14 * j + 1) (by omega) (by omega) (Fx.flat_cell (k := j) (j := 1) (by omega) (by omega) rfl)) (Fx.Qt.v (.slice aa (an) (ac)) (fun v1 hv1 => x_move rfl h6) (Fx.Qt.v (.int .i64 ((j : Int))) (fun v1 hv1 => x_move rfl h10) (Fx.Qt.v (.pointer (some ⟨bq1, 14 * j + oq1, none⟩)) (fun v1 hv1 => x_indexS rfl (rfl.trans (congrArg (fun q => Value.slice q (an) (ac)) eq1)) rfl Try.underlying61 (s := 14) (by kernel_rfl) (by omega) (by omega) (by omega)) (Fx.Qt.v (.pointer (some ⟨bq1, 14 * j + oq1, none⟩)) (fun v1 hv1 => x_field rfl rfl Try.underlying54 rfl (s := 1) (by kernel_rfl) rfl rfl) (Fx.Qt.v (.int .i64 ((ev j).o)) (fun v1 hv1 => x_load1 (x := evX ev) rfl rfl (by kernel_rfl) (by obtain ⟨qd, rfl⟩ := hv1; exact m17) (i := 14 * j) (by omega) (by omega) (Fx.flat_cell (k := j) (j := 0) (by omega) (by omega) rfl)) (Fx.Qt.v (.int .i64 ((a : Int))) (fun v1 hv1 => Fx.x_sub rfl rfl rfl (Fx.i64e (by omega) (by omega))) (Fx.Qt.v (.pointer (some ⟨g1, a, none⟩)) (fun v1 hv1 => x_index rfl h7 rfl Try.underlying29 (s := 1) (by kernel_rfl) (by omega) (by omega) (by omega)) (Fx.Qt.v (.int .u64 (K a)) (fun v1 hv1 => x_load1 (x := Fx.rv .u64 K) rfl rfl (by kernel_rfl) (by obtain ⟨qd, rfl⟩ := hv1; exact m14.cel) (i := a) (by omega) (by omega) rfl) ?_))))))))))
   by_cases c40 : ((ev j).seq) ≤ (K a)
   ·refine Fx.Qt.v (.bool true) (fun v1 hv1 => Fx.x_leqT rfl rfl rfl c40) (Fx.Qt.nil ?_)
    rintro _ ⟨qd, rfl⟩
    obtain ⟨wq1, ewq1⟩ : ∃ v1, v1 = World.drewN w5 qd := ⟨_, rfl⟩
    rw [← ewq1]
    have s4 : Fx.Stp w5.heap.size w5 wq1 := by rw [ewq1]; exact Fx.Stp.of_below (bdrN w5 qd)
    have m18 := m14.stp s4 (Nat.ne_of_lt (m14.lt))
    have m19 := m15.stp s4 (Nat.ne_of_lt (m15.lt))
    have m20 := m16.up s4.old
    have m21 := m17.stp s4 (Nat.ne_of_lt (m17.lt (by omega)))
    have b6 := s4.below b5 b5.size b5.size
    clear ewq1
    refine Fx.seqN (Fx.W.cond (b := true) rfl (fun _ => Fx.W.list (Fx.L.v (.pointer (some ⟨p2, 0, none⟩)) (x_move rfl h5) ?_)) (fun h => nomatch h))
    refine Fx.L.v (.slice aa (an) (ac)) (x_move rfl h6) (Fx.L.v (.int .i64 ((j : Int))) (x_move rfl h10) (Fx.L.v (.pointer (some ⟨bq1, 14 * j + oq1, none⟩)) (x_indexS rfl (rfl.trans (congrArg (fun q => Value.slice q (an) (ac)) eq1)) rfl Try.underlying61 (s := 14) (by kernel_rfl) (by omega) (by omega) (by omega)) (Fx.L.v (.agg (Fx.varr 14 (evY (ev j)))) (x_loadA (x := evX ev) (y := evY (ev j)) rfl rfl (by kernel_rfl) (by kernel_rfl) m21 (i := 14 * j) (by omega) (by omega) (fun jq hjq => Fx.flat_at (k := j) (by omega) hjq)) (Fx.L.call (by rfl) (Fx.r_call (args := [.pointer (some ⟨p2, 0, none⟩), .agg (Fx.varr 14 (evY (ev j)))]) rfl rfl Try.func57 rfl rfl) rfl ((l_apply m2 B p2 T2 (ev j) _ m20 (hwf j (by omega)) hI2.w (by omega)).mono ?_)))))
    rintro e9 w6 ⟨p3, m3, he, hc3, hL1, hb1⟩
    refine ⟨.tuple #[.pointer (some ⟨p3, 0, none⟩), .int .i64 (applyE m2.core (ev j))], he, ?_⟩
    clear he
    have s5 := Fx.Stp.of_below hb1
    have m22 := m18.stp s5 (Nat.ne_of_lt (m18.lt))
    have m23 := m19.stp s5 (Nat.ne_of_lt (m19.lt))
    have b7 := s5.below b6 b6.size b6.size
    refine Fx.L.v (.tuple #[.pointer (some ⟨p3, 0, none⟩), .int .i64 (applyE m2.core (ev j))]) (x_move rfl rfl) (Fx.L.v (.pointer (some ⟨p3, 0, none⟩)) (Fx.x_extract rfl rfl rfl) (Fx.L.v (.int .i64 (applyE m2.core (ev j))) (Fx.x_extract rfl rfl rfl) (Fx.L.v (.pointer (some ⟨p3, 0, none⟩)) (x_assign rfl rfl) (Fx.L.nil (Fx.blkN (Fx.seqN (Fx.W.list (Fx.L.v (.int .i64 ((j : Int))) (x_move rfl h10) (Fx.L.v (.int .i64 ((j : Int) + 1)) (Fx.x_add rfl rfl rfl (Fx.i64e (by omega) (by omega))) (Fx.L.v (.int .i64 ((j : Int) + 1)) (x_assign rfl rfl) (Fx.L.nil (Fx.lpN ⟨j + 1, p3, m3, T2 + 1, by omega, (pass_yes hc2 (by rw [eN]; exact c40) hc3), (by rw [hc3]; exact inv_apply (hsm j (by omega)) hI2), by omega, (by rfl), h6, h7, (h8.trans (by first | rfl | exact congrArg (Value.int .i64) (by omega))), h9, (by first | rfl | exact congrArg (Value.int .i64) (by omega)), m22, m23, hL1, b7⟩ ?_))))))))))))
    show (an - (intOf ((.int .i64 ((j : Int) + 1)))).toNat) < _
    simp only [h10, intOf]; omega
   ·refine Fx.Qt.v (.bool false) (fun v1 hv1 => x_leqF rfl rfl rfl c40) (Fx.Qt.nil ?_)
    rintro _ ⟨qd, rfl⟩
    obtain ⟨wq2, ewq2⟩ : ∃ v1, v1 = World.drewN w5 qd := ⟨_, rfl⟩
    rw [← ewq2]
    have s6 : Fx.Stp w5.heap.size w5 wq2 := by rw [ewq2]; exact Fx.Stp.of_below (bdrN w5 qd)
    have m25 := m14.stp s6 (Nat.ne_of_lt (m14.lt))
    have m26 := m15.stp s6 (Nat.ne_of_lt (m15.lt))
    have m27 := m16.up s6.old
    have b8 := s6.below b5 b5.size b5.size
    clear ewq2
    refine Fx.seqN (Fx.W.cond (b := false) rfl (fun h => nomatch h) (fun _ => Fx.W.skip (Fx.blkN (Fx.seqN (Fx.W.list (Fx.L.v (.int .i64 ((j : Int))) (x_move rfl h10) (Fx.L.v (.int .i64 ((j : Int) + 1)) (Fx.x_add rfl rfl rfl (Fx.i64e (by omega) (by omega))) (Fx.L.v (.int .i64 ((j : Int) + 1)) (x_assign rfl rfl) (Fx.L.nil (Fx.lpN ⟨j + 1, p2, m2, T2, by omega, (pass_no hc2 (by rw [eN]; exact c40)), hI2, by omega, h5, h6, h7, (h8.trans (by first | rfl | exact congrArg (Value.int .i64) (by omega))), h9, (by first | rfl | exact congrArg (Value.int .i64) (by omega)), m25, m26, m27, b8⟩ ?_))))))))))
    show (an - (intOf ((.int .i64 ((j : Int) + 1)))).toNat) < _
    simp only [h10, intOf]; omega
  ·refine Fx.L.v (.bool false) (Fx.x_lssF rfl rfl rfl c24) (Fx.L.nil (Fx.seqN (Fx.W.cond (b := false) rfl (fun h => nomatch h) (fun _ => Fx.W.exit (Fx.seqX (Fx.lpX (Fx.blkX (Fx.seqN (Fx.W.seq ?_)))))))))
   have hLc2 := m16.c
   -- region 10 draws
   refine Fx.W.quiet (fun v1 => ∃ q, v1 = World.drewN w5 q) (by kernel_rfl) (by kernel_rfl) ⟨1, rfl⟩ ?_
   refine Fx.Qt.v (.pointer (some ⟨p2, 0, none⟩)) (fun v1 hv1 => x_move rfl h5) (Fx.Qt.v (.pointer (some ⟨p2, 0, none⟩)) (fun v1 hv1 => x_nil rfl rfl) (Fx.Qt.v (.pointer (some ⟨p2, 0, none⟩)) (fun v1 hv1 => x_field rfl rfl Try.underlying71 rfl (s := 20) (by kernel_rfl) rfl rfl) (Fx.Qt.v (.pointer (some ⟨p2, 12, none⟩)) (fun v1 hv1 => x_field rfl rfl Try.underlying43 rfl (s := 6) (by kernel_rfl) rfl (by show _ + 12 = _; omega)) (Fx.Qt.v (.agg (Fx.varr 6 (Fx.rv .u64 m2.s.known))) (fun v1 hv1 => x_loadA (x := ldY m2) (y := Fx.rv .u64 m2.s.known) rfl rfl (by kernel_rfl) (by kernel_rfl) (by obtain ⟨qd, rfl⟩ := hv1; exact hLc2.cel) (i := 12) (by omega) (by omega) (fun j hj => ldY_st _ (by omega) (stY_known _ hj (by omega)))) (Fx.Qt.v (.agg (Fx.varr 6 (Fx.rv .u64 m1.s.known))) (fun v1 hv1 => x_loadA (x := Fx.rv .u64 m1.s.known) (y := Fx.rv .u64 m1.s.known) rfl h9 (by kernel_rfl) (by kernel_rfl) (by obtain ⟨qd, rfl⟩ := hv1; exact m15.cel) (i := 0) (by omega) (by omega) (fun j _ => by rw [Nat.zero_add])) ?_)))))
   by_cases c56 : ∀ i, i < 6 → (Fx.rv .u64 m2.s.known) i = (Fx.rv .u64 m1.s.known) i
   ·refine Fx.Qt.v (.bool true) (fun v1 hv1 => Fx.x_eqlA (n := 6) (ks := List.replicate 6 (some .u64)) (X := Fx.rv .u64 m2.s.known) (Y := Fx.rv .u64 m1.s.known) 12 true rfl rfl rfl (Fx.yesb c56) (KnOk.kd hI2.kn) (KnOk.kd hI1.kn) rfl (by kernel_rfl) (by kernel_rfl) (by kernel_rfl) (by kernel_rfl) (by kernel_rfl)) (Fx.Qt.nil ?_)
    rintro _ ⟨qd, rfl⟩
    obtain ⟨wq3, ewq3⟩ : ∃ v1, v1 = World.drewN w5 qd := ⟨_, rfl⟩
    rw [← ewq3]
    have s7 : Fx.Stp w5.heap.size w5 wq3 := by rw [ewq3]; exact Fx.Stp.of_below (bdrN w5 qd)
    have m31 := m16.up s7.old
    have b9 := s7.below b5 b5.size b5.size
    clear ewq3
    refine Fx.seqN (Fx.W.cond (b := true) rfl (fun _ => Fx.W.seq (Fx.W.list (Fx.L.v (.pointer (some ⟨p2, 0, none⟩)) (x_move rfl h5) ?_))) (fun h => nomatch h))
    refine Fx.L.v (.pointer (some ⟨p2, 0, none⟩)) (x_assign rfl rfl) (Fx.L.nil (Fx.seqN (Fx.W.ret (Fx.blkR (Fx.seqR (Fx.lpR (Fx.blkR (Fx.seqR (⟨.pointer (some ⟨p2, 0, none⟩), Fx.retV1 Try.results69 (by exact rfl), ?_⟩)))))))))
    exact ⟨p2, m2, rfl, ((learn_end (n := an) (r := r) (by omega) (by rw [show an = j by omega]; exact hc2) (sameK_iff.2 c56)).symm.trans hc1), hI2.mono (by omega), m31, b9⟩
   ·refine Fx.Qt.v (.bool false) (fun v1 hv1 => Fx.x_eqlA (n := 6) (ks := List.replicate 6 (some .u64)) (X := Fx.rv .u64 m2.s.known) (Y := Fx.rv .u64 m1.s.known) 12 false rfl rfl rfl (Fx.nob c56) (KnOk.kd hI2.kn) (KnOk.kd hI1.kn) rfl (by kernel_rfl) (by kernel_rfl) (by kernel_rfl) (by kernel_rfl) (by kernel_rfl)) (Fx.Qt.nil ?_)
    rintro _ ⟨qd, rfl⟩
    obtain ⟨wq4, ewq4⟩ : ∃ v1, v1 = World.drewN w5 qd := ⟨_, rfl⟩
    rw [← ewq4]
    have s8 : Fx.Stp w5.heap.size w5 wq4 := by rw [ewq4]; exact Fx.Stp.of_below (bdrN w5 qd)
    have m33 := m14.stp s8 (Nat.ne_of_lt (m14.lt))
    have m35 := m16.up s8.old
    have b10 := s8.below b5 b5.size b5.size
    clear ewq4
    refine Fx.seqN (Fx.W.cond (b := false) rfl (fun h => nomatch h) (fun _ => Fx.W.skip (Fx.blkN (Fx.seqN (Fx.W.list (Fx.L.v (.int .i64 ((r : Int))) (x_move rfl h8) (Fx.L.v (.int .i64 ((r : Int) + 1)) (Fx.x_add rfl rfl rfl (Fx.i64e (by omega) (by omega))) (Fx.L.v (.int .i64 ((r : Int) + 1)) (x_assign rfl rfl) (Fx.L.nil (Fx.lpN ⟨r + 1, p2, m2, T2, by omega, (learn_on (by omega) (by rw [show an = j by omega]; exact hc2) (fun h => c56 (sameK_iff.1 h))).trans hc1, hI2, by omega, h5, h6, h7, (by first | rfl | exact congrArg (Value.int .i64) (by omega)), m33, m35, b10⟩ ?_))))))))))
    show (an + 1 - (intOf ((.int .i64 ((r : Int) + 1)))).toNat) < _
    simp only [h4, intOf]; omega
 ·refine Fx.L.v (.bool false) (x_leqF rfl rfl rfl c13) (Fx.L.nil (Fx.seqN (Fx.W.cond (b := false) rfl (fun h => nomatch h) (fun _ => Fx.W.exit (Fx.seqX (Fx.lpX (Fx.blkX (Fx.seqN (Fx.W.seq (Fx.W.list (Fx.L.v (.pointer (some ⟨p1, 0, none⟩)) (x_move rfl h1) (Fx.L.v (.pointer (some ⟨p1, 0, none⟩)) (x_assign rfl rfl) (Fx.L.nil (Fx.seqN (Fx.W.ret (⟨.pointer (some ⟨p1, 0, none⟩), Fx.retV1 Try.results69 (by exact rfl), ?_⟩))))))))))))))))
  exact ⟨p1, m1, rfl, (by rw [← hc1, show an + 1 - r = 0 by omega]; unfold learnN; rfl), hI1.mono (by omega), m4, b2⟩
end
namespace Rt
def wdY (x y : Value) : Nat → Value := fun q => if q = 0 then x else y
theorem wdY_0 (x y v : Value) : Fx.updV (wdY x y) 0 v = wdY v y := by funext q; unfold Fx.updV wdY; split <;> rfl
theorem wdY_1 (x y v : Value) : ∀ j, j < 2 → Fx.updV (wdY x y) 1 v j = wdY x v j := fun j hj => by
  unfold Fx.updV wdY
  rcases j with _|_|j
  · rfl
  · rfl
  · omega
def ptX (pl : Nat → Nat) : Nat → Value := fun i => .pointer (some ⟨pl i, 0, none⟩)
def Lds (w : World) (B n : Nat) (pl : Nat → Nat) (ml : Nat → LdM) : Prop := ∀ i, i < n → LdO w B (pl i) (ml i)
theorem Lds.up {w w' : World} {B n : Nat} {pl : Nat → Nat} {ml : Nat → LdM} (h : Lds w B n pl ml) (hb : Below w.heap.size w w') : Lds w' B n pl ml := fun i hi => (h i hi).up hb
theorem Lds.chT {w w' : World} {B n : Nat} {pl : Nat → Nat} {ml : Nat → LdM} {Ts : List TypeId} (h : Lds w B n pl ml) (hs : Fx.ChT Ts w w') (ne : (ldTs.all fun T => !Ts.contains T) = true) : Lds w' B n pl ml := fun i hi => (h i hi).chT hs ne
theorem Lds.put {w : World} {B n o p : Nat} {pl : Nat → Nat} {ml : Nat → LdM} {m : LdM} (h : Lds w B n pl ml) (hl : LdO w B p m) : Lds w B n (updA pl o p) (updA ml o m) := fun i hi => by
  unfold updA
  by_cases e : i = o
  · rw [if_pos e, if_pos e]; exact hl
  · rw [if_neg e, if_neg e]; exact h i hi
theorem Lds.snoc {w : World} {B n p : Nat} {pl : Nat → Nat} {ml : Nat → LdM} {m : LdM} (h : Lds w B n pl ml) (hl : LdO w B p m) : Lds w B (n + 1) (updA pl n p) (updA ml n m) := fun i hi => by
  unfold updA
  by_cases e : i = n
  · rw [if_pos e, if_pos e]; exact hl
  · rw [if_neg e, if_neg e]; exact h i (by omega)
theorem pt_app {n p : Nat} {pl : Nat → Nat} {z : Nat → Value} : ∀ j, j < (n + 1) * 1 → Fx.appX (ptX pl) (n * 1) (Fx.ovr z (0 * 1) 1 (fun _ => .pointer (some ⟨p, 0, none⟩))) j = ptX (updA pl n p) j := by
  intro j hj
  unfold Fx.appX ptX updA
  by_cases h : j < n * 1
  · rw [if_pos h, if_neg (by omega)]
  · rw [if_neg h, if_pos (by omega)]
    unfold Fx.ovr
    rw [if_pos (by omega)]
theorem pt_put {o p : Nat} {pl : Nat → Nat} : Fx.updV (ptX pl) o (.pointer (some ⟨p, 0, none⟩)) = ptX (updA pl o p) := by
  funext j; unfold Fx.updV ptX updA
  by_cases h : j = o
  · rw [if_pos h, if_pos h]
  · rw [if_neg h, if_neg h]
theorem ev_app {n : Nat} {e : Nat → EvM} {v : EvM} {z : Nat → Value} : ∀ j, j < (n + 1) * 14 → Fx.appX (evX e) (n * 14) (Fx.ovr z (0 * 14) 14 (evY v)) j = evX (updA e n v) j := fun j hj =>
  (Fx.app_flat j hj).trans (Fx.flat_cong (fun i _ q _ => by unfold Fx.updF updA; split <;> rfl) j hj)
structure WM where
  n : Nat
  la : Option Addr
  lc : Nat
  pl : Nat → Nat
  ml : Nat → LdM
  an : Nat
  aa : Option Addr
  ac : Nat
  ev : Nat → EvM
end Rt
structure WldO (w : World) (B p : Nat) (M : WM) (T : Nat) : Prop where
  c : Fx.Blk w p 2 (wdY (.slice M.la M.n M.lc) (.slice M.aa M.an M.ac)) 63
  l : Fx.Own w B 59 1 (.slice M.la M.n M.lc) M.n (ptX M.pl)
  a : Fx.Own w B 54 14 (.slice M.aa M.an M.ac) M.an (evX M.ev)
  g : Lds w B M.n M.pl M.ml
  inv : ∀ i, i < M.n → Inv (M.ml i).core T
  wf : ∀ k, k < M.an → EvWf (M.ev k)
  may : ∀ k, k < M.an → mayE (M.ev k) = true
  sm : ∀ k, k < M.an → EvSm (M.ev k)
  pB : B ≤ p
  n1 : 1 ≤ M.n
  n6 : M.n ≤ 6
def wdTs : List Nat := [63, 59, 54] ++ ldTs
theorem WldO.up {w w' : World} {B p T : Nat} {M : WM} (h : WldO w B p M T) (hb : Below w.heap.size w w') : WldO w' B p M T := { h with c := h.c.stp (Fx.Stp.of_below hb) (Nat.ne_of_lt h.c.lt), l := h.l.up hb, a := h.a.up hb, g := h.g.up hb }
theorem WldO.chT {w w' : World} {B p T : Nat} {M : WM} {Ts : List TypeId} (h : WldO w B p M T) (hs : Fx.ChT Ts w w') (ne : (wdTs.all fun T => !Ts.contains T) = true) : WldO w' B p M T := by
  have hq : ∀ T' ∈ wdTs, Ts.contains T' = false := fun T' hT => by
    have := List.all_eq_true.1 ne T' hT
    simpa using this
  exact { h with c := h.c.chT hs (hq _ (by decide)), l := h.l.chT hs (hq _ (by decide)), a := h.a.chT hs (hq _ (by decide)), g := h.g.chT hs (List.all_eq_true.2 fun T hT => List.all_eq_true.1 ne T (List.mem_append_right _ hT)) }
theorem newM_lo {w : World} {B p k tb : Nat} (hc : Fx.Blk w p 27 (ldY (newM k tb)) 71) (ht : Fx.Blk w tb 1 (fun _ => .slice none 0 0) 163) (h1 : B ≤ p) (h2 : B ≤ tb) : LdO w B p (newM k tb) where
  c := hc
  n := Fx.Own.nil _ _ _ _ _
  g := Fx.Own.nil _ _ _ _ _
  tc := ht
  t := Fx.Own.nil _ _ _ _ _
  r := ⟨fun _ _ => Fx.Own.nil _ _ _ _ _, fun _ _ _ _ _ _ e => by cases e⟩
  pB := h1
  tB := h2
  bn := Nat.zero_le _
  bg := Nat.zero_le _
  bt := Nat.zero_le _
  br := fun _ _ => Nat.zero_le _
theorem Rt.newM_inv (k tb : Nat) : Inv (newM k tb).core 0 where
  tnn := rfl
  nn := Nat.zero_le _
  tid := fun _ h => absurd h (Nat.not_lt_zero _)
  rise := fun _ _ _ h => absurd h (Nat.not_lt_zero _)
  pos := fun _ h => absurd h (Nat.not_lt_zero _)
  top := fun _ h => absurd h (Nat.not_lt_zero _)
  up := fun _ h => absurd h (Nat.not_lt_zero _)
  dep := fun _ => ⟨0, Nat.zero_le _, by show (-1 : Int) < 0; decide⟩
  gn := Nat.le_refl _
  rn := fun _ _ => Nat.le_refl _
  may := fun _ h => absurd h (Nat.not_lt_zero _)
  g47 := fun _ h => absurd h (Nat.not_lt_zero _)
  kn := fun _ _ => ⟨Int.le_refl _, by show (0 : Int) < _; decide⟩
  s := ⟨fun _ h => absurd h (Nat.not_lt_zero _), fun _ h => absurd h (Nat.not_lt_zero _)⟩
  b := ⟨fun _ _ => Int.le_refl _, fun _ h => absurd h (Nat.not_lt_zero _), fun _ _ _ h => absurd h (Nat.not_lt_zero _)⟩
set_option maxRecDepth 20000 in
theorem l_newWorld (n : Nat) (w : World) (hn1 : 1 ≤ n) (hn6 : n ≤ 6) :
    Calls Try.prog 22 #[.int .i64 ((n : Int))] w fun e w' => ∃ p M, e = .returned (.pointer (some ⟨p, 0, none⟩)) ∧ M.n = n ∧ M.an = 0 ∧ WldO w' w.heap.size p M 0 ∧ Below w.heap.size w w' := by
 refine Fx.enter Try.func22 rfl (n := 30) rfl (by rfl) ?_
 refine Fx.W.seq (Fx.W.list (Fx.L.v (.pointer none) (x_assign rfl rfl) (Fx.L.nil (Fx.seqN (Fx.W.seq (Fx.W.list (Fx.L.v (.agg (Fx.varr 2 (fun _ => .slice none 0 0))) (x_build (vs := []) (places := #[(0, 1), (1, 1)]) (m := 2) (x := fun _ => .slice none 0 0) rfl rfl Try.underlying63 (by kernel_rfl) (by kernel_rfl) (by rfl)) (Fx.L.box (m := 2) (y := fun _ => .slice none 0 0) (by rfl) rfl rfl (Fx.cells_agg _ _) rfl fun g1 w1 eg1 m1 s1 z1 => ?_))))))))
 have b1 := s1.below (Below.refl w.heap.size w) (Below.refl w.heap.size w).size (Below.refl w.heap.size w).size
 have lg1 : w.heap.size ≤ g1 := by rw [eg1]; exact (Below.refl w.heap.size w).size
 have tg1 : g1 < w1.heap.size := m1.lt
 clear eg1
 refine Fx.L.v (.pointer (some ⟨g1, 0, none⟩)) (x_assign rfl rfl) (Fx.L.nil (Fx.seqN (Fx.W.seq (Fx.W.seq (Fx.W.list (Fx.L.v (.int .i64 (0)) (x_assign rfl rfl) (Fx.L.nil (Fx.seqN (Fx.W.block ?_)))))))))
 have m2 : Fx.Blk w1 g1 2 (wdY (.slice none 0 0) (.slice none 0 0)) 63 := m1.congr (fun j _ => by unfold wdY; split <;> rfl)
 have m3 : Fx.Own w1 w.heap.size 59 1 (.slice none 0 0) 0 (ptX (fun _ => 0)) := Fx.Own.nil _ _ _ _ _
 have m4 : Lds w1 w.heap.size 0 (fun _ => 0) (fun _ => newM n 0) := fun _ h => absurd h (Nat.not_lt_zero _)
 refine Fx.W.loop (fun f w_ => ∃ k : Nat, ∃ a : Option Addr, ∃ cap : Nat, ∃ pl : Nat → Nat, ∃ ml : Nat → LdM, k ≤ n ∧ (∀ i, ∃ tb, ml i = newM n tb) ∧ f 0 = .int .i64 ((n : Int)) ∧ f 3 = .pointer (some ⟨g1, 0, none⟩) ∧ f 4 = .int .i64 ((k : Int)) ∧ Fx.Blk w_ g1 2 (wdY (.slice a k cap) (.slice none 0 0)) 63 ∧ Fx.Own w_ w.heap.size 59 1 (.slice a (k) (cap)) k (ptX pl) ∧ Lds w_ w.heap.size k pl ml ∧ Below w.heap.size w w_) (fun f _ => (n - (intOf (f 4)).toNat)) ⟨0, none, 0, (fun _ => 0), (fun _ => newM n 0), by omega, (fun _ => ⟨0, rfl⟩), (by first | rfl | exact congrArg (Value.int .i64) (by omega)), (by rfl), (by first | rfl | exact congrArg (Value.int .i64) (by omega)), m2, m3, m4, b1⟩ ?_
 rintro f1 w2 ⟨k, a, cap, pl, ml, hk, hml, h1, h2, h3, m5, m6, m7, b2⟩
 refine Fx.W.seq (Fx.W.seq (Fx.W.list (Fx.L.v (.int .i64 ((k : Int))) (x_move rfl h3) (Fx.L.v (.int .i64 ((n : Int))) (x_move rfl h1) ?_))))
 by_cases c11 : (k : Int) < (n : Int)
 ·refine Fx.L.v (.bool true) (Fx.x_lssT rfl rfl rfl c11) (Fx.L.nil (Fx.seqN (Fx.W.cond (b := true) rfl (fun _ => Fx.W.skip (Fx.seqN (Fx.W.seq (Fx.W.block (Fx.W.seq (Fx.W.list (Fx.L.v (.int .i64 ((n : Int))) (x_move rfl h1) ?_))))))) (fun h => nomatch h))))
  refine Fx.L.call (by rfl) (Fx.r_call (args := [.int .i64 ((n : Int))]) rfl rfl Try.func68 rfl rfl) rfl ((l_new n _ hn1 hn6).mono ?_)
  rintro e9 w3 ⟨p3, tb3, he, hp3, _, hb3, hc3, ht3, htb3⟩
  refine ⟨.tuple #[.pointer (some ⟨p3, 0, none⟩), .int .i64 (0)], he, ?_⟩
  clear he
  have s2 := Fx.Stp.of_below hb3
  have m8 := m5.stp s2 (Nat.ne_of_lt (m5.lt))
  have m9 := m6.stp s2 (m6.notNew (Nat.le_refl _))
  have m10 := m7.up s2.old
  have b3 := s2.below b2 b2.size b2.size
  have hL1 : LdO w3 w.heap.size p3 (newM n tb3) := newM_lo hc3 ht3 (Nat.le_trans b2.size hp3) (Nat.le_trans b2.size htb3)
  refine Fx.L.v (.tuple #[.pointer (some ⟨p3, 0, none⟩), .int .i64 (0)]) (x_move rfl rfl) (Fx.L.v (.pointer (some ⟨p3, 0, none⟩)) (Fx.x_extract rfl rfl rfl) (Fx.L.v (.int .i64 (0)) (Fx.x_extract rfl rfl rfl) (Fx.L.v (.pointer (some ⟨p3, 0, none⟩)) (x_assign rfl rfl) (Fx.L.v (.int .i64 (0)) (x_assign rfl rfl) (Fx.L.nil (Fx.seqN (Fx.W.list (Fx.L.v (.pointer (some ⟨g1, 0, none⟩)) (x_move rfl h2) (Fx.L.v (.pointer (some ⟨g1, 0, none⟩)) (x_move rfl h2) (Fx.L.v (.pointer (some ⟨g1, 0, none⟩)) (x_nil rfl rfl) (Fx.L.v (.pointer (some ⟨g1, 0, none⟩)) (x_field rfl rfl Try.underlying63 rfl (s := 1) (by kernel_rfl) rfl rfl) (Fx.L.v (.slice a (k) (cap)) (x_load1 (x := wdY (.slice a k cap) (.slice none 0 0)) rfl rfl (by kernel_rfl) m8.cel (i := 0) (by omega) (by omega) rfl) (Fx.L.v (.pointer (some ⟨p3, 0, none⟩)) (x_move rfl rfl) (Fx.L.bslice (vs := [(0, .pointer (some ⟨p3, 0, none⟩))]) (s := 1) (zc := fun _ => .pointer none) (y := Fx.ovr (fun j => .pointer none) (0 * 1) 1 (fun _ => .pointer (some ⟨p3, 0, none⟩))) (by rfl) rfl rfl Try.underlying60 (by kernel_rfl) (by rfl) (by rfl) (by kernel_rfl) (by rw [Fx.fill_step (off := 0 * 1) (s := 1) (y := fun _ => .pointer (some ⟨p3, 0, none⟩)) rfl (Fx.cells_one (by rfl)) (by rfl)]; rfl) rfl fun g2 w4 eg2 m11 s3 z2 => ?_))))))))))))))
  have m12 := m8.stp s3 (Nat.ne_of_lt (m8.lt))
  have m13 := m9.stp s3 (m9.notNew (Nat.le_refl _))
  have m14 := m10.up s3.old
  have m15 := hL1.up s3.old
  have b4 := s3.below b3 b3.size b3.size
  have lg2 : w.heap.size ≤ g2 := by rw [eg2]; exact b3.size
  have ng2m12 : g1 ≠ g2 := by rw [eg2]; exact Nat.ne_of_lt (m8.lt)
  have ng2m13 : (.slice a (k) (cap) : Value).ownBlock ≠ some g2 := by rw [eg2]; exact m9.notNew (Nat.le_refl _)
  have tg2 : g2 < w4.heap.size := m11.lt
  clear eg2
  refine Fx.L.app (B := w.heap.size) (s := 1) (bytes := 8) (k := k) (m := 1) (v := .slice a (k) (cap)) (x := ptX pl) (by rfl) rfl rfl rfl Try.underlying60 (by kernel_rfl) (by kernel_rfl) rfl rfl m13 m11.cel (ovr_one (fun _ => rfl)) (by omega) (by omega) (by omega) b4.size fun g3 cap1 w5 ho1 hg1 hgv1 hlt1 => ?_
  have hct1 := Fx.ChT.of_grown hg1 m13
  have m17 := m12.chT hct1 (by decide)
  have m18 := m14.chT hct1 (by decide)
  have m19 := m15.chT hct1 (by decide)
  have m16 : Fx.Own w5 w.heap.size 59 1 (.slice (some ⟨g3, 0, none⟩) (k + 1) cap1) (k + 1) (ptX (updA pl k p3)) := (ho1.congr (fun j hj => pt_app j hj))
  have b5 : Below w.heap.size w w5 := Fx.Below.grow b4 hg1 b4.size (fun q hq => (m13.ge hq).1)
  refine Fx.L.v (.pointer (some ⟨g1, 0, none⟩)) (x_nil rfl rfl) (Fx.L.v (.pointer (some ⟨g1, 0, none⟩)) (x_field rfl rfl Try.underlying63 rfl (s := 1) (by kernel_rfl) rfl rfl) (Fx.L.store1 (x := wdY (.slice a k cap) (.slice none 0 0)) (u := .slice (some ⟨g3, 0, none⟩) (k + 1) (cap1)) (by rfl) rfl rfl rfl rfl (by rfl) (by kernel_rfl) m17 (i := 0) (by omega) fun w6 m20 s4 z3 => ?_))
  have m21 : Fx.Blk w6 g1 2 (wdY (.slice (some ⟨g3, 0, none⟩) (k + 1) (cap1)) (.slice none 0 0)) 63 := m20.to (wdY_0 _ _ _)
  have hct2 := Fx.ChT.of_stp s4 m17.ty
  have m22 := m18.chT hct2 (by decide)
  have m23 := m19.chT hct2 (by decide)
  have m24 := m16.chT hct2 (by decide)
  have b6 := s4.below b5 b5.size (by omega)
  refine Fx.L.nil (Fx.blkN (Fx.seqN (Fx.W.list (Fx.L.v (.int .i64 ((k : Int))) (x_move rfl h3) (Fx.L.v (.int .i64 ((k : Int) + 1)) (Fx.x_add rfl rfl rfl (Fx.i64e (by omega) (by omega))) (Fx.L.v (.int .i64 ((k : Int) + 1)) (x_assign rfl rfl) (Fx.L.nil ?_)))))))
  have m25 : Lds w6 w.heap.size (k + 1) (updA pl k p3) (updA ml k (newM n tb3)) := m22.snoc m23
  skip
  refine Fx.lpN ⟨k + 1, (some ⟨g3, 0, none⟩), cap1, (updA pl k p3), (updA ml k (newM n tb3)), by omega, (fun i => by unfold updA; split <;> first | exact ⟨_, rfl⟩ | exact hml i), (h1.trans (by first | rfl | exact congrArg (Value.int .i64) (by omega))), h2, (by first | rfl | exact congrArg (Value.int .i64) (by omega)), m21, m24, m25, b6⟩ ?_
  show (n - (intOf ((.int .i64 ((k : Int) + 1)))).toNat) < _
  simp only [h3, intOf]; omega
 ·refine Fx.L.v (.bool false) (Fx.x_lssF rfl rfl rfl c11) (Fx.L.nil (Fx.seqN (Fx.W.cond (b := false) rfl (fun h => nomatch h) (fun _ => Fx.W.exit (Fx.seqX (Fx.lpX (Fx.blkX (Fx.seqN (Fx.W.seq (Fx.W.list (Fx.L.v (.pointer (some ⟨g1, 0, none⟩)) (x_move rfl h2) (Fx.L.v (.pointer (some ⟨g1, 0, none⟩)) (x_assign rfl rfl) (Fx.L.nil (Fx.seqN (Fx.W.ret (⟨.pointer (some ⟨g1, 0, none⟩), Fx.retV1 Try.results22 (by exact rfl), ?_⟩))))))))))))))))
  obtain rfl : k = n := by omega
  exact ⟨g1, ⟨k, a, cap, pl, ml, 0, none, 0, fun _ => ⟨0, 0, fun _ => 0, 0, 0, 0, 0, 0, 0⟩⟩, rfl, rfl, rfl, { c := m5, l := m6, a := Fx.Own.nil _ _ _ _ _, g := m7, inv := fun i _ => by obtain ⟨tb, e⟩ := hml i; show Inv (ml i).core 0; rw [e]; exact newM_inv k tb, wf := fun _ h => absurd h (Nat.not_lt_zero _), may := fun _ h => absurd h (Nat.not_lt_zero _), sm := fun _ h => absurd h (Nat.not_lt_zero _), pB := lg1, n1 := hn1, n6 := hn6 }, b2⟩
namespace Rt
structure ActM where
  who : Nat
  meet : Bool
  other : Nat
  kind : Nat
  node : Nat
  dst : Nat
  amt : Nat
  req : Nat
  of : Nat
structure ActOk (x : ActM) : Prop where
  who : x.who ≤ 255
  other : x.other ≤ 255
  kind : x.kind ≤ 255
  node : x.node ≤ 255
  dst : x.dst ≤ 255
  amt : x.amt ≤ 65535
  req : x.req ≤ 255
  of : x.of ≤ 255
def actY (x : ActM) : Nat → Value := fun p => if p = 0 then .int .u8 (x.who : Int) else if p = 1 then .bool x.meet else if p = 2 then .int .u8 (x.other : Int) else if p = 3 then .int .u8 (x.kind : Int) else if p = 4 then .int .u8 (x.node : Int) else if p = 5 then .int .u8 (x.dst : Int) else if p = 6 then .int .u16 (x.amt : Int) else if p = 7 then .int .u8 (x.req : Int) else .int .u8 (x.of : Int)
theorem remL {k n r : Nat} (e : r = k % n) : Int.tmod (k : Int) (n : Int) = (r : Int) := by
  rw [Int.tmod_eq_emod_of_nonneg (by omega), e]
  exact (Int.natCast_emod k n).symm
theorem ev_node (V : EvM) (x : Int) : ∀ j, j < 14 → Fx.updV (evY V) 9 (.int .u64 x) j = evY { V with node := x } j := fun j hj => by
  rcases j with _|_|_|_|_|_|_|_|_|_|_|_|_|_|j <;> first | rfl | omega
theorem ev_dst (V : EvM) (x : Int) : ∀ j, j < 14 → Fx.updV (evY V) 10 (.int .i64 x) j = evY ⟨V.o, V.seq, V.deps, V.kind, V.node, x, V.amt, V.req, V.of⟩ j := fun j hj => by
  rcases j with _|_|_|_|_|_|_|_|_|_|_|_|_|_|j <;> first | rfl | omega
theorem ev_amt (V : EvM) (x : Int) : ∀ j, j < 14 → Fx.updV (evY V) 11 (.int .i64 x) j = evY { V with amt := x } j := fun j hj => by
  rcases j with _|_|_|_|_|_|_|_|_|_|_|_|_|_|j <;> first | rfl | omega
theorem ev_req (V : EvM) (x : Int) : ∀ j, j < 14 → Fx.updV (evY V) 12 (.int .u64 x) j = evY { V with req := x } j := fun j hj => by
  rcases j with _|_|_|_|_|_|_|_|_|_|_|_|_|_|j <;> first | rfl | omega
theorem ev_of (V : EvM) (x : Int) : ∀ j, j < 14 → Fx.updV (evY V) 13 (.int .u64 x) j = evY { V with of := x } j := fun j hj => by
  rcases j with _|_|_|_|_|_|_|_|_|_|_|_|_|_|j <;> first | rfl | omega
end Rt
set_option maxRecDepth 20000 in
set_option maxHeartbeats 2000000 in
theorem l_event (M : WM) (B p T : Nat) (x : ActM) (w : World) (hW : WldO w B p M T) (hx : ActOk x) :
    Calls Try.prog 70 #[.pointer (some ⟨p, 0, none⟩), .agg (Fx.varr 9 (actY x))] w fun e w' => ∃ V, EvWf V ∧ EvSm V ∧ e = .returned (.agg (Fx.varr 14 (evY V))) ∧ Below w.heap.size w w' := by
 have hWc := hW.c
 have hWl := hW.l
 have hWa := hW.a
 have hWg := hW.g
 have hn1 := hW.n1
 have hn6 := hW.n6
 have hpB := hW.pB
 have lpp : p < w.heap.size := hWc.lt
 have hxw := hx.who
 have hxo := hx.other
 have hxk := hx.kind
 have hxn := hx.node
 have hxt := hx.dst
 have hxa := hx.amt
 have hxr := hx.req
 have hxf := hx.of
 refine Fx.enter Try.func70 rfl (n := 143) rfl (by rfl) ?_
 refine Fx.W.seq (Fx.W.list (Fx.L.box (m := 9) (y := actY x) (by rfl) rfl rfl (Fx.cells_agg _ _) rfl fun g1 w1 eg1 m1 s1 z1 => ?_))
 have m2 := hWc.stp s1 (Nat.ne_of_lt (hWc.lt))
 have m3 := hWl.stp s1 (hWl.notNew (Nat.le_refl _))
 have m4 := hWa.stp s1 (hWa.notNew (Nat.le_refl _))
 have m5 := hWg.up s1.old
 have b1 := s1.below (Below.refl w.heap.size w) (Below.refl w.heap.size w).size (Below.refl w.heap.size w).size
 have lg1 : w.heap.size ≤ g1 := by rw [eg1]; exact (Below.refl w.heap.size w).size
 have ng1m2 : p ≠ g1 := by rw [eg1]; exact Nat.ne_of_lt (hWc.lt)
 have tg1 : g1 < w1.heap.size := m1.lt
 clear eg1
 refine Fx.L.new (m := 14) (y := fun zq => if zq < 1 then .int .i64 (0) else if zq < 8 then .int .u64 (0) else if zq < 9 then .int .u8 (0) else if zq < 10 then .int .u64 (0) else if zq < 12 then .int .i64 (0) else .int .u64 (0)) (by rfl) rfl (by kernel_rfl) rfl fun g2 w2 eg2 m6 s2 z2 => ?_
 have m7 := m2.stp s2 (Nat.ne_of_lt (m2.lt))
 have m8 := m3.stp s2 (m3.notNew (Nat.le_refl _))
 have m9 := m4.stp s2 (m4.notNew (Nat.le_refl _))
 have m10 := m5.up s2.old
 have m11 := m1.stp s2 (Nat.ne_of_lt (m1.lt))
 have b2 := s2.below b1 b1.size b1.size
 have lg2 : w.heap.size ≤ g2 := by rw [eg2]; exact b1.size
 have ng2m7 : p ≠ g2 := by rw [eg2]; exact Nat.ne_of_lt (m2.lt)
 have ng2m9 : (.slice M.aa (M.an) (M.ac) : Value).ownBlock ≠ some g2 := by rw [eg2]; exact m4.notNew (Nat.le_refl _)
 have ng2m11 : g1 ≠ g2 := by rw [eg2]; exact Nat.ne_of_lt (m1.lt)
 have tg2 : g2 < w2.heap.size := m6.lt
 clear eg2
 refine Fx.L.nil (Fx.seqN (Fx.W.seq ?_))
 obtain ⟨o, eo⟩ : ∃ r, r = x.who % M.n := ⟨_, rfl⟩
 have ho : o < M.n := by rw [eo]; exact Nat.mod_lt _ (by omega)
 -- region 1 draws
 refine Fx.W.quiet (fun v1 => ∃ q, v1 = World.drewN w2 q) (by kernel_rfl) (by kernel_rfl) ⟨1, rfl⟩ ?_
 refine Fx.Qt.v (.pointer (some ⟨g1, 0, none⟩)) (fun v1 hv1 => x_field rfl rfl Try.underlying58 rfl (s := 1) (by kernel_rfl) rfl rfl) (Fx.Qt.v (.int .u8 ((x.who : Int))) (fun v1 hv1 => x_load1 (x := actY x) rfl rfl (by kernel_rfl) (by obtain ⟨qd, rfl⟩ := hv1; exact m11.cel) (i := 0) (by omega) (by omega) rfl) (Fx.Qt.v (.int .i64 ((x.who : Int))) (fun v1 hv1 => x_conv rfl rfl (by kernel_rfl) Try.underlying3 (Fx.i64e (by omega) rfl)) (Fx.Qt.v (.pointer (some ⟨p, 0, none⟩)) (fun v1 hv1 => x_move rfl rfl) (Fx.Qt.v (.pointer (some ⟨p, 0, none⟩)) (fun v1 hv1 => x_nil rfl rfl) (Fx.Qt.v (.pointer (some ⟨p, 0, none⟩)) (fun v1 hv1 => x_field rfl rfl Try.underlying63 rfl (s := 1) (by kernel_rfl) rfl rfl) (Fx.Qt.v (.slice M.la (M.n) (M.lc)) (fun v1 hv1 => x_load1 (x := wdY (.slice M.la (M.n) (M.lc)) (.slice M.aa (M.an) (M.ac))) rfl rfl (by kernel_rfl) (by obtain ⟨qd, rfl⟩ := hv1; exact m7.cel) (i := 0) (by omega) (by omega) rfl) (Fx.Qt.v (.int .i64 ((M.n : Int))) (fun v1 hv1 => x_len rfl rfl rfl (by kernel_rfl)) (Fx.Qt.v (.int .i64 ((o : Int))) (fun v1 hv1 => Fx.x_rem rfl rfl rfl (by omega) (remL eo)) (Fx.Qt.v (.int .i64 ((o : Int))) (fun v1 hv1 => x_assign rfl rfl) (Fx.Qt.nil ?_))))))))))
 rintro _ ⟨qd, rfl⟩
 obtain ⟨wq1, ewq1⟩ : ∃ v1, v1 = World.drewN w2 qd := ⟨_, rfl⟩
 rw [← ewq1]
 have s3 : Fx.Stp w2.heap.size w2 wq1 := by rw [ewq1]; exact Fx.Stp.of_below (bdrN w2 qd)
 have m12 := m7.stp s3 (Nat.ne_of_lt (m7.lt))
 have m13 := m8.stp s3 (m8.notNew (Nat.le_refl _))
 have m14 := m9.stp s3 (m9.notNew (Nat.le_refl _))
 have m15 := m10.up s3.old
 have m16 := m11.stp s3 (Nat.ne_of_lt (m11.lt))
 have m17 := m6.stp s3 (Nat.ne_of_lt (m6.lt))
 have b3 := s3.below b2 b2.size b2.size
 clear ewq1
 refine Fx.seqN (Fx.W.seq (Fx.W.list (Fx.L.v (.pointer (some ⟨p, 0, none⟩)) (x_move rfl rfl) (Fx.L.v (.pointer (some ⟨p, 0, none⟩)) (x_nil rfl rfl) (Fx.L.v (.pointer (some ⟨p, 0, none⟩)) (x_field rfl rfl Try.underlying63 rfl (s := 1) (by kernel_rfl) rfl rfl) (Fx.L.v (.slice M.la (M.n) (M.lc)) (x_load1 (x := wdY (.slice M.la (M.n) (M.lc)) (.slice M.aa (M.an) (M.ac))) rfl rfl (by kernel_rfl) m12.cel (i := 0) (by omega) (by omega) rfl) (Fx.L.v (.int .i64 ((o : Int))) (x_move rfl rfl) ?_)))))))
 obtain ⟨gq1, eq1⟩ := m13.addr (by omega)
 have m18 : Fx.Own wq1 B 59 1 (.slice (some ⟨gq1, 0, none⟩) M.n M.lc) M.n (ptX M.pl) := m13.congV (congrArg (fun q => Value.slice q M.n M.lc) eq1)
 refine Fx.L.v (.pointer (some ⟨gq1, o, none⟩)) (x_indexS rfl (rfl.trans (congrArg (fun q => Value.slice q (M.n) (M.lc)) eq1)) rfl Try.underlying60 (s := 1) (by kernel_rfl) (by omega) (by omega) (by omega)) (Fx.L.v (.pointer (some ⟨(M.pl o), 0, none⟩)) (x_load1 (x := ptX M.pl) rfl rfl (by kernel_rfl) m18.cel (i := o) (by omega) (by omega) rfl) (Fx.L.v (.pointer (some ⟨(M.pl o), 0, none⟩)) (x_assign rfl rfl) (Fx.L.nil (Fx.seqN (Fx.W.seq ?_)))))
 obtain ⟨r42, er42⟩ : ∃ r, r = x.kind % 7 := ⟨_, rfl⟩
 have hr42 : r42 < 7 := by rw [er42]; exact Nat.mod_lt _ (by omega)
 have hLo1 := m15 o (by omega)
 have hLo1c := hLo1.c
 have hLo1n := hLo1.n
 have hkn := (hW.inv o (by omega)).kn
 have hko := hkn o (by omega)
 have hko : 0 ≤ (M.ml o).s.known o ∧ (M.ml o).s.known o < 1099511627776 := hko
 have hU : ∀ k, k < (M.ml o).s.nn → U64r ((M.ml o).id k) := fun k hk => by have h1 := (hW.inv o (by omega)).pos k hk; have h2 := (hW.inv o (by omega)).top k hk; exact ⟨by show (0 : Int) ≤ (M.ml o).core.id k; omega, by show (M.ml o).core.id k ≤ _; omega⟩
 have hbn := (hW.g o (by omega)).bn
 -- region 3 draws
 refine Fx.W.one (T := 54) (T' := 54) (a := .tmp 7) (v := .tmp 44) (m := 14) (z := fun zq => if zq < 1 then .int .i64 (0) else if zq < 8 then .int .u64 (0) else if zq < 9 then .int .u8 (0) else if zq < 10 then .int .u64 (0) else if zq < 12 then .int .i64 (0) else .int .u64 (0)) (y := Fx.ovr (Fx.ovr (Fx.ovr (Fx.ovr (fun zq => if zq < 1 then .int .i64 (0) else if zq < 8 then .int .u64 (0) else if zq < 9 then .int .u8 (0) else if zq < 10 then .int .u64 (0) else if zq < 12 then .int .i64 (0) else .int .u64 (0)) 0 1 (fun _ => .int .i64 ((o : Int) + 1))) 1 1 (fun _ => .int .u64 ((M.ml o).s.known o + 1))) 2 6 (Fx.rv .u64 ((M.ml o).s.known))) 8 1 (fun _ => .int .u8 ((r42 : Int) + 1))) (u := .agg (Fx.varr 14 (Fx.ovr (Fx.ovr (Fx.ovr (Fx.ovr (fun zq => if zq < 1 then .int .i64 (0) else if zq < 8 then .int .u64 (0) else if zq < 9 then .int .u8 (0) else if zq < 10 then .int .u64 (0) else if zq < 12 then .int .i64 (0) else .int .u64 (0)) 0 1 (fun _ => .int .i64 ((o : Int) + 1))) 1 1 (fun _ => .int .u64 ((M.ml o).s.known o + 1))) 2 6 (Fx.rv .u64 ((M.ml o).s.known))) 8 1 (fun _ => .int .u8 ((r42 : Int) + 1))))) 20 21 (List.replicate 22 (0, 2, [], [])) #[.int .i64 ((o : Int)), .int .i64 ((o : Int) + 1), .pointer (some ⟨(M.pl o), 0, none⟩), .int .i64 ((o : Int)), .pointer (some ⟨(M.pl o), 0, none⟩), .pointer (some ⟨(M.pl o), 0, none⟩), .pointer (some ⟨(M.pl o), 12, none⟩), .pointer (some ⟨(M.pl o), o + 12, none⟩), .int .u64 ((M.ml o).s.known o), .int .u64 ((M.ml o).s.known o + 1), .pointer (some ⟨(M.pl o), 0, none⟩), .pointer (some ⟨(M.pl o), 0, none⟩), .pointer (some ⟨(M.pl o), 0, none⟩), .pointer (some ⟨(M.pl o), 12, none⟩), .agg (Fx.varr 6 (Fx.rv .u64 ((M.ml o).s.known))), .pointer (some ⟨g1, 3, none⟩), .int .u8 ((x.kind : Int)), .int .u8 ((r42 : Int)), .int .u8 ((r42 : Int) + 1), .agg (Fx.varr 14 (Fx.ovr (Fx.ovr (Fx.ovr (Fx.ovr (fun zq => if zq < 1 then .int .i64 (0) else if zq < 8 then .int .u64 (0) else if zq < 9 then .int .u8 (0) else if zq < 10 then .int .u64 (0) else if zq < 12 then .int .i64 (0) else .int .u64 (0)) 0 1 (fun _ => .int .i64 ((o : Int) + 1))) 1 1 (fun _ => .int .u64 ((M.ml o).s.known o + 1))) 2 6 (Fx.rv .u64 ((M.ml o).s.known))) 8 1 (fun _ => .int .u8 ((r42 : Int) + 1)))), undef, undef] (by kernel_rfl) (by kernel_rfl) (by kernel_rfl) (by kernel_rfl) (by kernel_rfl) (by kernel_rfl) rfl (by kernel_rfl) rfl rfl (by kernel_rfl) (fun g3 => (show Fx.ev _ (.tmp 7) = .pointer (some ⟨g3, 0, none⟩) from by kernel_rfl)) (fun g3 => (show Fx.ev _ (.tmp 44) = .agg (Fx.varr 14 (Fx.ovr (Fx.ovr (Fx.ovr (Fx.ovr (fun zq => if zq < 1 then .int .i64 (0) else if zq < 8 then .int .u64 (0) else if zq < 9 then .int .u8 (0) else if zq < 10 then .int .u64 (0) else if zq < 12 then .int .i64 (0) else .int .u64 (0)) 0 1 (fun _ => .int .i64 ((o : Int) + 1))) 1 1 (fun _ => .int .u64 ((M.ml o).s.known o + 1))) 2 6 (Fx.rv .u64 ((M.ml o).s.known))) 8 1 (fun _ => .int .u8 ((r42 : Int) + 1)))) from by kernel_rfl)) (Fx.cells_agg _ _) (Fx.ovr_ones (Fx.ovr_ones (Fx.ovr_ones (Fx.ovr_ones (fun jq _ => by show ((fun zq => if zq < 1 then .int .i64 (0) else if zq < 8 then .int .u64 (0) else if zq < 9 then .int .u8 (0) else if zq < 10 then .int .u64 (0) else if zq < 12 then .int .i64 (0) else .int .u64 (0) : Nat → Value) jq).oneCell' = true; simp only []; repeat (first | rfl | split)) (fun _ _ => rfl)) (fun _ _ => rfl)) (fun _ _ => rfl)) (fun _ _ => rfl)) (by kernel_rfl) (fun g3 => ?_) ?_
 ·refine ⟨?_, ?_, ?_, ?_, ?_, ?_, ?_, ?_, ?_, ?_, ?_, ?_, ?_, ?_, ?_, ?_, ?_, ?_, ?_, ?_, ?_, ?_, trivial⟩
  ·exact .inr (.inr (Fx.qb_yes (v := .int .i64 ((o : Int))) (by kernel_rfl) (by kernel_rfl) (Fx.qbV fun v1 hv1 => x_move rfl (show Fx.ev _ (.tmp 5) = .int .i64 ((o : Int)) from by kernel_rfl))))
  ·exact .inr (.inr (Fx.qb_yes (v := .int .i64 ((o : Int) + 1)) (by kernel_rfl) (by kernel_rfl) (Fx.qbV fun v1 hv1 => Fx.x_add rfl (show Fx.ev _ (.tmp 25) = .int .i64 ((o : Int)) from by kernel_rfl) (show Fx.ev _ (.const (.int .i64 (1))) = .int .i64 (1) from by kernel_rfl) (Fx.i64e (by omega) (by omega)))))
  ·exact .inr (.inr (Fx.qb_yes (v := .pointer (some ⟨(M.pl o), 0, none⟩)) (by kernel_rfl) (by kernel_rfl) (Fx.qbV fun v1 hv1 => x_move rfl (show Fx.ev _ (.tmp 6) = .pointer (some ⟨(M.pl o), 0, none⟩) from by kernel_rfl))))
  ·exact .inr (.inr (Fx.qb_yes (v := .int .i64 ((o : Int))) (by kernel_rfl) (by kernel_rfl) (Fx.qbV fun v1 hv1 => x_move rfl (show Fx.ev _ (.tmp 5) = .int .i64 ((o : Int)) from by kernel_rfl))))
  ·exact .inr (.inr (Fx.qb_yes (v := .pointer (some ⟨(M.pl o), 0, none⟩)) (by kernel_rfl) (by kernel_rfl) (Fx.qbV fun v1 hv1 => x_nil rfl (show Fx.ev _ (.tmp 27) = .pointer (some ⟨(M.pl o), 0, none⟩) from by kernel_rfl))))
  ·exact .inr (.inr (Fx.qb_yes (v := .pointer (some ⟨(M.pl o), 0, none⟩)) (by kernel_rfl) (by kernel_rfl) (Fx.qbV fun v1 hv1 => x_field rfl (show Fx.ev _ (.tmp 29) = .pointer (some ⟨(M.pl o), 0, none⟩) from by kernel_rfl) Try.underlying71 rfl (s := 20) (by kernel_rfl) rfl rfl)))
  ·exact .inr (.inr (Fx.qb_yes (v := .pointer (some ⟨(M.pl o), 12, none⟩)) (by kernel_rfl) (by kernel_rfl) (Fx.qbV fun v1 hv1 => x_field rfl (show Fx.ev _ (.tmp 30) = .pointer (some ⟨(M.pl o), 0, none⟩) from by kernel_rfl) Try.underlying43 rfl (s := 6) (by kernel_rfl) rfl (by show _ + 12 = _; omega))))
  ·exact .inr (.inr (Fx.qb_yes (v := .pointer (some ⟨(M.pl o), o + 12, none⟩)) (by kernel_rfl) (by kernel_rfl) (Fx.qbV fun v1 hv1 => x_index rfl (show Fx.ev _ (.tmp 31) = .pointer (some ⟨(M.pl o), 12, none⟩) from by kernel_rfl) (show Fx.ev _ (.tmp 28) = .int .i64 ((o : Int)) from by kernel_rfl) Try.underlying29 (s := 1) (by kernel_rfl) (by omega) (by omega) (by omega))))
  ·exact .inr (.inr (Fx.qb_yes (v := .int .u64 ((M.ml o).s.known o)) (by kernel_rfl) (by kernel_rfl) (Fx.qbV fun v1 hv1 => x_load1 (x := ldY (M.ml o)) rfl (show Fx.ev _ (.tmp 32) = .pointer (some ⟨(M.pl o), o + 12, none⟩) from by kernel_rfl) (by kernel_rfl) (hLo1c.cel.below hv1 (by have := hLo1c.lt; omega)) (i := o + 12) (by omega) (by omega) (ldY_st _ (by omega) (stY_known _ (by omega) (by omega))))))
  ·exact .inr (.inr (Fx.qb_yes (v := .int .u64 ((M.ml o).s.known o + 1)) (by kernel_rfl) (by kernel_rfl) (Fx.qbV fun v1 hv1 => Fx.x_add rfl (show Fx.ev _ (.tmp 33) = .int .u64 ((M.ml o).s.known o) from by kernel_rfl) (show Fx.ev _ (.const (.int .u64 (1))) = .int .u64 (1) from by kernel_rfl) (Fx.u64e (by omega) (by omega)))))
  ·exact .inr (.inr (Fx.qb_yes (v := .pointer (some ⟨(M.pl o), 0, none⟩)) (by kernel_rfl) (by kernel_rfl) (Fx.qbV fun v1 hv1 => x_move rfl (show Fx.ev _ (.tmp 6) = .pointer (some ⟨(M.pl o), 0, none⟩) from by kernel_rfl))))
  ·exact .inr (.inr (Fx.qb_yes (v := .pointer (some ⟨(M.pl o), 0, none⟩)) (by kernel_rfl) (by kernel_rfl) (Fx.qbV fun v1 hv1 => x_nil rfl (show Fx.ev _ (.tmp 35) = .pointer (some ⟨(M.pl o), 0, none⟩) from by kernel_rfl))))
  ·exact .inr (.inr (Fx.qb_yes (v := .pointer (some ⟨(M.pl o), 0, none⟩)) (by kernel_rfl) (by kernel_rfl) (Fx.qbV fun v1 hv1 => x_field rfl (show Fx.ev _ (.tmp 36) = .pointer (some ⟨(M.pl o), 0, none⟩) from by kernel_rfl) Try.underlying71 rfl (s := 20) (by kernel_rfl) rfl rfl)))
  ·exact .inr (.inr (Fx.qb_yes (v := .pointer (some ⟨(M.pl o), 12, none⟩)) (by kernel_rfl) (by kernel_rfl) (Fx.qbV fun v1 hv1 => x_field rfl (show Fx.ev _ (.tmp 37) = .pointer (some ⟨(M.pl o), 0, none⟩) from by kernel_rfl) Try.underlying43 rfl (s := 6) (by kernel_rfl) rfl (by show _ + 12 = _; omega))))
  ·exact .inr (.inr (Fx.qb_yes (v := .agg (Fx.varr 6 (Fx.rv .u64 ((M.ml o).s.known)))) (by kernel_rfl) (by kernel_rfl) (Fx.qbV fun v1 hv1 => x_loadA (x := ldY (M.ml o)) (y := Fx.rv .u64 ((M.ml o).s.known)) rfl (show Fx.ev _ (.tmp 38) = .pointer (some ⟨(M.pl o), 12, none⟩) from by kernel_rfl) (by kernel_rfl) (by kernel_rfl) (hLo1c.cel.below hv1 (by have := hLo1c.lt; omega)) (i := 12) (by omega) (by omega) (fun j hj => ldY_st _ (by omega) (stY_known _ hj (by omega))))))
  ·exact .inr (.inr (Fx.qb_yes (v := .pointer (some ⟨g1, 3, none⟩)) (by kernel_rfl) (by kernel_rfl) (Fx.qbV fun v1 hv1 => x_field rfl (show Fx.ev _ (.tmp 3) = .pointer (some ⟨g1, 0, none⟩) from by kernel_rfl) Try.underlying58 rfl (s := 1) (by kernel_rfl) rfl (by show _ + 3 = _; omega))))
  ·exact .inr (.inr (Fx.qb_yes (v := .int .u8 ((x.kind : Int))) (by kernel_rfl) (by kernel_rfl) (Fx.qbV fun v1 hv1 => x_load1 (x := actY x) rfl (show Fx.ev _ (.tmp 40) = .pointer (some ⟨g1, 3, none⟩) from by kernel_rfl) (by kernel_rfl) (m16.cel.below hv1 (by have := m16.lt; omega)) (i := 3) (by omega) (by omega) rfl)))
  ·exact .inr (.inr (Fx.qb_yes (v := .int .u8 ((r42 : Int))) (by kernel_rfl) (by kernel_rfl) (Fx.qbV fun v1 hv1 => Fx.x_rem rfl (show Fx.ev _ (.tmp 41) = .int .u8 ((x.kind : Int)) from by kernel_rfl) (show Fx.ev _ (.const (.int .u8 (7))) = .int .u8 (7) from by kernel_rfl) (by omega) (remL er42))))
  ·exact .inr (.inr (Fx.qb_yes (v := .int .u8 ((r42 : Int) + 1)) (by kernel_rfl) (by kernel_rfl) (Fx.qbV fun v1 hv1 => Fx.x_add rfl (show Fx.ev _ (.const (.int .u8 (1))) = .int .u8 (1) from by kernel_rfl) (show Fx.ev _ (.tmp 42) = .int .u8 ((r42 : Int)) from by kernel_rfl) (Fx.u8e (by omega) (by omega)))))
  ·exact .inr (.inr (Fx.qb_yes (v := .agg (Fx.varr 14 (Fx.ovr (Fx.ovr (Fx.ovr (Fx.ovr (fun zq => if zq < 1 then .int .i64 (0) else if zq < 8 then .int .u64 (0) else if zq < 9 then .int .u8 (0) else if zq < 10 then .int .u64 (0) else if zq < 12 then .int .i64 (0) else .int .u64 (0)) 0 1 (fun _ => .int .i64 ((o : Int) + 1))) 1 1 (fun _ => .int .u64 ((M.ml o).s.known o + 1))) 2 6 (Fx.rv .u64 ((M.ml o).s.known))) 8 1 (fun _ => .int .u8 ((r42 : Int) + 1))))) (by kernel_rfl) (by kernel_rfl) (Fx.qbV fun v1 hv1 => x_build (vs := [(0, .int .i64 ((o : Int) + 1)), (1, .int .u64 ((M.ml o).s.known o + 1)), (2, .agg (Fx.varr 6 (Fx.rv .u64 ((M.ml o).s.known)))), (3, .int .u8 ((r42 : Int) + 1))]) (places := #[(0, 1), (1, 1), (2, 6), (8, 1), (9, 1), (10, 1), (11, 1), (12, 1), (13, 1)]) (m := 14) (x := fun zq => if zq < 1 then .int .i64 (0) else if zq < 8 then .int .u64 (0) else if zq < 9 then .int .u8 (0) else if zq < 10 then .int .u64 (0) else if zq < 12 then .int .i64 (0) else .int .u64 (0)) rfl (Fx.parts4 (show Fx.ev _ (.tmp 26) = .int .i64 ((o : Int) + 1) from by kernel_rfl) (show Fx.ev _ (.tmp 34) = .int .u64 ((M.ml o).s.known o + 1) from by kernel_rfl) (show Fx.ev _ (.tmp 39) = .agg (Fx.varr 6 (Fx.rv .u64 ((M.ml o).s.known))) from by kernel_rfl) (show Fx.ev _ (.tmp 43) = .int .u8 ((r42 : Int) + 1) from by kernel_rfl)) Try.underlying54 (by kernel_rfl) (by kernel_rfl) (by rw [Fx.fill_step (off := 0) (s := 1) (y := fun _ => .int .i64 ((o : Int) + 1)) (by kernel_rfl) (Fx.cells_one (by rfl)) (by rfl)]; rw [Fx.fill_step (off := 1) (s := 1) (y := fun _ => .int .u64 ((M.ml o).s.known o + 1)) (by kernel_rfl) (Fx.cells_one (by rfl)) (by rfl)]; rw [Fx.fill_step (off := 2) (s := 6) (y := Fx.rv .u64 ((M.ml o).s.known)) (by kernel_rfl) (Fx.cells_agg _ _) (by rfl)]; rw [Fx.fill_step (off := 8) (s := 1) (y := fun _ => .int .u8 ((r42 : Int) + 1)) (by kernel_rfl) (Fx.cells_one (by rfl)) (by rfl)]; rfl))))
  ·exact .inl rfl
  ·exact .inr (.inl rfl)
 ·rintro g3 w3 f1 hf1 lg3 m19 hb1
  have s4 := Fx.Stp.of_below hb1
  have ng3m12 : p ≠ g3 := Nat.ne_of_lt (Nat.lt_of_lt_of_le (m12.lt) lg3)
  have ng3m16 : g1 ≠ g3 := Nat.ne_of_lt (Nat.lt_of_lt_of_le (m16.lt) lg3)
  have ng3m17 : g2 ≠ g3 := Nat.ne_of_lt (Nat.lt_of_lt_of_le (m17.lt) lg3)
  have ng3m18 : gq1 ≠ g3 := Nat.ne_of_lt (Nat.lt_of_lt_of_le (m18.lt) lg3)
  have ng3hLo1c : (M.pl o) ≠ g3 := Nat.ne_of_lt (Nat.lt_of_lt_of_le (hLo1c.lt) lg3)
  have ng3m14 : (.slice M.aa (M.an) (M.ac) : Value).ownBlock ≠ some g3 := fun e => by have := (m14.ge e).2; omega
  have m22 := m15.up s4.old
  have m23 := m16.stp s4 (Nat.ne_of_lt (m16.lt))
  have m24 := m17.stp s4 (Nat.ne_of_lt (m17.lt))
  have m25 := m18.stpB s4 (Nat.ne_of_lt (m18.lt))
  have m27 := hLo1n.stp s4 (hLo1n.notNew (Nat.le_refl _))
  have b4 := s4.below b3 b3.size b3.size
  have lg3 : w.heap.size ≤ g3 := Nat.le_trans b3.size lg3
  have tg3 : g3 < w3.heap.size := m19.lt
  have q1 : f1 3 = .pointer (some ⟨g1, 0, none⟩) := by rw [hf1]; kernel_rfl
  have q2 : f1 4 = .pointer (some ⟨g2, 0, none⟩) := by rw [hf1]; kernel_rfl
  have q3 : f1 6 = .pointer (some ⟨(M.pl o), 0, none⟩) := by rw [hf1]; kernel_rfl
  have q4 : f1 7 = .pointer (some ⟨g3, 0, none⟩) := by rw [hf1]; kernel_rfl
  clear hf1
  refine Fx.seqN (Fx.W.seq ?_)
  obtain ⟨V0, eV0⟩ : ∃ V : EvM, V = (⟨(o : Int) + 1, (M.ml o).s.known o + 1, (M.ml o).s.known, (r42 : Int) + 1, 0, 0, 0, 0, 0⟩ : EvM) := ⟨_, rfl⟩
  have hz1 : U64r 0 := ⟨by decide, by decide⟩
  have hz2 : I64r 0 := ⟨by decide, by decide⟩
  have wf0 : EvWf V0 := by rw [eV0]; exact ⟨⟨by show (_ : Int) ≤ (o : Int) + 1; omega, by show (o : Int) + 1 ≤ _; omega⟩, ⟨by show (0 : Int) ≤ (M.ml o).s.known o + 1; omega, by show (M.ml o).s.known o + 1 ≤ _; omega⟩, fun i hi => ⟨(hkn i hi).1, by have q : (M.ml o).s.known i < 1099511627776 := (hkn i hi).2; show (M.ml o).s.known i ≤ _; omega⟩, ⟨by show (0 : Int) ≤ (r42 : Int) + 1; omega, by show (r42 : Int) + 1 ≤ 255; omega⟩, hz1, hz2, hz2, hz1, hz1⟩
  have m28 : Fx.Blk w3 g3 14 (evY V0) 54 := m19.congr (fun j hj => by rw [eV0]; rcases j with _|_|_|_|_|_|_|_|_|_|_|_|_|_|j <;> first | rfl | omega | exact congrArg (Value.int .u8) (by omega))
  have sm0 : EvSm V0 := by rw [eV0]; exact ⟨by show (0 : Int) ≤ _; decide, by show (0 : Int) ≤ _; decide⟩
  have ek0 : V0.kind = (r42 : Int) + 1 := by rw [eV0]
  refine Fx.W.list (Fx.L.v (.int .u64 (0)) (x_assign rfl rfl) (Fx.L.nil (Fx.seqN ?_)))
  have m29 : Fx.Own w3 B 59 1 (.slice M.la (M.n) (M.lc)) M.n (ptX M.pl) := m25.congV (congrArg (fun q => Value.slice q M.n M.lc) eq1.symm)
  refine Fx.W.seqJ (fun f w_ => ∃ nd : Int, U64r nd ∧ f 3 = .pointer (some ⟨g1, 0, none⟩) ∧ f 4 = .pointer (some ⟨g2, 0, none⟩) ∧ f 7 = .pointer (some ⟨g3, 0, none⟩) ∧ f 8 = .int .u64 (nd) ∧ Fx.Blk w_ g1 9 (actY x) 58 ∧ Fx.Blk w_ g2 14 (fun zq => if zq < 1 then .int .i64 (0) else if zq < 8 then .int .u64 (0) else if zq < 9 then .int .u8 (0) else if zq < 10 then .int .u64 (0) else if zq < 12 then .int .i64 (0) else .int .u64 (0)) 54 ∧ Fx.Blk w_ g3 14 (evY V0) 54 ∧ Below w.heap.size w w_) ?_ ?_
  ·refine Fx.W.seq ?_
   have hLo2 := m22 o (by omega)
   have hLo2c := hLo2.c
   have hLo2n := hLo2.n
   refine Fx.W.list (Fx.L.v (.pointer (some ⟨(M.pl o), 0, none⟩)) (x_move rfl q3) (Fx.L.v (.pointer (some ⟨(M.pl o), 0, none⟩)) (x_nil rfl rfl) (Fx.L.v (.pointer (some ⟨(M.pl o), 0, none⟩)) (x_field rfl rfl Try.underlying71 rfl (s := 20) (by kernel_rfl) rfl rfl) (Fx.L.v (.pointer (some ⟨(M.pl o), 18, none⟩)) (x_field rfl rfl Try.underlying43 rfl (s := 1) (by kernel_rfl) rfl (by show _ + 18 = _; omega)) (Fx.L.v (.slice (M.ml o).s.na ((M.ml o).s.nn) ((M.ml o).s.nc)) (x_load1 (x := ldY (M.ml o)) rfl rfl (by kernel_rfl) hLo2c.cel (i := 18) (by omega) (by omega) rfl) (Fx.L.v (.int .i64 ((((M.ml o).s.nn : Nat) : Int))) (x_len rfl rfl rfl (by kernel_rfl)) (Fx.L.v (.bool (decide (0 < (((M.ml o).s.nn : Nat) : Int)))) (Fx.x_gtr rfl rfl rfl) (Fx.L.nil (Fx.seqN (Fx.W.cond (b := decide (0 < (((M.ml o).s.nn : Nat) : Int))) rfl (fun c51 => ?_) (fun c51 => ?_)))))))))))
   ·have c51 := of_decide_eq_true c51
    obtain ⟨r66, er66⟩ : ∃ r, r = x.node % (M.ml o).s.nn := ⟨_, rfl⟩
    have hr66 : r66 < (M.ml o).s.nn := by rw [er66]; exact Nat.mod_lt _ (by omega)
    -- region 6 draws
    refine Fx.W.quiet (fun v1 => ∃ q, v1 = World.drewN w3 q) (by kernel_rfl) (by kernel_rfl) ⟨1, rfl⟩ ?_
    refine Fx.Qt.v (.pointer (some ⟨(M.pl o), 0, none⟩)) (fun v1 hv1 => x_move rfl q3) (Fx.Qt.v (.pointer (some ⟨(M.pl o), 0, none⟩)) (fun v1 hv1 => x_nil rfl rfl) (Fx.Qt.v (.pointer (some ⟨(M.pl o), 0, none⟩)) (fun v1 hv1 => x_field rfl rfl Try.underlying71 rfl (s := 20) (by kernel_rfl) rfl rfl) (Fx.Qt.v (.pointer (some ⟨(M.pl o), 18, none⟩)) (fun v1 hv1 => x_field rfl rfl Try.underlying43 rfl (s := 1) (by kernel_rfl) rfl (by show _ + 18 = _; omega)) (Fx.Qt.v (.slice (M.ml o).s.na ((M.ml o).s.nn) ((M.ml o).s.nc)) (fun v1 hv1 => x_load1 (x := ldY (M.ml o)) rfl rfl (by kernel_rfl) (by obtain ⟨qd, rfl⟩ := hv1; exact hLo2c.cel) (i := 18) (by omega) (by omega) rfl) (Fx.Qt.v (.pointer (some ⟨g1, 4, none⟩)) (fun v1 hv1 => x_field rfl q1 Try.underlying58 rfl (s := 1) (by kernel_rfl) rfl (by show _ + 4 = _; omega)) (Fx.Qt.v (.int .u8 ((x.node : Int))) (fun v1 hv1 => x_load1 (x := actY x) rfl rfl (by kernel_rfl) (by obtain ⟨qd, rfl⟩ := hv1; exact m23.cel) (i := 4) (by omega) (by omega) rfl) (Fx.Qt.v (.int .i64 ((x.node : Int))) (fun v1 hv1 => x_conv rfl rfl (by kernel_rfl) Try.underlying3 (Fx.i64e (by omega) rfl)) (Fx.Qt.v (.pointer (some ⟨(M.pl o), 0, none⟩)) (fun v1 hv1 => x_move rfl q3) (Fx.Qt.v (.pointer (some ⟨(M.pl o), 0, none⟩)) (fun v1 hv1 => x_nil rfl rfl) (Fx.Qt.v (.pointer (some ⟨(M.pl o), 0, none⟩)) (fun v1 hv1 => x_field rfl rfl Try.underlying71 rfl (s := 20) (by kernel_rfl) rfl rfl) (Fx.Qt.v (.pointer (some ⟨(M.pl o), 18, none⟩)) (fun v1 hv1 => x_field rfl rfl Try.underlying43 rfl (s := 1) (by kernel_rfl) rfl (by show _ + 18 = _; omega)) (Fx.Qt.v (.slice (M.ml o).s.na ((M.ml o).s.nn) ((M.ml o).s.nc)) (fun v1 hv1 => x_load1 (x := ldY (M.ml o)) rfl rfl (by kernel_rfl) (by obtain ⟨qd, rfl⟩ := hv1; exact hLo2c.cel) (i := 18) (by omega) (by omega) rfl) (Fx.Qt.v (.int .i64 ((((M.ml o).s.nn : Nat) : Int))) (fun v1 hv1 => x_len rfl rfl rfl (by kernel_rfl)) (Fx.Qt.v (.int .i64 ((r66 : Int))) (fun v1 hv1 => Fx.x_rem rfl rfl rfl (by omega) (remL er66)) ?_))))))))))))))
    obtain ⟨gq2, eq2⟩ := m27.addr (by omega)
    have m30 : Fx.Own w3 B 50 56 (.slice (some ⟨gq2, 0, none⟩) ((M.ml o).s.nn) ((M.ml o).s.nc)) ((M.ml o).s.nn) (ndX (M.ml o)) := m27.congV (congrArg (fun q => Value.slice q ((M.ml o).s.nn) ((M.ml o).s.nc)) eq2)
    refine Fx.Qt.v (.pointer (some ⟨gq2, 56 * r66, none⟩)) (fun v1 hv1 => x_indexS rfl (rfl.trans (congrArg (fun q => Value.slice q ((M.ml o).s.nn) ((M.ml o).s.nc)) eq2)) rfl Try.underlying40 (s := 56) (by kernel_rfl) (by omega) (by omega) (by omega)) (Fx.Qt.v (.pointer (some ⟨gq2, 56 * r66, none⟩)) (fun v1 hv1 => x_field rfl rfl Try.underlying50 rfl (s := 1) (by kernel_rfl) rfl rfl) (Fx.Qt.v (.int .u64 ((M.ml o).id r66)) (fun v1 hv1 => x_load1 (x := ndX (M.ml o)) rfl rfl (by kernel_rfl) (by obtain ⟨qd, rfl⟩ := hv1; exact m30.cel) (i := 56 * r66) (by omega) (by omega) (Fx.flat_cell (k := r66) (j := 0) (by omega) (by omega) rfl)) (Fx.Qt.v (.int .u64 ((M.ml o).id r66)) (fun v1 hv1 => x_assign rfl rfl) (Fx.Qt.nil ?_))))
    rintro _ ⟨qd, rfl⟩
    obtain ⟨wq2, ewq2⟩ : ∃ v1, v1 = World.drewN w3 qd := ⟨_, rfl⟩
    rw [← ewq2]
    have s5 : Fx.Stp w3.heap.size w3 wq2 := by rw [ewq2]; exact Fx.Stp.of_below (bdrN w3 qd)
    have m34 := m23.stp s5 (Nat.ne_of_lt (m23.lt))
    have m35 := m24.stp s5 (Nat.ne_of_lt (m24.lt))
    have m37 := m28.stp s5 (Nat.ne_of_lt (m28.lt))
    have m40 := m30.stpB s5 (Nat.ne_of_lt (m30.lt))
    have b5 := s5.below b4 b4.size b4.size
    clear ewq2
    have m41 : Fx.Own wq2 B 50 56 (.slice (M.ml o).s.na ((M.ml o).s.nn) ((M.ml o).s.nc)) ((M.ml o).s.nn) (ndX (M.ml o)) := m40.congV (congrArg (fun q => Value.slice q ((M.ml o).s.nn) ((M.ml o).s.nc)) eq2.symm)
    exact Fx.jnN ⟨((M.ml o).id r66), (hU r66 hr66), q1, q2, q4, (by first | rfl | exact congrArg (Value.int .u64) (by omega)), m34, m35, m37, b5⟩
   ·have c51 := of_decide_eq_false c51
    refine Fx.W.skip ?_
    exact Fx.jnN ⟨0, ⟨by decide, by decide⟩, q1, q2, q4, (by first | rfl | exact congrArg (Value.int .u64) (by omega)), m23, m24, m28, b4⟩
  ·rintro f2 w4 ⟨nd, hnode, h1, h2, h3, h4, m42, m43, m44, b6⟩
   refine Fx.W.seq (Fx.W.seq (Fx.W.list (Fx.L.v (.pointer (some ⟨g3, 8, none⟩)) (x_field rfl h3 Try.underlying54 rfl (s := 1) (by kernel_rfl) rfl (by show _ + 8 = _; omega)) (Fx.L.v (.int .u8 (V0.kind)) (x_load1 (x := evY V0) rfl rfl (by kernel_rfl) m44.cel (i := 8) (by omega) (by omega) rfl) (Fx.L.nil (Fx.seqN (Fx.W.block (Fx.W.seq (Fx.W.list ?_)))))))))
   by_cases c73 : V0.kind = 1
   ·refine Fx.L.v (.bool true) (x_eqlT rfl rfl rfl c73) (Fx.L.v (.bool true) (x_assign rfl rfl) (Fx.L.nil (Fx.seqN (Fx.W.cond (b := true) rfl (fun _ => Fx.W.seq (Fx.W.seq ?_)) (fun h => nomatch h)))))
    obtain ⟨r76, er76⟩ : ∃ r, r = x.node % 2 := ⟨_, rfl⟩
    have hr76 : r76 < 2 := by rw [er76]; exact Nat.mod_lt _ (by omega)
    refine Fx.W.list (Fx.L.v (.pointer (some ⟨g1, 4, none⟩)) (x_field rfl h1 Try.underlying58 rfl (s := 1) (by kernel_rfl) rfl (by show _ + 4 = _; omega)) (Fx.L.v (.int .u8 ((x.node : Int))) (x_load1 (x := actY x) rfl rfl (by kernel_rfl) m42.cel (i := 4) (by omega) (by omega) rfl) (Fx.L.v (.int .u8 ((r76 : Int))) (Fx.x_rem rfl rfl rfl (by omega) (remL er76)) ?_)))
    by_cases c77 : (r76 : Int) = 1
    ·refine Fx.L.v (.bool true) (x_eqlT rfl rfl rfl c77) (Fx.L.nil (Fx.seqN (Fx.W.cond (b := true) rfl (fun _ => Fx.W.list (Fx.L.v (.int .u64 (nd)) (x_move rfl h4) ?_)) (fun h => nomatch h))))
     refine Fx.L.v (.pointer (some ⟨g3, 9, none⟩)) (x_field rfl h3 Try.underlying54 rfl (s := 1) (by kernel_rfl) rfl (by show _ + 9 = _; omega)) (Fx.L.store1 (x := evY V0) (u := .int .u64 (nd)) (by rfl) rfl rfl rfl rfl (by rfl) (by kernel_rfl) m44 (i := 9) (by omega) fun w5 m45 s6 z3 => ?_)
     obtain ⟨V1, eV1⟩ : ∃ V : EvM, V = ⟨V0.o, V0.seq, V0.deps, V0.kind, nd, V0.dst, V0.amt, V0.req, V0.of⟩ := ⟨_, rfl⟩
     have wfV1 : EvWf V1 := by rw [eV1]; exact ⟨wf0.o, wf0.seq, wf0.deps, wf0.kind, hnode, wf0.dst, wf0.amt, wf0.req, wf0.of⟩
     have smV1 : EvSm V1 := by rw [eV1]; exact ⟨sm0.amt, sm0.req⟩
     have m46 : Fx.Blk w5 g3 14 (evY V1) 54 := m45.congr (fun j hj => by rw [eV1]; exact ev_node _ _ j hj)
     have hct1 := Fx.ChT.of_stp s6 m44.ty
     have m47 := m42.chT hct1 (by decide)
     have m48 := m43.stp s6 (by omega)
     have b7 := s6.below b6 b6.size (by omega)
     refine Fx.L.nil (Fx.seqN (Fx.W.list (Fx.L.v (.pointer (some ⟨g1, 6, none⟩)) (x_field rfl h1 Try.underlying58 rfl (s := 1) (by kernel_rfl) rfl (by show _ + 6 = _; omega)) (Fx.L.v (.int .u16 ((x.amt : Int))) (x_load1 (x := actY x) rfl rfl (by kernel_rfl) m47.cel (i := 6) (by omega) (by omega) rfl) (Fx.L.v (.int .i64 ((x.amt : Int))) (x_conv rfl rfl (by kernel_rfl) Try.underlying2 (Fx.i64e (by omega) rfl)) (Fx.L.v (.pointer (some ⟨g3, 11, none⟩)) (x_field rfl h3 Try.underlying54 rfl (s := 1) (by kernel_rfl) rfl (by show _ + 11 = _; omega)) (Fx.L.store1 (x := evY V1) (u := .int .i64 ((x.amt : Int))) (by rfl) rfl rfl rfl rfl (by rfl) (by kernel_rfl) m46 (i := 11) (by omega) fun w6 m49 s7 z4 => ?_)))))))
     obtain ⟨V2, eV2⟩ : ∃ V : EvM, V = ⟨V1.o, V1.seq, V1.deps, V1.kind, V1.node, V1.dst, (x.amt : Int), V1.req, V1.of⟩ := ⟨_, rfl⟩
     have wfV2 : EvWf V2 := by rw [eV2]; exact ⟨wfV1.o, wfV1.seq, wfV1.deps, wfV1.kind, wfV1.node, wfV1.dst, (show I64r ((x.amt : Int)) from ⟨by omega, by omega⟩), wfV1.req, wfV1.of⟩
     have smV2 : EvSm V2 := by rw [eV2]; exact ⟨by show (x.amt : Int) ≤ 65536; omega, smV1.req⟩
     have m50 : Fx.Blk w6 g3 14 (evY V2) 54 := m49.congr (fun j hj => by rw [eV2]; exact ev_amt _ _ j hj)
     have m52 := m48.stp s7 (by omega)
     have b8 := s7.below b7 b7.size (by omega)
     refine Fx.L.nil (Fx.blkN (Fx.seqN (Fx.W.seq (Fx.W.list (Fx.L.v (.agg (Fx.varr 14 (evY V2))) (x_loadA (x := evY V2) (y := evY V2) rfl h3 (by kernel_rfl) (by kernel_rfl) m50.cel (i := 0) (by omega) (by omega) (fun j _ => by rw [Nat.zero_add])) (Fx.L.storeA (x := fun zq => if zq < 1 then .int .i64 (0) else if zq < 8 then .int .u64 (0) else if zq < 9 then .int .u8 (0) else if zq < 10 then .int .u64 (0) else if zq < 12 then .int .i64 (0) else .int .u64 (0)) (y := evY V2) (by rfl) rfl rfl h2 rfl (evY_one _) (by kernel_rfl) m52 (i := 0) (by omega) fun w7 m53 s8 z5 => ?_))))))
     have m54 : Fx.Blk w7 g2 14 (evY V2) 54 := Fx.ovr_all m53
     have m56 := m50.stp s8 (by omega)
     have b9 := s8.below b8 b8.size (by omega)
     refine Fx.L.nil (Fx.seqN (Fx.W.ret (⟨.agg (Fx.varr 14 (evY V2)), Fx.retV1 Try.results70 ⟨_, h2, Fx.run_loadV m54.cel (by kernel_rfl) (by kernel_rfl)⟩, ?_⟩)))
     exact ⟨V2, wfV2, smV2, rfl, b9⟩
    ·refine Fx.L.v (.bool false) (x_eqlF rfl rfl rfl c77) (Fx.L.nil (Fx.seqN (Fx.W.cond (b := false) rfl (fun h => nomatch h) (fun _ => Fx.W.skip (Fx.seqN (Fx.W.list (Fx.L.v (.pointer (some ⟨g1, 6, none⟩)) (x_field rfl h1 Try.underlying58 rfl (s := 1) (by kernel_rfl) rfl (by show _ + 6 = _; omega)) (Fx.L.v (.int .u16 ((x.amt : Int))) (x_load1 (x := actY x) rfl rfl (by kernel_rfl) m42.cel (i := 6) (by omega) (by omega) rfl) (Fx.L.v (.int .i64 ((x.amt : Int))) (x_conv rfl rfl (by kernel_rfl) Try.underlying2 (Fx.i64e (by omega) rfl)) (Fx.L.v (.pointer (some ⟨g3, 11, none⟩)) (x_field rfl h3 Try.underlying54 rfl (s := 1) (by kernel_rfl) rfl (by show _ + 11 = _; omega)) (Fx.L.store1 (x := evY V0) (u := .int .i64 ((x.amt : Int))) (by rfl) rfl rfl rfl rfl (by rfl) (by kernel_rfl) m44 (i := 11) (by omega) fun w8 m57 s9 z6 => ?_)))))))))))
     obtain ⟨V3, eV3⟩ : ∃ V : EvM, V = ⟨V0.o, V0.seq, V0.deps, V0.kind, V0.node, V0.dst, (x.amt : Int), V0.req, V0.of⟩ := ⟨_, rfl⟩
     have wfV3 : EvWf V3 := by rw [eV3]; exact ⟨wf0.o, wf0.seq, wf0.deps, wf0.kind, wf0.node, wf0.dst, (show I64r ((x.amt : Int)) from ⟨by omega, by omega⟩), wf0.req, wf0.of⟩
     have smV3 : EvSm V3 := by rw [eV3]; exact ⟨by show (x.amt : Int) ≤ 65536; omega, sm0.req⟩
     have m58 : Fx.Blk w8 g3 14 (evY V3) 54 := m57.congr (fun j hj => by rw [eV3]; exact ev_amt _ _ j hj)
     have m60 := m43.stp s9 (by omega)
     have b10 := s9.below b6 b6.size (by omega)
     refine Fx.L.nil (Fx.blkN (Fx.seqN (Fx.W.seq (Fx.W.list (Fx.L.v (.agg (Fx.varr 14 (evY V3))) (x_loadA (x := evY V3) (y := evY V3) rfl h3 (by kernel_rfl) (by kernel_rfl) m58.cel (i := 0) (by omega) (by omega) (fun j _ => by rw [Nat.zero_add])) (Fx.L.storeA (x := fun zq => if zq < 1 then .int .i64 (0) else if zq < 8 then .int .u64 (0) else if zq < 9 then .int .u8 (0) else if zq < 10 then .int .u64 (0) else if zq < 12 then .int .i64 (0) else .int .u64 (0)) (y := evY V3) (by rfl) rfl rfl h2 rfl (evY_one _) (by kernel_rfl) m60 (i := 0) (by omega) fun w9 m61 s10 z7 => ?_))))))
     have m62 : Fx.Blk w9 g2 14 (evY V3) 54 := Fx.ovr_all m61
     have m64 := m58.stp s10 (by omega)
     have b11 := s10.below b10 b10.size (by omega)
     refine Fx.L.nil (Fx.seqN (Fx.W.ret (⟨.agg (Fx.varr 14 (evY V3)), Fx.retV1 Try.results70 ⟨_, h2, Fx.run_loadV m62.cel (by kernel_rfl) (by kernel_rfl)⟩, ?_⟩)))
     exact ⟨V3, wfV3, smV3, rfl, b11⟩
   ·refine Fx.L.v (.bool false) (x_eqlF rfl rfl rfl c73) (Fx.L.v (.bool false) (x_assign rfl rfl) (Fx.L.nil (Fx.seqN (Fx.W.cond (b := false) rfl (fun h => nomatch h) (fun _ => Fx.W.seq (Fx.W.list ?_))))))
    by_cases c85 : V0.kind = 2
    ·refine Fx.L.v (.bool true) (x_eqlT rfl rfl rfl c85) (Fx.L.v (.bool true) (x_assign rfl rfl) (Fx.L.nil (Fx.seqN (Fx.W.cond (b := true) rfl (fun _ => Fx.W.seq (Fx.W.list (Fx.L.v (.int .u64 (nd)) (x_move rfl h4) ?_))) (fun h => nomatch h)))))
     refine Fx.L.v (.pointer (some ⟨g3, 9, none⟩)) (x_field rfl h3 Try.underlying54 rfl (s := 1) (by kernel_rfl) rfl (by show _ + 9 = _; omega)) (Fx.L.store1 (x := evY V0) (u := .int .u64 (nd)) (by rfl) rfl rfl rfl rfl (by rfl) (by kernel_rfl) m44 (i := 9) (by omega) fun w10 m65 s11 z8 => ?_)
     obtain ⟨V4, eV4⟩ : ∃ V : EvM, V = ⟨V0.o, V0.seq, V0.deps, V0.kind, nd, V0.dst, V0.amt, V0.req, V0.of⟩ := ⟨_, rfl⟩
     have wfV4 : EvWf V4 := by rw [eV4]; exact ⟨wf0.o, wf0.seq, wf0.deps, wf0.kind, hnode, wf0.dst, wf0.amt, wf0.req, wf0.of⟩
     have smV4 : EvSm V4 := by rw [eV4]; exact ⟨sm0.amt, sm0.req⟩
     have m66 : Fx.Blk w10 g3 14 (evY V4) 54 := m65.congr (fun j hj => by rw [eV4]; exact ev_node _ _ j hj)
     have hct6 := Fx.ChT.of_stp s11 m44.ty
     have m67 := m42.chT hct6 (by decide)
     have m68 := m43.stp s11 (by omega)
     have b12 := s11.below b6 b6.size (by omega)
     refine Fx.L.nil (Fx.seqN (Fx.W.list (Fx.L.v (.pointer (some ⟨g1, 6, none⟩)) (x_field rfl h1 Try.underlying58 rfl (s := 1) (by kernel_rfl) rfl (by show _ + 6 = _; omega)) (Fx.L.v (.int .u16 ((x.amt : Int))) (x_load1 (x := actY x) rfl rfl (by kernel_rfl) m67.cel (i := 6) (by omega) (by omega) rfl) (Fx.L.v (.int .i64 ((x.amt : Int))) (x_conv rfl rfl (by kernel_rfl) Try.underlying2 (Fx.i64e (by omega) rfl)) (Fx.L.v (.int .i64 ((x.amt : Int) + 1)) (Fx.x_add rfl rfl rfl (Fx.i64e (by omega) (by omega))) (Fx.L.v (.pointer (some ⟨g3, 11, none⟩)) (x_field rfl h3 Try.underlying54 rfl (s := 1) (by kernel_rfl) rfl (by show _ + 11 = _; omega)) (Fx.L.store1 (x := evY V4) (u := .int .i64 ((x.amt : Int) + 1)) (by rfl) rfl rfl rfl rfl (by rfl) (by kernel_rfl) m66 (i := 11) (by omega) fun w11 m69 s12 z9 => ?_))))))))
     obtain ⟨V5, eV5⟩ : ∃ V : EvM, V = ⟨V4.o, V4.seq, V4.deps, V4.kind, V4.node, V4.dst, (x.amt : Int) + 1, V4.req, V4.of⟩ := ⟨_, rfl⟩
     have wfV5 : EvWf V5 := by rw [eV5]; exact ⟨wfV4.o, wfV4.seq, wfV4.deps, wfV4.kind, wfV4.node, wfV4.dst, (show I64r ((x.amt : Int) + 1) from ⟨by omega, by omega⟩), wfV4.req, wfV4.of⟩
     have smV5 : EvSm V5 := by rw [eV5]; exact ⟨by show (x.amt : Int) + 1 ≤ 65536; omega, smV4.req⟩
     have m70 : Fx.Blk w11 g3 14 (evY V5) 54 := m69.congr (fun j hj => by rw [eV5]; exact ev_amt _ _ j hj)
     have m72 := m68.stp s12 (by omega)
     have b13 := s12.below b12 b12.size (by omega)
     refine Fx.L.nil (Fx.blkN (Fx.seqN (Fx.W.seq (Fx.W.list (Fx.L.v (.agg (Fx.varr 14 (evY V5))) (x_loadA (x := evY V5) (y := evY V5) rfl h3 (by kernel_rfl) (by kernel_rfl) m70.cel (i := 0) (by omega) (by omega) (fun j _ => by rw [Nat.zero_add])) (Fx.L.storeA (x := fun zq => if zq < 1 then .int .i64 (0) else if zq < 8 then .int .u64 (0) else if zq < 9 then .int .u8 (0) else if zq < 10 then .int .u64 (0) else if zq < 12 then .int .i64 (0) else .int .u64 (0)) (y := evY V5) (by rfl) rfl rfl h2 rfl (evY_one _) (by kernel_rfl) m72 (i := 0) (by omega) fun w12 m73 s13 z10 => ?_))))))
     have m74 : Fx.Blk w12 g2 14 (evY V5) 54 := Fx.ovr_all m73
     have m76 := m70.stp s13 (by omega)
     have b14 := s13.below b13 b13.size (by omega)
     refine Fx.L.nil (Fx.seqN (Fx.W.ret (⟨.agg (Fx.varr 14 (evY V5)), Fx.retV1 Try.results70 ⟨_, h2, Fx.run_loadV m74.cel (by kernel_rfl) (by kernel_rfl)⟩, ?_⟩)))
     exact ⟨V5, wfV5, smV5, rfl, b14⟩
    ·refine Fx.L.v (.bool false) (x_eqlF rfl rfl rfl c85) (Fx.L.v (.bool false) (x_assign rfl rfl) (Fx.L.nil (Fx.seqN (Fx.W.cond (b := false) rfl (fun h => nomatch h) (fun _ => Fx.W.seq (Fx.W.list ?_))))))
     by_cases c94 : V0.kind = 3
     ·refine Fx.L.v (.bool true) (x_eqlT rfl rfl rfl c94) (Fx.L.v (.bool true) (x_assign rfl rfl) (Fx.L.nil (Fx.seqN (Fx.W.cond (b := true) rfl (fun _ => Fx.W.seq (Fx.W.list (Fx.L.v (.int .u64 (nd)) (x_move rfl h4) ?_))) (fun h => nomatch h)))))
      refine Fx.L.v (.pointer (some ⟨g3, 9, none⟩)) (x_field rfl h3 Try.underlying54 rfl (s := 1) (by kernel_rfl) rfl (by show _ + 9 = _; omega)) (Fx.L.store1 (x := evY V0) (u := .int .u64 (nd)) (by rfl) rfl rfl rfl rfl (by rfl) (by kernel_rfl) m44 (i := 9) (by omega) fun w13 m77 s14 z11 => ?_)
      obtain ⟨V6, eV6⟩ : ∃ V : EvM, V = ⟨V0.o, V0.seq, V0.deps, V0.kind, nd, V0.dst, V0.amt, V0.req, V0.of⟩ := ⟨_, rfl⟩
      have wfV6 : EvWf V6 := by rw [eV6]; exact ⟨wf0.o, wf0.seq, wf0.deps, wf0.kind, hnode, wf0.dst, wf0.amt, wf0.req, wf0.of⟩
      have smV6 : EvSm V6 := by rw [eV6]; exact ⟨sm0.amt, sm0.req⟩
      have m78 : Fx.Blk w13 g3 14 (evY V6) 54 := m77.congr (fun j hj => by rw [eV6]; exact ev_node _ _ j hj)
      have hct9 := Fx.ChT.of_stp s14 m44.ty
      have m79 := m42.chT hct9 (by decide)
      have m80 := m43.stp s14 (by omega)
      have b15 := s14.below b6 b6.size (by omega)
      refine Fx.L.nil (Fx.seqN (Fx.W.seq (Fx.W.list (Fx.L.v (.pointer (some ⟨g1, 6, none⟩)) (x_field rfl h1 Try.underlying58 rfl (s := 1) (by kernel_rfl) rfl (by show _ + 6 = _; omega)) (Fx.L.v (.int .u16 ((x.amt : Int))) (x_load1 (x := actY x) rfl rfl (by kernel_rfl) m79.cel (i := 6) (by omega) (by omega) rfl) (Fx.L.v (.int .i64 ((x.amt : Int))) (x_conv rfl rfl (by kernel_rfl) Try.underlying2 (Fx.i64e (by omega) rfl)) (Fx.L.v (.int .i64 ((x.amt : Int) + 1)) (Fx.x_add rfl rfl rfl (Fx.i64e (by omega) (by omega))) (Fx.L.v (.pointer (some ⟨g3, 11, none⟩)) (x_field rfl h3 Try.underlying54 rfl (s := 1) (by kernel_rfl) rfl (by show _ + 11 = _; omega)) (Fx.L.store1 (x := evY V6) (u := .int .i64 ((x.amt : Int) + 1)) (by rfl) rfl rfl rfl rfl (by rfl) (by kernel_rfl) m78 (i := 11) (by omega) fun w14 m81 s15 z12 => ?_)))))))))
      obtain ⟨V7, eV7⟩ : ∃ V : EvM, V = ⟨V6.o, V6.seq, V6.deps, V6.kind, V6.node, V6.dst, (x.amt : Int) + 1, V6.req, V6.of⟩ := ⟨_, rfl⟩
      have wfV7 : EvWf V7 := by rw [eV7]; exact ⟨wfV6.o, wfV6.seq, wfV6.deps, wfV6.kind, wfV6.node, wfV6.dst, (show I64r ((x.amt : Int) + 1) from ⟨by omega, by omega⟩), wfV6.req, wfV6.of⟩
      have smV7 : EvSm V7 := by rw [eV7]; exact ⟨by show (x.amt : Int) + 1 ≤ 65536; omega, smV6.req⟩
      have m82 : Fx.Blk w14 g3 14 (evY V7) 54 := m81.congr (fun j hj => by rw [eV7]; exact ev_amt _ _ j hj)
      have hct10 := Fx.ChT.of_stp s15 m78.ty
      have m83 := m79.chT hct10 (by decide)
      have m84 := m80.stp s15 (by omega)
      have b16 := s15.below b15 b15.size (by omega)
      refine Fx.L.nil (Fx.seqN (Fx.W.list (Fx.L.v (.pointer (some ⟨g1, 7, none⟩)) (x_field rfl h1 Try.underlying58 rfl (s := 1) (by kernel_rfl) rfl (by show _ + 7 = _; omega)) (Fx.L.v (.int .u8 ((x.req : Int))) (x_load1 (x := actY x) rfl rfl (by kernel_rfl) m83.cel (i := 7) (by omega) (by omega) rfl) (Fx.L.v (.int .u64 ((x.req : Int))) (x_conv rfl rfl (by kernel_rfl) Try.underlying27 (Fx.u64e (by omega) rfl)) (Fx.L.v (.int .u64 ((x.req : Int) + 1)) (Fx.x_add rfl rfl rfl (Fx.u64e (by omega) (by omega))) (Fx.L.v (.pointer (some ⟨g3, 12, none⟩)) (x_field rfl h3 Try.underlying54 rfl (s := 1) (by kernel_rfl) rfl (by show _ + 12 = _; omega)) (Fx.L.store1 (x := evY V7) (u := .int .u64 ((x.req : Int) + 1)) (by rfl) rfl rfl rfl rfl (by rfl) (by kernel_rfl) m82 (i := 12) (by omega) fun w15 m85 s16 z13 => ?_))))))))
      obtain ⟨V8, eV8⟩ : ∃ V : EvM, V = ⟨V7.o, V7.seq, V7.deps, V7.kind, V7.node, V7.dst, V7.amt, (x.req : Int) + 1, V7.of⟩ := ⟨_, rfl⟩
      have wfV8 : EvWf V8 := by rw [eV8]; exact ⟨wfV7.o, wfV7.seq, wfV7.deps, wfV7.kind, wfV7.node, wfV7.dst, wfV7.amt, (show U64r ((x.req : Int) + 1) from ⟨by omega, by omega⟩), wfV7.of⟩
      have smV8 : EvSm V8 := by rw [eV8]; exact ⟨smV7.amt, by show (x.req : Int) + 1 ≤ 256; omega⟩
      have m86 : Fx.Blk w15 g3 14 (evY V8) 54 := m85.congr (fun j hj => by rw [eV8]; exact ev_req _ _ j hj)
      have m88 := m84.stp s16 (by omega)
      have b17 := s16.below b16 b16.size (by omega)
      refine Fx.L.nil (Fx.blkN (Fx.seqN (Fx.W.seq (Fx.W.list (Fx.L.v (.agg (Fx.varr 14 (evY V8))) (x_loadA (x := evY V8) (y := evY V8) rfl h3 (by kernel_rfl) (by kernel_rfl) m86.cel (i := 0) (by omega) (by omega) (fun j _ => by rw [Nat.zero_add])) (Fx.L.storeA (x := fun zq => if zq < 1 then .int .i64 (0) else if zq < 8 then .int .u64 (0) else if zq < 9 then .int .u8 (0) else if zq < 10 then .int .u64 (0) else if zq < 12 then .int .i64 (0) else .int .u64 (0)) (y := evY V8) (by rfl) rfl rfl h2 rfl (evY_one _) (by kernel_rfl) m88 (i := 0) (by omega) fun w16 m89 s17 z14 => ?_))))))
      have m90 : Fx.Blk w16 g2 14 (evY V8) 54 := Fx.ovr_all m89
      have m92 := m86.stp s17 (by omega)
      have b18 := s17.below b17 b17.size (by omega)
      refine Fx.L.nil (Fx.seqN (Fx.W.ret (⟨.agg (Fx.varr 14 (evY V8)), Fx.retV1 Try.results70 ⟨_, h2, Fx.run_loadV m90.cel (by kernel_rfl) (by kernel_rfl)⟩, ?_⟩)))
      exact ⟨V8, wfV8, smV8, rfl, b18⟩
     ·refine Fx.L.v (.bool false) (x_eqlF rfl rfl rfl c94) (Fx.L.v (.bool false) (x_assign rfl rfl) (Fx.L.nil (Fx.seqN (Fx.W.cond (b := false) rfl (fun h => nomatch h) (fun _ => Fx.W.seq (Fx.W.list ?_))))))
      by_cases c108 : V0.kind = 4
      ·refine Fx.L.v (.bool true) (x_eqlT rfl rfl rfl c108) (Fx.L.v (.bool true) (x_assign rfl rfl) (Fx.L.nil (Fx.seqN (Fx.W.cond (b := true) rfl (fun _ => Fx.W.seq (Fx.W.list (Fx.L.v (.pointer (some ⟨g1, 7, none⟩)) (x_field rfl h1 Try.underlying58 rfl (s := 1) (by kernel_rfl) rfl (by show _ + 7 = _; omega)) ?_))) (fun h => nomatch h)))))
       refine Fx.L.v (.int .u8 ((x.req : Int))) (x_load1 (x := actY x) rfl rfl (by kernel_rfl) m42.cel (i := 7) (by omega) (by omega) rfl) (Fx.L.v (.int .u64 ((x.req : Int))) (x_conv rfl rfl (by kernel_rfl) Try.underlying27 (Fx.u64e (by omega) rfl)) (Fx.L.v (.int .u64 ((x.req : Int) + 1)) (Fx.x_add rfl rfl rfl (Fx.u64e (by omega) (by omega))) (Fx.L.v (.pointer (some ⟨g3, 12, none⟩)) (x_field rfl h3 Try.underlying54 rfl (s := 1) (by kernel_rfl) rfl (by show _ + 12 = _; omega)) (Fx.L.store1 (x := evY V0) (u := .int .u64 ((x.req : Int) + 1)) (by rfl) rfl rfl rfl rfl (by rfl) (by kernel_rfl) m44 (i := 12) (by omega) fun w17 m93 s18 z15 => ?_))))
       obtain ⟨V9, eV9⟩ : ∃ V : EvM, V = ⟨V0.o, V0.seq, V0.deps, V0.kind, V0.node, V0.dst, V0.amt, (x.req : Int) + 1, V0.of⟩ := ⟨_, rfl⟩
       have wfV9 : EvWf V9 := by rw [eV9]; exact ⟨wf0.o, wf0.seq, wf0.deps, wf0.kind, wf0.node, wf0.dst, wf0.amt, (show U64r ((x.req : Int) + 1) from ⟨by omega, by omega⟩), wf0.of⟩
       have smV9 : EvSm V9 := by rw [eV9]; exact ⟨sm0.amt, by show (x.req : Int) + 1 ≤ 256; omega⟩
       have m94 : Fx.Blk w17 g3 14 (evY V9) 54 := m93.congr (fun j hj => by rw [eV9]; exact ev_req _ _ j hj)
       have hct13 := Fx.ChT.of_stp s18 m44.ty
       have m95 := m42.chT hct13 (by decide)
       have m96 := m43.stp s18 (by omega)
       have b19 := s18.below b6 b6.size (by omega)
       refine Fx.L.nil (Fx.seqN (Fx.W.list (Fx.L.v (.pointer (some ⟨g1, 8, none⟩)) (x_field rfl h1 Try.underlying58 rfl (s := 1) (by kernel_rfl) rfl (by show _ + 8 = _; omega)) (Fx.L.v (.int .u8 ((x.of : Int))) (x_load1 (x := actY x) rfl rfl (by kernel_rfl) m95.cel (i := 8) (by omega) (by omega) rfl) (Fx.L.v (.int .u64 ((x.of : Int))) (x_conv rfl rfl (by kernel_rfl) Try.underlying27 (Fx.u64e (by omega) rfl)) (Fx.L.v (.int .u64 ((x.of : Int) + 1)) (Fx.x_add rfl rfl rfl (Fx.u64e (by omega) (by omega))) (Fx.L.v (.pointer (some ⟨g3, 13, none⟩)) (x_field rfl h3 Try.underlying54 rfl (s := 1) (by kernel_rfl) rfl (by show _ + 13 = _; omega)) (Fx.L.store1 (x := evY V9) (u := .int .u64 ((x.of : Int) + 1)) (by rfl) rfl rfl rfl rfl (by rfl) (by kernel_rfl) m94 (i := 13) (by omega) fun w18 m97 s19 z16 => ?_))))))))
       obtain ⟨V10, eV10⟩ : ∃ V : EvM, V = ⟨V9.o, V9.seq, V9.deps, V9.kind, V9.node, V9.dst, V9.amt, V9.req, (x.of : Int) + 1⟩ := ⟨_, rfl⟩
       have wfV10 : EvWf V10 := by rw [eV10]; exact ⟨wfV9.o, wfV9.seq, wfV9.deps, wfV9.kind, wfV9.node, wfV9.dst, wfV9.amt, wfV9.req, (show U64r ((x.of : Int) + 1) from ⟨by omega, by omega⟩)⟩
       have smV10 : EvSm V10 := by rw [eV10]; exact ⟨smV9.amt, smV9.req⟩
       have m98 : Fx.Blk w18 g3 14 (evY V10) 54 := m97.congr (fun j hj => by rw [eV10]; exact ev_of _ _ j hj)
       have m100 := m96.stp s19 (by omega)
       have b20 := s19.below b19 b19.size (by omega)
       refine Fx.L.nil (Fx.blkN (Fx.seqN (Fx.W.seq (Fx.W.list (Fx.L.v (.agg (Fx.varr 14 (evY V10))) (x_loadA (x := evY V10) (y := evY V10) rfl h3 (by kernel_rfl) (by kernel_rfl) m98.cel (i := 0) (by omega) (by omega) (fun j _ => by rw [Nat.zero_add])) (Fx.L.storeA (x := fun zq => if zq < 1 then .int .i64 (0) else if zq < 8 then .int .u64 (0) else if zq < 9 then .int .u8 (0) else if zq < 10 then .int .u64 (0) else if zq < 12 then .int .i64 (0) else .int .u64 (0)) (y := evY V10) (by rfl) rfl rfl h2 rfl (evY_one _) (by kernel_rfl) m100 (i := 0) (by omega) fun w19 m101 s20 z17 => ?_))))))
       have m102 : Fx.Blk w19 g2 14 (evY V10) 54 := Fx.ovr_all m101
       have m104 := m98.stp s20 (by omega)
       have b21 := s20.below b20 b20.size (by omega)
       refine Fx.L.nil (Fx.seqN (Fx.W.ret (⟨.agg (Fx.varr 14 (evY V10)), Fx.retV1 Try.results70 ⟨_, h2, Fx.run_loadV m102.cel (by kernel_rfl) (by kernel_rfl)⟩, ?_⟩)))
       exact ⟨V10, wfV10, smV10, rfl, b21⟩
      ·refine Fx.L.v (.bool false) (x_eqlF rfl rfl rfl c108) (Fx.L.v (.bool false) (x_assign rfl rfl) (Fx.L.nil (Fx.seqN (Fx.W.cond (b := false) rfl (fun h => nomatch h) (fun _ => Fx.W.seq (Fx.W.list ?_))))))
       by_cases c120 : V0.kind = 5
       ·refine Fx.L.v (.bool true) (x_eqlT rfl rfl rfl c120) (Fx.L.v (.bool true) (x_assign rfl rfl) (Fx.L.nil (Fx.seqN (Fx.W.cond (b := true) rfl (fun _ => Fx.W.seq (Fx.W.list (Fx.L.v (.int .u64 (nd)) (x_move rfl h4) ?_))) (fun h => nomatch h)))))
        refine Fx.L.v (.pointer (some ⟨g3, 9, none⟩)) (x_field rfl h3 Try.underlying54 rfl (s := 1) (by kernel_rfl) rfl (by show _ + 9 = _; omega)) (Fx.L.store1 (x := evY V0) (u := .int .u64 (nd)) (by rfl) rfl rfl rfl rfl (by rfl) (by kernel_rfl) m44 (i := 9) (by omega) fun w20 m105 s21 z18 => ?_)
        obtain ⟨V11, eV11⟩ : ∃ V : EvM, V = ⟨V0.o, V0.seq, V0.deps, V0.kind, nd, V0.dst, V0.amt, V0.req, V0.of⟩ := ⟨_, rfl⟩
        have wfV11 : EvWf V11 := by rw [eV11]; exact ⟨wf0.o, wf0.seq, wf0.deps, wf0.kind, hnode, wf0.dst, wf0.amt, wf0.req, wf0.of⟩
        have smV11 : EvSm V11 := by rw [eV11]; exact ⟨sm0.amt, sm0.req⟩
        have m106 : Fx.Blk w20 g3 14 (evY V11) 54 := m105.congr (fun j hj => by rw [eV11]; exact ev_node _ _ j hj)
        have hct16 := Fx.ChT.of_stp s21 m44.ty
        have m107 := m42.chT hct16 (by decide)
        have m108 := m43.stp s21 (by omega)
        have b22 := s21.below b6 b6.size (by omega)
        refine Fx.L.nil (Fx.seqN (Fx.W.seq (Fx.W.list (Fx.L.v (.pointer (some ⟨g1, 6, none⟩)) (x_field rfl h1 Try.underlying58 rfl (s := 1) (by kernel_rfl) rfl (by show _ + 6 = _; omega)) (Fx.L.v (.int .u16 ((x.amt : Int))) (x_load1 (x := actY x) rfl rfl (by kernel_rfl) m107.cel (i := 6) (by omega) (by omega) rfl) (Fx.L.v (.int .i64 ((x.amt : Int))) (x_conv rfl rfl (by kernel_rfl) Try.underlying2 (Fx.i64e (by omega) rfl)) (Fx.L.v (.int .i64 ((x.amt : Int) + 1)) (Fx.x_add rfl rfl rfl (Fx.i64e (by omega) (by omega))) (Fx.L.v (.pointer (some ⟨g3, 11, none⟩)) (x_field rfl h3 Try.underlying54 rfl (s := 1) (by kernel_rfl) rfl (by show _ + 11 = _; omega)) (Fx.L.store1 (x := evY V11) (u := .int .i64 ((x.amt : Int) + 1)) (by rfl) rfl rfl rfl rfl (by rfl) (by kernel_rfl) m106 (i := 11) (by omega) fun w21 m109 s22 z19 => ?_)))))))))
        obtain ⟨V12, eV12⟩ : ∃ V : EvM, V = ⟨V11.o, V11.seq, V11.deps, V11.kind, V11.node, V11.dst, (x.amt : Int) + 1, V11.req, V11.of⟩ := ⟨_, rfl⟩
        have wfV12 : EvWf V12 := by rw [eV12]; exact ⟨wfV11.o, wfV11.seq, wfV11.deps, wfV11.kind, wfV11.node, wfV11.dst, (show I64r ((x.amt : Int) + 1) from ⟨by omega, by omega⟩), wfV11.req, wfV11.of⟩
        have smV12 : EvSm V12 := by rw [eV12]; exact ⟨by show (x.amt : Int) + 1 ≤ 65536; omega, smV11.req⟩
        have m110 : Fx.Blk w21 g3 14 (evY V12) 54 := m109.congr (fun j hj => by rw [eV12]; exact ev_amt _ _ j hj)
        have hct17 := Fx.ChT.of_stp s22 m106.ty
        have m111 := m107.chT hct17 (by decide)
        have m112 := m108.stp s22 (by omega)
        have b23 := s22.below b22 b22.size (by omega)
        refine Fx.L.nil (Fx.seqN ?_)
        obtain ⟨r6, er6⟩ : ∃ r, r = x.dst % 6 := ⟨_, rfl⟩
        have hr6 : r6 < 6 := by rw [er6]; exact Nat.mod_lt _ (by omega)
        refine Fx.W.list (Fx.L.v (.pointer (some ⟨g1, 5, none⟩)) (x_field rfl h1 Try.underlying58 rfl (s := 1) (by kernel_rfl) rfl (by show _ + 5 = _; omega)) (Fx.L.v (.int .u8 ((x.dst : Int))) (x_load1 (x := actY x) rfl rfl (by kernel_rfl) m111.cel (i := 5) (by omega) (by omega) rfl) (Fx.L.v (.int .i64 ((x.dst : Int))) (x_conv rfl rfl (by kernel_rfl) Try.underlying3 (Fx.i64e (by omega) rfl)) (Fx.L.v (.int .i64 ((r6 : Int))) (Fx.x_rem rfl rfl rfl (by omega) (remL er6)) (Fx.L.v (.int .i64 ((r6 : Int) + 1)) (Fx.x_add rfl rfl rfl (Fx.i64e (by omega) (by omega))) (Fx.L.v (.pointer (some ⟨g3, 10, none⟩)) (x_field rfl h3 Try.underlying54 rfl (s := 1) (by kernel_rfl) rfl (by show _ + 10 = _; omega)) (Fx.L.store1 (x := evY V12) (u := .int .i64 ((r6 : Int) + 1)) (by rfl) rfl rfl rfl rfl (by rfl) (by kernel_rfl) m110 (i := 10) (by omega) fun w22 m113 s23 z20 => ?_)))))))
        obtain ⟨V13, eV13⟩ : ∃ V : EvM, V = ⟨V12.o, V12.seq, V12.deps, V12.kind, V12.node, (r6 : Int) + 1, V12.amt, V12.req, V12.of⟩ := ⟨_, rfl⟩
        have wfV13 : EvWf V13 := by rw [eV13]; exact ⟨wfV12.o, wfV12.seq, wfV12.deps, wfV12.kind, wfV12.node, (show I64r ((r6 : Int) + 1) from ⟨by omega, by omega⟩), wfV12.amt, wfV12.req, wfV12.of⟩
        have smV13 : EvSm V13 := by rw [eV13]; exact ⟨smV12.amt, smV12.req⟩
        have m114 : Fx.Blk w22 g3 14 (evY V13) 54 := m113.congr (fun j hj => by rw [eV13]; exact ev_dst _ _ j hj)
        have m116 := m112.stp s23 (by omega)
        have b24 := s23.below b23 b23.size (by omega)
        refine Fx.L.nil (Fx.blkN (Fx.seqN (Fx.W.seq (Fx.W.list (Fx.L.v (.agg (Fx.varr 14 (evY V13))) (x_loadA (x := evY V13) (y := evY V13) rfl h3 (by kernel_rfl) (by kernel_rfl) m114.cel (i := 0) (by omega) (by omega) (fun j _ => by rw [Nat.zero_add])) (Fx.L.storeA (x := fun zq => if zq < 1 then .int .i64 (0) else if zq < 8 then .int .u64 (0) else if zq < 9 then .int .u8 (0) else if zq < 10 then .int .u64 (0) else if zq < 12 then .int .i64 (0) else .int .u64 (0)) (y := evY V13) (by rfl) rfl rfl h2 rfl (evY_one _) (by kernel_rfl) m116 (i := 0) (by omega) fun w23 m117 s24 z21 => ?_))))))
        have m118 : Fx.Blk w23 g2 14 (evY V13) 54 := Fx.ovr_all m117
        have m120 := m114.stp s24 (by omega)
        have b25 := s24.below b24 b24.size (by omega)
        refine Fx.L.nil (Fx.seqN (Fx.W.ret (⟨.agg (Fx.varr 14 (evY V13)), Fx.retV1 Try.results70 ⟨_, h2, Fx.run_loadV m118.cel (by kernel_rfl) (by kernel_rfl)⟩, ?_⟩)))
        exact ⟨V13, wfV13, smV13, rfl, b25⟩
       ·refine Fx.L.v (.bool false) (x_eqlF rfl rfl rfl c120) (Fx.L.v (.bool false) (x_assign rfl rfl) (Fx.L.nil (Fx.seqN (Fx.W.cond (b := false) rfl (fun h => nomatch h) (fun _ => Fx.W.seq (Fx.W.list ?_))))))
        by_cases c135 : V0.kind = 6
        ·refine Fx.L.v (.bool true) (x_eqlT rfl rfl rfl c135) (Fx.L.v (.bool true) (x_assign rfl rfl) (Fx.L.nil (Fx.seqN (Fx.W.cond (b := true) rfl (fun _ => ?_) (fun h => nomatch h)))))
         obtain ⟨r6, er6⟩ : ∃ r, r = x.dst % 6 := ⟨_, rfl⟩
         have hr6 : r6 < 6 := by rw [er6]; exact Nat.mod_lt _ (by omega)
         refine Fx.W.list (Fx.L.v (.pointer (some ⟨g1, 5, none⟩)) (x_field rfl h1 Try.underlying58 rfl (s := 1) (by kernel_rfl) rfl (by show _ + 5 = _; omega)) (Fx.L.v (.int .u8 ((x.dst : Int))) (x_load1 (x := actY x) rfl rfl (by kernel_rfl) m42.cel (i := 5) (by omega) (by omega) rfl) (Fx.L.v (.int .i64 ((x.dst : Int))) (x_conv rfl rfl (by kernel_rfl) Try.underlying3 (Fx.i64e (by omega) rfl)) (Fx.L.v (.int .i64 ((r6 : Int))) (Fx.x_rem rfl rfl rfl (by omega) (remL er6)) (Fx.L.v (.int .i64 ((r6 : Int) + 1)) (Fx.x_add rfl rfl rfl (Fx.i64e (by omega) (by omega))) (Fx.L.v (.pointer (some ⟨g3, 10, none⟩)) (x_field rfl h3 Try.underlying54 rfl (s := 1) (by kernel_rfl) rfl (by show _ + 10 = _; omega)) (Fx.L.store1 (x := evY V0) (u := .int .i64 ((r6 : Int) + 1)) (by rfl) rfl rfl rfl rfl (by rfl) (by kernel_rfl) m44 (i := 10) (by omega) fun w24 m121 s25 z22 => ?_)))))))
         obtain ⟨V14, eV14⟩ : ∃ V : EvM, V = ⟨V0.o, V0.seq, V0.deps, V0.kind, V0.node, (r6 : Int) + 1, V0.amt, V0.req, V0.of⟩ := ⟨_, rfl⟩
         have wfV14 : EvWf V14 := by rw [eV14]; exact ⟨wf0.o, wf0.seq, wf0.deps, wf0.kind, wf0.node, (show I64r ((r6 : Int) + 1) from ⟨by omega, by omega⟩), wf0.amt, wf0.req, wf0.of⟩
         have smV14 : EvSm V14 := by rw [eV14]; exact ⟨sm0.amt, sm0.req⟩
         have m122 : Fx.Blk w24 g3 14 (evY V14) 54 := m121.congr (fun j hj => by rw [eV14]; exact ev_dst _ _ j hj)
         have m124 := m43.stp s25 (by omega)
         have b26 := s25.below b6 b6.size (by omega)
         refine Fx.L.nil (Fx.blkN (Fx.seqN (Fx.W.seq (Fx.W.list (Fx.L.v (.agg (Fx.varr 14 (evY V14))) (x_loadA (x := evY V14) (y := evY V14) rfl h3 (by kernel_rfl) (by kernel_rfl) m122.cel (i := 0) (by omega) (by omega) (fun j _ => by rw [Nat.zero_add])) (Fx.L.storeA (x := fun zq => if zq < 1 then .int .i64 (0) else if zq < 8 then .int .u64 (0) else if zq < 9 then .int .u8 (0) else if zq < 10 then .int .u64 (0) else if zq < 12 then .int .i64 (0) else .int .u64 (0)) (y := evY V14) (by rfl) rfl rfl h2 rfl (evY_one _) (by kernel_rfl) m124 (i := 0) (by omega) fun w25 m125 s26 z23 => ?_))))))
         have m126 : Fx.Blk w25 g2 14 (evY V14) 54 := Fx.ovr_all m125
         have m128 := m122.stp s26 (by omega)
         have b27 := s26.below b26 b26.size (by omega)
         refine Fx.L.nil (Fx.seqN (Fx.W.ret (⟨.agg (Fx.varr 14 (evY V14)), Fx.retV1 Try.results70 ⟨_, h2, Fx.run_loadV m126.cel (by kernel_rfl) (by kernel_rfl)⟩, ?_⟩)))
         exact ⟨V14, wfV14, smV14, rfl, b27⟩
        ·refine Fx.L.v (.bool false) (x_eqlF rfl rfl rfl c135) (Fx.L.v (.bool false) (x_assign rfl rfl) (Fx.L.nil (Fx.seqN (Fx.W.cond (b := false) rfl (fun h => nomatch h) (fun _ => Fx.W.skip (Fx.blkN (Fx.seqN (Fx.W.seq (Fx.W.list (Fx.L.v (.agg (Fx.varr 14 (evY V0))) (x_loadA (x := evY V0) (y := evY V0) rfl h3 (by kernel_rfl) (by kernel_rfl) m44.cel (i := 0) (by omega) (by omega) (fun j _ => by rw [Nat.zero_add])) (Fx.L.storeA (x := fun zq => if zq < 1 then .int .i64 (0) else if zq < 8 then .int .u64 (0) else if zq < 9 then .int .u8 (0) else if zq < 10 then .int .u64 (0) else if zq < 12 then .int .i64 (0) else .int .u64 (0)) (y := evY V0) (by rfl) rfl rfl h2 rfl (evY_one _) (by kernel_rfl) m43 (i := 0) (by omega) fun w26 m129 s27 z24 => ?_)))))))))))
         have m130 : Fx.Blk w26 g2 14 (evY V0) 54 := Fx.ovr_all m129
         have m132 := m44.stp s27 (by omega)
         have b28 := s27.below b6 b6.size (by omega)
         refine Fx.L.nil (Fx.seqN (Fx.W.ret (⟨.agg (Fx.varr 14 (evY V0)), Fx.retV1 Try.results70 ⟨_, h2, Fx.run_loadV m130.cel (by kernel_rfl) (by kernel_rfl)⟩, ?_⟩)))
         exact ⟨V0, wf0, sm0, rfl, b28⟩
theorem Rt.apply_may {L : LdC} {v : EvM} (h : applyE L v = 0) : mayE v = true := by
  unfold applyE at h
  split at h; · cases h
  rename_i h1; simpa using h1
theorem WldO.mono {w : World} {B p T T' : Nat} {M : WM} (h : WldO w B p M T) (hT : T ≤ T') : WldO w B p M T' := { h with inv := fun i hi => (h.inv i hi).mono hT }
set_option maxRecDepth 20000 in
set_option maxHeartbeats 2000000 in
theorem l_doM (M : WM) (B p T : Nat) (x : ActM) (w : World) (hW : WldO w B p M T) (hB : B ≤ w.heap.size) (hx : ActOk x) (han : M.an ≤ 60) (hT : T ≤ 890000) :
    Calls Try.prog 23 #[.pointer (some ⟨p, 0, none⟩), .agg (Fx.varr 9 (actY x))] w fun e w' => (∃ v, e = .returned v) ∧ ∃ M', WldO w' B p M' (T + 3660) ∧ M'.n = M.n ∧ M'.an ≤ M.an + 1 ∧ (x.meet = true → M'.an = M.an) ∧ Below B w w' := by
 have hWc := hW.c
 have hWl := hW.l
 have hWa := hW.a
 have hWg := hW.g
 have hn1 := hW.n1
 have hn6 := hW.n6
 have hpB := hW.pB
 have lpp : p < w.heap.size := hWc.lt
 have hxw := hx.who
 have hxo := hx.other
 have hxk := hx.kind
 have hxn := hx.node
 have hxt := hx.dst
 have hxa := hx.amt
 have hxr := hx.req
 have hxf := hx.of
 refine Fx.enter Try.func23 rfl (n := 94) rfl (by rfl) ?_
 refine Fx.W.seq (Fx.W.list (Fx.L.box (m := 9) (y := actY x) (by rfl) rfl rfl (Fx.cells_agg _ _) rfl fun g1 w1 eg1 m1 s1 z1 => ?_))
 have m2 := hWc.stp s1 (Nat.ne_of_lt (hWc.lt))
 have m3 := hWl.stp s1 (hWl.notNew (Nat.le_refl _))
 have m4 := hWa.stp s1 (hWa.notNew (Nat.le_refl _))
 have m5 := hWg.up s1.old
 have m6 := hW.up s1.old
 have b1 := s1.below (Below.refl B w) (Nat.le_trans hB (Below.refl B w).size) (Nat.le_trans hB (Below.refl B w).size)
 have lg1 : w.heap.size ≤ g1 := by rw [eg1]; exact (Below.refl B w).size
 have ng1m2 : p ≠ g1 := by rw [eg1]; exact Nat.ne_of_lt (hWc.lt)
 have tg1 : g1 < w1.heap.size := m1.lt
 clear eg1
 refine Fx.L.new (m := 14) (y := fun zq => if zq < 1 then .int .i64 (0) else if zq < 8 then .int .u64 (0) else if zq < 9 then .int .u8 (0) else if zq < 10 then .int .u64 (0) else if zq < 12 then .int .i64 (0) else .int .u64 (0)) (by rfl) rfl (by kernel_rfl) rfl fun g2 w2 eg2 m7 s2 z2 => ?_
 have m8 := m2.stp s2 (Nat.ne_of_lt (m2.lt))
 have m9 := m3.stp s2 (m3.notNew (Nat.le_refl _))
 have m10 := m4.stp s2 (m4.notNew (Nat.le_refl _))
 have m11 := m5.up s2.old
 have m12 := m6.up s2.old
 have m13 := m1.stp s2 (Nat.ne_of_lt (m1.lt))
 have b2 := s2.below b1 (Nat.le_trans hB b1.size) (Nat.le_trans hB b1.size)
 have lg2 : w.heap.size ≤ g2 := by rw [eg2]; exact b1.size
 have ng2m8 : p ≠ g2 := by rw [eg2]; exact Nat.ne_of_lt (m2.lt)
 have ng2m10 : (.slice M.aa (M.an) (M.ac) : Value).ownBlock ≠ some g2 := by rw [eg2]; exact m4.notNew (Nat.le_refl _)
 have ng2m13 : g1 ≠ g2 := by rw [eg2]; exact Nat.ne_of_lt (m1.lt)
 have tg2 : g2 < w2.heap.size := m7.lt
 clear eg2
 refine Fx.L.nil (Fx.seqN (Fx.W.seq ?_))
 obtain ⟨o, eo⟩ : ∃ r, r = x.who % M.n := ⟨_, rfl⟩
 have ho : o < M.n := by rw [eo]; exact Nat.mod_lt _ (by omega)
 -- region 1 draws
 refine Fx.W.quiet (fun v1 => ∃ q, v1 = World.drewN w2 q) (by kernel_rfl) (by kernel_rfl) ⟨1, rfl⟩ ?_
 refine Fx.Qt.v (.pointer (some ⟨g1, 0, none⟩)) (fun v1 hv1 => x_field rfl rfl Try.underlying58 rfl (s := 1) (by kernel_rfl) rfl rfl) (Fx.Qt.v (.int .u8 ((x.who : Int))) (fun v1 hv1 => x_load1 (x := actY x) rfl rfl (by kernel_rfl) (by obtain ⟨qd, rfl⟩ := hv1; exact m13.cel) (i := 0) (by omega) (by omega) rfl) (Fx.Qt.v (.int .i64 ((x.who : Int))) (fun v1 hv1 => x_conv rfl rfl (by kernel_rfl) Try.underlying3 (Fx.i64e (by omega) rfl)) (Fx.Qt.v (.pointer (some ⟨p, 0, none⟩)) (fun v1 hv1 => x_move rfl rfl) (Fx.Qt.v (.pointer (some ⟨p, 0, none⟩)) (fun v1 hv1 => x_nil rfl rfl) (Fx.Qt.v (.pointer (some ⟨p, 0, none⟩)) (fun v1 hv1 => x_field rfl rfl Try.underlying63 rfl (s := 1) (by kernel_rfl) rfl rfl) (Fx.Qt.v (.slice M.la (M.n) (M.lc)) (fun v1 hv1 => x_load1 (x := wdY (.slice M.la (M.n) (M.lc)) (.slice M.aa (M.an) (M.ac))) rfl rfl (by kernel_rfl) (by obtain ⟨qd, rfl⟩ := hv1; exact m8.cel) (i := 0) (by omega) (by omega) rfl) (Fx.Qt.v (.int .i64 ((M.n : Int))) (fun v1 hv1 => x_len rfl rfl rfl (by kernel_rfl)) (Fx.Qt.v (.int .i64 ((o : Int))) (fun v1 hv1 => Fx.x_rem rfl rfl rfl (by omega) (remL eo)) (Fx.Qt.v (.int .i64 ((o : Int))) (fun v1 hv1 => x_assign rfl rfl) (Fx.Qt.nil ?_))))))))))
 rintro _ ⟨qd, rfl⟩
 obtain ⟨wq1, ewq1⟩ : ∃ v1, v1 = World.drewN w2 qd := ⟨_, rfl⟩
 rw [← ewq1]
 have s3 : Fx.Stp w2.heap.size w2 wq1 := by rw [ewq1]; exact Fx.Stp.of_below (bdrN w2 qd)
 have m14 := m8.stp s3 (Nat.ne_of_lt (m8.lt))
 have m15 := m9.stp s3 (m9.notNew (Nat.le_refl _))
 have m16 := m10.stp s3 (m10.notNew (Nat.le_refl _))
 have m17 := m11.up s3.old
 have m18 := m12.up s3.old
 have m19 := m13.stp s3 (Nat.ne_of_lt (m13.lt))
 have m20 := m7.stp s3 (Nat.ne_of_lt (m7.lt))
 have b3 := s3.below b2 (Nat.le_trans hB b2.size) (Nat.le_trans hB b2.size)
 clear ewq1
 refine Fx.seqN (Fx.W.seq (Fx.W.seq (Fx.W.list (Fx.L.v (.pointer (some ⟨g1, 1, none⟩)) (x_field rfl rfl Try.underlying58 rfl (s := 1) (by kernel_rfl) rfl (by show _ + 1 = _; omega)) ?_))))
 by_cases c19 : x.meet = true
 ·refine Fx.L.v (.bool true) (x_load1 (x := actY x) rfl rfl (by kernel_rfl) m19.cel (i := 1) (by omega) (by omega) ((show _ = Value.bool x.meet from rfl).trans (congrArg Value.bool c19))) (Fx.L.nil (Fx.seqN (Fx.W.cond (b := true) rfl (fun _ => Fx.W.seq ?_) (fun h => nomatch h))))
  obtain ⟨r48, er48⟩ : ∃ r, r = x.other % M.n := ⟨_, rfl⟩
  have hr48 : r48 < M.n := by rw [er48]; exact Nat.mod_lt _ (by omega)
  have hLo1 := m17 r48 (by omega)
  have hLo1c := hLo1.c
  have hLo2 := m17 o (by omega)
  -- region 3 draws
  refine Fx.W.reord [0, 1, 2, 4, 5, 6, 7, 9, 12, 13, 14, 16, 17, 18, 20, 23, 24, 25, 3, 8, 10, 11, 15, 19, 21, 22, 26, 27, 28, 29, 30, 31, 32, 33, 34, 35, 36, 37] [0, 0, 0, 1, 0, 0, 0, 0, 4, 0, 0, 4, 0, 0, 0, 4, 0, 0, 0, 4, 0, 4, 0, 0, 0, 0, 4, 0, 0, 0, 4, 0, 0, 0, 4, 2, 0, 3] Fx.Mk Fx.Mk.refl Fx.Mk.trans (certs := [(37, 3, [3]), (35, 8, [11, 10, 8]), (37, 8, [8]), (35, 11, [11]), (37, 11, [11]), (35, 15, [15]), (37, 15, [15]), (35, 19, [34, 33, 32, 31, 30, 29, 19]), (37, 19, [19]), (35, 21, [34, 33, 32, 31, 30, 29, 28, 22, 21]), (37, 21, [21]), (35, 26, [34, 33, 32, 31, 30, 29, 28, 27, 26]), (37, 26, [26]), (35, 30, [34, 33, 32, 31, 30]), (37, 30, [30]), (35, 34, [34]), (37, 34, [34]), (36, 35, [35]), (37, 35, [35])]) (by kernel_rfl) (by kernel_rfl) (by kernel_rfl) (by kernel_rfl) (by kernel_rfl) fun wt1 hbwt1 hzwt1 => ?_
  have s4 : Fx.Stp wq1.heap.size wq1 wt1 := Fx.Stp.of_below hbwt1
  have m21 := m14.stp s4 (Nat.ne_of_lt (m14.lt))
  have m22 := m15.stp s4 (m15.notNew (Nat.le_refl _))
  have m23 := m16.stp s4 (m16.notNew (Nat.le_refl _))
  have m24 := m17.up s4.old
  have m25 := m19.stp s4 (Nat.ne_of_lt (m19.lt))
  have m26 := m20.stp s4 (Nat.ne_of_lt (m20.lt))
  have m27 := hLo1c.stp s4 (Nat.ne_of_lt (hLo1c.lt))
  have m28 := hLo2.up s4.old
  have b4 := s4.below b3 (Nat.le_trans hB b3.size) (Nat.le_trans hB b3.size)
  refine Fx.R.p (.pointer (some ⟨p, 0, none⟩)) (fun v1 => x_move rfl rfl) (Fx.R.p (.pointer (some ⟨p, 0, none⟩)) (fun v1 => x_nil rfl rfl) (Fx.R.p (.pointer (some ⟨p, 0, none⟩)) (fun v1 => x_field rfl rfl Try.underlying63 rfl (s := 1) (by kernel_rfl) rfl rfl) (Fx.R.p (.int .i64 ((o : Int))) (fun v1 => x_move rfl rfl) (Fx.R.p (.pointer (some ⟨p, 0, none⟩)) (fun v1 => x_move rfl rfl) (Fx.R.p (.pointer (some ⟨p, 0, none⟩)) (fun v1 => x_nil rfl rfl) (Fx.R.p (.pointer (some ⟨p, 0, none⟩)) (fun v1 => x_field rfl rfl Try.underlying63 rfl (s := 1) (by kernel_rfl) rfl rfl) (Fx.R.p (.int .i64 ((o : Int))) (fun v1 => x_move rfl rfl) (Fx.R.p (.pointer (some ⟨p, 0, none⟩)) (fun v1 => x_move rfl rfl) (Fx.R.p (.pointer (some ⟨p, 0, none⟩)) (fun v1 => x_nil rfl rfl) (Fx.R.p (.pointer (some ⟨p, 1, none⟩)) (fun v1 => x_field rfl rfl Try.underlying63 rfl (s := 1) (by kernel_rfl) rfl (by show _ + 1 = _; omega)) (Fx.R.p (.pointer (some ⟨p, 0, none⟩)) (fun v1 => x_move rfl rfl) (Fx.R.p (.pointer (some ⟨p, 0, none⟩)) (fun v1 => x_nil rfl rfl) (Fx.R.p (.pointer (some ⟨p, 0, none⟩)) (fun v1 => x_field rfl rfl Try.underlying63 rfl (s := 1) (by kernel_rfl) rfl rfl) (Fx.R.p (.pointer (some ⟨g1, 2, none⟩)) (fun v1 => x_field rfl rfl Try.underlying58 rfl (s := 1) (by kernel_rfl) rfl (by show _ + 2 = _; omega)) (Fx.R.p (.pointer (some ⟨p, 0, none⟩)) (fun v1 => x_move rfl rfl) (Fx.R.p (.pointer (some ⟨p, 0, none⟩)) (fun v1 => x_nil rfl rfl) (Fx.R.p (.pointer (some ⟨p, 0, none⟩)) (fun v1 => x_field rfl rfl Try.underlying63 rfl (s := 1) (by kernel_rfl) rfl rfl) (Fx.R.read (v := .slice M.la (M.n) (M.lc)) (by rfl) (by rfl) (Fx.Mk.refl _) (fun v1 hv1 => x_load1 (x := wdY (.slice M.la (M.n) (M.lc)) (.slice M.aa (M.an) (M.ac))) rfl rfl (by kernel_rfl) (m21.cel.below hv1 (by have := m21.lt; omega)) (i := 0) (by omega) (by omega) rfl) ?_))))))))))))))))))
  refine Fx.R.s (.slice M.la (M.n) (M.lc)) (x_load1 (x := wdY (.slice M.la (M.n) (M.lc)) (.slice M.aa (M.an) (M.ac))) rfl rfl (by kernel_rfl) m21.cel (i := 0) (by omega) (by omega) rfl) ?_
  obtain ⟨gq1, eq1⟩ := m22.addr (by omega)
  have m29 : Fx.Own wt1 B 59 1 (.slice (some ⟨gq1, 0, none⟩) M.n M.lc) M.n (ptX M.pl) := m22.congV (congrArg (fun q => Value.slice q M.n M.lc) eq1)
  refine Fx.R.p (.pointer (some ⟨gq1, o, none⟩)) (fun v1 => x_indexS rfl (rfl.trans (congrArg (fun q => Value.slice q (M.n) (M.lc)) eq1)) rfl Try.underlying60 (s := 1) (by kernel_rfl) (by omega) (by omega) (by omega)) (Fx.R.s (.pointer (some ⟨(M.pl o), 0, none⟩)) (x_load1 (x := ptX M.pl) rfl rfl (by kernel_rfl) m29.cel (i := o) (by omega) (by omega) rfl) ?_)
  refine Fx.R.s (.slice M.aa (M.an) (M.ac)) (x_load1 (x := wdY (.slice M.la (M.n) (M.lc)) (.slice M.aa (M.an) (M.ac))) rfl rfl (by kernel_rfl) m21.cel (i := 1) (by omega) (by omega) rfl) ?_
  refine Fx.R.s (.slice M.la (M.n) (M.lc)) (x_load1 (x := wdY (.slice M.la (M.n) (M.lc)) (.slice M.aa (M.an) (M.ac))) rfl rfl (by kernel_rfl) m21.cel (i := 0) (by omega) (by omega) rfl) ?_
  refine Fx.R.s (.int .u8 ((x.other : Int))) (x_load1 (x := actY x) rfl rfl (by kernel_rfl) m25.cel (i := 2) (by omega) (by omega) rfl) ?_
  refine Fx.R.p (.int .i64 ((x.other : Int))) (fun v1 => x_conv rfl rfl (by kernel_rfl) Try.underlying3 (Fx.i64e (by omega) rfl)) (Fx.R.s (.slice M.la (M.n) (M.lc)) (x_load1 (x := wdY (.slice M.la (M.n) (M.lc)) (.slice M.aa (M.an) (M.ac))) rfl rfl (by kernel_rfl) m21.cel (i := 0) (by omega) (by omega) rfl) ?_)
  refine Fx.R.p (.int .i64 ((M.n : Int))) (fun v1 => x_len rfl rfl rfl (by kernel_rfl)) (Fx.R.p (.int .i64 ((r48 : Int))) (fun v1 => Fx.x_rem rfl rfl rfl (by omega) (remL er48)) (Fx.R.p (.pointer (some ⟨gq1, r48, none⟩)) (fun v1 => x_indexS rfl (rfl.trans (congrArg (fun q => Value.slice q (M.n) (M.lc)) eq1)) rfl Try.underlying60 (s := 1) (by kernel_rfl) (by omega) (by omega) (by omega)) (Fx.R.s (.pointer (some ⟨(M.pl r48), 0, none⟩)) (x_load1 (x := ptX M.pl) rfl rfl (by kernel_rfl) m29.cel (i := r48) (by omega) (by omega) rfl) ?_)))
  refine Fx.R.p (.pointer (some ⟨(M.pl r48), 0, none⟩)) (fun v1 => x_nil rfl rfl) (Fx.R.p (.pointer (some ⟨(M.pl r48), 0, none⟩)) (fun v1 => x_field rfl rfl Try.underlying71 rfl (s := 20) (by kernel_rfl) rfl rfl) (Fx.R.p (.pointer (some ⟨(M.pl r48), 12, none⟩)) (fun v1 => x_field rfl rfl Try.underlying43 rfl (s := 6) (by kernel_rfl) rfl (by show _ + 12 = _; omega)) (Fx.R.s (.agg (Fx.varr 6 (Fx.rv .u64 ((M.ml r48).s.known)))) (x_loadA (x := ldY (M.ml r48)) (y := Fx.rv .u64 ((M.ml r48).s.known)) rfl rfl (by kernel_rfl) (by kernel_rfl) m27.cel (i := 12) (by omega) (by omega) (fun j hj => ldY_st _ (by omega) (stY_known _ hj (by omega)))) ?_)))
  refine Fx.R.make (by rfl) ?_
  refine Fx.L.call (by rfl) (Fx.r_call (args := [.pointer (some ⟨(M.pl o), 0, none⟩), .slice M.aa (M.an) (M.ac), .agg (Fx.varr 6 (Fx.rv .u64 ((M.ml r48).s.known)))]) rfl rfl Try.func69 rfl rfl) rfl ((l_learn (M.ml o) B (M.pl o) T M.aa M.an M.ac M.ev ((M.ml r48).s.known) _ m28 (hW.inv o (by omega)) m23.arr hW.wf hW.may hW.sm han hT).mono ?_)
  rintro e9 w3 ⟨p3, m3, he, _, hI3, hL1, hb1⟩
  refine ⟨.pointer (some ⟨p3, 0, none⟩), he, ?_⟩
  clear he
  have s5 := Fx.Stp.of_below hb1
  have m30 := m21.stp s5 (Nat.ne_of_lt (m21.lt))
  have m31 := m23.stp s5 (m23.notNew (Nat.le_refl _))
  have m32 := m24.up s5.old
  have m34 := m26.stp s5 (Nat.ne_of_lt (m26.lt))
  have m36 := m29.stpB s5 (Nat.ne_of_lt (m29.lt))
  have b5 := s5.below b4 (Nat.le_trans hB b4.size) (Nat.le_trans hB b4.size)
  refine Fx.L.nil ⟨s5.old, ?_⟩
  refine Fx.R.p (.pointer (some ⟨gq1, o, none⟩)) (fun v1 => x_indexS rfl (rfl.trans (congrArg (fun q => Value.slice q (M.n) (M.lc)) eq1)) rfl Try.underlying60 (s := 1) (by kernel_rfl) (by omega) (by omega) (by omega)) (Fx.R.eff (by rfl) ?_)
  refine Fx.L.own1 (x := ptX M.pl) (u := .pointer (some ⟨p3, 0, none⟩)) (by rfl) rfl rfl rfl rfl (by rfl) (by kernel_rfl) m36 (i := o) (by omega) fun w4 m37 s6 z3 => ?_
  have hct1 := Fx.ChT.of_stp s6 m36.tyB
  have m38 := m30.chT hct1 (by decide)
  have m39 := m31.chT hct1 (by decide)
  have m40 := m32.chT hct1 (by decide)
  have m42 := m34.chT hct1 (by decide)
  have m44 := hL1.chT hct1 (by decide)
  have b6 := s6.below b5 (Nat.le_trans hB b5.size) m36.blk.1
  have m45 : Fx.Own w4 B 59 1 (.slice (some ⟨gq1, 0, none⟩) M.n M.lc) M.n (ptX (updA M.pl o p3)) := m37.congr (fun jq _ => congrFun pt_put jq)
  refine Fx.L.nil (Fx.R.nil (Fx.seqN (Fx.W.seq (Fx.W.list (Fx.L.v (.agg (Fx.varr 14 (fun zq => if zq < 1 then .int .i64 (0) else if zq < 8 then .int .u64 (0) else if zq < 9 then .int .u8 (0) else if zq < 10 then .int .u64 (0) else if zq < 12 then .int .i64 (0) else .int .u64 (0)))) (x_build (vs := []) (places := #[(0, 1), (1, 1), (2, 6), (8, 1), (9, 1), (10, 1), (11, 1), (12, 1), (13, 1)]) (m := 14) (x := fun zq => if zq < 1 then .int .i64 (0) else if zq < 8 then .int .u64 (0) else if zq < 9 then .int .u8 (0) else if zq < 10 then .int .u64 (0) else if zq < 12 then .int .i64 (0) else .int .u64 (0)) rfl rfl Try.underlying54 (by kernel_rfl) (by kernel_rfl) (by rfl)) (Fx.L.storeA (x := fun zq => if zq < 1 then .int .i64 (0) else if zq < 8 then .int .u64 (0) else if zq < 9 then .int .u8 (0) else if zq < 10 then .int .u64 (0) else if zq < 12 then .int .i64 (0) else .int .u64 (0)) (y := fun zq => if zq < 1 then .int .i64 (0) else if zq < 8 then .int .u64 (0) else if zq < 9 then .int .u8 (0) else if zq < 10 then .int .u64 (0) else if zq < 12 then .int .i64 (0) else .int .u64 (0)) (by rfl) rfl rfl rfl rfl (fun jq _ => by show ((fun zq => if zq < 1 then .int .i64 (0) else if zq < 8 then .int .u64 (0) else if zq < 9 then .int .u8 (0) else if zq < 10 then .int .u64 (0) else if zq < 12 then .int .i64 (0) else .int .u64 (0) : Nat → Value) jq).oneCell' = true; simp only []; repeat (first | rfl | split)) (by kernel_rfl) m42 (i := 0) (by omega) fun w5 m46 s7 z4 => ?_))))))
  have m47 : Fx.Blk w5 g2 14 (fun zq => if zq < 1 then .int .i64 (0) else if zq < 8 then .int .u64 (0) else if zq < 9 then .int .u8 (0) else if zq < 10 then .int .u64 (0) else if zq < 12 then .int .i64 (0) else .int .u64 (0)) 54 := Fx.ovr_all m46
  have hct2 := Fx.ChT.of_stp s7 m42.ty
  have m48 := m38.chT hct2 (by decide)
  have m49 := m39.stp s7 ng2m10
  have m50 := m40.chT hct2 (by decide)
  have m53 := m44.chT hct2 (by decide)
  have m54 := m45.chT hct2 (by decide)
  have b7 := s7.below b6 (Nat.le_trans hB b6.size) (by omega)
  refine Fx.L.nil (Fx.seqN (Fx.W.ret (Fx.seqR (⟨.agg (Fx.varr 14 (fun zq => if zq < 1 then .int .i64 (0) else if zq < 8 then .int .u64 (0) else if zq < 9 then .int .u8 (0) else if zq < 10 then .int .u64 (0) else if zq < 12 then .int .i64 (0) else .int .u64 (0))), Fx.retV1 Try.results23 ⟨_, rfl, Fx.run_loadV m47.cel (by kernel_rfl) (by kernel_rfl)⟩, ?_⟩))))
  have m55 : Fx.Own w5 B 59 1 (.slice M.la (M.n) (M.lc)) M.n (ptX (updA M.pl o p3)) := m54.congV (congrArg (fun q => Value.slice q M.n M.lc) eq1.symm)
  exact ⟨⟨_, rfl⟩, { M with pl := updA M.pl o p3, ml := updA M.ml o m3 }, { c := m48, l := m55, a := m49, g := m50.put m53, inv := (fun i hi => by show Inv (updA M.ml o m3 i).core _; unfold updA; split; exact hI3; exact (hW.inv i hi).mono (by omega)), wf := hW.wf, may := hW.may, sm := hW.sm, pB := hpB, n1 := hn1, n6 := hn6 }, rfl, (by show M.an ≤ M.an + 1; omega), (fun _ => rfl), b7⟩
 ·rw [Bool.not_eq_true] at c19
  refine Fx.L.v (.bool false) (x_load1 (x := actY x) rfl rfl (by kernel_rfl) m19.cel (i := 1) (by omega) (by omega) ((show _ = Value.bool x.meet from rfl).trans (congrArg Value.bool c19))) (Fx.L.nil (Fx.seqN (Fx.W.cond (b := false) rfl (fun h => nomatch h) (fun _ => Fx.W.skip (Fx.seqN (Fx.W.seq (Fx.W.list (Fx.L.v (.pointer (some ⟨p, 0, none⟩)) (x_move rfl rfl) (Fx.L.v (.agg (Fx.varr 9 (actY x))) (x_loadA (x := actY x) (y := actY x) rfl rfl (by kernel_rfl) (by kernel_rfl) m19.cel (i := 0) (by omega) (by omega) (fun j _ => by rw [Nat.zero_add])) (Fx.L.call (by rfl) (Fx.r_call (args := [.pointer (some ⟨p, 0, none⟩), .agg (Fx.varr 9 (actY x))]) rfl rfl Try.func70 rfl rfl) rfl ((l_event M B p T x _ m18 hx).mono ?_)))))))))))
  rintro e9 w6 ⟨V, hV, hVs, he, hb2⟩
  refine ⟨_, he, ?_⟩
  clear he
  have s8 := Fx.Stp.of_below hb2
  have m56 := m14.stp s8 (Nat.ne_of_lt (m14.lt))
  have m57 := m15.stp s8 (m15.notNew (Nat.le_refl _))
  have m58 := m16.stp s8 (m16.notNew (Nat.le_refl _))
  have m59 := m17.up s8.old
  have m61 := m19.stp s8 (Nat.ne_of_lt (m19.lt))
  have m62 := m20.stp s8 (Nat.ne_of_lt (m20.lt))
  have b8 := s8.below b3 (Nat.le_trans hB b3.size) (Nat.le_trans hB b3.size)
  refine Fx.L.new (m := 14) (y := fun zq => if zq < 1 then .int .i64 (0) else if zq < 8 then .int .u64 (0) else if zq < 9 then .int .u8 (0) else if zq < 10 then .int .u64 (0) else if zq < 12 then .int .i64 (0) else .int .u64 (0)) (by rfl) rfl (by kernel_rfl) rfl fun g3 w7 eg3 m63 s9 z5 => ?_
  have m64 := m56.stp s9 (Nat.ne_of_lt (m56.lt))
  have m65 := m57.stp s9 (m57.notNew (Nat.le_refl _))
  have m66 := m58.stp s9 (m58.notNew (Nat.le_refl _))
  have m67 := m59.up s9.old
  have m68 := m61.stp s9 (Nat.ne_of_lt (m61.lt))
  have m69 := m62.stp s9 (Nat.ne_of_lt (m62.lt))
  have b9 := s9.below b8 (Nat.le_trans hB b8.size) (Nat.le_trans hB b8.size)
  have lg3 : w.heap.size ≤ g3 := by rw [eg3]; exact b8.size
  have ng3m64 : p ≠ g3 := by rw [eg3]; exact Nat.ne_of_lt (m56.lt)
  have ng3m66 : (.slice M.aa (M.an) (M.ac) : Value).ownBlock ≠ some g3 := by rw [eg3]; exact m58.notNew (Nat.le_refl _)
  have ng3m68 : g1 ≠ g3 := by rw [eg3]; exact Nat.ne_of_lt (m61.lt)
  have ng3m69 : g2 ≠ g3 := by rw [eg3]; exact Nat.ne_of_lt (m62.lt)
  have tg3 : g3 < w7.heap.size := m63.lt
  clear eg3
  refine Fx.L.storeA (x := fun zq => if zq < 1 then .int .i64 (0) else if zq < 8 then .int .u64 (0) else if zq < 9 then .int .u8 (0) else if zq < 10 then .int .u64 (0) else if zq < 12 then .int .i64 (0) else .int .u64 (0)) (y := evY V) (by rfl) rfl rfl rfl rfl (evY_one _) (by kernel_rfl) m63 (i := 0) (by omega) fun w8 m70 s10 z6 => ?_
  have m71 : Fx.Blk w8 g3 14 (evY V) 54 := Fx.ovr_all m70
  have hct3 := Fx.ChT.of_stp s10 m63.ty
  have m72 := m64.chT hct3 (by decide)
  have m73 := m65.chT hct3 (by decide)
  have m74 := m66.stp s10 ng3m66
  have m75 := m67.chT hct3 (by decide)
  have m76 := m68.chT hct3 (by decide)
  have m77 := m69.stp s10 (by omega)
  have b10 := s10.below b9 (Nat.le_trans hB b9.size) (by omega)
  refine Fx.L.nil (Fx.seqN (Fx.W.seq ?_))
  have hLo3 := m75 o (by omega)
  -- region 6 draws
  refine Fx.W.reord [0, 1, 2, 4, 3, 5, 6, 7, 8, 9, 10, 11, 12, 13] [0, 0, 0, 4, 0, 0, 4, 4, 3, 0, 0, 0, 0, 0] Fx.Mk Fx.Mk.refl Fx.Mk.trans (certs := [(8, 3, [6, 5, 3]), (8, 6, [6]), (8, 7, [7]), (9, 8, [8]), (10, 8, [9, 8]), (11, 8, [9, 8]), (12, 8, [8]), (13, 8, [8])]) (by kernel_rfl) (by kernel_rfl) (by kernel_rfl) (by kernel_rfl) (by kernel_rfl) fun wt2 hbwt2 hzwt2 => ?_
  have s11 : Fx.Stp w8.heap.size w8 wt2 := Fx.Stp.of_below hbwt2
  have m78 := m72.stp s11 (Nat.ne_of_lt (m72.lt))
  have m79 := m73.stp s11 (m73.notNew (Nat.le_refl _))
  have m80 := m74.stp s11 (m74.notNew (Nat.le_refl _))
  have m81 := m75.up s11.old
  have m82 := m76.stp s11 (Nat.ne_of_lt (m76.lt))
  have m83 := m77.stp s11 (Nat.ne_of_lt (m77.lt))
  have m84 := m71.stp s11 (Nat.ne_of_lt (m71.lt))
  have m85 := hLo3.up s11.old
  have b11 := s11.below b10 (Nat.le_trans hB b10.size) (Nat.le_trans hB b10.size)
  refine Fx.R.p (.pointer (some ⟨p, 0, none⟩)) (fun v1 => x_move rfl rfl) (Fx.R.p (.pointer (some ⟨p, 0, none⟩)) (fun v1 => x_nil rfl rfl) (Fx.R.p (.pointer (some ⟨p, 0, none⟩)) (fun v1 => x_field rfl rfl Try.underlying63 rfl (s := 1) (by kernel_rfl) rfl rfl) (Fx.R.p (.int .i64 ((o : Int))) (fun v1 => x_move rfl rfl) (Fx.R.s (.slice M.la (M.n) (M.lc)) (x_load1 (x := wdY (.slice M.la (M.n) (M.lc)) (.slice M.aa (M.an) (M.ac))) rfl rfl (by kernel_rfl) m78.cel (i := 0) (by omega) (by omega) rfl) ?_))))
  obtain ⟨gq2, eq2⟩ := m79.addr (by omega)
  have m86 : Fx.Own wt2 B 59 1 (.slice (some ⟨gq2, 0, none⟩) M.n M.lc) M.n (ptX M.pl) := m79.congV (congrArg (fun q => Value.slice q M.n M.lc) eq2)
  refine Fx.R.p (.pointer (some ⟨gq2, o, none⟩)) (fun v1 => x_indexS rfl (rfl.trans (congrArg (fun q => Value.slice q (M.n) (M.lc)) eq2)) rfl Try.underlying60 (s := 1) (by kernel_rfl) (by omega) (by omega) (by omega)) (Fx.R.s (.pointer (some ⟨(M.pl o), 0, none⟩)) (x_load1 (x := ptX M.pl) rfl rfl (by kernel_rfl) m86.cel (i := o) (by omega) (by omega) rfl) ?_)
  refine Fx.R.s (.agg (Fx.varr 14 (evY V))) (x_loadA (x := evY V) (y := evY V) rfl rfl (by kernel_rfl) (by kernel_rfl) m84.cel (i := 0) (by omega) (by omega) (fun j _ => by rw [Nat.zero_add])) ?_
  refine Fx.R.eff (by rfl) ?_
  refine Fx.L.call (by rfl) (Fx.r_call (args := [.pointer (some ⟨(M.pl o), 0, none⟩), .agg (Fx.varr 14 (evY V))]) rfl rfl Try.func57 rfl rfl) rfl ((l_apply (M.ml o) B (M.pl o) T V _ m85 hV (hW.inv o (by omega)).w (by omega)).mono ?_)
  rintro e9 w9 ⟨p3, m3, he, hc3, hL2, hb3⟩
  refine ⟨.tuple #[.pointer (some ⟨p3, 0, none⟩), .int .i64 (applyE (M.ml o).core V)], he, ?_⟩
  clear he
  have s12 := Fx.Stp.of_below hb3
  have m87 := m78.stp s12 (Nat.ne_of_lt (m78.lt))
  have m88 := m80.stp s12 (m80.notNew (Nat.le_refl _))
  have m89 := m81.up s12.old
  have m90 := m82.stp s12 (Nat.ne_of_lt (m82.lt))
  have m91 := m83.stp s12 (Nat.ne_of_lt (m83.lt))
  have m92 := m84.stp s12 (Nat.ne_of_lt (m84.lt))
  have m93 := m86.stpB s12 (Nat.ne_of_lt (m86.lt))
  have b12 := s12.below b11 (Nat.le_trans hB b11.size) (Nat.le_trans hB b11.size)
  refine Fx.L.nil (Fx.R.p (.tuple #[.pointer (some ⟨p3, 0, none⟩), .int .i64 (applyE (M.ml o).core V)]) (fun v1 => x_move rfl rfl) (Fx.R.p (.pointer (some ⟨p3, 0, none⟩)) (fun v1 => Fx.x_extract rfl rfl rfl) (Fx.R.p (.int .i64 (applyE (M.ml o).core V)) (fun v1 => Fx.x_extract rfl rfl rfl) (Fx.R.p (.pointer (some ⟨p3, 0, none⟩)) (fun v1 => x_assign rfl rfl) (Fx.R.p (.int .i64 (applyE (M.ml o).core V)) (fun v1 => x_assign rfl rfl) (Fx.R.nil (Fx.seqN (Fx.W.seq (Fx.W.seq (Fx.W.list (Fx.L.v (.int .i64 (applyE (M.ml o).core V)) (x_move rfl rfl) ?_)))))))))))
  by_cases c74 : (applyE (M.ml o).core V) = 0
  ·refine Fx.L.v (.bool false) (Fx.x_neqF rfl rfl rfl c74) (Fx.L.nil (Fx.seqN (Fx.W.cond (b := false) rfl (fun h => nomatch h) (fun _ => Fx.W.skip (Fx.seqN (Fx.W.seq (Fx.W.list (Fx.L.v (.pointer (some ⟨p, 0, none⟩)) (x_move rfl rfl) (Fx.L.v (.pointer (some ⟨p, 0, none⟩)) (x_nil rfl rfl) (Fx.L.v (.pointer (some ⟨p, 0, none⟩)) (x_field rfl rfl Try.underlying63 rfl (s := 1) (by kernel_rfl) rfl rfl) (Fx.L.v (.slice M.la (M.n) (M.lc)) (x_load1 (x := wdY (.slice M.la (M.n) (M.lc)) (.slice M.aa (M.an) (M.ac))) rfl rfl (by kernel_rfl) m87.cel (i := 0) (by omega) (by omega) rfl) (Fx.L.v (.int .i64 ((o : Int))) (x_move rfl rfl) (Fx.L.v (.pointer (some ⟨p3, 0, none⟩)) (x_move rfl rfl) (Fx.L.v (.pointer (some ⟨gq2, o, none⟩)) (x_indexS rfl (rfl.trans (congrArg (fun q => Value.slice q (M.n) (M.lc)) eq2)) rfl Try.underlying60 (s := 1) (by kernel_rfl) (by omega) (by omega) (by omega)) (Fx.L.own1 (x := ptX M.pl) (u := .pointer (some ⟨p3, 0, none⟩)) (by rfl) rfl rfl rfl rfl (by rfl) (by kernel_rfl) m93 (i := o) (by omega) fun w10 m94 s13 z7 => ?_)))))))))))))))
   have hct4 := Fx.ChT.of_stp s13 m93.tyB
   have m95 := m87.chT hct4 (by decide)
   have m96 := m88.chT hct4 (by decide)
   have m97 := m89.chT hct4 (by decide)
   have m98 := m90.chT hct4 (by decide)
   have m99 := m91.chT hct4 (by decide)
   have m100 := m92.chT hct4 (by decide)
   have m101 := hL2.chT hct4 (by decide)
   have b13 := s13.below b12 (Nat.le_trans hB b12.size) m93.blk.1
   have m102 : Fx.Own w10 B 59 1 (.slice (some ⟨gq2, 0, none⟩) M.n M.lc) M.n (ptX (updA M.pl o p3)) := m94.congr (fun jq _ => congrFun pt_put jq)
   refine Fx.L.nil (Fx.seqN (Fx.W.seq ?_))
   have m103 : Fx.Own w10 B 59 1 (.slice M.la (M.n) (M.lc)) M.n (ptX (updA M.pl o p3)) := m102.congV (congrArg (fun q => Value.slice q M.n M.lc) eq2.symm)
   -- region 10 draws
   refine Fx.W.reord [0, 1, 2, 3, 4, 5, 6, 7, 8, 9, 10] [0, 0, 0, 0, 1, 4, 2, 2, 0, 0, 3] (Fx.ChT [54]) Fx.ChT.refl Fx.ChT.trans (certs := [(10, 4, [4]), (6, 5, [5]), (7, 5, [6, 5]), (10, 5, [5]), (7, 6, [6]), (8, 6, [6]), (9, 6, [6]), (10, 6, [6]), (8, 7, [7]), (9, 7, [7]), (10, 7, [7])]) (by kernel_rfl) (by kernel_rfl) (by kernel_rfl) (by kernel_rfl) (by kernel_rfl) fun wt3 hbwt3 hzwt3 => ?_
   have s14 : Fx.Stp w10.heap.size w10 wt3 := Fx.Stp.of_below hbwt3
   have m104 := m95.stp s14 (Nat.ne_of_lt (m95.lt))
   have m105 := m96.stp s14 (m96.notNew (Nat.le_refl _))
   have m106 := m97.up s14.old
   have m107 := m98.stp s14 (Nat.ne_of_lt (m98.lt))
   have m108 := m99.stp s14 (Nat.ne_of_lt (m99.lt))
   have m109 := m100.stp s14 (Nat.ne_of_lt (m100.lt))
   have m110 := m101.up s14.old
   have m111 := m103.stp s14 (m103.notNew (Nat.le_refl _))
   have b14 := s14.below b13 (Nat.le_trans hB b13.size) (Nat.le_trans hB b13.size)
   refine Fx.R.p (.pointer (some ⟨p, 0, none⟩)) (fun v1 => x_move rfl rfl) (Fx.R.p (.pointer (some ⟨p, 0, none⟩)) (fun v1 => x_move rfl rfl) (Fx.R.p (.pointer (some ⟨p, 0, none⟩)) (fun v1 => x_nil rfl rfl) (Fx.R.p (.pointer (some ⟨p, 1, none⟩)) (fun v1 => x_field rfl rfl Try.underlying63 rfl (s := 1) (by kernel_rfl) rfl (by show _ + 1 = _; omega)) (Fx.R.read (v := .slice M.aa (M.an) (M.ac)) (by rfl) (by rfl) (Fx.ChT.refl _) (fun v1 hv1 => x_load1 (x := wdY (.slice M.la (M.n) (M.lc)) (.slice M.aa (M.an) (M.ac))) rfl rfl (by kernel_rfl) (m104.chT hv1 (by decide)).cel (i := 1) (by omega) (by omega) rfl) ?_))))
   refine Fx.R.s (.agg (Fx.varr 14 (evY V))) (x_loadA (x := evY V) (y := evY V) rfl rfl (by kernel_rfl) (by kernel_rfl) m109.cel (i := 0) (by omega) (by omega) (fun j _ => by rw [Nat.zero_add])) ?_
   refine Fx.R.make (by rfl) ?_
   refine Fx.L.bslice (vs := [(0, .agg (Fx.varr 14 (evY V)))]) (s := 14) (zc := fun zq => if zq < 1 then .int .i64 (0) else if zq < 8 then .int .u64 (0) else if zq < 9 then .int .u8 (0) else if zq < 10 then .int .u64 (0) else if zq < 12 then .int .i64 (0) else .int .u64 (0)) (y := Fx.ovr (fun j => (fun zq => if zq < 1 then .int .i64 (0) else if zq < 8 then .int .u64 (0) else if zq < 9 then .int .u8 (0) else if zq < 10 then .int .u64 (0) else if zq < 12 then .int .i64 (0) else .int .u64 (0)) (j % 14)) (0 * 14) 14 (evY V)) (by rfl) rfl rfl Try.underlying61 (by kernel_rfl) (by rfl) (by rfl) (by kernel_rfl) (by rw [Fx.fill_step (off := 0 * 14) (s := 14) (y := evY V) rfl (Fx.cells_agg _ _) (by rfl)]; rfl) rfl fun g4 w11 eg4 m112 s15 z8 => ?_
   have m113 := m104.stp s15 (Nat.ne_of_lt (m104.lt))
   have m114 := m105.stp s15 (m105.notNew (Nat.le_refl _))
   have m115 := m106.up s15.old
   have m117 := m108.stp s15 (Nat.ne_of_lt (m108.lt))
   have m118 := m109.stp s15 (Nat.ne_of_lt (m109.lt))
   have m119 := m110.up s15.old
   have m120 := m111.stp s15 (m111.notNew (Nat.le_refl _))
   have b15 := s15.below b14 (Nat.le_trans hB b14.size) (Nat.le_trans hB b14.size)
   have lg4 : w.heap.size ≤ g4 := by rw [eg4]; exact b14.size
   have ng4m113 : p ≠ g4 := by rw [eg4]; exact Nat.ne_of_lt (m104.lt)
   have ng4m114 : (.slice M.aa (M.an) (M.ac) : Value).ownBlock ≠ some g4 := by rw [eg4]; exact m105.notNew (Nat.le_refl _)
   have ng4m116 : g1 ≠ g4 := by rw [eg4]; exact Nat.ne_of_lt (m107.lt)
   have ng4m117 : g2 ≠ g4 := by rw [eg4]; exact Nat.ne_of_lt (m108.lt)
   have ng4m118 : g3 ≠ g4 := by rw [eg4]; exact Nat.ne_of_lt (m109.lt)
   have tg4 : g4 < w11.heap.size := m112.lt
   clear eg4
   refine Fx.L.nil ⟨Fx.ChT.of_below s15.old, ?_⟩
   refine Fx.R.make (by rfl) ?_
   refine Fx.L.app (B := B) (s := 14) (bytes := 112) (k := M.an) (m := 1) (v := .slice M.aa (M.an) (M.ac)) (x := evX M.ev) (by rfl) rfl rfl rfl Try.underlying61 (by kernel_rfl) (by kernel_rfl) rfl rfl m114 m112.cel (ovr_one (fun j => (show (evY V j).oneCell' = true by unfold evY; repeat (first | rfl | split)))) (by omega) (by omega) (by omega) (Nat.le_trans hB b15.size) fun g5 cap1 w12 ho1 hg1 hgv1 hlt1 => ?_
   have hct5 := Fx.ChT.of_grown hg1 m114
   have m122 := m113.chT hct5 (by decide)
   have m123 := m115.chT hct5 (by decide)
   have m125 := m117.grown hg1 ng2m10
   have ng5m125 : g2 ≠ g5 := fun e => hgv1.elim (fun e2 => ng2m10 (by rw [e]; exact e2)) (fun e2 => by have := m117.lt; omega)
   have m126 := m118.grown hg1 ng3m66
   have ng5m126 : g3 ≠ g5 := fun e => hgv1.elim (fun e2 => ng3m66 (by rw [e]; exact e2)) (fun e2 => by have := m118.lt; omega)
   have m127 := m119.chT hct5 (by decide)
   have m128 := m120.chT hct5 (by decide)
   have m121 : Fx.Own w12 B 54 14 (.slice (some ⟨g5, 0, none⟩) (M.an + 1) cap1) (M.an + 1) (evX (updA M.ev M.an V)) := (ho1.congr (fun j hj => ev_app j hj))
   have b16 : Below B w w12 := Fx.Below.grow b15 hg1 (Nat.le_trans hB b15.size) (fun q hq => (m114.ge hq).1)
   refine Fx.L.nil ⟨hct5, ?_⟩
   refine Fx.R.p (.pointer (some ⟨p, 0, none⟩)) (fun v1 => x_nil rfl rfl) (Fx.R.p (.pointer (some ⟨p, 1, none⟩)) (fun v1 => x_field rfl rfl Try.underlying63 rfl (s := 1) (by kernel_rfl) rfl (by show _ + 1 = _; omega)) (Fx.R.eff (by rfl) ?_))
   refine Fx.L.store1 (x := wdY (.slice M.la (M.n) (M.lc)) (.slice M.aa (M.an) (M.ac))) (u := .slice (some ⟨g5, 0, none⟩) (M.an + 1) (cap1)) (by rfl) rfl rfl rfl rfl (by rfl) (by kernel_rfl) m122 (i := 1) (by omega) fun w13 m129 s16 z9 => ?_
   have m130 : Fx.Blk w13 p 2 (wdY (.slice M.la (M.n) (M.lc)) (.slice (some ⟨g5, 0, none⟩) (M.an + 1) (cap1))) 63 := m129.congr (wdY_1 _ _ _)
   have hct6 := Fx.ChT.of_stp s16 m122.ty
   have m131 := m123.chT hct6 (by decide)
   have m133 := m125.chT hct6 (by decide)
   have m134 := m126.chT hct6 (by decide)
   have m135 := m127.chT hct6 (by decide)
   have m136 := m128.chT hct6 (by decide)
   have m137 := m121.chT hct6 (by decide)
   have b17 := s16.below b16 (Nat.le_trans hB b16.size) (by omega)
   refine Fx.L.nil (Fx.R.nil (Fx.seqN (Fx.W.seq (Fx.W.list (Fx.L.v (.agg (Fx.varr 14 (evY V))) (x_loadA (x := evY V) (y := evY V) rfl rfl (by kernel_rfl) (by kernel_rfl) m134.cel (i := 0) (by omega) (by omega) (fun j _ => by rw [Nat.zero_add])) (Fx.L.storeA (x := fun zq => if zq < 1 then .int .i64 (0) else if zq < 8 then .int .u64 (0) else if zq < 9 then .int .u8 (0) else if zq < 10 then .int .u64 (0) else if zq < 12 then .int .i64 (0) else .int .u64 (0)) (y := evY V) (by rfl) rfl rfl rfl rfl (evY_one _) (by kernel_rfl) m133 (i := 0) (by omega) fun w14 m138 s17 z10 => ?_))))))
   have m139 : Fx.Blk w14 g2 14 (evY V) 54 := Fx.ovr_all m138
   have hct7 := Fx.ChT.of_stp s17 m133.ty
   have m140 := m131.chT hct7 (by decide)
   have m142 := m134.stp s17 (by omega)
   have m143 := m135.chT hct7 (by decide)
   have m144 := m136.chT hct7 (by decide)
   have m145 := m137.stpB s17 (by omega)
   have m146 := m130.chT hct7 (by decide)
   have b18 := s17.below b17 (Nat.le_trans hB b17.size) (by omega)
   refine Fx.L.nil (Fx.seqN (Fx.W.ret (⟨.agg (Fx.varr 14 (evY V)), Fx.retV1 Try.results23 ⟨_, rfl, Fx.run_loadV m139.cel (by kernel_rfl) (by kernel_rfl)⟩, ?_⟩)))
   have hinv : Inv m3.core (T + 3660) := by rw [hc3]; exact (inv_apply hVs (hW.inv o (by omega))).mono (by omega)
   exact ⟨⟨_, rfl⟩, { M with pl := updA M.pl o p3, ml := updA M.ml o m3, an := M.an + 1, aa := some ⟨g5, 0, none⟩, ac := cap1, ev := updA M.ev M.an V }, { c := m146, l := m144, a := m145, g := m140.put m143, inv := (fun i hi => by show Inv (updA M.ml o m3 i).core _; unfold updA; split; exact hinv; exact (hW.inv i hi).mono (by omega)), wf := (fun k hk => by have hk2 : k < M.an + 1 := hk; show EvWf (updA M.ev M.an V k); unfold updA; split; exact hV; exact hW.wf k (by omega)), may := (fun k hk => by have hk2 : k < M.an + 1 := hk; show mayE (updA M.ev M.an V k) = true; unfold updA; split; exact apply_may c74; exact hW.may k (by omega)), sm := (fun k hk => by have hk2 : k < M.an + 1 := hk; show EvSm (updA M.ev M.an V k); unfold updA; split; exact hVs; exact hW.sm k (by omega)), pB := hpB, n1 := hn1, n6 := hn6 }, rfl, Nat.le_refl _, (fun hq => by rw [c19] at hq; cases hq), b18⟩
  ·refine Fx.L.v (.bool true) (Fx.x_neqT rfl rfl rfl c74) (Fx.L.nil (Fx.seqN (Fx.W.cond (b := true) rfl (fun _ => Fx.W.seq (Fx.W.list (Fx.L.v (.agg (Fx.varr 14 (fun zq => if zq < 1 then .int .i64 (0) else if zq < 8 then .int .u64 (0) else if zq < 9 then .int .u8 (0) else if zq < 10 then .int .u64 (0) else if zq < 12 then .int .i64 (0) else .int .u64 (0)))) (x_build (vs := []) (places := #[(0, 1), (1, 1), (2, 6), (8, 1), (9, 1), (10, 1), (11, 1), (12, 1), (13, 1)]) (m := 14) (x := fun zq => if zq < 1 then .int .i64 (0) else if zq < 8 then .int .u64 (0) else if zq < 9 then .int .u8 (0) else if zq < 10 then .int .u64 (0) else if zq < 12 then .int .i64 (0) else .int .u64 (0)) rfl rfl Try.underlying54 (by kernel_rfl) (by kernel_rfl) (by rfl)) ?_))) (fun h => nomatch h))))
   refine Fx.L.storeA (x := fun zq => if zq < 1 then .int .i64 (0) else if zq < 8 then .int .u64 (0) else if zq < 9 then .int .u8 (0) else if zq < 10 then .int .u64 (0) else if zq < 12 then .int .i64 (0) else .int .u64 (0)) (y := fun zq => if zq < 1 then .int .i64 (0) else if zq < 8 then .int .u64 (0) else if zq < 9 then .int .u8 (0) else if zq < 10 then .int .u64 (0) else if zq < 12 then .int .i64 (0) else .int .u64 (0)) (by rfl) rfl rfl rfl rfl (fun jq _ => by show ((fun zq => if zq < 1 then .int .i64 (0) else if zq < 8 then .int .u64 (0) else if zq < 9 then .int .u8 (0) else if zq < 10 then .int .u64 (0) else if zq < 12 then .int .i64 (0) else .int .u64 (0) : Nat → Value) jq).oneCell' = true; simp only []; repeat (first | rfl | split)) (by kernel_rfl) m91 (i := 0) (by omega) fun w15 m147 s18 z11 => ?_
   have m148 : Fx.Blk w15 g2 14 (fun zq => if zq < 1 then .int .i64 (0) else if zq < 8 then .int .u64 (0) else if zq < 9 then .int .u8 (0) else if zq < 10 then .int .u64 (0) else if zq < 12 then .int .i64 (0) else .int .u64 (0)) 54 := Fx.ovr_all m147
   have hct8 := Fx.ChT.of_stp s18 m91.ty
   have m149 := m87.chT hct8 (by decide)
   have m150 := m88.stp s18 ng2m10
   have m151 := m89.chT hct8 (by decide)
   have m153 := m92.stp s18 (by omega)
   have m154 := m93.chT hct8 (by decide)
   have b19 := s18.below b12 (Nat.le_trans hB b12.size) (by omega)
   refine Fx.L.nil (Fx.seqN (Fx.W.ret (Fx.seqR (⟨.agg (Fx.varr 14 (fun zq => if zq < 1 then .int .i64 (0) else if zq < 8 then .int .u64 (0) else if zq < 9 then .int .u8 (0) else if zq < 10 then .int .u64 (0) else if zq < 12 then .int .i64 (0) else .int .u64 (0))), Fx.retV1 Try.results23 ⟨_, rfl, Fx.run_loadV m148.cel (by kernel_rfl) (by kernel_rfl)⟩, ?_⟩))))
   have m156 : Fx.Own w15 B 59 1 (.slice M.la (M.n) (M.lc)) M.n (ptX M.pl) := m154.congV (congrArg (fun q => Value.slice q M.n M.lc) eq2.symm)
   exact ⟨⟨_, rfl⟩, M, { c := m149, l := m156, a := m150, g := m151, inv := fun i hi => (hW.inv i hi).mono (by omega), wf := hW.wf, may := hW.may, sm := hW.sm, pB := hpB, n1 := hn1, n6 := hn6 }, rfl, by omega, (fun _ => rfl), b19⟩
theorem l_do (M : WM) (B p T : Nat) (x : ActM) (w : World) (hW : WldO w B p M T) (hB : B ≤ w.heap.size) (hx : ActOk x) (han : M.an ≤ 60) (hT : T ≤ 890000) :
    Calls Try.prog 23 #[.pointer (some ⟨p, 0, none⟩), .agg (Fx.varr 9 (actY x))] w fun e w' => (∃ v, e = .returned v) ∧ ∃ M', WldO w' B p M' (T + 3660) ∧ M'.n = M.n ∧ M'.an ≤ M.an + 1 ∧ Below B w w' :=
  (l_doM M B p T x w hW hB hx han hT).mono fun _ _ ⟨h1, M', h2, h3, h4, _, h5⟩ => ⟨h1, M', h2, h3, h4, h5⟩
end Go.Proofs.Ytolmkjepieoloaa
namespace Go.Proofs.Ytolmkjepieoloaa
open Go.RowKit Go.WideShapes Go.ChangeShapes Go.Deep
theorem spotless1 {w : World} {x : Addr} {v : Value} (h : w.cell? x = some v) : ∃ b off, x = ⟨b, off, none⟩ := by
  obtain ⟨b, off, spot⟩ := x
  cases spot with
  | none => exact ⟨b, off, rfl⟩
  | some q =>
    unfold World.cell? at h
    simp at h
    split at h <;> cases h
def At4 (k0 k1 k2 k3 : IntKind) (w : World) (b off : Nat) (x0 x1 x2 x3 : Int) : Prop :=
  w.cell? ⟨b, off, none⟩ = some (.int k0 x0) ∧ w.cell? ⟨b, off + 1, none⟩ = some (.int k1 x1) ∧ w.cell? ⟨b, off + 2, none⟩ = some (.int k2 x2) ∧ w.cell? ⟨b, off + 3, none⟩ = some (.int k3 x3)
def Wf4 (k0 k1 k2 k3 : IntKind) (x0 x1 x2 x3 : Int) : Prop := (Lit.int k0 x0).wf = true ∧ (Lit.int k1 x1).wf = true ∧ (Lit.int k2 x2).wf = true ∧ (Lit.int k3 x3).wf = true
def Sl4 (k0 k1 k2 k3 : IntKind) (w : World) (a : Option Addr) (len : Nat) (X0 X1 X2 X3 : Nat → Int) : Prop :=
  ∀ i, i < len → (∃ b off, a = some ⟨b, off, none⟩ ∧ At4 k0 k1 k2 k3 w b (off + i * 4) (X0 i) (X1 i) (X2 i) (X3 i)) ∧ Wf4 k0 k1 k2 k3 (X0 i) (X1 i) (X2 i) (X3 i)
theorem Sl4.up {k0 k1 k2 k3 : IntKind} {w w' : World} {a : Option Addr} {len : Nat} {X0 X1 X2 X3 : Nat → Int} (h : Sl4 k0 k1 k2 k3 w a len X0 X1 X2 X3) (hb : Below w.heap.size w w') : Sl4 k0 k1 k2 k3 w' a len X0 X1 X2 X3 := by
  intro i hi
  obtain ⟨⟨b, off, e, q0, q1, q2, q3⟩, hw⟩ := h i hi
  have hlt := block_lt_of_cell q0
  dsimp only at hlt
  exact ⟨⟨b, off, e, (hb.cell (p := ⟨b, off + i * 4, none⟩) hlt).trans q0, (hb.cell (p := ⟨b, off + i * 4 + 1, none⟩) hlt).trans q1, (hb.cell (p := ⟨b, off + i * 4 + 2, none⟩) hlt).trans q2, (hb.cell (p := ⟨b, off + i * 4 + 3, none⟩) hlt).trans q3⟩, hw⟩
end Go.Proofs.Ytolmkjepieoloaa
