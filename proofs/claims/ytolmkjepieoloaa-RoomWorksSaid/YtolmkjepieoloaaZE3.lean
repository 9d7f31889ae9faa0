/-
  What the proof of the law rests on, part 3: walks of functions, and plain laws; each says its conditions itself.
-/
import Derived.Laws.StructEq
import Derived.Test.YtolmkjepieoloaaZE2
namespace Go.Proofs.Ytolmkjepieoloaa
open Go.RowKit Rt
open Fx (x_move x_assign x_field x_load1 x_pickF x_pickT x_nil x_conv x_indexS x_index x_leqF x_loadA x_len x_gtrF x_build x_eqlF x_eqlT)
namespace Rt
def ownN (id : Nat → Int) (o : Int) : Nat → Nat
  | 0 => 0
  | n + 1 => ownN id o n + if id n / 1099511627776 = o then 1 else 0
theorem ownN_yes {id : Nat → Int} {o : Int} {c k : Nat} (h : c = ownN id o k) (e : id k / 1099511627776 = o) : c + 1 = ownN id o (k + 1) := by unfold ownN; rw [if_pos e, h]
theorem ownN_no {id : Nat → Int} {o : Int} {c k : Nat} (h : c = ownN id o k) (e : ¬ id k / 1099511627776 = o) : c = ownN id o (k + 1) := by unfold ownN; rw [if_neg e, h]; rfl
noncomputable def makesE (L : LdC) (v : EvM) : Int := if 5 ≤ ownN L.id v.o L.nn ∨ 140737488355328 < v.amt then 6 else addE L.t L.tn (idE v.o v.seq) v.node
def downI (f : Nat → Int) (n : Nat) (x : Int) : Nat := Fx.down (fun i => decide (x < f i)) n
def makesC (L : LdC) (v : EvM) : LdC :=
  { L with nn := L.nn + 1, id := Fx.insI L.id (downI L.id L.nn (idE v.o v.seq)) (idE v.o v.seq), par := Fx.insI L.par (downI L.id L.nn (idE v.o v.seq)) v.node,
           R := Fx.insI L.R (downI L.id L.nn (idE v.o v.seq)) (upd (fun _ => 0) (v.o - 1).toNat v.amt),
           tn := L.tn + 1, t := insT L.t (Fx.down (fun i => decide (idE v.o v.seq < L.t i 0)) L.tn) (idE v.o v.seq) v.node }
theorem nd_start {id par : Int} (j : Nat) : Fx.ovr (Fx.ovr (fun zq => if zq < 2 then .int .u64 (0) else .int .i64 (0)) 0 1 (fun _ => .int .u64 id)) 1 1 (fun _ => .int .u64 par) j = ndY id par (fun _ => 0) j := by
  unfold Fx.ovr ndY
  by_cases h0 : j = 0
  · subst h0; rfl
  · by_cases h1 : j = 1
    · subst h1; rfl
    · rw [if_neg (by omega), if_neg (by omega), if_neg h0, if_neg h1]; show (if j < 2 then _ else _) = _; rw [if_neg (by omega)]
theorem ndY_upd {id par : Int} {R : Nat → Int} {a q : Nat} {x : Int} (hq : q = a + 2) : Fx.updV (ndY id par R) q (.int .i64 x) = ndY id par (upd R a x) := by
  subst hq
  funext p
  unfold Fx.updV ndY upd
  by_cases h : p = a + 2
  · subst h; rw [if_pos rfl, if_neg (by omega), if_neg (by omega), if_pos (by omega)]
  · rw [if_neg h]
    by_cases h0 : p = 0
    · rw [if_pos h0, if_pos h0]
    · by_cases h1 : p = 1
      · rw [if_neg h0, if_pos h1, if_neg h0, if_pos h1]
      · rw [if_neg h0, if_neg h1, if_neg h0, if_neg h1, if_neg (by omega)]
theorem insF_nd {id par : Nat → Int} {R : Nat → Nat → Int} {k : Nat} {a b : Int} {c : Nat → Int} : Fx.insF (fun kq => ndY (id kq) (par kq) (R kq)) k (ndY a b c) = fun kq => ndY (Fx.insI id k a kq) (Fx.insI par k b kq) (Fx.insI R k c kq) := by
  funext i
  unfold Fx.insF Fx.insI
  by_cases h : i < k
  · simp only [if_pos h]
  · by_cases h2 : i = k
    · simp only [if_neg h, if_pos h2]
    · simp only [if_neg h, if_neg h2]
theorem ldY_nodes (m : LdM) (a : Option Addr) (n c : Nat) : Fx.updV (ldY m) 18 (.slice a n c) = ldY { m with s := { m.s with na := a, nn := n, nc := c } } := by
  funext p
  unfold Fx.updV ldY
  by_cases h : p = 18
  · subst h; rfl
  · rw [if_neg h]
    by_cases h2 : p < 20
    · rw [if_pos h2, if_pos h2]; unfold stY
      by_cases h3 : p < 6
      · rw [if_pos h3, if_pos h3]
      · by_cases h4 : p < 12
        · rw [if_neg h3, if_pos h4, if_neg h3, if_pos h4]
        · by_cases h5 : p < 18
          · rw [if_neg h3, if_neg h4, if_pos h5, if_neg h3, if_neg h4, if_pos h5]
          · rw [if_neg h3, if_neg h4, if_neg h5, if_neg h, if_neg h3, if_neg h4, if_neg h5, if_neg h]
    · rw [if_neg h2, if_neg h2]
theorem ovr_one {s : Nat} {z y : Nat → Value} (hy : ∀ j, (y j).oneCell' = true) : ∀ j, j < 1 * s → (Fx.ovr z (0 * s) s y j).oneCell' = true := fun j hj => by
  unfold Fx.ovr; rw [if_pos (by omega)]; exact hy _
theorem gtI_step {f : Nat → Int} {n k j : Nat} {x : Int} (e : k = j + 1) (h : ∀ i, k ≤ i → i < n → x < f i) (hj : x < f j) : ∀ i, j ≤ i → i < n → x < f i := fun i h1 h2 => by
  by_cases e2 : i = j
  · subst e2; exact hj
  · exact h i (by omega) h2
end Rt
theorem Rt.add_room {t : Nat → Nat → Int} {tn : Nat} {id par : Int} (h : addE t tn id par = 0) : tn + 1 ≤ 33 := by
  unfold addE at h
  split at h; · cases h
  split at h; · cases h
  split at h; · cases h
  split at h; · cases h
  rename_i h4
  rcases Nat.lt_or_ge tn 32 with h5 | h5
  · omega
  · exact absurd (Or.inl h5) h4
set_option maxRecDepth 20000 in
set_option maxHeartbeats 2000000 in
theorem l_makes (m : LdM) (B p a D : Nat) (v : EvM) (w : World) (hL : LdO w B p m) (hB : B ≤ w.heap.size) (ha : a < 6) (ho : v.o = (a : Int) + 1) (bnn : m.s.nn ≤ 900) (hD : findT m.t m.tn (iterT m.t m.tn D v.node) < 0) (hD2 : D ≤ 1000) :
    Calls Try.prog 120 #[.pointer (some ⟨p, 0, none⟩), .agg (Fx.varr 14 (evY v))] w fun e w' => e = .returned (.int .i64 (makesE m.core v)) ∧ Below B w w' ∧ (makesE m.core v = 0 → ∃ m', m'.core = makesC m.core v ∧ LdO w' B p m') := by
 have hLc := hL.c
 have hLn := hL.n
 have hLg := hL.g
 have hLt := hL.tc
 have hLtr := hL.t
 have hLr := hL.r
 have hLp := hL.pB
 have hLtb := hL.tB
 have bn := hL.bn
 have bg := hL.bg
 have bt := hL.bt
 have lpp : p < w.heap.size := hLc.lt
 have ltb : m.tb < w.heap.size := hLt.lt
 refine Fx.enter Try.func120 rfl (n := 132) rfl (by rfl) ?_
 refine Fx.W.seq (Fx.W.list (Fx.L.box (m := 14) (y := evY v) (by rfl) rfl rfl (Fx.cells_agg _ _) rfl fun g1 w1 eg1 m1 s1 z1 => ?_))
 have m2 := hLc.stp s1 (Nat.ne_of_lt (hLc.lt))
 have m3 := hLn.stp s1 (hLn.notNew (Nat.le_refl _))
 have m4 := hLg.stp s1 (hLg.notNew (Nat.le_refl _))
 have m5 := hLt.stp s1 (Nat.ne_of_lt (hLt.lt))
 have m6 := hLtr.stp s1 (hLtr.notNew (Nat.le_refl _))
 have m7 := hLr.up s1.old
 have b1 := s1.below (Below.refl B w) (Nat.le_trans hB (Below.refl B w).size) (Nat.le_trans hB (Below.refl B w).size)
 have lg1 : w.heap.size ≤ g1 := by rw [eg1]; exact (Below.refl B w).size
 have ng1m2 : p ≠ g1 := by rw [eg1]; exact Nat.ne_of_lt (hLc.lt)
 have ng1m5 : m.tb ≠ g1 := by rw [eg1]; exact Nat.ne_of_lt (hLt.lt)
 have tg1 : g1 < w1.heap.size := m1.lt
 clear eg1
 refine Fx.L.v (.int .i64 (0)) (x_assign rfl rfl) (Fx.L.nil (Fx.seqN (Fx.W.seq (Fx.W.list (Fx.L.v (.int .i64 (0)) (x_assign rfl rfl) (Fx.L.nil (Fx.seqN (Fx.W.seq (Fx.W.seq (Fx.W.list (Fx.L.v (.int .i64 (0)) (x_assign rfl rfl) (Fx.L.nil (Fx.seqN (Fx.W.block (Fx.W.loop (fun f w_ => ∃ k : Nat, ∃ cn : Nat, k ≤ m.s.nn ∧ cn ≤ k ∧ cn = ownN m.id v.o k ∧ f 0 = .pointer (some ⟨p, 0, none⟩) ∧ f 3 = .pointer (some ⟨g1, 0, none⟩) ∧ f 5 = .int .i64 ((cn : Int)) ∧ f 6 = .int .i64 ((k : Int)) ∧ Fx.Blk w_ p 27 (ldY m) 71 ∧ Fx.Own w_ B 50 56 (.slice m.s.na (m.s.nn) (m.s.nc)) m.s.nn (ndX m) ∧ Fx.Own w_ B 88 5 (.slice m.s.ga (m.s.gn) (m.s.gc)) m.s.gn (grX m) ∧ Fx.Blk w_ m.tb 1 (fun _ => .slice m.ta m.tn m.tc) 163 ∧ Fx.Own w_ B 178 2 (.slice m.ta (m.tn) (m.tc)) m.tn (trX m.t) ∧ Rqs w_ B 6 m ∧ Fx.Blk w_ g1 14 (evY v) 54 ∧ Below B w w_) (fun f _ => (m.s.nn - (intOf (f 6)).toNat)) ⟨0, 0, by omega, by omega, rfl, (by rfl), (by rfl), (by first | rfl | exact congrArg (Value.int .i64) (by omega)), (by first | rfl | exact congrArg (Value.int .i64) (by omega)), m2, m3, m4, m5, m6, m7, m1, b1⟩ ?_)))))))))))))))
 rintro f1 w2 ⟨k, cn, hk, hcl, hcn, h1, h2, h3, h4, m8, m9, m10, m11, m12, m13, m14, b2⟩
 refine Fx.W.seq (Fx.W.seq (Fx.W.list (Fx.L.v (.int .i64 ((k : Int))) (x_move rfl h4) (Fx.L.v (.pointer (some ⟨p, 0, none⟩)) (x_move rfl h1) (Fx.L.v (.pointer (some ⟨p, 0, none⟩)) (x_nil rfl rfl) (Fx.L.v (.pointer (some ⟨p, 0, none⟩)) (x_field rfl rfl Try.underlying71 rfl (s := 20) (by kernel_rfl) rfl rfl) (Fx.L.v (.pointer (some ⟨p, 18, none⟩)) (x_field rfl rfl Try.underlying43 rfl (s := 1) (by kernel_rfl) rfl (by show _ + 18 = _; omega)) (Fx.L.v (.slice m.s.na (m.s.nn) (m.s.nc)) (x_load1 (x := ldY m) rfl rfl (by kernel_rfl) m8.cel (i := 18) (by omega) (by omega) rfl) (Fx.L.v (.int .i64 ((m.s.nn : Int))) (x_len rfl rfl rfl (by kernel_rfl)) ?_)))))))))
 by_cases c18 : (k : Int) < (m.s.nn : Int)
 ·refine Fx.L.v (.bool true) (Fx.x_lssT rfl rfl rfl c18) (Fx.L.nil (Fx.seqN (Fx.W.cond (b := true) rfl (fun _ => Fx.W.skip (Fx.seqN (Fx.W.seq (Fx.W.block (Fx.W.seq ?_))))) (fun h => nomatch h))))
  -- region 5 draws
  refine Fx.W.quiet (fun v1 => ∃ q, v1 = World.drewN w2 q) (by kernel_rfl) (by kernel_rfl) ⟨1, rfl⟩ ?_
  refine Fx.Qt.v (.pointer (some ⟨p, 0, none⟩)) (fun v1 hv1 => x_move rfl h1) (Fx.Qt.v (.pointer (some ⟨p, 0, none⟩)) (fun v1 hv1 => x_nil rfl rfl) (Fx.Qt.v (.pointer (some ⟨p, 0, none⟩)) (fun v1 hv1 => x_field rfl rfl Try.underlying71 rfl (s := 20) (by kernel_rfl) rfl rfl) (Fx.Qt.v (.pointer (some ⟨p, 18, none⟩)) (fun v1 hv1 => x_field rfl rfl Try.underlying43 rfl (s := 1) (by kernel_rfl) rfl (by show _ + 18 = _; omega)) (Fx.Qt.v (.slice m.s.na (m.s.nn) (m.s.nc)) (fun v1 hv1 => x_load1 (x := ldY m) rfl rfl (by kernel_rfl) (by obtain ⟨qd, rfl⟩ := hv1; exact m8.cel) (i := 18) (by omega) (by omega) rfl) (Fx.Qt.v (.int .i64 ((k : Int))) (fun v1 hv1 => x_move rfl h4) ?_)))))
  obtain ⟨gq1, eq1⟩ := m9.addr (by omega)
  have m15 : Fx.Own w2 B 50 56 (.slice (some ⟨gq1, 0, none⟩) m.s.nn m.s.nc) m.s.nn (ndX m) := m9.congV (congrArg (fun q => Value.slice q m.s.nn m.s.nc) eq1)
  refine Fx.Qt.v (.pointer (some ⟨gq1, 56 * k, none⟩)) (fun v1 hv1 => x_indexS rfl (rfl.trans (congrArg (fun q => Value.slice q (m.s.nn) (m.s.nc)) eq1)) rfl Try.underlying40 (s := 56) (by kernel_rfl) (by omega) (by omega) (by omega)) (Fx.Qt.v (.pointer (some ⟨gq1, 56 * k, none⟩)) (fun v1 hv1 => x_field rfl rfl Try.underlying50 rfl (s := 1) (by kernel_rfl) rfl rfl) (Fx.Qt.v (.int .u64 (m.id k)) (fun v1 hv1 => x_load1 (x := ndX m) rfl rfl (by kernel_rfl) (by obtain ⟨qd, rfl⟩ := hv1; exact m15.cel) (i := 56 * k) (by omega) (by omega) (Fx.flat_cell (k := k) (j := 0) (by omega) (by omega) rfl)) (Fx.Qt.v (.int .u64 ((m.id k) / 1099511627776)) (fun v1 hv1 => Fx.x_shr (b := 40) (q := 1099511627776) rfl rfl rfl (by decide) (by decide)) (Fx.Qt.v (.pointer (some ⟨g1, 0, none⟩)) (fun v1 hv1 => x_field rfl h2 Try.underlying54 rfl (s := 1) (by kernel_rfl) rfl rfl) (Fx.Qt.v (.int .i64 (v.o)) (fun v1 hv1 => x_load1 (x := evY v) rfl rfl (by kernel_rfl) (by obtain ⟨qd, rfl⟩ := hv1; exact m14.cel) (i := 0) (by omega) (by omega) rfl) (Fx.Qt.v (.int .u64 (v.o)) (fun v1 hv1 => x_conv rfl rfl (by kernel_rfl) Try.underlying27 (Fx.u64e (by omega) rfl)) ?_))))))
  by_cases c34 : ((m.id k) / 1099511627776) = v.o
  ·refine Fx.Qt.v (.bool true) (fun v1 hv1 => x_eqlT rfl rfl rfl c34) (Fx.Qt.nil ?_)
   rintro _ ⟨qd, rfl⟩
   obtain ⟨wq1, ewq1⟩ : ∃ v1, v1 = World.drewN w2 qd := ⟨_, rfl⟩
   rw [← ewq1]
   have s2 : Fx.Stp w2.heap.size w2 wq1 := by rw [ewq1]; exact Fx.Stp.of_below (bdrN w2 qd)
   have m16 := m8.stp s2 (Nat.ne_of_lt (m8.lt))
   have m17 := m10.stp s2 (m10.notNew (Nat.le_refl _))
   have m18 := m11.stp s2 (Nat.ne_of_lt (m11.lt))
   have m19 := m12.stp s2 (m12.notNew (Nat.le_refl _))
   have m20 := m13.up s2.old
   have m21 := m14.stp s2 (Nat.ne_of_lt (m14.lt))
   have m22 := m15.stpB s2 (Nat.ne_of_lt (m15.lt))
   have b3 := s2.below b2 (Nat.le_trans hB b2.size) (Nat.le_trans hB b2.size)
   clear ewq1
   refine Fx.seqN (Fx.W.cond (b := true) rfl (fun _ => Fx.W.list (Fx.L.v (.int .i64 ((cn : Int))) (x_move rfl h3) ?_)) (fun h => nomatch h))
   refine Fx.L.v (.int .i64 ((cn : Int) + 1)) (Fx.x_add rfl rfl rfl (Fx.i64e (by omega) (by omega))) (Fx.L.v (.int .i64 ((cn : Int) + 1)) (x_assign rfl rfl) (Fx.L.nil (Fx.blkN (Fx.seqN (Fx.W.list (Fx.L.v (.int .i64 ((k : Int))) (x_move rfl h4) (Fx.L.v (.int .i64 ((k : Int) + 1)) (Fx.x_add rfl rfl rfl (Fx.i64e (by omega) (by omega))) (Fx.L.v (.int .i64 ((k : Int) + 1)) (x_assign rfl rfl) (Fx.L.nil ?_)))))))))
   have m23 : Fx.Own wq1 B 50 56 (.slice m.s.na (m.s.nn) (m.s.nc)) m.s.nn (ndX m) := m22.congV (congrArg (fun q => Value.slice q m.s.nn m.s.nc) eq1.symm)
   refine Fx.lpN ⟨k + 1, cn + 1, by omega, by omega, (ownN_yes hcn c34), h1, h2, (by first | rfl | exact congrArg (Value.int .i64) (by omega)), (by first | rfl | exact congrArg (Value.int .i64) (by omega)), m16, m23, m17, m18, m19, m20, m21, b3⟩ ?_
   show (m.s.nn - (intOf ((.int .i64 ((k : Int) + 1)))).toNat) < _
   simp only [h4, intOf]; omega
  ·refine Fx.Qt.v (.bool false) (fun v1 hv1 => x_eqlF rfl rfl rfl c34) (Fx.Qt.nil ?_)
   rintro _ ⟨qd, rfl⟩
   obtain ⟨wq2, ewq2⟩ : ∃ v1, v1 = World.drewN w2 qd := ⟨_, rfl⟩
   rw [← ewq2]
   have s3 : Fx.Stp w2.heap.size w2 wq2 := by rw [ewq2]; exact Fx.Stp.of_below (bdrN w2 qd)
   have m24 := m8.stp s3 (Nat.ne_of_lt (m8.lt))
   have m25 := m10.stp s3 (m10.notNew (Nat.le_refl _))
   have m26 := m11.stp s3 (Nat.ne_of_lt (m11.lt))
   have m27 := m12.stp s3 (m12.notNew (Nat.le_refl _))
   have m28 := m13.up s3.old
   have m29 := m14.stp s3 (Nat.ne_of_lt (m14.lt))
   have m30 := m15.stpB s3 (Nat.ne_of_lt (m15.lt))
   have b4 := s3.below b2 (Nat.le_trans hB b2.size) (Nat.le_trans hB b2.size)
   clear ewq2
   refine Fx.seqN (Fx.W.cond (b := false) rfl (fun h => nomatch h) (fun _ => Fx.W.skip (Fx.blkN (Fx.seqN (Fx.W.list (Fx.L.v (.int .i64 ((k : Int))) (x_move rfl h4) (Fx.L.v (.int .i64 ((k : Int) + 1)) (Fx.x_add rfl rfl rfl (Fx.i64e (by omega) (by omega))) (Fx.L.v (.int .i64 ((k : Int) + 1)) (x_assign rfl rfl) (Fx.L.nil ?_)))))))))
   have m31 : Fx.Own wq2 B 50 56 (.slice m.s.na (m.s.nn) (m.s.nc)) m.s.nn (ndX m) := m30.congV (congrArg (fun q => Value.slice q m.s.nn m.s.nc) eq1.symm)
   refine Fx.lpN ⟨k + 1, cn, by omega, by omega, (ownN_no hcn c34), h1, h2, (h3.trans (by first | rfl | exact congrArg (Value.int .i64) (by omega))), (by first | rfl | exact congrArg (Value.int .i64) (by omega)), m24, m31, m25, m26, m27, m28, m29, b4⟩ ?_
   show (m.s.nn - (intOf ((.int .i64 ((k : Int) + 1)))).toNat) < _
   simp only [h4, intOf]; omega
 ·refine Fx.L.v (.bool false) (Fx.x_lssF rfl rfl rfl c18) (Fx.L.nil (Fx.seqN (Fx.W.cond (b := false) rfl (fun h => nomatch h) (fun _ => Fx.W.exit (Fx.seqX (Fx.lpX (Fx.blkX (Fx.seqN (Fx.W.seq (Fx.W.seq (Fx.W.list (Fx.L.v (.int .i64 ((cn : Int))) (x_move rfl h3) ?_))))))))))))
  by_cases c38 : 5 ≤ (cn : Int)
  ·refine Fx.L.v (.bool true) (Fx.x_geqT rfl rfl rfl c38) (Fx.L.v (.bool true) (x_move rfl rfl) (Fx.L.skip (by rfl) rfl (Fx.L.skip (by rfl) rfl (Fx.L.skip (by rfl) rfl (Fx.L.v (.bool true) (x_pickT rfl rfl rfl) (Fx.L.nil (Fx.seqN (Fx.W.cond (b := true) rfl (fun _ => Fx.W.seq (Fx.W.list (Fx.L.v (.int .i64 (6)) (x_assign rfl rfl) ?_))) (fun h => nomatch h)))))))))
   refine Fx.L.nil (Fx.seqN (Fx.W.ret (Fx.seqR (⟨.int .i64 (6), Fx.retV1 Try.results120 (by exact rfl), ?_⟩))))
   have ek : k = m.s.nn := by omega
   subst ek
   have ee : makesE m.core v = 6 := if_pos (.inl (by rw [show ownN m.core.id v.o m.core.nn = cn from hcn.symm]; omega))
   exact ⟨congrArg (fun q => Ending.returned (Value.int .i64 q)) ee.symm, b2, fun h0 => by rw [ee] at h0; cases h0⟩
  ·refine Fx.L.v (.bool false) (Fx.x_geqF rfl rfl rfl c38) (Fx.L.v (.bool false) (x_move rfl rfl) (Fx.L.v (.pointer (some ⟨g1, 11, none⟩)) (x_field rfl h2 Try.underlying54 rfl (s := 1) (by kernel_rfl) rfl (by show _ + 11 = _; omega)) (Fx.L.v (.int .i64 (v.amt)) (x_load1 (x := evY v) rfl rfl (by kernel_rfl) m14.cel (i := 11) (by omega) (by omega) rfl) ?_)))
   by_cases c42 : 140737488355328 < v.amt
   ·refine Fx.L.v (.bool true) (Fx.x_gtrT rfl rfl rfl c42) (Fx.L.v (.bool true) (x_pickF rfl rfl rfl) (Fx.L.nil (Fx.seqN (Fx.W.cond (b := true) rfl (fun _ => Fx.W.seq (Fx.W.list (Fx.L.v (.int .i64 (6)) (x_assign rfl rfl) ?_))) (fun h => nomatch h)))))
    refine Fx.L.nil (Fx.seqN (Fx.W.ret (Fx.seqR (⟨.int .i64 (6), Fx.retV1 Try.results120 (by exact rfl), ?_⟩))))
    have ek : k = m.s.nn := by omega
    subst ek
    have ee : makesE m.core v = 6 := if_pos (.inr (by omega))
    exact ⟨congrArg (fun q => Ending.returned (Value.int .i64 q)) ee.symm, b2, fun h0 => by rw [ee] at h0; cases h0⟩
   ·refine Fx.L.v (.bool false) (x_gtrF rfl rfl rfl c42) (Fx.L.v (.bool false) (x_pickF rfl rfl rfl) (Fx.L.nil (Fx.seqN (Fx.W.cond (b := false) rfl (fun h => nomatch h) (fun _ => Fx.W.skip (Fx.seqN (Fx.W.seq (Fx.W.list (Fx.L.v (.pointer (some ⟨g1, 0, none⟩)) (x_field rfl h2 Try.underlying54 rfl (s := 1) (by kernel_rfl) rfl rfl) (Fx.L.v (.int .i64 (v.o)) (x_load1 (x := evY v) rfl rfl (by kernel_rfl) m14.cel (i := 0) (by omega) (by omega) rfl) (Fx.L.v (.pointer (some ⟨g1, 1, none⟩)) (x_field rfl h2 Try.underlying54 rfl (s := 1) (by kernel_rfl) rfl (by show _ + 1 = _; omega)) (Fx.L.v (.int .u64 (v.seq)) (x_load1 (x := evY v) rfl rfl (by kernel_rfl) m14.cel (i := 1) (by omega) (by omega) rfl) (Fx.L.call (by rfl) (Fx.r_call (args := [.int .i64 (v.o), .int .u64 (v.seq)]) rfl rfl Try.func127 rfl rfl) rfl ((e_id v.o v.seq _).mono ?_))))))))))))))
    rintro e v1 ⟨he, hv1⟩
    subst v1
    refine ⟨.int .u64 (idE v.o v.seq), by rw [he], ?_⟩
    clear he
    refine Fx.L.v (.int .u64 (idE v.o v.seq)) (x_assign rfl rfl) (Fx.L.nil (Fx.seqN (Fx.W.seq ?_)))
    -- region 10 draws
    refine Fx.W.reord [0, 1, 2, 4, 5, 3, 6, 7, 8] [0, 0, 0, 4, 0, 0, 4, 3, 0] Fx.Mk Fx.Mk.refl Fx.Mk.trans (certs := [(7, 3, [3]), (7, 6, [6]), (8, 7, [7])]) (by kernel_rfl) (by kernel_rfl) (by kernel_rfl) (by kernel_rfl) (by kernel_rfl) fun wt1 hbwt1 hzwt1 => ?_
    have s4 : Fx.Stp w2.heap.size w2 wt1 := Fx.Stp.of_below hbwt1
    have m32 := m8.stp s4 (Nat.ne_of_lt (m8.lt))
    have m33 := m9.stp s4 (m9.notNew (Nat.le_refl _))
    have m34 := m10.stp s4 (m10.notNew (Nat.le_refl _))
    have m35 := m11.stp s4 (Nat.ne_of_lt (m11.lt))
    have m36 := m12.stp s4 (m12.notNew (Nat.le_refl _))
    have m37 := m13.up s4.old
    have m38 := m14.stp s4 (Nat.ne_of_lt (m14.lt))
    have b5 := s4.below b2 (Nat.le_trans hB b2.size) (Nat.le_trans hB b2.size)
    refine Fx.R.p (.pointer (some ⟨p, 0, none⟩)) (fun v1 => x_move rfl h1) (Fx.R.p (.pointer (some ⟨p, 0, none⟩)) (fun v1 => x_nil rfl rfl) (Fx.R.p (.pointer (some ⟨p, 20, none⟩)) (fun v1 => x_field rfl rfl Try.underlying71 rfl (s := 1) (by kernel_rfl) rfl (by show _ + 20 = _; omega)) (Fx.R.p (.int .u64 (idE v.o v.seq)) (fun v1 => x_move rfl rfl) (Fx.R.p (.pointer (some ⟨g1, 9, none⟩)) (fun v1 => x_field rfl h2 Try.underlying54 rfl (s := 1) (by kernel_rfl) rfl (by show _ + 9 = _; omega)) (Fx.R.s (.pointer (some ⟨m.tb, 0, none⟩)) (x_load1 (x := ldY m) rfl rfl (by kernel_rfl) m32.cel (i := 20) (by omega) (by omega) rfl) ?_)))))
    refine Fx.R.s (.int .u64 (v.node)) (x_load1 (x := evY v) rfl rfl (by kernel_rfl) m38.cel (i := 9) (by omega) (by omega) rfl) ?_
    refine Fx.R.eff (by rfl) ?_
    refine Fx.L.call (by rfl) (Fx.r_call (args := [.pointer (some ⟨m.tb, 0, none⟩), .int .u64 (idE v.o v.seq), .int .u64 (v.node)]) rfl rfl Try.func128 rfl rfl) rfl ((l_add B m.tb m.ta m.tn m.tc m.t (idE v.o v.seq) v.node D _ m35 m36 (fun e => Fx.Ty.ne (m36.ty e) m35.ty (by decide) rfl) (Nat.le_trans hB b5.size) bt hD hD2).mono ?_)
    rintro e w3 ⟨he, hch1, hcs1⟩
    refine ⟨.int .i64 (addE m.t m.tn (idE v.o v.seq) v.node), he, ?_⟩
    clear he
    have hc1 : Fx.ChT [163, 178] wt1 w3 := Fx.ChT.of_chg hch1 (by rintro k (rfl | e) <;> first | exact ⟨_, m35.ty, by decide⟩ | exact ⟨_, m36.ty e, by decide⟩)
    have m39 : Fx.Blk w3 p 27 (ldY m) 71 := m32.chT hc1 (by decide)
    have m40 : Fx.Own w3 B 50 56 (.slice m.s.na (m.s.nn) (m.s.nc)) m.s.nn (ndX m) := m33.chT hc1 (by decide)
    have m41 : Fx.Own w3 B 88 5 (.slice m.s.ga (m.s.gn) (m.s.gc)) m.s.gn (grX m) := m34.chT hc1 (by decide)
    have m42 : Rqs w3 B 6 m := m37.chT hc1 (by decide)
    have m43 : Fx.Blk w3 g1 14 (evY v) 54 := m38.chT hc1 (by decide)
    have b6 : Below B w w3 := Fx.Chg.below b5 hch1 (by rintro k (rfl | e) <;> first | exact hLtb | exact (m36.ge e).1) (Nat.le_trans hB b5.size)
    rcases hcs1 with ⟨hc0, hT1, hO1⟩ | ⟨hc0, g9, cap9, hT1, hO1, hne1⟩
    ·refine Fx.L.nil (Fx.R.p (.int .i64 (addE m.t m.tn (idE v.o v.seq) v.node)) (fun v1 => x_assign rfl rfl) (Fx.R.nil (Fx.seqN (Fx.W.seq (Fx.W.seq (Fx.W.list (Fx.L.v (.int .i64 (addE m.t m.tn (idE v.o v.seq) v.node)) (x_move rfl rfl) ?_)))))))
     refine Fx.L.v (.bool true) (Fx.x_neqT rfl rfl rfl hc0) (Fx.L.nil (Fx.seqN (Fx.W.cond (b := true) rfl (fun _ => Fx.W.seq (Fx.W.list (Fx.L.v (.int .i64 (addE m.t m.tn (idE v.o v.seq) v.node)) (x_move rfl rfl) ?_))) (fun h => nomatch h))))
     refine Fx.L.v (.int .i64 (addE m.t m.tn (idE v.o v.seq) v.node)) (x_assign rfl rfl) (Fx.L.nil (Fx.seqN (Fx.W.ret (Fx.seqR (⟨.int .i64 (addE m.t m.tn (idE v.o v.seq) v.node), Fx.retV1 Try.results120 (by exact rfl), ?_⟩)))))
     have ek : k = m.s.nn := by omega
     subst ek
     have ee : makesE m.core v = addE m.t m.tn (idE v.o v.seq) v.node := if_neg (fun h => h.elim (fun h => by rw [show ownN m.core.id v.o m.core.nn = cn from hcn.symm] at h; omega) (fun h => by omega))
     exact ⟨congrArg (fun q => Ending.returned (Value.int .i64 q)) ee.symm, b6, fun h0 => absurd (ee.symm.trans h0) hc0⟩
    ·refine Fx.L.nil (Fx.R.p (.int .i64 (addE m.t m.tn (idE v.o v.seq) v.node)) (fun v1 => x_assign rfl rfl) (Fx.R.nil (Fx.seqN (Fx.W.seq (Fx.W.seq (Fx.W.list (Fx.L.v (.int .i64 (addE m.t m.tn (idE v.o v.seq) v.node)) (x_move rfl rfl) ?_)))))))
     refine Fx.L.v (.bool false) (Fx.x_neqF rfl rfl rfl hc0) (Fx.L.nil (Fx.seqN (Fx.W.cond (b := false) rfl (fun h => nomatch h) (fun _ => Fx.W.skip (Fx.seqN (Fx.W.seq (Fx.W.list (Fx.L.v (.int .u64 (idE v.o v.seq)) (x_move rfl rfl) (Fx.L.v (.pointer (some ⟨g1, 9, none⟩)) (x_field rfl h2 Try.underlying54 rfl (s := 1) (by kernel_rfl) rfl (by show _ + 9 = _; omega)) (Fx.L.v (.int .u64 (v.node)) (x_load1 (x := evY v) rfl rfl (by kernel_rfl) m43.cel (i := 9) (by omega) (by omega) rfl) (Fx.L.v (.agg (Fx.varr 56 (Fx.ovr (Fx.ovr (fun zq => if zq < 2 then .int .u64 (0) else .int .i64 (0)) 0 1 (fun _ => .int .u64 (idE v.o v.seq))) 1 1 (fun _ => .int .u64 (v.node))))) (x_build (vs := [(0, .int .u64 (idE v.o v.seq)), (1, .int .u64 (v.node))]) (places := #[(0, 1), (1, 1), (2, 54)]) (m := 56) (x := fun zq => if zq < 2 then .int .u64 (0) else .int .i64 (0)) rfl rfl Try.underlying50 (by kernel_rfl) (by kernel_rfl) (by rw [Fx.fill_step (off := 0) (s := 1) (y := fun _ => .int .u64 (idE v.o v.seq)) (by kernel_rfl) (Fx.cells_one (by rfl)) (by rfl)]; rw [Fx.fill_step (off := 1) (s := 1) (y := fun _ => .int .u64 (v.node)) (by kernel_rfl) (Fx.cells_one (by rfl)) (by rfl)]; rfl)) (Fx.L.new (m := 56) (y := fun zq => if zq < 2 then .int .u64 (0) else .int .i64 (0)) (by rfl) rfl (by kernel_rfl) rfl fun g2 w4 eg2 m44 s5 z2 => ?_))))))))))))
     have m45 := m39.stp s5 (Nat.ne_of_lt (m39.lt))
     have m46 := m40.stp s5 (m40.notNew (Nat.le_refl _))
     have m47 := m41.stp s5 (m41.notNew (Nat.le_refl _))
     have m48 := m42.up s5.old
     have m49 := m43.stp s5 (Nat.ne_of_lt (m43.lt))
     have m50 := hT1.stp s5 (Nat.ne_of_lt (hT1.lt))
     have m51 := hO1.stpB s5 (Nat.ne_of_lt (hO1.lt))
     have b7 := s5.below b6 (Nat.le_trans hB b6.size) (Nat.le_trans hB b6.size)
     have lg2 : w.heap.size ≤ g2 := by rw [eg2]; exact b6.size
     have ng2m45 : p ≠ g2 := by rw [eg2]; exact Nat.ne_of_lt (m39.lt)
     have ng2m46 : (.slice m.s.na (m.s.nn) (m.s.nc) : Value).ownBlock ≠ some g2 := by rw [eg2]; exact m40.notNew (Nat.le_refl _)
     have ng2m49 : g1 ≠ g2 := by rw [eg2]; exact Nat.ne_of_lt (m43.lt)
     have ng2m50 : m.tb ≠ g2 := by rw [eg2]; exact Nat.ne_of_lt (hT1.lt)
     have ng2m51 : g9 ≠ g2 := by rw [eg2]; exact Nat.ne_of_lt (hO1.lt)
     have tg2 : g2 < w4.heap.size := m44.lt
     clear eg2
     refine Fx.L.storeA (x := fun zq => if zq < 2 then .int .u64 (0) else .int .i64 (0)) (y := Fx.ovr (Fx.ovr (fun zq => if zq < 2 then .int .u64 (0) else .int .i64 (0)) 0 1 (fun _ => .int .u64 (idE v.o v.seq))) 1 1 (fun _ => .int .u64 (v.node))) (by rfl) rfl rfl rfl rfl (Fx.ovr_ones (Fx.ovr_ones (fun jq _ => by show ((fun zq => if zq < 2 then .int .u64 (0) else .int .i64 (0) : Nat → Value) jq).oneCell' = true; simp only []; repeat (first | rfl | split)) (fun _ _ => rfl)) (fun _ _ => rfl)) (by kernel_rfl) m44 (i := 0) (by omega) fun w5 m52 s6 z3 => ?_
     have m53 : Fx.Blk w5 g2 56 (Fx.ovr (Fx.ovr (fun zq => if zq < 2 then .int .u64 (0) else .int .i64 (0)) 0 1 (fun _ => .int .u64 (idE v.o v.seq))) 1 1 (fun _ => .int .u64 (v.node))) 50 := Fx.ovr_all m52
     have hct1 := Fx.ChT.of_stp s6 m44.ty
     have m54 := m45.chT hct1 (by decide)
     have m55 := m46.stp s6 ng2m46
     have m56 := m47.chT hct1 (by decide)
     have m57 := m48.chT hct1 (by decide)
     have m58 := m49.chT hct1 (by decide)
     have m59 := m50.chT hct1 (by decide)
     have m60 := m51.chT hct1 (by decide)
     have b8 := s6.below b7 (Nat.le_trans hB b7.size) (by omega)
     refine Fx.L.nil (Fx.seqN (Fx.W.seq ?_))
     have m61 : Fx.Blk w5 g2 56 (ndY (idE v.o v.seq) v.node (fun _ => 0)) 50 := m53.congr (fun j hj => nd_start j)
     refine Fx.W.list (Fx.L.v (.pointer (some ⟨g1, 0, none⟩)) (x_field rfl h2 Try.underlying54 rfl (s := 1) (by kernel_rfl) rfl rfl) (Fx.L.v (.int .i64 (v.o)) (x_load1 (x := evY v) rfl rfl (by kernel_rfl) m58.cel (i := 0) (by omega) (by omega) rfl) (Fx.L.v (.int .i64 ((a : Int))) (Fx.x_sub rfl rfl rfl (Fx.i64e (by omega) (by omega))) (Fx.L.v (.pointer (some ⟨g1, 11, none⟩)) (x_field rfl h2 Try.underlying54 rfl (s := 1) (by kernel_rfl) rfl (by show _ + 11 = _; omega)) (Fx.L.v (.int .i64 (v.amt)) (x_load1 (x := evY v) rfl rfl (by kernel_rfl) m58.cel (i := 11) (by omega) (by omega) rfl) (Fx.L.v (.pointer (some ⟨g2, 2, none⟩)) (x_field rfl rfl Try.underlying50 rfl (s := 54) (by kernel_rfl) rfl (by show _ + 2 = _; omega)) (Fx.L.v (.pointer (some ⟨g2, 2, none⟩)) (x_field rfl rfl Try.underlying48 rfl (s := 6) (by kernel_rfl) rfl rfl) (Fx.L.v (.pointer (some ⟨g2, a + 2, none⟩)) (x_index rfl rfl rfl Try.underlying45 (s := 1) (by kernel_rfl) (by omega) (by omega) (by omega)) (Fx.L.store1 (x := ndY (idE v.o v.seq) v.node (fun _ => 0)) (u := .int .i64 (v.amt)) (by rfl) rfl rfl rfl rfl (by rfl) (by kernel_rfl) m61 (i := a + 2) (by omega) fun w6 m62 s7 z4 => ?_)))))))))
     have m63 : Fx.Blk w6 g2 56 (ndY (idE v.o v.seq) v.node (upd (fun _ => 0) a v.amt)) 50 := m62.to (ndY_upd (by omega))
     have hct2 := Fx.ChT.of_stp s7 m61.ty
     have m64 := m54.chT hct2 (by decide)
     have m65 := m55.stp s7 ng2m46
     have m66 := m56.chT hct2 (by decide)
     have m67 := m57.chT hct2 (by decide)
     have m68 := m58.chT hct2 (by decide)
     have m69 := m59.chT hct2 (by decide)
     have m70 := m60.chT hct2 (by decide)
     have b9 := s7.below b8 (Nat.le_trans hB b8.size) (by omega)
     refine Fx.L.nil (Fx.seqN (Fx.W.seq ?_))
     have ek0 : k = m.s.nn := by omega
     obtain ⟨cn0, hcn0, hc38⟩ : ∃ cn0, cn0 = ownN m.id v.o m.s.nn ∧ ¬ (5 : Int) ≤ (cn0 : Int) := ⟨cn, by rw [← ek0]; exact hcn, c38⟩
     clear hcn hcl ek0
     refine Fx.W.list (Fx.L.v (.pointer (some ⟨p, 0, none⟩)) (x_move rfl h1) (Fx.L.v (.pointer (some ⟨p, 0, none⟩)) (x_nil rfl rfl) (Fx.L.v (.pointer (some ⟨p, 0, none⟩)) (x_field rfl rfl Try.underlying71 rfl (s := 20) (by kernel_rfl) rfl rfl) (Fx.L.v (.pointer (some ⟨p, 18, none⟩)) (x_field rfl rfl Try.underlying43 rfl (s := 1) (by kernel_rfl) rfl (by show _ + 18 = _; omega)) (Fx.L.v (.slice m.s.na (m.s.nn) (m.s.nc)) (x_load1 (x := ldY m) rfl rfl (by kernel_rfl) m64.cel (i := 18) (by omega) (by omega) rfl) (Fx.L.v (.int .i64 ((m.s.nn : Int))) (x_len rfl rfl rfl (by kernel_rfl)) (Fx.L.v (.int .i64 ((m.s.nn : Int))) (x_assign rfl rfl) (Fx.L.nil (Fx.seqN (Fx.W.seq ?_))))))))))
     -- region 16 draws
     refine Fx.W.reord [0, 1, 2, 3, 4, 5, 6, 7, 8, 9, 10, 11, 12] [0, 0, 0, 0, 0, 1, 4, 2, 2, 0, 0, 0, 3] (Fx.ChT [50]) Fx.ChT.refl Fx.ChT.trans (certs := [(12, 5, [5]), (7, 6, [6]), (8, 6, [7, 6]), (12, 6, [6]), (8, 7, [7]), (9, 7, [7]), (10, 7, [7]), (11, 7, [7]), (12, 7, [7]), (9, 8, [8]), (10, 8, [8]), (11, 8, [8]), (12, 8, [8])]) (by kernel_rfl) (by kernel_rfl) (by kernel_rfl) (by kernel_rfl) (by kernel_rfl) fun wt2 hbwt2 hzwt2 => ?_
     have s8 : Fx.Stp w6.heap.size w6 wt2 := Fx.Stp.of_below hbwt2
     have m71 := m64.stp s8 (Nat.ne_of_lt (m64.lt))
     have m72 := m65.stp s8 (m65.notNew (Nat.le_refl _))
     have m73 := m66.stp s8 (m66.notNew (Nat.le_refl _))
     have m74 := m67.up s8.old
     have m75 := m68.stp s8 (Nat.ne_of_lt (m68.lt))
     have m76 := m69.stp s8 (Nat.ne_of_lt (m69.lt))
     have m77 := m70.stpB s8 (Nat.ne_of_lt (m70.lt))
     have m78 := m63.stp s8 (Nat.ne_of_lt (m63.lt))
     have b10 := s8.below b9 (Nat.le_trans hB b9.size) (Nat.le_trans hB b9.size)
     refine Fx.R.p (.pointer (some ⟨p, 0, none⟩)) (fun v1 => x_move rfl h1) (Fx.R.p (.pointer (some ⟨p, 0, none⟩)) (fun v1 => x_move rfl h1) (Fx.R.p (.pointer (some ⟨p, 0, none⟩)) (fun v1 => x_nil rfl rfl) (Fx.R.p (.pointer (some ⟨p, 0, none⟩)) (fun v1 => x_field rfl rfl Try.underlying71 rfl (s := 20) (by kernel_rfl) rfl rfl) (Fx.R.p (.pointer (some ⟨p, 18, none⟩)) (fun v1 => x_field rfl rfl Try.underlying43 rfl (s := 1) (by kernel_rfl) rfl (by show _ + 18 = _; omega)) (Fx.R.read (v := .slice m.s.na (m.s.nn) (m.s.nc)) (by rfl) (by rfl) (Fx.ChT.refl _) (fun v1 hv1 => x_load1 (x := ldY m) rfl rfl (by kernel_rfl) (m71.chT hv1 (by decide)).cel (i := 18) (by omega) (by omega) rfl) ?_)))))
     refine Fx.R.s (.agg (Fx.varr 56 (ndY (idE v.o v.seq) v.node (upd (fun _ => 0) a v.amt)))) (x_loadA (x := ndY (idE v.o v.seq) v.node (upd (fun _ => 0) a v.amt)) (y := ndY (idE v.o v.seq) v.node (upd (fun _ => 0) a v.amt)) rfl rfl (by kernel_rfl) (by kernel_rfl) m78.cel (i := 0) (by omega) (by omega) (fun j _ => by rw [Nat.zero_add])) ?_
     refine Fx.R.make (by rfl) ?_
     refine Fx.L.bslice (vs := [(0, .agg (Fx.varr 56 (ndY (idE v.o v.seq) v.node (upd (fun _ => 0) a v.amt))))]) (s := 56) (zc := fun zq => if zq < 2 then .int .u64 (0) else .int .i64 (0)) (y := Fx.ovr (fun j => (fun zq => if zq < 2 then .int .u64 (0) else .int .i64 (0)) (j % 56)) (0 * 56) 56 (ndY (idE v.o v.seq) v.node (upd (fun _ => 0) a v.amt))) (by rfl) rfl rfl Try.underlying40 (by kernel_rfl) (by rfl) (by rfl) (by kernel_rfl) (by rw [Fx.fill_step (off := 0 * 56) (s := 56) (y := ndY (idE v.o v.seq) v.node (upd (fun _ => 0) a v.amt)) rfl (Fx.cells_agg _ _) (by rfl)]; rfl) rfl fun g3 w7 eg3 m79 s9 z5 => ?_
     have m80 := m71.stp s9 (Nat.ne_of_lt (m71.lt))
     have m81 := m72.stp s9 (m72.notNew (Nat.le_refl _))
     have m82 := m73.stp s9 (m73.notNew (Nat.le_refl _))
     have m83 := m74.up s9.old
     have m84 := m75.stp s9 (Nat.ne_of_lt (m75.lt))
     have m85 := m76.stp s9 (Nat.ne_of_lt (m76.lt))
     have m86 := m77.stpB s9 (Nat.ne_of_lt (m77.lt))
     have m87 := m78.stp s9 (Nat.ne_of_lt (m78.lt))
     have b11 := s9.below b10 (Nat.le_trans hB b10.size) (Nat.le_trans hB b10.size)
     have lg3 : w.heap.size ≤ g3 := by rw [eg3]; exact b10.size
     have ng3m80 : p ≠ g3 := by rw [eg3]; exact Nat.ne_of_lt (m71.lt)
     have ng3m81 : (.slice m.s.na (m.s.nn) (m.s.nc) : Value).ownBlock ≠ some g3 := by rw [eg3]; exact m72.notNew (Nat.le_refl _)
     have ng3m84 : g1 ≠ g3 := by rw [eg3]; exact Nat.ne_of_lt (m75.lt)
     have ng3m85 : m.tb ≠ g3 := by rw [eg3]; exact Nat.ne_of_lt (m76.lt)
     have ng3m86 : g9 ≠ g3 := by rw [eg3]; exact Nat.ne_of_lt (m77.lt)
     have ng3m87 : g2 ≠ g3 := by rw [eg3]; exact Nat.ne_of_lt (m78.lt)
     have tg3 : g3 < w7.heap.size := m79.lt
     clear eg3
     refine Fx.L.nil ⟨Fx.ChT.of_below s9.old, ?_⟩
     refine Fx.R.make (by rfl) ?_
     refine Fx.L.app (B := B) (s := 56) (bytes := 448) (k := m.s.nn) (m := 1) (v := .slice m.s.na (m.s.nn) (m.s.nc)) (x := ndX m) (by rfl) rfl rfl rfl Try.underlying40 (by kernel_rfl) (by kernel_rfl) rfl rfl m81 m79.cel (ovr_one (ndY_one' _ _ _)) (by omega) (by omega) (by omega) (Nat.le_trans hB b11.size) fun g4 cap1 w8 ho1 hg1 hgv1 hlt1 => ?_
     have hct3 := Fx.ChT.of_grown hg1 m81
     have m89 := m80.chT hct3 (by decide)
     have m90 := m82.chT hct3 (by decide)
     have m91 := m83.chT hct3 (by decide)
     have m92 := m84.chT hct3 (by decide)
     have m93 := m85.chT hct3 (by decide)
     have m94 := m86.chT hct3 (by decide)
     have m95 := m87.grown hg1 ng2m46
     have ng4m95 : g2 ≠ g4 := fun e => hgv1.elim (fun e2 => ng2m46 (by rw [e]; exact e2)) (fun e2 => by have := m87.lt; omega)
     have m88 : Fx.Own w8 B 50 56 (.slice (some ⟨g4, 0, none⟩) (m.s.nn + 1) cap1) (m.s.nn + 1) (Fx.flat 56 (Fx.shF (fun kq => ndY (m.id kq) (m.par kq) (m.R kq)) (ndY (idE v.o v.seq) v.node (upd (fun _ => 0) a v.amt)) m.s.nn m.s.nn)) := (ho1.congr (fun j hj => (Fx.app_flat j hj).trans (Fx.flat_cong (fun i hi q _ => Fx.sh_start i hi q) j hj)))
     have b12 : Below B w w8 := Fx.Below.grow b11 hg1 (Nat.le_trans hB b11.size) (fun q hq => (m81.ge hq).1)
     refine Fx.L.nil ⟨hct3, ?_⟩
     refine Fx.R.p (.pointer (some ⟨p, 0, none⟩)) (fun v1 => x_nil rfl rfl) (Fx.R.p (.pointer (some ⟨p, 0, none⟩)) (fun v1 => x_field rfl rfl Try.underlying71 rfl (s := 20) (by kernel_rfl) rfl rfl) (Fx.R.p (.pointer (some ⟨p, 18, none⟩)) (fun v1 => x_field rfl rfl Try.underlying43 rfl (s := 1) (by kernel_rfl) rfl (by show _ + 18 = _; omega)) (Fx.R.eff (by rfl) ?_)))
     refine Fx.L.store1 (x := ldY m) (u := .slice (some ⟨g4, 0, none⟩) (m.s.nn + 1) (cap1)) (by rfl) rfl rfl rfl rfl (by rfl) (by kernel_rfl) m89 (i := 18) (by omega) fun w9 m96 s10 z6 => ?_
     have hct4 := Fx.ChT.of_stp s10 m89.ty
     have m97 := m90.chT hct4 (by decide)
     have m98 := m91.chT hct4 (by decide)
     have m99 := m92.chT hct4 (by decide)
     have m100 := m93.chT hct4 (by decide)
     have m101 := m94.chT hct4 (by decide)
     have m102 := m95.chT hct4 (by decide)
     have m103 := m88.chT hct4 (by decide)
     have b13 := s10.below b12 (Nat.le_trans hB b12.size) (by omega)
     refine Fx.L.nil (Fx.R.nil (Fx.seqN (Fx.W.seq (Fx.W.block (Fx.W.loop (fun f w_ => ∃ k : Nat, k ≤ m.s.nn ∧ (∀ i, k ≤ i → i < m.s.nn → (idE v.o v.seq) < m.id i) ∧ f 0 = .pointer (some ⟨p, 0, none⟩) ∧ f 7 = .int .u64 ((idE v.o v.seq)) ∧ f 9 = .pointer (some ⟨g2, 0, none⟩) ∧ f 10 = .int .i64 ((k : Int)) ∧ Fx.Own w_ B 88 5 (.slice m.s.ga (m.s.gn) (m.s.gc)) m.s.gn (grX m) ∧ Rqs w_ B 6 m ∧ Fx.Blk w_ g1 14 (evY v) 54 ∧ Fx.Blk w_ m.tb 1 (fun _ => .slice (some ⟨g9, 0, none⟩) (m.tn + 1) cap9) 163 ∧ Fx.Own w_ B 178 2 (.slice (some ⟨g9, 0, none⟩) (m.tn + 1) cap9) (m.tn + 1) (Fx.rv .u64 (flatT (insT m.t (Fx.down (fun i => decide ((idE v.o v.seq) < m.t i 0)) m.tn) (idE v.o v.seq) v.node))) ∧ Fx.Blk w_ g2 56 (ndY (idE v.o v.seq) v.node (upd (fun _ => 0) a v.amt)) 50 ∧ Fx.Blk w_ p 27 (Fx.updV (ldY m) 18 (.slice (some ⟨g4, 0, none⟩) (m.s.nn + 1) (cap1))) 71 ∧ Fx.Own w_ B 50 56 (.slice (some ⟨g4, 0, none⟩) (m.s.nn + 1) cap1) (m.s.nn + 1) (Fx.flat 56 (Fx.shF (fun kq => ndY (m.id kq) (m.par kq) (m.R kq)) (ndY (idE v.o v.seq) v.node (upd (fun _ => 0) a v.amt)) m.s.nn k)) ∧ Below B w w_) (fun f _ => (intOf (f 10)).toNat) ⟨m.s.nn, by omega, (fun i h1 h2 => absurd h1 (by omega)), h1, (by first | rfl | exact congrArg (Value.int .u64) (by omega)), (by rfl), (by first | rfl | exact congrArg (Value.int .i64) (by omega)), m97, m98, m99, m100, m101, m102, m96, m103, b13⟩ ?_)))))
     rintro f2 w10 ⟨k, hk, hgt, h5, h6, h7, h8, m104, m105, m106, m107, m108, m109, m110, m111, b14⟩
     refine Fx.W.seq (Fx.W.seq (Fx.W.list (Fx.L.v (.int .i64 ((k : Int))) (x_move rfl h8) ?_)))
     by_cases c91 : 0 < (k : Int)
     ·obtain ⟨j, ej⟩ : ∃ j, k = j + 1 := ⟨k - 1, by omega⟩
      refine Fx.L.v (.bool true) (Fx.x_gtrT rfl rfl rfl c91) (Fx.L.v (.bool true) (x_move rfl rfl) (Fx.L.v (.pointer (some ⟨p, 0, none⟩)) (x_move rfl h5) (Fx.L.v (.pointer (some ⟨p, 0, none⟩)) (x_nil rfl rfl) (Fx.L.v (.pointer (some ⟨p, 0, none⟩)) (x_field rfl rfl Try.underlying71 rfl (s := 20) (by kernel_rfl) rfl rfl) (Fx.L.v (.pointer (some ⟨p, 18, none⟩)) (x_field rfl rfl Try.underlying43 rfl (s := 1) (by kernel_rfl) rfl (by show _ + 18 = _; omega)) (Fx.L.v (.slice (some ⟨g4, 0, none⟩) (m.s.nn + 1) (cap1)) (x_load1 (x := Fx.updV (ldY m) 18 (.slice (some ⟨g4, 0, none⟩) (m.s.nn + 1) (cap1))) rfl rfl (by kernel_rfl) m110.cel (i := 18) (by omega) (by omega) (Fx.updV_eq (by omega))) (Fx.L.v (.int .i64 ((k : Int))) (x_move rfl h8) (Fx.L.v (.int .i64 ((j : Int))) (Fx.x_sub rfl rfl rfl (Fx.i64e (by omega) (by omega))) (Fx.L.v (.pointer (some ⟨g4, 56 * j, none⟩)) (x_indexS rfl rfl rfl Try.underlying40 (s := 56) (by kernel_rfl) (by omega) (by omega) (by omega)) (Fx.L.v (.pointer (some ⟨g4, 56 * j, none⟩)) (x_field rfl rfl Try.underlying50 rfl (s := 1) (by kernel_rfl) rfl rfl) (Fx.L.v (.int .u64 (m.id j)) (x_load1 (x := Fx.flat 56 (Fx.shF (fun kq => ndY (m.id kq) (m.par kq) (m.R kq)) (ndY (idE v.o v.seq) v.node (upd (fun _ => 0) a v.amt)) m.s.nn k)) rfl rfl (by kernel_rfl) m111.cel (i := 56 * j) (by omega) (by omega) (Fx.flat_cell (k := j) (j := 0) (by omega) (by omega) ((congrFun (Fx.sh_at (by omega) (by omega)) 0).trans rfl))) (Fx.L.v (.int .u64 ((idE v.o v.seq))) (x_move rfl h6) ?_))))))))))))
      by_cases c104 : (idE v.o v.seq) < (m.id j)
      ·refine Fx.L.v (.bool true) (Fx.x_gtrT rfl rfl rfl c104) (Fx.L.v (.bool true) (x_pickT rfl rfl rfl) (Fx.L.nil (Fx.seqN (Fx.W.cond (b := true) rfl (fun _ => Fx.W.skip (Fx.seqN (Fx.W.block (Fx.W.seq ?_)))) (fun h => nomatch h)))))
       -- region 18 draws
       refine Fx.W.reord [0, 1, 2, 3, 5, 6, 7, 8, 9, 11, 12, 4, 10, 13, 14, 15, 16] [0, 0, 0, 0, 4, 0, 0, 0, 0, 0, 4, 0, 0, 0, 4, 0, 3] Fx.Mk Fx.Mk.refl Fx.Mk.trans (certs := [(16, 4, [4]), (16, 10, [10]), (16, 14, [14])]) (by kernel_rfl) (by kernel_rfl) (by kernel_rfl) (by kernel_rfl) (by kernel_rfl) fun wt3 hbwt3 hzwt3 => ?_
       have s11 : Fx.Stp w10.heap.size w10 wt3 := Fx.Stp.of_below hbwt3
       have m112 := m104.stp s11 (m104.notNew (Nat.le_refl _))
       have m113 := m105.up s11.old
       have m114 := m106.stp s11 (Nat.ne_of_lt (m106.lt))
       have m115 := m107.stp s11 (Nat.ne_of_lt (m107.lt))
       have m116 := m108.stpB s11 (Nat.ne_of_lt (m108.lt))
       have m117 := m109.stp s11 (Nat.ne_of_lt (m109.lt))
       have m118 := m110.stp s11 (Nat.ne_of_lt (m110.lt))
       have m119 := m111.stpB s11 (Nat.ne_of_lt (m111.lt))
       have b15 := s11.below b14 (Nat.le_trans hB b14.size) (Nat.le_trans hB b14.size)
       refine Fx.R.p (.pointer (some ⟨p, 0, none⟩)) (fun v1 => x_move rfl h5) (Fx.R.p (.pointer (some ⟨p, 0, none⟩)) (fun v1 => x_nil rfl rfl) (Fx.R.p (.pointer (some ⟨p, 0, none⟩)) (fun v1 => x_field rfl rfl Try.underlying71 rfl (s := 20) (by kernel_rfl) rfl rfl) (Fx.R.p (.pointer (some ⟨p, 18, none⟩)) (fun v1 => x_field rfl rfl Try.underlying43 rfl (s := 1) (by kernel_rfl) rfl (by show _ + 18 = _; omega)) (Fx.R.p (.int .i64 ((k : Int))) (fun v1 => x_move rfl h8) (Fx.R.p (.pointer (some ⟨p, 0, none⟩)) (fun v1 => x_move rfl h5) (Fx.R.p (.pointer (some ⟨p, 0, none⟩)) (fun v1 => x_nil rfl rfl) (Fx.R.p (.pointer (some ⟨p, 0, none⟩)) (fun v1 => x_field rfl rfl Try.underlying71 rfl (s := 20) (by kernel_rfl) rfl rfl) (Fx.R.p (.pointer (some ⟨p, 18, none⟩)) (fun v1 => x_field rfl rfl Try.underlying43 rfl (s := 1) (by kernel_rfl) rfl (by show _ + 18 = _; omega)) (Fx.R.p (.int .i64 ((k : Int))) (fun v1 => x_move rfl h8) (Fx.R.p (.int .i64 ((j : Int))) (fun v1 => Fx.x_sub rfl rfl rfl (Fx.i64e (by omega) (by omega))) (Fx.R.s (.slice (some ⟨g4, 0, none⟩) (m.s.nn + 1) (cap1)) (x_load1 (x := Fx.updV (ldY m) 18 (.slice (some ⟨g4, 0, none⟩) (m.s.nn + 1) (cap1))) rfl rfl (by kernel_rfl) m118.cel (i := 18) (by omega) (by omega) (Fx.updV_eq (by omega))) ?_)))))))))))
       refine Fx.R.s (.slice (some ⟨g4, 0, none⟩) (m.s.nn + 1) (cap1)) (x_load1 (x := Fx.updV (ldY m) 18 (.slice (some ⟨g4, 0, none⟩) (m.s.nn + 1) (cap1))) rfl rfl (by kernel_rfl) m118.cel (i := 18) (by omega) (by omega) (Fx.updV_eq (by omega))) ?_
       refine Fx.R.p (.pointer (some ⟨g4, 56 * j, none⟩)) (fun v1 => x_indexS rfl rfl rfl Try.underlying40 (s := 56) (by kernel_rfl) (by omega) (by omega) (by omega)) (Fx.R.s (.agg (Fx.varr 56 (ndY (m.id j) (m.par j) (m.R j)))) (x_loadA (x := Fx.flat 56 (Fx.shF (fun kq => ndY (m.id kq) (m.par kq) (m.R kq)) (ndY (idE v.o v.seq) v.node (upd (fun _ => 0) a v.amt)) m.s.nn k)) (y := ndY (m.id j) (m.par j) (m.R j)) rfl rfl (by kernel_rfl) (by kernel_rfl) m119.cel (i := 56 * j) (by omega) (by omega) (fun jq hjq => (Fx.flat_at (k := j) (by omega) hjq).trans (congrFun (Fx.sh_at (by omega) (by omega)) jq))) ?_)
       refine Fx.R.p (.pointer (some ⟨g4, 56 * k, none⟩)) (fun v1 => x_indexS rfl rfl rfl Try.underlying40 (s := 56) (by kernel_rfl) (by omega) (by omega) (by omega)) (Fx.R.eff (by rfl) ?_)
       refine Fx.L.ownA (x := Fx.flat 56 (Fx.shF (fun kq => ndY (m.id kq) (m.par kq) (m.R kq)) (ndY (idE v.o v.seq) v.node (upd (fun _ => 0) a v.amt)) m.s.nn k)) (y := ndY (m.id j) (m.par j) (m.R j)) (by rfl) rfl rfl rfl rfl (fun j _ => ndY_one' _ _ _ j) (by kernel_rfl) m119 (i := 56 * k) (by omega) fun w11 m120 s12 z7 => ?_
       have hct5 := Fx.ChT.of_stp s12 m119.tyB
       have m121 := m112.chT hct5 (by decide)
       have m122 := m113.chT hct5 (by decide)
       have m123 := m114.chT hct5 (by decide)
       have m124 := m115.chT hct5 (by decide)
       have m125 := m116.chT hct5 (by decide)
       have m126 := m117.stp s12 (by omega)
       have m127 := m118.chT hct5 (by decide)
       have b16 := s12.below b15 (Nat.le_trans hB b15.size) m119.blk.1
       have m128 : Fx.Own w11 B 50 56 (.slice (some ⟨g4, 0, none⟩) (m.s.nn + 1) cap1) (m.s.nn + 1) (Fx.flat 56 (Fx.shF (fun kq => ndY (m.id kq) (m.par kq) (m.R kq)) (ndY (idE v.o v.seq) v.node (upd (fun _ => 0) a v.amt)) m.s.nn j)) := m120.congr (fun pq hp => (Fx.ovr_flat (k := k) (by omega) pq hp).trans (Fx.flat_cong (fun i hi q _ => Fx.sh_step ej (by omega) i hi q) pq hp))
       refine Fx.L.nil (Fx.R.nil (Fx.seqN (Fx.W.list (Fx.L.v (.int .i64 ((k : Int))) (x_move rfl h8) (Fx.L.v (.int .i64 ((j : Int))) (Fx.x_sub rfl rfl rfl (Fx.i64e (by omega) (by omega))) (Fx.L.v (.int .i64 ((j : Int))) (x_assign rfl rfl) (Fx.L.nil (Fx.blkN (Fx.lpN ⟨j, by omega, (gtI_step ej hgt c104), h5, (h6.trans (by first | rfl | exact congrArg (Value.int .u64) (by omega))), h7, (by first | rfl | exact congrArg (Value.int .i64) (by omega)), m121, m122, m123, m124, m125, m126, m127, m128, b16⟩ ?_)))))))))
       show (intOf ((.int .i64 ((j : Int))))).toNat < _
       simp only [h8, intOf]; omega
      ·refine Fx.L.v (.bool false) (x_gtrF rfl rfl rfl c104) (Fx.L.v (.bool false) (x_pickT rfl rfl rfl) (Fx.L.nil (Fx.seqN (Fx.W.cond (b := false) rfl (fun h => nomatch h) (fun _ => Fx.W.exit (Fx.seqX (Fx.lpX (Fx.blkX (Fx.seqN (Fx.W.seq ?_))))))))))
       -- region 20 draws
       refine Fx.W.reord [0, 1, 2, 3, 5, 4, 6, 7, 8] [0, 0, 0, 0, 4, 0, 4, 0, 3] Fx.Mk Fx.Mk.refl Fx.Mk.trans (certs := [(8, 4, [4]), (8, 6, [6])]) (by kernel_rfl) (by kernel_rfl) (by kernel_rfl) (by kernel_rfl) (by kernel_rfl) fun wt4 hbwt4 hzwt4 => ?_
       have s13 : Fx.Stp w10.heap.size w10 wt4 := Fx.Stp.of_below hbwt4
       have m129 := m104.stp s13 (m104.notNew (Nat.le_refl _))
       have m130 := m105.up s13.old
       have m132 := m107.stp s13 (Nat.ne_of_lt (m107.lt))
       have m133 := m108.stpB s13 (Nat.ne_of_lt (m108.lt))
       have m134 := m109.stp s13 (Nat.ne_of_lt (m109.lt))
       have m135 := m110.stp s13 (Nat.ne_of_lt (m110.lt))
       have m136 := m111.stpB s13 (Nat.ne_of_lt (m111.lt))
       have b17 := s13.below b14 (Nat.le_trans hB b14.size) (Nat.le_trans hB b14.size)
       refine Fx.R.p (.pointer (some ⟨p, 0, none⟩)) (fun v1 => x_move rfl h5) (Fx.R.p (.pointer (some ⟨p, 0, none⟩)) (fun v1 => x_nil rfl rfl) (Fx.R.p (.pointer (some ⟨p, 0, none⟩)) (fun v1 => x_field rfl rfl Try.underlying71 rfl (s := 20) (by kernel_rfl) rfl rfl) (Fx.R.p (.pointer (some ⟨p, 18, none⟩)) (fun v1 => x_field rfl rfl Try.underlying43 rfl (s := 1) (by kernel_rfl) rfl (by show _ + 18 = _; omega)) (Fx.R.p (.int .i64 ((k : Int))) (fun v1 => x_move rfl h8) (Fx.R.s (.slice (some ⟨g4, 0, none⟩) (m.s.nn + 1) (cap1)) (x_load1 (x := Fx.updV (ldY m) 18 (.slice (some ⟨g4, 0, none⟩) (m.s.nn + 1) (cap1))) rfl rfl (by kernel_rfl) m135.cel (i := 18) (by omega) (by omega) (Fx.updV_eq (by omega))) ?_)))))
       refine Fx.R.s (.agg (Fx.varr 56 (ndY (idE v.o v.seq) v.node (upd (fun _ => 0) a v.amt)))) (x_loadA (x := ndY (idE v.o v.seq) v.node (upd (fun _ => 0) a v.amt)) (y := ndY (idE v.o v.seq) v.node (upd (fun _ => 0) a v.amt)) rfl h7 (by kernel_rfl) (by kernel_rfl) m134.cel (i := 0) (by omega) (by omega) (fun j _ => by rw [Nat.zero_add])) ?_
       refine Fx.R.p (.pointer (some ⟨g4, 56 * k, none⟩)) (fun v1 => x_indexS rfl rfl rfl Try.underlying40 (s := 56) (by kernel_rfl) (by omega) (by omega) (by omega)) (Fx.R.eff (by rfl) ?_)
       refine Fx.L.ownA (x := Fx.flat 56 (Fx.shF (fun kq => ndY (m.id kq) (m.par kq) (m.R kq)) (ndY (idE v.o v.seq) v.node (upd (fun _ => 0) a v.amt)) m.s.nn k)) (y := ndY (idE v.o v.seq) v.node (upd (fun _ => 0) a v.amt)) (by rfl) rfl rfl rfl rfl (fun j _ => ndY_one' _ _ _ j) (by kernel_rfl) m136 (i := 56 * k) (by omega) fun w12 m137 s14 z8 => ?_
       have hct6 := Fx.ChT.of_stp s14 m136.tyB
       have m138 := m129.chT hct6 (by decide)
       have m139 := m130.chT hct6 (by decide)
       have m141 := m132.chT hct6 (by decide)
       have m142 := m133.chT hct6 (by decide)
       have m143 := m134.stp s14 (by omega)
       have m144 := m135.chT hct6 (by decide)
       have b18 := s14.below b17 (Nat.le_trans hB b17.size) m136.blk.1
       have m145 : Fx.Own w12 B 50 56 (.slice (some ⟨g4, 0, none⟩) (m.s.nn + 1) cap1) (m.s.nn + 1) (Fx.flat 56 (Fx.insF (fun kq => ndY (m.id kq) (m.par kq) (m.R kq)) k (ndY (idE v.o v.seq) v.node (upd (fun _ => 0) a v.amt)))) := m137.congr (fun pq hp => (Fx.ovr_flat (k := k) (by omega) pq hp).trans (Fx.flat_cong (fun i hi q _ => Fx.ins_end (by omega) i hi q) pq hp))
       refine Fx.L.nil (Fx.R.nil (Fx.seqN (Fx.W.seq (Fx.W.list (Fx.L.v (.int .i64 (0)) (x_assign rfl rfl) (Fx.L.nil (Fx.seqN (Fx.W.ret (⟨.int .i64 (0), Fx.retV1 Try.results120 (by exact rfl), ?_⟩)))))))))
       have ee : makesE m.core v = addE m.t m.tn (idE v.o v.seq) v.node := if_neg (fun h => h.elim (fun h => by rw [show ownN m.core.id v.o m.core.nn = cn0 from hcn0.symm] at h; omega) (fun h => by omega))
       have ek : k = downI m.id m.s.nn (idE v.o v.seq) := Fx.down_eq hk (fun i a b => decide_eq_true (hgt i a b)) (.inr (fun j2 e => by rw [show j2 = j by omega]; exact decide_eq_false c104))
       have m146 : Fx.Own w12 B 50 56 (.slice (some ⟨g4, 0, none⟩) (m.s.nn + 1) cap1) (m.s.nn + 1) (Fx.flat 56 fun kq => ndY (Fx.insI m.id k (idE v.o v.seq) kq) (Fx.insI m.par k v.node kq) (Fx.insI m.R k (upd (fun _ => 0) a v.amt) kq)) := by rw [← insF_nd]; exact m145
       have eR : (upd (fun _ => 0) a v.amt) = upd (fun _ => 0) (v.o - 1).toNat v.amt := by rw [show (v.o - 1).toNat = a by omega]
       have bn9 : m.tn + 1 ≤ 33 := add_room hc0
       refine ⟨congrArg (fun q => Ending.returned (Value.int .i64 q)) (hc0.symm.trans ee.symm), b18, fun _ => ⟨{ m with s := { m.s with na := some ⟨g4, 0, none⟩, nn := m.s.nn + 1, nc := cap1 }, id := Fx.insI m.id k (idE v.o v.seq), par := Fx.insI m.par k v.node, R := Fx.insI m.R k (upd (fun _ => 0) a v.amt), ta := some ⟨g9, 0, none⟩, tn := m.tn + 1, tc := cap9, t := insT m.t (Fx.down (fun i => decide ((idE v.o v.seq) < m.t i 0)) m.tn) (idE v.o v.seq) v.node }, ?_, ?_⟩⟩
       ·unfold makesC; rw [show downI m.core.id m.core.nn (idE v.o v.seq) = k from ek.symm, ← eR]; rfl
       ·exact { c := m144.to (ldY_nodes m _ _ _), n := m146, g := m138, tc := m141, t := m142, r := m139, pB := hLp, tB := hLtb, bn := (by have := bnn; show m.s.nn + 1 ≤ 1000; omega), bg := bg, bt := (by show m.tn + 1 ≤ 1000; omega), br := hL.br }
     ·refine Fx.L.v (.bool false) (x_gtrF rfl rfl rfl c91) (Fx.L.v (.bool false) (x_move rfl rfl) (Fx.L.skip (by rfl) rfl (Fx.L.skip (by rfl) rfl (Fx.L.skip (by rfl) rfl (Fx.L.skip (by rfl) rfl (Fx.L.skip (by rfl) rfl (Fx.L.skip (by rfl) rfl (Fx.L.skip (by rfl) rfl (Fx.L.skip (by rfl) rfl (Fx.L.skip (by rfl) rfl (Fx.L.skip (by rfl) rfl (Fx.L.skip (by rfl) rfl (Fx.L.skip (by rfl) rfl (Fx.L.v (.bool false) (x_pickF rfl rfl rfl) (Fx.L.nil (Fx.seqN (Fx.W.cond (b := false) rfl (fun h => nomatch h) (fun _ => Fx.W.exit (Fx.seqX (Fx.lpX (Fx.blkX (Fx.seqN (Fx.W.seq ?_)))))))))))))))))))))))
      -- region 20 draws
      refine Fx.W.reord [0, 1, 2, 3, 5, 4, 6, 7, 8] [0, 0, 0, 0, 4, 0, 4, 0, 3] Fx.Mk Fx.Mk.refl Fx.Mk.trans (certs := [(8, 4, [4]), (8, 6, [6])]) (by kernel_rfl) (by kernel_rfl) (by kernel_rfl) (by kernel_rfl) (by kernel_rfl) fun wt5 hbwt5 hzwt5 => ?_
      have s15 : Fx.Stp w10.heap.size w10 wt5 := Fx.Stp.of_below hbwt5
      have m148 := m104.stp s15 (m104.notNew (Nat.le_refl _))
      have m149 := m105.up s15.old
      have m151 := m107.stp s15 (Nat.ne_of_lt (m107.lt))
      have m152 := m108.stpB s15 (Nat.ne_of_lt (m108.lt))
      have m153 := m109.stp s15 (Nat.ne_of_lt (m109.lt))
      have m154 := m110.stp s15 (Nat.ne_of_lt (m110.lt))
      have m155 := m111.stpB s15 (Nat.ne_of_lt (m111.lt))
      have b19 := s15.below b14 (Nat.le_trans hB b14.size) (Nat.le_trans hB b14.size)
      refine Fx.R.p (.pointer (some ⟨p, 0, none⟩)) (fun v1 => x_move rfl h5) (Fx.R.p (.pointer (some ⟨p, 0, none⟩)) (fun v1 => x_nil rfl rfl) (Fx.R.p (.pointer (some ⟨p, 0, none⟩)) (fun v1 => x_field rfl rfl Try.underlying71 rfl (s := 20) (by kernel_rfl) rfl rfl) (Fx.R.p (.pointer (some ⟨p, 18, none⟩)) (fun v1 => x_field rfl rfl Try.underlying43 rfl (s := 1) (by kernel_rfl) rfl (by show _ + 18 = _; omega)) (Fx.R.p (.int .i64 ((k : Int))) (fun v1 => x_move rfl h8) (Fx.R.s (.slice (some ⟨g4, 0, none⟩) (m.s.nn + 1) (cap1)) (x_load1 (x := Fx.updV (ldY m) 18 (.slice (some ⟨g4, 0, none⟩) (m.s.nn + 1) (cap1))) rfl rfl (by kernel_rfl) m154.cel (i := 18) (by omega) (by omega) (Fx.updV_eq (by omega))) ?_)))))
      refine Fx.R.s (.agg (Fx.varr 56 (ndY (idE v.o v.seq) v.node (upd (fun _ => 0) a v.amt)))) (x_loadA (x := ndY (idE v.o v.seq) v.node (upd (fun _ => 0) a v.amt)) (y := ndY (idE v.o v.seq) v.node (upd (fun _ => 0) a v.amt)) rfl h7 (by kernel_rfl) (by kernel_rfl) m153.cel (i := 0) (by omega) (by omega) (fun j _ => by rw [Nat.zero_add])) ?_
      refine Fx.R.p (.pointer (some ⟨g4, 56 * k, none⟩)) (fun v1 => x_indexS rfl rfl rfl Try.underlying40 (s := 56) (by kernel_rfl) (by omega) (by omega) (by omega)) (Fx.R.eff (by rfl) ?_)
      refine Fx.L.ownA (x := Fx.flat 56 (Fx.shF (fun kq => ndY (m.id kq) (m.par kq) (m.R kq)) (ndY (idE v.o v.seq) v.node (upd (fun _ => 0) a v.amt)) m.s.nn k)) (y := ndY (idE v.o v.seq) v.node (upd (fun _ => 0) a v.amt)) (by rfl) rfl rfl rfl rfl (fun j _ => ndY_one' _ _ _ j) (by kernel_rfl) m155 (i := 56 * k) (by omega) fun w13 m156 s16 z9 => ?_
      have hct7 := Fx.ChT.of_stp s16 m155.tyB
      have m157 := m148.chT hct7 (by decide)
      have m158 := m149.chT hct7 (by decide)
      have m160 := m151.chT hct7 (by decide)
      have m161 := m152.chT hct7 (by decide)
      have m162 := m153.stp s16 (by omega)
      have m163 := m154.chT hct7 (by decide)
      have b20 := s16.below b19 (Nat.le_trans hB b19.size) m155.blk.1
      have m164 : Fx.Own w13 B 50 56 (.slice (some ⟨g4, 0, none⟩) (m.s.nn + 1) cap1) (m.s.nn + 1) (Fx.flat 56 (Fx.insF (fun kq => ndY (m.id kq) (m.par kq) (m.R kq)) k (ndY (idE v.o v.seq) v.node (upd (fun _ => 0) a v.amt)))) := m156.congr (fun pq hp => (Fx.ovr_flat (k := k) (by omega) pq hp).trans (Fx.flat_cong (fun i hi q _ => Fx.ins_end (by omega) i hi q) pq hp))
      refine Fx.L.nil (Fx.R.nil (Fx.seqN (Fx.W.seq (Fx.W.list (Fx.L.v (.int .i64 (0)) (x_assign rfl rfl) (Fx.L.nil (Fx.seqN (Fx.W.ret (⟨.int .i64 (0), Fx.retV1 Try.results120 (by exact rfl), ?_⟩)))))))))
      have ee : makesE m.core v = addE m.t m.tn (idE v.o v.seq) v.node := if_neg (fun h => h.elim (fun h => by rw [show ownN m.core.id v.o m.core.nn = cn0 from hcn0.symm] at h; omega) (fun h => by omega))
      have ek : k = downI m.id m.s.nn (idE v.o v.seq) := Fx.down_eq hk (fun i a b => decide_eq_true (hgt i a b)) (.inl (by omega))
      have m165 : Fx.Own w13 B 50 56 (.slice (some ⟨g4, 0, none⟩) (m.s.nn + 1) cap1) (m.s.nn + 1) (Fx.flat 56 fun kq => ndY (Fx.insI m.id k (idE v.o v.seq) kq) (Fx.insI m.par k v.node kq) (Fx.insI m.R k (upd (fun _ => 0) a v.amt) kq)) := by rw [← insF_nd]; exact m164
      have eR : (upd (fun _ => 0) a v.amt) = upd (fun _ => 0) (v.o - 1).toNat v.amt := by rw [show (v.o - 1).toNat = a by omega]
      have bn9 : m.tn + 1 ≤ 33 := add_room hc0
      refine ⟨congrArg (fun q => Ending.returned (Value.int .i64 q)) (hc0.symm.trans ee.symm), b20, fun _ => ⟨{ m with s := { m.s with na := some ⟨g4, 0, none⟩, nn := m.s.nn + 1, nc := cap1 }, id := Fx.insI m.id k (idE v.o v.seq), par := Fx.insI m.par k v.node, R := Fx.insI m.R k (upd (fun _ => 0) a v.amt), ta := some ⟨g9, 0, none⟩, tn := m.tn + 1, tc := cap9, t := insT m.t (Fx.down (fun i => decide ((idE v.o v.seq) < m.t i 0)) m.tn) (idE v.o v.seq) v.node }, ?_, ?_⟩⟩
      ·unfold makesC; rw [show downI m.core.id m.core.nn (idE v.o v.seq) = k from ek.symm, ← eR]; rfl
      ·exact { c := m163.to (ldY_nodes m _ _ _), n := m165, g := m157, tc := m160, t := m161, r := m158, pB := hLp, tB := hLtb, bn := (by have := bnn; show m.s.nn + 1 ≤ 1000; omega), bg := bg, bt := (by show m.tn + 1 ≤ 1000; omega), br := hL.br }
end Go.Proofs.Ytolmkjepieoloaa
namespace Go.Proofs.Ytolmkjepieoloaa
open Go.RowKit
namespace Rt
theorem turned_cases (x : Nat → Int) (n : Int) (is : Bool) (em : Int) (off : Nat) :
    ((turnedM x n is em off).1 = zero ∧ (turnedM x n is em off).2 ≠ 0 ∧ ¬ (may x = true ∧ 1 ≤ n ∧ n ≤ 1125899906842624 ∧ is = true ∧ em = 0 ∧ x off + n ≤ 1125899906842624)) ∨
    ((may x = true ∧ 1 ≤ n ∧ n ≤ 1125899906842624 ∧ is = true ∧ em = 0 ∧ x off + n ≤ 1125899906842624) ∧ turnedM x n is em off = (upd x off (x off + n), 0)) := by
  unfold turnedM
  by_cases h1 : may x = true
  · by_cases h2 : 1 ≤ n
    · by_cases h3 : n ≤ 1125899906842624
      · rw [h1, decide_eq_true h2, decide_eq_true h3]
        simp only [Bool.and_self, if_true]
        cases is
        · left; exact ⟨rfl, (by show (10 : Int) ≠ 0; decide), fun h => by cases h.2.2.2.1⟩
        · by_cases h4 : em = 0
          · by_cases h5 : x off + n ≤ 1125899906842624
            · right; exact ⟨⟨trivial, h2, h3, rfl, h4, h5⟩, by rw [if_pos rfl, if_pos h4, if_pos h5]⟩
            · left; rw [if_pos rfl, if_pos h4, if_neg h5]; exact ⟨rfl, by decide, fun h => h5 h.2.2.2.2.2⟩
          · left; rw [if_pos rfl, if_neg h4]; exact ⟨rfl, h4, fun h => h4 h.2.2.2.2.1⟩
      · left; rw [decide_eq_false h3, Bool.and_false, if_neg (by decide)]; exact ⟨rfl, by decide, fun h => h3 h.2.2.1⟩
    · left; rw [decide_eq_false h2, Bool.and_false, Bool.false_and, if_neg (by decide)]; exact ⟨rfl, by decide, fun h => h2 h.2.1⟩
  · left; rw [show may x = false by simpa using h1, Bool.false_and, Bool.false_and, if_neg (by decide)]; exact ⟨rfl, by decide, fun h => by cases h.1⟩
theorem upd_bd {x : Nat → Int} (h : Ent x) {off : Nat} {n : Int} (h1 : 1 ≤ n) (h2 : x off + n ≤ 1125899906842624) (ho : off < 54) : Ent (upd x off (x off + n)) := by
  intro p hp
  unfold upd
  split
  · have := h off ho; omega
  · exact h p hp
theorem reg_nat {i : Int} (h : regB i = true) : ∃ a : Nat, a < 6 ∧ i = (a : Int) + 1 ∧ i.toNat - 1 = a := by
  have : 1 ≤ i ∧ i ≤ 6 := by unfold regB at h; simpa using h
  exact ⟨(i - 1).toNat, by omega, by omega, by omega⟩
structure Moved (x y : Nat → Int) (a b : Nat) (n : Int) : Prop where
  may : may y = true
  l : ∀ k, k < 6 → L y k = L x k + (if k = b then n else 0) - (if k = a then n else 0)
  g : gSum y = gSum x
  u : uSum y = uSum x
theorem move_ok {x : Nat → Int} {i j n : Int} (h : (moveM x i j n).2 = 0) : ∃ a b : Nat, a < 6 ∧ b < 6 ∧ a ≠ b ∧ i = (a : Int) + 1 ∧ j = (b : Int) + 1 ∧ 1 ≤ n ∧ n ≤ 1125899906842624 ∧ n ≤ L x a ∧ Moved x (moveM x i j n).1 a b n ∧ (moveM x i j n).1 = upd x (18 + a * 6 + b) (x (18 + a * 6 + b) + n) := by
  unfold moveM at *
  rcases turned_cases x n (regB i && regB j) (moveE x i j n) (moveO i j) with ⟨_, h2, _⟩ | ⟨⟨hm, h1, h2, hr, he, hx⟩, heq⟩
  · exact absurd h h2
  · rw [Bool.and_eq_true] at hr
    obtain ⟨a, ha, hia, hta⟩ := reg_nat hr.1
    obtain ⟨b, hb, hjb, htb⟩ := reg_nat hr.2
    have ho : moveO i j = 18 + a * 6 + b := by unfold moveO; rw [hta, htb]
    rw [ho] at heq hx
    rw [ho]
    have hne : a ≠ b := by
      intro hab
      unfold moveE at he
      rw [if_pos (by rw [hia, hjb, hab])] at he
      cases he
    have hL : n ≤ L x a := by
      unfold moveE at he
      rw [if_neg (by omega)] at he
      by_cases hl : localV x i < n
      · rw [decide_eq_true hl] at he; cases he
      · rw [hia, localV_L hm a ha] at hl; omega
    obtain ⟨e, al, gs⟩ := (may_iff x).1 hm
    have hl := L_move x a b ha hb n
    have o1 : ∀ p, p < 18 → upd x (18 + a * 6 + b) (x (18 + a * 6 + b) + n) p = x p := fun p hp => upd_other _ _ _ _ (by omega)
    have hg : gSum (upd x (18 + a * 6 + b) (x (18 + a * 6 + b) + n)) = gSum x := by unfold gSum G; rw [o1 0 (by omega), o1 1 (by omega), o1 2 (by omega), o1 3 (by omega), o1 4 (by omega), o1 5 (by omega)]
    have hfst : (turnedM x n (regB i && regB j) (moveE x i j n) (18 + a * 6 + b)).1 = upd x (18 + a * 6 + b) (x (18 + a * 6 + b) + n) := by rw [heq]
    rw [hfst]
    refine ⟨a, b, ha, hb, hne, hia, hjb, h1, h2, hL, ⟨?_, hl, hg, ?_⟩, rfl⟩
    · rw [may_iff]
      refine ⟨upd_bd e h1 hx (by omega), fun k hk => ?_, by rw [hg]; exact gs⟩
      obtain ⟨c1, c2, c3⟩ := al k hk
      refine ⟨?_, ?_, ?_⟩
      · rw [hl k hk]
        split
        · split <;> omega
        · split
          · rename_i hka; subst hka; omega
          · omega
      · unfold F C at *; rw [o1 _ (by omega), o1 _ (by omega)]; exact c2
      · unfold R at *; rw [upd_other _ _ _ _ (by omega)]; exact c3
    · unfold uSum C F; simp only [o1 _ (show 6 + 0 < 18 by omega), o1 _ (show 6 + 1 < 18 by omega), o1 _ (show 6 + 2 < 18 by omega), o1 _ (show 6 + 3 < 18 by omega), o1 _ (show 6 + 4 < 18 by omega), o1 _ (show 6 + 5 < 18 by omega), o1 _ (show 12 + 0 < 18 by omega), o1 _ (show 12 + 1 < 18 by omega), o1 _ (show 12 + 2 < 18 by omega), o1 _ (show 12 + 3 < 18 by omega), o1 _ (show 12 + 4 < 18 by omega), o1 _ (show 12 + 5 < 18 by omega)]
theorem upd_rows (x : Nat → Int) (off : Nat) (ho : off < 18) (v : Int) (a b : Nat) : R (upd x off v) a b = R x a b := upd_other _ _ _ _ (by omega)
theorem L_low (x : Nat → Int) (off : Nat) (ho : off < 18) (v : Int) (k : Nat) : L (upd x off v) k = L x k + (G (upd x off v) k - G x k) + (F (upd x off v) k - F x k) - (C (upd x off v) k - C x k) := by
  unfold L
  simp only [upd_rows x off ho v]
  omega
theorem C_upd (x : Nat → Int) (a : Nat) (n : Int) (k : Nat) : C (upd x (6 + a) (x (6 + a) + n)) k = C x k + (if k = a then n else 0) := by
  unfold C upd
  by_cases h : k = a
  · subst h; simp
  · rw [if_neg (by omega), if_neg h]; omega
theorem F_upd (x : Nat → Int) (a : Nat) (n : Int) (k : Nat) : F (upd x (12 + a) (x (12 + a) + n)) k = F x k + (if k = a then n else 0) := by
  unfold F upd
  by_cases h : k = a
  · subst h; simp
  · rw [if_neg (by omega), if_neg h]; omega
theorem G_upd (x : Nat → Int) (a : Nat) (n : Int) (k : Nat) : G (upd x a (x a + n)) k = G x k + (if k = a then n else 0) := by
  unfold G upd
  by_cases h : k = a
  · subst h; simp
  · rw [if_neg h, if_neg h]; omega
theorem six (a : Nat) (ha : a < 6) (n : Int) : (if 0 = a then n else 0) + (if 1 = a then n else 0) + (if 2 = a then n else 0) + (if 3 = a then n else 0) + (if 4 = a then n else 0) + (if 5 = a then n else 0) = n := by
  have : a = 0 ∨ a = 1 ∨ a = 2 ∨ a = 3 ∨ a = 4 ∨ a = 5 := by omega
  rcases this with h | h | h | h | h | h <;> subst h <;> simp
theorem take_ok {x : Nat → Int} {i n : Int} (h : (takeM x i n).2 = 0) : ∃ a : Nat, a < 6 ∧ i = (a : Int) + 1 ∧ 1 ≤ n ∧ n ≤ 1125899906842624 ∧ n ≤ L x a ∧ C x a + n ≤ 1125899906842624 ∧ may (takeM x i n).1 = true ∧
    (∀ k, k < 6 → L (takeM x i n).1 k = L x k - (if k = a then n else 0)) ∧ gSum (takeM x i n).1 = gSum x ∧ uSum (takeM x i n).1 = uSum x + n ∧ (takeM x i n).1 = upd x (6 + a) (x (6 + a) + n) := by
  unfold takeM at *
  rcases turned_cases x n (regB i) (takeE x i n) (6 + (i.toNat - 1)) with ⟨_, h2, _⟩ | ⟨⟨hm, h1, h2, hr, he, hx⟩, heq⟩
  · exact absurd h h2
  · obtain ⟨a, ha, hia, hta⟩ := reg_nat hr
    rw [hta] at heq hx
    rw [hta]
    have hL : n ≤ L x a := by
      unfold takeE at he
      by_cases hl : localV x i < n
      · rw [decide_eq_true hl] at he; cases he
      · rw [hia, localV_L hm a ha] at hl; omega
    obtain ⟨e, al, gs⟩ := (may_iff x).1 hm
    have hfst : (turnedM x n (regB i) (takeE x i n) (6 + a)).1 = upd x (6 + a) (x (6 + a) + n) := by rw [heq]
    rw [hfst]
    have hC := C_upd x a n
    have hG : ∀ k, k < 6 → G (upd x (6 + a) (x (6 + a) + n)) k = G x k := fun k hk => upd_other _ _ _ _ (by omega)
    have hF : ∀ k, k < 6 → F (upd x (6 + a) (x (6 + a) + n)) k = F x k := fun k hk => upd_other _ _ _ _ (by omega)
    have hl : ∀ k, k < 6 → L (upd x (6 + a) (x (6 + a) + n)) k = L x k - (if k = a then n else 0) := by
      intro k hk
      rw [L_low x (6 + a) (by omega), hG k hk, hF k hk, hC k]; omega
    have hg : gSum (upd x (6 + a) (x (6 + a) + n)) = gSum x := by unfold gSum; rw [hG 0 (by omega), hG 1 (by omega), hG 2 (by omega), hG 3 (by omega), hG 4 (by omega), hG 5 (by omega)]
    refine ⟨a, ha, hia, h1, h2, hL, hx, ?_, hl, hg, ?_, rfl⟩
    · rw [may_iff]
      refine ⟨upd_bd e h1 hx (by omega), fun k hk => ?_, by rw [hg]; exact gs⟩
      obtain ⟨c1, c2, c3⟩ := al k hk
      refine ⟨?_, ?_, ?_⟩
      · rw [hl k hk]
        split
        · rename_i hka; subst hka; omega
        · omega
      · rw [hF k hk, hC k]; split <;> omega
      · rw [upd_rows x (6 + a) (by omega)]; exact c3
    · unfold uSum
      rw [hF 0 (by omega), hF 1 (by omega), hF 2 (by omega), hF 3 (by omega), hF 4 (by omega), hF 5 (by omega), hC 0, hC 1, hC 2, hC 3, hC 4, hC 5]
      have := six a ha n
      omega
theorem free_ok {x : Nat → Int} {i n : Int} (h : (freeM x i n).2 = 0) : ∃ a : Nat, a < 6 ∧ i = (a : Int) + 1 ∧ 1 ≤ n ∧ n ≤ 1125899906842624 ∧ n ≤ C x a - F x a ∧ may (freeM x i n).1 = true ∧
    (∀ k, k < 6 → L (freeM x i n).1 k = L x k + (if k = a then n else 0)) ∧ gSum (freeM x i n).1 = gSum x ∧ uSum (freeM x i n).1 = uSum x - n ∧ (freeM x i n).1 = upd x (12 + a) (x (12 + a) + n) := by
  unfold freeM at *
  rcases turned_cases x n (regB i) (freeE x i n) (12 + (i.toNat - 1)) with ⟨_, h2, _⟩ | ⟨⟨hm, h1, h2, hr, he, hx⟩, heq⟩
  · exact absurd h h2
  · obtain ⟨a, ha, hia, hta⟩ := reg_nat hr
    rw [hta] at heq hx
    rw [hta]
    have hL : n ≤ C x a - F x a := by
      unfold freeE at he
      rw [hta] at he
      by_cases hl : C x a - F x a < n
      · rw [decide_eq_true hl] at he; cases he
      · omega
    obtain ⟨e, al, gs⟩ := (may_iff x).1 hm
    have hfst : (turnedM x n (regB i) (freeE x i n) (12 + a)).1 = upd x (12 + a) (x (12 + a) + n) := by rw [heq]
    rw [hfst]
    have hF := F_upd x a n
    have hG : ∀ k, k < 6 → G (upd x (12 + a) (x (12 + a) + n)) k = G x k := fun k hk => upd_other _ _ _ _ (by omega)
    have hC : ∀ k, k < 6 → C (upd x (12 + a) (x (12 + a) + n)) k = C x k := fun k hk => upd_other _ _ _ _ (by omega)
    have hl : ∀ k, k < 6 → L (upd x (12 + a) (x (12 + a) + n)) k = L x k + (if k = a then n else 0) := by
      intro k hk
      rw [L_low x (12 + a) (by omega), hG k hk, hF k, hC k hk]; omega
    have hg : gSum (upd x (12 + a) (x (12 + a) + n)) = gSum x := by unfold gSum; rw [hG 0 (by omega), hG 1 (by omega), hG 2 (by omega), hG 3 (by omega), hG 4 (by omega), hG 5 (by omega)]
    refine ⟨a, ha, hia, h1, h2, hL, ?_, hl, hg, ?_, rfl⟩
    · rw [may_iff]
      refine ⟨upd_bd e h1 hx (by omega), fun k hk => ?_, by rw [hg]; exact gs⟩
      obtain ⟨c1, c2, c3⟩ := al k hk
      refine ⟨?_, ?_, ?_⟩
      · rw [hl k hk]; split <;> omega
      · rw [hF k, hC k hk]
        split
        · rename_i hka; subst hka; omega
        · omega
      · rw [upd_rows x (12 + a) (by omega)]; exact c3
    · unfold uSum
      rw [hC 0 (by omega), hC 1 (by omega), hC 2 (by omega), hC 3 (by omega), hC 4 (by omega), hC 5 (by omega), hF 0, hF 1, hF 2, hF 3, hF 4, hF 5]
      have := six a ha n
      omega
end Rt
end Go.Proofs.Ytolmkjepieoloaa
namespace Go.Proofs.Ytolmkjepieoloaa
open Go.RowKit Rt
open Fx (x_move x_assign x_field x_load1 x_pickF x_pickT x_nil x_conv x_indexS x_index x_leqF x_loadA x_len x_gtrF x_build x_eqlF x_eqlT)
section
namespace Rt
def walkR (f : (Nat → Int) → (Nat → Int) × Int) (idx : Nat → Nat) (R : Nat → Nat → Int) : Nat → (Nat → Nat → Int) × Int
  | 0 => (R, 0)
  | j + 1 => if (walkR f idx R j).2 = 0 then (if (f ((walkR f idx R j).1 (idx j))).2 = 0 then (updA (walkR f idx R j).1 (idx j) (f ((walkR f idx R j).1 (idx j))).1, 0) else ((walkR f idx R j).1, (f ((walkR f idx R j).1 (idx j))).2)) else walkR f idx R j
section
variable {f : (Nat → Int) → (Nat → Int) × Int} {idx : Nat → Nat} {R Rk : Nat → Nat → Int} {k q : Nat}
theorem walkR_step (h : walkR f idx R k = (Rk, 0)) (e : idx k = q) (h0 : (f (Rk q)).2 = 0) : walkR f idx R (k + 1) = (updA Rk q (f (Rk q)).1, 0) := by
  unfold walkR; rw [h, if_pos rfl, e, if_pos h0]
theorem walkR_err (h : walkR f idx R k = (Rk, 0)) (e : idx k = q) (h0 : ¬ (f (Rk q)).2 = 0) : (walkR f idx R (k + 1)).2 = (f (Rk q)).2 := by
  unfold walkR; rw [h, if_pos rfl, e, if_neg h0]
theorem walkR_stop (h0 : ¬ (walkR f idx R k).2 = 0) : ∀ n, k ≤ n → walkR f idx R n = walkR f idx R k
  | 0, h => by obtain rfl : k = 0 := by omega
               rfl
  | n + 1, h => by
    by_cases e : k = n + 1
    · rw [e]
    · have := walkR_stop h0 n (by omega)
      rw [walkR, this, if_neg h0]
end
def lead (P : Nat → Bool) : Nat → Nat
  | 0 => 0
  | n + 1 => if lead P n = n ∧ P n = true then n + 1 else lead P n
theorem lead_le (P : Nat → Bool) : ∀ n, lead P n ≤ n
  | 0 => Nat.le_refl _
  | n + 1 => by
    unfold lead; split
    · exact Nat.le_refl _
    · have := lead_le P n; omega
theorem lead_all {P : Nat → Bool} : ∀ {n : Nat}, (∀ i, i < n → P i = true) → lead P n = n
  | 0, _ => rfl
  | n + 1, h => by unfold lead; rw [if_pos ⟨lead_all fun i hi => h i (by omega), h n (by omega)⟩]
theorem lead_eq {P : Nat → Bool} {K : Nat} (h1 : ∀ i, i < K → P i = true) (h2 : P K = false) : ∀ {n : Nat}, K ≤ n → lead P n = K
  | 0, h => by unfold lead; omega
  | n + 1, h => by
    unfold lead
    by_cases e : K = n + 1
    · rw [if_pos ⟨lead_all fun i hi => h1 i (by omega), h1 n (by omega)⟩]; exact e.symm
    · rw [lead_eq h1 h2 (n := n) (by omega), if_neg]
      rintro ⟨h3, h4⟩
      subst h3; rw [h2] at h4; cases h4
def pathK (t : Nat → Nat → Int) (tn : Nat) (x : Int) : Nat := lead (fun i => decide (0 ≤ findT t tn (iterT t tn i x))) 1000
theorem pathK_eq {t : Nat → Nat → Int} {tn K D : Nat} {x : Int} (h1 : ∀ i, i < K → 0 ≤ findT t tn (iterT t tn i x)) (h2 : findT t tn (iterT t tn K x) < 0) (hD : findT t tn (iterT t tn D x) < 0) (hD2 : D ≤ 1000) : K = pathK t tn x := by
  have hK : K ≤ 1000 := by
    rcases Nat.lt_or_ge D K with h | h
    · have := h1 D h; omega
    · omega
  exact (lead_eq (fun i hi => decide_eq_true (h1 i hi)) (decide_eq_false (by omega)) hK).symm
end Rt
def LdC.node (L : LdC) (x : Int) : Int := firstI (fun i => decide (L.id i = x)) L.nn
def LdC.grant (L : LdC) (o r : Int) : Int := firstI (fun i => decide (L.g i 0 = o) && decide (L.g i 1 = r)) L.gn
def LdC.askedN (L : LdC) (a : Nat) (r : Int) : Int := firstI (fun i => decide (L.rq a i = r)) (L.rn a)
namespace Rt
def idxT (L : LdC) (x : Int) (i : Nat) : Nat := (L.node (iterT L.t L.tn i x)).toNat
def grN (v : EvM) : Nat → Int := fun j => if j = 0 then v.o else if j = 1 then v.req else if j = 2 then v.node else if j = 3 then v.amt else 0
def gtG (v : EvM) (x : Nat → Int) : Bool := decide (v.o < x 0) || (decide (x 0 = v.o) && decide (v.req < x 1))
def regN (v : EvM) : Nat := (v.o - 1).toNat
def takesW (L : LdC) (v : EvM) : (Nat → Nat → Int) × Int := walkR (fun x => takeM x v.o v.amt) (idxT L v.node) L.R (pathK L.t L.tn v.node)
def takesE (L : LdC) (v : EvM) : Int := if 0 ≤ L.askedN (regN v) v.req then 14 else if pathK L.t L.tn v.node = 0 then 9 else (takesW L v).2
def addReq (L : LdC) (a : Nat) (r : Int) : LdC := { L with rn := updA L.rn a (L.rn a + 1), rq := updA L.rq a (updA (L.rq a) (L.rn a) r) }
def takesC (L : LdC) (v : EvM) : LdC :=
  addReq { L with R := (takesW L v).1, gn := L.gn + 1, g := Fx.insI L.g (Fx.down (fun i => gtG v (L.g i)) L.gn) (grN v) } (regN v) v.req
theorem ndR_store {n q : Nat} {id par : Nat → Int} {R : Nat → Nat → Int} {r : Nat → Int} : ∀ i, i < n → ∀ j, j < 56 → Fx.updF (fun kq => ndY (id kq) (par kq) (R kq)) q (Fx.ovr (ndY (id q) (par q) (R q)) 2 54 (Fx.rv .i64 r)) i j = ndY (id i) (par i) (updA R q r i) j := fun i _ j hj => by
  unfold Fx.updF updA
  by_cases h : i = q
  · subst h
    rw [if_pos rfl, if_pos rfl]
    unfold Fx.ovr ndY Fx.rv
    by_cases h0 : j = 0
    · subst h0; rfl
    · by_cases h1 : j = 1
      · subst h1; rfl
      · rw [if_pos (by omega), if_neg h0, if_neg h1]
  · rw [if_neg h, if_neg h]
theorem insF_gr {g : Nat → Nat → Int} {k : Nat} {x : Nat → Int} : Fx.insF (fun kq => grY (g kq)) k (grY x) = fun kq => grY (Fx.insI g k x kq) := by
  funext i
  unfold Fx.insF Fx.insI
  by_cases h : i < k
  · simp only [if_pos h]
  · by_cases h2 : i = k
    · simp only [if_neg h, if_pos h2]
    · simp only [if_neg h, if_neg h2]
theorem ldY_grants (m : LdM) (a : Option Addr) (n c : Nat) : Fx.updV (ldY m) 19 (.slice a n c) = ldY { m with s := { m.s with ga := a, gn := n, gc := c } } := by
  funext p
  unfold Fx.updV ldY
  by_cases h : p = 19
  · subst h; rfl
  · rw [if_neg h]
    by_cases h2 : p < 20
    · rw [if_pos h2, if_pos h2]; unfold stY
      by_cases h3 : p < 6
      · rw [if_pos h3, if_pos h3]
      · by_cases h4 : p < 12
        · rw [if_neg h3, if_pos h4, if_neg h3, if_pos h4]
        · by_cases h5 : p < 18
          · rw [if_neg h3, if_neg h4, if_pos h5, if_neg h3, if_neg h4, if_pos h5]
          · rw [if_neg h3, if_neg h4, if_neg h5, if_pos (by omega), if_neg h3, if_neg h4, if_neg h5, if_pos (by omega)]
    · rw [if_neg h2, if_neg h2]
theorem ldY_reqs (m : LdM) {i q : Nat} (hq : q = i + 21) (a : Option Addr) (n c : Nat) : Fx.updV (ldY m) q (.slice a n c) = ldY { m with ra := updA m.ra i a, rn := updA m.rn i n, rc := updA m.rc i c } := by
  subst hq
  funext p
  unfold Fx.updV ldY
  by_cases h : p = i + 21
  · subst h
    rw [if_pos rfl, if_neg (by omega), if_neg (by omega), Nat.add_sub_cancel]
    simp [updA]
  · rw [if_neg h]
    by_cases h2 : p < 20
    · rw [if_pos h2, if_pos h2]
    · rw [if_neg h2, if_neg h2]
      by_cases h3 : p = 20
      · rw [if_pos h3, if_pos h3]
      · rw [if_neg h3, if_neg h3]
        have h4 : ¬ p - 21 = i := by omega
        simp [updA, h4]
theorem Rqs.app {w w' : World} {B a g cap : Nat} {r : Int} {m m' : LdM} (h : Rqs w B 6 m) (_ha : a < 6) (h1 : m'.ra = updA m.ra a (some ⟨g, 0, none⟩)) (h2 : m'.rn = updA m.rn a (m.rn a + 1)) (h3 : m'.rc = updA m.rc a cap) (h4 : m'.rq = updA m.rq a (updA (m.rq a) (m.rn a) r))
    (hO : Fx.Own w' B 27 1 (.slice (some ⟨g, 0, none⟩) (m.rn a + 1) cap) (m.rn a + 1) (Fx.rv .u64 (updA (m.rq a) (m.rn a) r))) (hg : w.grownBy w' (reqV m a).ownBlock) (hgv : (reqV m a).ownBlock = some g ∨ g = w.heap.size) : Rqs w' B 6 m' := by
  have e1 : ∀ i, i ≠ a → reqV m' i = reqV m i := fun i hi => by unfold reqV; rw [h1, h2, h3]; simp [updA, hi]
  have e2 : reqV m' a = .slice (some ⟨g, 0, none⟩) (m.rn a + 1) cap := by unfold reqV; rw [h1, h2, h3]; simp [updA]
  have hne : ∀ i, i < 6 → i ≠ a → ∀ q, (reqV m i).ownBlock = some q → q ≠ g := fun i hi hia q hq e => by
    subst e
    rcases hgv with e3 | e3
    · exact h.2 i a hi _ha hia q hq e3
    · have := ((h.1 i hi).ge hq).2; omega
  refine ⟨fun i hi => ?_, fun i j hi hj hij q hq => ?_⟩
  · by_cases e : i = a
    · subst e; rw [e2, h2, h4]; simp only [updA, if_true]; exact hO
    · rw [e1 i e, h2, h4]
      simp only [updA, if_neg e]
      refine World.ownsRow.kept (h.1 i hi) hg ?_
      by_cases hn : (reqV m i).ownBlock = none
      · exact .inl hn
      · right
        intro e3
        cases hq : (reqV m i).ownBlock with
        | none => exact hn hq
        | some q => rw [hq] at e3; exact h.2 i a hi _ha e q hq e3.symm
  · by_cases e : i = a
    · subst e
      rw [e2] at hq
      rw [e1 j (fun e => hij e.symm)]
      intro h5
      exact hne j hj (fun e => hij e.symm) q h5 (Option.some.inj hq).symm
    · rw [e1 i e] at hq
      by_cases e4 : j = a
      · subst e4; rw [e2]; intro h5; exact hne i hi e q hq (Option.some.inj h5).symm
      · rw [e1 j e4]; exact h.2 i j hi hj hij q hq
end Rt
end
end Go.Proofs.Ytolmkjepieoloaa
namespace Go.Proofs.Ytolmkjepieoloaa
open Go.RowKit
def Rws (w0 : World) (l : List (Nat × (Nat → Int))) (w' : World) : Prop := (∀ p ∈ l, w'.heap[p.1]? = some (.cells (iarr .i64 54 p.2) 48 (0, 0))) ∧ Below w0.heap.size w0 w'
theorem Rws.up {w0 w w' : World} {l : List (Nat × (Nat → Int))} (h : Rws w0 l w) (hb : Below w.heap.size w w') : Rws w0 l w' := ⟨fun p hp => row_kept (h.1 p hp) hb, bch h.2 hb⟩
theorem Rws.drew {w0 w : World} {l : List (Nat × (Nat → Int))} (h : Rws w0 l w) : Rws w0 l w.drew := ⟨h.1, bN h.2 1⟩
theorem Rws.drop {w0 w : World} {p : Nat × (Nat → Int)} {l : List (Nat × (Nat → Int))} (h : Rws w0 (p :: l) w) : Rws w0 l w := ⟨fun q hq => h.1 q (by simp [hq]), h.2⟩
theorem Rws.row {w0 w : World} {l : List (Nat × (Nat → Int))} (h : Rws w0 l w) (g : Nat) (x : Nat → Int) (hm : (g, x) ∈ l) : w.heap[g]? = some (.cells (iarr .i64 54 x) 48 (0, 0)) := h.1 (g, x) hm
theorem Rws.add {w0 w : World} {l : List (Nat × (Nat → Int))} (h : Rws w0 l w) {g : Nat} {x : Nat → Int} (c : w.heap[g]? = some (.cells (iarr .i64 54 x) 48 (0, 0))) : Rws w0 ((g, x) :: l) w :=
  ⟨fun p hp => by
    rcases List.mem_cons.1 hp with rfl | hp
    · exact c
    · exact h.1 p hp, h.2⟩
theorem Rws.start (w : World) (x : Nat → Int) : Rws w [(w.heap.size, x)] (w.alloc (.cells (iarr .i64 54 x) 48)) := ⟨fun p hp => by
    obtain rfl : p = (w.heap.size, x) := by simpa using hp
    exact heap_alloc_new w _, (Below.refl _ _).alloc (Nat.le_refl _) _⟩
end Go.Proofs.Ytolmkjepieoloaa
namespace Go.Proofs.Ytolmkjepieoloaa
open Go.RowKit Rt
open Fx (x_move x_assign x_field x_load1 x_pickF x_pickT x_nil x_conv x_indexS x_index x_leqF x_loadA x_len x_gtrF x_build x_eqlF x_eqlT)
namespace Rt
def lref (x : Nat → Int) (k : Nat) : Nat → Int
  | 0 => G x k - C x k + F x k
  | j + 1 => lref x k j + R x j k - R x k j
theorem lref_L (x : Nat → Int) (k : Nat) : lref x k 6 = L x k := by simp only [lref, L]; omega
theorem lref_bd {x : Nat → Int} (h : Ent x) (k : Nat) (hk : k < 6) : ∀ j : Nat, j ≤ 6 → -(1125899906842624 * ((j : Int) + 1)) ≤ lref x k j ∧ lref x k j ≤ 1125899906842624 * ((j : Int) + 2)
  | 0, _ => by
    have a := h k (by omega); have b := h (6 + k) (by omega); have c := h (12 + k) (by omega)
    simp only [lref, G, C, F]; omega
  | j + 1, hj => by
    have := lref_bd h k hk j (by omega)
    have a := h (18 + j * 6 + k) (by omega); have b := h (18 + k * 6 + j) (by omega)
    simp only [lref, R]; omega
end Rt
theorem f7_number (n : Int) (w : World) :
    Calls Try.prog 90 #[.int .i64 (n)] w fun e w' => e = .returned (.bool (okN n)) ∧ w' = w := by
 refine Fx.enter Try.func90 rfl (n := 9) rfl (by rfl) ?_
 refine Fx.W.seq (Fx.W.list (Fx.L.v (.bool false) (x_assign rfl rfl) (Fx.L.nil (Fx.seqN (Fx.W.seq (Fx.W.list (Fx.L.v (.int .i64 (n)) (x_move rfl rfl) ?_)))))))
 by_cases c4 : 0 ≤ n
 ·refine Fx.L.v (.bool true) (Fx.x_geqT rfl rfl rfl c4) (Fx.L.v (.bool true) (x_move rfl rfl) (Fx.L.v (.int .i64 (n)) (x_move rfl rfl) ?_))
  by_cases c7 : n ≤ 1125899906842624
  ·refine Fx.L.v (.bool true) (Fx.x_leqT rfl rfl rfl c7) (Fx.L.v (.bool true) (x_pickT rfl rfl rfl) (Fx.L.v (.bool true) (x_assign rfl rfl) (Fx.L.nil (Fx.seqN (Fx.W.ret (⟨.bool true, Fx.retV1 Try.results90 (by exact rfl), ?_⟩))))))
   exact ⟨congrArg (fun q => Ending.returned (Value.bool q)) (by simp only [okN]; first | (symm; simp; omega) | (symm; simp; done)), rfl⟩
  ·refine Fx.L.v (.bool false) (x_leqF rfl rfl rfl c7) (Fx.L.v (.bool false) (x_pickT rfl rfl rfl) (Fx.L.v (.bool false) (x_assign rfl rfl) (Fx.L.nil (Fx.seqN (Fx.W.ret (⟨.bool false, Fx.retV1 Try.results90 (by exact rfl), ?_⟩))))))
   exact ⟨congrArg (fun q => Ending.returned (Value.bool q)) (by simp only [okN]; first | (symm; simp; omega) | (symm; simp; done)), rfl⟩
 ·refine Fx.L.v (.bool false) (Fx.x_geqF rfl rfl rfl c4) (Fx.L.v (.bool false) (x_move rfl rfl) (Fx.L.skip (by rfl) rfl (Fx.L.skip (by rfl) rfl (Fx.L.v (.bool false) (x_pickF rfl rfl rfl) (Fx.L.v (.bool false) (x_assign rfl rfl) (Fx.L.nil (Fx.seqN (Fx.W.ret (⟨.bool false, Fx.retV1 Try.results90 (by exact rfl), ?_⟩)))))))))
  exact ⟨congrArg (fun q => Ending.returned (Value.bool q)) (by simp only [okN]; first | (symm; simp; omega) | (symm; simp; done)), rfl⟩
theorem f7_region (n : Int) (w : World) :
    Calls Try.prog 96 #[.int .i64 (n)] w fun e w' => e = .returned (.bool (regB n)) ∧ w' = w := by
 refine Fx.enter Try.func96 rfl (n := 9) rfl (by rfl) ?_
 refine Fx.W.seq (Fx.W.list (Fx.L.v (.bool false) (x_assign rfl rfl) (Fx.L.nil (Fx.seqN (Fx.W.seq (Fx.W.list (Fx.L.v (.int .i64 (n)) (x_move rfl rfl) ?_)))))))
 by_cases c4 : 1 ≤ n
 ·refine Fx.L.v (.bool true) (Fx.x_geqT rfl rfl rfl c4) (Fx.L.v (.bool true) (x_move rfl rfl) (Fx.L.v (.int .i64 (n)) (x_move rfl rfl) ?_))
  by_cases c7 : n ≤ 6
  ·refine Fx.L.v (.bool true) (Fx.x_leqT rfl rfl rfl c7) (Fx.L.v (.bool true) (x_pickT rfl rfl rfl) (Fx.L.v (.bool true) (x_assign rfl rfl) (Fx.L.nil (Fx.seqN (Fx.W.ret (⟨.bool true, Fx.retV1 Try.results96 (by exact rfl), ?_⟩))))))
   exact ⟨congrArg (fun q => Ending.returned (Value.bool q)) (by simp only [regB]; first | (symm; simp; omega) | (symm; simp; done)), rfl⟩
  ·refine Fx.L.v (.bool false) (x_leqF rfl rfl rfl c7) (Fx.L.v (.bool false) (x_pickT rfl rfl rfl) (Fx.L.v (.bool false) (x_assign rfl rfl) (Fx.L.nil (Fx.seqN (Fx.W.ret (⟨.bool false, Fx.retV1 Try.results96 (by exact rfl), ?_⟩))))))
   exact ⟨congrArg (fun q => Ending.returned (Value.bool q)) (by simp only [regB]; first | (symm; simp; omega) | (symm; simp; done)), rfl⟩
 ·refine Fx.L.v (.bool false) (Fx.x_geqF rfl rfl rfl c4) (Fx.L.v (.bool false) (x_move rfl rfl) (Fx.L.skip (by rfl) rfl (Fx.L.skip (by rfl) rfl (Fx.L.v (.bool false) (x_pickF rfl rfl rfl) (Fx.L.v (.bool false) (x_assign rfl rfl) (Fx.L.nil (Fx.seqN (Fx.W.ret (⟨.bool false, Fx.retV1 Try.results96 (by exact rfl), ?_⟩)))))))))
  exact ⟨congrArg (fun q => Ending.returned (Value.bool q)) (by simp only [regB]; first | (symm; simp; omega) | (symm; simp; done)), rfl⟩
theorem Rt.lref_succ (x : Nat → Int) (k j : Nat) : lref x k (j + 1) = lref x k j + x (18 + j * 6 + k) - x (18 + k * 6 + j) := rfl
theorem Rt.lref_zero (x : Nat → Int) (k : Nat) : lref x k 0 = x k - x (6 + k) + x (12 + k) := rfl
theorem f7_local (x : Nat → Int) (k : Nat) (w : World) (hk : k < 6) (he : Ent x) :
    Calls Try.prog 91 #[.agg (Fx.varr 54 (Fx.rv .i64 x)), .int .i64 ((k : Int) + 1)] w fun e w' => e = .returned (.int .i64 (L x k)) ∧ Below w.heap.size w w' := by
 have HL : lref x k 6 = L x k := lref_L x k
 have HB := fun j => lref_bd he k hk j
 have h0 : lref x k 0 = x k - x (k + 6) + x (k + 12) := by rw [lref_zero, Nat.add_comm 6 k, Nat.add_comm 12 k]
 have a1 := he k (by omega)
 have a2 := he (k + 6) (by omega)
 have a3 := he (k + 12) (by omega)
 refine Fx.enter Try.func91 rfl (n := 44) rfl (by rfl) ?_
 refine Fx.W.seq (Fx.W.list (Fx.L.box (m := 54) (y := Fx.rv .i64 x) (by rfl) rfl rfl (Fx.cells_agg _ _) rfl fun g1 w1 eg1 m1 s1 z1 => ?_))
 have b1 := s1.below (Below.refl w.heap.size w) (Below.refl w.heap.size w).size (Below.refl w.heap.size w).size
 have lg1 : w.heap.size ≤ g1 := by rw [eg1]; exact (Below.refl w.heap.size w).size
 have tg1 : g1 < w1.heap.size := m1.lt
 clear eg1
 refine Fx.L.v (.int .i64 (0)) (x_assign rfl rfl) (Fx.L.nil (Fx.seqN (Fx.W.seq (Fx.W.list (Fx.L.v (.int .i64 ((k : Int) + 1)) (x_move rfl rfl) (Fx.L.v (.int .i64 ((k : Int))) (Fx.x_sub rfl rfl rfl (Fx.i64e (by omega) (by omega))) (Fx.L.v (.int .i64 ((k : Int))) (x_assign rfl rfl) (Fx.L.nil (Fx.seqN (Fx.W.seq ?_))))))))))
 -- region 2 draws
 refine Fx.W.quiet (fun v1 => ∃ q, v1 = World.drewN w1 q) (by kernel_rfl) (by kernel_rfl) ⟨1, rfl⟩ ?_
 refine Fx.Qt.v (.int .i64 ((k : Int))) (fun v1 hv1 => x_move rfl rfl) (Fx.Qt.v (.pointer (some ⟨g1, 0, none⟩)) (fun v1 hv1 => x_field rfl rfl Try.underlying48 rfl (s := 6) (by kernel_rfl) rfl rfl) (Fx.Qt.v (.pointer (some ⟨g1, k, none⟩)) (fun v1 hv1 => x_index rfl rfl rfl Try.underlying45 (s := 1) (by kernel_rfl) (by omega) (by omega) (by omega)) (Fx.Qt.v (.int .i64 (x k)) (fun v1 hv1 => x_load1 (x := Fx.rv .i64 x) rfl rfl (by kernel_rfl) (by obtain ⟨qd, rfl⟩ := hv1; exact m1.cel) (i := k) (by omega) (by omega) rfl) (Fx.Qt.v (.int .i64 ((k : Int))) (fun v1 hv1 => x_move rfl rfl) (Fx.Qt.v (.pointer (some ⟨g1, 6, none⟩)) (fun v1 hv1 => x_field rfl rfl Try.underlying48 rfl (s := 6) (by kernel_rfl) rfl (by show _ + 6 = _; omega)) (Fx.Qt.v (.pointer (some ⟨g1, k + 6, none⟩)) (fun v1 hv1 => x_index rfl rfl rfl Try.underlying45 (s := 1) (by kernel_rfl) (by omega) (by omega) (by omega)) (Fx.Qt.v (.int .i64 (x (k + 6))) (fun v1 hv1 => x_load1 (x := Fx.rv .i64 x) rfl rfl (by kernel_rfl) (by obtain ⟨qd, rfl⟩ := hv1; exact m1.cel) (i := k + 6) (by omega) (by omega) rfl) (Fx.Qt.v (.int .i64 ((x k) - (x (k + 6)))) (fun v1 hv1 => Fx.x_sub rfl rfl rfl (Fx.i64e (by omega) (by omega))) (Fx.Qt.v (.int .i64 ((k : Int))) (fun v1 hv1 => x_move rfl rfl) (Fx.Qt.v (.pointer (some ⟨g1, 12, none⟩)) (fun v1 hv1 => x_field rfl rfl Try.underlying48 rfl (s := 6) (by kernel_rfl) rfl (by show _ + 12 = _; omega)) (Fx.Qt.v (.pointer (some ⟨g1, k + 12, none⟩)) (fun v1 hv1 => x_index rfl rfl rfl Try.underlying45 (s := 1) (by kernel_rfl) (by omega) (by omega) (by omega)) (Fx.Qt.v (.int .i64 (x (k + 12))) (fun v1 hv1 => x_load1 (x := Fx.rv .i64 x) rfl rfl (by kernel_rfl) (by obtain ⟨qd, rfl⟩ := hv1; exact m1.cel) (i := k + 12) (by omega) (by omega) rfl) (Fx.Qt.v (.int .i64 (((x k) - (x (k + 6))) + (x (k + 12)))) (fun v1 hv1 => Fx.x_add rfl rfl rfl (Fx.i64e (by omega) (by omega))) (Fx.Qt.v (.int .i64 (((x k) - (x (k + 6))) + (x (k + 12)))) (fun v1 hv1 => x_assign rfl rfl) (Fx.Qt.nil ?_)))))))))))))))
 rintro _ ⟨qd, rfl⟩
 obtain ⟨wq1, ewq1⟩ : ∃ v1, v1 = World.drewN w1 qd := ⟨_, rfl⟩
 rw [← ewq1]
 have s2 : Fx.Stp w1.heap.size w1 wq1 := by rw [ewq1]; exact Fx.Stp.of_below (bdrN w1 qd)
 have m2 := m1.stp s2 (Nat.ne_of_lt (m1.lt))
 have b2 := s2.below b1 b1.size b1.size
 clear ewq1
 refine Fx.seqN (Fx.W.seq (Fx.W.seq (Fx.W.list (Fx.L.v (.int .i64 (0)) (x_assign rfl rfl) (Fx.L.nil (Fx.seqN (Fx.W.block (Fx.W.loop (fun f w_ => ∃ j : Nat, j ≤ 6 ∧ f 2 = .pointer (some ⟨g1, 0, none⟩) ∧ f 5 = .int .i64 ((k : Int)) ∧ f 6 = .int .i64 (lref x k j) ∧ f 7 = .int .i64 ((j : Int)) ∧ Fx.Blk w_ g1 54 (Fx.rv .i64 x) 48 ∧ Below w.heap.size w w_) (fun f _ => (6 - (intOf (f 7)).toNat)) ⟨0, by omega, (by rfl), (by first | rfl | exact congrArg (Value.int .i64) (by omega)), (by first | rfl | exact congrArg (Value.int .i64) (by omega)), (by first | rfl | exact congrArg (Value.int .i64) (by omega)), m2, b2⟩ ?_))))))))
 rintro f1 w2 ⟨j, p1, h1, h2, h3, h4, m3, b3⟩
 have hB := HB j (by omega)
 have HS : lref x k (j + 1) = lref x k j + x (6 * j + k + 18) - x (j + 6 * k + 18) := by rw [lref_succ, show 18 + j * 6 + k = 6 * j + k + 18 by omega, show 18 + k * 6 + j = j + 6 * k + 18 by omega]
 have b1 := he (6 * j + k + 18)
 have b2 := he (j + 6 * k + 18)
 refine Fx.W.seq (Fx.W.seq (Fx.W.list (Fx.L.v (.int .i64 ((j : Int))) (x_move rfl h4) ?_)))
 by_cases c25 : (j : Int) < 6
 ·refine Fx.L.v (.bool true) (Fx.x_lssT rfl rfl rfl c25) (Fx.L.nil (Fx.seqN (Fx.W.cond (b := true) rfl (fun _ => Fx.W.skip (Fx.seqN (Fx.W.seq (Fx.W.block ?_)))) (fun h => nomatch h))))
  -- region 6 draws
  refine Fx.W.quiet (fun v1 => ∃ q, v1 = World.drewN w2 q) (by kernel_rfl) (by kernel_rfl) ⟨1, rfl⟩ ?_
  refine Fx.Qt.v (.int .i64 (lref x k j)) (fun v1 hv1 => x_move rfl h3) (Fx.Qt.v (.int .i64 ((j : Int))) (fun v1 hv1 => x_move rfl h4) (Fx.Qt.v (.int .i64 ((k : Int))) (fun v1 hv1 => x_move rfl h2) (Fx.Qt.v (.pointer (some ⟨g1, 18, none⟩)) (fun v1 hv1 => x_field rfl h1 Try.underlying48 rfl (s := 36) (by kernel_rfl) rfl (by show _ + 18 = _; omega)) (Fx.Qt.v (.pointer (some ⟨g1, 6 * j + 18, none⟩)) (fun v1 hv1 => x_index rfl rfl rfl Try.underlying46 (s := 6) (by kernel_rfl) (by omega) (by omega) (by omega)) (Fx.Qt.v (.pointer (some ⟨g1, 6 * j + k + 18, none⟩)) (fun v1 hv1 => x_index rfl rfl rfl Try.underlying45 (s := 1) (by kernel_rfl) (by omega) (by omega) (by omega)) (Fx.Qt.v (.int .i64 (x (6 * j + k + 18))) (fun v1 hv1 => x_load1 (x := Fx.rv .i64 x) rfl rfl (by kernel_rfl) (by obtain ⟨qd, rfl⟩ := hv1; exact m3.cel) (i := 6 * j + k + 18) (by omega) (by omega) rfl) (Fx.Qt.v (.int .i64 ((lref x k j) + (x (6 * j + k + 18)))) (fun v1 hv1 => Fx.x_add rfl rfl rfl (Fx.i64e (by omega) (by omega))) (Fx.Qt.v (.int .i64 ((k : Int))) (fun v1 hv1 => x_move rfl h2) (Fx.Qt.v (.int .i64 ((j : Int))) (fun v1 hv1 => x_move rfl h4) (Fx.Qt.v (.pointer (some ⟨g1, 18, none⟩)) (fun v1 hv1 => x_field rfl h1 Try.underlying48 rfl (s := 36) (by kernel_rfl) rfl (by show _ + 18 = _; omega)) (Fx.Qt.v (.pointer (some ⟨g1, 6 * k + 18, none⟩)) (fun v1 hv1 => x_index rfl rfl rfl Try.underlying46 (s := 6) (by kernel_rfl) (by omega) (by omega) (by omega)) (Fx.Qt.v (.pointer (some ⟨g1, j + 6 * k + 18, none⟩)) (fun v1 hv1 => x_index rfl rfl rfl Try.underlying45 (s := 1) (by kernel_rfl) (by omega) (by omega) (by omega)) (Fx.Qt.v (.int .i64 (x (j + 6 * k + 18))) (fun v1 hv1 => x_load1 (x := Fx.rv .i64 x) rfl rfl (by kernel_rfl) (by obtain ⟨qd, rfl⟩ := hv1; exact m3.cel) (i := j + 6 * k + 18) (by omega) (by omega) rfl) (Fx.Qt.v (.int .i64 (((lref x k j) + (x (6 * j + k + 18))) - (x (j + 6 * k + 18)))) (fun v1 hv1 => Fx.x_sub rfl rfl rfl (Fx.i64e (by omega) (by omega))) (Fx.Qt.v (.int .i64 (((lref x k j) + (x (6 * j + k + 18))) - (x (j + 6 * k + 18)))) (fun v1 hv1 => x_assign rfl rfl) (Fx.Qt.nil ?_))))))))))))))))
  rintro _ ⟨qd, rfl⟩
  obtain ⟨wq2, ewq2⟩ : ∃ v1, v1 = World.drewN w2 qd := ⟨_, rfl⟩
  rw [← ewq2]
  have s3 : Fx.Stp w2.heap.size w2 wq2 := by rw [ewq2]; exact Fx.Stp.of_below (bdrN w2 qd)
  have m4 := m3.stp s3 (Nat.ne_of_lt (m3.lt))
  have b4 := s3.below b3 b3.size b3.size
  clear ewq2
  refine Fx.blkN (Fx.seqN (Fx.W.list (Fx.L.v (.int .i64 ((j : Int))) (x_move rfl h4) (Fx.L.v (.int .i64 ((j : Int) + 1)) (Fx.x_add rfl rfl rfl (Fx.i64e (by omega) (by omega))) (Fx.L.v (.int .i64 ((j : Int) + 1)) (x_assign rfl rfl) (Fx.L.nil (Fx.lpN ⟨j + 1, by omega, h1, (h2.trans (by first | rfl | exact congrArg (Value.int .i64) (by omega))), (by first | rfl | exact congrArg (Value.int .i64) (by omega)), (by first | rfl | exact congrArg (Value.int .i64) (by omega)), m4, b4⟩ ?_)))))))
  show (6 - (intOf ((.int .i64 ((j : Int) + 1)))).toNat) < _
  simp only [h4, intOf]; omega
 ·refine Fx.L.v (.bool false) (Fx.x_lssF rfl rfl rfl c25) (Fx.L.nil (Fx.seqN (Fx.W.cond (b := false) rfl (fun h => nomatch h) (fun _ => Fx.W.exit (Fx.seqX (Fx.lpX (Fx.blkX (Fx.seqN (Fx.W.seq (Fx.W.list (Fx.L.v (.int .i64 (lref x k j)) (x_move rfl h3) (Fx.L.v (.int .i64 (lref x k j)) (x_assign rfl rfl) (Fx.L.nil (Fx.seqN (Fx.W.ret (⟨.int .i64 (lref x k j), Fx.retV1 Try.results91 (by exact rfl), ?_⟩))))))))))))))))
  exact ⟨congrArg (fun q => Ending.returned (Value.int .i64 q)) (by rw [← HL]; exact congrArg _ (by omega)), b3⟩
namespace Rt
def RowOk (x : Nat → Int) (i : Nat) : Prop := okN (x i) = true ∧ okN (x (i + 6)) = true ∧ okN (x (i + 12)) = true ∧ x (i + 12) ≤ x (i + 6) ∧ x (7 * i + 18) = 0
def RowTo (x : Nat → Int) (i j : Nat) : Prop := ∀ q, q < j → okN (x (6 * i + q + 18)) = true
def OkTo (x : Nat → Int) (i : Nat) : Prop := ∀ k, k < i → RowOk x k ∧ RowTo x k 6
def sumG (x : Nat → Int) : Nat → Int
  | 0 => 0
  | i + 1 => sumG x i + x i
theorem okTo_zero (x : Nat → Int) : OkTo x 0 := fun _ h => absurd h (by omega)
theorem rowTo_zero (x : Nat → Int) (i : Nat) : RowTo x i 0 := fun _ h => absurd h (by omega)
theorem rowTo_succ {x : Nat → Int} {i j : Nat} (h : RowTo x i j) (hn : okN (x (6 * i + j + 18)) = true) : RowTo x i (j + 1) := fun q hq => by
  by_cases e : q = j
  · subst e; exact hn
  · exact h q (by omega)
theorem okTo_succ {x : Nat → Int} {i : Nat} (h : OkTo x i) (hr : RowOk x i) (ht : RowTo x i 6) : OkTo x (i + 1) := fun k hk => by
  by_cases e : k = i
  · subst e; exact ⟨hr, ht⟩
  · exact h k (by omega)
theorem okTo_ent {x : Nat → Int} (h : OkTo x 6) : Ent x := fun p hp => by
  by_cases h1 : p < 6
  · exact okN_bd (h p h1).1.1
  · by_cases h2 : p < 12
    · have := okN_bd (h (p - 6) (by omega)).1.2.1; rwa [show p - 6 + 6 = p by omega] at this
    · by_cases h3 : p < 18
      · have := okN_bd (h (p - 12) (by omega)).1.2.2.1; rwa [show p - 12 + 12 = p by omega] at this
      · have := okN_bd ((h ((p - 18) / 6) (by omega)).2 ((p - 18) % 6) (by omega)); rwa [show 6 * ((p - 18) / 6) + (p - 18) % 6 + 18 = p by omega] at this
theorem sumG_bd {x : Nat → Int} : ∀ {i : Nat}, OkTo x i → 0 ≤ sumG x i ∧ sumG x i ≤ 1125899906842624 * (i : Int)
  | 0, _ => by simp [sumG]
  | i + 1, h => by
    have a := sumG_bd (i := i) (fun k hk => h k (by omega))
    have b := okN_bd (h i (by omega)).1.1
    simp only [sumG]; omega
theorem no_ent {x : Nat → Int} {p : Nat} (hp : p < 54) (h : okN (x p) = false) : may x = false := by
  cases hm : may x
  · rfl
  · have := (may_iff x).1 hm |>.1 p hp
    unfold okN at h; simp at h; omega
theorem no_fc {x : Nat → Int} {i : Nat} (hi : i < 6) (h : x (i + 6) < x (i + 12)) : may x = false := by
  cases hm : may x
  · rfl
  · have := ((may_iff x).1 hm |>.2.1 i hi).2.1
    unfold F C at this; rw [Nat.add_comm 12 i, Nat.add_comm 6 i] at this; omega
theorem no_rr {x : Nat → Int} {i : Nat} (hi : i < 6) (h : ¬ x (7 * i + 18) = 0) : may x = false := by
  cases hm : may x
  · rfl
  · have := ((may_iff x).1 hm |>.2.1 i hi).2.2
    unfold R at this; rw [show 18 + i * 6 + i = 7 * i + 18 by omega] at this; exact absurd this h
theorem no_loc {x : Nat → Int} {i : Nat} (hi : i < 6) (h : L x i < 0) : may x = false := by
  cases hm : may x
  · rfl
  · have := ((may_iff x).1 hm |>.2.1 i hi).1
    omega
theorem loc_succ {x : Nat → Int} {m : Nat} (h : ∀ k, k < m → 0 ≤ L x k) (hm : 0 ≤ L x m) : ∀ k, k < m + 1 → 0 ≤ L x k := fun k hk => by
  by_cases e : k = m
  · rw [e]; exact hm
  · exact h k (by omega)
theorem may_fin {x : Nat → Int} (ha : OkTo x 6) (hl : ∀ k, k < 6 → 0 ≤ L x k) : may x = decide (sumG x 6 ≤ 1125899906842624) := by
  have hs : sumG x 6 = gSum x := by simp only [sumG, gSum, G]; omega
  rw [hs, Bool.eq_iff_iff, may_iff, decide_eq_true_iff]
  refine ⟨fun h => h.2.2, fun h => ⟨okTo_ent ha, fun k hk => ⟨hl k hk, ?_, ?_⟩, h⟩⟩
  · have := (ha k hk).1.2.2.2.1; unfold F C; rwa [Nat.add_comm 12 k, Nat.add_comm 6 k]
  · have := (ha k hk).1.2.2.2.2; unfold R; rwa [show 18 + k * 6 + k = 7 * k + 18 by omega]
end Rt
set_option maxRecDepth 10000 in
set_option maxHeartbeats 1000000 in
theorem f7_may (x : Nat → Int) (w : World) :
    Calls Try.prog 46 #[.agg (Fx.varr 54 (Fx.rv .i64 x))] w fun e w' => e = .returned (.bool (may x)) ∧ Below w.heap.size w w' := by
 refine Fx.enter Try.func46 rfl (n := 81) rfl (by rfl) ?_
 refine Fx.W.seq (Fx.W.list (Fx.L.box (m := 54) (y := Fx.rv .i64 x) (by rfl) rfl rfl (Fx.cells_agg _ _) rfl fun g1 w1 eg1 m1 s1 z1 => ?_))
 have b1 := s1.below (Below.refl w.heap.size w) (Below.refl w.heap.size w).size (Below.refl w.heap.size w).size
 have lg1 : w.heap.size ≤ g1 := by rw [eg1]; exact (Below.refl w.heap.size w).size
 have tg1 : g1 < w1.heap.size := m1.lt
 clear eg1
 refine Fx.L.v (.bool false) (x_assign rfl rfl) (Fx.L.nil (Fx.seqN (Fx.W.seq (Fx.W.list (Fx.L.v (.int .i64 (0)) (x_assign rfl rfl) (Fx.L.nil (Fx.seqN (Fx.W.seq (Fx.W.seq (Fx.W.list (Fx.L.v (.int .i64 (0)) (x_assign rfl rfl) (Fx.L.nil (Fx.seqN (Fx.W.block (Fx.W.loop (fun f w_ => ∃ i : Nat, i ≤ 6 ∧ OkTo x i ∧ f 1 = .pointer (some ⟨g1, 0, none⟩) ∧ f 3 = .int .i64 (sumG x i) ∧ f 4 = .int .i64 ((i : Int)) ∧ Fx.Blk w_ g1 54 (Fx.rv .i64 x) 48 ∧ Below w.heap.size w w_) (fun f _ => (6 - (intOf (f 4)).toNat)) ⟨0, by omega, okTo_zero x, (by rfl), (by first | rfl | exact congrArg (Value.int .i64) (by omega)), (by first | rfl | exact congrArg (Value.int .i64) (by omega)), m1, b1⟩ ?_)))))))))))))))
 rintro f1 w2 ⟨i, hi, hA, h1, h2, h3, m2, b2⟩
 have hG := sumG_bd hA
 have HG : sumG x (i + 1) = sumG x i + x i := rfl
 refine Fx.W.seq (Fx.W.seq (Fx.W.list (Fx.L.v (.int .i64 ((i : Int))) (x_move rfl h3) ?_)))
 by_cases c8 : (i : Int) < 6
 ·refine Fx.L.v (.bool true) (Fx.x_lssT rfl rfl rfl c8) (Fx.L.nil (Fx.seqN (Fx.W.cond (b := true) rfl (fun _ => Fx.W.skip (Fx.seqN (Fx.W.seq (Fx.W.block (Fx.W.seq (Fx.W.seq ?_)))))) (fun h => nomatch h))))
  -- region 5 draws
  refine Fx.W.quiet (fun v1 => ∃ q, v1 = World.drewN w2 q) (by kernel_rfl) (by kernel_rfl) ⟨1, rfl⟩ ?_
  refine Fx.Qt.v (.int .i64 ((i : Int))) (fun v1 hv1 => x_move rfl h3) (Fx.Qt.v (.pointer (some ⟨g1, 0, none⟩)) (fun v1 hv1 => x_field rfl h1 Try.underlying48 rfl (s := 6) (by kernel_rfl) rfl rfl) (Fx.Qt.v (.pointer (some ⟨g1, i, none⟩)) (fun v1 hv1 => x_index rfl rfl rfl Try.underlying45 (s := 1) (by kernel_rfl) (by omega) (by omega) (by omega)) (Fx.Qt.v (.int .i64 (x i)) (fun v1 hv1 => x_load1 (x := Fx.rv .i64 x) rfl rfl (by kernel_rfl) (by obtain ⟨qd, rfl⟩ := hv1; exact m2.cel) (i := i) (by omega) (by omega) rfl) ?_)))
  by_cases c15 : (okN (x i)) = true
  ·refine Fx.Qt.call (v := .bool true) (by rfl) (fun v1 hv1 => Fx.r_call (args := [.int .i64 (x i)]) rfl rfl Try.func90 rfl rfl) rfl (fun v1 hv1 => (f7_number (x i) _).mono fun e v2 h => ⟨by rw [h.1, c15], by rw [h.2]; exact hv1⟩) ?_
   refine Fx.Qt.v (.bool false) (fun v1 hv1 => Fx.x_notF rfl rfl) (Fx.Qt.v (.bool false) (fun v1 hv1 => x_move rfl rfl) (Fx.Qt.v (.int .i64 ((i : Int))) (fun v1 hv1 => x_move rfl h3) (Fx.Qt.v (.pointer (some ⟨g1, 6, none⟩)) (fun v1 hv1 => x_field rfl h1 Try.underlying48 rfl (s := 6) (by kernel_rfl) rfl (by show _ + 6 = _; omega)) (Fx.Qt.v (.pointer (some ⟨g1, i + 6, none⟩)) (fun v1 hv1 => x_index rfl rfl rfl Try.underlying45 (s := 1) (by kernel_rfl) (by omega) (by omega) (by omega)) (Fx.Qt.v (.int .i64 (x (i + 6))) (fun v1 hv1 => x_load1 (x := Fx.rv .i64 x) rfl rfl (by kernel_rfl) (by obtain ⟨qd, rfl⟩ := hv1; exact m2.cel) (i := i + 6) (by omega) (by omega) rfl) ?_)))))
   by_cases c22 : (okN (x (i + 6))) = true
   ·refine Fx.Qt.call (v := .bool true) (by rfl) (fun v1 hv1 => Fx.r_call (args := [.int .i64 (x (i + 6))]) rfl rfl Try.func90 rfl rfl) rfl (fun v1 hv1 => (f7_number (x (i + 6)) _).mono fun e v2 h => ⟨by rw [h.1, c22], by rw [h.2]; exact hv1⟩) ?_
    refine Fx.Qt.v (.bool false) (fun v1 hv1 => Fx.x_notF rfl rfl) (Fx.Qt.v (.bool false) (fun v1 hv1 => x_pickF rfl rfl rfl) (Fx.Qt.v (.bool false) (fun v1 hv1 => x_move rfl rfl) (Fx.Qt.v (.int .i64 ((i : Int))) (fun v1 hv1 => x_move rfl h3) (Fx.Qt.v (.pointer (some ⟨g1, 12, none⟩)) (fun v1 hv1 => x_field rfl h1 Try.underlying48 rfl (s := 6) (by kernel_rfl) rfl (by show _ + 12 = _; omega)) (Fx.Qt.v (.pointer (some ⟨g1, i + 12, none⟩)) (fun v1 hv1 => x_index rfl rfl rfl Try.underlying45 (s := 1) (by kernel_rfl) (by omega) (by omega) (by omega)) (Fx.Qt.v (.int .i64 (x (i + 12))) (fun v1 hv1 => x_load1 (x := Fx.rv .i64 x) rfl rfl (by kernel_rfl) (by obtain ⟨qd, rfl⟩ := hv1; exact m2.cel) (i := i + 12) (by omega) (by omega) rfl) ?_))))))
    by_cases c30 : (okN (x (i + 12))) = true
    ·refine Fx.Qt.call (v := .bool true) (by rfl) (fun v1 hv1 => Fx.r_call (args := [.int .i64 (x (i + 12))]) rfl rfl Try.func90 rfl rfl) rfl (fun v1 hv1 => (f7_number (x (i + 12)) _).mono fun e v2 h => ⟨by rw [h.1, c30], by rw [h.2]; exact hv1⟩) ?_
     refine Fx.Qt.v (.bool false) (fun v1 hv1 => Fx.x_notF rfl rfl) (Fx.Qt.v (.bool false) (fun v1 hv1 => x_pickF rfl rfl rfl) (Fx.Qt.v (.bool false) (fun v1 hv1 => x_move rfl rfl) (Fx.Qt.v (.int .i64 ((i : Int))) (fun v1 hv1 => x_move rfl h3) (Fx.Qt.v (.pointer (some ⟨g1, 12, none⟩)) (fun v1 hv1 => x_field rfl h1 Try.underlying48 rfl (s := 6) (by kernel_rfl) rfl (by show _ + 12 = _; omega)) (Fx.Qt.v (.pointer (some ⟨g1, i + 12, none⟩)) (fun v1 hv1 => x_index rfl rfl rfl Try.underlying45 (s := 1) (by kernel_rfl) (by omega) (by omega) (by omega)) (Fx.Qt.v (.int .i64 (x (i + 12))) (fun v1 hv1 => x_load1 (x := Fx.rv .i64 x) rfl rfl (by kernel_rfl) (by obtain ⟨qd, rfl⟩ := hv1; exact m2.cel) (i := i + 12) (by omega) (by omega) rfl) (Fx.Qt.v (.int .i64 ((i : Int))) (fun v1 hv1 => x_move rfl h3) (Fx.Qt.v (.pointer (some ⟨g1, 6, none⟩)) (fun v1 hv1 => x_field rfl h1 Try.underlying48 rfl (s := 6) (by kernel_rfl) rfl (by show _ + 6 = _; omega)) (Fx.Qt.v (.pointer (some ⟨g1, i + 6, none⟩)) (fun v1 hv1 => x_index rfl rfl rfl Try.underlying45 (s := 1) (by kernel_rfl) (by omega) (by omega) (by omega)) (Fx.Qt.v (.int .i64 (x (i + 6))) (fun v1 hv1 => x_load1 (x := Fx.rv .i64 x) rfl rfl (by kernel_rfl) (by obtain ⟨qd, rfl⟩ := hv1; exact m2.cel) (i := i + 6) (by omega) (by omega) rfl) ?_))))))))))
     by_cases c42 : (x (i + 6)) < (x (i + 12))
     ·refine Fx.Qt.v (.bool true) (fun v1 hv1 => Fx.x_gtrT rfl rfl rfl c42) (Fx.Qt.v (.bool true) (fun v1 hv1 => x_pickF rfl rfl rfl) (Fx.Qt.v (.bool true) (fun v1 hv1 => x_move rfl rfl) (Fx.Qt.skip (by rfl) rfl (Fx.Qt.skip (by rfl) rfl (Fx.Qt.skip (by rfl) rfl (Fx.Qt.skip (by rfl) rfl (Fx.Qt.skip (by rfl) rfl (Fx.Qt.skip (by rfl) rfl (Fx.Qt.skip (by rfl) rfl (Fx.Qt.v (.bool true) (fun v1 hv1 => x_pickT rfl rfl rfl) (Fx.Qt.nil ?_)))))))))))
      rintro _ ⟨qd, rfl⟩
      obtain ⟨wq1, ewq1⟩ : ∃ v1, v1 = World.drewN w2 qd := ⟨_, rfl⟩
      rw [← ewq1]
      have s2 : Fx.Stp w2.heap.size w2 wq1 := by rw [ewq1]; exact Fx.Stp.of_below (bdrN w2 qd)
      have b3 := s2.below b2 b2.size b2.size
      clear ewq1
      refine Fx.seqN (Fx.W.cond (b := true) rfl (fun _ => Fx.W.seq (Fx.W.list (Fx.L.v (.bool false) (x_assign rfl rfl) ?_))) (fun h => nomatch h))
      refine Fx.L.nil (Fx.seqN (Fx.W.ret (Fx.seqR (Fx.blkR (Fx.seqR (Fx.lpR (Fx.blkR (Fx.seqR (⟨.bool false, Fx.retV1 Try.results46 (by exact rfl), ?_⟩)))))))))
      refine ⟨congrArg (fun q => Ending.returned (Value.bool q)) (Eq.symm ?_), b3⟩
      exact no_fc (i := i) (by omega) c42
     ·refine Fx.Qt.v (.bool false) (fun v1 hv1 => x_gtrF rfl rfl rfl c42) (Fx.Qt.v (.bool false) (fun v1 hv1 => x_pickF rfl rfl rfl) (Fx.Qt.v (.bool false) (fun v1 hv1 => x_move rfl rfl) (Fx.Qt.v (.int .i64 ((i : Int))) (fun v1 hv1 => x_move rfl h3) (Fx.Qt.v (.int .i64 ((i : Int))) (fun v1 hv1 => x_move rfl h3) (Fx.Qt.v (.pointer (some ⟨g1, 18, none⟩)) (fun v1 hv1 => x_field rfl h1 Try.underlying48 rfl (s := 36) (by kernel_rfl) rfl (by show _ + 18 = _; omega)) (Fx.Qt.v (.pointer (some ⟨g1, 6 * i + 18, none⟩)) (fun v1 hv1 => x_index rfl rfl rfl Try.underlying46 (s := 6) (by kernel_rfl) (by omega) (by omega) (by omega)) (Fx.Qt.v (.pointer (some ⟨g1, 7 * i + 18, none⟩)) (fun v1 hv1 => x_index rfl rfl rfl Try.underlying45 (s := 1) (by kernel_rfl) (by omega) (by omega) (by omega)) (Fx.Qt.v (.int .i64 (x (7 * i + 18))) (fun v1 hv1 => x_load1 (x := Fx.rv .i64 x) rfl rfl (by kernel_rfl) (by obtain ⟨qd, rfl⟩ := hv1; exact m2.cel) (i := 7 * i + 18) (by omega) (by omega) rfl) ?_))))))))
      by_cases c51 : (x (7 * i + 18)) = 0
      ·refine Fx.Qt.v (.bool false) (fun v1 hv1 => Fx.x_neqF rfl rfl rfl c51) (Fx.Qt.v (.bool false) (fun v1 hv1 => x_pickF rfl rfl rfl) (Fx.Qt.nil ?_))
       rintro _ ⟨qd, rfl⟩
       obtain ⟨wq2, ewq2⟩ : ∃ v1, v1 = World.drewN w2 qd := ⟨_, rfl⟩
       rw [← ewq2]
       have s3 : Fx.Stp w2.heap.size w2 wq2 := by rw [ewq2]; exact Fx.Stp.of_below (bdrN w2 qd)
       have m4 := m2.stp s3 (Nat.ne_of_lt (m2.lt))
       have b4 := s3.below b2 b2.size b2.size
       clear ewq2
       refine Fx.seqN (Fx.W.cond (b := false) rfl (fun h => nomatch h) (fun _ => Fx.W.skip (Fx.seqN (Fx.W.seq ?_))))
       have hR : RowOk x i := ⟨c15, c22, c30, by omega, c51⟩
       have b15 := okN_bd c15
       refine Fx.W.list (Fx.L.v (.int .i64 (sumG x i)) (x_move rfl h2) (Fx.L.v (.int .i64 ((i : Int))) (x_move rfl h3) (Fx.L.v (.pointer (some ⟨g1, 0, none⟩)) (x_field rfl h1 Try.underlying48 rfl (s := 6) (by kernel_rfl) rfl rfl) (Fx.L.v (.pointer (some ⟨g1, i, none⟩)) (x_index rfl rfl rfl Try.underlying45 (s := 1) (by kernel_rfl) (by omega) (by omega) (by omega)) (Fx.L.v (.int .i64 (x i)) (x_load1 (x := Fx.rv .i64 x) rfl rfl (by kernel_rfl) m4.cel (i := i) (by omega) (by omega) rfl) (Fx.L.v (.int .i64 ((sumG x i) + (x i))) (Fx.x_add rfl rfl rfl (Fx.i64e (by omega) (by omega))) (Fx.L.v (.int .i64 ((sumG x i) + (x i))) (x_assign rfl rfl) (Fx.L.nil (Fx.seqN (Fx.W.seq (Fx.W.list (Fx.L.v (.int .i64 (0)) (x_assign rfl rfl) (Fx.L.nil (Fx.seqN (Fx.W.block (Fx.W.loop (fun f w_ => ∃ j : Nat, j ≤ 6 ∧ RowTo x i j ∧ f 1 = .pointer (some ⟨g1, 0, none⟩) ∧ f 3 = .int .i64 (sumG x (i + 1)) ∧ f 4 = .int .i64 ((i : Int)) ∧ f 5 = .int .i64 ((j : Int)) ∧ Fx.Blk w_ g1 54 (Fx.rv .i64 x) 48 ∧ Below w.heap.size w w_) (fun f _ => (6 - (intOf (f 5)).toNat)) ⟨0, by omega, rowTo_zero x i, h1, (by first | rfl | exact congrArg (Value.int .i64) (by omega)), (h3.trans (by first | rfl | exact congrArg (Value.int .i64) (by omega))), (by first | rfl | exact congrArg (Value.int .i64) (by omega)), m4, b4⟩ ?_))))))))))))))))
       rintro f2 w3 ⟨j, hj, hT, h4, h5, h6, h7, m5, b5⟩
       refine Fx.W.seq (Fx.W.seq (Fx.W.list (Fx.L.v (.int .i64 ((j : Int))) (x_move rfl h7) ?_)))
       by_cases c60 : (j : Int) < 6
       ·refine Fx.L.v (.bool true) (Fx.x_lssT rfl rfl rfl c60) (Fx.L.nil (Fx.seqN (Fx.W.cond (b := true) rfl (fun _ => Fx.W.skip (Fx.seqN (Fx.W.seq (Fx.W.block (Fx.W.seq (Fx.W.list (Fx.L.v (.int .i64 ((i : Int))) (x_move rfl h6) ?_))))))) (fun h => nomatch h))))
        refine Fx.L.v (.int .i64 ((j : Int))) (x_move rfl h7) (Fx.L.v (.pointer (some ⟨g1, 18, none⟩)) (x_field rfl h4 Try.underlying48 rfl (s := 36) (by kernel_rfl) rfl (by show _ + 18 = _; omega)) (Fx.L.v (.pointer (some ⟨g1, 6 * i + 18, none⟩)) (x_index rfl rfl rfl Try.underlying46 (s := 6) (by kernel_rfl) (by omega) (by omega) (by omega)) (Fx.L.v (.pointer (some ⟨g1, 6 * i + j + 18, none⟩)) (x_index rfl rfl rfl Try.underlying45 (s := 1) (by kernel_rfl) (by omega) (by omega) (by omega)) (Fx.L.v (.int .i64 (x (6 * i + j + 18))) (x_load1 (x := Fx.rv .i64 x) rfl rfl (by kernel_rfl) m5.cel (i := 6 * i + j + 18) (by omega) (by omega) rfl) ?_))))
        by_cases c69 : (okN (x (6 * i + j + 18))) = true
        ·refine Fx.L.call (by rfl) (Fx.r_call (args := [.int .i64 (x (6 * i + j + 18))]) rfl rfl Try.func90 rfl rfl) rfl ((f7_number (x (6 * i + j + 18)) _).mono ?_)
         rintro e v1 ⟨he, hv1⟩
         subst v1
         refine ⟨.bool true, by rw [he, c69], ?_⟩
         clear he
         refine Fx.L.v (.bool false) (Fx.x_notF rfl rfl) (Fx.L.nil (Fx.seqN (Fx.W.cond (b := false) rfl (fun h => nomatch h) (fun _ => Fx.W.skip (Fx.blkN (Fx.seqN (Fx.W.list (Fx.L.v (.int .i64 ((j : Int))) (x_move rfl h7) (Fx.L.v (.int .i64 ((j : Int) + 1)) (Fx.x_add rfl rfl rfl (Fx.i64e (by omega) (by omega))) (Fx.L.v (.int .i64 ((j : Int) + 1)) (x_assign rfl rfl) (Fx.L.nil (Fx.lpN ⟨j + 1, by omega, rowTo_succ hT c69, h4, (h5.trans (by first | rfl | exact congrArg (Value.int .i64) (by omega))), (h6.trans (by first | rfl | exact congrArg (Value.int .i64) (by omega))), (by first | rfl | exact congrArg (Value.int .i64) (by omega)), m5, b5⟩ ?_))))))))))))
         show (6 - (intOf ((.int .i64 ((j : Int) + 1)))).toNat) < _
         simp only [h7, intOf]; omega
        ·rw [Bool.not_eq_true] at c69
         refine Fx.L.call (by rfl) (Fx.r_call (args := [.int .i64 (x (6 * i + j + 18))]) rfl rfl Try.func90 rfl rfl) rfl ((f7_number (x (6 * i + j + 18)) _).mono ?_)
         rintro e v1 ⟨he, hv1⟩
         subst v1
         refine ⟨.bool false, by rw [he, c69], ?_⟩
         clear he
         refine Fx.L.v (.bool true) (Fx.x_notT rfl rfl) (Fx.L.nil (Fx.seqN (Fx.W.cond (b := true) rfl (fun _ => Fx.W.seq (Fx.W.list (Fx.L.v (.bool false) (x_assign rfl rfl) ?_))) (fun h => nomatch h))))
         refine Fx.L.nil (Fx.seqN (Fx.W.ret (Fx.blkR (Fx.seqR (Fx.lpR (Fx.blkR (Fx.blkR (Fx.seqR (Fx.lpR (Fx.blkR (Fx.seqR (⟨.bool false, Fx.retV1 Try.results46 (by exact rfl), ?_⟩))))))))))))
         refine ⟨congrArg (fun q => Ending.returned (Value.bool q)) (Eq.symm ?_), b5⟩
         exact no_ent (p := 6 * i + j + 18) (by omega) c69
       ·refine Fx.L.v (.bool false) (Fx.x_lssF rfl rfl rfl c60) (Fx.L.nil (Fx.seqN (Fx.W.cond (b := false) rfl (fun h => nomatch h) (fun _ => Fx.W.exit (Fx.seqX (Fx.lpX (Fx.blkX (Fx.blkN (Fx.seqN (Fx.W.list (Fx.L.v (.int .i64 ((i : Int))) (x_move rfl h6) (Fx.L.v (.int .i64 ((i : Int) + 1)) (Fx.x_add rfl rfl rfl (Fx.i64e (by omega) (by omega))) (Fx.L.v (.int .i64 ((i : Int) + 1)) (x_assign rfl rfl) (Fx.L.nil ?_))))))))))))))
        have e6 : j = 6 := by omega
        have hT6 : RowTo x i 6 := by rw [e6] at hT; exact hT
        refine Fx.lpN ⟨i + 1, by omega, okTo_succ hA hR hT6, h4, (h5.trans (by first | rfl | exact congrArg (Value.int .i64) (by omega))), (by first | rfl | exact congrArg (Value.int .i64) (by omega)), m5, b5⟩ ?_
        show (6 - (intOf ((.int .i64 ((i : Int) + 1)))).toNat) < _
        simp only [h3, intOf]; omega
      ·refine Fx.Qt.v (.bool true) (fun v1 hv1 => Fx.x_neqT rfl rfl rfl c51) (Fx.Qt.v (.bool true) (fun v1 hv1 => x_pickF rfl rfl rfl) (Fx.Qt.nil ?_))
       rintro _ ⟨qd, rfl⟩
       obtain ⟨wq3, ewq3⟩ : ∃ v1, v1 = World.drewN w2 qd := ⟨_, rfl⟩
       rw [← ewq3]
       have s4 : Fx.Stp w2.heap.size w2 wq3 := by rw [ewq3]; exact Fx.Stp.of_below (bdrN w2 qd)
       have b6 := s4.below b2 b2.size b2.size
       clear ewq3
       refine Fx.seqN (Fx.W.cond (b := true) rfl (fun _ => Fx.W.seq (Fx.W.list (Fx.L.v (.bool false) (x_assign rfl rfl) ?_))) (fun h => nomatch h))
       refine Fx.L.nil (Fx.seqN (Fx.W.ret (Fx.seqR (Fx.blkR (Fx.seqR (Fx.lpR (Fx.blkR (Fx.seqR (⟨.bool false, Fx.retV1 Try.results46 (by exact rfl), ?_⟩)))))))))
       refine ⟨congrArg (fun q => Ending.returned (Value.bool q)) (Eq.symm ?_), b6⟩
       exact no_rr (i := i) (by omega) c51
    ·rw [Bool.not_eq_true] at c30
     refine Fx.Qt.call (v := .bool false) (by rfl) (fun v1 hv1 => Fx.r_call (args := [.int .i64 (x (i + 12))]) rfl rfl Try.func90 rfl rfl) rfl (fun v1 hv1 => (f7_number (x (i + 12)) _).mono fun e v2 h => ⟨by rw [h.1, c30], by rw [h.2]; exact hv1⟩) ?_
     refine Fx.Qt.v (.bool true) (fun v1 hv1 => Fx.x_notT rfl rfl) (Fx.Qt.v (.bool true) (fun v1 hv1 => x_pickF rfl rfl rfl) (Fx.Qt.v (.bool true) (fun v1 hv1 => x_move rfl rfl) (Fx.Qt.skip (by rfl) rfl (Fx.Qt.skip (by rfl) rfl (Fx.Qt.skip (by rfl) rfl (Fx.Qt.skip (by rfl) rfl (Fx.Qt.skip (by rfl) rfl (Fx.Qt.skip (by rfl) rfl (Fx.Qt.skip (by rfl) rfl (Fx.Qt.skip (by rfl) rfl (Fx.Qt.skip (by rfl) rfl (Fx.Qt.v (.bool true) (fun v1 hv1 => x_pickT rfl rfl rfl) (Fx.Qt.v (.bool true) (fun v1 hv1 => x_move rfl rfl) (Fx.Qt.skip (by rfl) rfl (Fx.Qt.skip (by rfl) rfl (Fx.Qt.skip (by rfl) rfl (Fx.Qt.skip (by rfl) rfl (Fx.Qt.skip (by rfl) rfl (Fx.Qt.skip (by rfl) rfl (Fx.Qt.skip (by rfl) rfl (Fx.Qt.v (.bool true) (fun v1 hv1 => x_pickT rfl rfl rfl) (Fx.Qt.nil ?_))))))))))))))))))))))
     rintro _ ⟨qd, rfl⟩
     obtain ⟨wq4, ewq4⟩ : ∃ v1, v1 = World.drewN w2 qd := ⟨_, rfl⟩
     rw [← ewq4]
     have s5 : Fx.Stp w2.heap.size w2 wq4 := by rw [ewq4]; exact Fx.Stp.of_below (bdrN w2 qd)
     have b7 := s5.below b2 b2.size b2.size
     clear ewq4
     refine Fx.seqN (Fx.W.cond (b := true) rfl (fun _ => Fx.W.seq (Fx.W.list (Fx.L.v (.bool false) (x_assign rfl rfl) ?_))) (fun h => nomatch h))
     refine Fx.L.nil (Fx.seqN (Fx.W.ret (Fx.seqR (Fx.blkR (Fx.seqR (Fx.lpR (Fx.blkR (Fx.seqR (⟨.bool false, Fx.retV1 Try.results46 (by exact rfl), ?_⟩)))))))))
     refine ⟨congrArg (fun q => Ending.returned (Value.bool q)) (Eq.symm ?_), b7⟩
     exact no_ent (p := i + 12) (by omega) c30
   ·rw [Bool.not_eq_true] at c22
    refine Fx.Qt.call (v := .bool false) (by rfl) (fun v1 hv1 => Fx.r_call (args := [.int .i64 (x (i + 6))]) rfl rfl Try.func90 rfl rfl) rfl (fun v1 hv1 => (f7_number (x (i + 6)) _).mono fun e v2 h => ⟨by rw [h.1, c22], by rw [h.2]; exact hv1⟩) ?_
    refine Fx.Qt.v (.bool true) (fun v1 hv1 => Fx.x_notT rfl rfl) (Fx.Qt.v (.bool true) (fun v1 hv1 => x_pickF rfl rfl rfl) (Fx.Qt.v (.bool true) (fun v1 hv1 => x_move rfl rfl) (Fx.Qt.skip (by rfl) rfl (Fx.Qt.skip (by rfl) rfl (Fx.Qt.skip (by rfl) rfl (Fx.Qt.skip (by rfl) rfl (Fx.Qt.skip (by rfl) rfl (Fx.Qt.skip (by rfl) rfl (Fx.Qt.v (.bool true) (fun v1 hv1 => x_pickT rfl rfl rfl) (Fx.Qt.v (.bool true) (fun v1 hv1 => x_move rfl rfl) (Fx.Qt.skip (by rfl) rfl (Fx.Qt.skip (by rfl) rfl (Fx.Qt.skip (by rfl) rfl (Fx.Qt.skip (by rfl) rfl (Fx.Qt.skip (by rfl) rfl (Fx.Qt.skip (by rfl) rfl (Fx.Qt.skip (by rfl) rfl (Fx.Qt.skip (by rfl) rfl (Fx.Qt.skip (by rfl) rfl (Fx.Qt.v (.bool true) (fun v1 hv1 => x_pickT rfl rfl rfl) (Fx.Qt.v (.bool true) (fun v1 hv1 => x_move rfl rfl) (Fx.Qt.skip (by rfl) rfl (Fx.Qt.skip (by rfl) rfl (Fx.Qt.skip (by rfl) rfl ?_))))))))))))))))))))))))
    refine Fx.Qt.skip (by rfl) rfl (Fx.Qt.skip (by rfl) rfl (Fx.Qt.skip (by rfl) rfl (Fx.Qt.skip (by rfl) rfl (Fx.Qt.v (.bool true) (fun v1 hv1 => x_pickT rfl rfl rfl) (Fx.Qt.nil ?_)))))
    rintro _ ⟨qd, rfl⟩
    obtain ⟨wq5, ewq5⟩ : ∃ v1, v1 = World.drewN w2 qd := ⟨_, rfl⟩
    rw [← ewq5]
    have s6 : Fx.Stp w2.heap.size w2 wq5 := by rw [ewq5]; exact Fx.Stp.of_below (bdrN w2 qd)
    have b8 := s6.below b2 b2.size b2.size
    clear ewq5
    refine Fx.seqN (Fx.W.cond (b := true) rfl (fun _ => Fx.W.seq (Fx.W.list (Fx.L.v (.bool false) (x_assign rfl rfl) ?_))) (fun h => nomatch h))
    refine Fx.L.nil (Fx.seqN (Fx.W.ret (Fx.seqR (Fx.blkR (Fx.seqR (Fx.lpR (Fx.blkR (Fx.seqR (⟨.bool false, Fx.retV1 Try.results46 (by exact rfl), ?_⟩)))))))))
    refine ⟨congrArg (fun q => Ending.returned (Value.bool q)) (Eq.symm ?_), b8⟩
    exact no_ent (p := i + 6) (by omega) c22
  ·rw [Bool.not_eq_true] at c15
   refine Fx.Qt.call (v := .bool false) (by rfl) (fun v1 hv1 => Fx.r_call (args := [.int .i64 (x i)]) rfl rfl Try.func90 rfl rfl) rfl (fun v1 hv1 => (f7_number (x i) _).mono fun e v2 h => ⟨by rw [h.1, c15], by rw [h.2]; exact hv1⟩) ?_
   refine Fx.Qt.v (.bool true) (fun v1 hv1 => Fx.x_notT rfl rfl) (Fx.Qt.v (.bool true) (fun v1 hv1 => x_move rfl rfl) (Fx.Qt.skip (by rfl) rfl (Fx.Qt.skip (by rfl) rfl (Fx.Qt.skip (by rfl) rfl (Fx.Qt.skip (by rfl) rfl (Fx.Qt.skip (by rfl) rfl (Fx.Qt.skip (by rfl) rfl (Fx.Qt.v (.bool true) (fun v1 hv1 => x_pickT rfl rfl rfl) (Fx.Qt.v (.bool true) (fun v1 hv1 => x_move rfl rfl) (Fx.Qt.skip (by rfl) rfl (Fx.Qt.skip (by rfl) rfl (Fx.Qt.skip (by rfl) rfl (Fx.Qt.skip (by rfl) rfl (Fx.Qt.skip (by rfl) rfl (Fx.Qt.skip (by rfl) rfl (Fx.Qt.v (.bool true) (fun v1 hv1 => x_pickT rfl rfl rfl) (Fx.Qt.v (.bool true) (fun v1 hv1 => x_move rfl rfl) (Fx.Qt.skip (by rfl) rfl (Fx.Qt.skip (by rfl) rfl (Fx.Qt.skip (by rfl) rfl (Fx.Qt.skip (by rfl) rfl (Fx.Qt.skip (by rfl) rfl (Fx.Qt.skip (by rfl) rfl (Fx.Qt.skip (by rfl) rfl ?_))))))))))))))))))))))))
   refine Fx.Qt.skip (by rfl) rfl (Fx.Qt.skip (by rfl) rfl (Fx.Qt.v (.bool true) (fun v1 hv1 => x_pickT rfl rfl rfl) (Fx.Qt.v (.bool true) (fun v1 hv1 => x_move rfl rfl) (Fx.Qt.skip (by rfl) rfl (Fx.Qt.skip (by rfl) rfl (Fx.Qt.skip (by rfl) rfl (Fx.Qt.skip (by rfl) rfl (Fx.Qt.skip (by rfl) rfl (Fx.Qt.skip (by rfl) rfl (Fx.Qt.skip (by rfl) rfl (Fx.Qt.v (.bool true) (fun v1 hv1 => x_pickT rfl rfl rfl) (Fx.Qt.nil ?_))))))))))))
   rintro _ ⟨qd, rfl⟩
   obtain ⟨wq6, ewq6⟩ : ∃ v1, v1 = World.drewN w2 qd := ⟨_, rfl⟩
   rw [← ewq6]
   have s7 : Fx.Stp w2.heap.size w2 wq6 := by rw [ewq6]; exact Fx.Stp.of_below (bdrN w2 qd)
   have b9 := s7.below b2 b2.size b2.size
   clear ewq6
   refine Fx.seqN (Fx.W.cond (b := true) rfl (fun _ => Fx.W.seq (Fx.W.list (Fx.L.v (.bool false) (x_assign rfl rfl) ?_))) (fun h => nomatch h))
   refine Fx.L.nil (Fx.seqN (Fx.W.ret (Fx.seqR (Fx.blkR (Fx.seqR (Fx.lpR (Fx.blkR (Fx.seqR (⟨.bool false, Fx.retV1 Try.results46 (by exact rfl), ?_⟩)))))))))
   refine ⟨congrArg (fun q => Ending.returned (Value.bool q)) (Eq.symm ?_), b9⟩
   exact no_ent (p := i) (by omega) c15
 ·refine Fx.L.v (.bool false) (Fx.x_lssF rfl rfl rfl c8) (Fx.L.nil (Fx.seqN (Fx.W.cond (b := false) rfl (fun h => nomatch h) (fun _ => Fx.W.exit (Fx.seqX (Fx.lpX (Fx.blkX (Fx.seqN (Fx.W.seq (Fx.W.seq (Fx.W.list (Fx.L.v (.int .i64 (1)) (x_assign rfl rfl) (Fx.L.nil (Fx.seqN (Fx.W.block ?_)))))))))))))))
  have e6 : i = 6 := by omega
  rw [e6] at hA
  have HE := okTo_ent hA
  have HA : OkTo x 6 := hA
  refine Fx.W.loop (fun f w_ => ∃ m : Nat, m ≤ 6 ∧ (∀ k, k < m → 0 ≤ L x k) ∧ f 1 = .pointer (some ⟨g1, 0, none⟩) ∧ f 3 = .int .i64 (sumG x i) ∧ f 6 = .int .i64 ((m : Int) + 1) ∧ Fx.Blk w_ g1 54 (Fx.rv .i64 x) 48 ∧ Below w.heap.size w w_) (fun f _ => (7 - (intOf (f 6)).toNat)) ⟨0, by omega, (fun _ h => absurd h (by omega)), h1, (h2.trans (by first | rfl | exact congrArg (Value.int .i64) (by omega))), (by first | rfl | exact congrArg (Value.int .i64) (by omega)), m2, b2⟩ ?_
  rintro f3 w4 ⟨m, hm, HL, h8, h9, h10, m10, b10⟩
  refine Fx.W.seq (Fx.W.seq (Fx.W.list (Fx.L.v (.int .i64 ((m : Int) + 1)) (x_move rfl h10) ?_)))
  by_cases c72 : ((m : Int) + 1) ≤ 6
  ·refine Fx.L.v (.bool true) (Fx.x_leqT rfl rfl rfl c72) (Fx.L.nil (Fx.seqN (Fx.W.cond (b := true) rfl (fun _ => Fx.W.skip (Fx.seqN (Fx.W.seq (Fx.W.block (Fx.W.seq (Fx.W.list (Fx.L.v (.agg (Fx.varr 54 (Fx.rv .i64 x))) (x_loadA (x := Fx.rv .i64 x) (y := Fx.rv .i64 x) rfl h8 (by kernel_rfl) (by kernel_rfl) m10.cel (i := 0) (by omega) (by omega) (fun j _ => by rw [Nat.zero_add])) ?_))))))) (fun h => nomatch h))))
   refine Fx.L.v (.int .i64 ((m : Int) + 1)) (x_move rfl h10) (Fx.L.call (by rfl) (Fx.r_call (args := [.agg (Fx.varr 54 (Fx.rv .i64 x)), .int .i64 ((m : Int) + 1)]) rfl rfl Try.func91 rfl rfl) rfl ((f7_local x m _ (by omega) HE).mono ?_))
   rintro e w5 ⟨he, hb1⟩
   refine ⟨.int .i64 (L x m), by rw [he], ?_⟩
   clear he
   have s8 := Fx.Stp.of_below hb1
   have m11 := m10.stp s8 (Nat.ne_of_lt (m10.lt))
   have b11 := s8.below b10 b10.size b10.size
   by_cases c78 : (L x m) < 0
   ·refine Fx.L.v (.bool true) (Fx.x_lssT rfl rfl rfl c78) (Fx.L.nil (Fx.seqN (Fx.W.cond (b := true) rfl (fun _ => Fx.W.seq (Fx.W.list (Fx.L.v (.bool false) (x_assign rfl rfl) ?_))) (fun h => nomatch h))))
    refine Fx.L.nil (Fx.seqN (Fx.W.ret (Fx.blkR (Fx.seqR (Fx.lpR (Fx.blkR (Fx.seqR (⟨.bool false, Fx.retV1 Try.results46 (by exact rfl), ?_⟩))))))))
    refine ⟨congrArg (fun q => Ending.returned (Value.bool q)) (Eq.symm ?_), b11⟩
    exact no_loc (i := m) (by omega) c78
   ·refine Fx.L.v (.bool false) (Fx.x_lssF rfl rfl rfl c78) (Fx.L.nil (Fx.seqN (Fx.W.cond (b := false) rfl (fun h => nomatch h) (fun _ => Fx.W.skip (Fx.blkN (Fx.seqN (Fx.W.list (Fx.L.v (.int .i64 ((m : Int) + 1)) (x_move rfl h10) (Fx.L.v (.int .i64 ((m : Int) + 2)) (Fx.x_add rfl rfl rfl (Fx.i64e (by omega) (by omega))) (Fx.L.v (.int .i64 ((m : Int) + 2)) (x_assign rfl rfl) (Fx.L.nil (Fx.lpN ⟨m + 1, by omega, loc_succ HL (by omega), h8, (h9.trans (by first | rfl | exact congrArg (Value.int .i64) (by omega))), (by first | rfl | exact congrArg (Value.int .i64) (by omega)), m11, b11⟩ ?_))))))))))))
    show (7 - (intOf ((.int .i64 ((m : Int) + 2)))).toNat) < _
    simp only [h10, intOf]; omega
  ·refine Fx.L.v (.bool false) (x_leqF rfl rfl rfl c72) (Fx.L.nil (Fx.seqN (Fx.W.cond (b := false) rfl (fun h => nomatch h) (fun _ => Fx.W.exit (Fx.seqX (Fx.lpX (Fx.blkX (Fx.seqN (Fx.W.seq (Fx.W.list (Fx.L.v (.int .i64 (sumG x i)) (x_move rfl h9) ?_)))))))))))
   by_cases c80 : (sumG x i) ≤ 1125899906842624
   ·refine Fx.L.v (.bool true) (Fx.x_leqT rfl rfl rfl c80) (Fx.L.v (.bool true) (x_assign rfl rfl) (Fx.L.nil (Fx.seqN (Fx.W.ret (⟨.bool true, Fx.retV1 Try.results46 (by exact rfl), ?_⟩)))))
    refine ⟨congrArg (fun q => Ending.returned (Value.bool q)) (Eq.symm ?_), b10⟩
    have e7 : m = 6 := by omega
    rw [e7] at HL
    rw [e6] at c80
    rw [may_fin HA HL]; exact decide_eq_true c80
   ·refine Fx.L.v (.bool false) (x_leqF rfl rfl rfl c80) (Fx.L.v (.bool false) (x_assign rfl rfl) (Fx.L.nil (Fx.seqN (Fx.W.ret (⟨.bool false, Fx.retV1 Try.results46 (by exact rfl), ?_⟩)))))
    refine ⟨congrArg (fun q => Ending.returned (Value.bool q)) (Eq.symm ?_), b10⟩
    have e7 : m = 6 := by omega
    rw [e7] at HL
    rw [e6] at c80
    rw [may_fin HA HL]; exact decide_eq_false c80
namespace Rt
def rightE (x : Nat → Int) (i n : Int) : Int := if may x && decide (1 ≤ n) && decide (n ≤ 1125899906842624) then (if regB i then 0 else 10) else 1
end Rt
theorem f7_right (x : Nat → Int) (i n : Int) (w : World) :
    Calls Try.prog 116 #[.agg (Fx.varr 54 (Fx.rv .i64 x)), .int .i64 (i), .int .i64 (n)] w fun e w' => e = .returned (.int .i64 (rightE x i n)) ∧ Below w.heap.size w w' := by
 refine Fx.enter Try.func116 rfl (n := 21) rfl (by rfl) ?_
 refine Fx.W.seq (Fx.W.list (Fx.L.box (m := 54) (y := Fx.rv .i64 x) (by rfl) rfl rfl (Fx.cells_agg _ _) rfl fun g1 w1 eg1 m1 s1 z1 => ?_))
 have b1 := s1.below (Below.refl w.heap.size w) (Below.refl w.heap.size w).size (Below.refl w.heap.size w).size
 have lg1 : w.heap.size ≤ g1 := by rw [eg1]; exact (Below.refl w.heap.size w).size
 have tg1 : g1 < w1.heap.size := m1.lt
 clear eg1
 refine Fx.L.v (.int .i64 (0)) (x_assign rfl rfl) (Fx.L.nil (Fx.seqN (Fx.W.seq (Fx.W.seq (Fx.W.list (Fx.L.v (.agg (Fx.varr 54 (Fx.rv .i64 x))) (x_loadA (x := Fx.rv .i64 x) (y := Fx.rv .i64 x) rfl rfl (by kernel_rfl) (by kernel_rfl) m1.cel (i := 0) (by omega) (by omega) (fun j _ => by rw [Nat.zero_add])) ?_))))))
 by_cases c8 : (may x) = true
 ·refine Fx.L.call (by rfl) (Fx.r_call (args := [.agg (Fx.varr 54 (Fx.rv .i64 x))]) rfl rfl Try.func46 rfl rfl) rfl ((f7_may x _).mono ?_)
  rintro e w2 ⟨he, hb1⟩
  refine ⟨.bool true, by rw [he, c8], ?_⟩
  clear he
  have s2 := Fx.Stp.of_below hb1
  have b2 := s2.below b1 b1.size b1.size
  refine Fx.L.v (.bool false) (Fx.x_notF rfl rfl) (Fx.L.v (.bool false) (x_move rfl rfl) (Fx.L.v (.int .i64 (n)) (x_move rfl rfl) ?_))
  by_cases c12 : n < 1
  ·refine Fx.L.v (.bool true) (Fx.x_lssT rfl rfl rfl c12) (Fx.L.v (.bool true) (x_pickF rfl rfl rfl) (Fx.L.v (.bool true) (x_move rfl rfl) (Fx.L.skip (by rfl) rfl (Fx.L.skip (by rfl) rfl (Fx.L.v (.bool true) (x_pickT rfl rfl rfl) (Fx.L.nil (Fx.seqN (Fx.W.cond (b := true) rfl (fun _ => Fx.W.seq (Fx.W.list (Fx.L.v (.int .i64 (1)) (x_assign rfl rfl) ?_))) (fun h => nomatch h)))))))))
   refine Fx.L.nil (Fx.seqN (Fx.W.ret (Fx.seqR (⟨.int .i64 (1), Fx.retV1 Try.results116 (by exact rfl), ?_⟩))))
   refine ⟨congrArg (fun q => Ending.returned (Value.int .i64 q)) ?_, b2⟩
   unfold rightE; rw [c8, decide_eq_false (show ¬ 1 ≤ n by omega)]; simp
  ·refine Fx.L.v (.bool false) (Fx.x_lssF rfl rfl rfl c12) (Fx.L.v (.bool false) (x_pickF rfl rfl rfl) (Fx.L.v (.bool false) (x_move rfl rfl) (Fx.L.v (.int .i64 (n)) (x_move rfl rfl) ?_)))
   by_cases c16 : 1125899906842624 < n
   ·refine Fx.L.v (.bool true) (Fx.x_gtrT rfl rfl rfl c16) (Fx.L.v (.bool true) (x_pickF rfl rfl rfl) (Fx.L.nil (Fx.seqN (Fx.W.cond (b := true) rfl (fun _ => Fx.W.seq (Fx.W.list (Fx.L.v (.int .i64 (1)) (x_assign rfl rfl) ?_))) (fun h => nomatch h)))))
    refine Fx.L.nil (Fx.seqN (Fx.W.ret (Fx.seqR (⟨.int .i64 (1), Fx.retV1 Try.results116 (by exact rfl), ?_⟩))))
    refine ⟨congrArg (fun q => Ending.returned (Value.int .i64 q)) ?_, b2⟩
    unfold rightE; rw [c8, decide_eq_true (show 1 ≤ n by omega), decide_eq_false (show ¬ n ≤ 1125899906842624 by omega)]; simp
   ·refine Fx.L.v (.bool false) (x_gtrF rfl rfl rfl c16) (Fx.L.v (.bool false) (x_pickF rfl rfl rfl) (Fx.L.nil (Fx.seqN (Fx.W.cond (b := false) rfl (fun h => nomatch h) (fun _ => Fx.W.skip (Fx.seqN (Fx.W.seq (Fx.W.seq (Fx.W.list (Fx.L.v (.int .i64 (i)) (x_move rfl rfl) ?_))))))))))
    by_cases c19 : (regB i) = true
    ·refine Fx.L.call (by rfl) (Fx.r_call (args := [.int .i64 (i)]) rfl rfl Try.func96 rfl rfl) rfl ((f7_region i _).mono ?_)
     rintro e v1 ⟨he, hv1⟩
     subst v1
     refine ⟨.bool true, by rw [he, c19], ?_⟩
     clear he
     refine Fx.L.v (.bool false) (Fx.x_notF rfl rfl) (Fx.L.nil (Fx.seqN (Fx.W.cond (b := false) rfl (fun h => nomatch h) (fun _ => Fx.W.skip (Fx.seqN (Fx.W.seq (Fx.W.list (Fx.L.v (.int .i64 (0)) (x_assign rfl rfl) (Fx.L.nil (Fx.seqN (Fx.W.ret (⟨.int .i64 (0), Fx.retV1 Try.results116 (by exact rfl), ?_⟩))))))))))))
     refine ⟨congrArg (fun q => Ending.returned (Value.int .i64 q)) ?_, b2⟩
     unfold rightE; rw [c8, decide_eq_true (show 1 ≤ n by omega), decide_eq_true (show n ≤ 1125899906842624 by omega), c19]; simp
    ·rw [Bool.not_eq_true] at c19
     refine Fx.L.call (by rfl) (Fx.r_call (args := [.int .i64 (i)]) rfl rfl Try.func96 rfl rfl) rfl ((f7_region i _).mono ?_)
     rintro e v1 ⟨he, hv1⟩
     subst v1
     refine ⟨.bool false, by rw [he, c19], ?_⟩
     clear he
     refine Fx.L.v (.bool true) (Fx.x_notT rfl rfl) (Fx.L.nil (Fx.seqN (Fx.W.cond (b := true) rfl (fun _ => Fx.W.seq (Fx.W.list (Fx.L.v (.int .i64 (10)) (x_assign rfl rfl) ?_))) (fun h => nomatch h))))
     refine Fx.L.nil (Fx.seqN (Fx.W.ret (Fx.seqR (⟨.int .i64 (10), Fx.retV1 Try.results116 (by exact rfl), ?_⟩))))
     refine ⟨congrArg (fun q => Ending.returned (Value.int .i64 q)) ?_, b2⟩
     unfold rightE; rw [c8, decide_eq_true (show 1 ≤ n by omega), decide_eq_true (show n ≤ 1125899906842624 by omega), c19]; simp
 ·rw [Bool.not_eq_true] at c8
  refine Fx.L.call (by rfl) (Fx.r_call (args := [.agg (Fx.varr 54 (Fx.rv .i64 x))]) rfl rfl Try.func46 rfl rfl) rfl ((f7_may x _).mono ?_)
  rintro e w3 ⟨he, hb2⟩
  refine ⟨.bool false, by rw [he, c8], ?_⟩
  clear he
  have s3 := Fx.Stp.of_below hb2
  have b3 := s3.below b1 b1.size b1.size
  refine Fx.L.v (.bool true) (Fx.x_notT rfl rfl) (Fx.L.v (.bool true) (x_move rfl rfl) (Fx.L.skip (by rfl) rfl (Fx.L.skip (by rfl) rfl (Fx.L.v (.bool true) (x_pickT rfl rfl rfl) (Fx.L.v (.bool true) (x_move rfl rfl) (Fx.L.skip (by rfl) rfl (Fx.L.skip (by rfl) rfl (Fx.L.v (.bool true) (x_pickT rfl rfl rfl) (Fx.L.nil (Fx.seqN (Fx.W.cond (b := true) rfl (fun _ => Fx.W.seq (Fx.W.list (Fx.L.v (.int .i64 (1)) (x_assign rfl rfl) ?_))) (fun h => nomatch h))))))))))))
  refine Fx.L.nil (Fx.seqN (Fx.W.ret (Fx.seqR (⟨.int .i64 (1), Fx.retV1 Try.results116 (by exact rfl), ?_⟩))))
  refine ⟨congrArg (fun q => Ending.returned (Value.int .i64 q)) ?_, b3⟩
  unfold rightE; rw [c8]; simp
namespace Rt
theorem right_ok {x : Nat → Int} {i n : Int} (h : rightE x i n = 0) : may x = true ∧ 1 ≤ n ∧ n ≤ 1125899906842624 ∧ regB i = true := by
  unfold rightE at h
  by_cases h1 : may x = true
  · by_cases h2 : 1 ≤ n
    · by_cases h3 : n ≤ 1125899906842624
      · rw [h1, decide_eq_true h2, decide_eq_true h3] at h
        cases h4 : regB i
        · rw [h4] at h; simp at h
        · exact ⟨h1, h2, h3, rfl⟩
      · rw [decide_eq_false h3] at h; simp at h
    · rw [decide_eq_false h2] at h; simp at h
  · rw [show may x = false by simpa using h1] at h; simp at h
theorem right_no {x : Nat → Int} {i n em : Int} {off : Nat} (h : ¬ rightE x i n = 0) : turnedM x n (regB i) em off = (zero, rightE x i n) := by
  unfold rightE at *
  unfold turnedM
  by_cases h1 : (may x && decide (1 ≤ n) && decide (n ≤ 1125899906842624)) = true
  · simp only [if_pos h1] at *
    cases h4 : regB i
    · simp
    · simp [h4] at h
  · simp only [if_neg h1] at *
theorem turned_y2 {x : Nat → Int} {n em : Int} {is : Bool} {off : Nat} (h1 : may x = true) (h2 : 1 ≤ n) (h3 : n ≤ 1125899906842624) (h4 : is = true) :
    turnedM x n is em off = if em = 0 then (if x off + n ≤ 1125899906842624 then (upd x off (x off + n), 0) else (zero, 6)) else (zero, em) := by
  unfold turnedM; rw [h1, decide_eq_true h2, decide_eq_true h3, h4]; simp
theorem turned_fin {x : Nat → Int} {n em : Int} {is : Bool} {off : Nat} (h1 : may x = true) (h2 : 1 ≤ n) (h3 : n ≤ 1125899906842624) (h4 : is = true) (h5 : em = 0) (h6 : x off + n ≤ 1125899906842624) : turnedM x n is em off = (upd x off (x off + n), 0) := by
  rw [turned_y2 h1 h2 h3 h4, if_pos h5, if_pos h6]
theorem turned_many {x : Nat → Int} {n em : Int} {is : Bool} {off : Nat} (h1 : may x = true) (h2 : 1 ≤ n) (h3 : n ≤ 1125899906842624) (h4 : is = true) (h5 : em = 0) (h6 : ¬ x off + n ≤ 1125899906842624) : turnedM x n is em off = (zero, 6) := by
  rw [turned_y2 h1 h2 h3 h4, if_pos h5, if_neg h6]
theorem turned_err {x : Nat → Int} {n em e : Int} {is : Bool} {off : Nat} (h1 : may x = true) (h2 : 1 ≤ n) (h3 : n ≤ 1125899906842624) (h4 : is = true) (h5 : em = e) (h6 : e ≠ 0) : turnedM x n is em off = (zero, e) := by
  rw [turned_y2 h1 h2 h3 h4, h5, if_neg h6]
theorem turned_is {x : Nat → Int} {n em : Int} {off : Nat} (h1 : may x = true) (h2 : 1 ≤ n) (h3 : n ≤ 1125899906842624) : turnedM x n false em off = (zero, 10) := by
  unfold turnedM; rw [h1, decide_eq_true h2, decide_eq_true h3]; simp
theorem pl (k : Nat) : ((k : Int) + 1).toNat - 1 = k := by omega
theorem right_no2 {x : Nat → Int} {i j n : Int} (h : ¬ rightE x i n = 0) : moveM x i j n = (zero, rightE x i n) := by
  unfold moveM
  unfold rightE at *
  unfold turnedM
  by_cases h1 : (may x && decide (1 ≤ n) && decide (n ≤ 1125899906842624)) = true
  · simp only [if_pos h1] at *
    cases h4 : regB i
    · simp
    · simp [h4] at h
  · simp only [if_neg h1] at *
theorem moveO_at (k q : Nat) : moveO ((k : Int) + 1) ((q : Int) + 1) = 6 * k + q + 18 := by unfold moveO; omega
theorem free_fit {x : Nat → Int} {k : Nat} (HM : may x = true) (hk : k < 6) : x (k + 6) ≤ 1125899906842624 := (may_ent HM (k + 6) (by omega)).2
end Rt
set_option maxRecDepth 10000 in
theorem f7_take (x : Nat → Int) (i n : Int) (w : World) :
    Calls Try.prog 93 #[.agg (Fx.varr 54 (Fx.rv .i64 x)), .int .i64 (i), .int .i64 (n)] w fun e w' => e = .returned (.tuple #[.agg (Fx.varr 54 (Fx.rv .i64 (takeM x i n).1)), .int .i64 (takeM x i n).2]) ∧ Below w.heap.size w w' := by
 refine Fx.enter Try.func93 rfl (n := 42) rfl (by rfl) ?_
 refine Fx.W.seq (Fx.W.list (Fx.L.box (m := 54) (y := Fx.rv .i64 x) (by rfl) rfl rfl (Fx.cells_agg _ _) rfl fun g1 w1 eg1 m1 s1 z1 => ?_))
 have b1 := s1.below (Below.refl w.heap.size w) (Below.refl w.heap.size w).size (Below.refl w.heap.size w).size
 have lg1 : w.heap.size ≤ g1 := by rw [eg1]; exact (Below.refl w.heap.size w).size
 have tg1 : g1 < w1.heap.size := m1.lt
 clear eg1
 refine Fx.L.new (m := 54) (y := Fx.rv .i64 (fun _ => 0)) (by rfl) rfl (by kernel_rfl) rfl fun g2 w2 eg2 m2 s2 z2 => ?_
 have m3 := m1.stp s2 (Nat.ne_of_lt (m1.lt))
 have b2 := s2.below b1 b1.size b1.size
 have lg2 : w.heap.size ≤ g2 := by rw [eg2]; exact b1.size
 have ng2m3 : g1 ≠ g2 := by rw [eg2]; exact Nat.ne_of_lt (m1.lt)
 have tg2 : g2 < w2.heap.size := m2.lt
 clear eg2
 refine Fx.L.v (.int .i64 (0)) (x_assign rfl rfl) (Fx.L.nil (Fx.seqN (Fx.W.seq (Fx.W.list (Fx.L.v (.agg (Fx.varr 54 (Fx.rv .i64 x))) (x_loadA (x := Fx.rv .i64 x) (y := Fx.rv .i64 x) rfl rfl (by kernel_rfl) (by kernel_rfl) m3.cel (i := 0) (by omega) (by omega) (fun j _ => by rw [Nat.zero_add])) (Fx.L.v (.int .i64 (i)) (x_move rfl rfl) (Fx.L.v (.int .i64 (n)) (x_move rfl rfl) (Fx.L.call (by rfl) (Fx.r_call (args := [.agg (Fx.varr 54 (Fx.rv .i64 x)), .int .i64 (i), .int .i64 (n)]) rfl rfl Try.func116 rfl rfl) rfl ((f7_right x i n _).mono ?_)))))))))
 rintro e w3 ⟨he, hb1⟩
 refine ⟨.int .i64 (rightE x i n), by rw [he], ?_⟩
 clear he
 have s3 := Fx.Stp.of_below hb1
 have m4 := m3.stp s3 (Nat.ne_of_lt (m3.lt))
 have m5 := m2.stp s3 (Nat.ne_of_lt (m2.lt))
 have b3 := s3.below b2 b2.size b2.size
 refine Fx.L.v (.int .i64 (rightE x i n)) (x_assign rfl rfl) (Fx.L.nil (Fx.seqN (Fx.W.seq (Fx.W.seq (Fx.W.list (Fx.L.v (.int .i64 (rightE x i n)) (x_move rfl rfl) ?_))))))
 by_cases c14 : (rightE x i n) = 0
 ·refine Fx.L.v (.bool false) (Fx.x_neqF rfl rfl rfl c14) (Fx.L.nil (Fx.seqN (Fx.W.cond (b := false) rfl (fun h => nomatch h) (fun _ => Fx.W.skip (Fx.seqN (Fx.W.seq (Fx.W.seq ?_)))))))
  obtain ⟨HM, n1, n2, HR⟩ := right_ok c14
  have HE := may_ent HM
  obtain ⟨k, hk, ei, _⟩ := reg_nat HR
  subst ei
  refine Fx.W.list (Fx.L.v (.int .i64 (n)) (x_move rfl rfl) (Fx.L.v (.agg (Fx.varr 54 (Fx.rv .i64 x))) (x_loadA (x := Fx.rv .i64 x) (y := Fx.rv .i64 x) rfl rfl (by kernel_rfl) (by kernel_rfl) m4.cel (i := 0) (by omega) (by omega) (fun j _ => by rw [Nat.zero_add])) (Fx.L.v (.int .i64 ((k : Int) + 1)) (x_move rfl rfl) (Fx.L.call (by rfl) (Fx.r_call (args := [.agg (Fx.varr 54 (Fx.rv .i64 x)), .int .i64 ((k : Int) + 1)]) rfl rfl Try.func91 rfl rfl) rfl ((f7_local x k _ (by omega) (may_ent HM)).mono ?_)))))
  rintro e w4 ⟨he, hb2⟩
  refine ⟨.int .i64 (L x k), by rw [he], ?_⟩
  clear he
  have s4 := Fx.Stp.of_below hb2
  have m6 := m4.stp s4 (Nat.ne_of_lt (m4.lt))
  have m7 := m5.stp s4 (Nat.ne_of_lt (m5.lt))
  have b4 := s4.below b3 b3.size b3.size
  by_cases c21 : (L x k) < n
  ·refine Fx.L.v (.bool true) (Fx.x_gtrT rfl rfl rfl c21) (Fx.L.nil (Fx.seqN (Fx.W.cond (b := true) rfl (fun _ => Fx.W.seq (Fx.W.list (Fx.L.v (.agg (Fx.varr 54 (Fx.rv .i64 (fun _ => 0)))) (x_build (vs := []) (places := #[(0, 6), (6, 6), (12, 6), (18, 36)]) (m := 54) (x := Fx.rv .i64 (fun _ => 0)) rfl rfl Try.underlying48 (by kernel_rfl) (by kernel_rfl) (by rfl)) ?_))) (fun h => nomatch h))))
   refine Fx.L.storeA (x := Fx.rv .i64 (fun _ => 0)) (y := Fx.rv .i64 (fun _ => 0)) (by rfl) rfl rfl rfl rfl (fun _ _ => rfl) (by kernel_rfl) m7 (i := 0) (by omega) fun w5 m8 s5 z3 => ?_
   have m9 : Fx.Blk w5 g2 54 (Fx.rv .i64 (fun _ => 0)) 48 := Fx.ovr_all m8
   have m10 := m6.stp s5 (by omega)
   have b5 := s5.below b4 b4.size (by omega)
   refine Fx.L.v (.int .i64 (11)) (x_assign rfl rfl) (Fx.L.nil (Fx.seqN (Fx.W.ret (Fx.seqR (⟨.tuple #[.agg (Fx.varr 54 (Fx.rv .i64 (fun _ => 0))), .int .i64 (11)], Fx.retV2 Try.results93 ⟨_, rfl, Fx.run_loadV m9.cel (by kernel_rfl) (by kernel_rfl)⟩ (by exact rfl), ?_⟩)))))
   refine ⟨?_, b5⟩
   have hM : takeM x ((k : Int) + 1) n = (zero, 11) := by
    unfold takeM takeE
    rw [localV_L HM k hk, decide_eq_true c21]
    exact turned_err HM n1 n2 HR rfl (by decide)
   rw [hM]
   all_goals rfl
  ·refine Fx.L.v (.bool false) (x_gtrF rfl rfl rfl c21) (Fx.L.nil (Fx.seqN (Fx.W.cond (b := false) rfl (fun h => nomatch h) (fun _ => Fx.W.skip (Fx.seqN (Fx.W.seq (Fx.W.seq ?_)))))))
   have q1 := HE (k + 6)
   refine Fx.W.list (Fx.L.v (.int .i64 ((k : Int) + 1)) (x_move rfl rfl) (Fx.L.v (.int .i64 ((k : Int))) (Fx.x_sub rfl rfl rfl (Fx.i64e (by omega) (by omega))) (Fx.L.v (.pointer (some ⟨g1, 6, none⟩)) (x_field rfl rfl Try.underlying48 rfl (s := 6) (by kernel_rfl) rfl (by show _ + 6 = _; omega)) (Fx.L.v (.pointer (some ⟨g1, k + 6, none⟩)) (x_index rfl rfl rfl Try.underlying45 (s := 1) (by kernel_rfl) (by omega) (by omega) (by omega)) (Fx.L.v (.int .i64 (x (k + 6))) (x_load1 (x := Fx.rv .i64 x) rfl rfl (by kernel_rfl) m6.cel (i := k + 6) (by omega) (by omega) rfl) (Fx.L.v (.int .i64 (n)) (x_move rfl rfl) (Fx.L.v (.int .i64 ((x (k + 6)) + n)) (Fx.x_add rfl rfl rfl (Fx.i64e (by omega) (by omega))) ?_)))))))
   by_cases c30 : 1125899906842624 < ((x (k + 6)) + n)
   ·refine Fx.L.v (.bool true) (Fx.x_gtrT rfl rfl rfl c30) (Fx.L.nil (Fx.seqN (Fx.W.cond (b := true) rfl (fun _ => Fx.W.seq (Fx.W.list (Fx.L.v (.agg (Fx.varr 54 (Fx.rv .i64 (fun _ => 0)))) (x_build (vs := []) (places := #[(0, 6), (6, 6), (12, 6), (18, 36)]) (m := 54) (x := Fx.rv .i64 (fun _ => 0)) rfl rfl Try.underlying48 (by kernel_rfl) (by kernel_rfl) (by rfl)) ?_))) (fun h => nomatch h))))
    refine Fx.L.storeA (x := Fx.rv .i64 (fun _ => 0)) (y := Fx.rv .i64 (fun _ => 0)) (by rfl) rfl rfl rfl rfl (fun _ _ => rfl) (by kernel_rfl) m7 (i := 0) (by omega) fun w6 m11 s6 z4 => ?_
    have m12 : Fx.Blk w6 g2 54 (Fx.rv .i64 (fun _ => 0)) 48 := Fx.ovr_all m11
    have m13 := m6.stp s6 (by omega)
    have b6 := s6.below b4 b4.size (by omega)
    refine Fx.L.v (.int .i64 (6)) (x_assign rfl rfl) (Fx.L.nil (Fx.seqN (Fx.W.ret (Fx.seqR (⟨.tuple #[.agg (Fx.varr 54 (Fx.rv .i64 (fun _ => 0))), .int .i64 (6)], Fx.retV2 Try.results93 ⟨_, rfl, Fx.run_loadV m12.cel (by kernel_rfl) (by kernel_rfl)⟩ (by exact rfl), ?_⟩)))))
    refine ⟨?_, b6⟩
    have hM : takeM x ((k : Int) + 1) n = (zero, 6) := by
     unfold takeM takeE
     rw [localV_L HM k hk, decide_eq_false c21, pl, Nat.add_comm 6 k]
     exact turned_many HM n1 n2 HR rfl (by omega)
    rw [hM]
    all_goals rfl
   ·refine Fx.L.v (.bool false) (x_gtrF rfl rfl rfl c30) (Fx.L.nil (Fx.seqN (Fx.W.cond (b := false) rfl (fun h => nomatch h) (fun _ => Fx.W.skip (Fx.seqN (Fx.W.seq (Fx.W.list (Fx.L.v (.int .i64 ((k : Int) + 1)) (x_move rfl rfl) (Fx.L.v (.int .i64 ((k : Int))) (Fx.x_sub rfl rfl rfl (Fx.i64e (by omega) (by omega))) (Fx.L.v (.pointer (some ⟨g1, 6, none⟩)) (x_field rfl rfl Try.underlying48 rfl (s := 6) (by kernel_rfl) rfl (by show _ + 6 = _; omega)) (Fx.L.v (.pointer (some ⟨g1, k + 6, none⟩)) (x_index rfl rfl rfl Try.underlying45 (s := 1) (by kernel_rfl) (by omega) (by omega) (by omega)) (Fx.L.v (.int .i64 (x (k + 6))) (x_load1 (x := Fx.rv .i64 x) rfl rfl (by kernel_rfl) m6.cel (i := k + 6) (by omega) (by omega) rfl) (Fx.L.v (.int .i64 (n)) (x_move rfl rfl) (Fx.L.v (.int .i64 ((x (k + 6)) + n)) (Fx.x_add rfl rfl rfl (Fx.i64e (by omega) (by omega))) (Fx.L.v (.pointer (some ⟨g1, 6, none⟩)) (x_field rfl rfl Try.underlying48 rfl (s := 6) (by kernel_rfl) rfl (by show _ + 6 = _; omega)) (Fx.L.v (.pointer (some ⟨g1, k + 6, none⟩)) (x_index rfl rfl rfl Try.underlying45 (s := 1) (by kernel_rfl) (by omega) (by omega) (by omega)) (Fx.L.store1 (x := Fx.rv .i64 x) (u := .int .i64 ((x (k + 6)) + n)) (by rfl) rfl rfl rfl rfl (by rfl) (by kernel_rfl) m6 (i := k + 6) (by omega) fun w7 m14 s7 z5 => ?_)))))))))))))))))
    have m15 : Fx.Blk w7 g1 54 (Fx.rv .i64 (upd x (k + 6) ((x (k + 6)) + n))) 48 := m14.to (Fx.updV_rv _ _ _ _)
    have m16 := m7.stp s7 (by omega)
    have b7 := s7.below b4 b4.size (by omega)
    refine Fx.L.nil (Fx.seqN (Fx.W.seq (Fx.W.list (Fx.L.v (.agg (Fx.varr 54 (Fx.rv .i64 (upd x (k + 6) ((x (k + 6)) + n))))) (x_loadA (x := Fx.rv .i64 (upd x (k + 6) ((x (k + 6)) + n))) (y := Fx.rv .i64 (upd x (k + 6) ((x (k + 6)) + n))) rfl rfl (by kernel_rfl) (by kernel_rfl) m15.cel (i := 0) (by omega) (by omega) (fun j _ => by rw [Nat.zero_add])) (Fx.L.storeA (x := Fx.rv .i64 (fun _ => 0)) (y := Fx.rv .i64 (upd x (k + 6) ((x (k + 6)) + n))) (by rfl) rfl rfl rfl rfl (fun _ _ => rfl) (by kernel_rfl) m16 (i := 0) (by omega) fun w8 m17 s8 z6 => ?_)))))
    have m18 : Fx.Blk w8 g2 54 (Fx.rv .i64 (upd x (k + 6) ((x (k + 6)) + n))) 48 := Fx.ovr_all m17
    have m19 := m15.stp s8 (by omega)
    have b8 := s8.below b7 b7.size (by omega)
    refine Fx.L.v (.int .i64 (0)) (x_assign rfl rfl) (Fx.L.nil (Fx.seqN (Fx.W.ret (⟨.tuple #[.agg (Fx.varr 54 (Fx.rv .i64 (upd x (k + 6) ((x (k + 6)) + n)))), .int .i64 (0)], Fx.retV2 Try.results93 ⟨_, rfl, Fx.run_loadV m18.cel (by kernel_rfl) (by kernel_rfl)⟩ (by exact rfl), ?_⟩))))
    refine ⟨?_, b8⟩
    have hM : takeM x ((k : Int) + 1) n = (upd x (k + 6) (x (k + 6) + n), 0) := by
     unfold takeM takeE
     rw [localV_L HM k hk, decide_eq_false c21, pl, Nat.add_comm 6 k]
     exact turned_fin HM n1 n2 HR rfl (by omega)
    rw [hM]
    all_goals rfl
 ·refine Fx.L.v (.bool true) (Fx.x_neqT rfl rfl rfl c14) (Fx.L.nil (Fx.seqN (Fx.W.cond (b := true) rfl (fun _ => Fx.W.seq (Fx.W.list (Fx.L.v (.agg (Fx.varr 54 (Fx.rv .i64 (fun _ => 0)))) (x_build (vs := []) (places := #[(0, 6), (6, 6), (12, 6), (18, 36)]) (m := 54) (x := Fx.rv .i64 (fun _ => 0)) rfl rfl Try.underlying48 (by kernel_rfl) (by kernel_rfl) (by rfl)) ?_))) (fun h => nomatch h))))
  refine Fx.L.v (.int .i64 (rightE x i n)) (x_move rfl rfl) (Fx.L.storeA (x := Fx.rv .i64 (fun _ => 0)) (y := Fx.rv .i64 (fun _ => 0)) (by rfl) rfl rfl rfl rfl (fun _ _ => rfl) (by kernel_rfl) m5 (i := 0) (by omega) fun w9 m20 s9 z7 => ?_)
  have m21 : Fx.Blk w9 g2 54 (Fx.rv .i64 (fun _ => 0)) 48 := Fx.ovr_all m20
  have m22 := m4.stp s9 (by omega)
  have b9 := s9.below b3 b3.size (by omega)
  refine Fx.L.v (.int .i64 (rightE x i n)) (x_assign rfl rfl) (Fx.L.nil (Fx.seqN (Fx.W.ret (Fx.seqR (⟨.tuple #[.agg (Fx.varr 54 (Fx.rv .i64 (fun _ => 0))), .int .i64 (rightE x i n)], Fx.retV2 Try.results93 ⟨_, rfl, Fx.run_loadV m21.cel (by kernel_rfl) (by kernel_rfl)⟩ (by exact rfl), ?_⟩)))))
  refine ⟨?_, b9⟩
  have hM : takeM x i n = (zero, rightE x i n) := by
   exact right_no c14
  rw [hM]
  all_goals rfl
set_option maxRecDepth 10000 in
theorem f7_free (x : Nat → Int) (i n : Int) (w : World) :
    Calls Try.prog 94 #[.agg (Fx.varr 54 (Fx.rv .i64 x)), .int .i64 (i), .int .i64 (n)] w fun e w' => e = .returned (.tuple #[.agg (Fx.varr 54 (Fx.rv .i64 (freeM x i n).1)), .int .i64 (freeM x i n).2]) ∧ Below w.heap.size w w' := by
 refine Fx.enter Try.func94 rfl (n := 41) rfl (by rfl) ?_
 refine Fx.W.seq (Fx.W.list (Fx.L.box (m := 54) (y := Fx.rv .i64 x) (by rfl) rfl rfl (Fx.cells_agg _ _) rfl fun g1 w1 eg1 m1 s1 z1 => ?_))
 have b1 := s1.below (Below.refl w.heap.size w) (Below.refl w.heap.size w).size (Below.refl w.heap.size w).size
 have lg1 : w.heap.size ≤ g1 := by rw [eg1]; exact (Below.refl w.heap.size w).size
 have tg1 : g1 < w1.heap.size := m1.lt
 clear eg1
 refine Fx.L.new (m := 54) (y := Fx.rv .i64 (fun _ => 0)) (by rfl) rfl (by kernel_rfl) rfl fun g2 w2 eg2 m2 s2 z2 => ?_
 have m3 := m1.stp s2 (Nat.ne_of_lt (m1.lt))
 have b2 := s2.below b1 b1.size b1.size
 have lg2 : w.heap.size ≤ g2 := by rw [eg2]; exact b1.size
 have ng2m3 : g1 ≠ g2 := by rw [eg2]; exact Nat.ne_of_lt (m1.lt)
 have tg2 : g2 < w2.heap.size := m2.lt
 clear eg2
 refine Fx.L.v (.int .i64 (0)) (x_assign rfl rfl) (Fx.L.nil (Fx.seqN (Fx.W.seq (Fx.W.list (Fx.L.v (.agg (Fx.varr 54 (Fx.rv .i64 x))) (x_loadA (x := Fx.rv .i64 x) (y := Fx.rv .i64 x) rfl rfl (by kernel_rfl) (by kernel_rfl) m3.cel (i := 0) (by omega) (by omega) (fun j _ => by rw [Nat.zero_add])) (Fx.L.v (.int .i64 (i)) (x_move rfl rfl) (Fx.L.v (.int .i64 (n)) (x_move rfl rfl) (Fx.L.call (by rfl) (Fx.r_call (args := [.agg (Fx.varr 54 (Fx.rv .i64 x)), .int .i64 (i), .int .i64 (n)]) rfl rfl Try.func116 rfl rfl) rfl ((f7_right x i n _).mono ?_)))))))))
 rintro e w3 ⟨he, hb1⟩
 refine ⟨.int .i64 (rightE x i n), by rw [he], ?_⟩
 clear he
 have s3 := Fx.Stp.of_below hb1
 have m4 := m3.stp s3 (Nat.ne_of_lt (m3.lt))
 have m5 := m2.stp s3 (Nat.ne_of_lt (m2.lt))
 have b3 := s3.below b2 b2.size b2.size
 refine Fx.L.v (.int .i64 (rightE x i n)) (x_assign rfl rfl) (Fx.L.nil (Fx.seqN (Fx.W.seq (Fx.W.seq (Fx.W.list (Fx.L.v (.int .i64 (rightE x i n)) (x_move rfl rfl) ?_))))))
 by_cases c14 : (rightE x i n) = 0
 ·refine Fx.L.v (.bool false) (Fx.x_neqF rfl rfl rfl c14) (Fx.L.nil (Fx.seqN (Fx.W.cond (b := false) rfl (fun h => nomatch h) (fun _ => Fx.W.skip (Fx.seqN (Fx.W.seq (Fx.W.seq ?_)))))))
  obtain ⟨HM, n1, n2, HR⟩ := right_ok c14
  have HE := may_ent HM
  obtain ⟨k, hk, ei, _⟩ := reg_nat HR
  subst ei
  have q1 := HE (k + 6)
  have q2 := HE (k + 12)
  -- region 4 draws
  refine Fx.W.quiet (fun v1 => ∃ q, v1 = World.drewN w3 q) (by kernel_rfl) (by kernel_rfl) ⟨1, rfl⟩ ?_
  refine Fx.Qt.v (.int .i64 (n)) (fun v1 hv1 => x_move rfl rfl) (Fx.Qt.v (.int .i64 ((k : Int) + 1)) (fun v1 hv1 => x_move rfl rfl) (Fx.Qt.v (.int .i64 ((k : Int))) (fun v1 hv1 => Fx.x_sub rfl rfl rfl (Fx.i64e (by omega) (by omega))) (Fx.Qt.v (.pointer (some ⟨g1, 6, none⟩)) (fun v1 hv1 => x_field rfl rfl Try.underlying48 rfl (s := 6) (by kernel_rfl) rfl (by show _ + 6 = _; omega)) (Fx.Qt.v (.pointer (some ⟨g1, k + 6, none⟩)) (fun v1 hv1 => x_index rfl rfl rfl Try.underlying45 (s := 1) (by kernel_rfl) (by omega) (by omega) (by omega)) (Fx.Qt.v (.int .i64 (x (k + 6))) (fun v1 hv1 => x_load1 (x := Fx.rv .i64 x) rfl rfl (by kernel_rfl) (by obtain ⟨qd, rfl⟩ := hv1; exact m4.cel) (i := k + 6) (by omega) (by omega) rfl) (Fx.Qt.v (.int .i64 ((k : Int) + 1)) (fun v1 hv1 => x_move rfl rfl) (Fx.Qt.v (.int .i64 ((k : Int))) (fun v1 hv1 => Fx.x_sub rfl rfl rfl (Fx.i64e (by omega) (by omega))) (Fx.Qt.v (.pointer (some ⟨g1, 12, none⟩)) (fun v1 hv1 => x_field rfl rfl Try.underlying48 rfl (s := 6) (by kernel_rfl) rfl (by show _ + 12 = _; omega)) (Fx.Qt.v (.pointer (some ⟨g1, k + 12, none⟩)) (fun v1 hv1 => x_index rfl rfl rfl Try.underlying45 (s := 1) (by kernel_rfl) (by omega) (by omega) (by omega)) (Fx.Qt.v (.int .i64 (x (k + 12))) (fun v1 hv1 => x_load1 (x := Fx.rv .i64 x) rfl rfl (by kernel_rfl) (by obtain ⟨qd, rfl⟩ := hv1; exact m4.cel) (i := k + 12) (by omega) (by omega) rfl) (Fx.Qt.v (.int .i64 ((x (k + 6)) - (x (k + 12)))) (fun v1 hv1 => Fx.x_sub rfl rfl rfl (Fx.i64e (by omega) (by omega))) ?_)))))))))))
  by_cases c29 : ((x (k + 6)) - (x (k + 12))) < n
  ·refine Fx.Qt.v (.bool true) (fun v1 hv1 => Fx.x_gtrT rfl rfl rfl c29) (Fx.Qt.nil ?_)
   rintro _ ⟨qd, rfl⟩
   obtain ⟨wq1, ewq1⟩ : ∃ v1, v1 = World.drewN w3 qd := ⟨_, rfl⟩
   rw [← ewq1]
   have s4 : Fx.Stp w3.heap.size w3 wq1 := by rw [ewq1]; exact Fx.Stp.of_below (bdrN w3 qd)
   have m6 := m4.stp s4 (Nat.ne_of_lt (m4.lt))
   have m7 := m5.stp s4 (Nat.ne_of_lt (m5.lt))
   have b4 := s4.below b3 b3.size b3.size
   clear ewq1
   refine Fx.seqN (Fx.W.cond (b := true) rfl (fun _ => Fx.W.seq (Fx.W.list (Fx.L.v (.agg (Fx.varr 54 (Fx.rv .i64 (fun _ => 0)))) (x_build (vs := []) (places := #[(0, 6), (6, 6), (12, 6), (18, 36)]) (m := 54) (x := Fx.rv .i64 (fun _ => 0)) rfl rfl Try.underlying48 (by kernel_rfl) (by kernel_rfl) (by rfl)) ?_))) (fun h => nomatch h))
   refine Fx.L.storeA (x := Fx.rv .i64 (fun _ => 0)) (y := Fx.rv .i64 (fun _ => 0)) (by rfl) rfl rfl rfl rfl (fun _ _ => rfl) (by kernel_rfl) m7 (i := 0) (by omega) fun w4 m8 s5 z3 => ?_
   have m9 : Fx.Blk w4 g2 54 (Fx.rv .i64 (fun _ => 0)) 48 := Fx.ovr_all m8
   have m10 := m6.stp s5 (by omega)
   have b5 := s5.below b4 b4.size (by omega)
   refine Fx.L.v (.int .i64 (12)) (x_assign rfl rfl) (Fx.L.nil (Fx.seqN (Fx.W.ret (Fx.seqR (⟨.tuple #[.agg (Fx.varr 54 (Fx.rv .i64 (fun _ => 0))), .int .i64 (12)], Fx.retV2 Try.results94 ⟨_, rfl, Fx.run_loadV m9.cel (by kernel_rfl) (by kernel_rfl)⟩ (by exact rfl), ?_⟩)))))
   refine ⟨?_, b5⟩
   have hM : freeM x ((k : Int) + 1) n = (zero, 12) := by
    unfold freeM freeE C F
    rw [pl, Nat.add_comm 6 k, Nat.add_comm 12 k, decide_eq_true c29]
    exact turned_err HM n1 n2 HR rfl (by decide)
   rw [hM]
   all_goals rfl
  ·refine Fx.Qt.v (.bool false) (fun v1 hv1 => x_gtrF rfl rfl rfl c29) (Fx.Qt.nil ?_)
   rintro _ ⟨qd, rfl⟩
   obtain ⟨wq2, ewq2⟩ : ∃ v1, v1 = World.drewN w3 qd := ⟨_, rfl⟩
   rw [← ewq2]
   have s6 : Fx.Stp w3.heap.size w3 wq2 := by rw [ewq2]; exact Fx.Stp.of_below (bdrN w3 qd)
   have m11 := m4.stp s6 (Nat.ne_of_lt (m4.lt))
   have m12 := m5.stp s6 (Nat.ne_of_lt (m5.lt))
   have b6 := s6.below b3 b3.size b3.size
   clear ewq2
   refine Fx.seqN (Fx.W.cond (b := false) rfl (fun h => nomatch h) (fun _ => Fx.W.skip (Fx.seqN (Fx.W.seq (Fx.W.list (Fx.L.v (.int .i64 ((k : Int) + 1)) (x_move rfl rfl) (Fx.L.v (.int .i64 ((k : Int))) (Fx.x_sub rfl rfl rfl (Fx.i64e (by omega) (by omega))) (Fx.L.v (.pointer (some ⟨g1, 12, none⟩)) (x_field rfl rfl Try.underlying48 rfl (s := 6) (by kernel_rfl) rfl (by show _ + 12 = _; omega)) (Fx.L.v (.pointer (some ⟨g1, k + 12, none⟩)) (x_index rfl rfl rfl Try.underlying45 (s := 1) (by kernel_rfl) (by omega) (by omega) (by omega)) (Fx.L.v (.int .i64 (x (k + 12))) (x_load1 (x := Fx.rv .i64 x) rfl rfl (by kernel_rfl) m11.cel (i := k + 12) (by omega) (by omega) rfl) (Fx.L.v (.int .i64 (n)) (x_move rfl rfl) (Fx.L.v (.int .i64 ((x (k + 12)) + n)) (Fx.x_add rfl rfl rfl (Fx.i64e (by omega) (by omega))) (Fx.L.v (.pointer (some ⟨g1, 12, none⟩)) (x_field rfl rfl Try.underlying48 rfl (s := 6) (by kernel_rfl) rfl (by show _ + 12 = _; omega)) (Fx.L.v (.pointer (some ⟨g1, k + 12, none⟩)) (x_index rfl rfl rfl Try.underlying45 (s := 1) (by kernel_rfl) (by omega) (by omega) (by omega)) (Fx.L.store1 (x := Fx.rv .i64 x) (u := .int .i64 ((x (k + 12)) + n)) (by rfl) rfl rfl rfl rfl (by rfl) (by kernel_rfl) m11 (i := k + 12) (by omega) fun w5 m13 s7 z4 => ?_)))))))))))))))
   have m14 : Fx.Blk w5 g1 54 (Fx.rv .i64 (upd x (k + 12) ((x (k + 12)) + n))) 48 := m13.to (Fx.updV_rv _ _ _ _)
   have m15 := m12.stp s7 (by omega)
   have b7 := s7.below b6 b6.size (by omega)
   refine Fx.L.nil (Fx.seqN (Fx.W.seq (Fx.W.list (Fx.L.v (.agg (Fx.varr 54 (Fx.rv .i64 (upd x (k + 12) ((x (k + 12)) + n))))) (x_loadA (x := Fx.rv .i64 (upd x (k + 12) ((x (k + 12)) + n))) (y := Fx.rv .i64 (upd x (k + 12) ((x (k + 12)) + n))) rfl rfl (by kernel_rfl) (by kernel_rfl) m14.cel (i := 0) (by omega) (by omega) (fun j _ => by rw [Nat.zero_add])) (Fx.L.storeA (x := Fx.rv .i64 (fun _ => 0)) (y := Fx.rv .i64 (upd x (k + 12) ((x (k + 12)) + n))) (by rfl) rfl rfl rfl rfl (fun _ _ => rfl) (by kernel_rfl) m15 (i := 0) (by omega) fun w6 m16 s8 z5 => ?_)))))
   have m17 : Fx.Blk w6 g2 54 (Fx.rv .i64 (upd x (k + 12) ((x (k + 12)) + n))) 48 := Fx.ovr_all m16
   have m18 := m14.stp s8 (by omega)
   have b8 := s8.below b7 b7.size (by omega)
   refine Fx.L.v (.int .i64 (0)) (x_assign rfl rfl) (Fx.L.nil (Fx.seqN (Fx.W.ret (⟨.tuple #[.agg (Fx.varr 54 (Fx.rv .i64 (upd x (k + 12) ((x (k + 12)) + n)))), .int .i64 (0)], Fx.retV2 Try.results94 ⟨_, rfl, Fx.run_loadV m17.cel (by kernel_rfl) (by kernel_rfl)⟩ (by exact rfl), ?_⟩))))
   refine ⟨?_, b8⟩
   have hM : freeM x ((k : Int) + 1) n = (upd x (k + 12) (x (k + 12) + n), 0) := by
    unfold freeM freeE C F
    rw [pl, Nat.add_comm 6 k, Nat.add_comm 12 k, decide_eq_false c29]
    exact turned_fin HM n1 n2 HR rfl (by have := free_fit HM hk; omega)
   rw [hM]
   all_goals rfl
 ·refine Fx.L.v (.bool true) (Fx.x_neqT rfl rfl rfl c14) (Fx.L.nil (Fx.seqN (Fx.W.cond (b := true) rfl (fun _ => Fx.W.seq (Fx.W.list (Fx.L.v (.agg (Fx.varr 54 (Fx.rv .i64 (fun _ => 0)))) (x_build (vs := []) (places := #[(0, 6), (6, 6), (12, 6), (18, 36)]) (m := 54) (x := Fx.rv .i64 (fun _ => 0)) rfl rfl Try.underlying48 (by kernel_rfl) (by kernel_rfl) (by rfl)) ?_))) (fun h => nomatch h))))
  refine Fx.L.v (.int .i64 (rightE x i n)) (x_move rfl rfl) (Fx.L.storeA (x := Fx.rv .i64 (fun _ => 0)) (y := Fx.rv .i64 (fun _ => 0)) (by rfl) rfl rfl rfl rfl (fun _ _ => rfl) (by kernel_rfl) m5 (i := 0) (by omega) fun w7 m19 s9 z6 => ?_)
  have m20 : Fx.Blk w7 g2 54 (Fx.rv .i64 (fun _ => 0)) 48 := Fx.ovr_all m19
  have m21 := m4.stp s9 (by omega)
  have b9 := s9.below b3 b3.size (by omega)
  refine Fx.L.v (.int .i64 (rightE x i n)) (x_assign rfl rfl) (Fx.L.nil (Fx.seqN (Fx.W.ret (Fx.seqR (⟨.tuple #[.agg (Fx.varr 54 (Fx.rv .i64 (fun _ => 0))), .int .i64 (rightE x i n)], Fx.retV2 Try.results94 ⟨_, rfl, Fx.run_loadV m20.cel (by kernel_rfl) (by kernel_rfl)⟩ (by exact rfl), ?_⟩)))))
  refine ⟨?_, b9⟩
  have hM : freeM x i n = (zero, rightE x i n) := by
   exact right_no c14
  rw [hM]
  all_goals rfl
set_option maxRecDepth 10000 in
theorem f7_move (x : Nat → Int) (i j n : Int) (w : World) :
    Calls Try.prog 95 #[.agg (Fx.varr 54 (Fx.rv .i64 x)), .int .i64 (i), .int .i64 (j), .int .i64 (n)] w fun e w' => e = .returned (.tuple #[.agg (Fx.varr 54 (Fx.rv .i64 (moveM x i j n).1)), .int .i64 (moveM x i j n).2]) ∧ Below w.heap.size w w' := by
 refine Fx.enter Try.func95 rfl (n := 59) rfl (by rfl) ?_
 refine Fx.W.seq (Fx.W.list (Fx.L.box (m := 54) (y := Fx.rv .i64 x) (by rfl) rfl rfl (Fx.cells_agg _ _) rfl fun g1 w1 eg1 m1 s1 z1 => ?_))
 have b1 := s1.below (Below.refl w.heap.size w) (Below.refl w.heap.size w).size (Below.refl w.heap.size w).size
 have lg1 : w.heap.size ≤ g1 := by rw [eg1]; exact (Below.refl w.heap.size w).size
 have tg1 : g1 < w1.heap.size := m1.lt
 clear eg1
 refine Fx.L.new (m := 54) (y := Fx.rv .i64 (fun _ => 0)) (by rfl) rfl (by kernel_rfl) rfl fun g2 w2 eg2 m2 s2 z2 => ?_
 have m3 := m1.stp s2 (Nat.ne_of_lt (m1.lt))
 have b2 := s2.below b1 b1.size b1.size
 have lg2 : w.heap.size ≤ g2 := by rw [eg2]; exact b1.size
 have ng2m3 : g1 ≠ g2 := by rw [eg2]; exact Nat.ne_of_lt (m1.lt)
 have tg2 : g2 < w2.heap.size := m2.lt
 clear eg2
 refine Fx.L.v (.int .i64 (0)) (x_assign rfl rfl) (Fx.L.nil (Fx.seqN (Fx.W.seq (Fx.W.list (Fx.L.v (.agg (Fx.varr 54 (Fx.rv .i64 x))) (x_loadA (x := Fx.rv .i64 x) (y := Fx.rv .i64 x) rfl rfl (by kernel_rfl) (by kernel_rfl) m3.cel (i := 0) (by omega) (by omega) (fun j _ => by rw [Nat.zero_add])) (Fx.L.v (.int .i64 (i)) (x_move rfl rfl) (Fx.L.v (.int .i64 (n)) (x_move rfl rfl) (Fx.L.call (by rfl) (Fx.r_call (args := [.agg (Fx.varr 54 (Fx.rv .i64 x)), .int .i64 (i), .int .i64 (n)]) rfl rfl Try.func116 rfl rfl) rfl ((f7_right x i n _).mono ?_)))))))))
 rintro e w3 ⟨he, hb1⟩
 refine ⟨.int .i64 (rightE x i n), by rw [he], ?_⟩
 clear he
 have s3 := Fx.Stp.of_below hb1
 have m4 := m3.stp s3 (Nat.ne_of_lt (m3.lt))
 have m5 := m2.stp s3 (Nat.ne_of_lt (m2.lt))
 have b3 := s3.below b2 b2.size b2.size
 refine Fx.L.v (.int .i64 (rightE x i n)) (x_assign rfl rfl) (Fx.L.nil (Fx.seqN (Fx.W.seq (Fx.W.seq (Fx.W.list (Fx.L.v (.int .i64 (rightE x i n)) (x_move rfl rfl) ?_))))))
 by_cases c16 : (rightE x i n) = 0
 ·refine Fx.L.v (.bool false) (Fx.x_neqF rfl rfl rfl c16) (Fx.L.nil (Fx.seqN (Fx.W.cond (b := false) rfl (fun h => nomatch h) (fun _ => Fx.W.skip (Fx.seqN (Fx.W.seq (Fx.W.seq ?_)))))))
  obtain ⟨HM, n1, n2, HR⟩ := right_ok c16
  have HE := may_ent HM
  obtain ⟨k, hk, ei, _⟩ := reg_nat HR
  subst ei
  refine Fx.W.list (Fx.L.v (.int .i64 (j)) (x_move rfl rfl) ?_)
  by_cases c20 : (regB j) = true
  ·refine Fx.L.call (by rfl) (Fx.r_call (args := [.int .i64 (j)]) rfl rfl Try.func96 rfl rfl) rfl ((f7_region j _).mono ?_)
   rintro e v1 ⟨he, hv1⟩
   subst v1
   refine ⟨.bool true, by rw [he, c20], ?_⟩
   clear he
   refine Fx.L.v (.bool false) (Fx.x_notF rfl rfl) (Fx.L.nil (Fx.seqN (Fx.W.cond (b := false) rfl (fun h => nomatch h) (fun _ => Fx.W.skip (Fx.seqN (Fx.W.seq (Fx.W.seq ?_)))))))
   obtain ⟨q, hq, ej, _⟩ := reg_nat c20
   subst ej
   refine Fx.W.list (Fx.L.v (.int .i64 ((k : Int) + 1)) (x_move rfl rfl) (Fx.L.v (.int .i64 ((q : Int) + 1)) (x_move rfl rfl) ?_))
   by_cases c25 : ((k : Int) + 1) = ((q : Int) + 1)
   ·refine Fx.L.v (.bool true) (x_eqlT rfl rfl rfl c25) (Fx.L.nil (Fx.seqN (Fx.W.cond (b := true) rfl (fun _ => Fx.W.seq (Fx.W.list (Fx.L.v (.agg (Fx.varr 54 (Fx.rv .i64 (fun _ => 0)))) (x_build (vs := []) (places := #[(0, 6), (6, 6), (12, 6), (18, 36)]) (m := 54) (x := Fx.rv .i64 (fun _ => 0)) rfl rfl Try.underlying48 (by kernel_rfl) (by kernel_rfl) (by rfl)) ?_))) (fun h => nomatch h))))
    refine Fx.L.storeA (x := Fx.rv .i64 (fun _ => 0)) (y := Fx.rv .i64 (fun _ => 0)) (by rfl) rfl rfl rfl rfl (fun _ _ => rfl) (by kernel_rfl) m5 (i := 0) (by omega) fun w4 m6 s4 z3 => ?_
    have m7 : Fx.Blk w4 g2 54 (Fx.rv .i64 (fun _ => 0)) 48 := Fx.ovr_all m6
    have m8 := m4.stp s4 (by omega)
    have b4 := s4.below b3 b3.size (by omega)
    refine Fx.L.v (.int .i64 (1)) (x_assign rfl rfl) (Fx.L.nil (Fx.seqN (Fx.W.ret (Fx.seqR (⟨.tuple #[.agg (Fx.varr 54 (Fx.rv .i64 (fun _ => 0))), .int .i64 (1)], Fx.retV2 Try.results95 ⟨_, rfl, Fx.run_loadV m7.cel (by kernel_rfl) (by kernel_rfl)⟩ (by exact rfl), ?_⟩)))))
    refine ⟨?_, b4⟩
    have hM : moveM x ((k : Int) + 1) ((q : Int) + 1) n = (zero, 1) := by
     unfold moveM moveE
     rw [if_pos c25]
     exact turned_err HM n1 n2 (by rw [HR, c20]; rfl) rfl (by decide)
    rw [hM]
    all_goals rfl
   ·refine Fx.L.v (.bool false) (x_eqlF rfl rfl rfl c25) (Fx.L.nil (Fx.seqN (Fx.W.cond (b := false) rfl (fun h => nomatch h) (fun _ => Fx.W.skip (Fx.seqN (Fx.W.seq (Fx.W.seq (Fx.W.list (Fx.L.v (.int .i64 (n)) (x_move rfl rfl) (Fx.L.v (.agg (Fx.varr 54 (Fx.rv .i64 x))) (x_loadA (x := Fx.rv .i64 x) (y := Fx.rv .i64 x) rfl rfl (by kernel_rfl) (by kernel_rfl) m4.cel (i := 0) (by omega) (by omega) (fun j _ => by rw [Nat.zero_add])) (Fx.L.v (.int .i64 ((k : Int) + 1)) (x_move rfl rfl) (Fx.L.call (by rfl) (Fx.r_call (args := [.agg (Fx.varr 54 (Fx.rv .i64 x)), .int .i64 ((k : Int) + 1)]) rfl rfl Try.func91 rfl rfl) rfl ((f7_local x k _ (by omega) (may_ent HM)).mono ?_)))))))))))))
    rintro e w5 ⟨he, hb2⟩
    refine ⟨.int .i64 (L x k), by rw [he], ?_⟩
    clear he
    have s5 := Fx.Stp.of_below hb2
    have m9 := m4.stp s5 (Nat.ne_of_lt (m4.lt))
    have m10 := m5.stp s5 (Nat.ne_of_lt (m5.lt))
    have b5 := s5.below b3 b3.size b3.size
    by_cases c31 : (L x k) < n
    ·refine Fx.L.v (.bool true) (Fx.x_gtrT rfl rfl rfl c31) (Fx.L.nil (Fx.seqN (Fx.W.cond (b := true) rfl (fun _ => Fx.W.seq (Fx.W.list (Fx.L.v (.agg (Fx.varr 54 (Fx.rv .i64 (fun _ => 0)))) (x_build (vs := []) (places := #[(0, 6), (6, 6), (12, 6), (18, 36)]) (m := 54) (x := Fx.rv .i64 (fun _ => 0)) rfl rfl Try.underlying48 (by kernel_rfl) (by kernel_rfl) (by rfl)) ?_))) (fun h => nomatch h))))
     refine Fx.L.storeA (x := Fx.rv .i64 (fun _ => 0)) (y := Fx.rv .i64 (fun _ => 0)) (by rfl) rfl rfl rfl rfl (fun _ _ => rfl) (by kernel_rfl) m10 (i := 0) (by omega) fun w6 m11 s6 z4 => ?_
     have m12 : Fx.Blk w6 g2 54 (Fx.rv .i64 (fun _ => 0)) 48 := Fx.ovr_all m11
     have m13 := m9.stp s6 (by omega)
     have b6 := s6.below b5 b5.size (by omega)
     refine Fx.L.v (.int .i64 (11)) (x_assign rfl rfl) (Fx.L.nil (Fx.seqN (Fx.W.ret (Fx.seqR (⟨.tuple #[.agg (Fx.varr 54 (Fx.rv .i64 (fun _ => 0))), .int .i64 (11)], Fx.retV2 Try.results95 ⟨_, rfl, Fx.run_loadV m12.cel (by kernel_rfl) (by kernel_rfl)⟩ (by exact rfl), ?_⟩)))))
     refine ⟨?_, b6⟩
     have hM : moveM x ((k : Int) + 1) ((q : Int) + 1) n = (zero, 11) := by
      unfold moveM moveE
      rw [if_neg c25, localV_L HM k hk, decide_eq_true c31]
      exact turned_err HM n1 n2 (by rw [HR, c20]; rfl) rfl (by decide)
     rw [hM]
     all_goals rfl
    ·refine Fx.L.v (.bool false) (x_gtrF rfl rfl rfl c31) (Fx.L.nil (Fx.seqN (Fx.W.cond (b := false) rfl (fun h => nomatch h) (fun _ => Fx.W.skip (Fx.seqN (Fx.W.seq (Fx.W.seq ?_)))))))
     have q1 := HE (6 * k + q + 18)
     refine Fx.W.list (Fx.L.v (.int .i64 ((k : Int) + 1)) (x_move rfl rfl) (Fx.L.v (.int .i64 ((k : Int))) (Fx.x_sub rfl rfl rfl (Fx.i64e (by omega) (by omega))) (Fx.L.v (.int .i64 ((q : Int) + 1)) (x_move rfl rfl) (Fx.L.v (.int .i64 ((q : Int))) (Fx.x_sub rfl rfl rfl (Fx.i64e (by omega) (by omega))) (Fx.L.v (.pointer (some ⟨g1, 18, none⟩)) (x_field rfl rfl Try.underlying48 rfl (s := 36) (by kernel_rfl) rfl (by show _ + 18 = _; omega)) (Fx.L.v (.pointer (some ⟨g1, 6 * k + 18, none⟩)) (x_index rfl rfl rfl Try.underlying46 (s := 6) (by kernel_rfl) (by omega) (by omega) (by omega)) (Fx.L.v (.pointer (some ⟨g1, 6 * k + q + 18, none⟩)) (x_index rfl rfl rfl Try.underlying45 (s := 1) (by kernel_rfl) (by omega) (by omega) (by omega)) (Fx.L.v (.int .i64 (x (6 * k + q + 18))) (x_load1 (x := Fx.rv .i64 x) rfl rfl (by kernel_rfl) m9.cel (i := 6 * k + q + 18) (by omega) (by omega) rfl) (Fx.L.v (.int .i64 (n)) (x_move rfl rfl) (Fx.L.v (.int .i64 ((x (6 * k + q + 18)) + n)) (Fx.x_add rfl rfl rfl (Fx.i64e (by omega) (by omega))) ?_))))))))))
     by_cases c43 : 1125899906842624 < ((x (6 * k + q + 18)) + n)
     ·refine Fx.L.v (.bool true) (Fx.x_gtrT rfl rfl rfl c43) (Fx.L.nil (Fx.seqN (Fx.W.cond (b := true) rfl (fun _ => Fx.W.seq (Fx.W.list (Fx.L.v (.agg (Fx.varr 54 (Fx.rv .i64 (fun _ => 0)))) (x_build (vs := []) (places := #[(0, 6), (6, 6), (12, 6), (18, 36)]) (m := 54) (x := Fx.rv .i64 (fun _ => 0)) rfl rfl Try.underlying48 (by kernel_rfl) (by kernel_rfl) (by rfl)) ?_))) (fun h => nomatch h))))
      refine Fx.L.storeA (x := Fx.rv .i64 (fun _ => 0)) (y := Fx.rv .i64 (fun _ => 0)) (by rfl) rfl rfl rfl rfl (fun _ _ => rfl) (by kernel_rfl) m10 (i := 0) (by omega) fun w7 m14 s7 z5 => ?_
      have m15 : Fx.Blk w7 g2 54 (Fx.rv .i64 (fun _ => 0)) 48 := Fx.ovr_all m14
      have m16 := m9.stp s7 (by omega)
      have b7 := s7.below b5 b5.size (by omega)
      refine Fx.L.v (.int .i64 (6)) (x_assign rfl rfl) (Fx.L.nil (Fx.seqN (Fx.W.ret (Fx.seqR (⟨.tuple #[.agg (Fx.varr 54 (Fx.rv .i64 (fun _ => 0))), .int .i64 (6)], Fx.retV2 Try.results95 ⟨_, rfl, Fx.run_loadV m15.cel (by kernel_rfl) (by kernel_rfl)⟩ (by exact rfl), ?_⟩)))))
      refine ⟨?_, b7⟩
      have hM : moveM x ((k : Int) + 1) ((q : Int) + 1) n = (zero, 6) := by
       unfold moveM moveE
       rw [if_neg c25, localV_L HM k hk, decide_eq_false c31, moveO_at]
       exact turned_many HM n1 n2 (by rw [HR, c20]; rfl) rfl (by omega)
      rw [hM]
      all_goals rfl
     ·refine Fx.L.v (.bool false) (x_gtrF rfl rfl rfl c43) (Fx.L.nil (Fx.seqN (Fx.W.cond (b := false) rfl (fun h => nomatch h) (fun _ => Fx.W.skip (Fx.seqN (Fx.W.seq ?_))))))
      -- region 12 draws
      refine Fx.W.tail 13 (by kernel_rfl) (by kernel_rfl) fun wt1 hbwt1 hzwt1 => ?_
      have s8 : Fx.Stp w5.heap.size w5 wt1 := Fx.Stp.of_below hbwt1
      have m17 := m9.stp s8 (Nat.ne_of_lt (m9.lt))
      have m18 := m10.stp s8 (Nat.ne_of_lt (m10.lt))
      have b8 := s8.below b5 b5.size b5.size
      refine Fx.St.v (.int .i64 ((k : Int) + 1)) (x_move rfl rfl) (Fx.St.v (.int .i64 ((k : Int))) (Fx.x_sub rfl rfl rfl (Fx.i64e (by omega) (by omega))) (Fx.St.v (.int .i64 ((q : Int) + 1)) (x_move rfl rfl) (Fx.St.v (.int .i64 ((q : Int))) (Fx.x_sub rfl rfl rfl (Fx.i64e (by omega) (by omega))) (Fx.St.v (.pointer (some ⟨g1, 18, none⟩)) (x_field rfl rfl Try.underlying48 rfl (s := 36) (by kernel_rfl) rfl (by show _ + 18 = _; omega)) (Fx.St.v (.pointer (some ⟨g1, 6 * k + 18, none⟩)) (x_index rfl rfl rfl Try.underlying46 (s := 6) (by kernel_rfl) (by omega) (by omega) (by omega)) (Fx.St.v (.pointer (some ⟨g1, 6 * k + q + 18, none⟩)) (x_index rfl rfl rfl Try.underlying45 (s := 1) (by kernel_rfl) (by omega) (by omega) (by omega)) (Fx.St.v (.int .i64 (x (6 * k + q + 18))) (x_load1 (x := Fx.rv .i64 x) rfl rfl (by kernel_rfl) m17.cel (i := 6 * k + q + 18) (by omega) (by omega) rfl) (Fx.St.v (.int .i64 (n)) (x_move rfl rfl) (Fx.St.v (.int .i64 ((x (6 * k + q + 18)) + n)) (Fx.x_add rfl rfl rfl (Fx.i64e (by omega) (by omega))) (Fx.St.v (.pointer (some ⟨g1, 18, none⟩)) (x_field rfl rfl Try.underlying48 rfl (s := 36) (by kernel_rfl) rfl (by show _ + 18 = _; omega)) (Fx.St.v (.pointer (some ⟨g1, 6 * k + 18, none⟩)) (x_index rfl rfl rfl Try.underlying46 (s := 6) (by kernel_rfl) (by omega) (by omega) (by omega)) (Fx.St.v (.pointer (some ⟨g1, 6 * k + q + 18, none⟩)) (x_index rfl rfl rfl Try.underlying45 (s := 1) (by kernel_rfl) (by omega) (by omega) (by omega)) (Fx.St.nil ?_)))))))))))))
      refine Fx.L.store1 (x := Fx.rv .i64 x) (u := .int .i64 ((x (6 * k + q + 18)) + n)) (by rfl) rfl rfl rfl rfl (by rfl) (by kernel_rfl) m17 (i := 6 * k + q + 18) (by omega) fun w8 m19 s9 z6 => ?_
      have m20 : Fx.Blk w8 g1 54 (Fx.rv .i64 (upd x (6 * k + q + 18) ((x (6 * k + q + 18)) + n))) 48 := m19.to (Fx.updV_rv _ _ _ _)
      have m21 := m18.stp s9 (by omega)
      have b9 := s9.below b8 b8.size (by omega)
      refine Fx.L.nil (Fx.seqN (Fx.W.seq (Fx.W.list (Fx.L.v (.agg (Fx.varr 54 (Fx.rv .i64 (upd x (6 * k + q + 18) ((x (6 * k + q + 18)) + n))))) (x_loadA (x := Fx.rv .i64 (upd x (6 * k + q + 18) ((x (6 * k + q + 18)) + n))) (y := Fx.rv .i64 (upd x (6 * k + q + 18) ((x (6 * k + q + 18)) + n))) rfl rfl (by kernel_rfl) (by kernel_rfl) m20.cel (i := 0) (by omega) (by omega) (fun j _ => by rw [Nat.zero_add])) (Fx.L.storeA (x := Fx.rv .i64 (fun _ => 0)) (y := Fx.rv .i64 (upd x (6 * k + q + 18) ((x (6 * k + q + 18)) + n))) (by rfl) rfl rfl rfl rfl (fun _ _ => rfl) (by kernel_rfl) m21 (i := 0) (by omega) fun w9 m22 s10 z7 => ?_)))))
      have m23 : Fx.Blk w9 g2 54 (Fx.rv .i64 (upd x (6 * k + q + 18) ((x (6 * k + q + 18)) + n))) 48 := Fx.ovr_all m22
      have m24 := m20.stp s10 (by omega)
      have b10 := s10.below b9 b9.size (by omega)
      refine Fx.L.v (.int .i64 (0)) (x_assign rfl rfl) (Fx.L.nil (Fx.seqN (Fx.W.ret (⟨.tuple #[.agg (Fx.varr 54 (Fx.rv .i64 (upd x (6 * k + q + 18) ((x (6 * k + q + 18)) + n)))), .int .i64 (0)], Fx.retV2 Try.results95 ⟨_, rfl, Fx.run_loadV m23.cel (by kernel_rfl) (by kernel_rfl)⟩ (by exact rfl), ?_⟩))))
      refine ⟨?_, b10⟩
      have hM : moveM x ((k : Int) + 1) ((q : Int) + 1) n = (upd x (6 * k + q + 18) (x (6 * k + q + 18) + n), 0) := by
       unfold moveM moveE
       rw [if_neg c25, localV_L HM k hk, decide_eq_false c31, moveO_at]
       exact turned_fin HM n1 n2 (by rw [HR, c20]; rfl) rfl (by omega)
      rw [hM]
      all_goals rfl
  ·rw [Bool.not_eq_true] at c20
   refine Fx.L.call (by rfl) (Fx.r_call (args := [.int .i64 (j)]) rfl rfl Try.func96 rfl rfl) rfl ((f7_region j _).mono ?_)
   rintro e v1 ⟨he, hv1⟩
   subst v1
   refine ⟨.bool false, by rw [he, c20], ?_⟩
   clear he
   refine Fx.L.v (.bool true) (Fx.x_notT rfl rfl) (Fx.L.nil (Fx.seqN (Fx.W.cond (b := true) rfl (fun _ => Fx.W.seq (Fx.W.list (Fx.L.v (.agg (Fx.varr 54 (Fx.rv .i64 (fun _ => 0)))) (x_build (vs := []) (places := #[(0, 6), (6, 6), (12, 6), (18, 36)]) (m := 54) (x := Fx.rv .i64 (fun _ => 0)) rfl rfl Try.underlying48 (by kernel_rfl) (by kernel_rfl) (by rfl)) ?_))) (fun h => nomatch h))))
   refine Fx.L.storeA (x := Fx.rv .i64 (fun _ => 0)) (y := Fx.rv .i64 (fun _ => 0)) (by rfl) rfl rfl rfl rfl (fun _ _ => rfl) (by kernel_rfl) m5 (i := 0) (by omega) fun w10 m25 s11 z8 => ?_
   have m26 : Fx.Blk w10 g2 54 (Fx.rv .i64 (fun _ => 0)) 48 := Fx.ovr_all m25
   have m27 := m4.stp s11 (by omega)
   have b11 := s11.below b3 b3.size (by omega)
   refine Fx.L.v (.int .i64 (10)) (x_assign rfl rfl) (Fx.L.nil (Fx.seqN (Fx.W.ret (Fx.seqR (⟨.tuple #[.agg (Fx.varr 54 (Fx.rv .i64 (fun _ => 0))), .int .i64 (10)], Fx.retV2 Try.results95 ⟨_, rfl, Fx.run_loadV m26.cel (by kernel_rfl) (by kernel_rfl)⟩ (by exact rfl), ?_⟩)))))
   refine ⟨?_, b11⟩
   have hM : moveM x ((k : Int) + 1) j n = (zero, 10) := by
    unfold moveM
    rw [c20, Bool.and_false]
    exact turned_is HM n1 n2
   rw [hM]
   all_goals rfl
 ·refine Fx.L.v (.bool true) (Fx.x_neqT rfl rfl rfl c16) (Fx.L.nil (Fx.seqN (Fx.W.cond (b := true) rfl (fun _ => Fx.W.seq (Fx.W.list (Fx.L.v (.agg (Fx.varr 54 (Fx.rv .i64 (fun _ => 0)))) (x_build (vs := []) (places := #[(0, 6), (6, 6), (12, 6), (18, 36)]) (m := 54) (x := Fx.rv .i64 (fun _ => 0)) rfl rfl Try.underlying48 (by kernel_rfl) (by kernel_rfl) (by rfl)) ?_))) (fun h => nomatch h))))
  refine Fx.L.v (.int .i64 (rightE x i n)) (x_move rfl rfl) (Fx.L.storeA (x := Fx.rv .i64 (fun _ => 0)) (y := Fx.rv .i64 (fun _ => 0)) (by rfl) rfl rfl rfl rfl (fun _ _ => rfl) (by kernel_rfl) m5 (i := 0) (by omega) fun w11 m28 s12 z9 => ?_)
  have m29 : Fx.Blk w11 g2 54 (Fx.rv .i64 (fun _ => 0)) 48 := Fx.ovr_all m28
  have m30 := m4.stp s12 (by omega)
  have b12 := s12.below b3 b3.size (by omega)
  refine Fx.L.v (.int .i64 (rightE x i n)) (x_assign rfl rfl) (Fx.L.nil (Fx.seqN (Fx.W.ret (Fx.seqR (⟨.tuple #[.agg (Fx.varr 54 (Fx.rv .i64 (fun _ => 0))), .int .i64 (rightE x i n)], Fx.retV2 Try.results95 ⟨_, rfl, Fx.run_loadV m29.cel (by kernel_rfl) (by kernel_rfl)⟩ (by exact rfl), ?_⟩)))))
  refine ⟨?_, b12⟩
  have hM : moveM x i j n = (zero, rightE x i n) := by
   exact right_no2 c16
  rw [hM]
  all_goals rfl
namespace Rt
theorem node_at {m : LdM} {x : Int} (h : 0 ≤ m.node x) : ∃ q : Nat, q < m.s.nn ∧ firstI (fun i => decide (m.id i = x)) m.s.nn = (q : Int) ∧ m.id q = x := by
  rcases firstI_spec (fun i => decide (m.id i = x)) m.s.nn with ⟨q, hq, e, hp⟩ | ⟨e, _⟩
  · exact ⟨q, hq, e, of_decide_eq_true hp⟩
  · unfold LdM.node at h; omega
theorem req_app {n : Nat} {x : Nat → Int} {r : Int} : ∀ j, j < (n + 1) * 1 → Fx.appX (Fx.rv .u64 x) (n * 1) (Fx.ovr (fun j => Fx.rv .u64 (fun _ => 0) (j % 1)) (0 * 1) 1 (fun _ => .int .u64 r)) j = Fx.rv .u64 (updA x n r) j := by
  intro j hj
  unfold Fx.appX Fx.rv updA
  by_cases h : j < n * 1
  · rw [if_pos h, if_neg (by omega)]
  · rw [if_neg h, if_pos (by omega)]
    unfold Fx.ovr
    rw [if_pos (by omega)]
theorem gtB_step {P : Nat → Bool} {n k j : Nat} (e : k = j + 1) (h : ∀ i, k ≤ i → i < n → P i = true) (hj : P j = true) : ∀ i, j ≤ i → i < n → P i = true := fun i h1 h2 => by
  by_cases e2 : i = j
  · subst e2; exact hj
  · exact h i (by omega) h2
end Rt
theorem l_asked2 (m : LdM) (p a : Nat) (o r : Int) (w : World) (h : Ldg w p m) (ha : a < 6) (ho : o = (a : Int) + 1) :
    Calls Try.prog 129 #[.pointer (some ⟨p, 0, none⟩), .int .i64 (o), .int .u64 (r)] w fun e w' => e = .returned (.bool (decide (0 ≤ m.askedN a r))) ∧ Below w.heap.size w w' := by
  subst ho; exact l_asked m p a r w h ha
set_option maxRecDepth 20000 in
set_option maxHeartbeats 2000000 in
theorem l_takes (m : LdM) (B p a D : Nat) (v : EvM) (w : World) (hL : LdO w B p m) (hB : B ≤ w.heap.size) (ha : a < 6) (ho : v.o = (a : Int) + 1) (bgg : m.s.gn ≤ 900000) (brr : ∀ i, i < 6 → m.rn i ≤ 900000) (hTN : ∀ x, m.node x = findT m.t m.tn x) (hD : findT m.t m.tn (iterT m.t m.tn D v.node) < 0) (hD2 : D ≤ 1000) :
    Calls Try.prog 122 #[.pointer (some ⟨p, 0, none⟩), .agg (Fx.varr 14 (evY v))] w fun e w' => e = .returned (.int .i64 (takesE m.core v)) ∧ Below B w w' ∧ (takesE m.core v = 0 → ∃ m', m'.core = takesC m.core v ∧ LdO w' B p m') := by
 have hLc := hL.c
 have hLn := hL.n
 have hLg := hL.g
 have hLt := hL.tc
 have hLtr := hL.t
 have hLr := hL.r
 have hLp := hL.pB
 have hLtb := hL.tB
 have bn := hL.bn
 have bg := hL.bg
 have bt := hL.bt
 have lpp : p < w.heap.size := hLc.lt
 have ltb : m.tb < w.heap.size := hLt.lt
 refine Fx.enter Try.func122 rfl (n := 188) rfl (by rfl) ?_
 refine Fx.W.seq (Fx.W.list (Fx.L.box (m := 14) (y := evY v) (by rfl) rfl rfl (Fx.cells_agg _ _) rfl fun g1 w1 eg1 m1 s1 z1 => ?_))
 have m2 := hLc.stp s1 (Nat.ne_of_lt (hLc.lt))
 have m3 := hLn.stp s1 (hLn.notNew (Nat.le_refl _))
 have m4 := hLg.stp s1 (hLg.notNew (Nat.le_refl _))
 have m5 := hLt.stp s1 (Nat.ne_of_lt (hLt.lt))
 have m6 := hLtr.stp s1 (hLtr.notNew (Nat.le_refl _))
 have m7 := hLr.up s1.old
 have b1 := s1.below (Below.refl B w) (Nat.le_trans hB (Below.refl B w).size) (Nat.le_trans hB (Below.refl B w).size)
 have lg1 : w.heap.size ≤ g1 := by rw [eg1]; exact (Below.refl B w).size
 have ng1m2 : p ≠ g1 := by rw [eg1]; exact Nat.ne_of_lt (hLc.lt)
 have ng1m5 : m.tb ≠ g1 := by rw [eg1]; exact Nat.ne_of_lt (hLt.lt)
 have tg1 : g1 < w1.heap.size := m1.lt
 clear eg1
 refine Fx.L.v (.int .i64 (0)) (x_assign rfl rfl) (Fx.L.nil (Fx.seqN (Fx.W.seq (Fx.W.seq (Fx.W.list (Fx.L.v (.pointer (some ⟨p, 0, none⟩)) (x_move rfl rfl) (Fx.L.v (.pointer (some ⟨g1, 0, none⟩)) (x_field rfl rfl Try.underlying54 rfl (s := 1) (by kernel_rfl) rfl rfl) (Fx.L.v (.int .i64 (v.o)) (x_load1 (x := evY v) rfl rfl (by kernel_rfl) m1.cel (i := 0) (by omega) (by omega) rfl) (Fx.L.v (.pointer (some ⟨g1, 12, none⟩)) (x_field rfl rfl Try.underlying54 rfl (s := 1) (by kernel_rfl) rfl (by show _ + 12 = _; omega)) (Fx.L.v (.int .u64 (v.req)) (x_load1 (x := evY v) rfl rfl (by kernel_rfl) m1.cel (i := 12) (by omega) (by omega) rfl) ?_))))))))))
 have hld1 : Ldg w1 p m := { c := m2.cel, an := m3.arr, ag := m4.arr, tc := m5.cel, at2 := m6.arr, ar := fun i hi => (m7.1 i hi).arr, bn := (by show m.s.nn ≤ 1000000; omega), bg := bg, bt := (by show m.tn ≤ 1000000; omega), br := hL.br }
 by_cases c17 : (decide (0 ≤ m.askedN a v.req)) = true
 ·refine Fx.L.call (by rfl) (Fx.r_call (args := [.pointer (some ⟨p, 0, none⟩), .int .i64 (v.o), .int .u64 (v.req)]) rfl rfl Try.func129 rfl rfl) rfl ((l_asked2 m p a v.o v.req _ hld1 ha ho).mono ?_)
  rintro e w2 ⟨he, hb1⟩
  refine ⟨.bool true, by rw [he, c17], ?_⟩
  clear he
  have s2 := Fx.Stp.of_below hb1
  have b2 := s2.below b1 (Nat.le_trans hB b1.size) (Nat.le_trans hB b1.size)
  refine Fx.L.nil (Fx.seqN (Fx.W.cond (b := true) rfl (fun _ => Fx.W.seq (Fx.W.list (Fx.L.v (.int .i64 (14)) (x_assign rfl rfl) ?_))) (fun h => nomatch h)))
  refine Fx.L.nil (Fx.seqN (Fx.W.ret (Fx.seqR (⟨.int .i64 (14), Fx.retV1 Try.results122 (by exact rfl), ?_⟩))))
  have eN : regN v = a := by unfold regN; omega
  have ee : takesE m.core v = 14 := by unfold takesE; rw [eN]; exact if_pos (of_decide_eq_true c17)
  exact ⟨congrArg (fun q => Ending.returned (Value.int .i64 q)) ee.symm, b2, fun h0 => by rw [ee] at h0; cases h0⟩
 ·rw [Bool.not_eq_true] at c17
  refine Fx.L.call (by rfl) (Fx.r_call (args := [.pointer (some ⟨p, 0, none⟩), .int .i64 (v.o), .int .u64 (v.req)]) rfl rfl Try.func129 rfl rfl) rfl ((l_asked2 m p a v.o v.req _ hld1 ha ho).mono ?_)
  rintro e w3 ⟨he, hb2⟩
  refine ⟨.bool false, by rw [he, c17], ?_⟩
  clear he
  have s3 := Fx.Stp.of_below hb2
  have m15 := m2.stp s3 (Nat.ne_of_lt (m2.lt))
  have m16 := m3.stp s3 (m3.notNew (Nat.le_refl _))
  have m17 := m4.stp s3 (m4.notNew (Nat.le_refl _))
  have m18 := m5.stp s3 (Nat.ne_of_lt (m5.lt))
  have m19 := m6.stp s3 (m6.notNew (Nat.le_refl _))
  have m20 := m7.up s3.old
  have m21 := m1.stp s3 (Nat.ne_of_lt (m1.lt))
  have b3 := s3.below b1 (Nat.le_trans hB b1.size) (Nat.le_trans hB b1.size)
  refine Fx.L.nil (Fx.seqN (Fx.W.cond (b := false) rfl (fun h => nomatch h) (fun _ => Fx.W.skip (Fx.seqN (Fx.W.seq ?_)))))
  -- region 3 draws
  refine Fx.W.reord [0, 1, 2, 4, 3, 5, 6, 7] [0, 0, 0, 4, 0, 4, 3, 0] Fx.Mk Fx.Mk.refl Fx.Mk.trans (certs := [(6, 3, [3]), (6, 5, [5]), (7, 6, [6])]) (by kernel_rfl) (by kernel_rfl) (by kernel_rfl) (by kernel_rfl) (by kernel_rfl) fun wt1 hbwt1 hzwt1 => ?_
  have s4 : Fx.Stp w3.heap.size w3 wt1 := Fx.Stp.of_below hbwt1
  have m22 := m15.stp s4 (Nat.ne_of_lt (m15.lt))
  have m23 := m16.stp s4 (m16.notNew (Nat.le_refl _))
  have m24 := m17.stp s4 (m17.notNew (Nat.le_refl _))
  have m25 := m18.stp s4 (Nat.ne_of_lt (m18.lt))
  have m26 := m19.stp s4 (m19.notNew (Nat.le_refl _))
  have m27 := m20.up s4.old
  have m28 := m21.stp s4 (Nat.ne_of_lt (m21.lt))
  have b4 := s4.below b3 (Nat.le_trans hB b3.size) (Nat.le_trans hB b3.size)
  refine Fx.R.p (.pointer (some ⟨p, 0, none⟩)) (fun v1 => x_move rfl rfl) (Fx.R.p (.pointer (some ⟨p, 0, none⟩)) (fun v1 => x_nil rfl rfl) (Fx.R.p (.pointer (some ⟨p, 20, none⟩)) (fun v1 => x_field rfl rfl Try.underlying71 rfl (s := 1) (by kernel_rfl) rfl (by show _ + 20 = _; omega)) (Fx.R.p (.pointer (some ⟨g1, 9, none⟩)) (fun v1 => x_field rfl rfl Try.underlying54 rfl (s := 1) (by kernel_rfl) rfl (by show _ + 9 = _; omega)) (Fx.R.s (.pointer (some ⟨m.tb, 0, none⟩)) (x_load1 (x := ldY m) rfl rfl (by kernel_rfl) m22.cel (i := 20) (by omega) (by omega) rfl) ?_))))
  refine Fx.R.s (.int .u64 (v.node)) (x_load1 (x := evY v) rfl rfl (by kernel_rfl) m28.cel (i := 9) (by omega) (by omega) rfl) ?_
  refine Fx.R.eff (by rfl) ?_
  refine Fx.L.call (by rfl) (Fx.r_call (args := [.pointer (some ⟨m.tb, 0, none⟩), .int .u64 (v.node)]) rfl rfl Try.func130 rfl rfl) rfl ((l_path m.tb m.ta m.tn m.tc m.t v.node D _ (ownTree m25 m26 bt) hD hD2).mono ?_)
  rintro e w4 ⟨K, vv, he, hown, hall1, hK1, hb3⟩
  obtain ⟨a1, cap1, rfl⟩ := hown.val
  refine ⟨.slice a1 K cap1, he, ?_⟩
  clear he
  have hKp : K = pathK m.t m.tn v.node := pathK_eq hall1 hK1 hD hD2
  have hKD : K ≤ 1000 := by rw [hKp]; exact lead_le _ _
  have s5 := Fx.Stp.of_below hb3
  have m29 := m22.stp s5 (Nat.ne_of_lt (m22.lt))
  have m30 := m23.stp s5 (m23.notNew (Nat.le_refl _))
  have m31 := m24.stp s5 (m24.notNew (Nat.le_refl _))
  have m32 := m25.stp s5 (Nat.ne_of_lt (m25.lt))
  have m33 := m26.stp s5 (m26.notNew (Nat.le_refl _))
  have m34 := m27.up s5.old
  have m35 := m28.stp s5 (Nat.ne_of_lt (m28.lt))
  have b5 := s5.below b4 (Nat.le_trans hB b4.size) (Nat.le_trans hB b4.size)
  refine Fx.L.nil (Fx.R.p (.slice a1 (K) (cap1)) (fun v1 => x_assign rfl rfl) (Fx.R.nil (Fx.seqN (Fx.W.seq (Fx.W.seq (Fx.W.list (Fx.L.v (.slice a1 (K) (cap1)) (x_move rfl rfl) ?_)))))))
  refine Fx.L.v (.int .i64 ((K : Int))) (x_len rfl rfl rfl (by kernel_rfl)) ?_
  by_cases c27 : (K : Int) = 0
  ·refine Fx.L.v (.bool true) (x_eqlT rfl rfl rfl c27) (Fx.L.nil (Fx.seqN (Fx.W.cond (b := true) rfl (fun _ => Fx.W.seq (Fx.W.list (Fx.L.v (.int .i64 (9)) (x_assign rfl rfl) ?_))) (fun h => nomatch h))))
   refine Fx.L.nil (Fx.seqN (Fx.W.ret (Fx.seqR (⟨.int .i64 (9), Fx.retV1 Try.results122 (by exact rfl), ?_⟩))))
   have eN : regN v = a := by unfold regN; omega
   have ne1 : ¬ 0 ≤ m.core.askedN (regN v) v.req := by rw [eN]; exact of_decide_eq_false c17
   have ee : takesE m.core v = 9 := by unfold takesE; rw [if_neg ne1]; exact if_pos (hKp.symm.trans (by omega))
   exact ⟨congrArg (fun q => Ending.returned (Value.int .i64 q)) ee.symm, b5, fun h0 => by rw [ee] at h0; cases h0⟩
  ·refine Fx.L.v (.bool false) (x_eqlF rfl rfl rfl c27) (Fx.L.nil (Fx.seqN (Fx.W.cond (b := false) rfl (fun h => nomatch h) (fun _ => Fx.W.skip (Fx.seqN (Fx.W.seq (Fx.W.seq (Fx.W.list (Fx.L.v (.int .i64 (0)) (x_assign rfl rfl) (Fx.L.nil (Fx.seqN (Fx.W.block (Fx.W.loop (fun f w_ => ∃ k : Nat, ∃ Rk : Nat → Nat → Int, k ≤ K ∧ walkR (fun x => takeM x v.o v.amt) (idxT m.core v.node) m.R k = (Rk, 0) ∧ f 0 = .pointer (some ⟨p, 0, none⟩) ∧ f 3 = .pointer (some ⟨g1, 0, none⟩) ∧ f 5 = .slice a1 (K) (cap1) ∧ f 6 = .int .i64 ((k : Int)) ∧ Fx.Blk w_ p 27 (ldY m) 71 ∧ Fx.Own w_ B 88 5 (.slice m.s.ga (m.s.gn) (m.s.gc)) m.s.gn (grX m) ∧ Fx.Blk w_ m.tb 1 (fun _ => .slice m.ta m.tn m.tc) 163 ∧ Fx.Own w_ B 178 2 (.slice m.ta (m.tn) (m.tc)) m.tn (trX m.t) ∧ Rqs w_ B 6 m ∧ Fx.Blk w_ g1 14 (evY v) 54 ∧ Fx.Own w_ wt1.heap.size 27 1 (.slice a1 (K) (cap1)) K (Fx.rv .u64 (fun i => iterT m.t m.tn i v.node)) ∧ Fx.Own w_ B 50 56 (.slice m.s.na (m.s.nn) (m.s.nc)) m.s.nn (Fx.flat 56 (fun kq => ndY (m.id kq) (m.par kq) (Rk kq))) ∧ Below B w w_) (fun f _ => (K - (intOf (f 6)).toNat)) ⟨0, m.R, by omega, rfl, (by rfl), (by rfl), (by rfl), (by first | rfl | exact congrArg (Value.int .i64) (by omega)), m29, m31, m32, m33, m34, m35, hown, m30, b5⟩ ?_)))))))))))))
   rintro f1 w5 ⟨k, Rk, hk, hRk, h1, h2, h3, h4, m36, m37, m38, m39, m40, m41, m42, m43, b6⟩
   refine Fx.W.seq (Fx.W.seq (Fx.W.list (Fx.L.v (.int .i64 ((k : Int))) (x_move rfl h4) (Fx.L.v (.slice a1 (K) (cap1)) (x_move rfl h3) (Fx.L.v (.int .i64 ((K : Int))) (x_len rfl rfl rfl (by kernel_rfl)) ?_)))))
   by_cases c31 : (k : Int) < (K : Int)
   ·refine Fx.L.v (.bool true) (Fx.x_lssT rfl rfl rfl c31) (Fx.L.nil (Fx.seqN (Fx.W.cond (b := true) rfl (fun _ => Fx.W.skip (Fx.seqN (Fx.W.seq (Fx.W.block (Fx.W.seq ?_))))) (fun h => nomatch h))))
    obtain ⟨q, hq, eq0, _⟩ := node_at (m := m) (x := iterT m.t m.tn k v.node) (by rw [hTN]; exact hall1 k (by omega))
    have ex1 : idxT m.core v.node k = q := by show (firstI (fun i => decide (m.id i = iterT m.t m.tn k v.node)) m.s.nn).toNat = q; rw [eq0]; rfl
    refine Fx.W.list (Fx.L.v (.pointer (some ⟨p, 0, none⟩)) (x_move rfl h1) (Fx.L.v (.slice a1 (K) (cap1)) (x_move rfl h3) (Fx.L.v (.int .i64 ((k : Int))) (x_move rfl h4) ?_)))
    obtain ⟨gq1, eq1⟩ := m42.addr (by omega)
    have m44 : Fx.Own w5 wt1.heap.size 27 1 (.slice (some ⟨gq1, 0, none⟩) K cap1) K (Fx.rv .u64 (fun i => iterT m.t m.tn i v.node)) := m42.congV (congrArg (fun q => Value.slice q K cap1) eq1)
    refine Fx.L.v (.pointer (some ⟨gq1, k, none⟩)) (x_indexS rfl (rfl.trans (congrArg (fun q => Value.slice q (K) (cap1)) eq1)) rfl Try.underlying68 (s := 1) (by kernel_rfl) (by omega) (by omega) (by omega)) (Fx.L.v (.int .u64 (iterT m.t m.tn k v.node)) (x_load1 (x := Fx.rv .u64 (fun i => iterT m.t m.tn i v.node)) rfl rfl (by kernel_rfl) m44.cel (i := k) (by omega) (by omega) rfl) ?_)
    have m45 : Fx.Own w5 wt1.heap.size 27 1 (.slice a1 (K) (cap1)) K (Fx.rv .u64 (fun i => iterT m.t m.tn i v.node)) := m44.congV (congrArg (fun q => Value.slice q K cap1) eq1.symm)
    have hld2 : Ldg w5 p { m with R := Rk } := { c := m36.cel, an := m43.arr, ag := m37.arr, tc := m38.cel, at2 := m39.arr, ar := fun i hi => (m40.1 i hi).arr, bn := (by show m.s.nn ≤ 1000000; omega), bg := bg, bt := (by show m.tn ≤ 1000000; omega), br := hL.br }
    refine Fx.L.call (by rfl) (Fx.r_call (args := [.pointer (some ⟨p, 0, none⟩), .int .u64 (iterT m.t m.tn k v.node)]) rfl rfl Try.func121 rfl rfl) rfl (((l_node { m with R := Rk } p (iterT m.t m.tn k v.node) _ hld2).mono (fun e w2 h2 => (⟨h2.1.trans (congrArg (fun z => Ending.returned (Value.int .i64 z)) eq0), h2.2⟩ : e = .returned (.int .i64 (q : Int)) ∧ _))).mono ?_)
    rintro e w6 ⟨he, hb4⟩
    refine ⟨.int .i64 ((q : Int)), by rw [he], ?_⟩
    clear he
    have s6 := Fx.Stp.of_below hb4
    have m46 := m36.stp s6 (Nat.ne_of_lt (m36.lt))
    have m47 := m37.stp s6 (m37.notNew (Nat.le_refl _))
    have m48 := m38.stp s6 (Nat.ne_of_lt (m38.lt))
    have m49 := m39.stp s6 (m39.notNew (Nat.le_refl _))
    have m50 := m40.up s6.old
    have m51 := m41.stp s6 (Nat.ne_of_lt (m41.lt))
    have m52 := m43.stp s6 (m43.notNew (Nat.le_refl _))
    have m53 := m45.stp s6 (m45.notNew (Nat.le_refl _))
    have b7 := s6.below b6 (Nat.le_trans hB b6.size) (Nat.le_trans hB b6.size)
    refine Fx.L.v (.int .i64 ((q : Int))) (x_assign rfl rfl) (Fx.L.nil (Fx.seqN (Fx.W.seq ?_)))
    -- region 10 draws
    obtain ⟨gq2, eq2⟩ := m52.addr (by omega)
    have m54 : Fx.Own w6 B 50 56 (.slice (some ⟨gq2, 0, none⟩) m.s.nn m.s.nc) m.s.nn (Fx.flat 56 (fun kq => ndY (m.id kq) (m.par kq) (Rk kq))) := m52.congV (congrArg (fun q => Value.slice q m.s.nn m.s.nc) eq2)
    refine Fx.W.one (T := 48) (T' := 48) (a := .tmp 8) (v := .tmp 55) (m := 54) (z := Fx.rv .i64 (fun _ => 0)) (y := Fx.rv .i64 ((takeM (Rk q) v.o v.amt).1)) (u := .agg (Fx.varr 54 (Fx.rv .i64 ((takeM (Rk q) v.o v.amt).1)))) 17 18 (List.replicate 20 (0, 2, [], [])) #[.pointer (some ⟨p, 0, none⟩), .pointer (some ⟨p, 0, none⟩), .pointer (some ⟨p, 0, none⟩), .pointer (some ⟨p, 18, none⟩), .slice m.s.na (m.s.nn) (m.s.nc), .int .i64 ((q : Int)), .pointer (some ⟨gq2, 56 * q, none⟩), .pointer (some ⟨gq2, 56 * q + 2, none⟩), .agg (Fx.varr 54 (Fx.rv .i64 (Rk q))), .pointer (some ⟨g1, 0, none⟩), .int .i64 (v.o), .pointer (some ⟨g1, 11, none⟩), .int .i64 (v.amt), .tuple #[.agg (Fx.varr 54 (Fx.rv .i64 ((takeM (Rk q) v.o v.amt).1))), .int .i64 ((takeM (Rk q) v.o v.amt).2)], .tuple #[.agg (Fx.varr 54 (Fx.rv .i64 ((takeM (Rk q) v.o v.amt).1))), .int .i64 ((takeM (Rk q) v.o v.amt).2)], .agg (Fx.varr 54 (Fx.rv .i64 ((takeM (Rk q) v.o v.amt).1))), .int .i64 ((takeM (Rk q) v.o v.amt).2), undef, undef, .int .i64 ((takeM (Rk q) v.o v.amt).2)] (by kernel_rfl) (by kernel_rfl) (by kernel_rfl) (by kernel_rfl) (by kernel_rfl) (by kernel_rfl) rfl (by kernel_rfl) rfl rfl (by kernel_rfl) (fun g2 => (show Fx.ev _ (.tmp 8) = .pointer (some ⟨g2, 0, none⟩) from by kernel_rfl)) (fun g2 => (show Fx.ev _ (.tmp 55) = .agg (Fx.varr 54 (Fx.rv .i64 ((takeM (Rk q) v.o v.amt).1))) from by kernel_rfl)) (Fx.cells_agg _ _) (fun _ _ => rfl) (by kernel_rfl) (fun g2 => ?_) ?_
    ·refine ⟨?_, ?_, ?_, ?_, ?_, ?_, ?_, ?_, ?_, ?_, ?_, ?_, ?_, ?_, ?_, ?_, ?_, ?_, ?_, ?_, trivial⟩
     ·exact .inr (.inr (Fx.qb_yes (v := .pointer (some ⟨p, 0, none⟩)) (by kernel_rfl) (by kernel_rfl) (Fx.qbV fun v1 hv1 => x_move rfl ((Fx.fOne_out (by kernel_rfl)).trans h1))))
     ·exact .inr (.inr (Fx.qb_yes (v := .pointer (some ⟨p, 0, none⟩)) (by kernel_rfl) (by kernel_rfl) (Fx.qbV fun v1 hv1 => x_nil rfl (show Fx.ev _ (.tmp 41) = .pointer (some ⟨p, 0, none⟩) from by kernel_rfl))))
     ·exact .inr (.inr (Fx.qb_yes (v := .pointer (some ⟨p, 0, none⟩)) (by kernel_rfl) (by kernel_rfl) (Fx.qbV fun v1 hv1 => x_field rfl (show Fx.ev _ (.tmp 42) = .pointer (some ⟨p, 0, none⟩) from by kernel_rfl) Try.underlying71 rfl (s := 20) (by kernel_rfl) rfl rfl)))
     ·exact .inr (.inr (Fx.qb_yes (v := .pointer (some ⟨p, 18, none⟩)) (by kernel_rfl) (by kernel_rfl) (Fx.qbV fun v1 hv1 => x_field rfl (show Fx.ev _ (.tmp 43) = .pointer (some ⟨p, 0, none⟩) from by kernel_rfl) Try.underlying43 rfl (s := 1) (by kernel_rfl) rfl (by show _ + 18 = _; omega))))
     ·exact .inr (.inr (Fx.qb_yes (v := .slice m.s.na (m.s.nn) (m.s.nc)) (by kernel_rfl) (by kernel_rfl) (Fx.qbV fun v1 hv1 => x_load1 (x := ldY m) rfl (show Fx.ev _ (.tmp 44) = .pointer (some ⟨p, 18, none⟩) from by kernel_rfl) (by kernel_rfl) (m46.cel.below hv1 (by have := m46.lt; omega)) (i := 18) (by omega) (by omega) rfl)))
     ·exact .inr (.inr (Fx.qb_yes (v := .int .i64 ((q : Int))) (by kernel_rfl) (by kernel_rfl) (Fx.qbV fun v1 hv1 => x_move rfl (show Fx.ev _ (.tmp 7) = .int .i64 ((q : Int)) from by kernel_rfl))))
     ·exact .inr (.inr (Fx.qb_yes (v := .pointer (some ⟨gq2, 56 * q, none⟩)) (by kernel_rfl) (by kernel_rfl) (Fx.qbV fun v1 hv1 => x_indexS rfl ((show Fx.ev _ (.tmp 45) = .slice m.s.na (m.s.nn) (m.s.nc) from by kernel_rfl).trans (congrArg (fun q => Value.slice q (m.s.nn) (m.s.nc)) eq2)) (show Fx.ev _ (.tmp 46) = .int .i64 ((q : Int)) from by kernel_rfl) Try.underlying40 (s := 56) (by kernel_rfl) (by omega) (by omega) (by omega))))
     ·exact .inr (.inr (Fx.qb_yes (v := .pointer (some ⟨gq2, 56 * q + 2, none⟩)) (by kernel_rfl) (by kernel_rfl) (Fx.qbV fun v1 hv1 => x_field rfl (show Fx.ev _ (.tmp 47) = .pointer (some ⟨gq2, 56 * q, none⟩) from by kernel_rfl) Try.underlying50 rfl (s := 54) (by kernel_rfl) rfl (by show _ + 2 = _; omega))))
     ·exact .inr (.inr (Fx.qb_yes (v := .agg (Fx.varr 54 (Fx.rv .i64 (Rk q)))) (by kernel_rfl) (by kernel_rfl) (Fx.qbV fun v1 hv1 => x_loadA (x := Fx.flat 56 (fun kq => ndY (m.id kq) (m.par kq) (Rk kq))) (y := Fx.rv .i64 (Rk q)) rfl (show Fx.ev _ (.tmp 48) = .pointer (some ⟨gq2, 56 * q + 2, none⟩) from by kernel_rfl) (by kernel_rfl) (by kernel_rfl) (m54.cel.below hv1 (by have := m54.lt; omega)) (i := 56 * q + 2) (by omega) (by omega) (fun jq hjq => (Fx.flat_at (k := q) (j := 2 + jq) (by omega) (by omega)).trans ((fun jq _ => ndY_row _ _ _ jq) jq hjq)))))
     ·exact .inr (.inr (Fx.qb_yes (v := .pointer (some ⟨g1, 0, none⟩)) (by kernel_rfl) (by kernel_rfl) (Fx.qbV fun v1 hv1 => x_field rfl ((Fx.fOne_out (by kernel_rfl)).trans h2) Try.underlying54 rfl (s := 1) (by kernel_rfl) rfl rfl)))
     ·exact .inr (.inr (Fx.qb_yes (v := .int .i64 (v.o)) (by kernel_rfl) (by kernel_rfl) (Fx.qbV fun v1 hv1 => x_load1 (x := evY v) rfl (show Fx.ev _ (.tmp 50) = .pointer (some ⟨g1, 0, none⟩) from by kernel_rfl) (by kernel_rfl) (m51.cel.below hv1 (by have := m51.lt; omega)) (i := 0) (by omega) (by omega) rfl)))
     ·exact .inr (.inr (Fx.qb_yes (v := .pointer (some ⟨g1, 11, none⟩)) (by kernel_rfl) (by kernel_rfl) (Fx.qbV fun v1 hv1 => x_field rfl ((Fx.fOne_out (by kernel_rfl)).trans h2) Try.underlying54 rfl (s := 1) (by kernel_rfl) rfl (by show _ + 11 = _; omega))))
     ·exact .inr (.inr (Fx.qb_yes (v := .int .i64 (v.amt)) (by kernel_rfl) (by kernel_rfl) (Fx.qbV fun v1 hv1 => x_load1 (x := evY v) rfl (show Fx.ev _ (.tmp 52) = .pointer (some ⟨g1, 11, none⟩) from by kernel_rfl) (by kernel_rfl) (m51.cel.below hv1 (by have := m51.lt; omega)) (i := 11) (by omega) (by omega) rfl)))
     ·exact .inr (.inr (Fx.qb_yes (v := .tuple #[.agg (Fx.varr 54 (Fx.rv .i64 ((takeM (Rk q) v.o v.amt).1))), .int .i64 ((takeM (Rk q) v.o v.amt).2)]) (by kernel_rfl) (by kernel_rfl) (Fx.qbC (fun v1 hv1 => Fx.r_call (args := [.agg (Fx.varr 54 (Fx.rv .i64 (Rk q))), .int .i64 (v.o), .int .i64 (v.amt)]) rfl (Fx.args3 (show Fx.ev _ (.tmp 49) = .agg (Fx.varr 54 (Fx.rv .i64 (Rk q))) from by kernel_rfl) (show Fx.ev _ (.tmp 51) = .int .i64 (v.o) from by kernel_rfl) (show Fx.ev _ (.tmp 53) = .int .i64 (v.amt) from by kernel_rfl)) Try.func93 rfl rfl) (fun v1 hv1 => (f7_take (Rk q) v.o v.amt _).mono fun e v2 h => ⟨h.1, h.2⟩))))
     ·exact .inr (.inr (Fx.qb_yes (v := .tuple #[.agg (Fx.varr 54 (Fx.rv .i64 ((takeM (Rk q) v.o v.amt).1))), .int .i64 ((takeM (Rk q) v.o v.amt).2)]) (by kernel_rfl) (by kernel_rfl) (Fx.qbV fun v1 hv1 => x_move rfl (show Fx.ev _ (.tmp 54) = .tuple #[.agg (Fx.varr 54 (Fx.rv .i64 ((takeM (Rk q) v.o v.amt).1))), .int .i64 ((takeM (Rk q) v.o v.amt).2)] from by kernel_rfl))))
     ·exact .inr (.inr (Fx.qb_yes (v := .agg (Fx.varr 54 (Fx.rv .i64 ((takeM (Rk q) v.o v.amt).1)))) (by kernel_rfl) (by kernel_rfl) (Fx.qbV fun v1 hv1 => Fx.x_extract rfl (show Fx.ev _ (.tmp 40) = .tuple #[.agg (Fx.varr 54 (Fx.rv .i64 ((takeM (Rk q) v.o v.amt).1))), .int .i64 ((takeM (Rk q) v.o v.amt).2)] from by kernel_rfl) rfl)))
     ·exact .inr (.inr (Fx.qb_yes (v := .int .i64 ((takeM (Rk q) v.o v.amt).2)) (by kernel_rfl) (by kernel_rfl) (Fx.qbV fun v1 hv1 => Fx.x_extract rfl (show Fx.ev _ (.tmp 40) = .tuple #[.agg (Fx.varr 54 (Fx.rv .i64 ((takeM (Rk q) v.o v.amt).1))), .int .i64 ((takeM (Rk q) v.o v.amt).2)] from by kernel_rfl) rfl)))
     ·exact .inl rfl
     ·exact .inr (.inl rfl)
     ·exact .inr (.inr (Fx.qb_yes (v := .int .i64 ((takeM (Rk q) v.o v.amt).2)) (by kernel_rfl) (by kernel_rfl) (Fx.qbV fun v1 hv1 => x_assign rfl (show Fx.ev _ (.tmp 56) = .int .i64 ((takeM (Rk q) v.o v.amt).2) from by kernel_rfl))))
    ·rintro g2 w7 f2 hf1 lg2 m55 hb5
     have s7 := Fx.Stp.of_below hb5
     have ng2m46 : p ≠ g2 := Nat.ne_of_lt (Nat.lt_of_lt_of_le (m46.lt) lg2)
     have ng2m48 : m.tb ≠ g2 := Nat.ne_of_lt (Nat.lt_of_lt_of_le (m48.lt) lg2)
     have ng2m51 : g1 ≠ g2 := Nat.ne_of_lt (Nat.lt_of_lt_of_le (m51.lt) lg2)
     have ng2m54 : gq2 ≠ g2 := Nat.ne_of_lt (Nat.lt_of_lt_of_le (m54.lt) lg2)
     have m56 := m46.stp s7 (Nat.ne_of_lt (m46.lt))
     have m57 := m47.stp s7 (m47.notNew (Nat.le_refl _))
     have m58 := m48.stp s7 (Nat.ne_of_lt (m48.lt))
     have m59 := m49.stp s7 (m49.notNew (Nat.le_refl _))
     have m60 := m50.up s7.old
     have m61 := m51.stp s7 (Nat.ne_of_lt (m51.lt))
     have m62 := m53.stp s7 (m53.notNew (Nat.le_refl _))
     have m63 := m54.stpB s7 (Nat.ne_of_lt (m54.lt))
     have b8 := s7.below b7 (Nat.le_trans hB b7.size) (Nat.le_trans hB b7.size)
     have lg2 : w.heap.size ≤ g2 := Nat.le_trans b7.size lg2
     have tg2 : g2 < w7.heap.size := m55.lt
     have q1 : f2 0 = .pointer (some ⟨p, 0, none⟩) := by rw [hf1]; exact (Fx.fOne_out (by kernel_rfl)).trans h1
     have q2 : f2 3 = .pointer (some ⟨g1, 0, none⟩) := by rw [hf1]; exact (Fx.fOne_out (by kernel_rfl)).trans h2
     have q3 : f2 5 = .slice a1 (K) (cap1) := by rw [hf1]; exact (Fx.fOne_out (by kernel_rfl)).trans h3
     have q4 : f2 6 = .int .i64 ((k : Int)) := by rw [hf1]; exact (Fx.fOne_out (by kernel_rfl)).trans h4
     have q5 : f2 28 = .int .i64 ((k : Int)) := by rw [hf1]; kernel_rfl
     have q6 : f2 29 = .slice a1 (K) (cap1) := by rw [hf1]; kernel_rfl
     have q7 : f2 30 = .int .i64 ((K : Int)) := by rw [hf1]; kernel_rfl
     have q8 : f2 31 = .bool true := by rw [hf1]; kernel_rfl
     have q9 : f2 34 = .pointer (some ⟨p, 0, none⟩) := by rw [hf1]; kernel_rfl
     have q10 : f2 35 = .slice a1 (K) (cap1) := by rw [hf1]; kernel_rfl
     have q11 : f2 36 = .int .i64 ((k : Int)) := by rw [hf1]; kernel_rfl
     have q12 : f2 37 = .pointer (some ⟨gq1, k, none⟩) := by rw [hf1]; kernel_rfl
     have q13 : f2 38 = .int .u64 (iterT m.t m.tn k v.node) := by rw [hf1]; kernel_rfl
     have q14 : f2 39 = .int .i64 ((q : Int)) := by rw [hf1]; kernel_rfl
     have q15 : f2 7 = .int .i64 ((q : Int)) := by rw [hf1]; kernel_rfl
     have q16 : f2 41 = .pointer (some ⟨p, 0, none⟩) := by rw [hf1]; kernel_rfl
     have q17 : f2 42 = .pointer (some ⟨p, 0, none⟩) := by rw [hf1]; kernel_rfl
     have q18 : f2 43 = .pointer (some ⟨p, 0, none⟩) := by rw [hf1]; kernel_rfl
     have q19 : f2 44 = .pointer (some ⟨p, 18, none⟩) := by rw [hf1]; kernel_rfl
     have q20 : f2 45 = .slice m.s.na (m.s.nn) (m.s.nc) := by rw [hf1]; kernel_rfl
     have q21 : f2 46 = .int .i64 ((q : Int)) := by rw [hf1]; kernel_rfl
     have q22 : f2 47 = .pointer (some ⟨gq2, 56 * q, none⟩) := by rw [hf1]; kernel_rfl
     have q23 : f2 48 = .pointer (some ⟨gq2, 56 * q + 2, none⟩) := by rw [hf1]; kernel_rfl
     have q24 : f2 49 = .agg (Fx.varr 54 (Fx.rv .i64 (Rk q))) := by rw [hf1]; kernel_rfl
     have q25 : f2 50 = .pointer (some ⟨g1, 0, none⟩) := by rw [hf1]; kernel_rfl
     have q26 : f2 51 = .int .i64 (v.o) := by rw [hf1]; kernel_rfl
     have q27 : f2 52 = .pointer (some ⟨g1, 11, none⟩) := by rw [hf1]; kernel_rfl
     have q28 : f2 53 = .int .i64 (v.amt) := by rw [hf1]; kernel_rfl
     have q29 : f2 54 = .tuple #[.agg (Fx.varr 54 (Fx.rv .i64 ((takeM (Rk q) v.o v.amt).1))), .int .i64 ((takeM (Rk q) v.o v.amt).2)] := by rw [hf1]; kernel_rfl
     have q30 : f2 40 = .tuple #[.agg (Fx.varr 54 (Fx.rv .i64 ((takeM (Rk q) v.o v.amt).1))), .int .i64 ((takeM (Rk q) v.o v.amt).2)] := by rw [hf1]; kernel_rfl
     have q31 : f2 55 = .agg (Fx.varr 54 (Fx.rv .i64 ((takeM (Rk q) v.o v.amt).1))) := by rw [hf1]; kernel_rfl
     have q32 : f2 56 = .int .i64 ((takeM (Rk q) v.o v.amt).2) := by rw [hf1]; kernel_rfl
     have q33 : f2 8 = .pointer (some ⟨g2, 0, none⟩) := by rw [hf1]; kernel_rfl
     have q34 : f2 9 = .int .i64 ((takeM (Rk q) v.o v.amt).2) := by rw [hf1]; kernel_rfl
     clear hf1
     refine Fx.seqN (Fx.W.seq (Fx.W.seq (Fx.W.list (Fx.L.v (.int .i64 ((takeM (Rk q) v.o v.amt).2)) (x_move rfl q34) ?_))))
     by_cases c58 : ((takeM (Rk q) v.o v.amt).2) = 0
     ·refine Fx.L.v (.bool false) (Fx.x_neqF rfl rfl rfl c58) (Fx.L.nil (Fx.seqN (Fx.W.cond (b := false) rfl (fun h => nomatch h) (fun _ => Fx.W.skip (Fx.seqN ?_)))))
      -- region 13 draws
      refine Fx.W.reord [0, 1, 2, 3, 5, 4, 6, 7, 8, 9] [0, 0, 0, 0, 4, 0, 4, 0, 0, 3] Fx.Mk Fx.Mk.refl Fx.Mk.trans (certs := [(9, 4, [4]), (9, 6, [6])]) (by kernel_rfl) (by kernel_rfl) (by kernel_rfl) (by kernel_rfl) (by kernel_rfl) fun wt2 hbwt2 hzwt2 => ?_
      have s8 : Fx.Stp w7.heap.size w7 wt2 := Fx.Stp.of_below hbwt2
      have m64 := m56.stp s8 (Nat.ne_of_lt (m56.lt))
      have m65 := m57.stp s8 (m57.notNew (Nat.le_refl _))
      have m66 := m58.stp s8 (Nat.ne_of_lt (m58.lt))
      have m67 := m59.stp s8 (m59.notNew (Nat.le_refl _))
      have m68 := m60.up s8.old
      have m69 := m61.stp s8 (Nat.ne_of_lt (m61.lt))
      have m70 := m62.stp s8 (m62.notNew (Nat.le_refl _))
      have m71 := m63.stpB s8 (Nat.ne_of_lt (m63.lt))
      have m72 := m55.stp s8 (Nat.ne_of_lt (m55.lt))
      have b9 := s8.below b8 (Nat.le_trans hB b8.size) (Nat.le_trans hB b8.size)
      refine Fx.R.p (.pointer (some ⟨p, 0, none⟩)) (fun v1 => x_move rfl q1) (Fx.R.p (.pointer (some ⟨p, 0, none⟩)) (fun v1 => x_nil rfl rfl) (Fx.R.p (.pointer (some ⟨p, 0, none⟩)) (fun v1 => x_field rfl rfl Try.underlying71 rfl (s := 20) (by kernel_rfl) rfl rfl) (Fx.R.p (.pointer (some ⟨p, 18, none⟩)) (fun v1 => x_field rfl rfl Try.underlying43 rfl (s := 1) (by kernel_rfl) rfl (by show _ + 18 = _; omega)) (Fx.R.p (.int .i64 ((q : Int))) (fun v1 => x_move rfl q15) (Fx.R.s (.slice m.s.na (m.s.nn) (m.s.nc)) (x_load1 (x := ldY m) rfl rfl (by kernel_rfl) m64.cel (i := 18) (by omega) (by omega) rfl) ?_)))))
      refine Fx.R.s (.agg (Fx.varr 54 (Fx.rv .i64 ((takeM (Rk q) v.o v.amt).1)))) (x_loadA (x := Fx.rv .i64 ((takeM (Rk q) v.o v.amt).1)) (y := Fx.rv .i64 ((takeM (Rk q) v.o v.amt).1)) rfl q33 (by kernel_rfl) (by kernel_rfl) m72.cel (i := 0) (by omega) (by omega) (fun j _ => by rw [Nat.zero_add])) ?_
      refine Fx.R.p (.pointer (some ⟨gq2, 56 * q, none⟩)) (fun v1 => x_indexS rfl (rfl.trans (congrArg (fun q => Value.slice q (m.s.nn) (m.s.nc)) eq2)) rfl Try.underlying40 (s := 56) (by kernel_rfl) (by omega) (by omega) (by omega)) (Fx.R.p (.pointer (some ⟨gq2, 56 * q + 2, none⟩)) (fun v1 => x_field rfl rfl Try.underlying50 rfl (s := 54) (by kernel_rfl) rfl (by show _ + 2 = _; omega)) (Fx.R.eff (by rfl) ?_))
      refine Fx.L.ownA (x := Fx.flat 56 (fun kq => ndY (m.id kq) (m.par kq) (Rk kq))) (y := Fx.rv .i64 ((takeM (Rk q) v.o v.amt).1)) (by rfl) rfl rfl rfl rfl (fun _ _ => rfl) (by kernel_rfl) m71 (i := 56 * q + 2) (by omega) fun w8 m73 s9 z2 => ?_
      have hct1 := Fx.ChT.of_stp s9 m71.tyB
      have m74 := m64.chT hct1 (by decide)
      have m75 := m65.chT hct1 (by decide)
      have m76 := m66.chT hct1 (by decide)
      have m77 := m67.chT hct1 (by decide)
      have m78 := m68.chT hct1 (by decide)
      have m79 := m69.chT hct1 (by decide)
      have m80 := m70.chT hct1 (by decide)
      have b10 := s9.below b9 (Nat.le_trans hB b9.size) m71.blk.1
      have m82 : Fx.Own w8 B 50 56 (.slice (some ⟨gq2, 0, none⟩) m.s.nn m.s.nc) m.s.nn (Fx.flat 56 (fun kq => ndY (m.id kq) (m.par kq) (updA Rk q ((takeM (Rk q) v.o v.amt).1) kq))) := m73.congr (fun pq hp => (Fx.ovrS_flat (k := q) (j := 2) (by omega) (by omega) pq hp).trans (Fx.flat_cong (fun i hi j hj => ndR_store i hi j hj) pq hp))
      refine Fx.L.nil (Fx.R.nil (Fx.blkN (Fx.seqN (Fx.W.list (Fx.L.v (.int .i64 ((k : Int))) (x_move rfl q4) (Fx.L.v (.int .i64 ((k : Int) + 1)) (Fx.x_add rfl rfl rfl (Fx.i64e (by omega) (by omega))) (Fx.L.v (.int .i64 ((k : Int) + 1)) (x_assign rfl rfl) (Fx.L.nil ?_))))))))
      have m83 : Fx.Own w8 B 50 56 (.slice m.s.na (m.s.nn) (m.s.nc)) m.s.nn (Fx.flat 56 (fun kq => ndY (m.id kq) (m.par kq) (updA Rk q ((takeM (Rk q) v.o v.amt).1) kq))) := m82.congV (congrArg (fun q => Value.slice q m.s.nn m.s.nc) eq2.symm)
      refine Fx.lpN ⟨k + 1, (updA Rk q (takeM (Rk q) v.o v.amt).1), by omega, (walkR_step hRk ex1 (by first | exact c58 | exact Classical.not_not.1 c58)), q1, q2, q3, (by first | rfl | exact congrArg (Value.int .i64) (by omega)), m74, m75, m76, m77, m78, m79, m80, m83, b10⟩ ?_
      show (K - (intOf ((.int .i64 ((k : Int) + 1)))).toNat) < _
      simp only [h4, intOf]; omega
     ·refine Fx.L.v (.bool true) (Fx.x_neqT rfl rfl rfl c58) (Fx.L.nil (Fx.seqN (Fx.W.cond (b := true) rfl (fun _ => Fx.W.seq (Fx.W.list (Fx.L.v (.int .i64 ((takeM (Rk q) v.o v.amt).2)) (x_move rfl q34) ?_))) (fun h => nomatch h))))
      refine Fx.L.v (.int .i64 ((takeM (Rk q) v.o v.amt).2)) (x_assign rfl rfl) (Fx.L.nil (Fx.seqN (Fx.W.ret (Fx.seqR (Fx.blkR (Fx.seqR (Fx.lpR (Fx.blkR (Fx.seqR (⟨.int .i64 ((takeM (Rk q) v.o v.amt).2), Fx.retV1 Try.results122 (by exact rfl), ?_⟩))))))))))
      have eN : regN v = a := by unfold regN; omega
      have ne1 : ¬ 0 ≤ m.core.askedN (regN v) v.req := by rw [eN]; exact of_decide_eq_false c17
      have ne2 : ¬ pathK m.core.t m.core.tn v.node = 0 := fun e => c27 (by rw [show K = 0 from hKp.trans e]; rfl)
      have ew : takesW m.core v = walkR (fun x => takeM x v.o v.amt) (idxT m.core v.node) m.R K := by unfold takesW; rw [show pathK m.core.t m.core.tn v.node = K from hKp.symm]; rfl
      have ee : takesE m.core v = (takeM (Rk q) v.o v.amt).2 := by
       unfold takesE; rw [if_neg ne1, if_neg ne2, ew]
       have e1 := walkR_err hRk ex1 c58
       rw [walkR_stop (k := k + 1) (by rw [e1]; exact c58) K (by omega)]; exact e1
      exact ⟨congrArg (fun q => Ending.returned (Value.int .i64 q)) ee.symm, b8, fun h0 => absurd (ee.symm.trans h0) c58⟩
   ·refine Fx.L.v (.bool false) (Fx.x_lssF rfl rfl rfl c31) (Fx.L.nil (Fx.seqN (Fx.W.cond (b := false) rfl (fun h => nomatch h) (fun _ => Fx.W.exit (Fx.seqX (Fx.lpX (Fx.blkX (Fx.seqN (Fx.W.seq ?_)))))))))
    have hRK : walkR (fun x => takeM x v.o v.amt) (idxT m.core v.node) m.R K = (Rk, 0) := by rw [show K = k by omega]; exact hRk
    refine Fx.W.list (Fx.L.v (.pointer (some ⟨g1, 0, none⟩)) (x_field rfl h2 Try.underlying54 rfl (s := 1) (by kernel_rfl) rfl rfl) (Fx.L.v (.int .i64 (v.o)) (x_load1 (x := evY v) rfl rfl (by kernel_rfl) m41.cel (i := 0) (by omega) (by omega) rfl) (Fx.L.v (.pointer (some ⟨g1, 12, none⟩)) (x_field rfl h2 Try.underlying54 rfl (s := 1) (by kernel_rfl) rfl (by show _ + 12 = _; omega)) (Fx.L.v (.int .u64 (v.req)) (x_load1 (x := evY v) rfl rfl (by kernel_rfl) m41.cel (i := 12) (by omega) (by omega) rfl) (Fx.L.v (.pointer (some ⟨g1, 9, none⟩)) (x_field rfl h2 Try.underlying54 rfl (s := 1) (by kernel_rfl) rfl (by show _ + 9 = _; omega)) (Fx.L.v (.int .u64 (v.node)) (x_load1 (x := evY v) rfl rfl (by kernel_rfl) m41.cel (i := 9) (by omega) (by omega) rfl) (Fx.L.v (.pointer (some ⟨g1, 11, none⟩)) (x_field rfl h2 Try.underlying54 rfl (s := 1) (by kernel_rfl) rfl (by show _ + 11 = _; omega)) (Fx.L.v (.int .i64 (v.amt)) (x_load1 (x := evY v) rfl rfl (by kernel_rfl) m41.cel (i := 11) (by omega) (by omega) rfl) (Fx.L.v (.agg (Fx.varr 5 (Fx.ovr (Fx.ovr (Fx.ovr (Fx.ovr (fun zq => if zq < 1 then .int .i64 (0) else if zq < 3 then .int .u64 (0) else if zq < 4 then .int .i64 (0) else .int .u64 (0)) 0 1 (fun _ => .int .i64 (v.o))) 1 1 (fun _ => .int .u64 (v.req))) 2 1 (fun _ => .int .u64 (v.node))) 3 1 (fun _ => .int .i64 (v.amt))))) (x_build (vs := [(0, .int .i64 (v.o)), (1, .int .u64 (v.req)), (2, .int .u64 (v.node)), (3, .int .i64 (v.amt))]) (places := #[(0, 1), (1, 1), (2, 1), (3, 1), (4, 1)]) (m := 5) (x := fun zq => if zq < 1 then .int .i64 (0) else if zq < 3 then .int .u64 (0) else if zq < 4 then .int .i64 (0) else .int .u64 (0)) rfl rfl Try.underlying88 (by kernel_rfl) (by kernel_rfl) (by rw [Fx.fill_step (off := 0) (s := 1) (y := fun _ => .int .i64 (v.o)) (by kernel_rfl) (Fx.cells_one (by rfl)) (by rfl)]; rw [Fx.fill_step (off := 1) (s := 1) (y := fun _ => .int .u64 (v.req)) (by kernel_rfl) (Fx.cells_one (by rfl)) (by rfl)]; rw [Fx.fill_step (off := 2) (s := 1) (y := fun _ => .int .u64 (v.node)) (by kernel_rfl) (Fx.cells_one (by rfl)) (by rfl)]; rw [Fx.fill_step (off := 3) (s := 1) (y := fun _ => .int .i64 (v.amt)) (by kernel_rfl) (Fx.cells_one (by rfl)) (by rfl)]; rfl)) (Fx.L.new (m := 5) (y := fun zq => if zq < 1 then .int .i64 (0) else if zq < 3 then .int .u64 (0) else if zq < 4 then .int .i64 (0) else .int .u64 (0)) (by rfl) rfl (by kernel_rfl) rfl fun g3 w9 eg3 m84 s10 z3 => ?_))))))))))
    have m85 := m36.stp s10 (Nat.ne_of_lt (m36.lt))
    have m86 := m37.stp s10 (m37.notNew (Nat.le_refl _))
    have m87 := m38.stp s10 (Nat.ne_of_lt (m38.lt))
    have m88 := m39.stp s10 (m39.notNew (Nat.le_refl _))
    have m89 := m40.up s10.old
    have m90 := m41.stp s10 (Nat.ne_of_lt (m41.lt))
    have m92 := m43.stp s10 (m43.notNew (Nat.le_refl _))
    have b11 := s10.below b6 (Nat.le_trans hB b6.size) (Nat.le_trans hB b6.size)
    have lg3 : w.heap.size ≤ g3 := by rw [eg3]; exact b6.size
    have ng3m85 : p ≠ g3 := by rw [eg3]; exact Nat.ne_of_lt (m36.lt)
    have ng3m86 : (.slice m.s.ga (m.s.gn) (m.s.gc) : Value).ownBlock ≠ some g3 := by rw [eg3]; exact m37.notNew (Nat.le_refl _)
    have ng3m87 : m.tb ≠ g3 := by rw [eg3]; exact Nat.ne_of_lt (m38.lt)
    have ng3m90 : g1 ≠ g3 := by rw [eg3]; exact Nat.ne_of_lt (m41.lt)
    have tg3 : g3 < w9.heap.size := m84.lt
    clear eg3
    refine Fx.L.storeA (x := fun zq => if zq < 1 then .int .i64 (0) else if zq < 3 then .int .u64 (0) else if zq < 4 then .int .i64 (0) else .int .u64 (0)) (y := Fx.ovr (Fx.ovr (Fx.ovr (Fx.ovr (fun zq => if zq < 1 then .int .i64 (0) else if zq < 3 then .int .u64 (0) else if zq < 4 then .int .i64 (0) else .int .u64 (0)) 0 1 (fun _ => .int .i64 (v.o))) 1 1 (fun _ => .int .u64 (v.req))) 2 1 (fun _ => .int .u64 (v.node))) 3 1 (fun _ => .int .i64 (v.amt))) (by rfl) rfl rfl rfl rfl (Fx.ovr_ones (Fx.ovr_ones (Fx.ovr_ones (Fx.ovr_ones (fun jq _ => by show ((fun zq => if zq < 1 then .int .i64 (0) else if zq < 3 then .int .u64 (0) else if zq < 4 then .int .i64 (0) else .int .u64 (0) : Nat → Value) jq).oneCell' = true; simp only []; repeat (first | rfl | split)) (fun _ _ => rfl)) (fun _ _ => rfl)) (fun _ _ => rfl)) (fun _ _ => rfl)) (by kernel_rfl) m84 (i := 0) (by omega) fun w10 m93 s11 z4 => ?_
    have m94 : Fx.Blk w10 g3 5 (Fx.ovr (Fx.ovr (Fx.ovr (Fx.ovr (fun zq => if zq < 1 then .int .i64 (0) else if zq < 3 then .int .u64 (0) else if zq < 4 then .int .i64 (0) else .int .u64 (0)) 0 1 (fun _ => .int .i64 (v.o))) 1 1 (fun _ => .int .u64 (v.req))) 2 1 (fun _ => .int .u64 (v.node))) 3 1 (fun _ => .int .i64 (v.amt))) 88 := Fx.ovr_all m93
    have hct2 := Fx.ChT.of_stp s11 m84.ty
    have m95 := m85.chT hct2 (by decide)
    have m96 := m86.stp s11 ng3m86
    have m97 := m87.chT hct2 (by decide)
    have m98 := m88.chT hct2 (by decide)
    have m99 := m89.chT hct2 (by decide)
    have m100 := m90.chT hct2 (by decide)
    have m102 := m92.chT hct2 (by decide)
    have b12 := s11.below b11 (Nat.le_trans hB b11.size) (by omega)
    refine Fx.L.nil (Fx.seqN (Fx.W.seq ?_))
    have m103 : Fx.Blk w10 g3 5 (grY (grN v)) 88 := m94.congr (fun j hj => by rcases j with _|_|_|_|_|j <;> first | rfl | omega)
    refine Fx.W.list (Fx.L.v (.pointer (some ⟨p, 0, none⟩)) (x_move rfl h1) (Fx.L.v (.pointer (some ⟨p, 0, none⟩)) (x_nil rfl rfl) (Fx.L.v (.pointer (some ⟨p, 0, none⟩)) (x_field rfl rfl Try.underlying71 rfl (s := 20) (by kernel_rfl) rfl rfl) (Fx.L.v (.pointer (some ⟨p, 19, none⟩)) (x_field rfl rfl Try.underlying43 rfl (s := 1) (by kernel_rfl) rfl (by show _ + 19 = _; omega)) (Fx.L.v (.slice m.s.ga (m.s.gn) (m.s.gc)) (x_load1 (x := ldY m) rfl rfl (by kernel_rfl) m95.cel (i := 19) (by omega) (by omega) rfl) (Fx.L.v (.int .i64 ((m.s.gn : Int))) (x_len rfl rfl rfl (by kernel_rfl)) (Fx.L.v (.int .i64 ((m.s.gn : Int))) (x_assign rfl rfl) (Fx.L.nil (Fx.seqN (Fx.W.seq ?_))))))))))
    -- region 16 draws
    refine Fx.W.reord [0, 1, 2, 3, 4, 5, 6, 7, 8, 9, 10, 11, 12] [0, 0, 0, 0, 0, 1, 4, 2, 2, 0, 0, 0, 3] (Fx.ChT [88]) Fx.ChT.refl Fx.ChT.trans (certs := [(12, 5, [5]), (7, 6, [6]), (8, 6, [7, 6]), (12, 6, [6]), (8, 7, [7]), (9, 7, [7]), (10, 7, [7]), (11, 7, [7]), (12, 7, [7]), (9, 8, [8]), (10, 8, [8]), (11, 8, [8]), (12, 8, [8])]) (by kernel_rfl) (by kernel_rfl) (by kernel_rfl) (by kernel_rfl) (by kernel_rfl) fun wt3 hbwt3 hzwt3 => ?_
    have s12 : Fx.Stp w10.heap.size w10 wt3 := Fx.Stp.of_below hbwt3
    have m104 := m95.stp s12 (Nat.ne_of_lt (m95.lt))
    have m105 := m96.stp s12 (m96.notNew (Nat.le_refl _))
    have m106 := m97.stp s12 (Nat.ne_of_lt (m97.lt))
    have m107 := m98.stp s12 (m98.notNew (Nat.le_refl _))
    have m108 := m99.up s12.old
    have m109 := m100.stp s12 (Nat.ne_of_lt (m100.lt))
    have m110 := m102.stp s12 (m102.notNew (Nat.le_refl _))
    have m111 := m103.stp s12 (Nat.ne_of_lt (m103.lt))
    have b13 := s12.below b12 (Nat.le_trans hB b12.size) (Nat.le_trans hB b12.size)
    refine Fx.R.p (.pointer (some ⟨p, 0, none⟩)) (fun v1 => x_move rfl h1) (Fx.R.p (.pointer (some ⟨p, 0, none⟩)) (fun v1 => x_move rfl h1) (Fx.R.p (.pointer (some ⟨p, 0, none⟩)) (fun v1 => x_nil rfl rfl) (Fx.R.p (.pointer (some ⟨p, 0, none⟩)) (fun v1 => x_field rfl rfl Try.underlying71 rfl (s := 20) (by kernel_rfl) rfl rfl) (Fx.R.p (.pointer (some ⟨p, 19, none⟩)) (fun v1 => x_field rfl rfl Try.underlying43 rfl (s := 1) (by kernel_rfl) rfl (by show _ + 19 = _; omega)) (Fx.R.read (v := .slice m.s.ga (m.s.gn) (m.s.gc)) (by rfl) (by rfl) (Fx.ChT.refl _) (fun v1 hv1 => x_load1 (x := ldY m) rfl rfl (by kernel_rfl) (m104.chT hv1 (by decide)).cel (i := 19) (by omega) (by omega) rfl) ?_)))))
    refine Fx.R.s (.agg (Fx.varr 5 (grY (grN v)))) (x_loadA (x := grY (grN v)) (y := grY (grN v)) rfl rfl (by kernel_rfl) (by kernel_rfl) m111.cel (i := 0) (by omega) (by omega) (fun j _ => by rw [Nat.zero_add])) ?_
    refine Fx.R.make (by rfl) ?_
    refine Fx.L.bslice (vs := [(0, .agg (Fx.varr 5 (grY (grN v))))]) (s := 5) (zc := fun zq => if zq < 1 then .int .i64 (0) else if zq < 3 then .int .u64 (0) else if zq < 4 then .int .i64 (0) else .int .u64 (0)) (y := Fx.ovr (fun j => (fun zq => if zq < 1 then .int .i64 (0) else if zq < 3 then .int .u64 (0) else if zq < 4 then .int .i64 (0) else .int .u64 (0)) (j % 5)) (0 * 5) 5 (grY (grN v))) (by rfl) rfl rfl Try.underlying41 (by kernel_rfl) (by rfl) (by rfl) (by kernel_rfl) (by rw [Fx.fill_step (off := 0 * 5) (s := 5) (y := grY (grN v)) rfl (Fx.cells_agg _ _) (by rfl)]; rfl) rfl fun g4 w11 eg4 m112 s13 z5 => ?_
    have m113 := m104.stp s13 (Nat.ne_of_lt (m104.lt))
    have m114 := m105.stp s13 (m105.notNew (Nat.le_refl _))
    have m115 := m106.stp s13 (Nat.ne_of_lt (m106.lt))
    have m116 := m107.stp s13 (m107.notNew (Nat.le_refl _))
    have m117 := m108.up s13.old
    have m118 := m109.stp s13 (Nat.ne_of_lt (m109.lt))
    have m119 := m110.stp s13 (m110.notNew (Nat.le_refl _))
    have m120 := m111.stp s13 (Nat.ne_of_lt (m111.lt))
    have b14 := s13.below b13 (Nat.le_trans hB b13.size) (Nat.le_trans hB b13.size)
    have lg4 : w.heap.size ≤ g4 := by rw [eg4]; exact b13.size
    have ng4m113 : p ≠ g4 := by rw [eg4]; exact Nat.ne_of_lt (m104.lt)
    have ng4m114 : (.slice m.s.ga (m.s.gn) (m.s.gc) : Value).ownBlock ≠ some g4 := by rw [eg4]; exact m105.notNew (Nat.le_refl _)
    have ng4m115 : m.tb ≠ g4 := by rw [eg4]; exact Nat.ne_of_lt (m106.lt)
    have ng4m118 : g1 ≠ g4 := by rw [eg4]; exact Nat.ne_of_lt (m109.lt)
    have ng4m120 : g3 ≠ g4 := by rw [eg4]; exact Nat.ne_of_lt (m111.lt)
    have tg4 : g4 < w11.heap.size := m112.lt
    clear eg4
    refine Fx.L.nil ⟨Fx.ChT.of_below s13.old, ?_⟩
    refine Fx.R.make (by rfl) ?_
    refine Fx.L.app (B := B) (s := 5) (bytes := 40) (k := m.s.gn) (m := 1) (v := .slice m.s.ga (m.s.gn) (m.s.gc)) (x := grX m) (by rfl) rfl rfl rfl Try.underlying41 (by kernel_rfl) (by kernel_rfl) rfl rfl m114 m112.cel (ovr_one (grY_one _)) (by omega) (by omega) (by omega) (Nat.le_trans hB b14.size) fun g5 cap1 w12 ho1 hg1 hgv1 hlt1 => ?_
    have hct3 := Fx.ChT.of_grown hg1 m114
    have m122 := m113.chT hct3 (by decide)
    have m123 := m115.chT hct3 (by decide)
    have m124 := m116.chT hct3 (by decide)
    have m125 := m117.chT hct3 (by decide)
    have m126 := m118.chT hct3 (by decide)
    have m127 := m119.chT hct3 (by decide)
    have m128 := m120.grown hg1 ng3m86
    have ng5m128 : g3 ≠ g5 := fun e => hgv1.elim (fun e2 => ng3m86 (by rw [e]; exact e2)) (fun e2 => by have := m120.lt; omega)
    have m121 : Fx.Own w12 B 88 5 (.slice (some ⟨g5, 0, none⟩) (m.s.gn + 1) cap1) (m.s.gn + 1) (Fx.flat 5 (Fx.shF (fun kq => grY (m.g kq)) (grY (grN v)) m.s.gn m.s.gn)) := (ho1.congr (fun j hj => (Fx.app_flat j hj).trans (Fx.flat_cong (fun i hi q _ => Fx.sh_start i hi q) j hj)))
    have b15 : Below B w w12 := Fx.Below.grow b14 hg1 (Nat.le_trans hB b14.size) (fun q hq => (m114.ge hq).1)
    refine Fx.L.nil ⟨hct3, ?_⟩
    refine Fx.R.p (.pointer (some ⟨p, 0, none⟩)) (fun v1 => x_nil rfl rfl) (Fx.R.p (.pointer (some ⟨p, 0, none⟩)) (fun v1 => x_field rfl rfl Try.underlying71 rfl (s := 20) (by kernel_rfl) rfl rfl) (Fx.R.p (.pointer (some ⟨p, 19, none⟩)) (fun v1 => x_field rfl rfl Try.underlying43 rfl (s := 1) (by kernel_rfl) rfl (by show _ + 19 = _; omega)) (Fx.R.eff (by rfl) ?_)))
    refine Fx.L.store1 (x := ldY m) (u := .slice (some ⟨g5, 0, none⟩) (m.s.gn + 1) (cap1)) (by rfl) rfl rfl rfl rfl (by rfl) (by kernel_rfl) m122 (i := 19) (by omega) fun w13 m129 s14 z6 => ?_
    have hct4 := Fx.ChT.of_stp s14 m122.ty
    have m130 := m123.chT hct4 (by decide)
    have m131 := m124.chT hct4 (by decide)
    have m132 := m125.chT hct4 (by decide)
    have m133 := m126.chT hct4 (by decide)
    have m134 := m127.chT hct4 (by decide)
    have m135 := m128.chT hct4 (by decide)
    have m136 := m121.chT hct4 (by decide)
    have b16 := s14.below b15 (Nat.le_trans hB b15.size) (by omega)
    refine Fx.L.nil (Fx.R.nil (Fx.seqN (Fx.W.seq (Fx.W.block (Fx.W.loop (fun f w_ => ∃ k : Nat, k ≤ m.s.gn ∧ (∀ i, k ≤ i → i < m.s.gn → gtG v (m.g i) = true) ∧ f 0 = .pointer (some ⟨p, 0, none⟩) ∧ f 3 = .pointer (some ⟨g1, 0, none⟩) ∧ f 10 = .pointer (some ⟨g3, 0, none⟩) ∧ f 11 = .int .i64 ((k : Int)) ∧ Fx.Blk w_ m.tb 1 (fun _ => .slice m.ta m.tn m.tc) 163 ∧ Fx.Own w_ B 178 2 (.slice m.ta (m.tn) (m.tc)) m.tn (trX m.t) ∧ Rqs w_ B 6 m ∧ Fx.Blk w_ g1 14 (evY v) 54 ∧ Fx.Own w_ B 50 56 (.slice m.s.na (m.s.nn) (m.s.nc)) m.s.nn (Fx.flat 56 (fun kq => ndY (m.id kq) (m.par kq) (Rk kq))) ∧ Fx.Blk w_ g3 5 (grY (grN v)) 88 ∧ Fx.Blk w_ p 27 (Fx.updV (ldY m) 19 (.slice (some ⟨g5, 0, none⟩) (m.s.gn + 1) (cap1))) 71 ∧ Fx.Own w_ B 88 5 (.slice (some ⟨g5, 0, none⟩) (m.s.gn + 1) cap1) (m.s.gn + 1) (Fx.flat 5 (Fx.shF (fun kq => grY (m.g kq)) (grY (grN v)) m.s.gn k)) ∧ Below B w w_) (fun f _ => (intOf (f 11)).toNat) ⟨m.s.gn, by omega, (fun i h1 h2 => absurd h1 (by omega)), h1, h2, (by rfl), (by first | rfl | exact congrArg (Value.int .i64) (by omega)), m130, m131, m132, m133, m134, m135, m129, m136, b16⟩ ?_)))))
    rintro f3 w14 ⟨k, hk, hgt, h5, h6, h7, h8, m137, m138, m139, m140, m141, m142, m143, m144, b17⟩
    refine Fx.W.seq (Fx.W.seq ?_)
    -- region 17 draws
    refine Fx.W.quiet (fun v1 => ∃ q, v1 = World.drewN w14 q) (by kernel_rfl) (by kernel_rfl) ⟨1, rfl⟩ ?_
    refine Fx.Qt.v (.int .i64 ((k : Int))) (fun v1 hv1 => x_move rfl h8) ?_
    by_cases c97 : 0 < (k : Int)
    ·obtain ⟨j, ej⟩ : ∃ j, k = j + 1 := ⟨k - 1, by omega⟩
     refine Fx.Qt.v (.bool true) (fun v1 hv1 => Fx.x_gtrT rfl rfl rfl c97) (Fx.Qt.v (.bool true) (fun v1 hv1 => x_move rfl rfl) (Fx.Qt.v (.pointer (some ⟨p, 0, none⟩)) (fun v1 hv1 => x_move rfl h5) (Fx.Qt.v (.pointer (some ⟨p, 0, none⟩)) (fun v1 hv1 => x_nil rfl rfl) (Fx.Qt.v (.pointer (some ⟨p, 0, none⟩)) (fun v1 hv1 => x_field rfl rfl Try.underlying71 rfl (s := 20) (by kernel_rfl) rfl rfl) (Fx.Qt.v (.pointer (some ⟨p, 19, none⟩)) (fun v1 hv1 => x_field rfl rfl Try.underlying43 rfl (s := 1) (by kernel_rfl) rfl (by show _ + 19 = _; omega)) (Fx.Qt.v (.slice (some ⟨g5, 0, none⟩) (m.s.gn + 1) (cap1)) (fun v1 hv1 => x_load1 (x := Fx.updV (ldY m) 19 (.slice (some ⟨g5, 0, none⟩) (m.s.gn + 1) (cap1))) rfl rfl (by kernel_rfl) (by obtain ⟨qd, rfl⟩ := hv1; exact m143.cel) (i := 19) (by omega) (by omega) (Fx.updV_eq (by omega))) (Fx.Qt.v (.int .i64 ((k : Int))) (fun v1 hv1 => x_move rfl h8) (Fx.Qt.v (.int .i64 ((j : Int))) (fun v1 hv1 => Fx.x_sub rfl rfl rfl (Fx.i64e (by omega) (by omega))) (Fx.Qt.v (.pointer (some ⟨g5, 5 * j, none⟩)) (fun v1 hv1 => x_indexS rfl rfl rfl Try.underlying41 (s := 5) (by kernel_rfl) (by omega) (by omega) (by omega)) (Fx.Qt.v (.pointer (some ⟨g5, 5 * j, none⟩)) (fun v1 hv1 => x_field rfl rfl Try.underlying88 rfl (s := 1) (by kernel_rfl) rfl rfl) (Fx.Qt.v (.int .i64 ((m.g j) 0)) (fun v1 hv1 => x_load1 (x := Fx.flat 5 (Fx.shF (fun kq => grY (m.g kq)) (grY (grN v)) m.s.gn k)) rfl rfl (by kernel_rfl) (by obtain ⟨qd, rfl⟩ := hv1; exact m144.cel) (i := 5 * j) (by omega) (by omega) (Fx.flat_cell (k := j) (j := 0) (by omega) (by omega) ((congrFun (Fx.sh_at (by omega) (by omega)) 0).trans rfl))) (Fx.Qt.v (.pointer (some ⟨g3, 0, none⟩)) (fun v1 hv1 => x_field rfl h7 Try.underlying88 rfl (s := 1) (by kernel_rfl) rfl rfl) (Fx.Qt.v (.int .i64 (v.o)) (fun v1 hv1 => x_load1 (x := grY (grN v)) rfl rfl (by kernel_rfl) (by obtain ⟨qd, rfl⟩ := hv1; exact m142.cel) (i := 0) (by omega) (by omega) rfl) ?_)))))))))))))
     by_cases c111 : v.o < ((m.g j) 0)
     ·refine Fx.Qt.v (.bool true) (fun v1 hv1 => Fx.x_gtrT rfl rfl rfl c111) (Fx.Qt.v (.bool true) (fun v1 hv1 => x_move rfl rfl) (Fx.Qt.skip (by rfl) rfl (Fx.Qt.skip (by rfl) rfl (Fx.Qt.skip (by rfl) rfl (Fx.Qt.skip (by rfl) rfl (Fx.Qt.skip (by rfl) rfl (Fx.Qt.skip (by rfl) rfl (Fx.Qt.skip (by rfl) rfl (Fx.Qt.skip (by rfl) rfl (Fx.Qt.skip (by rfl) rfl (Fx.Qt.skip (by rfl) rfl (Fx.Qt.skip (by rfl) rfl (Fx.Qt.skip (by rfl) rfl (Fx.Qt.skip (by rfl) rfl (Fx.Qt.skip (by rfl) rfl (Fx.Qt.skip (by rfl) rfl (Fx.Qt.skip (by rfl) rfl (Fx.Qt.skip (by rfl) rfl (Fx.Qt.skip (by rfl) rfl (Fx.Qt.skip (by rfl) rfl (Fx.Qt.skip (by rfl) rfl (Fx.Qt.skip (by rfl) rfl (Fx.Qt.skip (by rfl) rfl (Fx.Qt.skip (by rfl) rfl ?_))))))))))))))))))))))))
      refine Fx.Qt.skip (by rfl) rfl (Fx.Qt.skip (by rfl) rfl (Fx.Qt.skip (by rfl) rfl (Fx.Qt.skip (by rfl) rfl (Fx.Qt.skip (by rfl) rfl (Fx.Qt.v (.bool true) (fun v1 hv1 => x_pickT rfl rfl rfl) (Fx.Qt.v (.bool true) (fun v1 hv1 => x_pickT rfl rfl rfl) (Fx.Qt.nil ?_)))))))
      rintro _ ⟨qd, rfl⟩
      obtain ⟨wq1, ewq1⟩ : ∃ v1, v1 = World.drewN w14 qd := ⟨_, rfl⟩
      rw [← ewq1]
      have s15 : Fx.Stp w14.heap.size w14 wq1 := by rw [ewq1]; exact Fx.Stp.of_below (bdrN w14 qd)
      have m145 := m137.stp s15 (Nat.ne_of_lt (m137.lt))
      have m146 := m138.stp s15 (m138.notNew (Nat.le_refl _))
      have m147 := m139.up s15.old
      have m148 := m140.stp s15 (Nat.ne_of_lt (m140.lt))
      have m149 := m141.stp s15 (m141.notNew (Nat.le_refl _))
      have m150 := m142.stp s15 (Nat.ne_of_lt (m142.lt))
      have m151 := m143.stp s15 (Nat.ne_of_lt (m143.lt))
      have m152 := m144.stpB s15 (Nat.ne_of_lt (m144.lt))
      have b18 := s15.below b17 (Nat.le_trans hB b17.size) (Nat.le_trans hB b17.size)
      clear ewq1
      refine Fx.seqN (Fx.W.cond (b := true) rfl (fun _ => Fx.W.skip (Fx.seqN (Fx.W.block (Fx.W.seq ?_)))) (fun h => nomatch h))
      -- region 18 draws
      refine Fx.W.reord [0, 1, 2, 3, 5, 6, 7, 8, 9, 11, 12, 4, 10, 13, 14, 15, 16] [0, 0, 0, 0, 4, 0, 0, 0, 0, 0, 4, 0, 0, 0, 4, 0, 3] Fx.Mk Fx.Mk.refl Fx.Mk.trans (certs := [(16, 4, [4]), (16, 10, [10]), (16, 14, [14])]) (by kernel_rfl) (by kernel_rfl) (by kernel_rfl) (by kernel_rfl) (by kernel_rfl) fun wt4 hbwt4 hzwt4 => ?_
      have s16 : Fx.Stp wq1.heap.size wq1 wt4 := Fx.Stp.of_below hbwt4
      have m153 := m145.stp s16 (Nat.ne_of_lt (m145.lt))
      have m154 := m146.stp s16 (m146.notNew (Nat.le_refl _))
      have m155 := m147.up s16.old
      have m156 := m148.stp s16 (Nat.ne_of_lt (m148.lt))
      have m157 := m149.stp s16 (m149.notNew (Nat.le_refl _))
      have m158 := m150.stp s16 (Nat.ne_of_lt (m150.lt))
      have m159 := m151.stp s16 (Nat.ne_of_lt (m151.lt))
      have m160 := m152.stpB s16 (Nat.ne_of_lt (m152.lt))
      have b19 := s16.below b18 (Nat.le_trans hB b18.size) (Nat.le_trans hB b18.size)
      refine Fx.R.p (.pointer (some ⟨p, 0, none⟩)) (fun v1 => x_move rfl h5) (Fx.R.p (.pointer (some ⟨p, 0, none⟩)) (fun v1 => x_nil rfl rfl) (Fx.R.p (.pointer (some ⟨p, 0, none⟩)) (fun v1 => x_field rfl rfl Try.underlying71 rfl (s := 20) (by kernel_rfl) rfl rfl) (Fx.R.p (.pointer (some ⟨p, 19, none⟩)) (fun v1 => x_field rfl rfl Try.underlying43 rfl (s := 1) (by kernel_rfl) rfl (by show _ + 19 = _; omega)) (Fx.R.p (.int .i64 ((k : Int))) (fun v1 => x_move rfl h8) (Fx.R.p (.pointer (some ⟨p, 0, none⟩)) (fun v1 => x_move rfl h5) (Fx.R.p (.pointer (some ⟨p, 0, none⟩)) (fun v1 => x_nil rfl rfl) (Fx.R.p (.pointer (some ⟨p, 0, none⟩)) (fun v1 => x_field rfl rfl Try.underlying71 rfl (s := 20) (by kernel_rfl) rfl rfl) (Fx.R.p (.pointer (some ⟨p, 19, none⟩)) (fun v1 => x_field rfl rfl Try.underlying43 rfl (s := 1) (by kernel_rfl) rfl (by show _ + 19 = _; omega)) (Fx.R.p (.int .i64 ((k : Int))) (fun v1 => x_move rfl h8) (Fx.R.p (.int .i64 ((j : Int))) (fun v1 => Fx.x_sub rfl rfl rfl (Fx.i64e (by omega) (by omega))) (Fx.R.s (.slice (some ⟨g5, 0, none⟩) (m.s.gn + 1) (cap1)) (x_load1 (x := Fx.updV (ldY m) 19 (.slice (some ⟨g5, 0, none⟩) (m.s.gn + 1) (cap1))) rfl rfl (by kernel_rfl) m159.cel (i := 19) (by omega) (by omega) (Fx.updV_eq (by omega))) ?_)))))))))))
      refine Fx.R.s (.slice (some ⟨g5, 0, none⟩) (m.s.gn + 1) (cap1)) (x_load1 (x := Fx.updV (ldY m) 19 (.slice (some ⟨g5, 0, none⟩) (m.s.gn + 1) (cap1))) rfl rfl (by kernel_rfl) m159.cel (i := 19) (by omega) (by omega) (Fx.updV_eq (by omega))) ?_
      refine Fx.R.p (.pointer (some ⟨g5, 5 * j, none⟩)) (fun v1 => x_indexS rfl rfl rfl Try.underlying41 (s := 5) (by kernel_rfl) (by omega) (by omega) (by omega)) (Fx.R.s (.agg (Fx.varr 5 (grY (m.g j)))) (x_loadA (x := Fx.flat 5 (Fx.shF (fun kq => grY (m.g kq)) (grY (grN v)) m.s.gn k)) (y := grY (m.g j)) rfl rfl (by kernel_rfl) (by kernel_rfl) m160.cel (i := 5 * j) (by omega) (by omega) (fun jq hjq => (Fx.flat_at (k := j) (by omega) hjq).trans (congrFun (Fx.sh_at (by omega) (by omega)) jq))) ?_)
      refine Fx.R.p (.pointer (some ⟨g5, 5 * k, none⟩)) (fun v1 => x_indexS rfl rfl rfl Try.underlying41 (s := 5) (by kernel_rfl) (by omega) (by omega) (by omega)) (Fx.R.eff (by rfl) ?_)
      refine Fx.L.ownA (x := Fx.flat 5 (Fx.shF (fun kq => grY (m.g kq)) (grY (grN v)) m.s.gn k)) (y := grY (m.g j)) (by rfl) rfl rfl rfl rfl (fun j _ => grY_one _ j) (by kernel_rfl) m160 (i := 5 * k) (by omega) fun w15 m161 s17 z7 => ?_
      have hct5 := Fx.ChT.of_stp s17 m160.tyB
      have m162 := m153.chT hct5 (by decide)
      have m163 := m154.chT hct5 (by decide)
      have m164 := m155.chT hct5 (by decide)
      have m165 := m156.chT hct5 (by decide)
      have m166 := m157.chT hct5 (by decide)
      have m167 := m158.stp s17 (by omega)
      have m168 := m159.chT hct5 (by decide)
      have b20 := s17.below b19 (Nat.le_trans hB b19.size) m160.blk.1
      have m169 : Fx.Own w15 B 88 5 (.slice (some ⟨g5, 0, none⟩) (m.s.gn + 1) cap1) (m.s.gn + 1) (Fx.flat 5 (Fx.shF (fun kq => grY (m.g kq)) (grY (grN v)) m.s.gn j)) := m161.congr (fun pq hp => (Fx.ovr_flat (k := k) (by omega) pq hp).trans (Fx.flat_cong (fun i hi q _ => Fx.sh_step ej (by omega) i hi q) pq hp))
      refine Fx.L.nil (Fx.R.nil (Fx.seqN (Fx.W.list (Fx.L.v (.int .i64 ((k : Int))) (x_move rfl h8) (Fx.L.v (.int .i64 ((j : Int))) (Fx.x_sub rfl rfl rfl (Fx.i64e (by omega) (by omega))) (Fx.L.v (.int .i64 ((j : Int))) (x_assign rfl rfl) (Fx.L.nil (Fx.blkN (Fx.lpN ⟨j, by omega, (gtB_step ej hgt (by unfold gtG; rw [decide_eq_true c111]; rfl)), h5, h6, h7, (by first | rfl | exact congrArg (Value.int .i64) (by omega)), m162, m163, m164, m165, m166, m167, m168, m169, b20⟩ ?_)))))))))
      show (intOf ((.int .i64 ((j : Int))))).toNat < _
      simp only [h8, intOf]; omega
     ·refine Fx.Qt.v (.bool false) (fun v1 hv1 => x_gtrF rfl rfl rfl c111) (Fx.Qt.v (.bool false) (fun v1 hv1 => x_move rfl rfl) (Fx.Qt.v (.pointer (some ⟨p, 0, none⟩)) (fun v1 hv1 => x_move rfl h5) (Fx.Qt.v (.pointer (some ⟨p, 0, none⟩)) (fun v1 hv1 => x_nil rfl rfl) (Fx.Qt.v (.pointer (some ⟨p, 0, none⟩)) (fun v1 hv1 => x_field rfl rfl Try.underlying71 rfl (s := 20) (by kernel_rfl) rfl rfl) (Fx.Qt.v (.pointer (some ⟨p, 19, none⟩)) (fun v1 hv1 => x_field rfl rfl Try.underlying43 rfl (s := 1) (by kernel_rfl) rfl (by show _ + 19 = _; omega)) (Fx.Qt.v (.slice (some ⟨g5, 0, none⟩) (m.s.gn + 1) (cap1)) (fun v1 hv1 => x_load1 (x := Fx.updV (ldY m) 19 (.slice (some ⟨g5, 0, none⟩) (m.s.gn + 1) (cap1))) rfl rfl (by kernel_rfl) (by obtain ⟨qd, rfl⟩ := hv1; exact m143.cel) (i := 19) (by omega) (by omega) (Fx.updV_eq (by omega))) (Fx.Qt.v (.int .i64 ((k : Int))) (fun v1 hv1 => x_move rfl h8) (Fx.Qt.v (.int .i64 ((j : Int))) (fun v1 hv1 => Fx.x_sub rfl rfl rfl (Fx.i64e (by omega) (by omega))) (Fx.Qt.v (.pointer (some ⟨g5, 5 * j, none⟩)) (fun v1 hv1 => x_indexS rfl rfl rfl Try.underlying41 (s := 5) (by kernel_rfl) (by omega) (by omega) (by omega)) (Fx.Qt.v (.pointer (some ⟨g5, 5 * j, none⟩)) (fun v1 hv1 => x_field rfl rfl Try.underlying88 rfl (s := 1) (by kernel_rfl) rfl rfl) (Fx.Qt.v (.int .i64 ((m.g j) 0)) (fun v1 hv1 => x_load1 (x := Fx.flat 5 (Fx.shF (fun kq => grY (m.g kq)) (grY (grN v)) m.s.gn k)) rfl rfl (by kernel_rfl) (by obtain ⟨qd, rfl⟩ := hv1; exact m144.cel) (i := 5 * j) (by omega) (by omega) (Fx.flat_cell (k := j) (j := 0) (by omega) (by omega) ((congrFun (Fx.sh_at (by omega) (by omega)) 0).trans rfl))) (Fx.Qt.v (.pointer (some ⟨g3, 0, none⟩)) (fun v1 hv1 => x_field rfl h7 Try.underlying88 rfl (s := 1) (by kernel_rfl) rfl rfl) (Fx.Qt.v (.int .i64 (v.o)) (fun v1 hv1 => x_load1 (x := grY (grN v)) rfl rfl (by kernel_rfl) (by obtain ⟨qd, rfl⟩ := hv1; exact m142.cel) (i := 0) (by omega) (by omega) rfl) ?_)))))))))))))
      by_cases c125 : ((m.g j) 0) = v.o
      ·refine Fx.Qt.v (.bool true) (fun v1 hv1 => x_eqlT rfl rfl rfl c125) (Fx.Qt.v (.bool true) (fun v1 hv1 => x_move rfl rfl) (Fx.Qt.v (.pointer (some ⟨p, 0, none⟩)) (fun v1 hv1 => x_move rfl h5) (Fx.Qt.v (.pointer (some ⟨p, 0, none⟩)) (fun v1 hv1 => x_nil rfl rfl) (Fx.Qt.v (.pointer (some ⟨p, 0, none⟩)) (fun v1 hv1 => x_field rfl rfl Try.underlying71 rfl (s := 20) (by kernel_rfl) rfl rfl) (Fx.Qt.v (.pointer (some ⟨p, 19, none⟩)) (fun v1 hv1 => x_field rfl rfl Try.underlying43 rfl (s := 1) (by kernel_rfl) rfl (by show _ + 19 = _; omega)) (Fx.Qt.v (.slice (some ⟨g5, 0, none⟩) (m.s.gn + 1) (cap1)) (fun v1 hv1 => x_load1 (x := Fx.updV (ldY m) 19 (.slice (some ⟨g5, 0, none⟩) (m.s.gn + 1) (cap1))) rfl rfl (by kernel_rfl) (by obtain ⟨qd, rfl⟩ := hv1; exact m143.cel) (i := 19) (by omega) (by omega) (Fx.updV_eq (by omega))) (Fx.Qt.v (.int .i64 ((k : Int))) (fun v1 hv1 => x_move rfl h8) (Fx.Qt.v (.int .i64 ((j : Int))) (fun v1 hv1 => Fx.x_sub rfl rfl rfl (Fx.i64e (by omega) (by omega))) (Fx.Qt.v (.pointer (some ⟨g5, 5 * j, none⟩)) (fun v1 hv1 => x_indexS rfl rfl rfl Try.underlying41 (s := 5) (by kernel_rfl) (by omega) (by omega) (by omega)) (Fx.Qt.v (.pointer (some ⟨g5, 5 * j + 1, none⟩)) (fun v1 hv1 => x_field rfl rfl Try.underlying88 rfl (s := 1) (by kernel_rfl) rfl (by show _ + 1 = _; omega)) (Fx.Qt.v (.int .u64 ((m.g j) 1)) (fun v1 hv1 => x_load1 (x := Fx.flat 5 (Fx.shF (fun kq => grY (m.g kq)) (grY (grN v)) m.s.gn k)) rfl rfl (by kernel_rfl) (by obtain ⟨qd, rfl⟩ := hv1; exact m144.cel) (i := 5 * j + 1) (by omega) (by omega) (Fx.flat_cell (k := j) (j := 1) (by omega) (by omega) ((congrFun (Fx.sh_at (by omega) (by omega)) 1).trans rfl))) (Fx.Qt.v (.pointer (some ⟨g3, 1, none⟩)) (fun v1 hv1 => x_field rfl h7 Try.underlying88 rfl (s := 1) (by kernel_rfl) rfl (by show _ + 1 = _; omega)) (Fx.Qt.v (.int .u64 (v.req)) (fun v1 hv1 => x_load1 (x := grY (grN v)) rfl rfl (by kernel_rfl) (by obtain ⟨qd, rfl⟩ := hv1; exact m142.cel) (i := 1) (by omega) (by omega) rfl) ?_)))))))))))))
       by_cases c139 : v.req < ((m.g j) 1)
       ·refine Fx.Qt.v (.bool true) (fun v1 hv1 => Fx.x_gtrT rfl rfl rfl c139) (Fx.Qt.v (.bool true) (fun v1 hv1 => x_pickT rfl rfl rfl) (Fx.Qt.v (.bool true) (fun v1 hv1 => x_pickF rfl rfl rfl) (Fx.Qt.v (.bool true) (fun v1 hv1 => x_pickT rfl rfl rfl) (Fx.Qt.nil ?_))))
        rintro _ ⟨qd, rfl⟩
        obtain ⟨wq2, ewq2⟩ : ∃ v1, v1 = World.drewN w14 qd := ⟨_, rfl⟩
        rw [← ewq2]
        have s18 : Fx.Stp w14.heap.size w14 wq2 := by rw [ewq2]; exact Fx.Stp.of_below (bdrN w14 qd)
        have m170 := m137.stp s18 (Nat.ne_of_lt (m137.lt))
        have m171 := m138.stp s18 (m138.notNew (Nat.le_refl _))
        have m172 := m139.up s18.old
        have m173 := m140.stp s18 (Nat.ne_of_lt (m140.lt))
        have m174 := m141.stp s18 (m141.notNew (Nat.le_refl _))
        have m175 := m142.stp s18 (Nat.ne_of_lt (m142.lt))
        have m176 := m143.stp s18 (Nat.ne_of_lt (m143.lt))
        have m177 := m144.stpB s18 (Nat.ne_of_lt (m144.lt))
        have b21 := s18.below b17 (Nat.le_trans hB b17.size) (Nat.le_trans hB b17.size)
        clear ewq2
        refine Fx.seqN (Fx.W.cond (b := true) rfl (fun _ => Fx.W.skip (Fx.seqN (Fx.W.block (Fx.W.seq ?_)))) (fun h => nomatch h))
        -- region 18 draws
        refine Fx.W.reord [0, 1, 2, 3, 5, 6, 7, 8, 9, 11, 12, 4, 10, 13, 14, 15, 16] [0, 0, 0, 0, 4, 0, 0, 0, 0, 0, 4, 0, 0, 0, 4, 0, 3] Fx.Mk Fx.Mk.refl Fx.Mk.trans (certs := [(16, 4, [4]), (16, 10, [10]), (16, 14, [14])]) (by kernel_rfl) (by kernel_rfl) (by kernel_rfl) (by kernel_rfl) (by kernel_rfl) fun wt5 hbwt5 hzwt5 => ?_
        have s19 : Fx.Stp wq2.heap.size wq2 wt5 := Fx.Stp.of_below hbwt5
        have m178 := m170.stp s19 (Nat.ne_of_lt (m170.lt))
        have m179 := m171.stp s19 (m171.notNew (Nat.le_refl _))
        have m180 := m172.up s19.old
        have m181 := m173.stp s19 (Nat.ne_of_lt (m173.lt))
        have m182 := m174.stp s19 (m174.notNew (Nat.le_refl _))
        have m183 := m175.stp s19 (Nat.ne_of_lt (m175.lt))
        have m184 := m176.stp s19 (Nat.ne_of_lt (m176.lt))
        have m185 := m177.stpB s19 (Nat.ne_of_lt (m177.lt))
        have b22 := s19.below b21 (Nat.le_trans hB b21.size) (Nat.le_trans hB b21.size)
        refine Fx.R.p (.pointer (some ⟨p, 0, none⟩)) (fun v1 => x_move rfl h5) (Fx.R.p (.pointer (some ⟨p, 0, none⟩)) (fun v1 => x_nil rfl rfl) (Fx.R.p (.pointer (some ⟨p, 0, none⟩)) (fun v1 => x_field rfl rfl Try.underlying71 rfl (s := 20) (by kernel_rfl) rfl rfl) (Fx.R.p (.pointer (some ⟨p, 19, none⟩)) (fun v1 => x_field rfl rfl Try.underlying43 rfl (s := 1) (by kernel_rfl) rfl (by show _ + 19 = _; omega)) (Fx.R.p (.int .i64 ((k : Int))) (fun v1 => x_move rfl h8) (Fx.R.p (.pointer (some ⟨p, 0, none⟩)) (fun v1 => x_move rfl h5) (Fx.R.p (.pointer (some ⟨p, 0, none⟩)) (fun v1 => x_nil rfl rfl) (Fx.R.p (.pointer (some ⟨p, 0, none⟩)) (fun v1 => x_field rfl rfl Try.underlying71 rfl (s := 20) (by kernel_rfl) rfl rfl) (Fx.R.p (.pointer (some ⟨p, 19, none⟩)) (fun v1 => x_field rfl rfl Try.underlying43 rfl (s := 1) (by kernel_rfl) rfl (by show _ + 19 = _; omega)) (Fx.R.p (.int .i64 ((k : Int))) (fun v1 => x_move rfl h8) (Fx.R.p (.int .i64 ((j : Int))) (fun v1 => Fx.x_sub rfl rfl rfl (Fx.i64e (by omega) (by omega))) (Fx.R.s (.slice (some ⟨g5, 0, none⟩) (m.s.gn + 1) (cap1)) (x_load1 (x := Fx.updV (ldY m) 19 (.slice (some ⟨g5, 0, none⟩) (m.s.gn + 1) (cap1))) rfl rfl (by kernel_rfl) m184.cel (i := 19) (by omega) (by omega) (Fx.updV_eq (by omega))) ?_)))))))))))
        refine Fx.R.s (.slice (some ⟨g5, 0, none⟩) (m.s.gn + 1) (cap1)) (x_load1 (x := Fx.updV (ldY m) 19 (.slice (some ⟨g5, 0, none⟩) (m.s.gn + 1) (cap1))) rfl rfl (by kernel_rfl) m184.cel (i := 19) (by omega) (by omega) (Fx.updV_eq (by omega))) ?_
        refine Fx.R.p (.pointer (some ⟨g5, 5 * j, none⟩)) (fun v1 => x_indexS rfl rfl rfl Try.underlying41 (s := 5) (by kernel_rfl) (by omega) (by omega) (by omega)) (Fx.R.s (.agg (Fx.varr 5 (grY (m.g j)))) (x_loadA (x := Fx.flat 5 (Fx.shF (fun kq => grY (m.g kq)) (grY (grN v)) m.s.gn k)) (y := grY (m.g j)) rfl rfl (by kernel_rfl) (by kernel_rfl) m185.cel (i := 5 * j) (by omega) (by omega) (fun jq hjq => (Fx.flat_at (k := j) (by omega) hjq).trans (congrFun (Fx.sh_at (by omega) (by omega)) jq))) ?_)
        refine Fx.R.p (.pointer (some ⟨g5, 5 * k, none⟩)) (fun v1 => x_indexS rfl rfl rfl Try.underlying41 (s := 5) (by kernel_rfl) (by omega) (by omega) (by omega)) (Fx.R.eff (by rfl) ?_)
        refine Fx.L.ownA (x := Fx.flat 5 (Fx.shF (fun kq => grY (m.g kq)) (grY (grN v)) m.s.gn k)) (y := grY (m.g j)) (by rfl) rfl rfl rfl rfl (fun j _ => grY_one _ j) (by kernel_rfl) m185 (i := 5 * k) (by omega) fun w16 m186 s20 z8 => ?_
        have hct6 := Fx.ChT.of_stp s20 m185.tyB
        have m187 := m178.chT hct6 (by decide)
        have m188 := m179.chT hct6 (by decide)
        have m189 := m180.chT hct6 (by decide)
        have m190 := m181.chT hct6 (by decide)
        have m191 := m182.chT hct6 (by decide)
        have m192 := m183.stp s20 (by omega)
        have m193 := m184.chT hct6 (by decide)
        have b23 := s20.below b22 (Nat.le_trans hB b22.size) m185.blk.1
        have m194 : Fx.Own w16 B 88 5 (.slice (some ⟨g5, 0, none⟩) (m.s.gn + 1) cap1) (m.s.gn + 1) (Fx.flat 5 (Fx.shF (fun kq => grY (m.g kq)) (grY (grN v)) m.s.gn j)) := m186.congr (fun pq hp => (Fx.ovr_flat (k := k) (by omega) pq hp).trans (Fx.flat_cong (fun i hi q _ => Fx.sh_step ej (by omega) i hi q) pq hp))
        refine Fx.L.nil (Fx.R.nil (Fx.seqN (Fx.W.list (Fx.L.v (.int .i64 ((k : Int))) (x_move rfl h8) (Fx.L.v (.int .i64 ((j : Int))) (Fx.x_sub rfl rfl rfl (Fx.i64e (by omega) (by omega))) (Fx.L.v (.int .i64 ((j : Int))) (x_assign rfl rfl) (Fx.L.nil (Fx.blkN (Fx.lpN ⟨j, by omega, (gtB_step ej hgt (by unfold gtG; rw [decide_eq_true c125, decide_eq_true c139]; cases decide (v.o < m.g j 0) <;> rfl)), h5, h6, h7, (by first | rfl | exact congrArg (Value.int .i64) (by omega)), m187, m188, m189, m190, m191, m192, m193, m194, b23⟩ ?_)))))))))
        show (intOf ((.int .i64 ((j : Int))))).toNat < _
        simp only [h8, intOf]; omega
       ·refine Fx.Qt.v (.bool false) (fun v1 hv1 => x_gtrF rfl rfl rfl c139) (Fx.Qt.v (.bool false) (fun v1 hv1 => x_pickT rfl rfl rfl) (Fx.Qt.v (.bool false) (fun v1 hv1 => x_pickF rfl rfl rfl) (Fx.Qt.v (.bool false) (fun v1 hv1 => x_pickT rfl rfl rfl) (Fx.Qt.nil ?_))))
        rintro _ ⟨qd, rfl⟩
        obtain ⟨wq3, ewq3⟩ : ∃ v1, v1 = World.drewN w14 qd := ⟨_, rfl⟩
        rw [← ewq3]
        have s21 : Fx.Stp w14.heap.size w14 wq3 := by rw [ewq3]; exact Fx.Stp.of_below (bdrN w14 qd)
        have m195 := m137.stp s21 (Nat.ne_of_lt (m137.lt))
        have m196 := m138.stp s21 (m138.notNew (Nat.le_refl _))
        have m197 := m139.up s21.old
        have m198 := m140.stp s21 (Nat.ne_of_lt (m140.lt))
        have m199 := m141.stp s21 (m141.notNew (Nat.le_refl _))
        have m200 := m142.stp s21 (Nat.ne_of_lt (m142.lt))
        have m201 := m143.stp s21 (Nat.ne_of_lt (m143.lt))
        have m202 := m144.stpB s21 (Nat.ne_of_lt (m144.lt))
        have b24 := s21.below b17 (Nat.le_trans hB b17.size) (Nat.le_trans hB b17.size)
        clear ewq3
        refine Fx.seqN (Fx.W.cond (b := false) rfl (fun h => nomatch h) (fun _ => Fx.W.exit (Fx.seqX (Fx.lpX (Fx.blkX (Fx.seqN (Fx.W.seq ?_)))))))
        -- region 20 draws
        refine Fx.W.reord [0, 1, 2, 3, 5, 4, 6, 7, 8] [0, 0, 0, 0, 4, 0, 4, 0, 3] Fx.Mk Fx.Mk.refl Fx.Mk.trans (certs := [(8, 4, [4]), (8, 6, [6])]) (by kernel_rfl) (by kernel_rfl) (by kernel_rfl) (by kernel_rfl) (by kernel_rfl) fun wt6 hbwt6 hzwt6 => ?_
        have s22 : Fx.Stp wq3.heap.size wq3 wt6 := Fx.Stp.of_below hbwt6
        have m203 := m195.stp s22 (Nat.ne_of_lt (m195.lt))
        have m204 := m196.stp s22 (m196.notNew (Nat.le_refl _))
        have m205 := m197.up s22.old
        have m206 := m198.stp s22 (Nat.ne_of_lt (m198.lt))
        have m207 := m199.stp s22 (m199.notNew (Nat.le_refl _))
        have m208 := m200.stp s22 (Nat.ne_of_lt (m200.lt))
        have m209 := m201.stp s22 (Nat.ne_of_lt (m201.lt))
        have m210 := m202.stpB s22 (Nat.ne_of_lt (m202.lt))
        have b25 := s22.below b24 (Nat.le_trans hB b24.size) (Nat.le_trans hB b24.size)
        refine Fx.R.p (.pointer (some ⟨p, 0, none⟩)) (fun v1 => x_move rfl h5) (Fx.R.p (.pointer (some ⟨p, 0, none⟩)) (fun v1 => x_nil rfl rfl) (Fx.R.p (.pointer (some ⟨p, 0, none⟩)) (fun v1 => x_field rfl rfl Try.underlying71 rfl (s := 20) (by kernel_rfl) rfl rfl) (Fx.R.p (.pointer (some ⟨p, 19, none⟩)) (fun v1 => x_field rfl rfl Try.underlying43 rfl (s := 1) (by kernel_rfl) rfl (by show _ + 19 = _; omega)) (Fx.R.p (.int .i64 ((k : Int))) (fun v1 => x_move rfl h8) (Fx.R.s (.slice (some ⟨g5, 0, none⟩) (m.s.gn + 1) (cap1)) (x_load1 (x := Fx.updV (ldY m) 19 (.slice (some ⟨g5, 0, none⟩) (m.s.gn + 1) (cap1))) rfl rfl (by kernel_rfl) m209.cel (i := 19) (by omega) (by omega) (Fx.updV_eq (by omega))) ?_)))))
        refine Fx.R.s (.agg (Fx.varr 5 (grY (grN v)))) (x_loadA (x := grY (grN v)) (y := grY (grN v)) rfl h7 (by kernel_rfl) (by kernel_rfl) m208.cel (i := 0) (by omega) (by omega) (fun j _ => by rw [Nat.zero_add])) ?_
        refine Fx.R.p (.pointer (some ⟨g5, 5 * k, none⟩)) (fun v1 => x_indexS rfl rfl rfl Try.underlying41 (s := 5) (by kernel_rfl) (by omega) (by omega) (by omega)) (Fx.R.eff (by rfl) ?_)
        refine Fx.L.ownA (x := Fx.flat 5 (Fx.shF (fun kq => grY (m.g kq)) (grY (grN v)) m.s.gn k)) (y := grY (grN v)) (by rfl) rfl rfl rfl rfl (fun j _ => grY_one _ j) (by kernel_rfl) m210 (i := 5 * k) (by omega) fun w17 m211 s23 z9 => ?_
        have hct7 := Fx.ChT.of_stp s23 m210.tyB
        have m212 := m203.chT hct7 (by decide)
        have m213 := m204.chT hct7 (by decide)
        have m214 := m205.chT hct7 (by decide)
        have m215 := m206.chT hct7 (by decide)
        have m216 := m207.chT hct7 (by decide)
        have m217 := m208.stp s23 (by omega)
        have m218 := m209.chT hct7 (by decide)
        have b26 := s23.below b25 (Nat.le_trans hB b25.size) m210.blk.1
        have m219 : Fx.Own w17 B 88 5 (.slice (some ⟨g5, 0, none⟩) (m.s.gn + 1) cap1) (m.s.gn + 1) (Fx.flat 5 (Fx.insF (fun kq => grY (m.g kq)) k (grY (grN v)))) := m211.congr (fun pq hp => (Fx.ovr_flat (k := k) (by omega) pq hp).trans (Fx.flat_cong (fun i hi q _ => Fx.ins_end (by omega) i hi q) pq hp))
        refine Fx.L.nil (Fx.R.nil (Fx.seqN (Fx.W.seq ?_)))
        have m220 : Fx.Own w17 B 27 1 (.slice (m.ra a) ((m.rn a)) ((m.rc a))) (m.rn a) (Fx.rv .u64 (m.rq a)) := m214.1 a ha
        have bra := hL.br a ha
        -- region 21 draws
        refine Fx.W.reord [0, 1, 4, 5, 8, 9, 12, 16, 17, 2, 3, 6, 7, 10, 11, 13, 14, 15, 18, 19] [0, 0, 1, 0, 0, 0, 1, 0, 0, 0, 0, 1, 0, 4, 2, 2, 0, 0, 0, 3] (Fx.ChT [27]) Fx.ChT.refl Fx.ChT.trans (certs := [(19, 2, [2]), (19, 6, [6]), (19, 11, [11]), (14, 13, [13]), (15, 13, [14, 13]), (19, 13, [13]), (15, 14, [14]), (18, 14, [14]), (19, 14, [14]), (18, 15, [15]), (19, 15, [15])]) (by kernel_rfl) (by kernel_rfl) (by kernel_rfl) (by kernel_rfl) (by kernel_rfl) fun wt7 hbwt7 hzwt7 => ?_
        have s24 : Fx.Stp w17.heap.size w17 wt7 := Fx.Stp.of_below hbwt7
        have m221 := m212.stp s24 (Nat.ne_of_lt (m212.lt))
        have m222 := m213.stp s24 (m213.notNew (Nat.le_refl _))
        have m223 := m214.up s24.old
        have m224 := m215.stp s24 (Nat.ne_of_lt (m215.lt))
        have m225 := m216.stp s24 (m216.notNew (Nat.le_refl _))
        have m226 := m217.stp s24 (Nat.ne_of_lt (m217.lt))
        have m227 := m218.stp s24 (Nat.ne_of_lt (m218.lt))
        have m228 := m219.stpB s24 (Nat.ne_of_lt (m219.lt))
        have m229 := m220.stp s24 (m220.notNew (Nat.le_refl _))
        have b27 := s24.below b26 (Nat.le_trans hB b26.size) (Nat.le_trans hB b26.size)
        refine Fx.R.p (.pointer (some ⟨p, 0, none⟩)) (fun v1 => x_move rfl h5) (Fx.R.p (.pointer (some ⟨g1, 0, none⟩)) (fun v1 => x_field rfl h6 Try.underlying54 rfl (s := 1) (by kernel_rfl) rfl rfl) (Fx.R.p (.pointer (some ⟨p, 0, none⟩)) (fun v1 => x_move rfl h5) (Fx.R.p (.pointer (some ⟨g1, 0, none⟩)) (fun v1 => x_field rfl h6 Try.underlying54 rfl (s := 1) (by kernel_rfl) rfl rfl) (Fx.R.p (.pointer (some ⟨p, 0, none⟩)) (fun v1 => x_nil rfl rfl) (Fx.R.p (.pointer (some ⟨p, 21, none⟩)) (fun v1 => x_field rfl rfl Try.underlying71 rfl (s := 6) (by kernel_rfl) rfl (by show _ + 21 = _; omega)) (Fx.R.p (.pointer (some ⟨g1, 12, none⟩)) (fun v1 => x_field rfl h6 Try.underlying54 rfl (s := 1) (by kernel_rfl) rfl (by show _ + 12 = _; omega)) (Fx.R.p (.pointer (some ⟨p, 0, none⟩)) (fun v1 => x_nil rfl rfl) (Fx.R.p (.pointer (some ⟨p, 21, none⟩)) (fun v1 => x_field rfl rfl Try.underlying71 rfl (s := 6) (by kernel_rfl) rfl (by show _ + 21 = _; omega)) (Fx.R.read (v := .int .i64 (v.o)) (by rfl) (by rfl) (Fx.ChT.refl _) (fun v1 hv1 => x_load1 (x := evY v) rfl rfl (by kernel_rfl) (m224.chT hv1 (by decide)).cel (i := 0) (by omega) (by omega) rfl) ?_)))))))))
        refine Fx.R.p (.int .i64 ((a : Int))) (fun v1 => Fx.x_sub rfl rfl rfl (Fx.i64e (by omega) (by omega))) (Fx.R.read (v := .int .i64 (v.o)) (by rfl) (by rfl) (Fx.ChT.refl _) (fun v1 hv1 => x_load1 (x := evY v) rfl rfl (by kernel_rfl) (m224.chT hv1 (by decide)).cel (i := 0) (by omega) (by omega) rfl) ?_)
        refine Fx.R.p (.int .i64 ((a : Int))) (fun v1 => Fx.x_sub rfl rfl rfl (Fx.i64e (by omega) (by omega))) (Fx.R.p (.pointer (some ⟨p, a + 21, none⟩)) (fun v1 => x_index rfl rfl rfl Try.underlying69 (s := 1) (by kernel_rfl) (by omega) (by omega) (by omega)) (Fx.R.read (v := .slice (m.ra a) ((m.rn a)) ((m.rc a))) (by rfl) (by rfl) (Fx.ChT.refl _) (fun v1 hv1 => x_load1 (x := Fx.updV (ldY m) 19 (.slice (some ⟨g5, 0, none⟩) (m.s.gn + 1) (cap1))) rfl rfl (by kernel_rfl) (m227.chT hv1 (by decide)).cel (i := a + 21) (by omega) (by omega) (Fx.updV_ne (by omega) (ldY_req _ (by omega)))) ?_))
        refine Fx.R.s (.int .u64 (v.req)) (x_load1 (x := evY v) rfl rfl (by kernel_rfl) m224.cel (i := 12) (by omega) (by omega) rfl) ?_
        refine Fx.R.make (by rfl) ?_
        refine Fx.L.bslice (vs := [(0, .int .u64 (v.req))]) (s := 1) (zc := Fx.rv .u64 (fun _ => 0)) (y := Fx.ovr (fun j => (Fx.rv .u64 (fun _ => 0)) (j % 1)) (0 * 1) 1 (fun _ => .int .u64 (v.req))) (by rfl) rfl rfl Try.underlying68 (by kernel_rfl) (by rfl) (by rfl) (by kernel_rfl) (by rw [Fx.fill_step (off := 0 * 1) (s := 1) (y := fun _ => .int .u64 (v.req)) rfl (Fx.cells_one (by rfl)) (by rfl)]; rfl) rfl fun g6 w18 eg6 m230 s25 z10 => ?_
        have m231 := m221.stp s25 (Nat.ne_of_lt (m221.lt))
        have m232 := m222.stp s25 (m222.notNew (Nat.le_refl _))
        have m233 := m223.up s25.old
        have m235 := m225.stp s25 (m225.notNew (Nat.le_refl _))
        have m237 := m227.stp s25 (Nat.ne_of_lt (m227.lt))
        have m238 := m228.stpB s25 (Nat.ne_of_lt (m228.lt))
        have m239 := m229.stp s25 (m229.notNew (Nat.le_refl _))
        have b28 := s25.below b27 (Nat.le_trans hB b27.size) (Nat.le_trans hB b27.size)
        have lg6 : w.heap.size ≤ g6 := by rw [eg6]; exact b27.size
        have ng6m231 : m.tb ≠ g6 := by rw [eg6]; exact Nat.ne_of_lt (m221.lt)
        have ng6m234 : g1 ≠ g6 := by rw [eg6]; exact Nat.ne_of_lt (m224.lt)
        have ng6m236 : g3 ≠ g6 := by rw [eg6]; exact Nat.ne_of_lt (m226.lt)
        have ng6m237 : p ≠ g6 := by rw [eg6]; exact Nat.ne_of_lt (m227.lt)
        have ng6m238 : g5 ≠ g6 := by rw [eg6]; exact Nat.ne_of_lt (m228.lt)
        have ng6m239 : (.slice (m.ra a) ((m.rn a)) ((m.rc a)) : Value).ownBlock ≠ some g6 := by rw [eg6]; exact m229.notNew (Nat.le_refl _)
        have tg6 : g6 < w18.heap.size := m230.lt
        clear eg6
        refine Fx.L.nil ⟨Fx.ChT.of_below s25.old, ?_⟩
        refine Fx.R.make (by rfl) ?_
        refine Fx.L.app (B := B) (s := 1) (bytes := 8) (k := (m.rn a)) (m := 1) (v := .slice (m.ra a) ((m.rn a)) ((m.rc a))) (x := Fx.rv .u64 (m.rq a)) (by rfl) rfl rfl rfl Try.underlying68 (by kernel_rfl) (by kernel_rfl) rfl rfl m239 m230.cel (ovr_one (fun _ => rfl)) (by omega) (by omega) (by omega) (Nat.le_trans hB b28.size) fun g7 cap2 w19 ho2 hg2 hgv2 hlt2 => ?_
        have hct8 := Fx.ChT.of_grown hg2 m239
        have m241 := m231.chT hct8 (by decide)
        have m242 := m232.chT hct8 (by decide)
        have m244 := m235.chT hct8 (by decide)
        have m246 := m237.chT hct8 (by decide)
        have m247 := m238.chT hct8 (by decide)
        have m240 : Fx.Own w19 B 27 1 (.slice (some ⟨g7, 0, none⟩) ((m.rn a) + 1) cap2) ((m.rn a) + 1) (Fx.rv .u64 (updA (m.rq a) (m.rn a) v.req)) := (ho2.congr (fun j hj => req_app j hj))
        have b29 : Below B w w19 := Fx.Below.grow b28 hg2 (Nat.le_trans hB b28.size) (fun q hq => (m239.ge hq).1)
        have m248 : Rqs w19 B 6 { m with ra := updA m.ra a (some ⟨g7, 0, none⟩), rn := updA m.rn a (m.rn a + 1), rc := updA m.rc a cap2, rq := updA m.rq a (updA (m.rq a) (m.rn a) v.req) } := Rqs.app m233 ha rfl rfl rfl rfl m240 hg2 hgv2
        refine Fx.L.nil ⟨hct8, ?_⟩
        refine Fx.R.p (.pointer (some ⟨p, a + 21, none⟩)) (fun v1 => x_index rfl rfl rfl Try.underlying69 (s := 1) (by kernel_rfl) (by omega) (by omega) (by omega)) (Fx.R.eff (by rfl) ?_)
        refine Fx.L.store1 (x := Fx.updV (ldY m) 19 (.slice (some ⟨g5, 0, none⟩) (m.s.gn + 1) (cap1))) (u := .slice (some ⟨g7, 0, none⟩) ((m.rn a) + 1) (cap2)) (by rfl) rfl rfl rfl rfl (by rfl) (by kernel_rfl) m246 (i := a + 21) (by omega) fun w20 m249 s26 z11 => ?_
        have hct9 := Fx.ChT.of_stp s26 m246.ty
        have m250 := m241.chT hct9 (by decide)
        have m251 := m242.chT hct9 (by decide)
        have m253 := m244.chT hct9 (by decide)
        have m255 := m247.chT hct9 (by decide)
        have m257 := m248.chT hct9 (by decide)
        have b30 := s26.below b29 (Nat.le_trans hB b29.size) (by omega)
        refine Fx.L.nil (Fx.R.nil (Fx.seqN (Fx.W.seq (Fx.W.list (Fx.L.v (.int .i64 (0)) (x_assign rfl rfl) (Fx.L.nil (Fx.seqN (Fx.W.ret (⟨.int .i64 (0), Fx.retV1 Try.results122 (by exact rfl), ?_⟩)))))))))
        have eN : regN v = a := by unfold regN; omega
        have ne1 : ¬ 0 ≤ m.core.askedN (regN v) v.req := by rw [eN]; exact of_decide_eq_false c17
        have ne2 : ¬ pathK m.core.t m.core.tn v.node = 0 := fun e => c27 (by rw [show K = 0 from hKp.trans e]; rfl)
        have ew : takesW m.core v = walkR (fun x => takeM x v.o v.amt) (idxT m.core v.node) m.R K := by unfold takesW; rw [show pathK m.core.t m.core.tn v.node = K from hKp.symm]; rfl
        have ee : takesE m.core v = 0 := by unfold takesE; rw [if_neg ne1, if_neg ne2, ew, hRK]
        have ek : k = Fx.down (fun i => gtG v (m.g i)) m.s.gn := Fx.down_eq hk hgt (.inr (fun j2 e => by rw [show j2 = j by omega]; unfold gtG; rw [decide_eq_false c111, decide_eq_false c139, Bool.and_false]; rfl))
        have eW : takesW m.core v = (Rk, 0) := ew.trans hRK
        have m258 : Fx.Own w20 B 88 5 (.slice (some ⟨g5, 0, none⟩) (m.s.gn + 1) (cap1)) (m.s.gn + 1) (Fx.flat 5 fun kq => grY (Fx.insI m.g k (grN v) kq)) := by rw [← insF_gr]; exact m255
        refine ⟨congrArg (fun q => Ending.returned (Value.int .i64 q)) ee.symm, b30, fun _ => ⟨{ m with s := { m.s with ga := some ⟨g5, 0, none⟩, gn := m.s.gn + 1, gc := cap1 }, R := Rk, g := Fx.insI m.g k (grN v), ra := updA m.ra a (some ⟨g7, 0, none⟩), rn := updA m.rn a (m.rn a + 1), rc := updA m.rc a cap2, rq := updA m.rq a (updA (m.rq a) (m.rn a) v.req) }, ?_, ?_⟩⟩
        ·unfold takesC addReq; rw [eW, eN]; rw [show Fx.down (fun i => gtG v (m.core.g i)) m.core.gn = k from ek.symm]; rfl
        ·exact { c := m249.to ((congrArg (fun z => Fx.updV z (a + 21) _) (ldY_grants m _ _ _)).trans (ldY_reqs _ rfl _ _ _)), n := m253, g := m258, tc := m250, t := m251, r := m257, pB := hLp, tB := hLtb, bn := bn, bg := (by show m.s.gn + 1 ≤ 1000000; omega), bt := bt, br := (fun i hi => by show updA m.rn a (m.rn a + 1) i ≤ 1000000; have := brr i hi; have := brr a ha; unfold updA; split <;> omega) }
      ·refine Fx.Qt.v (.bool false) (fun v1 hv1 => x_eqlF rfl rfl rfl c125) (Fx.Qt.v (.bool false) (fun v1 hv1 => x_move rfl rfl) (Fx.Qt.skip (by rfl) rfl (Fx.Qt.skip (by rfl) rfl (Fx.Qt.skip (by rfl) rfl (Fx.Qt.skip (by rfl) rfl (Fx.Qt.skip (by rfl) rfl (Fx.Qt.skip (by rfl) rfl (Fx.Qt.skip (by rfl) rfl (Fx.Qt.skip (by rfl) rfl (Fx.Qt.skip (by rfl) rfl (Fx.Qt.skip (by rfl) rfl (Fx.Qt.skip (by rfl) rfl (Fx.Qt.skip (by rfl) rfl (Fx.Qt.skip (by rfl) rfl (Fx.Qt.v (.bool false) (fun v1 hv1 => x_pickF rfl rfl rfl) (Fx.Qt.v (.bool false) (fun v1 hv1 => x_pickF rfl rfl rfl) (Fx.Qt.v (.bool false) (fun v1 hv1 => x_pickT rfl rfl rfl) (Fx.Qt.nil ?_))))))))))))))))))
       rintro _ ⟨qd, rfl⟩
       obtain ⟨wq4, ewq4⟩ : ∃ v1, v1 = World.drewN w14 qd := ⟨_, rfl⟩
       rw [← ewq4]
       have s27 : Fx.Stp w14.heap.size w14 wq4 := by rw [ewq4]; exact Fx.Stp.of_below (bdrN w14 qd)
       have m259 := m137.stp s27 (Nat.ne_of_lt (m137.lt))
       have m260 := m138.stp s27 (m138.notNew (Nat.le_refl _))
       have m261 := m139.up s27.old
       have m262 := m140.stp s27 (Nat.ne_of_lt (m140.lt))
       have m263 := m141.stp s27 (m141.notNew (Nat.le_refl _))
       have m264 := m142.stp s27 (Nat.ne_of_lt (m142.lt))
       have m265 := m143.stp s27 (Nat.ne_of_lt (m143.lt))
       have m266 := m144.stpB s27 (Nat.ne_of_lt (m144.lt))
       have b31 := s27.below b17 (Nat.le_trans hB b17.size) (Nat.le_trans hB b17.size)
       clear ewq4
       refine Fx.seqN (Fx.W.cond (b := false) rfl (fun h => nomatch h) (fun _ => Fx.W.exit (Fx.seqX (Fx.lpX (Fx.blkX (Fx.seqN (Fx.W.seq ?_)))))))
       -- region 20 draws
       refine Fx.W.reord [0, 1, 2, 3, 5, 4, 6, 7, 8] [0, 0, 0, 0, 4, 0, 4, 0, 3] Fx.Mk Fx.Mk.refl Fx.Mk.trans (certs := [(8, 4, [4]), (8, 6, [6])]) (by kernel_rfl) (by kernel_rfl) (by kernel_rfl) (by kernel_rfl) (by kernel_rfl) fun wt8 hbwt8 hzwt8 => ?_
       have s28 : Fx.Stp wq4.heap.size wq4 wt8 := Fx.Stp.of_below hbwt8
       have m267 := m259.stp s28 (Nat.ne_of_lt (m259.lt))
       have m268 := m260.stp s28 (m260.notNew (Nat.le_refl _))
       have m269 := m261.up s28.old
       have m270 := m262.stp s28 (Nat.ne_of_lt (m262.lt))
       have m271 := m263.stp s28 (m263.notNew (Nat.le_refl _))
       have m272 := m264.stp s28 (Nat.ne_of_lt (m264.lt))
       have m273 := m265.stp s28 (Nat.ne_of_lt (m265.lt))
       have m274 := m266.stpB s28 (Nat.ne_of_lt (m266.lt))
       have b32 := s28.below b31 (Nat.le_trans hB b31.size) (Nat.le_trans hB b31.size)
       refine Fx.R.p (.pointer (some ⟨p, 0, none⟩)) (fun v1 => x_move rfl h5) (Fx.R.p (.pointer (some ⟨p, 0, none⟩)) (fun v1 => x_nil rfl rfl) (Fx.R.p (.pointer (some ⟨p, 0, none⟩)) (fun v1 => x_field rfl rfl Try.underlying71 rfl (s := 20) (by kernel_rfl) rfl rfl) (Fx.R.p (.pointer (some ⟨p, 19, none⟩)) (fun v1 => x_field rfl rfl Try.underlying43 rfl (s := 1) (by kernel_rfl) rfl (by show _ + 19 = _; omega)) (Fx.R.p (.int .i64 ((k : Int))) (fun v1 => x_move rfl h8) (Fx.R.s (.slice (some ⟨g5, 0, none⟩) (m.s.gn + 1) (cap1)) (x_load1 (x := Fx.updV (ldY m) 19 (.slice (some ⟨g5, 0, none⟩) (m.s.gn + 1) (cap1))) rfl rfl (by kernel_rfl) m273.cel (i := 19) (by omega) (by omega) (Fx.updV_eq (by omega))) ?_)))))
       refine Fx.R.s (.agg (Fx.varr 5 (grY (grN v)))) (x_loadA (x := grY (grN v)) (y := grY (grN v)) rfl h7 (by kernel_rfl) (by kernel_rfl) m272.cel (i := 0) (by omega) (by omega) (fun j _ => by rw [Nat.zero_add])) ?_
       refine Fx.R.p (.pointer (some ⟨g5, 5 * k, none⟩)) (fun v1 => x_indexS rfl rfl rfl Try.underlying41 (s := 5) (by kernel_rfl) (by omega) (by omega) (by omega)) (Fx.R.eff (by rfl) ?_)
       refine Fx.L.ownA (x := Fx.flat 5 (Fx.shF (fun kq => grY (m.g kq)) (grY (grN v)) m.s.gn k)) (y := grY (grN v)) (by rfl) rfl rfl rfl rfl (fun j _ => grY_one _ j) (by kernel_rfl) m274 (i := 5 * k) (by omega) fun w21 m275 s29 z12 => ?_
       have hct10 := Fx.ChT.of_stp s29 m274.tyB
       have m276 := m267.chT hct10 (by decide)
       have m277 := m268.chT hct10 (by decide)
       have m278 := m269.chT hct10 (by decide)
       have m279 := m270.chT hct10 (by decide)
       have m280 := m271.chT hct10 (by decide)
       have m281 := m272.stp s29 (by omega)
       have m282 := m273.chT hct10 (by decide)
       have b33 := s29.below b32 (Nat.le_trans hB b32.size) m274.blk.1
       have m283 : Fx.Own w21 B 88 5 (.slice (some ⟨g5, 0, none⟩) (m.s.gn + 1) cap1) (m.s.gn + 1) (Fx.flat 5 (Fx.insF (fun kq => grY (m.g kq)) k (grY (grN v)))) := m275.congr (fun pq hp => (Fx.ovr_flat (k := k) (by omega) pq hp).trans (Fx.flat_cong (fun i hi q _ => Fx.ins_end (by omega) i hi q) pq hp))
       refine Fx.L.nil (Fx.R.nil (Fx.seqN (Fx.W.seq ?_)))
       have m284 : Fx.Own w21 B 27 1 (.slice (m.ra a) ((m.rn a)) ((m.rc a))) (m.rn a) (Fx.rv .u64 (m.rq a)) := m278.1 a ha
       have bra := hL.br a ha
       -- region 21 draws
       refine Fx.W.reord [0, 1, 4, 5, 8, 9, 12, 16, 17, 2, 3, 6, 7, 10, 11, 13, 14, 15, 18, 19] [0, 0, 1, 0, 0, 0, 1, 0, 0, 0, 0, 1, 0, 4, 2, 2, 0, 0, 0, 3] (Fx.ChT [27]) Fx.ChT.refl Fx.ChT.trans (certs := [(19, 2, [2]), (19, 6, [6]), (19, 11, [11]), (14, 13, [13]), (15, 13, [14, 13]), (19, 13, [13]), (15, 14, [14]), (18, 14, [14]), (19, 14, [14]), (18, 15, [15]), (19, 15, [15])]) (by kernel_rfl) (by kernel_rfl) (by kernel_rfl) (by kernel_rfl) (by kernel_rfl) fun wt9 hbwt9 hzwt9 => ?_
       have s30 : Fx.Stp w21.heap.size w21 wt9 := Fx.Stp.of_below hbwt9
       have m285 := m276.stp s30 (Nat.ne_of_lt (m276.lt))
       have m286 := m277.stp s30 (m277.notNew (Nat.le_refl _))
       have m287 := m278.up s30.old
       have m288 := m279.stp s30 (Nat.ne_of_lt (m279.lt))
       have m289 := m280.stp s30 (m280.notNew (Nat.le_refl _))
       have m290 := m281.stp s30 (Nat.ne_of_lt (m281.lt))
       have m291 := m282.stp s30 (Nat.ne_of_lt (m282.lt))
       have m292 := m283.stpB s30 (Nat.ne_of_lt (m283.lt))
       have m293 := m284.stp s30 (m284.notNew (Nat.le_refl _))
       have b34 := s30.below b33 (Nat.le_trans hB b33.size) (Nat.le_trans hB b33.size)
       refine Fx.R.p (.pointer (some ⟨p, 0, none⟩)) (fun v1 => x_move rfl h5) (Fx.R.p (.pointer (some ⟨g1, 0, none⟩)) (fun v1 => x_field rfl h6 Try.underlying54 rfl (s := 1) (by kernel_rfl) rfl rfl) (Fx.R.p (.pointer (some ⟨p, 0, none⟩)) (fun v1 => x_move rfl h5) (Fx.R.p (.pointer (some ⟨g1, 0, none⟩)) (fun v1 => x_field rfl h6 Try.underlying54 rfl (s := 1) (by kernel_rfl) rfl rfl) (Fx.R.p (.pointer (some ⟨p, 0, none⟩)) (fun v1 => x_nil rfl rfl) (Fx.R.p (.pointer (some ⟨p, 21, none⟩)) (fun v1 => x_field rfl rfl Try.underlying71 rfl (s := 6) (by kernel_rfl) rfl (by show _ + 21 = _; omega)) (Fx.R.p (.pointer (some ⟨g1, 12, none⟩)) (fun v1 => x_field rfl h6 Try.underlying54 rfl (s := 1) (by kernel_rfl) rfl (by show _ + 12 = _; omega)) (Fx.R.p (.pointer (some ⟨p, 0, none⟩)) (fun v1 => x_nil rfl rfl) (Fx.R.p (.pointer (some ⟨p, 21, none⟩)) (fun v1 => x_field rfl rfl Try.underlying71 rfl (s := 6) (by kernel_rfl) rfl (by show _ + 21 = _; omega)) (Fx.R.read (v := .int .i64 (v.o)) (by rfl) (by rfl) (Fx.ChT.refl _) (fun v1 hv1 => x_load1 (x := evY v) rfl rfl (by kernel_rfl) (m288.chT hv1 (by decide)).cel (i := 0) (by omega) (by omega) rfl) ?_)))))))))
       refine Fx.R.p (.int .i64 ((a : Int))) (fun v1 => Fx.x_sub rfl rfl rfl (Fx.i64e (by omega) (by omega))) (Fx.R.read (v := .int .i64 (v.o)) (by rfl) (by rfl) (Fx.ChT.refl _) (fun v1 hv1 => x_load1 (x := evY v) rfl rfl (by kernel_rfl) (m288.chT hv1 (by decide)).cel (i := 0) (by omega) (by omega) rfl) ?_)
       refine Fx.R.p (.int .i64 ((a : Int))) (fun v1 => Fx.x_sub rfl rfl rfl (Fx.i64e (by omega) (by omega))) (Fx.R.p (.pointer (some ⟨p, a + 21, none⟩)) (fun v1 => x_index rfl rfl rfl Try.underlying69 (s := 1) (by kernel_rfl) (by omega) (by omega) (by omega)) (Fx.R.read (v := .slice (m.ra a) ((m.rn a)) ((m.rc a))) (by rfl) (by rfl) (Fx.ChT.refl _) (fun v1 hv1 => x_load1 (x := Fx.updV (ldY m) 19 (.slice (some ⟨g5, 0, none⟩) (m.s.gn + 1) (cap1))) rfl rfl (by kernel_rfl) (m291.chT hv1 (by decide)).cel (i := a + 21) (by omega) (by omega) (Fx.updV_ne (by omega) (ldY_req _ (by omega)))) ?_))
       refine Fx.R.s (.int .u64 (v.req)) (x_load1 (x := evY v) rfl rfl (by kernel_rfl) m288.cel (i := 12) (by omega) (by omega) rfl) ?_
       refine Fx.R.make (by rfl) ?_
       refine Fx.L.bslice (vs := [(0, .int .u64 (v.req))]) (s := 1) (zc := Fx.rv .u64 (fun _ => 0)) (y := Fx.ovr (fun j => (Fx.rv .u64 (fun _ => 0)) (j % 1)) (0 * 1) 1 (fun _ => .int .u64 (v.req))) (by rfl) rfl rfl Try.underlying68 (by kernel_rfl) (by rfl) (by rfl) (by kernel_rfl) (by rw [Fx.fill_step (off := 0 * 1) (s := 1) (y := fun _ => .int .u64 (v.req)) rfl (Fx.cells_one (by rfl)) (by rfl)]; rfl) rfl fun g8 w22 eg8 m294 s31 z13 => ?_
       have m295 := m285.stp s31 (Nat.ne_of_lt (m285.lt))
       have m296 := m286.stp s31 (m286.notNew (Nat.le_refl _))
       have m297 := m287.up s31.old
       have m299 := m289.stp s31 (m289.notNew (Nat.le_refl _))
       have m301 := m291.stp s31 (Nat.ne_of_lt (m291.lt))
       have m302 := m292.stpB s31 (Nat.ne_of_lt (m292.lt))
       have m303 := m293.stp s31 (m293.notNew (Nat.le_refl _))
       have b35 := s31.below b34 (Nat.le_trans hB b34.size) (Nat.le_trans hB b34.size)
       have lg8 : w.heap.size ≤ g8 := by rw [eg8]; exact b34.size
       have ng8m295 : m.tb ≠ g8 := by rw [eg8]; exact Nat.ne_of_lt (m285.lt)
       have ng8m298 : g1 ≠ g8 := by rw [eg8]; exact Nat.ne_of_lt (m288.lt)
       have ng8m300 : g3 ≠ g8 := by rw [eg8]; exact Nat.ne_of_lt (m290.lt)
       have ng8m301 : p ≠ g8 := by rw [eg8]; exact Nat.ne_of_lt (m291.lt)
       have ng8m302 : g5 ≠ g8 := by rw [eg8]; exact Nat.ne_of_lt (m292.lt)
       have ng8m303 : (.slice (m.ra a) ((m.rn a)) ((m.rc a)) : Value).ownBlock ≠ some g8 := by rw [eg8]; exact m293.notNew (Nat.le_refl _)
       have tg8 : g8 < w22.heap.size := m294.lt
       clear eg8
       refine Fx.L.nil ⟨Fx.ChT.of_below s31.old, ?_⟩
       refine Fx.R.make (by rfl) ?_
       refine Fx.L.app (B := B) (s := 1) (bytes := 8) (k := (m.rn a)) (m := 1) (v := .slice (m.ra a) ((m.rn a)) ((m.rc a))) (x := Fx.rv .u64 (m.rq a)) (by rfl) rfl rfl rfl Try.underlying68 (by kernel_rfl) (by kernel_rfl) rfl rfl m303 m294.cel (ovr_one (fun _ => rfl)) (by omega) (by omega) (by omega) (Nat.le_trans hB b35.size) fun g9 cap3 w23 ho3 hg3 hgv3 hlt3 => ?_
       have hct11 := Fx.ChT.of_grown hg3 m303
       have m305 := m295.chT hct11 (by decide)
       have m306 := m296.chT hct11 (by decide)
       have m308 := m299.chT hct11 (by decide)
       have m310 := m301.chT hct11 (by decide)
       have m311 := m302.chT hct11 (by decide)
       have m304 : Fx.Own w23 B 27 1 (.slice (some ⟨g9, 0, none⟩) ((m.rn a) + 1) cap3) ((m.rn a) + 1) (Fx.rv .u64 (updA (m.rq a) (m.rn a) v.req)) := (ho3.congr (fun j hj => req_app j hj))
       have b36 : Below B w w23 := Fx.Below.grow b35 hg3 (Nat.le_trans hB b35.size) (fun q hq => (m303.ge hq).1)
       have m312 : Rqs w23 B 6 { m with ra := updA m.ra a (some ⟨g9, 0, none⟩), rn := updA m.rn a (m.rn a + 1), rc := updA m.rc a cap3, rq := updA m.rq a (updA (m.rq a) (m.rn a) v.req) } := Rqs.app m297 ha rfl rfl rfl rfl m304 hg3 hgv3
       refine Fx.L.nil ⟨hct11, ?_⟩
       refine Fx.R.p (.pointer (some ⟨p, a + 21, none⟩)) (fun v1 => x_index rfl rfl rfl Try.underlying69 (s := 1) (by kernel_rfl) (by omega) (by omega) (by omega)) (Fx.R.eff (by rfl) ?_)
       refine Fx.L.store1 (x := Fx.updV (ldY m) 19 (.slice (some ⟨g5, 0, none⟩) (m.s.gn + 1) (cap1))) (u := .slice (some ⟨g9, 0, none⟩) ((m.rn a) + 1) (cap3)) (by rfl) rfl rfl rfl rfl (by rfl) (by kernel_rfl) m310 (i := a + 21) (by omega) fun w24 m313 s32 z14 => ?_
       have hct12 := Fx.ChT.of_stp s32 m310.ty
       have m314 := m305.chT hct12 (by decide)
       have m315 := m306.chT hct12 (by decide)
       have m317 := m308.chT hct12 (by decide)
       have m319 := m311.chT hct12 (by decide)
       have m321 := m312.chT hct12 (by decide)
       have b37 := s32.below b36 (Nat.le_trans hB b36.size) (by omega)
       refine Fx.L.nil (Fx.R.nil (Fx.seqN (Fx.W.seq (Fx.W.list (Fx.L.v (.int .i64 (0)) (x_assign rfl rfl) (Fx.L.nil (Fx.seqN (Fx.W.ret (⟨.int .i64 (0), Fx.retV1 Try.results122 (by exact rfl), ?_⟩)))))))))
       have eN : regN v = a := by unfold regN; omega
       have ne1 : ¬ 0 ≤ m.core.askedN (regN v) v.req := by rw [eN]; exact of_decide_eq_false c17
       have ne2 : ¬ pathK m.core.t m.core.tn v.node = 0 := fun e => c27 (by rw [show K = 0 from hKp.trans e]; rfl)
       have ew : takesW m.core v = walkR (fun x => takeM x v.o v.amt) (idxT m.core v.node) m.R K := by unfold takesW; rw [show pathK m.core.t m.core.tn v.node = K from hKp.symm]; rfl
       have ee : takesE m.core v = 0 := by unfold takesE; rw [if_neg ne1, if_neg ne2, ew, hRK]
       have ek : k = Fx.down (fun i => gtG v (m.g i)) m.s.gn := Fx.down_eq hk hgt (.inr (fun j2 e => by rw [show j2 = j by omega]; unfold gtG; rw [decide_eq_false c111, decide_eq_false c125]; rfl))
       have eW : takesW m.core v = (Rk, 0) := ew.trans hRK
       have m322 : Fx.Own w24 B 88 5 (.slice (some ⟨g5, 0, none⟩) (m.s.gn + 1) (cap1)) (m.s.gn + 1) (Fx.flat 5 fun kq => grY (Fx.insI m.g k (grN v) kq)) := by rw [← insF_gr]; exact m319
       refine ⟨congrArg (fun q => Ending.returned (Value.int .i64 q)) ee.symm, b37, fun _ => ⟨{ m with s := { m.s with ga := some ⟨g5, 0, none⟩, gn := m.s.gn + 1, gc := cap1 }, R := Rk, g := Fx.insI m.g k (grN v), ra := updA m.ra a (some ⟨g9, 0, none⟩), rn := updA m.rn a (m.rn a + 1), rc := updA m.rc a cap3, rq := updA m.rq a (updA (m.rq a) (m.rn a) v.req) }, ?_, ?_⟩⟩
       ·unfold takesC addReq; rw [eW, eN]; rw [show Fx.down (fun i => gtG v (m.core.g i)) m.core.gn = k from ek.symm]; rfl
       ·exact { c := m313.to ((congrArg (fun z => Fx.updV z (a + 21) _) (ldY_grants m _ _ _)).trans (ldY_reqs _ rfl _ _ _)), n := m317, g := m322, tc := m314, t := m315, r := m321, pB := hLp, tB := hLtb, bn := bn, bg := (by show m.s.gn + 1 ≤ 1000000; omega), bt := bt, br := (fun i hi => by show updA m.rn a (m.rn a + 1) i ≤ 1000000; have := brr i hi; have := brr a ha; unfold updA; split <;> omega) }
    ·refine Fx.Qt.v (.bool false) (fun v1 hv1 => x_gtrF rfl rfl rfl c97) (Fx.Qt.v (.bool false) (fun v1 hv1 => x_move rfl rfl) (Fx.Qt.skip (by rfl) rfl (Fx.Qt.skip (by rfl) rfl (Fx.Qt.skip (by rfl) rfl (Fx.Qt.skip (by rfl) rfl (Fx.Qt.skip (by rfl) rfl (Fx.Qt.skip (by rfl) rfl (Fx.Qt.skip (by rfl) rfl (Fx.Qt.skip (by rfl) rfl (Fx.Qt.skip (by rfl) rfl (Fx.Qt.skip (by rfl) rfl (Fx.Qt.skip (by rfl) rfl (Fx.Qt.skip (by rfl) rfl (Fx.Qt.skip (by rfl) rfl (Fx.Qt.skip (by rfl) rfl (Fx.Qt.skip (by rfl) rfl (Fx.Qt.skip (by rfl) rfl (Fx.Qt.skip (by rfl) rfl (Fx.Qt.skip (by rfl) rfl (Fx.Qt.skip (by rfl) rfl (Fx.Qt.skip (by rfl) rfl (Fx.Qt.skip (by rfl) rfl (Fx.Qt.skip (by rfl) rfl (Fx.Qt.skip (by rfl) rfl ?_))))))))))))))))))))))))
     refine Fx.Qt.skip (by rfl) rfl (Fx.Qt.skip (by rfl) rfl (Fx.Qt.skip (by rfl) rfl (Fx.Qt.skip (by rfl) rfl (Fx.Qt.skip (by rfl) rfl (Fx.Qt.skip (by rfl) rfl (Fx.Qt.skip (by rfl) rfl (Fx.Qt.skip (by rfl) rfl (Fx.Qt.skip (by rfl) rfl (Fx.Qt.skip (by rfl) rfl (Fx.Qt.skip (by rfl) rfl (Fx.Qt.skip (by rfl) rfl (Fx.Qt.skip (by rfl) rfl (Fx.Qt.skip (by rfl) rfl (Fx.Qt.skip (by rfl) rfl (Fx.Qt.skip (by rfl) rfl (Fx.Qt.skip (by rfl) rfl (Fx.Qt.skip (by rfl) rfl (Fx.Qt.skip (by rfl) rfl (Fx.Qt.skip (by rfl) rfl (Fx.Qt.v (.bool false) (fun v1 hv1 => x_pickF rfl rfl rfl) (Fx.Qt.nil ?_)))))))))))))))))))))
     rintro _ ⟨qd, rfl⟩
     obtain ⟨wq5, ewq5⟩ : ∃ v1, v1 = World.drewN w14 qd := ⟨_, rfl⟩
     rw [← ewq5]
     have s33 : Fx.Stp w14.heap.size w14 wq5 := by rw [ewq5]; exact Fx.Stp.of_below (bdrN w14 qd)
     have m323 := m137.stp s33 (Nat.ne_of_lt (m137.lt))
     have m324 := m138.stp s33 (m138.notNew (Nat.le_refl _))
     have m325 := m139.up s33.old
     have m326 := m140.stp s33 (Nat.ne_of_lt (m140.lt))
     have m327 := m141.stp s33 (m141.notNew (Nat.le_refl _))
     have m328 := m142.stp s33 (Nat.ne_of_lt (m142.lt))
     have m329 := m143.stp s33 (Nat.ne_of_lt (m143.lt))
     have m330 := m144.stpB s33 (Nat.ne_of_lt (m144.lt))
     have b38 := s33.below b17 (Nat.le_trans hB b17.size) (Nat.le_trans hB b17.size)
     clear ewq5
     refine Fx.seqN (Fx.W.cond (b := false) rfl (fun h => nomatch h) (fun _ => Fx.W.exit (Fx.seqX (Fx.lpX (Fx.blkX (Fx.seqN (Fx.W.seq ?_)))))))
     -- region 20 draws
     refine Fx.W.reord [0, 1, 2, 3, 5, 4, 6, 7, 8] [0, 0, 0, 0, 4, 0, 4, 0, 3] Fx.Mk Fx.Mk.refl Fx.Mk.trans (certs := [(8, 4, [4]), (8, 6, [6])]) (by kernel_rfl) (by kernel_rfl) (by kernel_rfl) (by kernel_rfl) (by kernel_rfl) fun wt10 hbwt10 hzwt10 => ?_
     have s34 : Fx.Stp wq5.heap.size wq5 wt10 := Fx.Stp.of_below hbwt10
     have m331 := m323.stp s34 (Nat.ne_of_lt (m323.lt))
     have m332 := m324.stp s34 (m324.notNew (Nat.le_refl _))
     have m333 := m325.up s34.old
     have m334 := m326.stp s34 (Nat.ne_of_lt (m326.lt))
     have m335 := m327.stp s34 (m327.notNew (Nat.le_refl _))
     have m336 := m328.stp s34 (Nat.ne_of_lt (m328.lt))
     have m337 := m329.stp s34 (Nat.ne_of_lt (m329.lt))
     have m338 := m330.stpB s34 (Nat.ne_of_lt (m330.lt))
     have b39 := s34.below b38 (Nat.le_trans hB b38.size) (Nat.le_trans hB b38.size)
     refine Fx.R.p (.pointer (some ⟨p, 0, none⟩)) (fun v1 => x_move rfl h5) (Fx.R.p (.pointer (some ⟨p, 0, none⟩)) (fun v1 => x_nil rfl rfl) (Fx.R.p (.pointer (some ⟨p, 0, none⟩)) (fun v1 => x_field rfl rfl Try.underlying71 rfl (s := 20) (by kernel_rfl) rfl rfl) (Fx.R.p (.pointer (some ⟨p, 19, none⟩)) (fun v1 => x_field rfl rfl Try.underlying43 rfl (s := 1) (by kernel_rfl) rfl (by show _ + 19 = _; omega)) (Fx.R.p (.int .i64 ((k : Int))) (fun v1 => x_move rfl h8) (Fx.R.s (.slice (some ⟨g5, 0, none⟩) (m.s.gn + 1) (cap1)) (x_load1 (x := Fx.updV (ldY m) 19 (.slice (some ⟨g5, 0, none⟩) (m.s.gn + 1) (cap1))) rfl rfl (by kernel_rfl) m337.cel (i := 19) (by omega) (by omega) (Fx.updV_eq (by omega))) ?_)))))
     refine Fx.R.s (.agg (Fx.varr 5 (grY (grN v)))) (x_loadA (x := grY (grN v)) (y := grY (grN v)) rfl h7 (by kernel_rfl) (by kernel_rfl) m336.cel (i := 0) (by omega) (by omega) (fun j _ => by rw [Nat.zero_add])) ?_
     refine Fx.R.p (.pointer (some ⟨g5, 5 * k, none⟩)) (fun v1 => x_indexS rfl rfl rfl Try.underlying41 (s := 5) (by kernel_rfl) (by omega) (by omega) (by omega)) (Fx.R.eff (by rfl) ?_)
     refine Fx.L.ownA (x := Fx.flat 5 (Fx.shF (fun kq => grY (m.g kq)) (grY (grN v)) m.s.gn k)) (y := grY (grN v)) (by rfl) rfl rfl rfl rfl (fun j _ => grY_one _ j) (by kernel_rfl) m338 (i := 5 * k) (by omega) fun w25 m339 s35 z15 => ?_
     have hct13 := Fx.ChT.of_stp s35 m338.tyB
     have m340 := m331.chT hct13 (by decide)
     have m341 := m332.chT hct13 (by decide)
     have m342 := m333.chT hct13 (by decide)
     have m343 := m334.chT hct13 (by decide)
     have m344 := m335.chT hct13 (by decide)
     have m345 := m336.stp s35 (by omega)
     have m346 := m337.chT hct13 (by decide)
     have b40 := s35.below b39 (Nat.le_trans hB b39.size) m338.blk.1
     have m347 : Fx.Own w25 B 88 5 (.slice (some ⟨g5, 0, none⟩) (m.s.gn + 1) cap1) (m.s.gn + 1) (Fx.flat 5 (Fx.insF (fun kq => grY (m.g kq)) k (grY (grN v)))) := m339.congr (fun pq hp => (Fx.ovr_flat (k := k) (by omega) pq hp).trans (Fx.flat_cong (fun i hi q _ => Fx.ins_end (by omega) i hi q) pq hp))
     refine Fx.L.nil (Fx.R.nil (Fx.seqN (Fx.W.seq ?_)))
     have m348 : Fx.Own w25 B 27 1 (.slice (m.ra a) ((m.rn a)) ((m.rc a))) (m.rn a) (Fx.rv .u64 (m.rq a)) := m342.1 a ha
     have bra := hL.br a ha
     -- region 21 draws
     refine Fx.W.reord [0, 1, 4, 5, 8, 9, 12, 16, 17, 2, 3, 6, 7, 10, 11, 13, 14, 15, 18, 19] [0, 0, 1, 0, 0, 0, 1, 0, 0, 0, 0, 1, 0, 4, 2, 2, 0, 0, 0, 3] (Fx.ChT [27]) Fx.ChT.refl Fx.ChT.trans (certs := [(19, 2, [2]), (19, 6, [6]), (19, 11, [11]), (14, 13, [13]), (15, 13, [14, 13]), (19, 13, [13]), (15, 14, [14]), (18, 14, [14]), (19, 14, [14]), (18, 15, [15]), (19, 15, [15])]) (by kernel_rfl) (by kernel_rfl) (by kernel_rfl) (by kernel_rfl) (by kernel_rfl) fun wt11 hbwt11 hzwt11 => ?_
     have s36 : Fx.Stp w25.heap.size w25 wt11 := Fx.Stp.of_below hbwt11
     have m349 := m340.stp s36 (Nat.ne_of_lt (m340.lt))
     have m350 := m341.stp s36 (m341.notNew (Nat.le_refl _))
     have m351 := m342.up s36.old
     have m352 := m343.stp s36 (Nat.ne_of_lt (m343.lt))
     have m353 := m344.stp s36 (m344.notNew (Nat.le_refl _))
     have m354 := m345.stp s36 (Nat.ne_of_lt (m345.lt))
     have m355 := m346.stp s36 (Nat.ne_of_lt (m346.lt))
     have m356 := m347.stpB s36 (Nat.ne_of_lt (m347.lt))
     have m357 := m348.stp s36 (m348.notNew (Nat.le_refl _))
     have b41 := s36.below b40 (Nat.le_trans hB b40.size) (Nat.le_trans hB b40.size)
     refine Fx.R.p (.pointer (some ⟨p, 0, none⟩)) (fun v1 => x_move rfl h5) (Fx.R.p (.pointer (some ⟨g1, 0, none⟩)) (fun v1 => x_field rfl h6 Try.underlying54 rfl (s := 1) (by kernel_rfl) rfl rfl) (Fx.R.p (.pointer (some ⟨p, 0, none⟩)) (fun v1 => x_move rfl h5) (Fx.R.p (.pointer (some ⟨g1, 0, none⟩)) (fun v1 => x_field rfl h6 Try.underlying54 rfl (s := 1) (by kernel_rfl) rfl rfl) (Fx.R.p (.pointer (some ⟨p, 0, none⟩)) (fun v1 => x_nil rfl rfl) (Fx.R.p (.pointer (some ⟨p, 21, none⟩)) (fun v1 => x_field rfl rfl Try.underlying71 rfl (s := 6) (by kernel_rfl) rfl (by show _ + 21 = _; omega)) (Fx.R.p (.pointer (some ⟨g1, 12, none⟩)) (fun v1 => x_field rfl h6 Try.underlying54 rfl (s := 1) (by kernel_rfl) rfl (by show _ + 12 = _; omega)) (Fx.R.p (.pointer (some ⟨p, 0, none⟩)) (fun v1 => x_nil rfl rfl) (Fx.R.p (.pointer (some ⟨p, 21, none⟩)) (fun v1 => x_field rfl rfl Try.underlying71 rfl (s := 6) (by kernel_rfl) rfl (by show _ + 21 = _; omega)) (Fx.R.read (v := .int .i64 (v.o)) (by rfl) (by rfl) (Fx.ChT.refl _) (fun v1 hv1 => x_load1 (x := evY v) rfl rfl (by kernel_rfl) (m352.chT hv1 (by decide)).cel (i := 0) (by omega) (by omega) rfl) ?_)))))))))
     refine Fx.R.p (.int .i64 ((a : Int))) (fun v1 => Fx.x_sub rfl rfl rfl (Fx.i64e (by omega) (by omega))) (Fx.R.read (v := .int .i64 (v.o)) (by rfl) (by rfl) (Fx.ChT.refl _) (fun v1 hv1 => x_load1 (x := evY v) rfl rfl (by kernel_rfl) (m352.chT hv1 (by decide)).cel (i := 0) (by omega) (by omega) rfl) ?_)
     refine Fx.R.p (.int .i64 ((a : Int))) (fun v1 => Fx.x_sub rfl rfl rfl (Fx.i64e (by omega) (by omega))) (Fx.R.p (.pointer (some ⟨p, a + 21, none⟩)) (fun v1 => x_index rfl rfl rfl Try.underlying69 (s := 1) (by kernel_rfl) (by omega) (by omega) (by omega)) (Fx.R.read (v := .slice (m.ra a) ((m.rn a)) ((m.rc a))) (by rfl) (by rfl) (Fx.ChT.refl _) (fun v1 hv1 => x_load1 (x := Fx.updV (ldY m) 19 (.slice (some ⟨g5, 0, none⟩) (m.s.gn + 1) (cap1))) rfl rfl (by kernel_rfl) (m355.chT hv1 (by decide)).cel (i := a + 21) (by omega) (by omega) (Fx.updV_ne (by omega) (ldY_req _ (by omega)))) ?_))
     refine Fx.R.s (.int .u64 (v.req)) (x_load1 (x := evY v) rfl rfl (by kernel_rfl) m352.cel (i := 12) (by omega) (by omega) rfl) ?_
     refine Fx.R.make (by rfl) ?_
     refine Fx.L.bslice (vs := [(0, .int .u64 (v.req))]) (s := 1) (zc := Fx.rv .u64 (fun _ => 0)) (y := Fx.ovr (fun j => (Fx.rv .u64 (fun _ => 0)) (j % 1)) (0 * 1) 1 (fun _ => .int .u64 (v.req))) (by rfl) rfl rfl Try.underlying68 (by kernel_rfl) (by rfl) (by rfl) (by kernel_rfl) (by rw [Fx.fill_step (off := 0 * 1) (s := 1) (y := fun _ => .int .u64 (v.req)) rfl (Fx.cells_one (by rfl)) (by rfl)]; rfl) rfl fun g10 w26 eg10 m358 s37 z16 => ?_
     have m359 := m349.stp s37 (Nat.ne_of_lt (m349.lt))
     have m360 := m350.stp s37 (m350.notNew (Nat.le_refl _))
     have m361 := m351.up s37.old
     have m363 := m353.stp s37 (m353.notNew (Nat.le_refl _))
     have m365 := m355.stp s37 (Nat.ne_of_lt (m355.lt))
     have m366 := m356.stpB s37 (Nat.ne_of_lt (m356.lt))
     have m367 := m357.stp s37 (m357.notNew (Nat.le_refl _))
     have b42 := s37.below b41 (Nat.le_trans hB b41.size) (Nat.le_trans hB b41.size)
     have lg10 : w.heap.size ≤ g10 := by rw [eg10]; exact b41.size
     have ng10m359 : m.tb ≠ g10 := by rw [eg10]; exact Nat.ne_of_lt (m349.lt)
     have ng10m362 : g1 ≠ g10 := by rw [eg10]; exact Nat.ne_of_lt (m352.lt)
     have ng10m364 : g3 ≠ g10 := by rw [eg10]; exact Nat.ne_of_lt (m354.lt)
     have ng10m365 : p ≠ g10 := by rw [eg10]; exact Nat.ne_of_lt (m355.lt)
     have ng10m366 : g5 ≠ g10 := by rw [eg10]; exact Nat.ne_of_lt (m356.lt)
     have ng10m367 : (.slice (m.ra a) ((m.rn a)) ((m.rc a)) : Value).ownBlock ≠ some g10 := by rw [eg10]; exact m357.notNew (Nat.le_refl _)
     have tg10 : g10 < w26.heap.size := m358.lt
     clear eg10
     refine Fx.L.nil ⟨Fx.ChT.of_below s37.old, ?_⟩
     refine Fx.R.make (by rfl) ?_
     refine Fx.L.app (B := B) (s := 1) (bytes := 8) (k := (m.rn a)) (m := 1) (v := .slice (m.ra a) ((m.rn a)) ((m.rc a))) (x := Fx.rv .u64 (m.rq a)) (by rfl) rfl rfl rfl Try.underlying68 (by kernel_rfl) (by kernel_rfl) rfl rfl m367 m358.cel (ovr_one (fun _ => rfl)) (by omega) (by omega) (by omega) (Nat.le_trans hB b42.size) fun g11 cap4 w27 ho4 hg4 hgv4 hlt4 => ?_
     have hct14 := Fx.ChT.of_grown hg4 m367
     have m369 := m359.chT hct14 (by decide)
     have m370 := m360.chT hct14 (by decide)
     have m372 := m363.chT hct14 (by decide)
     have m374 := m365.chT hct14 (by decide)
     have m375 := m366.chT hct14 (by decide)
     have m368 : Fx.Own w27 B 27 1 (.slice (some ⟨g11, 0, none⟩) ((m.rn a) + 1) cap4) ((m.rn a) + 1) (Fx.rv .u64 (updA (m.rq a) (m.rn a) v.req)) := (ho4.congr (fun j hj => req_app j hj))
     have b43 : Below B w w27 := Fx.Below.grow b42 hg4 (Nat.le_trans hB b42.size) (fun q hq => (m367.ge hq).1)
     have m376 : Rqs w27 B 6 { m with ra := updA m.ra a (some ⟨g11, 0, none⟩), rn := updA m.rn a (m.rn a + 1), rc := updA m.rc a cap4, rq := updA m.rq a (updA (m.rq a) (m.rn a) v.req) } := Rqs.app m361 ha rfl rfl rfl rfl m368 hg4 hgv4
     refine Fx.L.nil ⟨hct14, ?_⟩
     refine Fx.R.p (.pointer (some ⟨p, a + 21, none⟩)) (fun v1 => x_index rfl rfl rfl Try.underlying69 (s := 1) (by kernel_rfl) (by omega) (by omega) (by omega)) (Fx.R.eff (by rfl) ?_)
     refine Fx.L.store1 (x := Fx.updV (ldY m) 19 (.slice (some ⟨g5, 0, none⟩) (m.s.gn + 1) (cap1))) (u := .slice (some ⟨g11, 0, none⟩) ((m.rn a) + 1) (cap4)) (by rfl) rfl rfl rfl rfl (by rfl) (by kernel_rfl) m374 (i := a + 21) (by omega) fun w28 m377 s38 z17 => ?_
     have hct15 := Fx.ChT.of_stp s38 m374.ty
     have m378 := m369.chT hct15 (by decide)
     have m379 := m370.chT hct15 (by decide)
     have m381 := m372.chT hct15 (by decide)
     have m383 := m375.chT hct15 (by decide)
     have m385 := m376.chT hct15 (by decide)
     have b44 := s38.below b43 (Nat.le_trans hB b43.size) (by omega)
     refine Fx.L.nil (Fx.R.nil (Fx.seqN (Fx.W.seq (Fx.W.list (Fx.L.v (.int .i64 (0)) (x_assign rfl rfl) (Fx.L.nil (Fx.seqN (Fx.W.ret (⟨.int .i64 (0), Fx.retV1 Try.results122 (by exact rfl), ?_⟩)))))))))
     have eN : regN v = a := by unfold regN; omega
     have ne1 : ¬ 0 ≤ m.core.askedN (regN v) v.req := by rw [eN]; exact of_decide_eq_false c17
     have ne2 : ¬ pathK m.core.t m.core.tn v.node = 0 := fun e => c27 (by rw [show K = 0 from hKp.trans e]; rfl)
     have ew : takesW m.core v = walkR (fun x => takeM x v.o v.amt) (idxT m.core v.node) m.R K := by unfold takesW; rw [show pathK m.core.t m.core.tn v.node = K from hKp.symm]; rfl
     have ee : takesE m.core v = 0 := by unfold takesE; rw [if_neg ne1, if_neg ne2, ew, hRK]
     have ek : k = Fx.down (fun i => gtG v (m.g i)) m.s.gn := Fx.down_eq hk hgt (.inl (by omega))
     have eW : takesW m.core v = (Rk, 0) := ew.trans hRK
     have m386 : Fx.Own w28 B 88 5 (.slice (some ⟨g5, 0, none⟩) (m.s.gn + 1) (cap1)) (m.s.gn + 1) (Fx.flat 5 fun kq => grY (Fx.insI m.g k (grN v) kq)) := by rw [← insF_gr]; exact m383
     refine ⟨congrArg (fun q => Ending.returned (Value.int .i64 q)) ee.symm, b44, fun _ => ⟨{ m with s := { m.s with ga := some ⟨g5, 0, none⟩, gn := m.s.gn + 1, gc := cap1 }, R := Rk, g := Fx.insI m.g k (grN v), ra := updA m.ra a (some ⟨g11, 0, none⟩), rn := updA m.rn a (m.rn a + 1), rc := updA m.rc a cap4, rq := updA m.rq a (updA (m.rq a) (m.rn a) v.req) }, ?_, ?_⟩⟩
     ·unfold takesC addReq; rw [eW, eN]; rw [show Fx.down (fun i => gtG v (m.core.g i)) m.core.gn = k from ek.symm]; rfl
     ·exact { c := m377.to ((congrArg (fun z => Fx.updV z (a + 21) _) (ldY_grants m _ _ _)).trans (ldY_reqs _ rfl _ _ _)), n := m381, g := m386, tc := m378, t := m379, r := m385, pB := hLp, tB := hLtb, bn := bn, bg := (by show m.s.gn + 1 ≤ 1000000; omega), bt := bt, br := (fun i hi => by show updA m.rn a (m.rn a + 1) i ≤ 1000000; have := brr i hi; have := brr a ha; unfold updA; split <;> omega) }
end Go.Proofs.Ytolmkjepieoloaa
