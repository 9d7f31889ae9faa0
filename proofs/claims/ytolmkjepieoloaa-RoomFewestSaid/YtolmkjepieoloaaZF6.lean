/-
  What the proof of the law rests on, part 6: walks of functions, and plain laws; each says its conditions itself.
-/
import Derived.Test.YtolmkjepieoloaaZF5
namespace Go.Proofs.Ytolmkjepieoloaa
open Go.RowKit Rt
namespace Fx
section
variable {P : Program} {f : Nat → Value} {w : World} {o : Oper}
theorem and1 (x : Int) (h0 : 0 ≤ x) (h1 : x ≤ 9223372036854775807) : bits .and .i64 x 1 = x % 2 := by
  obtain ⟨n, rfl⟩ := Int.eq_ofNat_of_zero_le h0
  have e1 : (BitVec.ofInt 64 (n : Int)).toNat = n := by
    rw [BitVec.ofInt_natCast, BitVec.toNat_ofNat]; exact Nat.mod_eq_of_lt (by omega)
  show IntKind.i64.wrap ((BitVec.ofInt 64 (n : Int) &&& BitVec.ofInt 64 1).toNat : Int) = _
  rw [BitVec.toNat_and, e1, show (BitVec.ofInt 64 1).toNat = 1 from rfl, Nat.and_one_is_mod, IntKind.wrap_i64]
  omega
theorem x_and1 {T T' : TypeId} {x y : Operand} {a : Int} (ho : o.op = .binOp .and T x y T') (hx : ev f x = .int .i64 a) (hy : ev f y = .int .i64 1) (h0 : 0 ≤ a) (h1 : a ≤ 9223372036854775807) : Runs P f o w (.int .i64 (a % 2)) := by
  unfold Runs execOp
  simp only [ho, hx, hy]
  have hr : (binOp .and T (.int .i64 a) (.int .i64 1)).run P w = .ok (.int .i64 (a % 2)) w := by
    rw [← and1 a h0 h1]; rfl
  simp only [Sem.run_bind, run_eqGuard_ints, Result.andThen_ok, hr, Sem.run_pure]
end
end Fx
namespace Rt
def bitI (t j : Nat) : Int := (t : Int) / (2 : Int) ^ j
def bitS (t j : Nat) : Bool := decide (bitI t j % 2 = 1)
theorem bitI_bd (t j : Nat) : 0 ≤ bitI t j ∧ bitI t j ≤ (t : Int) := ⟨Int.ediv_nonneg (by omega) (Int.le_of_lt (Int.pow_pos (by decide))), Int.ediv_le_self _ (by omega)⟩
end Rt
set_option maxRecDepth 10000 in
theorem rq_node (s : StM) (id par : Nat → Int) (R : Nat → Nat → Int) (x : Int) (w : World) (hnd : Fx.Arr w s.na s.nn 56 (Fx.flat 56 fun k => ndY (id k) (par k) (R k))) (hnn : s.nn ≤ 1000000) :
    Calls Try.prog 107 #[.agg (Fx.varr 20 (stY s)), .int .u64 (x)] w fun e w' => e = .returned (.int .i64 (firstS id s.nn x)) ∧ Below w.heap.size w w' := by
 refine Fx.enter Try.func107 rfl (n := 22) rfl (by rfl) ?_
 refine Fx.W.seq (Fx.W.list (Fx.L.box (m := 20) (y := stY s) (by rfl) rfl rfl (Fx.cells_agg _ _) rfl fun g1 w1 eg1 m1 s1 z1 => ?_))
 have b1 := s1.below (Below.refl w.heap.size w) (Below.refl w.heap.size w).size (Below.refl w.heap.size w).size
 have lg1 : w.heap.size ≤ g1 := by rw [eg1]; exact (Below.refl w.heap.size w).size
 have tg1 : g1 < w1.heap.size := m1.lt
 clear eg1
 refine Fx.L.v (.int .i64 (0)) (Fx.x_assign rfl rfl) (Fx.L.nil (Fx.seqN (Fx.W.seq (Fx.W.seq (Fx.W.list (Fx.L.v (.int .i64 (0)) (Fx.x_assign rfl rfl) (Fx.L.nil (Fx.seqN (Fx.W.block (Fx.W.loop (fun f w_ => ∃ k : Nat, k ≤ s.nn ∧ (∀ i, i < k → (fun i => decide (id i = x)) i = false) ∧ f 1 = .int .u64 (x) ∧ f 2 = .pointer (some ⟨g1, 0, none⟩) ∧ f 5 = .int .i64 ((k : Int)) ∧ Fx.Blk w_ g1 20 (stY s) 43 ∧ Below w.heap.size w w_) (fun f _ => (s.nn - (intOf (f 5)).toNat)) ⟨0, by omega, (fun i h => absurd h (by omega)), (by first | rfl | exact congrArg (Value.int .u64) (by omega)), (by rfl), (by first | rfl | exact congrArg (Value.int .i64) (by omega)), m1, b1⟩ ?_))))))))))
 rintro f1 w2 ⟨k, hk, hall, h1, h2, h3, m2, b2⟩
 refine Fx.W.seq (Fx.W.seq (Fx.W.list (Fx.L.v (.int .i64 ((k : Int))) (Fx.x_move rfl h3) (Fx.L.v (.pointer (some ⟨g1, 18, none⟩)) (Fx.x_field rfl h2 Try.underlying43 rfl (s := 1) (by kernel_rfl) rfl (by show _ + 18 = _; omega)) (Fx.L.v (.slice s.na (s.nn) (s.nc)) (Fx.x_load1 (x := stY s) rfl rfl (by kernel_rfl) m2.cel (i := 18) (by omega) (by omega) rfl) (Fx.L.v (.int .i64 ((s.nn : Int))) (Fx.x_len rfl rfl rfl (by kernel_rfl)) ?_))))))
 by_cases c10 : (k : Int) < (s.nn : Int)
 ·refine Fx.L.v (.bool true) (Fx.x_lssT rfl rfl rfl c10) (Fx.L.nil (Fx.seqN (Fx.W.cond (b := true) rfl (fun _ => Fx.W.skip (Fx.seqN (Fx.W.seq (Fx.W.block (Fx.W.seq (Fx.W.list (Fx.L.v (.pointer (some ⟨g1, 18, none⟩)) (Fx.x_field rfl h2 Try.underlying43 rfl (s := 1) (by kernel_rfl) rfl (by show _ + 18 = _; omega)) ?_))))))) (fun h => nomatch h))))
  refine Fx.L.v (.slice s.na (s.nn) (s.nc)) (Fx.x_load1 (x := stY s) rfl rfl (by kernel_rfl) m2.cel (i := 18) (by omega) (by omega) rfl) (Fx.L.v (.int .i64 ((k : Int))) (Fx.x_move rfl h3) ?_)
  obtain ⟨bq1, oq1, eq1, m3⟩ := (hnd.up b2 rfl) (by omega)
  have lbq1 : bq1 < w2.heap.size := m3.lt (by omega)
  refine Fx.L.v (.pointer (some ⟨bq1, 56 * k + oq1, none⟩)) (Fx.x_indexS rfl (rfl.trans (congrArg (fun q => Value.slice q (s.nn) (s.nc)) eq1)) rfl Try.underlying40 (s := 56) (by kernel_rfl) (by omega) (by omega) (by omega)) (Fx.L.v (.pointer (some ⟨bq1, 56 * k + oq1, none⟩)) (Fx.x_field rfl rfl Try.underlying50 rfl (s := 1) (by kernel_rfl) rfl rfl) (Fx.L.v (.int .u64 (id k)) (Fx.x_load1 (x := Fx.flat 56 (fun kq => ndY (id kq) (par kq) (R kq))) rfl rfl (by kernel_rfl) m3 (i := 56 * k) (by omega) (by omega) (Fx.flat_cell (k := k) (j := 0) (by omega) (by omega) rfl)) (Fx.L.v (.int .u64 (x)) (Fx.x_move rfl h1) ?_)))
  by_cases c20 : (id k) = x
  ·refine Fx.L.v (.bool true) (Fx.x_eqlT rfl rfl rfl c20) (Fx.L.nil (Fx.seqN (Fx.W.cond (b := true) rfl (fun _ => Fx.W.seq (Fx.W.list (Fx.L.v (.int .i64 ((k : Int))) (Fx.x_move rfl h3) ?_))) (fun h => nomatch h))))
   refine Fx.L.v (.int .i64 ((k : Int))) (Fx.x_assign rfl rfl) (Fx.L.nil (Fx.seqN (Fx.W.ret (Fx.blkR (Fx.seqR (Fx.lpR (Fx.blkR (Fx.seqR (⟨.int .i64 ((k : Int)), Fx.retV1 Try.results107 (by exact rfl), ?_⟩)))))))))
   exact ⟨congrArg (fun q => Ending.returned (Value.int .i64 q)) (Eq.symm (firstI_hit hall (decide_eq_true c20) (by omega))), b2⟩
  ·refine Fx.L.v (.bool false) (Fx.x_eqlF rfl rfl rfl c20) (Fx.L.nil (Fx.seqN (Fx.W.cond (b := false) rfl (fun h => nomatch h) (fun _ => Fx.W.skip (Fx.blkN (Fx.seqN (Fx.W.list (Fx.L.v (.int .i64 ((k : Int))) (Fx.x_move rfl h3) (Fx.L.v (.int .i64 ((k : Int) + 1)) (Fx.x_add rfl rfl rfl (Fx.i64e (by omega) (by omega))) (Fx.L.v (.int .i64 ((k : Int) + 1)) (Fx.x_assign rfl rfl) (Fx.L.nil (Fx.lpN ⟨k + 1, by omega, (none_step hall (decide_eq_false c20)), (h1.trans (by first | rfl | exact congrArg (Value.int .u64) (by omega))), h2, (by first | rfl | exact congrArg (Value.int .i64) (by omega)), m2, b2⟩ ?_))))))))))))
   show (s.nn - (intOf ((.int .i64 ((k : Int) + 1)))).toNat) < _
   simp only [h3, intOf]; omega
 ·refine Fx.L.v (.bool false) (Fx.x_lssF rfl rfl rfl c10) (Fx.L.nil (Fx.seqN (Fx.W.cond (b := false) rfl (fun h => nomatch h) (fun _ => Fx.W.exit (Fx.seqX (Fx.lpX (Fx.blkX (Fx.seqN (Fx.W.seq (Fx.W.list (Fx.L.v (.int .i64 (-1)) (Fx.x_assign rfl rfl) (Fx.L.nil (Fx.seqN (Fx.W.ret (⟨.int .i64 (-1), Fx.retV1 Try.results107 (by exact rfl), ?_⟩)))))))))))))))
  exact ⟨congrArg (fun q => Ending.returned (Value.int .i64 q)) (Eq.symm (firstI_none (fun i hi => hall i (by omega)))), b2⟩
set_option maxRecDepth 10000 in
theorem rq_path (s : StM) (id par : Nat → Int) (R : Nat → Nat → Int) (x : Int) (w : World) (hnd : Fx.Arr w s.na s.nn 56 (Fx.flat 56 fun k => ndY (id k) (par k) (R k))) (hnn : s.nn ≤ 1000000) :
    Calls Try.prog 61 #[.agg (Fx.varr 20 (stY s)), .int .u64 (x)] w fun e w' => ∃ v n, e = .returned v ∧ n = pathS id par s.nn x ∧ Fx.Own w' w.heap.size 27 1 v n (ptU id par s.nn x) ∧ Below w.heap.size w w' := by
 refine Fx.enter Try.func61 rfl (n := 28) rfl (by rfl) ?_
 refine Fx.W.seq (Fx.W.list (Fx.L.box (m := 20) (y := stY s) (by rfl) rfl rfl (Fx.cells_agg _ _) rfl fun g1 w1 eg1 m1 s1 z1 => ?_))
 have b1 := s1.below (Below.refl w.heap.size w) (Below.refl w.heap.size w).size (Below.refl w.heap.size w).size
 have lg1 : w.heap.size ≤ g1 := by rw [eg1]; exact (Below.refl w.heap.size w).size
 have tg1 : g1 < w1.heap.size := m1.lt
 clear eg1
 refine Fx.L.v (.slice none 0 0) (Fx.x_assign rfl rfl) (Fx.L.nil (Fx.seqN (Fx.W.seq (Fx.W.list (Fx.L.v (.slice none 0 0) (Fx.x_assign rfl rfl) (Fx.L.nil (Fx.seqN (Fx.W.seq (Fx.W.block ?_)))))))))
 have m2 : Fx.Own w1 w.heap.size 27 1 (.slice none 0 0) 0 (ptU id par s.nn x) := Fx.Own.nil _ _ _ _ _
 refine Fx.W.loop (fun f w_ => ∃ k : Nat, ∃ a : Option Addr, ∃ cap : Nat, k ≤ 32 ∧ (∀ i, i < k → 0 ≤ firstS id s.nn (iterS id par s.nn i x)) ∧ f 1 = .int .u64 (iterS id par s.nn k x) ∧ f 2 = .pointer (some ⟨g1, 0, none⟩) ∧ f 5 = .slice a (k) (cap) ∧ Fx.Blk w_ g1 20 (stY s) 43 ∧ Fx.Own w_ w.heap.size 27 1 (.slice a (k) (cap)) k (ptU id par s.nn x) ∧ Below w.heap.size w w_) (fun f _ => (32 - lenV (f 5))) ⟨0, none, 0, by omega, (fun i h => absurd h (by omega)), (by first | rfl | exact congrArg (Value.int .u64) (by omega)), (by rfl), (by rfl), m1, m2, b1⟩ ?_
 rintro f1 w2 ⟨k, a, cap, hk, hall, h1, h2, h3, m3, m4, b2⟩
 refine Fx.W.seq (Fx.W.seq (Fx.W.list (Fx.L.v (.agg (Fx.varr 20 (stY s))) (Fx.x_loadA (x := stY s) (y := stY s) rfl h2 (by kernel_rfl) (by kernel_rfl) m3.cel (i := 0) (by omega) (by omega) (fun j _ => by rw [Nat.zero_add])) (Fx.L.v (.int .u64 (iterS id par s.nn k x)) (Fx.x_move rfl h1) (Fx.L.call (by rfl) (Fx.r_call (args := [.agg (Fx.varr 20 (stY s)), .int .u64 (iterS id par s.nn k x)]) rfl rfl Try.func107 rfl rfl) rfl ((rq_node s id par R (iterS id par s.nn k x) _ (hnd.up b2 rfl) hnn).mono ?_))))))
 rintro e w3 ⟨he, hb1⟩
 refine ⟨.int .i64 (firstS id s.nn (iterS id par s.nn k x)), by rw [he], ?_⟩
 clear he
 have s2 := Fx.Stp.of_below hb1
 have m5 := m3.stp s2 (Nat.ne_of_lt (m3.lt))
 have m6 := m4.stp s2 (m4.notNew (Nat.le_refl _))
 have b3 := s2.below b2 b2.size b2.size
 by_cases c9 : 0 ≤ (firstS id s.nn (iterS id par s.nn k x))
 ·refine Fx.L.v (.bool true) (Fx.x_geqT rfl rfl rfl c9) (Fx.L.v (.bool true) (Fx.x_move rfl rfl) (Fx.L.v (.slice a (k) (cap)) (Fx.x_move rfl h3) (Fx.L.v (.int .i64 ((k : Int))) (Fx.x_len rfl rfl rfl (by kernel_rfl)) ?_)))
  by_cases c13 : (k : Int) < 32
  ·refine Fx.L.v (.bool true) (Fx.x_lssT rfl rfl rfl c13) (Fx.L.v (.bool true) (Fx.x_pickT rfl rfl rfl) (Fx.L.nil (Fx.seqN (Fx.W.cond (b := true) rfl (fun _ => Fx.W.skip (Fx.seqN (Fx.W.block (Fx.W.seq (Fx.W.list (Fx.L.v (.slice a (k) (cap)) (Fx.x_move rfl h3) ?_)))))) (fun h => nomatch h)))))
   refine Fx.L.v (.int .u64 (iterS id par s.nn k x)) (Fx.x_move rfl h1) (Fx.L.bslice (vs := [(0, .int .u64 (iterS id par s.nn k x))]) (s := 1) (zc := Fx.rv .u64 (fun _ => 0)) (y := Fx.ovr (fun j => (Fx.rv .u64 (fun _ => 0)) (j % 1)) (0 * 1) 1 (fun _ => .int .u64 (iterS id par s.nn k x))) (by rfl) rfl rfl Try.underlying68 (by kernel_rfl) (by rfl) (by rfl) (by kernel_rfl) (by rw [Fx.fill_step (off := 0 * 1) (s := 1) (y := fun _ => .int .u64 (iterS id par s.nn k x)) rfl (Fx.cells_one (by rfl)) (by rfl)]; rfl) rfl fun g2 w4 eg2 m7 s3 z2 => ?_)
   have m8 := m5.stp s3 (Nat.ne_of_lt (m5.lt))
   have m9 := m6.stp s3 (m6.notNew (Nat.le_refl _))
   have b4 := s3.below b3 b3.size b3.size
   have lg2 : w.heap.size ≤ g2 := by rw [eg2]; exact b3.size
   have ng2m8 : g1 ≠ g2 := by rw [eg2]; exact Nat.ne_of_lt (m5.lt)
   have ng2m9 : (.slice a (k) (cap) : Value).ownBlock ≠ some g2 := by rw [eg2]; exact m6.notNew (Nat.le_refl _)
   have tg2 : g2 < w4.heap.size := m7.lt
   clear eg2
   refine Fx.L.app (B := w.heap.size) (s := 1) (bytes := 8) (k := k) (m := 1) (v := .slice a (k) (cap)) (x := ptU id par s.nn x) (by rfl) rfl rfl rfl Try.underlying68 (by kernel_rfl) (by kernel_rfl) rfl rfl m9 m7.cel (ovr_one (fun _ => rfl)) (by omega) (by omega) (by omega) b4.size fun g3 cap1 w5 ho1 hg1 hgv1 hlt1 => ?_
   have hct1 := Fx.ChT.of_grown hg1 m9
   have m11 := m8.chT hct1 (by decide)
   have m10 : Fx.Own w5 w.heap.size 27 1 (.slice (some ⟨g3, 0, none⟩) (k + 1) cap1) (k + 1) (ptU id par s.nn x) := (ho1.congr (fun j hj => pu_app j hj))
   have b5 : Below w.heap.size w w5 := Fx.Below.grow b4 hg1 b4.size (fun q hq => (m9.ge hq).1)
   refine Fx.L.v (.slice (some ⟨g3, 0, none⟩) (k + 1) (cap1)) (Fx.x_assign rfl rfl) (Fx.L.nil (Fx.seqN ?_))
   obtain ⟨jn, hjn, ejn, _⟩ := first_ge c9
   have ei : iterS id par s.nn (k + 1) x = par jn := by show par (firstS id s.nn (iterS id par s.nn k x)).toNat = _; rw [ejn]; rfl
   -- region 4 draws
   refine Fx.W.quiet (fun v1 => Below w5.heap.size w5 v1) (by kernel_rfl) (by kernel_rfl) (Below.refl _ _).drew ?_
   refine Fx.Qt.v (.pointer (some ⟨g1, 18, none⟩)) (fun v1 hv1 => Fx.x_field rfl h2 Try.underlying43 rfl (s := 1) (by kernel_rfl) rfl (by show _ + 18 = _; omega)) (Fx.Qt.v (.slice s.na (s.nn) (s.nc)) (fun v1 hv1 => Fx.x_load1 (x := stY s) rfl rfl (by kernel_rfl) (m11.cel.below hv1 (by have := m11.lt; omega)) (i := 18) (by omega) (by omega) rfl) (Fx.Qt.v (.agg (Fx.varr 20 (stY s))) (fun v1 hv1 => Fx.x_loadA (x := stY s) (y := stY s) rfl h2 (by kernel_rfl) (by kernel_rfl) (m11.cel.below hv1 (by have := m11.lt; omega)) (i := 0) (by omega) (by omega) (fun j _ => by rw [Nat.zero_add])) (Fx.Qt.v (.int .u64 (iterS id par s.nn k x)) (fun v1 hv1 => Fx.x_move rfl h1) (Fx.Qt.call (v := .int .i64 ((jn : Int))) (by rfl) (fun v1 hv1 => Fx.r_call (args := [.agg (Fx.varr 20 (stY s)), .int .u64 (iterS id par s.nn k x)]) rfl rfl Try.func107 rfl rfl) rfl (fun v1 hv1 => ((rq_node s id par R (iterS id par s.nn k x) _ (hnd.up (bchB b5 hv1 b5.size) rfl) hnn).mono (fun e w2 h2 => (⟨h2.1.trans (congrArg (fun q => Ending.returned (Value.int .i64 q)) ejn), h2.2⟩ : e = .returned (.int .i64 ((jn : Int))) ∧ _))).mono fun e v2 h => ⟨h.1, bch hv1 h.2⟩) ?_))))
   obtain ⟨bq1, oq1, eq1, m12⟩ := (hnd.up b5 rfl) (by omega)
   have lbq1 : bq1 < w5.heap.size := m12.lt (by omega)
   refine Fx.Qt.v (.pointer (some ⟨bq1, 56 * jn + oq1, none⟩)) (fun v1 hv1 => Fx.x_indexS rfl (rfl.trans (congrArg (fun q => Value.slice q (s.nn) (s.nc)) eq1)) rfl Try.underlying40 (s := 56) (by kernel_rfl) (by omega) (by omega) (by omega)) (Fx.Qt.v (.pointer (some ⟨bq1, 56 * jn + oq1 + 1, none⟩)) (fun v1 hv1 => Fx.x_field rfl rfl Try.underlying50 rfl (s := 1) (by kernel_rfl) rfl (by show _ + 1 = _; omega)) (Fx.Qt.v (.int .u64 (par jn)) (fun v1 hv1 => Fx.x_load1 (x := Fx.flat 56 (fun kq => ndY (id kq) (par kq) (R kq))) rfl rfl (by kernel_rfl) (m12.below hv1 (m12.lt (by omega))) (i := 56 * jn + 1) (by omega) (by omega) (Fx.flat_cell (k := jn) (j := 1) (by omega) (by omega) rfl)) (Fx.Qt.v (.int .u64 (par jn)) (fun v1 hv1 => Fx.x_assign rfl rfl) (Fx.Qt.nil ?_))))
   intro wb1 hbwb1
   have s4 : Fx.Stp w5.heap.size w5 wb1 := Fx.Stp.of_below hbwb1
   have m13 := m11.stp s4 (Nat.ne_of_lt (m11.lt))
   have m14 := m10.stpB s4 (Nat.ne_of_lt (m10.lt))
   have b6 := s4.below b5 b5.size b5.size
   refine Fx.blkN ?_
   skip
   refine Fx.lpN ⟨k + 1, (some ⟨g3, 0, none⟩), cap1, by omega, (path_step hall c9), (by first | rfl | exact congrArg (Value.int .u64) (by omega)), h2, (by rfl), m13, m14, b6⟩ ?_
   show (32 - lenV ((.slice (some ⟨g3, 0, none⟩) (k + 1) (cap1)))) < _
   simp only [h3, intOf, lenV]; omega
  ·refine Fx.L.v (.bool false) (Fx.x_lssF rfl rfl rfl c13) (Fx.L.v (.bool false) (Fx.x_pickT rfl rfl rfl) (Fx.L.nil (Fx.seqN (Fx.W.cond (b := false) rfl (fun h => nomatch h) (fun _ => Fx.W.exit (Fx.seqX (Fx.lpX (Fx.blkX (Fx.seqN (Fx.W.seq (Fx.W.list (Fx.L.v (.slice a (k) (cap)) (Fx.x_move rfl h3) (Fx.L.v (.slice a (k) (cap)) (Fx.x_assign rfl rfl) (Fx.L.nil (Fx.seqN (Fx.W.ret (⟨.slice a (k) (cap), Fx.retV1 Try.results61 (by exact rfl), ?_⟩)))))))))))))))))
   obtain rfl : k = 32 := by omega
   have hpe : 32 = pathS id par s.nn x := path_all hall
   exact ⟨_, _, rfl, hpe, m6, b3⟩
 ·refine Fx.L.v (.bool false) (Fx.x_geqF rfl rfl rfl c9) (Fx.L.v (.bool false) (Fx.x_move rfl rfl) (Fx.L.skip (by rfl) rfl (Fx.L.skip (by rfl) rfl (Fx.L.skip (by rfl) rfl (Fx.L.v (.bool false) (Fx.x_pickF rfl rfl rfl) (Fx.L.nil (Fx.seqN (Fx.W.cond (b := false) rfl (fun h => nomatch h) (fun _ => Fx.W.exit (Fx.seqX (Fx.lpX (Fx.blkX (Fx.seqN (Fx.W.seq (Fx.W.list (Fx.L.v (.slice a (k) (cap)) (Fx.x_move rfl h3) (Fx.L.v (.slice a (k) (cap)) (Fx.x_assign rfl rfl) (Fx.L.nil (Fx.seqN (Fx.W.ret (⟨.slice a (k) (cap), Fx.retV1 Try.results61 (by exact rfl), ?_⟩)))))))))))))))))))))
  have hpe : k = pathS id par s.nn x := path_end hall (by omega) hk
  exact ⟨_, _, rfl, hpe, m6, b3⟩
end Go.Proofs.Ytolmkjepieoloaa
namespace Go.Proofs.Ytolmkjepieoloaa
open Go.RowKit Rt
open Fx (x_move x_assign x_field x_load1 x_pickF x_pickT x_nil x_conv x_indexS x_index x_leqF x_loadA x_len x_gtrF x_build x_eqlF x_eqlT)
def Rt.SetOk (s : StM) (a t : Nat) : Prop := ∀ q, q < 6 → bitS t q = true → q = a ∨ isLive s q = true
set_option maxRecDepth 10000 in
theorem rq_of (s : StM) (id par : Nat → Int) (R : Nat → Nat → Int) (x : Int) (w : World) (hnd : Fx.Arr w s.na s.nn 56 (Fx.flat 56 fun k => ndY (id k) (par k) (R k))) (hnn : s.nn ≤ 1000000) (hf : 0 ≤ firstS id s.nn x) :
    Calls Try.prog 62 #[.agg (Fx.varr 20 (stY s)), .int .u64 (x)] w fun e w' => e = .returned (.tuple #[.agg (Fx.varr 8 (quN (R (firstS id s.nn x).toNat) 6)), .int .i64 (0)]) ∧ Below w.heap.size w w' := by
 refine Fx.enter Try.func62 rfl (n := 44) rfl (by rfl) ?_
 refine Fx.W.seq (Fx.W.list (Fx.L.box (m := 20) (y := stY s) (by rfl) rfl rfl (Fx.cells_agg _ _) rfl fun g1 w1 eg1 m1 s1 z1 => ?_))
 have b1 := s1.below (Below.refl w.heap.size w) (Below.refl w.heap.size w).size (Below.refl w.heap.size w).size
 have lg1 : w.heap.size ≤ g1 := by rw [eg1]; exact (Below.refl w.heap.size w).size
 have tg1 : g1 < w1.heap.size := m1.lt
 clear eg1
 refine Fx.L.new (m := 8) (y := Fx.rv .i64 (fun _ => 0)) (by rfl) rfl (by kernel_rfl) rfl fun g2 w2 eg2 m2 s2 z2 => ?_
 have m3 := m1.stp s2 (Nat.ne_of_lt (m1.lt))
 have b2 := s2.below b1 b1.size b1.size
 have lg2 : w.heap.size ≤ g2 := by rw [eg2]; exact b1.size
 have ng2m3 : g1 ≠ g2 := by rw [eg2]; exact Nat.ne_of_lt (m1.lt)
 have tg2 : g2 < w2.heap.size := m2.lt
 clear eg2
 refine Fx.L.v (.int .i64 (0)) (x_assign rfl rfl) (Fx.L.nil (Fx.seqN (Fx.W.seq (Fx.W.list (Fx.L.v (.agg (Fx.varr 20 (stY s))) (x_loadA (x := stY s) (y := stY s) rfl rfl (by kernel_rfl) (by kernel_rfl) m3.cel (i := 0) (by omega) (by omega) (fun j _ => by rw [Nat.zero_add])) (Fx.L.v (.int .u64 (x)) (x_move rfl rfl) (Fx.L.call (by rfl) (Fx.r_call (args := [.agg (Fx.varr 20 (stY s)), .int .u64 (x)]) rfl rfl Try.func107 rfl rfl) rfl ((rq_node s id par R x _ (hnd.up b2 rfl) hnn).mono ?_))))))))
 rintro e w3 ⟨he, hb1⟩
 refine ⟨.int .i64 (firstS id s.nn x), by rw [he], ?_⟩
 clear he
 have s3 := Fx.Stp.of_below hb1
 have m4 := m3.stp s3 (Nat.ne_of_lt (m3.lt))
 have m5 := m2.stp s3 (Nat.ne_of_lt (m2.lt))
 have b3 := s3.below b2 b2.size b2.size
 refine Fx.L.v (.int .i64 (firstS id s.nn x)) (x_assign rfl rfl) (Fx.L.nil (Fx.seqN (Fx.W.seq (Fx.W.seq (Fx.W.list (Fx.L.v (.int .i64 (firstS id s.nn x)) (x_move rfl rfl) (Fx.L.v (.bool false) (Fx.x_lssF rfl rfl rfl (by omega)) (Fx.L.nil (Fx.seqN (Fx.W.cond (b := false) rfl (fun h => nomatch h) (fun _ => Fx.W.skip (Fx.seqN (Fx.W.seq ?_)))))))))))))
 obtain ⟨j, hj, ej, _⟩ := first_ge hf
 refine Fx.W.list (Fx.L.new (m := 8) (y := Fx.rv .i64 (fun _ => 0)) (by rfl) rfl (by kernel_rfl) rfl fun g3 w4 eg3 m6 s4 z3 => ?_)
 have m7 := m4.stp s4 (Nat.ne_of_lt (m4.lt))
 have m8 := m5.stp s4 (Nat.ne_of_lt (m5.lt))
 have b4 := s4.below b3 b3.size b3.size
 have lg3 : w.heap.size ≤ g3 := by rw [eg3]; exact b3.size
 have ng3m7 : g1 ≠ g3 := by rw [eg3]; exact Nat.ne_of_lt (m4.lt)
 have ng3m8 : g2 ≠ g3 := by rw [eg3]; exact Nat.ne_of_lt (m5.lt)
 have tg3 : g3 < w4.heap.size := m6.lt
 clear eg3
 refine Fx.L.nil (Fx.seqN (Fx.W.seq (Fx.W.list (Fx.L.v (.pointer (some ⟨g1, 18, none⟩)) (x_field rfl rfl Try.underlying43 rfl (s := 1) (by kernel_rfl) rfl (by show _ + 18 = _; omega)) (Fx.L.v (.slice s.na (s.nn) (s.nc)) (x_load1 (x := stY s) rfl rfl (by kernel_rfl) m7.cel (i := 18) (by omega) (by omega) rfl) (Fx.L.v (.int .i64 ((j : Int))) (x_move rfl (rfl.trans (congrArg (Value.int .i64) ej))) ?_))))))
 obtain ⟨bq1, oq1, eq1, m9⟩ := (hnd.up b4 rfl) (by omega)
 have lbq1 : bq1 < w4.heap.size := m9.lt (by omega)
 refine Fx.L.v (.pointer (some ⟨bq1, 56 * j + oq1, none⟩)) (x_indexS rfl (rfl.trans (congrArg (fun q => Value.slice q (s.nn) (s.nc)) eq1)) rfl Try.underlying40 (s := 56) (by kernel_rfl) (by omega) (by omega) (by omega)) (Fx.L.v (.pointer (some ⟨bq1, 56 * j + oq1 + 2, none⟩)) (x_field rfl rfl Try.underlying50 rfl (s := 54) (by kernel_rfl) rfl (by show _ + 2 = _; omega)) (Fx.L.v (.agg (Fx.varr 54 (Fx.rv .i64 (R j)))) (x_loadA (x := Fx.flat 56 (fun kq => ndY (id kq) (par kq) (R kq))) (y := Fx.rv .i64 (R j)) rfl rfl (by kernel_rfl) (by kernel_rfl) m9 (i := 56 * j + 2) (by omega) (by omega) (fun jq hjq => (Fx.flat_at (k := j) (j := 2 + jq) (by omega) (by omega)).trans ((fun jq _ => ndY_row _ _ _ jq) jq hjq))) (Fx.L.call (by rfl) (Fx.r_call (args := [.agg (Fx.varr 54 (Fx.rv .i64 (R j)))]) rfl rfl Try.func51 rfl rfl) rfl ((f7_sums (R j) _).mono ?_))))
 rintro e w5 ⟨he, hb2⟩
 refine ⟨.tuple #[.int .i64 ((sums (R j)).1), .int .i64 ((sums (R j)).2)], by rw [he], ?_⟩
 clear he
 have s5 := Fx.Stp.of_below hb2
 have m10 := m7.stp s5 (Nat.ne_of_lt (m7.lt))
 have m11 := m8.stp s5 (Nat.ne_of_lt (m8.lt))
 have m12 := m6.stp s5 (Nat.ne_of_lt (m6.lt))
 have b5 := s5.below b4 b4.size b4.size
 refine Fx.L.v (.tuple #[.int .i64 ((sums (R j)).1), .int .i64 ((sums (R j)).2)]) (x_move rfl rfl) (Fx.L.v (.int .i64 ((sums (R j)).1)) (Fx.x_extract rfl rfl rfl) (Fx.L.v (.int .i64 ((sums (R j)).2)) (Fx.x_extract rfl rfl rfl) (Fx.L.v (.pointer (some ⟨g3, 0, none⟩)) (x_field rfl rfl Try.underlying82 rfl (s := 1) (by kernel_rfl) rfl rfl) (Fx.L.store1 (x := Fx.rv .i64 (fun _ => 0)) (u := .int .i64 ((sums (R j)).1)) (by rfl) rfl rfl rfl rfl (by rfl) (by kernel_rfl) m12 (i := 0) (by omega) fun w6 m13 s6 z4 => ?_))))
 have m14 : Fx.Blk w6 g3 8 (Fx.rv .i64 (upd (fun _ => 0) 0 ((sums (R j)).1))) 82 := m13.to (Fx.updV_rv _ _ _ _)
 have hct1 := Fx.ChT.of_stp s6 m12.ty
 have m15 := m10.chT hct1 (by decide)
 have m16 := m11.stp s6 (by omega)
 have b6 := s6.below b5 b5.size (by omega)
 refine Fx.L.v (.pointer (some ⟨g3, 1, none⟩)) (x_field rfl rfl Try.underlying82 rfl (s := 1) (by kernel_rfl) rfl (by show _ + 1 = _; omega)) (Fx.L.store1 (x := Fx.rv .i64 (upd (fun _ => 0) 0 ((sums (R j)).1))) (u := .int .i64 ((sums (R j)).2)) (by rfl) rfl rfl rfl rfl (by rfl) (by kernel_rfl) m14 (i := 1) (by omega) fun w7 m17 s7 z5 => ?_)
 have m18 : Fx.Blk w7 g3 8 (Fx.rv .i64 (upd (upd (fun _ => 0) 0 ((sums (R j)).1)) 1 ((sums (R j)).2))) 82 := m17.to (Fx.updV_rv _ _ _ _)
 have hct2 := Fx.ChT.of_stp s7 m14.ty
 have m19 := m15.chT hct2 (by decide)
 have m20 := m16.stp s7 (by omega)
 have b7 := s7.below b6 b6.size (by omega)
 refine Fx.L.nil (Fx.seqN (Fx.W.seq (Fx.W.seq ?_)))
 have m21 : Fx.Blk w7 g3 8 (quN (R j) 0) 82 := m18.congr (fun j hj => by rcases j with _|_|_|_|_|_|_|_|j <;> first | rfl | omega)
 refine Fx.W.list (Fx.L.v (.int .i64 (0)) (x_assign rfl rfl) (Fx.L.nil (Fx.seqN (Fx.W.block (Fx.W.loop (fun f w_ => ∃ k : Nat, k ≤ 6 ∧ f 2 = .pointer (some ⟨g1, 0, none⟩) ∧ f 4 = .pointer (some ⟨g2, 0, none⟩) ∧ f 6 = .int .i64 ((j : Int)) ∧ f 7 = .pointer (some ⟨g3, 0, none⟩) ∧ f 8 = .int .i64 ((k : Int)) ∧ Fx.Blk w_ g1 20 (stY s) 43 ∧ Fx.Blk w_ g2 8 (Fx.rv .i64 (fun _ => 0)) 82 ∧ Fx.Blk w_ g3 8 (quN (R j) k) 82 ∧ Below w.heap.size w w_) (fun f _ => (6 - (intOf (f 8)).toNat)) ⟨0, by omega, (by rfl), (by rfl), ((rfl.trans (congrArg (Value.int .i64) ej)).trans (by first | rfl | exact congrArg (Value.int .i64) (by omega))), (by rfl), (by first | rfl | exact congrArg (Value.int .i64) (by omega)), m19, m20, m21, b7⟩ ?_)))))
 rintro f1 w8 ⟨k, hk, h1, h2, h3, h4, h5, m22, m23, m24, b8⟩
 refine Fx.W.seq (Fx.W.seq (Fx.W.list (Fx.L.v (.int .i64 ((k : Int))) (x_move rfl h5) ?_)))
 by_cases c28 : (k : Int) < 6
 ·refine Fx.L.v (.bool true) (Fx.x_lssT rfl rfl rfl c28) (Fx.L.nil (Fx.seqN (Fx.W.cond (b := true) rfl (fun _ => Fx.W.skip (Fx.seqN (Fx.W.seq (Fx.W.block (Fx.W.list (Fx.L.v (.int .i64 ((k : Int))) (x_move rfl h5) ?_)))))) (fun h => nomatch h))))
  refine Fx.L.v (.pointer (some ⟨g1, 18, none⟩)) (x_field rfl h1 Try.underlying43 rfl (s := 1) (by kernel_rfl) rfl (by show _ + 18 = _; omega)) (Fx.L.v (.slice s.na (s.nn) (s.nc)) (x_load1 (x := stY s) rfl rfl (by kernel_rfl) m22.cel (i := 18) (by omega) (by omega) rfl) (Fx.L.v (.int .i64 ((j : Int))) (x_move rfl h3) ?_))
  obtain ⟨bq2, oq2, eq2, m25⟩ := (hnd.up b8 rfl) (by omega)
  have lbq2 : bq2 < w8.heap.size := m25.lt (by omega)
  refine Fx.L.v (.pointer (some ⟨bq2, 56 * j + oq2, none⟩)) (x_indexS rfl (rfl.trans (congrArg (fun q => Value.slice q (s.nn) (s.nc)) eq2)) rfl Try.underlying40 (s := 56) (by kernel_rfl) (by omega) (by omega) (by omega)) (Fx.L.v (.pointer (some ⟨bq2, 56 * j + oq2 + 2, none⟩)) (x_field rfl rfl Try.underlying50 rfl (s := 54) (by kernel_rfl) rfl (by show _ + 2 = _; omega)) (Fx.L.v (.agg (Fx.varr 54 (Fx.rv .i64 (R j)))) (x_loadA (x := Fx.flat 56 (fun kq => ndY (id kq) (par kq) (R kq))) (y := Fx.rv .i64 (R j)) rfl rfl (by kernel_rfl) (by kernel_rfl) m25 (i := 56 * j + 2) (by omega) (by omega) (fun jq hjq => (Fx.flat_at (k := j) (j := 2 + jq) (by omega) (by omega)).trans ((fun jq _ => ndY_row _ _ _ jq) jq hjq))) (Fx.L.v (.int .i64 ((k : Int))) (x_move rfl h5) (Fx.L.v (.int .i64 ((k : Int) + 1)) (Fx.x_add rfl rfl rfl (Fx.i64e (by omega) (by omega))) (Fx.L.call (by rfl) (Fx.r_call (args := [.agg (Fx.varr 54 (Fx.rv .i64 (R j))), .int .i64 ((k : Int) + 1)]) rfl rfl Try.func52 rfl rfl) rfl ((f7_localV (R j) ((k : Int) + 1) _).mono ?_))))))
  rintro e w9 ⟨he, hb3⟩
  refine ⟨.int .i64 (localV (R j) ((k : Int) + 1)), by rw [he], ?_⟩
  clear he
  have s8 := Fx.Stp.of_below hb3
  have m26 := m22.stp s8 (Nat.ne_of_lt (m22.lt))
  have m27 := m23.stp s8 (Nat.ne_of_lt (m23.lt))
  have m28 := m24.stp s8 (Nat.ne_of_lt (m24.lt))
  have b9 := s8.below b8 b8.size b8.size
  refine Fx.L.v (.pointer (some ⟨g3, 2, none⟩)) (x_field rfl h4 Try.underlying82 rfl (s := 6) (by kernel_rfl) rfl (by show _ + 2 = _; omega)) (Fx.L.v (.pointer (some ⟨g3, k + 2, none⟩)) (x_index rfl rfl rfl Try.underlying45 (s := 1) (by kernel_rfl) (by omega) (by omega) (by omega)) (Fx.L.store1 (x := quN (R j) k) (u := .int .i64 (localV (R j) ((k : Int) + 1))) (by rfl) rfl rfl rfl rfl (by rfl) (by kernel_rfl) m28 (i := k + 2) (by omega) fun w10 m29 s9 z6 => ?_))
  have hct3 := Fx.ChT.of_stp s9 m28.ty
  have m30 := m26.chT hct3 (by decide)
  have m31 := m27.stp s9 (by omega)
  have b10 := s9.below b9 b9.size (by omega)
  refine Fx.L.nil (Fx.blkN (Fx.seqN ?_))
  have m32 : Fx.Blk w10 g3 8 (quN (R j) (k + 1)) 82 := m29.congr (qu_next (by omega) rfl)
  refine Fx.W.list (Fx.L.v (.int .i64 ((k : Int))) (x_move rfl h5) (Fx.L.v (.int .i64 ((k : Int) + 1)) (Fx.x_add rfl rfl rfl (Fx.i64e (by omega) (by omega))) (Fx.L.v (.int .i64 ((k : Int) + 1)) (x_assign rfl rfl) (Fx.L.nil (Fx.lpN ⟨k + 1, by omega, h1, h2, (h3.trans (by first | rfl | exact congrArg (Value.int .i64) (by omega))), h4, (by first | rfl | exact congrArg (Value.int .i64) (by omega)), m30, m31, m32, b10⟩ ?_)))))
  show (6 - (intOf ((.int .i64 ((k : Int) + 1)))).toNat) < _
  simp only [h5, intOf]; omega
 ·refine Fx.L.v (.bool false) (Fx.x_lssF rfl rfl rfl c28) (Fx.L.nil (Fx.seqN (Fx.W.cond (b := false) rfl (fun h => nomatch h) (fun _ => Fx.W.exit (Fx.seqX (Fx.lpX (Fx.blkX (Fx.seqN (Fx.W.seq (Fx.W.list (Fx.L.v (.agg (Fx.varr 8 (quN (R j) k))) (x_loadA (x := quN (R j) k) (y := quN (R j) k) rfl h4 (by kernel_rfl) (by kernel_rfl) m24.cel (i := 0) (by omega) (by omega) (fun j _ => by rw [Nat.zero_add])) (Fx.L.storeA (x := Fx.rv .i64 (fun _ => 0)) (y := quN (R j) k) (by rfl) rfl rfl h2 rfl (fun j _ => qu_one _ _ j) (by kernel_rfl) m23 (i := 0) (by omega) fun w11 m33 s10 z7 => ?_))))))))))))
  have m34 : Fx.Blk w11 g2 8 (quN (R j) k) 82 := Fx.ovr_all m33
  have m36 := m24.stp s10 (by omega)
  have b11 := s10.below b8 b8.size (by omega)
  refine Fx.L.v (.int .i64 (0)) (x_assign rfl rfl) (Fx.L.nil (Fx.seqN (Fx.W.ret (⟨.tuple #[.agg (Fx.varr 8 (quN (R j) k)), .int .i64 (0)], Fx.retV2 Try.results62 ⟨_, h2, Fx.run_loadV m34.cel (by kernel_rfl) (by kernel_rfl)⟩ (by exact rfl), ?_⟩))))
  obtain rfl : k = 6 := by omega
  exact ⟨by rw [ej]; rfl, b11⟩
theorem r6_may (K : Nat → Int) (w : World) (hK : ∀ i, i < 6 → 0 ≤ K i ∧ K i ≤ 1099511627776) :
    Calls Try.prog 63 #[.agg (Fx.varr 6 (Fx.rv .u64 K))] w fun e w' => e = .returned (.bool true) ∧ Below w.heap.size w w' := by
 refine Fx.enter Try.func63 rfl (n := 12) rfl (by rfl) ?_
 refine Fx.W.seq (Fx.W.list (Fx.L.box (m := 6) (y := Fx.rv .u64 K) (by rfl) rfl rfl (Fx.cells_agg _ _) rfl fun g1 w1 eg1 m1 s1 z1 => ?_))
 have b1 := s1.below (Below.refl w.heap.size w) (Below.refl w.heap.size w).size (Below.refl w.heap.size w).size
 have lg1 : w.heap.size ≤ g1 := by rw [eg1]; exact (Below.refl w.heap.size w).size
 have tg1 : g1 < w1.heap.size := m1.lt
 clear eg1
 refine Fx.L.v (.bool false) (x_assign rfl rfl) (Fx.L.nil (Fx.seqN (Fx.W.seq (Fx.W.seq (Fx.W.list (Fx.L.v (.int .i64 (0)) (x_assign rfl rfl) (Fx.L.nil (Fx.seqN (Fx.W.block (Fx.W.loop (fun f w_ => ∃ k : Nat, k ≤ 6 ∧ f 1 = .pointer (some ⟨g1, 0, none⟩) ∧ f 3 = .int .i64 ((k : Int)) ∧ Fx.Blk w_ g1 6 (Fx.rv .u64 K) 29 ∧ Below w.heap.size w w_) (fun f _ => (6 - (intOf (f 3)).toNat)) ⟨0, by omega, (by rfl), (by first | rfl | exact congrArg (Value.int .i64) (by omega)), m1, b1⟩ ?_))))))))))
 rintro f1 w2 ⟨k, hk, h1, h2, m2, b2⟩
 refine Fx.W.seq (Fx.W.seq (Fx.W.list (Fx.L.v (.int .i64 ((k : Int))) (x_move rfl h2) ?_)))
 by_cases c5 : (k : Int) < 6
 ·refine Fx.L.v (.bool true) (Fx.x_lssT rfl rfl rfl c5) (Fx.L.nil (Fx.seqN (Fx.W.cond (b := true) rfl (fun _ => Fx.W.skip (Fx.seqN (Fx.W.seq (Fx.W.block (Fx.W.seq ?_))))) (fun h => nomatch h))))
  have hKk := hK k (by omega)
  refine Fx.W.list (Fx.L.v (.int .i64 ((k : Int))) (x_move rfl h2) (Fx.L.v (.pointer (some ⟨g1, k, none⟩)) (x_index rfl h1 rfl Try.underlying29 (s := 1) (by kernel_rfl) (by omega) (by omega) (by omega)) (Fx.L.v (.int .u64 (K k)) (x_load1 (x := Fx.rv .u64 K) rfl rfl (by kernel_rfl) m2.cel (i := k) (by omega) (by omega) rfl) (Fx.L.v (.bool false) (x_gtrF rfl rfl rfl (by omega)) (Fx.L.nil (Fx.seqN (Fx.W.cond (b := false) rfl (fun h => nomatch h) (fun _ => Fx.W.skip (Fx.blkN (Fx.seqN (Fx.W.list (Fx.L.v (.int .i64 ((k : Int))) (x_move rfl h2) (Fx.L.v (.int .i64 ((k : Int) + 1)) (Fx.x_add rfl rfl rfl (Fx.i64e (by omega) (by omega))) (Fx.L.v (.int .i64 ((k : Int) + 1)) (x_assign rfl rfl) (Fx.L.nil (Fx.lpN ⟨k + 1, by omega, h1, (by first | rfl | exact congrArg (Value.int .i64) (by omega)), m2, b2⟩ ?_))))))))))))))))
  show (6 - (intOf ((.int .i64 ((k : Int) + 1)))).toNat) < _
  simp only [h2, intOf]; omega
 ·refine Fx.L.v (.bool false) (Fx.x_lssF rfl rfl rfl c5) (Fx.L.nil (Fx.seqN (Fx.W.cond (b := false) rfl (fun h => nomatch h) (fun _ => Fx.W.exit (Fx.seqX (Fx.lpX (Fx.blkX (Fx.seqN (Fx.W.seq (Fx.W.list (Fx.L.v (.bool true) (x_assign rfl rfl) (Fx.L.nil (Fx.seqN (Fx.W.ret (⟨.bool true, Fx.retV1 Try.results63 (by exact rfl), ?_⟩)))))))))))))))
  exact ⟨rfl, b2⟩
namespace Rt
theorem al_step {s : StM} {a t j : Nat} (h : ∀ q, q < j → bitS t q = true → q = a ∨ isLive s q = true) (h2 : bitS t j = true → j = a ∨ isLive s j = true) : ∀ q, q < j + 1 → bitS t q = true → q = a ∨ isLive s q = true := fun q hq hb =>
  (Nat.lt_or_eq_of_le (Nat.le_of_lt_succ hq)).elim (fun h3 => h q h3 hb) (fun e => by subst e; exact h2 hb)
theorem al_hit {s : StM} {n k j : Nat} (hn : n = (liveN s 6).length ∧ k < n) (h : (liveN s 6).getD k 0 = (j : Int) + 1) : isLive s j = true := by
  obtain ⟨b, _, e, hl⟩ := live_at hn.1 hn.2
  obtain rfl : b = j := by omega
  exact hl
end Rt
set_option maxRecDepth 10000 in
theorem r33_alive (s : StM) (al : Option Addr) (n cl a t : Nat) (w : World) (hn9 : n = (liveN s 6).length) (hl : Fx.Arr w al n 1 (lsX (liveN s 6))) (ha : a < 6) (ht : t ≤ 64) :
    Calls Try.prog 64 #[.slice al (n) (cl), .int .i64 ((t : Int)), .int .i64 ((a : Int) + 1)] w fun e w' => ∃ b : Bool, e = .returned (.bool b) ∧ (b = true → SetOk s a t) ∧ Below w.heap.size w w' := by
 have hn6 := (live_ok s hn9).1
 refine Fx.enter Try.func64 rfl (n := 43) rfl (by rfl) ?_
 refine Fx.W.seq (Fx.W.list (Fx.L.v (.bool false) (x_assign rfl rfl) (Fx.L.nil (Fx.seqN (Fx.W.seq (Fx.W.seq (Fx.W.list (Fx.L.v (.int .i64 (1)) (x_assign rfl rfl) (Fx.L.nil (Fx.seqN (Fx.W.block (Fx.W.loop (fun f w_ => ∃ j : Nat, j ≤ 6 ∧ (∀ q, q < j → bitS t q = true → q = a ∨ isLive s q = true) ∧ f 0 = .slice al (n) (cl) ∧ f 1 = .int .i64 ((t : Int)) ∧ f 2 = .int .i64 ((a : Int) + 1) ∧ f 7 = .int .i64 ((j : Int) + 1) ∧ Below w.heap.size w w_) (fun f _ => (7 - (intOf (f 7)).toNat)) ⟨0, by omega, (fun q h => absurd h (Nat.not_lt_zero q)), (by rfl), (by first | rfl | exact congrArg (Value.int .i64) (by omega)), (by first | rfl | exact congrArg (Value.int .i64) (by omega)), (by first | rfl | exact congrArg (Value.int .i64) (by omega)), (Below.refl w.heap.size w)⟩ ?_))))))))))))
 rintro f1 w1 ⟨j, hj, hall, h1, h2, h3, h4, b1⟩
 refine Fx.W.seq (Fx.W.seq (Fx.W.list (Fx.L.v (.int .i64 ((j : Int) + 1)) (x_move rfl h4) ?_)))
 by_cases c11 : ((j : Int) + 1) ≤ 6
 ·refine Fx.L.v (.bool true) (Fx.x_leqT rfl rfl rfl c11) (Fx.L.nil (Fx.seqN (Fx.W.cond (b := true) rfl (fun _ => Fx.W.skip (Fx.seqN (Fx.W.seq (Fx.W.block (Fx.W.seq (Fx.W.list (Fx.L.v (.int .i64 ((j : Int) + 1)) (x_move rfl h4) ?_))))))) (fun h => nomatch h))))
  refine Fx.L.v (.int .i64 ((a : Int) + 1)) (x_move rfl h3) ?_
  by_cases c16 : ((j : Int) + 1) = ((a : Int) + 1)
  ·refine Fx.L.v (.bool true) (x_eqlT rfl rfl rfl c16) (Fx.L.v (.bool true) (x_assign rfl rfl) (Fx.L.nil (Fx.seqN (Fx.W.seq (Fx.W.seq (Fx.W.list (Fx.L.v (.int .i64 (0)) (x_assign rfl rfl) (Fx.L.nil (Fx.seqN (Fx.W.block (Fx.W.loop (fun f w_ => ∃ k : Nat, ∃ b : Bool, k ≤ n ∧ (b = true → j = a ∨ isLive s j = true) ∧ f 0 = .slice al (n) (cl) ∧ f 1 = .int .i64 ((t : Int)) ∧ f 2 = .int .i64 ((a : Int) + 1) ∧ f 7 = .int .i64 ((j : Int) + 1) ∧ f 8 = .bool b ∧ f 9 = .int .i64 ((k : Int)) ∧ Below w.heap.size w w_) (fun f _ => (n - (intOf (f 9)).toNat)) ⟨0, true, by omega, (fun _ => .inl (by omega)), h1, (h2.trans (by first | rfl | exact congrArg (Value.int .i64) (by omega))), (h3.trans (by first | rfl | exact congrArg (Value.int .i64) (by omega))), (h4.trans (by first | rfl | exact congrArg (Value.int .i64) (by omega))), (by rfl), (by first | rfl | exact congrArg (Value.int .i64) (by omega)), b1⟩ ?_)))))))))))
   rintro f2 w2 ⟨k, b, hk, hb, h5, h6, h7, h8, h9, h10, b2⟩
   refine Fx.W.seq (Fx.W.seq (Fx.W.list (Fx.L.v (.int .i64 ((k : Int))) (x_move rfl h10) (Fx.L.v (.slice al (n) (cl)) (x_move rfl h5) (Fx.L.v (.int .i64 ((n : Int))) (x_len rfl rfl rfl (by kernel_rfl)) ?_)))))
   by_cases c20 : (k : Int) < (n : Int)
   ·refine Fx.L.v (.bool true) (Fx.x_lssT rfl rfl rfl c20) (Fx.L.nil (Fx.seqN (Fx.W.cond (b := true) rfl (fun _ => Fx.W.skip (Fx.seqN (Fx.W.seq (Fx.W.block ?_)))) (fun h => nomatch h))))
    have hn : n = (liveN s 6).length ∧ k < n := ⟨hn9, by omega⟩
    refine Fx.W.list ?_
    by_cases c23 : b = true
    ·refine Fx.L.v (.bool true) (x_move rfl (h9.trans (congrArg Value.bool c23))) (Fx.L.v (.bool true) (x_move rfl rfl) (Fx.L.skip (by rfl) rfl (Fx.L.skip (by rfl) rfl (Fx.L.skip (by rfl) rfl (Fx.L.skip (by rfl) rfl (Fx.L.skip (by rfl) rfl (Fx.L.skip (by rfl) rfl (Fx.L.v (.bool true) (x_pickT rfl rfl rfl) (Fx.L.v (.bool true) (x_assign rfl rfl) (Fx.L.nil (Fx.blkN (Fx.seqN (Fx.W.list (Fx.L.v (.int .i64 ((k : Int))) (x_move rfl h10) (Fx.L.v (.int .i64 ((k : Int) + 1)) (Fx.x_add rfl rfl rfl (Fx.i64e (by omega) (by omega))) (Fx.L.v (.int .i64 ((k : Int) + 1)) (x_assign rfl rfl) (Fx.L.nil (Fx.lpN ⟨k + 1, true, by omega, (fun _ => hb c23), h5, (h6.trans (by first | rfl | exact congrArg (Value.int .i64) (by omega))), (h7.trans (by first | rfl | exact congrArg (Value.int .i64) (by omega))), (h8.trans (by first | rfl | exact congrArg (Value.int .i64) (by omega))), (by rfl), (by first | rfl | exact congrArg (Value.int .i64) (by omega)), b2⟩ ?_))))))))))))))))))
     show (n - (intOf ((.int .i64 ((k : Int) + 1)))).toNat) < _
     simp only [h10, intOf]; omega
    ·rw [Bool.not_eq_true] at c23
     refine Fx.L.v (.bool false) (x_move rfl (h9.trans (congrArg Value.bool c23))) (Fx.L.v (.bool false) (x_move rfl rfl) (Fx.L.v (.slice al (n) (cl)) (x_move rfl h5) (Fx.L.v (.int .i64 ((k : Int))) (x_move rfl h10) ?_)))
     obtain ⟨bq1, oq1, eq1, m1⟩ := (hl.up b2 rfl) (by omega)
     have lbq1 : bq1 < w2.heap.size := m1.lt (by omega)
     refine Fx.L.v (.pointer (some ⟨bq1, k + oq1, none⟩)) (x_indexS rfl (rfl.trans (congrArg (fun q => Value.slice q (n) (cl)) eq1)) rfl Try.underlying23 (s := 1) (by kernel_rfl) (by omega) (by omega) (by omega)) (Fx.L.v (.int .i64 ((liveN s 6).getD k 0)) (x_load1 (x := lsX (liveN s 6)) rfl rfl (by kernel_rfl) m1 (i := k) (by omega) (by omega) rfl) (Fx.L.v (.int .i64 ((j : Int) + 1)) (x_move rfl h8) ?_))
     by_cases c30 : ((liveN s 6).getD k 0) = ((j : Int) + 1)
     ·refine Fx.L.v (.bool true) (x_eqlT rfl rfl rfl c30) (Fx.L.v (.bool true) (x_pickF rfl rfl rfl) (Fx.L.v (.bool true) (x_assign rfl rfl) (Fx.L.nil (Fx.blkN (Fx.seqN (Fx.W.list (Fx.L.v (.int .i64 ((k : Int))) (x_move rfl h10) (Fx.L.v (.int .i64 ((k : Int) + 1)) (Fx.x_add rfl rfl rfl (Fx.i64e (by omega) (by omega))) (Fx.L.v (.int .i64 ((k : Int) + 1)) (x_assign rfl rfl) (Fx.L.nil (Fx.lpN ⟨k + 1, true, by omega, (fun _ => .inr (al_hit hn c30)), h5, (h6.trans (by first | rfl | exact congrArg (Value.int .i64) (by omega))), (h7.trans (by first | rfl | exact congrArg (Value.int .i64) (by omega))), (h8.trans (by first | rfl | exact congrArg (Value.int .i64) (by omega))), (by rfl), (by first | rfl | exact congrArg (Value.int .i64) (by omega)), b2⟩ ?_)))))))))))
      show (n - (intOf ((.int .i64 ((k : Int) + 1)))).toNat) < _
      simp only [h10, intOf]; omega
     ·refine Fx.L.v (.bool false) (x_eqlF rfl rfl rfl c30) (Fx.L.v (.bool false) (x_pickF rfl rfl rfl) (Fx.L.v (.bool false) (x_assign rfl rfl) (Fx.L.nil (Fx.blkN (Fx.seqN (Fx.W.list (Fx.L.v (.int .i64 ((k : Int))) (x_move rfl h10) (Fx.L.v (.int .i64 ((k : Int) + 1)) (Fx.x_add rfl rfl rfl (Fx.i64e (by omega) (by omega))) (Fx.L.v (.int .i64 ((k : Int) + 1)) (x_assign rfl rfl) (Fx.L.nil (Fx.lpN ⟨k + 1, false, by omega, (fun h => nomatch h), h5, (h6.trans (by first | rfl | exact congrArg (Value.int .i64) (by omega))), (h7.trans (by first | rfl | exact congrArg (Value.int .i64) (by omega))), (h8.trans (by first | rfl | exact congrArg (Value.int .i64) (by omega))), (by rfl), (by first | rfl | exact congrArg (Value.int .i64) (by omega)), b2⟩ ?_)))))))))))
      show (n - (intOf ((.int .i64 ((k : Int) + 1)))).toNat) < _
      simp only [h10, intOf]; omega
   ·refine Fx.L.v (.bool false) (Fx.x_lssF rfl rfl rfl c20) (Fx.L.nil (Fx.seqN (Fx.W.cond (b := false) rfl (fun h => nomatch h) (fun _ => Fx.W.exit (Fx.seqX (Fx.lpX (Fx.blkX (Fx.seqN (Fx.W.seq ?_)))))))))
    have hbd := bitI_bd t j
    refine Fx.W.list (Fx.L.v (.int .i64 ((t : Int))) (x_move rfl h6) (Fx.L.v (.int .i64 ((j : Int) + 1)) (x_move rfl h8) (Fx.L.v (.int .i64 ((j : Int))) (Fx.x_sub rfl rfl rfl (Fx.i64e (by omega) (by omega))) (Fx.L.v (.int .u64 ((j : Int))) (x_conv rfl rfl (by kernel_rfl) Try.underlying124 (Fx.u64e (by omega) rfl)) (Fx.L.v (.int .i64 (bitI t j)) ((Fx.x_shr (b := j) (q := (2 : Int) ^ j) rfl rfl rfl (by show j ≤ 64; omega) rfl)) (Fx.L.v (.int .i64 (bitI t j % 2)) ((Fx.x_and1 rfl rfl rfl (by omega) (by omega))) ?_))))))
    by_cases c38 : (bitI t j % 2) = 1
    ·refine Fx.L.v (.bool true) (x_eqlT rfl rfl rfl c38) (Fx.L.v (.bool true) (x_move rfl rfl) ?_)
     by_cases c40 : b = true
     ·refine Fx.L.v (.bool true) (x_move rfl (h9.trans (congrArg Value.bool c40))) (Fx.L.v (.bool false) (Fx.x_notF rfl rfl) (Fx.L.v (.bool false) (x_pickT rfl rfl rfl) (Fx.L.nil (Fx.seqN (Fx.W.cond (b := false) rfl (fun h => nomatch h) (fun _ => Fx.W.skip (Fx.blkN (Fx.seqN (Fx.W.list (Fx.L.v (.int .i64 ((j : Int) + 1)) (x_move rfl h8) (Fx.L.v (.int .i64 ((j : Int) + 2)) (Fx.x_add rfl rfl rfl (Fx.i64e (by omega) (by omega))) (Fx.L.v (.int .i64 ((j : Int) + 2)) (x_assign rfl rfl) (Fx.L.nil (Fx.lpN ⟨j + 1, by omega, (al_step hall (fun _ => hb c40)), h5, (h6.trans (by first | rfl | exact congrArg (Value.int .i64) (by omega))), (h7.trans (by first | rfl | exact congrArg (Value.int .i64) (by omega))), (by first | rfl | exact congrArg (Value.int .i64) (by omega)), b2⟩ ?_))))))))))))))
      show (7 - (intOf ((.int .i64 ((j : Int) + 2)))).toNat) < _
      simp only [h4, intOf]; omega
     ·rw [Bool.not_eq_true] at c40
      refine Fx.L.v (.bool false) (x_move rfl (h9.trans (congrArg Value.bool c40))) (Fx.L.v (.bool true) (Fx.x_notT rfl rfl) (Fx.L.v (.bool true) (x_pickT rfl rfl rfl) (Fx.L.nil (Fx.seqN (Fx.W.cond (b := true) rfl (fun _ => Fx.W.seq (Fx.W.list (Fx.L.v (.bool false) (x_assign rfl rfl) ?_))) (fun h => nomatch h))))))
      refine Fx.L.nil (Fx.seqN (Fx.W.ret (Fx.blkR (Fx.seqR (Fx.lpR (Fx.blkR (Fx.seqR (⟨.bool false, Fx.retV1 Try.results64 (by exact rfl), ?_⟩))))))))
      exact ⟨false, rfl, (fun h => nomatch h), b2⟩
    ·refine Fx.L.v (.bool false) (x_eqlF rfl rfl rfl c38) (Fx.L.v (.bool false) (x_move rfl rfl) (Fx.L.skip (by rfl) rfl (Fx.L.skip (by rfl) rfl (Fx.L.v (.bool false) (x_pickF rfl rfl rfl) (Fx.L.nil (Fx.seqN (Fx.W.cond (b := false) rfl (fun h => nomatch h) (fun _ => Fx.W.skip (Fx.blkN (Fx.seqN (Fx.W.list (Fx.L.v (.int .i64 ((j : Int) + 1)) (x_move rfl h8) (Fx.L.v (.int .i64 ((j : Int) + 2)) (Fx.x_add rfl rfl rfl (Fx.i64e (by omega) (by omega))) (Fx.L.v (.int .i64 ((j : Int) + 2)) (x_assign rfl rfl) (Fx.L.nil (Fx.lpN ⟨j + 1, by omega, (al_step hall (fun h => absurd (of_decide_eq_true h) c38)), h5, (h6.trans (by first | rfl | exact congrArg (Value.int .i64) (by omega))), (h7.trans (by first | rfl | exact congrArg (Value.int .i64) (by omega))), (by first | rfl | exact congrArg (Value.int .i64) (by omega)), b2⟩ ?_))))))))))))))))
     show (7 - (intOf ((.int .i64 ((j : Int) + 2)))).toNat) < _
     simp only [h4, intOf]; omega
  ·refine Fx.L.v (.bool false) (x_eqlF rfl rfl rfl c16) (Fx.L.v (.bool false) (x_assign rfl rfl) (Fx.L.nil (Fx.seqN (Fx.W.seq (Fx.W.seq (Fx.W.list (Fx.L.v (.int .i64 (0)) (x_assign rfl rfl) (Fx.L.nil (Fx.seqN (Fx.W.block (Fx.W.loop (fun f w_ => ∃ k : Nat, ∃ b : Bool, k ≤ n ∧ (b = true → j = a ∨ isLive s j = true) ∧ f 0 = .slice al (n) (cl) ∧ f 1 = .int .i64 ((t : Int)) ∧ f 2 = .int .i64 ((a : Int) + 1) ∧ f 7 = .int .i64 ((j : Int) + 1) ∧ f 8 = .bool b ∧ f 9 = .int .i64 ((k : Int)) ∧ Below w.heap.size w w_) (fun f _ => (n - (intOf (f 9)).toNat)) ⟨0, false, by omega, (fun h => nomatch h), h1, (h2.trans (by first | rfl | exact congrArg (Value.int .i64) (by omega))), (h3.trans (by first | rfl | exact congrArg (Value.int .i64) (by omega))), (h4.trans (by first | rfl | exact congrArg (Value.int .i64) (by omega))), (by rfl), (by first | rfl | exact congrArg (Value.int .i64) (by omega)), b1⟩ ?_)))))))))))
   rintro f3 w3 ⟨k, b, hk, hb, h11, h12, h13, h14, h15, h16, b3⟩
   refine Fx.W.seq (Fx.W.seq (Fx.W.list (Fx.L.v (.int .i64 ((k : Int))) (x_move rfl h16) (Fx.L.v (.slice al (n) (cl)) (x_move rfl h11) (Fx.L.v (.int .i64 ((n : Int))) (x_len rfl rfl rfl (by kernel_rfl)) ?_)))))
   by_cases c20 : (k : Int) < (n : Int)
   ·refine Fx.L.v (.bool true) (Fx.x_lssT rfl rfl rfl c20) (Fx.L.nil (Fx.seqN (Fx.W.cond (b := true) rfl (fun _ => Fx.W.skip (Fx.seqN (Fx.W.seq (Fx.W.block ?_)))) (fun h => nomatch h))))
    have hn : n = (liveN s 6).length ∧ k < n := ⟨hn9, by omega⟩
    refine Fx.W.list ?_
    by_cases c23 : b = true
    ·refine Fx.L.v (.bool true) (x_move rfl (h15.trans (congrArg Value.bool c23))) (Fx.L.v (.bool true) (x_move rfl rfl) (Fx.L.skip (by rfl) rfl (Fx.L.skip (by rfl) rfl (Fx.L.skip (by rfl) rfl (Fx.L.skip (by rfl) rfl (Fx.L.skip (by rfl) rfl (Fx.L.skip (by rfl) rfl (Fx.L.v (.bool true) (x_pickT rfl rfl rfl) (Fx.L.v (.bool true) (x_assign rfl rfl) (Fx.L.nil (Fx.blkN (Fx.seqN (Fx.W.list (Fx.L.v (.int .i64 ((k : Int))) (x_move rfl h16) (Fx.L.v (.int .i64 ((k : Int) + 1)) (Fx.x_add rfl rfl rfl (Fx.i64e (by omega) (by omega))) (Fx.L.v (.int .i64 ((k : Int) + 1)) (x_assign rfl rfl) (Fx.L.nil (Fx.lpN ⟨k + 1, true, by omega, (fun _ => hb c23), h11, (h12.trans (by first | rfl | exact congrArg (Value.int .i64) (by omega))), (h13.trans (by first | rfl | exact congrArg (Value.int .i64) (by omega))), (h14.trans (by first | rfl | exact congrArg (Value.int .i64) (by omega))), (by rfl), (by first | rfl | exact congrArg (Value.int .i64) (by omega)), b3⟩ ?_))))))))))))))))))
     show (n - (intOf ((.int .i64 ((k : Int) + 1)))).toNat) < _
     simp only [h16, intOf]; omega
    ·rw [Bool.not_eq_true] at c23
     refine Fx.L.v (.bool false) (x_move rfl (h15.trans (congrArg Value.bool c23))) (Fx.L.v (.bool false) (x_move rfl rfl) (Fx.L.v (.slice al (n) (cl)) (x_move rfl h11) (Fx.L.v (.int .i64 ((k : Int))) (x_move rfl h16) ?_)))
     obtain ⟨bq2, oq2, eq2, m2⟩ := (hl.up b3 rfl) (by omega)
     have lbq2 : bq2 < w3.heap.size := m2.lt (by omega)
     refine Fx.L.v (.pointer (some ⟨bq2, k + oq2, none⟩)) (x_indexS rfl (rfl.trans (congrArg (fun q => Value.slice q (n) (cl)) eq2)) rfl Try.underlying23 (s := 1) (by kernel_rfl) (by omega) (by omega) (by omega)) (Fx.L.v (.int .i64 ((liveN s 6).getD k 0)) (x_load1 (x := lsX (liveN s 6)) rfl rfl (by kernel_rfl) m2 (i := k) (by omega) (by omega) rfl) (Fx.L.v (.int .i64 ((j : Int) + 1)) (x_move rfl h14) ?_))
     by_cases c30 : ((liveN s 6).getD k 0) = ((j : Int) + 1)
     ·refine Fx.L.v (.bool true) (x_eqlT rfl rfl rfl c30) (Fx.L.v (.bool true) (x_pickF rfl rfl rfl) (Fx.L.v (.bool true) (x_assign rfl rfl) (Fx.L.nil (Fx.blkN (Fx.seqN (Fx.W.list (Fx.L.v (.int .i64 ((k : Int))) (x_move rfl h16) (Fx.L.v (.int .i64 ((k : Int) + 1)) (Fx.x_add rfl rfl rfl (Fx.i64e (by omega) (by omega))) (Fx.L.v (.int .i64 ((k : Int) + 1)) (x_assign rfl rfl) (Fx.L.nil (Fx.lpN ⟨k + 1, true, by omega, (fun _ => .inr (al_hit hn c30)), h11, (h12.trans (by first | rfl | exact congrArg (Value.int .i64) (by omega))), (h13.trans (by first | rfl | exact congrArg (Value.int .i64) (by omega))), (h14.trans (by first | rfl | exact congrArg (Value.int .i64) (by omega))), (by rfl), (by first | rfl | exact congrArg (Value.int .i64) (by omega)), b3⟩ ?_)))))))))))
      show (n - (intOf ((.int .i64 ((k : Int) + 1)))).toNat) < _
      simp only [h16, intOf]; omega
     ·refine Fx.L.v (.bool false) (x_eqlF rfl rfl rfl c30) (Fx.L.v (.bool false) (x_pickF rfl rfl rfl) (Fx.L.v (.bool false) (x_assign rfl rfl) (Fx.L.nil (Fx.blkN (Fx.seqN (Fx.W.list (Fx.L.v (.int .i64 ((k : Int))) (x_move rfl h16) (Fx.L.v (.int .i64 ((k : Int) + 1)) (Fx.x_add rfl rfl rfl (Fx.i64e (by omega) (by omega))) (Fx.L.v (.int .i64 ((k : Int) + 1)) (x_assign rfl rfl) (Fx.L.nil (Fx.lpN ⟨k + 1, false, by omega, (fun h => nomatch h), h11, (h12.trans (by first | rfl | exact congrArg (Value.int .i64) (by omega))), (h13.trans (by first | rfl | exact congrArg (Value.int .i64) (by omega))), (h14.trans (by first | rfl | exact congrArg (Value.int .i64) (by omega))), (by rfl), (by first | rfl | exact congrArg (Value.int .i64) (by omega)), b3⟩ ?_)))))))))))
      show (n - (intOf ((.int .i64 ((k : Int) + 1)))).toNat) < _
      simp only [h16, intOf]; omega
   ·refine Fx.L.v (.bool false) (Fx.x_lssF rfl rfl rfl c20) (Fx.L.nil (Fx.seqN (Fx.W.cond (b := false) rfl (fun h => nomatch h) (fun _ => Fx.W.exit (Fx.seqX (Fx.lpX (Fx.blkX (Fx.seqN (Fx.W.seq ?_)))))))))
    have hbd := bitI_bd t j
    refine Fx.W.list (Fx.L.v (.int .i64 ((t : Int))) (x_move rfl h12) (Fx.L.v (.int .i64 ((j : Int) + 1)) (x_move rfl h14) (Fx.L.v (.int .i64 ((j : Int))) (Fx.x_sub rfl rfl rfl (Fx.i64e (by omega) (by omega))) (Fx.L.v (.int .u64 ((j : Int))) (x_conv rfl rfl (by kernel_rfl) Try.underlying124 (Fx.u64e (by omega) rfl)) (Fx.L.v (.int .i64 (bitI t j)) ((Fx.x_shr (b := j) (q := (2 : Int) ^ j) rfl rfl rfl (by show j ≤ 64; omega) rfl)) (Fx.L.v (.int .i64 (bitI t j % 2)) ((Fx.x_and1 rfl rfl rfl (by omega) (by omega))) ?_))))))
    by_cases c38 : (bitI t j % 2) = 1
    ·refine Fx.L.v (.bool true) (x_eqlT rfl rfl rfl c38) (Fx.L.v (.bool true) (x_move rfl rfl) ?_)
     by_cases c40 : b = true
     ·refine Fx.L.v (.bool true) (x_move rfl (h15.trans (congrArg Value.bool c40))) (Fx.L.v (.bool false) (Fx.x_notF rfl rfl) (Fx.L.v (.bool false) (x_pickT rfl rfl rfl) (Fx.L.nil (Fx.seqN (Fx.W.cond (b := false) rfl (fun h => nomatch h) (fun _ => Fx.W.skip (Fx.blkN (Fx.seqN (Fx.W.list (Fx.L.v (.int .i64 ((j : Int) + 1)) (x_move rfl h14) (Fx.L.v (.int .i64 ((j : Int) + 2)) (Fx.x_add rfl rfl rfl (Fx.i64e (by omega) (by omega))) (Fx.L.v (.int .i64 ((j : Int) + 2)) (x_assign rfl rfl) (Fx.L.nil (Fx.lpN ⟨j + 1, by omega, (al_step hall (fun _ => hb c40)), h11, (h12.trans (by first | rfl | exact congrArg (Value.int .i64) (by omega))), (h13.trans (by first | rfl | exact congrArg (Value.int .i64) (by omega))), (by first | rfl | exact congrArg (Value.int .i64) (by omega)), b3⟩ ?_))))))))))))))
      show (7 - (intOf ((.int .i64 ((j : Int) + 2)))).toNat) < _
      simp only [h4, intOf]; omega
     ·rw [Bool.not_eq_true] at c40
      refine Fx.L.v (.bool false) (x_move rfl (h15.trans (congrArg Value.bool c40))) (Fx.L.v (.bool true) (Fx.x_notT rfl rfl) (Fx.L.v (.bool true) (x_pickT rfl rfl rfl) (Fx.L.nil (Fx.seqN (Fx.W.cond (b := true) rfl (fun _ => Fx.W.seq (Fx.W.list (Fx.L.v (.bool false) (x_assign rfl rfl) ?_))) (fun h => nomatch h))))))
      refine Fx.L.nil (Fx.seqN (Fx.W.ret (Fx.blkR (Fx.seqR (Fx.lpR (Fx.blkR (Fx.seqR (⟨.bool false, Fx.retV1 Try.results64 (by exact rfl), ?_⟩))))))))
      exact ⟨false, rfl, (fun h => nomatch h), b3⟩
    ·refine Fx.L.v (.bool false) (x_eqlF rfl rfl rfl c38) (Fx.L.v (.bool false) (x_move rfl rfl) (Fx.L.skip (by rfl) rfl (Fx.L.skip (by rfl) rfl (Fx.L.v (.bool false) (x_pickF rfl rfl rfl) (Fx.L.nil (Fx.seqN (Fx.W.cond (b := false) rfl (fun h => nomatch h) (fun _ => Fx.W.skip (Fx.blkN (Fx.seqN (Fx.W.list (Fx.L.v (.int .i64 ((j : Int) + 1)) (x_move rfl h14) (Fx.L.v (.int .i64 ((j : Int) + 2)) (Fx.x_add rfl rfl rfl (Fx.i64e (by omega) (by omega))) (Fx.L.v (.int .i64 ((j : Int) + 2)) (x_assign rfl rfl) (Fx.L.nil (Fx.lpN ⟨j + 1, by omega, (al_step hall (fun h => absurd (of_decide_eq_true h) c38)), h11, (h12.trans (by first | rfl | exact congrArg (Value.int .i64) (by omega))), (h13.trans (by first | rfl | exact congrArg (Value.int .i64) (by omega))), (by first | rfl | exact congrArg (Value.int .i64) (by omega)), b3⟩ ?_))))))))))))))))
     show (7 - (intOf ((.int .i64 ((j : Int) + 2)))).toNat) < _
     simp only [h4, intOf]; omega
 ·refine Fx.L.v (.bool false) (x_leqF rfl rfl rfl c11) (Fx.L.nil (Fx.seqN (Fx.W.cond (b := false) rfl (fun h => nomatch h) (fun _ => Fx.W.exit (Fx.seqX (Fx.lpX (Fx.blkX (Fx.seqN (Fx.W.seq (Fx.W.list (Fx.L.v (.bool true) (x_assign rfl rfl) (Fx.L.nil (Fx.seqN (Fx.W.ret (⟨.bool true, Fx.retV1 Try.results64 (by exact rfl), ?_⟩)))))))))))))))
  exact ⟨true, rfl, (fun _ q hq => hall q (by omega)), b1⟩
section
namespace Rt
def sumF (f : GiftM → Int) (gs : List GiftM) : Nat → Int
  | 0 => 0
  | k + 1 => sumF f gs k + f (gs.getD k gf0)
def isN (x : Int) (g : GiftM) : Int := if g.node = x then 1 else 0
def amN (x : Int) (g : GiftM) : Int := if g.node = x then g.amt else 0
def cardS (S : Nat → Bool) : Nat → Nat
  | 0 => 0
  | k + 1 => cardS S k + if S k = true then 1 else 0
def hasS (S : Nat → Bool) (l : Nat → Int) : Nat → Int
  | 0 => 0
  | k + 1 => hasS S l k + if S k = true then (if 0 > l k then 0 else l k) else 0
section
variable {f : GiftM → Int} {s : StM} {n a m : Nat} {y x : Int} {l : Nat → Int} {L0 : LdC} {T : Nat}
theorem sumF_pre {xs ys : List GiftM} : ∀ k, k ≤ xs.length → sumF f (xs ++ ys) k = sumF f xs k
  | 0, _ => rfl
  | k + 1, h => by
    unfold sumF
    rw [sumF_pre k (by omega), show (xs ++ ys).getD k gf0 = xs.getD k gf0 by rw [List.getD_eq_getElem?_getD, List.getD_eq_getElem?_getD, List.getElem?_append_left (by omega)]]
theorem sumF_app {xs ys : List GiftM} : ∀ k, sumF f (xs ++ ys) (xs.length + k) = sumF f xs xs.length + sumF f ys k
  | 0 => by rw [Nat.add_zero, sumF_pre _ (Nat.le_refl _)]; show _ = _ + (0 : Int); omega
  | k + 1 => by
    show sumF f (xs ++ ys) (xs.length + k) + f ((xs ++ ys).getD (xs.length + k) gf0) = _ + (sumF f ys k + f (ys.getD k gf0))
    rw [sumF_app k, show (xs ++ ys).getD (xs.length + k) gf0 = ys.getD k gf0 by rw [List.getD_eq_getElem?_getD, List.getD_eq_getElem?_getD, List.getElem?_append_right (by omega), Nat.add_sub_cancel_left]]; omega
theorem sumF_gf {live : List Int} {node : Int} {v : Nat → Int} (h : ∀ q, q < m → f (oneG live n y a node (itG live n y a l q)) = v (q + 1) - v q) : sumF f (gfN live n y a l node m) m = v m - v 0 := by
  induction m with
  | zero => show (0 : Int) = _; omega
  | succ m ih =>
    have e := gfN_len (live := live) (n := n) (a := a) (y := y) (l := l) (node := node) m
    have ih := ih fun q hq => h q (by omega)
    have h2 := sumF_app (f := f) (xs := gfN live n y a l node m) (ys := [oneG live n y a node (itG live n y a l m)]) 1
    rw [e] at h2
    show sumF f (gfN live n y a l node m ++ [oneG live n y a node (itG live n y a l m)]) (m + 1) = _
    rw [h2, ih]
    show _ + ((0 : Int) + f (oneG live n y a node (itG live n y a l m))) = _
    rw [h m (Nat.lt_succ_self m)]; omega
theorem node_cnt {node : Int} : sumF (isN x) (nodeG (liveN s 6) n y a l node) (cntG (liveN s 6) n y a l) = if node = x then (cntG (liveN s 6) n y a l : Int) else 0 := by
  unfold nodeG
  by_cases e : node = x
  · rw [if_pos e, sumF_gf (v := fun q => (q : Int)) (fun q _ => by unfold isN oneG; rw [if_pos e]; show (1 : Int) = ((q + 1 : Nat) : Int) - (q : Int); omega)]
    show (cntG (liveN s 6) n y a l : Int) - ((0 : Nat) : Int) = _; omega
  · rw [if_neg e, sumF_gf (v := fun _ => 0) (fun q _ => by unfold isN oneG; rw [if_neg e]; rfl)]; rfl
theorem node_amt {node : Int} (hn : n = (liveN s 6).length) (ha : a < 6) : sumF (amN x) (nodeG (liveN s 6) n y a l node) (cntG (liveN s 6) n y a l) = if node = x then itG (liveN s 6) n y a l (cntG (liveN s 6) n y a l) a - l a else 0 := by
  have hg := (cnt_go (y := y) (l := l) (live_ok s hn) ha).2.1
  unfold nodeG
  by_cases e : node = x
  · rw [if_pos e, sumF_gf (v := fun q => itG (liveN s 6) n y a l q a) (fun q hq => by
      obtain ⟨b, hb, hne, hlb, ef, hp, hlt, enx, _⟩ := go_is hn (hg q hq)
      show (if node = x then gAmt _ (frG _ _ _ _ - 1).toNat a y else 0) = itG (liveN s 6) n y a l (q + 1) a - itG (liveN s 6) n y a l q a
      rw [if_pos e, ef, show ((b : Int) + 1 - 1).toNat = b by omega, enx, mvG_at hne, if_pos rfl]; omega)]
    rfl
  · rw [if_neg e, sumF_gf (v := fun _ => 0) (fun q _ => by unfold amN oneG; rw [if_neg e]; rfl)]; rfl
theorem amt_in (hn : n = (liveN s 6).length) (ha : a < 6) (hla : isLive s a = true) (hl : LoOk l) (hy : y ≤ 1125899906842624) {node : Int} : ∀ c, (∀ q, q < c → goG (liveN s 6) n y a l q = true) → ∀ g ∈ gfN (liveN s 6) n y a l node c, 1 ≤ g.amt ∧ g.amt ≤ y
  | 0, _, g, h => absurd h List.not_mem_nil
  | c + 1, hg, g, h => by
    rcases List.mem_append.1 h with h1 | h1
    · exact amt_in hn ha hla hl hy c (fun q hq => hg q (by omega)) g h1
    · obtain rfl : g = oneG (liveN s 6) n y a node (itG (liveN s 6) n y a l c) := List.mem_singleton.1 h1
      obtain ⟨i1, _, _, _⟩ := it_inv hn ha hla hl hy c fun q hq => hg q (by omega)
      obtain ⟨b, hb, hne, hlb, ef, hp, hlt, _, _⟩ := go_is hn (hg c (Nat.lt_succ_self c))
      have := gAmt_bd (b := b) hlt hp
      have h0 := i1 a ha
      show 1 ≤ gAmt _ (frG _ _ _ _ - 1).toNat a y ∧ gAmt _ (frG _ _ _ _ - 1).toNat a y ≤ y
      rw [ef, show ((b : Int) + 1 - 1).toNat = b by omega]
      omega
theorem gsP_amt (hI : Inv0 L0 T) (hn : n = (liveN s 6).length) (ha : a < 6) (hla : isLive s a = true) (hy : y ≤ 1125899906842624) : ∀ P, P ≤ pathN L0 x → ∀ g ∈ gsP s n y a L0 x P, 1 ≤ g.amt ∧ g.amt ≤ y
  | 0, _, g, h => absurd h List.not_mem_nil
  | P + 1, hP, g, h => by
    rcases List.mem_append.1 h with h1 | h1
    · exact gsP_amt hI hn ha hla hy P (by omega) g h1
    · exact amt_in hn ha hla (lo_ok hI (nd_find (by omega))) hy _ (cnt_go (y := y) (l := loP L0 x P) (live_ok s hn) ha).2.1 g h1
theorem gsP_at {k : Nat} {gs : List GiftM} (h : k < gs.length) : gs.getD k gf0 ∈ gs := by
  rw [List.getD_eq_getElem?_getD, List.getElem?_eq_getElem h]; exact List.getElem_mem h
theorem gsP_sum {v : Nat → Int} (hI : Inv0 L0 T) (h0 : 0 < L0.nn) {p0 : Nat} (hp0 : p0 < pathN L0 x) (hf : ∀ p, p < pathN L0 x → sumF f (nodeG (liveN s 6) n y a (loP L0 x p) (ndAt L0 x p)) (cntG (liveN s 6) n y a (loP L0 x p)) = if ndAt L0 x p = ndAt L0 x p0 then v p else 0) :
    ∀ P, P ≤ pathN L0 x → sumF f (gsP s n y a L0 x P) (gsP s n y a L0 x P).length = if p0 < P then v p0 else 0
  | 0, _ => rfl
  | P + 1, hP => by
    have ih := gsP_sum hI h0 hp0 hf P (by omega)
    rw [gsP_len]
    show sumF f (gsP s n y a L0 x P ++ nodeG (liveN s 6) n y a (loP L0 x P) (ndAt L0 x P)) _ = _
    rw [sumF_app, ih, hf P (by omega)]
    by_cases e : P = p0
    · subst e; rw [if_neg (Nat.lt_irrefl _), if_pos rfl, if_pos (Nat.lt_succ_self _)]; omega
    · rw [if_neg (nd_ne hI h0 (by omega) hp0 e)]
      by_cases h : p0 < P
      · rw [if_pos h, if_pos (by omega)]; omega
      · rw [if_neg h, if_neg (by omega)]; rfl
theorem card_del {S : Nat → Bool} {j : Nat} (hj : S j = true) : ∀ k, cardS (fun q => S q && !decide (q = j)) k + (if j < k then 1 else 0) = cardS S k
  | 0 => rfl
  | k + 1 => by
    have ih := card_del hj k
    unfold cardS
    by_cases e : k = j
    · subst e
      rw [if_neg (Nat.lt_irrefl _)] at ih
      rw [show (S k && !decide (k = k)) = false by rw [decide_eq_true rfl, Bool.not_true, Bool.and_false], hj, if_pos (Nat.lt_succ_self k), if_pos rfl]
      simp only [Bool.false_eq_true, if_false]; omega
    · rw [show (S k && !decide (k = j)) = S k by rw [decide_eq_false e, Bool.not_false, Bool.and_true]]
      by_cases h : j < k
      · rw [if_pos h] at ih; rw [if_pos (show j < k + 1 by omega)]; omega
      · rw [if_neg h] at ih; rw [if_neg (show ¬ j < k + 1 by omega)]; omega
theorem has_del {S : Nat → Bool} {j : Nat} (hj : S j = true) (hl : LoOk l) : ∀ k, k ≤ 6 → hasS (fun q => S q && !decide (q = j)) l k + (if j < k then l j else 0) = hasS S l k
  | 0, _ => rfl
  | k + 1, hk => by
    have ih := has_del hj hl k (by omega)
    have hlk := hl k (by omega)
    unfold hasS
    by_cases e : k = j
    · subst e
      rw [if_neg (Nat.lt_irrefl _)] at ih
      rw [show (S k && !decide (k = k)) = false by rw [decide_eq_true rfl, Bool.not_true, Bool.and_false], hj, if_pos (Nat.lt_succ_self k), if_pos rfl, if_neg (show ¬ 0 > l k by omega)]
      simp only [Bool.false_eq_true, if_false]; omega
    · rw [show (S k && !decide (k = j)) = S k by rw [decide_eq_false e, Bool.not_false, Bool.and_true]]
      by_cases h : j < k
      · rw [if_pos h] at ih; rw [if_pos (show j < k + 1 by omega)]; omega
      · rw [if_neg h] at ih; rw [if_neg (show ¬ j < k + 1 by omega)]; omega
theorem has_bd {S : Nat → Bool} (hl : LoOk l) : ∀ k, k ≤ 6 → 0 ≤ hasS S l k ∧ hasS S l k ≤ 9007199254740992 * (k : Int)
  | 0, _ => ⟨Int.le_refl _, Int.le_refl _⟩
  | k + 1, hk => by
    have ih := has_bd (S := S) hl k (by omega)
    have hlk := hl k (by omega)
    unfold hasS
    rw [if_neg (show ¬ 0 > l k by omega)]
    split <;> omega
theorem card_bd {S : Nat → Bool} : ∀ k, cardS S k ≤ k
  | 0 => Nat.le_refl _
  | k + 1 => by have := card_bd (S := S) k; unfold cardS; split <;> omega
theorem has_none {S : Nat → Bool} : ∀ k, (∀ j, j < k → S j = false) → hasS S l k = 0
  | 0, _ => rfl
  | k + 1, h => by unfold hasS; rw [has_none k fun j hj => h j (by omega), h k (by omega), if_neg (by decide)]; rfl
theorem card_none {S : Nat → Bool} : ∀ k, cardS S k = 0 → ∀ j, j < k → S j = false
  | 0, _, j, hj => absurd hj (Nat.not_lt_zero j)
  | k + 1, h, j, hj => by
    unfold cardS at h
    have h1 : ¬ S k = true := fun e => by rw [if_pos e] at h; omega
    rw [if_neg h1] at h
    rcases Nat.lt_or_eq_of_le (Nat.le_of_lt_succ hj) with h2 | h2
    · exact card_none k (by omega) j h2
    · rw [h2]; simpa using h1
theorem has_gone {S : Nat → Bool} {it : Nat → Int} (hl : LoOk l) (h1 : ∀ j, j < 6 → S j = true → isLive s j = true ∧ j ≠ a ∧ it j = 0) (h2 : ∀ j, j < 6 → j ≠ a → it j ≤ l j) : ∀ k, k ≤ 6 → hasS S l k ≤ sumS s l k - sumS s it k - (if a < k ∧ isLive s a = true then l a - it a else 0)
  | 0, _ => by unfold hasS sumS; rw [if_neg (fun h => absurd h.1 (Nat.not_lt_zero _))]; omega
  | k + 1, hk => by
    have ih := has_gone hl h1 h2 k (by omega)
    have hlk := hl k (by omega)
    unfold hasS sumS
    rw [if_neg (show ¬ 0 > l k by omega)]
    by_cases e : k = a
    · subst e
      rw [if_neg (show ¬ (k < k ∧ isLive s k = true) from fun h => absurd h.1 (Nat.lt_irrefl _))] at ih
      have hS : ¬ S k = true := fun h => (h1 k (by omega) h).2.1 rfl
      rw [if_neg hS]
      by_cases hlv : isLive s k = true
      · rw [if_pos hlv, if_pos hlv, if_pos (show k < k + 1 ∧ isLive s k = true from ⟨Nat.lt_succ_self k, hlv⟩)]; omega
      · rw [if_neg hlv, if_neg hlv, if_neg (show ¬ (k < k + 1 ∧ isLive s k = true) from fun h => hlv h.2)]; omega
    · have h3 := h2 k (by omega) e
      have e4 : (if a < k + 1 ∧ isLive s a = true then l a - it a else 0) = (if a < k ∧ isLive s a = true then l a - it a else 0) := by
        by_cases h : a < k ∧ isLive s a = true
        · rw [if_pos h, if_pos (show a < k + 1 ∧ isLive s a = true from ⟨by omega, h.2⟩)]
        · rw [if_neg h, if_neg (show ¬ (a < k + 1 ∧ isLive s a = true) from fun h4 => h ⟨by omega, h4.2⟩)]
      rw [e4]
      by_cases hS : S k = true
      · obtain ⟨h5, _, h6⟩ := h1 k (by omega) hS
        rw [if_pos hS, if_pos h5, if_pos h5]; omega
      · rw [if_neg hS]
        by_cases hlv : isLive s k = true
        · rw [if_pos hlv, if_pos hlv]; omega
        · rw [if_neg hlv, if_neg hlv]; omega
theorem min_inv (hn : n = (liveN s 6).length) (ha : a < 6) (hla : isLive s a = true) (hl : LoOk l) (hy : y ≤ 1125899906842624) : ∀ m, (∀ q, q ≤ m → goG (liveN s 6) n y a l q = true) →
    (∀ j, j < 6 → j ≠ a → itG (liveN s 6) n y a l m j = l j ∨ itG (liveN s 6) n y a l m j = 0) ∧
    ∀ S : Nat → Bool, (∀ j, j < 6 → S j = true → isLive s j = true ∧ j ≠ a) → cardS S 6 ≤ m → hasS S l 6 ≤ itG (liveN s 6) n y a l m a - l a
  | 0, _ => ⟨fun _ _ _ => .inl rfl, fun S _ hc => by
    rw [has_none 6 (card_none 6 (by omega))]
    show (0 : Int) ≤ l a - l a; omega⟩
  | m + 1, hg => by
    obtain ⟨i1, i2⟩ := min_inv hn ha hla hl hy m fun q hq => hg q (by omega)
    obtain ⟨j1, j2, _, j4⟩ := it_inv hn ha hla hl hy m fun q hq => hg q (by omega)
    obtain ⟨b, hb, hne, hlb, ef, hp, hlt, enx, hmax⟩ := go_is hn (hg m (by omega))
    have hnext := hg (m + 1) (Nat.le_refl _)
    have hlt2 : itG (liveN s 6) n y a l (m + 1) a < y := by
      unfold goG at hnext
      simp only [Bool.and_eq_true, decide_eq_true_eq] at hnext
      exact hnext.1
    have ea : itG (liveN s 6) n y a l (m + 1) a = itG (liveN s 6) n y a l m a + gAmt (itG (liveN s 6) n y a l m) b a y := by rw [enx, mvG_at hne, if_pos rfl]
    have hfull : gAmt (itG (liveN s 6) n y a l m) b a y = itG (liveN s 6) n y a l m b := by
      unfold gAmt at ea ⊢
      split
      · rename_i h; rw [if_pos h] at ea; omega
      · rfl
    rw [hfull] at ea
    have hle : ∀ j, j < 6 → j ≠ a → itG (liveN s 6) n y a l m j ≤ l j := fun j hj hja => by
      have := hl j hj
      rcases i1 j hj hja with h | h <;> omega
    refine ⟨fun j hj hja => ?_, fun S hS hc => ?_⟩
    · rw [enx, mvG_at hne, if_neg hja, hfull]
      by_cases e : j = b
      · rw [if_pos e]; right; omega
      · rw [if_neg e]; exact i1 j hj hja
    · rw [ea]
      by_cases hex : ∃ j, j < 6 ∧ S j = true ∧ l j ≤ itG (liveN s 6) n y a l m b
      · obtain ⟨j, hj, hSj, hlj⟩ := hex
        have h1 := card_del hSj 6
        have h2 := has_del (l := l) hSj hl 6 (Nat.le_refl _)
        rw [if_pos hj] at h1 h2
        have h3 := i2 (fun q => S q && !decide (q = j)) (fun q hq hb2 => hS q hq (by
          rw [Bool.and_eq_true] at hb2; exact hb2.1)) (by omega)
        omega
      · have hz : ∀ j, j < 6 → S j = true → isLive s j = true ∧ j ≠ a ∧ itG (liveN s 6) n y a l m j = 0 := fun j hj hSj => by
          obtain ⟨h1, h2⟩ := hS j hj hSj
          refine ⟨h1, h2, ?_⟩
          rcases i1 j hj h2 with h3 | h3
          · exfalso
            have := hmax j hj h2 h1
            exact hex ⟨j, hj, hSj, by omega⟩
          · exact h3
        have h4 := has_gone (s := s) (a := a) hl hz hle 6 (Nat.le_refl _)
        rw [j2, if_pos ⟨ha, hla⟩] at h4
        omega
theorem min_set (hn : n = (liveN s 6).length) (ha : a < 6) (hla : isLive s a = true) (hl : LoOk l) (hy : y ≤ 1125899906842624) {S : Nat → Bool} (hS : ∀ j, j < 6 → S j = true → isLive s j = true ∧ j ≠ a) (hc : cardS S 6 < cntG (liveN s 6) n y a l) : hasS S l 6 < y - l a := by
  obtain ⟨_, c2, _⟩ := cnt_go (y := y) (l := l) (live_ok s hn) ha
  have hg : ∀ q, q ≤ cntG (liveN s 6) n y a l - 1 → goG (liveN s 6) n y a l q = true := fun q hq => c2 q (by omega)
  have h1 := (min_inv hn ha hla hl hy _ hg).2 S hS (by omega)
  have h2 := hg _ (Nat.le_refl _)
  unfold goG at h2
  simp only [Bool.and_eq_true, decide_eq_true_eq] at h2
  have := h2.1
  omega
end
end Rt
end
section
namespace Rt
def quL (m : LdM) (x : Int) (p : Nat) : Nat → Value := quN (m.R (firstS m.id m.s.nn (ndAt m.core x p)).toNat) 6
theorem quL_at {m : LdM} {x : Int} {p q j : Nat} (h : q = j + 2) (hj : j < 6) : quL m x p q = .int .i64 (loP m.core x p j) := qu_at h hj
theorem pathN_eq (m : LdM) (x : Int) : pathS m.id m.par m.s.nn x = pathN m.core x := rfl
theorem pt_at (m : LdM) (x : Int) (z : Nat) : ptU m.id m.par m.s.nn x z = .int .u64 (ndAt m.core x z) := rfl
def mx0 (v : Int) : Int := if 0 > v then 0 else v
theorem sum_zero {f : GiftM → Int} {gs : List GiftM} : sumF f gs 0 = 0 := rfl
theorem card_zero {S : Nat → Bool} {l : Nat → Int} : cardS S 0 = 0 ∧ hasS S l 0 = 0 := ⟨rfl, rfl⟩
theorem mx_nn {v : Int} (h : 0 ≤ v) : mx0 v = v := if_neg (by omega)
def setS (t a : Nat) : Nat → Bool := fun j => bitS t j && !decide (j = a)
theorem set_yes {t a j : Nat} (h : bitI t j % 2 = 1) (h2 : ¬ (j : Int) + 1 = (a : Int) + 1) : setS t a j = true := by
  unfold setS bitS; rw [decide_eq_true h, decide_eq_false (show ¬ j = a by omega)]; rfl
theorem set_no1 {t a j : Nat} (h : ¬ bitI t j % 2 = 1) : setS t a j = false := by unfold setS bitS; rw [decide_eq_false h]; rfl
theorem set_no2 {t a j : Nat} (h : (j : Int) + 1 = (a : Int) + 1) : setS t a j = false := by unfold setS; rw [decide_eq_true (show j = a by omega), Bool.not_true, Bool.and_false]
theorem st_yes {S : Nat → Bool} {l : Nat → Int} {j : Nat} (h : S j = true) : cardS S (j + 1) = cardS S j + 1 ∧ hasS S l (j + 1) = hasS S l j + mx0 (l j) := by
  constructor
  · show _ + (if _ then _ else _) = _; rw [if_pos h]
  · show _ + (if _ then _ else _) = _; rw [if_pos h]; rfl
theorem st_no {S : Nat → Bool} {l : Nat → Int} {j : Nat} (h : S j = false) : cardS S (j + 1) = cardS S j ∧ hasS S l (j + 1) = hasS S l j := by
  constructor
  · show _ + (if _ then _ else _) = _; rw [if_neg (by rw [h]; decide)]; rfl
  · show _ + (if _ then _ else _) = _; rw [if_neg (by rw [h]; decide)]; omega
theorem sm_yes {x : Int} {gs : List GiftM} {k : Nat} (h : (gs.getD k gf0).node = x) : sumF (isN x) gs (k + 1) = sumF (isN x) gs k + 1 ∧ sumF (amN x) gs (k + 1) = sumF (amN x) gs k + (gs.getD k gf0).amt := by
  constructor
  · show _ + isN _ _ = _; unfold isN; rw [if_pos h]
  · show _ + amN _ _ = _; unfold amN; rw [if_pos h]
theorem sm_no {x : Int} {gs : List GiftM} {k : Nat} (h : ¬ (gs.getD k gf0).node = x) : sumF (isN x) gs (k + 1) = sumF (isN x) gs k ∧ sumF (amN x) gs (k + 1) = sumF (amN x) gs k := by
  constructor
  · show _ + isN _ _ = _; unfold isN; rw [if_neg h]; omega
  · show _ + amN _ _ = _; unfold amN; rw [if_neg h]; omega
end Rt
attribute [local irreducible] cntG itG gsP pathN liveN sumF
namespace Rt
theorem few_sum {m : LdM} {n a T p k : Nat} {y x : Int} (hI : Inv m.core T) (hn : n = (liveN m.s 6).length) (ha : a < 6) (hla : isLive m.s a = true) (hf : 0 ≤ firstS m.core.id m.core.nn x) (hy : 1 ≤ y ∧ y ≤ 65536) (hp : p < pathN m.core x) (hok : ∀ q, q < pathN m.core x → okG (liveN m.s 6) n y a (loP m.core x q) = true) (hk : k = (gsP m.s n y a m.core x (pathN m.core x)).length) :
    sumF (isN (ndAt m.core x p)) (gsP m.s n y a m.core x (pathN m.core x)) k = (cntG (liveN m.s 6) n y a (loP m.core x p) : Int) ∧ sumF (amN (ndAt m.core x p)) (gsP m.s n y a m.core x (pathN m.core x)) k = mx0 (y - loP m.core x p a) := by
  subst hk
  have h0 := nn_pos hf
  have h1 := gsP_sum (s := m.s) (n := n) (y := y) (a := a) (f := isN (ndAt m.core x p)) (v := fun q => (cntG (liveN m.s 6) n y a (loP m.core x q) : Int)) hI.toInv0 h0 hp (fun q _ => node_cnt) (pathN m.core x) (Nat.le_refl _)
  have h2 := gsP_sum (s := m.s) (n := n) (y := y) (a := a) (f := amN (ndAt m.core x p)) (v := fun q => itG (liveN m.s 6) n y a (loP m.core x q) (cntG (liveN m.s 6) n y a (loP m.core x q)) a - loP m.core x q a) hI.toInv0 h0 hp (fun q _ => node_amt hn ha) (pathN m.core x) (Nat.le_refl _)
  rw [if_pos hp] at h1 h2
  refine ⟨h1, h2.trans ?_⟩
  have hlo : LoOk (loP m.core x p) := lo_ok (L := m.core) hI.toInv0 (nd_find hp)
  have he := end_at (y := y) hn ha hla hlo (by omega) (hok p hp)
  have hz := cnt_zero (s := m.s) (n := n) (y := y) (a := a) (l := loP m.core x p) hn ha (hok p hp)
  show itG (liveN m.s 6) n y a (loP m.core x p) (cntG (liveN m.s 6) n y a (loP m.core x p)) a - loP m.core x p a = mx0 (y - loP m.core x p a)
  unfold mx0
  by_cases c : cntG (liveN m.s 6) n y a (loP m.core x p) = 0
  · have h3 := hz.1 c
    rw [c, it0]
    generalize loP m.core x p a = z at h3
    split <;> omega
  · have h3 := he.2 c
    have h4 : ¬ y ≤ loP m.core x p a := fun h => c (hz.2 h)
    rw [h3]
    generalize loP m.core x p a = z at h4
    rw [if_neg (by omega)]
theorem few_no {m : LdM} {n a t T p : Nat} {y x : Int} (hI : Inv m.core T) (hn : n = (liveN m.s 6).length) (ha : a < 6) (hla : isLive m.s a = true) (hy : 1 ≤ y ∧ y ≤ 65536) (hp : p < pathN m.core x) (hset : SetOk m.s a t) (hc : (cardS (setS t a) 6 : Int) < (cntG (liveN m.s 6) n y a (loP m.core x p) : Int)) (hh : mx0 (y - loP m.core x p a) ≤ hasS (setS t a) (loP m.core x p) 6) : False := by
  have hlo : LoOk (loP m.core x p) := lo_ok (L := m.core) hI.toInv0 (nd_find hp)
  have := min_set (s := m.s) (y := y) hn ha hla hlo (by omega) (S := setS t a) (fun j hj hb => by
    unfold setS at hb
    simp only [Bool.and_eq_true, Bool.not_eq_true', decide_eq_false_iff_not] at hb
    exact ⟨(hset j hj hb.1).resolve_left hb.2, hb.2⟩) (by omega)
  unfold mx0 at hh
  generalize loP m.core x p a = z at *
  split at hh <;> omega
end Rt
theorem k_of (m : LdM) (x : Int) (p : Nat) (w : World) (hnd : Fx.Arr w m.s.na m.s.nn 56 (ndX m)) (hnn : m.s.nn ≤ 1000000) (hp : p < pathN m.core x) : Calls Try.prog 62 #[.agg (Fx.varr 20 (stY m.s)), .int .u64 (ndAt m.core x p)] w fun e w' => e = .returned (.tuple #[.agg (Fx.varr 8 (quL m x p)), .int .i64 (0)]) ∧ Below w.heap.size w w' :=
  rq_of m.s m.id m.par m.R (ndAt m.core x p) w hnd hnn (nd_find (L := m.core) hp)
attribute [local irreducible] firstS nodeM cardS hasS ndAt
set_option maxRecDepth 20000 in
set_option maxHeartbeats 2000000 in
theorem fewest33_any (rb : Nat) (aa0 : Option Addr) (na ca : Nat) (xa : Nat → ActM) (wh pk xx : Nat) (w : World) (hrb : rb ≤ 255) (hwh : wh ≤ 255) (hpk : pk ≤ 255) (hxx : xx ≤ 65535) (hxa : ∀ k, k < na → ActOk (xa k)) (hacts : Fx.Arr w aa0 na 9 (Fx.flat 9 fun k => actY (xa k))) :
    Calls Try.prog 14 #[.int .u8 ((rb : Int)), .slice aa0 (na) (ca), .int .u8 ((wh : Int)), .int .u8 ((pk : Int)), .int .u16 ((xx : Int))] w fun e w' => e = .returned (.bool true) ∧ Below w.heap.size w w' := by
 refine Fx.enter Try.func14 rfl (n := 196) rfl (by rfl) ?_
 refine Fx.W.seq (Fx.W.list (Fx.L.v (.bool false) (x_assign rfl rfl) (Fx.L.nil (Fx.seqN (Fx.W.seq (Fx.W.seq (Fx.W.list (Fx.L.v (.slice aa0 (na) (ca)) (x_move rfl rfl) (Fx.L.v (.int .i64 ((na : Int))) (x_len rfl rfl rfl (by kernel_rfl)) ?_)))))))))
 by_cases c33 : 60 < (na : Int)
 ·refine Fx.L.v (.bool true) (Fx.x_gtrT rfl rfl rfl c33) (Fx.L.nil (Fx.seqN (Fx.W.cond (b := true) rfl (fun _ => Fx.W.seq (Fx.W.list (Fx.L.call (by rfl) (Fx.r_call (args := []) rfl rfl Try.func53 rfl rfl) rfl ((works33_any _).mono ?_)))) (fun h => nomatch h))))
  rintro e w1 ⟨he, hb1⟩
  refine ⟨.bool true, by rw [he], ?_⟩
  clear he
  have s1 := Fx.Stp.of_below hb1
  have b1 := s1.below (Below.refl w.heap.size w) (Below.refl w.heap.size w).size (Below.refl w.heap.size w).size
  refine Fx.L.v (.bool true) (x_assign rfl rfl) (Fx.L.nil (Fx.seqN (Fx.W.ret (Fx.seqR (⟨.bool true, Fx.retV1 Try.results14 (by exact rfl), ?_⟩)))))
  exact ⟨rfl, b1⟩
 ·refine Fx.L.v (.bool false) (x_gtrF rfl rfl rfl c33) (Fx.L.nil (Fx.seqN (Fx.W.cond (b := false) rfl (fun h => nomatch h) (fun _ => Fx.W.skip (Fx.seqN (Fx.W.seq ?_))))))
  have hna60 : na ≤ 60 := by omega
  refine Fx.W.list (Fx.L.v (.int .u8 ((rb : Int))) (x_move rfl rfl) (Fx.L.v (.slice aa0 (na) (ca)) (x_move rfl rfl) (Fx.L.call (by rfl) (Fx.r_call (args := [.int .u8 ((rb : Int)), .slice aa0 (na) (ca)]) rfl rfl Try.func54 rfl rfl) rfl ((r33_met rb aa0 na ca xa _ hrb (by omega) hxa hacts).mono ?_))))
  rintro e9 w2 ⟨pw, M8, T8, p0, m0, he, hWm, hL0, hI0, hT8, hMa8, hbm⟩
  refine ⟨_, he, ?_⟩
  clear he
  have s2 := Fx.Stp.of_below hbm
  have b2 := s2.below (Below.refl w.heap.size w) (Below.refl w.heap.size w).size (Below.refl w.heap.size w).size
  have hLoc := hL0.c
  have hWc := hWm.c
  refine Fx.L.v (.tuple #[.pointer (some ⟨p0, 0, none⟩), .pointer (some ⟨pw, 0, none⟩)]) (x_move rfl rfl) (Fx.L.v (.pointer (some ⟨p0, 0, none⟩)) (Fx.x_extract rfl rfl rfl) (Fx.L.v (.pointer (some ⟨pw, 0, none⟩)) (Fx.x_extract rfl rfl rfl) (Fx.L.v (.pointer (some ⟨p0, 0, none⟩)) (x_assign rfl rfl) (Fx.L.v (.pointer (some ⟨pw, 0, none⟩)) (x_assign rfl rfl) (Fx.L.nil (Fx.seqN (Fx.W.seq (Fx.W.list (Fx.L.v (.pointer (some ⟨p0, 0, none⟩)) (x_move rfl rfl) (Fx.L.v (.int .u8 ((pk : Int))) (x_move rfl rfl) (Fx.L.v (.int .i64 ((pk : Int))) (x_conv rfl rfl (by kernel_rfl) Try.underlying3 (Fx.i64e (by omega) rfl)) (Fx.L.call (by rfl) (Fx.r_call (args := [.pointer (some ⟨p0, 0, none⟩), .int .i64 ((pk : Int))]) rfl rfl Try.func24 rfl rfl) rfl ((l_nodeId m0 p0 pk _ hL0.ldg (by omega)).mono ?_)))))))))))))
  rintro e w3 ⟨he, hb2⟩
  refine ⟨.int .u64 (nodeM m0 pk), by rw [he], ?_⟩
  clear he
  have s3 := Fx.Stp.of_below hb2
  have m1 := hL0.up s3.old
  have m2 := hLoc.stp s3 (Nat.ne_of_lt (hLoc.lt))
  have b3 := s3.below b2 b2.size b2.size
  refine Fx.L.v (.int .u64 (nodeM m0 pk)) (x_assign rfl rfl) (Fx.L.nil (Fx.seqN (Fx.W.seq (Fx.W.list (Fx.L.v (.pointer (some ⟨p0, 0, none⟩)) (x_move rfl rfl) (Fx.L.v (.pointer (some ⟨p0, 0, none⟩)) (x_nil rfl rfl) (Fx.L.v (.pointer (some ⟨p0, 0, none⟩)) (x_field rfl rfl Try.underlying71 rfl (s := 20) (by kernel_rfl) rfl rfl) (Fx.L.v (.agg (Fx.varr 20 (fun j => (ldY m0) (0 + j)))) (x_loadA (x := ldY m0) (y := fun j => (ldY m0) (0 + j)) rfl rfl (by kernel_rfl) (by kernel_rfl) m2.cel (i := 0) (by omega) (by omega) (fun _ _ => rfl)) (Fx.L.call (by rfl) (Fx.r_call (args := [.agg (Fx.varr 20 (fun j => (ldY m0) (0 + j)))]) rfl rfl Try.func31 rfl rfl) rfl ((r_live m0.s _).mono ?_))))))))))
  rintro e9 w4 ⟨v9, nl, he, hnl, hO9, hb9⟩
  obtain ⟨a9, cap9, rfl⟩ := hO9.val
  refine ⟨.slice a9 nl cap9, he, ?_⟩
  clear he
  have s4 := Fx.Stp.of_below hb9
  have m4 := m1.up s4.old
  have m5 := m2.stp s4 (Nat.ne_of_lt (m2.lt))
  have b4 := s4.below b3 b3.size b3.size
  have hn9l : nl ≤ 6 := by rw [hnl]; exact live_len m0.s 6
  refine Fx.L.v (.slice a9 (nl) (cap9)) (x_assign rfl rfl) (Fx.L.nil (Fx.seqN (Fx.W.seq (Fx.W.seq (Fx.W.list (Fx.L.v (.slice a9 (nl) (cap9)) (x_move rfl rfl) (Fx.L.v (.int .i64 ((nl : Int))) (x_len rfl rfl rfl (by kernel_rfl)) ?_)))))))
  by_cases c52 : (nl : Int) = 0
  ·refine Fx.L.v (.bool true) (x_eqlT rfl rfl rfl c52) (Fx.L.v (.bool true) (x_move rfl rfl) (Fx.L.skip (by rfl) rfl (Fx.L.skip (by rfl) rfl (Fx.L.v (.bool true) (x_pickT rfl rfl rfl) (Fx.L.nil (Fx.seqN (Fx.W.cond (b := true) rfl (fun _ => Fx.W.seq (Fx.W.list (Fx.L.call (by rfl) (Fx.r_call (args := []) rfl rfl Try.func53 rfl rfl) rfl ((works33_any _).mono ?_)))) (fun h => nomatch h))))))))
   rintro e w5 ⟨he, hb3⟩
   refine ⟨.bool true, by rw [he], ?_⟩
   clear he
   have s5 := Fx.Stp.of_below hb3
   have b5 := s5.below b4 b4.size b4.size
   refine Fx.L.v (.bool true) (x_assign rfl rfl) (Fx.L.nil (Fx.seqN (Fx.W.ret (Fx.seqR (⟨.bool true, Fx.retV1 Try.results14 (by exact rfl), ?_⟩)))))
   exact ⟨rfl, b5⟩
  ·refine Fx.L.v (.bool false) (x_eqlF rfl rfl rfl c52) (Fx.L.v (.bool false) (x_move rfl rfl) (Fx.L.v (.int .u64 (nodeM m0 pk)) (x_move rfl rfl) ?_))
   by_cases c55 : (nodeM m0 pk) = 0
   ·refine Fx.L.v (.bool true) (x_eqlT rfl rfl rfl c55) (Fx.L.v (.bool true) (x_pickF rfl rfl rfl) (Fx.L.nil (Fx.seqN (Fx.W.cond (b := true) rfl (fun _ => Fx.W.seq (Fx.W.list (Fx.L.call (by rfl) (Fx.r_call (args := []) rfl rfl Try.func53 rfl rfl) rfl ((works33_any _).mono ?_)))) (fun h => nomatch h)))))
    rintro e w6 ⟨he, hb4⟩
    refine ⟨.bool true, by rw [he], ?_⟩
    clear he
    have s6 := Fx.Stp.of_below hb4
    have b6 := s6.below b4 b4.size b4.size
    refine Fx.L.v (.bool true) (x_assign rfl rfl) (Fx.L.nil (Fx.seqN (Fx.W.ret (Fx.seqR (⟨.bool true, Fx.retV1 Try.results14 (by exact rfl), ?_⟩)))))
    exact ⟨rfl, b6⟩
   ·refine Fx.L.v (.bool false) (x_eqlF rfl rfl rfl c55) (Fx.L.v (.bool false) (x_pickF rfl rfl rfl) (Fx.L.nil (Fx.seqN (Fx.W.cond (b := false) rfl (fun h => nomatch h) (fun _ => Fx.W.skip (Fx.seqN (Fx.W.seq ?_)))))))
    obtain ⟨qi, eqi⟩ : ∃ r, r = wh % nl := ⟨_, rfl⟩
    have hqi : qi < nl := by rw [eqi]; exact Nat.mod_lt _ (by omega)
    refine Fx.W.list (Fx.L.v (.slice a9 (nl) (cap9)) (x_move rfl rfl) (Fx.L.v (.int .u8 ((wh : Int))) (x_move rfl rfl) (Fx.L.v (.int .i64 ((wh : Int))) (x_conv rfl rfl (by kernel_rfl) Try.underlying3 (Fx.i64e (by omega) rfl)) (Fx.L.v (.slice a9 (nl) (cap9)) (x_move rfl rfl) (Fx.L.v (.int .i64 ((nl : Int))) (x_len rfl rfl rfl (by kernel_rfl)) (Fx.L.v (.int .i64 ((qi : Int))) (Fx.x_rem rfl rfl rfl (by omega) (remL eqi)) ?_))))))
    obtain ⟨gq1, eq1⟩ := hO9.addr (by omega)
    have m15 : Fx.Own w4 w3.heap.size 3 1 (.slice (some ⟨gq1, 0, none⟩) nl cap9) nl (lsX (liveN m0.s 6)) := hO9.congV (congrArg (fun q => Value.slice q nl cap9) eq1)
    refine Fx.L.v (.pointer (some ⟨gq1, qi, none⟩)) (x_indexS rfl (rfl.trans (congrArg (fun q => Value.slice q (nl) (cap9)) eq1)) rfl Try.underlying23 (s := 1) (by kernel_rfl) (by omega) (by omega) (by omega)) (Fx.L.v (.int .i64 ((liveN m0.s 6).getD qi 0)) (x_load1 (x := lsX (liveN m0.s 6)) rfl rfl (by kernel_rfl) m15.cel (i := qi) (by omega) (by omega) rfl) (Fx.L.v (.int .i64 ((liveN m0.s 6).getD qi 0)) (x_assign rfl rfl) (Fx.L.nil (Fx.seqN (Fx.W.seq ?_)))))
    have m16 : Fx.Own w4 w3.heap.size 3 1 (.slice a9 (nl) (cap9)) nl (lsX (liveN m0.s 6)) := m15.congV (congrArg (fun q => Value.slice q nl cap9) eq1.symm)
    obtain ⟨a, ha, eqa, hla⟩ := live_at (q := qi) hnl (by omega)
    have hli : liveI m0.s ((a : Int) + 1) = true := (live_Iff ha).trans hla
    have hlc : (m0.core.inn a && !m0.core.left a) = true := hla
    have hf := node_find (m := m0) (k := pk) c55
    obtain ⟨nd, end9⟩ : ∃ q : Int, q = nodeM m0 pk := ⟨_, rfl⟩
    rw [← end9] at hf
    have hU := id_u hI0 hf
    refine Fx.W.list (Fx.L.v (.int .u16 ((xx : Int))) (x_move rfl rfl) (Fx.L.v (.int .i64 ((xx : Int))) (x_conv rfl rfl (by kernel_rfl) Try.underlying2 (Fx.i64e (by omega) rfl)) (Fx.L.v (.int .i64 ((xx : Int) + 1)) (Fx.x_add rfl rfl rfl (Fx.i64e (by omega) (by omega))) (Fx.L.v (.int .i64 ((xx : Int) + 1)) (x_assign rfl rfl) (Fx.L.nil (Fx.seqN (Fx.W.seq ?_)))))))
    obtain ⟨y, ey⟩ : ∃ q : Int, q = 1 + (xx : Int) := ⟨_, rfl⟩
    have hy9 : (xx : Int) + 1 = y := (by omega)
    have hy : 1 ≤ y ∧ y ≤ 65536 := by omega
    refine Fx.W.list (Fx.L.v (.pointer (some ⟨p0, 0, none⟩)) (x_move rfl rfl) (Fx.L.v (.pointer (some ⟨p0, 0, none⟩)) (x_nil rfl rfl) (Fx.L.v (.pointer (some ⟨p0, 0, none⟩)) (x_field rfl rfl Try.underlying71 rfl (s := 20) (by kernel_rfl) rfl rfl) (Fx.L.v (.agg (Fx.varr 20 (fun j => (ldY m0) (0 + j)))) (x_loadA (x := ldY m0) (y := fun j => (ldY m0) (0 + j)) rfl rfl (by kernel_rfl) (by kernel_rfl) m5.cel (i := 0) (by omega) (by omega) (fun _ _ => rfl)) (Fx.L.v (.int .i64 ((a : Int) + 1)) (x_move rfl (rfl.trans (congrArg (Value.int .i64) eqa))) (Fx.L.v (.int .u64 (nd)) (x_move rfl (rfl.trans (congrArg (Value.int .u64) end9.symm))) (Fx.L.v (.int .i64 (y)) (x_move rfl (rfl.trans (congrArg (Value.int .i64) hy9))) (Fx.L.call (by rfl) (Fx.r_call (args := [.agg (Fx.varr 20 (fun j => (ldY m0) (0 + j))), .int .i64 ((a : Int) + 1), .int .u64 (nd), .int .i64 (y)]) rfl rfl Try.func59 rfl rfl) rfl ((k_gifts m0 w.heap.size p0 T8 nd _ nl a y m4 hI0 ha hnl hli hf hy).mono ?_)))))))))
    rintro e9 w7 ⟨hor, hbg⟩
    rcases hor with ⟨vg, ng, he, hokA, hng, hOg⟩ | ⟨he, qb, hqb, hbad⟩
    ·obtain ⟨ag, cg, rfl⟩ := hOg.val
     refine ⟨_, he, ?_⟩
     clear he
     have s7 := Fx.Stp.of_below hbg
     have m17 := m4.up s7.old
     have m18 := m5.stp s7 (Nat.ne_of_lt (m5.lt))
     have m20 := m16.stp s7 (m16.notNew (Nat.le_refl _))
     have b7 := s7.below b4 b4.size b4.size
     refine Fx.L.v (.tuple #[.slice ag (ng) (cg), .int .i64 (0)]) (x_move rfl rfl) (Fx.L.v (.slice ag (ng) (cg)) (Fx.x_extract rfl rfl rfl) (Fx.L.v (.int .i64 (0)) (Fx.x_extract rfl rfl rfl) (Fx.L.v (.slice ag (ng) (cg)) (x_assign rfl rfl) (Fx.L.v (.int .i64 (0)) (x_assign rfl rfl) (Fx.L.nil (Fx.seqN (Fx.W.seq (Fx.W.seq (Fx.W.list (Fx.L.v (.int .i64 (0)) (x_move rfl rfl) (Fx.L.v (.bool false) (Fx.x_neqF rfl rfl rfl rfl) (Fx.L.nil (Fx.seqN (Fx.W.cond (b := false) rfl (fun h => nomatch h) (fun _ => Fx.W.skip (Fx.seqN (Fx.W.seq ?_)))))))))))))))))
     have hng0 : ng ≤ 200 := by rw [hng]; exact gs_len hnl ha hI0 hf
     refine Fx.W.list (Fx.L.v (.pointer (some ⟨p0, 0, none⟩)) (x_move rfl rfl) (Fx.L.v (.pointer (some ⟨p0, 0, none⟩)) (x_nil rfl rfl) (Fx.L.v (.pointer (some ⟨p0, 0, none⟩)) (x_field rfl rfl Try.underlying71 rfl (s := 20) (by kernel_rfl) rfl rfl) (Fx.L.v (.agg (Fx.varr 20 (fun j => (ldY m0) (0 + j)))) (x_loadA (x := ldY m0) (y := fun j => (ldY m0) (0 + j)) rfl rfl (by kernel_rfl) (by kernel_rfl) m18.cel (i := 0) (by omega) (by omega) (fun _ _ => rfl)) (Fx.L.v (.int .u64 (nd)) (x_move rfl (rfl.trans (congrArg (Value.int .u64) end9.symm))) (Fx.L.call (by rfl) (Fx.r_call (args := [.agg (Fx.varr 20 (fun j => (ldY m0) (0 + j))), .int .u64 (nd)]) rfl rfl Try.func61 rfl rfl) rfl ((rq_path m0.s m0.id m0.par m0.R nd _ m17.ldg.an (by have := m17.bn; omega)).mono ?_)))))))
     rintro e9 w8 ⟨vp, P, he, hP0, hOp, hbp⟩
     obtain ⟨ap, cp, rfl⟩ := hOp.val
     have hP : P = pathN m0.core nd := hP0.trans (pathN_eq m0 nd)
     clear hP0
     refine ⟨_, he, ?_⟩
     clear he
     have s8 := Fx.Stp.of_below hbp
     have m21 := m17.up s8.old
     have m22 := m18.stp s8 (Nat.ne_of_lt (m18.lt))
     have m24 := m20.stp s8 (m20.notNew (Nat.le_refl _))
     have m25 := hOg.stp s8 (hOg.notNew (Nat.le_refl _))
     have b8 := s8.below b7 b7.size b7.size
     have hP4 : P ≤ 4 := by rw [hP]; exact (path_T (x := nd) hI0.toInv0 (nn_pos hf)).2.1
     refine Fx.L.v (.slice ap (P) (cp)) (x_assign rfl rfl) (Fx.L.nil (Fx.seqN (Fx.W.seq (Fx.W.seq (Fx.W.list (Fx.L.v (.int .i64 (0)) (x_assign rfl rfl) (Fx.L.nil (Fx.seqN (Fx.W.block (Fx.W.loop (fun f w_ => ∃ pi : Nat, pi ≤ P ∧ f 11 = .pointer (some ⟨p0, 0, none⟩) ∧ f 14 = .slice a9 (nl) (cap9) ∧ f 15 = .int .i64 ((a : Int) + 1) ∧ f 16 = .int .i64 (y) ∧ f 17 = .slice ag (ng) (cg) ∧ f 19 = .slice ap (P) (cp) ∧ f 20 = .int .i64 ((pi : Int)) ∧ LdO w_ w.heap.size p0 m0 ∧ Fx.Blk w_ p0 27 (ldY m0) 71 ∧ Fx.Own w_ w3.heap.size 3 1 (.slice a9 (nl) (cap9)) nl (lsX (liveN m0.s 6)) ∧ Fx.Own w_ w4.heap.size 122 3 (.slice ag (ng) (cg)) ng (gfX (gsP m0.s nl y a m0.core nd (pathN m0.core nd))) ∧ Fx.Own w_ w7.heap.size 27 1 (.slice ap (P) (cp)) P (ptU m0.id m0.par m0.s.nn nd) ∧ Below w.heap.size w w_) (fun f _ => (P - (intOf (f 20)).toNat)) ⟨0, by omega, (by rfl), (by rfl), ((rfl.trans (congrArg (Value.int .i64) eqa)).trans (by first | rfl | exact congrArg (Value.int .i64) (by omega))), ((rfl.trans (congrArg (Value.int .i64) hy9)).trans (by first | rfl | exact congrArg (Value.int .i64) (by omega))), (by rfl), (by rfl), (by first | rfl | exact congrArg (Value.int .i64) (by omega)), m21, m22, m24, m25, hOp, b8⟩ ?_))))))))))
     rintro f1 w9 ⟨pi, hpi0, h1, h2, h3, h4, h5, h6, h7, m26, m27, m28, m29, m30, b9⟩
     refine Fx.W.seq (Fx.W.seq (Fx.W.list (Fx.L.v (.int .i64 ((pi : Int))) (x_move rfl h7) (Fx.L.v (.slice ap (P) (cp)) (x_move rfl h6) (Fx.L.v (.int .i64 ((P : Int))) (x_len rfl rfl rfl (by kernel_rfl)) ?_)))))
     by_cases c92 : (pi : Int) < (P : Int)
     ·refine Fx.L.v (.bool true) (Fx.x_lssT rfl rfl rfl c92) (Fx.L.nil (Fx.seqN (Fx.W.cond (b := true) rfl (fun _ => Fx.W.skip (Fx.seqN (Fx.W.seq (Fx.W.block (Fx.W.seq ?_))))) (fun h => nomatch h))))
      have hpi : pi < pathN m0.core nd := by rw [← hP]; omega
      -- region 17 draws
      obtain ⟨gq2, eq2⟩ := m30.addr (by omega)
      have m31 : Fx.Own w9 w7.heap.size 27 1 (.slice (some ⟨gq2, 0, none⟩) P cp) P (ptU m0.id m0.par m0.s.nn nd) := m30.congV (congrArg (fun q => Value.slice q P cp) eq2)
      refine Fx.W.one (T := 82) (T' := 82) (a := .tmp 21) (v := .tmp 105) (m := 8) (z := Fx.rv .i64 (fun _ => 0)) (y := quL m0 nd pi) (u := .agg (Fx.varr 8 (quL m0 nd pi))) 12 13 (List.replicate 15 (0, 2, [], [])) #[.pointer (some ⟨p0, 0, none⟩), .pointer (some ⟨p0, 0, none⟩), .pointer (some ⟨p0, 0, none⟩), .agg (Fx.varr 20 (fun j => (ldY m0) (0 + j))), .slice ap (P) (cp), .int .i64 ((pi : Int)), .pointer (some ⟨gq2, pi, none⟩), .int .u64 (ndAt m0.core nd pi), .tuple #[.agg (Fx.varr 8 (quL m0 nd pi)), .int .i64 (0)], .tuple #[.agg (Fx.varr 8 (quL m0 nd pi)), .int .i64 (0)], .agg (Fx.varr 8 (quL m0 nd pi)), .int .i64 (0), undef, undef, .int .i64 (0)] (by kernel_rfl) (by kernel_rfl) (by kernel_rfl) (by kernel_rfl) (by kernel_rfl) (by kernel_rfl) rfl (by kernel_rfl) rfl rfl (by kernel_rfl) (fun g1 => (show Fx.ev _ (.tmp 21) = .pointer (some ⟨g1, 0, none⟩) from by kernel_rfl)) (fun g1 => (show Fx.ev _ (.tmp 105) = .agg (Fx.varr 8 (quL m0 nd pi)) from by kernel_rfl)) (Fx.cells_agg _ _) (fun j _ => qu_one _ _ j) (by kernel_rfl) (fun g1 => ?_) ?_
      ·refine ⟨?_, ?_, ?_, ?_, ?_, ?_, ?_, ?_, ?_, ?_, ?_, ?_, ?_, ?_, ?_, trivial⟩
       ·exact .inr (.inr (Fx.qb_yes (v := .pointer (some ⟨p0, 0, none⟩)) (by kernel_rfl) (by kernel_rfl) (Fx.qbV fun v1 hv1 => x_move rfl ((Fx.fOne_out (by kernel_rfl)).trans h1))))
       ·exact .inr (.inr (Fx.qb_yes (v := .pointer (some ⟨p0, 0, none⟩)) (by kernel_rfl) (by kernel_rfl) (Fx.qbV fun v1 hv1 => x_nil rfl (show Fx.ev _ (.tmp 96) = .pointer (some ⟨p0, 0, none⟩) from by kernel_rfl))))
       ·exact .inr (.inr (Fx.qb_yes (v := .pointer (some ⟨p0, 0, none⟩)) (by kernel_rfl) (by kernel_rfl) (Fx.qbV fun v1 hv1 => x_field rfl (show Fx.ev _ (.tmp 97) = .pointer (some ⟨p0, 0, none⟩) from by kernel_rfl) Try.underlying71 rfl (s := 20) (by kernel_rfl) rfl rfl)))
       ·exact .inr (.inr (Fx.qb_yes (v := .agg (Fx.varr 20 (fun j => (ldY m0) (0 + j)))) (by kernel_rfl) (by kernel_rfl) (Fx.qbV fun v1 hv1 => x_loadA (x := ldY m0) (y := fun j => (ldY m0) (0 + j)) rfl (show Fx.ev _ (.tmp 98) = .pointer (some ⟨p0, 0, none⟩) from by kernel_rfl) (by kernel_rfl) (by kernel_rfl) (m27.cel.below hv1 (by have := m27.lt; omega)) (i := 0) (by omega) (by omega) (fun _ _ => rfl))))
       ·exact .inr (.inr (Fx.qb_yes (v := .slice ap (P) (cp)) (by kernel_rfl) (by kernel_rfl) (Fx.qbV fun v1 hv1 => x_move rfl ((Fx.fOne_out (by kernel_rfl)).trans h6))))
       ·exact .inr (.inr (Fx.qb_yes (v := .int .i64 ((pi : Int))) (by kernel_rfl) (by kernel_rfl) (Fx.qbV fun v1 hv1 => x_move rfl ((Fx.fOne_out (by kernel_rfl)).trans h7))))
       ·exact .inr (.inr (Fx.qb_yes (v := .pointer (some ⟨gq2, pi, none⟩)) (by kernel_rfl) (by kernel_rfl) (Fx.qbV fun v1 hv1 => x_indexS rfl ((show Fx.ev _ (.tmp 100) = .slice ap (P) (cp) from by kernel_rfl).trans (congrArg (fun q => Value.slice q (P) (cp)) eq2)) (show Fx.ev _ (.tmp 101) = .int .i64 ((pi : Int)) from by kernel_rfl) Try.underlying68 (s := 1) (by kernel_rfl) (by omega) (by omega) (by omega))))
       ·exact .inr (.inr (Fx.qb_yes (v := .int .u64 (ndAt m0.core nd pi)) (by kernel_rfl) (by kernel_rfl) (Fx.qbV fun v1 hv1 => x_load1 (x := ptU m0.id m0.par m0.s.nn nd) rfl (show Fx.ev _ (.tmp 102) = .pointer (some ⟨gq2, pi, none⟩) from by kernel_rfl) (by kernel_rfl) (m31.cel.below hv1 (by have := m31.lt; omega)) (i := pi) (by omega) (by omega) (pt_at m0 nd pi))))
       ·exact .inr (.inr (Fx.qb_yes (v := .tuple #[.agg (Fx.varr 8 (quL m0 nd pi)), .int .i64 (0)]) (by kernel_rfl) (by kernel_rfl) (Fx.qbC (fun v1 hv1 => Fx.r_call (args := [.agg (Fx.varr 20 (fun j => (ldY m0) (0 + j))), .int .u64 (ndAt m0.core nd pi)]) rfl (Fx.args2 (show Fx.ev _ (.tmp 99) = .agg (Fx.varr 20 (fun j => (ldY m0) (0 + j))) from by kernel_rfl) (show Fx.ev _ (.tmp 103) = .int .u64 (ndAt m0.core nd pi) from by kernel_rfl)) Try.func62 rfl rfl) (fun v1 hv1 => (k_of m0 nd pi _ (m26.ldg.an.up hv1 rfl) (by have := m26.bn; omega) (by omega)).mono fun e v2 h => ⟨h.1, h.2⟩))))
       ·exact .inr (.inr (Fx.qb_yes (v := .tuple #[.agg (Fx.varr 8 (quL m0 nd pi)), .int .i64 (0)]) (by kernel_rfl) (by kernel_rfl) (Fx.qbV fun v1 hv1 => x_move rfl (show Fx.ev _ (.tmp 104) = .tuple #[.agg (Fx.varr 8 (quL m0 nd pi)), .int .i64 (0)] from by kernel_rfl))))
       ·exact .inr (.inr (Fx.qb_yes (v := .agg (Fx.varr 8 (quL m0 nd pi))) (by kernel_rfl) (by kernel_rfl) (Fx.qbV fun v1 hv1 => Fx.x_extract rfl (show Fx.ev _ (.tmp 95) = .tuple #[.agg (Fx.varr 8 (quL m0 nd pi)), .int .i64 (0)] from by kernel_rfl) rfl)))
       ·exact .inr (.inr (Fx.qb_yes (v := .int .i64 (0)) (by kernel_rfl) (by kernel_rfl) (Fx.qbV fun v1 hv1 => Fx.x_extract rfl (show Fx.ev _ (.tmp 95) = .tuple #[.agg (Fx.varr 8 (quL m0 nd pi)), .int .i64 (0)] from by kernel_rfl) rfl)))
       ·exact .inl rfl
       ·exact .inr (.inl rfl)
       ·exact .inr (.inr (Fx.qb_yes (v := .int .i64 (0)) (by kernel_rfl) (by kernel_rfl) (Fx.qbV fun v1 hv1 => x_assign rfl (show Fx.ev _ (.tmp 106) = .int .i64 (0) from by kernel_rfl))))
      ·rintro g1 w10 f2 hf1 lg1 m32 hb5
       have s9 := Fx.Stp.of_below hb5
       have ng1m27 : p0 ≠ g1 := Nat.ne_of_lt (Nat.lt_of_lt_of_le (m27.lt) lg1)
       have ng1m31 : gq2 ≠ g1 := Nat.ne_of_lt (Nat.lt_of_lt_of_le (m31.lt) lg1)
       have m33 := m26.up s9.old
       have m34 := m27.stp s9 (Nat.ne_of_lt (m27.lt))
       have m35 := m28.stp s9 (m28.notNew (Nat.le_refl _))
       have m36 := m29.stp s9 (m29.notNew (Nat.le_refl _))
       have m37 := m31.stpB s9 (Nat.ne_of_lt (m31.lt))
       have b10 := s9.below b9 b9.size b9.size
       have lg1 : w.heap.size ≤ g1 := Nat.le_trans b9.size lg1
       have tg1 : g1 < w10.heap.size := m32.lt
       have q1 : f2 11 = .pointer (some ⟨p0, 0, none⟩) := by rw [hf1]; exact (Fx.fOne_out (by kernel_rfl)).trans h1
       have q2 : f2 14 = .slice a9 (nl) (cap9) := by rw [hf1]; exact (Fx.fOne_out (by kernel_rfl)).trans h2
       have q3 : f2 15 = .int .i64 ((a : Int) + 1) := by rw [hf1]; exact (Fx.fOne_out (by kernel_rfl)).trans h3
       have q4 : f2 16 = .int .i64 (y) := by rw [hf1]; exact (Fx.fOne_out (by kernel_rfl)).trans h4
       have q5 : f2 17 = .slice ag (ng) (cg) := by rw [hf1]; exact (Fx.fOne_out (by kernel_rfl)).trans h5
       have q6 : f2 19 = .slice ap (P) (cp) := by rw [hf1]; exact (Fx.fOne_out (by kernel_rfl)).trans h6
       have q7 : f2 20 = .int .i64 ((pi : Int)) := by rw [hf1]; exact (Fx.fOne_out (by kernel_rfl)).trans h7
       have q8 : f2 89 = .int .i64 ((pi : Int)) := by rw [hf1]; kernel_rfl
       have q9 : f2 90 = .slice ap (P) (cp) := by rw [hf1]; kernel_rfl
       have q10 : f2 91 = .int .i64 ((P : Int)) := by rw [hf1]; kernel_rfl
       have q11 : f2 92 = .bool true := by rw [hf1]; kernel_rfl
       have q12 : f2 96 = .pointer (some ⟨p0, 0, none⟩) := by rw [hf1]; kernel_rfl
       have q13 : f2 97 = .pointer (some ⟨p0, 0, none⟩) := by rw [hf1]; kernel_rfl
       have q14 : f2 98 = .pointer (some ⟨p0, 0, none⟩) := by rw [hf1]; kernel_rfl
       have q15 : f2 99 = .agg (Fx.varr 20 (fun j => (ldY m0) (0 + j))) := by rw [hf1]; kernel_rfl
       have q16 : f2 100 = .slice ap (P) (cp) := by rw [hf1]; kernel_rfl
       have q17 : f2 101 = .int .i64 ((pi : Int)) := by rw [hf1]; kernel_rfl
       have q18 : f2 102 = .pointer (some ⟨gq2, pi, none⟩) := by rw [hf1]; kernel_rfl
       have q19 : f2 103 = .int .u64 (ndAt m0.core nd pi) := by rw [hf1]; kernel_rfl
       have q20 : f2 104 = .tuple #[.agg (Fx.varr 8 (quL m0 nd pi)), .int .i64 (0)] := by rw [hf1]; kernel_rfl
       have q21 : f2 95 = .tuple #[.agg (Fx.varr 8 (quL m0 nd pi)), .int .i64 (0)] := by rw [hf1]; kernel_rfl
       have q22 : f2 105 = .agg (Fx.varr 8 (quL m0 nd pi)) := by rw [hf1]; kernel_rfl
       have q23 : f2 106 = .int .i64 (0) := by rw [hf1]; kernel_rfl
       have q24 : f2 21 = .pointer (some ⟨g1, 0, none⟩) := by rw [hf1]; kernel_rfl
       clear hf1
       refine Fx.seqN (Fx.W.seq ?_)
       have hlo9 : LoOk (loP m0.core nd pi) := lo_ok (L := m0.core) hI0.toInv0 (nd_find hpi)
       have hla9 := hlo9 a ha
       refine Fx.W.list (Fx.L.v (.int .i64 (y)) (x_move rfl q4) (Fx.L.v (.int .i64 ((a : Int) + 1)) (x_move rfl q3) (Fx.L.v (.int .i64 ((a : Int))) (Fx.x_sub rfl rfl rfl (Fx.i64e (by omega) (by omega))) (Fx.L.v (.pointer (some ⟨g1, 2, none⟩)) (x_field rfl q24 Try.underlying82 rfl (s := 6) (by kernel_rfl) rfl (by show _ + 2 = _; omega)) (Fx.L.v (.pointer (some ⟨g1, a + 2, none⟩)) (x_index rfl rfl rfl Try.underlying45 (s := 1) (by kernel_rfl) (by omega) (by omega) (by omega)) (Fx.L.v (.int .i64 (loP m0.core nd pi a)) (x_load1 (x := quL m0 nd pi) rfl rfl (by kernel_rfl) m32.cel (i := a + 2) (by omega) (by omega) (quL_at (by omega) (by omega))) (Fx.L.v (.int .i64 (y - (loP m0.core nd pi a))) (Fx.x_sub rfl rfl rfl (Fx.i64e (by omega) (by omega))) (Fx.L.v (.int .i64 (mx0 (y - (loP m0.core nd pi a)))) (Fx.x_max rfl rfl rfl) (Fx.L.v (.int .i64 (mx0 (y - (loP m0.core nd pi a)))) (x_assign rfl rfl) (Fx.L.nil (Fx.seqN (Fx.W.seq ?_))))))))))))
       obtain ⟨lk, elk⟩ : ∃ q : Int, q = mx0 (y - loP m0.core nd pi a) := ⟨_, rfl⟩
       refine Fx.W.list (Fx.L.v (.int .i64 (0)) (x_assign rfl rfl) (Fx.L.nil (Fx.seqN (Fx.W.seq (Fx.W.list (Fx.L.v (.int .i64 (0)) (x_assign rfl rfl) (Fx.L.nil (Fx.seqN (Fx.W.seq (Fx.W.seq (Fx.W.list (Fx.L.v (.int .i64 (0)) (x_assign rfl rfl) (Fx.L.nil (Fx.seqN (Fx.W.block ?_)))))))))))))))
       have m38 : Fx.Own w10 w7.heap.size 27 1 (.slice ap (P) (cp)) P (ptU m0.id m0.par m0.s.nn nd) := m37.congV (congrArg (fun q => Value.slice q P cp) eq2.symm)
       have hz1 : sumF (amN (ndAt m0.core nd pi)) (gsP m0.s nl y a m0.core nd (pathN m0.core nd)) 0 = 0 := sum_zero
       have hz2 : sumF (isN (ndAt m0.core nd pi)) (gsP m0.s nl y a m0.core nd (pathN m0.core nd)) 0 = 0 := sum_zero
       refine Fx.W.loop (fun f w_ => ∃ k : Nat, k ≤ ng ∧ 0 ≤ sumF (amN (ndAt m0.core nd pi)) (gsP m0.s nl y a m0.core nd (pathN m0.core nd)) k ∧ sumF (amN (ndAt m0.core nd pi)) (gsP m0.s nl y a m0.core nd (pathN m0.core nd)) k ≤ 65536 * (k : Int) ∧ 0 ≤ sumF (isN (ndAt m0.core nd pi)) (gsP m0.s nl y a m0.core nd (pathN m0.core nd)) k ∧ sumF (isN (ndAt m0.core nd pi)) (gsP m0.s nl y a m0.core nd (pathN m0.core nd)) k ≤ (k : Int) ∧ f 11 = .pointer (some ⟨p0, 0, none⟩) ∧ f 14 = .slice a9 (nl) (cap9) ∧ f 15 = .int .i64 ((a : Int) + 1) ∧ f 16 = .int .i64 (y) ∧ f 17 = .slice ag (ng) (cg) ∧ f 19 = .slice ap (P) (cp) ∧ f 20 = .int .i64 ((pi : Int)) ∧ f 21 = .pointer (some ⟨g1, 0, none⟩) ∧ f 23 = .int .i64 (lk) ∧ f 24 = .int .i64 (sumF (isN (ndAt m0.core nd pi)) (gsP m0.s nl y a m0.core nd (pathN m0.core nd)) k) ∧ f 25 = .int .i64 (sumF (amN (ndAt m0.core nd pi)) (gsP m0.s nl y a m0.core nd (pathN m0.core nd)) k) ∧ f 26 = .int .i64 ((k : Int)) ∧ LdO w_ w.heap.size p0 m0 ∧ Fx.Blk w_ p0 27 (ldY m0) 71 ∧ Fx.Own w_ w3.heap.size 3 1 (.slice a9 (nl) (cap9)) nl (lsX (liveN m0.s 6)) ∧ Fx.Own w_ w4.heap.size 122 3 (.slice ag (ng) (cg)) ng (gfX (gsP m0.s nl y a m0.core nd (pathN m0.core nd))) ∧ Fx.Own w_ w7.heap.size 27 1 (.slice ap (P) (cp)) P (ptU m0.id m0.par m0.s.nn nd) ∧ Fx.Blk w_ g1 8 (quL m0 nd pi) 82 ∧ Below w.heap.size w w_) (fun f _ => (ng - (intOf (f 26)).toNat)) ⟨0, by omega, by omega, by omega, by omega, by omega, q1, q2, (q3.trans (by first | rfl | exact congrArg (Value.int .i64) (by omega))), (q4.trans (by first | rfl | exact congrArg (Value.int .i64) (by omega))), q5, q6, (q7.trans (by first | rfl | exact congrArg (Value.int .i64) (by omega))), q24, ((rfl.trans (congrArg (Value.int .i64) elk.symm)).trans (by first | rfl | exact congrArg (Value.int .i64) (by omega))), (by first | rfl | exact congrArg (Value.int .i64) (by omega)), (by first | rfl | exact congrArg (Value.int .i64) (by omega)), (by first | rfl | exact congrArg (Value.int .i64) (by omega)), m33, m34, m35, m36, m38, m32, b10⟩ ?_
       rintro f3 w11 ⟨k, hk, hs_a, hs_b, hs_c, hs_d, h8, h9, h10, h11, h12, h13, h14, h15, h16, h17, h18, h19, m39, m40, m41, m42, m43, m44, b11⟩
       refine Fx.W.seq (Fx.W.seq (Fx.W.list (Fx.L.v (.int .i64 ((k : Int))) (x_move rfl h19) (Fx.L.v (.slice ag (ng) (cg)) (x_move rfl h12) (Fx.L.v (.int .i64 ((ng : Int))) (x_len rfl rfl rfl (by kernel_rfl)) ?_)))))
       by_cases c118 : (k : Int) < (ng : Int)
       ·refine Fx.L.v (.bool true) (Fx.x_lssT rfl rfl rfl c118) (Fx.L.nil (Fx.seqN (Fx.W.cond (b := true) rfl (fun _ => Fx.W.skip (Fx.seqN (Fx.W.seq (Fx.W.block (Fx.W.seq ?_))))) (fun h => nomatch h))))
        -- region 24 draws
        refine Fx.W.quiet (fun v1 => ∃ q, v1 = World.drewN w11 q) (by kernel_rfl) (by kernel_rfl) ⟨1, rfl⟩ ?_
        refine Fx.Qt.v (.slice ag (ng) (cg)) (fun v1 hv1 => x_move rfl h12) (Fx.Qt.v (.int .i64 ((k : Int))) (fun v1 hv1 => x_move rfl h19) ?_)
        obtain ⟨gq3, eq3⟩ := m42.addr (by omega)
        have m45 : Fx.Own w11 w4.heap.size 122 3 (.slice (some ⟨gq3, 0, none⟩) ng cg) ng (gfX (gsP m0.s nl y a m0.core nd (pathN m0.core nd))) := m42.congV (congrArg (fun q => Value.slice q ng cg) eq3)
        refine Fx.Qt.v (.pointer (some ⟨gq3, 3 * k, none⟩)) (fun v1 hv1 => x_indexS rfl (rfl.trans (congrArg (fun q => Value.slice q (ng) (cg)) eq3)) rfl Try.underlying117 (s := 3) (by kernel_rfl) (by omega) (by omega) (by omega)) (Fx.Qt.v (.pointer (some ⟨gq3, 3 * k + 1, none⟩)) (fun v1 hv1 => x_field rfl rfl Try.underlying122 rfl (s := 1) (by kernel_rfl) rfl (by show _ + 1 = _; omega)) (Fx.Qt.v (.int .u64 (((gsP m0.s nl y a m0.core nd (pathN m0.core nd)).getD k gf0).node)) (fun v1 hv1 => x_load1 (x := gfX (gsP m0.s nl y a m0.core nd (pathN m0.core nd))) rfl rfl (by kernel_rfl) (by obtain ⟨qd, rfl⟩ := hv1; exact m45.cel) (i := 3 * k + 1) (by omega) (by omega) (Fx.flat_cell (k := k) (j := 1) (by omega) (by omega) rfl)) (Fx.Qt.v (.slice ap (P) (cp)) (fun v1 hv1 => x_move rfl h13) (Fx.Qt.v (.int .i64 ((pi : Int))) (fun v1 hv1 => x_move rfl h14) ?_))))
        obtain ⟨gq4, eq4⟩ := m43.addr (by omega)
        have m46 : Fx.Own w11 w7.heap.size 27 1 (.slice (some ⟨gq4, 0, none⟩) P cp) P (ptU m0.id m0.par m0.s.nn nd) := m43.congV (congrArg (fun q => Value.slice q P cp) eq4)
        refine Fx.Qt.v (.pointer (some ⟨gq4, pi, none⟩)) (fun v1 hv1 => x_indexS rfl (rfl.trans (congrArg (fun q => Value.slice q (P) (cp)) eq4)) rfl Try.underlying68 (s := 1) (by kernel_rfl) (by omega) (by omega) (by omega)) (Fx.Qt.v (.int .u64 (ndAt m0.core nd pi)) (fun v1 hv1 => x_load1 (x := ptU m0.id m0.par m0.s.nn nd) rfl rfl (by kernel_rfl) (by obtain ⟨qd, rfl⟩ := hv1; exact m46.cel) (i := pi) (by omega) (by omega) (pt_at m0 nd pi)) ?_)
        by_cases c130 : (((gsP m0.s nl y a m0.core nd (pathN m0.core nd)).getD k gf0).node) = (ndAt m0.core nd pi)
        ·refine Fx.Qt.v (.bool true) (fun v1 hv1 => x_eqlT rfl rfl rfl c130) (Fx.Qt.nil ?_)
         rintro _ ⟨qd, rfl⟩
         obtain ⟨wq1, ewq1⟩ : ∃ v1, v1 = World.drewN w11 qd := ⟨_, rfl⟩
         rw [← ewq1]
         have s10 : Fx.Stp w11.heap.size w11 wq1 := by rw [ewq1]; exact Fx.Stp.of_below (bdrN w11 qd)
         have m47 := m39.up s10.old
         have m48 := m40.stp s10 (Nat.ne_of_lt (m40.lt))
         have m49 := m41.stp s10 (m41.notNew (Nat.le_refl _))
         have m50 := m44.stp s10 (Nat.ne_of_lt (m44.lt))
         have m51 := m45.stpB s10 (Nat.ne_of_lt (m45.lt))
         have m52 := m46.stpB s10 (Nat.ne_of_lt (m46.lt))
         have b12 := s10.below b11 b11.size b11.size
         clear ewq1
         refine Fx.seqN (Fx.W.cond (b := true) rfl (fun _ => Fx.W.seq ?_) (fun h => nomatch h))
         have hga := gsP_amt hI0.toInv0 hnl ha hla (by omega) _ (Nat.le_refl _) _ (gsP_at (gs := gsP m0.s nl y a m0.core nd (pathN m0.core nd)) (k := k) (by omega))
         refine Fx.W.list (Fx.L.v (.int .i64 (sumF (isN (ndAt m0.core nd pi)) (gsP m0.s nl y a m0.core nd (pathN m0.core nd)) k)) (x_move rfl h17) (Fx.L.v (.int .i64 ((sumF (isN (ndAt m0.core nd pi)) (gsP m0.s nl y a m0.core nd (pathN m0.core nd)) k) + 1)) (Fx.x_add rfl rfl rfl (Fx.i64e (by omega) (by omega))) (Fx.L.v (.int .i64 ((sumF (isN (ndAt m0.core nd pi)) (gsP m0.s nl y a m0.core nd (pathN m0.core nd)) k) + 1)) (x_assign rfl rfl) (Fx.L.nil (Fx.seqN (Fx.W.list (Fx.L.v (.int .i64 (sumF (amN (ndAt m0.core nd pi)) (gsP m0.s nl y a m0.core nd (pathN m0.core nd)) k)) (x_move rfl h18) (Fx.L.v (.slice ag (ng) (cg)) (x_move rfl h12) (Fx.L.v (.int .i64 ((k : Int))) (x_move rfl h19) (Fx.L.v (.pointer (some ⟨gq3, 3 * k, none⟩)) (x_indexS rfl (rfl.trans (congrArg (fun q => Value.slice q (ng) (cg)) eq3)) rfl Try.underlying117 (s := 3) (by kernel_rfl) (by omega) (by omega) (by omega)) (Fx.L.v (.pointer (some ⟨gq3, 3 * k + 2, none⟩)) (x_field rfl rfl Try.underlying122 rfl (s := 1) (by kernel_rfl) rfl (by show _ + 2 = _; omega)) (Fx.L.v (.int .i64 (((gsP m0.s nl y a m0.core nd (pathN m0.core nd)).getD k gf0).amt)) (x_load1 (x := gfX (gsP m0.s nl y a m0.core nd (pathN m0.core nd))) rfl rfl (by kernel_rfl) m51.cel (i := 3 * k + 2) (by omega) (by omega) (Fx.flat_cell (k := k) (j := 2) (by omega) (by omega) rfl)) (Fx.L.v (.int .i64 ((sumF (amN (ndAt m0.core nd pi)) (gsP m0.s nl y a m0.core nd (pathN m0.core nd)) k) + (((gsP m0.s nl y a m0.core nd (pathN m0.core nd)).getD k gf0).amt))) (Fx.x_add rfl rfl rfl (Fx.i64e (by omega) (by omega))) (Fx.L.v (.int .i64 ((sumF (amN (ndAt m0.core nd pi)) (gsP m0.s nl y a m0.core nd (pathN m0.core nd)) k) + (((gsP m0.s nl y a m0.core nd (pathN m0.core nd)).getD k gf0).amt))) (x_assign rfl rfl) (Fx.L.nil (Fx.blkN (Fx.seqN ?_)))))))))))))))))
         have m53 : Fx.Own wq1 w4.heap.size 122 3 (.slice ag (ng) (cg)) ng (gfX (gsP m0.s nl y a m0.core nd (pathN m0.core nd))) := m51.congV (congrArg (fun q => Value.slice q ng cg) eq3.symm)
         have m54 : Fx.Own wq1 w7.heap.size 27 1 (.slice ap (P) (cp)) P (ptU m0.id m0.par m0.s.nn nd) := m52.congV (congrArg (fun q => Value.slice q P cp) eq4.symm)
         obtain ⟨hs1, hs2⟩ := sm_yes c130
         refine Fx.W.list (Fx.L.v (.int .i64 ((k : Int))) (x_move rfl h19) (Fx.L.v (.int .i64 ((k : Int) + 1)) (Fx.x_add rfl rfl rfl (Fx.i64e (by omega) (by omega))) (Fx.L.v (.int .i64 ((k : Int) + 1)) (x_assign rfl rfl) (Fx.L.nil (Fx.lpN ⟨k + 1, by omega, by omega, by omega, by omega, by omega, h8, h9, (h10.trans (by first | rfl | exact congrArg (Value.int .i64) (by omega))), (h11.trans (by first | rfl | exact congrArg (Value.int .i64) (by omega))), h12, h13, (h14.trans (by first | rfl | exact congrArg (Value.int .i64) (by omega))), h15, (h16.trans (by first | rfl | exact congrArg (Value.int .i64) (by omega))), (by first | rfl | exact congrArg (Value.int .i64) (by omega)), (by first | rfl | exact congrArg (Value.int .i64) (by omega)), (by first | rfl | exact congrArg (Value.int .i64) (by omega)), m47, m48, m49, m53, m54, m50, b12⟩ ?_)))))
         show (ng - (intOf ((.int .i64 ((k : Int) + 1)))).toNat) < _
         simp only [h19, intOf]; omega
        ·refine Fx.Qt.v (.bool false) (fun v1 hv1 => x_eqlF rfl rfl rfl c130) (Fx.Qt.nil ?_)
         rintro _ ⟨qd, rfl⟩
         obtain ⟨wq2, ewq2⟩ : ∃ v1, v1 = World.drewN w11 qd := ⟨_, rfl⟩
         rw [← ewq2]
         have s11 : Fx.Stp w11.heap.size w11 wq2 := by rw [ewq2]; exact Fx.Stp.of_below (bdrN w11 qd)
         have m55 := m39.up s11.old
         have m56 := m40.stp s11 (Nat.ne_of_lt (m40.lt))
         have m57 := m41.stp s11 (m41.notNew (Nat.le_refl _))
         have m58 := m44.stp s11 (Nat.ne_of_lt (m44.lt))
         have m59 := m45.stpB s11 (Nat.ne_of_lt (m45.lt))
         have m60 := m46.stpB s11 (Nat.ne_of_lt (m46.lt))
         have b13 := s11.below b11 b11.size b11.size
         clear ewq2
         refine Fx.seqN (Fx.W.cond (b := false) rfl (fun h => nomatch h) (fun _ => Fx.W.skip (Fx.blkN (Fx.seqN ?_))))
         have m61 : Fx.Own wq2 w4.heap.size 122 3 (.slice ag (ng) (cg)) ng (gfX (gsP m0.s nl y a m0.core nd (pathN m0.core nd))) := m59.congV (congrArg (fun q => Value.slice q ng cg) eq3.symm)
         have m62 : Fx.Own wq2 w7.heap.size 27 1 (.slice ap (P) (cp)) P (ptU m0.id m0.par m0.s.nn nd) := m60.congV (congrArg (fun q => Value.slice q P cp) eq4.symm)
         obtain ⟨hs1, hs2⟩ := sm_no c130
         refine Fx.W.list (Fx.L.v (.int .i64 ((k : Int))) (x_move rfl h19) (Fx.L.v (.int .i64 ((k : Int) + 1)) (Fx.x_add rfl rfl rfl (Fx.i64e (by omega) (by omega))) (Fx.L.v (.int .i64 ((k : Int) + 1)) (x_assign rfl rfl) (Fx.L.nil (Fx.lpN ⟨k + 1, by omega, by omega, by omega, by omega, by omega, h8, h9, (h10.trans (by first | rfl | exact congrArg (Value.int .i64) (by omega))), (h11.trans (by first | rfl | exact congrArg (Value.int .i64) (by omega))), h12, h13, (h14.trans (by first | rfl | exact congrArg (Value.int .i64) (by omega))), h15, (h16.trans (by first | rfl | exact congrArg (Value.int .i64) (by omega))), (h17.trans (by first | rfl | exact congrArg (Value.int .i64) (by omega))), (h18.trans (by first | rfl | exact congrArg (Value.int .i64) (by omega))), (by first | rfl | exact congrArg (Value.int .i64) (by omega)), m55, m56, m57, m61, m62, m58, b13⟩ ?_)))))
         show (ng - (intOf ((.int .i64 ((k : Int) + 1)))).toNat) < _
         simp only [h19, intOf]; omega
       ·refine Fx.L.v (.bool false) (Fx.x_lssF rfl rfl rfl c118) (Fx.L.nil (Fx.seqN (Fx.W.cond (b := false) rfl (fun h => nomatch h) (fun _ => Fx.W.exit (Fx.seqX (Fx.lpX (Fx.blkX (Fx.seqN (Fx.W.seq (Fx.W.seq ?_))))))))))
        have hkn : k = ng := by omega
        have hfs := few_sum hI0 hnl ha hla hf hy hpi hokA (hkn.trans hng)
        obtain ⟨hfs1, hfs2⟩ := hfs
        obtain ⟨mn, emn⟩ : ∃ q : Int, q = sumF (isN (ndAt m0.core nd pi)) (gsP m0.s nl y a m0.core nd (pathN m0.core nd)) k := ⟨_, rfl⟩
        have hmn := emn.trans hfs1
        refine Fx.W.list (Fx.L.v (.int .i64 (sumF (amN (ndAt m0.core nd pi)) (gsP m0.s nl y a m0.core nd (pathN m0.core nd)) k)) (x_move rfl h18) (Fx.L.v (.int .i64 (lk)) (x_move rfl h16) (Fx.L.v (.bool false) (Fx.x_neqF rfl rfl rfl (hfs2.trans elk.symm)) (Fx.L.nil (Fx.seqN (Fx.W.cond (b := false) rfl (fun h => nomatch h) (fun _ => Fx.W.skip (Fx.seqN (Fx.W.seq (Fx.W.list (Fx.L.v (.int .i64 (0)) (x_assign rfl rfl) (Fx.L.nil (Fx.seqN (Fx.W.block (Fx.W.loop (fun f w_ => ∃ t : Nat, t ≤ 64 ∧ f 11 = .pointer (some ⟨p0, 0, none⟩) ∧ f 14 = .slice a9 (nl) (cap9) ∧ f 15 = .int .i64 ((a : Int) + 1) ∧ f 16 = .int .i64 (y) ∧ f 17 = .slice ag (ng) (cg) ∧ f 19 = .slice ap (P) (cp) ∧ f 20 = .int .i64 ((pi : Int)) ∧ f 21 = .pointer (some ⟨g1, 0, none⟩) ∧ f 23 = .int .i64 (lk) ∧ f 24 = .int .i64 (mn) ∧ f 27 = .int .i64 ((t : Int)) ∧ LdO w_ w.heap.size p0 m0 ∧ Fx.Blk w_ p0 27 (ldY m0) 71 ∧ Fx.Own w_ w3.heap.size 3 1 (.slice a9 (nl) (cap9)) nl (lsX (liveN m0.s 6)) ∧ Fx.Own w_ w4.heap.size 122 3 (.slice ag (ng) (cg)) ng (gfX (gsP m0.s nl y a m0.core nd (pathN m0.core nd))) ∧ Fx.Own w_ w7.heap.size 27 1 (.slice ap (P) (cp)) P (ptU m0.id m0.par m0.s.nn nd) ∧ Fx.Blk w_ g1 8 (quL m0 nd pi) 82 ∧ Below w.heap.size w w_) (fun f _ => (64 - (intOf (f 27)).toNat)) ⟨0, by omega, h8, h9, (h10.trans (by first | rfl | exact congrArg (Value.int .i64) (by omega))), (h11.trans (by first | rfl | exact congrArg (Value.int .i64) (by omega))), h12, h13, (h14.trans (by first | rfl | exact congrArg (Value.int .i64) (by omega))), h15, (h16.trans (by first | rfl | exact congrArg (Value.int .i64) (by omega))), ((h17.trans (congrArg (Value.int .i64) emn.symm)).trans (by first | rfl | exact congrArg (Value.int .i64) (by omega))), (by first | rfl | exact congrArg (Value.int .i64) (by omega)), m39, m40, m41, m42, m43, m44, b11⟩ ?_)))))))))))))))
        rintro f4 w12 ⟨t, ht, h20, h21, h22, h23, h24, h25, h26, h27, h28, h29, h30, m63, m64, m65, m66, m67, m68, b14⟩
        refine Fx.W.seq (Fx.W.seq (Fx.W.list (Fx.L.v (.int .i64 ((t : Int))) (x_move rfl h30) ?_)))
        by_cases c144 : (t : Int) < 64
        ·refine Fx.L.v (.bool true) (Fx.x_lssT rfl rfl rfl c144) (Fx.L.nil (Fx.seqN (Fx.W.cond (b := true) rfl (fun _ => Fx.W.skip (Fx.seqN (Fx.W.seq (Fx.W.block (Fx.W.seq (Fx.W.list (Fx.L.v (.int .i64 (0)) (x_assign rfl rfl) ?_))))))) (fun h => nomatch h))))
         refine Fx.L.nil (Fx.seqN (Fx.W.seq (Fx.W.list (Fx.L.v (.int .i64 (0)) (x_assign rfl rfl) (Fx.L.nil (Fx.seqN (Fx.W.seq (Fx.W.seq (Fx.W.list (Fx.L.v (.int .i64 (1)) (x_assign rfl rfl) (Fx.L.nil (Fx.seqN (Fx.W.block ?_)))))))))))))
         obtain ⟨hz3, hz4⟩ := card_zero (S := (setS t a)) (l := (loP m0.core nd pi))
         refine Fx.W.loop (fun f w_ => ∃ jj : Nat, jj ≤ 6 ∧ f 11 = .pointer (some ⟨p0, 0, none⟩) ∧ f 14 = .slice a9 (nl) (cap9) ∧ f 15 = .int .i64 ((a : Int) + 1) ∧ f 16 = .int .i64 (y) ∧ f 17 = .slice ag (ng) (cg) ∧ f 19 = .slice ap (P) (cp) ∧ f 20 = .int .i64 ((pi : Int)) ∧ f 21 = .pointer (some ⟨g1, 0, none⟩) ∧ f 23 = .int .i64 (lk) ∧ f 24 = .int .i64 (mn) ∧ f 27 = .int .i64 ((t : Int)) ∧ f 28 = .int .i64 (((cardS (setS t a) jj : Nat) : Int)) ∧ f 29 = .int .i64 (hasS (setS t a) (loP m0.core nd pi) jj) ∧ f 30 = .int .i64 ((jj : Int) + 1) ∧ LdO w_ w.heap.size p0 m0 ∧ Fx.Blk w_ p0 27 (ldY m0) 71 ∧ Fx.Own w_ w3.heap.size 3 1 (.slice a9 (nl) (cap9)) nl (lsX (liveN m0.s 6)) ∧ Fx.Own w_ w4.heap.size 122 3 (.slice ag (ng) (cg)) ng (gfX (gsP m0.s nl y a m0.core nd (pathN m0.core nd))) ∧ Fx.Own w_ w7.heap.size 27 1 (.slice ap (P) (cp)) P (ptU m0.id m0.par m0.s.nn nd) ∧ Fx.Blk w_ g1 8 (quL m0 nd pi) 82 ∧ Below w.heap.size w w_) (fun f _ => (7 - (intOf (f 30)).toNat)) ⟨0, by omega, h20, h21, (h22.trans (by first | rfl | exact congrArg (Value.int .i64) (by omega))), (h23.trans (by first | rfl | exact congrArg (Value.int .i64) (by omega))), h24, h25, (h26.trans (by first | rfl | exact congrArg (Value.int .i64) (by omega))), h27, (h28.trans (by first | rfl | exact congrArg (Value.int .i64) (by omega))), (h29.trans (by first | rfl | exact congrArg (Value.int .i64) (by omega))), (h30.trans (by first | rfl | exact congrArg (Value.int .i64) (by omega))), (by first | rfl | exact congrArg (Value.int .i64) (by omega)), (by first | rfl | exact congrArg (Value.int .i64) (by omega)), (by first | rfl | exact congrArg (Value.int .i64) (by omega)), m63, m64, m65, m66, m67, m68, b14⟩ ?_
         rintro f5 w13 ⟨jj, hjj, h31, h32, h33, h34, h35, h36, h37, h38, h39, h40, h41, h42, h43, h44, m69, m70, m71, m72, m73, m74, b15⟩
         refine Fx.W.seq (Fx.W.seq (Fx.W.list (Fx.L.v (.int .i64 ((jj : Int) + 1)) (x_move rfl h44) ?_)))
         by_cases c148 : ((jj : Int) + 1) ≤ 6
         ·refine Fx.L.v (.bool true) (Fx.x_leqT rfl rfl rfl c148) (Fx.L.nil (Fx.seqN (Fx.W.cond (b := true) rfl (fun _ => Fx.W.skip (Fx.seqN (Fx.W.seq (Fx.W.block (Fx.W.seq ?_))))) (fun h => nomatch h))))
          have hbd := bitI_bd t jj
          refine Fx.W.list (Fx.L.v (.int .i64 ((t : Int))) (x_move rfl h41) (Fx.L.v (.int .i64 ((jj : Int) + 1)) (x_move rfl h44) (Fx.L.v (.int .i64 ((jj : Int))) (Fx.x_sub rfl rfl rfl (Fx.i64e (by omega) (by omega))) (Fx.L.v (.int .u64 ((jj : Int))) (x_conv rfl rfl (by kernel_rfl) Try.underlying124 (Fx.u64e (by omega) rfl)) (Fx.L.v (.int .i64 (bitI t jj)) ((Fx.x_shr (k := .i64) (b := jj) (q := (2 : Int) ^ jj) rfl rfl rfl (by show jj ≤ 64; omega) rfl)) (Fx.L.v (.int .i64 (bitI t jj % 2)) ((Fx.x_and1 rfl rfl rfl (by omega) (by omega))) ?_))))))
          by_cases c157 : (bitI t jj % 2) = 1
          ·refine Fx.L.v (.bool true) (x_eqlT rfl rfl rfl c157) (Fx.L.v (.bool true) (x_move rfl rfl) (Fx.L.v (.int .i64 ((jj : Int) + 1)) (x_move rfl h44) (Fx.L.v (.int .i64 ((a : Int) + 1)) (x_move rfl h33) ?_)))
           by_cases c161 : ((jj : Int) + 1) = ((a : Int) + 1)
           ·refine Fx.L.v (.bool false) (Fx.x_neqF rfl rfl rfl c161) (Fx.L.v (.bool false) (x_pickT rfl rfl rfl) (Fx.L.nil (Fx.seqN (Fx.W.cond (b := false) rfl (fun h => nomatch h) (fun _ => Fx.W.skip (Fx.blkN (Fx.seqN ?_)))))))
            have hSj := set_no2 (t := t) c161
            obtain ⟨hc1, hh1⟩ := st_no (l := (loP m0.core nd pi)) hSj
            refine Fx.W.list (Fx.L.v (.int .i64 ((jj : Int) + 1)) (x_move rfl h44) (Fx.L.v (.int .i64 ((jj : Int) + 2)) (Fx.x_add rfl rfl rfl (Fx.i64e (by omega) (by omega))) (Fx.L.v (.int .i64 ((jj : Int) + 2)) (x_assign rfl rfl) (Fx.L.nil (Fx.lpN ⟨jj + 1, by omega, h31, h32, (h33.trans (by first | rfl | exact congrArg (Value.int .i64) (by omega))), (h34.trans (by first | rfl | exact congrArg (Value.int .i64) (by omega))), h35, h36, (h37.trans (by first | rfl | exact congrArg (Value.int .i64) (by omega))), h38, (h39.trans (by first | rfl | exact congrArg (Value.int .i64) (by omega))), (h40.trans (by first | rfl | exact congrArg (Value.int .i64) (by omega))), (h41.trans (by first | rfl | exact congrArg (Value.int .i64) (by omega))), (h42.trans (by first | rfl | exact congrArg (Value.int .i64) (by omega))), (h43.trans (by first | rfl | exact congrArg (Value.int .i64) (by omega))), (by first | rfl | exact congrArg (Value.int .i64) (by omega)), m69, m70, m71, m72, m73, m74, b15⟩ ?_)))))
            show (7 - (intOf ((.int .i64 ((jj : Int) + 2)))).toNat) < _
            simp only [h44, intOf]; omega
           ·refine Fx.L.v (.bool true) (Fx.x_neqT rfl rfl rfl c161) (Fx.L.v (.bool true) (x_pickT rfl rfl rfl) (Fx.L.nil (Fx.seqN (Fx.W.cond (b := true) rfl (fun _ => Fx.W.seq ?_) (fun h => nomatch h)))))
            have hSj := set_yes (t := t) c157 c161
            have hcb := card_bd (S := (setS t a)) jj
            refine Fx.W.list (Fx.L.v (.int .i64 (((cardS (setS t a) jj : Nat) : Int))) (x_move rfl h42) (Fx.L.v (.int .i64 (((cardS (setS t a) jj : Nat) : Int) + 1)) (Fx.x_add rfl rfl rfl (Fx.i64e (by omega) (by omega))) (Fx.L.v (.int .i64 (((cardS (setS t a) jj : Nat) : Int) + 1)) (x_assign rfl rfl) (Fx.L.nil (Fx.seqN ?_)))))
            have hhb := has_bd (S := (setS t a)) hlo9 jj (by omega)
            have hlj := hlo9 jj (by omega)
            have hmx : mx0 ((loP m0.core nd pi) jj) = (loP m0.core nd pi) jj := mx_nn hlj.1
            refine Fx.W.list (Fx.L.v (.int .i64 (hasS (setS t a) (loP m0.core nd pi) jj)) (x_move rfl h43) (Fx.L.v (.int .i64 ((jj : Int) + 1)) (x_move rfl h44) (Fx.L.v (.int .i64 ((jj : Int))) (Fx.x_sub rfl rfl rfl (Fx.i64e (by omega) (by omega))) (Fx.L.v (.pointer (some ⟨g1, 2, none⟩)) (x_field rfl h38 Try.underlying82 rfl (s := 6) (by kernel_rfl) rfl (by show _ + 2 = _; omega)) (Fx.L.v (.pointer (some ⟨g1, jj + 2, none⟩)) (x_index rfl rfl rfl Try.underlying45 (s := 1) (by kernel_rfl) (by omega) (by omega) (by omega)) (Fx.L.v (.int .i64 (loP m0.core nd pi jj)) (x_load1 (x := quL m0 nd pi) rfl rfl (by kernel_rfl) m74.cel (i := jj + 2) (by omega) (by omega) (quL_at (by omega) (by omega))) (Fx.L.v (.int .i64 (mx0 (loP m0.core nd pi jj))) (Fx.x_max rfl rfl rfl) (Fx.L.v (.int .i64 ((hasS (setS t a) (loP m0.core nd pi) jj) + (mx0 (loP m0.core nd pi jj)))) (Fx.x_add rfl rfl rfl (Fx.i64e (by omega) (by omega))) (Fx.L.v (.int .i64 ((hasS (setS t a) (loP m0.core nd pi) jj) + (mx0 (loP m0.core nd pi jj)))) (x_assign rfl rfl) (Fx.L.nil (Fx.blkN (Fx.seqN ?_))))))))))))
            obtain ⟨hc1, hh1⟩ := st_yes (l := (loP m0.core nd pi)) hSj
            refine Fx.W.list (Fx.L.v (.int .i64 ((jj : Int) + 1)) (x_move rfl h44) (Fx.L.v (.int .i64 ((jj : Int) + 2)) (Fx.x_add rfl rfl rfl (Fx.i64e (by omega) (by omega))) (Fx.L.v (.int .i64 ((jj : Int) + 2)) (x_assign rfl rfl) (Fx.L.nil (Fx.lpN ⟨jj + 1, by omega, h31, h32, (h33.trans (by first | rfl | exact congrArg (Value.int .i64) (by omega))), (h34.trans (by first | rfl | exact congrArg (Value.int .i64) (by omega))), h35, h36, (h37.trans (by first | rfl | exact congrArg (Value.int .i64) (by omega))), h38, (h39.trans (by first | rfl | exact congrArg (Value.int .i64) (by omega))), (h40.trans (by first | rfl | exact congrArg (Value.int .i64) (by omega))), (h41.trans (by first | rfl | exact congrArg (Value.int .i64) (by omega))), (by first | rfl | exact congrArg (Value.int .i64) (by omega)), (by first | rfl | exact congrArg (Value.int .i64) (by omega)), (by first | rfl | exact congrArg (Value.int .i64) (by omega)), m69, m70, m71, m72, m73, m74, b15⟩ ?_)))))
            show (7 - (intOf ((.int .i64 ((jj : Int) + 2)))).toNat) < _
            simp only [h44, intOf]; omega
          ·refine Fx.L.v (.bool false) (x_eqlF rfl rfl rfl c157) (Fx.L.v (.bool false) (x_move rfl rfl) (Fx.L.skip (by rfl) rfl (Fx.L.skip (by rfl) rfl (Fx.L.skip (by rfl) rfl (Fx.L.v (.bool false) (x_pickF rfl rfl rfl) (Fx.L.nil (Fx.seqN (Fx.W.cond (b := false) rfl (fun h => nomatch h) (fun _ => Fx.W.skip (Fx.blkN (Fx.seqN ?_)))))))))))
           have hSj := set_no1 (a := a) c157
           obtain ⟨hc1, hh1⟩ := st_no (l := (loP m0.core nd pi)) hSj
           refine Fx.W.list (Fx.L.v (.int .i64 ((jj : Int) + 1)) (x_move rfl h44) (Fx.L.v (.int .i64 ((jj : Int) + 2)) (Fx.x_add rfl rfl rfl (Fx.i64e (by omega) (by omega))) (Fx.L.v (.int .i64 ((jj : Int) + 2)) (x_assign rfl rfl) (Fx.L.nil (Fx.lpN ⟨jj + 1, by omega, h31, h32, (h33.trans (by first | rfl | exact congrArg (Value.int .i64) (by omega))), (h34.trans (by first | rfl | exact congrArg (Value.int .i64) (by omega))), h35, h36, (h37.trans (by first | rfl | exact congrArg (Value.int .i64) (by omega))), h38, (h39.trans (by first | rfl | exact congrArg (Value.int .i64) (by omega))), (h40.trans (by first | rfl | exact congrArg (Value.int .i64) (by omega))), (h41.trans (by first | rfl | exact congrArg (Value.int .i64) (by omega))), (h42.trans (by first | rfl | exact congrArg (Value.int .i64) (by omega))), (h43.trans (by first | rfl | exact congrArg (Value.int .i64) (by omega))), (by first | rfl | exact congrArg (Value.int .i64) (by omega)), m69, m70, m71, m72, m73, m74, b15⟩ ?_)))))
           show (7 - (intOf ((.int .i64 ((jj : Int) + 2)))).toNat) < _
           simp only [h44, intOf]; omega
         ·refine Fx.L.v (.bool false) (x_leqF rfl rfl rfl c148) (Fx.L.nil (Fx.seqN (Fx.W.cond (b := false) rfl (fun h => nomatch h) (fun _ => Fx.W.exit (Fx.seqX (Fx.lpX (Fx.blkX (Fx.seqN (Fx.W.seq ?_)))))))))
          have hj6 : jj = 6 := by omega
          refine Fx.W.list (Fx.L.v (.int .i64 (((cardS (setS t a) jj : Nat) : Int))) (x_move rfl h42) (Fx.L.v (.int .i64 (mn)) (x_move rfl h40) ?_))
          by_cases c175 : ((cardS (setS t a) jj : Nat) : Int) < mn
          ·refine Fx.L.v (.bool true) (Fx.x_lssT rfl rfl rfl c175) (Fx.L.v (.bool true) (x_move rfl rfl) (Fx.L.v (.int .i64 (hasS (setS t a) (loP m0.core nd pi) jj)) (x_move rfl h43) (Fx.L.v (.int .i64 (lk)) (x_move rfl h39) ?_)))
           by_cases c179 : lk ≤ (hasS (setS t a) (loP m0.core nd pi) jj)
           ·refine Fx.L.v (.bool true) (Fx.x_geqT rfl rfl rfl c179) (Fx.L.v (.bool true) (x_pickT rfl rfl rfl) (Fx.L.v (.bool true) (x_move rfl rfl) (Fx.L.v (.pointer (some ⟨p0, 0, none⟩)) (x_move rfl h31) (Fx.L.v (.pointer (some ⟨p0, 0, none⟩)) (x_nil rfl rfl) (Fx.L.v (.pointer (some ⟨p0, 0, none⟩)) (x_field rfl rfl Try.underlying71 rfl (s := 20) (by kernel_rfl) rfl rfl) (Fx.L.v (.pointer (some ⟨p0, 12, none⟩)) (x_field rfl rfl Try.underlying43 rfl (s := 6) (by kernel_rfl) rfl (by show _ + 12 = _; omega)) (Fx.L.v (.agg (Fx.varr 6 (Fx.rv .u64 m0.s.known))) (x_loadA (x := ldY m0) (y := Fx.rv .u64 m0.s.known) rfl rfl (by kernel_rfl) (by kernel_rfl) m70.cel (i := 12) (by omega) (by omega) (fun j hj => ldY_st _ (by omega) (stY_known _ hj (by omega)))) (Fx.L.call (by rfl) (Fx.r_call (args := [.agg (Fx.varr 6 (Fx.rv .u64 m0.s.known))]) rfl rfl Try.func63 rfl rfl) rfl ((r6_may m0.s.known _ (fun i hi => by have := known_bd hI0 (by omega) i hi; exact ⟨this.1, Int.le_trans this.2 (by decide)⟩)).mono ?_)))))))))
            rintro e w14 ⟨he, hb6⟩
            refine ⟨.bool true, by rw [he], ?_⟩
            clear he
            have s12 := Fx.Stp.of_below hb6
            have m75 := m69.up s12.old
            have m76 := m70.stp s12 (Nat.ne_of_lt (m70.lt))
            have m77 := m71.stp s12 (m71.notNew (Nat.le_refl _))
            have m78 := m72.stp s12 (m72.notNew (Nat.le_refl _))
            have m79 := m73.stp s12 (m73.notNew (Nat.le_refl _))
            have m80 := m74.stp s12 (Nat.ne_of_lt (m74.lt))
            have b16 := s12.below b15 b15.size b15.size
            refine Fx.L.v (.bool true) (x_pickT rfl rfl rfl) (Fx.L.v (.bool true) (x_move rfl rfl) (Fx.L.v (.slice a9 (nl) (cap9)) (x_move rfl h32) (Fx.L.v (.int .i64 ((t : Int))) (x_move rfl h41) (Fx.L.v (.int .i64 ((a : Int) + 1)) (x_move rfl h33) (Fx.L.call (by rfl) (Fx.r_call (args := [.slice a9 (nl) (cap9), .int .i64 ((t : Int)), .int .i64 ((a : Int) + 1)]) rfl rfl Try.func64 rfl rfl) rfl ((r33_alive m0.s a9 nl cap9 a t _ hnl m77.arr ha (by omega)).mono ?_))))))
            rintro e9 w15 ⟨b9, he, hb9, hbb⟩
            have hbf : b9 = false := by cases b9 with | false => rfl | true => exact (few_no hI0 hnl ha hla hy hpi (hb9 rfl) (by have h9 := c175; rw [hj6] at h9; rw [← hmn]; exact h9) (by have h9 := c179; rw [hj6] at h9; rw [← elk]; exact h9)).elim
            subst hbf
            refine ⟨_, he, ?_⟩
            clear he
            have s13 := Fx.Stp.of_below hbb
            have m81 := m75.up s13.old
            have m82 := m76.stp s13 (Nat.ne_of_lt (m76.lt))
            have m83 := m77.stp s13 (m77.notNew (Nat.le_refl _))
            have m84 := m78.stp s13 (m78.notNew (Nat.le_refl _))
            have m85 := m79.stp s13 (m79.notNew (Nat.le_refl _))
            have m86 := m80.stp s13 (Nat.ne_of_lt (m80.lt))
            have b17 := s13.below b16 b16.size b16.size
            refine Fx.L.v (.bool false) (x_pickT rfl rfl rfl) (Fx.L.nil (Fx.seqN (Fx.W.cond (b := false) rfl (fun h => nomatch h) (fun _ => Fx.W.skip (Fx.blkN (Fx.seqN (Fx.W.list (Fx.L.v (.int .i64 ((t : Int))) (x_move rfl h41) (Fx.L.v (.int .i64 ((t : Int) + 1)) (Fx.x_add rfl rfl rfl (Fx.i64e (by omega) (by omega))) (Fx.L.v (.int .i64 ((t : Int) + 1)) (x_assign rfl rfl) (Fx.L.nil (Fx.lpN ⟨t + 1, by omega, h31, h32, (h33.trans (by first | rfl | exact congrArg (Value.int .i64) (by omega))), (h34.trans (by first | rfl | exact congrArg (Value.int .i64) (by omega))), h35, h36, (h37.trans (by first | rfl | exact congrArg (Value.int .i64) (by omega))), h38, (h39.trans (by first | rfl | exact congrArg (Value.int .i64) (by omega))), (h40.trans (by first | rfl | exact congrArg (Value.int .i64) (by omega))), (by first | rfl | exact congrArg (Value.int .i64) (by omega)), m81, m82, m83, m84, m85, m86, b17⟩ ?_))))))))))))
            show (64 - (intOf ((.int .i64 ((t : Int) + 1)))).toNat) < _
            simp only [h30, intOf]; omega
           ·refine Fx.L.v (.bool false) (Fx.x_geqF rfl rfl rfl c179) (Fx.L.v (.bool false) (x_pickT rfl rfl rfl) (Fx.L.v (.bool false) (x_move rfl rfl) (Fx.L.skip (by rfl) rfl (Fx.L.skip (by rfl) rfl (Fx.L.skip (by rfl) rfl (Fx.L.skip (by rfl) rfl (Fx.L.skip (by rfl) rfl (Fx.L.skip (by rfl) rfl (Fx.L.v (.bool false) (x_pickF rfl rfl rfl) (Fx.L.v (.bool false) (x_move rfl rfl) (Fx.L.skip (by rfl) rfl (Fx.L.skip (by rfl) rfl (Fx.L.skip (by rfl) rfl (Fx.L.skip (by rfl) rfl (Fx.L.v (.bool false) (x_pickF rfl rfl rfl) (Fx.L.nil (Fx.seqN (Fx.W.cond (b := false) rfl (fun h => nomatch h) (fun _ => Fx.W.skip (Fx.blkN (Fx.seqN (Fx.W.list (Fx.L.v (.int .i64 ((t : Int))) (x_move rfl h41) (Fx.L.v (.int .i64 ((t : Int) + 1)) (Fx.x_add rfl rfl rfl (Fx.i64e (by omega) (by omega))) (Fx.L.v (.int .i64 ((t : Int) + 1)) (x_assign rfl rfl) (Fx.L.nil (Fx.lpN ⟨t + 1, by omega, h31, h32, (h33.trans (by first | rfl | exact congrArg (Value.int .i64) (by omega))), (h34.trans (by first | rfl | exact congrArg (Value.int .i64) (by omega))), h35, h36, (h37.trans (by first | rfl | exact congrArg (Value.int .i64) (by omega))), h38, (h39.trans (by first | rfl | exact congrArg (Value.int .i64) (by omega))), (h40.trans (by first | rfl | exact congrArg (Value.int .i64) (by omega))), (by first | rfl | exact congrArg (Value.int .i64) (by omega)), m69, m70, m71, m72, m73, m74, b15⟩ ?_)))))))))))))))))))))))))))
            show (64 - (intOf ((.int .i64 ((t : Int) + 1)))).toNat) < _
            simp only [h30, intOf]; omega
          ·refine Fx.L.v (.bool false) (Fx.x_lssF rfl rfl rfl c175) (Fx.L.v (.bool false) (x_move rfl rfl) (Fx.L.skip (by rfl) rfl (Fx.L.skip (by rfl) rfl (Fx.L.skip (by rfl) rfl (Fx.L.v (.bool false) (x_pickF rfl rfl rfl) (Fx.L.v (.bool false) (x_move rfl rfl) (Fx.L.skip (by rfl) rfl (Fx.L.skip (by rfl) rfl (Fx.L.skip (by rfl) rfl (Fx.L.skip (by rfl) rfl (Fx.L.skip (by rfl) rfl (Fx.L.skip (by rfl) rfl (Fx.L.v (.bool false) (x_pickF rfl rfl rfl) (Fx.L.v (.bool false) (x_move rfl rfl) (Fx.L.skip (by rfl) rfl (Fx.L.skip (by rfl) rfl (Fx.L.skip (by rfl) rfl (Fx.L.skip (by rfl) rfl (Fx.L.v (.bool false) (x_pickF rfl rfl rfl) (Fx.L.nil (Fx.seqN (Fx.W.cond (b := false) rfl (fun h => nomatch h) (fun _ => Fx.W.skip (Fx.blkN (Fx.seqN (Fx.W.list (Fx.L.v (.int .i64 ((t : Int))) (x_move rfl h41) (Fx.L.v (.int .i64 ((t : Int) + 1)) (Fx.x_add rfl rfl rfl (Fx.i64e (by omega) (by omega))) (Fx.L.v (.int .i64 ((t : Int) + 1)) (x_assign rfl rfl) (Fx.L.nil (Fx.lpN ⟨t + 1, by omega, h31, h32, (h33.trans (by first | rfl | exact congrArg (Value.int .i64) (by omega))), (h34.trans (by first | rfl | exact congrArg (Value.int .i64) (by omega))), h35, h36, (h37.trans (by first | rfl | exact congrArg (Value.int .i64) (by omega))), h38, (h39.trans (by first | rfl | exact congrArg (Value.int .i64) (by omega))), (h40.trans (by first | rfl | exact congrArg (Value.int .i64) (by omega))), (by first | rfl | exact congrArg (Value.int .i64) (by omega)), m69, m70, m71, m72, m73, m74, b15⟩ ?_)))))))))))))))))))))))))))))))
           show (64 - (intOf ((.int .i64 ((t : Int) + 1)))).toNat) < _
           simp only [h30, intOf]; omega
        ·refine Fx.L.v (.bool false) (Fx.x_lssF rfl rfl rfl c144) (Fx.L.nil (Fx.seqN (Fx.W.cond (b := false) rfl (fun h => nomatch h) (fun _ => Fx.W.exit (Fx.seqX (Fx.lpX (Fx.blkX (Fx.blkN (Fx.seqN (Fx.W.list (Fx.L.v (.int .i64 ((pi : Int))) (x_move rfl h26) (Fx.L.v (.int .i64 ((pi : Int) + 1)) (Fx.x_add rfl rfl rfl (Fx.i64e (by omega) (by omega))) (Fx.L.v (.int .i64 ((pi : Int) + 1)) (x_assign rfl rfl) (Fx.L.nil (Fx.lpN ⟨pi + 1, by omega, h20, h21, (h22.trans (by first | rfl | exact congrArg (Value.int .i64) (by omega))), (h23.trans (by first | rfl | exact congrArg (Value.int .i64) (by omega))), h24, h25, (by first | rfl | exact congrArg (Value.int .i64) (by omega)), m63, m64, m65, m66, m67, b14⟩ ?_)))))))))))))))
         show (P - (intOf ((.int .i64 ((pi : Int) + 1)))).toNat) < _
         simp only [h7, intOf]; omega
     ·refine Fx.L.v (.bool false) (Fx.x_lssF rfl rfl rfl c92) (Fx.L.nil (Fx.seqN (Fx.W.cond (b := false) rfl (fun h => nomatch h) (fun _ => Fx.W.exit (Fx.seqX (Fx.lpX (Fx.blkX (Fx.seqN (Fx.W.seq (Fx.W.list (Fx.L.call (by rfl) (Fx.r_call (args := []) rfl rfl Try.func53 rfl rfl) rfl ((works33_any _).mono ?_))))))))))))
      rintro e w16 ⟨he, hb7⟩
      refine ⟨.bool true, by rw [he], ?_⟩
      clear he
      have s14 := Fx.Stp.of_below hb7
      have b18 := s14.below b9 b9.size b9.size
      refine Fx.L.v (.bool true) (x_assign rfl rfl) (Fx.L.nil (Fx.seqN (Fx.W.ret (⟨.bool true, Fx.retV1 Try.results14 (by exact rfl), ?_⟩))))
      exact ⟨rfl, b18⟩
    ·refine ⟨_, he, ?_⟩
     clear he
     have s15 := Fx.Stp.of_below hbg
     have b19 := s15.below b4 b4.size b4.size
     refine Fx.L.v (.tuple #[.slice none 0 0, .int .i64 (11)]) (x_move rfl rfl) (Fx.L.v (.slice none 0 0) (Fx.x_extract rfl rfl rfl) (Fx.L.v (.int .i64 (11)) (Fx.x_extract rfl rfl rfl) (Fx.L.v (.slice none 0 0) (x_assign rfl rfl) (Fx.L.v (.int .i64 (11)) (x_assign rfl rfl) (Fx.L.nil (Fx.seqN (Fx.W.seq (Fx.W.seq (Fx.W.list (Fx.L.v (.int .i64 (11)) (x_move rfl rfl) (Fx.L.v (.bool true) (Fx.x_neqT rfl rfl rfl (by decide)) (Fx.L.nil (Fx.seqN (Fx.W.cond (b := true) rfl (fun _ => Fx.W.seq (Fx.W.list (Fx.L.call (by rfl) (Fx.r_call (args := []) rfl rfl Try.func53 rfl rfl) rfl ((works33_any _).mono ?_)))) (fun h => nomatch h)))))))))))))))
     rintro e w17 ⟨he, hb8⟩
     refine ⟨.bool true, by rw [he], ?_⟩
     clear he
     have s16 := Fx.Stp.of_below hb8
     have b20 := s16.below b19 b19.size b19.size
     refine Fx.L.v (.bool true) (x_assign rfl rfl) (Fx.L.nil (Fx.seqN (Fx.W.ret (Fx.seqR (⟨.bool true, Fx.retV1 Try.results14 (by exact rfl), ?_⟩)))))
     exact ⟨rfl, b20⟩
end
end Go.Proofs.Ytolmkjepieoloaa
