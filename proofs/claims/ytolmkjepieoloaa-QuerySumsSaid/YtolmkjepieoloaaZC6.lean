/-
  What the proof of the law rests on, part 6: walks of functions, and plain laws; each says its conditions itself.
-/
import Derived.Test.YtolmkjepieoloaaZC5
namespace Go.Proofs.Ytolmkjepieoloaa
open Go.RowKit Rt
theorem Rt.pu_app {id par : Nat → Int} {n k : Nat} {x : Int} {z : Nat → Value} : ∀ j, j < (k + 1) * 1 → Fx.appX (ptU id par n x) (k * 1) (Fx.ovr z (0 * 1) 1 (fun _ => .int .u64 (iterS id par n k x))) j = ptU id par n x j := fun j hj => by
  unfold Fx.appX
  by_cases h : j < k * 1
  · rw [if_pos h]
  · rw [if_neg h]
    unfold Fx.ovr
    rw [if_pos (by omega)]
    show Value.int .u64 (iterS id par n k x) = Value.int .u64 (iterS id par n j x)
    rw [show j = k by omega]
theorem Rt.first_ge {id : Nat → Int} {n : Nat} {x : Int} (h : 0 ≤ firstS id n x) : ∃ j : Nat, j < n ∧ firstS id n x = (j : Int) ∧ id j = x := by
  rcases firstI_spec (fun i => decide (id i = x)) n with ⟨k, hk, e, hp⟩ | ⟨e, _⟩
  · exact ⟨k, hk, e, of_decide_eq_true hp⟩
  · unfold firstS at h; rw [e] at h; omega
theorem Rt.path_step {id par : Nat → Int} {n k : Nat} {x : Int} (h : ∀ i, i < k → 0 ≤ firstS id n (iterS id par n i x)) (h2 : 0 ≤ firstS id n (iterS id par n k x)) : ∀ i, i < k + 1 → 0 ≤ firstS id n (iterS id par n i x) := fun i hi => by
  by_cases e : i = k
  · rw [e]; exact h2
  · exact h i (by omega)
set_option maxRecDepth 10000 in
theorem q_path (s : StM) (id par : Nat → Int) (R : Nat → Nat → Int) (x : Int) (w : World) (hnd : Fx.Arr w s.na s.nn 56 (Fx.flat 56 fun k => ndY (id k) (par k) (R k))) (hnn : s.nn ≤ 1000000) :
    Calls Try.prog 38 #[.agg (Fx.varr 20 (stY s)), .int .u64 (x)] w fun e w' => ∃ v n, e = .returned v ∧ n = pathS id par s.nn x ∧ Fx.Own w' w.heap.size 27 1 v n (ptU id par s.nn x) ∧ Below w.heap.size w w' := by
 refine Fx.enter Try.func38 rfl (n := 30) rfl (by rfl) ?_
 refine Fx.W.seq (Fx.W.list (Fx.L.box (m := 20) (y := stY s) (by rfl) rfl rfl (Fx.cells_agg _ _) rfl fun g1 w1 eg1 m1 s1 z1 => ?_))
 have b1 := s1.below (Below.refl w.heap.size w) (Below.refl w.heap.size w).size (Below.refl w.heap.size w).size
 have lg1 : w.heap.size ≤ g1 := by rw [eg1]; exact (Below.refl w.heap.size w).size
 have tg1 : g1 < w1.heap.size := m1.lt
 clear eg1
 refine Fx.L.v (.slice none 0 0) (Fx.x_assign rfl rfl) ?_
 refine Fx.L.nil (Fx.seqN (Fx.W.seq (Fx.W.seq (Fx.W.list (Fx.L.v (.agg (Fx.varr 20 (stY s))) (Fx.x_loadA (x := stY s) (y := stY s) rfl rfl (by kernel_rfl) (by kernel_rfl) m1.cel (i := 0) (by omega) (by omega) (fun j _ => by rw [Nat.zero_add])) ?_)))))
 refine Fx.L.v (.int .u64 (x)) (Fx.x_move rfl rfl) ?_
 refine Fx.L.call (by rfl) (Fx.r_call (args := [.agg (Fx.varr 20 (stY s)), .int .u64 (x)]) rfl rfl Try.func77 rfl rfl) rfl ((q_find s id par R x _ (hnd.up b1 rfl) hnn).mono ?_)
 rintro e w2 ⟨he, hb1⟩
 refine ⟨.int .i64 (firstS id s.nn x), by rw [he], ?_⟩
 clear he
 have s2 := Fx.Stp.of_below hb1
 have m2 := m1.stp s2 (Nat.ne_of_lt (m1.lt))
 have b2 := s2.below b1 b1.size b1.size
 refine Fx.L.v (.int .i64 (firstS id s.nn x)) (Fx.x_assign rfl rfl) ?_
 refine Fx.L.nil (Fx.seqN (Fx.W.block ?_))
 have m3 : Fx.Own w2 w.heap.size 27 1 (.slice none 0 0) 0 (ptU id par s.nn x) := Fx.Own.nil _ _ _ _ _
 refine Fx.W.loop (fun f w_ => ∃ k : Nat, ∃ a : Option Addr, ∃ cap : Nat, k ≤ 32 ∧ (∀ i, i < k → 0 ≤ firstS id s.nn (iterS id par s.nn i x)) ∧ f 1 = .int .u64 (iterS id par s.nn k x) ∧ f 2 = .pointer (some ⟨g1, 0, none⟩) ∧ f 4 = .slice a (k) (cap) ∧ f 5 = .int .i64 (firstS id s.nn (iterS id par s.nn k x)) ∧ Fx.Blk w_ g1 20 (stY s) 43 ∧ Fx.Own w_ w.heap.size 27 1 (.slice a (k) (cap)) k (ptU id par s.nn x) ∧ Below w.heap.size w w_) (fun f _ => (32 - lenV (f 4))) ⟨0, none, 0, by omega, (fun i h => absurd h (by omega)), (by first | rfl | exact congrArg (Value.int .u64) (by omega)), (by rfl), (by rfl), (by first | rfl | exact congrArg (Value.int .i64) (by omega)), m2, m3, b2⟩ ?_
 rintro f1 w3 ⟨k, a, cap, hk, hall, h1, h2, h3, h4, m4, m5, b3⟩
 refine Fx.W.seq (Fx.W.seq (Fx.W.list (Fx.L.v (.int .i64 (firstS id s.nn (iterS id par s.nn k x))) (Fx.x_move rfl h4) ?_)))
 by_cases c10 : 0 ≤ (firstS id s.nn (iterS id par s.nn k x))
 ·refine Fx.L.v (.bool true) (Fx.x_geqT rfl rfl rfl c10) ?_
  refine Fx.L.v (.bool true) (Fx.x_move rfl rfl) ?_
  refine Fx.L.v (.slice a (k) (cap)) (Fx.x_move rfl h3) ?_
  refine Fx.L.v (.int .i64 ((k : Int))) (Fx.x_len rfl rfl rfl (by kernel_rfl)) ?_
  by_cases c14 : (k : Int) < 32
  ·refine Fx.L.v (.bool true) (Fx.x_lssT rfl rfl rfl c14) ?_
   refine Fx.L.v (.bool true) (Fx.x_pickT rfl rfl rfl) ?_
   refine Fx.L.nil (Fx.seqN (Fx.W.cond (b := true) rfl (fun _ => Fx.W.skip (Fx.seqN (Fx.W.seq (Fx.W.block (Fx.W.seq (Fx.W.list (Fx.L.v (.slice a (k) (cap)) (Fx.x_move rfl h3) ?_))))))) (fun h => nomatch h)))
   refine Fx.L.v (.int .u64 (iterS id par s.nn k x)) (Fx.x_move rfl h1) ?_
   refine Fx.L.bslice (vs := [(0, .int .u64 (iterS id par s.nn k x))]) (s := 1) (zc := Fx.rv .u64 (fun _ => 0)) (y := Fx.ovr (fun j => (Fx.rv .u64 (fun _ => 0)) (j % 1)) (0 * 1) 1 (fun _ => .int .u64 (iterS id par s.nn k x))) (by rfl) rfl rfl Try.underlying68 (by kernel_rfl) (by rfl) (by rfl) (by kernel_rfl) (by rw [Fx.fill_step (off := 0 * 1) (s := 1) (y := fun _ => .int .u64 (iterS id par s.nn k x)) rfl (Fx.cells_one (by rfl)) (by rfl)]; rfl) rfl fun g2 w4 eg2 m6 s3 z2 => ?_
   have m7 := m4.stp s3 (Nat.ne_of_lt (m4.lt))
   have m8 := m5.stp s3 (m5.notNew (Nat.le_refl _))
   have b4 := s3.below b3 b3.size b3.size
   have lg2 : w.heap.size ≤ g2 := by rw [eg2]; exact b3.size
   have ng2m7 : g1 ≠ g2 := by rw [eg2]; exact Nat.ne_of_lt (m4.lt)
   have ng2m8 : (.slice a (k) (cap) : Value).ownBlock ≠ some g2 := by rw [eg2]; exact m5.notNew (Nat.le_refl _)
   have tg2 : g2 < w4.heap.size := m6.lt
   clear eg2
   refine Fx.L.app (B := w.heap.size) (s := 1) (bytes := 8) (k := k) (m := 1) (v := .slice a (k) (cap)) (x := ptU id par s.nn x) (by rfl) rfl rfl rfl Try.underlying68 (by kernel_rfl) (by kernel_rfl) rfl rfl m8 m6.cel (ovr_one (fun _ => rfl)) (by omega) (by omega) (by omega) b4.size fun g3 cap1 w5 ho1 hg1 hgv1 hlt1 => ?_
   have hct1 := Fx.ChT.of_grown hg1 m8
   have m10 := m7.chT hct1 (by decide)
   have m9 : Fx.Own w5 w.heap.size 27 1 (.slice (some ⟨g3, 0, none⟩) (k + 1) cap1) (k + 1) (ptU id par s.nn x) := (ho1.congr (fun j hj => pu_app j hj))
   have b5 : Below w.heap.size w w5 := Fx.Below.grow b4 hg1 b4.size (fun q hq => (m8.ge hq).1)
   refine Fx.L.v (.slice (some ⟨g3, 0, none⟩) (k + 1) (cap1)) (Fx.x_assign rfl rfl) ?_
   refine Fx.L.nil (Fx.seqN ?_)
   obtain ⟨j, hj, ej, _⟩ := first_ge c10
   have ei : iterS id par s.nn (k + 1) x = par j := by show par (firstS id s.nn (iterS id par s.nn k x)).toNat = _; rw [ej]; rfl
   refine Fx.W.list (Fx.L.v (.pointer (some ⟨g1, 18, none⟩)) (Fx.x_field rfl h2 Try.underlying43 rfl (s := 1) (by kernel_rfl) rfl (by show _ + 18 = _; omega)) ?_)
   refine Fx.L.v (.slice s.na (s.nn) (s.nc)) (Fx.x_load1 (x := stY s) rfl rfl (by kernel_rfl) m10.cel (i := 18) (by omega) (by omega) rfl) ?_
   refine Fx.L.v (.int .i64 ((j : Int))) (Fx.x_move rfl (h4.trans (congrArg (Value.int .i64) ej))) ?_
   obtain ⟨bq1, oq1, eq1, m11⟩ := (hnd.up b5 rfl) (by omega)
   have lbq1 : bq1 < w5.heap.size := m11.lt (by omega)
   refine Fx.L.v (.pointer (some ⟨bq1, 56 * j + oq1, none⟩)) (Fx.x_indexS rfl (rfl.trans (congrArg (fun q => Value.slice q (s.nn) (s.nc)) eq1)) rfl Try.underlying40 (s := 56) (by kernel_rfl) (by omega) (by omega) (by omega)) ?_
   refine Fx.L.v (.pointer (some ⟨bq1, 56 * j + oq1 + 1, none⟩)) (Fx.x_field rfl rfl Try.underlying50 rfl (s := 1) (by kernel_rfl) rfl (by show _ + 1 = _; omega)) ?_
   refine Fx.L.v (.int .u64 (par j)) (Fx.x_load1 (x := Fx.flat 56 (fun kq => ndY (id kq) (par kq) (R kq))) rfl rfl (by kernel_rfl) m11 (i := 56 * j + 1) (by omega) (by omega) (Fx.flat_cell (k := j) (j := 1) (by omega) (by omega) rfl)) ?_
   refine Fx.L.v (.int .u64 (par j)) (Fx.x_assign rfl rfl) ?_
   refine Fx.L.nil (Fx.blkN (Fx.seqN (Fx.W.list (Fx.L.v (.agg (Fx.varr 20 (stY s))) (Fx.x_loadA (x := stY s) (y := stY s) rfl h2 (by kernel_rfl) (by kernel_rfl) m10.cel (i := 0) (by omega) (by omega) (fun j _ => by rw [Nat.zero_add])) ?_))))
   refine Fx.L.v (.int .u64 (iterS id par s.nn (k + 1) x)) (Fx.x_move rfl (rfl.trans (congrArg (Value.int .u64) ei.symm))) ?_
   refine Fx.L.call (by rfl) (Fx.r_call (args := [.agg (Fx.varr 20 (stY s)), .int .u64 (iterS id par s.nn (k + 1) x)]) rfl rfl Try.func77 rfl rfl) rfl ((q_find s id par R (iterS id par s.nn (k + 1) x) _ (hnd.up b5 rfl) hnn).mono ?_)
   rintro e w6 ⟨he, hb2⟩
   refine ⟨.int .i64 (firstS id s.nn (iterS id par s.nn (k + 1) x)), by rw [he], ?_⟩
   clear he
   have s4 := Fx.Stp.of_below hb2
   have m12 := m10.stp s4 (Nat.ne_of_lt (m10.lt))
   have m13 := m9.stpB s4 (Nat.ne_of_lt (m9.lt))
   have m14 := m11.stp s4 (Nat.ne_of_lt (m11.lt (by omega)))
   have b6 := s4.below b5 b5.size b5.size
   refine Fx.L.v (.int .i64 (firstS id s.nn (iterS id par s.nn (k + 1) x))) (Fx.x_assign rfl rfl) ?_
   refine Fx.L.nil ?_
   skip
   refine Fx.lpN ⟨k + 1, (some ⟨g3, 0, none⟩), cap1, by omega, (path_step hall c10), ((rfl.trans (congrArg (Value.int .u64) ei.symm)).trans (by first | rfl | exact congrArg (Value.int .u64) (by omega))), h2, (by rfl), (by first | rfl | exact congrArg (Value.int .i64) (by omega)), m12, m13, b6⟩ ?_
   show (32 - lenV ((.slice (some ⟨g3, 0, none⟩) (k + 1) (cap1)))) < _
   simp only [h3, intOf, lenV]; omega
  ·refine Fx.L.v (.bool false) (Fx.x_lssF rfl rfl rfl c14) ?_
   refine Fx.L.v (.bool false) (Fx.x_pickT rfl rfl rfl) ?_
   refine Fx.L.nil (Fx.seqN (Fx.W.cond (b := false) rfl (fun h => nomatch h) (fun _ => Fx.W.exit (Fx.seqX (Fx.lpX (Fx.blkX (Fx.seqN (Fx.W.seq (Fx.W.list (Fx.L.v (.slice a (k) (cap)) (Fx.x_move rfl h3) ?_))))))))))
   refine Fx.L.v (.slice a (k) (cap)) (Fx.x_assign rfl rfl) ?_
   refine Fx.L.nil (Fx.seqN (Fx.W.ret (⟨.slice a (k) (cap), Fx.retV1 Try.results38 (by exact rfl), ?_⟩)))
   obtain rfl : k = 32 := by omega
   have hpe : 32 = pathS id par s.nn x := path_all hall
   exact ⟨_, _, rfl, hpe, m5, b3⟩
 ·refine Fx.L.v (.bool false) (Fx.x_geqF rfl rfl rfl c10) ?_
  refine Fx.L.v (.bool false) (Fx.x_move rfl rfl) ?_
  refine Fx.L.skip (by rfl) rfl ?_
  refine Fx.L.skip (by rfl) rfl ?_
  refine Fx.L.skip (by rfl) rfl ?_
  refine Fx.L.v (.bool false) (Fx.x_pickF rfl rfl rfl) ?_
  refine Fx.L.nil (Fx.seqN (Fx.W.cond (b := false) rfl (fun h => nomatch h) (fun _ => Fx.W.exit (Fx.seqX (Fx.lpX (Fx.blkX (Fx.seqN (Fx.W.seq (Fx.W.list (Fx.L.v (.slice a (k) (cap)) (Fx.x_move rfl h3) ?_))))))))))
  refine Fx.L.v (.slice a (k) (cap)) (Fx.x_assign rfl rfl) ?_
  refine Fx.L.nil (Fx.seqN (Fx.W.ret (⟨.slice a (k) (cap), Fx.retV1 Try.results38 (by exact rfl), ?_⟩)))
  have hpe : k = pathS id par s.nn x := path_end hall (by omega) hk
  exact ⟨_, _, rfl, hpe, m5, b3⟩
end Go.Proofs.Ytolmkjepieoloaa
namespace Go.Proofs.Ytolmkjepieoloaa
open Go.RowKit Rt
namespace Rt
def quN (r : Nat → Int) (k : Nat) : Nat → Value := fun p => if p = 0 then .int .i64 (sums r).1 else if p = 1 then .int .i64 (sums r).2 else .int .i64 (if p - 2 < k then localV r ((p : Int) - 1) else 0)
def quZ : Nat → Value := fun _ => .int .i64 (0)
def quF (id : Nat → Int) (n : Nat) (R : Nat → Nat → Int) (x : Int) : Nat → Value := if firstS id n x < 0 then quZ else quN (R (firstS id n x).toNat) 6
def quE (id : Nat → Int) (n : Nat) (x : Int) : Int := if firstS id n x < 0 then 9 else 0
theorem qu_one (r : Nat → Int) (k j : Nat) : (quN r k j).oneCell' = true := by unfold quN; repeat (first | rfl | split)
theorem qu_next {r : Nat → Int} {k q : Nat} (hq : q = k + 2) {v : Int} (hv : v = localV r ((k : Int) + 1)) : ∀ j, j < 8 → Fx.updV (quN r k) q (.int .i64 v) j = quN r (k + 1) j := fun j _ => by
  subst hq hv
  unfold Fx.updV quN
  by_cases h : j = k + 2
  · subst h; rw [if_pos rfl, if_neg (by omega), if_neg (by omega), if_pos (by omega)]; congr 2; omega
  · rw [if_neg h]
    by_cases h0 : j = 0
    · rw [if_pos h0, if_pos h0]
    · by_cases h1 : j = 1
      · rw [if_neg h0, if_pos h1, if_neg h0, if_pos h1]
      · rw [if_neg h0, if_neg h1, if_neg h0, if_neg h1]
        by_cases h2 : j - 2 < k
        · rw [if_pos h2, if_pos (by omega)]
        · rw [if_neg h2, if_neg (by omega)]
end Rt
set_option maxRecDepth 10000 in
theorem q_of (s : StM) (id par : Nat → Int) (R : Nat → Nat → Int) (x : Int) (w : World) (hnd : Fx.Arr w s.na s.nn 56 (Fx.flat 56 fun k => ndY (id k) (par k) (R k))) (hnn : s.nn ≤ 1000000) :
    Calls Try.prog 36 #[.agg (Fx.varr 20 (stY s)), .int .u64 (x)] w fun e w' => e = .returned (.tuple #[.agg (Fx.varr 8 (quF id s.nn R x)), .int .i64 (quE id s.nn x)]) ∧ Below w.heap.size w w' := by
 refine Fx.enter Try.func36 rfl (n := 40) rfl (by rfl) ?_
 refine Fx.W.seq (Fx.W.list (Fx.L.box (m := 20) (y := stY s) (by rfl) rfl rfl (Fx.cells_agg _ _) rfl fun g1 w1 eg1 m1 s1 z1 => ?_))
 have b1 := s1.below (Below.refl w.heap.size w) (Below.refl w.heap.size w).size (Below.refl w.heap.size w).size
 have lg1 : w.heap.size ≤ g1 := by rw [eg1]; exact (Below.refl w.heap.size w).size
 have tg1 : g1 < w1.heap.size := m1.lt
 clear eg1
 refine Fx.L.new (m := 8) (y := Fx.rv .i64 (fun _ => 0)) (by rfl) rfl (by kernel_rfl) rfl fun g2 w2 eg2 m2 s2 z2 => ?_
 have m3 := m1.stp s2 (Nat.ne_of_lt (m1.lt))
 have b2 := s2.below b1 b1.size b1.size
 have lg2 : w.heap.size ≤ g2 := by rw [eg2]; exact b1.size
 have ng2m3 : g1 ≠ g2 := by rw [eg2]; exact Nat.ne_of_lt (m1.lt)
 have tg2 : g2 < w2.heap.size := m2.lt
 clear eg2
 refine Fx.L.v (.int .i64 (0)) (Fx.x_assign rfl rfl) ?_
 refine Fx.L.nil (Fx.seqN (Fx.W.seq (Fx.W.list (Fx.L.v (.agg (Fx.varr 20 (stY s))) (Fx.x_loadA (x := stY s) (y := stY s) rfl rfl (by kernel_rfl) (by kernel_rfl) m3.cel (i := 0) (by omega) (by omega) (fun j _ => by rw [Nat.zero_add])) ?_))))
 refine Fx.L.v (.int .u64 (x)) (Fx.x_move rfl rfl) ?_
 refine Fx.L.call (by rfl) (Fx.r_call (args := [.agg (Fx.varr 20 (stY s)), .int .u64 (x)]) rfl rfl Try.func77 rfl rfl) rfl ((q_find s id par R x _ (hnd.up b2 rfl) hnn).mono ?_)
 rintro e w3 ⟨he, hb1⟩
 refine ⟨.int .i64 (firstS id s.nn x), by rw [he], ?_⟩
 clear he
 have s3 := Fx.Stp.of_below hb1
 have m4 := m3.stp s3 (Nat.ne_of_lt (m3.lt))
 have m5 := m2.stp s3 (Nat.ne_of_lt (m2.lt))
 have b3 := s3.below b2 b2.size b2.size
 refine Fx.L.v (.int .i64 (firstS id s.nn x)) (Fx.x_assign rfl rfl) ?_
 refine Fx.L.nil (Fx.seqN (Fx.W.seq (Fx.W.seq (Fx.W.list (Fx.L.v (.int .i64 (firstS id s.nn x)) (Fx.x_move rfl rfl) ?_)))))
 by_cases c13 : (firstS id s.nn x) < 0
 ·refine Fx.L.v (.bool true) (Fx.x_lssT rfl rfl rfl c13) ?_
  refine Fx.L.nil (Fx.seqN (Fx.W.cond (b := true) rfl (fun _ => Fx.W.seq (Fx.W.list (Fx.L.v (.agg (Fx.varr 8 (Fx.rv .i64 (fun _ => 0)))) (Fx.x_loadA (x := Fx.rv .i64 (fun _ => 0)) (y := Fx.rv .i64 (fun _ => 0)) rfl rfl (by kernel_rfl) (by kernel_rfl) m5.cel (i := 0) (by omega) (by omega) (fun j _ => by rw [Nat.zero_add])) ?_))) (fun h => nomatch h)))
  refine Fx.L.storeA (x := Fx.rv .i64 (fun _ => 0)) (y := Fx.rv .i64 (fun _ => 0)) (by rfl) rfl rfl rfl rfl (fun _ _ => rfl) (by kernel_rfl) m5 (i := 0) (by omega) fun w4 m6 s4 z3 => ?_
  have m7 : Fx.Blk w4 g2 8 (Fx.rv .i64 (fun _ => 0)) 82 := Fx.ovr_all m6
  have hct1 := Fx.ChT.of_stp s4 m5.ty
  have m8 := m4.chT hct1 (by decide)
  have b4 := s4.below b3 b3.size (by omega)
  refine Fx.L.v (.int .i64 (9)) (Fx.x_assign rfl rfl) ?_
  refine Fx.L.nil (Fx.seqN (Fx.W.ret (Fx.seqR (⟨.tuple #[.agg (Fx.varr 8 (Fx.rv .i64 (fun _ => 0))), .int .i64 (9)], Fx.retV2 Try.results36 ⟨_, rfl, Fx.run_loadV m7.cel (by kernel_rfl) (by kernel_rfl)⟩ (by exact rfl), ?_⟩))))
  exact ⟨by unfold quF quE; rw [if_pos c13, if_pos c13]; rfl, b4⟩
 ·refine Fx.L.v (.bool false) (Fx.x_lssF rfl rfl rfl c13) ?_
  refine Fx.L.nil (Fx.seqN (Fx.W.cond (b := false) rfl (fun h => nomatch h) (fun _ => Fx.W.skip (Fx.seqN (Fx.W.seq ?_)))))
  obtain ⟨j, hj, ej, _⟩ := first_ge (show 0 ≤ firstS id s.nn x by omega)
  refine Fx.W.list (Fx.L.v (.pointer (some ⟨g1, 18, none⟩)) (Fx.x_field rfl rfl Try.underlying43 rfl (s := 1) (by kernel_rfl) rfl (by show _ + 18 = _; omega)) ?_)
  refine Fx.L.v (.slice s.na (s.nn) (s.nc)) (Fx.x_load1 (x := stY s) rfl rfl (by kernel_rfl) m4.cel (i := 18) (by omega) (by omega) rfl) ?_
  refine Fx.L.v (.int .i64 ((j : Int))) (Fx.x_move rfl (congrArg (Value.int .i64) ej)) ?_
  obtain ⟨bq1, oq1, eq1, m9⟩ := (hnd.up b3 rfl) (by omega)
  have lbq1 : bq1 < w3.heap.size := m9.lt (by omega)
  refine Fx.L.v (.pointer (some ⟨bq1, 56 * j + oq1, none⟩)) (Fx.x_indexS rfl (rfl.trans (congrArg (fun q => Value.slice q (s.nn) (s.nc)) eq1)) rfl Try.underlying40 (s := 56) (by kernel_rfl) (by omega) (by omega) (by omega)) ?_
  refine Fx.L.v (.pointer (some ⟨bq1, 56 * j + oq1 + 2, none⟩)) (Fx.x_field rfl rfl Try.underlying50 rfl (s := 54) (by kernel_rfl) rfl (by show _ + 2 = _; omega)) ?_
  refine Fx.L.v (.agg (Fx.varr 54 (Fx.rv .i64 (R j)))) (Fx.x_loadA (x := Fx.flat 56 (fun kq => ndY (id kq) (par kq) (R kq))) (y := Fx.rv .i64 (R j)) rfl rfl (by kernel_rfl) (by kernel_rfl) m9 (i := 56 * j + 2) (by omega) (by omega) (fun jq hjq => (Fx.flat_at (k := j) (j := 2 + jq) (by omega) (by omega)).trans ((fun jq _ => ndY_row _ _ _ jq) jq hjq))) ?_
  refine Fx.L.new (m := 54) (y := Fx.rv .i64 (fun _ => 0)) (by rfl) rfl (by kernel_rfl) rfl fun g3 w5 eg3 m10 s5 z4 => ?_
  have m11 := m4.stp s5 (Nat.ne_of_lt (m4.lt))
  have m12 := m5.stp s5 (Nat.ne_of_lt (m5.lt))
  have m13 := m9.stp s5 (Nat.ne_of_lt (m9.lt (by omega)))
  have b5 := s5.below b3 b3.size b3.size
  have lg3 : w.heap.size ≤ g3 := by rw [eg3]; exact b3.size
  have ng3m11 : g1 ≠ g3 := by rw [eg3]; exact Nat.ne_of_lt (m4.lt)
  have ng3m12 : g2 ≠ g3 := by rw [eg3]; exact Nat.ne_of_lt (m5.lt)
  have ng3m13 : bq1 ≠ g3 := by rw [eg3]; exact Nat.ne_of_lt (m9.lt (by omega))
  have tg3 : g3 < w5.heap.size := m10.lt
  clear eg3
  refine Fx.L.storeA (x := Fx.rv .i64 (fun _ => 0)) (y := Fx.rv .i64 (R j)) (by rfl) rfl rfl rfl rfl (fun _ _ => rfl) (by kernel_rfl) m10 (i := 0) (by omega) fun w6 m14 s6 z5 => ?_
  have m15 : Fx.Blk w6 g3 54 (Fx.rv .i64 (R j)) 48 := Fx.ovr_all m14
  have hct2 := Fx.ChT.of_stp s6 m10.ty
  have m16 := m11.chT hct2 (by decide)
  have m17 := m12.chT hct2 (by decide)
  have m18 := m13.stp s6 (by omega)
  have b6 := s6.below b5 b5.size (by omega)
  refine Fx.L.nil (Fx.seqN (Fx.W.seq (Fx.W.list (Fx.L.v (.agg (Fx.varr 54 (Fx.rv .i64 (R j)))) (Fx.x_loadA (x := Fx.rv .i64 (R j)) (y := Fx.rv .i64 (R j)) rfl rfl (by kernel_rfl) (by kernel_rfl) m15.cel (i := 0) (by omega) (by omega) (fun j _ => by rw [Nat.zero_add])) ?_))))
  refine Fx.L.call (by rfl) (Fx.r_call (args := [.agg (Fx.varr 54 (Fx.rv .i64 (R j)))]) rfl rfl Try.func41 rfl rfl) rfl ((sums_any (R j) _).mono ?_)
  rintro e w7 ⟨he, hb2⟩
  refine ⟨.tuple #[.int .i64 ((sums (R j)).1), .int .i64 ((sums (R j)).2)], by rw [he], ?_⟩
  clear he
  have s7 := Fx.Stp.of_below hb2
  have m19 := m16.stp s7 (Nat.ne_of_lt (m16.lt))
  have m20 := m17.stp s7 (Nat.ne_of_lt (m17.lt))
  have m21 := m15.stp s7 (Nat.ne_of_lt (m15.lt))
  have b7 := s7.below b6 b6.size b6.size
  refine Fx.L.v (.tuple #[.int .i64 ((sums (R j)).1), .int .i64 ((sums (R j)).2)]) (Fx.x_move rfl rfl) ?_
  refine Fx.L.v (.int .i64 ((sums (R j)).1)) (Fx.x_extract rfl rfl rfl) ?_
  refine Fx.L.v (.int .i64 ((sums (R j)).2)) (Fx.x_extract rfl rfl rfl) ?_
  refine Fx.L.v (.pointer (some ⟨g2, 0, none⟩)) (Fx.x_field rfl rfl Try.underlying82 rfl (s := 1) (by kernel_rfl) rfl rfl) ?_
  refine Fx.L.store1 (x := Fx.rv .i64 (fun _ => 0)) (u := .int .i64 ((sums (R j)).1)) (by rfl) rfl rfl rfl rfl (by rfl) (by kernel_rfl) m20 (i := 0) (by omega) fun w8 m22 s8 z6 => ?_
  have m23 : Fx.Blk w8 g2 8 (Fx.rv .i64 (upd (fun _ => 0) 0 ((sums (R j)).1))) 82 := m22.to (Fx.updV_rv _ _ _ _)
  have hct3 := Fx.ChT.of_stp s8 m20.ty
  have m24 := m19.chT hct3 (by decide)
  have m25 := m21.chT hct3 (by decide)
  have b8 := s8.below b7 b7.size (by omega)
  refine Fx.L.v (.pointer (some ⟨g2, 1, none⟩)) (Fx.x_field rfl rfl Try.underlying82 rfl (s := 1) (by kernel_rfl) rfl (by show _ + 1 = _; omega)) ?_
  refine Fx.L.store1 (x := Fx.rv .i64 (upd (fun _ => 0) 0 ((sums (R j)).1))) (u := .int .i64 ((sums (R j)).2)) (by rfl) rfl rfl rfl rfl (by rfl) (by kernel_rfl) m23 (i := 1) (by omega) fun w9 m26 s9 z7 => ?_
  have m27 : Fx.Blk w9 g2 8 (Fx.rv .i64 (upd (upd (fun _ => 0) 0 ((sums (R j)).1)) 1 ((sums (R j)).2))) 82 := m26.to (Fx.updV_rv _ _ _ _)
  have hct4 := Fx.ChT.of_stp s9 m23.ty
  have m28 := m24.chT hct4 (by decide)
  have m29 := m25.chT hct4 (by decide)
  have b9 := s9.below b8 b8.size (by omega)
  refine Fx.L.nil (Fx.seqN (Fx.W.seq (Fx.W.seq ?_)))
  have m30 : Fx.Blk w9 g2 8 (quN (R j) 0) 82 := m27.congr (fun j hj => by rcases j with _|_|_|_|_|_|_|_|j <;> first | rfl | omega)
  refine Fx.W.list (Fx.L.v (.int .i64 (0)) (Fx.x_move rfl rfl) ?_)
  refine Fx.L.nil (Fx.seqN (Fx.W.block (Fx.W.loop (fun f w_ => ∃ k : Nat, k ≤ 6 ∧ f 4 = .pointer (some ⟨g2, 0, none⟩) ∧ f 7 = .pointer (some ⟨g3, 0, none⟩) ∧ f 28 = .int .i64 ((k : Int)) ∧ Fx.Blk w_ g1 20 (stY s) 43 ∧ Fx.Blk w_ g3 54 (Fx.rv .i64 (R j)) 48 ∧ Fx.Blk w_ g2 8 (quN (R j) k) 82 ∧ Below w.heap.size w w_) (fun f _ => (6 - (intOf (f 28)).toNat)) ⟨0, by omega, (by rfl), (by rfl), (by first | rfl | exact congrArg (Value.int .i64) (by omega)), m28, m29, m30, b9⟩ ?_)))
  rintro f1 w10 ⟨k, hk, h1, h2, h3, m31, m32, m33, b10⟩
  refine Fx.W.seq (Fx.W.list ?_)
  by_cases c29 : (k : Int) < 6
  ·refine Fx.L.v (.bool true) (Fx.x_lssT rfl h3 rfl c29) ?_
   refine Fx.L.nil (Fx.seqN (Fx.W.seq (Fx.W.cond (b := true) rfl (fun _ => Fx.W.skip (Fx.seqN (Fx.W.seq (Fx.W.block (Fx.W.seq (Fx.W.list (Fx.L.v (.int .i64 ((k : Int))) (Fx.x_move rfl h3) ?_))))))) (fun h => nomatch h))))
   refine Fx.L.v (.int .i64 ((k : Int))) (Fx.x_assign rfl rfl) ?_
   refine Fx.L.nil (Fx.seqN (Fx.W.list (Fx.L.v (.int .i64 ((k : Int))) (Fx.x_move rfl rfl) ?_)))
   refine Fx.L.v (.agg (Fx.varr 54 (Fx.rv .i64 (R j)))) (Fx.x_loadA (x := Fx.rv .i64 (R j)) (y := Fx.rv .i64 (R j)) rfl h2 (by kernel_rfl) (by kernel_rfl) m32.cel (i := 0) (by omega) (by omega) (fun j _ => by rw [Nat.zero_add])) ?_
   refine Fx.L.v (.int .i64 ((k : Int))) (Fx.x_move rfl rfl) ?_
   refine Fx.L.v (.int .i64 ((k : Int) + 1)) (Fx.x_add rfl rfl rfl (Fx.i64e (by omega) (by omega))) ?_
   refine Fx.L.call (by rfl) (Fx.r_call (args := [.agg (Fx.varr 54 (Fx.rv .i64 (R j))), .int .i64 ((k : Int) + 1)]) rfl rfl Try.func43 rfl rfl) rfl ((localV_any (R j) ((k : Int) + 1) _ (by omega)).mono ?_)
   rintro e w11 ⟨he, hb3⟩
   refine ⟨.int .i64 (localV (R j) ((k : Int) + 1)), by rw [he], ?_⟩
   clear he
   have s10 := Fx.Stp.of_below hb3
   have m34 := m31.stp s10 (Nat.ne_of_lt (m31.lt))
   have m35 := m32.stp s10 (Nat.ne_of_lt (m32.lt))
   have m36 := m33.stp s10 (Nat.ne_of_lt (m33.lt))
   have b11 := s10.below b10 b10.size b10.size
   refine Fx.L.v (.pointer (some ⟨g2, 2, none⟩)) (Fx.x_field rfl h1 Try.underlying82 rfl (s := 6) (by kernel_rfl) rfl (by show _ + 2 = _; omega)) ?_
   refine Fx.L.v (.pointer (some ⟨g2, k + 2, none⟩)) (Fx.x_index rfl rfl rfl Try.underlying45 (s := 1) (by kernel_rfl) (by omega) (by omega) (by omega)) ?_
   refine Fx.L.store1 (x := quN (R j) k) (u := .int .i64 (localV (R j) ((k : Int) + 1))) (by rfl) rfl rfl rfl rfl (by rfl) (by kernel_rfl) m36 (i := k + 2) (by omega) fun w12 m37 s11 z8 => ?_
   have hct5 := Fx.ChT.of_stp s11 m36.ty
   have m38 := m34.chT hct5 (by decide)
   have m39 := m35.chT hct5 (by decide)
   have b12 := s11.below b11 b11.size (by omega)
   refine Fx.L.nil (Fx.blkN (Fx.seqN ?_))
   have m40 : Fx.Blk w12 g2 8 (quN (R j) (k + 1)) 82 := m37.congr (qu_next (by omega) rfl)
   refine Fx.W.list (Fx.L.v (.int .i64 ((k : Int) + 1)) (Fx.x_add rfl h3 rfl (Fx.i64e (by omega) (by omega))) ?_)
   refine Fx.L.v (.int .i64 ((k : Int) + 1)) (Fx.x_move rfl rfl) ?_
   refine Fx.L.nil (Fx.lpN ⟨k + 1, by omega, h1, h2, (by first | rfl | exact congrArg (Value.int .i64) (by omega)), m38, m39, m40, b12⟩ ?_)
   show (6 - (intOf ((.int .i64 ((k : Int) + 1)))).toNat) < _
   simp only [h3, intOf]; omega
  ·refine Fx.L.v (.bool false) (Fx.x_lssF rfl h3 rfl c29) ?_
   refine Fx.L.nil (Fx.seqN (Fx.W.seq (Fx.W.cond (b := false) rfl (fun h => nomatch h) (fun _ => Fx.W.exit (Fx.seqX (Fx.lpX (Fx.blkX (Fx.seqN (Fx.W.seq (Fx.W.list (Fx.L.v (.agg (Fx.varr 8 (quN (R j) k))) (Fx.x_loadA (x := quN (R j) k) (y := quN (R j) k) rfl h1 (by kernel_rfl) (by kernel_rfl) m33.cel (i := 0) (by omega) (by omega) (fun j _ => by rw [Nat.zero_add])) ?_)))))))))))
   refine Fx.L.storeA (x := quN (R j) k) (y := quN (R j) k) (by rfl) rfl rfl h1 rfl (fun j _ => qu_one _ _ j) (by kernel_rfl) m33 (i := 0) (by omega) fun w13 m41 s12 z9 => ?_
   have m42 : Fx.Blk w13 g2 8 (quN (R j) k) 82 := Fx.ovr_all m41
   have hct6 := Fx.ChT.of_stp s12 m33.ty
   have m43 := m31.chT hct6 (by decide)
   have m44 := m32.chT hct6 (by decide)
   have b13 := s12.below b10 b10.size (by omega)
   refine Fx.L.v (.int .i64 (0)) (Fx.x_assign rfl rfl) ?_
   refine Fx.L.nil (Fx.seqN (Fx.W.ret (⟨.tuple #[.agg (Fx.varr 8 (quN (R j) k)), .int .i64 (0)], Fx.retV2 Try.results36 ⟨_, h1, Fx.run_loadV m42.cel (by kernel_rfl) (by kernel_rfl)⟩ (by exact rfl), ?_⟩)))
   obtain rfl : k = 6 := by omega
   exact ⟨by unfold quF quE; rw [if_neg c13, if_neg c13, ej]; rfl, b13⟩
end Go.Proofs.Ytolmkjepieoloaa
namespace Go.Proofs.Ytolmkjepieoloaa
open Go.RowKit Rt
namespace Rt
def wR : Nat → Int := upd (fun _ => 0) 0 6
end Rt
theorem Rt.wk_nd (j : Nat) : Fx.updV (Fx.ovr (fun zq => if zq < 2 then .int .u64 (0) else .int .i64 (0)) 0 1 (fun _ => .int .u64 (9))) 2 (.int .i64 (6)) j = ndY 9 0 wR j := by
  unfold Fx.updV Fx.ovr ndY wR upd
  by_cases h0 : j = 0
  · subst h0; rfl
  · by_cases h1 : j = 1
    · subst h1; rfl
    · by_cases h2 : j = 2
      · subst h2; rfl
      · rw [if_neg h2, if_neg (by omega), if_neg h0, if_neg h1, if_neg (by omega)]
        show (if j < 2 then _ else _) = _
        rw [if_neg (by omega)]
end Go.Proofs.Ytolmkjepieoloaa
namespace Go.Proofs.Ytolmkjepieoloaa
open Go.RowKit Rt
namespace Rt
def wsq (g c : Nat) : StM := ⟨fun _ => false, fun _ => false, fun _ => 0, some ⟨g, 0, none⟩, 1, c, none, 0, 0⟩
def wsz : StM := ⟨fun _ => false, fun _ => false, fun _ => 0, none, 0, 0, none, 0, 0⟩
theorem wq_lim : quN wR 6 0 = .int .i64 6 := by kernel_rfl
theorem wq_loc : quN wR 6 2 = .int .i64 6 := by kernel_rfl
theorem wq_F : quF (fun _ => 9) 1 (fun _ => wR) 9 = quN wR 6 := if_neg (by decide)
theorem wq_E : quE (fun _ => 9) 1 9 = 0 := by kernel_rfl
theorem wz_F {id : Nat → Int} {R : Nat → Nat → Int} : quF id 0 R 1 = quZ := if_pos (show (-1 : Int) < 0 by decide)
theorem wq_P : pathS (fun _ => 9) (fun _ => 0) 1 9 = 1 := by kernel_rfl
end Rt
theorem Rt.wq_fl {z : Nat → Value} (j : Nat) (hj : j < 1 * 56) : Fx.ovr z (0 * 56) 56 (ndY 9 0 wR) j = Fx.flat 56 (fun _ => ndY 9 0 wR) j := by
  unfold Fx.ovr
  rw [if_pos (by omega), show j - 0 * 56 = j by omega]
  exact (Fx.flat_at (F := fun _ => ndY 9 0 wR) (k := 0) (by omega) (by omega)).symm
theorem w25_z (w : World) : Calls Try.prog 36 #[.agg (Fx.varr 20 (fun zq => if zq < 12 then .bool false else if zq < 18 then .int .u64 (0) else .slice none 0 0)), .int .u64 (1)] w fun e w' => e = .returned (.tuple #[.agg (Fx.varr 8 quZ), .int .i64 (9)]) ∧ Below w.heap.size w w' := by
  rw [show Fx.varr 20 (fun zq => if zq < 12 then .bool false else if zq < 18 then .int .u64 (0) else .slice none 0 0) = Fx.varr 20 (stY wsz) from Fx.varr_congr fun j hj => by rcases j with _|_|_|_|_|_|_|_|_|_|_|_|_|_|_|_|_|_|_|_|j <;> first | rfl | omega]
  have := q_of wsz (fun _ => 0) (fun _ => 0) (fun _ _ => 0) 1 w (fun h => absurd h (by decide)) (by decide)
  rw [show quF (fun _ => 0) wsz.nn (fun _ _ => 0) 1 = quZ from wz_F] at this
  exact this
theorem w25_q (g : Nat) (w : World) (h : Fx.Cel w g 0 (1 * 56) (Fx.flat 56 fun _ => ndY 9 0 wR)) : Calls Try.prog 36 #[.agg (Fx.varr 20 (stY (wsq g 1))), .int .u64 (9)] w fun e w' => e = .returned (.tuple #[.agg (Fx.varr 8 (quN wR 6)), .int .i64 (0)]) ∧ Below w.heap.size w w' := by
  have := q_of (wsq g 1) (fun _ => 9) (fun _ => 0) (fun _ => wR) 9 w (fun _ => ⟨g, 0, rfl, h⟩) (by show 1 ≤ 1000000; omega)
  rw [show quF (fun _ => 9) (wsq g 1).nn (fun _ => wR) 9 = quN wR 6 from wq_F, show quE (fun _ => 9) (wsq g 1).nn 9 = 0 from wq_E] at this
  exact this
set_option maxRecDepth 20000 in
set_option maxHeartbeats 1000000 in
theorem works25_any (w : World) :
    Calls Try.prog 35 #[] w fun e w' => e = .returned (.bool true) ∧ Below w.heap.size w w' := by
 refine Fx.enter Try.func35 rfl (n := 55) rfl (by rfl) ?_
 refine Fx.W.seq (Fx.W.list (Fx.L.v (.bool false) (Fx.x_assign rfl rfl) ?_))
 refine Fx.L.nil (Fx.seqN (Fx.W.seq (Fx.W.list (Fx.L.v (.agg (Fx.varr 20 (fun zq => if zq < 12 then .bool false else if zq < 18 then .int .u64 (0) else .slice none 0 0))) (Fx.x_build (vs := []) (places := #[(0, 6), (6, 6), (12, 6), (18, 1), (19, 1)]) (m := 20) (x := fun zq => if zq < 12 then .bool false else if zq < 18 then .int .u64 (0) else .slice none 0 0) rfl rfl Try.underlying43 (by kernel_rfl) (by kernel_rfl) (by rfl)) ?_))))
 refine Fx.L.call (by rfl) (Fx.r_call (args := [.agg (Fx.varr 20 (fun zq => if zq < 12 then .bool false else if zq < 18 then .int .u64 (0) else .slice none 0 0)), .int .u64 (1)]) rfl rfl Try.func36 rfl rfl) rfl ((w25_z _).mono ?_)
 rintro e w1 ⟨he, hb1⟩
 refine ⟨.tuple #[.agg (Fx.varr 8 quZ), .int .i64 (9)], by rw [he], ?_⟩
 clear he
 have s1 := Fx.Stp.of_below hb1
 have b1 := s1.below (Below.refl w.heap.size w) (Below.refl w.heap.size w).size (Below.refl w.heap.size w).size
 refine Fx.L.v (.tuple #[.agg (Fx.varr 8 quZ), .int .i64 (9)]) (Fx.x_move rfl rfl) ?_
 refine Fx.L.v (.agg (Fx.varr 8 quZ)) (Fx.x_extract rfl rfl rfl) ?_
 refine Fx.L.v (.int .i64 (9)) (Fx.x_extract rfl rfl rfl) ?_
 refine Fx.L.new (m := 8) (y := Fx.rv .i64 (fun _ => 0)) (by rfl) rfl (by kernel_rfl) rfl fun g1 w2 eg1 m1 s2 z1 => ?_
 have b2 := s2.below b1 b1.size b1.size
 have lg1 : w.heap.size ≤ g1 := by rw [eg1]; exact b1.size
 have tg1 : g1 < w2.heap.size := m1.lt
 clear eg1
 refine Fx.L.storeA (x := Fx.rv .i64 (fun _ => 0)) (y := quZ) (by rfl) rfl rfl rfl rfl (fun _ _ => rfl) (by kernel_rfl) m1 (i := 0) (by omega) fun w3 m2 s3 z2 => ?_
 have m3 : Fx.Blk w3 g1 8 quZ 82 := Fx.ovr_all m2
 have b3 := s3.below b2 b2.size (by omega)
 refine Fx.L.v (.int .i64 (9)) (Fx.x_assign rfl rfl) ?_
 refine Fx.L.nil (Fx.seqN (Fx.W.seq (Fx.W.list (Fx.L.v (.agg (Fx.varr 56 (Fx.ovr (fun zq => if zq < 2 then .int .u64 (0) else .int .i64 (0)) 0 1 (fun _ => .int .u64 (9))))) (Fx.x_build (vs := [(0, .int .u64 (9))]) (places := #[(0, 1), (1, 1), (2, 54)]) (m := 56) (x := fun zq => if zq < 2 then .int .u64 (0) else .int .i64 (0)) rfl rfl Try.underlying50 (by kernel_rfl) (by kernel_rfl) (by rw [Fx.fill_step (off := 0) (s := 1) (y := fun _ => .int .u64 (9)) (by kernel_rfl) (Fx.cells_one (by rfl)) (by rfl)]; rfl)) ?_))))
 refine Fx.L.new (m := 56) (y := fun zq => if zq < 2 then .int .u64 (0) else .int .i64 (0)) (by rfl) rfl (by kernel_rfl) rfl fun g2 w4 eg2 m4 s4 z3 => ?_
 have m5 := m3.stp s4 (Nat.ne_of_lt (m3.lt))
 have b4 := s4.below b3 b3.size b3.size
 have lg2 : w.heap.size ≤ g2 := by rw [eg2]; exact b3.size
 have ng2m5 : g1 ≠ g2 := by rw [eg2]; exact Nat.ne_of_lt (m3.lt)
 have tg2 : g2 < w4.heap.size := m4.lt
 clear eg2
 refine Fx.L.storeA (x := fun zq => if zq < 2 then .int .u64 (0) else .int .i64 (0)) (y := Fx.ovr (fun zq => if zq < 2 then .int .u64 (0) else .int .i64 (0)) 0 1 (fun _ => .int .u64 (9))) (by rfl) rfl rfl rfl rfl (Fx.ovr_ones (fun jq _ => by show ((fun zq => if zq < 2 then .int .u64 (0) else .int .i64 (0) : Nat → Value) jq).oneCell' = true; simp only []; repeat (first | rfl | split)) (fun _ _ => rfl)) (by kernel_rfl) m4 (i := 0) (by omega) fun w5 m6 s5 z4 => ?_
 have m7 : Fx.Blk w5 g2 56 (Fx.ovr (fun zq => if zq < 2 then .int .u64 (0) else .int .i64 (0)) 0 1 (fun _ => .int .u64 (9))) 50 := Fx.ovr_all m6
 have hct1 := Fx.ChT.of_stp s5 m4.ty
 have m8 := m5.chT hct1 (by decide)
 have b5 := s5.below b4 b4.size (by omega)
 refine Fx.L.nil (Fx.seqN (Fx.W.seq (Fx.W.list (Fx.L.v (.pointer (some ⟨g2, 2, none⟩)) (Fx.x_field rfl rfl Try.underlying50 rfl (s := 54) (by kernel_rfl) rfl (by show _ + 2 = _; omega)) ?_))))
 refine Fx.L.v (.pointer (some ⟨g2, 2, none⟩)) (Fx.x_field rfl rfl Try.underlying48 rfl (s := 6) (by kernel_rfl) rfl rfl) ?_
 refine Fx.L.v (.pointer (some ⟨g2, 2, none⟩)) (Fx.x_index rfl rfl rfl Try.underlying45 (s := 1) (by kernel_rfl) (by omega) (by omega) (by omega)) ?_
 refine Fx.L.store1 (x := Fx.ovr (fun zq => if zq < 2 then .int .u64 (0) else .int .i64 (0)) 0 1 (fun _ => .int .u64 (9))) (u := .int .i64 (6)) (by rfl) rfl rfl rfl rfl (by rfl) (by kernel_rfl) m7 (i := 2) (by omega) fun w6 m9 s6 z5 => ?_
 have hct2 := Fx.ChT.of_stp s6 m7.ty
 have m10 := m8.chT hct2 (by decide)
 have b6 := s6.below b5 b5.size (by omega)
 refine Fx.L.nil (Fx.seqN (Fx.W.seq ?_))
 have m11 : Fx.Blk w6 g2 56 (ndY 9 0 wR) 50 := m9.congr (fun j hj => wk_nd j)
 refine Fx.W.list (Fx.L.v (.agg (Fx.varr 56 (ndY 9 0 wR))) (Fx.x_loadA (x := ndY 9 0 wR) (y := ndY 9 0 wR) rfl rfl (by kernel_rfl) (by kernel_rfl) m11.cel (i := 0) (by omega) (by omega) (fun j _ => by rw [Nat.zero_add])) ?_)
 refine Fx.L.bslice (vs := [(0, .agg (Fx.varr 56 (ndY 9 0 wR)))]) (s := 56) (zc := fun zq => if zq < 2 then .int .u64 (0) else .int .i64 (0)) (y := Fx.ovr (fun j => (fun zq => if zq < 2 then .int .u64 (0) else .int .i64 (0)) (j % 56)) (0 * 56) 56 (ndY 9 0 wR)) (by rfl) rfl rfl Try.underlying40 (by kernel_rfl) (by rfl) (by rfl) (by kernel_rfl) (by rw [Fx.fill_step (off := 0 * 56) (s := 56) (y := ndY 9 0 wR) rfl (Fx.cells_agg _ _) (by rfl)]; rfl) rfl fun g3 w7 eg3 m12 s7 z6 => ?_
 have m13 := m10.stp s7 (Nat.ne_of_lt (m10.lt))
 have m14 := m11.stp s7 (Nat.ne_of_lt (m11.lt))
 have b7 := s7.below b6 b6.size b6.size
 have lg3 : w.heap.size ≤ g3 := by rw [eg3]; exact b6.size
 have ng3m13 : g1 ≠ g3 := by rw [eg3]; exact Nat.ne_of_lt (m10.lt)
 have ng3m14 : g2 ≠ g3 := by rw [eg3]; exact Nat.ne_of_lt (m11.lt)
 have tg3 : g3 < w7.heap.size := m12.lt
 clear eg3
 refine Fx.L.v (.agg (Fx.varr 20 (Fx.ovr (fun zq => if zq < 12 then .bool false else if zq < 18 then .int .u64 (0) else .slice none 0 0) 18 1 (fun _ => .slice (some ⟨g3, 0, none⟩) (1) (1))))) (Fx.x_build (vs := [(3, .slice (some ⟨g3, 0, none⟩) (1) (1))]) (places := #[(0, 6), (6, 6), (12, 6), (18, 1), (19, 1)]) (m := 20) (x := fun zq => if zq < 12 then .bool false else if zq < 18 then .int .u64 (0) else .slice none 0 0) rfl rfl Try.underlying43 (by kernel_rfl) (by kernel_rfl) (by rw [Fx.fill_step (off := 18) (s := 1) (y := fun _ => .slice (some ⟨g3, 0, none⟩) (1) (1)) (by kernel_rfl) (Fx.cells_one (by rfl)) (by rfl)]; rfl)) ?_
 refine Fx.L.new (m := 20) (y := fun zq => if zq < 12 then .bool false else if zq < 18 then .int .u64 (0) else .slice none 0 0) (by rfl) rfl (by kernel_rfl) rfl fun g4 w8 eg4 m15 s8 z7 => ?_
 have m16 := m13.stp s8 (Nat.ne_of_lt (m13.lt))
 have m17 := m14.stp s8 (Nat.ne_of_lt (m14.lt))
 have m18 := m12.stp s8 (Nat.ne_of_lt (m12.lt))
 have b8 := s8.below b7 b7.size b7.size
 have lg4 : w.heap.size ≤ g4 := by rw [eg4]; exact b7.size
 have ng4m16 : g1 ≠ g4 := by rw [eg4]; exact Nat.ne_of_lt (m13.lt)
 have ng4m17 : g2 ≠ g4 := by rw [eg4]; exact Nat.ne_of_lt (m14.lt)
 have ng4m18 : g3 ≠ g4 := by rw [eg4]; exact Nat.ne_of_lt (m12.lt)
 have tg4 : g4 < w8.heap.size := m15.lt
 clear eg4
 refine Fx.L.storeA (x := fun zq => if zq < 12 then .bool false else if zq < 18 then .int .u64 (0) else .slice none 0 0) (y := Fx.ovr (fun zq => if zq < 12 then .bool false else if zq < 18 then .int .u64 (0) else .slice none 0 0) 18 1 (fun _ => .slice (some ⟨g3, 0, none⟩) (1) (1))) (by rfl) rfl rfl rfl rfl (Fx.ovr_ones (fun jq _ => by show ((fun zq => if zq < 12 then .bool false else if zq < 18 then .int .u64 (0) else .slice none 0 0 : Nat → Value) jq).oneCell' = true; simp only []; repeat (first | rfl | split)) (fun _ _ => rfl)) (by kernel_rfl) m15 (i := 0) (by omega) fun w9 m19 s9 z8 => ?_
 have m20 : Fx.Blk w9 g4 20 (Fx.ovr (fun zq => if zq < 12 then .bool false else if zq < 18 then .int .u64 (0) else .slice none 0 0) 18 1 (fun _ => .slice (some ⟨g3, 0, none⟩) (1) (1))) 43 := Fx.ovr_all m19
 have hct3 := Fx.ChT.of_stp s9 m15.ty
 have m21 := m16.chT hct3 (by decide)
 have m22 := m17.chT hct3 (by decide)
 have m23 := m18.chT hct3 (by decide)
 have b9 := s9.below b8 b8.size (by omega)
 refine Fx.L.nil (Fx.seqN (Fx.W.seq ?_))
 have m24 : Fx.Blk w9 g4 20 (stY (wsq g3 1)) 43 := m20.congr (fun j hj => by rcases j with _|_|_|_|_|_|_|_|_|_|_|_|_|_|_|_|_|_|_|_|j <;> first | rfl | omega)
 have m25 : Fx.Blk w9 g3 (1 * 56) (Fx.flat 56 fun _ => ndY 9 0 wR) 50 := m23.congr (fun j hj => wq_fl j hj)
 refine Fx.W.list (Fx.L.v (.agg (Fx.varr 20 (stY (wsq g3 1)))) (Fx.x_loadA (x := stY (wsq g3 1)) (y := stY (wsq g3 1)) rfl rfl (by kernel_rfl) (by kernel_rfl) m24.cel (i := 0) (by omega) (by omega) (fun j _ => by rw [Nat.zero_add])) ?_)
 refine Fx.L.call (by rfl) (Fx.r_call (args := [.agg (Fx.varr 20 (stY (wsq g3 1))), .int .u64 (9)]) rfl rfl Try.func36 rfl rfl) rfl ((w25_q g3 _ m25.cel).mono ?_)
 rintro e w10 ⟨he, hb2⟩
 refine ⟨.tuple #[.agg (Fx.varr 8 (quN wR 6)), .int .i64 (0)], by rw [he], ?_⟩
 clear he
 have s10 := Fx.Stp.of_below hb2
 have m26 := m21.stp s10 (Nat.ne_of_lt (m21.lt))
 have m27 := m22.stp s10 (Nat.ne_of_lt (m22.lt))
 have m28 := m24.stp s10 (Nat.ne_of_lt (m24.lt))
 have m29 := m25.stp s10 (Nat.ne_of_lt (m25.lt))
 have b10 := s10.below b9 b9.size b9.size
 refine Fx.L.v (.tuple #[.agg (Fx.varr 8 (quN wR 6)), .int .i64 (0)]) (Fx.x_move rfl rfl) ?_
 refine Fx.L.v (.agg (Fx.varr 8 (quN wR 6))) (Fx.x_extract rfl rfl rfl) ?_
 refine Fx.L.v (.int .i64 (0)) (Fx.x_extract rfl rfl rfl) ?_
 refine Fx.L.new (m := 8) (y := Fx.rv .i64 (fun _ => 0)) (by rfl) rfl (by kernel_rfl) rfl fun g5 w11 eg5 m30 s11 z9 => ?_
 have m31 := m26.stp s11 (Nat.ne_of_lt (m26.lt))
 have m32 := m27.stp s11 (Nat.ne_of_lt (m27.lt))
 have m33 := m28.stp s11 (Nat.ne_of_lt (m28.lt))
 have m34 := m29.stp s11 (Nat.ne_of_lt (m29.lt))
 have b11 := s11.below b10 b10.size b10.size
 have lg5 : w.heap.size ≤ g5 := by rw [eg5]; exact b10.size
 have ng5m31 : g1 ≠ g5 := by rw [eg5]; exact Nat.ne_of_lt (m26.lt)
 have ng5m32 : g2 ≠ g5 := by rw [eg5]; exact Nat.ne_of_lt (m27.lt)
 have ng5m33 : g4 ≠ g5 := by rw [eg5]; exact Nat.ne_of_lt (m28.lt)
 have ng5m34 : g3 ≠ g5 := by rw [eg5]; exact Nat.ne_of_lt (m29.lt)
 have tg5 : g5 < w11.heap.size := m30.lt
 clear eg5
 refine Fx.L.storeA (x := Fx.rv .i64 (fun _ => 0)) (y := quN wR 6) (by rfl) rfl rfl rfl rfl (fun j _ => qu_one _ _ j) (by kernel_rfl) m30 (i := 0) (by omega) fun w12 m35 s12 z10 => ?_
 have m36 : Fx.Blk w12 g5 8 (quN wR 6) 82 := Fx.ovr_all m35
 have m37 := m31.stp s12 (by omega)
 have hct4 := Fx.ChT.of_stp s12 m30.ty
 have m38 := m32.chT hct4 (by decide)
 have m39 := m33.chT hct4 (by decide)
 have m40 := m34.chT hct4 (by decide)
 have b12 := s12.below b11 b11.size (by omega)
 refine Fx.L.v (.int .i64 (0)) (Fx.x_assign rfl rfl) ?_
 refine Fx.L.nil (Fx.seqN (Fx.W.seq (Fx.W.list (Fx.L.v (.agg (Fx.varr 20 (stY (wsq g3 1)))) (Fx.x_loadA (x := stY (wsq g3 1)) (y := stY (wsq g3 1)) rfl rfl (by kernel_rfl) (by kernel_rfl) m39.cel (i := 0) (by omega) (by omega) (fun j _ => by rw [Nat.zero_add])) ?_))))
 refine Fx.L.call (by rfl) (Fx.r_call (args := [.agg (Fx.varr 20 (stY (wsq g3 1))), .int .u64 (9)]) rfl rfl Try.func38 rfl rfl) rfl ((q_path (wsq g3 1) (fun _ => 9) (fun _ => 0) (fun _ => wR) 9 _ (fun _ => ⟨g3, 0, rfl, m40.cel⟩) (by show 1 ≤ 1000000; omega)).mono ?_)
 rintro e9 w13 ⟨vq1, nq1, he, hnq1, hOq1, hbq1⟩
 obtain ⟨aq1, capq1, rfl⟩ := hOq1.val
 obtain rfl : nq1 = 1 := hnq1.trans wq_P
 refine ⟨_, he, ?_⟩
 clear he
 have s13 := Fx.Stp.of_below hbq1
 have m41 := m37.stp s13 (Nat.ne_of_lt (m37.lt))
 have m42 := m38.stp s13 (Nat.ne_of_lt (m38.lt))
 have m43 := m39.stp s13 (Nat.ne_of_lt (m39.lt))
 have m44 := m40.stp s13 (Nat.ne_of_lt (m40.lt))
 have m45 := m36.stp s13 (Nat.ne_of_lt (m36.lt))
 have b13 := s13.below b12 b12.size b12.size
 refine Fx.L.v (.slice aq1 (1) (capq1)) (Fx.x_assign rfl rfl) ?_
 refine Fx.L.nil (Fx.seqN (Fx.W.seq (Fx.W.list (Fx.L.v (.int .i64 (9)) (Fx.x_move rfl rfl) ?_))))
 refine Fx.L.v (.bool true) (Fx.x_eqlT rfl rfl rfl rfl) ?_
 refine Fx.L.v (.bool true) (Fx.x_move rfl rfl) ?_
 refine Fx.L.v (.int .i64 (0)) (Fx.x_move rfl rfl) ?_
 refine Fx.L.v (.bool true) (Fx.x_eqlT rfl rfl rfl rfl) ?_
 refine Fx.L.v (.bool true) (Fx.x_pickT rfl rfl rfl) ?_
 refine Fx.L.v (.bool true) (Fx.x_move rfl rfl) ?_
 refine Fx.L.v (.pointer (some ⟨g5, 0, none⟩)) (Fx.x_field rfl rfl Try.underlying82 rfl (s := 1) (by kernel_rfl) rfl rfl) ?_
 refine Fx.L.v (.int .i64 (6)) (Fx.x_load1 (x := quN wR 6) rfl rfl (by kernel_rfl) m45.cel (i := 0) (by omega) (by omega) wq_lim) ?_
 refine Fx.L.v (.bool true) (Fx.x_eqlT rfl rfl rfl rfl) ?_
 refine Fx.L.v (.bool true) (Fx.x_pickT rfl rfl rfl) ?_
 refine Fx.L.v (.bool true) (Fx.x_move rfl rfl) ?_
 refine Fx.L.v (.pointer (some ⟨g5, 2, none⟩)) (Fx.x_field rfl rfl Try.underlying82 rfl (s := 6) (by kernel_rfl) rfl (by show _ + 2 = _; omega)) ?_
 refine Fx.L.v (.pointer (some ⟨g5, 2, none⟩)) (Fx.x_index rfl rfl rfl Try.underlying45 (s := 1) (by kernel_rfl) (by omega) (by omega) (by omega)) ?_
 refine Fx.L.v (.int .i64 (6)) (Fx.x_load1 (x := quN wR 6) rfl rfl (by kernel_rfl) m45.cel (i := 2) (by omega) (by omega) wq_loc) ?_
 refine Fx.L.v (.bool true) (Fx.x_eqlT rfl rfl rfl rfl) ?_
 refine Fx.L.v (.bool true) (Fx.x_pickT rfl rfl rfl) ?_
 refine Fx.L.v (.bool true) (Fx.x_move rfl rfl) ?_
 refine Fx.L.v (.slice aq1 (1) (capq1)) (Fx.x_move rfl rfl) ?_
 refine Fx.L.v (.int .i64 (1)) (Fx.x_len rfl rfl rfl (by kernel_rfl)) ?_
 refine Fx.L.v (.bool true) (Fx.x_eqlT rfl rfl rfl rfl) ?_
 refine Fx.L.v (.bool true) (Fx.x_pickT rfl rfl rfl) ?_
 refine Fx.L.v (.bool true) (Fx.x_move rfl rfl) ?_
 refine Fx.L.v (.slice aq1 (1) (capq1)) (Fx.x_move rfl rfl) ?_
 obtain ⟨gq1, eq1⟩ := hOq1.addr (by omega)
 have m46 : Fx.Own w13 w12.heap.size 27 1 (.slice (some ⟨gq1, 0, none⟩) 1 capq1) 1 (ptU (fun _ => 9) (fun _ => 0) 1 9) := hOq1.congV (congrArg (fun q => Value.slice q 1 capq1) eq1)
 refine Fx.L.v (.pointer (some ⟨gq1, 0, none⟩)) (Fx.x_indexS rfl (rfl.trans (congrArg (fun q => Value.slice q (1) (capq1)) eq1)) rfl Try.underlying68 (s := 1) (by kernel_rfl) (by omega) (by omega) (by omega)) ?_
 refine Fx.L.v (.int .u64 (9)) (Fx.x_load1 (x := ptU (fun _ => 9) (fun _ => 0) 1 9) rfl rfl (by kernel_rfl) m46.cel (i := 0) (by omega) (by omega) rfl) ?_
 refine Fx.L.v (.bool true) (Fx.x_eqlT rfl rfl rfl rfl) ?_
 refine Fx.L.v (.bool true) (Fx.x_pickT rfl rfl rfl) ?_
 refine Fx.L.v (.bool true) (Fx.x_assign rfl rfl) ?_
 refine Fx.L.nil (Fx.seqN (Fx.W.ret (⟨.bool true, Fx.retV1 Try.results35 (by exact rfl), ?_⟩)))
 exact ⟨rfl, b13⟩
end Go.Proofs.Ytolmkjepieoloaa
namespace Go.Proofs.Ytolmkjepieoloaa
open Go.RowKit Rt
namespace Rt
def opL (g : Nat → Nat → Int) (i : Int) : Nat → List Nat
  | 0 => []
  | n + 1 => if g n 0 = i ∧ g n 4 = 0 then opL g i n ++ [n] else opL g i n
def gsX (g : Nat → Nat → Int) (l : List Nat) : Nat → Value := Fx.flat 5 fun k => grY (g (l.getD k 0))
theorem op_yes {g : Nat → Nat → Int} {i : Int} {k : Nat} (h1 : g k 0 = i) (h2 : g k 4 = 0) : opL g i (k + 1) = opL g i k ++ [k] := by
  show (if _ then _ else _) = _; rw [if_pos ⟨h1, h2⟩]
theorem op_no {g : Nat → Nat → Int} {i : Int} {k : Nat} (h : ¬ (g k 0 = i ∧ g k 4 = 0)) : opL g i (k + 1) = opL g i k := by
  show (if _ then _ else _) = _; rw [if_neg h]
theorem op_len (g : Nat → Nat → Int) (i : Int) : ∀ k, (opL g i k).length ≤ k
  | 0 => Nat.le_refl _
  | k + 1 => by
    have := op_len g i k
    show (if _ then _ else _ : List Nat).length ≤ k + 1
    split
    · simp; omega
    · omega
theorem gs_app {g : Nat → Nat → Int} {l : List Nat} {n q : Nat} {z : Nat → Value} (hn : n = l.length) : ∀ j, j < (n + 1) * 5 → Fx.appX (gsX g l) (n * 5) (Fx.ovr z (0 * 5) 5 (grY (g q))) j = gsX g (l ++ [q]) j := fun j hj =>
  (Fx.app_flat j hj).trans (Fx.flat_cong (fun i hi p hp => by
    subst hn
    unfold Fx.updF
    by_cases h : i = l.length
    · subst h; rw [if_pos rfl, List.getD_eq_getElem?_getD, List.getElem?_append_right (by omega), Nat.sub_self]; rfl
    · rw [if_neg h]; show grY (g (l.getD i 0)) p = _; rw [List.getD_eq_getElem?_getD, List.getD_eq_getElem?_getD, List.getElem?_append_left (by omega)]) j hj)
theorem gr_one (x : Nat → Int) (j : Nat) : (grY x j).oneCell' = true := by unfold grY; repeat (first | rfl | split)
theorem one5 {z y : Nat → Value} (hy : ∀ j, j < 5 → (y j).oneCell' = true) : ∀ j, j < 1 * 5 → (Fx.ovr z (0 * 5) 5 y j).oneCell' = true := fun j hj => by
  unfold Fx.ovr; rw [if_pos (by omega)]; exact hy _ (by omega)
end Rt
set_option maxRecDepth 10000 in
theorem q_open (s : StM) (g : Nat → Nat → Int) (i : Int) (w : World) (hga : Fx.Arr w s.ga s.gn 5 (Fx.flat 5 fun k => grY (g k))) (hgn : s.gn ≤ 1000000) :
    Calls Try.prog 37 #[.agg (Fx.varr 20 (stY s)), .int .i64 (i)] w fun e w' => ∃ v n, e = .returned v ∧ n = (opL g i s.gn).length ∧ Fx.Own w' w.heap.size 88 5 v n (gsX g (opL g i s.gn)) ∧ Below w.heap.size w w' := by
 refine Fx.enter Try.func37 rfl (n := 29) rfl (by rfl) ?_
 refine Fx.W.seq (Fx.W.list (Fx.L.box (m := 20) (y := stY s) (by rfl) rfl rfl (Fx.cells_agg _ _) rfl fun g1 w1 eg1 m1 s1 z1 => ?_))
 have b1 := s1.below (Below.refl w.heap.size w) (Below.refl w.heap.size w).size (Below.refl w.heap.size w).size
 have lg1 : w.heap.size ≤ g1 := by rw [eg1]; exact (Below.refl w.heap.size w).size
 have tg1 : g1 < w1.heap.size := m1.lt
 clear eg1
 refine Fx.L.v (.slice none 0 0) (Fx.x_assign rfl rfl) ?_
 refine Fx.L.nil (Fx.seqN (Fx.W.seq (Fx.W.seq (Fx.W.list (Fx.L.v (.pointer (some ⟨g1, 19, none⟩)) (Fx.x_field rfl rfl Try.underlying43 rfl (s := 1) (by kernel_rfl) rfl (by show _ + 19 = _; omega)) ?_)))))
 refine Fx.L.v (.slice s.ga (s.gn) (s.gc)) (Fx.x_load1 (x := stY s) rfl rfl (by kernel_rfl) m1.cel (i := 19) (by omega) (by omega) rfl) ?_
 refine Fx.L.v (.int .i64 ((s.gn : Int))) (Fx.x_len rfl rfl rfl (by kernel_rfl)) ?_
 refine Fx.L.v (.int .i64 (0)) (Fx.x_move rfl rfl) ?_
 refine Fx.L.nil (Fx.seqN (Fx.W.block ?_))
 have m2 : Fx.Own w1 w.heap.size 88 5 (.slice none 0 0) 0 (gsX g (opL g i 0)) := Fx.Own.nil _ _ _ _ _
 refine Fx.W.loop (fun f w_ => ∃ k : Nat, ∃ n : Nat, ∃ a : Option Addr, ∃ cap : Nat, k ≤ s.gn ∧ n = (opL g i k).length ∧ f 1 = .int .i64 (i) ∧ f 2 = .pointer (some ⟨g1, 0, none⟩) ∧ f 4 = .slice a (n) (cap) ∧ f 8 = .slice s.ga (s.gn) (s.gc) ∧ f 9 = .int .i64 ((s.gn : Int)) ∧ f 10 = .int .i64 ((k : Int)) ∧ Fx.Blk w_ g1 20 (stY s) 43 ∧ Fx.Own w_ w.heap.size 88 5 (.slice a (n) (cap)) n (gsX g (opL g i k)) ∧ Below w.heap.size w w_) (fun f _ => (s.gn - (intOf (f 10)).toNat)) ⟨0, 0, none, 0, by omega, rfl, (by first | rfl | exact congrArg (Value.int .i64) (by omega)), (by rfl), (by rfl), (by rfl), (by first | rfl | exact congrArg (Value.int .i64) (by omega)), (by first | rfl | exact congrArg (Value.int .i64) (by omega)), m1, m2, b1⟩ ?_
 rintro f1 w2 ⟨k, n, a, cap, hk, hn, h1, h2, h3, h4, h5, h6, m3, m4, b2⟩
 have hnl := op_len g i k
 refine Fx.W.seq (Fx.W.list ?_)
 by_cases c11 : (k : Int) < (s.gn : Int)
 ·refine Fx.L.v (.bool true) (Fx.x_lssT rfl h6 h5 c11) ?_
  refine Fx.L.nil (Fx.seqN (Fx.W.seq (Fx.W.cond (b := true) rfl (fun _ => Fx.W.skip (Fx.seqN (Fx.W.seq (Fx.W.block (Fx.W.seq (Fx.W.list ?_)))))) (fun h => nomatch h))))
  obtain ⟨bq1, oq1, eq1, m5⟩ := (hga.up b2 rfl) (by omega)
  have lbq1 : bq1 < w2.heap.size := m5.lt (by omega)
  refine Fx.L.v (.pointer (some ⟨bq1, 5 * k + oq1, none⟩)) (Fx.x_indexS rfl (h4.trans (congrArg (fun q => Value.slice q (s.gn) (s.gc)) eq1)) h6 Try.underlying41 (s := 5) (by kernel_rfl) (by omega) (by omega) (by omega)) ?_
  refine Fx.L.v (.agg (Fx.varr 5 (grY (g k)))) (Fx.x_loadA (x := Fx.flat 5 (fun kq => grY (g kq))) (y := grY (g k)) rfl rfl (by kernel_rfl) (by kernel_rfl) m5 (i := 5 * k) (by omega) (by omega) (fun jq hjq => Fx.flat_at (k := k) (by omega) hjq)) ?_
  refine Fx.L.new (m := 5) (y := fun zq => if zq < 1 then .int .i64 (0) else if zq < 3 then .int .u64 (0) else if zq < 4 then .int .i64 (0) else .int .u64 (0)) (by rfl) rfl (by kernel_rfl) rfl fun g2 w3 eg2 m6 s2 z2 => ?_
  have m7 := m3.stp s2 (Nat.ne_of_lt (m3.lt))
  have m8 := m4.stp s2 (m4.notNew (Nat.le_refl _))
  have m9 := m5.stp s2 (Nat.ne_of_lt (m5.lt (by omega)))
  have b3 := s2.below b2 b2.size b2.size
  have lg2 : w.heap.size ≤ g2 := by rw [eg2]; exact b2.size
  have ng2m7 : g1 ≠ g2 := by rw [eg2]; exact Nat.ne_of_lt (m3.lt)
  have ng2m8 : (.slice a (n) (cap) : Value).ownBlock ≠ some g2 := by rw [eg2]; exact m4.notNew (Nat.le_refl _)
  have ng2m9 : bq1 ≠ g2 := by rw [eg2]; exact Nat.ne_of_lt (m5.lt (by omega))
  have tg2 : g2 < w3.heap.size := m6.lt
  clear eg2
  refine Fx.L.storeA (x := fun zq => if zq < 1 then .int .i64 (0) else if zq < 3 then .int .u64 (0) else if zq < 4 then .int .i64 (0) else .int .u64 (0)) (y := grY (g k)) (by rfl) rfl rfl rfl rfl (fun j _ => gr_one _ j) (by kernel_rfl) m6 (i := 0) (by omega) fun w4 m10 s3 z3 => ?_
  have m11 : Fx.Blk w4 g2 5 (grY (g k)) 88 := Fx.ovr_all m10
  have hct1 := Fx.ChT.of_stp s3 m6.ty
  have m12 := m7.chT hct1 (by decide)
  have m13 := m8.stp s3 ng2m8
  have m14 := m9.stp s3 (by omega)
  have b4 := s3.below b3 b3.size (by omega)
  refine Fx.L.nil (Fx.seqN (Fx.W.seq (Fx.W.list (Fx.L.v (.pointer (some ⟨g2, 0, none⟩)) (Fx.x_field rfl rfl Try.underlying88 rfl (s := 1) (by kernel_rfl) rfl rfl) ?_))))
  refine Fx.L.v (.int .i64 (g k 0)) (Fx.x_load1 (x := grY (g k)) rfl rfl (by kernel_rfl) m11.cel (i := 0) (by omega) (by omega) rfl) ?_
  refine Fx.L.v (.int .i64 (i)) (Fx.x_move rfl h1) ?_
  by_cases c17 : (g k 0) = i
  ·refine Fx.L.v (.bool true) (Fx.x_eqlT rfl rfl rfl c17) ?_
   refine Fx.L.v (.bool true) (Fx.x_move rfl rfl) ?_
   refine Fx.L.v (.pointer (some ⟨g2, 4, none⟩)) (Fx.x_field rfl rfl Try.underlying88 rfl (s := 1) (by kernel_rfl) rfl (by show _ + 4 = _; omega)) ?_
   refine Fx.L.v (.int .u64 (g k 4)) (Fx.x_load1 (x := grY (g k)) rfl rfl (by kernel_rfl) m11.cel (i := 4) (by omega) (by omega) rfl) ?_
   by_cases c21 : (g k 4) = 0
   ·refine Fx.L.v (.bool true) (Fx.x_eqlT rfl rfl rfl c21) ?_
    refine Fx.L.v (.bool true) (Fx.x_pickT rfl rfl rfl) ?_
    refine Fx.L.nil (Fx.seqN (Fx.W.cond (b := true) rfl (fun _ => Fx.W.list (Fx.L.v (.slice a (n) (cap)) (Fx.x_move rfl h3) ?_)) (fun h => nomatch h)))
    refine Fx.L.v (.agg (Fx.varr 5 (grY (g k)))) (Fx.x_loadA (x := grY (g k)) (y := grY (g k)) rfl rfl (by kernel_rfl) (by kernel_rfl) m11.cel (i := 0) (by omega) (by omega) (fun j _ => by rw [Nat.zero_add])) ?_
    refine Fx.L.bslice (vs := [(0, .agg (Fx.varr 5 (grY (g k))))]) (s := 5) (zc := fun zq => if zq < 1 then .int .i64 (0) else if zq < 3 then .int .u64 (0) else if zq < 4 then .int .i64 (0) else .int .u64 (0)) (y := Fx.ovr (fun j => (fun zq => if zq < 1 then .int .i64 (0) else if zq < 3 then .int .u64 (0) else if zq < 4 then .int .i64 (0) else .int .u64 (0)) (j % 5)) (0 * 5) 5 (grY (g k))) (by rfl) rfl rfl Try.underlying41 (by kernel_rfl) (by rfl) (by rfl) (by kernel_rfl) (by rw [Fx.fill_step (off := 0 * 5) (s := 5) (y := grY (g k)) rfl (Fx.cells_agg _ _) (by rfl)]; rfl) rfl fun g3 w5 eg3 m15 s4 z4 => ?_
    have m16 := m12.stp s4 (Nat.ne_of_lt (m12.lt))
    have m17 := m13.stp s4 (m13.notNew (Nat.le_refl _))
    have m18 := m11.stp s4 (Nat.ne_of_lt (m11.lt))
    have b5 := s4.below b4 b4.size b4.size
    have lg3 : w.heap.size ≤ g3 := by rw [eg3]; exact b4.size
    have ng3m16 : g1 ≠ g3 := by rw [eg3]; exact Nat.ne_of_lt (m12.lt)
    have ng3m17 : (.slice a (n) (cap) : Value).ownBlock ≠ some g3 := by rw [eg3]; exact m13.notNew (Nat.le_refl _)
    have ng3m18 : g2 ≠ g3 := by rw [eg3]; exact Nat.ne_of_lt (m11.lt)
    have tg3 : g3 < w5.heap.size := m15.lt
    clear eg3
    refine Fx.L.app (B := w.heap.size) (s := 5) (bytes := 40) (k := n) (m := 1) (v := .slice a (n) (cap)) (x := gsX g (opL g i k)) (by rfl) rfl rfl rfl Try.underlying41 (by kernel_rfl) (by kernel_rfl) rfl rfl m17 m15.cel (one5 (fun j _ => gr_one _ j)) (by omega) (by omega) (by omega) b5.size fun g4 cap1 w6 ho1 hg1 hgv1 hlt1 => ?_
    have hct2 := Fx.ChT.of_grown hg1 m17
    have m20 := m16.chT hct2 (by decide)
    have m21 := m18.grown hg1 ng2m8
    have ng4m21 : g2 ≠ g4 := fun e => hgv1.elim (fun e2 => ng2m8 (by rw [e]; exact e2)) (fun e2 => by have := m18.lt; omega)
    have m19 : Fx.Own w6 w.heap.size 88 5 (.slice (some ⟨g4, 0, none⟩) (n + 1) cap1) (n + 1) (gsX g (opL g i (k + 1))) := (ho1.congr (fun j hj => by rw [op_yes c17 c21]; exact gs_app hn j hj))
    have b6 : Below w.heap.size w w6 := Fx.Below.grow b5 hg1 b5.size (fun q hq => (m17.ge hq).1)
    refine Fx.L.v (.slice (some ⟨g4, 0, none⟩) (n + 1) (cap1)) (Fx.x_assign rfl rfl) ?_
    refine Fx.L.nil (Fx.blkN (Fx.seqN (Fx.W.list (Fx.L.v (.int .i64 ((k : Int) + 1)) (Fx.x_add rfl h6 rfl (Fx.i64e (by omega) (by omega))) ?_))))
    refine Fx.L.v (.int .i64 ((k : Int) + 1)) (Fx.x_move rfl rfl) ?_
    refine Fx.L.nil ?_
    skip
    refine Fx.lpN ⟨k + 1, n + 1, (some ⟨g4, 0, none⟩), cap1, by omega, (by rw [op_yes c17 c21, List.length_append, ← hn]; rfl), (h1.trans (by first | rfl | exact congrArg (Value.int .i64) (by omega))), h2, (by rfl), h4, (h5.trans (by first | rfl | exact congrArg (Value.int .i64) (by omega))), (by first | rfl | exact congrArg (Value.int .i64) (by omega)), m20, m19, b6⟩ ?_
    show (s.gn - (intOf ((.int .i64 ((k : Int) + 1)))).toNat) < _
    simp only [h6, intOf]; omega
   ·refine Fx.L.v (.bool false) (Fx.x_eqlF rfl rfl rfl c21) ?_
    refine Fx.L.v (.bool false) (Fx.x_pickT rfl rfl rfl) ?_
    refine Fx.L.nil (Fx.seqN (Fx.W.cond (b := false) rfl (fun h => nomatch h) (fun _ => Fx.W.skip (Fx.blkN (Fx.seqN (Fx.W.list (Fx.L.v (.int .i64 ((k : Int) + 1)) (Fx.x_add rfl h6 rfl (Fx.i64e (by omega) (by omega))) ?_)))))))
    refine Fx.L.v (.int .i64 ((k : Int) + 1)) (Fx.x_move rfl rfl) ?_
    refine Fx.L.nil ?_
    have m22 := m13.congr (y := gsX g (opL g i (k + 1))) (fun j _ => by rw [op_no (fun h => c21 h.2)])
    skip
    refine Fx.lpN ⟨k + 1, n, a, cap, by omega, (by rw [op_no (fun h => c21 h.2)]; exact hn), (h1.trans (by first | rfl | exact congrArg (Value.int .i64) (by omega))), h2, h3, h4, (h5.trans (by first | rfl | exact congrArg (Value.int .i64) (by omega))), (by first | rfl | exact congrArg (Value.int .i64) (by omega)), m12, m22, b4⟩ ?_
    show (s.gn - (intOf ((.int .i64 ((k : Int) + 1)))).toNat) < _
    simp only [h6, intOf]; omega
  ·refine Fx.L.v (.bool false) (Fx.x_eqlF rfl rfl rfl c17) ?_
   refine Fx.L.v (.bool false) (Fx.x_move rfl rfl) ?_
   refine Fx.L.skip (by rfl) rfl ?_
   refine Fx.L.skip (by rfl) rfl ?_
   refine Fx.L.skip (by rfl) rfl ?_
   refine Fx.L.v (.bool false) (Fx.x_pickF rfl rfl rfl) ?_
   refine Fx.L.nil (Fx.seqN (Fx.W.cond (b := false) rfl (fun h => nomatch h) (fun _ => Fx.W.skip (Fx.blkN (Fx.seqN (Fx.W.list (Fx.L.v (.int .i64 ((k : Int) + 1)) (Fx.x_add rfl h6 rfl (Fx.i64e (by omega) (by omega))) ?_)))))))
   refine Fx.L.v (.int .i64 ((k : Int) + 1)) (Fx.x_move rfl rfl) ?_
   refine Fx.L.nil ?_
   have m23 := m13.congr (y := gsX g (opL g i (k + 1))) (fun j _ => by rw [op_no (fun h => c17 h.1)])
   skip
   refine Fx.lpN ⟨k + 1, n, a, cap, by omega, (by rw [op_no (fun h => c17 h.1)]; exact hn), (h1.trans (by first | rfl | exact congrArg (Value.int .i64) (by omega))), h2, h3, h4, (h5.trans (by first | rfl | exact congrArg (Value.int .i64) (by omega))), (by first | rfl | exact congrArg (Value.int .i64) (by omega)), m12, m23, b4⟩ ?_
   show (s.gn - (intOf ((.int .i64 ((k : Int) + 1)))).toNat) < _
   simp only [h6, intOf]; omega
 ·refine Fx.L.v (.bool false) (Fx.x_lssF rfl h6 h5 c11) ?_
  refine Fx.L.nil (Fx.seqN (Fx.W.seq (Fx.W.cond (b := false) rfl (fun h => nomatch h) (fun _ => Fx.W.exit (Fx.seqX (Fx.lpX (Fx.blkX (Fx.seqN (Fx.W.seq (Fx.W.list (Fx.L.v (.slice a (n) (cap)) (Fx.x_move rfl h3) ?_)))))))))))
  refine Fx.L.v (.slice a (n) (cap)) (Fx.x_assign rfl rfl) ?_
  refine Fx.L.nil (Fx.seqN (Fx.W.ret (⟨.slice a (n) (cap), Fx.retV1 Try.results37 (by exact rfl), ?_⟩)))
  obtain rfl : k = s.gn := by omega
  exact ⟨_, n, rfl, hn, m4, b2⟩
end Go.Proofs.Ytolmkjepieoloaa
namespace Go.Proofs.Ytolmkjepieoloaa
open Go.RowKit Rt
namespace Rt
def cntS (id par : Nat → Int) (n : Nat) (x y : Int) : Nat → Int
  | 0 => 0
  | m + 1 => cntS id par n x y m + if iterS id par n m x = y then 1 else 0
def pcS (id par : Nat → Int) (n : Nat) (x y : Int) : Int := cntS id par n x y (pathS id par n x)
def oP (id par : Nat → Int) (n : Nat) (g : Nat → Nat → Int) (y : Int) (l : List Nat) : Nat → Int
  | 0 => 0
  | j + 1 => oP id par n g y l j + g (l.getD j 0) 3 * pcS id par n (g (l.getD j 0) 2) y
def usedI (id par : Nat → Int) (n : Nat) (g : Nat → Nat → Int) (gn : Nat) (y : Int) : Nat → Int
  | 0 => 0
  | i + 1 => usedI id par n g gn y i + oP id par n g y (opL g ((i : Int) + 1) gn) (opL g ((i : Int) + 1) gn).length
def lsumV (r : Nat → Int) : Nat → Int
  | 0 => 0
  | k + 1 => lsumV r k + localV r ((k : Int) + 1)
section
variable {id par : Nat → Int} {n gn : Nat} {g : Nat → Nat → Int} {x y : Int} {L : LdC} {T : Nat}
theorem cntS_nn : ∀ m, 0 ≤ cntS id par n x y m
  | 0 => Int.le_refl _
  | m + 1 => by have := cntS_nn m; unfold cntS; split <;> omega
theorem cntS_mono {a : Nat} : ∀ m, a ≤ m → cntS id par n x y a ≤ cntS id par n x y m
  | 0, h => by obtain rfl : a = 0 := by omega
               exact Int.le_refl _
  | m + 1, h => by
    by_cases e : a = m + 1
    · rw [e]; exact Int.le_refl _
    · have := cntS_mono (a := a) m (by omega)
      show _ ≤ cntS id par n x y m + _
      split <;> omega
theorem op_lt {i : Int} : ∀ k, ∀ q ∈ opL g i k, q < k ∧ g q 0 = i ∧ g q 4 = 0
  | 0, q, h => absurd h List.not_mem_nil
  | k + 1, q, h => by
    by_cases c : g k 0 = i ∧ g k 4 = 0
    · rw [op_yes c.1 c.2] at h
      rcases List.mem_append.1 h with h | h
      · have := op_lt k q h; exact ⟨by omega, this.2⟩
      · obtain rfl : q = k := by simpa using h
        exact ⟨by omega, c⟩
    · rw [op_no c] at h
      have := op_lt k q h; exact ⟨by omega, this.2⟩
theorem getD_mem {l : List Nat} {j : Nat} (h : j < l.length) : l.getD j 0 ∈ l := by
  rw [List.getD_eq_getElem?_getD, List.getElem?_eq_getElem h]; exact List.getElem_mem h
theorem oP_app {l : List Nat} {q : Nat} : ∀ j, j ≤ l.length → oP id par n g y (l ++ [q]) j = oP id par n g y l j
  | 0, _ => rfl
  | j + 1, h => by
    unfold oP
    rw [oP_app j (by omega), show (l ++ [q]).getD j 0 = l.getD j 0 by rw [List.getD_eq_getElem?_getD, List.getD_eq_getElem?_getD, List.getElem?_append_left (by omega)]]
def oS (id par : Nat → Int) (n : Nat) (g : Nat → Nat → Int) (y : Int) (i : Int) : Nat → Int
  | 0 => 0
  | q + 1 => oS id par n g y i q + if g q 0 = i ∧ g q 4 = 0 then g q 3 * pcS id par n (g q 2) y else 0
theorem oP_oS {i : Int} : ∀ k, oP id par n g y (opL g i k) (opL g i k).length = oS id par n g y i k
  | 0 => rfl
  | k + 1 => by
    have ih := oP_oS (i := i) k
    unfold oS
    by_cases c : g k 0 = i ∧ g k 4 = 0
    · rw [op_yes c.1 c.2, if_pos c, List.length_append]
      show oP id par n g y (opL g i k ++ [k]) (opL g i k).length + _ = _
      rw [oP_app _ (Nat.le_refl _), ih, show (opL g i k ++ [k]).getD (opL g i k).length 0 = k by rw [List.getD_eq_getElem?_getD, List.getElem?_append_right (by omega), Nat.sub_self]; rfl]
    · rw [op_no c, if_neg c, ih]; omega
theorem oP_step {l : List Nat} (hp : ∀ q ∈ l, 0 ≤ g q 3) {j : Nat} : ∀ m, j ≤ m → m ≤ l.length → oP id par n g y l j ≤ oP id par n g y l m
  | 0, h, _ => by obtain rfl : j = 0 := by omega
                  exact Int.le_refl _
  | m + 1, h, hm => by
    by_cases e : j = m + 1
    · rw [e]; exact Int.le_refl _
    · have := oP_step hp (j := j) m (by omega) (by omega)
      have h2 : 0 ≤ g (l.getD m 0) 3 * pcS id par n (g (l.getD m 0) 2) y := Int.mul_nonneg (hp _ (getD_mem (by omega))) (cntS_nn _)
      show _ ≤ oP id par n g y l m + _
      omega
theorem used_step (hp : ∀ q, q < gn → 0 ≤ g q 3) {i : Nat} : ∀ m, i ≤ m → usedI id par n g gn y i ≤ usedI id par n g gn y m
  | 0, h => by obtain rfl : i = 0 := by omega
               exact Int.le_refl _
  | m + 1, h => by
    by_cases e : i = m + 1
    · rw [e]; exact Int.le_refl _
    · have := used_step hp (i := i) m (by omega)
      have h2 := oP_step (id := id) (par := par) (n := n) (g := g) (y := y) (l := opL g ((m : Int) + 1) gn) (fun q hq => hp q (op_lt gn q hq).1) (j := 0) _ (Nat.zero_le _) (Nat.le_refl _)
      have h3 : (0 : Int) ≤ oP id par n g y (opL g ((m : Int) + 1) gn) (opL g ((m : Int) + 1) gn).length := h2
      show _ ≤ usedI id par n g gn y m + _
      omega
theorem oS_succ {i : Int} {q : Nat} : oS id par n g y i (q + 1) = oS id par n g y i q + if g q 0 = i ∧ g q 4 = 0 then g q 3 * pcS id par n (g q 2) y else 0 := rfl
theorem used_all {t : Nat → Nat → Int} {tn : Nat} : ∀ m, (∀ q, q < m → 1 ≤ g q 0 ∧ g q 0 ≤ 6) → (∀ q, q < m → openG t tn (g q) y = if g q 4 = 0 then g q 3 * pcS id par n (g q 2) y else 0) →
    oS id par n g y 1 m + oS id par n g y 2 m + oS id par n g y 3 m + oS id par n g y 4 m + oS id par n g y 5 m + oS id par n g y 6 m = openN t tn g y m
  | 0, _, _ => rfl
  | m + 1, h, hF => by
    have ih := used_all (t := t) (tn := tn) m (fun q hq => h q (by omega)) (fun q hq => hF q (by omega))
    have hm := h m (by omega)
    have e : openN t tn g y (m + 1) = openN t tn g y m + openG t tn (g m) y := rfl
    rw [e, hF m (by omega), ← ih, oS_succ, oS_succ, oS_succ, oS_succ, oS_succ, oS_succ]
    by_cases c : g m 4 = 0
    · generalize g m 3 * pcS id par n (g m 2) y = v
      simp only [c, and_true, if_true]
      generalize g m 0 = o at *
      have : o = 1 ∨ o = 2 ∨ o = 3 ∨ o = 4 ∨ o = 5 ∨ o = 6 := by omega
      rcases this with rfl | rfl | rfl | rfl | rfl | rfl <;> simp <;> omega
    · simp only [c, and_false, if_false]; omega
theorem used_six {gn : Nat} : usedI id par n g gn y 6 = oS id par n g y 1 gn + oS id par n g y 2 gn + oS id par n g y 3 gn + oS id par n g y 4 gn + oS id par n g y 5 gn + oS id par n g y 6 gn := by
  have e : ∀ i : Nat, usedI id par n g gn y (i + 1) = usedI id par n g gn y i + oS id par n g y ((i : Int) + 1) gn := fun i => by rw [← oP_oS]; rfl
  rw [e 5, e 4, e 3, e 2, e 1, e 0]
  show 0 + oS id par n g y 1 gn + oS id par n g y 2 gn + oS id par n g y 3 gn + oS id par n g y 4 gn + oS id par n g y 5 gn + oS id par n g y 6 gn = _
  omega
theorem iter_eq (h : Inv0 L T) (h0 : 0 < L.nn) : ∀ k, iterS L.id L.par L.nn k x = iterT L.t L.tn k x
  | 0 => rfl
  | k + 1 => by
    show L.par (firstS L.id L.nn (iterS L.id L.par L.nn k x)).toNat = L.t (findT L.t L.tn (iterT L.t L.tn k x)).toNat 1
    rw [iter_eq h h0 k]
    have e : firstS L.id L.nn (iterT L.t L.tn k x) = findT L.t L.tn (iterT L.t L.tn k x) := h.node _
    rw [e]
    refine ((h.tid _ ?_).2).symm
    rcases ilt (findT L.t L.tn (iterT L.t L.tn k x)) with h1 | h1
    · rw [Int.toNat_of_nonpos (by omega)]; exact h0
    · obtain ⟨j, hj, e2, _⟩ := find_nat h1
      rw [e2, ← h.tnn]; exact hj
theorem pc_eq (h : Inv0 L T) (h0 : 0 < L.nn) : pcS L.id L.par L.nn x y = cntT L.t L.tn x y := by
  obtain ⟨D, hD, hD2⟩ := h.dep x
  obtain ⟨K, hK, hK2, hall⟩ := first_end D hD2
  have e1 : K = pathK L.t L.tn x := pathK_eq hall hK2 hD2 (by omega)
  have hn : ∀ z, firstS L.id L.nn z = findT L.t L.tn z := fun z => h.node z
  have e2 : K = pathS L.id L.par L.nn x := path_end (fun i hi => by rw [iter_eq h h0, hn]; exact hall i hi) (by rw [iter_eq h h0, hn]; exact hK2) (by omega)
  unfold pcS cntT
  rw [← e1, ← e2]
  clear e1 e2 hall hK2 hK
  induction K with
  | zero => rfl
  | succ K ih => unfold cntS cntP; rw [ih, iter_eq h h0]
theorem used_node (h : Inv L T) {k : Nat} (hk : k < L.nn) : usedI L.id L.par L.nn L.g L.gn (L.id k) 6 = uSum (L.R k) := by
  rw [h.s.us k hk, used_six]
  refine used_all L.gn (fun q hq => ⟨(h.s.gb q hq).2.1, (h.s.gb q hq).2.2.1⟩) fun q hq => ?_
  unfold openG
  rw [pc_eq h.toInv0 (by omega)]
end
theorem lsumV_eq {r : Nat → Int} (h : may r = true) : uSum r + lsumV r 6 = gSum r := by
  have e : lsumV r 6 = L r 0 + L r 1 + L r 2 + L r 3 + L r 4 + L r 5 := by
    have e : ∀ k, k < 6 → lsumV r (k + 1) = lsumV r k + L r k := fun k hk => by rw [← localV_L h k hk]; rfl
    rw [e 5 (by omega), e 4 (by omega), e 3 (by omega), e 2 (by omega), e 1 (by omega), e 0 (by omega)]
    show 0 + _ + _ + _ + _ + _ + _ = _
    omega
  rw [e]; simp only [L, uSum, gSum]; omega
theorem lsumV_bd (r : Nat → Int) : ∀ k : Nat, -(9007199254740992 * (k : Int)) ≤ lsumV r k ∧ lsumV r k ≤ 9007199254740992 * (k : Int)
  | 0 => by show _ ≤ (0 : Int) ∧ (0 : Int) ≤ _; omega
  | k + 1 => by
    have := lsumV_bd r k
    have := localV_bd r ((k : Int) + 1)
    show _ ≤ lsumV r k + _ ∧ lsumV r k + _ ≤ _
    omega
end Rt
end Go.Proofs.Ytolmkjepieoloaa
namespace Go.Proofs.Ytolmkjepieoloaa
open Go.RowKit Rt
namespace Rt
def oM (id par : Nat → Int) (n : Nat) (g : Nat → Nat → Int) (y : Int) (q m : Nat) : Int := g q 3 * cntS id par n (g q 2) y m
section
variable {id par : Nat → Int} {n gn : Nat} {g : Nat → Nat → Int} {x y : Int} {q m i j : Nat}
theorem oM_zero : oM id par n g y q 0 = 0 := Int.mul_zero _
theorem oM_yes (h : iterS id par n m (g q 2) = y) : oM id par n g y q (m + 1) = oM id par n g y q m + g q 3 := by
  unfold oM; rw [show cntS id par n (g q 2) y (m + 1) = cntS id par n (g q 2) y m + 1 by show _ + _ = _; rw [if_pos h], Int.mul_add, Int.mul_one]
theorem oM_no (h : ¬ iterS id par n m (g q 2) = y) : oM id par n g y q (m + 1) = oM id par n g y q m := by
  unfold oM; rw [show cntS id par n (g q 2) y (m + 1) = cntS id par n (g q 2) y m by show _ + _ = _; rw [if_neg h, Int.add_zero]]
theorem oM_bd (hp : ∀ q, q < gn → 0 ≤ g q 3) (hi : i < 6) (hj : j < (opL g ((i : Int) + 1) gn).length) (hm : m ≤ pathS id par n (g ((opL g ((i : Int) + 1) gn).getD j 0) 2)) :
    0 ≤ oM id par n g y ((opL g ((i : Int) + 1) gn).getD j 0) m ∧ usedI id par n g gn y i + oP id par n g y (opL g ((i : Int) + 1) gn) j + oM id par n g y ((opL g ((i : Int) + 1) gn).getD j 0) m ≤ usedI id par n g gn y 6 ∧ 0 ≤ usedI id par n g gn y i ∧ 0 ≤ oP id par n g y (opL g ((i : Int) + 1) gn) j := by
  have hl : ∀ q ∈ opL g ((i : Int) + 1) gn, 0 ≤ g q 3 := fun q hq => hp q (op_lt gn q hq).1
  have h0 := hl _ (getD_mem hj)
  have h1 : oM id par n g y ((opL g ((i : Int) + 1) gn).getD j 0) m ≤ oM id par n g y ((opL g ((i : Int) + 1) gn).getD j 0) (pathS id par n (g ((opL g ((i : Int) + 1) gn).getD j 0) 2)) := Int.mul_le_mul_of_nonneg_left (cntS_mono _ hm) h0
  have h2 : oP id par n g y (opL g ((i : Int) + 1) gn) (j + 1) = oP id par n g y (opL g ((i : Int) + 1) gn) j + oM id par n g y ((opL g ((i : Int) + 1) gn).getD j 0) (pathS id par n (g ((opL g ((i : Int) + 1) gn).getD j 0) 2)) := rfl
  have h3 := oP_step (id := id) (par := par) (n := n) (g := g) (y := y) hl (j := j + 1) _ hj (Nat.le_refl _)
  have h4 : usedI id par n g gn y (i + 1) = usedI id par n g gn y i + oP id par n g y (opL g ((i : Int) + 1) gn) (opL g ((i : Int) + 1) gn).length := rfl
  have h5 := used_step (id := id) (par := par) (n := n) (g := g) (y := y) hp (i := i + 1) 6 (by omega)
  have h6 := used_step (id := id) (par := par) (n := n) (g := g) (y := y) hp (i := 0) i (Nat.zero_le _)
  have h7 := oP_step (id := id) (par := par) (n := n) (g := g) (y := y) hl (j := 0) j (Nat.zero_le _) (by omega)
  have h8 : (0 : Int) ≤ usedI id par n g gn y i := h6
  have h9 : (0 : Int) ≤ oP id par n g y (opL g ((i : Int) + 1) gn) j := h7
  exact ⟨Int.mul_nonneg h0 (cntS_nn _), by omega, h8, h9⟩
theorem u_le {r : Nat → Int} (h : may r = true) : 0 ≤ uSum r ∧ uSum r ≤ 1125899906842624 := by
  have h1 := (may_iff r).1 h
  have h2 := lsumV_eq h
  have a := h1.2.1
  have b := fun k hk => localV_L h k hk
  have e : ∀ k, k < 6 → lsumV r (k + 1) = lsumV r k + L r k := fun k hk => by rw [← b k hk]; rfl
  rw [e 5 (by omega), e 4 (by omega), e 3 (by omega), e 2 (by omega), e 1 (by omega), e 0 (by omega)] at h2
  have a0 := a 0 (by omega); have a1 := a 1 (by omega); have a2 := a 2 (by omega); have a3 := a 3 (by omega); have a4 := a 4 (by omega); have a5 := a 5 (by omega)
  have z : lsumV r 0 = 0 := rfl
  have hg := h1.2.2
  refine ⟨by unfold uSum; omega, by omega⟩
end
theorem qu_at {r : Nat → Int} {i p : Nat} (hp : p = i + 2) (hi : i < 6) : quN r 6 p = .int .i64 (localV r ((i : Int) + 1)) := by
  subst hp
  unfold quN
  rw [if_neg (by omega), if_neg (by omega), if_pos (by omega)]
  congr 2; omega
end Rt
end Go.Proofs.Ytolmkjepieoloaa
namespace Go.Proofs.Ytolmkjepieoloaa
open Go.RowKit Rt
theorem l_newWorld2 (n : Nat) (m : Int) (w : World) (hm : m = (n : Int)) (hn1 : 1 ≤ n) (hn6 : n ≤ 6) :
    Calls Try.prog 22 #[.int .i64 m] w fun e w' => ∃ p M, e = .returned (.pointer (some ⟨p, 0, none⟩)) ∧ M.n = n ∧ M.an = 0 ∧ WldO w' w.heap.size p M 0 ∧ Below w.heap.size w w' := by
  subst hm; exact l_newWorld n w hn1 hn6
theorem bchB {B : Nat} {w0 w1 w2 : World} (h : Below w0.heap.size w0 w1) (hb : Below B w1 w2) (hB : w0.heap.size ≤ B) : Below w0.heap.size w0 w2 := h.trans (hb.mono hB)
end Go.Proofs.Ytolmkjepieoloaa
namespace Go.Proofs.Ytolmkjepieoloaa
open Go.RowKit Rt
theorem w25_of {T : Nat} (m : LdM) (k : Nat) (w : World) (ha : Fx.Arr w m.s.na m.s.nn 56 (ndX m)) (hn : m.s.nn ≤ 1000000) (hk : k < m.s.nn) (hI : Inv m.core T) :
    Calls Try.prog 36 #[.agg (Fx.varr 20 (stY m.s)), .int .u64 (m.id k)] w fun e w' => e = .returned (.tuple #[.agg (Fx.varr 8 (quN (m.R k) 6)), .int .i64 (0)]) ∧ Below w.heap.size w w' := by
  have := q_of m.s m.id m.par m.R (m.id k) w ha hn
  have e : firstS m.id m.s.nn (m.id k) = (k : Int) := by
    have e1 : firstS m.id m.s.nn (m.id k) = findT m.t m.tn (m.id k) := hI.toInv0.node _
    have e2 : m.t k 0 = m.id k := (hI.tid k hk).1
    rw [e1, ← e2]; exact findT_at hI.tinj (by have e3 : m.tn = m.s.nn := hI.tnn
                                              show k < m.tn; rw [e3]; exact hk)
  rw [show quF m.id m.s.nn m.R (m.id k) = quN (m.R k) 6 by unfold quF; rw [e, if_neg (by omega)]; rfl, show quE m.id m.s.nn (m.id k) = 0 by unfold quE; rw [e, if_neg (by omega)]] at this
  exact this
set_option maxRecDepth 20000 in
set_option maxHeartbeats 2000000 in
theorem sums25_any (rb : Nat) (aa0 : Option Addr) (na ca : Nat) (xa : Nat → ActM) (pk : Nat) (w : World) (hrb : rb ≤ 255) (hpk : pk ≤ 255) (hxa : ∀ k, k < na → ActOk (xa k)) (hacts : Fx.Arr w aa0 na 9 (Fx.flat 9 fun k => actY (xa k))) :
    Calls Try.prog 7 #[.int .u8 ((rb : Int)), .slice aa0 (na) (ca), .int .u8 ((pk : Int))] w fun e w' => e = .returned (.bool true) ∧ Below w.heap.size w w' := by
 refine Fx.enter Try.func7 rfl (n := 142) rfl (by rfl) ?_
 refine Fx.W.seq (Fx.W.list (Fx.L.v (.bool false) (Fx.x_assign rfl rfl) ?_))
 refine Fx.L.nil (Fx.seqN (Fx.W.seq (Fx.W.seq (Fx.W.list (Fx.L.v (.slice aa0 (na) (ca)) (Fx.x_move rfl rfl) ?_)))))
 by_cases c21 : (decide ((na : Int) ≤ 60)) = true
 ·refine Fx.L.call (by rfl) (Fx.r_call (args := [.slice aa0 (na) (ca)]) rfl rfl Try.func20 rfl rfl) rfl ((l_few _ _ _ _).mono ?_)
  rintro e v1 ⟨he, hv1⟩
  subst v1
  refine ⟨.bool true, by rw [he, c21], ?_⟩
  clear he
  refine Fx.L.v (.bool false) (Fx.x_notF rfl rfl) ?_
  refine Fx.L.nil (Fx.seqN (Fx.W.cond (b := false) rfl (fun h => nomatch h) (fun _ => Fx.W.skip (Fx.seqN (Fx.W.seq ?_)))))
  have hna := of_decide_eq_true c21
  obtain ⟨rn, ern⟩ : ∃ r, r = rb % 6 := ⟨_, rfl⟩
  have hrn : rn < 6 := by rw [ern]; exact Nat.mod_lt _ (by omega)
  refine Fx.W.list (Fx.L.v (.int .u8 ((rb : Int))) (Fx.x_move rfl rfl) ?_)
  refine Fx.L.v (.int .i64 ((rb : Int))) (Fx.x_conv rfl rfl (by kernel_rfl) Try.underlying3 (Fx.i64e (by omega) rfl)) ?_
  refine Fx.L.v (.int .i64 ((rn : Int))) (Fx.x_rem rfl rfl rfl (by omega) (remL ern)) ?_
  refine Fx.L.v (.int .i64 ((rn : Int) + 1)) (Fx.x_add rfl rfl rfl (Fx.i64e (by omega) (by omega))) ?_
  refine Fx.L.call (by rfl) (Fx.r_call (args := [.int .i64 ((rn : Int) + 1)]) rfl rfl Try.func22 rfl rfl) rfl ((l_newWorld2 (rn + 1) _ _ (by omega) (by omega) (by omega)).mono ?_)
  rintro e9 w1 ⟨pw, M0, he, hMn, hMa, hW0, hbw⟩
  refine ⟨.pointer (some ⟨pw, 0, none⟩), he, ?_⟩
  clear he
  have sB := (Below.refl w.heap.size w).size
  have s1 := Fx.Stp.of_below hbw
  have b1 := s1.below (Below.refl w.heap.size w) (Below.refl w.heap.size w).size (Below.refl w.heap.size w).size
  have sW : w.heap.size ≤ w1.heap.size := hbw.size
  refine Fx.L.v (.pointer (some ⟨pw, 0, none⟩)) (Fx.x_assign rfl rfl) ?_
  refine Fx.L.nil (Fx.seqN (Fx.W.seq (Fx.W.seq (Fx.W.list (Fx.L.v (.int .i64 (0)) (Fx.x_assign rfl rfl) ?_)))))
  refine Fx.L.nil (Fx.seqN (Fx.W.block (Fx.W.loop (fun f w_ => ∃ k : Nat, ∃ M9 : WM, ∃ T9 : Nat, k ≤ na ∧ T9 ≤ 3660 * k ∧ M9.n = M0.n ∧ M9.an ≤ k ∧ w.heap.size ≤ w_.heap.size ∧ f 1 = .slice aa0 (na) (ca) ∧ f 2 = .int .u8 ((pk : Int)) ∧ f 7 = .pointer (some ⟨pw, 0, none⟩) ∧ f 8 = .int .i64 ((k : Int)) ∧ WldO w_ w.heap.size pw M9 T9 ∧ Below w.heap.size w w_) (fun f _ => (na - (intOf (f 8)).toNat)) ⟨0, M0, 0, by omega, by omega, rfl, by omega, sW, (by rfl), (by first | rfl | exact congrArg (Value.int .u8) (by omega)), (by rfl), (by first | rfl | exact congrArg (Value.int .i64) (by omega)), hW0, b1⟩ ?_)))
  rintro f1 w2 ⟨k, M9, T9, hk, hTk, hMn9, hMa9, sWk, h1, h2, h3, h4, m1, b2⟩
  refine Fx.W.seq (Fx.W.seq (Fx.W.list (Fx.L.v (.int .i64 ((k : Int))) (Fx.x_move rfl h4) ?_)))
  refine Fx.L.v (.slice aa0 (na) (ca)) (Fx.x_move rfl h1) ?_
  refine Fx.L.v (.int .i64 ((na : Int))) (Fx.x_len rfl rfl rfl (by kernel_rfl)) ?_
  by_cases c32 : (k : Int) < (na : Int)
  ·refine Fx.L.v (.bool true) (Fx.x_lssT rfl rfl rfl c32) ?_
   refine Fx.L.nil (Fx.seqN (Fx.W.cond (b := true) rfl (fun _ => Fx.W.skip (Fx.seqN (Fx.W.seq (Fx.W.block (Fx.W.list (Fx.L.v (.pointer (some ⟨pw, 0, none⟩)) (Fx.x_move rfl h3) ?_)))))) (fun h => nomatch h)))
   refine Fx.L.v (.slice aa0 (na) (ca)) (Fx.x_move rfl h1) ?_
   refine Fx.L.v (.int .i64 ((k : Int))) (Fx.x_move rfl h4) ?_
   obtain ⟨bq1, oq1, eq1, m2⟩ := (hacts.up b2 rfl) (by omega)
   have lbq1 : bq1 < w2.heap.size := m2.lt (by omega)
   refine Fx.L.v (.pointer (some ⟨bq1, 9 * k + oq1, none⟩)) (Fx.x_indexS rfl (rfl.trans (congrArg (fun q => Value.slice q (na) (ca)) eq1)) rfl Try.underlying38 (s := 9) (by kernel_rfl) (by omega) (by omega) (by omega)) ?_
   refine Fx.L.v (.agg (Fx.varr 9 (actY (xa k)))) (Fx.x_loadA (x := Fx.flat 9 fun k => actY (xa k)) (y := actY (xa k)) rfl rfl (by kernel_rfl) (by kernel_rfl) m2 (i := 9 * k) (by omega) (by omega) (fun jq hjq => Fx.flat_at (k := k) (by omega) hjq)) ?_
   refine Fx.L.call (by rfl) (Fx.r_call (args := [.pointer (some ⟨pw, 0, none⟩), .agg (Fx.varr 9 (actY (xa k)))]) rfl rfl Try.func23 rfl rfl) rfl ((l_do M9 w.heap.size pw T9 (xa k) _ m1 sWk (hxa k (by omega)) (by omega) (by omega)).mono ?_)
   rintro e9 w3 ⟨⟨v9, he⟩, M2, hW1, hM2n, hM2a, hb1⟩
   refine ⟨v9, he, ?_⟩
   clear he
   have b3 : Below w.heap.size w w3 := bchB b2 hb1 sB
   have sW1 : w.heap.size ≤ w3.heap.size := by have := hb1.size; omega
   have sWn : w.heap.size ≤ w3.heap.size := by have := hb1.size; omega
   refine Fx.L.nil (Fx.blkN (Fx.seqN (Fx.W.list (Fx.L.v (.int .i64 ((k : Int))) (Fx.x_move rfl h4) ?_))))
   refine Fx.L.v (.int .i64 ((k : Int) + 1)) (Fx.x_add rfl rfl rfl (Fx.i64e (by omega) (by omega))) ?_
   refine Fx.L.v (.int .i64 ((k : Int) + 1)) (Fx.x_assign rfl rfl) ?_
   refine Fx.L.nil (Fx.lpN ⟨k + 1, M2, (T9 + 3660), by omega, by omega, (hM2n.trans hMn9), by omega, sWn, h1, (h2.trans (by first | rfl | exact congrArg (Value.int .u8) (by omega))), h3, (by first | rfl | exact congrArg (Value.int .i64) (by omega)), hW1, b3⟩ ?_)
   show (na - (intOf ((.int .i64 ((k : Int) + 1)))).toNat) < _
   simp only [h4, intOf]; omega
  ·refine Fx.L.v (.bool false) (Fx.x_lssF rfl rfl rfl c32) ?_
   refine Fx.L.nil (Fx.seqN (Fx.W.cond (b := false) rfl (fun h => nomatch h) (fun _ => Fx.W.exit (Fx.seqX (Fx.lpX (Fx.blkX (Fx.seqN (Fx.W.seq ?_))))))))
   have hMn1 : M9.n = rn + 1 := hMn9.trans hMn
   obtain ⟨qw, eqw⟩ : ∃ r, r = pk % M9.n := ⟨_, rfl⟩
   have hqw : qw < M9.n := by rw [eqw]; exact Nat.mod_lt _ (by omega)
   have hWc := m1.c
   have hWl := m1.l
   have hWa := m1.a
   have hWg := m1.g
   have hLo := m1.g qw (by omega)
   have hLoc := hLo.c
   have hLob := hLo.bn
   have hLog := hLo.bg
   have hWi := m1.inv qw (by omega)
   have hLon := hLo.n
   -- region 8 draws
   obtain ⟨gq1, eq2⟩ := hWl.addr (by omega)
   have m3 : Fx.Own w2 w.heap.size 59 1 (.slice (some ⟨gq1, 0, none⟩) M9.n M9.lc) M9.n (ptX M9.pl) := hWl.congV (congrArg (fun q => Value.slice q M9.n M9.lc) eq2)
   refine Fx.W.one (T := 43) (T' := 43) (a := .tmp 9) (v := .tmp 57) (m := 20) (z := fun zq => if zq < 12 then .bool false else if zq < 18 then .int .u64 (0) else .slice none 0 0) (y := stY (M9.ml qw).s) (u := .agg (Fx.varr 20 (stY (M9.ml qw).s))) 17 18 (List.replicate 19 (0, 2, [], [])) #[.pointer (some ⟨pw, 0, none⟩), .pointer (some ⟨pw, 0, none⟩), .pointer (some ⟨pw, 0, none⟩), .slice M9.la (M9.n) (M9.lc), .int .u8 ((pk : Int)), .int .i64 ((pk : Int)), .pointer (some ⟨pw, 0, none⟩), .pointer (some ⟨pw, 0, none⟩), .pointer (some ⟨pw, 0, none⟩), .slice M9.la (M9.n) (M9.lc), .int .i64 ((M9.n : Int)), .int .i64 ((qw : Int)), .pointer (some ⟨gq1, qw, none⟩), .pointer (some ⟨(M9.pl qw), 0, none⟩), .pointer (some ⟨(M9.pl qw), 0, none⟩), .pointer (some ⟨(M9.pl qw), 0, none⟩), .agg (Fx.varr 20 (stY (M9.ml qw).s)), undef, undef] (by kernel_rfl) (by kernel_rfl) (by kernel_rfl) (by kernel_rfl) (by kernel_rfl) (by kernel_rfl) rfl (by kernel_rfl) rfl rfl (by kernel_rfl) (fun g1 => (show Fx.ev _ (.tmp 9) = .pointer (some ⟨g1, 0, none⟩) from by kernel_rfl)) (fun g1 => (show Fx.ev _ (.tmp 57) = .agg (Fx.varr 20 (stY (M9.ml qw).s)) from by kernel_rfl)) (Fx.cells_agg _ _) (fun j _ => stY_one _ j) (by kernel_rfl) (fun g1 => ?_) ?_
   ·refine ⟨?_, ?_, ?_, ?_, ?_, ?_, ?_, ?_, ?_, ?_, ?_, ?_, ?_, ?_, ?_, ?_, ?_, ?_, ?_, trivial⟩
    ·exact .inr (.inr (Fx.qb_yes (v := .pointer (some ⟨pw, 0, none⟩)) (by kernel_rfl) (by kernel_rfl) (Fx.qbV fun v1 hv1 => Fx.x_move rfl ((Fx.fOne_out (by kernel_rfl)).trans h3))))
    ·exact .inr (.inr (Fx.qb_yes (v := .pointer (some ⟨pw, 0, none⟩)) (by kernel_rfl) (by kernel_rfl) (Fx.qbV fun v1 hv1 => Fx.x_nil rfl (show Fx.ev _ (.tmp 41) = .pointer (some ⟨pw, 0, none⟩) from by kernel_rfl))))
    ·exact .inr (.inr (Fx.qb_yes (v := .pointer (some ⟨pw, 0, none⟩)) (by kernel_rfl) (by kernel_rfl) (Fx.qbV fun v1 hv1 => Fx.x_field rfl (show Fx.ev _ (.tmp 42) = .pointer (some ⟨pw, 0, none⟩) from by kernel_rfl) Try.underlying63 rfl (s := 1) (by kernel_rfl) rfl rfl)))
    ·exact .inr (.inr (Fx.qb_yes (v := .slice M9.la (M9.n) (M9.lc)) (by kernel_rfl) (by kernel_rfl) (Fx.qbV fun v1 hv1 => Fx.x_load1 (x := wdY (.slice M9.la (M9.n) (M9.lc)) (.slice M9.aa (M9.an) (M9.ac))) rfl (show Fx.ev _ (.tmp 43) = .pointer (some ⟨pw, 0, none⟩) from by kernel_rfl) (by kernel_rfl) (hWc.cel.below hv1 (by have := hWc.lt; omega)) (i := 0) (by omega) (by omega) rfl)))
    ·exact .inr (.inr (Fx.qb_yes (v := .int .u8 ((pk : Int))) (by kernel_rfl) (by kernel_rfl) (Fx.qbV fun v1 hv1 => Fx.x_move rfl ((Fx.fOne_out (by kernel_rfl)).trans h2))))
    ·exact .inr (.inr (Fx.qb_yes (v := .int .i64 ((pk : Int))) (by kernel_rfl) (by kernel_rfl) (Fx.qbV fun v1 hv1 => Fx.x_conv rfl (show Fx.ev _ (.tmp 45) = .int .u8 ((pk : Int)) from by kernel_rfl) (by kernel_rfl) Try.underlying3 (Fx.i64e (by omega) rfl))))
    ·exact .inr (.inr (Fx.qb_yes (v := .pointer (some ⟨pw, 0, none⟩)) (by kernel_rfl) (by kernel_rfl) (Fx.qbV fun v1 hv1 => Fx.x_move rfl ((Fx.fOne_out (by kernel_rfl)).trans h3))))
    ·exact .inr (.inr (Fx.qb_yes (v := .pointer (some ⟨pw, 0, none⟩)) (by kernel_rfl) (by kernel_rfl) (Fx.qbV fun v1 hv1 => Fx.x_nil rfl (show Fx.ev _ (.tmp 47) = .pointer (some ⟨pw, 0, none⟩) from by kernel_rfl))))
    ·exact .inr (.inr (Fx.qb_yes (v := .pointer (some ⟨pw, 0, none⟩)) (by kernel_rfl) (by kernel_rfl) (Fx.qbV fun v1 hv1 => Fx.x_field rfl (show Fx.ev _ (.tmp 48) = .pointer (some ⟨pw, 0, none⟩) from by kernel_rfl) Try.underlying63 rfl (s := 1) (by kernel_rfl) rfl rfl)))
    ·exact .inr (.inr (Fx.qb_yes (v := .slice M9.la (M9.n) (M9.lc)) (by kernel_rfl) (by kernel_rfl) (Fx.qbV fun v1 hv1 => Fx.x_load1 (x := wdY (.slice M9.la (M9.n) (M9.lc)) (.slice M9.aa (M9.an) (M9.ac))) rfl (show Fx.ev _ (.tmp 49) = .pointer (some ⟨pw, 0, none⟩) from by kernel_rfl) (by kernel_rfl) (hWc.cel.below hv1 (by have := hWc.lt; omega)) (i := 0) (by omega) (by omega) rfl)))
    ·exact .inr (.inr (Fx.qb_yes (v := .int .i64 ((M9.n : Int))) (by kernel_rfl) (by kernel_rfl) (Fx.qbV fun v1 hv1 => Fx.x_len rfl rfl (show Fx.ev _ (.tmp 50) = .slice M9.la (M9.n) (M9.lc) from by kernel_rfl) (by kernel_rfl))))
    ·exact .inr (.inr (Fx.qb_yes (v := .int .i64 ((qw : Int))) (by kernel_rfl) (by kernel_rfl) (Fx.qbV fun v1 hv1 => Fx.x_rem rfl (show Fx.ev _ (.tmp 46) = .int .i64 ((pk : Int)) from by kernel_rfl) (show Fx.ev _ (.tmp 51) = .int .i64 ((M9.n : Int)) from by kernel_rfl) (by omega) (remL eqw))))
    ·exact .inr (.inr (Fx.qb_yes (v := .pointer (some ⟨gq1, qw, none⟩)) (by kernel_rfl) (by kernel_rfl) (Fx.qbV fun v1 hv1 => Fx.x_indexS rfl ((show Fx.ev _ (.tmp 44) = .slice M9.la (M9.n) (M9.lc) from by kernel_rfl).trans (congrArg (fun q => Value.slice q (M9.n) (M9.lc)) eq2)) (show Fx.ev _ (.tmp 52) = .int .i64 ((qw : Int)) from by kernel_rfl) Try.underlying60 (s := 1) (by kernel_rfl) (by omega) (by omega) (by omega))))
    ·exact .inr (.inr (Fx.qb_yes (v := .pointer (some ⟨(M9.pl qw), 0, none⟩)) (by kernel_rfl) (by kernel_rfl) (Fx.qbV fun v1 hv1 => Fx.x_load1 (x := ptX M9.pl) rfl (show Fx.ev _ (.tmp 53) = .pointer (some ⟨gq1, qw, none⟩) from by kernel_rfl) (by kernel_rfl) (m3.cel.below hv1 (by have := m3.lt; omega)) (i := qw) (by omega) (by omega) rfl)))
    ·exact .inr (.inr (Fx.qb_yes (v := .pointer (some ⟨(M9.pl qw), 0, none⟩)) (by kernel_rfl) (by kernel_rfl) (Fx.qbV fun v1 hv1 => Fx.x_nil rfl (show Fx.ev _ (.tmp 54) = .pointer (some ⟨(M9.pl qw), 0, none⟩) from by kernel_rfl))))
    ·exact .inr (.inr (Fx.qb_yes (v := .pointer (some ⟨(M9.pl qw), 0, none⟩)) (by kernel_rfl) (by kernel_rfl) (Fx.qbV fun v1 hv1 => Fx.x_field rfl (show Fx.ev _ (.tmp 55) = .pointer (some ⟨(M9.pl qw), 0, none⟩) from by kernel_rfl) Try.underlying71 rfl (s := 20) (by kernel_rfl) rfl rfl)))
    ·exact .inr (.inr (Fx.qb_yes (v := .agg (Fx.varr 20 (stY (M9.ml qw).s))) (by kernel_rfl) (by kernel_rfl) (Fx.qbV fun v1 hv1 => Fx.x_loadA (x := ldY (M9.ml qw)) (y := stY (M9.ml qw).s) rfl (show Fx.ev _ (.tmp 56) = .pointer (some ⟨(M9.pl qw), 0, none⟩) from by kernel_rfl) (by kernel_rfl) (by kernel_rfl) (hLoc.cel.below hv1 (by have := hLoc.lt; omega)) (i := 0) (by omega) (by omega) (fun jq hjq => (show ldY _ (0 + jq) = stY _ jq by rw [Nat.zero_add]; exact ldY_st _ hjq rfl)))))
    ·exact .inl rfl
    ·exact .inr (.inl rfl)
   ·rintro g1 w4 f2 hf1 lg1 m4 hb2
    have s2 := Fx.Stp.of_below hb2
    have ng1hWc : pw ≠ g1 := Nat.ne_of_lt (Nat.lt_of_lt_of_le (hWc.lt) lg1)
    have ng1hLoc : (M9.pl qw) ≠ g1 := Nat.ne_of_lt (Nat.lt_of_lt_of_le (hLoc.lt) lg1)
    have ng1m3 : gq1 ≠ g1 := Nat.ne_of_lt (Nat.lt_of_lt_of_le (m3.lt) lg1)
    have m5 := hWc.stp s2 (Nat.ne_of_lt (hWc.lt))
    have m6 := hWa.stp s2 (hWa.notNew (Nat.le_refl _))
    have m7 := hLoc.stp s2 (Nat.ne_of_lt (hLoc.lt))
    have m8 := hLon.stp s2 (hLon.notNew (Nat.le_refl _))
    have m9 := hLo.up s2.old
    have m10 := m3.stpB s2 (Nat.ne_of_lt (m3.lt))
    have b4 := s2.below b2 b2.size b2.size
    have lg1 : w.heap.size ≤ g1 := Nat.le_trans b2.size lg1
    have tg1 : g1 < w4.heap.size := m4.lt
    have q1 : f2 9 = .pointer (some ⟨g1, 0, none⟩) := by rw [hf1]; kernel_rfl
    clear hf1
    refine Fx.seqN (Fx.W.seq (Fx.W.seq (Fx.W.list (Fx.L.v (.int .i64 (0)) (Fx.x_assign rfl rfl) ?_))))
    refine Fx.L.nil (Fx.seqN (Fx.W.block (Fx.W.loop (fun f w_ => ∃ k : Nat, k ≤ (M9.ml qw).s.nn ∧ f 9 = .pointer (some ⟨g1, 0, none⟩) ∧ f 10 = .int .i64 ((k : Int)) ∧ Fx.Own w_ w.heap.size 50 56 (.slice (M9.ml qw).s.na ((M9.ml qw).s.nn) ((M9.ml qw).s.nc)) ((M9.ml qw).s.nn) (ndX (M9.ml qw)) ∧ LdO w_ w.heap.size (M9.pl qw) (M9.ml qw) ∧ Fx.Blk w_ g1 20 (stY (M9.ml qw).s) 43 ∧ Below w.heap.size w w_) (fun f _ => ((M9.ml qw).s.nn - (intOf (f 10)).toNat)) ⟨0, by omega, q1, (by first | rfl | exact congrArg (Value.int .i64) (by omega)), m8, m9, m4, b4⟩ ?_)))
    rintro f3 w5 ⟨k, hk, h5, h6, m11, m12, m13, b5⟩
    refine Fx.W.seq (Fx.W.seq (Fx.W.list (Fx.L.v (.int .i64 ((k : Int))) (Fx.x_move rfl h6) ?_)))
    refine Fx.L.v (.pointer (some ⟨g1, 18, none⟩)) (Fx.x_field rfl h5 Try.underlying43 rfl (s := 1) (by kernel_rfl) rfl (by show _ + 18 = _; omega)) ?_
    refine Fx.L.v (.slice (M9.ml qw).s.na ((M9.ml qw).s.nn) ((M9.ml qw).s.nc)) (Fx.x_load1 (x := stY (M9.ml qw).s) rfl rfl (by kernel_rfl) m13.cel (i := 18) (by omega) (by omega) rfl) ?_
    refine Fx.L.v (.int .i64 ((((M9.ml qw).s.nn : Nat) : Int))) (Fx.x_len rfl rfl rfl (by kernel_rfl)) ?_
    by_cases c62 : (k : Int) < (((M9.ml qw).s.nn : Nat) : Int)
    ·refine Fx.L.v (.bool true) (Fx.x_lssT rfl rfl rfl c62) ?_
     refine Fx.L.nil (Fx.seqN (Fx.W.cond (b := true) rfl (fun _ => Fx.W.skip (Fx.seqN (Fx.W.seq (Fx.W.block (Fx.W.seq ?_))))) (fun h => nomatch h)))
     have hsm := sums_eq (hWi.may k (by show k < (M9.ml qw).s.nn; omega))
     have hs1 : (sums ((M9.ml qw).R k)).1 = gSum ((M9.ml qw).R k) := congrArg Prod.fst hsm
     have hs2 : (sums ((M9.ml qw).R k)).2 = uSum ((M9.ml qw).R k) := congrArg Prod.snd hsm
     have hub := u_le (hWi.may k (by show k < (M9.ml qw).s.nn; omega))
     have hub : 0 ≤ uSum ((M9.ml qw).R k) ∧ uSum ((M9.ml qw).R k) ≤ 1125899906842624 := hub
     have hUu : usedI (M9.ml qw).id (M9.ml qw).par (M9.ml qw).s.nn (M9.ml qw).g (M9.ml qw).s.gn ((M9.ml qw).id k) 6 = uSum ((M9.ml qw).R k) := used_node hWi (by show k < (M9.ml qw).s.nn; omega)
     have hU6 : usedI (M9.ml qw).id (M9.ml qw).par (M9.ml qw).s.nn (M9.ml qw).g (M9.ml qw).s.gn ((M9.ml qw).id k) 6 = (sums ((M9.ml qw).R k)).2 := hUu.trans hs2.symm
     have hV6 : uSum ((M9.ml qw).R k) + lsumV ((M9.ml qw).R k) 6 = (sums ((M9.ml qw).R k)).1 := (lsumV_eq (hWi.may k (by show k < (M9.ml qw).s.nn; omega))).trans hs1.symm
     have hgb : ∀ q, q < (M9.ml qw).s.gn → 0 ≤ (M9.ml qw).g q 3 := fun q hq => (hWi.s.gb q hq).2.2.2.1
     clear hsm
     -- region 12 draws
     obtain ⟨gq2, eq3⟩ := m11.addr (by omega)
     have m14 : Fx.Own w5 w.heap.size 50 56 (.slice (some ⟨gq2, 0, none⟩) ((M9.ml qw).s.nn) ((M9.ml qw).s.nc)) ((M9.ml qw).s.nn) (ndX (M9.ml qw)) := m11.congV (congrArg (fun q => Value.slice q ((M9.ml qw).s.nn) ((M9.ml qw).s.nc)) eq3)
     refine Fx.W.one (T := 82) (T' := 82) (a := .tmp 11) (v := .tmp 74) (m := 8) (z := Fx.rv .i64 (fun _ => 0)) (y := quN ((M9.ml qw).R k) 6) (u := .agg (Fx.varr 8 (quN ((M9.ml qw).R k) 6))) 11 12 (List.replicate 14 (0, 2, [], [])) #[.agg (Fx.varr 20 (stY (M9.ml qw).s)), .pointer (some ⟨g1, 18, none⟩), .slice (M9.ml qw).s.na ((M9.ml qw).s.nn) ((M9.ml qw).s.nc), .int .i64 ((k : Int)), .pointer (some ⟨gq2, 56 * k, none⟩), .pointer (some ⟨gq2, 56 * k, none⟩), .int .u64 ((M9.ml qw).id k), .tuple #[.agg (Fx.varr 8 (quN ((M9.ml qw).R k) 6)), .int .i64 (0)], .tuple #[.agg (Fx.varr 8 (quN ((M9.ml qw).R k) 6)), .int .i64 (0)], .agg (Fx.varr 8 (quN ((M9.ml qw).R k) 6)), .int .i64 (0), undef, undef, .int .i64 (0)] (by kernel_rfl) (by kernel_rfl) (by kernel_rfl) (by kernel_rfl) (by kernel_rfl) (by kernel_rfl) rfl (by kernel_rfl) rfl rfl (by kernel_rfl) (fun g2 => (show Fx.ev _ (.tmp 11) = .pointer (some ⟨g2, 0, none⟩) from by kernel_rfl)) (fun g2 => (show Fx.ev _ (.tmp 74) = .agg (Fx.varr 8 (quN ((M9.ml qw).R k) 6)) from by kernel_rfl)) (Fx.cells_agg _ _) (fun j _ => qu_one _ _ j) (by kernel_rfl) (fun g2 => ?_) ?_
     ·refine ⟨?_, ?_, ?_, ?_, ?_, ?_, ?_, ?_, ?_, ?_, ?_, ?_, ?_, ?_, trivial⟩
      ·exact .inr (.inr (Fx.qb_yes (v := .agg (Fx.varr 20 (stY (M9.ml qw).s))) (by kernel_rfl) (by kernel_rfl) (Fx.qbV fun v1 hv1 => Fx.x_loadA (x := stY (M9.ml qw).s) (y := stY (M9.ml qw).s) rfl ((Fx.fOne_out (by kernel_rfl)).trans h5) (by kernel_rfl) (by kernel_rfl) (m13.cel.below hv1 (by have := m13.lt; omega)) (i := 0) (by omega) (by omega) (fun j _ => by rw [Nat.zero_add]))))
      ·exact .inr (.inr (Fx.qb_yes (v := .pointer (some ⟨g1, 18, none⟩)) (by kernel_rfl) (by kernel_rfl) (Fx.qbV fun v1 hv1 => Fx.x_field rfl ((Fx.fOne_out (by kernel_rfl)).trans h5) Try.underlying43 rfl (s := 1) (by kernel_rfl) rfl (by show _ + 18 = _; omega))))
      ·exact .inr (.inr (Fx.qb_yes (v := .slice (M9.ml qw).s.na ((M9.ml qw).s.nn) ((M9.ml qw).s.nc)) (by kernel_rfl) (by kernel_rfl) (Fx.qbV fun v1 hv1 => Fx.x_load1 (x := stY (M9.ml qw).s) rfl (show Fx.ev _ (.tmp 67) = .pointer (some ⟨g1, 18, none⟩) from by kernel_rfl) (by kernel_rfl) (m13.cel.below hv1 (by have := m13.lt; omega)) (i := 18) (by omega) (by omega) rfl)))
      ·exact .inr (.inr (Fx.qb_yes (v := .int .i64 ((k : Int))) (by kernel_rfl) (by kernel_rfl) (Fx.qbV fun v1 hv1 => Fx.x_move rfl ((Fx.fOne_out (by kernel_rfl)).trans h6))))
      ·exact .inr (.inr (Fx.qb_yes (v := .pointer (some ⟨gq2, 56 * k, none⟩)) (by kernel_rfl) (by kernel_rfl) (Fx.qbV fun v1 hv1 => Fx.x_indexS rfl ((show Fx.ev _ (.tmp 68) = .slice (M9.ml qw).s.na ((M9.ml qw).s.nn) ((M9.ml qw).s.nc) from by kernel_rfl).trans (congrArg (fun q => Value.slice q ((M9.ml qw).s.nn) ((M9.ml qw).s.nc)) eq3)) (show Fx.ev _ (.tmp 69) = .int .i64 ((k : Int)) from by kernel_rfl) Try.underlying40 (s := 56) (by kernel_rfl) (by omega) (by omega) (by omega))))
      ·exact .inr (.inr (Fx.qb_yes (v := .pointer (some ⟨gq2, 56 * k, none⟩)) (by kernel_rfl) (by kernel_rfl) (Fx.qbV fun v1 hv1 => Fx.x_field rfl (show Fx.ev _ (.tmp 70) = .pointer (some ⟨gq2, 56 * k, none⟩) from by kernel_rfl) Try.underlying50 rfl (s := 1) (by kernel_rfl) rfl rfl)))
      ·exact .inr (.inr (Fx.qb_yes (v := .int .u64 ((M9.ml qw).id k)) (by kernel_rfl) (by kernel_rfl) (Fx.qbV fun v1 hv1 => Fx.x_load1 (x := ndX (M9.ml qw)) rfl (show Fx.ev _ (.tmp 71) = .pointer (some ⟨gq2, 56 * k, none⟩) from by kernel_rfl) (by kernel_rfl) (m14.cel.below hv1 (by have := m14.lt; omega)) (i := 56 * k) (by omega) (by omega) (Fx.flat_cell (k := k) (j := 0) (by omega) (by omega) rfl))))
      ·exact .inr (.inr (Fx.qb_yes (v := .tuple #[.agg (Fx.varr 8 (quN ((M9.ml qw).R k) 6)), .int .i64 (0)]) (by kernel_rfl) (by kernel_rfl) (Fx.qbC (fun v1 hv1 => Fx.r_call (args := [.agg (Fx.varr 20 (stY (M9.ml qw).s)), .int .u64 ((M9.ml qw).id k)]) rfl (Fx.args2 (show Fx.ev _ (.tmp 66) = .agg (Fx.varr 20 (stY (M9.ml qw).s)) from by kernel_rfl) (show Fx.ev _ (.tmp 72) = .int .u64 ((M9.ml qw).id k) from by kernel_rfl)) Try.func36 rfl rfl) (fun v1 hv1 => (w25_of (M9.ml qw) k _ (m12.ldg.an.up hv1 rfl) (by omega) (by omega) hWi).mono fun e v2 h => ⟨h.1, h.2⟩))))
      ·exact .inr (.inr (Fx.qb_yes (v := .tuple #[.agg (Fx.varr 8 (quN ((M9.ml qw).R k) 6)), .int .i64 (0)]) (by kernel_rfl) (by kernel_rfl) (Fx.qbV fun v1 hv1 => Fx.x_move rfl (show Fx.ev _ (.tmp 73) = .tuple #[.agg (Fx.varr 8 (quN ((M9.ml qw).R k) 6)), .int .i64 (0)] from by kernel_rfl))))
      ·exact .inr (.inr (Fx.qb_yes (v := .agg (Fx.varr 8 (quN ((M9.ml qw).R k) 6))) (by kernel_rfl) (by kernel_rfl) (Fx.qbV fun v1 hv1 => Fx.x_extract rfl (show Fx.ev _ (.tmp 65) = .tuple #[.agg (Fx.varr 8 (quN ((M9.ml qw).R k) 6)), .int .i64 (0)] from by kernel_rfl) rfl)))
      ·exact .inr (.inr (Fx.qb_yes (v := .int .i64 (0)) (by kernel_rfl) (by kernel_rfl) (Fx.qbV fun v1 hv1 => Fx.x_extract rfl (show Fx.ev _ (.tmp 65) = .tuple #[.agg (Fx.varr 8 (quN ((M9.ml qw).R k) 6)), .int .i64 (0)] from by kernel_rfl) rfl)))
      ·exact .inl rfl
      ·exact .inr (.inl rfl)
      ·exact .inr (.inr (Fx.qb_yes (v := .int .i64 (0)) (by kernel_rfl) (by kernel_rfl) (Fx.qbV fun v1 hv1 => Fx.x_assign rfl (show Fx.ev _ (.tmp 75) = .int .i64 (0) from by kernel_rfl))))
     ·rintro g2 w6 f4 hf2 lg2 m15 hb3
      have s3 := Fx.Stp.of_below hb3
      have ng2m13 : g1 ≠ g2 := Nat.ne_of_lt (Nat.lt_of_lt_of_le (m13.lt) lg2)
      have ng2m14 : gq2 ≠ g2 := Nat.ne_of_lt (Nat.lt_of_lt_of_le (m14.lt) lg2)
      have m16 := m12.up s3.old
      have m17 := m13.stp s3 (Nat.ne_of_lt (m13.lt))
      have m18 := m14.stpB s3 (Nat.ne_of_lt (m14.lt))
      have b6 := s3.below b5 b5.size b5.size
      have lg2 : w.heap.size ≤ g2 := Nat.le_trans b5.size lg2
      have tg2 : g2 < w6.heap.size := m15.lt
      have q2 : f4 9 = .pointer (some ⟨g1, 0, none⟩) := by rw [hf2]; exact (Fx.fOne_out (by kernel_rfl)).trans h5
      have q3 : f4 10 = .int .i64 ((k : Int)) := by rw [hf2]; exact (Fx.fOne_out (by kernel_rfl)).trans h6
      have q4 : f4 58 = .int .i64 ((k : Int)) := by rw [hf2]; kernel_rfl
      have q5 : f4 59 = .pointer (some ⟨g1, 18, none⟩) := by rw [hf2]; kernel_rfl
      have q6 : f4 60 = .slice (M9.ml qw).s.na ((M9.ml qw).s.nn) ((M9.ml qw).s.nc) := by rw [hf2]; kernel_rfl
      have q7 : f4 61 = .int .i64 ((((M9.ml qw).s.nn : Nat) : Int)) := by rw [hf2]; kernel_rfl
      have q8 : f4 62 = .bool true := by rw [hf2]; kernel_rfl
      have q9 : f4 66 = .agg (Fx.varr 20 (stY (M9.ml qw).s)) := by rw [hf2]; kernel_rfl
      have q10 : f4 67 = .pointer (some ⟨g1, 18, none⟩) := by rw [hf2]; kernel_rfl
      have q11 : f4 68 = .slice (M9.ml qw).s.na ((M9.ml qw).s.nn) ((M9.ml qw).s.nc) := by rw [hf2]; kernel_rfl
      have q12 : f4 69 = .int .i64 ((k : Int)) := by rw [hf2]; kernel_rfl
      have q13 : f4 70 = .pointer (some ⟨gq2, 56 * k, none⟩) := by rw [hf2]; kernel_rfl
      have q14 : f4 71 = .pointer (some ⟨gq2, 56 * k, none⟩) := by rw [hf2]; kernel_rfl
      have q15 : f4 72 = .int .u64 ((M9.ml qw).id k) := by rw [hf2]; kernel_rfl
      have q16 : f4 73 = .tuple #[.agg (Fx.varr 8 (quN ((M9.ml qw).R k) 6)), .int .i64 (0)] := by rw [hf2]; kernel_rfl
      have q17 : f4 65 = .tuple #[.agg (Fx.varr 8 (quN ((M9.ml qw).R k) 6)), .int .i64 (0)] := by rw [hf2]; kernel_rfl
      have q18 : f4 74 = .agg (Fx.varr 8 (quN ((M9.ml qw).R k) 6)) := by rw [hf2]; kernel_rfl
      have q19 : f4 75 = .int .i64 (0) := by rw [hf2]; kernel_rfl
      have q20 : f4 11 = .pointer (some ⟨g2, 0, none⟩) := by rw [hf2]; kernel_rfl
      have q21 : f4 12 = .int .i64 (0) := by rw [hf2]; kernel_rfl
      clear hf2
      refine Fx.seqN (Fx.W.seq (Fx.W.seq (Fx.W.list (Fx.L.v (.int .i64 (0)) (Fx.x_move rfl q21) ?_))))
      refine Fx.L.v (.bool false) (Fx.x_neqF rfl rfl rfl rfl) ?_
      refine Fx.L.nil (Fx.seqN (Fx.W.cond (b := false) rfl (fun h => nomatch h) (fun _ => Fx.W.skip (Fx.seqN (Fx.W.seq (Fx.W.list (Fx.L.v (.int .i64 (0)) (Fx.x_assign rfl rfl) ?_)))))))
      refine Fx.L.nil (Fx.seqN (Fx.W.seq (Fx.W.list (Fx.L.v (.pointer (some ⟨g2, 1, none⟩)) (Fx.x_field rfl q20 Try.underlying82 rfl (s := 1) (by kernel_rfl) rfl (by show _ + 1 = _; omega)) ?_))))
      refine Fx.L.v (.int .i64 ((sums ((M9.ml qw).R k)).2)) (Fx.x_load1 (x := quN ((M9.ml qw).R k) 6) rfl rfl (by kernel_rfl) m15.cel (i := 1) (by omega) (by omega) rfl) ?_
      refine Fx.L.v (.int .i64 ((sums ((M9.ml qw).R k)).2)) (Fx.x_assign rfl rfl) ?_
      refine Fx.L.nil (Fx.seqN (Fx.W.seq (Fx.W.seq ?_)))
      have h00 : usedI (M9.ml qw).id (M9.ml qw).par (M9.ml qw).s.nn (M9.ml qw).g (M9.ml qw).s.gn ((M9.ml qw).id k) 0 = 0 := rfl
      have hl0 : lsumV ((M9.ml qw).R k) 0 = 0 := rfl
      refine Fx.W.list (Fx.L.v (.int .i64 (1)) (Fx.x_assign rfl rfl) ?_)
      refine Fx.L.nil (Fx.seqN (Fx.W.block ?_))
      have m19 : Fx.Own w6 w.heap.size 50 56 (.slice (M9.ml qw).s.na ((M9.ml qw).s.nn) ((M9.ml qw).s.nc)) ((M9.ml qw).s.nn) (ndX (M9.ml qw)) := m18.congV (congrArg (fun q => Value.slice q ((M9.ml qw).s.nn) ((M9.ml qw).s.nc)) eq3.symm)
      refine Fx.W.loop (fun f w_ => ∃ i : Nat, i ≤ 6 ∧ f 9 = .pointer (some ⟨g1, 0, none⟩) ∧ f 10 = .int .i64 ((k : Int)) ∧ f 11 = .pointer (some ⟨g2, 0, none⟩) ∧ f 13 = .int .i64 (usedI (M9.ml qw).id (M9.ml qw).par (M9.ml qw).s.nn (M9.ml qw).g (M9.ml qw).s.gn ((M9.ml qw).id k) i) ∧ f 14 = .int .i64 (uSum ((M9.ml qw).R k) + lsumV ((M9.ml qw).R k) i) ∧ f 15 = .int .i64 ((i : Int) + 1) ∧ LdO w_ w.heap.size (M9.pl qw) (M9.ml qw) ∧ Fx.Blk w_ g1 20 (stY (M9.ml qw).s) 43 ∧ Fx.Own w_ w.heap.size 50 56 (.slice (M9.ml qw).s.na ((M9.ml qw).s.nn) ((M9.ml qw).s.nc)) ((M9.ml qw).s.nn) (ndX (M9.ml qw)) ∧ Fx.Blk w_ g2 8 (quN ((M9.ml qw).R k) 6) 82 ∧ Below w.heap.size w w_) (fun f _ => (7 - (intOf (f 15)).toNat)) ⟨0, by omega, q2, (q3.trans (by first | rfl | exact congrArg (Value.int .i64) (by omega))), q20, (by first | rfl | exact congrArg (Value.int .i64) (by omega)), (by first | rfl | exact congrArg (Value.int .i64) (by omega)), (by first | rfl | exact congrArg (Value.int .i64) (by omega)), m16, m17, m19, m15, b6⟩ ?_
      rintro f5 w7 ⟨i, hi, h7, h8, h9, h10, h11, h12, m20, m21, m22, m23, b7⟩
      refine Fx.W.seq (Fx.W.seq (Fx.W.list (Fx.L.v (.int .i64 ((i : Int) + 1)) (Fx.x_move rfl h12) ?_)))
      by_cases c81 : ((i : Int) + 1) ≤ 6
      ·refine Fx.L.v (.bool true) (Fx.x_leqT rfl rfl rfl c81) ?_
       refine Fx.L.nil (Fx.seqN (Fx.W.cond (b := true) rfl (fun _ => Fx.W.skip (Fx.seqN (Fx.W.seq (Fx.W.block (Fx.W.seq ?_))))) (fun h => nomatch h)))
       have hls : lsumV ((M9.ml qw).R k) (i + 1) = lsumV ((M9.ml qw).R k) i + localV ((M9.ml qw).R k) ((i : Int) + 1) := rfl
       have hlb := lsumV_bd ((M9.ml qw).R k) i
       have hlv := localV_bd ((M9.ml qw).R k) ((i : Int) + 1)
       refine Fx.W.list (Fx.L.v (.int .i64 (uSum ((M9.ml qw).R k) + lsumV ((M9.ml qw).R k) i)) (Fx.x_move rfl h11) ?_)
       refine Fx.L.v (.int .i64 ((i : Int) + 1)) (Fx.x_move rfl h12) ?_
       refine Fx.L.v (.int .i64 ((i : Int))) (Fx.x_sub rfl rfl rfl (Fx.i64e (by omega) (by omega))) ?_
       refine Fx.L.v (.pointer (some ⟨g2, 2, none⟩)) (Fx.x_field rfl h9 Try.underlying82 rfl (s := 6) (by kernel_rfl) rfl (by show _ + 2 = _; omega)) ?_
       refine Fx.L.v (.pointer (some ⟨g2, i + 2, none⟩)) (Fx.x_index rfl rfl rfl Try.underlying45 (s := 1) (by kernel_rfl) (by omega) (by omega) (by omega)) ?_
       refine Fx.L.v (.int .i64 (localV ((M9.ml qw).R k) ((i : Int) + 1))) (Fx.x_load1 (x := quN ((M9.ml qw).R k) 6) rfl rfl (by kernel_rfl) m23.cel (i := i + 2) (by omega) (by omega) (qu_at (by omega) (by omega))) ?_
       refine Fx.L.v (.int .i64 ((uSum ((M9.ml qw).R k) + lsumV ((M9.ml qw).R k) i) + (localV ((M9.ml qw).R k) ((i : Int) + 1)))) (Fx.x_add rfl rfl rfl (Fx.i64e (by omega) (by omega))) ?_
       refine Fx.L.v (.int .i64 ((uSum ((M9.ml qw).R k) + lsumV ((M9.ml qw).R k) i) + (localV ((M9.ml qw).R k) ((i : Int) + 1)))) (Fx.x_assign rfl rfl) ?_
       refine Fx.L.nil (Fx.seqN (Fx.W.seq (Fx.W.list (Fx.L.v (.agg (Fx.varr 20 (stY (M9.ml qw).s))) (Fx.x_loadA (x := stY (M9.ml qw).s) (y := stY (M9.ml qw).s) rfl h7 (by kernel_rfl) (by kernel_rfl) m21.cel (i := 0) (by omega) (by omega) (fun j _ => by rw [Nat.zero_add])) ?_))))
       refine Fx.L.v (.int .i64 ((i : Int) + 1)) (Fx.x_move rfl h12) ?_
       refine Fx.L.call (by rfl) (Fx.r_call (args := [.agg (Fx.varr 20 (stY (M9.ml qw).s)), .int .i64 ((i : Int) + 1)]) rfl rfl Try.func37 rfl rfl) rfl ((q_open (M9.ml qw).s (M9.ml qw).g ((i : Int) + 1) _ (m20.ldg.ag) hLog).mono ?_)
       rintro e9 w8 ⟨vq22, nq22, he, hnq22, hOq22, hbq22⟩
       obtain ⟨aq22, capq22, rfl⟩ := hOq22.val
       refine ⟨_, he, ?_⟩
       clear he
       have s4 := Fx.Stp.of_below hbq22
       have m24 := m20.up s4.old
       have m25 := m21.stp s4 (Nat.ne_of_lt (m21.lt))
       have m26 := m22.stp s4 (m22.notNew (Nat.le_refl _))
       have m27 := m23.stp s4 (Nat.ne_of_lt (m23.lt))
       have b8 := s4.below b7 b7.size b7.size
       have hnO : nq22 ≤ 1000000 := by rw [hnq22]; exact Nat.le_trans (op_len _ _ _) hLog
       refine Fx.L.v (.slice aq22 (nq22) (capq22)) (Fx.x_assign rfl rfl) ?_
       refine Fx.L.nil (Fx.seqN (Fx.W.seq ?_))
       have hp0 : oP (M9.ml qw).id (M9.ml qw).par (M9.ml qw).s.nn (M9.ml qw).g ((M9.ml qw).id k) (opL (M9.ml qw).g ((i : Int) + 1) (M9.ml qw).s.gn) 0 = 0 := rfl
       refine Fx.W.list (Fx.L.v (.int .i64 (0)) (Fx.x_assign rfl rfl) ?_)
       refine Fx.L.nil (Fx.seqN (Fx.W.block (Fx.W.loop (fun f w_ => ∃ j : Nat, j ≤ nq22 ∧ f 9 = .pointer (some ⟨g1, 0, none⟩) ∧ f 10 = .int .i64 ((k : Int)) ∧ f 11 = .pointer (some ⟨g2, 0, none⟩) ∧ f 14 = .int .i64 ((uSum ((M9.ml qw).R k) + lsumV ((M9.ml qw).R k) i) + (localV ((M9.ml qw).R k) ((i : Int) + 1))) ∧ f 15 = .int .i64 ((i : Int) + 1) ∧ f 16 = .slice aq22 (nq22) (capq22) ∧ f 13 = .int .i64 (usedI (M9.ml qw).id (M9.ml qw).par (M9.ml qw).s.nn (M9.ml qw).g (M9.ml qw).s.gn ((M9.ml qw).id k) i + oP (M9.ml qw).id (M9.ml qw).par (M9.ml qw).s.nn (M9.ml qw).g ((M9.ml qw).id k) (opL (M9.ml qw).g ((i : Int) + 1) (M9.ml qw).s.gn) j) ∧ f 17 = .int .i64 ((j : Int)) ∧ LdO w_ w.heap.size (M9.pl qw) (M9.ml qw) ∧ Fx.Blk w_ g1 20 (stY (M9.ml qw).s) 43 ∧ Fx.Own w_ w.heap.size 50 56 (.slice (M9.ml qw).s.na ((M9.ml qw).s.nn) ((M9.ml qw).s.nc)) ((M9.ml qw).s.nn) (ndX (M9.ml qw)) ∧ Fx.Blk w_ g2 8 (quN ((M9.ml qw).R k) 6) 82 ∧ Fx.Own w_ w7.heap.size 88 5 (.slice aq22 (nq22) (capq22)) nq22 (gsX (M9.ml qw).g (opL (M9.ml qw).g ((i : Int) + 1) (M9.ml qw).s.gn)) ∧ Below w.heap.size w w_) (fun f _ => (nq22 - (intOf (f 17)).toNat)) ⟨0, by omega, h7, (h8.trans (by first | rfl | exact congrArg (Value.int .i64) (by omega))), h9, (by first | rfl | exact congrArg (Value.int .i64) (by omega)), (h12.trans (by first | rfl | exact congrArg (Value.int .i64) (by omega))), (by rfl), (h10.trans (by first | rfl | exact congrArg (Value.int .i64) (by omega))), (by first | rfl | exact congrArg (Value.int .i64) (by omega)), m24, m25, m26, m27, hOq22, b8⟩ ?_)))
       rintro f6 w9 ⟨j, hj, h13, h14, h15, h16, h17, h18, h19, h20, m28, m29, m30, m31, m32, b9⟩
       refine Fx.W.seq (Fx.W.seq (Fx.W.list (Fx.L.v (.int .i64 ((j : Int))) (Fx.x_move rfl h20) ?_)))
       refine Fx.L.v (.slice aq22 (nq22) (capq22)) (Fx.x_move rfl h18) ?_
       refine Fx.L.v (.int .i64 ((nq22 : Int))) (Fx.x_len rfl rfl rfl (by kernel_rfl)) ?_
       by_cases c97 : (j : Int) < (nq22 : Int)
       ·refine Fx.L.v (.bool true) (Fx.x_lssT rfl rfl rfl c97) ?_
        refine Fx.L.nil (Fx.seqN (Fx.W.cond (b := true) rfl (fun _ => Fx.W.skip (Fx.seqN (Fx.W.seq (Fx.W.block (Fx.W.seq ?_))))) (fun h => nomatch h)))
        -- region 25 draws
        refine Fx.W.reord [1, 2, 3, 4, 0, 5, 6, 7] [4, 0, 0, 0, 0, 4, 3, 0] Fx.Mk Fx.Mk.refl Fx.Mk.trans (certs := [(6, 0, [0]), (6, 5, [5]), (7, 6, [6])]) (by kernel_rfl) (by kernel_rfl) (by kernel_rfl) (by kernel_rfl) (by kernel_rfl) fun wt1 hbwt1 hzwt1 => ?_
        have s5 : Fx.Stp w9.heap.size w9 wt1 := Fx.Stp.of_below hbwt1
        have m33 := m28.up s5.old
        have m34 := m29.stp s5 (Nat.ne_of_lt (m29.lt))
        have m35 := m30.stp s5 (m30.notNew (Nat.le_refl _))
        have m36 := m31.stp s5 (Nat.ne_of_lt (m31.lt))
        have m37 := m32.stp s5 (m32.notNew (Nat.le_refl _))
        have b10 := s5.below b9 b9.size b9.size
        refine Fx.R.p (.slice aq22 (nq22) (capq22)) (fun v1 => Fx.x_move rfl h18) ?_
        refine Fx.R.p (.int .i64 ((j : Int))) (fun v1 => Fx.x_move rfl h20) ?_
        obtain ⟨gq3, eq4⟩ := m37.addr (by omega)
        have m38 : Fx.Own wt1 w7.heap.size 88 5 (.slice (some ⟨gq3, 0, none⟩) nq22 capq22) nq22 (gsX (M9.ml qw).g (opL (M9.ml qw).g ((i : Int) + 1) (M9.ml qw).s.gn)) := m37.congV (congrArg (fun q => Value.slice q nq22 capq22) eq4)
        refine Fx.R.p (.pointer (some ⟨gq3, 5 * j, none⟩)) (fun v1 => Fx.x_indexS rfl (rfl.trans (congrArg (fun q => Value.slice q (nq22) (capq22)) eq4)) rfl Try.underlying41 (s := 5) (by kernel_rfl) (by omega) (by omega) (by omega)) ?_
        refine Fx.R.p (.pointer (some ⟨gq3, 5 * j + 2, none⟩)) (fun v1 => Fx.x_field rfl rfl Try.underlying88 rfl (s := 1) (by kernel_rfl) rfl (by show _ + 2 = _; omega)) ?_
        refine Fx.R.s (.agg (Fx.varr 20 (stY (M9.ml qw).s))) (Fx.x_loadA (x := stY (M9.ml qw).s) (y := stY (M9.ml qw).s) rfl h13 (by kernel_rfl) (by kernel_rfl) m34.cel (i := 0) (by omega) (by omega) (fun j _ => by rw [Nat.zero_add])) ?_
        refine Fx.R.s (.int .u64 (((M9.ml qw).g ((opL (M9.ml qw).g ((i : Int) + 1) (M9.ml qw).s.gn).getD j 0)) 2)) (Fx.x_load1 (x := gsX (M9.ml qw).g (opL (M9.ml qw).g ((i : Int) + 1) (M9.ml qw).s.gn)) rfl rfl (by kernel_rfl) m38.cel (i := 5 * j + 2) (by omega) (by omega) (Fx.flat_cell (k := j) (j := 2) (by omega) (by omega) rfl)) ?_
        refine Fx.R.eff (by rfl) ?_
        refine Fx.L.call (by rfl) (Fx.r_call (args := [.agg (Fx.varr 20 (stY (M9.ml qw).s)), .int .u64 (((M9.ml qw).g ((opL (M9.ml qw).g ((i : Int) + 1) (M9.ml qw).s.gn).getD j 0)) 2)]) rfl rfl Try.func38 rfl rfl) rfl ((q_path (M9.ml qw).s (M9.ml qw).id (M9.ml qw).par (M9.ml qw).R ((M9.ml qw).g ((opL (M9.ml qw).g ((i : Int) + 1) (M9.ml qw).s.gn).getD j 0) 2) _ (m33.ldg.an) (by omega)).mono ?_)
        rintro e9 w10 ⟨vq23, nq23, he, hnq23, hOq23, hbq23⟩
        obtain ⟨aq23, capq23, rfl⟩ := hOq23.val
        refine ⟨_, he, ?_⟩
        clear he
        have s6 := Fx.Stp.of_below hbq23
        have m39 := m33.up s6.old
        have m40 := m34.stp s6 (Nat.ne_of_lt (m34.lt))
        have m41 := m35.stp s6 (m35.notNew (Nat.le_refl _))
        have m42 := m36.stp s6 (Nat.ne_of_lt (m36.lt))
        have m43 := m38.stpB s6 (Nat.ne_of_lt (m38.lt))
        have b11 := s6.below b10 b10.size b10.size
        have hnP : nq23 ≤ 32 := by rw [hnq23]; exact path_le
        refine Fx.L.nil (Fx.R.p (.slice aq23 (nq23) (capq23)) (fun v1 => Fx.x_assign rfl rfl) ?_)
        refine Fx.R.nil (Fx.seqN (Fx.W.seq ?_))
        have hm0 : oM (M9.ml qw).id (M9.ml qw).par (M9.ml qw).s.nn (M9.ml qw).g ((M9.ml qw).id k) ((opL (M9.ml qw).g ((i : Int) + 1) (M9.ml qw).s.gn).getD j 0) 0 = 0 := oM_zero
        refine Fx.W.list (Fx.L.v (.int .i64 (0)) (Fx.x_assign rfl rfl) ?_)
        refine Fx.L.nil (Fx.seqN (Fx.W.block ?_))
        have m44 : Fx.Own w10 w7.heap.size 88 5 (.slice aq22 (nq22) (capq22)) nq22 (gsX (M9.ml qw).g (opL (M9.ml qw).g ((i : Int) + 1) (M9.ml qw).s.gn)) := m43.congV (congrArg (fun q => Value.slice q nq22 capq22) eq4.symm)
        refine Fx.W.loop (fun f w_ => ∃ m : Nat, m ≤ nq23 ∧ f 9 = .pointer (some ⟨g1, 0, none⟩) ∧ f 10 = .int .i64 ((k : Int)) ∧ f 11 = .pointer (some ⟨g2, 0, none⟩) ∧ f 14 = .int .i64 ((uSum ((M9.ml qw).R k) + lsumV ((M9.ml qw).R k) i) + (localV ((M9.ml qw).R k) ((i : Int) + 1))) ∧ f 15 = .int .i64 ((i : Int) + 1) ∧ f 16 = .slice aq22 (nq22) (capq22) ∧ f 17 = .int .i64 ((j : Int)) ∧ f 18 = .slice aq23 (nq23) (capq23) ∧ f 13 = .int .i64 (usedI (M9.ml qw).id (M9.ml qw).par (M9.ml qw).s.nn (M9.ml qw).g (M9.ml qw).s.gn ((M9.ml qw).id k) i + oP (M9.ml qw).id (M9.ml qw).par (M9.ml qw).s.nn (M9.ml qw).g ((M9.ml qw).id k) (opL (M9.ml qw).g ((i : Int) + 1) (M9.ml qw).s.gn) j + oM (M9.ml qw).id (M9.ml qw).par (M9.ml qw).s.nn (M9.ml qw).g ((M9.ml qw).id k) ((opL (M9.ml qw).g ((i : Int) + 1) (M9.ml qw).s.gn).getD j 0) m) ∧ f 19 = .int .i64 ((m : Int)) ∧ LdO w_ w.heap.size (M9.pl qw) (M9.ml qw) ∧ Fx.Blk w_ g1 20 (stY (M9.ml qw).s) 43 ∧ Fx.Own w_ w.heap.size 50 56 (.slice (M9.ml qw).s.na ((M9.ml qw).s.nn) ((M9.ml qw).s.nc)) ((M9.ml qw).s.nn) (ndX (M9.ml qw)) ∧ Fx.Blk w_ g2 8 (quN ((M9.ml qw).R k) 6) 82 ∧ Fx.Own w_ w7.heap.size 88 5 (.slice aq22 (nq22) (capq22)) nq22 (gsX (M9.ml qw).g (opL (M9.ml qw).g ((i : Int) + 1) (M9.ml qw).s.gn)) ∧ Fx.Own w_ wt1.heap.size 27 1 (.slice aq23 (nq23) (capq23)) nq23 (ptU (M9.ml qw).id (M9.ml qw).par (M9.ml qw).s.nn ((M9.ml qw).g ((opL (M9.ml qw).g ((i : Int) + 1) (M9.ml qw).s.gn).getD j 0) 2)) ∧ Below w.heap.size w w_) (fun f _ => (nq23 - (intOf (f 19)).toNat)) ⟨0, by omega, h13, (h14.trans (by first | rfl | exact congrArg (Value.int .i64) (by omega))), h15, (h16.trans (by first | rfl | exact congrArg (Value.int .i64) (by omega))), (h17.trans (by first | rfl | exact congrArg (Value.int .i64) (by omega))), h18, (h20.trans (by first | rfl | exact congrArg (Value.int .i64) (by omega))), (by rfl), (h19.trans (by first | rfl | exact congrArg (Value.int .i64) (by omega))), (by first | rfl | exact congrArg (Value.int .i64) (by omega)), m39, m40, m41, m42, m44, hOq23, b11⟩ ?_
        rintro f7 w11 ⟨m, hm, h21, h22, h23, h24, h25, h26, h27, h28, h29, h30, m45, m46, m47, m48, m49, m50, b12⟩
        refine Fx.W.seq (Fx.W.seq (Fx.W.list (Fx.L.v (.int .i64 ((m : Int))) (Fx.x_move rfl h30) ?_)))
        refine Fx.L.v (.slice aq23 (nq23) (capq23)) (Fx.x_move rfl h28) ?_
        refine Fx.L.v (.int .i64 ((nq23 : Int))) (Fx.x_len rfl rfl rfl (by kernel_rfl)) ?_
        by_cases c110 : (m : Int) < (nq23 : Int)
        ·refine Fx.L.v (.bool true) (Fx.x_lssT rfl rfl rfl c110) ?_
         refine Fx.L.nil (Fx.seqN (Fx.W.cond (b := true) rfl (fun _ => Fx.W.skip (Fx.seqN (Fx.W.seq (Fx.W.block (Fx.W.seq ?_))))) (fun h => nomatch h)))
         -- region 29 draws
         refine Fx.W.quiet (fun v1 => ∃ q, v1 = World.drewN w11 q) (by kernel_rfl) (by kernel_rfl) ⟨1, rfl⟩ ?_
         refine Fx.Qt.v (.slice aq23 (nq23) (capq23)) (fun v1 hv1 => Fx.x_move rfl h28) ?_
         refine Fx.Qt.v (.int .i64 ((m : Int))) (fun v1 hv1 => Fx.x_move rfl h30) ?_
         obtain ⟨gq4, eq5⟩ := m50.addr (by omega)
         have m51 : Fx.Own w11 wt1.heap.size 27 1 (.slice (some ⟨gq4, 0, none⟩) nq23 capq23) nq23 (ptU (M9.ml qw).id (M9.ml qw).par (M9.ml qw).s.nn ((M9.ml qw).g ((opL (M9.ml qw).g ((i : Int) + 1) (M9.ml qw).s.gn).getD j 0) 2)) := m50.congV (congrArg (fun q => Value.slice q nq23 capq23) eq5)
         refine Fx.Qt.v (.pointer (some ⟨gq4, m, none⟩)) (fun v1 hv1 => Fx.x_indexS rfl (rfl.trans (congrArg (fun q => Value.slice q (nq23) (capq23)) eq5)) rfl Try.underlying68 (s := 1) (by kernel_rfl) (by omega) (by omega) (by omega)) ?_
         refine Fx.Qt.v (.int .u64 (iterS (M9.ml qw).id (M9.ml qw).par (M9.ml qw).s.nn m ((M9.ml qw).g ((opL (M9.ml qw).g ((i : Int) + 1) (M9.ml qw).s.gn).getD j 0) 2))) (fun v1 hv1 => Fx.x_load1 (x := ptU (M9.ml qw).id (M9.ml qw).par (M9.ml qw).s.nn ((M9.ml qw).g ((opL (M9.ml qw).g ((i : Int) + 1) (M9.ml qw).s.gn).getD j 0) 2)) rfl rfl (by kernel_rfl) (by obtain ⟨qd, rfl⟩ := hv1; exact m51.cel) (i := m) (by omega) (by omega) rfl) ?_
         refine Fx.Qt.v (.pointer (some ⟨g1, 18, none⟩)) (fun v1 hv1 => Fx.x_field rfl h21 Try.underlying43 rfl (s := 1) (by kernel_rfl) rfl (by show _ + 18 = _; omega)) ?_
         refine Fx.Qt.v (.slice (M9.ml qw).s.na ((M9.ml qw).s.nn) ((M9.ml qw).s.nc)) (fun v1 hv1 => Fx.x_load1 (x := stY (M9.ml qw).s) rfl rfl (by kernel_rfl) (by obtain ⟨qd, rfl⟩ := hv1; exact m46.cel) (i := 18) (by omega) (by omega) rfl) ?_
         refine Fx.Qt.v (.int .i64 ((k : Int))) (fun v1 hv1 => Fx.x_move rfl h22) ?_
         obtain ⟨gq5, eq6⟩ := m47.addr (by omega)
         have m52 : Fx.Own w11 w.heap.size 50 56 (.slice (some ⟨gq5, 0, none⟩) ((M9.ml qw).s.nn) ((M9.ml qw).s.nc)) ((M9.ml qw).s.nn) (ndX (M9.ml qw)) := m47.congV (congrArg (fun q => Value.slice q ((M9.ml qw).s.nn) ((M9.ml qw).s.nc)) eq6)
         refine Fx.Qt.v (.pointer (some ⟨gq5, 56 * k, none⟩)) (fun v1 hv1 => Fx.x_indexS rfl (rfl.trans (congrArg (fun q => Value.slice q ((M9.ml qw).s.nn) ((M9.ml qw).s.nc)) eq6)) rfl Try.underlying40 (s := 56) (by kernel_rfl) (by omega) (by omega) (by omega)) ?_
         refine Fx.Qt.v (.pointer (some ⟨gq5, 56 * k, none⟩)) (fun v1 hv1 => Fx.x_field rfl rfl Try.underlying50 rfl (s := 1) (by kernel_rfl) rfl rfl) ?_
         refine Fx.Qt.v (.int .u64 ((M9.ml qw).id k)) (fun v1 hv1 => Fx.x_load1 (x := ndX (M9.ml qw)) rfl rfl (by kernel_rfl) (by obtain ⟨qd, rfl⟩ := hv1; exact m52.cel) (i := 56 * k) (by omega) (by omega) (Fx.flat_cell (k := k) (j := 0) (by omega) (by omega) rfl)) ?_
         by_cases c123 : (iterS (M9.ml qw).id (M9.ml qw).par (M9.ml qw).s.nn m ((M9.ml qw).g ((opL (M9.ml qw).g ((i : Int) + 1) (M9.ml qw).s.gn).getD j 0) 2)) = ((M9.ml qw).id k)
         ·refine Fx.Qt.v (.bool true) (fun v1 hv1 => Fx.x_eqlT rfl rfl rfl c123) ?_
          refine Fx.Qt.nil ?_
          rintro _ ⟨qd, rfl⟩
          obtain ⟨wq1, ewq1⟩ : ∃ v1, v1 = World.drewN w11 qd := ⟨_, rfl⟩
          rw [← ewq1]
          have s7 : Fx.Stp w11.heap.size w11 wq1 := by rw [ewq1]; exact Fx.Stp.of_below (bdrN w11 qd)
          have m53 := m45.up s7.old
          have m54 := m46.stp s7 (Nat.ne_of_lt (m46.lt))
          have m55 := m48.stp s7 (Nat.ne_of_lt (m48.lt))
          have m56 := m49.stp s7 (m49.notNew (Nat.le_refl _))
          have m57 := m51.stpB s7 (Nat.ne_of_lt (m51.lt))
          have m58 := m52.stpB s7 (Nat.ne_of_lt (m52.lt))
          have b13 := s7.below b12 b12.size b12.size
          clear ewq1
          refine Fx.seqN (Fx.W.cond (b := true) rfl (fun _ => ?_) (fun h => nomatch h))
          have hb9 := oM_bd (id := (M9.ml qw).id) (par := (M9.ml qw).par) (n := (M9.ml qw).s.nn) (g := (M9.ml qw).g) (y := ((M9.ml qw).id k)) hgb (show i < 6 by omega) (show j < (opL (M9.ml qw).g ((i : Int) + 1) (M9.ml qw).s.gn).length by omega) (show m + 1 ≤ pathS (M9.ml qw).id (M9.ml qw).par (M9.ml qw).s.nn ((M9.ml qw).g ((opL (M9.ml qw).g ((i : Int) + 1) (M9.ml qw).s.gn).getD j 0) 2) by omega)
          have hm1 : oM (M9.ml qw).id (M9.ml qw).par (M9.ml qw).s.nn (M9.ml qw).g ((M9.ml qw).id k) ((opL (M9.ml qw).g ((i : Int) + 1) (M9.ml qw).s.gn).getD j 0) (m + 1) = oM (M9.ml qw).id (M9.ml qw).par (M9.ml qw).s.nn (M9.ml qw).g ((M9.ml qw).id k) ((opL (M9.ml qw).g ((i : Int) + 1) (M9.ml qw).s.gn).getD j 0) m + (M9.ml qw).g ((opL (M9.ml qw).g ((i : Int) + 1) (M9.ml qw).s.gn).getD j 0) 3 := oM_yes c123
          have hb8 := oM_bd (id := (M9.ml qw).id) (par := (M9.ml qw).par) (n := (M9.ml qw).s.nn) (g := (M9.ml qw).g) (y := ((M9.ml qw).id k)) hgb (show i < 6 by omega) (show j < (opL (M9.ml qw).g ((i : Int) + 1) (M9.ml qw).s.gn).length by omega) (show m ≤ pathS (M9.ml qw).id (M9.ml qw).par (M9.ml qw).s.nn ((M9.ml qw).g ((opL (M9.ml qw).g ((i : Int) + 1) (M9.ml qw).s.gn).getD j 0) 2) by omega)
          have hg9 := hgb _ (op_lt (M9.ml qw).s.gn _ (getD_mem (show j < (opL (M9.ml qw).g ((i : Int) + 1) (M9.ml qw).s.gn).length by omega))).1
          refine Fx.W.list (Fx.L.v (.int .i64 (usedI (M9.ml qw).id (M9.ml qw).par (M9.ml qw).s.nn (M9.ml qw).g (M9.ml qw).s.gn ((M9.ml qw).id k) i + oP (M9.ml qw).id (M9.ml qw).par (M9.ml qw).s.nn (M9.ml qw).g ((M9.ml qw).id k) (opL (M9.ml qw).g ((i : Int) + 1) (M9.ml qw).s.gn) j + oM (M9.ml qw).id (M9.ml qw).par (M9.ml qw).s.nn (M9.ml qw).g ((M9.ml qw).id k) ((opL (M9.ml qw).g ((i : Int) + 1) (M9.ml qw).s.gn).getD j 0) m)) (Fx.x_move rfl h29) ?_)
          refine Fx.L.v (.slice aq22 (nq22) (capq22)) (Fx.x_move rfl h26) ?_
          refine Fx.L.v (.int .i64 ((j : Int))) (Fx.x_move rfl h27) ?_
          obtain ⟨gq6, eq7⟩ := m56.addr (by omega)
          have m59 : Fx.Own wq1 w7.heap.size 88 5 (.slice (some ⟨gq6, 0, none⟩) nq22 capq22) nq22 (gsX (M9.ml qw).g (opL (M9.ml qw).g ((i : Int) + 1) (M9.ml qw).s.gn)) := m56.congV (congrArg (fun q => Value.slice q nq22 capq22) eq7)
          refine Fx.L.v (.pointer (some ⟨gq6, 5 * j, none⟩)) (Fx.x_indexS rfl (rfl.trans (congrArg (fun q => Value.slice q (nq22) (capq22)) eq7)) rfl Try.underlying41 (s := 5) (by kernel_rfl) (by omega) (by omega) (by omega)) ?_
          refine Fx.L.v (.pointer (some ⟨gq6, 5 * j + 3, none⟩)) (Fx.x_field rfl rfl Try.underlying88 rfl (s := 1) (by kernel_rfl) rfl (by show _ + 3 = _; omega)) ?_
          refine Fx.L.v (.int .i64 (((M9.ml qw).g ((opL (M9.ml qw).g ((i : Int) + 1) (M9.ml qw).s.gn).getD j 0)) 3)) (Fx.x_load1 (x := gsX (M9.ml qw).g (opL (M9.ml qw).g ((i : Int) + 1) (M9.ml qw).s.gn)) rfl rfl (by kernel_rfl) m59.cel (i := 5 * j + 3) (by omega) (by omega) (Fx.flat_cell (k := j) (j := 3) (by omega) (by omega) rfl)) ?_
          refine Fx.L.v (.int .i64 ((usedI (M9.ml qw).id (M9.ml qw).par (M9.ml qw).s.nn (M9.ml qw).g (M9.ml qw).s.gn ((M9.ml qw).id k) i + oP (M9.ml qw).id (M9.ml qw).par (M9.ml qw).s.nn (M9.ml qw).g ((M9.ml qw).id k) (opL (M9.ml qw).g ((i : Int) + 1) (M9.ml qw).s.gn) j + oM (M9.ml qw).id (M9.ml qw).par (M9.ml qw).s.nn (M9.ml qw).g ((M9.ml qw).id k) ((opL (M9.ml qw).g ((i : Int) + 1) (M9.ml qw).s.gn).getD j 0) m) + (((M9.ml qw).g ((opL (M9.ml qw).g ((i : Int) + 1) (M9.ml qw).s.gn).getD j 0)) 3))) (Fx.x_add rfl rfl rfl (Fx.i64e (by omega) (by omega))) ?_
          refine Fx.L.v (.int .i64 ((usedI (M9.ml qw).id (M9.ml qw).par (M9.ml qw).s.nn (M9.ml qw).g (M9.ml qw).s.gn ((M9.ml qw).id k) i + oP (M9.ml qw).id (M9.ml qw).par (M9.ml qw).s.nn (M9.ml qw).g ((M9.ml qw).id k) (opL (M9.ml qw).g ((i : Int) + 1) (M9.ml qw).s.gn) j + oM (M9.ml qw).id (M9.ml qw).par (M9.ml qw).s.nn (M9.ml qw).g ((M9.ml qw).id k) ((opL (M9.ml qw).g ((i : Int) + 1) (M9.ml qw).s.gn).getD j 0) m) + (((M9.ml qw).g ((opL (M9.ml qw).g ((i : Int) + 1) (M9.ml qw).s.gn).getD j 0)) 3))) (Fx.x_assign rfl rfl) ?_
          refine Fx.L.nil (Fx.blkN (Fx.seqN (Fx.W.list (Fx.L.v (.int .i64 ((m : Int))) (Fx.x_move rfl h30) ?_))))
          refine Fx.L.v (.int .i64 ((m : Int) + 1)) (Fx.x_add rfl rfl rfl (Fx.i64e (by omega) (by omega))) ?_
          refine Fx.L.v (.int .i64 ((m : Int) + 1)) (Fx.x_assign rfl rfl) ?_
          refine Fx.L.nil ?_
          have m60 : Fx.Own wq1 wt1.heap.size 27 1 (.slice aq23 (nq23) (capq23)) nq23 (ptU (M9.ml qw).id (M9.ml qw).par (M9.ml qw).s.nn ((M9.ml qw).g ((opL (M9.ml qw).g ((i : Int) + 1) (M9.ml qw).s.gn).getD j 0) 2)) := m57.congV (congrArg (fun q => Value.slice q nq23 capq23) eq5.symm)
          have m61 : Fx.Own wq1 w.heap.size 50 56 (.slice (M9.ml qw).s.na ((M9.ml qw).s.nn) ((M9.ml qw).s.nc)) ((M9.ml qw).s.nn) (ndX (M9.ml qw)) := m58.congV (congrArg (fun q => Value.slice q ((M9.ml qw).s.nn) ((M9.ml qw).s.nc)) eq6.symm)
          have m62 : Fx.Own wq1 w7.heap.size 88 5 (.slice aq22 (nq22) (capq22)) nq22 (gsX (M9.ml qw).g (opL (M9.ml qw).g ((i : Int) + 1) (M9.ml qw).s.gn)) := m59.congV (congrArg (fun q => Value.slice q nq22 capq22) eq7.symm)
          refine Fx.lpN ⟨m + 1, by omega, h21, (h22.trans (by first | rfl | exact congrArg (Value.int .i64) (by omega))), h23, (h24.trans (by first | rfl | exact congrArg (Value.int .i64) (by omega))), (h25.trans (by first | rfl | exact congrArg (Value.int .i64) (by omega))), h26, (h27.trans (by first | rfl | exact congrArg (Value.int .i64) (by omega))), h28, (by first | rfl | exact congrArg (Value.int .i64) (by omega)), (by first | rfl | exact congrArg (Value.int .i64) (by omega)), m53, m54, m61, m55, m62, m60, b13⟩ ?_
          show (nq23 - (intOf ((.int .i64 ((m : Int) + 1)))).toNat) < _
          simp only [h30, intOf]; omega
         ·refine Fx.Qt.v (.bool false) (fun v1 hv1 => Fx.x_eqlF rfl rfl rfl c123) ?_
          refine Fx.Qt.nil ?_
          rintro _ ⟨qd, rfl⟩
          obtain ⟨wq2, ewq2⟩ : ∃ v1, v1 = World.drewN w11 qd := ⟨_, rfl⟩
          rw [← ewq2]
          have s8 : Fx.Stp w11.heap.size w11 wq2 := by rw [ewq2]; exact Fx.Stp.of_below (bdrN w11 qd)
          have m63 := m45.up s8.old
          have m64 := m46.stp s8 (Nat.ne_of_lt (m46.lt))
          have m65 := m48.stp s8 (Nat.ne_of_lt (m48.lt))
          have m66 := m49.stp s8 (m49.notNew (Nat.le_refl _))
          have m67 := m51.stpB s8 (Nat.ne_of_lt (m51.lt))
          have m68 := m52.stpB s8 (Nat.ne_of_lt (m52.lt))
          have b14 := s8.below b12 b12.size b12.size
          clear ewq2
          refine Fx.seqN (Fx.W.cond (b := false) rfl (fun h => nomatch h) (fun _ => Fx.W.skip (Fx.blkN (Fx.seqN ?_))))
          have hm1 : oM (M9.ml qw).id (M9.ml qw).par (M9.ml qw).s.nn (M9.ml qw).g ((M9.ml qw).id k) ((opL (M9.ml qw).g ((i : Int) + 1) (M9.ml qw).s.gn).getD j 0) (m + 1) = oM (M9.ml qw).id (M9.ml qw).par (M9.ml qw).s.nn (M9.ml qw).g ((M9.ml qw).id k) ((opL (M9.ml qw).g ((i : Int) + 1) (M9.ml qw).s.gn).getD j 0) m := oM_no c123
          refine Fx.W.list (Fx.L.v (.int .i64 ((m : Int))) (Fx.x_move rfl h30) ?_)
          refine Fx.L.v (.int .i64 ((m : Int) + 1)) (Fx.x_add rfl rfl rfl (Fx.i64e (by omega) (by omega))) ?_
          refine Fx.L.v (.int .i64 ((m : Int) + 1)) (Fx.x_assign rfl rfl) ?_
          refine Fx.L.nil ?_
          have m69 : Fx.Own wq2 wt1.heap.size 27 1 (.slice aq23 (nq23) (capq23)) nq23 (ptU (M9.ml qw).id (M9.ml qw).par (M9.ml qw).s.nn ((M9.ml qw).g ((opL (M9.ml qw).g ((i : Int) + 1) (M9.ml qw).s.gn).getD j 0) 2)) := m67.congV (congrArg (fun q => Value.slice q nq23 capq23) eq5.symm)
          have m70 : Fx.Own wq2 w.heap.size 50 56 (.slice (M9.ml qw).s.na ((M9.ml qw).s.nn) ((M9.ml qw).s.nc)) ((M9.ml qw).s.nn) (ndX (M9.ml qw)) := m68.congV (congrArg (fun q => Value.slice q ((M9.ml qw).s.nn) ((M9.ml qw).s.nc)) eq6.symm)
          refine Fx.lpN ⟨m + 1, by omega, h21, (h22.trans (by first | rfl | exact congrArg (Value.int .i64) (by omega))), h23, (h24.trans (by first | rfl | exact congrArg (Value.int .i64) (by omega))), (h25.trans (by first | rfl | exact congrArg (Value.int .i64) (by omega))), h26, (h27.trans (by first | rfl | exact congrArg (Value.int .i64) (by omega))), h28, (h29.trans (by first | rfl | exact congrArg (Value.int .i64) (by omega))), (by first | rfl | exact congrArg (Value.int .i64) (by omega)), m63, m64, m70, m65, m66, m69, b14⟩ ?_
          show (nq23 - (intOf ((.int .i64 ((m : Int) + 1)))).toNat) < _
          simp only [h30, intOf]; omega
        ·refine Fx.L.v (.bool false) (Fx.x_lssF rfl rfl rfl c110) ?_
         refine Fx.L.nil (Fx.seqN (Fx.W.cond (b := false) rfl (fun h => nomatch h) (fun _ => Fx.W.exit (Fx.seqX (Fx.lpX (Fx.blkX (Fx.blkN (Fx.seqN ?_))))))))
         have ho2 : oP (M9.ml qw).id (M9.ml qw).par (M9.ml qw).s.nn (M9.ml qw).g ((M9.ml qw).id k) (opL (M9.ml qw).g ((i : Int) + 1) (M9.ml qw).s.gn) (j + 1) = oP (M9.ml qw).id (M9.ml qw).par (M9.ml qw).s.nn (M9.ml qw).g ((M9.ml qw).id k) (opL (M9.ml qw).g ((i : Int) + 1) (M9.ml qw).s.gn) j + oM (M9.ml qw).id (M9.ml qw).par (M9.ml qw).s.nn (M9.ml qw).g ((M9.ml qw).id k) ((opL (M9.ml qw).g ((i : Int) + 1) (M9.ml qw).s.gn).getD j 0) m := by rw [show m = pathS (M9.ml qw).id (M9.ml qw).par (M9.ml qw).s.nn ((M9.ml qw).g ((opL (M9.ml qw).g ((i : Int) + 1) (M9.ml qw).s.gn).getD j 0) 2) by omega]; rfl
         refine Fx.W.list (Fx.L.v (.int .i64 ((j : Int))) (Fx.x_move rfl h27) ?_)
         refine Fx.L.v (.int .i64 ((j : Int) + 1)) (Fx.x_add rfl rfl rfl (Fx.i64e (by omega) (by omega))) ?_
         refine Fx.L.v (.int .i64 ((j : Int) + 1)) (Fx.x_assign rfl rfl) ?_
         refine Fx.L.nil (Fx.lpN ⟨j + 1, by omega, h21, (h22.trans (by first | rfl | exact congrArg (Value.int .i64) (by omega))), h23, (h24.trans (by first | rfl | exact congrArg (Value.int .i64) (by omega))), (h25.trans (by first | rfl | exact congrArg (Value.int .i64) (by omega))), h26, (h29.trans (by first | rfl | exact congrArg (Value.int .i64) (by omega))), (by first | rfl | exact congrArg (Value.int .i64) (by omega)), m45, m46, m47, m48, m49, b12⟩ ?_)
         show (nq22 - (intOf ((.int .i64 ((j : Int) + 1)))).toNat) < _
         simp only [h20, intOf]; omega
       ·refine Fx.L.v (.bool false) (Fx.x_lssF rfl rfl rfl c97) ?_
        refine Fx.L.nil (Fx.seqN (Fx.W.cond (b := false) rfl (fun h => nomatch h) (fun _ => Fx.W.exit (Fx.seqX (Fx.lpX (Fx.blkX (Fx.blkN (Fx.seqN ?_))))))))
        have hu2 : usedI (M9.ml qw).id (M9.ml qw).par (M9.ml qw).s.nn (M9.ml qw).g (M9.ml qw).s.gn ((M9.ml qw).id k) (i + 1) = usedI (M9.ml qw).id (M9.ml qw).par (M9.ml qw).s.nn (M9.ml qw).g (M9.ml qw).s.gn ((M9.ml qw).id k) i + oP (M9.ml qw).id (M9.ml qw).par (M9.ml qw).s.nn (M9.ml qw).g ((M9.ml qw).id k) (opL (M9.ml qw).g ((i : Int) + 1) (M9.ml qw).s.gn) j := by rw [show j = (opL (M9.ml qw).g ((i : Int) + 1) (M9.ml qw).s.gn).length by omega]; rfl
        refine Fx.W.list (Fx.L.v (.int .i64 ((i : Int) + 1)) (Fx.x_move rfl h17) ?_)
        refine Fx.L.v (.int .i64 ((i : Int) + 2)) (Fx.x_add rfl rfl rfl (Fx.i64e (by omega) (by omega))) ?_
        refine Fx.L.v (.int .i64 ((i : Int) + 2)) (Fx.x_assign rfl rfl) ?_
        refine Fx.L.nil (Fx.lpN ⟨i + 1, by omega, h13, (h14.trans (by first | rfl | exact congrArg (Value.int .i64) (by omega))), h15, (h19.trans (by first | rfl | exact congrArg (Value.int .i64) (by omega))), (h16.trans (by first | rfl | exact congrArg (Value.int .i64) (by omega))), (by first | rfl | exact congrArg (Value.int .i64) (by omega)), m28, m29, m30, m31, b9⟩ ?_)
        show (7 - (intOf ((.int .i64 ((i : Int) + 2)))).toNat) < _
        simp only [h12, intOf]; omega
      ·refine Fx.L.v (.bool false) (Fx.x_leqF rfl rfl rfl c81) ?_
       refine Fx.L.nil (Fx.seqN (Fx.W.cond (b := false) rfl (fun h => nomatch h) (fun _ => Fx.W.exit (Fx.seqX (Fx.lpX (Fx.blkX (Fx.seqN (Fx.W.seq (Fx.W.list (Fx.L.v (.int .i64 (usedI (M9.ml qw).id (M9.ml qw).par (M9.ml qw).s.nn (M9.ml qw).g (M9.ml qw).s.gn ((M9.ml qw).id k) i)) (Fx.x_move rfl h10) ?_))))))))))
       refine Fx.L.v (.pointer (some ⟨g2, 1, none⟩)) (Fx.x_field rfl h9 Try.underlying82 rfl (s := 1) (by kernel_rfl) rfl (by show _ + 1 = _; omega)) ?_
       refine Fx.L.v (.int .i64 ((sums ((M9.ml qw).R k)).2)) (Fx.x_load1 (x := quN ((M9.ml qw).R k) 6) rfl rfl (by kernel_rfl) m23.cel (i := 1) (by omega) (by omega) rfl) ?_
       refine Fx.L.v (.bool false) (Fx.x_neqF rfl rfl rfl (by rw [show 6 = i by omega] at hU6; exact hU6)) ?_
       refine Fx.L.v (.bool false) (Fx.x_move rfl rfl) ?_
       refine Fx.L.v (.int .i64 (uSum ((M9.ml qw).R k) + lsumV ((M9.ml qw).R k) i)) (Fx.x_move rfl h11) ?_
       refine Fx.L.v (.pointer (some ⟨g2, 0, none⟩)) (Fx.x_field rfl h9 Try.underlying82 rfl (s := 1) (by kernel_rfl) rfl rfl) ?_
       refine Fx.L.v (.int .i64 ((sums ((M9.ml qw).R k)).1)) (Fx.x_load1 (x := quN ((M9.ml qw).R k) 6) rfl rfl (by kernel_rfl) m23.cel (i := 0) (by omega) (by omega) rfl) ?_
       refine Fx.L.v (.bool false) (Fx.x_neqF rfl rfl rfl (by rw [show 6 = i by omega] at hV6; exact hV6)) ?_
       refine Fx.L.v (.bool false) (Fx.x_pickF rfl rfl rfl) ?_
       refine Fx.L.nil (Fx.seqN (Fx.W.cond (b := false) rfl (fun h => nomatch h) (fun _ => Fx.W.skip (Fx.blkN (Fx.seqN (Fx.W.list (Fx.L.v (.int .i64 ((k : Int))) (Fx.x_move rfl h8) ?_)))))))
       refine Fx.L.v (.int .i64 ((k : Int) + 1)) (Fx.x_add rfl rfl rfl (Fx.i64e (by omega) (by omega))) ?_
       refine Fx.L.v (.int .i64 ((k : Int) + 1)) (Fx.x_assign rfl rfl) ?_
       refine Fx.L.nil (Fx.lpN ⟨k + 1, by omega, h7, (by first | rfl | exact congrArg (Value.int .i64) (by omega)), m22, m20, m21, b7⟩ ?_)
       show ((M9.ml qw).s.nn - (intOf ((.int .i64 ((k : Int) + 1)))).toNat) < _
       simp only [h6, intOf]; omega
    ·refine Fx.L.v (.bool false) (Fx.x_lssF rfl rfl rfl c62) ?_
     refine Fx.L.nil (Fx.seqN (Fx.W.cond (b := false) rfl (fun h => nomatch h) (fun _ => Fx.W.exit (Fx.seqX (Fx.lpX (Fx.blkX (Fx.seqN (Fx.W.seq (Fx.W.list (Fx.L.call (by rfl) (Fx.r_call (args := []) rfl rfl Try.func35 rfl rfl) rfl ((works25_any _).mono ?_)))))))))))
     rintro e w12 ⟨he, hb4⟩
     refine ⟨.bool true, by rw [he], ?_⟩
     clear he
     have s9 := Fx.Stp.of_below hb4
     have m71 := m11.stp s9 (m11.notNew (Nat.le_refl _))
     have m72 := m12.up s9.old
     have m73 := m13.stp s9 (Nat.ne_of_lt (m13.lt))
     have b15 := s9.below b5 b5.size b5.size
     refine Fx.L.v (.bool true) (Fx.x_assign rfl rfl) ?_
     refine Fx.L.nil (Fx.seqN (Fx.W.ret (⟨.bool true, Fx.retV1 Try.results7 (by exact rfl), ?_⟩)))
     exact ⟨rfl, b15⟩
 ·rw [Bool.not_eq_true] at c21
  refine Fx.L.call (by rfl) (Fx.r_call (args := [.slice aa0 (na) (ca)]) rfl rfl Try.func20 rfl rfl) rfl ((l_few _ _ _ _).mono ?_)
  rintro e v1 ⟨he, hv1⟩
  subst v1
  refine ⟨.bool false, by rw [he, c21], ?_⟩
  clear he
  refine Fx.L.v (.bool true) (Fx.x_notT rfl rfl) ?_
  refine Fx.L.nil (Fx.seqN (Fx.W.cond (b := true) rfl (fun _ => Fx.W.seq (Fx.W.list (Fx.L.call (by rfl) (Fx.r_call (args := []) rfl rfl Try.func35 rfl rfl) rfl ((works25_any _).mono ?_)))) (fun h => nomatch h)))
  rintro e w13 ⟨he, hb5⟩
  refine ⟨.bool true, by rw [he], ?_⟩
  clear he
  have s10 := Fx.Stp.of_below hb5
  have b16 := s10.below (Below.refl w.heap.size w) (Below.refl w.heap.size w).size (Below.refl w.heap.size w).size
  refine Fx.L.v (.bool true) (Fx.x_assign rfl rfl) ?_
  refine Fx.L.nil (Fx.seqN (Fx.W.ret (Fx.seqR (⟨.bool true, Fx.retV1 Try.results7 (by exact rfl), ?_⟩))))
  exact ⟨rfl, b16⟩
end Go.Proofs.Ytolmkjepieoloaa
