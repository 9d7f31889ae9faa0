/-
  The walk of leatref07.Join.
-/
import Derived.Test.YtolmkjepieoloaaFxe
import Derived.Test.YtolmkjepieoloaaRJoin
namespace Go.Proofs.Ytolmkjepieoloaa
open Go.RowKit Rt
namespace Rt
def jts (a b : Nat → Int) (k s : Nat) : Nat → Int := fun p => if own p < k ∨ (own p = k ∧ p < 6 * s) then mxI (a p) (b p) else a p
theorem jts_zero (a b : Nat → Int) (k : Nat) : jts a b k 0 = jt a b k := by
  funext p; unfold jts jt; by_cases h : own p < k
  · rw [if_pos (.inl h), if_pos h]
  · rw [if_neg (by omega), if_neg h]
theorem own_low {k s : Nat} (hk : k < 6) (hs : s < 3) : own (6 * s + k) = k := by unfold own; split <;> (try split) <;> (try split) <;> omega
theorem own_row {k j : Nat} (hk : k < 6) (hj : j < 6) : own (j + 6 * k + 18) = k := by unfold own; split <;> (try split) <;> (try split) <;> omega
theorem own_of {p k s : Nat} (h : own p = k) (h1 : 6 * s ≤ p) (h2 : p < 6 * (s + 1)) (hs : s < 3) : p = 6 * s + k := by unfold own at h; split at h <;> (try split at h) <;> (try split at h) <;> omega
theorem jts_at {a b : Nat → Int} {k s : Nat} (hk : k < 6) (hs : s < 3) : jts a b k s (6 * s + k) = a (6 * s + k) := by
  unfold jts; rw [if_neg]; rw [own_low hk hs]; omega
theorem jts_cell {a b : Nat → Int} {k s p : Nat} (hk : k < 6) (hs : s < 3) (hp : p = 6 * s + k) : jts a b k s p = a p := by subst hp; exact jts_at hk hs
theorem jts_succ {a b : Nat → Int} {k s p : Nat} (hk : k < 6) (hs : s < 3) (hp : p = 6 * s + k) {v : Int} (hv : v = mxI (a p) (b p)) : upd (jts a b k s) p v = jts a b k (s + 1) := by
  subst hp hv
  funext q
  unfold upd
  by_cases e : q = 6 * s + k
  · rw [if_pos e, e]; unfold jts; rw [if_pos]; right; rw [own_low hk hs]; omega
  · rw [if_neg e]; unfold jts
    by_cases h : own q < k ∨ (own q = k ∧ q < 6 * s)
    · rw [if_pos h, if_pos (by omega)]
    · rw [if_neg h, if_neg]
      rintro (h1 | ⟨h1, h2⟩)
      · exact h (.inl h1)
      · exact e (own_of h1 (by omega) h2 hs)
theorem jts_three (a b : Nat → Int) (k : Nat) : jts a b k 3 = jt2 a b k 0 := by
  funext p; unfold jts jt2; simp only [Nat.not_lt_zero, or_false]
theorem jt2_in {a b : Nat → Int} {k j : Nat} (_ : k < 6) (hj : j < 6) : jt2 a b k j (j + 6 * k + 18) = a (j + 6 * k + 18) := by
  have := jt2_at a b k j hj; rwa [show 18 + k * 6 + j = j + 6 * k + 18 by omega] at this
theorem jt2_succ {a b : Nat → Int} {k j : Nat} (hk : k < 6) (hj : j < 6) : upd (jt2 a b k j) (j + 6 * k + 18) (mxI (a (j + 6 * k + 18)) (b (j + 6 * k + 18))) = jt2 a b k (j + 1) := by
  funext p; have := jt2_step a b k j hk hj p; rwa [show 18 + k * 6 + j = j + 6 * k + 18 by omega] at this
theorem jt2_fin (a b : Nat → Int) (k : Nat) : jt2 a b k 6 = jt a b (k + 1) := funext (jt2_end a b k)
end Rt
set_option maxRecDepth 10000 in
set_option maxHeartbeats 400000 in
theorem f7_join (a b : Nat → Int) (w : World) :
    Calls Try.prog 48 #[.agg (Fx.varr 54 (Fx.rv .i64 a)), .agg (Fx.varr 54 (Fx.rv .i64 b))] w fun e w' => e = .returned (.agg (Fx.varr 54 (Fx.rv .i64 (joinM a b)))) ∧ Below w.heap.size w w' := by
  refine Fx.enter Try.func48 rfl (n := 70) rfl (by rfl) ?_
  refine Fx.W.seq ?_
  refine Fx.W.list ?_
  refine Fx.L.box (m := 54) (y := Fx.rv .i64 a) (by rfl) rfl rfl (Fx.cells_agg _ _) rfl fun g1 w1 eg1 m1 s1 z1 => ?_
  have b1 : Below w.heap.size w w1 := s1.below (Below.refl w.heap.size w) (Below.refl w.heap.size w).size (Below.refl w.heap.size w).size
  have lg1 : w.heap.size ≤ g1 := by rw [eg1]; exact (Below.refl w.heap.size w).size
  have tg1 : g1 < w1.heap.size := m1.lt
  clear eg1
  refine Fx.L.box (m := 54) (y := Fx.rv .i64 b) (by rfl) rfl rfl (Fx.cells_agg _ _) rfl fun g2 w2 eg2 m2 s2 z2 => ?_
  have m3 : Fx.Blk w2 g1 54 (Fx.rv .i64 a) 48 := m1.stp s2 (Nat.ne_of_lt (m1.lt))
  have b2 : Below w.heap.size w w2 := s2.below b1 b1.size b1.size
  have lg2 : w.heap.size ≤ g2 := by rw [eg2]; exact b1.size
  have ng2m3 : g1 ≠ g2 := by rw [eg2]; exact Nat.ne_of_lt (m1.lt)
  have tg2 : g2 < w2.heap.size := m2.lt
  clear eg2
  refine Fx.L.new (m := 54) (y := Fx.rv .i64 (fun _ => 0)) (by rfl) rfl (by kernel_rfl) rfl fun g3 w3 eg3 m4 s3 z3 => ?_
  have m5 : Fx.Blk w3 g1 54 (Fx.rv .i64 a) 48 := m3.stp s3 (Nat.ne_of_lt (m3.lt))
  have m6 : Fx.Blk w3 g2 54 (Fx.rv .i64 b) 48 := m2.stp s3 (Nat.ne_of_lt (m2.lt))
  have b3 : Below w.heap.size w w3 := s3.below b2 b2.size b2.size
  have lg3 : w.heap.size ≤ g3 := by rw [eg3]; exact b2.size
  have ng3m5 : g1 ≠ g3 := by rw [eg3]; exact Nat.ne_of_lt (m3.lt)
  have ng3m6 : g2 ≠ g3 := by rw [eg3]; exact Nat.ne_of_lt (m2.lt)
  have tg3 : g3 < w3.heap.size := m4.lt
  clear eg3
  refine Fx.L.nil ?_
  refine Fx.seqN ?_
  refine Fx.W.seq ?_
  refine Fx.W.seq ?_
  refine Fx.W.list ?_
  refine Fx.L.val (v := .int .i64 (0)) (by rfl) (Fx.x_assign rfl rfl) rfl ?_
  refine Fx.L.nil ?_
  refine Fx.seqN ?_
  refine Fx.W.block ?_
  have m7 := m5.to (congrArg (Fx.rv .i64) (jt_zero a b).symm)
  refine Fx.W.loop (fun f w_ => ∃ k : Nat, k ≤ 6 ∧ f 2 = .pointer (some ⟨g1, 0, none⟩) ∧ f 3 = .pointer (some ⟨g2, 0, none⟩) ∧ f 4 = .pointer (some ⟨g3, 0, none⟩) ∧ f 5 = .int .i64 ((k : Int)) ∧ Fx.Blk w_ g1 54 (Fx.rv .i64 (jt a b k)) 48 ∧ Fx.Blk w_ g2 54 (Fx.rv .i64 b) 48 ∧ Fx.Blk w_ g3 54 (Fx.rv .i64 (fun _ => 0)) 48 ∧ Below w.heap.size w w_) (fun f _ => (6 - (intOf (f 5)).toNat)) ⟨0, by omega, (by rfl), (by rfl), (by rfl), (by first | rfl | exact congrArg (Value.int .i64) (by omega)), m7, m6, m4, b3⟩ ?_
  rintro f1 w4 ⟨k, hk, h1, h2, h3, h4, m8, m9, m10, b4⟩
  refine Fx.W.seq ?_
  refine Fx.W.seq ?_
  refine Fx.W.list ?_
  refine Fx.L.val (v := .int .i64 ((k : Int))) (by rfl) (Fx.x_move rfl h4) rfl ?_
  by_cases c8 : (k : Int) < 6
  · refine Fx.L.val (v := .bool true) (by rfl) (Fx.x_lssT rfl rfl rfl c8) rfl ?_
    refine Fx.L.nil ?_
    refine Fx.seqN ?_
    refine Fx.W.cond (b := true) rfl (fun _ => ?_) (fun h => nomatch h)
    refine Fx.W.skip ?_
    refine Fx.seqN ?_
    refine Fx.W.seq ?_
    refine Fx.W.block ?_
    refine Fx.W.seq ?_
    have m11 := m8.to (congrArg (Fx.rv .i64) (jts_zero a b k).symm)
    -- region 4 draws
    refine Fx.W.tail 12 (by kernel_rfl) (by kernel_rfl) fun wt1 hbwt1 hzwt1 => ?_
    have s4 : Fx.Stp w4.heap.size w4 wt1 := Fx.Stp.of_below hbwt1
    have m12 : Fx.Blk wt1 g1 54 (Fx.rv .i64 (jts a b k 0)) 48 := m11.stp s4 (by have := m11.lt; omega)
    have m13 : Fx.Blk wt1 g2 54 (Fx.rv .i64 b) 48 := m9.stp s4 (by have := m9.lt; omega)
    have m14 : Fx.Blk wt1 g3 54 (Fx.rv .i64 (fun _ => 0)) 48 := m10.stp s4 (by have := m10.lt; omega)
    have b5 : Below w.heap.size w wt1 := s4.below b4 b4.size b4.size
    refine Fx.St.val (v := .int .i64 ((k : Int))) (by rfl) (Fx.x_move rfl h4) rfl ?_
    refine Fx.St.val (v := .int .i64 ((k : Int))) (by rfl) (Fx.x_move rfl h4) rfl ?_
    refine Fx.St.val (v := .pointer (some ⟨g1, 0, none⟩)) (by rfl) (Fx.x_field rfl h1 Try.underlying48 rfl (s := 6) (by kernel_rfl) rfl rfl) rfl ?_
    refine Fx.St.val (v := .pointer (some ⟨g1, k, none⟩)) (by rfl) (Fx.x_index rfl rfl rfl Try.underlying45 (s := 1) (by kernel_rfl) (by omega) (by omega) (by omega)) rfl ?_
    refine Fx.St.val (v := .int .i64 (a k)) (by rfl) (Fx.x_load1 (x := Fx.rv .i64 (jts a b k 0)) rfl rfl (by kernel_rfl) m12.cel (i := k) (by omega) (by omega) (congrArg (Value.int .i64) (jts_cell (by omega) (by omega) (show k = 6 * 0 + k by omega)))) rfl ?_
    refine Fx.St.val (v := .int .i64 ((k : Int))) (by rfl) (Fx.x_move rfl h4) rfl ?_
    refine Fx.St.val (v := .pointer (some ⟨g2, 0, none⟩)) (by rfl) (Fx.x_field rfl h2 Try.underlying48 rfl (s := 6) (by kernel_rfl) rfl rfl) rfl ?_
    refine Fx.St.val (v := .pointer (some ⟨g2, k, none⟩)) (by rfl) (Fx.x_index rfl rfl rfl Try.underlying45 (s := 1) (by kernel_rfl) (by omega) (by omega) (by omega)) rfl ?_
    refine Fx.St.val (v := .int .i64 (b k)) (by rfl) (Fx.x_load1 (x := Fx.rv .i64 b) rfl rfl (by kernel_rfl) m13.cel (i := k) (by omega) (by omega) rfl) rfl ?_
    refine Fx.St.val (v := .int .i64 (mxI (a k) (b k))) (by rfl) (Fx.x_max rfl rfl rfl) rfl ?_
    refine Fx.St.val (v := .pointer (some ⟨g1, 0, none⟩)) (by rfl) (Fx.x_field rfl h1 Try.underlying48 rfl (s := 6) (by kernel_rfl) rfl rfl) rfl ?_
    refine Fx.St.val (v := .pointer (some ⟨g1, k, none⟩)) (by rfl) (Fx.x_index rfl rfl rfl Try.underlying45 (s := 1) (by kernel_rfl) (by omega) (by omega) (by omega)) rfl ?_
    refine Fx.St.nil ?_
    refine Fx.L.store1 (x := Fx.rv .i64 (jts a b k 0)) (u := .int .i64 (mxI (a k) (b k))) (by rfl) rfl rfl rfl rfl (by rfl) (by kernel_rfl) m12 (i := k) (by omega) fun w5 m15 s5 z4 => ?_
    have m16 : Fx.Blk w5 g1 54 (Fx.rv .i64 (upd (jts a b k 0) k (mxI (a k) (b k)))) 48 := m15.to (Fx.updV_rv _ _ _ _)
    have m17 : Fx.Blk w5 g2 54 (Fx.rv .i64 b) 48 := m13.stp s5 (by omega)
    have m18 : Fx.Blk w5 g3 54 (Fx.rv .i64 (fun _ => 0)) 48 := m14.stp s5 (by omega)
    have b6 : Below w.heap.size w w5 := s5.below b5 b5.size (by omega)
    refine Fx.L.nil ?_
    refine Fx.seqN ?_
    refine Fx.W.seq ?_
    have m19 := m16.to (congrArg (Fx.rv .i64) (jts_succ (by omega) (by omega) (by omega) rfl))
    -- region 5 draws
    refine Fx.W.tail 12 (by kernel_rfl) (by kernel_rfl) fun wt2 hbwt2 hzwt2 => ?_
    have s6 : Fx.Stp w5.heap.size w5 wt2 := Fx.Stp.of_below hbwt2
    have m20 : Fx.Blk wt2 g2 54 (Fx.rv .i64 b) 48 := m17.stp s6 (by have := m17.lt; omega)
    have m21 : Fx.Blk wt2 g3 54 (Fx.rv .i64 (fun _ => 0)) 48 := m18.stp s6 (by have := m18.lt; omega)
    have m22 : Fx.Blk wt2 g1 54 (Fx.rv .i64 (jts a b k 1)) 48 := m19.stp s6 (by have := m19.lt; omega)
    have b7 : Below w.heap.size w wt2 := s6.below b6 b6.size b6.size
    refine Fx.St.val (v := .int .i64 ((k : Int))) (by rfl) (Fx.x_move rfl h4) rfl ?_
    refine Fx.St.val (v := .int .i64 ((k : Int))) (by rfl) (Fx.x_move rfl h4) rfl ?_
    refine Fx.St.val (v := .pointer (some ⟨g1, 6, none⟩)) (by rfl) (Fx.x_field rfl h1 Try.underlying48 rfl (s := 6) (by kernel_rfl) rfl (by show _ + 6 = _; omega)) rfl ?_
    refine Fx.St.val (v := .pointer (some ⟨g1, k + 6, none⟩)) (by rfl) (Fx.x_index rfl rfl rfl Try.underlying45 (s := 1) (by kernel_rfl) (by omega) (by omega) (by omega)) rfl ?_
    refine Fx.St.val (v := .int .i64 (a (k + 6))) (by rfl) (Fx.x_load1 (x := Fx.rv .i64 (jts a b k 1)) rfl rfl (by kernel_rfl) m22.cel (i := k + 6) (by omega) (by omega) (congrArg (Value.int .i64) (jts_cell (by omega) (by omega) (show k + 6 = 6 * 1 + k by omega)))) rfl ?_
    refine Fx.St.val (v := .int .i64 ((k : Int))) (by rfl) (Fx.x_move rfl h4) rfl ?_
    refine Fx.St.val (v := .pointer (some ⟨g2, 6, none⟩)) (by rfl) (Fx.x_field rfl h2 Try.underlying48 rfl (s := 6) (by kernel_rfl) rfl (by show _ + 6 = _; omega)) rfl ?_
    refine Fx.St.val (v := .pointer (some ⟨g2, k + 6, none⟩)) (by rfl) (Fx.x_index rfl rfl rfl Try.underlying45 (s := 1) (by kernel_rfl) (by omega) (by omega) (by omega)) rfl ?_
    refine Fx.St.val (v := .int .i64 (b (k + 6))) (by rfl) (Fx.x_load1 (x := Fx.rv .i64 b) rfl rfl (by kernel_rfl) m20.cel (i := k + 6) (by omega) (by omega) rfl) rfl ?_
    refine Fx.St.val (v := .int .i64 (mxI (a (k + 6)) (b (k + 6)))) (by rfl) (Fx.x_max rfl rfl rfl) rfl ?_
    refine Fx.St.val (v := .pointer (some ⟨g1, 6, none⟩)) (by rfl) (Fx.x_field rfl h1 Try.underlying48 rfl (s := 6) (by kernel_rfl) rfl (by show _ + 6 = _; omega)) rfl ?_
    refine Fx.St.val (v := .pointer (some ⟨g1, k + 6, none⟩)) (by rfl) (Fx.x_index rfl rfl rfl Try.underlying45 (s := 1) (by kernel_rfl) (by omega) (by omega) (by omega)) rfl ?_
    refine Fx.St.nil ?_
    refine Fx.L.store1 (x := Fx.rv .i64 (jts a b k 1)) (u := .int .i64 (mxI (a (k + 6)) (b (k + 6)))) (by rfl) rfl rfl rfl rfl (by rfl) (by kernel_rfl) m22 (i := k + 6) (by omega) fun w6 m23 s7 z5 => ?_
    have m24 : Fx.Blk w6 g1 54 (Fx.rv .i64 (upd (jts a b k 1) (k + 6) (mxI (a (k + 6)) (b (k + 6))))) 48 := m23.to (Fx.updV_rv _ _ _ _)
    have m25 : Fx.Blk w6 g2 54 (Fx.rv .i64 b) 48 := m20.stp s7 (by omega)
    have m26 : Fx.Blk w6 g3 54 (Fx.rv .i64 (fun _ => 0)) 48 := m21.stp s7 (by omega)
    have b8 : Below w.heap.size w w6 := s7.below b7 b7.size (by omega)
    refine Fx.L.nil ?_
    refine Fx.seqN ?_
    refine Fx.W.seq ?_
    have m27 := m24.to (congrArg (Fx.rv .i64) (jts_succ (by omega) (by omega) (by omega) rfl))
    -- region 6 draws
    refine Fx.W.tail 12 (by kernel_rfl) (by kernel_rfl) fun wt3 hbwt3 hzwt3 => ?_
    have s8 : Fx.Stp w6.heap.size w6 wt3 := Fx.Stp.of_below hbwt3
    have m28 : Fx.Blk wt3 g2 54 (Fx.rv .i64 b) 48 := m25.stp s8 (by have := m25.lt; omega)
    have m29 : Fx.Blk wt3 g3 54 (Fx.rv .i64 (fun _ => 0)) 48 := m26.stp s8 (by have := m26.lt; omega)
    have m30 : Fx.Blk wt3 g1 54 (Fx.rv .i64 (jts a b k 2)) 48 := m27.stp s8 (by have := m27.lt; omega)
    have b9 : Below w.heap.size w wt3 := s8.below b8 b8.size b8.size
    refine Fx.St.val (v := .int .i64 ((k : Int))) (by rfl) (Fx.x_move rfl h4) rfl ?_
    refine Fx.St.val (v := .int .i64 ((k : Int))) (by rfl) (Fx.x_move rfl h4) rfl ?_
    refine Fx.St.val (v := .pointer (some ⟨g1, 12, none⟩)) (by rfl) (Fx.x_field rfl h1 Try.underlying48 rfl (s := 6) (by kernel_rfl) rfl (by show _ + 12 = _; omega)) rfl ?_
    refine Fx.St.val (v := .pointer (some ⟨g1, k + 12, none⟩)) (by rfl) (Fx.x_index rfl rfl rfl Try.underlying45 (s := 1) (by kernel_rfl) (by omega) (by omega) (by omega)) rfl ?_
    refine Fx.St.val (v := .int .i64 (a (k + 12))) (by rfl) (Fx.x_load1 (x := Fx.rv .i64 (jts a b k 2)) rfl rfl (by kernel_rfl) m30.cel (i := k + 12) (by omega) (by omega) (congrArg (Value.int .i64) (jts_cell (by omega) (by omega) (show k + 12 = 6 * 2 + k by omega)))) rfl ?_
    refine Fx.St.val (v := .int .i64 ((k : Int))) (by rfl) (Fx.x_move rfl h4) rfl ?_
    refine Fx.St.val (v := .pointer (some ⟨g2, 12, none⟩)) (by rfl) (Fx.x_field rfl h2 Try.underlying48 rfl (s := 6) (by kernel_rfl) rfl (by show _ + 12 = _; omega)) rfl ?_
    refine Fx.St.val (v := .pointer (some ⟨g2, k + 12, none⟩)) (by rfl) (Fx.x_index rfl rfl rfl Try.underlying45 (s := 1) (by kernel_rfl) (by omega) (by omega) (by omega)) rfl ?_
    refine Fx.St.val (v := .int .i64 (b (k + 12))) (by rfl) (Fx.x_load1 (x := Fx.rv .i64 b) rfl rfl (by kernel_rfl) m28.cel (i := k + 12) (by omega) (by omega) rfl) rfl ?_
    refine Fx.St.val (v := .int .i64 (mxI (a (k + 12)) (b (k + 12)))) (by rfl) (Fx.x_max rfl rfl rfl) rfl ?_
    refine Fx.St.val (v := .pointer (some ⟨g1, 12, none⟩)) (by rfl) (Fx.x_field rfl h1 Try.underlying48 rfl (s := 6) (by kernel_rfl) rfl (by show _ + 12 = _; omega)) rfl ?_
    refine Fx.St.val (v := .pointer (some ⟨g1, k + 12, none⟩)) (by rfl) (Fx.x_index rfl rfl rfl Try.underlying45 (s := 1) (by kernel_rfl) (by omega) (by omega) (by omega)) rfl ?_
    refine Fx.St.nil ?_
    refine Fx.L.store1 (x := Fx.rv .i64 (jts a b k 2)) (u := .int .i64 (mxI (a (k + 12)) (b (k + 12)))) (by rfl) rfl rfl rfl rfl (by rfl) (by kernel_rfl) m30 (i := k + 12) (by omega) fun w7 m31 s9 z6 => ?_
    have m32 : Fx.Blk w7 g1 54 (Fx.rv .i64 (upd (jts a b k 2) (k + 12) (mxI (a (k + 12)) (b (k + 12))))) 48 := m31.to (Fx.updV_rv _ _ _ _)
    have m33 : Fx.Blk w7 g2 54 (Fx.rv .i64 b) 48 := m28.stp s9 (by omega)
    have m34 : Fx.Blk w7 g3 54 (Fx.rv .i64 (fun _ => 0)) 48 := m29.stp s9 (by omega)
    have b10 : Below w.heap.size w w7 := s9.below b9 b9.size (by omega)
    refine Fx.L.nil ?_
    refine Fx.seqN ?_
    refine Fx.W.seq ?_
    have m35 := m32.to (congrArg (Fx.rv .i64) (jts_succ (by omega) (by omega) (by omega) rfl))
    have m36 := m35.to (congrArg (Fx.rv .i64) (jts_three a b k))
    refine Fx.W.list ?_
    refine Fx.L.val (v := .int .i64 (0)) (by rfl) (Fx.x_assign rfl rfl) rfl ?_
    refine Fx.L.nil ?_
    refine Fx.seqN ?_
    refine Fx.W.block ?_
    refine Fx.W.loop (fun f w_ => ∃ j : Nat, j ≤ 6 ∧ f 2 = .pointer (some ⟨g1, 0, none⟩) ∧ f 3 = .pointer (some ⟨g2, 0, none⟩) ∧ f 4 = .pointer (some ⟨g3, 0, none⟩) ∧ f 5 = .int .i64 ((k : Int)) ∧ f 6 = .int .i64 ((j : Int)) ∧ Fx.Blk w_ g1 54 (Fx.rv .i64 (jt2 a b k j)) 48 ∧ Fx.Blk w_ g2 54 (Fx.rv .i64 b) 48 ∧ Fx.Blk w_ g3 54 (Fx.rv .i64 (fun _ => 0)) 48 ∧ Below w.heap.size w w_) (fun f _ => (6 - (intOf (f 6)).toNat)) ⟨0, by omega, h1, h2, h3, (h4.trans (by first | rfl | exact congrArg (Value.int .i64) (by omega))), (by first | rfl | exact congrArg (Value.int .i64) (by omega)), m36, m33, m34, b10⟩ ?_
    rintro f2 w8 ⟨j, hj, h5, h6, h7, h8, h9, m37, m38, m39, b11⟩
    refine Fx.W.seq ?_
    refine Fx.W.seq ?_
    refine Fx.W.list ?_
    refine Fx.L.val (v := .int .i64 ((j : Int))) (by rfl) (Fx.x_move rfl h9) rfl ?_
    by_cases c48 : (j : Int) < 6
    · refine Fx.L.val (v := .bool true) (by rfl) (Fx.x_lssT rfl rfl rfl c48) rfl ?_
      refine Fx.L.nil ?_
      refine Fx.seqN ?_
      refine Fx.W.cond (b := true) rfl (fun _ => ?_) (fun h => nomatch h)
      refine Fx.W.skip ?_
      refine Fx.seqN ?_
      refine Fx.W.seq ?_
      refine Fx.W.block ?_
      -- region 10 draws
      refine Fx.W.tail 18 (by kernel_rfl) (by kernel_rfl) fun wt4 hbwt4 hzwt4 => ?_
      have s10 : Fx.Stp w8.heap.size w8 wt4 := Fx.Stp.of_below hbwt4
      have m40 : Fx.Blk wt4 g1 54 (Fx.rv .i64 (jt2 a b k j)) 48 := m37.stp s10 (by have := m37.lt; omega)
      have m41 : Fx.Blk wt4 g2 54 (Fx.rv .i64 b) 48 := m38.stp s10 (by have := m38.lt; omega)
      have m42 : Fx.Blk wt4 g3 54 (Fx.rv .i64 (fun _ => 0)) 48 := m39.stp s10 (by have := m39.lt; omega)
      have b12 : Below w.heap.size w wt4 := s10.below b11 b11.size b11.size
      refine Fx.St.val (v := .int .i64 ((k : Int))) (by rfl) (Fx.x_move rfl h8) rfl ?_
      refine Fx.St.val (v := .int .i64 ((j : Int))) (by rfl) (Fx.x_move rfl h9) rfl ?_
      refine Fx.St.val (v := .int .i64 ((k : Int))) (by rfl) (Fx.x_move rfl h8) rfl ?_
      refine Fx.St.val (v := .int .i64 ((j : Int))) (by rfl) (Fx.x_move rfl h9) rfl ?_
      refine Fx.St.val (v := .pointer (some ⟨g1, 18, none⟩)) (by rfl) (Fx.x_field rfl h5 Try.underlying48 rfl (s := 36) (by kernel_rfl) rfl (by show _ + 18 = _; omega)) rfl ?_
      refine Fx.St.val (v := .pointer (some ⟨g1, 6 * k + 18, none⟩)) (by rfl) (Fx.x_index rfl rfl rfl Try.underlying46 (s := 6) (by kernel_rfl) (by omega) (by omega) (by omega)) rfl ?_
      refine Fx.St.val (v := .pointer (some ⟨g1, j + 6 * k + 18, none⟩)) (by rfl) (Fx.x_index rfl rfl rfl Try.underlying45 (s := 1) (by kernel_rfl) (by omega) (by omega) (by omega)) rfl ?_
      refine Fx.St.val (v := .int .i64 (a (j + 6 * k + 18))) (by rfl) (Fx.x_load1 (x := Fx.rv .i64 (jt2 a b k j)) rfl rfl (by kernel_rfl) m40.cel (i := j + 6 * k + 18) (by omega) (by omega) (congrArg (Value.int .i64) (jt2_in (a := a) (b := b) (k := k) (j := j) (by omega) (by omega)))) rfl ?_
      refine Fx.St.val (v := .int .i64 ((k : Int))) (by rfl) (Fx.x_move rfl h8) rfl ?_
      refine Fx.St.val (v := .int .i64 ((j : Int))) (by rfl) (Fx.x_move rfl h9) rfl ?_
      refine Fx.St.val (v := .pointer (some ⟨g2, 18, none⟩)) (by rfl) (Fx.x_field rfl h6 Try.underlying48 rfl (s := 36) (by kernel_rfl) rfl (by show _ + 18 = _; omega)) rfl ?_
      refine Fx.St.val (v := .pointer (some ⟨g2, 6 * k + 18, none⟩)) (by rfl) (Fx.x_index rfl rfl rfl Try.underlying46 (s := 6) (by kernel_rfl) (by omega) (by omega) (by omega)) rfl ?_
      refine Fx.St.val (v := .pointer (some ⟨g2, j + 6 * k + 18, none⟩)) (by rfl) (Fx.x_index rfl rfl rfl Try.underlying45 (s := 1) (by kernel_rfl) (by omega) (by omega) (by omega)) rfl ?_
      refine Fx.St.val (v := .int .i64 (b (j + 6 * k + 18))) (by rfl) (Fx.x_load1 (x := Fx.rv .i64 b) rfl rfl (by kernel_rfl) m41.cel (i := j + 6 * k + 18) (by omega) (by omega) rfl) rfl ?_
      refine Fx.St.val (v := .int .i64 (mxI (a (j + 6 * k + 18)) (b (j + 6 * k + 18)))) (by rfl) (Fx.x_max rfl rfl rfl) rfl ?_
      refine Fx.St.val (v := .pointer (some ⟨g1, 18, none⟩)) (by rfl) (Fx.x_field rfl h5 Try.underlying48 rfl (s := 36) (by kernel_rfl) rfl (by show _ + 18 = _; omega)) rfl ?_
      refine Fx.St.val (v := .pointer (some ⟨g1, 6 * k + 18, none⟩)) (by rfl) (Fx.x_index rfl rfl rfl Try.underlying46 (s := 6) (by kernel_rfl) (by omega) (by omega) (by omega)) rfl ?_
      refine Fx.St.val (v := .pointer (some ⟨g1, j + 6 * k + 18, none⟩)) (by rfl) (Fx.x_index rfl rfl rfl Try.underlying45 (s := 1) (by kernel_rfl) (by omega) (by omega) (by omega)) rfl ?_
      refine Fx.St.nil ?_
      refine Fx.L.store1 (x := Fx.rv .i64 (jt2 a b k j)) (u := .int .i64 (mxI (a (j + 6 * k + 18)) (b (j + 6 * k + 18)))) (by rfl) rfl rfl rfl rfl (by rfl) (by kernel_rfl) m40 (i := j + 6 * k + 18) (by omega) fun w9 m43 s11 z7 => ?_
      have m44 : Fx.Blk w9 g1 54 (Fx.rv .i64 (upd (jt2 a b k j) (j + 6 * k + 18) (mxI (a (j + 6 * k + 18)) (b (j + 6 * k + 18))))) 48 := m43.to (Fx.updV_rv _ _ _ _)
      have m45 : Fx.Blk w9 g2 54 (Fx.rv .i64 b) 48 := m41.stp s11 (by omega)
      have m46 : Fx.Blk w9 g3 54 (Fx.rv .i64 (fun _ => 0)) 48 := m42.stp s11 (by omega)
      have b13 : Below w.heap.size w w9 := s11.below b12 b12.size (by omega)
      refine Fx.L.nil ?_
      refine Fx.blkN ?_
      refine Fx.seqN ?_
      refine Fx.W.list ?_
      refine Fx.L.val (v := .int .i64 ((j : Int))) (by rfl) (Fx.x_move rfl h9) rfl ?_
      refine Fx.L.val (v := .int .i64 ((j : Int) + 1)) (by rfl) (Fx.x_add rfl rfl rfl (Fx.i64e (by omega) (by omega))) rfl ?_
      refine Fx.L.val (v := .int .i64 ((j : Int) + 1)) (by rfl) (Fx.x_assign rfl rfl) rfl ?_
      refine Fx.L.nil ?_
      have m47 := m44.to (congrArg (Fx.rv .i64) (jt2_succ (a := a) (b := b) (k := k) (j := j) (by omega) (by omega)))
      refine Fx.lpN ⟨j + 1, by omega, h5, h6, h7, (h8.trans (by first | rfl | exact congrArg (Value.int .i64) (by omega))), (by first | rfl | exact congrArg (Value.int .i64) (by omega)), m47, m45, m46, b13⟩ ?_
      show (6 - (intOf ((.int .i64 ((j : Int) + 1)))).toNat) < _
      simp only [h9, intOf]; omega
    · refine Fx.L.val (v := .bool false) (by rfl) (Fx.x_lssF rfl rfl rfl c48) rfl ?_
      refine Fx.L.nil ?_
      refine Fx.seqN ?_
      refine Fx.W.cond (b := false) rfl (fun h => nomatch h) (fun _ => ?_)
      refine Fx.W.exit ?_
      refine Fx.seqX ?_
      refine Fx.lpX ?_
      refine Fx.blkX ?_
      refine Fx.blkN ?_
      refine Fx.seqN ?_
      refine Fx.W.list ?_
      refine Fx.L.val (v := .int .i64 ((k : Int))) (by rfl) (Fx.x_move rfl h8) rfl ?_
      refine Fx.L.val (v := .int .i64 ((k : Int) + 1)) (by rfl) (Fx.x_add rfl rfl rfl (Fx.i64e (by omega) (by omega))) rfl ?_
      refine Fx.L.val (v := .int .i64 ((k : Int) + 1)) (by rfl) (Fx.x_assign rfl rfl) rfl ?_
      refine Fx.L.nil ?_
      have e6 : j = 6 := by omega
      have m48 := m37.to (congrArg (Fx.rv .i64) (show jt2 a b k j = jt a b (k + 1) by rw [e6]; exact jt2_fin a b k))
      refine Fx.lpN ⟨k + 1, by omega, h5, h6, h7, (by first | rfl | exact congrArg (Value.int .i64) (by omega)), m48, m38, m39, b11⟩ ?_
      show (6 - (intOf ((.int .i64 ((k : Int) + 1)))).toNat) < _
      simp only [h4, intOf]; omega
  · refine Fx.L.val (v := .bool false) (by rfl) (Fx.x_lssF rfl rfl rfl c8) rfl ?_
    refine Fx.L.nil ?_
    refine Fx.seqN ?_
    refine Fx.W.cond (b := false) rfl (fun h => nomatch h) (fun _ => ?_)
    refine Fx.W.exit ?_
    refine Fx.seqX ?_
    refine Fx.lpX ?_
    refine Fx.blkX ?_
    refine Fx.seqN ?_
    refine Fx.W.seq ?_
    refine Fx.W.list ?_
    refine Fx.L.val (v := .agg (Fx.varr 54 (Fx.rv .i64 (jt a b k)))) (by rfl) (Fx.x_loadA (x := Fx.rv .i64 (jt a b k)) (y := Fx.rv .i64 (jt a b k)) rfl h1 (by kernel_rfl) (by kernel_rfl) m8.cel (i := 0) (by omega) (by omega) (fun j _ => by rw [Nat.zero_add])) rfl ?_
    refine Fx.L.storeA (x := Fx.rv .i64 (fun _ => 0)) (y := Fx.rv .i64 (jt a b k)) (by rfl) rfl rfl h3 rfl (fun _ _ => rfl) (by kernel_rfl) m10 (i := 0) (by omega) fun w10 m49 s12 z8 => ?_
    have m50 : Fx.Blk w10 g3 54 (Fx.rv .i64 (jt a b k)) 48 := Fx.ovr_all m49
    have m51 : Fx.Blk w10 g1 54 (Fx.rv .i64 (jt a b k)) 48 := m8.stp s12 (by omega)
    have m52 : Fx.Blk w10 g2 54 (Fx.rv .i64 b) 48 := m9.stp s12 (by omega)
    have b14 : Below w.heap.size w w10 := s12.below b4 b4.size (by omega)
    refine Fx.L.nil ?_
    refine Fx.seqN ?_
    refine Fx.W.ret ?_
    refine ⟨.agg (Fx.varr 54 (Fx.rv .i64 (jt a b k))), Fx.retV1 Try.results48 ⟨_, h3, Fx.run_loadV m50.cel (by kernel_rfl) (by kernel_rfl)⟩, ?_⟩
    refine ⟨congrArg (fun q => Ending.returned (Value.agg q)) (Fx.varr_congr fun p hp => congrArg (Value.int .i64) ?_), b14⟩
    have e6 : k = 6 := by omega
    rw [e6]; exact jt_end a b p hp
end Go.Proofs.Ytolmkjepieoloaa
