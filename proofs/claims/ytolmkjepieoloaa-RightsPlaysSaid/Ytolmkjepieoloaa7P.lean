/-
  The walk of leatlaw07.RightsPlays.
-/
import Derived.Test.YtolmkjepieoloaaFxs
import Derived.Test.Ytolmkjepieoloaa7D
import Derived.Test.Ytolmkjepieoloaa7E
import Derived.Test.Ytolmkjepieoloaa7F
import Derived.Test.YtolmkjepieoloaaRWorks
import Derived.Test.YtolmkjepieoloaaRJoins
import Derived.Test.YtolmkjepieoloaaOpen4
namespace Go.Proofs.Ytolmkjepieoloaa
open Go.RowKit Rt
namespace Rt
theorem kdR {x : Nat → Int} (h : In64 x) : Fx.Kd (List.replicate 54 (some .i64)) (Fx.rv .i64 x) := Fx.kd_rv fun i hi => Fx.wf64 (h i hi)
theorem join_in64 {a b : Nat → Int} (ha : In64 a) (hb : In64 b) : In64 (joinM a b) := fun p hp => by
  have := ha p hp; have := hb p hp
  unfold joinM mxI; split <;> assumption
theorem turned_in64 (x : Nat → Int) (n : Int) (is : Bool) (em : Int) (off : Nat) : In64 (turnedM x n is em off).1 := by
  rcases turned_cases x n is em off with h | h
  · rw [h.1]; exact zero_in64
  · rw [h.2]
    obtain ⟨hm, h1, h2, _, _, h3⟩ := h.1
    have he := may_ent hm
    intro p hp
    have := he p hp
    show -9223372036854775808 ≤ upd x off (x off + n) p ∧ upd x off (x off + n) p ≤ 9223372036854775807
    unfold upd
    split
    · by_cases ho : off < 54
      · have := he off ho; omega
      · omega
    · omega
theorem does_in64 (x : Nat → Int) (d i j n : Int) : In64 (doesM x d i j n).1 := by
  unfold doesM giveM takeM freeM moveM
  split
  · exact turned_in64 _ _ _ _ _
  · split
    · exact turned_in64 _ _ _ _ _
    · split <;> exact turned_in64 _ _ _ _ _
def pairR (x : Nat → Int) : Nat → Int := fun p => if p < 54 then 0 else x (p - 54)
def selR (x : Nat → Int) (k : Nat) : Nat → Int := if k = 0 then fun _ => 0 else x
theorem selR_in64 {x : Nat → Int} (h : In64 x) (k : Nat) : In64 (selR x k) := by
  unfold selR; split
  · exact zero_in64
  · exact h
theorem pairR_at {x : Nat → Int} {k j : Nat} (hk : k < 2) (hj : j < 54) : pairR x (54 * k + j) = selR x k j := by
  unfold pairR selR
  by_cases h : k = 0
  · subst h; rw [if_pos (by omega), if_pos rfl]
  · obtain rfl : k = 1 := by omega
    rw [if_neg (by omega), if_neg (by omega), show 54 * 1 + j - 54 = j by omega]
theorem pairR_y (x : Nat → Int) : Fx.varr 108 (Fx.ovr (Fx.ovr (fun j => Fx.rv .i64 (fun _ => 0) (j % 54)) (0 * 54) 54 (Fx.rv .i64 fun _ => 0)) (1 * 54) 54 (Fx.rv .i64 x)) = Fx.varr 108 (Fx.rv .i64 (pairR x)) := Fx.varr_congr fun i hi => by
  unfold Fx.ovr Fx.rv pairR
  by_cases h : i < 54
  · rw [if_neg (by omega), if_pos (by omega), if_pos h]
  · rw [if_pos (by omega), if_neg h]
theorem stp_sub {w : World} {a : Option Addr} {len : Nat} {D I J N : Nat → Int} (h : Steps w a len D I J N) {j : Nat} (hj : j < len) : (∃ b off, a = some ⟨b, off, none⟩ ∧ Fx.Cel w b (off + 4 * j) 4 (stepY (D j) (I j) (J j) (N j))) ∧ (0 ≤ D j ∧ D j ≤ 255) ∧ (-9223372036854775808 ≤ I j ∧ I j ≤ 9223372036854775807) ∧ (-9223372036854775808 ≤ J j ∧ J j ≤ 9223372036854775807) := by
  obtain ⟨⟨b, off, e, q0, q1, q2, q3⟩, f0, f1, f2, _⟩ := h j hj
  refine ⟨⟨b, off, e, fun i hi => ?_⟩, by simpa [Lit.wf, IntKind.min, IntKind.max, IntKind.bits, IntKind.signed] using f0, wf_i64 f1, wf_i64 f2⟩
  rw [Nat.mul_comm 4 j]
  rcases (show i = 0 ∨ i = 1 ∨ i = 2 ∨ i = 3 by omega) with rfl | rfl | rfl | rfl
  · exact q0
  · exact q1
  · exact q2
  · exact q3
end Rt
theorem varr4 (d i j n : Int) : Fx.varr 4 (stepY d i j n) = #[.int .u8 d, .int .i64 i, .int .i64 j, .int .i64 n] := by kernel_rfl
theorem does_fx (x : Nat → Int) (d i j n : Int) (w : World) (hd : 0 ≤ d ∧ d ≤ 255) (hi : -9223372036854775808 ≤ i ∧ i ≤ 9223372036854775807) (hj : -9223372036854775808 ≤ j ∧ j ≤ 9223372036854775807) :
    Calls Try.prog 49 #[.agg (Fx.varr 4 (stepY d i j n)), .agg (Fx.varr 54 (Fx.rv .i64 x))] w fun e w' => e = .returned (.tuple #[.agg (Fx.varr 54 (Fx.rv .i64 (doesM x d i j n).1)), .int .i64 (doesM x d i j n).2]) ∧ Below w.heap.size w w' := by
  rw [varr4]; exact does_any x d i j n w hd hi hj
set_option maxRecDepth 10000 in
set_option maxHeartbeats 2000000 in
theorem plays7_any (x y : Nat → Int) (a0 : Option Addr) (len cap : Nat) (D I J N : Nat → Int) (i : Int) (w : World) (hx : In64 x) (hy : In64 y) (hi : -9223372036854775808 ≤ i ∧ i ≤ 9223372036854775807) (hlen : len ≤ 9223372036854775807) (hst : Steps w a0 len D I J N) :
    Calls Try.prog 10 #[.agg (Fx.varr 54 (Fx.rv .i64 x)), .agg (Fx.varr 54 (Fx.rv .i64 y)), .slice a0 (len) (cap), .int .i64 (i)] w fun e w' => e = .returned (.bool true) ∧ Below w.heap.size w w' := by
  refine Fx.enter Try.func10 rfl (n := 115) rfl (by rfl) ?_
  refine Fx.W.seq ?_
  refine Fx.W.list ?_
  refine Fx.L.box (m := 54) (y := Fx.rv .i64 x) (by rfl) rfl rfl (Fx.cells_agg _ _) rfl fun g1 w1 eg1 m1 s1 z1 => ?_
  have b1 : Below w.heap.size w w1 := s1.below (Below.refl w.heap.size w) (Below.refl w.heap.size w).size (Below.refl w.heap.size w).size
  have lg1 : w.heap.size ≤ g1 := by rw [eg1]; exact (Below.refl w.heap.size w).size
  have tg1 : g1 < w1.heap.size := m1.lt
  clear eg1
  refine Fx.L.box (m := 54) (y := Fx.rv .i64 y) (by rfl) rfl rfl (Fx.cells_agg _ _) rfl fun g2 w2 eg2 m2 s2 z2 => ?_
  have m3 : Fx.Blk w2 g1 54 (Fx.rv .i64 x) 48 := m1.stp s2 (Nat.ne_of_lt (m1.lt))
  have b2 : Below w.heap.size w w2 := s2.below b1 b1.size b1.size
  have lg2 : w.heap.size ≤ g2 := by rw [eg2]; exact b1.size
  have ng2m3 : g1 ≠ g2 := by rw [eg2]; exact Nat.ne_of_lt (m1.lt)
  have tg2 : g2 < w2.heap.size := m2.lt
  clear eg2
  refine Fx.L.val (v := .bool false) (by rfl) (Fx.x_assign rfl rfl) rfl ?_
  refine Fx.L.nil ?_
  refine Fx.seqN ?_
  refine Fx.W.seq ?_
  refine Fx.W.seq ?_
  refine Fx.W.list ?_
  refine Fx.L.val (v := .slice a0 (len) (cap)) (by rfl) (Fx.x_move rfl rfl) rfl ?_
  refine Fx.L.val (v := .int .i64 ((len : Int))) (by rfl) (Fx.x_len rfl rfl rfl (by rfl)) rfl ?_
  by_cases c23 : 200 < (len : Int)
  · refine Fx.L.val (v := .bool true) (by rfl) (Fx.x_gtrT rfl rfl rfl c23) rfl ?_
    refine Fx.L.nil ?_
    refine Fx.seqN ?_
    refine Fx.W.cond (b := true) rfl (fun _ => ?_) (fun h => nomatch h)
    refine Fx.W.seq ?_
    refine Fx.W.list ?_
    refine Fx.L.call (by rfl) (Fx.r_call (args := []) rfl rfl Try.func40 rfl rfl) rfl ((works7_any _).mono ?_)
    rintro e w3 ⟨he, hb1⟩
    refine ⟨.bool true, by rw [he], ?_⟩
    clear he
    have s3 := Fx.Stp.of_below hb1
    have m4 : Fx.Blk w3 g1 54 (Fx.rv .i64 x) 48 := m3.stp s3 (Nat.ne_of_lt (m3.lt))
    have m5 : Fx.Blk w3 g2 54 (Fx.rv .i64 y) 48 := m2.stp s3 (Nat.ne_of_lt (m2.lt))
    have b3 : Below w.heap.size w w3 := s3.below b2 b2.size b2.size
    refine Fx.L.val (v := .bool true) (by rfl) (Fx.x_assign rfl rfl) rfl ?_
    refine Fx.L.nil ?_
    refine Fx.seqN ?_
    refine Fx.W.ret ?_
    refine Fx.seqR ?_
    refine ⟨.bool true, Fx.retV1 Try.results10 (by exact rfl), ?_⟩
    exact ⟨rfl, b3⟩
  · refine Fx.L.val (v := .bool false) (by rfl) (Fx.x_gtrF rfl rfl rfl c23) rfl ?_
    refine Fx.L.nil ?_
    refine Fx.seqN ?_
    refine Fx.W.cond (b := false) rfl (fun h => nomatch h) (fun _ => ?_)
    refine Fx.W.skip ?_
    refine Fx.seqN ?_
    refine Fx.W.seq ?_
    refine Fx.W.list ?_
    refine Fx.L.val (v := .agg (Fx.varr 54 (Fx.rv .i64 (fun _ => 0)))) (by rfl) (Fx.x_build (vs := []) (places := #[(0, 6), (6, 6), (12, 6), (18, 36)]) (m := 54) (x := Fx.rv .i64 (fun _ => 0)) rfl rfl Try.underlying48 (by kernel_rfl) (by kernel_rfl) (by rfl)) rfl ?_
    refine Fx.L.val (v := .agg (Fx.varr 54 (Fx.rv .i64 x))) (by rfl) (Fx.x_loadA (x := Fx.rv .i64 x) (y := Fx.rv .i64 x) rfl rfl (by kernel_rfl) (by kernel_rfl) m3.cel (i := 0) (by omega) (by omega) (fun j _ => by rw [Nat.zero_add])) rfl ?_
    refine Fx.L.bslice (vs := [(0, .agg (Fx.varr 54 (Fx.rv .i64 (fun _ => 0)))), (1, .agg (Fx.varr 54 (Fx.rv .i64 x)))]) (s := 54) (zc := Fx.rv .i64 (fun _ => 0)) (y := Fx.ovr (Fx.ovr (fun j => (Fx.rv .i64 (fun _ => 0)) (j % 54)) (0 * 54) 54 (Fx.rv .i64 (fun _ => 0))) (1 * 54) 54 (Fx.rv .i64 x)) (by rfl) rfl rfl Try.underlying100 (by kernel_rfl) (by rfl) (by rfl) (by kernel_rfl) (by rw [Fx.fill_step (off := 0 * 54) (s := 54) (y := Fx.rv .i64 (fun _ => 0)) rfl (Fx.cells_agg _ _) (by rfl)]; rw [Fx.fill_step (off := 1 * 54) (s := 54) (y := Fx.rv .i64 x) rfl (Fx.cells_agg _ _) (by rfl)]; rfl) rfl fun g3 w4 eg3 m6 s4 z3 => ?_
    have m7 : Fx.Blk w4 g1 54 (Fx.rv .i64 x) 48 := m3.stp s4 (Nat.ne_of_lt (m3.lt))
    have m8 : Fx.Blk w4 g2 54 (Fx.rv .i64 y) 48 := m2.stp s4 (Nat.ne_of_lt (m2.lt))
    have b4 : Below w.heap.size w w4 := s4.below b2 b2.size b2.size
    have lg3 : w.heap.size ≤ g3 := by rw [eg3]; exact b2.size
    have ng3m7 : g1 ≠ g3 := by rw [eg3]; exact Nat.ne_of_lt (m3.lt)
    have ng3m8 : g2 ≠ g3 := by rw [eg3]; exact Nat.ne_of_lt (m2.lt)
    have tg3 : g3 < w4.heap.size := m6.lt
    clear eg3
    refine Fx.L.val (v := .slice (some ⟨g3, 0, none⟩) (2) (2)) (by rfl) (Fx.x_assign rfl rfl) rfl ?_
    refine Fx.L.nil ?_
    refine Fx.seqN ?_
    refine Fx.W.seq ?_
    refine Fx.W.seq ?_
    refine Fx.W.list ?_
    refine Fx.L.val (v := .int .i64 (0)) (by rfl) (Fx.x_assign rfl rfl) rfl ?_
    refine Fx.L.nil ?_
    refine Fx.seqN ?_
    refine Fx.W.block ?_
    have m9 : Fx.Blk w4 g3 108 (Fx.rv .i64 (pairR x)) 48 := by unfold Fx.Blk; rw [← pairR_y]; exact m6
    refine Fx.W.loop (fun f w_ => ∃ k : Nat, k ≤ 2 ∧ f 2 = .slice a0 (len) (cap) ∧ f 3 = .int .i64 (i) ∧ f 5 = .pointer (some ⟨g2, 0, none⟩) ∧ f 9 = .slice (some ⟨g3, 0, none⟩) (2) (2) ∧ f 10 = .int .i64 ((k : Int)) ∧ Fx.Blk w_ g2 54 (Fx.rv .i64 y) 48 ∧ Fx.Blk w_ g3 108 (Fx.rv .i64 (pairR x)) 48 ∧ Below w.heap.size w w_) (fun f _ => (2 - (intOf (f 10)).toNat)) ⟨0, by omega, (by rfl), (by first | rfl | exact congrArg (Value.int .i64) (by omega)), (by rfl), (by rfl), (by first | rfl | exact congrArg (Value.int .i64) (by omega)), m8, m9, b4⟩ ?_
    rintro f1 w5 ⟨k, hk, h1, h2, h3, h4, h5, m10, m11, b5⟩
    have HS := selR_in64 hx k
    refine Fx.W.seq ?_
    refine Fx.W.seq ?_
    refine Fx.W.list ?_
    refine Fx.L.val (v := .int .i64 ((k : Int))) (by rfl) (Fx.x_move rfl h5) rfl ?_
    refine Fx.L.val (v := .slice (some ⟨g3, 0, none⟩) (2) (2)) (by rfl) (Fx.x_move rfl h4) rfl ?_
    refine Fx.L.val (v := .int .i64 (2)) (by rfl) (Fx.x_len rfl rfl rfl (by rfl)) rfl ?_
    by_cases c31 : (k : Int) < 2
    · refine Fx.L.val (v := .bool true) (by rfl) (Fx.x_lssT rfl rfl rfl c31) rfl ?_
      refine Fx.L.nil ?_
      refine Fx.seqN ?_
      refine Fx.W.cond (b := true) rfl (fun _ => ?_) (fun h => nomatch h)
      refine Fx.W.skip ?_
      refine Fx.seqN ?_
      refine Fx.W.seq ?_
      refine Fx.W.block ?_
      refine Fx.W.seq ?_
      refine Fx.W.list ?_
      refine Fx.L.val (v := .slice (some ⟨g3, 0, none⟩) (2) (2)) (by rfl) (Fx.x_move rfl h4) rfl ?_
      refine Fx.L.val (v := .int .i64 ((k : Int))) (by rfl) (Fx.x_move rfl h5) rfl ?_
      refine Fx.L.val (v := .pointer (some ⟨g3, 54 * k, none⟩)) (by rfl) (Fx.x_indexS rfl rfl rfl Try.underlying100 (s := 54) (by kernel_rfl) (by omega) (by omega) (by omega)) rfl ?_
      refine Fx.L.val (v := .agg (Fx.varr 54 (Fx.rv .i64 (selR x k)))) (by rfl) (Fx.x_loadA (x := Fx.rv .i64 (pairR x)) (y := Fx.rv .i64 (selR x k)) rfl rfl (by kernel_rfl) (by kernel_rfl) m11.cel (i := 54 * k) (by omega) (by omega) (fun q hq => congrArg (Value.int .i64) (pairR_at (by omega) hq))) rfl ?_
      refine Fx.L.new (m := 54) (y := Fx.rv .i64 (fun _ => 0)) (by rfl) rfl (by kernel_rfl) rfl fun g4 w6 eg4 m12 s5 z4 => ?_
      have m13 : Fx.Blk w6 g2 54 (Fx.rv .i64 y) 48 := m10.stp s5 (Nat.ne_of_lt (m10.lt))
      have m14 : Fx.Blk w6 g3 108 (Fx.rv .i64 (pairR x)) 48 := m11.stp s5 (Nat.ne_of_lt (m11.lt))
      have b6 : Below w.heap.size w w6 := s5.below b5 b5.size b5.size
      have lg4 : w.heap.size ≤ g4 := by rw [eg4]; exact b5.size
      have ng4m13 : g2 ≠ g4 := by rw [eg4]; exact Nat.ne_of_lt (m10.lt)
      have ng4m14 : g3 ≠ g4 := by rw [eg4]; exact Nat.ne_of_lt (m11.lt)
      have tg4 : g4 < w6.heap.size := m12.lt
      clear eg4
      refine Fx.L.storeA (x := Fx.rv .i64 (fun _ => 0)) (y := Fx.rv .i64 (selR x k)) (by rfl) rfl rfl rfl rfl (fun _ _ => rfl) (by kernel_rfl) m12 (i := 0) (by omega) fun w7 m15 s6 z5 => ?_
      have m16 : Fx.Blk w7 g4 54 (Fx.rv .i64 (selR x k)) 48 := Fx.ovr_all m15
      have m17 : Fx.Blk w7 g2 54 (Fx.rv .i64 y) 48 := m13.stp s6 (by omega)
      have m18 : Fx.Blk w7 g3 108 (Fx.rv .i64 (pairR x)) 48 := m14.stp s6 (by omega)
      have b7 : Below w.heap.size w w7 := s6.below b6 b6.size (by omega)
      refine Fx.L.nil ?_
      refine Fx.seqN ?_
      refine Fx.W.seq ?_
      refine Fx.W.seq ?_
      -- region 8 draws
      refine Fx.W.quiet (fun v1 => Below w7.heap.size w7 v1) (by kernel_rfl) (by kernel_rfl) (Below.refl _ _).drew ?_
      refine Fx.Qt.val (v := .agg (Fx.varr 54 (Fx.rv .i64 (selR x k)))) (by rfl) (fun v1 hv1 => Fx.x_loadA (x := Fx.rv .i64 (selR x k)) (y := Fx.rv .i64 (selR x k)) rfl rfl (by kernel_rfl) (by kernel_rfl) (m16.cel.below hv1 (by have := m16.lt; omega)) (i := 0) (by omega) (by omega) (fun j _ => by rw [Nat.zero_add])) rfl ?_
      by_cases c39 : (may (selR x k)) = true
      · refine Fx.Qt.call (v := .bool true) (by rfl) (fun v1 hv1 => Fx.r_call (args := [.agg (Fx.varr 54 (Fx.rv .i64 (selR x k)))]) rfl rfl Try.func39 rfl rfl) rfl (fun v1 hv1 => (may_any (selR x k) _).mono fun e v2 h => ⟨by rw [h.1, c39], bch hv1 h.2⟩) ?_
        refine Fx.Qt.val (v := .agg (Fx.varr 54 (Fx.rv .i64 (selR x k)))) (by rfl) (fun v1 hv1 => Fx.x_loadA (x := Fx.rv .i64 (selR x k)) (y := Fx.rv .i64 (selR x k)) rfl rfl (by kernel_rfl) (by kernel_rfl) (m16.cel.below hv1 (by have := m16.lt; omega)) (i := 0) (by omega) (by omega) (fun j _ => by rw [Nat.zero_add])) rfl ?_
        refine Fx.Qt.call (v := .bool true) (by rfl) (fun v1 hv1 => Fx.r_call (args := [.agg (Fx.varr 54 (Fx.rv .i64 (selR x k)))]) rfl rfl Try.func46 rfl rfl) rfl (fun v1 hv1 => (f7_may (selR x k) _).mono fun e v2 h => ⟨by rw [h.1, c39], bch hv1 h.2⟩) ?_
        refine Fx.Qt.val (v := .bool false) (by rfl) (fun v1 hv1 => Fx.x_neqB rfl rfl rfl (by kernel_rfl) rfl) rfl ?_
        refine Fx.Qt.val (v := .bool false) (by rfl) (fun v1 hv1 => Fx.x_move rfl rfl) rfl ?_
        refine Fx.Qt.val (v := .agg (Fx.varr 54 (Fx.rv .i64 (selR x k)))) (by rfl) (fun v1 hv1 => Fx.x_loadA (x := Fx.rv .i64 (selR x k)) (y := Fx.rv .i64 (selR x k)) rfl rfl (by kernel_rfl) (by kernel_rfl) (m16.cel.below hv1 (by have := m16.lt; omega)) (i := 0) (by omega) (by omega) (fun j _ => by rw [Nat.zero_add])) rfl ?_
        refine Fx.Qt.val (v := .agg (Fx.varr 54 (Fx.rv .i64 y))) (by rfl) (fun v1 hv1 => Fx.x_loadA (x := Fx.rv .i64 y) (y := Fx.rv .i64 y) rfl h3 (by kernel_rfl) (by kernel_rfl) (m17.cel.below hv1 (by have := m17.lt; omega)) (i := 0) (by omega) (by omega) (fun j _ => by rw [Nat.zero_add])) rfl ?_
        refine Fx.Qt.call (v := .agg (Fx.varr 54 (Fx.rv .i64 (joinM (selR x k) y)))) (by rfl) (fun v1 hv1 => Fx.r_call (args := [.agg (Fx.varr 54 (Fx.rv .i64 (selR x k))), .agg (Fx.varr 54 (Fx.rv .i64 y))]) rfl rfl Try.func47 rfl rfl) rfl (fun v1 hv1 => (join_any (selR x k) y _).mono fun e v2 h => ⟨h.1, bch hv1 h.2⟩) ?_
        refine Fx.Qt.val (v := .agg (Fx.varr 54 (Fx.rv .i64 (selR x k)))) (by rfl) (fun v1 hv1 => Fx.x_loadA (x := Fx.rv .i64 (selR x k)) (y := Fx.rv .i64 (selR x k)) rfl rfl (by kernel_rfl) (by kernel_rfl) (m16.cel.below hv1 (by have := m16.lt; omega)) (i := 0) (by omega) (by omega) (fun j _ => by rw [Nat.zero_add])) rfl ?_
        refine Fx.Qt.val (v := .agg (Fx.varr 54 (Fx.rv .i64 y))) (by rfl) (fun v1 hv1 => Fx.x_loadA (x := Fx.rv .i64 y) (y := Fx.rv .i64 y) rfl h3 (by kernel_rfl) (by kernel_rfl) (m17.cel.below hv1 (by have := m17.lt; omega)) (i := 0) (by omega) (by omega) (fun j _ => by rw [Nat.zero_add])) rfl ?_
        refine Fx.Qt.call (v := .agg (Fx.varr 54 (Fx.rv .i64 (joinM (selR x k) y)))) (by rfl) (fun v1 hv1 => Fx.r_call (args := [.agg (Fx.varr 54 (Fx.rv .i64 (selR x k))), .agg (Fx.varr 54 (Fx.rv .i64 y))]) rfl rfl Try.func48 rfl rfl) rfl (fun v1 hv1 => (f7_join (selR x k) y _).mono fun e v2 h => ⟨h.1, bch hv1 h.2⟩) ?_
        refine Fx.Qt.val (v := .bool false) (by rfl) (fun v1 hv1 => Fx.x_neqA (n := 54) (ks := List.replicate 54 (some .i64)) (X := Fx.rv .i64 (joinM (selR x k) y)) (Y := Fx.rv .i64 (joinM (selR x k) y)) 12 true rfl rfl rfl (Fx.yesb (fun _ _ => rfl)) (kdR (join_in64 HS hy)) (kdR (join_in64 HS hy)) rfl (by kernel_rfl) (by kernel_rfl) (by kernel_rfl) (by kernel_rfl) (by kernel_rfl)) rfl ?_
        refine Fx.Qt.val (v := .bool false) (by rfl) (fun v1 hv1 => Fx.x_pickF rfl rfl rfl) rfl ?_
        refine Fx.Qt.nil ?_
        intro wb1 hbwb1
        have s7 : Fx.Stp w7.heap.size w7 wb1 := Fx.Stp.of_below hbwb1
        have m19 : Fx.Blk wb1 g2 54 (Fx.rv .i64 y) 48 := m17.stp s7 (by have := m17.lt; omega)
        have m20 : Fx.Blk wb1 g3 108 (Fx.rv .i64 (pairR x)) 48 := m18.stp s7 (by have := m18.lt; omega)
        have m21 : Fx.Blk wb1 g4 54 (Fx.rv .i64 (selR x k)) 48 := m16.stp s7 (by have := m16.lt; omega)
        have b8 : Below w.heap.size w wb1 := s7.below b7 b7.size b7.size
        refine Fx.seqN ?_
        refine Fx.W.cond (b := false) rfl (fun h => nomatch h) (fun _ => ?_)
        refine Fx.W.skip ?_
        refine Fx.seqN ?_
        refine Fx.W.seq ?_
        refine Fx.W.seq ?_
        refine Fx.W.list ?_
        refine Fx.L.val (v := .int .i64 (0)) (by rfl) (Fx.x_assign rfl rfl) rfl ?_
        refine Fx.L.nil ?_
        refine Fx.seqN ?_
        refine Fx.W.block ?_
        refine Fx.W.loop (fun f w_ => ∃ j : Nat, ∃ a : Nat → Int, j ≤ len ∧ In64 a ∧ f 2 = .slice a0 (len) (cap) ∧ f 3 = .int .i64 (i) ∧ f 5 = .pointer (some ⟨g2, 0, none⟩) ∧ f 9 = .slice (some ⟨g3, 0, none⟩) (2) (2) ∧ f 10 = .int .i64 ((k : Int)) ∧ f 11 = .pointer (some ⟨g4, 0, none⟩) ∧ f 12 = .int .i64 ((j : Int)) ∧ Fx.Blk w_ g2 54 (Fx.rv .i64 y) 48 ∧ Fx.Blk w_ g3 108 (Fx.rv .i64 (pairR x)) 48 ∧ Fx.Blk w_ g4 54 (Fx.rv .i64 a) 48 ∧ Below w.heap.size w w_) (fun f _ => (len - (intOf (f 12)).toNat)) ⟨0, selR x k, by omega, HS, h1, (h2.trans (by first | rfl | exact congrArg (Value.int .i64) (by omega))), h3, h4, (h5.trans (by first | rfl | exact congrArg (Value.int .i64) (by omega))), (by rfl), (by first | rfl | exact congrArg (Value.int .i64) (by omega)), m19, m20, m21, b8⟩ ?_
        rintro f2 w8 ⟨j, a, hj, Ha, h6, h7, h8, h9, h10, h11, h12, m22, m23, m24, b9⟩
        refine Fx.W.seq ?_
        refine Fx.W.seq ?_
        refine Fx.W.list ?_
        refine Fx.L.val (v := .int .i64 ((j : Int))) (by rfl) (Fx.x_move rfl h12) rfl ?_
        refine Fx.L.val (v := .slice a0 (len) (cap)) (by rfl) (Fx.x_move rfl h6) rfl ?_
        refine Fx.L.val (v := .int .i64 ((len : Int))) (by rfl) (Fx.x_len rfl rfl rfl (by rfl)) rfl ?_
        by_cases c55 : (j : Int) < (len : Int)
        · refine Fx.L.val (v := .bool true) (by rfl) (Fx.x_lssT rfl rfl rfl c55) rfl ?_
          refine Fx.L.nil ?_
          refine Fx.seqN ?_
          refine Fx.W.cond (b := true) rfl (fun _ => ?_) (fun h => nomatch h)
          refine Fx.W.skip ?_
          refine Fx.seqN ?_
          refine Fx.W.seq ?_
          refine Fx.W.block ?_
          refine Fx.W.seq ?_
          obtain ⟨⟨b, off, ea, hc⟩, bD, bI, bJ⟩ := stp_sub hst (j := j) (by omega)
          have lb : b < w.heap.size := hc.lt (by omega)
          have m25 := hc.below b9 (hc.lt (by omega))
          -- region 13 draws
          refine Fx.W.one (T := 48) (T' := 48) (a := .tmp 13) (v := .tmp 65) (m := 54) (z := Fx.rv .i64 (fun _ => 0)) (y := Fx.rv .i64 ((doesM a (D j) (I j) (J j) (N j)).1)) (u := .agg (Fx.varr 54 (Fx.rv .i64 ((doesM a (D j) (I j) (J j) (N j)).1)))) 9 10 (List.replicate 12 (0, 2)) #[.slice a0 (len) (cap), .int .i64 ((j : Int)), .pointer (some ⟨b, 4 * j + off, none⟩), .agg (Fx.varr 4 (stepY (D j) (I j) (J j) (N j))), .agg (Fx.varr 54 (Fx.rv .i64 a)), .tuple #[.agg (Fx.varr 54 (Fx.rv .i64 ((doesM a (D j) (I j) (J j) (N j)).1))), .int .i64 ((doesM a (D j) (I j) (J j) (N j)).2)], .tuple #[.agg (Fx.varr 54 (Fx.rv .i64 ((doesM a (D j) (I j) (J j) (N j)).1))), .int .i64 ((doesM a (D j) (I j) (J j) (N j)).2)], .agg (Fx.varr 54 (Fx.rv .i64 ((doesM a (D j) (I j) (J j) (N j)).1))), .int .i64 ((doesM a (D j) (I j) (J j) (N j)).2), undef, undef, .int .i64 ((doesM a (D j) (I j) (J j) (N j)).2)] (by kernel_rfl) (by kernel_rfl) (by kernel_rfl) (by kernel_rfl) (by kernel_rfl) (by kernel_rfl) rfl (by kernel_rfl) rfl rfl (by kernel_rfl) (fun g5 => (show Fx.ev _ (.tmp 13) = .pointer (some ⟨g5, 0, none⟩) from by kernel_rfl)) (fun g5 => (show Fx.ev _ (.tmp 65) = .agg (Fx.varr 54 (Fx.rv .i64 ((doesM a (D j) (I j) (J j) (N j)).1))) from by kernel_rfl)) (Fx.cells_agg _ _) (fun _ _ => rfl) (by kernel_rfl) (fun g5 => ?_) ?_
          · refine ⟨?_, ?_, ?_, ?_, ?_, ?_, ?_, ?_, ?_, ?_, ?_, ?_, trivial⟩
            · exact .inr (.inr (Fx.qb_yes (v := .slice a0 (len) (cap)) (by kernel_rfl) (by kernel_rfl) (Fx.qbV fun v1 hv1 => Fx.x_move rfl ((Fx.fOne_out (by kernel_rfl)).trans h6))))
            · exact .inr (.inr (Fx.qb_yes (v := .int .i64 ((j : Int))) (by kernel_rfl) (by kernel_rfl) (Fx.qbV fun v1 hv1 => Fx.x_move rfl ((Fx.fOne_out (by kernel_rfl)).trans h12))))
            · exact .inr (.inr (Fx.qb_yes (v := .pointer (some ⟨b, 4 * j + off, none⟩)) (by kernel_rfl) (by kernel_rfl) (Fx.qbV fun v1 hv1 => Fx.x_indexS rfl ((show Fx.ev _ (.tmp 59) = .slice a0 (len) (cap) from by kernel_rfl).trans (congrArg (fun q => Value.slice q (len) (cap)) ea)) (show Fx.ev _ (.tmp 60) = .int .i64 ((j : Int)) from by kernel_rfl) Try.underlying99 (s := 4) (by kernel_rfl) (by omega) (by omega) (by omega))))
            · exact .inr (.inr (Fx.qb_yes (v := .agg (Fx.varr 4 (stepY (D j) (I j) (J j) (N j)))) (by kernel_rfl) (by kernel_rfl) (Fx.qbV fun v1 hv1 => Fx.x_loadA (x := stepY (D j) (I j) (J j) (N j)) (y := stepY (D j) (I j) (J j) (N j)) rfl (show Fx.ev _ (.tmp 61) = .pointer (some ⟨b, 4 * j + off, none⟩) from by kernel_rfl) (by kernel_rfl) (by kernel_rfl) (m25.below hv1 (m25.lt (by omega))) (i := 0) (by omega) (by omega) (fun j _ => by rw [Nat.zero_add]))))
            · exact .inr (.inr (Fx.qb_yes (v := .agg (Fx.varr 54 (Fx.rv .i64 a))) (by kernel_rfl) (by kernel_rfl) (Fx.qbV fun v1 hv1 => Fx.x_loadA (x := Fx.rv .i64 a) (y := Fx.rv .i64 a) rfl ((Fx.fOne_out (by kernel_rfl)).trans h11) (by kernel_rfl) (by kernel_rfl) (m24.cel.below hv1 (by have := m24.lt; omega)) (i := 0) (by omega) (by omega) (fun j _ => by rw [Nat.zero_add]))))
            · exact .inr (.inr (Fx.qb_yes (v := .tuple #[.agg (Fx.varr 54 (Fx.rv .i64 ((doesM a (D j) (I j) (J j) (N j)).1))), .int .i64 ((doesM a (D j) (I j) (J j) (N j)).2)]) (by kernel_rfl) (by kernel_rfl) (Fx.qbC (fun v1 hv1 => Fx.r_call (args := [.agg (Fx.varr 4 (stepY (D j) (I j) (J j) (N j))), .agg (Fx.varr 54 (Fx.rv .i64 a))]) rfl (Fx.args2 (show Fx.ev _ (.tmp 62) = .agg (Fx.varr 4 (stepY (D j) (I j) (J j) (N j))) from by kernel_rfl) (show Fx.ev _ (.tmp 63) = .agg (Fx.varr 54 (Fx.rv .i64 a)) from by kernel_rfl)) Try.func49 rfl rfl) (fun v1 hv1 => (does_fx a (D j) (I j) (J j) (N j) _ bD bI bJ).mono fun e v2 h => ⟨h.1, h.2⟩))))
            · exact .inr (.inr (Fx.qb_yes (v := .tuple #[.agg (Fx.varr 54 (Fx.rv .i64 ((doesM a (D j) (I j) (J j) (N j)).1))), .int .i64 ((doesM a (D j) (I j) (J j) (N j)).2)]) (by kernel_rfl) (by kernel_rfl) (Fx.qbV fun v1 hv1 => Fx.x_move rfl (show Fx.ev _ (.tmp 64) = .tuple #[.agg (Fx.varr 54 (Fx.rv .i64 ((doesM a (D j) (I j) (J j) (N j)).1))), .int .i64 ((doesM a (D j) (I j) (J j) (N j)).2)] from by kernel_rfl))))
            · exact .inr (.inr (Fx.qb_yes (v := .agg (Fx.varr 54 (Fx.rv .i64 ((doesM a (D j) (I j) (J j) (N j)).1)))) (by kernel_rfl) (by kernel_rfl) (Fx.qbV fun v1 hv1 => Fx.x_extract rfl (show Fx.ev _ (.tmp 58) = .tuple #[.agg (Fx.varr 54 (Fx.rv .i64 ((doesM a (D j) (I j) (J j) (N j)).1))), .int .i64 ((doesM a (D j) (I j) (J j) (N j)).2)] from by kernel_rfl) rfl)))
            · exact .inr (.inr (Fx.qb_yes (v := .int .i64 ((doesM a (D j) (I j) (J j) (N j)).2)) (by kernel_rfl) (by kernel_rfl) (Fx.qbV fun v1 hv1 => Fx.x_extract rfl (show Fx.ev _ (.tmp 58) = .tuple #[.agg (Fx.varr 54 (Fx.rv .i64 ((doesM a (D j) (I j) (J j) (N j)).1))), .int .i64 ((doesM a (D j) (I j) (J j) (N j)).2)] from by kernel_rfl) rfl)))
            · exact .inl rfl
            · exact .inr (.inl rfl)
            · exact .inr (.inr (Fx.qb_yes (v := .int .i64 ((doesM a (D j) (I j) (J j) (N j)).2)) (by kernel_rfl) (by kernel_rfl) (Fx.qbV fun v1 hv1 => Fx.x_assign rfl (show Fx.ev _ (.tmp 66) = .int .i64 ((doesM a (D j) (I j) (J j) (N j)).2) from by kernel_rfl))))
          · rintro g5 w9 f3 hf1 lg5 m26 hb2
            have s8 := Fx.Stp.of_below hb2
            have ng5m22 : g2 ≠ g5 := Nat.ne_of_lt (Nat.lt_of_lt_of_le (m22.lt) lg5)
            have ng5m23 : g3 ≠ g5 := Nat.ne_of_lt (Nat.lt_of_lt_of_le (m23.lt) lg5)
            have ng5m24 : g4 ≠ g5 := Nat.ne_of_lt (Nat.lt_of_lt_of_le (m24.lt) lg5)
            have ng5m25 : b ≠ g5 := Nat.ne_of_lt (Nat.lt_of_lt_of_le (m25.lt (by omega)) lg5)
            have m27 : Fx.Blk w9 g2 54 (Fx.rv .i64 y) 48 := m22.stp s8 (Nat.ne_of_lt (m22.lt))
            have m28 : Fx.Blk w9 g3 108 (Fx.rv .i64 (pairR x)) 48 := m23.stp s8 (Nat.ne_of_lt (m23.lt))
            have m29 : Fx.Blk w9 g4 54 (Fx.rv .i64 a) 48 := m24.stp s8 (Nat.ne_of_lt (m24.lt))
            have m30 : Fx.Cel w9 b (off + 4 * j) 4 (stepY (D j) (I j) (J j) (N j)) := m25.stp s8 (Nat.ne_of_lt (m25.lt (by omega)))
            have b10 : Below w.heap.size w w9 := s8.below b9 b9.size b9.size
            have lg5 : w.heap.size ≤ g5 := Nat.le_trans b9.size lg5
            have tg5 : g5 < w9.heap.size := m26.lt
            have q1 : f3 2 = .slice a0 (len) (cap) := by rw [hf1]; exact (Fx.fOne_out (by kernel_rfl)).trans h6
            have q2 : f3 3 = .int .i64 (i) := by rw [hf1]; exact (Fx.fOne_out (by kernel_rfl)).trans h7
            have q3 : f3 5 = .pointer (some ⟨g2, 0, none⟩) := by rw [hf1]; exact (Fx.fOne_out (by kernel_rfl)).trans h8
            have q4 : f3 9 = .slice (some ⟨g3, 0, none⟩) (2) (2) := by rw [hf1]; exact (Fx.fOne_out (by kernel_rfl)).trans h9
            have q5 : f3 10 = .int .i64 ((k : Int)) := by rw [hf1]; exact (Fx.fOne_out (by kernel_rfl)).trans h10
            have q6 : f3 11 = .pointer (some ⟨g4, 0, none⟩) := by rw [hf1]; exact (Fx.fOne_out (by kernel_rfl)).trans h11
            have q7 : f3 12 = .int .i64 ((j : Int)) := by rw [hf1]; exact (Fx.fOne_out (by kernel_rfl)).trans h12
            have q8 : f3 52 = .int .i64 ((j : Int)) := by rw [hf1]; kernel_rfl
            have q9 : f3 53 = .slice a0 (len) (cap) := by rw [hf1]; kernel_rfl
            have q10 : f3 54 = .int .i64 ((len : Int)) := by rw [hf1]; kernel_rfl
            have q11 : f3 55 = .bool true := by rw [hf1]; kernel_rfl
            have q12 : f3 59 = .slice a0 (len) (cap) := by rw [hf1]; kernel_rfl
            have q13 : f3 60 = .int .i64 ((j : Int)) := by rw [hf1]; kernel_rfl
            have q14 : f3 61 = .pointer (some ⟨b, 4 * j + off, none⟩) := by rw [hf1]; kernel_rfl
            have q15 : f3 62 = .agg (Fx.varr 4 (stepY (D j) (I j) (J j) (N j))) := by rw [hf1]; kernel_rfl
            have q16 : f3 63 = .agg (Fx.varr 54 (Fx.rv .i64 a)) := by rw [hf1]; kernel_rfl
            have q17 : f3 64 = .tuple #[.agg (Fx.varr 54 (Fx.rv .i64 ((doesM a (D j) (I j) (J j) (N j)).1))), .int .i64 ((doesM a (D j) (I j) (J j) (N j)).2)] := by rw [hf1]; kernel_rfl
            have q18 : f3 58 = .tuple #[.agg (Fx.varr 54 (Fx.rv .i64 ((doesM a (D j) (I j) (J j) (N j)).1))), .int .i64 ((doesM a (D j) (I j) (J j) (N j)).2)] := by rw [hf1]; kernel_rfl
            have q19 : f3 65 = .agg (Fx.varr 54 (Fx.rv .i64 ((doesM a (D j) (I j) (J j) (N j)).1))) := by rw [hf1]; kernel_rfl
            have q20 : f3 66 = .int .i64 ((doesM a (D j) (I j) (J j) (N j)).2) := by rw [hf1]; kernel_rfl
            have q21 : f3 13 = .pointer (some ⟨g5, 0, none⟩) := by rw [hf1]; kernel_rfl
            have q22 : f3 14 = .int .i64 ((doesM a (D j) (I j) (J j) (N j)).2) := by rw [hf1]; kernel_rfl
            clear hf1
            refine Fx.seqN ?_
            refine Fx.W.seq ?_
            -- region 14 draws
            refine Fx.W.one (T := 48) (T' := 48) (a := .tmp 15) (v := .tmp 74) (m := 54) (z := Fx.rv .i64 (fun _ => 0)) (y := Fx.rv .i64 ((doesM a (D j) (I j) (J j) (N j)).1)) (u := .agg (Fx.varr 54 (Fx.rv .i64 ((doesM a (D j) (I j) (J j) (N j)).1)))) 9 10 (List.replicate 12 (0, 2)) #[.slice a0 (len) (cap), .int .i64 ((j : Int)), .pointer (some ⟨b, 4 * j + off, none⟩), .agg (Fx.varr 4 (stepY (D j) (I j) (J j) (N j))), .agg (Fx.varr 54 (Fx.rv .i64 a)), .tuple #[.agg (Fx.varr 54 (Fx.rv .i64 ((doesM a (D j) (I j) (J j) (N j)).1))), .int .i64 ((doesM a (D j) (I j) (J j) (N j)).2)], .tuple #[.agg (Fx.varr 54 (Fx.rv .i64 ((doesM a (D j) (I j) (J j) (N j)).1))), .int .i64 ((doesM a (D j) (I j) (J j) (N j)).2)], .agg (Fx.varr 54 (Fx.rv .i64 ((doesM a (D j) (I j) (J j) (N j)).1))), .int .i64 ((doesM a (D j) (I j) (J j) (N j)).2), undef, undef, .int .i64 ((doesM a (D j) (I j) (J j) (N j)).2)] (by kernel_rfl) (by kernel_rfl) (by kernel_rfl) (by kernel_rfl) (by kernel_rfl) (by kernel_rfl) rfl (by kernel_rfl) rfl rfl (by kernel_rfl) (fun g6 => (show Fx.ev _ (.tmp 15) = .pointer (some ⟨g6, 0, none⟩) from by kernel_rfl)) (fun g6 => (show Fx.ev _ (.tmp 74) = .agg (Fx.varr 54 (Fx.rv .i64 ((doesM a (D j) (I j) (J j) (N j)).1))) from by kernel_rfl)) (Fx.cells_agg _ _) (fun _ _ => rfl) (by kernel_rfl) (fun g6 => ?_) ?_
            · refine ⟨?_, ?_, ?_, ?_, ?_, ?_, ?_, ?_, ?_, ?_, ?_, ?_, trivial⟩
              · exact .inr (.inr (Fx.qb_yes (v := .slice a0 (len) (cap)) (by kernel_rfl) (by kernel_rfl) (Fx.qbV fun v1 hv1 => Fx.x_move rfl ((Fx.fOne_out (by kernel_rfl)).trans q1))))
              · exact .inr (.inr (Fx.qb_yes (v := .int .i64 ((j : Int))) (by kernel_rfl) (by kernel_rfl) (Fx.qbV fun v1 hv1 => Fx.x_move rfl ((Fx.fOne_out (by kernel_rfl)).trans q7))))
              · exact .inr (.inr (Fx.qb_yes (v := .pointer (some ⟨b, 4 * j + off, none⟩)) (by kernel_rfl) (by kernel_rfl) (Fx.qbV fun v1 hv1 => Fx.x_indexS rfl ((show Fx.ev _ (.tmp 68) = .slice a0 (len) (cap) from by kernel_rfl).trans (congrArg (fun q => Value.slice q (len) (cap)) ea)) (show Fx.ev _ (.tmp 69) = .int .i64 ((j : Int)) from by kernel_rfl) Try.underlying99 (s := 4) (by kernel_rfl) (by omega) (by omega) (by omega))))
              · exact .inr (.inr (Fx.qb_yes (v := .agg (Fx.varr 4 (stepY (D j) (I j) (J j) (N j)))) (by kernel_rfl) (by kernel_rfl) (Fx.qbV fun v1 hv1 => Fx.x_loadA (x := stepY (D j) (I j) (J j) (N j)) (y := stepY (D j) (I j) (J j) (N j)) rfl (show Fx.ev _ (.tmp 70) = .pointer (some ⟨b, 4 * j + off, none⟩) from by kernel_rfl) (by kernel_rfl) (by kernel_rfl) (m30.below hv1 (m30.lt (by omega))) (i := 0) (by omega) (by omega) (fun j _ => by rw [Nat.zero_add]))))
              · exact .inr (.inr (Fx.qb_yes (v := .agg (Fx.varr 54 (Fx.rv .i64 a))) (by kernel_rfl) (by kernel_rfl) (Fx.qbV fun v1 hv1 => Fx.x_loadA (x := Fx.rv .i64 a) (y := Fx.rv .i64 a) rfl ((Fx.fOne_out (by kernel_rfl)).trans q6) (by kernel_rfl) (by kernel_rfl) (m29.cel.below hv1 (by have := m29.lt; omega)) (i := 0) (by omega) (by omega) (fun j _ => by rw [Nat.zero_add]))))
              · exact .inr (.inr (Fx.qb_yes (v := .tuple #[.agg (Fx.varr 54 (Fx.rv .i64 ((doesM a (D j) (I j) (J j) (N j)).1))), .int .i64 ((doesM a (D j) (I j) (J j) (N j)).2)]) (by kernel_rfl) (by kernel_rfl) (Fx.qbC (fun v1 hv1 => Fx.r_call (args := [.agg (Fx.varr 4 (stepY (D j) (I j) (J j) (N j))), .agg (Fx.varr 54 (Fx.rv .i64 a))]) rfl (Fx.args2 (show Fx.ev _ (.tmp 71) = .agg (Fx.varr 4 (stepY (D j) (I j) (J j) (N j))) from by kernel_rfl) (show Fx.ev _ (.tmp 72) = .agg (Fx.varr 54 (Fx.rv .i64 a)) from by kernel_rfl)) Try.func50 rfl rfl) (fun v1 hv1 => (f7_did a (D j) (I j) (J j) (N j) _ bD).mono fun e v2 h => ⟨h.1, h.2⟩))))
              · exact .inr (.inr (Fx.qb_yes (v := .tuple #[.agg (Fx.varr 54 (Fx.rv .i64 ((doesM a (D j) (I j) (J j) (N j)).1))), .int .i64 ((doesM a (D j) (I j) (J j) (N j)).2)]) (by kernel_rfl) (by kernel_rfl) (Fx.qbV fun v1 hv1 => Fx.x_move rfl (show Fx.ev _ (.tmp 73) = .tuple #[.agg (Fx.varr 54 (Fx.rv .i64 ((doesM a (D j) (I j) (J j) (N j)).1))), .int .i64 ((doesM a (D j) (I j) (J j) (N j)).2)] from by kernel_rfl))))
              · exact .inr (.inr (Fx.qb_yes (v := .agg (Fx.varr 54 (Fx.rv .i64 ((doesM a (D j) (I j) (J j) (N j)).1)))) (by kernel_rfl) (by kernel_rfl) (Fx.qbV fun v1 hv1 => Fx.x_extract rfl (show Fx.ev _ (.tmp 67) = .tuple #[.agg (Fx.varr 54 (Fx.rv .i64 ((doesM a (D j) (I j) (J j) (N j)).1))), .int .i64 ((doesM a (D j) (I j) (J j) (N j)).2)] from by kernel_rfl) rfl)))
              · exact .inr (.inr (Fx.qb_yes (v := .int .i64 ((doesM a (D j) (I j) (J j) (N j)).2)) (by kernel_rfl) (by kernel_rfl) (Fx.qbV fun v1 hv1 => Fx.x_extract rfl (show Fx.ev _ (.tmp 67) = .tuple #[.agg (Fx.varr 54 (Fx.rv .i64 ((doesM a (D j) (I j) (J j) (N j)).1))), .int .i64 ((doesM a (D j) (I j) (J j) (N j)).2)] from by kernel_rfl) rfl)))
              · exact .inl rfl
              · exact .inr (.inl rfl)
              · exact .inr (.inr (Fx.qb_yes (v := .int .i64 ((doesM a (D j) (I j) (J j) (N j)).2)) (by kernel_rfl) (by kernel_rfl) (Fx.qbV fun v1 hv1 => Fx.x_assign rfl (show Fx.ev _ (.tmp 75) = .int .i64 ((doesM a (D j) (I j) (J j) (N j)).2) from by kernel_rfl))))
            · rintro g6 w10 f4 hf2 lg6 m31 hb3
              have s9 := Fx.Stp.of_below hb3
              have ng6m27 : g2 ≠ g6 := Nat.ne_of_lt (Nat.lt_of_lt_of_le (m27.lt) lg6)
              have ng6m28 : g3 ≠ g6 := Nat.ne_of_lt (Nat.lt_of_lt_of_le (m28.lt) lg6)
              have ng6m29 : g4 ≠ g6 := Nat.ne_of_lt (Nat.lt_of_lt_of_le (m29.lt) lg6)
              have ng6m30 : b ≠ g6 := Nat.ne_of_lt (Nat.lt_of_lt_of_le (m30.lt (by omega)) lg6)
              have ng6m26 : g5 ≠ g6 := Nat.ne_of_lt (Nat.lt_of_lt_of_le (m26.lt) lg6)
              have m32 : Fx.Blk w10 g2 54 (Fx.rv .i64 y) 48 := m27.stp s9 (Nat.ne_of_lt (m27.lt))
              have m33 : Fx.Blk w10 g3 108 (Fx.rv .i64 (pairR x)) 48 := m28.stp s9 (Nat.ne_of_lt (m28.lt))
              have m34 : Fx.Blk w10 g4 54 (Fx.rv .i64 a) 48 := m29.stp s9 (Nat.ne_of_lt (m29.lt))
              have m35 : Fx.Cel w10 b (off + 4 * j) 4 (stepY (D j) (I j) (J j) (N j)) := m30.stp s9 (Nat.ne_of_lt (m30.lt (by omega)))
              have m36 : Fx.Blk w10 g5 54 (Fx.rv .i64 ((doesM a (D j) (I j) (J j) (N j)).1)) 48 := m26.stp s9 (Nat.ne_of_lt (m26.lt))
              have b11 : Below w.heap.size w w10 := s9.below b10 b10.size b10.size
              have lg6 : w.heap.size ≤ g6 := Nat.le_trans b10.size lg6
              have tg6 : g6 < w10.heap.size := m31.lt
              have q23 : f4 2 = .slice a0 (len) (cap) := by rw [hf2]; exact (Fx.fOne_out (by kernel_rfl)).trans q1
              have q24 : f4 3 = .int .i64 (i) := by rw [hf2]; exact (Fx.fOne_out (by kernel_rfl)).trans q2
              have q25 : f4 5 = .pointer (some ⟨g2, 0, none⟩) := by rw [hf2]; exact (Fx.fOne_out (by kernel_rfl)).trans q3
              have q26 : f4 9 = .slice (some ⟨g3, 0, none⟩) (2) (2) := by rw [hf2]; exact (Fx.fOne_out (by kernel_rfl)).trans q4
              have q27 : f4 10 = .int .i64 ((k : Int)) := by rw [hf2]; exact (Fx.fOne_out (by kernel_rfl)).trans q5
              have q28 : f4 11 = .pointer (some ⟨g4, 0, none⟩) := by rw [hf2]; exact (Fx.fOne_out (by kernel_rfl)).trans q6
              have q29 : f4 12 = .int .i64 ((j : Int)) := by rw [hf2]; exact (Fx.fOne_out (by kernel_rfl)).trans q7
              have q30 : f4 52 = .int .i64 ((j : Int)) := by rw [hf2]; exact (Fx.fOne_out (by kernel_rfl)).trans q8
              have q31 : f4 53 = .slice a0 (len) (cap) := by rw [hf2]; exact (Fx.fOne_out (by kernel_rfl)).trans q9
              have q32 : f4 54 = .int .i64 ((len : Int)) := by rw [hf2]; exact (Fx.fOne_out (by kernel_rfl)).trans q10
              have q33 : f4 55 = .bool true := by rw [hf2]; exact (Fx.fOne_out (by kernel_rfl)).trans q11
              have q34 : f4 59 = .slice a0 (len) (cap) := by rw [hf2]; exact (Fx.fOne_out (by kernel_rfl)).trans q12
              have q35 : f4 60 = .int .i64 ((j : Int)) := by rw [hf2]; exact (Fx.fOne_out (by kernel_rfl)).trans q13
              have q36 : f4 61 = .pointer (some ⟨b, 4 * j + off, none⟩) := by rw [hf2]; exact (Fx.fOne_out (by kernel_rfl)).trans q14
              have q37 : f4 62 = .agg (Fx.varr 4 (stepY (D j) (I j) (J j) (N j))) := by rw [hf2]; exact (Fx.fOne_out (by kernel_rfl)).trans q15
              have q38 : f4 63 = .agg (Fx.varr 54 (Fx.rv .i64 a)) := by rw [hf2]; exact (Fx.fOne_out (by kernel_rfl)).trans q16
              have q39 : f4 64 = .tuple #[.agg (Fx.varr 54 (Fx.rv .i64 ((doesM a (D j) (I j) (J j) (N j)).1))), .int .i64 ((doesM a (D j) (I j) (J j) (N j)).2)] := by rw [hf2]; exact (Fx.fOne_out (by kernel_rfl)).trans q17
              have q40 : f4 58 = .tuple #[.agg (Fx.varr 54 (Fx.rv .i64 ((doesM a (D j) (I j) (J j) (N j)).1))), .int .i64 ((doesM a (D j) (I j) (J j) (N j)).2)] := by rw [hf2]; exact (Fx.fOne_out (by kernel_rfl)).trans q18
              have q41 : f4 65 = .agg (Fx.varr 54 (Fx.rv .i64 ((doesM a (D j) (I j) (J j) (N j)).1))) := by rw [hf2]; exact (Fx.fOne_out (by kernel_rfl)).trans q19
              have q42 : f4 66 = .int .i64 ((doesM a (D j) (I j) (J j) (N j)).2) := by rw [hf2]; exact (Fx.fOne_out (by kernel_rfl)).trans q20
              have q43 : f4 13 = .pointer (some ⟨g5, 0, none⟩) := by rw [hf2]; exact (Fx.fOne_out (by kernel_rfl)).trans q21
              have q44 : f4 14 = .int .i64 ((doesM a (D j) (I j) (J j) (N j)).2) := by rw [hf2]; exact (Fx.fOne_out (by kernel_rfl)).trans q22
              have q45 : f4 68 = .slice a0 (len) (cap) := by rw [hf2]; kernel_rfl
              have q46 : f4 69 = .int .i64 ((j : Int)) := by rw [hf2]; kernel_rfl
              have q47 : f4 70 = .pointer (some ⟨b, 4 * j + off, none⟩) := by rw [hf2]; kernel_rfl
              have q48 : f4 71 = .agg (Fx.varr 4 (stepY (D j) (I j) (J j) (N j))) := by rw [hf2]; kernel_rfl
              have q49 : f4 72 = .agg (Fx.varr 54 (Fx.rv .i64 a)) := by rw [hf2]; kernel_rfl
              have q50 : f4 73 = .tuple #[.agg (Fx.varr 54 (Fx.rv .i64 ((doesM a (D j) (I j) (J j) (N j)).1))), .int .i64 ((doesM a (D j) (I j) (J j) (N j)).2)] := by rw [hf2]; kernel_rfl
              have q51 : f4 67 = .tuple #[.agg (Fx.varr 54 (Fx.rv .i64 ((doesM a (D j) (I j) (J j) (N j)).1))), .int .i64 ((doesM a (D j) (I j) (J j) (N j)).2)] := by rw [hf2]; kernel_rfl
              have q52 : f4 74 = .agg (Fx.varr 54 (Fx.rv .i64 ((doesM a (D j) (I j) (J j) (N j)).1))) := by rw [hf2]; kernel_rfl
              have q53 : f4 75 = .int .i64 ((doesM a (D j) (I j) (J j) (N j)).2) := by rw [hf2]; kernel_rfl
              have q54 : f4 15 = .pointer (some ⟨g6, 0, none⟩) := by rw [hf2]; kernel_rfl
              have q55 : f4 16 = .int .i64 ((doesM a (D j) (I j) (J j) (N j)).2) := by rw [hf2]; kernel_rfl
              clear hf2
              refine Fx.seqN ?_
              refine Fx.W.seq ?_
              refine Fx.W.seq ?_
              refine Fx.W.list ?_
              refine Fx.L.val (v := .int .i64 ((doesM a (D j) (I j) (J j) (N j)).2)) (by rfl) (Fx.x_move rfl q44) rfl ?_
              refine Fx.L.val (v := .int .i64 ((doesM a (D j) (I j) (J j) (N j)).2)) (by rfl) (Fx.x_move rfl q55) rfl ?_
              refine Fx.L.val (v := .bool false) (by rfl) (Fx.x_neqF rfl rfl rfl rfl) rfl ?_
              refine Fx.L.val (v := .bool false) (by rfl) (Fx.x_move rfl rfl) rfl ?_
              refine Fx.L.val (v := .agg (Fx.varr 54 (Fx.rv .i64 ((doesM a (D j) (I j) (J j) (N j)).1)))) (by rfl) (Fx.x_loadA (x := Fx.rv .i64 ((doesM a (D j) (I j) (J j) (N j)).1)) (y := Fx.rv .i64 ((doesM a (D j) (I j) (J j) (N j)).1)) rfl q43 (by kernel_rfl) (by kernel_rfl) m36.cel (i := 0) (by omega) (by omega) (fun j _ => by rw [Nat.zero_add])) rfl ?_
              refine Fx.L.val (v := .agg (Fx.varr 54 (Fx.rv .i64 ((doesM a (D j) (I j) (J j) (N j)).1)))) (by rfl) (Fx.x_loadA (x := Fx.rv .i64 ((doesM a (D j) (I j) (J j) (N j)).1)) (y := Fx.rv .i64 ((doesM a (D j) (I j) (J j) (N j)).1)) rfl q54 (by kernel_rfl) (by kernel_rfl) m31.cel (i := 0) (by omega) (by omega) (fun j _ => by rw [Nat.zero_add])) rfl ?_
              refine Fx.L.val (v := .bool false) (by rfl) (Fx.x_neqA (n := 54) (ks := List.replicate 54 (some .i64)) (X := Fx.rv .i64 ((doesM a (D j) (I j) (J j) (N j)).1)) (Y := Fx.rv .i64 ((doesM a (D j) (I j) (J j) (N j)).1)) 12 true rfl rfl rfl (Fx.yesb (fun _ _ => rfl)) (kdR (does_in64 _ _ _ _ _)) (kdR (does_in64 _ _ _ _ _)) rfl (by kernel_rfl) (by kernel_rfl) (by kernel_rfl) (by kernel_rfl) (by kernel_rfl)) rfl ?_
              refine Fx.L.val (v := .bool false) (by rfl) (Fx.x_pickF rfl rfl rfl) rfl ?_
              refine Fx.L.nil ?_
              refine Fx.seqN ?_
              refine Fx.W.cond (b := false) rfl (fun h => nomatch h) (fun _ => ?_)
              refine Fx.W.skip ?_
              refine Fx.seqN ?_
              refine Fx.W.seq ?_
              refine Fx.W.list ?_
              refine Fx.L.val (v := .int .i64 ((doesM a (D j) (I j) (J j) (N j)).2)) (by rfl) (Fx.x_move rfl q55) rfl ?_
              by_cases c85 : ((doesM a (D j) (I j) (J j) (N j)).2) = 0
              · refine Fx.L.val (v := .bool true) (by rfl) (Fx.x_eqlT rfl rfl rfl c85) rfl ?_
                refine Fx.L.nil ?_
                refine Fx.seqN ?_
                refine Fx.W.cond (b := true) rfl (fun _ => ?_) (fun h => nomatch h)
                refine Fx.W.list ?_
                refine Fx.L.val (v := .agg (Fx.varr 54 (Fx.rv .i64 ((doesM a (D j) (I j) (J j) (N j)).1)))) (by rfl) (Fx.x_loadA (x := Fx.rv .i64 ((doesM a (D j) (I j) (J j) (N j)).1)) (y := Fx.rv .i64 ((doesM a (D j) (I j) (J j) (N j)).1)) rfl q54 (by kernel_rfl) (by kernel_rfl) m31.cel (i := 0) (by omega) (by omega) (fun j _ => by rw [Nat.zero_add])) rfl ?_
                refine Fx.L.storeA (x := Fx.rv .i64 a) (y := Fx.rv .i64 ((doesM a (D j) (I j) (J j) (N j)).1)) (by rfl) rfl rfl q28 rfl (fun _ _ => rfl) (by kernel_rfl) m34 (i := 0) (by omega) fun w11 m37 s10 z6 => ?_
                have m38 : Fx.Blk w11 g4 54 (Fx.rv .i64 ((doesM a (D j) (I j) (J j) (N j)).1)) 48 := Fx.ovr_all m37
                have m39 : Fx.Blk w11 g2 54 (Fx.rv .i64 y) 48 := m32.stp s10 (by omega)
                have m40 : Fx.Blk w11 g3 108 (Fx.rv .i64 (pairR x)) 48 := m33.stp s10 (by omega)
                have m41 : Fx.Cel w11 b (off + 4 * j) 4 (stepY (D j) (I j) (J j) (N j)) := m35.stp s10 (by omega)
                have m42 : Fx.Blk w11 g5 54 (Fx.rv .i64 ((doesM a (D j) (I j) (J j) (N j)).1)) 48 := m36.stp s10 (by omega)
                have m43 : Fx.Blk w11 g6 54 (Fx.rv .i64 ((doesM a (D j) (I j) (J j) (N j)).1)) 48 := m31.stp s10 (by omega)
                have b12 : Below w.heap.size w w11 := s10.below b11 b11.size (by omega)
                refine Fx.L.nil ?_
                refine Fx.blkN ?_
                refine Fx.seqN ?_
                refine Fx.W.list ?_
                refine Fx.L.val (v := .int .i64 ((j : Int))) (by rfl) (Fx.x_move rfl q29) rfl ?_
                refine Fx.L.val (v := .int .i64 ((j : Int) + 1)) (by rfl) (Fx.x_add rfl rfl rfl (Fx.i64e (by omega) (by omega))) rfl ?_
                refine Fx.L.val (v := .int .i64 ((j : Int) + 1)) (by rfl) (Fx.x_assign rfl rfl) rfl ?_
                refine Fx.L.nil ?_
                refine Fx.lpN ⟨j + 1, (doesM a (D j) (I j) (J j) (N j)).1, by omega, (does_in64 _ _ _ _ _), q23, (q24.trans (by first | rfl | exact congrArg (Value.int .i64) (by omega))), q25, q26, (q27.trans (by first | rfl | exact congrArg (Value.int .i64) (by omega))), q28, (by first | rfl | exact congrArg (Value.int .i64) (by omega)), m39, m40, m38, b12⟩ ?_
                show (len - (intOf ((.int .i64 ((j : Int) + 1)))).toNat) < _
                simp only [h12, intOf]; omega
              · refine Fx.L.val (v := .bool false) (by rfl) (Fx.x_eqlF rfl rfl rfl c85) rfl ?_
                refine Fx.L.nil ?_
                refine Fx.seqN ?_
                refine Fx.W.cond (b := false) rfl (fun h => nomatch h) (fun _ => ?_)
                refine Fx.W.skip ?_
                refine Fx.blkN ?_
                refine Fx.seqN ?_
                refine Fx.W.list ?_
                refine Fx.L.val (v := .int .i64 ((j : Int))) (by rfl) (Fx.x_move rfl q29) rfl ?_
                refine Fx.L.val (v := .int .i64 ((j : Int) + 1)) (by rfl) (Fx.x_add rfl rfl rfl (Fx.i64e (by omega) (by omega))) rfl ?_
                refine Fx.L.val (v := .int .i64 ((j : Int) + 1)) (by rfl) (Fx.x_assign rfl rfl) rfl ?_
                refine Fx.L.nil ?_
                refine Fx.lpN ⟨j + 1, a, by omega, Ha, q23, (q24.trans (by first | rfl | exact congrArg (Value.int .i64) (by omega))), q25, q26, (q27.trans (by first | rfl | exact congrArg (Value.int .i64) (by omega))), q28, (by first | rfl | exact congrArg (Value.int .i64) (by omega)), m32, m33, m34, b11⟩ ?_
                show (len - (intOf ((.int .i64 ((j : Int) + 1)))).toNat) < _
                simp only [h12, intOf]; omega
        · refine Fx.L.val (v := .bool false) (by rfl) (Fx.x_lssF rfl rfl rfl c55) rfl ?_
          refine Fx.L.nil ?_
          refine Fx.seqN ?_
          refine Fx.W.cond (b := false) rfl (fun h => nomatch h) (fun _ => ?_)
          refine Fx.W.exit ?_
          refine Fx.seqX ?_
          refine Fx.lpX ?_
          refine Fx.blkX ?_
          refine Fx.seqN ?_
          refine Fx.W.seq ?_
          refine Fx.W.list ?_
          refine Fx.L.val (v := .agg (Fx.varr 54 (Fx.rv .i64 a))) (by rfl) (Fx.x_loadA (x := Fx.rv .i64 a) (y := Fx.rv .i64 a) rfl h11 (by kernel_rfl) (by kernel_rfl) m24.cel (i := 0) (by omega) (by omega) (fun j _ => by rw [Nat.zero_add])) rfl ?_
          refine Fx.L.call (by rfl) (Fx.r_call (args := [.agg (Fx.varr 54 (Fx.rv .i64 a))]) rfl rfl Try.func41 rfl rfl) rfl ((sums_any a _).mono ?_)
          rintro e w12 ⟨he, hb4⟩
          refine ⟨.tuple #[.int .i64 ((sums a).1), .int .i64 ((sums a).2)], by rw [he], ?_⟩
          clear he
          have s11 := Fx.Stp.of_below hb4
          have m44 : Fx.Blk w12 g2 54 (Fx.rv .i64 y) 48 := m22.stp s11 (Nat.ne_of_lt (m22.lt))
          have m45 : Fx.Blk w12 g3 108 (Fx.rv .i64 (pairR x)) 48 := m23.stp s11 (Nat.ne_of_lt (m23.lt))
          have m46 : Fx.Blk w12 g4 54 (Fx.rv .i64 a) 48 := m24.stp s11 (Nat.ne_of_lt (m24.lt))
          have b13 : Below w.heap.size w w12 := s11.below b9 b9.size b9.size
          refine Fx.L.val (v := .tuple #[.int .i64 ((sums a).1), .int .i64 ((sums a).2)]) (by rfl) (Fx.x_move rfl rfl) rfl ?_
          refine Fx.L.val (v := .int .i64 ((sums a).1)) (by rfl) (Fx.x_extract rfl rfl rfl) rfl ?_
          refine Fx.L.val (v := .int .i64 ((sums a).2)) (by rfl) (Fx.x_extract rfl rfl rfl) rfl ?_
          refine Fx.L.val (v := .int .i64 ((sums a).1)) (by rfl) (Fx.x_assign rfl rfl) rfl ?_
          refine Fx.L.val (v := .int .i64 ((sums a).2)) (by rfl) (Fx.x_assign rfl rfl) rfl ?_
          refine Fx.L.nil ?_
          refine Fx.seqN ?_
          refine Fx.W.seq ?_
          refine Fx.W.list ?_
          refine Fx.L.val (v := .agg (Fx.varr 54 (Fx.rv .i64 a))) (by rfl) (Fx.x_loadA (x := Fx.rv .i64 a) (y := Fx.rv .i64 a) rfl h11 (by kernel_rfl) (by kernel_rfl) m46.cel (i := 0) (by omega) (by omega) (fun j _ => by rw [Nat.zero_add])) rfl ?_
          refine Fx.L.call (by rfl) (Fx.r_call (args := [.agg (Fx.varr 54 (Fx.rv .i64 a))]) rfl rfl Try.func51 rfl rfl) rfl ((f7_sums a _).mono ?_)
          rintro e w13 ⟨he, hb5⟩
          refine ⟨.tuple #[.int .i64 ((sums a).1), .int .i64 ((sums a).2)], by rw [he], ?_⟩
          clear he
          have s12 := Fx.Stp.of_below hb5
          have m47 : Fx.Blk w13 g2 54 (Fx.rv .i64 y) 48 := m44.stp s12 (Nat.ne_of_lt (m44.lt))
          have m48 : Fx.Blk w13 g3 108 (Fx.rv .i64 (pairR x)) 48 := m45.stp s12 (Nat.ne_of_lt (m45.lt))
          have m49 : Fx.Blk w13 g4 54 (Fx.rv .i64 a) 48 := m46.stp s12 (Nat.ne_of_lt (m46.lt))
          have b14 : Below w.heap.size w w13 := s12.below b13 b13.size b13.size
          refine Fx.L.val (v := .tuple #[.int .i64 ((sums a).1), .int .i64 ((sums a).2)]) (by rfl) (Fx.x_move rfl rfl) rfl ?_
          refine Fx.L.val (v := .int .i64 ((sums a).1)) (by rfl) (Fx.x_extract rfl rfl rfl) rfl ?_
          refine Fx.L.val (v := .int .i64 ((sums a).2)) (by rfl) (Fx.x_extract rfl rfl rfl) rfl ?_
          refine Fx.L.val (v := .int .i64 ((sums a).1)) (by rfl) (Fx.x_assign rfl rfl) rfl ?_
          refine Fx.L.val (v := .int .i64 ((sums a).2)) (by rfl) (Fx.x_assign rfl rfl) rfl ?_
          refine Fx.L.nil ?_
          refine Fx.seqN ?_
          refine Fx.W.seq ?_
          -- region 21 draws
          refine Fx.W.quiet (fun v1 => Below w13.heap.size w13 v1) (by kernel_rfl) (by kernel_rfl) (Below.refl _ _).drew ?_
          refine Fx.Qt.val (v := .int .i64 ((sums a).1)) (by rfl) (fun v1 hv1 => Fx.x_move rfl rfl) rfl ?_
          refine Fx.Qt.val (v := .int .i64 ((sums a).1)) (by rfl) (fun v1 hv1 => Fx.x_move rfl rfl) rfl ?_
          refine Fx.Qt.val (v := .bool false) (by rfl) (fun v1 hv1 => Fx.x_neqF rfl rfl rfl rfl) rfl ?_
          refine Fx.Qt.val (v := .bool false) (by rfl) (fun v1 hv1 => Fx.x_move rfl rfl) rfl ?_
          refine Fx.Qt.val (v := .int .i64 ((sums a).2)) (by rfl) (fun v1 hv1 => Fx.x_move rfl rfl) rfl ?_
          refine Fx.Qt.val (v := .int .i64 ((sums a).2)) (by rfl) (fun v1 hv1 => Fx.x_move rfl rfl) rfl ?_
          refine Fx.Qt.val (v := .bool false) (by rfl) (fun v1 hv1 => Fx.x_neqF rfl rfl rfl rfl) rfl ?_
          refine Fx.Qt.val (v := .bool false) (by rfl) (fun v1 hv1 => Fx.x_pickF rfl rfl rfl) rfl ?_
          refine Fx.Qt.val (v := .bool false) (by rfl) (fun v1 hv1 => Fx.x_move rfl rfl) rfl ?_
          refine Fx.Qt.val (v := .agg (Fx.varr 54 (Fx.rv .i64 a))) (by rfl) (fun v1 hv1 => Fx.x_loadA (x := Fx.rv .i64 a) (y := Fx.rv .i64 a) rfl h11 (by kernel_rfl) (by kernel_rfl) (m49.cel.below hv1 (by have := m49.lt; omega)) (i := 0) (by omega) (by omega) (fun j _ => by rw [Nat.zero_add])) rfl ?_
          refine Fx.Qt.val (v := .int .i64 (i)) (by rfl) (fun v1 hv1 => Fx.x_move rfl h7) rfl ?_
          refine Fx.Qt.call (v := .int .i64 (localV a i)) (by rfl) (fun v1 hv1 => Fx.r_call (args := [.agg (Fx.varr 54 (Fx.rv .i64 a)), .int .i64 (i)]) rfl rfl Try.func43 rfl rfl) rfl (fun v1 hv1 => (localV_any a i _ hi).mono fun e v2 h => ⟨h.1, bch hv1 h.2⟩) ?_
          refine Fx.Qt.val (v := .agg (Fx.varr 54 (Fx.rv .i64 a))) (by rfl) (fun v1 hv1 => Fx.x_loadA (x := Fx.rv .i64 a) (y := Fx.rv .i64 a) rfl h11 (by kernel_rfl) (by kernel_rfl) (m49.cel.below hv1 (by have := m49.lt; omega)) (i := 0) (by omega) (by omega) (fun j _ => by rw [Nat.zero_add])) rfl ?_
          refine Fx.Qt.val (v := .int .i64 (i)) (by rfl) (fun v1 hv1 => Fx.x_move rfl h7) rfl ?_
          refine Fx.Qt.call (v := .int .i64 (localV a i)) (by rfl) (fun v1 hv1 => Fx.r_call (args := [.agg (Fx.varr 54 (Fx.rv .i64 a)), .int .i64 (i)]) rfl rfl Try.func52 rfl rfl) rfl (fun v1 hv1 => (f7_localV a i _).mono fun e v2 h => ⟨h.1, bch hv1 h.2⟩) ?_
          refine Fx.Qt.val (v := .bool false) (by rfl) (fun v1 hv1 => Fx.x_neqF rfl rfl rfl rfl) rfl ?_
          refine Fx.Qt.val (v := .bool false) (by rfl) (fun v1 hv1 => Fx.x_pickF rfl rfl rfl) rfl ?_
          refine Fx.Qt.nil ?_
          intro wb2 hbwb2
          have s13 : Fx.Stp w13.heap.size w13 wb2 := Fx.Stp.of_below hbwb2
          have m50 : Fx.Blk wb2 g2 54 (Fx.rv .i64 y) 48 := m47.stp s13 (by have := m47.lt; omega)
          have m51 : Fx.Blk wb2 g3 108 (Fx.rv .i64 (pairR x)) 48 := m48.stp s13 (by have := m48.lt; omega)
          have m52 : Fx.Blk wb2 g4 54 (Fx.rv .i64 a) 48 := m49.stp s13 (by have := m49.lt; omega)
          have b15 : Below w.heap.size w wb2 := s13.below b14 b14.size b14.size
          refine Fx.seqN ?_
          refine Fx.W.cond (b := false) rfl (fun h => nomatch h) (fun _ => ?_)
          refine Fx.W.skip ?_
          refine Fx.blkN ?_
          refine Fx.seqN ?_
          refine Fx.W.list ?_
          refine Fx.L.val (v := .int .i64 ((k : Int))) (by rfl) (Fx.x_move rfl h10) rfl ?_
          refine Fx.L.val (v := .int .i64 ((k : Int) + 1)) (by rfl) (Fx.x_add rfl rfl rfl (Fx.i64e (by omega) (by omega))) rfl ?_
          refine Fx.L.val (v := .int .i64 ((k : Int) + 1)) (by rfl) (Fx.x_assign rfl rfl) rfl ?_
          refine Fx.L.nil ?_
          refine Fx.lpN ⟨k + 1, by omega, h6, (h7.trans (by first | rfl | exact congrArg (Value.int .i64) (by omega))), h8, h9, (by first | rfl | exact congrArg (Value.int .i64) (by omega)), m50, m51, b15⟩ ?_
          show (2 - (intOf ((.int .i64 ((k : Int) + 1)))).toNat) < _
          simp only [h5, intOf]; omega
      · rw [Bool.not_eq_true] at c39
        refine Fx.Qt.call (v := .bool false) (by rfl) (fun v1 hv1 => Fx.r_call (args := [.agg (Fx.varr 54 (Fx.rv .i64 (selR x k)))]) rfl rfl Try.func39 rfl rfl) rfl (fun v1 hv1 => (may_any (selR x k) _).mono fun e v2 h => ⟨by rw [h.1, c39], bch hv1 h.2⟩) ?_
        refine Fx.Qt.val (v := .agg (Fx.varr 54 (Fx.rv .i64 (selR x k)))) (by rfl) (fun v1 hv1 => Fx.x_loadA (x := Fx.rv .i64 (selR x k)) (y := Fx.rv .i64 (selR x k)) rfl rfl (by kernel_rfl) (by kernel_rfl) (m16.cel.below hv1 (by have := m16.lt; omega)) (i := 0) (by omega) (by omega) (fun j _ => by rw [Nat.zero_add])) rfl ?_
        refine Fx.Qt.call (v := .bool false) (by rfl) (fun v1 hv1 => Fx.r_call (args := [.agg (Fx.varr 54 (Fx.rv .i64 (selR x k)))]) rfl rfl Try.func46 rfl rfl) rfl (fun v1 hv1 => (f7_may (selR x k) _).mono fun e v2 h => ⟨by rw [h.1, c39], bch hv1 h.2⟩) ?_
        refine Fx.Qt.val (v := .bool false) (by rfl) (fun v1 hv1 => Fx.x_neqB rfl rfl rfl (by kernel_rfl) rfl) rfl ?_
        refine Fx.Qt.val (v := .bool false) (by rfl) (fun v1 hv1 => Fx.x_move rfl rfl) rfl ?_
        refine Fx.Qt.val (v := .agg (Fx.varr 54 (Fx.rv .i64 (selR x k)))) (by rfl) (fun v1 hv1 => Fx.x_loadA (x := Fx.rv .i64 (selR x k)) (y := Fx.rv .i64 (selR x k)) rfl rfl (by kernel_rfl) (by kernel_rfl) (m16.cel.below hv1 (by have := m16.lt; omega)) (i := 0) (by omega) (by omega) (fun j _ => by rw [Nat.zero_add])) rfl ?_
        refine Fx.Qt.val (v := .agg (Fx.varr 54 (Fx.rv .i64 y))) (by rfl) (fun v1 hv1 => Fx.x_loadA (x := Fx.rv .i64 y) (y := Fx.rv .i64 y) rfl h3 (by kernel_rfl) (by kernel_rfl) (m17.cel.below hv1 (by have := m17.lt; omega)) (i := 0) (by omega) (by omega) (fun j _ => by rw [Nat.zero_add])) rfl ?_
        refine Fx.Qt.call (v := .agg (Fx.varr 54 (Fx.rv .i64 (joinM (selR x k) y)))) (by rfl) (fun v1 hv1 => Fx.r_call (args := [.agg (Fx.varr 54 (Fx.rv .i64 (selR x k))), .agg (Fx.varr 54 (Fx.rv .i64 y))]) rfl rfl Try.func47 rfl rfl) rfl (fun v1 hv1 => (join_any (selR x k) y _).mono fun e v2 h => ⟨h.1, bch hv1 h.2⟩) ?_
        refine Fx.Qt.val (v := .agg (Fx.varr 54 (Fx.rv .i64 (selR x k)))) (by rfl) (fun v1 hv1 => Fx.x_loadA (x := Fx.rv .i64 (selR x k)) (y := Fx.rv .i64 (selR x k)) rfl rfl (by kernel_rfl) (by kernel_rfl) (m16.cel.below hv1 (by have := m16.lt; omega)) (i := 0) (by omega) (by omega) (fun j _ => by rw [Nat.zero_add])) rfl ?_
        refine Fx.Qt.val (v := .agg (Fx.varr 54 (Fx.rv .i64 y))) (by rfl) (fun v1 hv1 => Fx.x_loadA (x := Fx.rv .i64 y) (y := Fx.rv .i64 y) rfl h3 (by kernel_rfl) (by kernel_rfl) (m17.cel.below hv1 (by have := m17.lt; omega)) (i := 0) (by omega) (by omega) (fun j _ => by rw [Nat.zero_add])) rfl ?_
        refine Fx.Qt.call (v := .agg (Fx.varr 54 (Fx.rv .i64 (joinM (selR x k) y)))) (by rfl) (fun v1 hv1 => Fx.r_call (args := [.agg (Fx.varr 54 (Fx.rv .i64 (selR x k))), .agg (Fx.varr 54 (Fx.rv .i64 y))]) rfl rfl Try.func48 rfl rfl) rfl (fun v1 hv1 => (f7_join (selR x k) y _).mono fun e v2 h => ⟨h.1, bch hv1 h.2⟩) ?_
        refine Fx.Qt.val (v := .bool false) (by rfl) (fun v1 hv1 => Fx.x_neqA (n := 54) (ks := List.replicate 54 (some .i64)) (X := Fx.rv .i64 (joinM (selR x k) y)) (Y := Fx.rv .i64 (joinM (selR x k) y)) 12 true rfl rfl rfl (Fx.yesb (fun _ _ => rfl)) (kdR (join_in64 HS hy)) (kdR (join_in64 HS hy)) rfl (by kernel_rfl) (by kernel_rfl) (by kernel_rfl) (by kernel_rfl) (by kernel_rfl)) rfl ?_
        refine Fx.Qt.val (v := .bool false) (by rfl) (fun v1 hv1 => Fx.x_pickF rfl rfl rfl) rfl ?_
        refine Fx.Qt.nil ?_
        intro wb3 hbwb3
        have s14 : Fx.Stp w7.heap.size w7 wb3 := Fx.Stp.of_below hbwb3
        have m53 : Fx.Blk wb3 g2 54 (Fx.rv .i64 y) 48 := m17.stp s14 (by have := m17.lt; omega)
        have m54 : Fx.Blk wb3 g3 108 (Fx.rv .i64 (pairR x)) 48 := m18.stp s14 (by have := m18.lt; omega)
        have m55 : Fx.Blk wb3 g4 54 (Fx.rv .i64 (selR x k)) 48 := m16.stp s14 (by have := m16.lt; omega)
        have b16 : Below w.heap.size w wb3 := s14.below b7 b7.size b7.size
        refine Fx.seqN ?_
        refine Fx.W.cond (b := false) rfl (fun h => nomatch h) (fun _ => ?_)
        refine Fx.W.skip ?_
        refine Fx.seqN ?_
        refine Fx.W.seq ?_
        refine Fx.W.seq ?_
        refine Fx.W.list ?_
        refine Fx.L.val (v := .int .i64 (0)) (by rfl) (Fx.x_assign rfl rfl) rfl ?_
        refine Fx.L.nil ?_
        refine Fx.seqN ?_
        refine Fx.W.block ?_
        refine Fx.W.loop (fun f w_ => ∃ j : Nat, ∃ a : Nat → Int, j ≤ len ∧ In64 a ∧ f 2 = .slice a0 (len) (cap) ∧ f 3 = .int .i64 (i) ∧ f 5 = .pointer (some ⟨g2, 0, none⟩) ∧ f 9 = .slice (some ⟨g3, 0, none⟩) (2) (2) ∧ f 10 = .int .i64 ((k : Int)) ∧ f 11 = .pointer (some ⟨g4, 0, none⟩) ∧ f 12 = .int .i64 ((j : Int)) ∧ Fx.Blk w_ g2 54 (Fx.rv .i64 y) 48 ∧ Fx.Blk w_ g3 108 (Fx.rv .i64 (pairR x)) 48 ∧ Fx.Blk w_ g4 54 (Fx.rv .i64 a) 48 ∧ Below w.heap.size w w_) (fun f _ => (len - (intOf (f 12)).toNat)) ⟨0, selR x k, by omega, HS, h1, (h2.trans (by first | rfl | exact congrArg (Value.int .i64) (by omega))), h3, h4, (h5.trans (by first | rfl | exact congrArg (Value.int .i64) (by omega))), (by rfl), (by first | rfl | exact congrArg (Value.int .i64) (by omega)), m53, m54, m55, b16⟩ ?_
        rintro f5 w14 ⟨j, a, hj, Ha, h13, h14, h15, h16, h17, h18, h19, m56, m57, m58, b17⟩
        refine Fx.W.seq ?_
        refine Fx.W.seq ?_
        refine Fx.W.list ?_
        refine Fx.L.val (v := .int .i64 ((j : Int))) (by rfl) (Fx.x_move rfl h19) rfl ?_
        refine Fx.L.val (v := .slice a0 (len) (cap)) (by rfl) (Fx.x_move rfl h13) rfl ?_
        refine Fx.L.val (v := .int .i64 ((len : Int))) (by rfl) (Fx.x_len rfl rfl rfl (by rfl)) rfl ?_
        by_cases c55 : (j : Int) < (len : Int)
        · refine Fx.L.val (v := .bool true) (by rfl) (Fx.x_lssT rfl rfl rfl c55) rfl ?_
          refine Fx.L.nil ?_
          refine Fx.seqN ?_
          refine Fx.W.cond (b := true) rfl (fun _ => ?_) (fun h => nomatch h)
          refine Fx.W.skip ?_
          refine Fx.seqN ?_
          refine Fx.W.seq ?_
          refine Fx.W.block ?_
          refine Fx.W.seq ?_
          obtain ⟨⟨b, off, ea, hc⟩, bD, bI, bJ⟩ := stp_sub hst (j := j) (by omega)
          have lb : b < w.heap.size := hc.lt (by omega)
          have m59 := hc.below b17 (hc.lt (by omega))
          -- region 13 draws
          refine Fx.W.one (T := 48) (T' := 48) (a := .tmp 13) (v := .tmp 65) (m := 54) (z := Fx.rv .i64 (fun _ => 0)) (y := Fx.rv .i64 ((doesM a (D j) (I j) (J j) (N j)).1)) (u := .agg (Fx.varr 54 (Fx.rv .i64 ((doesM a (D j) (I j) (J j) (N j)).1)))) 9 10 (List.replicate 12 (0, 2)) #[.slice a0 (len) (cap), .int .i64 ((j : Int)), .pointer (some ⟨b, 4 * j + off, none⟩), .agg (Fx.varr 4 (stepY (D j) (I j) (J j) (N j))), .agg (Fx.varr 54 (Fx.rv .i64 a)), .tuple #[.agg (Fx.varr 54 (Fx.rv .i64 ((doesM a (D j) (I j) (J j) (N j)).1))), .int .i64 ((doesM a (D j) (I j) (J j) (N j)).2)], .tuple #[.agg (Fx.varr 54 (Fx.rv .i64 ((doesM a (D j) (I j) (J j) (N j)).1))), .int .i64 ((doesM a (D j) (I j) (J j) (N j)).2)], .agg (Fx.varr 54 (Fx.rv .i64 ((doesM a (D j) (I j) (J j) (N j)).1))), .int .i64 ((doesM a (D j) (I j) (J j) (N j)).2), undef, undef, .int .i64 ((doesM a (D j) (I j) (J j) (N j)).2)] (by kernel_rfl) (by kernel_rfl) (by kernel_rfl) (by kernel_rfl) (by kernel_rfl) (by kernel_rfl) rfl (by kernel_rfl) rfl rfl (by kernel_rfl) (fun g7 => (show Fx.ev _ (.tmp 13) = .pointer (some ⟨g7, 0, none⟩) from by kernel_rfl)) (fun g7 => (show Fx.ev _ (.tmp 65) = .agg (Fx.varr 54 (Fx.rv .i64 ((doesM a (D j) (I j) (J j) (N j)).1))) from by kernel_rfl)) (Fx.cells_agg _ _) (fun _ _ => rfl) (by kernel_rfl) (fun g7 => ?_) ?_
          · refine ⟨?_, ?_, ?_, ?_, ?_, ?_, ?_, ?_, ?_, ?_, ?_, ?_, trivial⟩
            · exact .inr (.inr (Fx.qb_yes (v := .slice a0 (len) (cap)) (by kernel_rfl) (by kernel_rfl) (Fx.qbV fun v1 hv1 => Fx.x_move rfl ((Fx.fOne_out (by kernel_rfl)).trans h13))))
            · exact .inr (.inr (Fx.qb_yes (v := .int .i64 ((j : Int))) (by kernel_rfl) (by kernel_rfl) (Fx.qbV fun v1 hv1 => Fx.x_move rfl ((Fx.fOne_out (by kernel_rfl)).trans h19))))
            · exact .inr (.inr (Fx.qb_yes (v := .pointer (some ⟨b, 4 * j + off, none⟩)) (by kernel_rfl) (by kernel_rfl) (Fx.qbV fun v1 hv1 => Fx.x_indexS rfl ((show Fx.ev _ (.tmp 59) = .slice a0 (len) (cap) from by kernel_rfl).trans (congrArg (fun q => Value.slice q (len) (cap)) ea)) (show Fx.ev _ (.tmp 60) = .int .i64 ((j : Int)) from by kernel_rfl) Try.underlying99 (s := 4) (by kernel_rfl) (by omega) (by omega) (by omega))))
            · exact .inr (.inr (Fx.qb_yes (v := .agg (Fx.varr 4 (stepY (D j) (I j) (J j) (N j)))) (by kernel_rfl) (by kernel_rfl) (Fx.qbV fun v1 hv1 => Fx.x_loadA (x := stepY (D j) (I j) (J j) (N j)) (y := stepY (D j) (I j) (J j) (N j)) rfl (show Fx.ev _ (.tmp 61) = .pointer (some ⟨b, 4 * j + off, none⟩) from by kernel_rfl) (by kernel_rfl) (by kernel_rfl) (m59.below hv1 (m59.lt (by omega))) (i := 0) (by omega) (by omega) (fun j _ => by rw [Nat.zero_add]))))
            · exact .inr (.inr (Fx.qb_yes (v := .agg (Fx.varr 54 (Fx.rv .i64 a))) (by kernel_rfl) (by kernel_rfl) (Fx.qbV fun v1 hv1 => Fx.x_loadA (x := Fx.rv .i64 a) (y := Fx.rv .i64 a) rfl ((Fx.fOne_out (by kernel_rfl)).trans h18) (by kernel_rfl) (by kernel_rfl) (m58.cel.below hv1 (by have := m58.lt; omega)) (i := 0) (by omega) (by omega) (fun j _ => by rw [Nat.zero_add]))))
            · exact .inr (.inr (Fx.qb_yes (v := .tuple #[.agg (Fx.varr 54 (Fx.rv .i64 ((doesM a (D j) (I j) (J j) (N j)).1))), .int .i64 ((doesM a (D j) (I j) (J j) (N j)).2)]) (by kernel_rfl) (by kernel_rfl) (Fx.qbC (fun v1 hv1 => Fx.r_call (args := [.agg (Fx.varr 4 (stepY (D j) (I j) (J j) (N j))), .agg (Fx.varr 54 (Fx.rv .i64 a))]) rfl (Fx.args2 (show Fx.ev _ (.tmp 62) = .agg (Fx.varr 4 (stepY (D j) (I j) (J j) (N j))) from by kernel_rfl) (show Fx.ev _ (.tmp 63) = .agg (Fx.varr 54 (Fx.rv .i64 a)) from by kernel_rfl)) Try.func49 rfl rfl) (fun v1 hv1 => (does_fx a (D j) (I j) (J j) (N j) _ bD bI bJ).mono fun e v2 h => ⟨h.1, h.2⟩))))
            · exact .inr (.inr (Fx.qb_yes (v := .tuple #[.agg (Fx.varr 54 (Fx.rv .i64 ((doesM a (D j) (I j) (J j) (N j)).1))), .int .i64 ((doesM a (D j) (I j) (J j) (N j)).2)]) (by kernel_rfl) (by kernel_rfl) (Fx.qbV fun v1 hv1 => Fx.x_move rfl (show Fx.ev _ (.tmp 64) = .tuple #[.agg (Fx.varr 54 (Fx.rv .i64 ((doesM a (D j) (I j) (J j) (N j)).1))), .int .i64 ((doesM a (D j) (I j) (J j) (N j)).2)] from by kernel_rfl))))
            · exact .inr (.inr (Fx.qb_yes (v := .agg (Fx.varr 54 (Fx.rv .i64 ((doesM a (D j) (I j) (J j) (N j)).1)))) (by kernel_rfl) (by kernel_rfl) (Fx.qbV fun v1 hv1 => Fx.x_extract rfl (show Fx.ev _ (.tmp 58) = .tuple #[.agg (Fx.varr 54 (Fx.rv .i64 ((doesM a (D j) (I j) (J j) (N j)).1))), .int .i64 ((doesM a (D j) (I j) (J j) (N j)).2)] from by kernel_rfl) rfl)))
            · exact .inr (.inr (Fx.qb_yes (v := .int .i64 ((doesM a (D j) (I j) (J j) (N j)).2)) (by kernel_rfl) (by kernel_rfl) (Fx.qbV fun v1 hv1 => Fx.x_extract rfl (show Fx.ev _ (.tmp 58) = .tuple #[.agg (Fx.varr 54 (Fx.rv .i64 ((doesM a (D j) (I j) (J j) (N j)).1))), .int .i64 ((doesM a (D j) (I j) (J j) (N j)).2)] from by kernel_rfl) rfl)))
            · exact .inl rfl
            · exact .inr (.inl rfl)
            · exact .inr (.inr (Fx.qb_yes (v := .int .i64 ((doesM a (D j) (I j) (J j) (N j)).2)) (by kernel_rfl) (by kernel_rfl) (Fx.qbV fun v1 hv1 => Fx.x_assign rfl (show Fx.ev _ (.tmp 66) = .int .i64 ((doesM a (D j) (I j) (J j) (N j)).2) from by kernel_rfl))))
          · rintro g7 w15 f6 hf3 lg7 m60 hb6
            have s15 := Fx.Stp.of_below hb6
            have ng7m56 : g2 ≠ g7 := Nat.ne_of_lt (Nat.lt_of_lt_of_le (m56.lt) lg7)
            have ng7m57 : g3 ≠ g7 := Nat.ne_of_lt (Nat.lt_of_lt_of_le (m57.lt) lg7)
            have ng7m58 : g4 ≠ g7 := Nat.ne_of_lt (Nat.lt_of_lt_of_le (m58.lt) lg7)
            have ng7m59 : b ≠ g7 := Nat.ne_of_lt (Nat.lt_of_lt_of_le (m59.lt (by omega)) lg7)
            have m61 : Fx.Blk w15 g2 54 (Fx.rv .i64 y) 48 := m56.stp s15 (Nat.ne_of_lt (m56.lt))
            have m62 : Fx.Blk w15 g3 108 (Fx.rv .i64 (pairR x)) 48 := m57.stp s15 (Nat.ne_of_lt (m57.lt))
            have m63 : Fx.Blk w15 g4 54 (Fx.rv .i64 a) 48 := m58.stp s15 (Nat.ne_of_lt (m58.lt))
            have m64 : Fx.Cel w15 b (off + 4 * j) 4 (stepY (D j) (I j) (J j) (N j)) := m59.stp s15 (Nat.ne_of_lt (m59.lt (by omega)))
            have b18 : Below w.heap.size w w15 := s15.below b17 b17.size b17.size
            have lg7 : w.heap.size ≤ g7 := Nat.le_trans b17.size lg7
            have tg7 : g7 < w15.heap.size := m60.lt
            have q56 : f6 2 = .slice a0 (len) (cap) := by rw [hf3]; exact (Fx.fOne_out (by kernel_rfl)).trans h13
            have q57 : f6 3 = .int .i64 (i) := by rw [hf3]; exact (Fx.fOne_out (by kernel_rfl)).trans h14
            have q58 : f6 5 = .pointer (some ⟨g2, 0, none⟩) := by rw [hf3]; exact (Fx.fOne_out (by kernel_rfl)).trans h15
            have q59 : f6 9 = .slice (some ⟨g3, 0, none⟩) (2) (2) := by rw [hf3]; exact (Fx.fOne_out (by kernel_rfl)).trans h16
            have q60 : f6 10 = .int .i64 ((k : Int)) := by rw [hf3]; exact (Fx.fOne_out (by kernel_rfl)).trans h17
            have q61 : f6 11 = .pointer (some ⟨g4, 0, none⟩) := by rw [hf3]; exact (Fx.fOne_out (by kernel_rfl)).trans h18
            have q62 : f6 12 = .int .i64 ((j : Int)) := by rw [hf3]; exact (Fx.fOne_out (by kernel_rfl)).trans h19
            have q63 : f6 52 = .int .i64 ((j : Int)) := by rw [hf3]; kernel_rfl
            have q64 : f6 53 = .slice a0 (len) (cap) := by rw [hf3]; kernel_rfl
            have q65 : f6 54 = .int .i64 ((len : Int)) := by rw [hf3]; kernel_rfl
            have q66 : f6 55 = .bool true := by rw [hf3]; kernel_rfl
            have q67 : f6 59 = .slice a0 (len) (cap) := by rw [hf3]; kernel_rfl
            have q68 : f6 60 = .int .i64 ((j : Int)) := by rw [hf3]; kernel_rfl
            have q69 : f6 61 = .pointer (some ⟨b, 4 * j + off, none⟩) := by rw [hf3]; kernel_rfl
            have q70 : f6 62 = .agg (Fx.varr 4 (stepY (D j) (I j) (J j) (N j))) := by rw [hf3]; kernel_rfl
            have q71 : f6 63 = .agg (Fx.varr 54 (Fx.rv .i64 a)) := by rw [hf3]; kernel_rfl
            have q72 : f6 64 = .tuple #[.agg (Fx.varr 54 (Fx.rv .i64 ((doesM a (D j) (I j) (J j) (N j)).1))), .int .i64 ((doesM a (D j) (I j) (J j) (N j)).2)] := by rw [hf3]; kernel_rfl
            have q73 : f6 58 = .tuple #[.agg (Fx.varr 54 (Fx.rv .i64 ((doesM a (D j) (I j) (J j) (N j)).1))), .int .i64 ((doesM a (D j) (I j) (J j) (N j)).2)] := by rw [hf3]; kernel_rfl
            have q74 : f6 65 = .agg (Fx.varr 54 (Fx.rv .i64 ((doesM a (D j) (I j) (J j) (N j)).1))) := by rw [hf3]; kernel_rfl
            have q75 : f6 66 = .int .i64 ((doesM a (D j) (I j) (J j) (N j)).2) := by rw [hf3]; kernel_rfl
            have q76 : f6 13 = .pointer (some ⟨g7, 0, none⟩) := by rw [hf3]; kernel_rfl
            have q77 : f6 14 = .int .i64 ((doesM a (D j) (I j) (J j) (N j)).2) := by rw [hf3]; kernel_rfl
            clear hf3
            refine Fx.seqN ?_
            refine Fx.W.seq ?_
            -- region 14 draws
            refine Fx.W.one (T := 48) (T' := 48) (a := .tmp 15) (v := .tmp 74) (m := 54) (z := Fx.rv .i64 (fun _ => 0)) (y := Fx.rv .i64 ((doesM a (D j) (I j) (J j) (N j)).1)) (u := .agg (Fx.varr 54 (Fx.rv .i64 ((doesM a (D j) (I j) (J j) (N j)).1)))) 9 10 (List.replicate 12 (0, 2)) #[.slice a0 (len) (cap), .int .i64 ((j : Int)), .pointer (some ⟨b, 4 * j + off, none⟩), .agg (Fx.varr 4 (stepY (D j) (I j) (J j) (N j))), .agg (Fx.varr 54 (Fx.rv .i64 a)), .tuple #[.agg (Fx.varr 54 (Fx.rv .i64 ((doesM a (D j) (I j) (J j) (N j)).1))), .int .i64 ((doesM a (D j) (I j) (J j) (N j)).2)], .tuple #[.agg (Fx.varr 54 (Fx.rv .i64 ((doesM a (D j) (I j) (J j) (N j)).1))), .int .i64 ((doesM a (D j) (I j) (J j) (N j)).2)], .agg (Fx.varr 54 (Fx.rv .i64 ((doesM a (D j) (I j) (J j) (N j)).1))), .int .i64 ((doesM a (D j) (I j) (J j) (N j)).2), undef, undef, .int .i64 ((doesM a (D j) (I j) (J j) (N j)).2)] (by kernel_rfl) (by kernel_rfl) (by kernel_rfl) (by kernel_rfl) (by kernel_rfl) (by kernel_rfl) rfl (by kernel_rfl) rfl rfl (by kernel_rfl) (fun g8 => (show Fx.ev _ (.tmp 15) = .pointer (some ⟨g8, 0, none⟩) from by kernel_rfl)) (fun g8 => (show Fx.ev _ (.tmp 74) = .agg (Fx.varr 54 (Fx.rv .i64 ((doesM a (D j) (I j) (J j) (N j)).1))) from by kernel_rfl)) (Fx.cells_agg _ _) (fun _ _ => rfl) (by kernel_rfl) (fun g8 => ?_) ?_
            · refine ⟨?_, ?_, ?_, ?_, ?_, ?_, ?_, ?_, ?_, ?_, ?_, ?_, trivial⟩
              · exact .inr (.inr (Fx.qb_yes (v := .slice a0 (len) (cap)) (by kernel_rfl) (by kernel_rfl) (Fx.qbV fun v1 hv1 => Fx.x_move rfl ((Fx.fOne_out (by kernel_rfl)).trans q56))))
              · exact .inr (.inr (Fx.qb_yes (v := .int .i64 ((j : Int))) (by kernel_rfl) (by kernel_rfl) (Fx.qbV fun v1 hv1 => Fx.x_move rfl ((Fx.fOne_out (by kernel_rfl)).trans q62))))
              · exact .inr (.inr (Fx.qb_yes (v := .pointer (some ⟨b, 4 * j + off, none⟩)) (by kernel_rfl) (by kernel_rfl) (Fx.qbV fun v1 hv1 => Fx.x_indexS rfl ((show Fx.ev _ (.tmp 68) = .slice a0 (len) (cap) from by kernel_rfl).trans (congrArg (fun q => Value.slice q (len) (cap)) ea)) (show Fx.ev _ (.tmp 69) = .int .i64 ((j : Int)) from by kernel_rfl) Try.underlying99 (s := 4) (by kernel_rfl) (by omega) (by omega) (by omega))))
              · exact .inr (.inr (Fx.qb_yes (v := .agg (Fx.varr 4 (stepY (D j) (I j) (J j) (N j)))) (by kernel_rfl) (by kernel_rfl) (Fx.qbV fun v1 hv1 => Fx.x_loadA (x := stepY (D j) (I j) (J j) (N j)) (y := stepY (D j) (I j) (J j) (N j)) rfl (show Fx.ev _ (.tmp 70) = .pointer (some ⟨b, 4 * j + off, none⟩) from by kernel_rfl) (by kernel_rfl) (by kernel_rfl) (m64.below hv1 (m64.lt (by omega))) (i := 0) (by omega) (by omega) (fun j _ => by rw [Nat.zero_add]))))
              · exact .inr (.inr (Fx.qb_yes (v := .agg (Fx.varr 54 (Fx.rv .i64 a))) (by kernel_rfl) (by kernel_rfl) (Fx.qbV fun v1 hv1 => Fx.x_loadA (x := Fx.rv .i64 a) (y := Fx.rv .i64 a) rfl ((Fx.fOne_out (by kernel_rfl)).trans q61) (by kernel_rfl) (by kernel_rfl) (m63.cel.below hv1 (by have := m63.lt; omega)) (i := 0) (by omega) (by omega) (fun j _ => by rw [Nat.zero_add]))))
              · exact .inr (.inr (Fx.qb_yes (v := .tuple #[.agg (Fx.varr 54 (Fx.rv .i64 ((doesM a (D j) (I j) (J j) (N j)).1))), .int .i64 ((doesM a (D j) (I j) (J j) (N j)).2)]) (by kernel_rfl) (by kernel_rfl) (Fx.qbC (fun v1 hv1 => Fx.r_call (args := [.agg (Fx.varr 4 (stepY (D j) (I j) (J j) (N j))), .agg (Fx.varr 54 (Fx.rv .i64 a))]) rfl (Fx.args2 (show Fx.ev _ (.tmp 71) = .agg (Fx.varr 4 (stepY (D j) (I j) (J j) (N j))) from by kernel_rfl) (show Fx.ev _ (.tmp 72) = .agg (Fx.varr 54 (Fx.rv .i64 a)) from by kernel_rfl)) Try.func50 rfl rfl) (fun v1 hv1 => (f7_did a (D j) (I j) (J j) (N j) _ bD).mono fun e v2 h => ⟨h.1, h.2⟩))))
              · exact .inr (.inr (Fx.qb_yes (v := .tuple #[.agg (Fx.varr 54 (Fx.rv .i64 ((doesM a (D j) (I j) (J j) (N j)).1))), .int .i64 ((doesM a (D j) (I j) (J j) (N j)).2)]) (by kernel_rfl) (by kernel_rfl) (Fx.qbV fun v1 hv1 => Fx.x_move rfl (show Fx.ev _ (.tmp 73) = .tuple #[.agg (Fx.varr 54 (Fx.rv .i64 ((doesM a (D j) (I j) (J j) (N j)).1))), .int .i64 ((doesM a (D j) (I j) (J j) (N j)).2)] from by kernel_rfl))))
              · exact .inr (.inr (Fx.qb_yes (v := .agg (Fx.varr 54 (Fx.rv .i64 ((doesM a (D j) (I j) (J j) (N j)).1)))) (by kernel_rfl) (by kernel_rfl) (Fx.qbV fun v1 hv1 => Fx.x_extract rfl (show Fx.ev _ (.tmp 67) = .tuple #[.agg (Fx.varr 54 (Fx.rv .i64 ((doesM a (D j) (I j) (J j) (N j)).1))), .int .i64 ((doesM a (D j) (I j) (J j) (N j)).2)] from by kernel_rfl) rfl)))
              · exact .inr (.inr (Fx.qb_yes (v := .int .i64 ((doesM a (D j) (I j) (J j) (N j)).2)) (by kernel_rfl) (by kernel_rfl) (Fx.qbV fun v1 hv1 => Fx.x_extract rfl (show Fx.ev _ (.tmp 67) = .tuple #[.agg (Fx.varr 54 (Fx.rv .i64 ((doesM a (D j) (I j) (J j) (N j)).1))), .int .i64 ((doesM a (D j) (I j) (J j) (N j)).2)] from by kernel_rfl) rfl)))
              · exact .inl rfl
              · exact .inr (.inl rfl)
              · exact .inr (.inr (Fx.qb_yes (v := .int .i64 ((doesM a (D j) (I j) (J j) (N j)).2)) (by kernel_rfl) (by kernel_rfl) (Fx.qbV fun v1 hv1 => Fx.x_assign rfl (show Fx.ev _ (.tmp 75) = .int .i64 ((doesM a (D j) (I j) (J j) (N j)).2) from by kernel_rfl))))
            · rintro g8 w16 f7 hf4 lg8 m65 hb7
              have s16 := Fx.Stp.of_below hb7
              have ng8m61 : g2 ≠ g8 := Nat.ne_of_lt (Nat.lt_of_lt_of_le (m61.lt) lg8)
              have ng8m62 : g3 ≠ g8 := Nat.ne_of_lt (Nat.lt_of_lt_of_le (m62.lt) lg8)
              have ng8m63 : g4 ≠ g8 := Nat.ne_of_lt (Nat.lt_of_lt_of_le (m63.lt) lg8)
              have ng8m64 : b ≠ g8 := Nat.ne_of_lt (Nat.lt_of_lt_of_le (m64.lt (by omega)) lg8)
              have ng8m60 : g7 ≠ g8 := Nat.ne_of_lt (Nat.lt_of_lt_of_le (m60.lt) lg8)
              have m66 : Fx.Blk w16 g2 54 (Fx.rv .i64 y) 48 := m61.stp s16 (Nat.ne_of_lt (m61.lt))
              have m67 : Fx.Blk w16 g3 108 (Fx.rv .i64 (pairR x)) 48 := m62.stp s16 (Nat.ne_of_lt (m62.lt))
              have m68 : Fx.Blk w16 g4 54 (Fx.rv .i64 a) 48 := m63.stp s16 (Nat.ne_of_lt (m63.lt))
              have m69 : Fx.Cel w16 b (off + 4 * j) 4 (stepY (D j) (I j) (J j) (N j)) := m64.stp s16 (Nat.ne_of_lt (m64.lt (by omega)))
              have m70 : Fx.Blk w16 g7 54 (Fx.rv .i64 ((doesM a (D j) (I j) (J j) (N j)).1)) 48 := m60.stp s16 (Nat.ne_of_lt (m60.lt))
              have b19 : Below w.heap.size w w16 := s16.below b18 b18.size b18.size
              have lg8 : w.heap.size ≤ g8 := Nat.le_trans b18.size lg8
              have tg8 : g8 < w16.heap.size := m65.lt
              have q78 : f7 2 = .slice a0 (len) (cap) := by rw [hf4]; exact (Fx.fOne_out (by kernel_rfl)).trans q56
              have q79 : f7 3 = .int .i64 (i) := by rw [hf4]; exact (Fx.fOne_out (by kernel_rfl)).trans q57
              have q80 : f7 5 = .pointer (some ⟨g2, 0, none⟩) := by rw [hf4]; exact (Fx.fOne_out (by kernel_rfl)).trans q58
              have q81 : f7 9 = .slice (some ⟨g3, 0, none⟩) (2) (2) := by rw [hf4]; exact (Fx.fOne_out (by kernel_rfl)).trans q59
              have q82 : f7 10 = .int .i64 ((k : Int)) := by rw [hf4]; exact (Fx.fOne_out (by kernel_rfl)).trans q60
              have q83 : f7 11 = .pointer (some ⟨g4, 0, none⟩) := by rw [hf4]; exact (Fx.fOne_out (by kernel_rfl)).trans q61
              have q84 : f7 12 = .int .i64 ((j : Int)) := by rw [hf4]; exact (Fx.fOne_out (by kernel_rfl)).trans q62
              have q85 : f7 52 = .int .i64 ((j : Int)) := by rw [hf4]; exact (Fx.fOne_out (by kernel_rfl)).trans q63
              have q86 : f7 53 = .slice a0 (len) (cap) := by rw [hf4]; exact (Fx.fOne_out (by kernel_rfl)).trans q64
              have q87 : f7 54 = .int .i64 ((len : Int)) := by rw [hf4]; exact (Fx.fOne_out (by kernel_rfl)).trans q65
              have q88 : f7 55 = .bool true := by rw [hf4]; exact (Fx.fOne_out (by kernel_rfl)).trans q66
              have q89 : f7 59 = .slice a0 (len) (cap) := by rw [hf4]; exact (Fx.fOne_out (by kernel_rfl)).trans q67
              have q90 : f7 60 = .int .i64 ((j : Int)) := by rw [hf4]; exact (Fx.fOne_out (by kernel_rfl)).trans q68
              have q91 : f7 61 = .pointer (some ⟨b, 4 * j + off, none⟩) := by rw [hf4]; exact (Fx.fOne_out (by kernel_rfl)).trans q69
              have q92 : f7 62 = .agg (Fx.varr 4 (stepY (D j) (I j) (J j) (N j))) := by rw [hf4]; exact (Fx.fOne_out (by kernel_rfl)).trans q70
              have q93 : f7 63 = .agg (Fx.varr 54 (Fx.rv .i64 a)) := by rw [hf4]; exact (Fx.fOne_out (by kernel_rfl)).trans q71
              have q94 : f7 64 = .tuple #[.agg (Fx.varr 54 (Fx.rv .i64 ((doesM a (D j) (I j) (J j) (N j)).1))), .int .i64 ((doesM a (D j) (I j) (J j) (N j)).2)] := by rw [hf4]; exact (Fx.fOne_out (by kernel_rfl)).trans q72
              have q95 : f7 58 = .tuple #[.agg (Fx.varr 54 (Fx.rv .i64 ((doesM a (D j) (I j) (J j) (N j)).1))), .int .i64 ((doesM a (D j) (I j) (J j) (N j)).2)] := by rw [hf4]; exact (Fx.fOne_out (by kernel_rfl)).trans q73
              have q96 : f7 65 = .agg (Fx.varr 54 (Fx.rv .i64 ((doesM a (D j) (I j) (J j) (N j)).1))) := by rw [hf4]; exact (Fx.fOne_out (by kernel_rfl)).trans q74
              have q97 : f7 66 = .int .i64 ((doesM a (D j) (I j) (J j) (N j)).2) := by rw [hf4]; exact (Fx.fOne_out (by kernel_rfl)).trans q75
              have q98 : f7 13 = .pointer (some ⟨g7, 0, none⟩) := by rw [hf4]; exact (Fx.fOne_out (by kernel_rfl)).trans q76
              have q99 : f7 14 = .int .i64 ((doesM a (D j) (I j) (J j) (N j)).2) := by rw [hf4]; exact (Fx.fOne_out (by kernel_rfl)).trans q77
              have q100 : f7 68 = .slice a0 (len) (cap) := by rw [hf4]; kernel_rfl
              have q101 : f7 69 = .int .i64 ((j : Int)) := by rw [hf4]; kernel_rfl
              have q102 : f7 70 = .pointer (some ⟨b, 4 * j + off, none⟩) := by rw [hf4]; kernel_rfl
              have q103 : f7 71 = .agg (Fx.varr 4 (stepY (D j) (I j) (J j) (N j))) := by rw [hf4]; kernel_rfl
              have q104 : f7 72 = .agg (Fx.varr 54 (Fx.rv .i64 a)) := by rw [hf4]; kernel_rfl
              have q105 : f7 73 = .tuple #[.agg (Fx.varr 54 (Fx.rv .i64 ((doesM a (D j) (I j) (J j) (N j)).1))), .int .i64 ((doesM a (D j) (I j) (J j) (N j)).2)] := by rw [hf4]; kernel_rfl
              have q106 : f7 67 = .tuple #[.agg (Fx.varr 54 (Fx.rv .i64 ((doesM a (D j) (I j) (J j) (N j)).1))), .int .i64 ((doesM a (D j) (I j) (J j) (N j)).2)] := by rw [hf4]; kernel_rfl
              have q107 : f7 74 = .agg (Fx.varr 54 (Fx.rv .i64 ((doesM a (D j) (I j) (J j) (N j)).1))) := by rw [hf4]; kernel_rfl
              have q108 : f7 75 = .int .i64 ((doesM a (D j) (I j) (J j) (N j)).2) := by rw [hf4]; kernel_rfl
              have q109 : f7 15 = .pointer (some ⟨g8, 0, none⟩) := by rw [hf4]; kernel_rfl
              have q110 : f7 16 = .int .i64 ((doesM a (D j) (I j) (J j) (N j)).2) := by rw [hf4]; kernel_rfl
              clear hf4
              refine Fx.seqN ?_
              refine Fx.W.seq ?_
              refine Fx.W.seq ?_
              refine Fx.W.list ?_
              refine Fx.L.val (v := .int .i64 ((doesM a (D j) (I j) (J j) (N j)).2)) (by rfl) (Fx.x_move rfl q99) rfl ?_
              refine Fx.L.val (v := .int .i64 ((doesM a (D j) (I j) (J j) (N j)).2)) (by rfl) (Fx.x_move rfl q110) rfl ?_
              refine Fx.L.val (v := .bool false) (by rfl) (Fx.x_neqF rfl rfl rfl rfl) rfl ?_
              refine Fx.L.val (v := .bool false) (by rfl) (Fx.x_move rfl rfl) rfl ?_
              refine Fx.L.val (v := .agg (Fx.varr 54 (Fx.rv .i64 ((doesM a (D j) (I j) (J j) (N j)).1)))) (by rfl) (Fx.x_loadA (x := Fx.rv .i64 ((doesM a (D j) (I j) (J j) (N j)).1)) (y := Fx.rv .i64 ((doesM a (D j) (I j) (J j) (N j)).1)) rfl q98 (by kernel_rfl) (by kernel_rfl) m70.cel (i := 0) (by omega) (by omega) (fun j _ => by rw [Nat.zero_add])) rfl ?_
              refine Fx.L.val (v := .agg (Fx.varr 54 (Fx.rv .i64 ((doesM a (D j) (I j) (J j) (N j)).1)))) (by rfl) (Fx.x_loadA (x := Fx.rv .i64 ((doesM a (D j) (I j) (J j) (N j)).1)) (y := Fx.rv .i64 ((doesM a (D j) (I j) (J j) (N j)).1)) rfl q109 (by kernel_rfl) (by kernel_rfl) m65.cel (i := 0) (by omega) (by omega) (fun j _ => by rw [Nat.zero_add])) rfl ?_
              refine Fx.L.val (v := .bool false) (by rfl) (Fx.x_neqA (n := 54) (ks := List.replicate 54 (some .i64)) (X := Fx.rv .i64 ((doesM a (D j) (I j) (J j) (N j)).1)) (Y := Fx.rv .i64 ((doesM a (D j) (I j) (J j) (N j)).1)) 12 true rfl rfl rfl (Fx.yesb (fun _ _ => rfl)) (kdR (does_in64 _ _ _ _ _)) (kdR (does_in64 _ _ _ _ _)) rfl (by kernel_rfl) (by kernel_rfl) (by kernel_rfl) (by kernel_rfl) (by kernel_rfl)) rfl ?_
              refine Fx.L.val (v := .bool false) (by rfl) (Fx.x_pickF rfl rfl rfl) rfl ?_
              refine Fx.L.nil ?_
              refine Fx.seqN ?_
              refine Fx.W.cond (b := false) rfl (fun h => nomatch h) (fun _ => ?_)
              refine Fx.W.skip ?_
              refine Fx.seqN ?_
              refine Fx.W.seq ?_
              refine Fx.W.list ?_
              refine Fx.L.val (v := .int .i64 ((doesM a (D j) (I j) (J j) (N j)).2)) (by rfl) (Fx.x_move rfl q110) rfl ?_
              by_cases c85 : ((doesM a (D j) (I j) (J j) (N j)).2) = 0
              · refine Fx.L.val (v := .bool true) (by rfl) (Fx.x_eqlT rfl rfl rfl c85) rfl ?_
                refine Fx.L.nil ?_
                refine Fx.seqN ?_
                refine Fx.W.cond (b := true) rfl (fun _ => ?_) (fun h => nomatch h)
                refine Fx.W.list ?_
                refine Fx.L.val (v := .agg (Fx.varr 54 (Fx.rv .i64 ((doesM a (D j) (I j) (J j) (N j)).1)))) (by rfl) (Fx.x_loadA (x := Fx.rv .i64 ((doesM a (D j) (I j) (J j) (N j)).1)) (y := Fx.rv .i64 ((doesM a (D j) (I j) (J j) (N j)).1)) rfl q109 (by kernel_rfl) (by kernel_rfl) m65.cel (i := 0) (by omega) (by omega) (fun j _ => by rw [Nat.zero_add])) rfl ?_
                refine Fx.L.storeA (x := Fx.rv .i64 a) (y := Fx.rv .i64 ((doesM a (D j) (I j) (J j) (N j)).1)) (by rfl) rfl rfl q83 rfl (fun _ _ => rfl) (by kernel_rfl) m68 (i := 0) (by omega) fun w17 m71 s17 z7 => ?_
                have m72 : Fx.Blk w17 g4 54 (Fx.rv .i64 ((doesM a (D j) (I j) (J j) (N j)).1)) 48 := Fx.ovr_all m71
                have m73 : Fx.Blk w17 g2 54 (Fx.rv .i64 y) 48 := m66.stp s17 (by omega)
                have m74 : Fx.Blk w17 g3 108 (Fx.rv .i64 (pairR x)) 48 := m67.stp s17 (by omega)
                have m75 : Fx.Cel w17 b (off + 4 * j) 4 (stepY (D j) (I j) (J j) (N j)) := m69.stp s17 (by omega)
                have m76 : Fx.Blk w17 g7 54 (Fx.rv .i64 ((doesM a (D j) (I j) (J j) (N j)).1)) 48 := m70.stp s17 (by omega)
                have m77 : Fx.Blk w17 g8 54 (Fx.rv .i64 ((doesM a (D j) (I j) (J j) (N j)).1)) 48 := m65.stp s17 (by omega)
                have b20 : Below w.heap.size w w17 := s17.below b19 b19.size (by omega)
                refine Fx.L.nil ?_
                refine Fx.blkN ?_
                refine Fx.seqN ?_
                refine Fx.W.list ?_
                refine Fx.L.val (v := .int .i64 ((j : Int))) (by rfl) (Fx.x_move rfl q84) rfl ?_
                refine Fx.L.val (v := .int .i64 ((j : Int) + 1)) (by rfl) (Fx.x_add rfl rfl rfl (Fx.i64e (by omega) (by omega))) rfl ?_
                refine Fx.L.val (v := .int .i64 ((j : Int) + 1)) (by rfl) (Fx.x_assign rfl rfl) rfl ?_
                refine Fx.L.nil ?_
                refine Fx.lpN ⟨j + 1, (doesM a (D j) (I j) (J j) (N j)).1, by omega, (does_in64 _ _ _ _ _), q78, (q79.trans (by first | rfl | exact congrArg (Value.int .i64) (by omega))), q80, q81, (q82.trans (by first | rfl | exact congrArg (Value.int .i64) (by omega))), q83, (by first | rfl | exact congrArg (Value.int .i64) (by omega)), m73, m74, m72, b20⟩ ?_
                show (len - (intOf ((.int .i64 ((j : Int) + 1)))).toNat) < _
                simp only [h19, intOf]; omega
              · refine Fx.L.val (v := .bool false) (by rfl) (Fx.x_eqlF rfl rfl rfl c85) rfl ?_
                refine Fx.L.nil ?_
                refine Fx.seqN ?_
                refine Fx.W.cond (b := false) rfl (fun h => nomatch h) (fun _ => ?_)
                refine Fx.W.skip ?_
                refine Fx.blkN ?_
                refine Fx.seqN ?_
                refine Fx.W.list ?_
                refine Fx.L.val (v := .int .i64 ((j : Int))) (by rfl) (Fx.x_move rfl q84) rfl ?_
                refine Fx.L.val (v := .int .i64 ((j : Int) + 1)) (by rfl) (Fx.x_add rfl rfl rfl (Fx.i64e (by omega) (by omega))) rfl ?_
                refine Fx.L.val (v := .int .i64 ((j : Int) + 1)) (by rfl) (Fx.x_assign rfl rfl) rfl ?_
                refine Fx.L.nil ?_
                refine Fx.lpN ⟨j + 1, a, by omega, Ha, q78, (q79.trans (by first | rfl | exact congrArg (Value.int .i64) (by omega))), q80, q81, (q82.trans (by first | rfl | exact congrArg (Value.int .i64) (by omega))), q83, (by first | rfl | exact congrArg (Value.int .i64) (by omega)), m66, m67, m68, b19⟩ ?_
                show (len - (intOf ((.int .i64 ((j : Int) + 1)))).toNat) < _
                simp only [h19, intOf]; omega
        · refine Fx.L.val (v := .bool false) (by rfl) (Fx.x_lssF rfl rfl rfl c55) rfl ?_
          refine Fx.L.nil ?_
          refine Fx.seqN ?_
          refine Fx.W.cond (b := false) rfl (fun h => nomatch h) (fun _ => ?_)
          refine Fx.W.exit ?_
          refine Fx.seqX ?_
          refine Fx.lpX ?_
          refine Fx.blkX ?_
          refine Fx.seqN ?_
          refine Fx.W.seq ?_
          refine Fx.W.list ?_
          refine Fx.L.val (v := .agg (Fx.varr 54 (Fx.rv .i64 a))) (by rfl) (Fx.x_loadA (x := Fx.rv .i64 a) (y := Fx.rv .i64 a) rfl h18 (by kernel_rfl) (by kernel_rfl) m58.cel (i := 0) (by omega) (by omega) (fun j _ => by rw [Nat.zero_add])) rfl ?_
          refine Fx.L.call (by rfl) (Fx.r_call (args := [.agg (Fx.varr 54 (Fx.rv .i64 a))]) rfl rfl Try.func41 rfl rfl) rfl ((sums_any a _).mono ?_)
          rintro e w18 ⟨he, hb8⟩
          refine ⟨.tuple #[.int .i64 ((sums a).1), .int .i64 ((sums a).2)], by rw [he], ?_⟩
          clear he
          have s18 := Fx.Stp.of_below hb8
          have m78 : Fx.Blk w18 g2 54 (Fx.rv .i64 y) 48 := m56.stp s18 (Nat.ne_of_lt (m56.lt))
          have m79 : Fx.Blk w18 g3 108 (Fx.rv .i64 (pairR x)) 48 := m57.stp s18 (Nat.ne_of_lt (m57.lt))
          have m80 : Fx.Blk w18 g4 54 (Fx.rv .i64 a) 48 := m58.stp s18 (Nat.ne_of_lt (m58.lt))
          have b21 : Below w.heap.size w w18 := s18.below b17 b17.size b17.size
          refine Fx.L.val (v := .tuple #[.int .i64 ((sums a).1), .int .i64 ((sums a).2)]) (by rfl) (Fx.x_move rfl rfl) rfl ?_
          refine Fx.L.val (v := .int .i64 ((sums a).1)) (by rfl) (Fx.x_extract rfl rfl rfl) rfl ?_
          refine Fx.L.val (v := .int .i64 ((sums a).2)) (by rfl) (Fx.x_extract rfl rfl rfl) rfl ?_
          refine Fx.L.val (v := .int .i64 ((sums a).1)) (by rfl) (Fx.x_assign rfl rfl) rfl ?_
          refine Fx.L.val (v := .int .i64 ((sums a).2)) (by rfl) (Fx.x_assign rfl rfl) rfl ?_
          refine Fx.L.nil ?_
          refine Fx.seqN ?_
          refine Fx.W.seq ?_
          refine Fx.W.list ?_
          refine Fx.L.val (v := .agg (Fx.varr 54 (Fx.rv .i64 a))) (by rfl) (Fx.x_loadA (x := Fx.rv .i64 a) (y := Fx.rv .i64 a) rfl h18 (by kernel_rfl) (by kernel_rfl) m80.cel (i := 0) (by omega) (by omega) (fun j _ => by rw [Nat.zero_add])) rfl ?_
          refine Fx.L.call (by rfl) (Fx.r_call (args := [.agg (Fx.varr 54 (Fx.rv .i64 a))]) rfl rfl Try.func51 rfl rfl) rfl ((f7_sums a _).mono ?_)
          rintro e w19 ⟨he, hb9⟩
          refine ⟨.tuple #[.int .i64 ((sums a).1), .int .i64 ((sums a).2)], by rw [he], ?_⟩
          clear he
          have s19 := Fx.Stp.of_below hb9
          have m81 : Fx.Blk w19 g2 54 (Fx.rv .i64 y) 48 := m78.stp s19 (Nat.ne_of_lt (m78.lt))
          have m82 : Fx.Blk w19 g3 108 (Fx.rv .i64 (pairR x)) 48 := m79.stp s19 (Nat.ne_of_lt (m79.lt))
          have m83 : Fx.Blk w19 g4 54 (Fx.rv .i64 a) 48 := m80.stp s19 (Nat.ne_of_lt (m80.lt))
          have b22 : Below w.heap.size w w19 := s19.below b21 b21.size b21.size
          refine Fx.L.val (v := .tuple #[.int .i64 ((sums a).1), .int .i64 ((sums a).2)]) (by rfl) (Fx.x_move rfl rfl) rfl ?_
          refine Fx.L.val (v := .int .i64 ((sums a).1)) (by rfl) (Fx.x_extract rfl rfl rfl) rfl ?_
          refine Fx.L.val (v := .int .i64 ((sums a).2)) (by rfl) (Fx.x_extract rfl rfl rfl) rfl ?_
          refine Fx.L.val (v := .int .i64 ((sums a).1)) (by rfl) (Fx.x_assign rfl rfl) rfl ?_
          refine Fx.L.val (v := .int .i64 ((sums a).2)) (by rfl) (Fx.x_assign rfl rfl) rfl ?_
          refine Fx.L.nil ?_
          refine Fx.seqN ?_
          refine Fx.W.seq ?_
          -- region 21 draws
          refine Fx.W.quiet (fun v1 => Below w19.heap.size w19 v1) (by kernel_rfl) (by kernel_rfl) (Below.refl _ _).drew ?_
          refine Fx.Qt.val (v := .int .i64 ((sums a).1)) (by rfl) (fun v1 hv1 => Fx.x_move rfl rfl) rfl ?_
          refine Fx.Qt.val (v := .int .i64 ((sums a).1)) (by rfl) (fun v1 hv1 => Fx.x_move rfl rfl) rfl ?_
          refine Fx.Qt.val (v := .bool false) (by rfl) (fun v1 hv1 => Fx.x_neqF rfl rfl rfl rfl) rfl ?_
          refine Fx.Qt.val (v := .bool false) (by rfl) (fun v1 hv1 => Fx.x_move rfl rfl) rfl ?_
          refine Fx.Qt.val (v := .int .i64 ((sums a).2)) (by rfl) (fun v1 hv1 => Fx.x_move rfl rfl) rfl ?_
          refine Fx.Qt.val (v := .int .i64 ((sums a).2)) (by rfl) (fun v1 hv1 => Fx.x_move rfl rfl) rfl ?_
          refine Fx.Qt.val (v := .bool false) (by rfl) (fun v1 hv1 => Fx.x_neqF rfl rfl rfl rfl) rfl ?_
          refine Fx.Qt.val (v := .bool false) (by rfl) (fun v1 hv1 => Fx.x_pickF rfl rfl rfl) rfl ?_
          refine Fx.Qt.val (v := .bool false) (by rfl) (fun v1 hv1 => Fx.x_move rfl rfl) rfl ?_
          refine Fx.Qt.val (v := .agg (Fx.varr 54 (Fx.rv .i64 a))) (by rfl) (fun v1 hv1 => Fx.x_loadA (x := Fx.rv .i64 a) (y := Fx.rv .i64 a) rfl h18 (by kernel_rfl) (by kernel_rfl) (m83.cel.below hv1 (by have := m83.lt; omega)) (i := 0) (by omega) (by omega) (fun j _ => by rw [Nat.zero_add])) rfl ?_
          refine Fx.Qt.val (v := .int .i64 (i)) (by rfl) (fun v1 hv1 => Fx.x_move rfl h14) rfl ?_
          refine Fx.Qt.call (v := .int .i64 (localV a i)) (by rfl) (fun v1 hv1 => Fx.r_call (args := [.agg (Fx.varr 54 (Fx.rv .i64 a)), .int .i64 (i)]) rfl rfl Try.func43 rfl rfl) rfl (fun v1 hv1 => (localV_any a i _ hi).mono fun e v2 h => ⟨h.1, bch hv1 h.2⟩) ?_
          refine Fx.Qt.val (v := .agg (Fx.varr 54 (Fx.rv .i64 a))) (by rfl) (fun v1 hv1 => Fx.x_loadA (x := Fx.rv .i64 a) (y := Fx.rv .i64 a) rfl h18 (by kernel_rfl) (by kernel_rfl) (m83.cel.below hv1 (by have := m83.lt; omega)) (i := 0) (by omega) (by omega) (fun j _ => by rw [Nat.zero_add])) rfl ?_
          refine Fx.Qt.val (v := .int .i64 (i)) (by rfl) (fun v1 hv1 => Fx.x_move rfl h14) rfl ?_
          refine Fx.Qt.call (v := .int .i64 (localV a i)) (by rfl) (fun v1 hv1 => Fx.r_call (args := [.agg (Fx.varr 54 (Fx.rv .i64 a)), .int .i64 (i)]) rfl rfl Try.func52 rfl rfl) rfl (fun v1 hv1 => (f7_localV a i _).mono fun e v2 h => ⟨h.1, bch hv1 h.2⟩) ?_
          refine Fx.Qt.val (v := .bool false) (by rfl) (fun v1 hv1 => Fx.x_neqF rfl rfl rfl rfl) rfl ?_
          refine Fx.Qt.val (v := .bool false) (by rfl) (fun v1 hv1 => Fx.x_pickF rfl rfl rfl) rfl ?_
          refine Fx.Qt.nil ?_
          intro wb4 hbwb4
          have s20 : Fx.Stp w19.heap.size w19 wb4 := Fx.Stp.of_below hbwb4
          have m84 : Fx.Blk wb4 g2 54 (Fx.rv .i64 y) 48 := m81.stp s20 (by have := m81.lt; omega)
          have m85 : Fx.Blk wb4 g3 108 (Fx.rv .i64 (pairR x)) 48 := m82.stp s20 (by have := m82.lt; omega)
          have m86 : Fx.Blk wb4 g4 54 (Fx.rv .i64 a) 48 := m83.stp s20 (by have := m83.lt; omega)
          have b23 : Below w.heap.size w wb4 := s20.below b22 b22.size b22.size
          refine Fx.seqN ?_
          refine Fx.W.cond (b := false) rfl (fun h => nomatch h) (fun _ => ?_)
          refine Fx.W.skip ?_
          refine Fx.blkN ?_
          refine Fx.seqN ?_
          refine Fx.W.list ?_
          refine Fx.L.val (v := .int .i64 ((k : Int))) (by rfl) (Fx.x_move rfl h17) rfl ?_
          refine Fx.L.val (v := .int .i64 ((k : Int) + 1)) (by rfl) (Fx.x_add rfl rfl rfl (Fx.i64e (by omega) (by omega))) rfl ?_
          refine Fx.L.val (v := .int .i64 ((k : Int) + 1)) (by rfl) (Fx.x_assign rfl rfl) rfl ?_
          refine Fx.L.nil ?_
          refine Fx.lpN ⟨k + 1, by omega, h13, (h14.trans (by first | rfl | exact congrArg (Value.int .i64) (by omega))), h15, h16, (by first | rfl | exact congrArg (Value.int .i64) (by omega)), m84, m85, b23⟩ ?_
          show (2 - (intOf ((.int .i64 ((k : Int) + 1)))).toNat) < _
          simp only [h5, intOf]; omega
    · refine Fx.L.val (v := .bool false) (by rfl) (Fx.x_lssF rfl rfl rfl c31) rfl ?_
      refine Fx.L.nil ?_
      refine Fx.seqN ?_
      refine Fx.W.cond (b := false) rfl (fun h => nomatch h) (fun _ => ?_)
      refine Fx.W.exit ?_
      refine Fx.seqX ?_
      refine Fx.lpX ?_
      refine Fx.blkX ?_
      refine Fx.seqN ?_
      refine Fx.W.seq ?_
      refine Fx.W.list ?_
      refine Fx.L.call (by rfl) (Fx.r_call (args := []) rfl rfl Try.func40 rfl rfl) rfl ((works7_any _).mono ?_)
      rintro e w20 ⟨he, hb10⟩
      refine ⟨.bool true, by rw [he], ?_⟩
      clear he
      have s21 := Fx.Stp.of_below hb10
      have m87 : Fx.Blk w20 g2 54 (Fx.rv .i64 y) 48 := m10.stp s21 (Nat.ne_of_lt (m10.lt))
      have m88 : Fx.Blk w20 g3 108 (Fx.rv .i64 (pairR x)) 48 := m11.stp s21 (Nat.ne_of_lt (m11.lt))
      have b24 : Below w.heap.size w w20 := s21.below b5 b5.size b5.size
      refine Fx.L.val (v := .bool true) (by rfl) (Fx.x_assign rfl rfl) rfl ?_
      refine Fx.L.nil ?_
      refine Fx.seqN ?_
      refine Fx.W.ret ?_
      refine ⟨.bool true, Fx.retV1 Try.results10 (by exact rfl), ?_⟩
      exact ⟨rfl, b24⟩
end Go.Proofs.Ytolmkjepieoloaa
