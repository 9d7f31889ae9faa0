/-
  The walk of donor.Whom$1.
-/
import Derived.Test.Ytolmkjepieoloaa14A
import Derived.Test.YtolmkjepieoloaaSt
import Derived.Test.YtolmkjepieoloaaRSums
import Derived.Test.YtolmkjepieoloaaRJoin
namespace Go.Proofs.Ytolmkjepieoloaa
open Go.RowKit Rt
namespace Rt
def whomN (id : Nat → Int) (R : Nat → Nat → Int) (node j : Int) : Nat → Int
  | 0 => 0
  | k + 1 => if id k = node then mxI (whomN id R node j k) (localV (R k) j) else whomN id R node j k
def whomV (s : StM) (id : Nat → Int) (R : Nat → Nat → Int) (i node : Int) (q : Nat) : Int := if decide ((q : Int) + 1 = i) || !s.inn q || s.left q then 0 else whomN id R node ((q : Int) + 1) s.nn
/-- who has most, of the first ones -/
def bestN (v : Nat → Int) : Nat → Int × Int
  | 0 => (0, 0)
  | k + 1 => if (bestN v k).2 < v k then ((k : Int) + 1, v k) else bestN v k
def whomM (s : StM) (id : Nat → Int) (R : Nat → Nat → Int) (i node : Int) : Int := (bestN (whomV s id R i node) 6).1
end Rt
theorem ndY_one (id par : Int) (R : Nat → Int) : ∀ j, j < 56 → (ndY id par R j).oneCell' = true := fun j _ => by unfold ndY; split <;> (try split) <;> rfl
set_option maxRecDepth 10000 in
set_option maxHeartbeats 400000 in
theorem d_whom1 (s : StM) (id par : Nat → Int) (R : Nat → Nat → Int) (i node : Int) (q : Nat) (gi gs gn : Nat) (w : World) (hq : q < 6) (hnn : s.nn ≤ 1000000) (hi : Fx.Blk w gi 1 (fun _ => .int .i64 (i)) 3) (hs : Fx.Blk w gs 20 (stY s) 43) (hn : Fx.Blk w gn 1 (fun _ => .int .u64 (node)) 27) (hnd : Nds w s.na s.nn id par R) :
    Calls Try.prog 73 #[.int .i64 ((q : Int) + 1), .pointer (some ⟨gi, 0, none⟩), .pointer (some ⟨gs, 0, none⟩), .pointer (some ⟨gn, 0, none⟩)] w fun e w' => e = .returned (.int .i64 (whomV s id R i node q)) ∧ Below w.heap.size w w' := by
  refine Fx.enter Try.func73 rfl (n := 45) rfl (by rfl) ?_
  refine Fx.W.seq ?_
  refine Fx.W.list ?_
  refine Fx.L.val (v := .int .i64 (0)) (by rfl) (Fx.x_assign rfl rfl) rfl ?_
  refine Fx.L.nil ?_
  refine Fx.seqN ?_
  refine Fx.W.seq ?_
  refine Fx.W.seq ?_
  refine Fx.W.list ?_
  refine Fx.L.val (v := .int .i64 ((q : Int) + 1)) (by rfl) (Fx.x_move rfl rfl) rfl ?_
  refine Fx.L.val (v := .int .i64 (i)) (by rfl) (Fx.x_load1 (x := fun _ => .int .i64 (i)) rfl rfl (by kernel_rfl) hi.cel (i := 0) (by omega) (by omega) rfl) rfl ?_
  by_cases c10 : ((q : Int) + 1) = i
  · refine Fx.L.val (v := .bool true) (by rfl) (Fx.x_eqlT rfl rfl rfl c10) rfl ?_
    refine Fx.L.val (v := .bool true) (by rfl) (Fx.x_move rfl rfl) rfl ?_
    refine Fx.L.skip (by rfl) rfl ?_
    refine Fx.L.skip (by rfl) rfl ?_
    refine Fx.L.skip (by rfl) rfl ?_
    refine Fx.L.skip (by rfl) rfl ?_
    refine Fx.L.skip (by rfl) rfl ?_
    refine Fx.L.skip (by rfl) rfl ?_
    refine Fx.L.val (v := .bool true) (by rfl) (Fx.x_pickT rfl rfl rfl) rfl ?_
    refine Fx.L.val (v := .bool true) (by rfl) (Fx.x_move rfl rfl) rfl ?_
    refine Fx.L.skip (by rfl) rfl ?_
    refine Fx.L.skip (by rfl) rfl ?_
    refine Fx.L.skip (by rfl) rfl ?_
    refine Fx.L.skip (by rfl) rfl ?_
    refine Fx.L.skip (by rfl) rfl ?_
    refine Fx.L.val (v := .bool true) (by rfl) (Fx.x_pickT rfl rfl rfl) rfl ?_
    refine Fx.L.nil ?_
    refine Fx.seqN ?_
    refine Fx.W.cond (b := true) rfl (fun _ => ?_) (fun h => nomatch h)
    refine Fx.W.seq ?_
    refine Fx.W.list ?_
    refine Fx.L.val (v := .int .i64 (0)) (by rfl) (Fx.x_assign rfl rfl) rfl ?_
    refine Fx.L.nil ?_
    refine Fx.seqN ?_
    refine Fx.W.ret ?_
    refine Fx.seqR ?_
    refine ⟨.int .i64 (0), Fx.retV1 Try.results73 (by exact rfl), ?_⟩
    refine ⟨congrArg (fun q => Ending.returned (Value.int .i64 q)) (Eq.symm ?_), (Below.refl w.heap.size w)⟩
    unfold whomV; rw [decide_eq_true c10]; rfl
  · refine Fx.L.val (v := .bool false) (by rfl) (Fx.x_eqlF rfl rfl rfl c10) rfl ?_
    refine Fx.L.val (v := .bool false) (by rfl) (Fx.x_move rfl rfl) rfl ?_
    refine Fx.L.val (v := .int .i64 ((q : Int) + 1)) (by rfl) (Fx.x_move rfl rfl) rfl ?_
    refine Fx.L.val (v := .int .i64 ((q : Int))) (by rfl) (Fx.x_sub rfl rfl rfl (Fx.i64e (by omega) (by omega))) rfl ?_
    refine Fx.L.val (v := .pointer (some ⟨gs, 0, none⟩)) (by rfl) (Fx.x_field rfl rfl Try.underlying43 rfl (s := 6) (by kernel_rfl) rfl rfl) rfl ?_
    refine Fx.L.val (v := .pointer (some ⟨gs, q, none⟩)) (by rfl) (Fx.x_index rfl rfl rfl Try.underlying39 (s := 1) (by kernel_rfl) (by omega) (by omega) (by omega)) rfl ?_
    by_cases c16 : (s.inn q) = true
    · refine Fx.L.val (v := .bool true) (by rfl) (Fx.x_load1 (x := stY s) rfl rfl (by kernel_rfl) hs.cel (i := q) (by omega) (by omega) ((stY_in _ (by omega)).trans (congrArg Value.bool c16))) rfl ?_
      refine Fx.L.val (v := .bool false) (by rfl) (Fx.x_notF rfl rfl) rfl ?_
      refine Fx.L.val (v := .bool false) (by rfl) (Fx.x_pickF rfl rfl rfl) rfl ?_
      refine Fx.L.val (v := .bool false) (by rfl) (Fx.x_move rfl rfl) rfl ?_
      refine Fx.L.val (v := .int .i64 ((q : Int) + 1)) (by rfl) (Fx.x_move rfl rfl) rfl ?_
      refine Fx.L.val (v := .int .i64 ((q : Int))) (by rfl) (Fx.x_sub rfl rfl rfl (Fx.i64e (by omega) (by omega))) rfl ?_
      refine Fx.L.val (v := .pointer (some ⟨gs, 6, none⟩)) (by rfl) (Fx.x_field rfl rfl Try.underlying43 rfl (s := 6) (by kernel_rfl) rfl (by show _ + 6 = _; omega)) rfl ?_
      refine Fx.L.val (v := .pointer (some ⟨gs, q + 6, none⟩)) (by rfl) (Fx.x_index rfl rfl rfl Try.underlying39 (s := 1) (by kernel_rfl) (by omega) (by omega) (by omega)) rfl ?_
      by_cases c24 : (s.left q) = true
      · refine Fx.L.val (v := .bool true) (by rfl) (Fx.x_load1 (x := stY s) rfl rfl (by kernel_rfl) hs.cel (i := q + 6) (by omega) (by omega) ((stY_left _ (by omega) (by omega)).trans (congrArg Value.bool c24))) rfl ?_
        refine Fx.L.val (v := .bool true) (by rfl) (Fx.x_pickF rfl rfl rfl) rfl ?_
        refine Fx.L.nil ?_
        refine Fx.seqN ?_
        refine Fx.W.cond (b := true) rfl (fun _ => ?_) (fun h => nomatch h)
        refine Fx.W.seq ?_
        refine Fx.W.list ?_
        refine Fx.L.val (v := .int .i64 (0)) (by rfl) (Fx.x_assign rfl rfl) rfl ?_
        refine Fx.L.nil ?_
        refine Fx.seqN ?_
        refine Fx.W.ret ?_
        refine Fx.seqR ?_
        refine ⟨.int .i64 (0), Fx.retV1 Try.results73 (by exact rfl), ?_⟩
        refine ⟨congrArg (fun q => Ending.returned (Value.int .i64 q)) (Eq.symm ?_), (Below.refl w.heap.size w)⟩
        unfold whomV; rw [c24]; simp
      · rw [Bool.not_eq_true] at c24
        refine Fx.L.val (v := .bool false) (by rfl) (Fx.x_load1 (x := stY s) rfl rfl (by kernel_rfl) hs.cel (i := q + 6) (by omega) (by omega) ((stY_left _ (by omega) (by omega)).trans (congrArg Value.bool c24))) rfl ?_
        refine Fx.L.val (v := .bool false) (by rfl) (Fx.x_pickF rfl rfl rfl) rfl ?_
        refine Fx.L.nil ?_
        refine Fx.seqN ?_
        refine Fx.W.cond (b := false) rfl (fun h => nomatch h) (fun _ => ?_)
        refine Fx.W.skip ?_
        refine Fx.seqN ?_
        refine Fx.W.seq ?_
        refine Fx.W.seq ?_
        refine Fx.W.list ?_
        refine Fx.L.val (v := .pointer (some ⟨gs, 18, none⟩)) (by rfl) (Fx.x_field rfl rfl Try.underlying43 rfl (s := 1) (by kernel_rfl) rfl (by show _ + 18 = _; omega)) rfl ?_
        refine Fx.L.val (v := .slice s.na (s.nn) (s.nc)) (by rfl) (Fx.x_load1 (x := stY s) rfl rfl (by kernel_rfl) hs.cel (i := 18) (by omega) (by omega) rfl) rfl ?_
        refine Fx.L.val (v := .int .i64 ((s.nn : Int))) (by rfl) (Fx.x_len rfl rfl rfl (by rfl)) rfl ?_
        refine Fx.L.val (v := .int .i64 (0)) (by rfl) (Fx.x_move rfl rfl) rfl ?_
        refine Fx.L.nil ?_
        refine Fx.seqN ?_
        refine Fx.W.block ?_
        refine Fx.W.loop (fun f w_ => ∃ k : Nat, k ≤ s.nn ∧ f 0 = .int .i64 ((q : Int) + 1) ∧ f 1 = .pointer (some ⟨gi, 0, none⟩) ∧ f 2 = .pointer (some ⟨gs, 0, none⟩) ∧ f 3 = .pointer (some ⟨gn, 0, none⟩) ∧ f 5 = .int .i64 (whomN id R node ((q : Int) + 1) k) ∧ f 27 = .slice s.na (s.nn) (s.nc) ∧ f 28 = .int .i64 ((s.nn : Int)) ∧ f 29 = .int .i64 ((k : Int)) ∧ Fx.Blk w_ gi 1 (fun _ => .int .i64 (i)) 3 ∧ Fx.Blk w_ gs 20 (stY s) 43 ∧ Fx.Blk w_ gn 1 (fun _ => .int .u64 (node)) 27 ∧ Below w.heap.size w w_) (fun f _ => (s.nn - (intOf (f 29)).toNat)) ⟨0, by omega, (by first | rfl | exact congrArg (Value.int .i64) (by omega)), (by rfl), (by rfl), (by rfl), (by rfl), (by rfl), (by first | rfl | exact congrArg (Value.int .i64) (by omega)), (by first | rfl | exact congrArg (Value.int .i64) (by omega)), hi, hs, hn, (Below.refl w.heap.size w)⟩ ?_
        rintro f1 w1 ⟨k, hk, h1, h2, h3, h4, h5, h6, h7, h8, m1, m2, m3, b1⟩
        have HN : whomN id R node ((q : Int) + 1) (k + 1) = if id k = node then mxI (whomN id R node ((q : Int) + 1) k) (localV (R k) ((q : Int) + 1)) else whomN id R node ((q : Int) + 1) k := rfl
        refine Fx.W.seq ?_
        refine Fx.W.list ?_
        by_cases c30 : (k : Int) < (s.nn : Int)
        · refine Fx.L.val (v := .bool true) (by rfl) (Fx.x_lssT rfl h8 h7 c30) rfl ?_
          refine Fx.L.nil ?_
          refine Fx.seqN ?_
          refine Fx.W.seq ?_
          refine Fx.W.cond (b := true) rfl (fun _ => ?_) (fun h => nomatch h)
          refine Fx.W.skip ?_
          refine Fx.seqN ?_
          refine Fx.W.seq ?_
          refine Fx.W.block ?_
          refine Fx.W.seq ?_
          obtain ⟨b, off, ea, hc⟩ := hnd k (by omega)
          have lb : b < w.heap.size := hc.lt (by omega)
          have m4 := hc.below b1 lb
          refine Fx.W.list ?_
          refine Fx.L.val (v := .pointer (some ⟨b, 56 * k + off, none⟩)) (by rfl) (Fx.x_indexS rfl (h6.trans (congrArg (fun q => Value.slice q (s.nn) (s.nc)) ea)) h8 Try.underlying40 (s := 56) (by kernel_rfl) (by omega) (by omega) (by omega)) rfl ?_
          refine Fx.L.val (v := .agg (Fx.varr 56 (ndY (id k) (par k) (R k)))) (by rfl) (Fx.x_loadA (x := ndY (id k) (par k) (R k)) (y := ndY (id k) (par k) (R k)) rfl rfl (by kernel_rfl) (by kernel_rfl) m4 (i := 0) (by omega) (by omega) (fun j _ => by rw [Nat.zero_add])) rfl ?_
          refine Fx.L.new (m := 56) (y := fun i => (#[.int .u64 (0), .int .u64 (0), .int .i64 (0), .int .i64 (0), .int .i64 (0), .int .i64 (0), .int .i64 (0), .int .i64 (0), .int .i64 (0), .int .i64 (0), .int .i64 (0), .int .i64 (0), .int .i64 (0), .int .i64 (0), .int .i64 (0), .int .i64 (0), .int .i64 (0), .int .i64 (0), .int .i64 (0), .int .i64 (0), .int .i64 (0), .int .i64 (0), .int .i64 (0), .int .i64 (0), .int .i64 (0), .int .i64 (0), .int .i64 (0), .int .i64 (0), .int .i64 (0), .int .i64 (0), .int .i64 (0), .int .i64 (0), .int .i64 (0), .int .i64 (0), .int .i64 (0), .int .i64 (0), .int .i64 (0), .int .i64 (0), .int .i64 (0), .int .i64 (0), .int .i64 (0), .int .i64 (0), .int .i64 (0), .int .i64 (0), .int .i64 (0), .int .i64 (0), .int .i64 (0), .int .i64 (0), .int .i64 (0), .int .i64 (0), .int .i64 (0), .int .i64 (0), .int .i64 (0), .int .i64 (0), .int .i64 (0), .int .i64 (0)] : Array Value).getD i undef) (by rfl) rfl (by kernel_rfl) rfl fun g1 w2 eg1 m5 s1 z1 => ?_
          have m6 : Fx.Blk w2 gi 1 (fun _ => .int .i64 (i)) 3 := m1.stp s1 (Nat.ne_of_lt (m1.lt))
          have m7 : Fx.Blk w2 gs 20 (stY s) 43 := m2.stp s1 (Nat.ne_of_lt (m2.lt))
          have m8 : Fx.Blk w2 gn 1 (fun _ => .int .u64 (node)) 27 := m3.stp s1 (Nat.ne_of_lt (m3.lt))
          have m9 : Fx.Cel w2 b (off + 56 * k) 56 (ndY (id k) (par k) (R k)) := m4.stp s1 (Nat.ne_of_lt (m4.lt (by omega)))
          have b2 : Below w.heap.size w w2 := s1.below b1 b1.size b1.size
          have lg1 : w.heap.size ≤ g1 := by rw [eg1]; exact b1.size
          have ng1m6 : gi ≠ g1 := by rw [eg1]; exact Nat.ne_of_lt (m1.lt)
          have ng1m7 : gs ≠ g1 := by rw [eg1]; exact Nat.ne_of_lt (m2.lt)
          have ng1m8 : gn ≠ g1 := by rw [eg1]; exact Nat.ne_of_lt (m3.lt)
          have ng1m9 : b ≠ g1 := by rw [eg1]; exact Nat.ne_of_lt (m4.lt (by omega))
          have tg1 : g1 < w2.heap.size := m5.lt
          clear eg1
          refine Fx.L.storeA (x := fun i => (#[.int .u64 (0), .int .u64 (0), .int .i64 (0), .int .i64 (0), .int .i64 (0), .int .i64 (0), .int .i64 (0), .int .i64 (0), .int .i64 (0), .int .i64 (0), .int .i64 (0), .int .i64 (0), .int .i64 (0), .int .i64 (0), .int .i64 (0), .int .i64 (0), .int .i64 (0), .int .i64 (0), .int .i64 (0), .int .i64 (0), .int .i64 (0), .int .i64 (0), .int .i64 (0), .int .i64 (0), .int .i64 (0), .int .i64 (0), .int .i64 (0), .int .i64 (0), .int .i64 (0), .int .i64 (0), .int .i64 (0), .int .i64 (0), .int .i64 (0), .int .i64 (0), .int .i64 (0), .int .i64 (0), .int .i64 (0), .int .i64 (0), .int .i64 (0), .int .i64 (0), .int .i64 (0), .int .i64 (0), .int .i64 (0), .int .i64 (0), .int .i64 (0), .int .i64 (0), .int .i64 (0), .int .i64 (0), .int .i64 (0), .int .i64 (0), .int .i64 (0), .int .i64 (0), .int .i64 (0), .int .i64 (0), .int .i64 (0), .int .i64 (0)] : Array Value).getD i undef) (y := ndY (id k) (par k) (R k)) (by rfl) rfl rfl rfl rfl (ndY_one _ _ _) (by kernel_rfl) m5 (i := 0) (by omega) fun w3 m10 s2 z2 => ?_
          have m11 : Fx.Blk w3 g1 56 (ndY (id k) (par k) (R k)) 50 := Fx.ovr_all m10
          have m12 : Fx.Blk w3 gi 1 (fun _ => .int .i64 (i)) 3 := m6.stp s2 (by omega)
          have m13 : Fx.Blk w3 gs 20 (stY s) 43 := m7.stp s2 (by omega)
          have m14 : Fx.Blk w3 gn 1 (fun _ => .int .u64 (node)) 27 := m8.stp s2 (by omega)
          have m15 : Fx.Cel w3 b (off + 56 * k) 56 (ndY (id k) (par k) (R k)) := m9.stp s2 (by omega)
          have b3 : Below w.heap.size w w3 := s2.below b2 b2.size (by omega)
          refine Fx.L.nil ?_
          refine Fx.seqN ?_
          refine Fx.W.seq ?_
          refine Fx.W.list ?_
          refine Fx.L.val (v := .pointer (some ⟨g1, 0, none⟩)) (by rfl) (Fx.x_field rfl rfl Try.underlying50 rfl (s := 1) (by kernel_rfl) rfl rfl) rfl ?_
          refine Fx.L.val (v := .int .u64 (id k)) (by rfl) (Fx.x_load1 (x := ndY (id k) (par k) (R k)) rfl rfl (by kernel_rfl) m11.cel (i := 0) (by omega) (by omega) rfl) rfl ?_
          refine Fx.L.val (v := .int .u64 (node)) (by rfl) (Fx.x_load1 (x := fun _ => .int .u64 (node)) rfl h4 (by kernel_rfl) m14.cel (i := 0) (by omega) (by omega) rfl) rfl ?_
          by_cases c36 : (id k) = node
          · refine Fx.L.val (v := .bool true) (by rfl) (Fx.x_eqlT rfl rfl rfl c36) rfl ?_
            refine Fx.L.nil ?_
            refine Fx.seqN ?_
            refine Fx.W.cond (b := true) rfl (fun _ => ?_) (fun h => nomatch h)
            refine Fx.W.list ?_
            refine Fx.L.val (v := .int .i64 (whomN id R node ((q : Int) + 1) k)) (by rfl) (Fx.x_move rfl h5) rfl ?_
            refine Fx.L.val (v := .pointer (some ⟨g1, 2, none⟩)) (by rfl) (Fx.x_field rfl rfl Try.underlying50 rfl (s := 54) (by kernel_rfl) rfl (by show _ + 2 = _; omega)) rfl ?_
            refine Fx.L.val (v := .agg (Fx.varr 54 (Fx.rv .i64 (R k)))) (by rfl) (Fx.x_loadA (x := ndY (id k) (par k) (R k)) (y := Fx.rv .i64 (R k)) rfl rfl (by kernel_rfl) (by kernel_rfl) m11.cel (i := 2) (by omega) (by omega) (fun q _ => ndY_row _ _ _ q)) rfl ?_
            refine Fx.L.val (v := .int .i64 ((q : Int) + 1)) (by rfl) (Fx.x_move rfl h1) rfl ?_
            refine Fx.L.call (by rfl) (Fx.r_call (args := [.agg (Fx.varr 54 (Fx.rv .i64 (R k))), .int .i64 ((q : Int) + 1)]) rfl rfl Try.func43 rfl rfl) rfl ((localV_any (R k) ((q : Int) + 1) _ (by omega)).mono ?_)
            rintro e w4 ⟨he, hb1⟩
            refine ⟨.int .i64 (localV (R k) ((q : Int) + 1)), by rw [he], ?_⟩
            clear he
            have s3 := Fx.Stp.of_below hb1
            have m16 : Fx.Blk w4 gi 1 (fun _ => .int .i64 (i)) 3 := m12.stp s3 (Nat.ne_of_lt (m12.lt))
            have m17 : Fx.Blk w4 gs 20 (stY s) 43 := m13.stp s3 (Nat.ne_of_lt (m13.lt))
            have m18 : Fx.Blk w4 gn 1 (fun _ => .int .u64 (node)) 27 := m14.stp s3 (Nat.ne_of_lt (m14.lt))
            have m19 : Fx.Cel w4 b (off + 56 * k) 56 (ndY (id k) (par k) (R k)) := m15.stp s3 (Nat.ne_of_lt (m15.lt (by omega)))
            have m20 : Fx.Blk w4 g1 56 (ndY (id k) (par k) (R k)) 50 := m11.stp s3 (Nat.ne_of_lt (m11.lt))
            have b4 : Below w.heap.size w w4 := s3.below b3 b3.size b3.size
            refine Fx.L.val (v := .int .i64 (mxI (whomN id R node ((q : Int) + 1) k) (localV (R k) ((q : Int) + 1)))) (by rfl) (Fx.x_max rfl rfl rfl) rfl ?_
            refine Fx.L.val (v := .int .i64 (mxI (whomN id R node ((q : Int) + 1) k) (localV (R k) ((q : Int) + 1)))) (by rfl) (Fx.x_assign rfl rfl) rfl ?_
            refine Fx.L.nil ?_
            refine Fx.blkN ?_
            refine Fx.seqN ?_
            refine Fx.W.list ?_
            refine Fx.L.val (v := .int .i64 ((k : Int) + 1)) (by rfl) (Fx.x_add rfl h8 rfl (Fx.i64e (by omega) (by omega))) rfl ?_
            refine Fx.L.val (v := .int .i64 ((k : Int) + 1)) (by rfl) (Fx.x_move rfl rfl) rfl ?_
            refine Fx.L.nil ?_
            refine Fx.lpN ⟨k + 1, by omega, (h1.trans (by first | rfl | exact congrArg (Value.int .i64) (by omega))), h2, h3, h4, (congrArg (Value.int .i64) (by rw [HN, if_pos c36])), h6, (h7.trans (by first | rfl | exact congrArg (Value.int .i64) (by omega))), (by first | rfl | exact congrArg (Value.int .i64) (by omega)), m16, m17, m18, b4⟩ ?_
            show (s.nn - (intOf ((.int .i64 ((k : Int) + 1)))).toNat) < _
            simp only [h8, intOf]; omega
          · refine Fx.L.val (v := .bool false) (by rfl) (Fx.x_eqlF rfl rfl rfl c36) rfl ?_
            refine Fx.L.nil ?_
            refine Fx.seqN ?_
            refine Fx.W.cond (b := false) rfl (fun h => nomatch h) (fun _ => ?_)
            refine Fx.W.skip ?_
            refine Fx.blkN ?_
            refine Fx.seqN ?_
            refine Fx.W.list ?_
            refine Fx.L.val (v := .int .i64 ((k : Int) + 1)) (by rfl) (Fx.x_add rfl h8 rfl (Fx.i64e (by omega) (by omega))) rfl ?_
            refine Fx.L.val (v := .int .i64 ((k : Int) + 1)) (by rfl) (Fx.x_move rfl rfl) rfl ?_
            refine Fx.L.nil ?_
            refine Fx.lpN ⟨k + 1, by omega, (h1.trans (by first | rfl | exact congrArg (Value.int .i64) (by omega))), h2, h3, h4, (h5.trans (congrArg (Value.int .i64) (by rw [HN, if_neg c36]))), h6, (h7.trans (by first | rfl | exact congrArg (Value.int .i64) (by omega))), (by first | rfl | exact congrArg (Value.int .i64) (by omega)), m12, m13, m14, b3⟩ ?_
            show (s.nn - (intOf ((.int .i64 ((k : Int) + 1)))).toNat) < _
            simp only [h8, intOf]; omega
        · refine Fx.L.val (v := .bool false) (by rfl) (Fx.x_lssF rfl h8 h7 c30) rfl ?_
          refine Fx.L.nil ?_
          refine Fx.seqN ?_
          refine Fx.W.seq ?_
          refine Fx.W.cond (b := false) rfl (fun h => nomatch h) (fun _ => ?_)
          refine Fx.W.exit ?_
          refine Fx.seqX ?_
          refine Fx.lpX ?_
          refine Fx.blkX ?_
          refine Fx.seqN ?_
          refine Fx.W.seq ?_
          refine Fx.W.list ?_
          refine Fx.L.val (v := .int .i64 (whomN id R node ((q : Int) + 1) k)) (by rfl) (Fx.x_move rfl h5) rfl ?_
          refine Fx.L.val (v := .int .i64 (whomN id R node ((q : Int) + 1) k)) (by rfl) (Fx.x_assign rfl rfl) rfl ?_
          refine Fx.L.nil ?_
          refine Fx.seqN ?_
          refine Fx.W.ret ?_
          refine ⟨.int .i64 (whomN id R node ((q : Int) + 1) k), Fx.retV1 Try.results73 (by exact rfl), ?_⟩
          refine ⟨congrArg (fun q => Ending.returned (Value.int .i64 q)) (Eq.symm ?_), b1⟩
          have ek : k = s.nn := by omega
          unfold whomV; rw [decide_eq_false c10, c16, c24, ek]; rfl
    · rw [Bool.not_eq_true] at c16
      refine Fx.L.val (v := .bool false) (by rfl) (Fx.x_load1 (x := stY s) rfl rfl (by kernel_rfl) hs.cel (i := q) (by omega) (by omega) ((stY_in _ (by omega)).trans (congrArg Value.bool c16))) rfl ?_
      refine Fx.L.val (v := .bool true) (by rfl) (Fx.x_notT rfl rfl) rfl ?_
      refine Fx.L.val (v := .bool true) (by rfl) (Fx.x_pickF rfl rfl rfl) rfl ?_
      refine Fx.L.val (v := .bool true) (by rfl) (Fx.x_move rfl rfl) rfl ?_
      refine Fx.L.skip (by rfl) rfl ?_
      refine Fx.L.skip (by rfl) rfl ?_
      refine Fx.L.skip (by rfl) rfl ?_
      refine Fx.L.skip (by rfl) rfl ?_
      refine Fx.L.skip (by rfl) rfl ?_
      refine Fx.L.val (v := .bool true) (by rfl) (Fx.x_pickT rfl rfl rfl) rfl ?_
      refine Fx.L.nil ?_
      refine Fx.seqN ?_
      refine Fx.W.cond (b := true) rfl (fun _ => ?_) (fun h => nomatch h)
      refine Fx.W.seq ?_
      refine Fx.W.list ?_
      refine Fx.L.val (v := .int .i64 (0)) (by rfl) (Fx.x_assign rfl rfl) rfl ?_
      refine Fx.L.nil ?_
      refine Fx.seqN ?_
      refine Fx.W.ret ?_
      refine Fx.seqR ?_
      refine ⟨.int .i64 (0), Fx.retV1 Try.results73 (by exact rfl), ?_⟩
      refine ⟨congrArg (fun q => Ending.returned (Value.int .i64 q)) (Eq.symm ?_), (Below.refl w.heap.size w)⟩
      unfold whomV; rw [c16]; simp
end Go.Proofs.Ytolmkjepieoloaa
