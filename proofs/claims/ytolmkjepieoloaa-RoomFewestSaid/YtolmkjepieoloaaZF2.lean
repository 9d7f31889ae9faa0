/-
  What the proof of the law rests on, part 2: walks of functions, and plain laws; each says its conditions itself.
-/
import Derived.Test.YtolmkjepieoloaaZF1
namespace Go.Proofs.Ytolmkjepieoloaa
open Go.RowKit Rt
open Fx (x_move x_assign x_field x_load1 x_pickF x_pickT x_nil x_conv x_indexS x_index x_leqF x_loadA x_len x_gtrF x_build x_eqlF x_eqlT)
namespace Rt
def lateE (K : Nat → Int) (v : EvM) : Bool := mayE v && decide (v.seq ≤ K (v.o - 1).toNat)
def leAll (D K : Nat → Int) : Bool := (List.range 6).all fun i => decide (D i ≤ K i)
def readyE (K : Nat → Int) (v : EvM) : Bool := mayE v && decide (v.seq = K (v.o - 1).toNat + 1) && leAll v.deps K
theorem leAll_no {D K : Nat → Int} {k : Nat} (hk : k < 6) (h : K k < D k) : leAll D K = false := by
  unfold leAll; rw [List.all_eq_false]; exact ⟨k, List.mem_range.2 hk, by simp; omega⟩
theorem leAll_yes {D K : Nat → Int} {k : Nat} (hk : ¬ (k : Int) < 6) (h : ∀ i, i < k → D i ≤ K i) : leAll D K = true := by
  unfold leAll; rw [List.all_eq_true]; intro i hi; have := List.mem_range.1 hi; simp; exact h i (by omega)
theorem le_step {D K : Nat → Int} {k : Nat} (h : ∀ i, i < k → D i ≤ K i) (hk : ¬ K k < D k) : ∀ i, i < k + 1 → D i ≤ K i := fun i hi => by
  by_cases e : i = k
  · subst e; omega
  · exact h i (by omega)
def KnOk (K : Nat → Int) : Prop := ∀ i, i < 6 → 0 ≤ K i ∧ K i < 1099511627776
theorem may_seq {v : EvM} (h : mayE v = true) : 1 ≤ v.seq ∧ v.seq < 1099511627776 := by
  unfold mayE at h; simp only [Bool.and_eq_true, decide_eq_true_eq] at h; exact ⟨h.1.1.1.1.1.2, h.1.1.1.1.2⟩
end Rt
theorem e_late (K : Nat → Int) (v : EvM) (w : World) (hv : EvWf v) :
    Calls Try.prog 101 #[.agg (Fx.varr 6 (Fx.rv .u64 K)), .agg (Fx.varr 14 (evY v))] w fun e w' => e = .returned (.bool (lateE K v)) ∧ Below w.heap.size w w' := by
 refine Fx.enter Try.func101 rfl (n := 17) rfl (by rfl) ?_
 refine Fx.W.seq (Fx.W.list (Fx.L.box (m := 6) (y := Fx.rv .u64 K) (by rfl) rfl rfl (Fx.cells_agg _ _) rfl fun g1 w1 eg1 m1 s1 z1 => ?_))
 have b1 := s1.below (Below.refl w.heap.size w) (Below.refl w.heap.size w).size (Below.refl w.heap.size w).size
 have lg1 : w.heap.size ≤ g1 := by rw [eg1]; exact (Below.refl w.heap.size w).size
 have tg1 : g1 < w1.heap.size := m1.lt
 clear eg1
 refine Fx.L.box (m := 14) (y := evY v) (by rfl) rfl rfl (Fx.cells_agg _ _) rfl fun g2 w2 eg2 m2 s2 z2 => ?_
 have m3 := m1.stp s2 (Nat.ne_of_lt (m1.lt))
 have b2 := s2.below b1 b1.size b1.size
 have lg2 : w.heap.size ≤ g2 := by rw [eg2]; exact b1.size
 have ng2m3 : g1 ≠ g2 := by rw [eg2]; exact Nat.ne_of_lt (m1.lt)
 have tg2 : g2 < w2.heap.size := m2.lt
 clear eg2
 refine Fx.L.v (.bool false) (x_assign rfl rfl) (Fx.L.nil (Fx.seqN (Fx.W.seq ?_)))
 -- region 1 draws
 refine Fx.W.quiet (fun v1 => Below w2.heap.size w2 v1) (by kernel_rfl) (by kernel_rfl) (Below.refl _ _).drew ?_
 refine Fx.Qt.v (.agg (Fx.varr 14 (evY v))) (fun v1 hv1 => x_loadA (x := evY v) (y := evY v) rfl rfl (by kernel_rfl) (by kernel_rfl) (m2.cel.below hv1 (by have := m2.lt; omega)) (i := 0) (by omega) (by omega) (fun j _ => by rw [Nat.zero_add])) ?_
 by_cases c6 : (mayE v) = true
 ·obtain ⟨a, ha, ea⟩ := regE_nat (may_reg c6)
  refine Fx.Qt.call (v := .bool true) (by rfl) (fun v1 hv1 => Fx.r_call (args := [.agg (Fx.varr 14 (evY v))]) rfl rfl Try.func100 rfl rfl) rfl (fun v1 hv1 => (e_may v _ hv).mono fun e v2 h => ⟨by rw [h.1, c6], bch hv1 h.2⟩) ?_
  refine Fx.Qt.v (.bool true) (fun v1 hv1 => x_move rfl rfl) (Fx.Qt.v (.pointer (some ⟨g2, 1, none⟩)) (fun v1 hv1 => x_field rfl rfl Try.underlying54 rfl (s := 1) (by kernel_rfl) rfl (by show _ + 1 = _; omega)) (Fx.Qt.v (.int .u64 (v.seq)) (fun v1 hv1 => x_load1 (x := evY v) rfl rfl (by kernel_rfl) (m2.cel.below hv1 (by have := m2.lt; omega)) (i := 1) (by omega) (by omega) rfl) (Fx.Qt.v (.pointer (some ⟨g2, 0, none⟩)) (fun v1 hv1 => x_field rfl rfl Try.underlying54 rfl (s := 1) (by kernel_rfl) rfl rfl) (Fx.Qt.v (.int .i64 (v.o)) (fun v1 hv1 => x_load1 (x := evY v) rfl rfl (by kernel_rfl) (m2.cel.below hv1 (by have := m2.lt; omega)) (i := 0) (by omega) (by omega) rfl) (Fx.Qt.v (.int .i64 ((a : Int))) (fun v1 hv1 => Fx.x_sub rfl rfl rfl (Fx.i64e (by omega) (by omega))) (Fx.Qt.v (.pointer (some ⟨g1, a, none⟩)) (fun v1 hv1 => x_index rfl rfl rfl Try.underlying29 (s := 1) (by kernel_rfl) (by omega) (by omega) (by omega)) (Fx.Qt.v (.int .u64 (K a)) (fun v1 hv1 => x_load1 (x := Fx.rv .u64 K) rfl rfl (by kernel_rfl) (m3.cel.below hv1 (by have := m3.lt; omega)) (i := a) (by omega) (by omega) rfl) ?_)))))))
  by_cases c15 : v.seq ≤ (K a)
  ·refine Fx.Qt.v (.bool true) (fun v1 hv1 => Fx.x_leqT rfl rfl rfl c15) (Fx.Qt.v (.bool true) (fun v1 hv1 => x_pickT rfl rfl rfl) (Fx.Qt.v (.bool true) (fun v1 hv1 => x_assign rfl rfl) (Fx.Qt.nil ?_)))
   intro wb1 hbwb1
   have s3 : Fx.Stp w2.heap.size w2 wb1 := Fx.Stp.of_below hbwb1
   have b3 := s3.below b2 b2.size b2.size
   refine Fx.seqN (Fx.W.ret (⟨.bool true, Fx.retV1 Try.results101 (by exact rfl), ?_⟩))
   have m2 : decide (v.seq ≤ K (v.o - 1).toNat) = true := decide_eq_true (by rw [show (v.o - 1).toNat = a by omega]; exact c15)
   exact ⟨congrArg (fun q => Ending.returned (Value.bool q)) (Eq.symm (by unfold lateE; rw [c6, m2]; rfl)), b3⟩
  ·refine Fx.Qt.v (.bool false) (fun v1 hv1 => x_leqF rfl rfl rfl c15) (Fx.Qt.v (.bool false) (fun v1 hv1 => x_pickT rfl rfl rfl) (Fx.Qt.v (.bool false) (fun v1 hv1 => x_assign rfl rfl) (Fx.Qt.nil ?_)))
   intro wb2 hbwb2
   have s4 : Fx.Stp w2.heap.size w2 wb2 := Fx.Stp.of_below hbwb2
   have b4 := s4.below b2 b2.size b2.size
   refine Fx.seqN (Fx.W.ret (⟨.bool false, Fx.retV1 Try.results101 (by exact rfl), ?_⟩))
   have m2 : decide (v.seq ≤ K (v.o - 1).toNat) = false := decide_eq_false (by rw [show (v.o - 1).toNat = a by omega]; exact c15)
   exact ⟨congrArg (fun q => Ending.returned (Value.bool q)) (Eq.symm (by unfold lateE; rw [c6, m2]; rfl)), b4⟩
 ·rw [Bool.not_eq_true] at c6
  refine Fx.Qt.call (v := .bool false) (by rfl) (fun v1 hv1 => Fx.r_call (args := [.agg (Fx.varr 14 (evY v))]) rfl rfl Try.func100 rfl rfl) rfl (fun v1 hv1 => (e_may v _ hv).mono fun e v2 h => ⟨by rw [h.1, c6], bch hv1 h.2⟩) ?_
  refine Fx.Qt.v (.bool false) (fun v1 hv1 => x_move rfl rfl) (Fx.Qt.skip (by rfl) rfl (Fx.Qt.skip (by rfl) rfl (Fx.Qt.skip (by rfl) rfl (Fx.Qt.skip (by rfl) rfl (Fx.Qt.skip (by rfl) rfl (Fx.Qt.skip (by rfl) rfl (Fx.Qt.skip (by rfl) rfl (Fx.Qt.skip (by rfl) rfl (Fx.Qt.v (.bool false) (fun v1 hv1 => x_pickF rfl rfl rfl) (Fx.Qt.v (.bool false) (fun v1 hv1 => x_assign rfl rfl) (Fx.Qt.nil ?_)))))))))))
  intro wb3 hbwb3
  have s5 : Fx.Stp w2.heap.size w2 wb3 := Fx.Stp.of_below hbwb3
  have b5 := s5.below b2 b2.size b2.size
  refine Fx.seqN (Fx.W.ret (⟨.bool false, Fx.retV1 Try.results101 (by exact rfl), ?_⟩))
  exact ⟨congrArg (fun q => Ending.returned (Value.bool q)) (Eq.symm (by unfold lateE; rw [c6]; rfl)), b5⟩
theorem e_ready (K : Nat → Int) (v : EvM) (w : World) (hv : EvWf v) (hK : KnOk K) :
    Calls Try.prog 102 #[.agg (Fx.varr 6 (Fx.rv .u64 K)), .agg (Fx.varr 14 (evY v))] w fun e w' => e = .returned (.bool (readyE K v)) ∧ Below w.heap.size w w' := by
 refine Fx.enter Try.func102 rfl (n := 32) rfl (by rfl) ?_
 refine Fx.W.seq (Fx.W.list (Fx.L.box (m := 6) (y := Fx.rv .u64 K) (by rfl) rfl rfl (Fx.cells_agg _ _) rfl fun g1 w1 eg1 m1 s1 z1 => ?_))
 have b1 := s1.below (Below.refl w.heap.size w) (Below.refl w.heap.size w).size (Below.refl w.heap.size w).size
 have lg1 : w.heap.size ≤ g1 := by rw [eg1]; exact (Below.refl w.heap.size w).size
 have tg1 : g1 < w1.heap.size := m1.lt
 clear eg1
 refine Fx.L.box (m := 14) (y := evY v) (by rfl) rfl rfl (Fx.cells_agg _ _) rfl fun g2 w2 eg2 m2 s2 z2 => ?_
 have m3 := m1.stp s2 (Nat.ne_of_lt (m1.lt))
 have b2 := s2.below b1 b1.size b1.size
 have lg2 : w.heap.size ≤ g2 := by rw [eg2]; exact b1.size
 have ng2m3 : g1 ≠ g2 := by rw [eg2]; exact Nat.ne_of_lt (m1.lt)
 have tg2 : g2 < w2.heap.size := m2.lt
 clear eg2
 refine Fx.L.v (.bool false) (x_assign rfl rfl) (Fx.L.nil (Fx.seqN (Fx.W.seq (Fx.W.seq ?_))))
 -- region 1 draws
 refine Fx.W.quiet (fun v1 => Below w2.heap.size w2 v1) (by kernel_rfl) (by kernel_rfl) (Below.refl _ _).drew ?_
 refine Fx.Qt.v (.agg (Fx.varr 14 (evY v))) (fun v1 hv1 => x_loadA (x := evY v) (y := evY v) rfl rfl (by kernel_rfl) (by kernel_rfl) (m2.cel.below hv1 (by have := m2.lt; omega)) (i := 0) (by omega) (by omega) (fun j _ => by rw [Nat.zero_add])) ?_
 by_cases c7 : (mayE v) = true
 ·obtain ⟨a, ha, ea⟩ := regE_nat (may_reg c7)
  have ka := hK a ha
  refine Fx.Qt.call (v := .bool true) (by rfl) (fun v1 hv1 => Fx.r_call (args := [.agg (Fx.varr 14 (evY v))]) rfl rfl Try.func100 rfl rfl) rfl (fun v1 hv1 => (e_may v _ hv).mono fun e v2 h => ⟨by rw [h.1, c7], bch hv1 h.2⟩) ?_
  refine Fx.Qt.v (.bool false) (fun v1 hv1 => Fx.x_notF rfl rfl) (Fx.Qt.v (.bool false) (fun v1 hv1 => x_move rfl rfl) (Fx.Qt.v (.pointer (some ⟨g2, 1, none⟩)) (fun v1 hv1 => x_field rfl rfl Try.underlying54 rfl (s := 1) (by kernel_rfl) rfl (by show _ + 1 = _; omega)) (Fx.Qt.v (.int .u64 (v.seq)) (fun v1 hv1 => x_load1 (x := evY v) rfl rfl (by kernel_rfl) (m2.cel.below hv1 (by have := m2.lt; omega)) (i := 1) (by omega) (by omega) rfl) (Fx.Qt.v (.pointer (some ⟨g2, 0, none⟩)) (fun v1 hv1 => x_field rfl rfl Try.underlying54 rfl (s := 1) (by kernel_rfl) rfl rfl) (Fx.Qt.v (.int .i64 (v.o)) (fun v1 hv1 => x_load1 (x := evY v) rfl rfl (by kernel_rfl) (m2.cel.below hv1 (by have := m2.lt; omega)) (i := 0) (by omega) (by omega) rfl) (Fx.Qt.v (.int .i64 ((a : Int))) (fun v1 hv1 => Fx.x_sub rfl rfl rfl (Fx.i64e (by omega) (by omega))) (Fx.Qt.v (.pointer (some ⟨g1, a, none⟩)) (fun v1 hv1 => x_index rfl rfl rfl Try.underlying29 (s := 1) (by kernel_rfl) (by omega) (by omega) (by omega)) (Fx.Qt.v (.int .u64 (K a)) (fun v1 hv1 => x_load1 (x := Fx.rv .u64 K) rfl rfl (by kernel_rfl) (m3.cel.below hv1 (by have := m3.lt; omega)) (i := a) (by omega) (by omega) rfl) (Fx.Qt.v (.int .u64 ((K a) + 1)) (fun v1 hv1 => Fx.x_add rfl rfl rfl (Fx.u64e (by omega) (by omega))) ?_)))))))))
  by_cases c18 : v.seq = ((K a) + 1)
  ·refine Fx.Qt.v (.bool false) (fun v1 hv1 => Fx.x_neqF rfl rfl rfl c18) (Fx.Qt.v (.bool false) (fun v1 hv1 => x_pickF rfl rfl rfl) (Fx.Qt.nil ?_))
   intro wb1 hbwb1
   have s3 : Fx.Stp w2.heap.size w2 wb1 := Fx.Stp.of_below hbwb1
   have m4 := m3.stp s3 (Nat.ne_of_lt (m3.lt))
   have m5 := m2.stp s3 (Nat.ne_of_lt (m2.lt))
   have b3 := s3.below b2 b2.size b2.size
   refine Fx.seqN (Fx.W.cond (b := false) rfl (fun h => nomatch h) (fun _ => Fx.W.skip (Fx.seqN (Fx.W.seq (Fx.W.seq (Fx.W.list (Fx.L.v (.int .i64 (0)) (x_assign rfl rfl) (Fx.L.nil (Fx.seqN (Fx.W.block (Fx.W.loop (fun f w_ => ∃ k : Nat, k ≤ 6 ∧ (∀ i, i < k → v.deps i ≤ K i) ∧ f 2 = .pointer (some ⟨g1, 0, none⟩) ∧ f 3 = .pointer (some ⟨g2, 0, none⟩) ∧ f 5 = .int .i64 ((k : Int)) ∧ Fx.Blk w_ g1 6 (Fx.rv .u64 K) 29 ∧ Fx.Blk w_ g2 14 (evY v) 54 ∧ Below w.heap.size w w_) (fun f _ => (6 - (intOf (f 5)).toNat)) ⟨0, by omega, (fun i h => absurd h (by omega)), (by rfl), (by rfl), (by first | rfl | exact congrArg (Value.int .i64) (by omega)), m4, m5, b3⟩ ?_)))))))))))
   rintro f1 w3 ⟨k, hk, hall, h1, h2, h3, m6, m7, b4⟩
   refine Fx.W.seq (Fx.W.seq (Fx.W.list (Fx.L.v (.int .i64 ((k : Int))) (x_move rfl h3) ?_)))
   by_cases c21 : (k : Int) < 6
   ·refine Fx.L.v (.bool true) (Fx.x_lssT rfl rfl rfl c21) (Fx.L.nil (Fx.seqN (Fx.W.cond (b := true) rfl (fun _ => Fx.W.skip (Fx.seqN (Fx.W.seq (Fx.W.block (Fx.W.seq ?_))))) (fun h => nomatch h))))
    -- region 6 draws
    refine Fx.W.quiet (fun v1 => ∃ q, v1 = World.drewN w3 q) (by kernel_rfl) (by kernel_rfl) ⟨1, rfl⟩ ?_
    refine Fx.Qt.v (.int .i64 ((k : Int))) (fun v1 hv1 => x_move rfl h3) (Fx.Qt.v (.pointer (some ⟨g2, 2, none⟩)) (fun v1 hv1 => x_field rfl h2 Try.underlying54 rfl (s := 6) (by kernel_rfl) rfl (by show _ + 2 = _; omega)) (Fx.Qt.v (.pointer (some ⟨g2, k + 2, none⟩)) (fun v1 hv1 => x_index rfl rfl rfl Try.underlying29 (s := 1) (by kernel_rfl) (by omega) (by omega) (by omega)) (Fx.Qt.v (.int .u64 (v.deps k)) (fun v1 hv1 => x_load1 (x := evY v) rfl rfl (by kernel_rfl) (by obtain ⟨qd, rfl⟩ := hv1; exact m7.cel) (i := k + 2) (by omega) (by omega) (evY_deps _ (by omega) (by omega))) (Fx.Qt.v (.int .i64 ((k : Int))) (fun v1 hv1 => x_move rfl h3) (Fx.Qt.v (.pointer (some ⟨g1, k, none⟩)) (fun v1 hv1 => x_index rfl h1 rfl Try.underlying29 (s := 1) (by kernel_rfl) (by omega) (by omega) (by omega)) (Fx.Qt.v (.int .u64 (K k)) (fun v1 hv1 => x_load1 (x := Fx.rv .u64 K) rfl rfl (by kernel_rfl) (by obtain ⟨qd, rfl⟩ := hv1; exact m6.cel) (i := k) (by omega) (by omega) rfl) ?_))))))
    by_cases c31 : (K k) < (v.deps k)
    ·refine Fx.Qt.v (.bool true) (fun v1 hv1 => Fx.x_gtrT rfl rfl rfl c31) (Fx.Qt.nil ?_)
     rintro _ ⟨qd, rfl⟩
     obtain ⟨wq1, ewq1⟩ : ∃ v1, v1 = World.drewN w3 qd := ⟨_, rfl⟩
     rw [← ewq1]
     have s4 : Fx.Stp w3.heap.size w3 wq1 := by rw [ewq1]; exact Fx.Stp.of_below (bdrN w3 qd)
     have b5 := s4.below b4 b4.size b4.size
     clear ewq1
     refine Fx.seqN (Fx.W.cond (b := true) rfl (fun _ => Fx.W.seq (Fx.W.list (Fx.L.v (.bool false) (x_assign rfl rfl) ?_))) (fun h => nomatch h))
     refine Fx.L.nil (Fx.seqN (Fx.W.ret (Fx.blkR (Fx.seqR (Fx.lpR (Fx.blkR (Fx.seqR (⟨.bool false, Fx.retV1 Try.results102 (by exact rfl), ?_⟩))))))))
     have m2 : decide (v.seq = K (v.o - 1).toNat + 1) = true := decide_eq_true (by rw [show (v.o - 1).toNat = a by omega]; exact c18)
     have m3 := leAll_no (by omega) c31
     exact ⟨congrArg (fun q => Ending.returned (Value.bool q)) (Eq.symm (by unfold readyE; rw [c7, m2, m3]; rfl)), b5⟩
    ·refine Fx.Qt.v (.bool false) (fun v1 hv1 => x_gtrF rfl rfl rfl c31) (Fx.Qt.nil ?_)
     rintro _ ⟨qd, rfl⟩
     obtain ⟨wq2, ewq2⟩ : ∃ v1, v1 = World.drewN w3 qd := ⟨_, rfl⟩
     rw [← ewq2]
     have s5 : Fx.Stp w3.heap.size w3 wq2 := by rw [ewq2]; exact Fx.Stp.of_below (bdrN w3 qd)
     have m10 := m6.stp s5 (Nat.ne_of_lt (m6.lt))
     have m11 := m7.stp s5 (Nat.ne_of_lt (m7.lt))
     have b6 := s5.below b4 b4.size b4.size
     clear ewq2
     refine Fx.seqN (Fx.W.cond (b := false) rfl (fun h => nomatch h) (fun _ => Fx.W.skip (Fx.blkN (Fx.seqN (Fx.W.list (Fx.L.v (.int .i64 ((k : Int))) (x_move rfl h3) (Fx.L.v (.int .i64 ((k : Int) + 1)) (Fx.x_add rfl rfl rfl (Fx.i64e (by omega) (by omega))) (Fx.L.v (.int .i64 ((k : Int) + 1)) (x_assign rfl rfl) (Fx.L.nil (Fx.lpN ⟨k + 1, by omega, (le_step hall c31), h1, h2, (by first | rfl | exact congrArg (Value.int .i64) (by omega)), m10, m11, b6⟩ ?_))))))))))
     show (6 - (intOf ((.int .i64 ((k : Int) + 1)))).toNat) < _
     simp only [h3, intOf]; omega
   ·refine Fx.L.v (.bool false) (Fx.x_lssF rfl rfl rfl c21) (Fx.L.nil (Fx.seqN (Fx.W.cond (b := false) rfl (fun h => nomatch h) (fun _ => Fx.W.exit (Fx.seqX (Fx.lpX (Fx.blkX (Fx.seqN (Fx.W.seq (Fx.W.list (Fx.L.v (.bool true) (x_assign rfl rfl) (Fx.L.nil (Fx.seqN (Fx.W.ret (⟨.bool true, Fx.retV1 Try.results102 (by exact rfl), ?_⟩)))))))))))))))
    have m2 : decide (v.seq = K (v.o - 1).toNat + 1) = true := decide_eq_true (by rw [show (v.o - 1).toNat = a by omega]; exact c18)
    have m3 := leAll_yes c21 hall
    exact ⟨congrArg (fun q => Ending.returned (Value.bool q)) (Eq.symm (by unfold readyE; rw [c7, m2, m3]; rfl)), b4⟩
  ·refine Fx.Qt.v (.bool true) (fun v1 hv1 => Fx.x_neqT rfl rfl rfl c18) (Fx.Qt.v (.bool true) (fun v1 hv1 => x_pickF rfl rfl rfl) (Fx.Qt.nil ?_))
   intro wb2 hbwb2
   have s6 : Fx.Stp w2.heap.size w2 wb2 := Fx.Stp.of_below hbwb2
   have b7 := s6.below b2 b2.size b2.size
   refine Fx.seqN (Fx.W.cond (b := true) rfl (fun _ => Fx.W.seq (Fx.W.list (Fx.L.v (.bool false) (x_assign rfl rfl) ?_))) (fun h => nomatch h))
   refine Fx.L.nil (Fx.seqN (Fx.W.ret (Fx.seqR (⟨.bool false, Fx.retV1 Try.results102 (by exact rfl), ?_⟩))))
   have m2 : decide (v.seq = K (v.o - 1).toNat + 1) = false := decide_eq_false (by rw [show (v.o - 1).toNat = a by omega]; exact c18)
   exact ⟨congrArg (fun q => Ending.returned (Value.bool q)) (Eq.symm (by unfold readyE; rw [c7, m2]; rfl)), b7⟩
 ·rw [Bool.not_eq_true] at c7
  refine Fx.Qt.call (v := .bool false) (by rfl) (fun v1 hv1 => Fx.r_call (args := [.agg (Fx.varr 14 (evY v))]) rfl rfl Try.func100 rfl rfl) rfl (fun v1 hv1 => (e_may v _ hv).mono fun e v2 h => ⟨by rw [h.1, c7], bch hv1 h.2⟩) ?_
  refine Fx.Qt.v (.bool true) (fun v1 hv1 => Fx.x_notT rfl rfl) (Fx.Qt.v (.bool true) (fun v1 hv1 => x_move rfl rfl) (Fx.Qt.skip (by rfl) rfl (Fx.Qt.skip (by rfl) rfl (Fx.Qt.skip (by rfl) rfl (Fx.Qt.skip (by rfl) rfl (Fx.Qt.skip (by rfl) rfl (Fx.Qt.skip (by rfl) rfl (Fx.Qt.skip (by rfl) rfl (Fx.Qt.skip (by rfl) rfl (Fx.Qt.skip (by rfl) rfl (Fx.Qt.v (.bool true) (fun v1 hv1 => x_pickT rfl rfl rfl) (Fx.Qt.nil ?_))))))))))))
  intro wb3 hbwb3
  have s7 : Fx.Stp w2.heap.size w2 wb3 := Fx.Stp.of_below hbwb3
  have b8 := s7.below b2 b2.size b2.size
  refine Fx.seqN (Fx.W.cond (b := true) rfl (fun _ => Fx.W.seq (Fx.W.list (Fx.L.v (.bool false) (x_assign rfl rfl) ?_))) (fun h => nomatch h))
  refine Fx.L.nil (Fx.seqN (Fx.W.ret (Fx.seqR (⟨.bool false, Fx.retV1 Try.results102 (by exact rfl), ?_⟩))))
  exact ⟨congrArg (fun q => Ending.returned (Value.bool q)) (Eq.symm (by unfold readyE; rw [c7]; rfl)), b8⟩
end Go.Proofs.Ytolmkjepieoloaa
namespace Go.Proofs.Ytolmkjepieoloaa.Fx
open Go.RowKit
section
variable {w w' : World} {B : Nat} {E : TypeId} {s g n cap : Nat} {x : Nat → Value}
theorem Own.blk (h : Own w B E s (.slice (some ⟨g, 0, none⟩) n cap) n x) : B ≤ g ∧ n ≤ cap ∧ cap ≤ maxLen ∧ ∃ x', Blk w g (cap * s) x' E ∧ ∀ p, p < n * s → x' p = x p := by
  rcases h.2 with ⟨e, _⟩ | ⟨g', cap', cur, e, hb, hgg, hnc, hmax, hsz, ht⟩
  · cases e
  · simp only [Value.slice.injEq, Option.some.injEq, Addr.mk.injEq, and_true, true_and] at e
    obtain ⟨rfl, rfl⟩ := e
    refine ⟨hb, hnc, hmax, fun p => cur.getD p undef, ?_, fun p hp => ?_⟩
    · unfold Blk
      rw [hgg]
      congr 2
      refine (varr_ext hsz fun j hj => ?_)
      simp [Array.getD, hsz, hj]
    · have hle : n * s ≤ cap * s := Nat.mul_le_mul_right s hnc
      have := congrArg (fun l : List Value => l[p]?) ht
      simp only [List.getElem?_take_of_lt hp, Array.getElem?_toList, List.getElem?_map, List.getElem?_range hp, Option.map_some] at this
      simp only [Array.getD_eq_getD_getElem?, this, Option.getD_some]
theorem Blk.own {x' : Nat → Value} (h : Blk w g (cap * s) x' E) (hB : B ≤ g) (hn : n ≤ cap) (hm : cap ≤ maxLen) (e : ∀ p, p < n * s → x' p = x p) : Own w B E s (.slice (some ⟨g, 0, none⟩) n cap) n x := by
  refine ⟨by simp, .inr ⟨g, cap, varr (cap * s) x', rfl, hB, h, hn, hm, varr_size _ _, ?_⟩⟩
  have hle : n * s ≤ cap * s := Nat.mul_le_mul_right s hn
  apply List.ext_getElem?
  intro p
  by_cases hp : p < n * s
  · rw [List.getElem?_take_of_lt hp, Array.getElem?_toList, varr_get x' (by omega), List.getElem?_map, List.getElem?_range hp, Option.map_some, e p hp]
  · rw [List.getElem?_eq_none (by simp; omega), List.getElem?_eq_none (by simp; omega)]
theorem Own.lt (h : Own w B E s (.slice (some ⟨g, 0, none⟩) n cap) n x) : g < w.heap.size := (h.ge rfl).2
theorem Own.cel (h : Own w B E s (.slice (some ⟨g, 0, none⟩) n cap) n x) : Cel w g 0 (n * s) x := fun i hi => by
  rcases Nat.eq_zero_or_pos n with e | e
  · subst e; omega
  · obtain ⟨g', cap', e2, _, _, _, hc⟩ := h.form e
    simp only [Value.slice.injEq, Option.some.injEq, Addr.mk.injEq, and_true, true_and] at e2
    obtain ⟨rfl, rfl⟩ := e2
    exact hc i hi
theorem Own.stpB {g' : Nat} (h : Own w B E s (.slice (some ⟨g, 0, none⟩) n cap) n x) (hs : Stp g' w w') (ne : g ≠ g') : Own w' B E s (.slice (some ⟨g, 0, none⟩) n cap) n x := h.stp hs fun e => ne (Option.some.inj e)
end
section
variable {P : Program} {n : Nat} {Q : Post} {ops : Array Oper} {rest : List Oper} {f : Nat → Value} {w : World} {o : Oper}
theorem L.own1 {T E : TypeId} {a v : Operand} {B s g k cap i : Nat} {x : Nat → Value} {u : Value} (hw : Region.wanted o (yf ops f) = true) (hd : o.dst = none) (ho : o.op = .store T a v) (ha : ev f a = .pointer (some ⟨g, i, none⟩)) (hv : ev f v = u) (h1 : u.oneCell' = true) (hT : (P.info? T).map (·.size) = some 1)
    (hb : Own w B E s (.slice (some ⟨g, 0, none⟩) k cap) k x) (hi : i < k * s) (h : ∀ w', Own w' B E s (.slice (some ⟨g, 0, none⟩) k cap) k (updV x i u) → Stp g w w' → w'.heap.size = w.heap.size → L P n ops Q rest f w') : L P n ops Q (o :: rest) f w := by
  obtain ⟨h0, hk, hm, x', hx, he⟩ := hb.blk
  have hle : k * s ≤ cap * s := Nat.mul_le_mul_right s hk
  refine L.store1 (x := x') hw hd ho ha hv h1 hT hx (by omega) fun w' hw' hs hz => h w' (hw'.own h0 hk hm fun p hp => ?_) hs hz
  unfold updV; rw [he p hp]
theorem L.ownA {T E : TypeId} {a v : Operand} {B s g k cap i c : Nat} {x y : Nat → Value} (hw : Region.wanted o (yf ops f) = true) (hd : o.dst = none) (ho : o.op = .store T a v) (ha : ev f a = .pointer (some ⟨g, i, none⟩)) (hv : ev f v = .agg (varr c y)) (h1 : ∀ j, j < c → (y j).oneCell' = true) (hT : (P.info? T).map (·.size) = some c)
    (hb : Own w B E s (.slice (some ⟨g, 0, none⟩) k cap) k x) (hi : i + c ≤ k * s) (h : ∀ w', Own w' B E s (.slice (some ⟨g, 0, none⟩) k cap) k (ovr x i c y) → Stp g w w' → w'.heap.size = w.heap.size → L P n ops Q rest f w') : L P n ops Q (o :: rest) f w := by
  obtain ⟨h0, hk, hm, x', hx, he⟩ := hb.blk
  have hle : k * s ≤ cap * s := Nat.mul_le_mul_right s hk
  refine L.storeA (x := x') hw hd ho ha hv h1 hT hx (by omega) fun w' hw' hs hz => h w' (hw'.own h0 hk hm fun p hp => ?_) hs hz
  unfold ovr; rw [he p hp]
end
end Go.Proofs.Ytolmkjepieoloaa.Fx
namespace Go.Proofs.Ytolmkjepieoloaa.Fx
open Go.RowKit
section
variable {P : Program} {n : Nat} {Q : Post} {f : Nat → Value} {w : World} {o : Oper}
theorem run_app0 {E T ty : TypeId} {s k c cap : Nat} {a b : Option Addr} (hu : P.underlying T = some (.slice E)) (hi : (P.info? E).map (·.size) = some s) (hk : k ≤ cap) : (Builtin.append_ #[T, T] ty #[.slice b k cap, .slice a 0 c]).run P w = .ok (.slice b k cap) w := by
  obtain ⟨i, hi1, hi2⟩ := Option.map_eq_some_iff.1 hi
  have hf : (Builtin.firstCells s 0 (.slice a 0 c)).run P w = .ok #[] w := by
    cases a with
    | none => simp [Builtin.firstCells]
    | some a => simp [Builtin.firstCells, loadCells, loadCellsFrom]
  unfold Builtin.append_
  simp [underlying, hu, sizeOf, typeInfo, hi1, hi2, Builtin.lenOf, hk, hf]
  cases b <;> simp [storeCells]
theorem Own.zero {B : Nat} {E : TypeId} {s k : Nat} {v : Value} {x y : Nat → Value} (h : Own w B E s v k x) : Own w B E s v (k + 0) (appX x (k * s) y) :=
  Own.congr h fun j hj => by unfold appX; rw [if_pos (show j < k * s from hj)]
theorem grown_refl (w : World) (r : Option Nat) : w.grownBy w r := ⟨rfl, rfl, rfl, Nat.le_refl _, fun _ _ _ => rfl⟩
theorem r_appAny {B : Nat} {E T : TypeId} {s bytes k m c : Nat} {v : Value} {x y : Nat → Value} {a : Option Addr} {sx xx : Operand} {ρ : Operand → Value} (ho : o.op = .call { callee := .builtin .append, args := #[sx, xx], argTypes := #[T, T] }) (hsx : ρ sx = v) (hxx : ρ xx = .slice a m c)
    (hu : P.underlying T = some (.slice E)) (hi : (P.info? E).map (fun i => (i.size, i.bytes)) = some (s, bytes)) (hz : ((P.info? E).bind (·.zero)).map (·.cells.size) = some s) (hs : Nat.blt 0 s = true)
    (hown : Own w B E s v k x) (hc : 0 < m → ∃ b off, a = some ⟨b, off, none⟩ ∧ Cel w b off (m * s) y) (h1 : ∀ j, j < m * s → (y j).oneCell' = true) (hbytes : (k + m) * bytes ≤ 140737488355328) (h63 : k + m ≤ 140737488355328) (hB : B ≤ w.heap.size) :
    ∃ v' w', (execOp ρ o).run P w = .ok (.value v') w' ∧ Own w' B E s v' (k + m) (appX x (k * s) y) ∧ w.grownBy w' v.ownBlock ∧ (v' = v ∨ v'.ownBlock = v.ownBlock ∨ v'.ownBlock = some w.heap.size) := by
  rcases Nat.eq_zero_or_pos m with rfl | hm
  · refine ⟨v, w, ?_, hown.zero, grown_refl _ _, .inl rfl⟩
    obtain ⟨b, cap, hv, hk⟩ : ∃ b cap, v = .slice b k cap ∧ k ≤ cap := by
      rcases hown.2 with ⟨rfl, rfl⟩ | ⟨g, cap, cur, rfl, _, _, hnc, _⟩
      · exact ⟨none, 0, rfl, Nat.le_refl _⟩
      · exact ⟨_, _, rfl, hnc⟩
    subst hv
    have hi' : (P.info? E).map (·.size) = some s := by
      obtain ⟨i, hi1, hi2⟩ := Option.map_eq_some_iff.1 hi
      rw [hi1]; simp only [Prod.mk.injEq] at hi2; simp [hi2.1]
    have hr := run_app0 (P := P) (w := w) (ty := o.type) (a := a) (b := b) (c := c) hu hi' hk
    unfold execOp
    simp only [ho]
    unfold resolve invoke
    simp only [List.map_toArray, List.map_cons, List.map_nil, hsx, hxx]
    unfold builtin
    simp only [Sem.run_bind, Sem.run_pure, Result.andThen_ok, hr]
  · obtain ⟨b, off, rfl, hcc⟩ := hc hm
    obtain ⟨g, cap, w', hr, h2, h3, h4, _⟩ := r_app (P := P) ho hsx hxx hu hi hz hs hown hcc h1 hm hbytes h63 hB
    refine ⟨_, w', hr, h2, h3, ?_⟩
    rcases h4 with h4 | h4
    · exact .inr (.inl h4.symm)
    · exact .inr (.inr (by rw [h4]; rfl))
theorem L.appAny {ops : Array Oper} {rest : List Oper} {B : Nat} {E T : TypeId} {s bytes k m c : Nat} {v : Value} {x y : Nat → Value} {a : Option Addr} {sx xx : Operand} (hw : Region.wanted o (yf ops f) = true) (ho : o.op = .call { callee := .builtin .append, args := #[sx, xx], argTypes := #[T, T] }) (hsx : ev f sx = v) (hxx : ev f xx = .slice a m c)
    (hu : P.underlying T = some (.slice E)) (hi : (P.info? E).map (fun i => (i.size, i.bytes)) = some (s, bytes)) (hz : ((P.info? E).bind (·.zero)).map (·.cells.size) = some s) (hs : Nat.blt 0 s = true) (hd : inn n o.dst = true)
    (hown : Own w B E s v k x) (hc : 0 < m → ∃ b off, a = some ⟨b, off, none⟩ ∧ Cel w b off (m * s) y) (h1 : ∀ j, j < m * s → (y j).oneCell' = true) (hbytes : (k + m) * bytes ≤ 140737488355328) (h63 : k + m ≤ 140737488355328) (hB : B ≤ w.heap.size)
    (h : ∀ v' w', Own w' B E s v' (k + m) (appX x (k * s) y) → w.grownBy w' v.ownBlock → (v' = v ∨ v'.ownBlock = v.ownBlock ∨ v'.ownBlock = some w.heap.size) → L P n ops Q rest (put f o.dst v') w') : L P n ops Q (o :: rest) f w := by
  obtain ⟨v', w', hr, h2, h3, h4⟩ := r_appAny (ρ := ev f) ho hsx hxx hu hi hz hs hown hc h1 hbytes h63 hB
  exact L.val hw hr hd (h v' w' h2 h3 h4)
end
end Go.Proofs.Ytolmkjepieoloaa.Fx
namespace Go.Proofs.Ytolmkjepieoloaa.Fx
open Go.RowKit
structure Chg (S : Nat → Prop) (w w' : World) : Prop where
  os : w'.os = w.os
  tape : w'.tape = w.tape
  output : w'.output = w.output
  size : w.heap.size ≤ w'.heap.size
  block : ∀ k, k < w.heap.size → ¬ S k → w'.heap[k]? = w.heap[k]?
section
variable {S S' : Nat → Prop} {w0 w1 w2 : World}
theorem Chg.refl (S : Nat → Prop) (w : World) : Chg S w w := ⟨rfl, rfl, rfl, Nat.le_refl _, fun _ _ _ => rfl⟩
theorem Chg.then {g : Nat} (h : Chg S w0 w1) (hs : Stp g w1 w2) (hg : S g ∨ w0.heap.size ≤ g) : Chg S w0 w2 :=
  ⟨hs.os.trans h.os, hs.tape.trans h.tape, hs.output.trans h.output, Nat.le_trans h.size hs.size, fun k hk hne => (hs.block k (Nat.lt_of_lt_of_le hk h.size) (fun e => hg.elim (fun a => hne (by rw [e]; exact a)) (fun a => by omega))).trans (h.block k hk hne)⟩
theorem Chg.grow {v : Value} (h : Chg S w0 w1) (hs : w1.grownBy w2 v.ownBlock) (hg : ∀ k, v.ownBlock = some k → S k ∨ w0.heap.size ≤ k) : Chg S w0 w2 :=
  ⟨hs.os.trans h.os, hs.tape.trans h.tape, hs.output.trans h.output, Nat.le_trans h.size hs.size, fun k hk hne => (hs.block k (Nat.lt_of_lt_of_le hk h.size) (fun e => (hg k e.symm).elim hne (fun a => by omega))).trans (h.block k hk hne)⟩
theorem Chg.of_below (h : Below w0.heap.size w0 w1) : Chg S w0 w1 := ⟨h.os, h.tape, h.output, h.size, fun k hk _ => h.block k hk⟩
theorem Chg.below {B : Nat} {w : World} (hb : Below B w w0) (h : Chg S w0 w1) (hS : ∀ k, S k → B ≤ k) (hB : B ≤ w0.heap.size) : Below B w w1 where
  os := h.os.trans hb.os
  tape := h.tape.trans hb.tape
  output := h.output.trans hb.output
  size := Nat.le_trans hb.size h.size
  block := fun k hk => (h.block k (by omega) (fun e => by have := hS k e; omega)).trans (hb.block k hk)
end
section
variable {P : Program} {f : Nat → Value} {w : World} {o : Oper}
theorem x_shl {T T' : TypeId} {x y : Operand} {k yk : IntKind} {a c : Int} {b : Nat} (ho : o.op = .binOp .shl T x y T') (hx : ev f x = .int k a) (hy : ev f y = .int yk b) (hb : b ≤ k.bits) (hc : k.wrap (a * 2 ^ b) = c) : Runs P f o w (.int k c) := by
  unfold Runs execOp
  simp only [ho, hx, hy]
  have hr : (binOp .shl T (.int k a) (.int yk (b : Int))).run P w = .ok (.int k c) w := by
    simp only [binOp, Op.shift]
    rw [if_neg (by omega), show min (Int.toNat (b : Int)) k.bits = b by simp; omega, hc]
    simp
  simp only [Sem.run_bind, run_eqGuard_ints, Result.andThen_ok, hr, Sem.run_pure]
end
end Go.Proofs.Ytolmkjepieoloaa.Fx
namespace Go.Proofs.Ytolmkjepieoloaa.Fx
open Go.RowKit
section
variable {P : Program} {n : Nat} {Q : Post} {f : Nat → Value} {w : World} {o : Oper}
theorem L.bslice0 {ops : Array Oper} {rest : List Oper} {T E : TypeId} {s : Nat} (hw : Region.wanted o (yf ops f) = true) (ho : o.op = .buildSlice T 0 #[]) (hu : P.underlying T = some (.slice E)) (hs : (P.info? E).map (·.size) = some s) (hd : inn n o.dst = true)
    (h : ∀ g w', g = w.heap.size → (∀ B x, B ≤ g → Own w' B E s (.slice (some ⟨g, 0, none⟩) 0 0) 0 x) → Stp w.heap.size w w' → L P n ops Q rest (put f o.dst (.slice (some ⟨g, 0, none⟩) 0 0)) w') : L P n ops Q (o :: rest) f w := by
  obtain ⟨i, hi, hi2⟩ := Option.map_eq_some_iff.1 hs
  have hrun : (execOp (ev f) o).run P w = .ok (.value (.slice (some ⟨w.heap.size, 0, none⟩) 0 0)) (w.alloc (.cells #[] E)) := by
    unfold execOp
    simp only [ho, List.map_toArray]
    unfold Instr.buildSlice
    simp [underlying, sizeOf, typeInfo, hu, hi, Instr.fill, newRow]
    have e : ∀ d : Value, Array.map (fun _ => d) (Array.range 0) = #[] := fun d => by apply Array.ext <;> simp
    rw [e]
  refine L.val hw hrun hd (h _ _ rfl (fun B x hB => ⟨by simp, .inr ⟨w.heap.size, 0, #[], rfl, hB, ?_, Nat.le_refl _, Nat.zero_le _, by simp, by simp⟩⟩) (Stp.alloc _ _))
  show (w.alloc _).heap[w.heap.size]? = _
  rw [alloc_at, if_pos rfl]
end
end Go.Proofs.Ytolmkjepieoloaa.Fx
namespace Go.Proofs.Ytolmkjepieoloaa.Fx
open Go.RowKit
theorem Out.mono {P : Program} {f : Nat → Value} {o : Oper} {w : World} {K K' : Value → World → Prop} (h : Out P f o w K) (hk : ∀ v w', K v w' → K' v w') : Out P f o w K' := by
  rcases h with ⟨v, w', hr, h⟩ | ⟨w', hr, h⟩ | ⟨g, args, hr, h⟩
  · exact .inl ⟨v, w', hr, hk v w' h⟩
  · exact .inr (.inl ⟨w', hr, hk _ w' h⟩)
  · exact .inr (.inr ⟨g, args, hr, h.mono fun e w' ⟨v, he, hv⟩ => ⟨v, he, hk v w' hv⟩⟩)
def stillC (c : Nat) : Bool := Nat.ble c 1 || Nat.beq c 4
def Stay (S : World → World → Prop) (c : Nat) (w w2 : World) : Prop := c = 0 ∨ (c = 1 ∧ S w w2) ∨ w2 = w
def R (P : Program) (n : Nat) (ops : List Oper) (cs : List Nat) (S : World → World → Prop) (Q : Post) : List Nat → (Nat → Value) → World → Prop
  | [], f, w => Q .normal f w
  | i :: l, f, w => (Region.wanted (opAt ops i) (yf ops.toArray f) = false ∧ R P n ops cs S Q l (put f (opAt ops i).dst undef) w) ∨
    (Region.wanted (opAt ops i) (yf ops.toArray f) = true ∧
      ((stillC (cs.getD i 3) = true ∧ ∃ v, (∀ w2, Stay S (cs.getD i 3) w w2 → (execOp (ev f) (opAt ops i)).run P w2 = .ok (.value v) w2) ∧ R P n ops cs S Q l (put f (opAt ops i).dst v) w) ∨
       (stillC (cs.getD i 3) = false ∧ Out P f (opAt ops i) w fun v w' => (cs.getD i 3 = 2 → S w w') ∧ R P n ops cs S Q l (put f (opAt ops i).dst v) w')))
section
variable {P : Program} {n : Nat} {ops : List Oper} {cs : List Nat} {S : World → World → Prop} {Q : Post}
theorem R.tail {i : Nat} {X Y : List Nat} (hXY : ∀ f w, R P n ops cs S Q X f w → R P n ops cs S Q Y f w) {f : Nat → Value} {w : World} (h : R P n ops cs S Q (i :: X) f w) : R P n ops cs S Q (i :: Y) f w := by
  unfold R at h ⊢
  rcases h with ⟨h1, h2⟩ | ⟨h1, ⟨h2, v, h3, h4⟩ | ⟨h2, h3⟩⟩
  · exact .inl ⟨h1, hXY _ _ h2⟩
  · exact .inr ⟨h1, .inl ⟨h2, v, h3, hXY _ _ h4⟩⟩
  · exact .inr ⟨h1, .inr ⟨h2, h3.mono fun v w' hv => ⟨hv.1, hXY _ _ hv.2⟩⟩⟩
def Stl (P : Program) (ops : List Oper) (cs : List Nat) (S : World → World → Prop) (i : Nat) (f : Nat → Value) (w : World) (v : Value) : Prop :=
  (Region.wanted (opAt ops i) (yf ops.toArray f) = false ∧ v = undef) ∨ (Region.wanted (opAt ops i) (yf ops.toArray f) = true ∧ stillC (cs.getD i 3) = true ∧ ∀ w2, Stay S (cs.getD i 3) w w2 → (execOp (ev f) (opAt ops i)).run P w2 = .ok (.value v) w2)
theorem R.of_stl {i : Nat} {l : List Nat} {f : Nat → Value} {w : World} {v : Value} (hs : Stl P ops cs S i f w v) (h : R P n ops cs S Q l (put f (opAt ops i).dst v) w) : R P n ops cs S Q (i :: l) f w := by
  unfold R
  rcases hs with ⟨h1, rfl⟩ | ⟨h1, h2, h3⟩
  · exact .inl ⟨h1, h⟩
  · exact .inr ⟨h1, .inl ⟨h2, v, h3, h⟩⟩
theorem R.stl {i : Nat} {l : List Nat} {f : Nat → Value} {w : World} (hi : stillC (cs.getD i 3) = true) (h : R P n ops cs S Q (i :: l) f w) : ∃ v, Stl P ops cs S i f w v ∧ R P n ops cs S Q l (put f (opAt ops i).dst v) w := by
  unfold R at h
  rcases h with ⟨h1, h2⟩ | ⟨h1, ⟨h2, v, h3, h4⟩ | ⟨h2, h3⟩⟩
  · exact ⟨undef, .inl ⟨h1, rfl⟩, h2⟩
  · exact ⟨v, .inr ⟨h1, h2, h3⟩, h4⟩
  · rw [hi] at h2; cases h2
theorem put_other {ops : List Oper} (hok : opsOk n ops = true) {i j : Nat} (hi : i < ops.length) (hj : j < ops.length) (hne : i ≠ j) (f : Nat → Value) (u v : Value) :
    put (put f (opAt ops i).dst u) (opAt ops j).dst v = put (put f (opAt ops j).dst v) (opAt ops i).dst u := by
  cases hdi : (opAt ops i).dst with
  | none => rfl
  | some di =>
    cases hdj : (opAt ops j).dst with
    | none => rfl
    | some dj =>
      have hd : di ≠ dj := fun e => by
        subst e
        have h1 := ((opsOk_at hok hi).1 di hdi).1
        have h2 := ((opsOk_at hok hj).1 di hdj).1
        rw [h1] at h2; exact hne (Option.some.inj h2)
      funext s
      simp only [put]
      cases h1 : Nat.beq s di <;> cases h2 : Nat.beq s dj <;> simp
      exact (hd ((Nat.eq_of_beq_eq_true h1).symm.trans (Nat.eq_of_beq_eq_true h2))).elim
theorem put_ev {ops : List Oper} (hok : opsOk n ops = true) {i j : Nat} (hi : i < ops.length) (hj : j < ops.length) (ha : isAfter (opAt ops j) i = false) (f : Nat → Value) (u : Value) : ∀ x ∈ (opAt ops j).op.operands, ev (put f (opAt ops i).dst u) x = ev f x := by
  intro x hx
  cases x with
  | tmp t =>
    show put f (opAt ops i).dst u t = f t
    cases hdi : (opAt ops i).dst with
    | none => rfl
    | some d =>
      simp only [put]
      cases hb : Nat.beq t d with
      | false => rfl
      | true =>
        have e := Nat.eq_of_beq_eq_true hb
        subst e
        have h1 := ((opsOk_at hok hi).1 t hdi).1
        have h2 := (opsOk_at hok hj).2.1 t i hx h1
        rw [ha] at h2; cases h2
  | _ => rfl
theorem put_wanted {ops : List Oper} (hok : opsOk n ops = true) {i j : Nat} (hi : i < ops.length) (hj : j < ops.length) (ha : isAfter (opAt ops j) i = false) (f : Nat → Value) (u : Value) :
    Region.wanted (opAt ops j) (yf ops.toArray (put f (opAt ops i).dst u)) = Region.wanted (opAt ops j) (yf ops.toArray f) := by
  unfold Region.wanted
  cases hg : (opAt ops j).guard with
  | none => rfl
  | some gb =>
    obtain ⟨g, b⟩ := gb
    simp only
    have h2 := (opsOk_at hok hj).2.2.1 g b hg
    have hgi : g ≠ i := fun e => by subst e; rw [ha] at h2; cases h2
    congr 1
    unfold yf
    cases hd : (ops.toArray[g]?).bind (·.dst) with
    | none => rfl
    | some d =>
      simp only
      have hgl : g < ops.length := by
        cases hq : ops.toArray[g]? with
        | none => rw [hq] at hd; cases hd
        | some o => have := (Array.getElem?_eq_some_iff.1 hq).1; simpa using this
      have hdd : (opAt ops g).dst = some d := by
        unfold opAt
        rw [List.getElem?_toArray] at hd
        rw [List.getD_eq_getElem?_getD]
        cases hq : ops[g]? with
        | none => rw [hq] at hd; cases hd
        | some o => rw [hq] at hd; exact hd
      have e : put f (opAt ops i).dst u d = f d := by
        cases hdi : (opAt ops i).dst with
        | none => rfl
        | some di =>
          simp only [put]
          cases hb : Nat.beq d di with
          | false => rfl
          | true =>
            have e := Nat.eq_of_beq_eq_true hb
            subst e
            have h3 := ((opsOk_at hok hi).1 d hdi).1
            have h4 := ((opsOk_at hok hgl).1 d hdd).1
            rw [h3] at h4; exact absurd (Option.some.inj h4).symm hgi
      rw [e]
theorem put_run {ops : List Oper} (hok : opsOk n ops = true) (hsel : Region.noSelect ops.toArray = true) {i j : Nat} (hi : i < ops.length) (hj : j < ops.length) (ha : isAfter (opAt ops j) i = false) (f : Nat → Value) (u : Value) :
    execOp (ev (put f (opAt ops i).dst u)) (opAt ops j) = execOp (ev f) (opAt ops j) :=
  execOp_congr _ (fun c b => Region.noSelect_spec hsel j (opAt ops j) c b (by
    unfold opAt; rw [List.getElem?_toArray, List.getD_eq_getElem?_getD, List.getElem?_eq_getElem hj]; rfl)) (put_ev hok hi hj ha f u)
def pairOk (ops : List Oper) (cs : List Nat) (certs : List (Nat × Nat × List Nat)) (i j : Nat) : Bool :=
  !isAfter (opAt ops i) j && ((stillC (cs.getD i 3) && (Nat.beq (cs.getD i 3) 0 || stillC (cs.getD j 3) || (Nat.beq (cs.getD i 3) 1 && Nat.beq (cs.getD j 3) 2))) || certs.any fun c => Nat.beq c.1 j && Nat.beq c.2.1 i && pathB ops j c.2.2 i)
def pairsOk (ops : List Oper) (cs : List Nat) (certs : List (Nat × Nat × List Nat)) : List Nat → Bool
  | [] => true
  | i :: l => l.all (pairOk ops cs certs i) && pairsOk ops cs certs l
def permOk (ops : List Oper) (l : List Nat) : Bool := Nat.beq l.length ops.length && l.all (fun i => Nat.blt i ops.length) && decide l.Nodup && (List.range ops.length).all (fun i => l.any (Nat.beq i))
theorem swap (hok : opsOk n ops = true) (hsel : Region.noSelect ops.toArray = true) {i j : Nat} (hi : i < ops.length) (hj : j < ops.length) (hne : i ≠ j) (hij : isAfter (opAt ops j) i = false) (hji : isAfter (opAt ops i) j = false) (hS : ∀ w, S w w) (hT : ∀ a b c, S a b → S b c → S a c) (hc : stillC (cs.getD i 3) = true) (hc2 : cs.getD i 3 = 0 ∨ stillC (cs.getD j 3) = true ∨ (cs.getD i 3 = 1 ∧ cs.getD j 3 = 2))
    {l : List Nat} {f : Nat → Value} {w : World} (h : R P n ops cs S Q (i :: j :: l) f w) : R P n ops cs S Q (j :: i :: l) f w := by
  obtain ⟨vi, hs, h⟩ := h.stl hc
  have up : ∀ (u : Value) (w' : World), Stay S (cs.getD i 3) w w' → Stl P ops cs S i (put f (opAt ops j).dst u) w' vi := fun u w' hb => by
    unfold Stl
    rw [put_wanted hok hj hi hji, put_run hok hsel hj hi hji]
    rcases hs with hs | ⟨h1, h2, h3⟩
    · exact .inl hs
    · refine .inr ⟨h1, h2, fun w2 h4 => h3 w2 ?_⟩
      rcases hb with hb | ⟨hb, hb2⟩ | hb
      · exact .inl hb
      · rcases h4 with h4 | ⟨_, h4⟩ | h4
        · exact .inl h4
        · exact .inr (.inl ⟨hb, hT _ _ _ hb2 h4⟩)
        · subst h4; exact .inr (.inl ⟨hb, hb2⟩)
      · subst hb; exact h4
  unfold R at h
  rw [put_wanted hok hi hj hij, put_run hok hsel hi hj hij] at h
  rw [R]
  rcases h with ⟨h1, h2⟩ | ⟨h1, ⟨h2, v, h3, h4⟩ | ⟨h2, h3⟩⟩
  · refine .inl ⟨h1, R.of_stl (up undef w (.inr (.inr rfl))) ?_⟩
    rw [put_other hok hi hj hne] at h2; exact h2
  · refine .inr ⟨h1, .inl ⟨h2, v, h3, R.of_stl (up v w (.inr (.inr rfl))) ?_⟩⟩
    rw [put_other hok hi hj hne] at h4; exact h4
  · refine .inr ⟨h1, .inr ⟨h2, ?_⟩⟩
    unfold Out at h3
    rw [put_run hok hsel hi hj hij] at h3
    refine Out.mono (K := fun v w' => (cs.getD j 3 = 2 → S w w') ∧ R P n ops cs S Q l (put (put f (opAt ops i).dst vi) (opAt ops j).dst v) w') h3 fun v w' hk => ⟨hk.1, R.of_stl (up v w' ?_) ?_⟩
    · rcases hc2 with e | e | ⟨e, e2⟩
      · exact .inl e
      · rw [h2] at e; cases e
      · exact .inr (.inl ⟨e, hk.1 e2⟩)
    · have := hk.2; rw [put_other hok hi hj hne] at this; exact this
theorem bubble (hok : opsOk n ops = true) (hsel : Region.noSelect ops.toArray = true) (hS : ∀ w, S w w) (hT : ∀ a b c, S a b → S b c → S a c) {j : Nat} (hj : j < ops.length) {l : List Nat} :
    ∀ (pre : List Nat), (∀ i ∈ pre, i < ops.length ∧ i ≠ j ∧ isAfter (opAt ops j) i = false ∧ isAfter (opAt ops i) j = false ∧ stillC (cs.getD i 3) = true ∧ (cs.getD i 3 = 0 ∨ stillC (cs.getD j 3) = true ∨ (cs.getD i 3 = 1 ∧ cs.getD j 3 = 2))) → ∀ f w, R P n ops cs S Q (pre ++ j :: l) f w → R P n ops cs S Q (j :: (pre ++ l)) f w
  | [], _, f, w, h => h
  | i :: pre, hp, f, w, h => by
    obtain ⟨h1, h2, h3, h4, h5, h6⟩ := hp i (List.mem_cons_self ..)
    exact swap hok hsel h1 hj h2 h3 h4 hS hT h5 h6 (R.tail (fun f w => bubble hok hsel hS hT hj pre (fun k hk => hp k (List.mem_cons_of_mem _ hk)) f w) h)
theorem pairsOk_pw {certs : List (Nat × Nat × List Nat)} : ∀ {l : List Nat}, pairsOk ops cs certs l = true → l.Pairwise fun i j => pairOk ops cs certs i j = true
  | [], _ => List.Pairwise.nil
  | i :: l, h => by
    unfold pairsOk at h
    rw [Bool.and_eq_true, List.all_eq_true] at h
    exact List.Pairwise.cons h.1 (pairsOk_pw h.2)
theorem R.any (hok : opsOk n ops = true) (hsel : Region.noSelect ops.toArray = true) (hS : ∀ w, S w w) (hT : ∀ a b c, S a b → S b c → S a c) {certs : List (Nat × Nat × List Nat)} : ∀ (k : Nat) (rem : List Nat) (listed : Array Bool) (a : Act) (f : Nat → Value) (w : World), rem.length = k → listed.size = ops.length → Clo ops.toArray .any listed →
    (∀ i, i ∈ rem ↔ i < ops.length ∧ listed.getD i false = false) → rem.Nodup → (rem.Pairwise fun i j => pairOk ops cs certs i j = true) → Fr a n f → R P n ops cs S Q rem f w → wpAny P .any ops.toArray (lift n Q) k listed a w := by
  intro k
  induction k with
  | zero =>
    intro rem listed a f w hl hsz hclo hmem hnd hpw ha h
    have : rem = [] := List.eq_nil_of_length_eq_zero hl
    subst this
    refine ⟨?_, f, ha, h⟩
    rw [List.eq_nil_iff_forall_not_mem]
    intro j hj
    obtain ⟨h1, h2, _, _⟩ := ready_after hj
    exact absurd ((hmem j).2 ⟨h2, h1⟩) (by simp)
  | succ k ih =>
    intro rem listed a f w hl hsz hclo hmem hnd hpw ha h
    refine ⟨fun hr => ?_, fun j hj => ?_⟩
    · cases rem with
      | nil => simp at hl
      | cons r rem' =>
        exfalso
        obtain ⟨h1, h2⟩ := (hmem r).1 (List.mem_cons_self ..)
        have : r ∈ Region.ready .any ops.toArray listed := by
          refine mem_ready.2 ⟨getD_in (by omega) h2, opAt ops r, by unfold opAt; rw [List.getElem?_toArray, List.getD_eq_getElem?_getD, List.getElem?_eq_getElem h1]; rfl, fun e he hb => ?_⟩
          have haf : isAfter (opAt ops r) e.on = true := by
            unfold isAfter; rw [Array.any_eq_true']; exact ⟨e, he, by rw [hb, Nat.beq_refl]; rfl⟩
          have hlt := (opsOk_at hok h1).2.2.2 e.on haf
          cases hle : listed.getD e.on false with
          | true => rfl
          | false =>
            have hm := (hmem e.on).2 ⟨by omega, hle⟩
            rcases List.mem_cons.1 hm with e1 | e1
            · omega
            · have hp := (List.pairwise_cons.1 hpw).1 _ e1
              unfold pairOk at hp
              rw [haf] at hp; simp at hp
        rw [hr] at this; simp at this
    · obtain ⟨h1, h2, h3, h4⟩ := ready_after hj
      have hjm := (hmem j).2 ⟨h2, h1⟩
      obtain ⟨pre, post, rfl⟩ := List.append_of_mem hjm
      have hb := bubble (P := P) (cs := cs) (S := S) (Q := Q) hok hsel hS hT h2 (l := post) pre (fun i hi => by
        obtain ⟨h5, h6⟩ := (hmem i).1 (List.mem_append_left _ hi)
        have hne : i ≠ j := fun e => by
          subst e
          exact (List.nodup_append.1 hnd).2.2 i hi i (List.mem_cons_self ..) rfl
        have hp : pairOk ops cs certs i j = true := (List.pairwise_append.1 hpw).2.2 i hi j (List.mem_cons_self ..)
        unfold pairOk at hp
        rw [Bool.and_eq_true, Bool.or_eq_true] at hp
        have hnaf : isAfter (opAt ops j) i = false := by
          cases hq : isAfter (opAt ops j) i with
          | false => rfl
          | true => have := h4 i hq; rw [h6] at this; cases this
        refine ⟨h5, hne, hnaf, by simpa using hp.1, ?_⟩
        rcases hp.2 with hp | hp
        · rw [Bool.and_eq_true, Bool.or_eq_true] at hp
          refine ⟨hp.1, ?_⟩
          rcases hp.2 with q | q
          · rw [Bool.or_eq_true] at q
            exact q.elim (fun q => .inl (Nat.eq_of_beq_eq_true q)) (fun q => .inr (.inl q))
          · rw [Bool.and_eq_true] at q
            exact .inr (.inr ⟨Nat.eq_of_beq_eq_true q.1, Nat.eq_of_beq_eq_true q.2⟩)
        · exfalso
          rw [List.any_eq_true] at hp
          obtain ⟨c, _, hc⟩ := hp
          rw [Bool.and_eq_true, Bool.and_eq_true] at hc
          obtain ⟨m, hm⟩ := pathB_reach hc.2
          cases m with
          | zero => unfold reach at hm; simp at hm; exact hne hm.symm
          | succ m =>
            unfold reach at hm
            rw [Bool.or_eq_true] at hm
            rcases hm with hm | hm
            · simp at hm; exact hne hm.symm
            · rw [h3] at hm
              simp only at hm
              rw [Array.any_eq_true'] at hm
              obtain ⟨e, he, hm⟩ := hm
              rw [Bool.and_eq_true] at hm
              have haf : isAfter (opAt ops j) e.on = true := by
                unfold isAfter; rw [Array.any_eq_true']; exact ⟨e, he, by rw [hm.1, Nat.beq_refl]; rfl⟩
              have := hclo.reach _ _ hm.2 (h4 e.on haf)
              rw [h6] at this; cases this) f w h
      have hperm : (pre ++ post).length = k := by simp at hl ⊢; omega
      have hnd' : (pre ++ post).Nodup := by
        refine hnd.sublist ?_
        exact List.Sublist.append_left (List.sublist_cons_self ..) pre
      have hpw' : (pre ++ post).Pairwise fun i j => pairOk ops cs certs i j = true := hpw.sublist (List.Sublist.append_left (List.sublist_cons_self ..) pre)
      have hmem' : ∀ i, i ∈ pre ++ post ↔ i < ops.length ∧ (listed.setIfInBounds j true).getD i false = false := fun i => by
        by_cases e : j = i
        · subst e
          rw [set_self (by omega)]
          constructor
          · intro hm
            exfalso
            have hd := List.nodup_append.1 hnd
            rcases List.mem_append.1 hm with q | q
            · exact hd.2.2 j q j (List.mem_cons_self ..) rfl
            · exact (List.nodup_cons.1 hd.2.1).1 q
          · intro q; cases q.2
        · rw [set_other e, ← hmem i]
          simp only [List.mem_append, List.mem_cons]
          constructor
          · rintro (q | q)
            · exact .inl q
            · exact .inr (.inr q)
          · rintro (q | q | q)
            · exact .inl q
            · exact absurd q.symm e
            · exact .inr q
      have next : ∀ (v : Value) (w' : World), R P n ops cs S Q (pre ++ post) (put f (opAt ops j).dst v) w' → wpAny P .any ops.toArray (lift n Q) k (listed.setIfInBounds j true) (a.put (opAt ops j).dst v) w' := fun v w' hR =>
        ih (pre ++ post) _ _ _ w' hperm (by simp [hsz]) (hclo.set hj) hmem' hnd' hpw' (ha.put (by
          cases hd : (opAt ops j).dst with
          | none => rfl
          | some d => have := ((opsOk_at hok h2).1 d hd).2; simpa [inn, Nat.blt_eq] using this) v) hR
      unfold wpOp
      rw [h3]
      simp only
      rw [ha.yf]
      unfold R at hb
      rcases hb with ⟨q1, q2⟩ | ⟨q1, ⟨q2, v, q3, q4⟩ | ⟨q2, q3⟩⟩
      · rw [if_neg (by rw [q1]; decide)]; exact next _ _ q2
      · rw [if_pos q1]
        refine .inl (Out.wp (K := fun v' w' => v' = v ∧ w' = w) ha (.inl ⟨v, w, q3 w (.inr (.inr rfl)), rfl, rfl⟩) ?_)
        rintro v' w' ⟨rfl, rfl⟩
        exact next _ _ q4
      · rw [if_pos q1]
        exact .inl (Out.wp ha q3 fun v w' hk => next v w' hk.2)
theorem W.reord {f : Nat → Value} {w : World} {id : Nat} (l : List Nat) (cs : List Nat) (S : World → World → Prop) (hS : ∀ w, S w w) (hT : ∀ a b c, S a b → S b c → S a c) (certs : List (Nat × Nat × List Nat)) (hm : P.follows .mixedOrders = true) (hok : opsOk n ops = true) (hsel : Region.noSelect ops.toArray = true) (hp : permOk ops l = true) (hpp : pairsOk ops cs certs l = true)
    (h : ∀ w1, Below w.heap.size w w1 → w1.heap.size = w.heap.size → R P n ops cs S Q l f w1) : W P n (.region id ops.toArray true) Q f w := fun a ha => by
  refine wp_region_any hm ?_
  unfold permOk at hp
  rw [Bool.and_eq_true, Bool.and_eq_true, Bool.and_eq_true, List.all_eq_true, List.all_eq_true] at hp
  obtain ⟨⟨⟨p1, p2⟩, p3⟩, p4⟩ := hp
  have hlen := Nat.eq_of_beq_eq_true p1
  have p3' : l.Nodup := of_decide_eq_true p3
  have := R.any (P := P) (Q := Q) (certs := certs) hok hsel hS hT ops.length l (Array.replicate ops.length false) a f { w with drawn := w.drawn + 1 } hlen (by simp) (Clo.start _ _ _) (fun i => by
    have hg : ∀ i, (Array.replicate ops.length false).getD i false = false := fun i => getD_replicate_false _ _
    constructor
    · intro hi; exact ⟨by simpa [Nat.blt_eq] using p2 i hi, hg i⟩
    · intro hi
      obtain ⟨k, hk, hk2⟩ := List.any_eq_true.1 (p4 i (by simpa using hi.1))
      rw [Nat.eq_of_beq_eq_true hk2]; exact hk) p3' (pairsOk_pw hpp) ha (h { w with drawn := w.drawn + 1 } (Below.refl _ _).drew rfl)
  simpa using this
end
section
variable {P : Program} {n : Nat} {ops : List Oper} {cs : List Nat} {S : World → World → Prop} {Q : Post} {f : Nat → Value} {w : World} {i : Nat} {l : List Nat}
theorem R.nil (h : Q .normal f w) : R P n ops cs S Q [] f w := h
theorem R.skip (hw : Region.wanted (opAt ops i) (yf ops.toArray f) = false) (h : R P n ops cs S Q l (put f (opAt ops i).dst undef) w) : R P n ops cs S Q (i :: l) f w := .inl ⟨hw, h⟩
theorem R.pure {v : Value} (hw : Region.wanted (opAt ops i) (yf ops.toArray f) = true) (hc : Nat.beq (cs.getD i 3) 0 = true) (hr : ∀ w2, (execOp (ev f) (opAt ops i)).run P w2 = .ok (.value v) w2) (h : R P n ops cs S Q l (put f (opAt ops i).dst v) w) : R P n ops cs S Q (i :: l) f w :=
  .inr ⟨hw, .inl ⟨by rw [Nat.eq_of_beq_eq_true hc]; rfl, v, fun w2 _ => hr w2, h⟩⟩
theorem R.read {v : Value} (hw : Region.wanted (opAt ops i) (yf ops.toArray f) = true) (hc : Nat.beq (cs.getD i 3) 1 = true) (hS : S w w) (hr : ∀ w2, S w w2 → (execOp (ev f) (opAt ops i)).run P w2 = .ok (.value v) w2) (h : R P n ops cs S Q l (put f (opAt ops i).dst v) w) : R P n ops cs S Q (i :: l) f w :=
  .inr ⟨hw, .inl ⟨by rw [Nat.eq_of_beq_eq_true hc]; rfl, v, fun w2 hb => hr w2 (by
    rcases hb with e | ⟨_, e⟩ | e
    · rw [Nat.eq_of_beq_eq_true hc] at e; cases e
    · exact e
    · subst e; exact hS), h⟩⟩
theorem R.still {v : Value} (hw : Region.wanted (opAt ops i) (yf ops.toArray f) = true) (hc : Nat.beq (cs.getD i 3) 4 = true) (hr : (execOp (ev f) (opAt ops i)).run P w = .ok (.value v) w) (h : R P n ops cs S Q l (put f (opAt ops i).dst v) w) : R P n ops cs S Q (i :: l) f w :=
  .inr ⟨hw, .inl ⟨by rw [Nat.eq_of_beq_eq_true hc]; rfl, v, fun w2 hb => by
    rcases hb with e | ⟨e, _⟩ | e
    · rw [Nat.eq_of_beq_eq_true hc] at e; cases e
    · rw [Nat.eq_of_beq_eq_true hc] at e; cases e
    · subst e; exact hr, h⟩⟩
theorem R.p (v : Value) (hr : ∀ w2, Runs P f (opAt ops i) w2 v) (h : R P n ops cs S Q l (put f (opAt ops i).dst v) w) (hw : Region.wanted (opAt ops i) (yf ops.toArray f) = true := by rfl) (hc : Nat.beq (cs.getD i 3) 0 = true := by rfl) : R P n ops cs S Q (i :: l) f w := R.pure hw hc hr h
theorem R.s (v : Value) (hr : Runs P f (opAt ops i) w v) (h : R P n ops cs S Q l (put f (opAt ops i).dst v) w) (hw : Region.wanted (opAt ops i) (yf ops.toArray f) = true := by rfl) (hc : Nat.beq (cs.getD i 3) 4 = true := by rfl) : R P n ops cs S Q (i :: l) f w := R.still hw hc hr h
theorem R.eff (hc : Nat.beq (cs.getD i 3) 3 = true) (h : L P n ops.toArray (fun _ f' w' => R P n ops cs S Q l f' w') [opAt ops i] f w) : R P n ops cs S Q (i :: l) f w := by
  have hc' := Nat.eq_of_beq_eq_true hc
  obtain ⟨_, ⟨h1, h2⟩ | ⟨h1, h2⟩⟩ := h
  · refine .inr ⟨h1, .inr ⟨by rw [hc']; rfl, Out.mono (K := fun v w' => R P n ops cs S Q l (put f (opAt ops i).dst v) w') h2 fun v w' hk => ⟨fun e => by omega, hk⟩⟩⟩
  · exact .inl ⟨h1, h2⟩
theorem R.make (hc : Nat.beq (cs.getD i 3) 2 = true) (h : L P n ops.toArray (fun _ f' w' => S w w' ∧ R P n ops cs S Q l f' w') [opAt ops i] f w) : R P n ops cs S Q (i :: l) f w := by
  have hc' := Nat.eq_of_beq_eq_true hc
  obtain ⟨_, ⟨h1, h2⟩ | ⟨h1, h2⟩⟩ := h
  · exact .inr ⟨h1, .inr ⟨by rw [hc']; rfl, Out.mono (K := fun v w' => S w w' ∧ R P n ops cs S Q l (put f (opAt ops i).dst v) w') h2 fun v w' hk => ⟨fun _ => hk.1, hk.2⟩⟩⟩
  · exact .inl ⟨h1, h2.2⟩
def Mk (w w' : World) : Prop := Below w.heap.size w w'
theorem Mk.refl (w : World) : Mk w w := Below.refl _ _
theorem Mk.trans (a b c : World) (h : Mk a b) (k : Mk b c) : Mk a c := bch h k
end
end Go.Proofs.Ytolmkjepieoloaa.Fx
namespace Go.Proofs.Ytolmkjepieoloaa.Fx
open Go.RowKit
theorem u8e {a c : Int} (h : 0 ≤ c ∧ c ≤ 255) (e : a = c) : IntKind.u8.wrap a = c := by subst e; exact IntWalk.u8_in _ h
def flat (s : Nat) (F : Nat → Nat → Value) : Nat → Value := fun p => F (p / s) (p % s)
theorem flat_at {s k j p : Nat} {F : Nat → Nat → Value} (hp : p = s * k + j) (hj : j < s) : flat s F p = F k j := by
  subst hp
  have hs : 0 < s := by omega
  unfold flat
  rw [Nat.add_comm, Nat.add_mul_div_left _ _ hs, Nat.div_eq_of_lt hj, Nat.zero_add, Nat.add_mul_mod_self_left, Nat.mod_eq_of_lt hj]
theorem flat_cell {s k j p : Nat} {F : Nat → Nat → Value} {v : Value} (hp : p = s * k + j) (hj : j < s) (e : F k j = v) : flat s F p = v := (flat_at hp hj).trans e
theorem flat_cong {s n : Nat} {F G : Nat → Nat → Value} (h : ∀ k, k < n → ∀ j, j < s → F k j = G k j) : ∀ p, p < n * s → flat s F p = flat s G p := fun p hp => by
  have hs : 0 < s := Nat.pos_of_ne_zero fun e => by subst e; simp at hp
  unfold flat
  exact h _ (Nat.div_lt_of_lt_mul (by rw [Nat.mul_comm]; exact hp)) _ (Nat.mod_lt _ hs)
def updF (F : Nat → Nat → Value) (k : Nat) (y : Nat → Value) : Nat → Nat → Value := fun i => if i = k then y else F i
theorem app_flat {s n : Nat} {F : Nat → Nat → Value} {y z : Nat → Value} : ∀ p, p < (n + 1) * s → appX (flat s F) (n * s) (ovr z (0 * s) s y) p = flat s (updF F n y) p := fun p hp => by
  have hs : 0 < s := Nat.pos_of_ne_zero fun e => by subst e; simp at hp
  unfold appX
  by_cases h : p < n * s
  · rw [if_pos h]
    have h1 : p / s < n := Nat.div_lt_of_lt_mul (by rw [Nat.mul_comm]; exact h)
    unfold flat updF
    rw [if_neg (by omega)]
  · rw [if_neg h]
    have e : p = s * n + (p - n * s) := by rw [Nat.mul_comm s n]; omega
    have hj : p - n * s < s := by rw [Nat.add_mul] at hp; omega
    rw [flat_at e hj]
    unfold ovr updF
    rw [if_pos (by omega), if_pos rfl]
    congr 1; omega
theorem ovr_flat {s n k : Nat} {F : Nat → Nat → Value} {y : Nat → Value} {o : Nat} (ho : o = s * k) : ∀ p, p < n * s → ovr (flat s F) o s y p = flat s (updF F k y) p := fun p hp => by
  subst ho
  have hs : 0 < s := Nat.pos_of_ne_zero fun e => by subst e; simp at hp
  unfold ovr flat updF
  have e := Nat.div_add_mod p s
  have hm := Nat.mod_lt p hs
  by_cases h : p / s = k
  · rw [h] at e
    rw [if_pos ⟨by omega, by omega⟩, if_pos h]; congr 1; omega
  · rw [if_neg h, if_neg]
    rintro ⟨h1, h2⟩
    apply h
    have : p = (p - s * k) + s * k := by omega
    rw [this, Nat.add_mul_div_left _ _ hs, Nat.div_eq_of_lt (by omega), Nat.zero_add]
theorem updV_flat {s n k j : Nat} {F : Nat → Nat → Value} {v : Value} {o : Nat} (ho : o = s * k + j) (hj : j < s) : ∀ p, p < n * s → updV (flat s F) o v p = flat s (updF F k (updV (F k) j v)) p := fun p hp => by
  subst ho
  have hs : 0 < s := by omega
  unfold updV flat updF
  have e := Nat.div_add_mod p s
  have hm := Nat.mod_lt p hs
  by_cases h : p / s = k
  · rw [if_pos h, h]
    rw [h] at e
    by_cases h2 : p % s = j
    · rw [if_pos (by omega), if_pos h2]
    · rw [if_neg (by omega), if_neg h2]
  · rw [if_neg h, if_neg]
    intro h1
    apply h
    rw [h1, Nat.add_comm, Nat.add_mul_div_left _ _ hs, Nat.div_eq_of_lt hj, Nat.zero_add]
theorem ovrS_flat {s n k j c : Nat} {F : Nat → Nat → Value} {y : Nat → Value} {o : Nat} (ho : o = s * k + j) (hj : j + c ≤ s) : ∀ p, p < n * s → ovr (flat s F) o c y p = flat s (updF F k (ovr (F k) j c y)) p := fun p hp => by
  subst ho
  have hs : 0 < s := Nat.pos_of_ne_zero fun e => by subst e; simp at hp
  unfold ovr flat updF
  have e := Nat.div_add_mod p s
  have hm := Nat.mod_lt p hs
  by_cases h : p / s = k
  · rw [if_pos h, h]
    rw [h] at e
    by_cases h2 : j ≤ p % s ∧ p % s < j + c
    · rw [if_pos (by omega), if_pos h2]; congr 1; omega
    · rw [if_neg (by omega), if_neg h2]
  · rw [if_neg h, if_neg]
    rintro ⟨h1, h2⟩
    apply h
    have : p = (p - s * k) + s * k := by omega
    rw [this, Nat.add_mul_div_left _ _ hs, Nat.div_eq_of_lt (by omega), Nat.zero_add]
def Arr (w : World) (a : Option Addr) (n s : Nat) (x : Nat → Value) : Prop := 0 < n → ∃ b off, a = some ⟨b, off, none⟩ ∧ Cel w b off (n * s) x
section
variable {w w' : World} {a : Option Addr} {n s : Nat} {x : Nat → Value}
theorem Arr.below {B : Nat} (h : Arr w a n s x) (hb : Below B w w') (hB : ∀ b off, a = some ⟨b, off, none⟩ → b < B) : Arr w' a n s x := fun h0 => by
  obtain ⟨b, off, e, hc⟩ := h h0
  exact ⟨b, off, e, hc.below hb (hB b off e)⟩
theorem Arr.up (h : Arr w a n s x) (hb : Below w.heap.size w w') (hs : Nat.blt 0 s = true) : Arr w' a n s x := fun h0 => by
  obtain ⟨b, off, e, hc⟩ := h h0
  have hs' : 0 < s := by simpa [Nat.blt_eq] using hs
  exact ⟨b, off, e, hc.below hb (hc.lt (Nat.mul_pos h0 hs'))⟩
theorem Arr.at {F : Nat → Nat → Value} (h : Arr w a n s (flat s F)) {k : Nat} (hk : k < n) : ∃ b off, a = some ⟨b, off, none⟩ ∧ Cel w b (off + s * k) s (F k) := by
  obtain ⟨b, off, e, hc⟩ := h (by omega)
  refine ⟨b, off, e, fun i hi => ?_⟩
  have hlt : s * k + i < n * s := by
    have h1 : (k + 1) * s ≤ n * s := Nat.mul_le_mul_right s hk
    rw [Nat.add_mul, Nat.one_mul, Nat.mul_comm k s] at h1
    omega
  have := hc (s * k + i) hlt
  rw [flat_at rfl hi, ← Nat.add_assoc] at this
  exact this
theorem Own.arr {B : Nat} {E : TypeId} {c : Nat} (h : Own w B E s (.slice a n c) n x) : Arr w a n s x := fun h0 => by
  obtain ⟨g, cap, e, _, _, _, hc⟩ := h.form h0
  simp only [Value.slice.injEq, true_and] at e
  exact ⟨g, 0, e.1, hc⟩
theorem Own.addr {B : Nat} {E : TypeId} {c : Nat} (h : Own w B E s (.slice a n c) n x) (h0 : 0 < n) : ∃ g, a = some ⟨g, 0, none⟩ := by
  obtain ⟨g, cap, e, _⟩ := h.form h0
  simp only [Value.slice.injEq, true_and] at e
  exact ⟨g, e.1⟩
end
def Ty (w : World) (g : Nat) (T : TypeId) : Prop := ∃ c, w.heap[g]? = some (.cells c T (0, 0))
theorem Ty.ne {w : World} {g g' : Nat} {T T' : TypeId} (h : Ty w g T) (h' : Ty w g' T') (ne : T ≠ T') : g ≠ g' := fun e => by
  subst e
  obtain ⟨c, h⟩ := h
  obtain ⟨c', h'⟩ := h'
  rw [h] at h'
  simp only [Option.some.injEq, Obj.cells.injEq] at h'
  exact ne h'.2.1
theorem Blk.ty {w : World} {g n : Nat} {x : Nat → Value} {T : TypeId} (h : Blk w g n x T) : Ty w g T := ⟨_, h⟩
theorem Own.ty {w : World} {B : Nat} {E : TypeId} {s : Nat} {v : Value} {n : Nat} {x : Nat → Value} (h : Own w B E s v n x) {g : Nat} (hg : v.ownBlock = some g) : Ty w g E := by
  rcases h.2 with ⟨rfl, _⟩ | ⟨g', cap, cur, rfl, hb, hgg, _⟩
  · cases hg
  · simp only [Value.ownBlock, Option.some.injEq] at hg; subst hg
    exact ⟨_, hgg⟩
theorem Own.tyB {w : World} {B : Nat} {E : TypeId} {s g cap : Nat} {n : Nat} {x : Nat → Value} (h : Own w B E s (.slice (some ⟨g, 0, none⟩) n cap) n x) : Ty w g E := h.ty rfl
structure ChT (Ts : List TypeId) (w w' : World) : Prop where
  os : w'.os = w.os
  tape : w'.tape = w.tape
  output : w'.output = w.output
  size : w.heap.size ≤ w'.heap.size
  block : ∀ k, k < w.heap.size → (∀ T, Ty w k T → Ts.contains T = false) → w'.heap[k]? = w.heap[k]?
theorem Ty.only {w : World} {k : Nat} {T T' : TypeId} (h : Ty w k T) (h' : Ty w k T') : T' = T := Classical.byContradiction fun ne => Ty.ne h' h ne rfl
section
variable {w w' : World} {T : TypeId} {Ts : List TypeId}
theorem ChT.of_stp {g : Nat} (hs : Stp g w w') (ht : Ty w g T) : ChT [T] w w' := ⟨hs.os, hs.tape, hs.output, hs.size, fun k hk hn => hs.block k hk fun e => by
  have := hn T (by rw [e]; exact ht)
  simp at this⟩
theorem ChT.of_grown {B : Nat} {s : Nat} {v : Value} {n : Nat} {x : Nat → Value} (hg : w.grownBy w' v.ownBlock) (h : Own w B T s v n x) : ChT [T] w w' := ⟨hg.os, hg.tape, hg.output, hg.size, fun k hk hn => hg.block k hk fun e => by
  have := hn T (h.ty e.symm)
  simp at this⟩
theorem ChT.of_below (h : Below w.heap.size w w') : ChT Ts w w' := ⟨h.os, h.tape, h.output, h.size, fun k hk _ => h.block k hk⟩
theorem ChT.of_chg {S : Nat → Prop} (h : Chg S w w') (ht : ∀ k, S k → ∃ T, Ty w k T ∧ Ts.contains T = true) : ChT Ts w w' := ⟨h.os, h.tape, h.output, h.size, fun k hk hn => h.block k hk fun e => by
  obtain ⟨T, h1, h2⟩ := ht k e
  rw [hn T h1] at h2; cases h2⟩
theorem ChT.refl (w : World) : ChT Ts w w := ⟨rfl, rfl, rfl, Nat.le_refl _, fun _ _ _ => rfl⟩
theorem ChT.trans (a b c : World) (h : ChT Ts a b) (k : ChT Ts b c) : ChT Ts a c := ⟨k.os.trans h.os, k.tape.trans h.tape, k.output.trans h.output, Nat.le_trans h.size k.size, fun i hi hn =>
  have e := h.block i hi hn
  (k.block i (Nat.lt_of_lt_of_le hi h.size) fun T ⟨cc, ht⟩ => hn T ⟨cc, by rw [← e]; exact ht⟩).trans e⟩
theorem Blk.chT {b n : Nat} {x : Nat → Value} {T0 : TypeId} (h : Blk w b n x T0) (hs : ChT Ts w w') (ne : Ts.contains T0 = false) : Blk w' b n x T0 := (hs.block b h.lt fun _ ht => by rw [Ty.only h.ty ht]; exact ne).trans h
theorem Own.chT {B : Nat} {E : TypeId} {s : Nat} {v : Value} {n : Nat} {x : Nat → Value} (h : Own w B E s v n x) (hs : ChT Ts w w') (ne : Ts.contains E = false) : Own w' B E s v n x := by
  refine ⟨h.1, ?_⟩
  rcases h.2 with a | ⟨g, cap, cur, rfl, hb, hg, rest⟩
  · exact .inl a
  · exact .inr ⟨g, cap, cur, rfl, hb, (hs.block g (Array.getElem?_eq_some_iff.1 hg).1 fun _ ht => by rw [Ty.only ⟨_, hg⟩ ht]; exact ne).trans hg, rest⟩
theorem Own.mono {B B' : Nat} {E : TypeId} {s : Nat} {v : Value} {n : Nat} {x : Nat → Value} (h : Own w B E s v n x) (hB : B' ≤ B) : Own w B' E s v n x := by
  refine ⟨h.1, ?_⟩
  rcases h.2 with a | ⟨g, cap, cur, rfl, hb, rest⟩
  · exact .inl a
  · exact .inr ⟨g, cap, cur, rfl, Nat.le_trans hB hb, rest⟩
theorem Own.congV {B : Nat} {E : TypeId} {s : Nat} {v v' : Value} {n : Nat} {x : Nat → Value} (h : Own w B E s v n x) (e : v = v') : Own w B E s v' n x := e ▸ h
end
section
variable {P : Program} {f : Nat → Value} {w : World} {o : Oper}
theorem x_shr {T T' : TypeId} {x y : Operand} {k yk : IntKind} {a q : Int} {b : Nat} (ho : o.op = .binOp .shr T x y T') (hx : ev f x = .int k a) (hy : ev f y = .int yk b) (hb : b ≤ k.bits) (hq : (2 : Int) ^ b = q) : Runs P f o w (.int k (a / q)) := by
  unfold Runs execOp
  simp only [ho, hx, hy]
  have hr : (binOp .shr T (.int k a) (.int yk (b : Int))).run P w = .ok (.int k (a / q)) w := by
    simp only [binOp]
    rw [shift_shr _ _ _ _ (by omega) (by omega), show ((b : Int)).toNat = b by omega, hq]
    simp
  simp only [Sem.run_bind, run_eqGuard_ints, Result.andThen_ok, hr, Sem.run_pure]
end
theorem ovr_ones {n o m : Nat} {x y : Nat → Value} (hx : ∀ j, j < n → (x j).oneCell' = true) (hy : ∀ j, j < m → (y j).oneCell' = true) : ∀ j, j < n → (ovr x o m y j).oneCell' = true := fun j hj => by
  unfold ovr; split
  · rename_i h; exact hy _ (by omega)
  · exact hx j hj
section
variable {P : Program} {f : Nat → Value} {w : World} {o : Oper}
theorem x_indexV {T E : TypeId} {x ix : Operand} {k : IntKind} {j m : Nat} {y : Nat → Value} {v : Value} (ho : o.op = .index T x ix) (hx : ev f x = .agg (varr m y)) (hi : ev f ix = .int k (j : Int)) (hu : P.underlying T = some (.array m E)) (hz : (P.info? E).map (·.size) = some 1) (hE : oneT P E = true) (hj : j < m) (hv : y j = v) : Runs P f o w v := by
  subst hv
  obtain ⟨z, hz1, hz2⟩ := Option.map_eq_some_iff.1 hz
  unfold Runs execOp
  simp only [ho, hx, hi]
  unfold oneT at hE
  cases hq : P.underlying E with
  | none => rw [hq] at hE; cases hE
  | some d =>
    rw [hq] at hE
    cases d <;> first
      | (cases hE; done)
      | (simp [Instr.index, asIntOf, underlying, hu, sizeOf, typeInfo, hz1, hz2, part, isAgg, hq, varr_get y hj]; intro h9; omega)
      | simp [Instr.index, asIntOf, underlying, hu, hj, sizeOf, typeInfo, hz1, hz2, part, isAgg, hq, varr_get y hj]
end
def shF (F : Nat → Nat → Value) (y : Nat → Value) (n k : Nat) : Nat → Nat → Value := fun i => if i ≤ k then (if i < n then F i else y) else F (i - 1)
def insF (F : Nat → Nat → Value) (k : Nat) (y : Nat → Value) : Nat → Nat → Value := fun i => if i < k then F i else if i = k then y else F (i - 1)
def insI {α : Type} (f : Nat → α) (k : Nat) (v : α) : Nat → α := fun i => if i < k then f i else if i = k then v else f (i - 1)
theorem sh_at {F : Nat → Nat → Value} {y : Nat → Value} {n k j : Nat} (h : j < k) (hk : k ≤ n) : shF F y n k j = F j := by unfold shF; rw [if_pos (by omega), if_pos (by omega)]
theorem sh_start {F : Nat → Nat → Value} {y : Nat → Value} {n : Nat} : ∀ i, i < n + 1 → ∀ j : Nat, updF F n y i j = shF F y n n i j := fun i hi j => by
  unfold updF shF
  rw [if_pos (show i ≤ n by omega)]
  by_cases h : i = n
  · rw [if_pos h, if_neg (by omega)]
  · rw [if_neg h, if_pos (by omega)]
theorem sh_step {F : Nat → Nat → Value} {y : Nat → Value} {n k j : Nat} (e : k = j + 1) (_hk : k ≤ n) : ∀ i, i < n + 1 → ∀ q : Nat, updF (shF F y n k) k (F j) i q = shF F y n j i q := fun i _ q => by
  unfold updF shF
  by_cases h : i = k
  · rw [if_pos h, if_neg (by omega), show i - 1 = j by omega]
  · rw [if_neg h]
    by_cases h2 : i ≤ j
    · rw [if_pos (by omega), if_pos h2]
    · rw [if_neg (by omega), if_neg h2]
theorem ins_end {F : Nat → Nat → Value} {y : Nat → Value} {n k : Nat} (hk : k ≤ n) : ∀ i, i < n + 1 → ∀ q : Nat, updF (shF F y n k) k y i q = insF F k y i q := fun i _ q => by
  unfold updF shF insF
  by_cases h : i = k
  · rw [if_pos h, if_neg (by omega), if_pos h]
  · rw [if_neg h]
    by_cases h2 : i < k
    · rw [if_pos (by omega), if_pos (by omega), if_pos h2]
    · rw [if_neg (by omega), if_neg h2, if_neg h]
def down (P : Nat → Bool) : Nat → Nat
  | 0 => 0
  | n + 1 => if P n then down P n else n + 1
theorem down_eq {P : Nat → Bool} {k : Nat} : ∀ {n : Nat}, k ≤ n → (∀ i, k ≤ i → i < n → P i = true) → (k = 0 ∨ ∀ j, k = j + 1 → P j = false) → k = down P n
  | 0, h, _, _ => by unfold down; omega
  | n + 1, h, h1, h2 => by
    unfold down
    by_cases e : k = n + 1
    · rcases h2 with h2 | h2
      · omega
      · rw [h2 n e, if_neg (by decide)]; exact e
    · rw [h1 n (by omega) (by omega), if_pos rfl]
      exact down_eq (by omega) (fun i a b => h1 i a (by omega)) h2
theorem down_le (P : Nat → Bool) : ∀ n, down P n ≤ n
  | 0 => Nat.le_refl _
  | n + 1 => by
    unfold down; split
    · have := down_le P n; omega
    · exact Nat.le_refl _
theorem down_gt {P : Nat → Bool} : ∀ {n i : Nat}, down P n ≤ i → i < n → P i = true
  | 0, _, _, h => absurd h (Nat.not_lt_zero _)
  | n + 1, i, h1, h2 => by
    unfold down at h1
    split at h1
    · rename_i hp
      by_cases e : i = n
      · subst e; exact hp
      · exact down_gt h1 (by omega)
    · omega
theorem down_no {P : Nat → Bool} : ∀ {n j : Nat}, down P n = j + 1 → P j = false
  | 0, _, h => by unfold down at h; omega
  | n + 1, j, h => by
    unfold down at h
    split at h
    · exact down_no h
    · rename_i hp
      have : j = n := by omega
      subst this
      exact Bool.eq_false_iff.2 hp
end Go.Proofs.Ytolmkjepieoloaa.Fx
namespace Go.Proofs.Ytolmkjepieoloaa
open Go.RowKit Rt
open Fx (x_move x_assign x_field x_load1 x_pickF x_pickT x_nil x_conv x_indexS x_index x_leqF x_loadA x_len x_gtrF x_build x_eqlF x_eqlT)
section
structure LdM where
  s : StM
  id : Nat → Int
  par : Nat → Int
  R : Nat → Nat → Int
  g : Nat → Nat → Int
  tb : Nat
  ta : Option Addr
  tn : Nat
  tc : Nat
  t : Nat → Nat → Int
  ra : Nat → Option Addr
  rn : Nat → Nat
  rc : Nat → Nat
  rq : Nat → Nat → Int
structure LdC where
  inn : Nat → Bool
  left : Nat → Bool
  known : Nat → Int
  nn : Nat
  id : Nat → Int
  par : Nat → Int
  R : Nat → Nat → Int
  gn : Nat
  g : Nat → Nat → Int
  tn : Nat
  t : Nat → Nat → Int
  rn : Nat → Nat
  rq : Nat → Nat → Int
def LdM.core (m : LdM) : LdC := ⟨m.s.inn, m.s.left, m.s.known, m.s.nn, m.id, m.par, m.R, m.s.gn, m.g, m.tn, m.t, m.rn, m.rq⟩
def ldY (m : LdM) : Nat → Value := fun p => if p < 20 then stY m.s p else if p = 20 then .pointer (some ⟨m.tb, 0, none⟩) else .slice (m.ra (p - 21)) (m.rn (p - 21)) (m.rc (p - 21))
theorem ldY_st (m : LdM) {p : Nat} {v : Value} (h : p < 20) (e : stY m.s p = v) : ldY m p = v := by unfold ldY; rw [if_pos h]; exact e
theorem ldY_req (m : LdM) {p q : Nat} (e : q = p + 21) : ldY m q = .slice (m.ra p) (m.rn p) (m.rc p) := by
  subst e; unfold ldY; rw [if_neg (by omega), if_neg (by omega), Nat.add_sub_cancel]
def grY (x : Nat → Int) : Nat → Value := fun p => if p = 0 then .int .i64 (x 0) else if p = 3 then .int .i64 (x 3) else .int .u64 (x p)
def ndX (m : LdM) : Nat → Value := Fx.flat 56 fun k => ndY (m.id k) (m.par k) (m.R k)
def grX (m : LdM) : Nat → Value := Fx.flat 5 fun k => grY (m.g k)
def flatT (c : Nat → Nat → Int) : Nat → Int := fun p => c (p / 2) (p % 2)
def trX (t : Nat → Nat → Int) : Nat → Value := Fx.flat 2 fun k => Fx.rv .u64 (t k)
structure Ldg (w : World) (p : Nat) (m : LdM) : Prop where
  c : Fx.Cel w p 0 27 (ldY m)
  an : Fx.Arr w m.s.na m.s.nn 56 (ndX m)
  ag : Fx.Arr w m.s.ga m.s.gn 5 (grX m)
  tc : Fx.Cel w m.tb 0 1 (fun _ => .slice m.ta m.tn m.tc)
  at2 : Fx.Arr w m.ta m.tn 2 (trX m.t)
  ar : ∀ i, i < 6 → Fx.Arr w (m.ra i) (m.rn i) 1 (Fx.rv .u64 (m.rq i))
  bn : m.s.nn ≤ 1000000
  bg : m.s.gn ≤ 1000000
  bt : m.tn ≤ 1000000
  br : ∀ i, i < 6 → m.rn i ≤ 1000000
section
variable {w w' : World} {p : Nat} {m : LdM}
theorem Ldg.n (h : Ldg w p m) : Nds w m.s.na m.s.nn m.id m.par m.R := fun _ hk => h.an.at hk
theorem Ldg.g (h : Ldg w p m) : ∀ k, k < m.s.gn → ∃ b off, m.s.ga = some ⟨b, off, none⟩ ∧ Fx.Cel w b (off + 5 * k) 5 (grY (m.g k)) := fun _ hk => h.ag.at hk
theorem Ldg.t (h : Ldg w p m) : ∀ k, k < m.tn → ∃ b off, m.ta = some ⟨b, off, none⟩ ∧ Fx.Cel w b (off + 2 * k) 2 (Fx.rv .u64 (m.t k)) := fun _ hk => h.at2.at hk
theorem Ldg.r (h : Ldg w p m) : ∀ i, i < 6 → ∀ k, k < m.rn i → ∃ b off, m.ra i = some ⟨b, off, none⟩ ∧ Fx.Cel w b (off + k) 1 (fun _ => .int .u64 (m.rq i k)) := fun i hi k hk => by
  obtain ⟨b, off, e, hc⟩ := h.ar i hi (by omega)
  refine ⟨b, off, e, fun j hj => ?_⟩
  obtain rfl : j = 0 := by omega
  exact hc k (by omega)
theorem Ldg.below (h : Ldg w p m) (hb : Below w.heap.size w w') : Ldg w' p m where
  c := h.c.below hb (h.c.lt (by omega))
  an := h.an.up hb rfl
  ag := h.ag.up hb rfl
  tc := h.tc.below hb (h.tc.lt (by omega))
  at2 := h.at2.up hb rfl
  ar := fun i hi => (h.ar i hi).up hb rfl
  bn := h.bn
  bg := h.bg
  bt := h.bt
  br := h.br
end
def firstI (P : Nat → Bool) : Nat → Int
  | 0 => -1
  | n + 1 => if 0 ≤ firstI P n then firstI P n else if P n then (n : Int) else -1
theorem firstI_none {P : Nat → Bool} : ∀ {n : Nat}, (∀ i, i < n → P i = false) → firstI P n = -1
  | 0, _ => rfl
  | n + 1, h => by
    have := firstI_none (P := P) (n := n) fun i hi => h i (by omega)
    simp only [firstI]; rw [this, if_neg (by omega), h n (by omega)]; rfl
theorem firstI_hit {P : Nat → Bool} {k : Nat} (hb : ∀ i, i < k → P i = false) (hk : P k = true) : ∀ {n : Nat}, k < n → firstI P n = (k : Int)
  | 0, h => absurd h (by omega)
  | n + 1, h => by
    simp only [firstI]
    by_cases e : k = n
    · subst e; rw [firstI_none hb, if_neg (by omega), hk]; rfl
    · rw [firstI_hit hb hk (n := n) (by omega), if_pos (by omega)]
theorem firstI_spec (P : Nat → Bool) : ∀ n : Nat, (∃ k : Nat, k < n ∧ firstI P n = (k : Int) ∧ P k = true) ∨ (firstI P n = -1 ∧ ∀ i, i < n → P i = false)
  | 0 => .inr ⟨rfl, fun i h => absurd h (by omega)⟩
  | n + 1 => by
    rcases firstI_spec P n with ⟨k, hk, e, hp⟩ | ⟨e, hp⟩
    · exact .inl ⟨k, by omega, by simp only [firstI]; rw [e, if_pos (by omega)], hp⟩
    · by_cases h : P n = true
      · exact .inl ⟨n, by omega, by simp only [firstI]; rw [e, if_neg (by omega), h]; rfl, h⟩
      · rw [Bool.not_eq_true] at h
        refine .inr ⟨by simp only [firstI]; rw [e, if_neg (by omega), h]; rfl, fun i hi => ?_⟩
        by_cases e2 : i = n
        · subst e2; exact h
        · exact hp i (by omega)
theorem none_step {P : Nat → Bool} {k : Nat} (h : ∀ i, i < k → P i = false) (hk : P k = false) : ∀ i, i < k + 1 → P i = false := fun i hi => by
  by_cases e : i = k
  · subst e; exact hk
  · exact h i (by omega)
def LdM.node (m : LdM) (id : Int) : Int := firstI (fun i => decide (m.id i = id)) m.s.nn
def LdM.grant (m : LdM) (o r : Int) : Int := firstI (fun i => decide (m.g i 0 = o) && decide (m.g i 1 = r)) m.s.gn
def LdM.askedN (m : LdM) (a : Nat) (r : Int) : Int := firstI (fun i => decide (m.rq a i = r)) (m.rn a)
structure TreeR (w : World) (tb : Nat) (ta : Option Addr) (tn tc : Nat) (t : Nat → Nat → Int) : Prop where
  tc : Fx.Cel w tb 0 1 (fun _ => .slice ta tn tc)
  t : ∀ k, k < tn → ∃ b off, ta = some ⟨b, off, none⟩ ∧ Fx.Cel w b (off + 2 * k) 2 (Fx.rv .u64 (t k))
  bt : tn ≤ 1000000
theorem TreeR.below {w w' : World} {tb : Nat} {ta : Option Addr} {tn tc : Nat} {t : Nat → Nat → Int} (h : TreeR w tb ta tn tc t) (hb : Below w.heap.size w w') : TreeR w' tb ta tn tc t where
  tc := h.tc.below hb (h.tc.lt (by omega))
  t := fun k hk => by obtain ⟨b, off, e, hc⟩ := h.t k hk; exact ⟨b, off, e, hc.below hb (hc.lt (by omega))⟩
  bt := h.bt
def findT (t : Nat → Nat → Int) (tn : Nat) (x : Int) : Int := firstI (fun i => decide (t i 0 = x)) tn
def iterT (t : Nat → Nat → Int) (tn : Nat) : Nat → Int → Int
  | 0, x => x
  | k + 1, x => t (findT t tn (iterT t tn k x)).toNat 1
def lenV : Value → Nat
  | .slice _ n _ => n
  | _ => 0
end
theorem l_node (m : LdM) (p : Nat) (x : Int) (w : World) (h : Ldg w p m) :
    Calls Try.prog 121 #[.pointer (some ⟨p, 0, none⟩), .int .u64 (x)] w fun e w' => e = .returned (.int .i64 (m.node x)) ∧ Below w.heap.size w w' := by
 have hc := h.c
 have lp : p < w.heap.size := hc.lt (by omega)
 have bn := h.bn
 have bg := h.bg
 have bt := h.bt
 refine Fx.enter Try.func121 rfl (n := 28) rfl (by rfl) ?_
 refine Fx.W.seq (Fx.W.list (Fx.L.v (.int .i64 (0)) (x_assign rfl rfl) (Fx.L.nil (Fx.seqN (Fx.W.seq (Fx.W.seq (Fx.W.list (Fx.L.v (.int .i64 (0)) (x_assign rfl rfl) (Fx.L.nil (Fx.seqN (Fx.W.block (Fx.W.loop (fun f w_ => ∃ k : Nat, k ≤ m.s.nn ∧ (∀ i, i < k → (fun i => decide (m.id i = x)) i = false) ∧ f 0 = .pointer (some ⟨p, 0, none⟩) ∧ f 1 = .int .u64 (x) ∧ f 5 = .int .i64 ((k : Int)) ∧ Fx.Cel w_ p 0 27 (ldY m) ∧ Below w.heap.size w w_) (fun f _ => (m.s.nn - (intOf (f 5)).toNat)) ⟨0, by omega, (fun i h => absurd h (by omega)), (by rfl), (by first | rfl | exact congrArg (Value.int .u64) (by omega)), (by first | rfl | exact congrArg (Value.int .i64) (by omega)), hc, (Below.refl w.heap.size w)⟩ ?_))))))))))))
 rintro f1 w1 ⟨k, hk, hall, h1, h2, h3, m1, b1⟩
 refine Fx.W.seq (Fx.W.seq (Fx.W.list (Fx.L.v (.int .i64 ((k : Int))) (x_move rfl h3) (Fx.L.v (.pointer (some ⟨p, 0, none⟩)) (x_move rfl h1) (Fx.L.v (.pointer (some ⟨p, 0, none⟩)) (x_nil rfl rfl) (Fx.L.v (.pointer (some ⟨p, 0, none⟩)) (x_field rfl rfl Try.underlying71 rfl (s := 20) (by kernel_rfl) rfl rfl) (Fx.L.v (.pointer (some ⟨p, 18, none⟩)) (x_field rfl rfl Try.underlying43 rfl (s := 1) (by kernel_rfl) rfl (by show _ + 18 = _; omega)) (Fx.L.v (.slice m.s.na (m.s.nn) (m.s.nc)) (x_load1 (x := ldY m) rfl rfl (by kernel_rfl) m1 (i := 18) (by omega) (by omega) rfl) (Fx.L.v (.int .i64 ((m.s.nn : Int))) (x_len rfl rfl rfl (by kernel_rfl)) ?_)))))))))
 by_cases c13 : (k : Int) < (m.s.nn : Int)
 ·refine Fx.L.v (.bool true) (Fx.x_lssT rfl rfl rfl c13) (Fx.L.nil (Fx.seqN (Fx.W.cond (b := true) rfl (fun _ => Fx.W.skip (Fx.seqN (Fx.W.seq (Fx.W.block (Fx.W.seq ?_))))) (fun h => nomatch h))))
  obtain ⟨b, off, ea, hb⟩ := h.n k (by omega)
  have lb : b < w.heap.size := hb.lt (by omega)
  have m2 := hb.below b1 lb
  refine Fx.W.list (Fx.L.v (.pointer (some ⟨p, 0, none⟩)) (x_move rfl h1) (Fx.L.v (.pointer (some ⟨p, 0, none⟩)) (x_nil rfl rfl) (Fx.L.v (.pointer (some ⟨p, 0, none⟩)) (x_field rfl rfl Try.underlying71 rfl (s := 20) (by kernel_rfl) rfl rfl) (Fx.L.v (.pointer (some ⟨p, 18, none⟩)) (x_field rfl rfl Try.underlying43 rfl (s := 1) (by kernel_rfl) rfl (by show _ + 18 = _; omega)) (Fx.L.v (.slice m.s.na (m.s.nn) (m.s.nc)) (x_load1 (x := ldY m) rfl rfl (by kernel_rfl) m1 (i := 18) (by omega) (by omega) rfl) (Fx.L.v (.int .i64 ((k : Int))) (x_move rfl h3) (Fx.L.v (.pointer (some ⟨b, 56 * k + off, none⟩)) (x_indexS rfl (rfl.trans (congrArg (fun q => Value.slice q (m.s.nn) (m.s.nc)) ea)) rfl Try.underlying40 (s := 56) (by kernel_rfl) (by omega) (by omega) (by omega)) (Fx.L.v (.pointer (some ⟨b, 56 * k + off, none⟩)) (x_field rfl rfl Try.underlying50 rfl (s := 1) (by kernel_rfl) rfl rfl) (Fx.L.v (.int .u64 (m.id k)) (x_load1 (x := ndY (m.id k) (m.par k) (m.R k)) rfl rfl (by kernel_rfl) m2 (i := 0) (by omega) (by omega) rfl) (Fx.L.v (.int .u64 (x)) (x_move rfl h2) ?_))))))))))
  by_cases c26 : (m.id k) = x
  ·refine Fx.L.v (.bool true) (x_eqlT rfl rfl rfl c26) (Fx.L.nil (Fx.seqN (Fx.W.cond (b := true) rfl (fun _ => Fx.W.seq (Fx.W.list (Fx.L.v (.int .i64 ((k : Int))) (x_move rfl h3) ?_))) (fun h => nomatch h))))
   refine Fx.L.v (.int .i64 ((k : Int))) (x_assign rfl rfl) (Fx.L.nil (Fx.seqN (Fx.W.ret (Fx.blkR (Fx.seqR (Fx.lpR (Fx.blkR (Fx.seqR (⟨.int .i64 ((k : Int)), Fx.retV1 Try.results121 (by exact rfl), ?_⟩)))))))))
   exact ⟨congrArg (fun q => Ending.returned (Value.int .i64 q)) (Eq.symm (firstI_hit hall (decide_eq_true c26) (by omega))), b1⟩
  ·refine Fx.L.v (.bool false) (x_eqlF rfl rfl rfl c26) (Fx.L.nil (Fx.seqN (Fx.W.cond (b := false) rfl (fun h => nomatch h) (fun _ => Fx.W.skip (Fx.blkN (Fx.seqN (Fx.W.list (Fx.L.v (.int .i64 ((k : Int))) (x_move rfl h3) (Fx.L.v (.int .i64 ((k : Int) + 1)) (Fx.x_add rfl rfl rfl (Fx.i64e (by omega) (by omega))) (Fx.L.v (.int .i64 ((k : Int) + 1)) (x_assign rfl rfl) (Fx.L.nil (Fx.lpN ⟨k + 1, by omega, (none_step hall (decide_eq_false c26)), h1, (h2.trans (by first | rfl | exact congrArg (Value.int .u64) (by omega))), (by first | rfl | exact congrArg (Value.int .i64) (by omega)), m1, b1⟩ ?_))))))))))))
   show (m.s.nn - (intOf ((.int .i64 ((k : Int) + 1)))).toNat) < _
   simp only [h3, intOf]; omega
 ·refine Fx.L.v (.bool false) (Fx.x_lssF rfl rfl rfl c13) (Fx.L.nil (Fx.seqN (Fx.W.cond (b := false) rfl (fun h => nomatch h) (fun _ => Fx.W.exit (Fx.seqX (Fx.lpX (Fx.blkX (Fx.seqN (Fx.W.seq (Fx.W.list (Fx.L.v (.int .i64 (-1)) (x_assign rfl rfl) (Fx.L.nil (Fx.seqN (Fx.W.ret (⟨.int .i64 (-1), Fx.retV1 Try.results121 (by exact rfl), ?_⟩)))))))))))))))
  exact ⟨congrArg (fun q => Ending.returned (Value.int .i64 q)) (Eq.symm (firstI_none (fun i hi => hall i (by omega)))), b1⟩
theorem l_find (tb : Nat) (ta : Option Addr) (tn tc : Nat) (t : Nat → Nat → Int) (x : Int) (w : World) (h : TreeR w tb ta tn tc t) :
    Calls Try.prog 133 #[.pointer (some ⟨tb, 0, none⟩), .int .u64 (x)] w fun e w' => e = .returned (.int .i64 (findT t tn x)) ∧ Below w.heap.size w w' := by
 have hc := h.tc
 have lp : tb < w.heap.size := hc.lt (by omega)
 have bt := h.bt
 refine Fx.enter Try.func133 rfl (n := 26) rfl (by rfl) ?_
 refine Fx.W.seq (Fx.W.list (Fx.L.v (.int .i64 (0)) (x_assign rfl rfl) (Fx.L.nil (Fx.seqN (Fx.W.seq (Fx.W.seq (Fx.W.list (Fx.L.v (.int .i64 (0)) (x_assign rfl rfl) (Fx.L.nil (Fx.seqN (Fx.W.block (Fx.W.loop (fun f w_ => ∃ k : Nat, k ≤ tn ∧ (∀ i, i < k → (fun i => decide (t i 0 = x)) i = false) ∧ f 0 = .pointer (some ⟨tb, 0, none⟩) ∧ f 1 = .int .u64 (x) ∧ f 5 = .int .i64 ((k : Int)) ∧ Fx.Cel w_ tb 0 1 (fun _ => .slice ta tn tc) ∧ Below w.heap.size w w_) (fun f _ => (tn - (intOf (f 5)).toNat)) ⟨0, by omega, (fun i h => absurd h (by omega)), (by rfl), (by first | rfl | exact congrArg (Value.int .u64) (by omega)), (by first | rfl | exact congrArg (Value.int .i64) (by omega)), hc, (Below.refl w.heap.size w)⟩ ?_))))))))))))
 rintro f1 w1 ⟨k, hk, hall, h1, h2, h3, m1, b1⟩
 refine Fx.W.seq (Fx.W.seq (Fx.W.list (Fx.L.v (.int .i64 ((k : Int))) (x_move rfl h3) (Fx.L.v (.pointer (some ⟨tb, 0, none⟩)) (x_move rfl h1) (Fx.L.v (.pointer (some ⟨tb, 0, none⟩)) (x_nil rfl rfl) (Fx.L.v (.pointer (some ⟨tb, 0, none⟩)) (x_field rfl rfl Try.underlying163 rfl (s := 1) (by kernel_rfl) rfl rfl) (Fx.L.v (.slice ta (tn) (tc)) (x_load1 (x := fun _ => .slice ta tn tc) rfl rfl (by kernel_rfl) m1 (i := 0) (by omega) (by omega) rfl) (Fx.L.v (.int .i64 ((tn : Int))) (x_len rfl rfl rfl (by kernel_rfl)) ?_))))))))
 by_cases c12 : (k : Int) < (tn : Int)
 ·refine Fx.L.v (.bool true) (Fx.x_lssT rfl rfl rfl c12) (Fx.L.nil (Fx.seqN (Fx.W.cond (b := true) rfl (fun _ => Fx.W.skip (Fx.seqN (Fx.W.seq (Fx.W.block (Fx.W.seq ?_))))) (fun h => nomatch h))))
  obtain ⟨b, off, ea, hb⟩ := h.t k (by omega)
  have lb : b < w.heap.size := hb.lt (by omega)
  have m2 := hb.below b1 lb
  refine Fx.W.list (Fx.L.v (.pointer (some ⟨tb, 0, none⟩)) (x_move rfl h1) (Fx.L.v (.pointer (some ⟨tb, 0, none⟩)) (x_nil rfl rfl) (Fx.L.v (.pointer (some ⟨tb, 0, none⟩)) (x_field rfl rfl Try.underlying163 rfl (s := 1) (by kernel_rfl) rfl rfl) (Fx.L.v (.slice ta (tn) (tc)) (x_load1 (x := fun _ => .slice ta tn tc) rfl rfl (by kernel_rfl) m1 (i := 0) (by omega) (by omega) rfl) (Fx.L.v (.int .i64 ((k : Int))) (x_move rfl h3) (Fx.L.v (.pointer (some ⟨b, 2 * k + off, none⟩)) (x_indexS rfl (rfl.trans (congrArg (fun q => Value.slice q (tn) (tc)) ea)) rfl Try.underlying161 (s := 2) (by kernel_rfl) (by omega) (by omega) (by omega)) (Fx.L.v (.pointer (some ⟨b, 2 * k + off, none⟩)) (x_field rfl rfl Try.underlying178 rfl (s := 1) (by kernel_rfl) rfl rfl) (Fx.L.v (.int .u64 ((t k) 0)) (x_load1 (x := Fx.rv .u64 (t k)) rfl rfl (by kernel_rfl) m2 (i := 0) (by omega) (by omega) rfl) (Fx.L.v (.int .u64 (x)) (x_move rfl h2) ?_)))))))))
  by_cases c24 : ((t k) 0) = x
  ·refine Fx.L.v (.bool true) (x_eqlT rfl rfl rfl c24) (Fx.L.nil (Fx.seqN (Fx.W.cond (b := true) rfl (fun _ => Fx.W.seq (Fx.W.list (Fx.L.v (.int .i64 ((k : Int))) (x_move rfl h3) ?_))) (fun h => nomatch h))))
   refine Fx.L.v (.int .i64 ((k : Int))) (x_assign rfl rfl) (Fx.L.nil (Fx.seqN (Fx.W.ret (Fx.blkR (Fx.seqR (Fx.lpR (Fx.blkR (Fx.seqR (⟨.int .i64 ((k : Int)), Fx.retV1 Try.results133 (by exact rfl), ?_⟩)))))))))
   exact ⟨congrArg (fun q => Ending.returned (Value.int .i64 q)) (Eq.symm (firstI_hit hall (decide_eq_true c24) (by omega))), b1⟩
  ·refine Fx.L.v (.bool false) (x_eqlF rfl rfl rfl c24) (Fx.L.nil (Fx.seqN (Fx.W.cond (b := false) rfl (fun h => nomatch h) (fun _ => Fx.W.skip (Fx.blkN (Fx.seqN (Fx.W.list (Fx.L.v (.int .i64 ((k : Int))) (x_move rfl h3) (Fx.L.v (.int .i64 ((k : Int) + 1)) (Fx.x_add rfl rfl rfl (Fx.i64e (by omega) (by omega))) (Fx.L.v (.int .i64 ((k : Int) + 1)) (x_assign rfl rfl) (Fx.L.nil (Fx.lpN ⟨k + 1, by omega, (none_step hall (decide_eq_false c24)), h1, (h2.trans (by first | rfl | exact congrArg (Value.int .u64) (by omega))), (by first | rfl | exact congrArg (Value.int .i64) (by omega)), m1, b1⟩ ?_))))))))))))
   show (tn - (intOf ((.int .i64 ((k : Int) + 1)))).toNat) < _
   simp only [h3, intOf]; omega
 ·refine Fx.L.v (.bool false) (Fx.x_lssF rfl rfl rfl c12) (Fx.L.nil (Fx.seqN (Fx.W.cond (b := false) rfl (fun h => nomatch h) (fun _ => Fx.W.exit (Fx.seqX (Fx.lpX (Fx.blkX (Fx.seqN (Fx.W.seq (Fx.W.list (Fx.L.v (.int .i64 (-1)) (x_assign rfl rfl) (Fx.L.nil (Fx.seqN (Fx.W.ret (⟨.int .i64 (-1), Fx.retV1 Try.results133 (by exact rfl), ?_⟩)))))))))))))))
  exact ⟨congrArg (fun q => Ending.returned (Value.int .i64 q)) (Eq.symm (firstI_none (fun i hi => hall i (by omega)))), b1⟩
theorem and_noL {a b : Prop} [Decidable a] [Decidable b] (h : ¬ a) : (decide a && decide b) = false := by rw [decide_eq_false h]; rfl
theorem and_noR {a b : Prop} [Decidable a] [Decidable b] (h : ¬ b) : (decide a && decide b) = false := by rw [decide_eq_false h, Bool.and_false]
theorem and_yes {a b : Prop} [Decidable a] [Decidable b] (h : a) (h2 : b) : (decide a && decide b) = true := by rw [decide_eq_true h, decide_eq_true h2]; rfl
theorem l_grant (m : LdM) (p : Nat) (x r : Int) (w : World) (h : Ldg w p m) :
    Calls Try.prog 131 #[.pointer (some ⟨p, 0, none⟩), .int .i64 (x), .int .u64 (r)] w fun e w' => e = .returned (.int .i64 (m.grant x r)) ∧ Below w.heap.size w w' := by
 have hc := h.c
 have lp : p < w.heap.size := hc.lt (by omega)
 have bn := h.bn
 have bg := h.bg
 have bt := h.bt
 refine Fx.enter Try.func131 rfl (n := 43) rfl (by rfl) ?_
 refine Fx.W.seq (Fx.W.list (Fx.L.v (.int .i64 (0)) (x_assign rfl rfl) (Fx.L.nil (Fx.seqN (Fx.W.seq (Fx.W.seq (Fx.W.list (Fx.L.v (.int .i64 (0)) (x_assign rfl rfl) (Fx.L.nil (Fx.seqN (Fx.W.block (Fx.W.loop (fun f w_ => ∃ k : Nat, k ≤ m.s.gn ∧ (∀ i, i < k → (fun i => decide (m.g i 0 = x) && decide (m.g i 1 = r)) i = false) ∧ f 0 = .pointer (some ⟨p, 0, none⟩) ∧ f 1 = .int .i64 (x) ∧ f 2 = .int .u64 (r) ∧ f 7 = .int .i64 ((k : Int)) ∧ Fx.Cel w_ p 0 27 (ldY m) ∧ Below w.heap.size w w_) (fun f _ => (m.s.gn - (intOf (f 7)).toNat)) ⟨0, by omega, (fun i h => absurd h (by omega)), (by rfl), (by first | rfl | exact congrArg (Value.int .i64) (by omega)), (by first | rfl | exact congrArg (Value.int .u64) (by omega)), (by first | rfl | exact congrArg (Value.int .i64) (by omega)), hc, (Below.refl w.heap.size w)⟩ ?_))))))))))))
 rintro f1 w1 ⟨k, hk, hall, h1, h2, h3, h4, m1, b1⟩
 refine Fx.W.seq (Fx.W.seq (Fx.W.list (Fx.L.v (.int .i64 ((k : Int))) (x_move rfl h4) (Fx.L.v (.pointer (some ⟨p, 0, none⟩)) (x_move rfl h1) (Fx.L.v (.pointer (some ⟨p, 0, none⟩)) (x_nil rfl rfl) (Fx.L.v (.pointer (some ⟨p, 0, none⟩)) (x_field rfl rfl Try.underlying71 rfl (s := 20) (by kernel_rfl) rfl rfl) (Fx.L.v (.pointer (some ⟨p, 19, none⟩)) (x_field rfl rfl Try.underlying43 rfl (s := 1) (by kernel_rfl) rfl (by show _ + 19 = _; omega)) (Fx.L.v (.slice m.s.ga (m.s.gn) (m.s.gc)) (x_load1 (x := ldY m) rfl rfl (by kernel_rfl) m1 (i := 19) (by omega) (by omega) rfl) (Fx.L.v (.int .i64 ((m.s.gn : Int))) (x_len rfl rfl rfl (by kernel_rfl)) ?_)))))))))
 by_cases c15 : (k : Int) < (m.s.gn : Int)
 ·refine Fx.L.v (.bool true) (Fx.x_lssT rfl rfl rfl c15) (Fx.L.nil (Fx.seqN (Fx.W.cond (b := true) rfl (fun _ => Fx.W.skip (Fx.seqN (Fx.W.seq (Fx.W.block (Fx.W.seq ?_))))) (fun h => nomatch h))))
  obtain ⟨b, off, ea, hb⟩ := h.g k (by omega)
  have lb : b < w.heap.size := hb.lt (by omega)
  have m2 := hb.below b1 lb
  refine Fx.W.list (Fx.L.v (.pointer (some ⟨p, 0, none⟩)) (x_move rfl h1) (Fx.L.v (.pointer (some ⟨p, 0, none⟩)) (x_nil rfl rfl) (Fx.L.v (.pointer (some ⟨p, 0, none⟩)) (x_field rfl rfl Try.underlying71 rfl (s := 20) (by kernel_rfl) rfl rfl) (Fx.L.v (.pointer (some ⟨p, 19, none⟩)) (x_field rfl rfl Try.underlying43 rfl (s := 1) (by kernel_rfl) rfl (by show _ + 19 = _; omega)) (Fx.L.v (.slice m.s.ga (m.s.gn) (m.s.gc)) (x_load1 (x := ldY m) rfl rfl (by kernel_rfl) m1 (i := 19) (by omega) (by omega) rfl) (Fx.L.v (.int .i64 ((k : Int))) (x_move rfl h4) (Fx.L.v (.pointer (some ⟨b, 5 * k + off, none⟩)) (x_indexS rfl (rfl.trans (congrArg (fun q => Value.slice q (m.s.gn) (m.s.gc)) ea)) rfl Try.underlying41 (s := 5) (by kernel_rfl) (by omega) (by omega) (by omega)) (Fx.L.v (.pointer (some ⟨b, 5 * k + off, none⟩)) (x_field rfl rfl Try.underlying88 rfl (s := 1) (by kernel_rfl) rfl rfl) (Fx.L.v (.int .i64 (m.g k 0)) (x_load1 (x := grY (m.g k)) rfl rfl (by kernel_rfl) m2 (i := 0) (by omega) (by omega) rfl) (Fx.L.v (.int .i64 (x)) (x_move rfl h2) ?_))))))))))
  by_cases c28 : (m.g k 0) = x
  ·refine Fx.L.v (.bool true) (x_eqlT rfl rfl rfl c28) (Fx.L.v (.bool true) (x_move rfl rfl) (Fx.L.v (.pointer (some ⟨p, 0, none⟩)) (x_move rfl h1) (Fx.L.v (.pointer (some ⟨p, 0, none⟩)) (x_nil rfl rfl) (Fx.L.v (.pointer (some ⟨p, 0, none⟩)) (x_field rfl rfl Try.underlying71 rfl (s := 20) (by kernel_rfl) rfl rfl) (Fx.L.v (.pointer (some ⟨p, 19, none⟩)) (x_field rfl rfl Try.underlying43 rfl (s := 1) (by kernel_rfl) rfl (by show _ + 19 = _; omega)) (Fx.L.v (.slice m.s.ga (m.s.gn) (m.s.gc)) (x_load1 (x := ldY m) rfl rfl (by kernel_rfl) m1 (i := 19) (by omega) (by omega) rfl) (Fx.L.v (.int .i64 ((k : Int))) (x_move rfl h4) (Fx.L.v (.pointer (some ⟨b, 5 * k + off, none⟩)) (x_indexS rfl (rfl.trans (congrArg (fun q => Value.slice q (m.s.gn) (m.s.gc)) ea)) rfl Try.underlying41 (s := 5) (by kernel_rfl) (by omega) (by omega) (by omega)) (Fx.L.v (.pointer (some ⟨b, 5 * k + off + 1, none⟩)) (x_field rfl rfl Try.underlying88 rfl (s := 1) (by kernel_rfl) rfl (by show _ + 1 = _; omega)) (Fx.L.v (.int .u64 (m.g k 1)) (x_load1 (x := grY (m.g k)) rfl rfl (by kernel_rfl) m2 (i := 1) (by omega) (by omega) rfl) (Fx.L.v (.int .u64 (r)) (x_move rfl h3) ?_)))))))))))
   by_cases c40 : (m.g k 1) = r
   ·refine Fx.L.v (.bool true) (x_eqlT rfl rfl rfl c40) (Fx.L.v (.bool true) (x_pickT rfl rfl rfl) (Fx.L.nil (Fx.seqN (Fx.W.cond (b := true) rfl (fun _ => Fx.W.seq (Fx.W.list (Fx.L.v (.int .i64 ((k : Int))) (x_move rfl h4) ?_))) (fun h => nomatch h)))))
    refine Fx.L.v (.int .i64 ((k : Int))) (x_assign rfl rfl) (Fx.L.nil (Fx.seqN (Fx.W.ret (Fx.blkR (Fx.seqR (Fx.lpR (Fx.blkR (Fx.seqR (⟨.int .i64 ((k : Int)), Fx.retV1 Try.results131 (by exact rfl), ?_⟩)))))))))
    exact ⟨congrArg (fun q => Ending.returned (Value.int .i64 q)) (Eq.symm (firstI_hit hall (and_yes c28 c40) (by omega))), b1⟩
   ·refine Fx.L.v (.bool false) (x_eqlF rfl rfl rfl c40) (Fx.L.v (.bool false) (x_pickT rfl rfl rfl) (Fx.L.nil (Fx.seqN (Fx.W.cond (b := false) rfl (fun h => nomatch h) (fun _ => Fx.W.skip (Fx.blkN (Fx.seqN (Fx.W.list (Fx.L.v (.int .i64 ((k : Int))) (x_move rfl h4) (Fx.L.v (.int .i64 ((k : Int) + 1)) (Fx.x_add rfl rfl rfl (Fx.i64e (by omega) (by omega))) (Fx.L.v (.int .i64 ((k : Int) + 1)) (x_assign rfl rfl) (Fx.L.nil (Fx.lpN ⟨k + 1, by omega, (none_step hall (and_noR c40)), h1, (h2.trans (by first | rfl | exact congrArg (Value.int .i64) (by omega))), (h3.trans (by first | rfl | exact congrArg (Value.int .u64) (by omega))), (by first | rfl | exact congrArg (Value.int .i64) (by omega)), m1, b1⟩ ?_)))))))))))))
    show (m.s.gn - (intOf ((.int .i64 ((k : Int) + 1)))).toNat) < _
    simp only [h4, intOf]; omega
  ·refine Fx.L.v (.bool false) (x_eqlF rfl rfl rfl c28) (Fx.L.v (.bool false) (x_move rfl rfl) (Fx.L.skip (by rfl) rfl (Fx.L.skip (by rfl) rfl (Fx.L.skip (by rfl) rfl (Fx.L.skip (by rfl) rfl (Fx.L.skip (by rfl) rfl (Fx.L.skip (by rfl) rfl (Fx.L.skip (by rfl) rfl (Fx.L.skip (by rfl) rfl (Fx.L.skip (by rfl) rfl (Fx.L.skip (by rfl) rfl (Fx.L.skip (by rfl) rfl (Fx.L.v (.bool false) (x_pickF rfl rfl rfl) (Fx.L.nil (Fx.seqN (Fx.W.cond (b := false) rfl (fun h => nomatch h) (fun _ => Fx.W.skip (Fx.blkN (Fx.seqN (Fx.W.list (Fx.L.v (.int .i64 ((k : Int))) (x_move rfl h4) (Fx.L.v (.int .i64 ((k : Int) + 1)) (Fx.x_add rfl rfl rfl (Fx.i64e (by omega) (by omega))) (Fx.L.v (.int .i64 ((k : Int) + 1)) (x_assign rfl rfl) (Fx.L.nil (Fx.lpN ⟨k + 1, by omega, (none_step hall (and_noL c28)), h1, (h2.trans (by first | rfl | exact congrArg (Value.int .i64) (by omega))), (h3.trans (by first | rfl | exact congrArg (Value.int .u64) (by omega))), (by first | rfl | exact congrArg (Value.int .i64) (by omega)), m1, b1⟩ ?_)))))))))))))))))))))))))
   show (m.s.gn - (intOf ((.int .i64 ((k : Int) + 1)))).toNat) < _
   simp only [h4, intOf]; omega
 ·refine Fx.L.v (.bool false) (Fx.x_lssF rfl rfl rfl c15) (Fx.L.nil (Fx.seqN (Fx.W.cond (b := false) rfl (fun h => nomatch h) (fun _ => Fx.W.exit (Fx.seqX (Fx.lpX (Fx.blkX (Fx.seqN (Fx.W.seq (Fx.W.list (Fx.L.v (.int .i64 (-1)) (x_assign rfl rfl) (Fx.L.nil (Fx.seqN (Fx.W.ret (⟨.int .i64 (-1), Fx.retV1 Try.results131 (by exact rfl), ?_⟩)))))))))))))))
  exact ⟨congrArg (fun q => Ending.returned (Value.int .i64 q)) (Eq.symm (firstI_none (fun i hi => hall i (by omega)))), b1⟩
theorem dec_of {n : Int} {k : Nat} (h : n = (k : Int)) : decide (0 ≤ n) = true := decide_eq_true (by omega)
theorem dec_no {n : Int} (h : n = -1) : decide (0 ≤ n) = false := decide_eq_false (by omega)
theorem l_asked (m : LdM) (p a : Nat) (r : Int) (w : World) (h : Ldg w p m) (ha : a < 6) :
    Calls Try.prog 129 #[.pointer (some ⟨p, 0, none⟩), .int .i64 ((a : Int) + 1), .int .u64 (r)] w fun e w' => e = .returned (.bool (decide (0 ≤ m.askedN a r))) ∧ Below w.heap.size w w' := by
 have hc := h.c
 have lp : p < w.heap.size := hc.lt (by omega)
 have bn := h.bn
 have bg := h.bg
 have bt := h.bt
 have br := h.br a ha
 refine Fx.enter Try.func129 rfl (n := 32) rfl (by rfl) ?_
 refine Fx.W.seq (Fx.W.list (Fx.L.v (.bool false) (x_assign rfl rfl) (Fx.L.nil (Fx.seqN (Fx.W.seq (Fx.W.seq (Fx.W.list (Fx.L.v (.int .i64 (0)) (x_assign rfl rfl) (Fx.L.nil (Fx.seqN (Fx.W.block (Fx.W.loop (fun f w_ => ∃ k : Nat, k ≤ m.rn a ∧ (∀ i, i < k → (fun i => decide (m.rq a i = r)) i = false) ∧ f 0 = .pointer (some ⟨p, 0, none⟩) ∧ f 1 = .int .i64 ((a : Int) + 1) ∧ f 2 = .int .u64 (r) ∧ f 7 = .int .i64 ((k : Int)) ∧ Fx.Cel w_ p 0 27 (ldY m) ∧ Below w.heap.size w w_) (fun f _ => (m.rn a - (intOf (f 7)).toNat)) ⟨0, by omega, (fun i h => absurd h (by omega)), (by rfl), (by first | rfl | exact congrArg (Value.int .i64) (by omega)), (by first | rfl | exact congrArg (Value.int .u64) (by omega)), (by first | rfl | exact congrArg (Value.int .i64) (by omega)), hc, (Below.refl w.heap.size w)⟩ ?_))))))))))))
 rintro f1 w1 ⟨k, hk, hall, h1, h2, h3, h4, m1, b1⟩
 refine Fx.W.seq (Fx.W.seq (Fx.W.list (Fx.L.v (.int .i64 ((k : Int))) (x_move rfl h4) (Fx.L.v (.pointer (some ⟨p, 0, none⟩)) (x_move rfl h1) (Fx.L.v (.int .i64 ((a : Int) + 1)) (x_move rfl h2) (Fx.L.v (.int .i64 ((a : Int))) (Fx.x_sub rfl rfl rfl (Fx.i64e (by omega) (by omega))) (Fx.L.v (.pointer (some ⟨p, 0, none⟩)) (x_nil rfl rfl) (Fx.L.v (.pointer (some ⟨p, 21, none⟩)) (x_field rfl rfl Try.underlying71 rfl (s := 6) (by kernel_rfl) rfl (by show _ + 21 = _; omega)) (Fx.L.v (.pointer (some ⟨p, a + 21, none⟩)) (x_index rfl rfl rfl Try.underlying69 (s := 1) (by kernel_rfl) (by omega) (by omega) (by omega)) (Fx.L.v (.slice (m.ra a) ((m.rn a)) ((m.rc a))) (x_load1 (x := ldY m) rfl rfl (by kernel_rfl) m1 (i := a + 21) (by omega) (by omega) (ldY_req _ (by omega))) (Fx.L.v (.int .i64 ((((m.rn a) : Nat) : Int))) (x_len rfl rfl rfl (by kernel_rfl)) ?_)))))))))))
 by_cases c17 : (k : Int) < (((m.rn a) : Nat) : Int)
 ·refine Fx.L.v (.bool true) (Fx.x_lssT rfl rfl rfl c17) (Fx.L.nil (Fx.seqN (Fx.W.cond (b := true) rfl (fun _ => Fx.W.skip (Fx.seqN (Fx.W.seq (Fx.W.block (Fx.W.seq ?_))))) (fun h => nomatch h))))
  obtain ⟨b, off, ea, hb⟩ := h.r a ha k (by omega)
  have lb : b < w.heap.size := hb.lt (by omega)
  have m2 := hb.below b1 lb
  refine Fx.W.list (Fx.L.v (.pointer (some ⟨p, 0, none⟩)) (x_move rfl h1) (Fx.L.v (.int .i64 ((a : Int) + 1)) (x_move rfl h2) (Fx.L.v (.int .i64 ((a : Int))) (Fx.x_sub rfl rfl rfl (Fx.i64e (by omega) (by omega))) (Fx.L.v (.pointer (some ⟨p, 0, none⟩)) (x_nil rfl rfl) (Fx.L.v (.pointer (some ⟨p, 21, none⟩)) (x_field rfl rfl Try.underlying71 rfl (s := 6) (by kernel_rfl) rfl (by show _ + 21 = _; omega)) (Fx.L.v (.pointer (some ⟨p, a + 21, none⟩)) (x_index rfl rfl rfl Try.underlying69 (s := 1) (by kernel_rfl) (by omega) (by omega) (by omega)) (Fx.L.v (.slice (m.ra a) ((m.rn a)) ((m.rc a))) (x_load1 (x := ldY m) rfl rfl (by kernel_rfl) m1 (i := a + 21) (by omega) (by omega) (ldY_req _ (by omega))) (Fx.L.v (.int .i64 ((k : Int))) (x_move rfl h4) (Fx.L.v (.pointer (some ⟨b, k + off, none⟩)) (x_indexS rfl (rfl.trans (congrArg (fun q => Value.slice q ((m.rn a)) ((m.rc a))) ea)) rfl Try.underlying68 (s := 1) (by kernel_rfl) (by omega) (by omega) (by omega)) (Fx.L.v (.int .u64 (m.rq a k)) (x_load1 (x := fun _ => .int .u64 (m.rq a k)) rfl rfl (by kernel_rfl) m2 (i := 0) (by omega) (by omega) rfl) (Fx.L.v (.int .u64 (r)) (x_move rfl h3) ?_)))))))))))
  by_cases c31 : (m.rq a k) = r
  ·refine Fx.L.v (.bool true) (x_eqlT rfl rfl rfl c31) (Fx.L.nil (Fx.seqN (Fx.W.cond (b := true) rfl (fun _ => Fx.W.seq (Fx.W.list (Fx.L.v (.bool true) (x_assign rfl rfl) ?_))) (fun h => nomatch h))))
   refine Fx.L.nil (Fx.seqN (Fx.W.ret (Fx.blkR (Fx.seqR (Fx.lpR (Fx.blkR (Fx.seqR (⟨.bool true, Fx.retV1 Try.results129 (by exact rfl), ?_⟩))))))))
   exact ⟨congrArg (fun q => Ending.returned (Value.bool q)) (Eq.symm (dec_of (firstI_hit hall (decide_eq_true c31) (by omega)))), b1⟩
  ·refine Fx.L.v (.bool false) (x_eqlF rfl rfl rfl c31) (Fx.L.nil (Fx.seqN (Fx.W.cond (b := false) rfl (fun h => nomatch h) (fun _ => Fx.W.skip (Fx.blkN (Fx.seqN (Fx.W.list (Fx.L.v (.int .i64 ((k : Int))) (x_move rfl h4) (Fx.L.v (.int .i64 ((k : Int) + 1)) (Fx.x_add rfl rfl rfl (Fx.i64e (by omega) (by omega))) (Fx.L.v (.int .i64 ((k : Int) + 1)) (x_assign rfl rfl) (Fx.L.nil (Fx.lpN ⟨k + 1, by omega, (none_step hall (decide_eq_false c31)), h1, (h2.trans (by first | rfl | exact congrArg (Value.int .i64) (by omega))), (h3.trans (by first | rfl | exact congrArg (Value.int .u64) (by omega))), (by first | rfl | exact congrArg (Value.int .i64) (by omega)), m1, b1⟩ ?_))))))))))))
   show (m.rn a - (intOf ((.int .i64 ((k : Int) + 1)))).toNat) < _
   simp only [h4, intOf]; omega
 ·refine Fx.L.v (.bool false) (Fx.x_lssF rfl rfl rfl c17) (Fx.L.nil (Fx.seqN (Fx.W.cond (b := false) rfl (fun h => nomatch h) (fun _ => Fx.W.exit (Fx.seqX (Fx.lpX (Fx.blkX (Fx.seqN (Fx.W.seq (Fx.W.list (Fx.L.v (.bool false) (x_assign rfl rfl) (Fx.L.nil (Fx.seqN (Fx.W.ret (⟨.bool false, Fx.retV1 Try.results129 (by exact rfl), ?_⟩)))))))))))))))
  exact ⟨congrArg (fun q => Ending.returned (Value.bool q)) (Eq.symm (dec_no (firstI_none (fun i hi => hall i (by omega))))), b1⟩
namespace Rt
theorem own_step1 {k : Nat} {X : Nat → Int} {z : Int} (hz : X k = z) : ∀ j, j < (k + 1) * 1 → Fx.appX (Fx.rv .u64 X) (k * 1) (Fx.ovr (fun j => Fx.rv .u64 (fun _ => 0) (j % 1)) (0 * 1) 1 (fun _ => .int .u64 z)) j = Fx.rv .u64 X j := by
  intro j hj
  unfold Fx.appX
  by_cases h : j < k * 1
  · rw [if_pos h]
  · rw [if_neg h]
    have e : j = k := by omega
    subst e
    unfold Fx.ovr Fx.rv
    rw [if_pos (by omega), hz]
theorem path_lt {t : Nat → Nat → Int} {tn k D : Nat} {x : Int} (hk : k ≤ D) (hD : findT t tn (iterT t tn D x) < 0) (h : 0 ≤ findT t tn (iterT t tn k x)) : k + 1 ≤ D := Nat.lt_of_le_of_ne hk fun e => by subst e; omega
theorem all_step {t : Nat → Nat → Int} {tn k : Nat} {x : Int} (h : ∀ i, i < k → 0 ≤ findT t tn (iterT t tn i x)) (hk : 0 ≤ findT t tn (iterT t tn k x)) : ∀ i, i < k + 1 → 0 ≤ findT t tn (iterT t tn i x) := fun i hi => by
  by_cases e : i = k
  · subst e; exact hk
  · exact h i (by omega)
theorem find_nat {t : Nat → Nat → Int} {tn : Nat} {x : Int} (h : 0 ≤ findT t tn x) : ∃ j : Nat, j < tn ∧ findT t tn x = (j : Int) ∧ t j 0 = x := by
  rcases firstI_spec (fun i => decide (t i 0 = x)) tn with ⟨k, hk, e, hp⟩ | ⟨e, _⟩
  · exact ⟨k, hk, e, of_decide_eq_true hp⟩
  · unfold findT at h; rw [e] at h; omega
theorem iter_next {t : Nat → Nat → Int} {tn k j : Nat} {x : Int} (h : findT t tn (iterT t tn k x) = (j : Int)) : t j 1 = iterT t tn (k + 1) x := by
  show _ = t (findT t tn (iterT t tn k x)).toNat 1
  rw [h]; rfl
end Rt
theorem l_has (tb : Nat) (ta : Option Addr) (tn tc : Nat) (t : Nat → Nat → Int) (x : Int) (w : World) (h : TreeR w tb ta tn tc t) :
    Calls Try.prog 132 #[.pointer (some ⟨tb, 0, none⟩), .int .u64 (x)] w fun e w' => e = .returned (.bool (decide (0 ≤ findT t tn x))) ∧ Below w.heap.size w w' := by
 have hc := h.tc
 have lp : tb < w.heap.size := hc.lt (by omega)
 have bt := h.bt
 refine Fx.enter Try.func132 rfl (n := 9) rfl (by rfl) ?_
 refine Fx.W.seq (Fx.W.list (Fx.L.v (.bool false) (x_assign rfl rfl) (Fx.L.nil (Fx.seqN (Fx.W.seq (Fx.W.list (Fx.L.v (.pointer (some ⟨tb, 0, none⟩)) (x_move rfl rfl) (Fx.L.v (.int .u64 (x)) (x_move rfl rfl) (Fx.L.call (by rfl) (Fx.r_call (args := [.pointer (some ⟨tb, 0, none⟩), .int .u64 (x)]) rfl rfl Try.func133 rfl rfl) rfl ((l_find tb ta tn tc t x _ (h.below (Below.refl w.heap.size w))).mono ?_))))))))))
 rintro e w1 ⟨he, hb1⟩
 refine ⟨.int .i64 (findT t tn x), by rw [he], ?_⟩
 clear he
 have s1 := Fx.Stp.of_below hb1
 have b1 := s1.below (Below.refl w.heap.size w) (Below.refl w.heap.size w).size (Below.refl w.heap.size w).size
 by_cases c8 : 0 ≤ (findT t tn x)
 ·refine Fx.L.v (.bool true) (Fx.x_geqT rfl rfl rfl c8) (Fx.L.v (.bool true) (x_assign rfl rfl) (Fx.L.nil (Fx.seqN (Fx.W.ret (⟨.bool true, Fx.retV1 Try.results132 (by exact rfl), ?_⟩)))))
  exact ⟨congrArg (fun q => Ending.returned (Value.bool q)) (Eq.symm (decide_eq_true c8)), b1⟩
 ·refine Fx.L.v (.bool false) (Fx.x_geqF rfl rfl rfl c8) (Fx.L.v (.bool false) (x_assign rfl rfl) (Fx.L.nil (Fx.seqN (Fx.W.ret (⟨.bool false, Fx.retV1 Try.results132 (by exact rfl), ?_⟩)))))
  exact ⟨congrArg (fun q => Ending.returned (Value.bool q)) (Eq.symm (decide_eq_false c8)), b1⟩
theorem l_path (tb : Nat) (ta : Option Addr) (tn tc : Nat) (t : Nat → Nat → Int) (x : Int) (D : Nat) (w : World) (h : TreeR w tb ta tn tc t) (hD : findT t tn (iterT t tn D x) < 0) (hD2 : D ≤ 1000) :
    Calls Try.prog 130 #[.pointer (some ⟨tb, 0, none⟩), .int .u64 (x)] w fun e w' => ∃ K v, e = .returned v ∧ Fx.Own w' w.heap.size 27 1 v K (Fx.rv .u64 (fun i => iterT t tn i x)) ∧ (∀ i, i < K → 0 ≤ findT t tn (iterT t tn i x)) ∧ findT t tn (iterT t tn K x) < 0 ∧ Below w.heap.size w w' := by
 have hc := h.tc
 have lp : tb < w.heap.size := hc.lt (by omega)
 have bt := h.bt
 refine Fx.enter Try.func130 rfl (n := 25) rfl (by rfl) ?_
 refine Fx.W.seq (Fx.W.list (Fx.L.v (.slice none 0 0) (x_assign rfl rfl) (Fx.L.nil (Fx.seqN (Fx.W.seq (Fx.W.list (Fx.L.v (.slice none 0 0) (x_assign rfl rfl) (Fx.L.nil (Fx.seqN (Fx.W.seq (Fx.W.block ?_)))))))))))
 have m1 : Fx.Own w w.heap.size 27 1 (.slice none 0 0) 0 (Fx.rv .u64 (fun i => iterT t tn i x)) := Fx.Own.nil _ _ _ _ _
 refine Fx.W.loop (fun f w_ => ∃ k : Nat, ∃ a : Option Addr, ∃ cap : Nat, k ≤ D ∧ (∀ i, i < k → 0 ≤ findT t tn (iterT t tn i x)) ∧ f 0 = .pointer (some ⟨tb, 0, none⟩) ∧ f 1 = .int .u64 (iterT t tn k x) ∧ f 5 = .slice a (k) (cap) ∧ Fx.Cel w_ tb 0 1 (fun _ => .slice ta tn tc) ∧ Fx.Own w_ w.heap.size 27 1 (.slice a k cap) k (Fx.rv .u64 (fun i => iterT t tn i x)) ∧ Below w.heap.size w w_) (fun f _ => (D - lenV (f 5))) ⟨0, none, 0, by omega, (fun i h => absurd h (by omega)), (by rfl), (by rfl), (by rfl), hc, m1, (Below.refl w.heap.size w)⟩ ?_
 rintro f1 w1 ⟨k, a, cap, hk, hall, h1, h2, h3, m2, m3, b1⟩
 refine Fx.W.seq (Fx.W.seq (Fx.W.list (Fx.L.v (.pointer (some ⟨tb, 0, none⟩)) (x_move rfl h1) (Fx.L.v (.int .u64 (iterT t tn k x)) (x_move rfl h2) (Fx.L.call (by rfl) (Fx.r_call (args := [.pointer (some ⟨tb, 0, none⟩), .int .u64 (iterT t tn k x)]) rfl rfl Try.func133 rfl rfl) rfl ((l_find tb ta tn tc t (iterT t tn k x) _ (h.below b1)).mono ?_))))))
 rintro e w2 ⟨he, hb1⟩
 refine ⟨.int .i64 (findT t tn (iterT t tn k x)), by rw [he], ?_⟩
 clear he
 have s1 := Fx.Stp.of_below hb1
 have m4 := m2.stp s1 (Nat.ne_of_lt (m2.lt (by omega)))
 have m5 := m3.stp s1 (m3.notNew (Nat.le_refl _))
 have b2 := s1.below b1 b1.size b1.size
 by_cases c9 : 0 ≤ (findT t tn (iterT t tn k x))
 ·refine Fx.L.v (.bool true) (Fx.x_geqT rfl rfl rfl c9) (Fx.L.nil (Fx.seqN (Fx.W.cond (b := true) rfl (fun _ => Fx.W.skip (Fx.seqN (Fx.W.block (Fx.W.seq ?_)))) (fun h => nomatch h))))
  obtain ⟨j, hj, ej, _⟩ := find_nat c9
  refine Fx.W.list (Fx.L.v (.slice a (k) (cap)) (x_move rfl h3) (Fx.L.v (.int .u64 (iterT t tn k x)) (x_move rfl h2) (Fx.L.bslice (vs := [(0, .int .u64 (iterT t tn k x))]) (s := 1) (zc := Fx.rv .u64 (fun _ => 0)) (y := Fx.ovr (fun j => (Fx.rv .u64 (fun _ => 0)) (j % 1)) (0 * 1) 1 (fun _ => .int .u64 (iterT t tn k x))) (by rfl) rfl rfl Try.underlying68 (by kernel_rfl) (by rfl) (by rfl) (by kernel_rfl) (by rw [Fx.fill_step (off := 0 * 1) (s := 1) (y := fun _ => .int .u64 (iterT t tn k x)) rfl (Fx.cells_one (by rfl)) (by rfl)]; rfl) rfl fun g1 w3 eg1 m6 s2 z1 => ?_)))
  have m7 := m4.stp s2 (Nat.ne_of_lt (m4.lt (by omega)))
  have m8 := m5.stp s2 (m5.notNew (Nat.le_refl _))
  have b3 := s2.below b2 b2.size b2.size
  have lg1 : w.heap.size ≤ g1 := by rw [eg1]; exact b2.size
  have ng1m7 : tb ≠ g1 := by rw [eg1]; exact Nat.ne_of_lt (m4.lt (by omega))
  have ng1m8 : (.slice a k cap : Value).ownBlock ≠ some g1 := by rw [eg1]; exact m5.notNew (Nat.le_refl _)
  have tg1 : g1 < w3.heap.size := m6.lt
  clear eg1
  refine Fx.L.app (B := w.heap.size) (s := 1) (bytes := 8) (k := k) (m := 1) (by rfl) rfl rfl rfl Try.underlying68 (by kernel_rfl) (by kernel_rfl) rfl rfl m8 m6.cel (fun j hj => by rcases j with _|j <;> first | rfl | omega) (by omega) (by omega) (by omega) b3.size fun g2 cap1 w4 ho1 hg1 hgv1 hlt1 => ?_
  have m10 : Fx.Cel w4 tb 0 1 (fun _ => .slice ta tn tc) := m7.grown hg1 (m8.not (by omega))
  have m9 : Fx.Own w4 w.heap.size 27 1 (.slice (some ⟨g2, 0, none⟩) (k + 1) cap1) (k + 1) (Fx.rv .u64 (fun i => iterT t tn i x)) := ho1.congr (own_step1 rfl)
  have b4 : Below w.heap.size w w4 := Fx.Below.grow b3 hg1 b3.size (fun q hq => (m8.ge hq).1)
  refine Fx.L.v (.slice (some ⟨g2, 0, none⟩) (k + 1) (cap1)) (x_assign rfl rfl) (Fx.L.nil (Fx.seqN ?_))
  obtain ⟨b, off, ea, hb⟩ := h.t j hj
  have lb : b < w.heap.size := hb.lt (by omega)
  have m11 := hb.below b4 lb
  -- region 4 draws
  refine Fx.W.quiet (fun v1 => Below w4.heap.size w4 v1) (by kernel_rfl) (by kernel_rfl) (Below.refl _ _).drew ?_
  refine Fx.Qt.v (.pointer (some ⟨tb, 0, none⟩)) (fun v1 hv1 => x_move rfl h1) (Fx.Qt.v (.pointer (some ⟨tb, 0, none⟩)) (fun v1 hv1 => x_nil rfl rfl) (Fx.Qt.v (.pointer (some ⟨tb, 0, none⟩)) (fun v1 hv1 => x_field rfl rfl Try.underlying163 rfl (s := 1) (by kernel_rfl) rfl rfl) (Fx.Qt.v (.slice ta (tn) (tc)) (fun v1 hv1 => x_load1 (x := fun _ => .slice ta tn tc) rfl rfl (by kernel_rfl) (m10.below hv1 (m10.lt (by omega))) (i := 0) (by omega) (by omega) rfl) (Fx.Qt.v (.pointer (some ⟨tb, 0, none⟩)) (fun v1 hv1 => x_move rfl h1) (Fx.Qt.v (.int .u64 (iterT t tn k x)) (fun v1 hv1 => x_move rfl h2) (Fx.Qt.call (v := .int .i64 ((j : Int))) (by rfl) (fun v1 hv1 => Fx.r_call (args := [.pointer (some ⟨tb, 0, none⟩), .int .u64 (iterT t tn k x)]) rfl rfl Try.func133 rfl rfl) rfl (fun v1 hv1 => (((l_find tb ta tn tc t (iterT t tn k x) _ (h.below (bch b4 hv1))).mono fun e w2 h2 => (⟨h2.1.trans (by rw [ej]), h2.2⟩ : e = .returned (.int .i64 (j : Int)) ∧ _))).mono fun e v2 h => ⟨h.1, bch hv1 h.2⟩) ?_))))))
  refine Fx.Qt.v (.pointer (some ⟨b, 2 * j + off, none⟩)) (fun v1 hv1 => x_indexS rfl (rfl.trans (congrArg (fun q => Value.slice q (tn) (tc)) ea)) rfl Try.underlying161 (s := 2) (by kernel_rfl) (by omega) (by omega) (by omega)) (Fx.Qt.v (.pointer (some ⟨b, 2 * j + off + 1, none⟩)) (fun v1 hv1 => x_field rfl rfl Try.underlying178 rfl (s := 1) (by kernel_rfl) rfl (by show _ + 1 = _; omega)) (Fx.Qt.v (.int .u64 ((t j) 1)) (fun v1 hv1 => x_load1 (x := Fx.rv .u64 (t j)) rfl rfl (by kernel_rfl) (m11.below hv1 (m11.lt (by omega))) (i := 1) (by omega) (by omega) rfl) (Fx.Qt.v (.int .u64 ((t j) 1)) (fun v1 hv1 => x_assign rfl rfl) (Fx.Qt.nil ?_))))
  intro wb1 hbwb1
  have s3 : Fx.Stp w4.heap.size w4 wb1 := Fx.Stp.of_below hbwb1
  have m12 := m10.stp s3 (Nat.ne_of_lt (m10.lt (by omega)))
  have m13 := m9.stp s3 (m9.notNew (Nat.le_refl _))
  have b5 := s3.below b4 b4.size b4.size
  refine Fx.blkN ?_
  have kD := path_lt hk hD c9
  refine Fx.lpN ⟨k + 1, (some ⟨g2, 0, none⟩), cap1, (path_lt hk hD c9), (all_step hall c9), h1, (congrArg (Value.int .u64) (iter_next ej)), (by rfl), m12, m13, b5⟩ ?_
  show (D - lenV ((.slice (some ⟨g2, 0, none⟩) (k + 1) (cap1)))) < _
  simp only [h3, intOf, lenV]; omega
 ·refine Fx.L.v (.bool false) (Fx.x_geqF rfl rfl rfl c9) (Fx.L.nil (Fx.seqN (Fx.W.cond (b := false) rfl (fun h => nomatch h) (fun _ => Fx.W.exit (Fx.seqX (Fx.lpX (Fx.blkX (Fx.seqN (Fx.W.seq (Fx.W.list (Fx.L.v (.slice a (k) (cap)) (x_move rfl h3) (Fx.L.v (.slice a (k) (cap)) (x_assign rfl rfl) (Fx.L.nil (Fx.seqN (Fx.W.ret (⟨.slice a (k) (cap), Fx.retV1 Try.results130 (by exact rfl), ?_⟩))))))))))))))))
  exact ⟨k, _, rfl, m5, hall, by omega, b2⟩
namespace Rt
theorem remN {k n r : Nat} (e : r = k % n) (_hn : 0 < n) (_hk : k ≤ 1000000) : Int.tmod (k : Int) (n : Int) = (r : Int) := by
  rw [Int.tmod_eq_emod_of_nonneg (by omega), e]
  exact (Int.natCast_emod k n).symm
def nodeM (m : LdM) (k : Nat) : Int := if m.s.nn = 0 then 0 else m.id (k % m.s.nn)
def newM (k tb : Nat) : LdM := { s := ⟨fun i => decide (i < k), fun _ => false, fun _ => 0, none, 0, 0, none, 0, 0⟩, id := fun _ => 0, par := fun _ => 0, R := fun _ _ => 0, g := fun _ _ => 0, tb := tb, ta := none, tn := 0, tc := 0, t := fun _ _ => 0, ra := fun _ => none, rn := fun _ => 0, rc := fun _ => 0, rq := fun _ _ => 0 }
theorem newM_step (k tb : Nat) (hk : k < 6) : Fx.updV (ldY (newM k tb)) k (.bool true) = ldY (newM (k + 1) tb) := by
  funext p
  unfold Fx.updV
  by_cases e : p = k
  · subst e; rw [if_pos rfl]
    exact (ldY_st _ (by omega) ((stY_in _ hk).trans (congrArg Value.bool (decide_eq_true (show p < p + 1 by omega))))).symm
  · rw [if_neg e]
    unfold ldY
    by_cases h : p < 20
    · rw [if_pos h, if_pos h]
      unfold stY
      by_cases h6 : p < 6
      · rw [if_pos h6, if_pos h6]
        show Value.bool (decide (p < k)) = Value.bool (decide (p < k + 1))
        by_cases h7 : p < k
        · rw [decide_eq_true h7, decide_eq_true (show p < k + 1 by omega)]
        · rw [decide_eq_false h7, decide_eq_false (show ¬ p < k + 1 by omega)]
      · rw [if_neg h6, if_neg h6]; rfl
    · rw [if_neg h, if_neg h]; rfl
end Rt
theorem l_nodeId (m : LdM) (p k : Nat) (w : World) (h : Ldg w p m) (hk : k ≤ 1000000) :
    Calls Try.prog 24 #[.pointer (some ⟨p, 0, none⟩), .int .i64 ((k : Int))] w fun e w' => e = .returned (.int .u64 (nodeM m k)) ∧ Below w.heap.size w w' := by
 have hc := h.c
 have lp : p < w.heap.size := hc.lt (by omega)
 have bn := h.bn
 have bg := h.bg
 have bt := h.bt
 refine Fx.enter Try.func24 rfl (n := 28) rfl (by rfl) ?_
 refine Fx.W.seq (Fx.W.list (Fx.L.v (.int .u64 (0)) (x_assign rfl rfl) (Fx.L.nil (Fx.seqN (Fx.W.seq (Fx.W.seq (Fx.W.list (Fx.L.v (.pointer (some ⟨p, 0, none⟩)) (x_move rfl rfl) (Fx.L.v (.pointer (some ⟨p, 0, none⟩)) (x_nil rfl rfl) (Fx.L.v (.pointer (some ⟨p, 0, none⟩)) (x_field rfl rfl Try.underlying71 rfl (s := 20) (by kernel_rfl) rfl rfl) (Fx.L.v (.pointer (some ⟨p, 18, none⟩)) (x_field rfl rfl Try.underlying43 rfl (s := 1) (by kernel_rfl) rfl (by show _ + 18 = _; omega)) (Fx.L.v (.slice m.s.na (m.s.nn) (m.s.nc)) (x_load1 (x := ldY m) rfl rfl (by kernel_rfl) hc (i := 18) (by omega) (by omega) rfl) (Fx.L.v (.int .i64 ((m.s.nn : Int))) (x_len rfl rfl rfl (by kernel_rfl)) ?_)))))))))))))
 by_cases c11 : (m.s.nn : Int) = 0
 ·refine Fx.L.v (.bool true) (x_eqlT rfl rfl rfl c11) (Fx.L.nil (Fx.seqN (Fx.W.cond (b := true) rfl (fun _ => Fx.W.seq (Fx.W.list (Fx.L.v (.int .u64 (0)) (x_assign rfl rfl) ?_))) (fun h => nomatch h))))
  refine Fx.L.nil (Fx.seqN (Fx.W.ret (Fx.seqR (⟨.int .u64 (0), Fx.retV1 Try.results24 (by exact rfl), ?_⟩))))
  exact ⟨congrArg (fun q => Ending.returned (Value.int .u64 q)) (by unfold nodeM; rw [if_pos (by omega)]), (Below.refl w.heap.size w)⟩
 ·refine Fx.L.v (.bool false) (x_eqlF rfl rfl rfl c11) (Fx.L.nil (Fx.seqN (Fx.W.cond (b := false) rfl (fun h => nomatch h) (fun _ => Fx.W.skip (Fx.seqN (Fx.W.seq ?_))))))
  obtain ⟨r, er⟩ : ∃ r, r = k % m.s.nn := ⟨_, rfl⟩
  have hr : r < m.s.nn := by rw [er]; exact Nat.mod_lt _ (by omega)
  obtain ⟨b, off, ea, hb⟩ := h.n r hr
  have lb : b < w.heap.size := hb.lt (by omega)
  have m1 := hb.below (Below.refl w.heap.size w) lb
  -- region 3 draws
  refine Fx.W.quiet (fun v1 => ∃ q, v1 = World.drewN w q) (by kernel_rfl) (by kernel_rfl) ⟨1, rfl⟩ ?_
  refine Fx.Qt.v (.pointer (some ⟨p, 0, none⟩)) (fun v1 hv1 => x_move rfl rfl) (Fx.Qt.v (.pointer (some ⟨p, 0, none⟩)) (fun v1 hv1 => x_nil rfl rfl) (Fx.Qt.v (.pointer (some ⟨p, 0, none⟩)) (fun v1 hv1 => x_field rfl rfl Try.underlying71 rfl (s := 20) (by kernel_rfl) rfl rfl) (Fx.Qt.v (.pointer (some ⟨p, 18, none⟩)) (fun v1 hv1 => x_field rfl rfl Try.underlying43 rfl (s := 1) (by kernel_rfl) rfl (by show _ + 18 = _; omega)) (Fx.Qt.v (.slice m.s.na (m.s.nn) (m.s.nc)) (fun v1 hv1 => x_load1 (x := ldY m) rfl rfl (by kernel_rfl) (by obtain ⟨qd, rfl⟩ := hv1; exact hc) (i := 18) (by omega) (by omega) rfl) (Fx.Qt.v (.int .i64 ((k : Int))) (fun v1 hv1 => x_move rfl rfl) (Fx.Qt.v (.pointer (some ⟨p, 0, none⟩)) (fun v1 hv1 => x_move rfl rfl) (Fx.Qt.v (.pointer (some ⟨p, 0, none⟩)) (fun v1 hv1 => x_nil rfl rfl) (Fx.Qt.v (.pointer (some ⟨p, 0, none⟩)) (fun v1 hv1 => x_field rfl rfl Try.underlying71 rfl (s := 20) (by kernel_rfl) rfl rfl) (Fx.Qt.v (.pointer (some ⟨p, 18, none⟩)) (fun v1 hv1 => x_field rfl rfl Try.underlying43 rfl (s := 1) (by kernel_rfl) rfl (by show _ + 18 = _; omega)) (Fx.Qt.v (.slice m.s.na (m.s.nn) (m.s.nc)) (fun v1 hv1 => x_load1 (x := ldY m) rfl rfl (by kernel_rfl) (by obtain ⟨qd, rfl⟩ := hv1; exact hc) (i := 18) (by omega) (by omega) rfl) (Fx.Qt.v (.int .i64 ((m.s.nn : Int))) (fun v1 hv1 => x_len rfl rfl rfl (by kernel_rfl)) (Fx.Qt.v (.int .i64 ((r : Int))) (fun v1 hv1 => Fx.x_rem rfl rfl rfl (by omega) (remN er (by omega) (by omega))) (Fx.Qt.v (.pointer (some ⟨b, off + 56 * r, none⟩)) (fun v1 hv1 => x_indexS rfl (rfl.trans (congrArg (fun q => Value.slice q (m.s.nn) (m.s.nc)) ea)) rfl Try.underlying40 (s := 56) (by kernel_rfl) (by omega) (by omega) (by omega)) (Fx.Qt.v (.pointer (some ⟨b, off + 56 * r, none⟩)) (fun v1 hv1 => x_field rfl rfl Try.underlying50 rfl (s := 1) (by kernel_rfl) rfl rfl) (Fx.Qt.v (.int .u64 (m.id r)) (fun v1 hv1 => x_load1 (x := ndY (m.id r) (m.par r) (m.R r)) rfl rfl (by kernel_rfl) (by obtain ⟨qd, rfl⟩ := hv1; exact m1) (i := 0) (by omega) (by omega) rfl) (Fx.Qt.v (.int .u64 (m.id r)) (fun v1 hv1 => x_assign rfl rfl) (Fx.Qt.nil ?_)))))))))))))))))
  rintro _ ⟨qd, rfl⟩
  obtain ⟨wq1, ewq1⟩ : ∃ v1, v1 = World.drewN w qd := ⟨_, rfl⟩
  rw [← ewq1]
  have s1 : Fx.Stp w.heap.size w wq1 := by rw [ewq1]; exact Fx.Stp.of_below (bdrN w qd)
  have b1 := s1.below (Below.refl w.heap.size w) (Below.refl w.heap.size w).size (Below.refl w.heap.size w).size
  clear ewq1
  refine Fx.seqN (Fx.W.ret (⟨.int .u64 (m.id r), Fx.retV1 Try.results24 (by exact rfl), ?_⟩))
  exact ⟨congrArg (fun q => Ending.returned (Value.int .u64 q)) (by unfold nodeM; rw [if_neg (by omega), er]), b1⟩
set_option maxRecDepth 10000 in
theorem l_new (n : Nat) (w : World) (h1 : 1 ≤ n) (h6 : n ≤ 6) :
    Calls Try.prog 68 #[.int .i64 ((n : Int))] w fun e w' => ∃ p tb, e = .returned (.tuple #[.pointer (some ⟨p, 0, none⟩), .int .i64 (0)]) ∧ w.heap.size ≤ p ∧ Ldg w' p (newM n tb) ∧ Below w.heap.size w w' ∧ Fx.Blk w' p 27 (ldY (newM n tb)) 71 ∧ Fx.Blk w' tb 1 (fun _ => .slice none 0 0) 163 ∧ w.heap.size ≤ tb := by
 refine Fx.enter Try.func68 rfl (n := 28) rfl (by rfl) ?_
 refine Fx.W.seq (Fx.W.list (Fx.L.v (.pointer none) (x_assign rfl rfl) (Fx.L.v (.int .i64 (0)) (x_assign rfl rfl) (Fx.L.nil (Fx.seqN (Fx.W.seq (Fx.W.seq (Fx.W.list (Fx.L.v (.int .i64 ((n : Int))) (x_move rfl rfl) (Fx.L.v (.bool false) (Fx.x_lssF rfl rfl rfl (by omega)) (Fx.L.v (.bool false) (x_move rfl rfl) (Fx.L.v (.int .i64 ((n : Int))) (x_move rfl rfl) (Fx.L.v (.bool false) (x_gtrF rfl rfl rfl (by omega)) (Fx.L.v (.bool false) (x_pickF rfl rfl rfl) (Fx.L.nil (Fx.seqN (Fx.W.cond (b := false) rfl (fun h => nomatch h) (fun _ => Fx.W.skip (Fx.seqN (Fx.W.seq (Fx.W.list (Fx.L.v (.agg (Fx.varr 1 (fun _ => .slice none 0 0))) (x_build (vs := []) (places := #[(0, 1)]) (m := 1) (x := fun _ => .slice none 0 0) rfl rfl Try.underlying163 (by kernel_rfl) (by kernel_rfl) (by rfl)) (Fx.L.box (m := 1) (y := fun _ => .slice none 0 0) (by rfl) rfl rfl (Fx.cells_agg _ _) rfl fun g1 w1 eg1 m1 s1 z1 => ?_)))))))))))))))))))))))
 have b1 := s1.below (Below.refl w.heap.size w) (Below.refl w.heap.size w).size (Below.refl w.heap.size w).size
 have lg1 : w.heap.size ≤ g1 := by rw [eg1]; exact (Below.refl w.heap.size w).size
 have tg1 : g1 < w1.heap.size := m1.lt
 clear eg1
 refine Fx.L.v (.agg (Fx.varr 27 (Fx.ovr (fun i => (#[.bool false, .bool false, .bool false, .bool false, .bool false, .bool false, .bool false, .bool false, .bool false, .bool false, .bool false, .bool false, .int .u64 (0), .int .u64 (0), .int .u64 (0), .int .u64 (0), .int .u64 (0), .int .u64 (0), .slice none 0 0, .slice none 0 0, .pointer none, .slice none 0 0, .slice none 0 0, .slice none 0 0, .slice none 0 0, .slice none 0 0, .slice none 0 0] : Array Value).getD i undef) 20 1 (fun _ => .pointer (some ⟨g1, 0, none⟩))))) (x_build (vs := [(1, .pointer (some ⟨g1, 0, none⟩))]) (places := #[(0, 20), (20, 1), (21, 6)]) (m := 27) (x := fun i => (#[.bool false, .bool false, .bool false, .bool false, .bool false, .bool false, .bool false, .bool false, .bool false, .bool false, .bool false, .bool false, .int .u64 (0), .int .u64 (0), .int .u64 (0), .int .u64 (0), .int .u64 (0), .int .u64 (0), .slice none 0 0, .slice none 0 0, .pointer none, .slice none 0 0, .slice none 0 0, .slice none 0 0, .slice none 0 0, .slice none 0 0, .slice none 0 0] : Array Value).getD i undef) rfl rfl Try.underlying71 (by kernel_rfl) (by kernel_rfl) (by rw [Fx.fill_step (off := 20) (s := 1) (y := fun _ => .pointer (some ⟨g1, 0, none⟩)) (by kernel_rfl) (Fx.cells_one (by rfl)) (by rfl)]; rfl)) (Fx.L.box (m := 27) (y := Fx.ovr (fun i => (#[.bool false, .bool false, .bool false, .bool false, .bool false, .bool false, .bool false, .bool false, .bool false, .bool false, .bool false, .bool false, .int .u64 (0), .int .u64 (0), .int .u64 (0), .int .u64 (0), .int .u64 (0), .int .u64 (0), .slice none 0 0, .slice none 0 0, .pointer none, .slice none 0 0, .slice none 0 0, .slice none 0 0, .slice none 0 0, .slice none 0 0, .slice none 0 0] : Array Value).getD i undef) 20 1 (fun _ => .pointer (some ⟨g1, 0, none⟩))) (by rfl) rfl rfl (Fx.cells_agg _ _) rfl fun g2 w2 eg2 m2 s2 z2 => ?_)
 have m3 := m1.stp s2 (Nat.ne_of_lt (m1.lt))
 have b2 := s2.below b1 b1.size b1.size
 have lg2 : w.heap.size ≤ g2 := by rw [eg2]; exact b1.size
 have ng2m3 : g1 ≠ g2 := by rw [eg2]; exact Nat.ne_of_lt (m1.lt)
 have tg2 : g2 < w2.heap.size := m2.lt
 clear eg2
 refine Fx.L.v (.pointer (some ⟨g2, 0, none⟩)) (x_assign rfl rfl) (Fx.L.nil (Fx.seqN (Fx.W.seq (Fx.W.seq (Fx.W.list (Fx.L.v (.int .i64 (0)) (x_assign rfl rfl) (Fx.L.nil (Fx.seqN (Fx.W.block ?_)))))))))
 have m4 : Fx.Blk w2 g2 27 (ldY (newM 0 g1)) 71 := m2.congr (fun j hj => by rcases j with _|_|_|_|_|_|_|_|_|_|_|_|_|_|_|_|_|_|_|_|_|_|_|_|_|_|_|j <;> first | rfl | omega)
 refine Fx.W.loop (fun f w_ => ∃ k : Nat, k ≤ n ∧ f 0 = .int .i64 ((n : Int)) ∧ f 4 = .pointer (some ⟨g2, 0, none⟩) ∧ f 5 = .int .i64 ((k : Int)) ∧ Fx.Blk w_ g1 1 (fun _ => .slice none 0 0) 163 ∧ Fx.Blk w_ g2 27 (ldY (newM k g1)) 71 ∧ Below w.heap.size w w_) (fun f _ => (n - (intOf (f 5)).toNat)) ⟨0, by omega, (by first | rfl | exact congrArg (Value.int .i64) (by omega)), (by rfl), (by first | rfl | exact congrArg (Value.int .i64) (by omega)), m3, m4, b2⟩ ?_
 rintro f1 w3 ⟨k, hk, h1, h2, h3, m5, m6, b3⟩
 refine Fx.W.seq (Fx.W.seq (Fx.W.list (Fx.L.v (.int .i64 ((k : Int))) (x_move rfl h3) (Fx.L.v (.int .i64 ((n : Int))) (x_move rfl h1) ?_))))
 by_cases c18 : (k : Int) < (n : Int)
 ·refine Fx.L.v (.bool true) (Fx.x_lssT rfl rfl rfl c18) (Fx.L.nil (Fx.seqN (Fx.W.cond (b := true) rfl (fun _ => Fx.W.skip (Fx.seqN (Fx.W.seq (Fx.W.block (Fx.W.list (Fx.L.v (.pointer (some ⟨g2, 0, none⟩)) (x_move rfl h2) ?_)))))) (fun h => nomatch h))))
  refine Fx.L.v (.int .i64 ((k : Int))) (x_move rfl h3) (Fx.L.v (.pointer (some ⟨g2, 0, none⟩)) (x_nil rfl rfl) (Fx.L.v (.pointer (some ⟨g2, 0, none⟩)) (x_field rfl rfl Try.underlying71 rfl (s := 20) (by kernel_rfl) rfl rfl) (Fx.L.v (.pointer (some ⟨g2, 0, none⟩)) (x_field rfl rfl Try.underlying43 rfl (s := 6) (by kernel_rfl) rfl rfl) (Fx.L.v (.pointer (some ⟨g2, k, none⟩)) (x_index rfl rfl rfl Try.underlying39 (s := 1) (by kernel_rfl) (by omega) (by omega) (by omega)) (Fx.L.store1 (x := ldY (newM k g1)) (u := .bool true) (by rfl) rfl rfl rfl rfl (by rfl) (by kernel_rfl) m6 (i := k) (by omega) fun w4 m7 s3 z3 => ?_)))))
  have m8 := m5.stp s3 (by omega)
  have b4 := s3.below b3 b3.size (by omega)
  refine Fx.L.nil (Fx.blkN (Fx.seqN (Fx.W.list (Fx.L.v (.int .i64 ((k : Int))) (x_move rfl h3) (Fx.L.v (.int .i64 ((k : Int) + 1)) (Fx.x_add rfl rfl rfl (Fx.i64e (by omega) (by omega))) (Fx.L.v (.int .i64 ((k : Int) + 1)) (x_assign rfl rfl) (Fx.L.nil ?_)))))))
  have m9 : Fx.Blk w4 g2 27 (ldY (newM (k + 1) g1)) 71 := m7.to (newM_step k g1 (by omega))
  skip
  refine Fx.lpN ⟨k + 1, by omega, (h1.trans (by first | rfl | exact congrArg (Value.int .i64) (by omega))), h2, (by first | rfl | exact congrArg (Value.int .i64) (by omega)), m8, m9, b4⟩ ?_
  show (n - (intOf ((.int .i64 ((k : Int) + 1)))).toNat) < _
  simp only [h3, intOf]; omega
 ·refine Fx.L.v (.bool false) (Fx.x_lssF rfl rfl rfl c18) (Fx.L.nil (Fx.seqN (Fx.W.cond (b := false) rfl (fun h => nomatch h) (fun _ => Fx.W.exit (Fx.seqX (Fx.lpX (Fx.blkX (Fx.seqN (Fx.W.seq (Fx.W.list (Fx.L.v (.pointer (some ⟨g2, 0, none⟩)) (x_move rfl h2) (Fx.L.v (.pointer (some ⟨g2, 0, none⟩)) (x_assign rfl rfl) (Fx.L.v (.int .i64 (0)) (x_assign rfl rfl) (Fx.L.nil (Fx.seqN (Fx.W.ret (⟨.tuple #[.pointer (some ⟨g2, 0, none⟩), .int .i64 (0)], Fx.retV2 Try.results68 (by exact rfl) (by exact rfl), ?_⟩)))))))))))))))))
  have ek : k = n := by omega
  subst ek
  exact ⟨_, _, rfl, lg2, { c := m6.cel, an := fun h0 => absurd h0 (Nat.lt_irrefl 0), ag := fun h0 => absurd h0 (Nat.lt_irrefl 0), tc := m5.cel, at2 := fun h0 => absurd h0 (Nat.lt_irrefl 0), ar := fun i hi h0 => absurd h0 (Nat.lt_irrefl 0), bn := Nat.zero_le _, bg := Nat.zero_le _, bt := Nat.zero_le _, br := fun i hi => Nat.zero_le _ }, b3, m6, m5, lg1⟩
namespace Rt
def shT (t : Nat → Nat → Int) (n k : Nat) : Nat → Nat → Int := fun i => if i ≤ k then (if i < n then t i else fun _ => 0) else t (i - 1)
def insT (t : Nat → Nat → Int) (k : Nat) (id par : Int) : Nat → Nat → Int := fun i => if i < k then t i else if i = k then (fun j => if j = 0 then id else par) else t (i - 1)
theorem ownTree {w : World} {B tb tn tc : Nat} {ta : Option Addr} {t : Nat → Nat → Int} (hT : Fx.Blk w tb 1 (fun _ => .slice ta tn tc) 163) (hO : Fx.Own w B 178 2 (.slice ta tn tc) tn (Fx.rv .u64 (flatT t))) (hn : tn ≤ 1000) : TreeR w tb ta tn tc t where
  tc := hT.cel
  t := fun k hk => by
    obtain ⟨g, cap, e, _, _, _, hc⟩ := hO.form (by omega)
    simp only [Value.slice.injEq, true_and] at e
    refine ⟨g, 0, e.1, fun i hi => ?_⟩
    have := hc (2 * k + i) (by omega)
    rw [Nat.zero_add] at this
    rw [Nat.zero_add, this]
    show some (Value.int .u64 (t ((2 * k + i) / 2) ((2 * k + i) % 2))) = some (Value.int .u64 (t k i))
    rw [show (2 * k + i) / 2 = k by omega, show (2 * k + i) % 2 = i by omega]
  bt := by omega
theorem sh_start (t : Nat → Nat → Int) (n : Nat) : ∀ j, j < (n + 1) * 2 → Fx.appX (Fx.rv .u64 (flatT t)) (n * 2) (Fx.ovr (fun j => Fx.rv .u64 (fun _ => 0) (j % 2)) (0 * 2) 2 (Fx.rv .u64 (fun _ => 0))) j = Fx.rv .u64 (flatT (shT t n n)) j := fun j hj => by
  unfold Fx.appX
  by_cases h : j < n * 2
  · rw [if_pos h]
    show Value.int .u64 (t (j / 2) (j % 2)) = Value.int .u64 (shT t n n (j / 2) (j % 2))
    unfold shT; rw [if_pos (by omega), if_pos (by omega)]
  · rw [if_neg h]
    unfold Fx.ovr; rw [if_pos (by omega)]
    show Value.int .u64 0 = Value.int .u64 (shT t n n (j / 2) (j % 2))
    unfold shT; rw [if_pos (by omega), if_neg (by omega)]
theorem sh_at {t : Nat → Nat → Int} {n k j p : Nat} (hp : p = 2 * j) (h : j < k) (hk : k ≤ n) : Fx.rv .u64 (flatT (shT t n k)) p = .int .u64 (t j 0) := by
  subst hp
  show Value.int .u64 (shT t n k (2 * j / 2) (2 * j % 2)) = _
  unfold shT; rw [if_pos (by omega), if_pos (by omega), show 2 * j / 2 = j by omega, show 2 * j % 2 = 0 by omega]
theorem sh_row {t : Nat → Nat → Int} {n k j i : Nat} (h : j < k) (hk : k ≤ n) (hi : i < 2) : Fx.rv .u64 (flatT (shT t n k)) (2 * j + i) = Fx.rv .u64 (t j) i := by
  show Value.int .u64 (shT t n k ((2 * j + i) / 2) ((2 * j + i) % 2)) = Value.int .u64 (t j i)
  unfold shT; rw [if_pos (by omega), if_pos (by omega), show (2 * j + i) / 2 = j by omega, show (2 * j + i) % 2 = i by omega]
theorem sh_step {t : Nat → Nat → Int} {n k j : Nat} (e : k = j + 1) (_hk : k ≤ n) : ∀ p, p < (n + 1) * 2 → Fx.ovr (Fx.rv .u64 (flatT (shT t n k))) (2 * k) 2 (Fx.rv .u64 (t j)) p = Fx.rv .u64 (flatT (shT t n j)) p := fun p hp => by
  unfold Fx.ovr
  by_cases h : 2 * k ≤ p ∧ p < 2 * k + 2
  · rw [if_pos h]
    show Value.int .u64 (t j (p - 2 * k)) = Value.int .u64 (shT t n j (p / 2) (p % 2))
    unfold shT; rw [if_neg (by omega), show p / 2 - 1 = j by omega, show p - 2 * k = p % 2 by omega]
  · rw [if_neg h]
    show Value.int .u64 (shT t n k (p / 2) (p % 2)) = Value.int .u64 (shT t n j (p / 2) (p % 2))
    unfold shT
    by_cases h1 : p / 2 ≤ j
    · rw [if_pos (by omega), if_pos h1]
    · rw [if_neg (by omega), if_neg h1]
theorem ins_end {t : Nat → Nat → Int} {n k : Nat} {id par : Int} (_hk : k ≤ n) : ∀ p, p < (n + 1) * 2 → Fx.ovr (Fx.rv .u64 (flatT (shT t n k))) (2 * k) 2 (Fx.ovr (Fx.ovr (Fx.rv .u64 (fun _ => 0)) 0 1 (fun _ => .int .u64 id)) 1 1 (fun _ => .int .u64 par)) p = Fx.rv .u64 (flatT (insT t k id par)) p := fun p hp => by
  by_cases h : 2 * k ≤ p ∧ p < 2 * k + 2
  · rw [Fx.ovr, if_pos h]
    show _ = Value.int .u64 (insT t k id par (p / 2) (p % 2))
    unfold insT; rw [if_neg (by omega), if_pos (by omega)]
    by_cases h0 : p = 2 * k
    · subst h0; rw [show 2 * k - 2 * k = 0 by omega, if_pos (by omega)]; rfl
    · rw [show p - 2 * k = 1 by omega, if_neg (by omega)]; rfl
  · rw [Fx.ovr, if_neg h]
    show Value.int .u64 (shT t n k (p / 2) (p % 2)) = Value.int .u64 (insT t k id par (p / 2) (p % 2))
    unfold shT insT
    by_cases h1 : p / 2 < k
    · rw [if_pos (by omega), if_pos (by omega), if_pos h1]
    · rw [if_neg (by omega), if_neg h1, if_neg (by omega)]
def deepT (t : Nat → Nat → Int) (tn : Nat) (x : Int) : Prop := ∀ i, i < 4 → 0 ≤ findT t tn (iterT t tn i x)
theorem deep_yes {t : Nat → Nat → Int} {tn K : Nat} {x : Int} (h : ∀ i, i < K → 0 ≤ findT t tn (iterT t tn i x)) (hK : 4 ≤ K) : deepT t tn x := fun i hi => h i (by omega)
theorem deep_no {t : Nat → Nat → Int} {tn K : Nat} {x : Int} (h : findT t tn (iterT t tn K x) < 0) (hK : K < 4) : ¬ deepT t tn x := fun hd => by have := hd K hK; omega
open Classical in
noncomputable def addE (t : Nat → Nat → Int) (tn : Nat) (id par : Int) : Int := if id = 0 then 1 else if 0 ≤ findT t tn id then 14 else if par ≠ 0 ∧ findT t tn par < 0 then 9 else if 32 ≤ tn ∨ deepT t tn par then 6 else 0
theorem gt_step {t : Nat → Nat → Int} {n k j : Nat} {id : Int} (e : k = j + 1) (h : ∀ i, k ≤ i → i < n → id < t i 0) (hj : id < t j 0) : ∀ i, j ≤ i → i < n → id < t i 0 := fun i h1 h2 => by
  by_cases e2 : i = j
  · subst e2; exact hj
  · exact h i (by omega) h2
end Rt
set_option maxRecDepth 10000 in
theorem l_add (B : Nat) (tb : Nat) (ta : Option Addr) (tn tc : Nat) (t : Nat → Nat → Int) (id par : Int) (D : Nat) (w : World) (hT : Fx.Blk w tb 1 (fun _ => .slice ta tn tc) 163) (hO : Fx.Own w B 178 2 (.slice ta tn tc) tn (Fx.rv .u64 (flatT t))) (hne : (Value.slice ta tn tc).ownBlock ≠ some tb) (hB : B ≤ w.heap.size) (hn : tn ≤ 1000) (hD : findT t tn (iterT t tn D par) < 0) (hD2 : D ≤ 1000) :
    Calls Try.prog 128 #[.pointer (some ⟨tb, 0, none⟩), .int .u64 (id), .int .u64 (par)] w fun e w' => e = .returned (.int .i64 (addE t tn id par)) ∧ Fx.Chg (fun k => k = tb ∨ (Value.slice ta tn tc).ownBlock = some k) w w' ∧ ((addE t tn id par ≠ 0 ∧ Fx.Blk w' tb 1 (fun _ => .slice ta tn tc) 163 ∧ Fx.Own w' B 178 2 (.slice ta tn tc) tn (Fx.rv .u64 (flatT t))) ∨ (addE t tn id par = 0 ∧ ∃ g cap, Fx.Blk w' tb 1 (fun _ => .slice (some ⟨g, 0, none⟩) (tn + 1) cap) 163 ∧ Fx.Own w' B 178 2 (.slice (some ⟨g, 0, none⟩) (tn + 1) cap) (tn + 1) (Fx.rv .u64 (flatT (insT t (Fx.down (fun i => decide (id < t i 0)) tn) id par))) ∧ (Value.slice (some ⟨g, 0, none⟩) (tn + 1) cap).ownBlock ≠ some tb)) := by
 have lp : tb < w.heap.size := hT.lt
 refine Fx.enter Try.func128 rfl (n := 89) rfl (by rfl) ?_
 refine Fx.W.seq (Fx.W.list (Fx.L.v (.int .i64 (0)) (x_assign rfl rfl) (Fx.L.nil (Fx.seqN (Fx.W.seq (Fx.W.seq (Fx.W.list (Fx.L.v (.int .u64 (id)) (x_move rfl rfl) ?_))))))))
 by_cases c9 : id = 0
 ·refine Fx.L.v (.bool true) (x_eqlT rfl rfl rfl c9) (Fx.L.nil (Fx.seqN (Fx.W.cond (b := true) rfl (fun _ => Fx.W.seq (Fx.W.list (Fx.L.v (.int .i64 (1)) (x_assign rfl rfl) ?_))) (fun h => nomatch h))))
  refine Fx.L.nil (Fx.seqN (Fx.W.ret (Fx.seqR (⟨.int .i64 (1), Fx.retV1 Try.results128 (by exact rfl), ?_⟩))))
  have ea : addE t tn id par = 1 := by unfold addE; rw [if_pos c9]
  exact ⟨congrArg (fun q => Ending.returned (Value.int .i64 q)) ea.symm, (Fx.Chg.refl (fun k => k = tb ∨ (Value.slice ta tn tc).ownBlock = some k) w), .inl ⟨by rw [ea]; decide, hT, hO⟩⟩
 ·refine Fx.L.v (.bool false) (x_eqlF rfl rfl rfl c9) (Fx.L.nil (Fx.seqN (Fx.W.cond (b := false) rfl (fun h => nomatch h) (fun _ => Fx.W.skip (Fx.seqN (Fx.W.seq (Fx.W.seq (Fx.W.list (Fx.L.v (.pointer (some ⟨tb, 0, none⟩)) (x_move rfl rfl) (Fx.L.v (.int .u64 (id)) (x_move rfl rfl) ?_))))))))))
  by_cases c12 : (decide (0 ≤ findT t tn id)) = true
  ·refine Fx.L.call (by rfl) (Fx.r_call (args := [.pointer (some ⟨tb, 0, none⟩), .int .u64 (id)]) rfl rfl Try.func132 rfl rfl) rfl ((l_has tb ta tn tc t id _ (ownTree hT hO hn)).mono ?_)
   rintro e w1 ⟨he, hb1⟩
   refine ⟨.bool true, by rw [he, c12], ?_⟩
   clear he
   have s1 := Fx.Stp.of_below hb1
   have m1 := hT.stp s1 (Nat.ne_of_lt (hT.lt))
   have m2 := hO.stp s1 (hO.notNew (Nat.le_refl _))
   have b1 := (Fx.Chg.refl (fun k => k = tb ∨ (Value.slice ta tn tc).ownBlock = some k) w).then s1 (.inr (Fx.Chg.refl (fun k => k = tb ∨ (Value.slice ta tn tc).ownBlock = some k) w).size)
   refine Fx.L.nil (Fx.seqN (Fx.W.cond (b := true) rfl (fun _ => Fx.W.seq (Fx.W.list (Fx.L.v (.int .i64 (14)) (x_assign rfl rfl) ?_))) (fun h => nomatch h)))
   refine Fx.L.nil (Fx.seqN (Fx.W.ret (Fx.seqR (⟨.int .i64 (14), Fx.retV1 Try.results128 (by exact rfl), ?_⟩))))
   have ea : addE t tn id par = 14 := by unfold addE; rw [if_neg c9, if_pos (of_decide_eq_true c12)]
   exact ⟨congrArg (fun q => Ending.returned (Value.int .i64 q)) ea.symm, b1, .inl ⟨by rw [ea]; decide, m1, m2⟩⟩
  ·rw [Bool.not_eq_true] at c12
   refine Fx.L.call (by rfl) (Fx.r_call (args := [.pointer (some ⟨tb, 0, none⟩), .int .u64 (id)]) rfl rfl Try.func132 rfl rfl) rfl ((l_has tb ta tn tc t id _ (ownTree hT hO hn)).mono ?_)
   rintro e w2 ⟨he, hb2⟩
   refine ⟨.bool false, by rw [he, c12], ?_⟩
   clear he
   have s2 := Fx.Stp.of_below hb2
   have m3 := hT.stp s2 (Nat.ne_of_lt (hT.lt))
   have m4 := hO.stp s2 (hO.notNew (Nat.le_refl _))
   have b2 := (Fx.Chg.refl (fun k => k = tb ∨ (Value.slice ta tn tc).ownBlock = some k) w).then s2 (.inr (Fx.Chg.refl (fun k => k = tb ∨ (Value.slice ta tn tc).ownBlock = some k) w).size)
   refine Fx.L.nil (Fx.seqN (Fx.W.cond (b := false) rfl (fun h => nomatch h) (fun _ => Fx.W.skip (Fx.seqN (Fx.W.seq (Fx.W.seq (Fx.W.list (Fx.L.v (.int .u64 (par)) (x_move rfl rfl) ?_))))))))
   by_cases c14 : par = 0
   ·refine Fx.L.v (.bool false) (Fx.x_neqF rfl rfl rfl c14) (Fx.L.v (.bool false) (x_move rfl rfl) (Fx.L.skip (by rfl) rfl (Fx.L.skip (by rfl) rfl (Fx.L.skip (by rfl) rfl (Fx.L.skip (by rfl) rfl (Fx.L.v (.bool false) (x_pickF rfl rfl rfl) (Fx.L.nil (Fx.seqN (Fx.W.cond (b := false) rfl (fun h => nomatch h) (fun _ => Fx.W.skip (Fx.seqN (Fx.W.seq (Fx.W.seq (Fx.W.list (Fx.L.v (.pointer (some ⟨tb, 0, none⟩)) (x_move rfl rfl) (Fx.L.v (.pointer (some ⟨tb, 0, none⟩)) (x_nil rfl rfl) (Fx.L.v (.pointer (some ⟨tb, 0, none⟩)) (x_field rfl rfl Try.underlying163 rfl (s := 1) (by kernel_rfl) rfl rfl) (Fx.L.v (.slice ta (tn) (tc)) (x_load1 (x := fun _ => .slice ta tn tc) rfl rfl (by kernel_rfl) m3.cel (i := 0) (by omega) (by omega) rfl) (Fx.L.v (.int .i64 ((tn : Int))) (x_len rfl rfl rfl (by kernel_rfl)) ?_)))))))))))))))))))
    by_cases c26 : 32 ≤ (tn : Int)
    ·refine Fx.L.v (.bool true) (Fx.x_geqT rfl rfl rfl c26) (Fx.L.v (.bool true) (x_move rfl rfl) (Fx.L.skip (by rfl) rfl (Fx.L.skip (by rfl) rfl (Fx.L.skip (by rfl) rfl (Fx.L.skip (by rfl) rfl (Fx.L.skip (by rfl) rfl (Fx.L.v (.bool true) (x_pickT rfl rfl rfl) (Fx.L.nil (Fx.seqN (Fx.W.cond (b := true) rfl (fun _ => Fx.W.seq (Fx.W.list (Fx.L.v (.int .i64 (6)) (x_assign rfl rfl) ?_))) (fun h => nomatch h)))))))))))
     refine Fx.L.nil (Fx.seqN (Fx.W.ret (Fx.seqR (⟨.int .i64 (6), Fx.retV1 Try.results128 (by exact rfl), ?_⟩))))
     have ea : addE t tn id par = 6 := by unfold addE; rw [if_neg c9, if_neg (of_decide_eq_false c12), if_neg (fun h => h.1 c14), if_pos (.inl (by omega))]
     exact ⟨congrArg (fun q => Ending.returned (Value.int .i64 q)) ea.symm, b2, .inl ⟨by rw [ea]; decide, m3, m4⟩⟩
    ·refine Fx.L.v (.bool false) (Fx.x_geqF rfl rfl rfl c26) (Fx.L.v (.bool false) (x_move rfl rfl) (Fx.L.v (.pointer (some ⟨tb, 0, none⟩)) (x_move rfl rfl) (Fx.L.v (.int .u64 (par)) (x_move rfl rfl) (Fx.L.call (by rfl) (Fx.r_call (args := [.pointer (some ⟨tb, 0, none⟩), .int .u64 (par)]) rfl rfl Try.func130 rfl rfl) rfl ((l_path tb ta tn tc t par D _ (ownTree m3 m4 hn) hD hD2).mono ?_)))))
     rintro e w3 ⟨K, vv, he, hown, hall1, hK1, hb3⟩
     obtain ⟨a1, cap1, rfl⟩ := hown.val
     refine ⟨.slice a1 K cap1, he, ?_⟩
     clear he hown
     have s3 := Fx.Stp.of_below hb3
     have m5 := m3.stp s3 (Nat.ne_of_lt (m3.lt))
     have m6 := m4.stp s3 (m4.notNew (Nat.le_refl _))
     have b3 := b2.then s3 (.inr b2.size)
     refine Fx.L.v (.int .i64 ((K : Int))) (x_len rfl rfl rfl (by kernel_rfl)) ?_
     by_cases c32 : 4 ≤ (K : Int)
     ·refine Fx.L.v (.bool true) (Fx.x_geqT rfl rfl rfl c32) (Fx.L.v (.bool true) (x_pickF rfl rfl rfl) (Fx.L.nil (Fx.seqN (Fx.W.cond (b := true) rfl (fun _ => Fx.W.seq (Fx.W.list (Fx.L.v (.int .i64 (6)) (x_assign rfl rfl) ?_))) (fun h => nomatch h)))))
      refine Fx.L.nil (Fx.seqN (Fx.W.ret (Fx.seqR (⟨.int .i64 (6), Fx.retV1 Try.results128 (by exact rfl), ?_⟩))))
      have ea : addE t tn id par = 6 := by unfold addE; rw [if_neg c9, if_neg (of_decide_eq_false c12), if_neg (fun h => h.1 c14), if_pos (.inr (deep_yes hall1 (by omega)))]
      exact ⟨congrArg (fun q => Ending.returned (Value.int .i64 q)) ea.symm, b3, .inl ⟨by rw [ea]; decide, m5, m6⟩⟩
     ·refine Fx.L.v (.bool false) (Fx.x_geqF rfl rfl rfl c32) (Fx.L.v (.bool false) (x_pickF rfl rfl rfl) (Fx.L.nil (Fx.seqN (Fx.W.cond (b := false) rfl (fun h => nomatch h) (fun _ => Fx.W.skip (Fx.seqN (Fx.W.seq (Fx.W.list (Fx.L.v (.pointer (some ⟨tb, 0, none⟩)) (x_move rfl rfl) (Fx.L.v (.pointer (some ⟨tb, 0, none⟩)) (x_nil rfl rfl) (Fx.L.v (.pointer (some ⟨tb, 0, none⟩)) (x_field rfl rfl Try.underlying163 rfl (s := 1) (by kernel_rfl) rfl rfl) (Fx.L.v (.slice ta (tn) (tc)) (x_load1 (x := fun _ => .slice ta tn tc) rfl rfl (by kernel_rfl) m5.cel (i := 0) (by omega) (by omega) rfl) (Fx.L.v (.int .i64 ((tn : Int))) (x_len rfl rfl rfl (by kernel_rfl)) (Fx.L.v (.int .i64 ((tn : Int))) (x_assign rfl rfl) (Fx.L.nil (Fx.seqN (Fx.W.seq (Fx.W.list (Fx.L.v (.pointer (some ⟨tb, 0, none⟩)) (x_move rfl rfl) (Fx.L.v (.pointer (some ⟨tb, 0, none⟩)) (x_move rfl rfl) (Fx.L.v (.pointer (some ⟨tb, 0, none⟩)) (x_nil rfl rfl) (Fx.L.v (.pointer (some ⟨tb, 0, none⟩)) (x_field rfl rfl Try.underlying163 rfl (s := 1) (by kernel_rfl) rfl rfl) (Fx.L.v (.slice ta (tn) (tc)) (x_load1 (x := fun _ => .slice ta tn tc) rfl rfl (by kernel_rfl) m5.cel (i := 0) (by omega) (by omega) rfl) (Fx.L.v (.agg (Fx.varr 2 (Fx.rv .u64 (fun _ => 0)))) (x_build (vs := []) (places := #[(0, 1), (1, 1)]) (m := 2) (x := Fx.rv .u64 (fun _ => 0)) rfl rfl Try.underlying178 (by kernel_rfl) (by kernel_rfl) (by rfl)) (Fx.L.bslice (vs := [(0, .agg (Fx.varr 2 (Fx.rv .u64 (fun _ => 0))))]) (s := 2) (zc := Fx.rv .u64 (fun _ => 0)) (y := Fx.ovr (fun j => (Fx.rv .u64 (fun _ => 0)) (j % 2)) (0 * 2) 2 (Fx.rv .u64 (fun _ => 0))) (by rfl) rfl rfl Try.underlying161 (by kernel_rfl) (by rfl) (by rfl) (by kernel_rfl) (by rw [Fx.fill_step (off := 0 * 2) (s := 2) (y := Fx.rv .u64 (fun _ => 0)) rfl (Fx.cells_agg _ _) (by rfl)]; rfl) rfl fun g1 w4 eg1 m7 s4 z1 => ?_)))))))))))))))))))))))))
      have m8 := m5.stp s4 (Nat.ne_of_lt (m5.lt))
      have m9 := m6.stp s4 (m6.notNew (Nat.le_refl _))
      have b4 := b3.then s4 (.inr b3.size)
      have lg1 : w.heap.size ≤ g1 := by rw [eg1]; exact b3.size
      have ng1m8 : tb ≠ g1 := by rw [eg1]; exact Nat.ne_of_lt (m5.lt)
      have ng1m9 : (.slice ta tn tc : Value).ownBlock ≠ some g1 := by rw [eg1]; exact m6.notNew (Nat.le_refl _)
      have tg1 : g1 < w4.heap.size := m7.lt
      clear eg1
      refine Fx.L.app (B := B) (s := 2) (bytes := 16) (k := tn) (m := 1) (v := .slice ta tn tc) (by rfl) rfl rfl rfl Try.underlying161 (by kernel_rfl) (by kernel_rfl) rfl rfl m9 m7.cel (fun j hj => by rcases j with _|_|j <;> first | rfl | omega) (by omega) (by omega) (by omega) (Nat.le_trans hB b4.size) fun g2 cap1 w5 ho1 hg1 hgv1 hlt1 => ?_
      have m11 : Fx.Blk w5 tb 1 (fun _ => .slice ta tn tc) 163 := m8.grown hg1 hne
      have neg2 : tb ≠ g2 := fun e => hgv1.elim (fun e2 => hne (by rw [e2, e])) (fun e2 => by have := m8.lt; omega)
      have m10 : Fx.Own w5 B 178 2 (.slice (some ⟨g2, 0, none⟩) (tn + 1) cap1) (tn + 1) (Fx.rv .u64 (flatT (shT t tn tn))) := ho1.congr (sh_start t tn)
      have b5 : Fx.Chg (fun k => k = tb ∨ (Value.slice ta tn tc).ownBlock = some k) w w5 := Fx.Chg.grow b4 hg1 (fun k e => .inl (.inr e))
      have ing2 : (fun k => k = tb ∨ (Value.slice ta tn tc).ownBlock = some k) g2 ∨ w.heap.size ≤ g2 := hgv1.elim (fun e => .inl (.inr e)) (fun e => .inr (by rw [e]; exact b4.size))
      refine Fx.L.v (.pointer (some ⟨tb, 0, none⟩)) (x_nil rfl rfl) (Fx.L.v (.pointer (some ⟨tb, 0, none⟩)) (x_field rfl rfl Try.underlying163 rfl (s := 1) (by kernel_rfl) rfl rfl) (Fx.L.store1 (x := fun _ => .slice ta tn tc) (u := .slice (some ⟨g2, 0, none⟩) (tn + 1) (cap1)) (by rfl) rfl rfl rfl rfl (by rfl) (by kernel_rfl) m11 (i := 0) (by omega) fun w6 m12 s5 z2 => ?_))
      have m13 : Fx.Blk w6 tb 1 (fun _ => .slice (some ⟨g2, 0, none⟩) (tn + 1) (cap1)) 163 := Fx.upd_all m12
      have m14 := m10.stpB s5 (by omega)
      have b6 := b5.then s5 (.inl (.inl rfl))
      refine Fx.L.nil (Fx.seqN (Fx.W.seq (Fx.W.block (Fx.W.loop (fun f w_ => ∃ k : Nat, k ≤ tn ∧ (∀ i, k ≤ i → i < tn → id < t i 0) ∧ f 0 = .pointer (some ⟨tb, 0, none⟩) ∧ f 1 = .int .u64 (id) ∧ f 2 = .int .u64 (par) ∧ f 7 = .int .i64 ((k : Int)) ∧ Fx.Blk w_ tb 1 (fun _ => .slice (some ⟨g2, 0, none⟩) (tn + 1) (cap1)) 163 ∧ Fx.Own w_ B 178 2 (.slice (some ⟨g2, 0, none⟩) (tn + 1) cap1) (tn + 1) (Fx.rv .u64 (flatT (shT t tn k))) ∧ Fx.Chg (fun k => k = tb ∨ (Value.slice ta tn tc).ownBlock = some k) w w_) (fun f _ => (intOf (f 7)).toNat) ⟨tn, by omega, (fun i h1 h2 => absurd h1 (by omega)), (by rfl), (by first | rfl | exact congrArg (Value.int .u64) (by omega)), (by first | rfl | exact congrArg (Value.int .u64) (by omega)), (by first | rfl | exact congrArg (Value.int .i64) (by omega)), m13, m14, b6⟩ ?_))))
      rintro f1 w7 ⟨k, hk, hgt, h1, h2, h3, h4, m15, m16, b7⟩
      refine Fx.W.seq (Fx.W.seq (Fx.W.list (Fx.L.v (.int .i64 ((k : Int))) (x_move rfl h4) ?_)))
      by_cases c50 : 0 < (k : Int)
      ·obtain ⟨j, ej⟩ : ∃ j, k = j + 1 := ⟨k - 1, by omega⟩
       refine Fx.L.v (.bool true) (Fx.x_gtrT rfl rfl rfl c50) (Fx.L.v (.bool true) (x_move rfl rfl) (Fx.L.v (.pointer (some ⟨tb, 0, none⟩)) (x_move rfl h1) (Fx.L.v (.pointer (some ⟨tb, 0, none⟩)) (x_nil rfl rfl) (Fx.L.v (.pointer (some ⟨tb, 0, none⟩)) (x_field rfl rfl Try.underlying163 rfl (s := 1) (by kernel_rfl) rfl rfl) (Fx.L.v (.slice (some ⟨g2, 0, none⟩) (tn + 1) (cap1)) (x_load1 (x := fun _ => .slice (some ⟨g2, 0, none⟩) (tn + 1) (cap1)) rfl rfl (by kernel_rfl) m15.cel (i := 0) (by omega) (by omega) rfl) (Fx.L.v (.int .i64 ((k : Int))) (x_move rfl h4) (Fx.L.v (.int .i64 ((j : Int))) (Fx.x_sub rfl rfl rfl (Fx.i64e (by omega) (by omega))) (Fx.L.v (.pointer (some ⟨g2, 2 * j, none⟩)) (x_indexS rfl rfl rfl Try.underlying161 (s := 2) (by kernel_rfl) (by omega) (by omega) (by omega)) (Fx.L.v (.pointer (some ⟨g2, 2 * j, none⟩)) (x_field rfl rfl Try.underlying178 rfl (s := 1) (by kernel_rfl) rfl rfl) (Fx.L.v (.int .u64 (t j 0)) (x_load1 (x := Fx.rv .u64 (flatT (shT t tn k))) rfl rfl (by kernel_rfl) m16.cel (i := 2 * j) (by omega) (by omega) (sh_at (by omega) (by omega) (by omega))) (Fx.L.v (.int .u64 (id)) (x_move rfl h2) ?_)))))))))))
       by_cases c62 : id < (t j 0)
       ·refine Fx.L.v (.bool true) (Fx.x_gtrT rfl rfl rfl c62) (Fx.L.v (.bool true) (x_pickT rfl rfl rfl) (Fx.L.nil (Fx.seqN (Fx.W.cond (b := true) rfl (fun _ => Fx.W.skip (Fx.seqN (Fx.W.block (Fx.W.seq ?_)))) (fun h => nomatch h)))))
        -- region 12 draws
        refine Fx.W.tail 14 (by kernel_rfl) (by kernel_rfl) fun wt1 hbwt1 hzwt1 => ?_
        have s6 : Fx.Stp w7.heap.size w7 wt1 := Fx.Stp.of_below hbwt1
        have m17 := m15.stp s6 (Nat.ne_of_lt (m15.lt))
        have m18 := m16.stpB s6 (Nat.ne_of_lt (m16.lt))
        have b8 := b7.then s6 (.inr b7.size)
        refine Fx.St.v (.pointer (some ⟨tb, 0, none⟩)) (x_move rfl h1) (Fx.St.v (.pointer (some ⟨tb, 0, none⟩)) (x_nil rfl rfl) (Fx.St.v (.pointer (some ⟨tb, 0, none⟩)) (x_field rfl rfl Try.underlying163 rfl (s := 1) (by kernel_rfl) rfl rfl) (Fx.St.v (.slice (some ⟨g2, 0, none⟩) (tn + 1) (cap1)) (x_load1 (x := fun _ => .slice (some ⟨g2, 0, none⟩) (tn + 1) (cap1)) rfl rfl (by kernel_rfl) m17.cel (i := 0) (by omega) (by omega) rfl) (Fx.St.v (.int .i64 ((k : Int))) (x_move rfl h4) (Fx.St.v (.pointer (some ⟨tb, 0, none⟩)) (x_move rfl h1) (Fx.St.v (.pointer (some ⟨tb, 0, none⟩)) (x_nil rfl rfl) (Fx.St.v (.pointer (some ⟨tb, 0, none⟩)) (x_field rfl rfl Try.underlying163 rfl (s := 1) (by kernel_rfl) rfl rfl) (Fx.St.v (.slice (some ⟨g2, 0, none⟩) (tn + 1) (cap1)) (x_load1 (x := fun _ => .slice (some ⟨g2, 0, none⟩) (tn + 1) (cap1)) rfl rfl (by kernel_rfl) m17.cel (i := 0) (by omega) (by omega) rfl) (Fx.St.v (.int .i64 ((k : Int))) (x_move rfl h4) (Fx.St.v (.int .i64 ((j : Int))) (Fx.x_sub rfl rfl rfl (Fx.i64e (by omega) (by omega))) (Fx.St.v (.pointer (some ⟨g2, 2 * j, none⟩)) (x_indexS rfl rfl rfl Try.underlying161 (s := 2) (by kernel_rfl) (by omega) (by omega) (by omega)) (Fx.St.v (.agg (Fx.varr 2 (Fx.rv .u64 (t j)))) (x_loadA (x := Fx.rv .u64 (flatT (shT t tn k))) (y := Fx.rv .u64 (t j)) rfl rfl (by kernel_rfl) (by kernel_rfl) m18.cel (i := 2 * j) (by omega) (by omega) (fun i hi => sh_row (by omega) (by omega) hi)) (Fx.St.v (.pointer (some ⟨g2, 2 * k, none⟩)) (x_indexS rfl rfl rfl Try.underlying161 (s := 2) (by kernel_rfl) (by omega) (by omega) (by omega)) (Fx.St.nil ?_))))))))))))))
        refine Fx.L.ownA (x := Fx.rv .u64 (flatT (shT t tn k))) (y := Fx.rv .u64 (t j)) (by rfl) rfl rfl rfl rfl (fun _ _ => rfl) (by kernel_rfl) m18 (i := 2 * k) (by omega) fun w8 m19 s7 z3 => ?_
        have m20 := m17.stp s7 (by omega)
        have b9 := b8.then s7 ing2
        have m21 : Fx.Own w8 B 178 2 (.slice (some ⟨g2, 0, none⟩) (tn + 1) cap1) (tn + 1) (Fx.rv .u64 (flatT (shT t tn j))) := m19.congr (sh_step ej (by omega))
        refine Fx.L.nil (Fx.seqN (Fx.W.list (Fx.L.v (.int .i64 ((k : Int))) (x_move rfl h4) (Fx.L.v (.int .i64 ((j : Int))) (Fx.x_sub rfl rfl rfl (Fx.i64e (by omega) (by omega))) (Fx.L.v (.int .i64 ((j : Int))) (x_assign rfl rfl) (Fx.L.nil (Fx.blkN (Fx.lpN ⟨j, by omega, (gt_step ej hgt c62), h1, (h2.trans (by first | rfl | exact congrArg (Value.int .u64) (by omega))), (h3.trans (by first | rfl | exact congrArg (Value.int .u64) (by omega))), (by first | rfl | exact congrArg (Value.int .i64) (by omega)), m20, m21, b9⟩ ?_))))))))
        show (intOf ((.int .i64 ((j : Int))))).toNat < _
        simp only [h4, intOf]; omega
       ·refine Fx.L.v (.bool false) (x_gtrF rfl rfl rfl c62) (Fx.L.v (.bool false) (x_pickT rfl rfl rfl) (Fx.L.nil (Fx.seqN (Fx.W.cond (b := false) rfl (fun h => nomatch h) (fun _ => Fx.W.exit (Fx.seqX (Fx.lpX (Fx.blkX (Fx.seqN (Fx.W.seq (Fx.W.list (Fx.L.v (.pointer (some ⟨tb, 0, none⟩)) (x_move rfl h1) (Fx.L.v (.pointer (some ⟨tb, 0, none⟩)) (x_nil rfl rfl) (Fx.L.v (.pointer (some ⟨tb, 0, none⟩)) (x_field rfl rfl Try.underlying163 rfl (s := 1) (by kernel_rfl) rfl rfl) (Fx.L.v (.slice (some ⟨g2, 0, none⟩) (tn + 1) (cap1)) (x_load1 (x := fun _ => .slice (some ⟨g2, 0, none⟩) (tn + 1) (cap1)) rfl rfl (by kernel_rfl) m15.cel (i := 0) (by omega) (by omega) rfl) (Fx.L.v (.int .i64 ((k : Int))) (x_move rfl h4) (Fx.L.v (.int .u64 (id)) (x_move rfl h2) (Fx.L.v (.int .u64 (par)) (x_move rfl h3) (Fx.L.v (.agg (Fx.varr 2 (Fx.ovr (Fx.ovr (Fx.rv .u64 (fun _ => 0)) 0 1 (fun _ => .int .u64 (id))) 1 1 (fun _ => .int .u64 (par))))) (x_build (vs := [(0, .int .u64 (id)), (1, .int .u64 (par))]) (places := #[(0, 1), (1, 1)]) (m := 2) (x := Fx.rv .u64 (fun _ => 0)) rfl rfl Try.underlying178 (by kernel_rfl) (by kernel_rfl) (by rw [Fx.fill_step (off := 0) (s := 1) (y := fun _ => .int .u64 (id)) (by kernel_rfl) (Fx.cells_one (by rfl)) (by rfl)]; rw [Fx.fill_step (off := 1) (s := 1) (y := fun _ => .int .u64 (par)) (by kernel_rfl) (Fx.cells_one (by rfl)) (by rfl)]; rfl)) (Fx.L.v (.pointer (some ⟨g2, 2 * k, none⟩)) (x_indexS rfl rfl rfl Try.underlying161 (s := 2) (by kernel_rfl) (by omega) (by omega) (by omega)) (Fx.L.ownA (x := Fx.rv .u64 (flatT (shT t tn k))) (y := Fx.ovr (Fx.ovr (Fx.rv .u64 (fun _ => 0)) 0 1 (fun _ => .int .u64 (id))) 1 1 (fun _ => .int .u64 (par))) (by rfl) rfl rfl rfl rfl (fun j hj => by rcases j with _|_|j <;> first | rfl | omega) (by kernel_rfl) m16 (i := 2 * k) (by omega) fun w9 m22 s8 z4 => ?_)))))))))))))))))))))
        have m23 := m15.stp s8 (by omega)
        have b10 := b7.then s8 ing2
        have m24 : Fx.Own w9 B 178 2 (.slice (some ⟨g2, 0, none⟩) (tn + 1) cap1) (tn + 1) (Fx.rv .u64 (flatT (insT t k id par))) := m22.congr (ins_end (by omega))
        refine Fx.L.nil (Fx.seqN (Fx.W.seq (Fx.W.list (Fx.L.v (.int .i64 (0)) (x_assign rfl rfl) (Fx.L.nil (Fx.seqN (Fx.W.ret (⟨.int .i64 (0), Fx.retV1 Try.results128 (by exact rfl), ?_⟩))))))))
        have ea : addE t tn id par = 0 := by unfold addE; rw [if_neg c9, if_neg (of_decide_eq_false c12), if_neg (fun h => h.1 c14), if_neg (fun h => h.elim (fun h => by omega) (deep_no hK1 (by omega)))]
        have ek : k = Fx.down (fun i => decide (id < t i 0)) tn := Fx.down_eq hk (fun i a b => decide_eq_true (hgt i a b)) (.inr (fun j e => by have e2 : j = _ := Nat.succ.inj (e.symm.trans ej); subst e2; exact decide_eq_false c62))
        exact ⟨congrArg (fun q => Ending.returned (Value.int .i64 q)) ea.symm, b10, .inr ⟨ea, g2, cap1, m23, by rw [← ek]; exact m24, fun e => neg2 (Option.some.inj e).symm⟩⟩
      ·refine Fx.L.v (.bool false) (x_gtrF rfl rfl rfl c50) (Fx.L.v (.bool false) (x_move rfl rfl) (Fx.L.skip (by rfl) rfl (Fx.L.skip (by rfl) rfl (Fx.L.skip (by rfl) rfl (Fx.L.skip (by rfl) rfl (Fx.L.skip (by rfl) rfl (Fx.L.skip (by rfl) rfl (Fx.L.skip (by rfl) rfl (Fx.L.skip (by rfl) rfl (Fx.L.skip (by rfl) rfl (Fx.L.skip (by rfl) rfl (Fx.L.skip (by rfl) rfl (Fx.L.v (.bool false) (x_pickF rfl rfl rfl) (Fx.L.nil (Fx.seqN (Fx.W.cond (b := false) rfl (fun h => nomatch h) (fun _ => Fx.W.exit (Fx.seqX (Fx.lpX (Fx.blkX (Fx.seqN (Fx.W.seq (Fx.W.list (Fx.L.v (.pointer (some ⟨tb, 0, none⟩)) (x_move rfl h1) (Fx.L.v (.pointer (some ⟨tb, 0, none⟩)) (x_nil rfl rfl) (Fx.L.v (.pointer (some ⟨tb, 0, none⟩)) (x_field rfl rfl Try.underlying163 rfl (s := 1) (by kernel_rfl) rfl rfl) (Fx.L.v (.slice (some ⟨g2, 0, none⟩) (tn + 1) (cap1)) (x_load1 (x := fun _ => .slice (some ⟨g2, 0, none⟩) (tn + 1) (cap1)) rfl rfl (by kernel_rfl) m15.cel (i := 0) (by omega) (by omega) rfl) (Fx.L.v (.int .i64 ((k : Int))) (x_move rfl h4) (Fx.L.v (.int .u64 (id)) (x_move rfl h2) (Fx.L.v (.int .u64 (par)) (x_move rfl h3) (Fx.L.v (.agg (Fx.varr 2 (Fx.ovr (Fx.ovr (Fx.rv .u64 (fun _ => 0)) 0 1 (fun _ => .int .u64 (id))) 1 1 (fun _ => .int .u64 (par))))) (x_build (vs := [(0, .int .u64 (id)), (1, .int .u64 (par))]) (places := #[(0, 1), (1, 1)]) (m := 2) (x := Fx.rv .u64 (fun _ => 0)) rfl rfl Try.underlying178 (by kernel_rfl) (by kernel_rfl) (by rw [Fx.fill_step (off := 0) (s := 1) (y := fun _ => .int .u64 (id)) (by kernel_rfl) (Fx.cells_one (by rfl)) (by rfl)]; rw [Fx.fill_step (off := 1) (s := 1) (y := fun _ => .int .u64 (par)) (by kernel_rfl) (Fx.cells_one (by rfl)) (by rfl)]; rfl)) (Fx.L.v (.pointer (some ⟨g2, 2 * k, none⟩)) (x_indexS rfl rfl rfl Try.underlying161 (s := 2) (by kernel_rfl) (by omega) (by omega) (by omega)) (Fx.L.ownA (x := Fx.rv .u64 (flatT (shT t tn k))) (y := Fx.ovr (Fx.ovr (Fx.rv .u64 (fun _ => 0)) 0 1 (fun _ => .int .u64 (id))) 1 1 (fun _ => .int .u64 (par))) (by rfl) rfl rfl rfl rfl (fun j hj => by rcases j with _|_|j <;> first | rfl | omega) (by kernel_rfl) m16 (i := 2 * k) (by omega) fun w10 m25 s9 z5 => ?_)))))))))))))))))))))))))))))))))
       have m26 := m15.stp s9 (by omega)
       have b11 := b7.then s9 ing2
       have m27 : Fx.Own w10 B 178 2 (.slice (some ⟨g2, 0, none⟩) (tn + 1) cap1) (tn + 1) (Fx.rv .u64 (flatT (insT t k id par))) := m25.congr (ins_end (by omega))
       refine Fx.L.nil (Fx.seqN (Fx.W.seq (Fx.W.list (Fx.L.v (.int .i64 (0)) (x_assign rfl rfl) (Fx.L.nil (Fx.seqN (Fx.W.ret (⟨.int .i64 (0), Fx.retV1 Try.results128 (by exact rfl), ?_⟩))))))))
       have ea : addE t tn id par = 0 := by unfold addE; rw [if_neg c9, if_neg (of_decide_eq_false c12), if_neg (fun h => h.1 c14), if_neg (fun h => h.elim (fun h => by omega) (deep_no hK1 (by omega)))]
       have ek : k = Fx.down (fun i => decide (id < t i 0)) tn := Fx.down_eq hk (fun i a b => decide_eq_true (hgt i a b)) (.inl (by omega))
       exact ⟨congrArg (fun q => Ending.returned (Value.int .i64 q)) ea.symm, b11, .inr ⟨ea, g2, cap1, m26, by rw [← ek]; exact m27, fun e => neg2 (Option.some.inj e).symm⟩⟩
   ·refine Fx.L.v (.bool true) (Fx.x_neqT rfl rfl rfl c14) (Fx.L.v (.bool true) (x_move rfl rfl) (Fx.L.v (.pointer (some ⟨tb, 0, none⟩)) (x_move rfl rfl) (Fx.L.v (.int .u64 (par)) (x_move rfl rfl) ?_)))
    by_cases c18 : (decide (0 ≤ findT t tn par)) = true
    ·refine Fx.L.call (by rfl) (Fx.r_call (args := [.pointer (some ⟨tb, 0, none⟩), .int .u64 (par)]) rfl rfl Try.func132 rfl rfl) rfl ((l_has tb ta tn tc t par _ (ownTree m3 m4 hn)).mono ?_)
     rintro e w11 ⟨he, hb4⟩
     refine ⟨.bool true, by rw [he, c18], ?_⟩
     clear he
     have s10 := Fx.Stp.of_below hb4
     have m28 := m3.stp s10 (Nat.ne_of_lt (m3.lt))
     have m29 := m4.stp s10 (m4.notNew (Nat.le_refl _))
     have b12 := b2.then s10 (.inr b2.size)
     refine Fx.L.v (.bool false) (Fx.x_notF rfl rfl) (Fx.L.v (.bool false) (x_pickT rfl rfl rfl) (Fx.L.nil (Fx.seqN (Fx.W.cond (b := false) rfl (fun h => nomatch h) (fun _ => Fx.W.skip (Fx.seqN (Fx.W.seq (Fx.W.seq (Fx.W.list (Fx.L.v (.pointer (some ⟨tb, 0, none⟩)) (x_move rfl rfl) (Fx.L.v (.pointer (some ⟨tb, 0, none⟩)) (x_nil rfl rfl) (Fx.L.v (.pointer (some ⟨tb, 0, none⟩)) (x_field rfl rfl Try.underlying163 rfl (s := 1) (by kernel_rfl) rfl rfl) (Fx.L.v (.slice ta (tn) (tc)) (x_load1 (x := fun _ => .slice ta tn tc) rfl rfl (by kernel_rfl) m28.cel (i := 0) (by omega) (by omega) rfl) (Fx.L.v (.int .i64 ((tn : Int))) (x_len rfl rfl rfl (by kernel_rfl)) ?_))))))))))))))
     by_cases c26 : 32 ≤ (tn : Int)
     ·refine Fx.L.v (.bool true) (Fx.x_geqT rfl rfl rfl c26) (Fx.L.v (.bool true) (x_move rfl rfl) (Fx.L.skip (by rfl) rfl (Fx.L.skip (by rfl) rfl (Fx.L.skip (by rfl) rfl (Fx.L.skip (by rfl) rfl (Fx.L.skip (by rfl) rfl (Fx.L.v (.bool true) (x_pickT rfl rfl rfl) (Fx.L.nil (Fx.seqN (Fx.W.cond (b := true) rfl (fun _ => Fx.W.seq (Fx.W.list (Fx.L.v (.int .i64 (6)) (x_assign rfl rfl) ?_))) (fun h => nomatch h)))))))))))
      refine Fx.L.nil (Fx.seqN (Fx.W.ret (Fx.seqR (⟨.int .i64 (6), Fx.retV1 Try.results128 (by exact rfl), ?_⟩))))
      have ea : addE t tn id par = 6 := by unfold addE; rw [if_neg c9, if_neg (of_decide_eq_false c12), if_neg (fun h => by have := of_decide_eq_true c18; omega), if_pos (.inl (by omega))]
      exact ⟨congrArg (fun q => Ending.returned (Value.int .i64 q)) ea.symm, b12, .inl ⟨by rw [ea]; decide, m28, m29⟩⟩
     ·refine Fx.L.v (.bool false) (Fx.x_geqF rfl rfl rfl c26) (Fx.L.v (.bool false) (x_move rfl rfl) (Fx.L.v (.pointer (some ⟨tb, 0, none⟩)) (x_move rfl rfl) (Fx.L.v (.int .u64 (par)) (x_move rfl rfl) (Fx.L.call (by rfl) (Fx.r_call (args := [.pointer (some ⟨tb, 0, none⟩), .int .u64 (par)]) rfl rfl Try.func130 rfl rfl) rfl ((l_path tb ta tn tc t par D _ (ownTree m28 m29 hn) hD hD2).mono ?_)))))
      rintro e w12 ⟨K, vv, he, hown, hall1, hK1, hb5⟩
      obtain ⟨a1, cap1, rfl⟩ := hown.val
      refine ⟨.slice a1 K cap1, he, ?_⟩
      clear he hown
      have s11 := Fx.Stp.of_below hb5
      have m30 := m28.stp s11 (Nat.ne_of_lt (m28.lt))
      have m31 := m29.stp s11 (m29.notNew (Nat.le_refl _))
      have b13 := b12.then s11 (.inr b12.size)
      refine Fx.L.v (.int .i64 ((K : Int))) (x_len rfl rfl rfl (by kernel_rfl)) ?_
      by_cases c32 : 4 ≤ (K : Int)
      ·refine Fx.L.v (.bool true) (Fx.x_geqT rfl rfl rfl c32) (Fx.L.v (.bool true) (x_pickF rfl rfl rfl) (Fx.L.nil (Fx.seqN (Fx.W.cond (b := true) rfl (fun _ => Fx.W.seq (Fx.W.list (Fx.L.v (.int .i64 (6)) (x_assign rfl rfl) ?_))) (fun h => nomatch h)))))
       refine Fx.L.nil (Fx.seqN (Fx.W.ret (Fx.seqR (⟨.int .i64 (6), Fx.retV1 Try.results128 (by exact rfl), ?_⟩))))
       have ea : addE t tn id par = 6 := by unfold addE; rw [if_neg c9, if_neg (of_decide_eq_false c12), if_neg (fun h => by have := of_decide_eq_true c18; omega), if_pos (.inr (deep_yes hall1 (by omega)))]
       exact ⟨congrArg (fun q => Ending.returned (Value.int .i64 q)) ea.symm, b13, .inl ⟨by rw [ea]; decide, m30, m31⟩⟩
      ·refine Fx.L.v (.bool false) (Fx.x_geqF rfl rfl rfl c32) (Fx.L.v (.bool false) (x_pickF rfl rfl rfl) (Fx.L.nil (Fx.seqN (Fx.W.cond (b := false) rfl (fun h => nomatch h) (fun _ => Fx.W.skip (Fx.seqN (Fx.W.seq (Fx.W.list (Fx.L.v (.pointer (some ⟨tb, 0, none⟩)) (x_move rfl rfl) (Fx.L.v (.pointer (some ⟨tb, 0, none⟩)) (x_nil rfl rfl) (Fx.L.v (.pointer (some ⟨tb, 0, none⟩)) (x_field rfl rfl Try.underlying163 rfl (s := 1) (by kernel_rfl) rfl rfl) (Fx.L.v (.slice ta (tn) (tc)) (x_load1 (x := fun _ => .slice ta tn tc) rfl rfl (by kernel_rfl) m30.cel (i := 0) (by omega) (by omega) rfl) (Fx.L.v (.int .i64 ((tn : Int))) (x_len rfl rfl rfl (by kernel_rfl)) (Fx.L.v (.int .i64 ((tn : Int))) (x_assign rfl rfl) (Fx.L.nil (Fx.seqN (Fx.W.seq (Fx.W.list (Fx.L.v (.pointer (some ⟨tb, 0, none⟩)) (x_move rfl rfl) (Fx.L.v (.pointer (some ⟨tb, 0, none⟩)) (x_move rfl rfl) (Fx.L.v (.pointer (some ⟨tb, 0, none⟩)) (x_nil rfl rfl) (Fx.L.v (.pointer (some ⟨tb, 0, none⟩)) (x_field rfl rfl Try.underlying163 rfl (s := 1) (by kernel_rfl) rfl rfl) (Fx.L.v (.slice ta (tn) (tc)) (x_load1 (x := fun _ => .slice ta tn tc) rfl rfl (by kernel_rfl) m30.cel (i := 0) (by omega) (by omega) rfl) (Fx.L.v (.agg (Fx.varr 2 (Fx.rv .u64 (fun _ => 0)))) (x_build (vs := []) (places := #[(0, 1), (1, 1)]) (m := 2) (x := Fx.rv .u64 (fun _ => 0)) rfl rfl Try.underlying178 (by kernel_rfl) (by kernel_rfl) (by rfl)) (Fx.L.bslice (vs := [(0, .agg (Fx.varr 2 (Fx.rv .u64 (fun _ => 0))))]) (s := 2) (zc := Fx.rv .u64 (fun _ => 0)) (y := Fx.ovr (fun j => (Fx.rv .u64 (fun _ => 0)) (j % 2)) (0 * 2) 2 (Fx.rv .u64 (fun _ => 0))) (by rfl) rfl rfl Try.underlying161 (by kernel_rfl) (by rfl) (by rfl) (by kernel_rfl) (by rw [Fx.fill_step (off := 0 * 2) (s := 2) (y := Fx.rv .u64 (fun _ => 0)) rfl (Fx.cells_agg _ _) (by rfl)]; rfl) rfl fun g3 w13 eg3 m32 s12 z6 => ?_)))))))))))))))))))))))))
       have m33 := m30.stp s12 (Nat.ne_of_lt (m30.lt))
       have m34 := m31.stp s12 (m31.notNew (Nat.le_refl _))
       have b14 := b13.then s12 (.inr b13.size)
       have lg3 : w.heap.size ≤ g3 := by rw [eg3]; exact b13.size
       have ng3m33 : tb ≠ g3 := by rw [eg3]; exact Nat.ne_of_lt (m30.lt)
       have ng3m34 : (.slice ta tn tc : Value).ownBlock ≠ some g3 := by rw [eg3]; exact m31.notNew (Nat.le_refl _)
       have tg3 : g3 < w13.heap.size := m32.lt
       clear eg3
       refine Fx.L.app (B := B) (s := 2) (bytes := 16) (k := tn) (m := 1) (v := .slice ta tn tc) (by rfl) rfl rfl rfl Try.underlying161 (by kernel_rfl) (by kernel_rfl) rfl rfl m34 m32.cel (fun j hj => by rcases j with _|_|j <;> first | rfl | omega) (by omega) (by omega) (by omega) (Nat.le_trans hB b14.size) fun g4 cap2 w14 ho2 hg2 hgv2 hlt2 => ?_
       have m36 : Fx.Blk w14 tb 1 (fun _ => .slice ta tn tc) 163 := m33.grown hg2 hne
       have neg4 : tb ≠ g4 := fun e => hgv2.elim (fun e2 => hne (by rw [e2, e])) (fun e2 => by have := m33.lt; omega)
       have m35 : Fx.Own w14 B 178 2 (.slice (some ⟨g4, 0, none⟩) (tn + 1) cap2) (tn + 1) (Fx.rv .u64 (flatT (shT t tn tn))) := ho2.congr (sh_start t tn)
       have b15 : Fx.Chg (fun k => k = tb ∨ (Value.slice ta tn tc).ownBlock = some k) w w14 := Fx.Chg.grow b14 hg2 (fun k e => .inl (.inr e))
       have ing4 : (fun k => k = tb ∨ (Value.slice ta tn tc).ownBlock = some k) g4 ∨ w.heap.size ≤ g4 := hgv2.elim (fun e => .inl (.inr e)) (fun e => .inr (by rw [e]; exact b14.size))
       refine Fx.L.v (.pointer (some ⟨tb, 0, none⟩)) (x_nil rfl rfl) (Fx.L.v (.pointer (some ⟨tb, 0, none⟩)) (x_field rfl rfl Try.underlying163 rfl (s := 1) (by kernel_rfl) rfl rfl) (Fx.L.store1 (x := fun _ => .slice ta tn tc) (u := .slice (some ⟨g4, 0, none⟩) (tn + 1) (cap2)) (by rfl) rfl rfl rfl rfl (by rfl) (by kernel_rfl) m36 (i := 0) (by omega) fun w15 m37 s13 z7 => ?_))
       have m38 : Fx.Blk w15 tb 1 (fun _ => .slice (some ⟨g4, 0, none⟩) (tn + 1) (cap2)) 163 := Fx.upd_all m37
       have m39 := m35.stpB s13 (by omega)
       have b16 := b15.then s13 (.inl (.inl rfl))
       refine Fx.L.nil (Fx.seqN (Fx.W.seq (Fx.W.block (Fx.W.loop (fun f w_ => ∃ k : Nat, k ≤ tn ∧ (∀ i, k ≤ i → i < tn → id < t i 0) ∧ f 0 = .pointer (some ⟨tb, 0, none⟩) ∧ f 1 = .int .u64 (id) ∧ f 2 = .int .u64 (par) ∧ f 7 = .int .i64 ((k : Int)) ∧ Fx.Blk w_ tb 1 (fun _ => .slice (some ⟨g4, 0, none⟩) (tn + 1) (cap2)) 163 ∧ Fx.Own w_ B 178 2 (.slice (some ⟨g4, 0, none⟩) (tn + 1) cap2) (tn + 1) (Fx.rv .u64 (flatT (shT t tn k))) ∧ Fx.Chg (fun k => k = tb ∨ (Value.slice ta tn tc).ownBlock = some k) w w_) (fun f _ => (intOf (f 7)).toNat) ⟨tn, by omega, (fun i h1 h2 => absurd h1 (by omega)), (by rfl), (by first | rfl | exact congrArg (Value.int .u64) (by omega)), (by first | rfl | exact congrArg (Value.int .u64) (by omega)), (by first | rfl | exact congrArg (Value.int .i64) (by omega)), m38, m39, b16⟩ ?_))))
       rintro f2 w16 ⟨k, hk, hgt, h5, h6, h7, h8, m40, m41, b17⟩
       refine Fx.W.seq (Fx.W.seq (Fx.W.list (Fx.L.v (.int .i64 ((k : Int))) (x_move rfl h8) ?_)))
       by_cases c50 : 0 < (k : Int)
       ·obtain ⟨j, ej⟩ : ∃ j, k = j + 1 := ⟨k - 1, by omega⟩
        refine Fx.L.v (.bool true) (Fx.x_gtrT rfl rfl rfl c50) (Fx.L.v (.bool true) (x_move rfl rfl) (Fx.L.v (.pointer (some ⟨tb, 0, none⟩)) (x_move rfl h5) (Fx.L.v (.pointer (some ⟨tb, 0, none⟩)) (x_nil rfl rfl) (Fx.L.v (.pointer (some ⟨tb, 0, none⟩)) (x_field rfl rfl Try.underlying163 rfl (s := 1) (by kernel_rfl) rfl rfl) (Fx.L.v (.slice (some ⟨g4, 0, none⟩) (tn + 1) (cap2)) (x_load1 (x := fun _ => .slice (some ⟨g4, 0, none⟩) (tn + 1) (cap2)) rfl rfl (by kernel_rfl) m40.cel (i := 0) (by omega) (by omega) rfl) (Fx.L.v (.int .i64 ((k : Int))) (x_move rfl h8) (Fx.L.v (.int .i64 ((j : Int))) (Fx.x_sub rfl rfl rfl (Fx.i64e (by omega) (by omega))) (Fx.L.v (.pointer (some ⟨g4, 2 * j, none⟩)) (x_indexS rfl rfl rfl Try.underlying161 (s := 2) (by kernel_rfl) (by omega) (by omega) (by omega)) (Fx.L.v (.pointer (some ⟨g4, 2 * j, none⟩)) (x_field rfl rfl Try.underlying178 rfl (s := 1) (by kernel_rfl) rfl rfl) (Fx.L.v (.int .u64 (t j 0)) (x_load1 (x := Fx.rv .u64 (flatT (shT t tn k))) rfl rfl (by kernel_rfl) m41.cel (i := 2 * j) (by omega) (by omega) (sh_at (by omega) (by omega) (by omega))) (Fx.L.v (.int .u64 (id)) (x_move rfl h6) ?_)))))))))))
        by_cases c62 : id < (t j 0)
        ·refine Fx.L.v (.bool true) (Fx.x_gtrT rfl rfl rfl c62) (Fx.L.v (.bool true) (x_pickT rfl rfl rfl) (Fx.L.nil (Fx.seqN (Fx.W.cond (b := true) rfl (fun _ => Fx.W.skip (Fx.seqN (Fx.W.block (Fx.W.seq ?_)))) (fun h => nomatch h)))))
         -- region 12 draws
         refine Fx.W.tail 14 (by kernel_rfl) (by kernel_rfl) fun wt2 hbwt2 hzwt2 => ?_
         have s14 : Fx.Stp w16.heap.size w16 wt2 := Fx.Stp.of_below hbwt2
         have m42 := m40.stp s14 (Nat.ne_of_lt (m40.lt))
         have m43 := m41.stpB s14 (Nat.ne_of_lt (m41.lt))
         have b18 := b17.then s14 (.inr b17.size)
         refine Fx.St.v (.pointer (some ⟨tb, 0, none⟩)) (x_move rfl h5) (Fx.St.v (.pointer (some ⟨tb, 0, none⟩)) (x_nil rfl rfl) (Fx.St.v (.pointer (some ⟨tb, 0, none⟩)) (x_field rfl rfl Try.underlying163 rfl (s := 1) (by kernel_rfl) rfl rfl) (Fx.St.v (.slice (some ⟨g4, 0, none⟩) (tn + 1) (cap2)) (x_load1 (x := fun _ => .slice (some ⟨g4, 0, none⟩) (tn + 1) (cap2)) rfl rfl (by kernel_rfl) m42.cel (i := 0) (by omega) (by omega) rfl) (Fx.St.v (.int .i64 ((k : Int))) (x_move rfl h8) (Fx.St.v (.pointer (some ⟨tb, 0, none⟩)) (x_move rfl h5) (Fx.St.v (.pointer (some ⟨tb, 0, none⟩)) (x_nil rfl rfl) (Fx.St.v (.pointer (some ⟨tb, 0, none⟩)) (x_field rfl rfl Try.underlying163 rfl (s := 1) (by kernel_rfl) rfl rfl) (Fx.St.v (.slice (some ⟨g4, 0, none⟩) (tn + 1) (cap2)) (x_load1 (x := fun _ => .slice (some ⟨g4, 0, none⟩) (tn + 1) (cap2)) rfl rfl (by kernel_rfl) m42.cel (i := 0) (by omega) (by omega) rfl) (Fx.St.v (.int .i64 ((k : Int))) (x_move rfl h8) (Fx.St.v (.int .i64 ((j : Int))) (Fx.x_sub rfl rfl rfl (Fx.i64e (by omega) (by omega))) (Fx.St.v (.pointer (some ⟨g4, 2 * j, none⟩)) (x_indexS rfl rfl rfl Try.underlying161 (s := 2) (by kernel_rfl) (by omega) (by omega) (by omega)) (Fx.St.v (.agg (Fx.varr 2 (Fx.rv .u64 (t j)))) (x_loadA (x := Fx.rv .u64 (flatT (shT t tn k))) (y := Fx.rv .u64 (t j)) rfl rfl (by kernel_rfl) (by kernel_rfl) m43.cel (i := 2 * j) (by omega) (by omega) (fun i hi => sh_row (by omega) (by omega) hi)) (Fx.St.v (.pointer (some ⟨g4, 2 * k, none⟩)) (x_indexS rfl rfl rfl Try.underlying161 (s := 2) (by kernel_rfl) (by omega) (by omega) (by omega)) (Fx.St.nil ?_))))))))))))))
         refine Fx.L.ownA (x := Fx.rv .u64 (flatT (shT t tn k))) (y := Fx.rv .u64 (t j)) (by rfl) rfl rfl rfl rfl (fun _ _ => rfl) (by kernel_rfl) m43 (i := 2 * k) (by omega) fun w17 m44 s15 z8 => ?_
         have m45 := m42.stp s15 (by omega)
         have b19 := b18.then s15 ing4
         have m46 : Fx.Own w17 B 178 2 (.slice (some ⟨g4, 0, none⟩) (tn + 1) cap2) (tn + 1) (Fx.rv .u64 (flatT (shT t tn j))) := m44.congr (sh_step ej (by omega))
         refine Fx.L.nil (Fx.seqN (Fx.W.list (Fx.L.v (.int .i64 ((k : Int))) (x_move rfl h8) (Fx.L.v (.int .i64 ((j : Int))) (Fx.x_sub rfl rfl rfl (Fx.i64e (by omega) (by omega))) (Fx.L.v (.int .i64 ((j : Int))) (x_assign rfl rfl) (Fx.L.nil (Fx.blkN (Fx.lpN ⟨j, by omega, (gt_step ej hgt c62), h5, (h6.trans (by first | rfl | exact congrArg (Value.int .u64) (by omega))), (h7.trans (by first | rfl | exact congrArg (Value.int .u64) (by omega))), (by first | rfl | exact congrArg (Value.int .i64) (by omega)), m45, m46, b19⟩ ?_))))))))
         show (intOf ((.int .i64 ((j : Int))))).toNat < _
         simp only [h8, intOf]; omega
        ·refine Fx.L.v (.bool false) (x_gtrF rfl rfl rfl c62) (Fx.L.v (.bool false) (x_pickT rfl rfl rfl) (Fx.L.nil (Fx.seqN (Fx.W.cond (b := false) rfl (fun h => nomatch h) (fun _ => Fx.W.exit (Fx.seqX (Fx.lpX (Fx.blkX (Fx.seqN (Fx.W.seq (Fx.W.list (Fx.L.v (.pointer (some ⟨tb, 0, none⟩)) (x_move rfl h5) (Fx.L.v (.pointer (some ⟨tb, 0, none⟩)) (x_nil rfl rfl) (Fx.L.v (.pointer (some ⟨tb, 0, none⟩)) (x_field rfl rfl Try.underlying163 rfl (s := 1) (by kernel_rfl) rfl rfl) (Fx.L.v (.slice (some ⟨g4, 0, none⟩) (tn + 1) (cap2)) (x_load1 (x := fun _ => .slice (some ⟨g4, 0, none⟩) (tn + 1) (cap2)) rfl rfl (by kernel_rfl) m40.cel (i := 0) (by omega) (by omega) rfl) (Fx.L.v (.int .i64 ((k : Int))) (x_move rfl h8) (Fx.L.v (.int .u64 (id)) (x_move rfl h6) (Fx.L.v (.int .u64 (par)) (x_move rfl h7) (Fx.L.v (.agg (Fx.varr 2 (Fx.ovr (Fx.ovr (Fx.rv .u64 (fun _ => 0)) 0 1 (fun _ => .int .u64 (id))) 1 1 (fun _ => .int .u64 (par))))) (x_build (vs := [(0, .int .u64 (id)), (1, .int .u64 (par))]) (places := #[(0, 1), (1, 1)]) (m := 2) (x := Fx.rv .u64 (fun _ => 0)) rfl rfl Try.underlying178 (by kernel_rfl) (by kernel_rfl) (by rw [Fx.fill_step (off := 0) (s := 1) (y := fun _ => .int .u64 (id)) (by kernel_rfl) (Fx.cells_one (by rfl)) (by rfl)]; rw [Fx.fill_step (off := 1) (s := 1) (y := fun _ => .int .u64 (par)) (by kernel_rfl) (Fx.cells_one (by rfl)) (by rfl)]; rfl)) (Fx.L.v (.pointer (some ⟨g4, 2 * k, none⟩)) (x_indexS rfl rfl rfl Try.underlying161 (s := 2) (by kernel_rfl) (by omega) (by omega) (by omega)) (Fx.L.ownA (x := Fx.rv .u64 (flatT (shT t tn k))) (y := Fx.ovr (Fx.ovr (Fx.rv .u64 (fun _ => 0)) 0 1 (fun _ => .int .u64 (id))) 1 1 (fun _ => .int .u64 (par))) (by rfl) rfl rfl rfl rfl (fun j hj => by rcases j with _|_|j <;> first | rfl | omega) (by kernel_rfl) m41 (i := 2 * k) (by omega) fun w18 m47 s16 z9 => ?_)))))))))))))))))))))
         have m48 := m40.stp s16 (by omega)
         have b20 := b17.then s16 ing4
         have m49 : Fx.Own w18 B 178 2 (.slice (some ⟨g4, 0, none⟩) (tn + 1) cap2) (tn + 1) (Fx.rv .u64 (flatT (insT t k id par))) := m47.congr (ins_end (by omega))
         refine Fx.L.nil (Fx.seqN (Fx.W.seq (Fx.W.list (Fx.L.v (.int .i64 (0)) (x_assign rfl rfl) (Fx.L.nil (Fx.seqN (Fx.W.ret (⟨.int .i64 (0), Fx.retV1 Try.results128 (by exact rfl), ?_⟩))))))))
         have ea : addE t tn id par = 0 := by unfold addE; rw [if_neg c9, if_neg (of_decide_eq_false c12), if_neg (fun h => by have := of_decide_eq_true c18; omega), if_neg (fun h => h.elim (fun h => by omega) (deep_no hK1 (by omega)))]
         have ek : k = Fx.down (fun i => decide (id < t i 0)) tn := Fx.down_eq hk (fun i a b => decide_eq_true (hgt i a b)) (.inr (fun j e => by have e2 : j = _ := Nat.succ.inj (e.symm.trans ej); subst e2; exact decide_eq_false c62))
         exact ⟨congrArg (fun q => Ending.returned (Value.int .i64 q)) ea.symm, b20, .inr ⟨ea, g4, cap2, m48, by rw [← ek]; exact m49, fun e => neg4 (Option.some.inj e).symm⟩⟩
       ·refine Fx.L.v (.bool false) (x_gtrF rfl rfl rfl c50) (Fx.L.v (.bool false) (x_move rfl rfl) (Fx.L.skip (by rfl) rfl (Fx.L.skip (by rfl) rfl (Fx.L.skip (by rfl) rfl (Fx.L.skip (by rfl) rfl (Fx.L.skip (by rfl) rfl (Fx.L.skip (by rfl) rfl (Fx.L.skip (by rfl) rfl (Fx.L.skip (by rfl) rfl (Fx.L.skip (by rfl) rfl (Fx.L.skip (by rfl) rfl (Fx.L.skip (by rfl) rfl (Fx.L.v (.bool false) (x_pickF rfl rfl rfl) (Fx.L.nil (Fx.seqN (Fx.W.cond (b := false) rfl (fun h => nomatch h) (fun _ => Fx.W.exit (Fx.seqX (Fx.lpX (Fx.blkX (Fx.seqN (Fx.W.seq (Fx.W.list (Fx.L.v (.pointer (some ⟨tb, 0, none⟩)) (x_move rfl h5) (Fx.L.v (.pointer (some ⟨tb, 0, none⟩)) (x_nil rfl rfl) (Fx.L.v (.pointer (some ⟨tb, 0, none⟩)) (x_field rfl rfl Try.underlying163 rfl (s := 1) (by kernel_rfl) rfl rfl) (Fx.L.v (.slice (some ⟨g4, 0, none⟩) (tn + 1) (cap2)) (x_load1 (x := fun _ => .slice (some ⟨g4, 0, none⟩) (tn + 1) (cap2)) rfl rfl (by kernel_rfl) m40.cel (i := 0) (by omega) (by omega) rfl) (Fx.L.v (.int .i64 ((k : Int))) (x_move rfl h8) (Fx.L.v (.int .u64 (id)) (x_move rfl h6) (Fx.L.v (.int .u64 (par)) (x_move rfl h7) (Fx.L.v (.agg (Fx.varr 2 (Fx.ovr (Fx.ovr (Fx.rv .u64 (fun _ => 0)) 0 1 (fun _ => .int .u64 (id))) 1 1 (fun _ => .int .u64 (par))))) (x_build (vs := [(0, .int .u64 (id)), (1, .int .u64 (par))]) (places := #[(0, 1), (1, 1)]) (m := 2) (x := Fx.rv .u64 (fun _ => 0)) rfl rfl Try.underlying178 (by kernel_rfl) (by kernel_rfl) (by rw [Fx.fill_step (off := 0) (s := 1) (y := fun _ => .int .u64 (id)) (by kernel_rfl) (Fx.cells_one (by rfl)) (by rfl)]; rw [Fx.fill_step (off := 1) (s := 1) (y := fun _ => .int .u64 (par)) (by kernel_rfl) (Fx.cells_one (by rfl)) (by rfl)]; rfl)) (Fx.L.v (.pointer (some ⟨g4, 2 * k, none⟩)) (x_indexS rfl rfl rfl Try.underlying161 (s := 2) (by kernel_rfl) (by omega) (by omega) (by omega)) (Fx.L.ownA (x := Fx.rv .u64 (flatT (shT t tn k))) (y := Fx.ovr (Fx.ovr (Fx.rv .u64 (fun _ => 0)) 0 1 (fun _ => .int .u64 (id))) 1 1 (fun _ => .int .u64 (par))) (by rfl) rfl rfl rfl rfl (fun j hj => by rcases j with _|_|j <;> first | rfl | omega) (by kernel_rfl) m41 (i := 2 * k) (by omega) fun w19 m50 s17 z10 => ?_)))))))))))))))))))))))))))))))))
        have m51 := m40.stp s17 (by omega)
        have b21 := b17.then s17 ing4
        have m52 : Fx.Own w19 B 178 2 (.slice (some ⟨g4, 0, none⟩) (tn + 1) cap2) (tn + 1) (Fx.rv .u64 (flatT (insT t k id par))) := m50.congr (ins_end (by omega))
        refine Fx.L.nil (Fx.seqN (Fx.W.seq (Fx.W.list (Fx.L.v (.int .i64 (0)) (x_assign rfl rfl) (Fx.L.nil (Fx.seqN (Fx.W.ret (⟨.int .i64 (0), Fx.retV1 Try.results128 (by exact rfl), ?_⟩))))))))
        have ea : addE t tn id par = 0 := by unfold addE; rw [if_neg c9, if_neg (of_decide_eq_false c12), if_neg (fun h => by have := of_decide_eq_true c18; omega), if_neg (fun h => h.elim (fun h => by omega) (deep_no hK1 (by omega)))]
        have ek : k = Fx.down (fun i => decide (id < t i 0)) tn := Fx.down_eq hk (fun i a b => decide_eq_true (hgt i a b)) (.inl (by omega))
        exact ⟨congrArg (fun q => Ending.returned (Value.int .i64 q)) ea.symm, b21, .inr ⟨ea, g4, cap2, m51, by rw [← ek]; exact m52, fun e => neg4 (Option.some.inj e).symm⟩⟩
    ·rw [Bool.not_eq_true] at c18
     refine Fx.L.call (by rfl) (Fx.r_call (args := [.pointer (some ⟨tb, 0, none⟩), .int .u64 (par)]) rfl rfl Try.func132 rfl rfl) rfl ((l_has tb ta tn tc t par _ (ownTree m3 m4 hn)).mono ?_)
     rintro e w20 ⟨he, hb6⟩
     refine ⟨.bool false, by rw [he, c18], ?_⟩
     clear he
     have s18 := Fx.Stp.of_below hb6
     have m53 := m3.stp s18 (Nat.ne_of_lt (m3.lt))
     have m54 := m4.stp s18 (m4.notNew (Nat.le_refl _))
     have b22 := b2.then s18 (.inr b2.size)
     refine Fx.L.v (.bool true) (Fx.x_notT rfl rfl) (Fx.L.v (.bool true) (x_pickT rfl rfl rfl) (Fx.L.nil (Fx.seqN (Fx.W.cond (b := true) rfl (fun _ => Fx.W.seq (Fx.W.list (Fx.L.v (.int .i64 (9)) (x_assign rfl rfl) ?_))) (fun h => nomatch h)))))
     refine Fx.L.nil (Fx.seqN (Fx.W.ret (Fx.seqR (⟨.int .i64 (9), Fx.retV1 Try.results128 (by exact rfl), ?_⟩))))
     have ea : addE t tn id par = 9 := by unfold addE; rw [if_neg c9, if_neg (of_decide_eq_false c12), if_pos ⟨c14, by have := of_decide_eq_false c18; omega⟩]
     exact ⟨congrArg (fun q => Ending.returned (Value.int .i64 q)) ea.symm, b22, .inl ⟨by rw [ea]; decide, m53, m54⟩⟩
namespace Rt
def idE (o seq : Int) : Int := if 1 ≤ o ∧ o ≤ 6 ∧ 1 ≤ seq ∧ seq < 1099511627776 then 1099511627776 * o + seq else 0
end Rt
theorem e_id (o seq : Int) (w : World) :
    Calls Try.prog 127 #[.int .i64 (o), .int .u64 (seq)] w fun e w' => e = .returned (.int .u64 (idE o seq)) ∧ w' = w := by
 refine Fx.enter Try.func127 rfl (n := 24) rfl (by rfl) ?_
 refine Fx.W.seq (Fx.W.list (Fx.L.v (.int .u64 (0)) (x_assign rfl rfl) (Fx.L.nil (Fx.seqN (Fx.W.seq (Fx.W.seq (Fx.W.list (Fx.L.v (.int .i64 (o)) (x_move rfl rfl) ?_))))))))
 by_cases c6 : o < 1
 ·refine Fx.L.v (.bool true) (Fx.x_lssT rfl rfl rfl c6) (Fx.L.v (.bool true) (x_move rfl rfl) (Fx.L.skip (by rfl) rfl (Fx.L.skip (by rfl) rfl (Fx.L.v (.bool true) (x_pickT rfl rfl rfl) (Fx.L.v (.bool true) (x_move rfl rfl) (Fx.L.skip (by rfl) rfl (Fx.L.skip (by rfl) rfl (Fx.L.v (.bool true) (x_pickT rfl rfl rfl) (Fx.L.v (.bool true) (x_move rfl rfl) (Fx.L.skip (by rfl) rfl (Fx.L.skip (by rfl) rfl (Fx.L.v (.bool true) (x_pickT rfl rfl rfl) (Fx.L.nil (Fx.seqN (Fx.W.cond (b := true) rfl (fun _ => Fx.W.seq (Fx.W.list (Fx.L.v (.int .u64 (0)) (x_assign rfl rfl) ?_))) (fun h => nomatch h))))))))))))))))
  refine Fx.L.nil (Fx.seqN (Fx.W.ret (Fx.seqR (⟨.int .u64 (0), Fx.retV1 Try.results127 (by exact rfl), ?_⟩))))
  exact ⟨congrArg (fun q => Ending.returned (Value.int .u64 q)) (Eq.symm (by unfold idE; rw [if_neg (by omega)])), rfl⟩
 ·refine Fx.L.v (.bool false) (Fx.x_lssF rfl rfl rfl c6) (Fx.L.v (.bool false) (x_move rfl rfl) (Fx.L.v (.int .i64 (o)) (x_move rfl rfl) ?_))
  by_cases c9 : 6 < o
  ·refine Fx.L.v (.bool true) (Fx.x_gtrT rfl rfl rfl c9) (Fx.L.v (.bool true) (x_pickF rfl rfl rfl) (Fx.L.v (.bool true) (x_move rfl rfl) (Fx.L.skip (by rfl) rfl (Fx.L.skip (by rfl) rfl (Fx.L.v (.bool true) (x_pickT rfl rfl rfl) (Fx.L.v (.bool true) (x_move rfl rfl) (Fx.L.skip (by rfl) rfl (Fx.L.skip (by rfl) rfl (Fx.L.v (.bool true) (x_pickT rfl rfl rfl) (Fx.L.nil (Fx.seqN (Fx.W.cond (b := true) rfl (fun _ => Fx.W.seq (Fx.W.list (Fx.L.v (.int .u64 (0)) (x_assign rfl rfl) ?_))) (fun h => nomatch h)))))))))))))
   refine Fx.L.nil (Fx.seqN (Fx.W.ret (Fx.seqR (⟨.int .u64 (0), Fx.retV1 Try.results127 (by exact rfl), ?_⟩))))
   exact ⟨congrArg (fun q => Ending.returned (Value.int .u64 q)) (Eq.symm (by unfold idE; rw [if_neg (by omega)])), rfl⟩
  ·refine Fx.L.v (.bool false) (x_gtrF rfl rfl rfl c9) (Fx.L.v (.bool false) (x_pickF rfl rfl rfl) (Fx.L.v (.bool false) (x_move rfl rfl) (Fx.L.v (.int .u64 (seq)) (x_move rfl rfl) ?_)))
   by_cases c13 : seq < 1
   ·refine Fx.L.v (.bool true) (Fx.x_lssT rfl rfl rfl c13) (Fx.L.v (.bool true) (x_pickF rfl rfl rfl) (Fx.L.v (.bool true) (x_move rfl rfl) (Fx.L.skip (by rfl) rfl (Fx.L.skip (by rfl) rfl (Fx.L.v (.bool true) (x_pickT rfl rfl rfl) (Fx.L.nil (Fx.seqN (Fx.W.cond (b := true) rfl (fun _ => Fx.W.seq (Fx.W.list (Fx.L.v (.int .u64 (0)) (x_assign rfl rfl) ?_))) (fun h => nomatch h)))))))))
    refine Fx.L.nil (Fx.seqN (Fx.W.ret (Fx.seqR (⟨.int .u64 (0), Fx.retV1 Try.results127 (by exact rfl), ?_⟩))))
    exact ⟨congrArg (fun q => Ending.returned (Value.int .u64 q)) (Eq.symm (by unfold idE; rw [if_neg (by omega)])), rfl⟩
   ·refine Fx.L.v (.bool false) (Fx.x_lssF rfl rfl rfl c13) (Fx.L.v (.bool false) (x_pickF rfl rfl rfl) (Fx.L.v (.bool false) (x_move rfl rfl) (Fx.L.v (.int .u64 (seq)) (x_move rfl rfl) ?_)))
    by_cases c17 : 1099511627776 ≤ seq
    ·refine Fx.L.v (.bool true) (Fx.x_geqT rfl rfl rfl c17) (Fx.L.v (.bool true) (x_pickF rfl rfl rfl) (Fx.L.nil (Fx.seqN (Fx.W.cond (b := true) rfl (fun _ => Fx.W.seq (Fx.W.list (Fx.L.v (.int .u64 (0)) (x_assign rfl rfl) ?_))) (fun h => nomatch h)))))
     refine Fx.L.nil (Fx.seqN (Fx.W.ret (Fx.seqR (⟨.int .u64 (0), Fx.retV1 Try.results127 (by exact rfl), ?_⟩))))
     exact ⟨congrArg (fun q => Ending.returned (Value.int .u64 q)) (Eq.symm (by unfold idE; rw [if_neg (by omega)])), rfl⟩
    ·refine Fx.L.v (.bool false) (Fx.x_geqF rfl rfl rfl c17) (Fx.L.v (.bool false) (x_pickF rfl rfl rfl) (Fx.L.nil (Fx.seqN (Fx.W.cond (b := false) rfl (fun h => nomatch h) (fun _ => Fx.W.skip (Fx.seqN (Fx.W.seq (Fx.W.list (Fx.L.v (.int .i64 (o)) (x_move rfl rfl) (Fx.L.v (.int .u64 (o)) (x_conv rfl rfl (by kernel_rfl) Try.underlying27 (Fx.u64e (by omega) rfl)) (Fx.L.v (.int .u64 (1099511627776 * o)) (Fx.x_shl (b := 40) rfl rfl rfl (by decide) (Fx.u64e (by omega) (by omega))) (Fx.L.v (.int .u64 (seq)) (x_move rfl rfl) (Fx.L.v (.int .u64 (1099511627776 * o + seq)) (Fx.x_add rfl rfl rfl (Fx.u64e (by omega) (by omega))) (Fx.L.v (.int .u64 (1099511627776 * o + seq)) (x_assign rfl rfl) (Fx.L.nil (Fx.seqN (Fx.W.ret (⟨.int .u64 (1099511627776 * o + seq), Fx.retV1 Try.results127 (by exact rfl), ?_⟩))))))))))))))))))
     exact ⟨congrArg (fun q => Ending.returned (Value.int .u64 q)) (Eq.symm (by unfold idE; rw [if_pos (by omega)])), rfl⟩
section
theorem app0 {s : Nat} {x y : Nat → Value} (j : Nat) : Fx.appX x (0 * s) y j = y j := by unfold Fx.appX; rw [Nat.zero_mul, if_neg (Nat.not_lt_zero _)]; rfl
theorem ndY_one' (id par : Int) (R : Nat → Int) (j : Nat) : (ndY id par R j).oneCell' = true := by unfold ndY; split <;> (try split) <;> rfl
theorem ndY_at (id par : Int) (R : Nat → Int) {q p : Nat} (h : q = p + 2) : ndY id par R q = .int .i64 (R p) := by subst h; unfold ndY; rw [if_neg (by omega), if_neg (by omega), Nat.add_sub_cancel]
theorem grY_one (x : Nat → Int) (j : Nat) : (grY x j).oneCell' = true := by unfold grY; split <;> (try split) <;> rfl
theorem ndX_one (m : LdM) (j : Nat) : (ndX m j).oneCell' = true := ndY_one' _ _ _ _
theorem grX_one (m : LdM) (j : Nat) : (grX m j).oneCell' = true := grY_one _ _
def reqV (m : LdM) (i : Nat) : Value := .slice (m.ra i) (m.rn i) (m.rc i)
def Rqs (w : World) (B k : Nat) (m : LdM) : Prop :=
  (∀ i, i < k → Fx.Own w B 27 1 (reqV m i) (m.rn i) (Fx.rv .u64 (m.rq i))) ∧ ∀ i j, i < k → j < k → i ≠ j → ∀ g, (reqV m i).ownBlock = some g → (reqV m j).ownBlock ≠ some g
section
variable {w w' : World} {B k : Nat} {m : LdM}
theorem Rqs.up (h : Rqs w B k m) (hb : Below w.heap.size w w') : Rqs w' B k m := ⟨fun i hi => (h.1 i hi).up hb, h.2⟩
theorem Rqs.chT {Ts : List TypeId} (h : Rqs w B k m) (hs : Fx.ChT Ts w w') (ne : Ts.contains 27 = false) : Rqs w' B k m := ⟨fun i hi => (h.1 i hi).chT hs ne, h.2⟩
theorem Rqs.zero (w : World) (B : Nat) (m : LdM) : Rqs w B 0 m := ⟨fun _ h => absurd h (Nat.not_lt_zero _), fun _ _ h => absurd h (Nat.not_lt_zero _)⟩
theorem Rqs.fresh (h : Rqs w B k m) {v : Value} (hv : v = .slice none 0 0 ∨ v.ownBlock = (Value.slice none 0 0).ownBlock ∨ v.ownBlock = some w.heap.size) : ∀ i, i < k → ∀ g, (reqV m i).ownBlock = some g → v.ownBlock ≠ some g := fun i hi g hg e => by
  have h1 := ((h.1 i hi).ge hg).2
  rcases hv with rfl | e2 | e2
  · cases e
  · rw [e] at e2; cases e2
  · rw [e] at e2; have := Option.some.inj e2; omega
theorem Rqs.snoc {m' : LdM} (h : Rqs w B k m) (hm : ∀ i, i < k → reqV m' i = reqV m i ∧ m'.rn i = m.rn i ∧ m'.rq i = m.rq i) (hO : Fx.Own w B 27 1 (reqV m' k) (m'.rn k) (Fx.rv .u64 (m'.rq k))) (hf : ∀ i, i < k → ∀ g, (reqV m i).ownBlock = some g → (reqV m' k).ownBlock ≠ some g) : Rqs w B (k + 1) m' := by
  refine ⟨fun i hi => ?_, fun i j hi hj hne g hg => ?_⟩
  · by_cases e : i = k
    · subst e; exact hO
    · obtain ⟨h1, h2, h3⟩ := hm i (by omega)
      rw [h1, h2, h3]; exact h.1 i (by omega)
  · by_cases ei : i = k
    · subst ei
      by_cases ej : j = i
      · exact absurd ej.symm hne
      · intro e2
        rw [(hm j (by omega)).1] at e2
        exact hf j (by omega) g e2 hg
    · rw [(hm i (by omega)).1] at hg
      by_cases ej : j = k
      · subst ej; exact hf i (by omega) g hg
      · rw [(hm j (by omega)).1]; exact h.2 i j (by omega) (by omega) hne g hg
end
structure LdO (w : World) (B p : Nat) (m : LdM) : Prop where
  c : Fx.Blk w p 27 (ldY m) 71
  n : Fx.Own w B 50 56 (.slice m.s.na m.s.nn m.s.nc) m.s.nn (ndX m)
  g : Fx.Own w B 88 5 (.slice m.s.ga m.s.gn m.s.gc) m.s.gn (grX m)
  tc : Fx.Blk w m.tb 1 (fun _ => .slice m.ta m.tn m.tc) 163
  t : Fx.Own w B 178 2 (.slice m.ta m.tn m.tc) m.tn (trX m.t)
  r : Rqs w B 6 m
  pB : B ≤ p
  tB : B ≤ m.tb
  bn : m.s.nn ≤ 1000
  bg : m.s.gn ≤ 1000000
  bt : m.tn ≤ 1000
  br : ∀ i, i < 6 → m.rn i ≤ 1000000
section
variable {w w' : World} {B p : Nat} {m : LdM}
theorem LdO.ldg (h : LdO w B p m) : Ldg w p m where
  c := h.c.cel
  an := h.n.arr
  ag := h.g.arr
  tc := h.tc.cel
  at2 := h.t.arr
  ar := fun i hi => (h.r.1 i hi).arr
  bn := by have := h.bn; omega
  bg := h.bg
  bt := by have := h.bt; omega
  br := h.br
theorem LdO.up (h : LdO w B p m) (hb : Below w.heap.size w w') : LdO w' B p m := { h with c := h.c.stp (Fx.Stp.of_below hb) (Nat.ne_of_lt h.c.lt), n := h.n.up hb, g := h.g.up hb, tc := h.tc.stp (Fx.Stp.of_below hb) (Nat.ne_of_lt h.tc.lt), t := h.t.up hb, r := h.r.up hb }
def ldTs : List Nat := [71, 50, 88, 163, 178, 27]
theorem LdO.chT {Ts : List TypeId} (h : LdO w B p m) (hs : Fx.ChT Ts w w') (ne : (ldTs.all fun T => !Ts.contains T) = true) : LdO w' B p m := by
  have hq : ∀ T' ∈ ldTs, Ts.contains T' = false := fun T' hT => by
    have := List.all_eq_true.1 ne T' hT
    simpa using this
  exact { h with
    c := h.c.chT hs (hq _ (by decide)), n := h.n.chT hs (hq _ (by decide)), g := h.g.chT hs (hq _ (by decide)), tc := h.tc.chT hs (hq _ (by decide)), t := h.t.chT hs (hq _ (by decide)), r := h.r.chT hs (hq _ (by decide)) }
theorem LdO.mono {B' : Nat} (h : LdO w B p m) (hB : B' ≤ B) : LdO w B' p m := { h with n := h.n.mono hB, g := h.g.mono hB, t := h.t.mono hB, r := ⟨fun i hi => (h.r.1 i hi).mono hB, h.r.2⟩, pB := Nat.le_trans hB h.pB, tB := Nat.le_trans hB h.tB }
end
def cpM (m : LdM) (na : Option Addr) (nc : Nat) (ga : Option Addr) (gc tb : Nat) (ta : Option Addr) (tc : Nat) (ra : Nat → Option Addr) (rc : Nat → Nat) (k : Nat) : LdM :=
  { m with s := { m.s with na := na, nc := nc, ga := ga, gc := gc }, tb := tb, ta := ta, tc := tc, ra := fun i => if i < k then ra i else none, rn := fun i => if i < k then m.rn i else 0, rc := fun i => if i < k then rc i else 0 }
def updA {α : Type} (f : Nat → α) (k : Nat) (v : α) : Nat → α := fun i => if i = k then v else f i
section
variable {m : LdM} {na : Option Addr} {nc : Nat} {ga : Option Addr} {gc tb : Nat} {ta : Option Addr} {tc : Nat} {ra : Nat → Option Addr} {rc : Nat → Nat} {k : Nat}
theorem cpM_nil {q : Nat} (h : q = k + 21) : ldY (cpM m na nc ga gc tb ta tc ra rc k) q = .slice none 0 0 := by
  subst h
  rw [ldY_req (p := k) _ rfl]
  show Value.slice (if k < k then ra k else none) (if k < k then m.rn k else 0) (if k < k then rc k else 0) = _
  rw [if_neg (Nat.lt_irrefl _), if_neg (Nat.lt_irrefl _), if_neg (Nat.lt_irrefl _)]
theorem cpM_req {i : Nat} (h : i < k) : reqV (cpM m na nc ga gc tb ta tc ra rc k) i = .slice (ra i) (m.rn i) (rc i) := by
  show Value.slice (if i < k then ra i else none) (if i < k then m.rn i else 0) (if i < k then rc i else 0) = _
  rw [if_pos h, if_pos h, if_pos h]
theorem cpM_step {a : Option Addr} {c q : Nat} (hq : q = k + 21) : Fx.updV (ldY (cpM m na nc ga gc tb ta tc ra rc k)) q (.slice a (m.rn k) c) = ldY (cpM m na nc ga gc tb ta tc (updA ra k a) (updA rc k c) (k + 1)) := by
  subst hq
  funext p
  unfold Fx.updV
  by_cases e : p = k + 21
  · subst e; rw [if_pos rfl]
    rw [ldY_req (p := k) _ rfl]
    show _ = Value.slice (if k < k + 1 then updA ra k a k else none) (if k < k + 1 then m.rn k else 0) (if k < k + 1 then updA rc k c k else 0)
    simp [updA]
  · rw [if_neg e]
    unfold ldY
    by_cases h : p < 20
    · rw [if_pos h, if_pos h]; rfl
    · rw [if_neg h, if_neg h]
      by_cases h2 : p = 20
      · rw [if_pos h2, if_pos h2]; rfl
      · rw [if_neg h2, if_neg h2]
        show Value.slice (if p - 21 < k then ra (p - 21) else none) (if p - 21 < k then m.rn (p - 21) else 0) (if p - 21 < k then rc (p - 21) else 0) = Value.slice (if p - 21 < k + 1 then updA ra k a (p - 21) else none) (if p - 21 < k + 1 then m.rn (p - 21) else 0) (if p - 21 < k + 1 then updA rc k c (p - 21) else 0)
        by_cases h3 : p - 21 < k
        · simp [updA, h3, show p - 21 < k + 1 by omega, show ¬ p - 21 = k by omega]
        · simp [h3, show ¬ p - 21 < k + 1 by omega]
theorem cpM_rqs {w : World} {B : Nat} {a : Option Addr} {c : Nat} (h : Rqs w B k (cpM m na nc ga gc tb ta tc ra rc k)) (hO : Fx.Own w B 27 1 (.slice a (m.rn k) c) (m.rn k) (Fx.rv .u64 (m.rq k)))
    (hf : ∀ i, i < k → ∀ g, (reqV (cpM m na nc ga gc tb ta tc ra rc k) i).ownBlock = some g → (Value.slice a (m.rn k) c).ownBlock ≠ some g) : Rqs w B (k + 1) (cpM m na nc ga gc tb ta tc (updA ra k a) (updA rc k c) (k + 1)) := by
  have e1 : reqV (cpM m na nc ga gc tb ta tc (updA ra k a) (updA rc k c) (k + 1)) k = .slice a (m.rn k) c := by
    rw [cpM_req (by omega)]; unfold updA; rw [if_pos rfl, if_pos rfl]
  refine h.snoc (fun i hi => ⟨?_, ?_, rfl⟩) ?_ ?_
  · rw [cpM_req (by omega), cpM_req hi]; unfold updA; rw [if_neg (by omega), if_neg (by omega)]
  · show (if i < k + 1 then m.rn i else 0) = (if i < k then m.rn i else 0)
    rw [if_pos (by omega), if_pos hi]
  · rw [e1]
    show Fx.Own w B 27 1 _ (if k < k + 1 then m.rn k else 0) _
    rw [if_pos (by omega)]; exact hO
  · rw [e1]; exact hf
end
def atM (m : LdM) (na : Option Addr) (nc : Nat) (ga : Option Addr) (gc tb : Nat) (ta : Option Addr) (tc : Nat) (ra : Nat → Option Addr) (rc : Nat → Nat) : LdM :=
  { m with s := { m.s with na := na, nc := nc, ga := ga, gc := gc }, tb := tb, ta := ta, tc := tc, ra := ra, rc := rc }
section
variable {m : LdM} {na : Option Addr} {nc : Nat} {ga : Option Addr} {gc tb : Nat} {ta : Option Addr} {tc : Nat} {ra : Nat → Option Addr} {rc : Nat → Nat}
theorem atM_y : ∀ j, j < 27 → ldY (cpM m na nc ga gc tb ta tc ra rc 6) j = ldY (atM m na nc ga gc tb ta tc ra rc) j := fun j hj => by
  unfold ldY
  by_cases h : j < 20
  · rw [if_pos h, if_pos h]; rfl
  · rw [if_neg h, if_neg h]
    by_cases h2 : j = 20
    · rw [if_pos h2, if_pos h2]; rfl
    · rw [if_neg h2, if_neg h2]
      show Value.slice (if j - 21 < 6 then ra (j - 21) else none) (if j - 21 < 6 then m.rn (j - 21) else 0) (if j - 21 < 6 then rc (j - 21) else 0) = Value.slice (ra (j - 21)) (m.rn (j - 21)) (rc (j - 21))
      rw [if_pos (by omega), if_pos (by omega), if_pos (by omega)]
theorem atM_rqs {w : World} {B : Nat} (h : Rqs w B 6 (cpM m na nc ga gc tb ta tc ra rc 6)) : Rqs w B 6 (atM m na nc ga gc tb ta tc ra rc) := by
  refine ⟨fun i hi => ?_, fun i j hi hj hne g hg => ?_⟩
  · have := h.1 i hi
    rw [cpM_req hi] at this
    have e : (cpM m na nc ga gc tb ta tc ra rc 6).rn i = m.rn i := by show (if i < 6 then m.rn i else 0) = _; rw [if_pos hi]
    rw [e] at this
    exact this
  · have := h.2 i j hi hj hne g
    rw [cpM_req hi, cpM_req hj] at this
    exact this hg
end
end
set_option maxRecDepth 20000 in
set_option maxHeartbeats 1000000 in
theorem l_copy (m : LdM) (p : Nat) (w : World) (h : Ldg w p m) (bn1 : m.s.nn ≤ 1000) (bt1 : m.tn ≤ 1000) :
    Calls Try.prog 103 #[.pointer (some ⟨p, 0, none⟩)] w fun e w' => ∃ p' m', e = .returned (.pointer (some ⟨p', 0, none⟩)) ∧ m'.core = m.core ∧ LdO w' w.heap.size p' m' ∧ Below w.heap.size w w' := by
 have hc := h.c
 have lp : p < w.heap.size := hc.lt (by omega)
 have bn := h.bn
 have bg := h.bg
 have bt := h.bt
 have han := h.an
 have hag := h.ag
 have hat := h.at2
 have htc := h.tc
 have ltb : m.tb < w.heap.size := htc.lt (by omega)
 refine Fx.enter Try.func103 rfl (n := 79) rfl (by rfl) ?_
 refine Fx.W.seq (Fx.W.list (Fx.L.v (.pointer none) (x_assign rfl rfl) (Fx.L.nil (Fx.seqN (Fx.W.seq (Fx.W.list (Fx.L.v (.pointer (some ⟨p, 0, none⟩)) (x_move rfl rfl) (Fx.L.v (.pointer (some ⟨p, 0, none⟩)) (x_nil rfl rfl) (Fx.L.v (.pointer (some ⟨p, 0, none⟩)) (x_field rfl rfl Try.underlying71 rfl (s := 20) (by kernel_rfl) rfl rfl) (Fx.L.v (.agg (Fx.varr 20 (stY m.s))) (x_loadA (x := ldY m) (y := stY m.s) rfl rfl (by kernel_rfl) (by kernel_rfl) hc (i := 0) (by omega) (by omega) (fun j hj => (show ldY _ (0 + j) = stY _ j by rw [Nat.zero_add]; exact ldY_st _ hj rfl))) (Fx.L.v (.agg (Fx.varr 1 (fun _ => .slice none 0 0))) (x_build (vs := []) (places := #[(0, 1)]) (m := 1) (x := fun _ => .slice none 0 0) rfl rfl Try.underlying163 (by kernel_rfl) (by kernel_rfl) (by rfl)) (Fx.L.box (m := 1) (y := fun _ => .slice none 0 0) (by rfl) rfl rfl (Fx.cells_agg _ _) rfl fun g1 w1 eg1 m1 s1 z1 => ?_))))))))))))
 have m2 := hc.stp s1 (Nat.ne_of_lt (hc.lt (by omega)))
 have m3 := htc.stp s1 (Nat.ne_of_lt (htc.lt (by omega)))
 have b1 := s1.below (Below.refl w.heap.size w) (Below.refl w.heap.size w).size (Below.refl w.heap.size w).size
 have lg1 : w.heap.size ≤ g1 := by rw [eg1]; exact (Below.refl w.heap.size w).size
 have ng1m2 : p ≠ g1 := by rw [eg1]; exact Nat.ne_of_lt (hc.lt (by omega))
 have ng1m3 : m.tb ≠ g1 := by rw [eg1]; exact Nat.ne_of_lt (htc.lt (by omega))
 have tg1 : g1 < w1.heap.size := m1.lt
 clear eg1
 refine Fx.L.v (.agg (Fx.varr 27 (Fx.ovr (Fx.ovr (fun zq => if zq < 12 then .bool false else if zq < 18 then .int .u64 (0) else if zq < 20 then .slice none 0 0 else if zq < 21 then .pointer none else .slice none 0 0) 0 20 (stY m.s)) 20 1 (fun _ => .pointer (some ⟨g1, 0, none⟩))))) (x_build (vs := [(0, .agg (Fx.varr 20 (stY m.s))), (1, .pointer (some ⟨g1, 0, none⟩))]) (places := #[(0, 20), (20, 1), (21, 6)]) (m := 27) (x := fun zq => if zq < 12 then .bool false else if zq < 18 then .int .u64 (0) else if zq < 20 then .slice none 0 0 else if zq < 21 then .pointer none else .slice none 0 0) rfl rfl Try.underlying71 (by kernel_rfl) (by kernel_rfl) (by rw [Fx.fill_step (off := 0) (s := 20) (y := stY m.s) (by kernel_rfl) (Fx.cells_agg _ _) (by rfl)]; rw [Fx.fill_step (off := 20) (s := 1) (y := fun _ => .pointer (some ⟨g1, 0, none⟩)) (by kernel_rfl) (Fx.cells_one (by rfl)) (by rfl)]; rfl)) (Fx.L.box (m := 27) (y := Fx.ovr (Fx.ovr (fun zq => if zq < 12 then .bool false else if zq < 18 then .int .u64 (0) else if zq < 20 then .slice none 0 0 else if zq < 21 then .pointer none else .slice none 0 0) 0 20 (stY m.s)) 20 1 (fun _ => .pointer (some ⟨g1, 0, none⟩))) (by rfl) rfl rfl (Fx.cells_agg _ _) rfl fun g2 w2 eg2 m4 s2 z2 => ?_)
 have m5 := m2.stp s2 (Nat.ne_of_lt (m2.lt (by omega)))
 have m6 := m3.stp s2 (Nat.ne_of_lt (m3.lt (by omega)))
 have m7 := m1.stp s2 (Nat.ne_of_lt (m1.lt))
 have b2 := s2.below b1 b1.size b1.size
 have lg2 : w.heap.size ≤ g2 := by rw [eg2]; exact b1.size
 have ng2m5 : p ≠ g2 := by rw [eg2]; exact Nat.ne_of_lt (m2.lt (by omega))
 have ng2m6 : m.tb ≠ g2 := by rw [eg2]; exact Nat.ne_of_lt (m3.lt (by omega))
 have ng2m7 : g1 ≠ g2 := by rw [eg2]; exact Nat.ne_of_lt (m1.lt)
 have tg2 : g2 < w2.heap.size := m4.lt
 clear eg2
 refine Fx.L.v (.pointer (some ⟨g2, 0, none⟩)) (x_assign rfl rfl) (Fx.L.nil (Fx.seqN (Fx.W.seq (Fx.W.list (Fx.L.v (.pointer (some ⟨g2, 0, none⟩)) (x_move rfl rfl) (Fx.L.bslice0 (s := 56) (by rfl) rfl Try.underlying40 (by kernel_rfl) rfl fun g3 w3 eg3 hO1 s3 => ?_))))))
 have m8 : Fx.Own w3 w.heap.size 50 56 (.slice (some ⟨g3, 0, none⟩) 0 0) 0 (ndX m) := hO1 _ _ (by rw [eg3]; exact b2.size)
 have m9 := m5.stp s3 (Nat.ne_of_lt (m5.lt (by omega)))
 have m10 := m6.stp s3 (Nat.ne_of_lt (m6.lt (by omega)))
 have m11 := m7.stp s3 (Nat.ne_of_lt (m7.lt))
 have m12 := m4.stp s3 (Nat.ne_of_lt (m4.lt))
 have b3 := s3.below b2 b2.size b2.size
 clear eg3
 refine Fx.L.v (.pointer (some ⟨p, 0, none⟩)) (x_move rfl rfl) (Fx.L.v (.pointer (some ⟨p, 0, none⟩)) (x_nil rfl rfl) (Fx.L.v (.pointer (some ⟨p, 0, none⟩)) (x_field rfl rfl Try.underlying71 rfl (s := 20) (by kernel_rfl) rfl rfl) (Fx.L.v (.pointer (some ⟨p, 18, none⟩)) (x_field rfl rfl Try.underlying43 rfl (s := 1) (by kernel_rfl) rfl (by show _ + 18 = _; omega)) (Fx.L.v (.slice m.s.na (m.s.nn) (m.s.nc)) (x_load1 (x := ldY m) rfl rfl (by kernel_rfl) m9 (i := 18) (by omega) (by omega) rfl) (Fx.L.appAny (B := w.heap.size) (s := 56) (bytes := 448) (k := 0) (m := m.s.nn) (v := .slice (some ⟨g3, 0, none⟩) (0) (0)) (x := ndX m) (by rfl) rfl rfl rfl Try.underlying40 (by kernel_rfl) (by kernel_rfl) rfl rfl m8 (han.up b3 rfl) (fun j _ => ndX_one m j) (by omega) (by omega) b3.size fun vv1 w4 ho1 hg1 hgv1 => ?_)))))
 rw [Nat.zero_add] at ho1
 obtain ⟨a1, cap1, rfl⟩ := ho1.val
 have hct1 := Fx.ChT.of_grown hg1 m8
 have m14 := m9.grown hg1 (m8.not (by omega))
 have m15 := m10.grown hg1 (m8.not (by omega))
 have m16 := m11.chT hct1 (by decide)
 have m17 := m12.chT hct1 (by decide)
 have m13 : Fx.Own w4 w.heap.size 50 56 (.slice a1 (m.s.nn) (cap1)) m.s.nn (ndX m) := (ho1.congr (fun j _ => app0 j))
 have b4 : Below w.heap.size w w4 := Fx.Below.grow b3 hg1 b3.size (fun q hq => (m8.ge hq).1)
 refine Fx.L.v (.pointer (some ⟨g2, 0, none⟩)) (x_nil rfl rfl) (Fx.L.v (.pointer (some ⟨g2, 0, none⟩)) (x_field rfl rfl Try.underlying71 rfl (s := 20) (by kernel_rfl) rfl rfl) (Fx.L.v (.pointer (some ⟨g2, 18, none⟩)) (x_field rfl rfl Try.underlying43 rfl (s := 1) (by kernel_rfl) rfl (by show _ + 18 = _; omega)) (Fx.L.store1 (x := Fx.ovr (Fx.ovr (fun zq => if zq < 12 then .bool false else if zq < 18 then .int .u64 (0) else if zq < 20 then .slice none 0 0 else if zq < 21 then .pointer none else .slice none 0 0) 0 20 (stY m.s)) 20 1 (fun _ => .pointer (some ⟨g1, 0, none⟩))) (u := .slice a1 (m.s.nn) (cap1)) (by rfl) rfl rfl rfl rfl (by rfl) (by kernel_rfl) m17 (i := 18) (by omega) fun w5 m18 s4 z3 => ?_)))
 have m19 := m14.stp s4 (by omega)
 have m20 := m15.stp s4 (by omega)
 have hct2 := Fx.ChT.of_stp s4 m17.ty
 have m21 := m16.chT hct2 (by decide)
 have m22 := m13.chT hct2 (by decide)
 have b5 := s4.below b4 b4.size (by omega)
 refine Fx.L.nil (Fx.seqN (Fx.W.seq (Fx.W.list (Fx.L.v (.pointer (some ⟨g2, 0, none⟩)) (x_move rfl rfl) (Fx.L.bslice0 (s := 5) (by rfl) rfl Try.underlying41 (by kernel_rfl) rfl fun g4 w6 eg4 hO2 s5 => ?_)))))
 have m23 : Fx.Own w6 w.heap.size 88 5 (.slice (some ⟨g4, 0, none⟩) 0 0) 0 (grX m) := hO2 _ _ (by rw [eg4]; exact b5.size)
 have m24 := m19.stp s5 (Nat.ne_of_lt (m19.lt (by omega)))
 have m25 := m20.stp s5 (Nat.ne_of_lt (m20.lt (by omega)))
 have m26 := m21.stp s5 (Nat.ne_of_lt (m21.lt))
 have m27 := m22.stp s5 (m22.notNew (Nat.le_refl _))
 have m28 := m18.stp s5 (Nat.ne_of_lt (m18.lt))
 have b6 := s5.below b5 b5.size b5.size
 clear eg4
 refine Fx.L.v (.pointer (some ⟨p, 0, none⟩)) (x_move rfl rfl) (Fx.L.v (.pointer (some ⟨p, 0, none⟩)) (x_nil rfl rfl) (Fx.L.v (.pointer (some ⟨p, 0, none⟩)) (x_field rfl rfl Try.underlying71 rfl (s := 20) (by kernel_rfl) rfl rfl) (Fx.L.v (.pointer (some ⟨p, 19, none⟩)) (x_field rfl rfl Try.underlying43 rfl (s := 1) (by kernel_rfl) rfl (by show _ + 19 = _; omega)) (Fx.L.v (.slice m.s.ga (m.s.gn) (m.s.gc)) (x_load1 (x := ldY m) rfl rfl (by kernel_rfl) m24 (i := 19) (by omega) (by omega) rfl) (Fx.L.appAny (B := w.heap.size) (s := 5) (bytes := 40) (k := 0) (m := m.s.gn) (v := .slice (some ⟨g4, 0, none⟩) (0) (0)) (x := grX m) (by rfl) rfl rfl rfl Try.underlying41 (by kernel_rfl) (by kernel_rfl) rfl rfl m23 (hag.up b6 rfl) (fun j _ => grX_one m j) (by omega) (by omega) b6.size fun vv2 w7 ho2 hg2 hgv2 => ?_)))))
 rw [Nat.zero_add] at ho2
 obtain ⟨a2, cap2, rfl⟩ := ho2.val
 have hct3 := Fx.ChT.of_grown hg2 m23
 have m30 := m24.grown hg2 (m23.not (by omega))
 have m31 := m25.grown hg2 (m23.not (by omega))
 have m32 := m26.chT hct3 (by decide)
 have m33 := m27.chT hct3 (by decide)
 have m34 := m28.chT hct3 (by decide)
 have m29 : Fx.Own w7 w.heap.size 88 5 (.slice a2 (m.s.gn) (cap2)) m.s.gn (grX m) := (ho2.congr (fun j _ => app0 j))
 have b7 : Below w.heap.size w w7 := Fx.Below.grow b6 hg2 b6.size (fun q hq => (m23.ge hq).1)
 refine Fx.L.v (.pointer (some ⟨g2, 0, none⟩)) (x_nil rfl rfl) (Fx.L.v (.pointer (some ⟨g2, 0, none⟩)) (x_field rfl rfl Try.underlying71 rfl (s := 20) (by kernel_rfl) rfl rfl) (Fx.L.v (.pointer (some ⟨g2, 19, none⟩)) (x_field rfl rfl Try.underlying43 rfl (s := 1) (by kernel_rfl) rfl (by show _ + 19 = _; omega)) (Fx.L.store1 (x := Fx.updV (Fx.ovr (Fx.ovr (fun zq => if zq < 12 then .bool false else if zq < 18 then .int .u64 (0) else if zq < 20 then .slice none 0 0 else if zq < 21 then .pointer none else .slice none 0 0) 0 20 (stY m.s)) 20 1 (fun _ => .pointer (some ⟨g1, 0, none⟩))) 18 (.slice a1 (m.s.nn) (cap1))) (u := .slice a2 (m.s.gn) (cap2)) (by rfl) rfl rfl rfl rfl (by rfl) (by kernel_rfl) m34 (i := 19) (by omega) fun w8 m35 s6 z4 => ?_)))
 have m36 := m30.stp s6 (by omega)
 have m37 := m31.stp s6 (by omega)
 have hct4 := Fx.ChT.of_stp s6 m34.ty
 have m38 := m32.chT hct4 (by decide)
 have m39 := m33.chT hct4 (by decide)
 have m40 := m29.chT hct4 (by decide)
 have b8 := s6.below b7 b7.size (by omega)
 refine Fx.L.nil (Fx.seqN (Fx.W.seq ?_))
 -- region 4 draws
 refine Fx.W.reord [0, 1, 2, 4, 5, 6, 11, 12, 13, 3, 7, 8, 9, 10, 14, 15, 16, 17, 18, 19, 20, 21] [0, 0, 0, 1, 0, 0, 0, 4, 0, 0, 4, 0, 0, 0, 4, 0, 0, 4, 2, 0, 0, 3] (Fx.ChT [178]) Fx.ChT.refl Fx.ChT.trans (certs := [(21, 3, [3]), (18, 7, [10, 9, 8, 7]), (21, 7, [7]), (18, 10, [10]), (21, 10, [10]), (18, 14, [17, 16, 15, 14]), (21, 14, [14]), (18, 17, [17]), (21, 17, [17]), (19, 18, [18]), (20, 18, [18]), (21, 18, [18])]) (by kernel_rfl) (by kernel_rfl) (by kernel_rfl) (by kernel_rfl) (by kernel_rfl) fun wt1 hbwt1 hzwt1 => ?_
 have s7 : Fx.Stp w8.heap.size w8 wt1 := Fx.Stp.of_below hbwt1
 have m41 := m36.stp s7 (Nat.ne_of_lt (m36.lt (by omega)))
 have m42 := m37.stp s7 (Nat.ne_of_lt (m37.lt (by omega)))
 have m43 := m38.stp s7 (Nat.ne_of_lt (m38.lt))
 have m44 := m39.stp s7 (m39.notNew (Nat.le_refl _))
 have m45 := m40.stp s7 (m40.notNew (Nat.le_refl _))
 have m46 := m35.stp s7 (Nat.ne_of_lt (m35.lt))
 have b9 := s7.below b8 b8.size b8.size
 refine Fx.R.p (.pointer (some ⟨g2, 0, none⟩)) (fun v1 => x_move rfl rfl) (Fx.R.p (.pointer (some ⟨g2, 0, none⟩)) (fun v1 => x_nil rfl rfl) (Fx.R.p (.pointer (some ⟨g2, 20, none⟩)) (fun v1 => x_field rfl rfl Try.underlying71 rfl (s := 1) (by kernel_rfl) rfl (by show _ + 20 = _; omega)) (Fx.R.p (.pointer (some ⟨g2, 0, none⟩)) (fun v1 => x_move rfl rfl) (Fx.R.p (.pointer (some ⟨g2, 0, none⟩)) (fun v1 => x_nil rfl rfl) (Fx.R.p (.pointer (some ⟨g2, 20, none⟩)) (fun v1 => x_field rfl rfl Try.underlying71 rfl (s := 1) (by kernel_rfl) rfl (by show _ + 20 = _; omega)) (Fx.R.p (.pointer (some ⟨p, 0, none⟩)) (fun v1 => x_move rfl rfl) (Fx.R.p (.pointer (some ⟨p, 0, none⟩)) (fun v1 => x_nil rfl rfl) (Fx.R.p (.pointer (some ⟨p, 20, none⟩)) (fun v1 => x_field rfl rfl Try.underlying71 rfl (s := 1) (by kernel_rfl) rfl (by show _ + 20 = _; omega)) (Fx.R.read (v := .pointer (some ⟨g1, 0, none⟩)) (by rfl) (by rfl) (Fx.ChT.refl _) (fun v1 hv1 => x_load1 (x := Fx.updV (Fx.updV (Fx.ovr (Fx.ovr (fun zq => if zq < 12 then .bool false else if zq < 18 then .int .u64 (0) else if zq < 20 then .slice none 0 0 else if zq < 21 then .pointer none else .slice none 0 0) 0 20 (stY m.s)) 20 1 (fun _ => .pointer (some ⟨g1, 0, none⟩))) 18 (.slice a1 (m.s.nn) (cap1))) 19 (.slice a2 (m.s.gn) (cap2))) rfl rfl (by kernel_rfl) (m46.chT hv1 (by decide)).cel (i := 20) (by omega) (by omega) (Fx.updV_ne (by omega) (Fx.updV_ne (by omega) (Fx.ovr_in (j := 0) (by omega) (by omega) rfl)))) ?_)))))))))
 refine Fx.R.s (.pointer (some ⟨g1, 0, none⟩)) (x_load1 (x := Fx.updV (Fx.updV (Fx.ovr (Fx.ovr (fun zq => if zq < 12 then .bool false else if zq < 18 then .int .u64 (0) else if zq < 20 then .slice none 0 0 else if zq < 21 then .pointer none else .slice none 0 0) 0 20 (stY m.s)) 20 1 (fun _ => .pointer (some ⟨g1, 0, none⟩))) 18 (.slice a1 (m.s.nn) (cap1))) 19 (.slice a2 (m.s.gn) (cap2))) rfl rfl (by kernel_rfl) m46.cel (i := 20) (by omega) (by omega) (Fx.updV_ne (by omega) (Fx.updV_ne (by omega) (Fx.ovr_in (j := 0) (by omega) (by omega) rfl)))) ?_
 refine Fx.R.p (.pointer (some ⟨g1, 0, none⟩)) (fun v1 => x_nil rfl rfl) (Fx.R.p (.pointer (some ⟨g1, 0, none⟩)) (fun v1 => x_field rfl rfl Try.underlying163 rfl (s := 1) (by kernel_rfl) rfl rfl) (Fx.R.s (.slice none 0 0) (x_load1 (x := fun _ => .slice none 0 0) rfl rfl (by kernel_rfl) m43.cel (i := 0) (by omega) (by omega) rfl) ?_))
 refine Fx.R.s (.pointer (some ⟨m.tb, 0, none⟩)) (x_load1 (x := ldY m) rfl rfl (by kernel_rfl) m41 (i := 20) (by omega) (by omega) rfl) ?_
 refine Fx.R.p (.pointer (some ⟨m.tb, 0, none⟩)) (fun v1 => x_nil rfl rfl) (Fx.R.p (.pointer (some ⟨m.tb, 0, none⟩)) (fun v1 => x_field rfl rfl Try.underlying163 rfl (s := 1) (by kernel_rfl) rfl rfl) (Fx.R.s (.slice m.ta (m.tn) (m.tc)) (x_load1 (x := fun _ => .slice m.ta m.tn m.tc) rfl rfl (by kernel_rfl) m42 (i := 0) (by omega) (by omega) rfl) ?_))
 refine Fx.R.make (by rfl) ?_
 refine Fx.L.appAny (B := w.heap.size) (s := 2) (bytes := 16) (k := 0) (m := m.tn) (v := .slice none 0 0) (x := trX m.t) (by rfl) rfl rfl rfl Try.underlying161 (by kernel_rfl) (by kernel_rfl) rfl rfl (Fx.Own.nil wt1 w.heap.size 178 2 (trX m.t)) (hat.up b9 rfl) (fun _ _ => rfl) (by omega) (by omega) b9.size fun vv3 w9 ho3 hg3 hgv3 => ?_
 rw [Nat.zero_add] at ho3
 obtain ⟨a3, cap3, rfl⟩ := ho3.val
 have hct5 := Fx.ChT.of_grown hg3 (Fx.Own.nil wt1 w.heap.size 178 2 (trX m.t))
 have hq1 : Below wt1.heap.size wt1 w9 := ⟨hg3.os, hg3.tape, hg3.output, hg3.size, fun q hq => hg3.block q hq (fun e => by cases e)⟩
 have m48 := m41.stp (Fx.Stp.of_below hq1) (Nat.ne_of_lt (m41.lt (by omega)))
 have hq2 : Below wt1.heap.size wt1 w9 := ⟨hg3.os, hg3.tape, hg3.output, hg3.size, fun q hq => hg3.block q hq (fun e => by cases e)⟩
 have m49 := m42.stp (Fx.Stp.of_below hq2) (Nat.ne_of_lt (m42.lt (by omega)))
 have m50 := m43.chT hct5 (by decide)
 have m51 := m44.chT hct5 (by decide)
 have m52 := m45.chT hct5 (by decide)
 have m53 := m46.chT hct5 (by decide)
 have m47 : Fx.Own w9 w.heap.size 178 2 (.slice a3 (m.tn) (cap3)) m.tn (trX m.t) := (ho3.congr (fun j _ => app0 j))
 have b10 : Below w.heap.size w w9 := Fx.Below.grow b9 hg3 b9.size (fun q hq => ((Fx.Own.nil wt1 w.heap.size 178 2 (trX m.t)).ge hq).1)
 refine Fx.L.nil ⟨hct5, ?_⟩
 refine Fx.R.p (.pointer (some ⟨g1, 0, none⟩)) (fun v1 => x_nil rfl rfl) (Fx.R.p (.pointer (some ⟨g1, 0, none⟩)) (fun v1 => x_field rfl rfl Try.underlying163 rfl (s := 1) (by kernel_rfl) rfl rfl) (Fx.R.eff (by rfl) ?_))
 refine Fx.L.store1 (x := fun _ => .slice none 0 0) (u := .slice a3 (m.tn) (cap3)) (by rfl) rfl rfl rfl rfl (by rfl) (by kernel_rfl) m50 (i := 0) (by omega) fun w10 m54 s8 z5 => ?_
 have m55 : Fx.Blk w10 g1 1 (fun _ => .slice a3 (m.tn) (cap3)) 163 := Fx.upd_all m54
 have m56 := m48.stp s8 (by omega)
 have m57 := m49.stp s8 (by omega)
 have hct6 := Fx.ChT.of_stp s8 m50.ty
 have m58 := m51.chT hct6 (by decide)
 have m59 := m52.chT hct6 (by decide)
 have m60 := m53.chT hct6 (by decide)
 have m61 := m47.chT hct6 (by decide)
 have b11 := s8.below b10 b10.size (by omega)
 refine Fx.L.nil (Fx.R.nil (Fx.seqN (Fx.W.seq (Fx.W.seq (Fx.W.list (Fx.L.v (.int .i64 (0)) (x_assign rfl rfl) (Fx.L.nil (Fx.seqN (Fx.W.block ?_)))))))))
 have m62 : Fx.Blk w10 g2 27 (ldY (cpM m a1 cap1 a2 cap2 g1 a3 cap3 (fun _ => none) (fun _ => 0) 0)) 71 := m60.congr (fun j hj => by rcases j with _|_|_|_|_|_|_|_|_|_|_|_|_|_|_|_|_|_|_|_|_|_|_|_|_|_|_|j <;> first | rfl | omega)
 have m63 := Rqs.zero w10 w.heap.size (cpM m a1 cap1 a2 cap2 g1 a3 cap3 (fun _ => none) (fun _ => 0) 0)
 refine Fx.W.loop (fun f w_ => ∃ k : Nat, ∃ ra : Nat → Option Addr, ∃ rc : Nat → Nat, k ≤ 6 ∧ f 0 = .pointer (some ⟨p, 0, none⟩) ∧ f 3 = .pointer (some ⟨g2, 0, none⟩) ∧ f 4 = .int .i64 ((k : Int)) ∧ Fx.Cel w_ p 0 27 (ldY m) ∧ Fx.Own w_ w.heap.size 50 56 (.slice a1 (m.s.nn) (cap1)) m.s.nn (ndX m) ∧ Fx.Own w_ w.heap.size 88 5 (.slice a2 (m.s.gn) (cap2)) m.s.gn (grX m) ∧ Fx.Own w_ w.heap.size 178 2 (.slice a3 (m.tn) (cap3)) m.tn (trX m.t) ∧ Fx.Blk w_ g1 1 (fun _ => .slice a3 (m.tn) (cap3)) 163 ∧ Fx.Blk w_ g2 27 (ldY (cpM m a1 cap1 a2 cap2 g1 a3 cap3 ra rc k)) 71 ∧ Rqs w_ w.heap.size k (cpM m a1 cap1 a2 cap2 g1 a3 cap3 ra rc k) ∧ Below w.heap.size w w_) (fun f _ => (6 - (intOf (f 4)).toNat)) ⟨0, (fun _ => none), (fun _ => 0), by omega, (by rfl), (by rfl), (by first | rfl | exact congrArg (Value.int .i64) (by omega)), m56, m58, m59, m61, m55, m62, m63, b11⟩ ?_
 rintro f1 w11 ⟨k, ra, rc, hk, h1, h2, h3, m64, m65, m66, m67, m68, m69, m70, b12⟩
 refine Fx.W.seq (Fx.W.seq (Fx.W.list (Fx.L.v (.int .i64 ((k : Int))) (x_move rfl h3) ?_)))
 by_cases c57 : (k : Int) < 6
 ·refine Fx.L.v (.bool true) (Fx.x_lssT rfl rfl rfl c57) (Fx.L.nil (Fx.seqN (Fx.W.cond (b := true) rfl (fun _ => Fx.W.skip (Fx.seqN (Fx.W.seq (Fx.W.block ?_)))) (fun h => nomatch h))))
  have brk := h.br k (by omega)
  have m71 := hc.below b12 lp
  -- region 8 draws
  refine Fx.W.reord [0, 1, 2, 3, 4, 5, 6, 8, 9, 10, 11, 12, 15, 16, 7, 13, 14, 17, 18] [0, 0, 0, 0, 0, 0, 0, 4, 0, 0, 0, 0, 0, 4, 2, 0, 0, 0, 3] (Fx.ChT [27]) Fx.ChT.refl Fx.ChT.trans (certs := [(14, 7, [7]), (18, 7, [7]), (14, 13, [13]), (18, 13, [13]), (17, 14, [14]), (18, 14, [14])]) (by kernel_rfl) (by kernel_rfl) (by kernel_rfl) (by kernel_rfl) (by kernel_rfl) fun wt2 hbwt2 hzwt2 => ?_
  have s9 : Fx.Stp w11.heap.size w11 wt2 := Fx.Stp.of_below hbwt2
  have m72 := m64.stp s9 (Nat.ne_of_lt (m64.lt (by omega)))
  have m73 := m65.stp s9 (m65.notNew (Nat.le_refl _))
  have m74 := m66.stp s9 (m66.notNew (Nat.le_refl _))
  have m75 := m67.stp s9 (m67.notNew (Nat.le_refl _))
  have m76 := m68.stp s9 (Nat.ne_of_lt (m68.lt))
  have m77 := m69.stp s9 (Nat.ne_of_lt (m69.lt))
  have m78 := m70.up s9.old
  have m79 := m71.stp s9 (Nat.ne_of_lt (m71.lt (by omega)))
  have b13 := s9.below b12 b12.size b12.size
  refine Fx.R.p (.pointer (some ⟨g2, 0, none⟩)) (fun v1 => x_move rfl h2) (Fx.R.p (.int .i64 ((k : Int))) (fun v1 => x_move rfl h3) (Fx.R.p (.pointer (some ⟨g2, 0, none⟩)) (fun v1 => x_move rfl h2) (Fx.R.p (.int .i64 ((k : Int))) (fun v1 => x_move rfl h3) (Fx.R.p (.pointer (some ⟨g2, 0, none⟩)) (fun v1 => x_nil rfl rfl) (Fx.R.p (.pointer (some ⟨g2, 21, none⟩)) (fun v1 => x_field rfl rfl Try.underlying71 rfl (s := 6) (by kernel_rfl) rfl (by show _ + 21 = _; omega)) (Fx.R.p (.pointer (some ⟨g2, k + 21, none⟩)) (fun v1 => x_index rfl rfl rfl Try.underlying69 (s := 1) (by kernel_rfl) (by omega) (by omega) (by omega)) (Fx.R.p (.pointer (some ⟨p, 0, none⟩)) (fun v1 => x_move rfl h1) (Fx.R.p (.int .i64 ((k : Int))) (fun v1 => x_move rfl h3) (Fx.R.p (.pointer (some ⟨p, 0, none⟩)) (fun v1 => x_nil rfl rfl) (Fx.R.p (.pointer (some ⟨p, 21, none⟩)) (fun v1 => x_field rfl rfl Try.underlying71 rfl (s := 6) (by kernel_rfl) rfl (by show _ + 21 = _; omega)) (Fx.R.p (.pointer (some ⟨p, k + 21, none⟩)) (fun v1 => x_index rfl rfl rfl Try.underlying69 (s := 1) (by kernel_rfl) (by omega) (by omega) (by omega)) (Fx.R.p (.pointer (some ⟨g2, 0, none⟩)) (fun v1 => x_nil rfl rfl) (Fx.R.p (.pointer (some ⟨g2, 21, none⟩)) (fun v1 => x_field rfl rfl Try.underlying71 rfl (s := 6) (by kernel_rfl) rfl (by show _ + 21 = _; omega)) (Fx.R.s (.slice none 0 0) (x_load1 (x := ldY (cpM m a1 cap1 a2 cap2 g1 a3 cap3 ra rc k)) rfl rfl (by kernel_rfl) m77.cel (i := k + 21) (by omega) (by omega) (cpM_nil (by omega))) ?_))))))))))))))
  refine Fx.R.s (.slice (m.ra k) ((m.rn k)) ((m.rc k))) (x_load1 (x := ldY m) rfl rfl (by kernel_rfl) m72 (i := k + 21) (by omega) (by omega) (ldY_req _ (by omega))) ?_
  refine Fx.R.make (by rfl) ?_
  refine Fx.L.appAny (B := w.heap.size) (s := 1) (bytes := 8) (k := 0) (m := (m.rn k)) (v := .slice none 0 0) (x := Fx.rv .u64 (m.rq k)) (by rfl) rfl rfl rfl Try.underlying68 (by kernel_rfl) (by kernel_rfl) rfl rfl (Fx.Own.nil wt2 w.heap.size 27 1 (Fx.rv .u64 (m.rq k))) ((h.ar k (by omega)).up b13 rfl) (fun _ _ => rfl) (by omega) (by omega) b13.size fun vv4 w12 ho4 hg4 hgv4 => ?_
  rw [Nat.zero_add] at ho4
  obtain ⟨a4, cap4, rfl⟩ := ho4.val
  have hct7 := Fx.ChT.of_grown hg4 (Fx.Own.nil wt2 w.heap.size 27 1 (Fx.rv .u64 (m.rq k)))
  have hq3 : Below wt2.heap.size wt2 w12 := ⟨hg4.os, hg4.tape, hg4.output, hg4.size, fun q hq => hg4.block q hq (fun e => by cases e)⟩
  have m81 := m72.stp (Fx.Stp.of_below hq3) (Nat.ne_of_lt (m72.lt (by omega)))
  have m82 := m73.chT hct7 (by decide)
  have m83 := m74.chT hct7 (by decide)
  have m84 := m75.chT hct7 (by decide)
  have m85 := m76.chT hct7 (by decide)
  have m86 := m77.chT hct7 (by decide)
  have hq4 : Below wt2.heap.size wt2 w12 := ⟨hg4.os, hg4.tape, hg4.output, hg4.size, fun q hq => hg4.block q hq (fun e => by cases e)⟩
  have m87 := m78.up hq4
  have hq5 : Below wt2.heap.size wt2 w12 := ⟨hg4.os, hg4.tape, hg4.output, hg4.size, fun q hq => hg4.block q hq (fun e => by cases e)⟩
  have m88 := m79.stp (Fx.Stp.of_below hq5) (Nat.ne_of_lt (m79.lt (by omega)))
  have m80 : Fx.Own w12 w.heap.size 27 1 (.slice a4 ((m.rn k)) (cap4)) (m.rn k) (Fx.rv .u64 (m.rq k)) := (ho4.congr (fun j _ => app0 j))
  have b14 : Below w.heap.size w w12 := Fx.Below.grow b13 hg4 b13.size (fun q hq => ((Fx.Own.nil wt2 w.heap.size 27 1 (Fx.rv .u64 (m.rq k))).ge hq).1)
  have hf1 := m78.fresh hgv4
  refine Fx.L.nil ⟨hct7, ?_⟩
  refine Fx.R.p (.pointer (some ⟨g2, k + 21, none⟩)) (fun v1 => x_index rfl rfl rfl Try.underlying69 (s := 1) (by kernel_rfl) (by omega) (by omega) (by omega)) (Fx.R.eff (by rfl) ?_)
  refine Fx.L.store1 (x := ldY (cpM m a1 cap1 a2 cap2 g1 a3 cap3 ra rc k)) (u := .slice a4 ((m.rn k)) (cap4)) (by rfl) rfl rfl rfl rfl (by rfl) (by kernel_rfl) m86 (i := k + 21) (by omega) fun w13 m89 s10 z6 => ?_
  have m90 := m81.stp s10 (by omega)
  have hct8 := Fx.ChT.of_stp s10 m86.ty
  have m91 := m82.chT hct8 (by decide)
  have m92 := m83.chT hct8 (by decide)
  have m93 := m84.chT hct8 (by decide)
  have m94 := m85.chT hct8 (by decide)
  have m95 := m87.chT hct8 (by decide)
  have m96 := m88.stp s10 (by omega)
  have m97 := m80.chT hct8 (by decide)
  have b15 := s10.below b14 b14.size (by omega)
  refine Fx.L.nil (Fx.R.nil (Fx.blkN (Fx.seqN (Fx.W.list (Fx.L.v (.int .i64 ((k : Int))) (x_move rfl h3) (Fx.L.v (.int .i64 ((k : Int) + 1)) (Fx.x_add rfl rfl rfl (Fx.i64e (by omega) (by omega))) (Fx.L.v (.int .i64 ((k : Int) + 1)) (x_assign rfl rfl) (Fx.L.nil ?_))))))))
  have m98 : Fx.Blk w13 g2 27 (ldY (cpM m a1 cap1 a2 cap2 g1 a3 cap3 (updA ra k a4) (updA rc k cap4) (k + 1))) 71 := m89.to (cpM_step (by omega))
  have m99 : Rqs w13 w.heap.size (k + 1) (cpM m a1 cap1 a2 cap2 g1 a3 cap3 (updA ra k a4) (updA rc k cap4) (k + 1)) := cpM_rqs m95 m97 hf1
  skip
  refine Fx.lpN ⟨k + 1, (updA ra k a4), (updA rc k cap4), by omega, h1, h2, (by first | rfl | exact congrArg (Value.int .i64) (by omega)), m90, m91, m92, m93, m94, m98, m99, b15⟩ ?_
  show (6 - (intOf ((.int .i64 ((k : Int) + 1)))).toNat) < _
  simp only [h3, intOf]; omega
 ·refine Fx.L.v (.bool false) (Fx.x_lssF rfl rfl rfl c57) (Fx.L.nil (Fx.seqN (Fx.W.cond (b := false) rfl (fun h => nomatch h) (fun _ => Fx.W.exit (Fx.seqX (Fx.lpX (Fx.blkX (Fx.seqN (Fx.W.seq (Fx.W.list (Fx.L.v (.pointer (some ⟨g2, 0, none⟩)) (x_move rfl h2) (Fx.L.v (.pointer (some ⟨g2, 0, none⟩)) (x_assign rfl rfl) (Fx.L.nil (Fx.seqN (Fx.W.ret (⟨.pointer (some ⟨g2, 0, none⟩), Fx.retV1 Try.results103 (by exact rfl), ?_⟩))))))))))))))))
  have ek : k = 6 := by omega
  subst ek
  exact ⟨g2, atM m a1 cap1 a2 cap2 g1 a3 cap3 ra rc, rfl, rfl, { c := m69.congr atM_y, n := m65, g := m66, tc := m68, t := m67, r := atM_rqs m70, pB := lg2, tB := lg1, bn := bn1, bg := bg, bt := bt1, br := h.br }, b12⟩
namespace Rt
def ownN (id : Nat → Int) (o : Int) : Nat → Nat
  | 0 => 0
  | n + 1 => ownN id o n + if id n / 1099511627776 = o then 1 else 0
theorem ownN_yes {id : Nat → Int} {o : Int} {c k : Nat} (h : c = ownN id o k) (e : id k / 1099511627776 = o) : c + 1 = ownN id o (k + 1) := by unfold ownN; rw [if_pos e, h]
theorem ownN_no {id : Nat → Int} {o : Int} {c k : Nat} (h : c = ownN id o k) (e : ¬ id k / 1099511627776 = o) : c = ownN id o (k + 1) := by unfold ownN; rw [if_neg e, h]; rfl
noncomputable def makesE (L : LdC) (v : EvM) : Int := if 5 ≤ ownN L.id v.o L.nn ∨ 140737488355328 < v.amt then 6 else addE L.t L.tn (idE v.o v.seq) v.node
def downI (f : Nat → Int) (n : Nat) (x : Int) : Nat := Fx.down (fun i => decide (x < f i)) n
def makesC (L : LdC) (v : EvM) : LdC :=
  { L with nn := L.nn + 1, id := Fx.insI L.id (downI L.id L.nn (idE v.o v.seq)) (idE v.o v.seq), par := Fx.insI L.par (downI L.id L.nn (idE v.o v.seq)) v.node,
           R := Fx.insI L.R (downI L.id L.nn (idE v.o v.seq)) (upd (fun _ => 0) (v.o - 1).toNat v.amt),
           tn := L.tn + 1, t := insT L.t (Fx.down (fun i => decide (idE v.o v.seq < L.t i 0)) L.tn) (idE v.o v.seq) v.node }
theorem nd_start {id par : Int} (j : Nat) : Fx.ovr (Fx.ovr (fun zq => if zq < 2 then .int .u64 (0) else .int .i64 (0)) 0 1 (fun _ => .int .u64 id)) 1 1 (fun _ => .int .u64 par) j = ndY id par (fun _ => 0) j := by
  unfold Fx.ovr ndY
  by_cases h0 : j = 0
  · subst h0; rfl
  · by_cases h1 : j = 1
    · subst h1; rfl
    · rw [if_neg (by omega), if_neg (by omega), if_neg h0, if_neg h1]; show (if j < 2 then _ else _) = _; rw [if_neg (by omega)]
theorem ndY_upd {id par : Int} {R : Nat → Int} {a q : Nat} {x : Int} (hq : q = a + 2) : Fx.updV (ndY id par R) q (.int .i64 x) = ndY id par (upd R a x) := by
  subst hq
  funext p
  unfold Fx.updV ndY upd
  by_cases h : p = a + 2
  · subst h; rw [if_pos rfl, if_neg (by omega), if_neg (by omega), if_pos (by omega)]
  · rw [if_neg h]
    by_cases h0 : p = 0
    · rw [if_pos h0, if_pos h0]
    · by_cases h1 : p = 1
      · rw [if_neg h0, if_pos h1, if_neg h0, if_pos h1]
      · rw [if_neg h0, if_neg h1, if_neg h0, if_neg h1, if_neg (by omega)]
theorem insF_nd {id par : Nat → Int} {R : Nat → Nat → Int} {k : Nat} {a b : Int} {c : Nat → Int} : Fx.insF (fun kq => ndY (id kq) (par kq) (R kq)) k (ndY a b c) = fun kq => ndY (Fx.insI id k a kq) (Fx.insI par k b kq) (Fx.insI R k c kq) := by
  funext i
  unfold Fx.insF Fx.insI
  by_cases h : i < k
  · simp only [if_pos h]
  · by_cases h2 : i = k
    · simp only [if_neg h, if_pos h2]
    · simp only [if_neg h, if_neg h2]
theorem ldY_nodes (m : LdM) (a : Option Addr) (n c : Nat) : Fx.updV (ldY m) 18 (.slice a n c) = ldY { m with s := { m.s with na := a, nn := n, nc := c } } := by
  funext p
  unfold Fx.updV ldY
  by_cases h : p = 18
  · subst h; rfl
  · rw [if_neg h]
    by_cases h2 : p < 20
    · rw [if_pos h2, if_pos h2]; unfold stY
      by_cases h3 : p < 6
      · rw [if_pos h3, if_pos h3]
      · by_cases h4 : p < 12
        · rw [if_neg h3, if_pos h4, if_neg h3, if_pos h4]
        · by_cases h5 : p < 18
          · rw [if_neg h3, if_neg h4, if_pos h5, if_neg h3, if_neg h4, if_pos h5]
          · rw [if_neg h3, if_neg h4, if_neg h5, if_neg h, if_neg h3, if_neg h4, if_neg h5, if_neg h]
    · rw [if_neg h2, if_neg h2]
theorem ovr_one {s : Nat} {z y : Nat → Value} (hy : ∀ j, (y j).oneCell' = true) : ∀ j, j < 1 * s → (Fx.ovr z (0 * s) s y j).oneCell' = true := fun j hj => by
  unfold Fx.ovr; rw [if_pos (by omega)]; exact hy _
theorem gtI_step {f : Nat → Int} {n k j : Nat} {x : Int} (e : k = j + 1) (h : ∀ i, k ≤ i → i < n → x < f i) (hj : x < f j) : ∀ i, j ≤ i → i < n → x < f i := fun i h1 h2 => by
  by_cases e2 : i = j
  · subst e2; exact hj
  · exact h i (by omega) h2
end Rt
theorem Rt.add_room {t : Nat → Nat → Int} {tn : Nat} {id par : Int} (h : addE t tn id par = 0) : tn + 1 ≤ 33 := by
  unfold addE at h
  split at h; · cases h
  split at h; · cases h
  split at h; · cases h
  split at h; · cases h
  rename_i h4
  rcases Nat.lt_or_ge tn 32 with h5 | h5
  · omega
  · exact absurd (Or.inl h5) h4
set_option maxRecDepth 20000 in
set_option maxHeartbeats 2000000 in
theorem l_makes (m : LdM) (B p a D : Nat) (v : EvM) (w : World) (hL : LdO w B p m) (hB : B ≤ w.heap.size) (ha : a < 6) (ho : v.o = (a : Int) + 1) (bnn : m.s.nn ≤ 900) (hD : findT m.t m.tn (iterT m.t m.tn D v.node) < 0) (hD2 : D ≤ 1000) :
    Calls Try.prog 120 #[.pointer (some ⟨p, 0, none⟩), .agg (Fx.varr 14 (evY v))] w fun e w' => e = .returned (.int .i64 (makesE m.core v)) ∧ Below B w w' ∧ (makesE m.core v = 0 → ∃ m', m'.core = makesC m.core v ∧ LdO w' B p m') := by
 have hLc := hL.c
 have hLn := hL.n
 have hLg := hL.g
 have hLt := hL.tc
 have hLtr := hL.t
 have hLr := hL.r
 have hLp := hL.pB
 have hLtb := hL.tB
 have bn := hL.bn
 have bg := hL.bg
 have bt := hL.bt
 have lpp : p < w.heap.size := hLc.lt
 have ltb : m.tb < w.heap.size := hLt.lt
 refine Fx.enter Try.func120 rfl (n := 132) rfl (by rfl) ?_
 refine Fx.W.seq (Fx.W.list (Fx.L.box (m := 14) (y := evY v) (by rfl) rfl rfl (Fx.cells_agg _ _) rfl fun g1 w1 eg1 m1 s1 z1 => ?_))
 have m2 := hLc.stp s1 (Nat.ne_of_lt (hLc.lt))
 have m3 := hLn.stp s1 (hLn.notNew (Nat.le_refl _))
 have m4 := hLg.stp s1 (hLg.notNew (Nat.le_refl _))
 have m5 := hLt.stp s1 (Nat.ne_of_lt (hLt.lt))
 have m6 := hLtr.stp s1 (hLtr.notNew (Nat.le_refl _))
 have m7 := hLr.up s1.old
 have b1 := s1.below (Below.refl B w) (Nat.le_trans hB (Below.refl B w).size) (Nat.le_trans hB (Below.refl B w).size)
 have lg1 : w.heap.size ≤ g1 := by rw [eg1]; exact (Below.refl B w).size
 have ng1m2 : p ≠ g1 := by rw [eg1]; exact Nat.ne_of_lt (hLc.lt)
 have ng1m5 : m.tb ≠ g1 := by rw [eg1]; exact Nat.ne_of_lt (hLt.lt)
 have tg1 : g1 < w1.heap.size := m1.lt
 clear eg1
 refine Fx.L.v (.int .i64 (0)) (x_assign rfl rfl) (Fx.L.nil (Fx.seqN (Fx.W.seq (Fx.W.list (Fx.L.v (.int .i64 (0)) (x_assign rfl rfl) (Fx.L.nil (Fx.seqN (Fx.W.seq (Fx.W.seq (Fx.W.list (Fx.L.v (.int .i64 (0)) (x_assign rfl rfl) (Fx.L.nil (Fx.seqN (Fx.W.block (Fx.W.loop (fun f w_ => ∃ k : Nat, ∃ cn : Nat, k ≤ m.s.nn ∧ cn ≤ k ∧ cn = ownN m.id v.o k ∧ f 0 = .pointer (some ⟨p, 0, none⟩) ∧ f 3 = .pointer (some ⟨g1, 0, none⟩) ∧ f 5 = .int .i64 ((cn : Int)) ∧ f 6 = .int .i64 ((k : Int)) ∧ Fx.Blk w_ p 27 (ldY m) 71 ∧ Fx.Own w_ B 50 56 (.slice m.s.na (m.s.nn) (m.s.nc)) m.s.nn (ndX m) ∧ Fx.Own w_ B 88 5 (.slice m.s.ga (m.s.gn) (m.s.gc)) m.s.gn (grX m) ∧ Fx.Blk w_ m.tb 1 (fun _ => .slice m.ta m.tn m.tc) 163 ∧ Fx.Own w_ B 178 2 (.slice m.ta (m.tn) (m.tc)) m.tn (trX m.t) ∧ Rqs w_ B 6 m ∧ Fx.Blk w_ g1 14 (evY v) 54 ∧ Below B w w_) (fun f _ => (m.s.nn - (intOf (f 6)).toNat)) ⟨0, 0, by omega, by omega, rfl, (by rfl), (by rfl), (by first | rfl | exact congrArg (Value.int .i64) (by omega)), (by first | rfl | exact congrArg (Value.int .i64) (by omega)), m2, m3, m4, m5, m6, m7, m1, b1⟩ ?_)))))))))))))))
 rintro f1 w2 ⟨k, cn, hk, hcl, hcn, h1, h2, h3, h4, m8, m9, m10, m11, m12, m13, m14, b2⟩
 refine Fx.W.seq (Fx.W.seq (Fx.W.list (Fx.L.v (.int .i64 ((k : Int))) (x_move rfl h4) (Fx.L.v (.pointer (some ⟨p, 0, none⟩)) (x_move rfl h1) (Fx.L.v (.pointer (some ⟨p, 0, none⟩)) (x_nil rfl rfl) (Fx.L.v (.pointer (some ⟨p, 0, none⟩)) (x_field rfl rfl Try.underlying71 rfl (s := 20) (by kernel_rfl) rfl rfl) (Fx.L.v (.pointer (some ⟨p, 18, none⟩)) (x_field rfl rfl Try.underlying43 rfl (s := 1) (by kernel_rfl) rfl (by show _ + 18 = _; omega)) (Fx.L.v (.slice m.s.na (m.s.nn) (m.s.nc)) (x_load1 (x := ldY m) rfl rfl (by kernel_rfl) m8.cel (i := 18) (by omega) (by omega) rfl) (Fx.L.v (.int .i64 ((m.s.nn : Int))) (x_len rfl rfl rfl (by kernel_rfl)) ?_)))))))))
 by_cases c18 : (k : Int) < (m.s.nn : Int)
 ·refine Fx.L.v (.bool true) (Fx.x_lssT rfl rfl rfl c18) (Fx.L.nil (Fx.seqN (Fx.W.cond (b := true) rfl (fun _ => Fx.W.skip (Fx.seqN (Fx.W.seq (Fx.W.block (Fx.W.seq ?_))))) (fun h => nomatch h))))
  -- region 5 draws
  refine Fx.W.quiet (fun v1 => ∃ q, v1 = World.drewN w2 q) (by kernel_rfl) (by kernel_rfl) ⟨1, rfl⟩ ?_
  refine Fx.Qt.v (.pointer (some ⟨p, 0, none⟩)) (fun v1 hv1 => x_move rfl h1) (Fx.Qt.v (.pointer (some ⟨p, 0, none⟩)) (fun v1 hv1 => x_nil rfl rfl) (Fx.Qt.v (.pointer (some ⟨p, 0, none⟩)) (fun v1 hv1 => x_field rfl rfl Try.underlying71 rfl (s := 20) (by kernel_rfl) rfl rfl) (Fx.Qt.v (.pointer (some ⟨p, 18, none⟩)) (fun v1 hv1 => x_field rfl rfl Try.underlying43 rfl (s := 1) (by kernel_rfl) rfl (by show _ + 18 = _; omega)) (Fx.Qt.v (.slice m.s.na (m.s.nn) (m.s.nc)) (fun v1 hv1 => x_load1 (x := ldY m) rfl rfl (by kernel_rfl) (by obtain ⟨qd, rfl⟩ := hv1; exact m8.cel) (i := 18) (by omega) (by omega) rfl) (Fx.Qt.v (.int .i64 ((k : Int))) (fun v1 hv1 => x_move rfl h4) ?_)))))
  obtain ⟨gq1, eq1⟩ := m9.addr (by omega)
  have m15 : Fx.Own w2 B 50 56 (.slice (some ⟨gq1, 0, none⟩) m.s.nn m.s.nc) m.s.nn (ndX m) := m9.congV (congrArg (fun q => Value.slice q m.s.nn m.s.nc) eq1)
  refine Fx.Qt.v (.pointer (some ⟨gq1, 56 * k, none⟩)) (fun v1 hv1 => x_indexS rfl (rfl.trans (congrArg (fun q => Value.slice q (m.s.nn) (m.s.nc)) eq1)) rfl Try.underlying40 (s := 56) (by kernel_rfl) (by omega) (by omega) (by omega)) (Fx.Qt.v (.pointer (some ⟨gq1, 56 * k, none⟩)) (fun v1 hv1 => x_field rfl rfl Try.underlying50 rfl (s := 1) (by kernel_rfl) rfl rfl) (Fx.Qt.v (.int .u64 (m.id k)) (fun v1 hv1 => x_load1 (x := ndX m) rfl rfl (by kernel_rfl) (by obtain ⟨qd, rfl⟩ := hv1; exact m15.cel) (i := 56 * k) (by omega) (by omega) (Fx.flat_cell (k := k) (j := 0) (by omega) (by omega) rfl)) (Fx.Qt.v (.int .u64 ((m.id k) / 1099511627776)) (fun v1 hv1 => Fx.x_shr (b := 40) (q := 1099511627776) rfl rfl rfl (by decide) (by decide)) (Fx.Qt.v (.pointer (some ⟨g1, 0, none⟩)) (fun v1 hv1 => x_field rfl h2 Try.underlying54 rfl (s := 1) (by kernel_rfl) rfl rfl) (Fx.Qt.v (.int .i64 (v.o)) (fun v1 hv1 => x_load1 (x := evY v) rfl rfl (by kernel_rfl) (by obtain ⟨qd, rfl⟩ := hv1; exact m14.cel) (i := 0) (by omega) (by omega) rfl) (Fx.Qt.v (.int .u64 (v.o)) (fun v1 hv1 => x_conv rfl rfl (by kernel_rfl) Try.underlying27 (Fx.u64e (by omega) rfl)) ?_))))))
  by_cases c34 : ((m.id k) / 1099511627776) = v.o
  ·refine Fx.Qt.v (.bool true) (fun v1 hv1 => x_eqlT rfl rfl rfl c34) (Fx.Qt.nil ?_)
   rintro _ ⟨qd, rfl⟩
   obtain ⟨wq1, ewq1⟩ : ∃ v1, v1 = World.drewN w2 qd := ⟨_, rfl⟩
   rw [← ewq1]
   have s2 : Fx.Stp w2.heap.size w2 wq1 := by rw [ewq1]; exact Fx.Stp.of_below (bdrN w2 qd)
   have m16 := m8.stp s2 (Nat.ne_of_lt (m8.lt))
   have m17 := m10.stp s2 (m10.notNew (Nat.le_refl _))
   have m18 := m11.stp s2 (Nat.ne_of_lt (m11.lt))
   have m19 := m12.stp s2 (m12.notNew (Nat.le_refl _))
   have m20 := m13.up s2.old
   have m21 := m14.stp s2 (Nat.ne_of_lt (m14.lt))
   have m22 := m15.stpB s2 (Nat.ne_of_lt (m15.lt))
   have b3 := s2.below b2 (Nat.le_trans hB b2.size) (Nat.le_trans hB b2.size)
   clear ewq1
   refine Fx.seqN (Fx.W.cond (b := true) rfl (fun _ => Fx.W.list (Fx.L.v (.int .i64 ((cn : Int))) (x_move rfl h3) ?_)) (fun h => nomatch h))
   refine Fx.L.v (.int .i64 ((cn : Int) + 1)) (Fx.x_add rfl rfl rfl (Fx.i64e (by omega) (by omega))) (Fx.L.v (.int .i64 ((cn : Int) + 1)) (x_assign rfl rfl) (Fx.L.nil (Fx.blkN (Fx.seqN (Fx.W.list (Fx.L.v (.int .i64 ((k : Int))) (x_move rfl h4) (Fx.L.v (.int .i64 ((k : Int) + 1)) (Fx.x_add rfl rfl rfl (Fx.i64e (by omega) (by omega))) (Fx.L.v (.int .i64 ((k : Int) + 1)) (x_assign rfl rfl) (Fx.L.nil ?_)))))))))
   have m23 : Fx.Own wq1 B 50 56 (.slice m.s.na (m.s.nn) (m.s.nc)) m.s.nn (ndX m) := m22.congV (congrArg (fun q => Value.slice q m.s.nn m.s.nc) eq1.symm)
   refine Fx.lpN ⟨k + 1, cn + 1, by omega, by omega, (ownN_yes hcn c34), h1, h2, (by first | rfl | exact congrArg (Value.int .i64) (by omega)), (by first | rfl | exact congrArg (Value.int .i64) (by omega)), m16, m23, m17, m18, m19, m20, m21, b3⟩ ?_
   show (m.s.nn - (intOf ((.int .i64 ((k : Int) + 1)))).toNat) < _
   simp only [h4, intOf]; omega
  ·refine Fx.Qt.v (.bool false) (fun v1 hv1 => x_eqlF rfl rfl rfl c34) (Fx.Qt.nil ?_)
   rintro _ ⟨qd, rfl⟩
   obtain ⟨wq2, ewq2⟩ : ∃ v1, v1 = World.drewN w2 qd := ⟨_, rfl⟩
   rw [← ewq2]
   have s3 : Fx.Stp w2.heap.size w2 wq2 := by rw [ewq2]; exact Fx.Stp.of_below (bdrN w2 qd)
   have m24 := m8.stp s3 (Nat.ne_of_lt (m8.lt))
   have m25 := m10.stp s3 (m10.notNew (Nat.le_refl _))
   have m26 := m11.stp s3 (Nat.ne_of_lt (m11.lt))
   have m27 := m12.stp s3 (m12.notNew (Nat.le_refl _))
   have m28 := m13.up s3.old
   have m29 := m14.stp s3 (Nat.ne_of_lt (m14.lt))
   have m30 := m15.stpB s3 (Nat.ne_of_lt (m15.lt))
   have b4 := s3.below b2 (Nat.le_trans hB b2.size) (Nat.le_trans hB b2.size)
   clear ewq2
   refine Fx.seqN (Fx.W.cond (b := false) rfl (fun h => nomatch h) (fun _ => Fx.W.skip (Fx.blkN (Fx.seqN (Fx.W.list (Fx.L.v (.int .i64 ((k : Int))) (x_move rfl h4) (Fx.L.v (.int .i64 ((k : Int) + 1)) (Fx.x_add rfl rfl rfl (Fx.i64e (by omega) (by omega))) (Fx.L.v (.int .i64 ((k : Int) + 1)) (x_assign rfl rfl) (Fx.L.nil ?_)))))))))
   have m31 : Fx.Own wq2 B 50 56 (.slice m.s.na (m.s.nn) (m.s.nc)) m.s.nn (ndX m) := m30.congV (congrArg (fun q => Value.slice q m.s.nn m.s.nc) eq1.symm)
   refine Fx.lpN ⟨k + 1, cn, by omega, by omega, (ownN_no hcn c34), h1, h2, (h3.trans (by first | rfl | exact congrArg (Value.int .i64) (by omega))), (by first | rfl | exact congrArg (Value.int .i64) (by omega)), m24, m31, m25, m26, m27, m28, m29, b4⟩ ?_
   show (m.s.nn - (intOf ((.int .i64 ((k : Int) + 1)))).toNat) < _
   simp only [h4, intOf]; omega
 ·refine Fx.L.v (.bool false) (Fx.x_lssF rfl rfl rfl c18) (Fx.L.nil (Fx.seqN (Fx.W.cond (b := false) rfl (fun h => nomatch h) (fun _ => Fx.W.exit (Fx.seqX (Fx.lpX (Fx.blkX (Fx.seqN (Fx.W.seq (Fx.W.seq (Fx.W.list (Fx.L.v (.int .i64 ((cn : Int))) (x_move rfl h3) ?_))))))))))))
  by_cases c38 : 5 ≤ (cn : Int)
  ·refine Fx.L.v (.bool true) (Fx.x_geqT rfl rfl rfl c38) (Fx.L.v (.bool true) (x_move rfl rfl) (Fx.L.skip (by rfl) rfl (Fx.L.skip (by rfl) rfl (Fx.L.skip (by rfl) rfl (Fx.L.v (.bool true) (x_pickT rfl rfl rfl) (Fx.L.nil (Fx.seqN (Fx.W.cond (b := true) rfl (fun _ => Fx.W.seq (Fx.W.list (Fx.L.v (.int .i64 (6)) (x_assign rfl rfl) ?_))) (fun h => nomatch h)))))))))
   refine Fx.L.nil (Fx.seqN (Fx.W.ret (Fx.seqR (⟨.int .i64 (6), Fx.retV1 Try.results120 (by exact rfl), ?_⟩))))
   have ek : k = m.s.nn := by omega
   subst ek
   have ee : makesE m.core v = 6 := if_pos (.inl (by rw [show ownN m.core.id v.o m.core.nn = cn from hcn.symm]; omega))
   exact ⟨congrArg (fun q => Ending.returned (Value.int .i64 q)) ee.symm, b2, fun h0 => by rw [ee] at h0; cases h0⟩
  ·refine Fx.L.v (.bool false) (Fx.x_geqF rfl rfl rfl c38) (Fx.L.v (.bool false) (x_move rfl rfl) (Fx.L.v (.pointer (some ⟨g1, 11, none⟩)) (x_field rfl h2 Try.underlying54 rfl (s := 1) (by kernel_rfl) rfl (by show _ + 11 = _; omega)) (Fx.L.v (.int .i64 (v.amt)) (x_load1 (x := evY v) rfl rfl (by kernel_rfl) m14.cel (i := 11) (by omega) (by omega) rfl) ?_)))
   by_cases c42 : 140737488355328 < v.amt
   ·refine Fx.L.v (.bool true) (Fx.x_gtrT rfl rfl rfl c42) (Fx.L.v (.bool true) (x_pickF rfl rfl rfl) (Fx.L.nil (Fx.seqN (Fx.W.cond (b := true) rfl (fun _ => Fx.W.seq (Fx.W.list (Fx.L.v (.int .i64 (6)) (x_assign rfl rfl) ?_))) (fun h => nomatch h)))))
    refine Fx.L.nil (Fx.seqN (Fx.W.ret (Fx.seqR (⟨.int .i64 (6), Fx.retV1 Try.results120 (by exact rfl), ?_⟩))))
    have ek : k = m.s.nn := by omega
    subst ek
    have ee : makesE m.core v = 6 := if_pos (.inr (by omega))
    exact ⟨congrArg (fun q => Ending.returned (Value.int .i64 q)) ee.symm, b2, fun h0 => by rw [ee] at h0; cases h0⟩
   ·refine Fx.L.v (.bool false) (x_gtrF rfl rfl rfl c42) (Fx.L.v (.bool false) (x_pickF rfl rfl rfl) (Fx.L.nil (Fx.seqN (Fx.W.cond (b := false) rfl (fun h => nomatch h) (fun _ => Fx.W.skip (Fx.seqN (Fx.W.seq (Fx.W.list (Fx.L.v (.pointer (some ⟨g1, 0, none⟩)) (x_field rfl h2 Try.underlying54 rfl (s := 1) (by kernel_rfl) rfl rfl) (Fx.L.v (.int .i64 (v.o)) (x_load1 (x := evY v) rfl rfl (by kernel_rfl) m14.cel (i := 0) (by omega) (by omega) rfl) (Fx.L.v (.pointer (some ⟨g1, 1, none⟩)) (x_field rfl h2 Try.underlying54 rfl (s := 1) (by kernel_rfl) rfl (by show _ + 1 = _; omega)) (Fx.L.v (.int .u64 (v.seq)) (x_load1 (x := evY v) rfl rfl (by kernel_rfl) m14.cel (i := 1) (by omega) (by omega) rfl) (Fx.L.call (by rfl) (Fx.r_call (args := [.int .i64 (v.o), .int .u64 (v.seq)]) rfl rfl Try.func127 rfl rfl) rfl ((e_id v.o v.seq _).mono ?_))))))))))))))
    rintro e v1 ⟨he, hv1⟩
    subst v1
    refine ⟨.int .u64 (idE v.o v.seq), by rw [he], ?_⟩
    clear he
    refine Fx.L.v (.int .u64 (idE v.o v.seq)) (x_assign rfl rfl) (Fx.L.nil (Fx.seqN (Fx.W.seq ?_)))
    -- region 10 draws
    refine Fx.W.reord [0, 1, 2, 4, 5, 3, 6, 7, 8] [0, 0, 0, 4, 0, 0, 4, 3, 0] Fx.Mk Fx.Mk.refl Fx.Mk.trans (certs := [(7, 3, [3]), (7, 6, [6]), (8, 7, [7])]) (by kernel_rfl) (by kernel_rfl) (by kernel_rfl) (by kernel_rfl) (by kernel_rfl) fun wt1 hbwt1 hzwt1 => ?_
    have s4 : Fx.Stp w2.heap.size w2 wt1 := Fx.Stp.of_below hbwt1
    have m32 := m8.stp s4 (Nat.ne_of_lt (m8.lt))
    have m33 := m9.stp s4 (m9.notNew (Nat.le_refl _))
    have m34 := m10.stp s4 (m10.notNew (Nat.le_refl _))
    have m35 := m11.stp s4 (Nat.ne_of_lt (m11.lt))
    have m36 := m12.stp s4 (m12.notNew (Nat.le_refl _))
    have m37 := m13.up s4.old
    have m38 := m14.stp s4 (Nat.ne_of_lt (m14.lt))
    have b5 := s4.below b2 (Nat.le_trans hB b2.size) (Nat.le_trans hB b2.size)
    refine Fx.R.p (.pointer (some ⟨p, 0, none⟩)) (fun v1 => x_move rfl h1) (Fx.R.p (.pointer (some ⟨p, 0, none⟩)) (fun v1 => x_nil rfl rfl) (Fx.R.p (.pointer (some ⟨p, 20, none⟩)) (fun v1 => x_field rfl rfl Try.underlying71 rfl (s := 1) (by kernel_rfl) rfl (by show _ + 20 = _; omega)) (Fx.R.p (.int .u64 (idE v.o v.seq)) (fun v1 => x_move rfl rfl) (Fx.R.p (.pointer (some ⟨g1, 9, none⟩)) (fun v1 => x_field rfl h2 Try.underlying54 rfl (s := 1) (by kernel_rfl) rfl (by show _ + 9 = _; omega)) (Fx.R.s (.pointer (some ⟨m.tb, 0, none⟩)) (x_load1 (x := ldY m) rfl rfl (by kernel_rfl) m32.cel (i := 20) (by omega) (by omega) rfl) ?_)))))
    refine Fx.R.s (.int .u64 (v.node)) (x_load1 (x := evY v) rfl rfl (by kernel_rfl) m38.cel (i := 9) (by omega) (by omega) rfl) ?_
    refine Fx.R.eff (by rfl) ?_
    refine Fx.L.call (by rfl) (Fx.r_call (args := [.pointer (some ⟨m.tb, 0, none⟩), .int .u64 (idE v.o v.seq), .int .u64 (v.node)]) rfl rfl Try.func128 rfl rfl) rfl ((l_add B m.tb m.ta m.tn m.tc m.t (idE v.o v.seq) v.node D _ m35 m36 (fun e => Fx.Ty.ne (m36.ty e) m35.ty (by decide) rfl) (Nat.le_trans hB b5.size) bt hD hD2).mono ?_)
    rintro e w3 ⟨he, hch1, hcs1⟩
    refine ⟨.int .i64 (addE m.t m.tn (idE v.o v.seq) v.node), he, ?_⟩
    clear he
    have hc1 : Fx.ChT [163, 178] wt1 w3 := Fx.ChT.of_chg hch1 (by rintro k (rfl | e) <;> first | exact ⟨_, m35.ty, by decide⟩ | exact ⟨_, m36.ty e, by decide⟩)
    have m39 : Fx.Blk w3 p 27 (ldY m) 71 := m32.chT hc1 (by decide)
    have m40 : Fx.Own w3 B 50 56 (.slice m.s.na (m.s.nn) (m.s.nc)) m.s.nn (ndX m) := m33.chT hc1 (by decide)
    have m41 : Fx.Own w3 B 88 5 (.slice m.s.ga (m.s.gn) (m.s.gc)) m.s.gn (grX m) := m34.chT hc1 (by decide)
    have m42 : Rqs w3 B 6 m := m37.chT hc1 (by decide)
    have m43 : Fx.Blk w3 g1 14 (evY v) 54 := m38.chT hc1 (by decide)
    have b6 : Below B w w3 := Fx.Chg.below b5 hch1 (by rintro k (rfl | e) <;> first | exact hLtb | exact (m36.ge e).1) (Nat.le_trans hB b5.size)
    rcases hcs1 with ⟨hc0, hT1, hO1⟩ | ⟨hc0, g9, cap9, hT1, hO1, hne1⟩
    ·refine Fx.L.nil (Fx.R.p (.int .i64 (addE m.t m.tn (idE v.o v.seq) v.node)) (fun v1 => x_assign rfl rfl) (Fx.R.nil (Fx.seqN (Fx.W.seq (Fx.W.seq (Fx.W.list (Fx.L.v (.int .i64 (addE m.t m.tn (idE v.o v.seq) v.node)) (x_move rfl rfl) ?_)))))))
     refine Fx.L.v (.bool true) (Fx.x_neqT rfl rfl rfl hc0) (Fx.L.nil (Fx.seqN (Fx.W.cond (b := true) rfl (fun _ => Fx.W.seq (Fx.W.list (Fx.L.v (.int .i64 (addE m.t m.tn (idE v.o v.seq) v.node)) (x_move rfl rfl) ?_))) (fun h => nomatch h))))
     refine Fx.L.v (.int .i64 (addE m.t m.tn (idE v.o v.seq) v.node)) (x_assign rfl rfl) (Fx.L.nil (Fx.seqN (Fx.W.ret (Fx.seqR (⟨.int .i64 (addE m.t m.tn (idE v.o v.seq) v.node), Fx.retV1 Try.results120 (by exact rfl), ?_⟩)))))
     have ek : k = m.s.nn := by omega
     subst ek
     have ee : makesE m.core v = addE m.t m.tn (idE v.o v.seq) v.node := if_neg (fun h => h.elim (fun h => by rw [show ownN m.core.id v.o m.core.nn = cn from hcn.symm] at h; omega) (fun h => by omega))
     exact ⟨congrArg (fun q => Ending.returned (Value.int .i64 q)) ee.symm, b6, fun h0 => absurd (ee.symm.trans h0) hc0⟩
    ·refine Fx.L.nil (Fx.R.p (.int .i64 (addE m.t m.tn (idE v.o v.seq) v.node)) (fun v1 => x_assign rfl rfl) (Fx.R.nil (Fx.seqN (Fx.W.seq (Fx.W.seq (Fx.W.list (Fx.L.v (.int .i64 (addE m.t m.tn (idE v.o v.seq) v.node)) (x_move rfl rfl) ?_)))))))
     refine Fx.L.v (.bool false) (Fx.x_neqF rfl rfl rfl hc0) (Fx.L.nil (Fx.seqN (Fx.W.cond (b := false) rfl (fun h => nomatch h) (fun _ => Fx.W.skip (Fx.seqN (Fx.W.seq (Fx.W.list (Fx.L.v (.int .u64 (idE v.o v.seq)) (x_move rfl rfl) (Fx.L.v (.pointer (some ⟨g1, 9, none⟩)) (x_field rfl h2 Try.underlying54 rfl (s := 1) (by kernel_rfl) rfl (by show _ + 9 = _; omega)) (Fx.L.v (.int .u64 (v.node)) (x_load1 (x := evY v) rfl rfl (by kernel_rfl) m43.cel (i := 9) (by omega) (by omega) rfl) (Fx.L.v (.agg (Fx.varr 56 (Fx.ovr (Fx.ovr (fun zq => if zq < 2 then .int .u64 (0) else .int .i64 (0)) 0 1 (fun _ => .int .u64 (idE v.o v.seq))) 1 1 (fun _ => .int .u64 (v.node))))) (x_build (vs := [(0, .int .u64 (idE v.o v.seq)), (1, .int .u64 (v.node))]) (places := #[(0, 1), (1, 1), (2, 54)]) (m := 56) (x := fun zq => if zq < 2 then .int .u64 (0) else .int .i64 (0)) rfl rfl Try.underlying50 (by kernel_rfl) (by kernel_rfl) (by rw [Fx.fill_step (off := 0) (s := 1) (y := fun _ => .int .u64 (idE v.o v.seq)) (by kernel_rfl) (Fx.cells_one (by rfl)) (by rfl)]; rw [Fx.fill_step (off := 1) (s := 1) (y := fun _ => .int .u64 (v.node)) (by kernel_rfl) (Fx.cells_one (by rfl)) (by rfl)]; rfl)) (Fx.L.new (m := 56) (y := fun zq => if zq < 2 then .int .u64 (0) else .int .i64 (0)) (by rfl) rfl (by kernel_rfl) rfl fun g2 w4 eg2 m44 s5 z2 => ?_))))))))))))
     have m45 := m39.stp s5 (Nat.ne_of_lt (m39.lt))
     have m46 := m40.stp s5 (m40.notNew (Nat.le_refl _))
     have m47 := m41.stp s5 (m41.notNew (Nat.le_refl _))
     have m48 := m42.up s5.old
     have m49 := m43.stp s5 (Nat.ne_of_lt (m43.lt))
     have m50 := hT1.stp s5 (Nat.ne_of_lt (hT1.lt))
     have m51 := hO1.stpB s5 (Nat.ne_of_lt (hO1.lt))
     have b7 := s5.below b6 (Nat.le_trans hB b6.size) (Nat.le_trans hB b6.size)
     have lg2 : w.heap.size ≤ g2 := by rw [eg2]; exact b6.size
     have ng2m45 : p ≠ g2 := by rw [eg2]; exact Nat.ne_of_lt (m39.lt)
     have ng2m46 : (.slice m.s.na (m.s.nn) (m.s.nc) : Value).ownBlock ≠ some g2 := by rw [eg2]; exact m40.notNew (Nat.le_refl _)
     have ng2m49 : g1 ≠ g2 := by rw [eg2]; exact Nat.ne_of_lt (m43.lt)
     have ng2m50 : m.tb ≠ g2 := by rw [eg2]; exact Nat.ne_of_lt (hT1.lt)
     have ng2m51 : g9 ≠ g2 := by rw [eg2]; exact Nat.ne_of_lt (hO1.lt)
     have tg2 : g2 < w4.heap.size := m44.lt
     clear eg2
     refine Fx.L.storeA (x := fun zq => if zq < 2 then .int .u64 (0) else .int .i64 (0)) (y := Fx.ovr (Fx.ovr (fun zq => if zq < 2 then .int .u64 (0) else .int .i64 (0)) 0 1 (fun _ => .int .u64 (idE v.o v.seq))) 1 1 (fun _ => .int .u64 (v.node))) (by rfl) rfl rfl rfl rfl (Fx.ovr_ones (Fx.ovr_ones (fun jq _ => by show ((fun zq => if zq < 2 then .int .u64 (0) else .int .i64 (0) : Nat → Value) jq).oneCell' = true; simp only []; repeat (first | rfl | split)) (fun _ _ => rfl)) (fun _ _ => rfl)) (by kernel_rfl) m44 (i := 0) (by omega) fun w5 m52 s6 z3 => ?_
     have m53 : Fx.Blk w5 g2 56 (Fx.ovr (Fx.ovr (fun zq => if zq < 2 then .int .u64 (0) else .int .i64 (0)) 0 1 (fun _ => .int .u64 (idE v.o v.seq))) 1 1 (fun _ => .int .u64 (v.node))) 50 := Fx.ovr_all m52
     have hct1 := Fx.ChT.of_stp s6 m44.ty
     have m54 := m45.chT hct1 (by decide)
     have m55 := m46.stp s6 ng2m46
     have m56 := m47.chT hct1 (by decide)
     have m57 := m48.chT hct1 (by decide)
     have m58 := m49.chT hct1 (by decide)
     have m59 := m50.chT hct1 (by decide)
     have m60 := m51.chT hct1 (by decide)
     have b8 := s6.below b7 (Nat.le_trans hB b7.size) (by omega)
     refine Fx.L.nil (Fx.seqN (Fx.W.seq ?_))
     have m61 : Fx.Blk w5 g2 56 (ndY (idE v.o v.seq) v.node (fun _ => 0)) 50 := m53.congr (fun j hj => nd_start j)
     refine Fx.W.list (Fx.L.v (.pointer (some ⟨g1, 0, none⟩)) (x_field rfl h2 Try.underlying54 rfl (s := 1) (by kernel_rfl) rfl rfl) (Fx.L.v (.int .i64 (v.o)) (x_load1 (x := evY v) rfl rfl (by kernel_rfl) m58.cel (i := 0) (by omega) (by omega) rfl) (Fx.L.v (.int .i64 ((a : Int))) (Fx.x_sub rfl rfl rfl (Fx.i64e (by omega) (by omega))) (Fx.L.v (.pointer (some ⟨g1, 11, none⟩)) (x_field rfl h2 Try.underlying54 rfl (s := 1) (by kernel_rfl) rfl (by show _ + 11 = _; omega)) (Fx.L.v (.int .i64 (v.amt)) (x_load1 (x := evY v) rfl rfl (by kernel_rfl) m58.cel (i := 11) (by omega) (by omega) rfl) (Fx.L.v (.pointer (some ⟨g2, 2, none⟩)) (x_field rfl rfl Try.underlying50 rfl (s := 54) (by kernel_rfl) rfl (by show _ + 2 = _; omega)) (Fx.L.v (.pointer (some ⟨g2, 2, none⟩)) (x_field rfl rfl Try.underlying48 rfl (s := 6) (by kernel_rfl) rfl rfl) (Fx.L.v (.pointer (some ⟨g2, a + 2, none⟩)) (x_index rfl rfl rfl Try.underlying45 (s := 1) (by kernel_rfl) (by omega) (by omega) (by omega)) (Fx.L.store1 (x := ndY (idE v.o v.seq) v.node (fun _ => 0)) (u := .int .i64 (v.amt)) (by rfl) rfl rfl rfl rfl (by rfl) (by kernel_rfl) m61 (i := a + 2) (by omega) fun w6 m62 s7 z4 => ?_)))))))))
     have m63 : Fx.Blk w6 g2 56 (ndY (idE v.o v.seq) v.node (upd (fun _ => 0) a v.amt)) 50 := m62.to (ndY_upd (by omega))
     have hct2 := Fx.ChT.of_stp s7 m61.ty
     have m64 := m54.chT hct2 (by decide)
     have m65 := m55.stp s7 ng2m46
     have m66 := m56.chT hct2 (by decide)
     have m67 := m57.chT hct2 (by decide)
     have m68 := m58.chT hct2 (by decide)
     have m69 := m59.chT hct2 (by decide)
     have m70 := m60.chT hct2 (by decide)
     have b9 := s7.below b8 (Nat.le_trans hB b8.size) (by omega)
     refine Fx.L.nil (Fx.seqN (Fx.W.seq ?_))
     have ek0 : k = m.s.nn := by omega
     obtain ⟨cn0, hcn0, hc38⟩ : ∃ cn0, cn0 = ownN m.id v.o m.s.nn ∧ ¬ (5 : Int) ≤ (cn0 : Int) := ⟨cn, by rw [← ek0]; exact hcn, c38⟩
     clear hcn hcl ek0
     refine Fx.W.list (Fx.L.v (.pointer (some ⟨p, 0, none⟩)) (x_move rfl h1) (Fx.L.v (.pointer (some ⟨p, 0, none⟩)) (x_nil rfl rfl) (Fx.L.v (.pointer (some ⟨p, 0, none⟩)) (x_field rfl rfl Try.underlying71 rfl (s := 20) (by kernel_rfl) rfl rfl) (Fx.L.v (.pointer (some ⟨p, 18, none⟩)) (x_field rfl rfl Try.underlying43 rfl (s := 1) (by kernel_rfl) rfl (by show _ + 18 = _; omega)) (Fx.L.v (.slice m.s.na (m.s.nn) (m.s.nc)) (x_load1 (x := ldY m) rfl rfl (by kernel_rfl) m64.cel (i := 18) (by omega) (by omega) rfl) (Fx.L.v (.int .i64 ((m.s.nn : Int))) (x_len rfl rfl rfl (by kernel_rfl)) (Fx.L.v (.int .i64 ((m.s.nn : Int))) (x_assign rfl rfl) (Fx.L.nil (Fx.seqN (Fx.W.seq ?_))))))))))
     -- region 16 draws
     refine Fx.W.reord [0, 1, 2, 3, 4, 5, 6, 7, 8, 9, 10, 11, 12] [0, 0, 0, 0, 0, 1, 4, 2, 2, 0, 0, 0, 3] (Fx.ChT [50]) Fx.ChT.refl Fx.ChT.trans (certs := [(12, 5, [5]), (7, 6, [6]), (8, 6, [7, 6]), (12, 6, [6]), (8, 7, [7]), (9, 7, [7]), (10, 7, [7]), (11, 7, [7]), (12, 7, [7]), (9, 8, [8]), (10, 8, [8]), (11, 8, [8]), (12, 8, [8])]) (by kernel_rfl) (by kernel_rfl) (by kernel_rfl) (by kernel_rfl) (by kernel_rfl) fun wt2 hbwt2 hzwt2 => ?_
     have s8 : Fx.Stp w6.heap.size w6 wt2 := Fx.Stp.of_below hbwt2
     have m71 := m64.stp s8 (Nat.ne_of_lt (m64.lt))
     have m72 := m65.stp s8 (m65.notNew (Nat.le_refl _))
     have m73 := m66.stp s8 (m66.notNew (Nat.le_refl _))
     have m74 := m67.up s8.old
     have m75 := m68.stp s8 (Nat.ne_of_lt (m68.lt))
     have m76 := m69.stp s8 (Nat.ne_of_lt (m69.lt))
     have m77 := m70.stpB s8 (Nat.ne_of_lt (m70.lt))
     have m78 := m63.stp s8 (Nat.ne_of_lt (m63.lt))
     have b10 := s8.below b9 (Nat.le_trans hB b9.size) (Nat.le_trans hB b9.size)
     refine Fx.R.p (.pointer (some ⟨p, 0, none⟩)) (fun v1 => x_move rfl h1) (Fx.R.p (.pointer (some ⟨p, 0, none⟩)) (fun v1 => x_move rfl h1) (Fx.R.p (.pointer (some ⟨p, 0, none⟩)) (fun v1 => x_nil rfl rfl) (Fx.R.p (.pointer (some ⟨p, 0, none⟩)) (fun v1 => x_field rfl rfl Try.underlying71 rfl (s := 20) (by kernel_rfl) rfl rfl) (Fx.R.p (.pointer (some ⟨p, 18, none⟩)) (fun v1 => x_field rfl rfl Try.underlying43 rfl (s := 1) (by kernel_rfl) rfl (by show _ + 18 = _; omega)) (Fx.R.read (v := .slice m.s.na (m.s.nn) (m.s.nc)) (by rfl) (by rfl) (Fx.ChT.refl _) (fun v1 hv1 => x_load1 (x := ldY m) rfl rfl (by kernel_rfl) (m71.chT hv1 (by decide)).cel (i := 18) (by omega) (by omega) rfl) ?_)))))
     refine Fx.R.s (.agg (Fx.varr 56 (ndY (idE v.o v.seq) v.node (upd (fun _ => 0) a v.amt)))) (x_loadA (x := ndY (idE v.o v.seq) v.node (upd (fun _ => 0) a v.amt)) (y := ndY (idE v.o v.seq) v.node (upd (fun _ => 0) a v.amt)) rfl rfl (by kernel_rfl) (by kernel_rfl) m78.cel (i := 0) (by omega) (by omega) (fun j _ => by rw [Nat.zero_add])) ?_
     refine Fx.R.make (by rfl) ?_
     refine Fx.L.bslice (vs := [(0, .agg (Fx.varr 56 (ndY (idE v.o v.seq) v.node (upd (fun _ => 0) a v.amt))))]) (s := 56) (zc := fun zq => if zq < 2 then .int .u64 (0) else .int .i64 (0)) (y := Fx.ovr (fun j => (fun zq => if zq < 2 then .int .u64 (0) else .int .i64 (0)) (j % 56)) (0 * 56) 56 (ndY (idE v.o v.seq) v.node (upd (fun _ => 0) a v.amt))) (by rfl) rfl rfl Try.underlying40 (by kernel_rfl) (by rfl) (by rfl) (by kernel_rfl) (by rw [Fx.fill_step (off := 0 * 56) (s := 56) (y := ndY (idE v.o v.seq) v.node (upd (fun _ => 0) a v.amt)) rfl (Fx.cells_agg _ _) (by rfl)]; rfl) rfl fun g3 w7 eg3 m79 s9 z5 => ?_
     have m80 := m71.stp s9 (Nat.ne_of_lt (m71.lt))
     have m81 := m72.stp s9 (m72.notNew (Nat.le_refl _))
     have m82 := m73.stp s9 (m73.notNew (Nat.le_refl _))
     have m83 := m74.up s9.old
     have m84 := m75.stp s9 (Nat.ne_of_lt (m75.lt))
     have m85 := m76.stp s9 (Nat.ne_of_lt (m76.lt))
     have m86 := m77.stpB s9 (Nat.ne_of_lt (m77.lt))
     have m87 := m78.stp s9 (Nat.ne_of_lt (m78.lt))
     have b11 := s9.below b10 (Nat.le_trans hB b10.size) (Nat.le_trans hB b10.size)
     have lg3 : w.heap.size ≤ g3 := by rw [eg3]; exact b10.size
     have ng3m80 : p ≠ g3 := by rw [eg3]; exact Nat.ne_of_lt (m71.lt)
     have ng3m81 : (.slice m.s.na (m.s.nn) (m.s.nc) : Value).ownBlock ≠ some g3 := by rw [eg3]; exact m72.notNew (Nat.le_refl _)
     have ng3m84 : g1 ≠ g3 := by rw [eg3]; exact Nat.ne_of_lt (m75.lt)
     have ng3m85 : m.tb ≠ g3 := by rw [eg3]; exact Nat.ne_of_lt (m76.lt)
     have ng3m86 : g9 ≠ g3 := by rw [eg3]; exact Nat.ne_of_lt (m77.lt)
     have ng3m87 : g2 ≠ g3 := by rw [eg3]; exact Nat.ne_of_lt (m78.lt)
     have tg3 : g3 < w7.heap.size := m79.lt
     clear eg3
     refine Fx.L.nil ⟨Fx.ChT.of_below s9.old, ?_⟩
     refine Fx.R.make (by rfl) ?_
     refine Fx.L.app (B := B) (s := 56) (bytes := 448) (k := m.s.nn) (m := 1) (v := .slice m.s.na (m.s.nn) (m.s.nc)) (x := ndX m) (by rfl) rfl rfl rfl Try.underlying40 (by kernel_rfl) (by kernel_rfl) rfl rfl m81 m79.cel (ovr_one (ndY_one' _ _ _)) (by omega) (by omega) (by omega) (Nat.le_trans hB b11.size) fun g4 cap1 w8 ho1 hg1 hgv1 hlt1 => ?_
     have hct3 := Fx.ChT.of_grown hg1 m81
     have m89 := m80.chT hct3 (by decide)
     have m90 := m82.chT hct3 (by decide)
     have m91 := m83.chT hct3 (by decide)
     have m92 := m84.chT hct3 (by decide)
     have m93 := m85.chT hct3 (by decide)
     have m94 := m86.chT hct3 (by decide)
     have m95 := m87.grown hg1 ng2m46
     have ng4m95 : g2 ≠ g4 := fun e => hgv1.elim (fun e2 => ng2m46 (by rw [e]; exact e2)) (fun e2 => by have := m87.lt; omega)
     have m88 : Fx.Own w8 B 50 56 (.slice (some ⟨g4, 0, none⟩) (m.s.nn + 1) cap1) (m.s.nn + 1) (Fx.flat 56 (Fx.shF (fun kq => ndY (m.id kq) (m.par kq) (m.R kq)) (ndY (idE v.o v.seq) v.node (upd (fun _ => 0) a v.amt)) m.s.nn m.s.nn)) := (ho1.congr (fun j hj => (Fx.app_flat j hj).trans (Fx.flat_cong (fun i hi q _ => Fx.sh_start i hi q) j hj)))
     have b12 : Below B w w8 := Fx.Below.grow b11 hg1 (Nat.le_trans hB b11.size) (fun q hq => (m81.ge hq).1)
     refine Fx.L.nil ⟨hct3, ?_⟩
     refine Fx.R.p (.pointer (some ⟨p, 0, none⟩)) (fun v1 => x_nil rfl rfl) (Fx.R.p (.pointer (some ⟨p, 0, none⟩)) (fun v1 => x_field rfl rfl Try.underlying71 rfl (s := 20) (by kernel_rfl) rfl rfl) (Fx.R.p (.pointer (some ⟨p, 18, none⟩)) (fun v1 => x_field rfl rfl Try.underlying43 rfl (s := 1) (by kernel_rfl) rfl (by show _ + 18 = _; omega)) (Fx.R.eff (by rfl) ?_)))
     refine Fx.L.store1 (x := ldY m) (u := .slice (some ⟨g4, 0, none⟩) (m.s.nn + 1) (cap1)) (by rfl) rfl rfl rfl rfl (by rfl) (by kernel_rfl) m89 (i := 18) (by omega) fun w9 m96 s10 z6 => ?_
     have hct4 := Fx.ChT.of_stp s10 m89.ty
     have m97 := m90.chT hct4 (by decide)
     have m98 := m91.chT hct4 (by decide)
     have m99 := m92.chT hct4 (by decide)
     have m100 := m93.chT hct4 (by decide)
     have m101 := m94.chT hct4 (by decide)
     have m102 := m95.chT hct4 (by decide)
     have m103 := m88.chT hct4 (by decide)
     have b13 := s10.below b12 (Nat.le_trans hB b12.size) (by omega)
     refine Fx.L.nil (Fx.R.nil (Fx.seqN (Fx.W.seq (Fx.W.block (Fx.W.loop (fun f w_ => ∃ k : Nat, k ≤ m.s.nn ∧ (∀ i, k ≤ i → i < m.s.nn → (idE v.o v.seq) < m.id i) ∧ f 0 = .pointer (some ⟨p, 0, none⟩) ∧ f 7 = .int .u64 ((idE v.o v.seq)) ∧ f 9 = .pointer (some ⟨g2, 0, none⟩) ∧ f 10 = .int .i64 ((k : Int)) ∧ Fx.Own w_ B 88 5 (.slice m.s.ga (m.s.gn) (m.s.gc)) m.s.gn (grX m) ∧ Rqs w_ B 6 m ∧ Fx.Blk w_ g1 14 (evY v) 54 ∧ Fx.Blk w_ m.tb 1 (fun _ => .slice (some ⟨g9, 0, none⟩) (m.tn + 1) cap9) 163 ∧ Fx.Own w_ B 178 2 (.slice (some ⟨g9, 0, none⟩) (m.tn + 1) cap9) (m.tn + 1) (Fx.rv .u64 (flatT (insT m.t (Fx.down (fun i => decide ((idE v.o v.seq) < m.t i 0)) m.tn) (idE v.o v.seq) v.node))) ∧ Fx.Blk w_ g2 56 (ndY (idE v.o v.seq) v.node (upd (fun _ => 0) a v.amt)) 50 ∧ Fx.Blk w_ p 27 (Fx.updV (ldY m) 18 (.slice (some ⟨g4, 0, none⟩) (m.s.nn + 1) (cap1))) 71 ∧ Fx.Own w_ B 50 56 (.slice (some ⟨g4, 0, none⟩) (m.s.nn + 1) cap1) (m.s.nn + 1) (Fx.flat 56 (Fx.shF (fun kq => ndY (m.id kq) (m.par kq) (m.R kq)) (ndY (idE v.o v.seq) v.node (upd (fun _ => 0) a v.amt)) m.s.nn k)) ∧ Below B w w_) (fun f _ => (intOf (f 10)).toNat) ⟨m.s.nn, by omega, (fun i h1 h2 => absurd h1 (by omega)), h1, (by first | rfl | exact congrArg (Value.int .u64) (by omega)), (by rfl), (by first | rfl | exact congrArg (Value.int .i64) (by omega)), m97, m98, m99, m100, m101, m102, m96, m103, b13⟩ ?_)))))
     rintro f2 w10 ⟨k, hk, hgt, h5, h6, h7, h8, m104, m105, m106, m107, m108, m109, m110, m111, b14⟩
     refine Fx.W.seq (Fx.W.seq (Fx.W.list (Fx.L.v (.int .i64 ((k : Int))) (x_move rfl h8) ?_)))
     by_cases c91 : 0 < (k : Int)
     ·obtain ⟨j, ej⟩ : ∃ j, k = j + 1 := ⟨k - 1, by omega⟩
      refine Fx.L.v (.bool true) (Fx.x_gtrT rfl rfl rfl c91) (Fx.L.v (.bool true) (x_move rfl rfl) (Fx.L.v (.pointer (some ⟨p, 0, none⟩)) (x_move rfl h5) (Fx.L.v (.pointer (some ⟨p, 0, none⟩)) (x_nil rfl rfl) (Fx.L.v (.pointer (some ⟨p, 0, none⟩)) (x_field rfl rfl Try.underlying71 rfl (s := 20) (by kernel_rfl) rfl rfl) (Fx.L.v (.pointer (some ⟨p, 18, none⟩)) (x_field rfl rfl Try.underlying43 rfl (s := 1) (by kernel_rfl) rfl (by show _ + 18 = _; omega)) (Fx.L.v (.slice (some ⟨g4, 0, none⟩) (m.s.nn + 1) (cap1)) (x_load1 (x := Fx.updV (ldY m) 18 (.slice (some ⟨g4, 0, none⟩) (m.s.nn + 1) (cap1))) rfl rfl (by kernel_rfl) m110.cel (i := 18) (by omega) (by omega) (Fx.updV_eq (by omega))) (Fx.L.v (.int .i64 ((k : Int))) (x_move rfl h8) (Fx.L.v (.int .i64 ((j : Int))) (Fx.x_sub rfl rfl rfl (Fx.i64e (by omega) (by omega))) (Fx.L.v (.pointer (some ⟨g4, 56 * j, none⟩)) (x_indexS rfl rfl rfl Try.underlying40 (s := 56) (by kernel_rfl) (by omega) (by omega) (by omega)) (Fx.L.v (.pointer (some ⟨g4, 56 * j, none⟩)) (x_field rfl rfl Try.underlying50 rfl (s := 1) (by kernel_rfl) rfl rfl) (Fx.L.v (.int .u64 (m.id j)) (x_load1 (x := Fx.flat 56 (Fx.shF (fun kq => ndY (m.id kq) (m.par kq) (m.R kq)) (ndY (idE v.o v.seq) v.node (upd (fun _ => 0) a v.amt)) m.s.nn k)) rfl rfl (by kernel_rfl) m111.cel (i := 56 * j) (by omega) (by omega) (Fx.flat_cell (k := j) (j := 0) (by omega) (by omega) ((congrFun (Fx.sh_at (by omega) (by omega)) 0).trans rfl))) (Fx.L.v (.int .u64 ((idE v.o v.seq))) (x_move rfl h6) ?_))))))))))))
      by_cases c104 : (idE v.o v.seq) < (m.id j)
      ·refine Fx.L.v (.bool true) (Fx.x_gtrT rfl rfl rfl c104) (Fx.L.v (.bool true) (x_pickT rfl rfl rfl) (Fx.L.nil (Fx.seqN (Fx.W.cond (b := true) rfl (fun _ => Fx.W.skip (Fx.seqN (Fx.W.block (Fx.W.seq ?_)))) (fun h => nomatch h)))))
       -- region 18 draws
       refine Fx.W.reord [0, 1, 2, 3, 5, 6, 7, 8, 9, 11, 12, 4, 10, 13, 14, 15, 16] [0, 0, 0, 0, 4, 0, 0, 0, 0, 0, 4, 0, 0, 0, 4, 0, 3] Fx.Mk Fx.Mk.refl Fx.Mk.trans (certs := [(16, 4, [4]), (16, 10, [10]), (16, 14, [14])]) (by kernel_rfl) (by kernel_rfl) (by kernel_rfl) (by kernel_rfl) (by kernel_rfl) fun wt3 hbwt3 hzwt3 => ?_
       have s11 : Fx.Stp w10.heap.size w10 wt3 := Fx.Stp.of_below hbwt3
       have m112 := m104.stp s11 (m104.notNew (Nat.le_refl _))
       have m113 := m105.up s11.old
       have m114 := m106.stp s11 (Nat.ne_of_lt (m106.lt))
       have m115 := m107.stp s11 (Nat.ne_of_lt (m107.lt))
       have m116 := m108.stpB s11 (Nat.ne_of_lt (m108.lt))
       have m117 := m109.stp s11 (Nat.ne_of_lt (m109.lt))
       have m118 := m110.stp s11 (Nat.ne_of_lt (m110.lt))
       have m119 := m111.stpB s11 (Nat.ne_of_lt (m111.lt))
       have b15 := s11.below b14 (Nat.le_trans hB b14.size) (Nat.le_trans hB b14.size)
       refine Fx.R.p (.pointer (some ⟨p, 0, none⟩)) (fun v1 => x_move rfl h5) (Fx.R.p (.pointer (some ⟨p, 0, none⟩)) (fun v1 => x_nil rfl rfl) (Fx.R.p (.pointer (some ⟨p, 0, none⟩)) (fun v1 => x_field rfl rfl Try.underlying71 rfl (s := 20) (by kernel_rfl) rfl rfl) (Fx.R.p (.pointer (some ⟨p, 18, none⟩)) (fun v1 => x_field rfl rfl Try.underlying43 rfl (s := 1) (by kernel_rfl) rfl (by show _ + 18 = _; omega)) (Fx.R.p (.int .i64 ((k : Int))) (fun v1 => x_move rfl h8) (Fx.R.p (.pointer (some ⟨p, 0, none⟩)) (fun v1 => x_move rfl h5) (Fx.R.p (.pointer (some ⟨p, 0, none⟩)) (fun v1 => x_nil rfl rfl) (Fx.R.p (.pointer (some ⟨p, 0, none⟩)) (fun v1 => x_field rfl rfl Try.underlying71 rfl (s := 20) (by kernel_rfl) rfl rfl) (Fx.R.p (.pointer (some ⟨p, 18, none⟩)) (fun v1 => x_field rfl rfl Try.underlying43 rfl (s := 1) (by kernel_rfl) rfl (by show _ + 18 = _; omega)) (Fx.R.p (.int .i64 ((k : Int))) (fun v1 => x_move rfl h8) (Fx.R.p (.int .i64 ((j : Int))) (fun v1 => Fx.x_sub rfl rfl rfl (Fx.i64e (by omega) (by omega))) (Fx.R.s (.slice (some ⟨g4, 0, none⟩) (m.s.nn + 1) (cap1)) (x_load1 (x := Fx.updV (ldY m) 18 (.slice (some ⟨g4, 0, none⟩) (m.s.nn + 1) (cap1))) rfl rfl (by kernel_rfl) m118.cel (i := 18) (by omega) (by omega) (Fx.updV_eq (by omega))) ?_)))))))))))
       refine Fx.R.s (.slice (some ⟨g4, 0, none⟩) (m.s.nn + 1) (cap1)) (x_load1 (x := Fx.updV (ldY m) 18 (.slice (some ⟨g4, 0, none⟩) (m.s.nn + 1) (cap1))) rfl rfl (by kernel_rfl) m118.cel (i := 18) (by omega) (by omega) (Fx.updV_eq (by omega))) ?_
       refine Fx.R.p (.pointer (some ⟨g4, 56 * j, none⟩)) (fun v1 => x_indexS rfl rfl rfl Try.underlying40 (s := 56) (by kernel_rfl) (by omega) (by omega) (by omega)) (Fx.R.s (.agg (Fx.varr 56 (ndY (m.id j) (m.par j) (m.R j)))) (x_loadA (x := Fx.flat 56 (Fx.shF (fun kq => ndY (m.id kq) (m.par kq) (m.R kq)) (ndY (idE v.o v.seq) v.node (upd (fun _ => 0) a v.amt)) m.s.nn k)) (y := ndY (m.id j) (m.par j) (m.R j)) rfl rfl (by kernel_rfl) (by kernel_rfl) m119.cel (i := 56 * j) (by omega) (by omega) (fun jq hjq => (Fx.flat_at (k := j) (by omega) hjq).trans (congrFun (Fx.sh_at (by omega) (by omega)) jq))) ?_)
       refine Fx.R.p (.pointer (some ⟨g4, 56 * k, none⟩)) (fun v1 => x_indexS rfl rfl rfl Try.underlying40 (s := 56) (by kernel_rfl) (by omega) (by omega) (by omega)) (Fx.R.eff (by rfl) ?_)
       refine Fx.L.ownA (x := Fx.flat 56 (Fx.shF (fun kq => ndY (m.id kq) (m.par kq) (m.R kq)) (ndY (idE v.o v.seq) v.node (upd (fun _ => 0) a v.amt)) m.s.nn k)) (y := ndY (m.id j) (m.par j) (m.R j)) (by rfl) rfl rfl rfl rfl (fun j _ => ndY_one' _ _ _ j) (by kernel_rfl) m119 (i := 56 * k) (by omega) fun w11 m120 s12 z7 => ?_
       have hct5 := Fx.ChT.of_stp s12 m119.tyB
       have m121 := m112.chT hct5 (by decide)
       have m122 := m113.chT hct5 (by decide)
       have m123 := m114.chT hct5 (by decide)
       have m124 := m115.chT hct5 (by decide)
       have m125 := m116.chT hct5 (by decide)
       have m126 := m117.stp s12 (by omega)
       have m127 := m118.chT hct5 (by decide)
       have b16 := s12.below b15 (Nat.le_trans hB b15.size) m119.blk.1
       have m128 : Fx.Own w11 B 50 56 (.slice (some ⟨g4, 0, none⟩) (m.s.nn + 1) cap1) (m.s.nn + 1) (Fx.flat 56 (Fx.shF (fun kq => ndY (m.id kq) (m.par kq) (m.R kq)) (ndY (idE v.o v.seq) v.node (upd (fun _ => 0) a v.amt)) m.s.nn j)) := m120.congr (fun pq hp => (Fx.ovr_flat (k := k) (by omega) pq hp).trans (Fx.flat_cong (fun i hi q _ => Fx.sh_step ej (by omega) i hi q) pq hp))
       refine Fx.L.nil (Fx.R.nil (Fx.seqN (Fx.W.list (Fx.L.v (.int .i64 ((k : Int))) (x_move rfl h8) (Fx.L.v (.int .i64 ((j : Int))) (Fx.x_sub rfl rfl rfl (Fx.i64e (by omega) (by omega))) (Fx.L.v (.int .i64 ((j : Int))) (x_assign rfl rfl) (Fx.L.nil (Fx.blkN (Fx.lpN ⟨j, by omega, (gtI_step ej hgt c104), h5, (h6.trans (by first | rfl | exact congrArg (Value.int .u64) (by omega))), h7, (by first | rfl | exact congrArg (Value.int .i64) (by omega)), m121, m122, m123, m124, m125, m126, m127, m128, b16⟩ ?_)))))))))
       show (intOf ((.int .i64 ((j : Int))))).toNat < _
       simp only [h8, intOf]; omega
      ·refine Fx.L.v (.bool false) (x_gtrF rfl rfl rfl c104) (Fx.L.v (.bool false) (x_pickT rfl rfl rfl) (Fx.L.nil (Fx.seqN (Fx.W.cond (b := false) rfl (fun h => nomatch h) (fun _ => Fx.W.exit (Fx.seqX (Fx.lpX (Fx.blkX (Fx.seqN (Fx.W.seq ?_))))))))))
       -- region 20 draws
       refine Fx.W.reord [0, 1, 2, 3, 5, 4, 6, 7, 8] [0, 0, 0, 0, 4, 0, 4, 0, 3] Fx.Mk Fx.Mk.refl Fx.Mk.trans (certs := [(8, 4, [4]), (8, 6, [6])]) (by kernel_rfl) (by kernel_rfl) (by kernel_rfl) (by kernel_rfl) (by kernel_rfl) fun wt4 hbwt4 hzwt4 => ?_
       have s13 : Fx.Stp w10.heap.size w10 wt4 := Fx.Stp.of_below hbwt4
       have m129 := m104.stp s13 (m104.notNew (Nat.le_refl _))
       have m130 := m105.up s13.old
       have m132 := m107.stp s13 (Nat.ne_of_lt (m107.lt))
       have m133 := m108.stpB s13 (Nat.ne_of_lt (m108.lt))
       have m134 := m109.stp s13 (Nat.ne_of_lt (m109.lt))
       have m135 := m110.stp s13 (Nat.ne_of_lt (m110.lt))
       have m136 := m111.stpB s13 (Nat.ne_of_lt (m111.lt))
       have b17 := s13.below b14 (Nat.le_trans hB b14.size) (Nat.le_trans hB b14.size)
       refine Fx.R.p (.pointer (some ⟨p, 0, none⟩)) (fun v1 => x_move rfl h5) (Fx.R.p (.pointer (some ⟨p, 0, none⟩)) (fun v1 => x_nil rfl rfl) (Fx.R.p (.pointer (some ⟨p, 0, none⟩)) (fun v1 => x_field rfl rfl Try.underlying71 rfl (s := 20) (by kernel_rfl) rfl rfl) (Fx.R.p (.pointer (some ⟨p, 18, none⟩)) (fun v1 => x_field rfl rfl Try.underlying43 rfl (s := 1) (by kernel_rfl) rfl (by show _ + 18 = _; omega)) (Fx.R.p (.int .i64 ((k : Int))) (fun v1 => x_move rfl h8) (Fx.R.s (.slice (some ⟨g4, 0, none⟩) (m.s.nn + 1) (cap1)) (x_load1 (x := Fx.updV (ldY m) 18 (.slice (some ⟨g4, 0, none⟩) (m.s.nn + 1) (cap1))) rfl rfl (by kernel_rfl) m135.cel (i := 18) (by omega) (by omega) (Fx.updV_eq (by omega))) ?_)))))
       refine Fx.R.s (.agg (Fx.varr 56 (ndY (idE v.o v.seq) v.node (upd (fun _ => 0) a v.amt)))) (x_loadA (x := ndY (idE v.o v.seq) v.node (upd (fun _ => 0) a v.amt)) (y := ndY (idE v.o v.seq) v.node (upd (fun _ => 0) a v.amt)) rfl h7 (by kernel_rfl) (by kernel_rfl) m134.cel (i := 0) (by omega) (by omega) (fun j _ => by rw [Nat.zero_add])) ?_
       refine Fx.R.p (.pointer (some ⟨g4, 56 * k, none⟩)) (fun v1 => x_indexS rfl rfl rfl Try.underlying40 (s := 56) (by kernel_rfl) (by omega) (by omega) (by omega)) (Fx.R.eff (by rfl) ?_)
       refine Fx.L.ownA (x := Fx.flat 56 (Fx.shF (fun kq => ndY (m.id kq) (m.par kq) (m.R kq)) (ndY (idE v.o v.seq) v.node (upd (fun _ => 0) a v.amt)) m.s.nn k)) (y := ndY (idE v.o v.seq) v.node (upd (fun _ => 0) a v.amt)) (by rfl) rfl rfl rfl rfl (fun j _ => ndY_one' _ _ _ j) (by kernel_rfl) m136 (i := 56 * k) (by omega) fun w12 m137 s14 z8 => ?_
       have hct6 := Fx.ChT.of_stp s14 m136.tyB
       have m138 := m129.chT hct6 (by decide)
       have m139 := m130.chT hct6 (by decide)
       have m141 := m132.chT hct6 (by decide)
       have m142 := m133.chT hct6 (by decide)
       have m143 := m134.stp s14 (by omega)
       have m144 := m135.chT hct6 (by decide)
       have b18 := s14.below b17 (Nat.le_trans hB b17.size) m136.blk.1
       have m145 : Fx.Own w12 B 50 56 (.slice (some ⟨g4, 0, none⟩) (m.s.nn + 1) cap1) (m.s.nn + 1) (Fx.flat 56 (Fx.insF (fun kq => ndY (m.id kq) (m.par kq) (m.R kq)) k (ndY (idE v.o v.seq) v.node (upd (fun _ => 0) a v.amt)))) := m137.congr (fun pq hp => (Fx.ovr_flat (k := k) (by omega) pq hp).trans (Fx.flat_cong (fun i hi q _ => Fx.ins_end (by omega) i hi q) pq hp))
       refine Fx.L.nil (Fx.R.nil (Fx.seqN (Fx.W.seq (Fx.W.list (Fx.L.v (.int .i64 (0)) (x_assign rfl rfl) (Fx.L.nil (Fx.seqN (Fx.W.ret (⟨.int .i64 (0), Fx.retV1 Try.results120 (by exact rfl), ?_⟩)))))))))
       have ee : makesE m.core v = addE m.t m.tn (idE v.o v.seq) v.node := if_neg (fun h => h.elim (fun h => by rw [show ownN m.core.id v.o m.core.nn = cn0 from hcn0.symm] at h; omega) (fun h => by omega))
       have ek : k = downI m.id m.s.nn (idE v.o v.seq) := Fx.down_eq hk (fun i a b => decide_eq_true (hgt i a b)) (.inr (fun j2 e => by rw [show j2 = j by omega]; exact decide_eq_false c104))
       have m146 : Fx.Own w12 B 50 56 (.slice (some ⟨g4, 0, none⟩) (m.s.nn + 1) cap1) (m.s.nn + 1) (Fx.flat 56 fun kq => ndY (Fx.insI m.id k (idE v.o v.seq) kq) (Fx.insI m.par k v.node kq) (Fx.insI m.R k (upd (fun _ => 0) a v.amt) kq)) := by rw [← insF_nd]; exact m145
       have eR : (upd (fun _ => 0) a v.amt) = upd (fun _ => 0) (v.o - 1).toNat v.amt := by rw [show (v.o - 1).toNat = a by omega]
       have bn9 : m.tn + 1 ≤ 33 := add_room hc0
       refine ⟨congrArg (fun q => Ending.returned (Value.int .i64 q)) (hc0.symm.trans ee.symm), b18, fun _ => ⟨{ m with s := { m.s with na := some ⟨g4, 0, none⟩, nn := m.s.nn + 1, nc := cap1 }, id := Fx.insI m.id k (idE v.o v.seq), par := Fx.insI m.par k v.node, R := Fx.insI m.R k (upd (fun _ => 0) a v.amt), ta := some ⟨g9, 0, none⟩, tn := m.tn + 1, tc := cap9, t := insT m.t (Fx.down (fun i => decide ((idE v.o v.seq) < m.t i 0)) m.tn) (idE v.o v.seq) v.node }, ?_, ?_⟩⟩
       ·unfold makesC; rw [show downI m.core.id m.core.nn (idE v.o v.seq) = k from ek.symm, ← eR]; rfl
       ·exact { c := m144.to (ldY_nodes m _ _ _), n := m146, g := m138, tc := m141, t := m142, r := m139, pB := hLp, tB := hLtb, bn := (by have := bnn; show m.s.nn + 1 ≤ 1000; omega), bg := bg, bt := (by show m.tn + 1 ≤ 1000; omega), br := hL.br }
     ·refine Fx.L.v (.bool false) (x_gtrF rfl rfl rfl c91) (Fx.L.v (.bool false) (x_move rfl rfl) (Fx.L.skip (by rfl) rfl (Fx.L.skip (by rfl) rfl (Fx.L.skip (by rfl) rfl (Fx.L.skip (by rfl) rfl (Fx.L.skip (by rfl) rfl (Fx.L.skip (by rfl) rfl (Fx.L.skip (by rfl) rfl (Fx.L.skip (by rfl) rfl (Fx.L.skip (by rfl) rfl (Fx.L.skip (by rfl) rfl (Fx.L.skip (by rfl) rfl (Fx.L.skip (by rfl) rfl (Fx.L.v (.bool false) (x_pickF rfl rfl rfl) (Fx.L.nil (Fx.seqN (Fx.W.cond (b := false) rfl (fun h => nomatch h) (fun _ => Fx.W.exit (Fx.seqX (Fx.lpX (Fx.blkX (Fx.seqN (Fx.W.seq ?_)))))))))))))))))))))))
      -- region 20 draws
      refine Fx.W.reord [0, 1, 2, 3, 5, 4, 6, 7, 8] [0, 0, 0, 0, 4, 0, 4, 0, 3] Fx.Mk Fx.Mk.refl Fx.Mk.trans (certs := [(8, 4, [4]), (8, 6, [6])]) (by kernel_rfl) (by kernel_rfl) (by kernel_rfl) (by kernel_rfl) (by kernel_rfl) fun wt5 hbwt5 hzwt5 => ?_
      have s15 : Fx.Stp w10.heap.size w10 wt5 := Fx.Stp.of_below hbwt5
      have m148 := m104.stp s15 (m104.notNew (Nat.le_refl _))
      have m149 := m105.up s15.old
      have m151 := m107.stp s15 (Nat.ne_of_lt (m107.lt))
      have m152 := m108.stpB s15 (Nat.ne_of_lt (m108.lt))
      have m153 := m109.stp s15 (Nat.ne_of_lt (m109.lt))
      have m154 := m110.stp s15 (Nat.ne_of_lt (m110.lt))
      have m155 := m111.stpB s15 (Nat.ne_of_lt (m111.lt))
      have b19 := s15.below b14 (Nat.le_trans hB b14.size) (Nat.le_trans hB b14.size)
      refine Fx.R.p (.pointer (some ⟨p, 0, none⟩)) (fun v1 => x_move rfl h5) (Fx.R.p (.pointer (some ⟨p, 0, none⟩)) (fun v1 => x_nil rfl rfl) (Fx.R.p (.pointer (some ⟨p, 0, none⟩)) (fun v1 => x_field rfl rfl Try.underlying71 rfl (s := 20) (by kernel_rfl) rfl rfl) (Fx.R.p (.pointer (some ⟨p, 18, none⟩)) (fun v1 => x_field rfl rfl Try.underlying43 rfl (s := 1) (by kernel_rfl) rfl (by show _ + 18 = _; omega)) (Fx.R.p (.int .i64 ((k : Int))) (fun v1 => x_move rfl h8) (Fx.R.s (.slice (some ⟨g4, 0, none⟩) (m.s.nn + 1) (cap1)) (x_load1 (x := Fx.updV (ldY m) 18 (.slice (some ⟨g4, 0, none⟩) (m.s.nn + 1) (cap1))) rfl rfl (by kernel_rfl) m154.cel (i := 18) (by omega) (by omega) (Fx.updV_eq (by omega))) ?_)))))
      refine Fx.R.s (.agg (Fx.varr 56 (ndY (idE v.o v.seq) v.node (upd (fun _ => 0) a v.amt)))) (x_loadA (x := ndY (idE v.o v.seq) v.node (upd (fun _ => 0) a v.amt)) (y := ndY (idE v.o v.seq) v.node (upd (fun _ => 0) a v.amt)) rfl h7 (by kernel_rfl) (by kernel_rfl) m153.cel (i := 0) (by omega) (by omega) (fun j _ => by rw [Nat.zero_add])) ?_
      refine Fx.R.p (.pointer (some ⟨g4, 56 * k, none⟩)) (fun v1 => x_indexS rfl rfl rfl Try.underlying40 (s := 56) (by kernel_rfl) (by omega) (by omega) (by omega)) (Fx.R.eff (by rfl) ?_)
      refine Fx.L.ownA (x := Fx.flat 56 (Fx.shF (fun kq => ndY (m.id kq) (m.par kq) (m.R kq)) (ndY (idE v.o v.seq) v.node (upd (fun _ => 0) a v.amt)) m.s.nn k)) (y := ndY (idE v.o v.seq) v.node (upd (fun _ => 0) a v.amt)) (by rfl) rfl rfl rfl rfl (fun j _ => ndY_one' _ _ _ j) (by kernel_rfl) m155 (i := 56 * k) (by omega) fun w13 m156 s16 z9 => ?_
      have hct7 := Fx.ChT.of_stp s16 m155.tyB
      have m157 := m148.chT hct7 (by decide)
      have m158 := m149.chT hct7 (by decide)
      have m160 := m151.chT hct7 (by decide)
      have m161 := m152.chT hct7 (by decide)
      have m162 := m153.stp s16 (by omega)
      have m163 := m154.chT hct7 (by decide)
      have b20 := s16.below b19 (Nat.le_trans hB b19.size) m155.blk.1
      have m164 : Fx.Own w13 B 50 56 (.slice (some ⟨g4, 0, none⟩) (m.s.nn + 1) cap1) (m.s.nn + 1) (Fx.flat 56 (Fx.insF (fun kq => ndY (m.id kq) (m.par kq) (m.R kq)) k (ndY (idE v.o v.seq) v.node (upd (fun _ => 0) a v.amt)))) := m156.congr (fun pq hp => (Fx.ovr_flat (k := k) (by omega) pq hp).trans (Fx.flat_cong (fun i hi q _ => Fx.ins_end (by omega) i hi q) pq hp))
      refine Fx.L.nil (Fx.R.nil (Fx.seqN (Fx.W.seq (Fx.W.list (Fx.L.v (.int .i64 (0)) (x_assign rfl rfl) (Fx.L.nil (Fx.seqN (Fx.W.ret (⟨.int .i64 (0), Fx.retV1 Try.results120 (by exact rfl), ?_⟩)))))))))
      have ee : makesE m.core v = addE m.t m.tn (idE v.o v.seq) v.node := if_neg (fun h => h.elim (fun h => by rw [show ownN m.core.id v.o m.core.nn = cn0 from hcn0.symm] at h; omega) (fun h => by omega))
      have ek : k = downI m.id m.s.nn (idE v.o v.seq) := Fx.down_eq hk (fun i a b => decide_eq_true (hgt i a b)) (.inl (by omega))
      have m165 : Fx.Own w13 B 50 56 (.slice (some ⟨g4, 0, none⟩) (m.s.nn + 1) cap1) (m.s.nn + 1) (Fx.flat 56 fun kq => ndY (Fx.insI m.id k (idE v.o v.seq) kq) (Fx.insI m.par k v.node kq) (Fx.insI m.R k (upd (fun _ => 0) a v.amt) kq)) := by rw [← insF_nd]; exact m164
      have eR : (upd (fun _ => 0) a v.amt) = upd (fun _ => 0) (v.o - 1).toNat v.amt := by rw [show (v.o - 1).toNat = a by omega]
      have bn9 : m.tn + 1 ≤ 33 := add_room hc0
      refine ⟨congrArg (fun q => Ending.returned (Value.int .i64 q)) (hc0.symm.trans ee.symm), b20, fun _ => ⟨{ m with s := { m.s with na := some ⟨g4, 0, none⟩, nn := m.s.nn + 1, nc := cap1 }, id := Fx.insI m.id k (idE v.o v.seq), par := Fx.insI m.par k v.node, R := Fx.insI m.R k (upd (fun _ => 0) a v.amt), ta := some ⟨g9, 0, none⟩, tn := m.tn + 1, tc := cap9, t := insT m.t (Fx.down (fun i => decide ((idE v.o v.seq) < m.t i 0)) m.tn) (idE v.o v.seq) v.node }, ?_, ?_⟩⟩
      ·unfold makesC; rw [show downI m.core.id m.core.nn (idE v.o v.seq) = k from ek.symm, ← eR]; rfl
      ·exact { c := m163.to (ldY_nodes m _ _ _), n := m165, g := m157, tc := m160, t := m161, r := m158, pB := hLp, tB := hLtb, bn := (by have := bnn; show m.s.nn + 1 ≤ 1000; omega), bg := bg, bt := (by show m.tn + 1 ≤ 1000; omega), br := hL.br }
end Go.Proofs.Ytolmkjepieoloaa
