/-
  The walks of leatref07.Give, Take, Free, Move.
-/
import Derived.Test.Ytolmkjepieoloaa7C
import Derived.Test.YtolmkjepieoloaaRMove
namespace Go.Proofs.Ytolmkjepieoloaa
open Go.RowKit Rt
namespace Rt
theorem right_ok {x : Nat → Int} {i n : Int} (h : rightE x i n = 0) : may x = true ∧ 1 ≤ n ∧ n ≤ 1125899906842624 ∧ regB i = true := by
  unfold rightE at h
  by_cases h1 : may x = true
  · by_cases h2 : 1 ≤ n
    · by_cases h3 : n ≤ 1125899906842624
      · rw [h1, decide_eq_true h2, decide_eq_true h3] at h
        cases h4 : regB i
        · rw [h4] at h; simp at h
        · exact ⟨h1, h2, h3, rfl⟩
      · rw [decide_eq_false h3] at h; simp at h
    · rw [decide_eq_false h2] at h; simp at h
  · rw [show may x = false by simpa using h1] at h; simp at h
theorem right_no {x : Nat → Int} {i n em : Int} {off : Nat} (h : ¬ rightE x i n = 0) : turnedM x n (regB i) em off = (zero, rightE x i n) := by
  unfold rightE at *
  unfold turnedM
  by_cases h1 : (may x && decide (1 ≤ n) && decide (n ≤ 1125899906842624)) = true
  · simp only [if_pos h1] at *
    cases h4 : regB i
    · simp
    · simp [h4] at h
  · simp only [if_neg h1] at *
theorem turned_y2 {x : Nat → Int} {n em : Int} {is : Bool} {off : Nat} (h1 : may x = true) (h2 : 1 ≤ n) (h3 : n ≤ 1125899906842624) (h4 : is = true) :
    turnedM x n is em off = if em = 0 then (if x off + n ≤ 1125899906842624 then (upd x off (x off + n), 0) else (zero, 6)) else (zero, em) := by
  unfold turnedM; rw [h1, decide_eq_true h2, decide_eq_true h3, h4]; simp
theorem turned_fin {x : Nat → Int} {n em : Int} {is : Bool} {off : Nat} (h1 : may x = true) (h2 : 1 ≤ n) (h3 : n ≤ 1125899906842624) (h4 : is = true) (h5 : em = 0) (h6 : x off + n ≤ 1125899906842624) : turnedM x n is em off = (upd x off (x off + n), 0) := by
  rw [turned_y2 h1 h2 h3 h4, if_pos h5, if_pos h6]
theorem turned_many {x : Nat → Int} {n em : Int} {is : Bool} {off : Nat} (h1 : may x = true) (h2 : 1 ≤ n) (h3 : n ≤ 1125899906842624) (h4 : is = true) (h5 : em = 0) (h6 : ¬ x off + n ≤ 1125899906842624) : turnedM x n is em off = (zero, 6) := by
  rw [turned_y2 h1 h2 h3 h4, if_pos h5, if_neg h6]
theorem turned_err {x : Nat → Int} {n em e : Int} {is : Bool} {off : Nat} (h1 : may x = true) (h2 : 1 ≤ n) (h3 : n ≤ 1125899906842624) (h4 : is = true) (h5 : em = e) (h6 : e ≠ 0) : turnedM x n is em off = (zero, e) := by
  rw [turned_y2 h1 h2 h3 h4, h5, if_neg h6]
theorem turned_is {x : Nat → Int} {n em : Int} {off : Nat} (h1 : may x = true) (h2 : 1 ≤ n) (h3 : n ≤ 1125899906842624) : turnedM x n false em off = (zero, 10) := by
  unfold turnedM; rw [h1, decide_eq_true h2, decide_eq_true h3]; simp
theorem pl (k : Nat) : ((k : Int) + 1).toNat - 1 = k := by omega
theorem right_no2 {x : Nat → Int} {i j n : Int} (h : ¬ rightE x i n = 0) : moveM x i j n = (zero, rightE x i n) := by
  unfold moveM
  unfold rightE at *
  unfold turnedM
  by_cases h1 : (may x && decide (1 ≤ n) && decide (n ≤ 1125899906842624)) = true
  · simp only [if_pos h1] at *
    cases h4 : regB i
    · simp
    · simp [h4] at h
  · simp only [if_neg h1] at *
theorem moveO_at (k q : Nat) : moveO ((k : Int) + 1) ((q : Int) + 1) = 6 * k + q + 18 := by unfold moveO; omega
theorem free_fit {x : Nat → Int} {k : Nat} (HM : may x = true) (hk : k < 6) : x (k + 6) ≤ 1125899906842624 := (may_ent HM (k + 6) (by omega)).2
theorem give_fit {x : Nat → Int} {k : Nat} {n : Int} (HM : may x = true) (hk : k < 6) (h : ¬ 1125899906842624 < (sums x).1 + n) : x k + n ≤ 1125899906842624 := by
  have HE := may_ent HM
  rw [sums_eq HM] at h
  simp only [gSum, G] at h
  have := HE 0; have := HE 1; have := HE 2; have := HE 3; have := HE 4; have := HE 5
  rcases (show k = 0 ∨ k = 1 ∨ k = 2 ∨ k = 3 ∨ k = 4 ∨ k = 5 by omega) with rfl | rfl | rfl | rfl | rfl | rfl <;> omega
end Rt
set_option maxRecDepth 10000 in
theorem f7_give (x : Nat → Int) (i n : Int) (w : World) :
    Calls Try.prog 92 #[.agg (Fx.varr 54 (Fx.rv .i64 x)), .int .i64 (i), .int .i64 (n)] w fun e w' => e = .returned (.tuple #[.agg (Fx.varr 54 (Fx.rv .i64 (giveM x i n).1)), .int .i64 (giveM x i n).2]) ∧ Below w.heap.size w w' := by
  refine Fx.enter Try.func92 rfl (n := 39) rfl (by rfl) ?_
  refine Fx.W.seq ?_
  refine Fx.W.list ?_
  refine Fx.L.box (m := 54) (y := Fx.rv .i64 x) (by rfl) rfl rfl (Fx.cells_agg _ _) rfl fun g1 w1 eg1 m1 s1 z1 => ?_
  have b1 : Below w.heap.size w w1 := s1.below (Below.refl w.heap.size w) (Below.refl w.heap.size w).size (Below.refl w.heap.size w).size
  have lg1 : w.heap.size ≤ g1 := by rw [eg1]; exact (Below.refl w.heap.size w).size
  have tg1 : g1 < w1.heap.size := m1.lt
  clear eg1
  refine Fx.L.new (m := 54) (y := Fx.rv .i64 (fun _ => 0)) (by rfl) rfl (by kernel_rfl) rfl fun g2 w2 eg2 m2 s2 z2 => ?_
  have m3 : Fx.Blk w2 g1 54 (Fx.rv .i64 x) 48 := m1.stp s2 (Nat.ne_of_lt (m1.lt))
  have b2 : Below w.heap.size w w2 := s2.below b1 b1.size b1.size
  have lg2 : w.heap.size ≤ g2 := by rw [eg2]; exact b1.size
  have ng2m3 : g1 ≠ g2 := by rw [eg2]; exact Nat.ne_of_lt (m1.lt)
  have tg2 : g2 < w2.heap.size := m2.lt
  clear eg2
  refine Fx.L.val (v := .int .i64 (0)) (by rfl) (Fx.x_assign rfl rfl) rfl ?_
  refine Fx.L.nil ?_
  refine Fx.seqN ?_
  refine Fx.W.seq ?_
  refine Fx.W.list ?_
  refine Fx.L.val (v := .agg (Fx.varr 54 (Fx.rv .i64 x))) (by rfl) (Fx.x_loadA (x := Fx.rv .i64 x) (y := Fx.rv .i64 x) rfl rfl (by kernel_rfl) (by kernel_rfl) m3.cel (i := 0) (by omega) (by omega) (fun j _ => by rw [Nat.zero_add])) rfl ?_
  refine Fx.L.val (v := .int .i64 (i)) (by rfl) (Fx.x_move rfl rfl) rfl ?_
  refine Fx.L.val (v := .int .i64 (n)) (by rfl) (Fx.x_move rfl rfl) rfl ?_
  refine Fx.L.call (by rfl) (Fx.r_call (args := [.agg (Fx.varr 54 (Fx.rv .i64 x)), .int .i64 (i), .int .i64 (n)]) rfl rfl Try.func116 rfl rfl) rfl ((f7_right x i n _).mono ?_)
  rintro e w3 ⟨he, hb1⟩
  refine ⟨.int .i64 (rightE x i n), by rw [he], ?_⟩
  clear he
  have s3 := Fx.Stp.of_below hb1
  have m4 : Fx.Blk w3 g1 54 (Fx.rv .i64 x) 48 := m3.stp s3 (Nat.ne_of_lt (m3.lt))
  have m5 : Fx.Blk w3 g2 54 (Fx.rv .i64 (fun _ => 0)) 48 := m2.stp s3 (Nat.ne_of_lt (m2.lt))
  have b3 : Below w.heap.size w w3 := s3.below b2 b2.size b2.size
  refine Fx.L.val (v := .int .i64 (rightE x i n)) (by rfl) (Fx.x_assign rfl rfl) rfl ?_
  refine Fx.L.nil ?_
  refine Fx.seqN ?_
  refine Fx.W.seq ?_
  refine Fx.W.seq ?_
  refine Fx.W.list ?_
  refine Fx.L.val (v := .int .i64 (rightE x i n)) (by rfl) (Fx.x_move rfl rfl) rfl ?_
  by_cases c16 : (rightE x i n) = 0
  · refine Fx.L.val (v := .bool false) (by rfl) (Fx.x_neqF rfl rfl rfl c16) rfl ?_
    refine Fx.L.nil ?_
    refine Fx.seqN ?_
    refine Fx.W.cond (b := false) rfl (fun h => nomatch h) (fun _ => ?_)
    refine Fx.W.skip ?_
    refine Fx.seqN ?_
    refine Fx.W.seq ?_
    obtain ⟨HM, n1, n2, HR⟩ := right_ok c16
    have HE := may_ent HM
    obtain ⟨k, hk, ei, _⟩ := reg_nat HR
    subst ei
    have SB := (sums_bd x).1
    refine Fx.W.list ?_
    refine Fx.L.val (v := .agg (Fx.varr 54 (Fx.rv .i64 x))) (by rfl) (Fx.x_loadA (x := Fx.rv .i64 x) (y := Fx.rv .i64 x) rfl rfl (by kernel_rfl) (by kernel_rfl) m4.cel (i := 0) (by omega) (by omega) (fun j _ => by rw [Nat.zero_add])) rfl ?_
    refine Fx.L.call (by rfl) (Fx.r_call (args := [.agg (Fx.varr 54 (Fx.rv .i64 x))]) rfl rfl Try.func51 rfl rfl) rfl ((f7_sums x _).mono ?_)
    rintro e w4 ⟨he, hb2⟩
    refine ⟨.tuple #[.int .i64 ((sums x).1), .int .i64 ((sums x).2)], by rw [he], ?_⟩
    clear he
    have s4 := Fx.Stp.of_below hb2
    have m6 : Fx.Blk w4 g1 54 (Fx.rv .i64 x) 48 := m4.stp s4 (Nat.ne_of_lt (m4.lt))
    have m7 : Fx.Blk w4 g2 54 (Fx.rv .i64 (fun _ => 0)) 48 := m5.stp s4 (Nat.ne_of_lt (m5.lt))
    have b4 : Below w.heap.size w w4 := s4.below b3 b3.size b3.size
    refine Fx.L.val (v := .tuple #[.int .i64 ((sums x).1), .int .i64 ((sums x).2)]) (by rfl) (Fx.x_move rfl rfl) rfl ?_
    refine Fx.L.val (v := .int .i64 ((sums x).1)) (by rfl) (Fx.x_extract rfl rfl rfl) rfl ?_
    refine Fx.L.val (v := .int .i64 ((sums x).2)) (by rfl) (Fx.x_extract rfl rfl rfl) rfl ?_
    refine Fx.L.val (v := .int .i64 ((sums x).1)) (by rfl) (Fx.x_assign rfl rfl) rfl ?_
    refine Fx.L.val (v := .int .i64 ((sums x).2)) (by rfl) (Fx.x_assign rfl rfl) rfl ?_
    refine Fx.L.nil ?_
    refine Fx.seqN ?_
    refine Fx.W.seq ?_
    refine Fx.W.seq ?_
    refine Fx.W.list ?_
    refine Fx.L.val (v := .int .i64 ((sums x).1)) (by rfl) (Fx.x_move rfl rfl) rfl ?_
    refine Fx.L.val (v := .int .i64 (n)) (by rfl) (Fx.x_move rfl rfl) rfl ?_
    refine Fx.L.val (v := .int .i64 (((sums x).1) + n)) (by rfl) (Fx.x_add rfl rfl rfl (Fx.i64e (by omega) (by omega))) rfl ?_
    by_cases c27 : 1125899906842624 < (((sums x).1) + n)
    · refine Fx.L.val (v := .bool true) (by rfl) (Fx.x_gtrT rfl rfl rfl c27) rfl ?_
      refine Fx.L.nil ?_
      refine Fx.seqN ?_
      refine Fx.W.cond (b := true) rfl (fun _ => ?_) (fun h => nomatch h)
      refine Fx.W.seq ?_
      refine Fx.W.list ?_
      refine Fx.L.val (v := .agg (Fx.varr 54 (Fx.rv .i64 (fun _ => 0)))) (by rfl) (Fx.x_build (vs := []) (places := #[(0, 6), (6, 6), (12, 6), (18, 36)]) (m := 54) (x := Fx.rv .i64 (fun _ => 0)) rfl rfl Try.underlying48 (by kernel_rfl) (by kernel_rfl) (by rfl)) rfl ?_
      refine Fx.L.storeA (x := Fx.rv .i64 (fun _ => 0)) (y := Fx.rv .i64 (fun _ => 0)) (by rfl) rfl rfl rfl rfl (fun _ _ => rfl) (by kernel_rfl) m7 (i := 0) (by omega) fun w5 m8 s5 z3 => ?_
      have m9 : Fx.Blk w5 g2 54 (Fx.rv .i64 (fun _ => 0)) 48 := Fx.ovr_all m8
      have m10 : Fx.Blk w5 g1 54 (Fx.rv .i64 x) 48 := m6.stp s5 (by omega)
      have b5 : Below w.heap.size w w5 := s5.below b4 b4.size (by omega)
      refine Fx.L.val (v := .int .i64 (6)) (by rfl) (Fx.x_assign rfl rfl) rfl ?_
      refine Fx.L.nil ?_
      refine Fx.seqN ?_
      refine Fx.W.ret ?_
      refine Fx.seqR ?_
      refine ⟨.tuple #[.agg (Fx.varr 54 (Fx.rv .i64 (fun _ => 0))), .int .i64 (6)], Fx.retV2 Try.results92 ⟨_, rfl, Fx.run_loadV m9.cel (by kernel_rfl) (by kernel_rfl)⟩ (by exact rfl), ?_⟩
      refine ⟨?_, b5⟩
      have hM : giveM x ((k : Int) + 1) n = (zero, 6) := by
        unfold giveM giveE
        rw [decide_eq_true c27]
        exact turned_err HM n1 n2 HR rfl (by decide)
      rw [hM]
      all_goals rfl
    · refine Fx.L.val (v := .bool false) (by rfl) (Fx.x_gtrF rfl rfl rfl c27) rfl ?_
      refine Fx.L.nil ?_
      refine Fx.seqN ?_
      refine Fx.W.cond (b := false) rfl (fun h => nomatch h) (fun _ => ?_)
      refine Fx.W.skip ?_
      refine Fx.seqN ?_
      refine Fx.W.seq ?_
      have q1 := HE k
      have q2 := give_fit HM hk c27
      refine Fx.W.list ?_
      refine Fx.L.val (v := .int .i64 ((k : Int) + 1)) (by rfl) (Fx.x_move rfl rfl) rfl ?_
      refine Fx.L.val (v := .int .i64 ((k : Int))) (by rfl) (Fx.x_sub rfl rfl rfl (Fx.i64e (by omega) (by omega))) rfl ?_
      refine Fx.L.val (v := .pointer (some ⟨g1, 0, none⟩)) (by rfl) (Fx.x_field rfl rfl Try.underlying48 rfl (s := 6) (by kernel_rfl) rfl rfl) rfl ?_
      refine Fx.L.val (v := .pointer (some ⟨g1, k, none⟩)) (by rfl) (Fx.x_index rfl rfl rfl Try.underlying45 (s := 1) (by kernel_rfl) (by omega) (by omega) (by omega)) rfl ?_
      refine Fx.L.val (v := .int .i64 (x k)) (by rfl) (Fx.x_load1 (x := Fx.rv .i64 x) rfl rfl (by kernel_rfl) m6.cel (i := k) (by omega) (by omega) rfl) rfl ?_
      refine Fx.L.val (v := .int .i64 (n)) (by rfl) (Fx.x_move rfl rfl) rfl ?_
      refine Fx.L.val (v := .int .i64 ((x k) + n)) (by rfl) (Fx.x_add rfl rfl rfl (Fx.i64e (by omega) (by omega))) rfl ?_
      refine Fx.L.val (v := .pointer (some ⟨g1, 0, none⟩)) (by rfl) (Fx.x_field rfl rfl Try.underlying48 rfl (s := 6) (by kernel_rfl) rfl rfl) rfl ?_
      refine Fx.L.val (v := .pointer (some ⟨g1, k, none⟩)) (by rfl) (Fx.x_index rfl rfl rfl Try.underlying45 (s := 1) (by kernel_rfl) (by omega) (by omega) (by omega)) rfl ?_
      refine Fx.L.store1 (x := Fx.rv .i64 x) (u := .int .i64 ((x k) + n)) (by rfl) rfl rfl rfl rfl (by rfl) (by kernel_rfl) m6 (i := k) (by omega) fun w6 m11 s6 z4 => ?_
      have m12 : Fx.Blk w6 g1 54 (Fx.rv .i64 (upd x k ((x k) + n))) 48 := m11.to (Fx.updV_rv _ _ _ _)
      have m13 : Fx.Blk w6 g2 54 (Fx.rv .i64 (fun _ => 0)) 48 := m7.stp s6 (by omega)
      have b6 : Below w.heap.size w w6 := s6.below b4 b4.size (by omega)
      refine Fx.L.nil ?_
      refine Fx.seqN ?_
      refine Fx.W.seq ?_
      refine Fx.W.list ?_
      refine Fx.L.val (v := .agg (Fx.varr 54 (Fx.rv .i64 (upd x k ((x k) + n))))) (by rfl) (Fx.x_loadA (x := Fx.rv .i64 (upd x k ((x k) + n))) (y := Fx.rv .i64 (upd x k ((x k) + n))) rfl rfl (by kernel_rfl) (by kernel_rfl) m12.cel (i := 0) (by omega) (by omega) (fun j _ => by rw [Nat.zero_add])) rfl ?_
      refine Fx.L.storeA (x := Fx.rv .i64 (fun _ => 0)) (y := Fx.rv .i64 (upd x k ((x k) + n))) (by rfl) rfl rfl rfl rfl (fun _ _ => rfl) (by kernel_rfl) m13 (i := 0) (by omega) fun w7 m14 s7 z5 => ?_
      have m15 : Fx.Blk w7 g2 54 (Fx.rv .i64 (upd x k ((x k) + n))) 48 := Fx.ovr_all m14
      have m16 : Fx.Blk w7 g1 54 (Fx.rv .i64 (upd x k ((x k) + n))) 48 := m12.stp s7 (by omega)
      have b7 : Below w.heap.size w w7 := s7.below b6 b6.size (by omega)
      refine Fx.L.val (v := .int .i64 (0)) (by rfl) (Fx.x_assign rfl rfl) rfl ?_
      refine Fx.L.nil ?_
      refine Fx.seqN ?_
      refine Fx.W.ret ?_
      refine ⟨.tuple #[.agg (Fx.varr 54 (Fx.rv .i64 (upd x k ((x k) + n)))), .int .i64 (0)], Fx.retV2 Try.results92 ⟨_, rfl, Fx.run_loadV m15.cel (by kernel_rfl) (by kernel_rfl)⟩ (by exact rfl), ?_⟩
      refine ⟨?_, b7⟩
      have hM : giveM x ((k : Int) + 1) n = (upd x k (x k + n), 0) := by
        unfold giveM giveE
        rw [decide_eq_false c27, pl]
        exact turned_fin HM n1 n2 HR rfl (give_fit HM hk c27)
      rw [hM]
      all_goals rfl
  · refine Fx.L.val (v := .bool true) (by rfl) (Fx.x_neqT rfl rfl rfl c16) rfl ?_
    refine Fx.L.nil ?_
    refine Fx.seqN ?_
    refine Fx.W.cond (b := true) rfl (fun _ => ?_) (fun h => nomatch h)
    refine Fx.W.seq ?_
    refine Fx.W.list ?_
    refine Fx.L.val (v := .agg (Fx.varr 54 (Fx.rv .i64 (fun _ => 0)))) (by rfl) (Fx.x_build (vs := []) (places := #[(0, 6), (6, 6), (12, 6), (18, 36)]) (m := 54) (x := Fx.rv .i64 (fun _ => 0)) rfl rfl Try.underlying48 (by kernel_rfl) (by kernel_rfl) (by rfl)) rfl ?_
    refine Fx.L.val (v := .int .i64 (rightE x i n)) (by rfl) (Fx.x_move rfl rfl) rfl ?_
    refine Fx.L.storeA (x := Fx.rv .i64 (fun _ => 0)) (y := Fx.rv .i64 (fun _ => 0)) (by rfl) rfl rfl rfl rfl (fun _ _ => rfl) (by kernel_rfl) m5 (i := 0) (by omega) fun w8 m17 s8 z6 => ?_
    have m18 : Fx.Blk w8 g2 54 (Fx.rv .i64 (fun _ => 0)) 48 := Fx.ovr_all m17
    have m19 : Fx.Blk w8 g1 54 (Fx.rv .i64 x) 48 := m4.stp s8 (by omega)
    have b8 : Below w.heap.size w w8 := s8.below b3 b3.size (by omega)
    refine Fx.L.val (v := .int .i64 (rightE x i n)) (by rfl) (Fx.x_assign rfl rfl) rfl ?_
    refine Fx.L.nil ?_
    refine Fx.seqN ?_
    refine Fx.W.ret ?_
    refine Fx.seqR ?_
    refine ⟨.tuple #[.agg (Fx.varr 54 (Fx.rv .i64 (fun _ => 0))), .int .i64 (rightE x i n)], Fx.retV2 Try.results92 ⟨_, rfl, Fx.run_loadV m18.cel (by kernel_rfl) (by kernel_rfl)⟩ (by exact rfl), ?_⟩
    refine ⟨?_, b8⟩
    have hM : giveM x i n = (zero, rightE x i n) := by
      exact right_no c16
    rw [hM]
    all_goals rfl
set_option maxRecDepth 10000 in
theorem f7_take (x : Nat → Int) (i n : Int) (w : World) :
    Calls Try.prog 93 #[.agg (Fx.varr 54 (Fx.rv .i64 x)), .int .i64 (i), .int .i64 (n)] w fun e w' => e = .returned (.tuple #[.agg (Fx.varr 54 (Fx.rv .i64 (takeM x i n).1)), .int .i64 (takeM x i n).2]) ∧ Below w.heap.size w w' := by
  refine Fx.enter Try.func93 rfl (n := 42) rfl (by rfl) ?_
  refine Fx.W.seq ?_
  refine Fx.W.list ?_
  refine Fx.L.box (m := 54) (y := Fx.rv .i64 x) (by rfl) rfl rfl (Fx.cells_agg _ _) rfl fun g1 w1 eg1 m1 s1 z1 => ?_
  have b1 : Below w.heap.size w w1 := s1.below (Below.refl w.heap.size w) (Below.refl w.heap.size w).size (Below.refl w.heap.size w).size
  have lg1 : w.heap.size ≤ g1 := by rw [eg1]; exact (Below.refl w.heap.size w).size
  have tg1 : g1 < w1.heap.size := m1.lt
  clear eg1
  refine Fx.L.new (m := 54) (y := Fx.rv .i64 (fun _ => 0)) (by rfl) rfl (by kernel_rfl) rfl fun g2 w2 eg2 m2 s2 z2 => ?_
  have m3 : Fx.Blk w2 g1 54 (Fx.rv .i64 x) 48 := m1.stp s2 (Nat.ne_of_lt (m1.lt))
  have b2 : Below w.heap.size w w2 := s2.below b1 b1.size b1.size
  have lg2 : w.heap.size ≤ g2 := by rw [eg2]; exact b1.size
  have ng2m3 : g1 ≠ g2 := by rw [eg2]; exact Nat.ne_of_lt (m1.lt)
  have tg2 : g2 < w2.heap.size := m2.lt
  clear eg2
  refine Fx.L.val (v := .int .i64 (0)) (by rfl) (Fx.x_assign rfl rfl) rfl ?_
  refine Fx.L.nil ?_
  refine Fx.seqN ?_
  refine Fx.W.seq ?_
  refine Fx.W.list ?_
  refine Fx.L.val (v := .agg (Fx.varr 54 (Fx.rv .i64 x))) (by rfl) (Fx.x_loadA (x := Fx.rv .i64 x) (y := Fx.rv .i64 x) rfl rfl (by kernel_rfl) (by kernel_rfl) m3.cel (i := 0) (by omega) (by omega) (fun j _ => by rw [Nat.zero_add])) rfl ?_
  refine Fx.L.val (v := .int .i64 (i)) (by rfl) (Fx.x_move rfl rfl) rfl ?_
  refine Fx.L.val (v := .int .i64 (n)) (by rfl) (Fx.x_move rfl rfl) rfl ?_
  refine Fx.L.call (by rfl) (Fx.r_call (args := [.agg (Fx.varr 54 (Fx.rv .i64 x)), .int .i64 (i), .int .i64 (n)]) rfl rfl Try.func116 rfl rfl) rfl ((f7_right x i n _).mono ?_)
  rintro e w3 ⟨he, hb1⟩
  refine ⟨.int .i64 (rightE x i n), by rw [he], ?_⟩
  clear he
  have s3 := Fx.Stp.of_below hb1
  have m4 : Fx.Blk w3 g1 54 (Fx.rv .i64 x) 48 := m3.stp s3 (Nat.ne_of_lt (m3.lt))
  have m5 : Fx.Blk w3 g2 54 (Fx.rv .i64 (fun _ => 0)) 48 := m2.stp s3 (Nat.ne_of_lt (m2.lt))
  have b3 : Below w.heap.size w w3 := s3.below b2 b2.size b2.size
  refine Fx.L.val (v := .int .i64 (rightE x i n)) (by rfl) (Fx.x_assign rfl rfl) rfl ?_
  refine Fx.L.nil ?_
  refine Fx.seqN ?_
  refine Fx.W.seq ?_
  refine Fx.W.seq ?_
  refine Fx.W.list ?_
  refine Fx.L.val (v := .int .i64 (rightE x i n)) (by rfl) (Fx.x_move rfl rfl) rfl ?_
  by_cases c14 : (rightE x i n) = 0
  · refine Fx.L.val (v := .bool false) (by rfl) (Fx.x_neqF rfl rfl rfl c14) rfl ?_
    refine Fx.L.nil ?_
    refine Fx.seqN ?_
    refine Fx.W.cond (b := false) rfl (fun h => nomatch h) (fun _ => ?_)
    refine Fx.W.skip ?_
    refine Fx.seqN ?_
    refine Fx.W.seq ?_
    refine Fx.W.seq ?_
    obtain ⟨HM, n1, n2, HR⟩ := right_ok c14
    have HE := may_ent HM
    obtain ⟨k, hk, ei, _⟩ := reg_nat HR
    subst ei
    refine Fx.W.list ?_
    refine Fx.L.val (v := .int .i64 (n)) (by rfl) (Fx.x_move rfl rfl) rfl ?_
    refine Fx.L.val (v := .agg (Fx.varr 54 (Fx.rv .i64 x))) (by rfl) (Fx.x_loadA (x := Fx.rv .i64 x) (y := Fx.rv .i64 x) rfl rfl (by kernel_rfl) (by kernel_rfl) m4.cel (i := 0) (by omega) (by omega) (fun j _ => by rw [Nat.zero_add])) rfl ?_
    refine Fx.L.val (v := .int .i64 ((k : Int) + 1)) (by rfl) (Fx.x_move rfl rfl) rfl ?_
    refine Fx.L.call (by rfl) (Fx.r_call (args := [.agg (Fx.varr 54 (Fx.rv .i64 x)), .int .i64 ((k : Int) + 1)]) rfl rfl Try.func91 rfl rfl) rfl ((f7_local x k _ (by omega) (may_ent HM)).mono ?_)
    rintro e w4 ⟨he, hb2⟩
    refine ⟨.int .i64 (L x k), by rw [he], ?_⟩
    clear he
    have s4 := Fx.Stp.of_below hb2
    have m6 : Fx.Blk w4 g1 54 (Fx.rv .i64 x) 48 := m4.stp s4 (Nat.ne_of_lt (m4.lt))
    have m7 : Fx.Blk w4 g2 54 (Fx.rv .i64 (fun _ => 0)) 48 := m5.stp s4 (Nat.ne_of_lt (m5.lt))
    have b4 : Below w.heap.size w w4 := s4.below b3 b3.size b3.size
    by_cases c21 : (L x k) < n
    · refine Fx.L.val (v := .bool true) (by rfl) (Fx.x_gtrT rfl rfl rfl c21) rfl ?_
      refine Fx.L.nil ?_
      refine Fx.seqN ?_
      refine Fx.W.cond (b := true) rfl (fun _ => ?_) (fun h => nomatch h)
      refine Fx.W.seq ?_
      refine Fx.W.list ?_
      refine Fx.L.val (v := .agg (Fx.varr 54 (Fx.rv .i64 (fun _ => 0)))) (by rfl) (Fx.x_build (vs := []) (places := #[(0, 6), (6, 6), (12, 6), (18, 36)]) (m := 54) (x := Fx.rv .i64 (fun _ => 0)) rfl rfl Try.underlying48 (by kernel_rfl) (by kernel_rfl) (by rfl)) rfl ?_
      refine Fx.L.storeA (x := Fx.rv .i64 (fun _ => 0)) (y := Fx.rv .i64 (fun _ => 0)) (by rfl) rfl rfl rfl rfl (fun _ _ => rfl) (by kernel_rfl) m7 (i := 0) (by omega) fun w5 m8 s5 z3 => ?_
      have m9 : Fx.Blk w5 g2 54 (Fx.rv .i64 (fun _ => 0)) 48 := Fx.ovr_all m8
      have m10 : Fx.Blk w5 g1 54 (Fx.rv .i64 x) 48 := m6.stp s5 (by omega)
      have b5 : Below w.heap.size w w5 := s5.below b4 b4.size (by omega)
      refine Fx.L.val (v := .int .i64 (11)) (by rfl) (Fx.x_assign rfl rfl) rfl ?_
      refine Fx.L.nil ?_
      refine Fx.seqN ?_
      refine Fx.W.ret ?_
      refine Fx.seqR ?_
      refine ⟨.tuple #[.agg (Fx.varr 54 (Fx.rv .i64 (fun _ => 0))), .int .i64 (11)], Fx.retV2 Try.results93 ⟨_, rfl, Fx.run_loadV m9.cel (by kernel_rfl) (by kernel_rfl)⟩ (by exact rfl), ?_⟩
      refine ⟨?_, b5⟩
      have hM : takeM x ((k : Int) + 1) n = (zero, 11) := by
        unfold takeM takeE
        rw [localV_L HM k hk, decide_eq_true c21]
        exact turned_err HM n1 n2 HR rfl (by decide)
      rw [hM]
      all_goals rfl
    · refine Fx.L.val (v := .bool false) (by rfl) (Fx.x_gtrF rfl rfl rfl c21) rfl ?_
      refine Fx.L.nil ?_
      refine Fx.seqN ?_
      refine Fx.W.cond (b := false) rfl (fun h => nomatch h) (fun _ => ?_)
      refine Fx.W.skip ?_
      refine Fx.seqN ?_
      refine Fx.W.seq ?_
      refine Fx.W.seq ?_
      have q1 := HE (k + 6)
      refine Fx.W.list ?_
      refine Fx.L.val (v := .int .i64 ((k : Int) + 1)) (by rfl) (Fx.x_move rfl rfl) rfl ?_
      refine Fx.L.val (v := .int .i64 ((k : Int))) (by rfl) (Fx.x_sub rfl rfl rfl (Fx.i64e (by omega) (by omega))) rfl ?_
      refine Fx.L.val (v := .pointer (some ⟨g1, 6, none⟩)) (by rfl) (Fx.x_field rfl rfl Try.underlying48 rfl (s := 6) (by kernel_rfl) rfl (by show _ + 6 = _; omega)) rfl ?_
      refine Fx.L.val (v := .pointer (some ⟨g1, k + 6, none⟩)) (by rfl) (Fx.x_index rfl rfl rfl Try.underlying45 (s := 1) (by kernel_rfl) (by omega) (by omega) (by omega)) rfl ?_
      refine Fx.L.val (v := .int .i64 (x (k + 6))) (by rfl) (Fx.x_load1 (x := Fx.rv .i64 x) rfl rfl (by kernel_rfl) m6.cel (i := k + 6) (by omega) (by omega) rfl) rfl ?_
      refine Fx.L.val (v := .int .i64 (n)) (by rfl) (Fx.x_move rfl rfl) rfl ?_
      refine Fx.L.val (v := .int .i64 ((x (k + 6)) + n)) (by rfl) (Fx.x_add rfl rfl rfl (Fx.i64e (by omega) (by omega))) rfl ?_
      by_cases c30 : 1125899906842624 < ((x (k + 6)) + n)
      · refine Fx.L.val (v := .bool true) (by rfl) (Fx.x_gtrT rfl rfl rfl c30) rfl ?_
        refine Fx.L.nil ?_
        refine Fx.seqN ?_
        refine Fx.W.cond (b := true) rfl (fun _ => ?_) (fun h => nomatch h)
        refine Fx.W.seq ?_
        refine Fx.W.list ?_
        refine Fx.L.val (v := .agg (Fx.varr 54 (Fx.rv .i64 (fun _ => 0)))) (by rfl) (Fx.x_build (vs := []) (places := #[(0, 6), (6, 6), (12, 6), (18, 36)]) (m := 54) (x := Fx.rv .i64 (fun _ => 0)) rfl rfl Try.underlying48 (by kernel_rfl) (by kernel_rfl) (by rfl)) rfl ?_
        refine Fx.L.storeA (x := Fx.rv .i64 (fun _ => 0)) (y := Fx.rv .i64 (fun _ => 0)) (by rfl) rfl rfl rfl rfl (fun _ _ => rfl) (by kernel_rfl) m7 (i := 0) (by omega) fun w6 m11 s6 z4 => ?_
        have m12 : Fx.Blk w6 g2 54 (Fx.rv .i64 (fun _ => 0)) 48 := Fx.ovr_all m11
        have m13 : Fx.Blk w6 g1 54 (Fx.rv .i64 x) 48 := m6.stp s6 (by omega)
        have b6 : Below w.heap.size w w6 := s6.below b4 b4.size (by omega)
        refine Fx.L.val (v := .int .i64 (6)) (by rfl) (Fx.x_assign rfl rfl) rfl ?_
        refine Fx.L.nil ?_
        refine Fx.seqN ?_
        refine Fx.W.ret ?_
        refine Fx.seqR ?_
        refine ⟨.tuple #[.agg (Fx.varr 54 (Fx.rv .i64 (fun _ => 0))), .int .i64 (6)], Fx.retV2 Try.results93 ⟨_, rfl, Fx.run_loadV m12.cel (by kernel_rfl) (by kernel_rfl)⟩ (by exact rfl), ?_⟩
        refine ⟨?_, b6⟩
        have hM : takeM x ((k : Int) + 1) n = (zero, 6) := by
          unfold takeM takeE
          rw [localV_L HM k hk, decide_eq_false c21, pl, Nat.add_comm 6 k]
          exact turned_many HM n1 n2 HR rfl (by omega)
        rw [hM]
        all_goals rfl
      · refine Fx.L.val (v := .bool false) (by rfl) (Fx.x_gtrF rfl rfl rfl c30) rfl ?_
        refine Fx.L.nil ?_
        refine Fx.seqN ?_
        refine Fx.W.cond (b := false) rfl (fun h => nomatch h) (fun _ => ?_)
        refine Fx.W.skip ?_
        refine Fx.seqN ?_
        refine Fx.W.seq ?_
        refine Fx.W.list ?_
        refine Fx.L.val (v := .int .i64 ((k : Int) + 1)) (by rfl) (Fx.x_move rfl rfl) rfl ?_
        refine Fx.L.val (v := .int .i64 ((k : Int))) (by rfl) (Fx.x_sub rfl rfl rfl (Fx.i64e (by omega) (by omega))) rfl ?_
        refine Fx.L.val (v := .pointer (some ⟨g1, 6, none⟩)) (by rfl) (Fx.x_field rfl rfl Try.underlying48 rfl (s := 6) (by kernel_rfl) rfl (by show _ + 6 = _; omega)) rfl ?_
        refine Fx.L.val (v := .pointer (some ⟨g1, k + 6, none⟩)) (by rfl) (Fx.x_index rfl rfl rfl Try.underlying45 (s := 1) (by kernel_rfl) (by omega) (by omega) (by omega)) rfl ?_
        refine Fx.L.val (v := .int .i64 (x (k + 6))) (by rfl) (Fx.x_load1 (x := Fx.rv .i64 x) rfl rfl (by kernel_rfl) m6.cel (i := k + 6) (by omega) (by omega) rfl) rfl ?_
        refine Fx.L.val (v := .int .i64 (n)) (by rfl) (Fx.x_move rfl rfl) rfl ?_
        refine Fx.L.val (v := .int .i64 ((x (k + 6)) + n)) (by rfl) (Fx.x_add rfl rfl rfl (Fx.i64e (by omega) (by omega))) rfl ?_
        refine Fx.L.val (v := .pointer (some ⟨g1, 6, none⟩)) (by rfl) (Fx.x_field rfl rfl Try.underlying48 rfl (s := 6) (by kernel_rfl) rfl (by show _ + 6 = _; omega)) rfl ?_
        refine Fx.L.val (v := .pointer (some ⟨g1, k + 6, none⟩)) (by rfl) (Fx.x_index rfl rfl rfl Try.underlying45 (s := 1) (by kernel_rfl) (by omega) (by omega) (by omega)) rfl ?_
        refine Fx.L.store1 (x := Fx.rv .i64 x) (u := .int .i64 ((x (k + 6)) + n)) (by rfl) rfl rfl rfl rfl (by rfl) (by kernel_rfl) m6 (i := k + 6) (by omega) fun w7 m14 s7 z5 => ?_
        have m15 : Fx.Blk w7 g1 54 (Fx.rv .i64 (upd x (k + 6) ((x (k + 6)) + n))) 48 := m14.to (Fx.updV_rv _ _ _ _)
        have m16 : Fx.Blk w7 g2 54 (Fx.rv .i64 (fun _ => 0)) 48 := m7.stp s7 (by omega)
        have b7 : Below w.heap.size w w7 := s7.below b4 b4.size (by omega)
        refine Fx.L.nil ?_
        refine Fx.seqN ?_
        refine Fx.W.seq ?_
        refine Fx.W.list ?_
        refine Fx.L.val (v := .agg (Fx.varr 54 (Fx.rv .i64 (upd x (k + 6) ((x (k + 6)) + n))))) (by rfl) (Fx.x_loadA (x := Fx.rv .i64 (upd x (k + 6) ((x (k + 6)) + n))) (y := Fx.rv .i64 (upd x (k + 6) ((x (k + 6)) + n))) rfl rfl (by kernel_rfl) (by kernel_rfl) m15.cel (i := 0) (by omega) (by omega) (fun j _ => by rw [Nat.zero_add])) rfl ?_
        refine Fx.L.storeA (x := Fx.rv .i64 (fun _ => 0)) (y := Fx.rv .i64 (upd x (k + 6) ((x (k + 6)) + n))) (by rfl) rfl rfl rfl rfl (fun _ _ => rfl) (by kernel_rfl) m16 (i := 0) (by omega) fun w8 m17 s8 z6 => ?_
        have m18 : Fx.Blk w8 g2 54 (Fx.rv .i64 (upd x (k + 6) ((x (k + 6)) + n))) 48 := Fx.ovr_all m17
        have m19 : Fx.Blk w8 g1 54 (Fx.rv .i64 (upd x (k + 6) ((x (k + 6)) + n))) 48 := m15.stp s8 (by omega)
        have b8 : Below w.heap.size w w8 := s8.below b7 b7.size (by omega)
        refine Fx.L.val (v := .int .i64 (0)) (by rfl) (Fx.x_assign rfl rfl) rfl ?_
        refine Fx.L.nil ?_
        refine Fx.seqN ?_
        refine Fx.W.ret ?_
        refine ⟨.tuple #[.agg (Fx.varr 54 (Fx.rv .i64 (upd x (k + 6) ((x (k + 6)) + n)))), .int .i64 (0)], Fx.retV2 Try.results93 ⟨_, rfl, Fx.run_loadV m18.cel (by kernel_rfl) (by kernel_rfl)⟩ (by exact rfl), ?_⟩
        refine ⟨?_, b8⟩
        have hM : takeM x ((k : Int) + 1) n = (upd x (k + 6) (x (k + 6) + n), 0) := by
          unfold takeM takeE
          rw [localV_L HM k hk, decide_eq_false c21, pl, Nat.add_comm 6 k]
          exact turned_fin HM n1 n2 HR rfl (by omega)
        rw [hM]
        all_goals rfl
  · refine Fx.L.val (v := .bool true) (by rfl) (Fx.x_neqT rfl rfl rfl c14) rfl ?_
    refine Fx.L.nil ?_
    refine Fx.seqN ?_
    refine Fx.W.cond (b := true) rfl (fun _ => ?_) (fun h => nomatch h)
    refine Fx.W.seq ?_
    refine Fx.W.list ?_
    refine Fx.L.val (v := .agg (Fx.varr 54 (Fx.rv .i64 (fun _ => 0)))) (by rfl) (Fx.x_build (vs := []) (places := #[(0, 6), (6, 6), (12, 6), (18, 36)]) (m := 54) (x := Fx.rv .i64 (fun _ => 0)) rfl rfl Try.underlying48 (by kernel_rfl) (by kernel_rfl) (by rfl)) rfl ?_
    refine Fx.L.val (v := .int .i64 (rightE x i n)) (by rfl) (Fx.x_move rfl rfl) rfl ?_
    refine Fx.L.storeA (x := Fx.rv .i64 (fun _ => 0)) (y := Fx.rv .i64 (fun _ => 0)) (by rfl) rfl rfl rfl rfl (fun _ _ => rfl) (by kernel_rfl) m5 (i := 0) (by omega) fun w9 m20 s9 z7 => ?_
    have m21 : Fx.Blk w9 g2 54 (Fx.rv .i64 (fun _ => 0)) 48 := Fx.ovr_all m20
    have m22 : Fx.Blk w9 g1 54 (Fx.rv .i64 x) 48 := m4.stp s9 (by omega)
    have b9 : Below w.heap.size w w9 := s9.below b3 b3.size (by omega)
    refine Fx.L.val (v := .int .i64 (rightE x i n)) (by rfl) (Fx.x_assign rfl rfl) rfl ?_
    refine Fx.L.nil ?_
    refine Fx.seqN ?_
    refine Fx.W.ret ?_
    refine Fx.seqR ?_
    refine ⟨.tuple #[.agg (Fx.varr 54 (Fx.rv .i64 (fun _ => 0))), .int .i64 (rightE x i n)], Fx.retV2 Try.results93 ⟨_, rfl, Fx.run_loadV m21.cel (by kernel_rfl) (by kernel_rfl)⟩ (by exact rfl), ?_⟩
    refine ⟨?_, b9⟩
    have hM : takeM x i n = (zero, rightE x i n) := by
      exact right_no c14
    rw [hM]
    all_goals rfl
set_option maxRecDepth 10000 in
theorem f7_free (x : Nat → Int) (i n : Int) (w : World) :
    Calls Try.prog 94 #[.agg (Fx.varr 54 (Fx.rv .i64 x)), .int .i64 (i), .int .i64 (n)] w fun e w' => e = .returned (.tuple #[.agg (Fx.varr 54 (Fx.rv .i64 (freeM x i n).1)), .int .i64 (freeM x i n).2]) ∧ Below w.heap.size w w' := by
  refine Fx.enter Try.func94 rfl (n := 41) rfl (by rfl) ?_
  refine Fx.W.seq ?_
  refine Fx.W.list ?_
  refine Fx.L.box (m := 54) (y := Fx.rv .i64 x) (by rfl) rfl rfl (Fx.cells_agg _ _) rfl fun g1 w1 eg1 m1 s1 z1 => ?_
  have b1 : Below w.heap.size w w1 := s1.below (Below.refl w.heap.size w) (Below.refl w.heap.size w).size (Below.refl w.heap.size w).size
  have lg1 : w.heap.size ≤ g1 := by rw [eg1]; exact (Below.refl w.heap.size w).size
  have tg1 : g1 < w1.heap.size := m1.lt
  clear eg1
  refine Fx.L.new (m := 54) (y := Fx.rv .i64 (fun _ => 0)) (by rfl) rfl (by kernel_rfl) rfl fun g2 w2 eg2 m2 s2 z2 => ?_
  have m3 : Fx.Blk w2 g1 54 (Fx.rv .i64 x) 48 := m1.stp s2 (Nat.ne_of_lt (m1.lt))
  have b2 : Below w.heap.size w w2 := s2.below b1 b1.size b1.size
  have lg2 : w.heap.size ≤ g2 := by rw [eg2]; exact b1.size
  have ng2m3 : g1 ≠ g2 := by rw [eg2]; exact Nat.ne_of_lt (m1.lt)
  have tg2 : g2 < w2.heap.size := m2.lt
  clear eg2
  refine Fx.L.val (v := .int .i64 (0)) (by rfl) (Fx.x_assign rfl rfl) rfl ?_
  refine Fx.L.nil ?_
  refine Fx.seqN ?_
  refine Fx.W.seq ?_
  refine Fx.W.list ?_
  refine Fx.L.val (v := .agg (Fx.varr 54 (Fx.rv .i64 x))) (by rfl) (Fx.x_loadA (x := Fx.rv .i64 x) (y := Fx.rv .i64 x) rfl rfl (by kernel_rfl) (by kernel_rfl) m3.cel (i := 0) (by omega) (by omega) (fun j _ => by rw [Nat.zero_add])) rfl ?_
  refine Fx.L.val (v := .int .i64 (i)) (by rfl) (Fx.x_move rfl rfl) rfl ?_
  refine Fx.L.val (v := .int .i64 (n)) (by rfl) (Fx.x_move rfl rfl) rfl ?_
  refine Fx.L.call (by rfl) (Fx.r_call (args := [.agg (Fx.varr 54 (Fx.rv .i64 x)), .int .i64 (i), .int .i64 (n)]) rfl rfl Try.func116 rfl rfl) rfl ((f7_right x i n _).mono ?_)
  rintro e w3 ⟨he, hb1⟩
  refine ⟨.int .i64 (rightE x i n), by rw [he], ?_⟩
  clear he
  have s3 := Fx.Stp.of_below hb1
  have m4 : Fx.Blk w3 g1 54 (Fx.rv .i64 x) 48 := m3.stp s3 (Nat.ne_of_lt (m3.lt))
  have m5 : Fx.Blk w3 g2 54 (Fx.rv .i64 (fun _ => 0)) 48 := m2.stp s3 (Nat.ne_of_lt (m2.lt))
  have b3 : Below w.heap.size w w3 := s3.below b2 b2.size b2.size
  refine Fx.L.val (v := .int .i64 (rightE x i n)) (by rfl) (Fx.x_assign rfl rfl) rfl ?_
  refine Fx.L.nil ?_
  refine Fx.seqN ?_
  refine Fx.W.seq ?_
  refine Fx.W.seq ?_
  refine Fx.W.list ?_
  refine Fx.L.val (v := .int .i64 (rightE x i n)) (by rfl) (Fx.x_move rfl rfl) rfl ?_
  by_cases c14 : (rightE x i n) = 0
  · refine Fx.L.val (v := .bool false) (by rfl) (Fx.x_neqF rfl rfl rfl c14) rfl ?_
    refine Fx.L.nil ?_
    refine Fx.seqN ?_
    refine Fx.W.cond (b := false) rfl (fun h => nomatch h) (fun _ => ?_)
    refine Fx.W.skip ?_
    refine Fx.seqN ?_
    refine Fx.W.seq ?_
    refine Fx.W.seq ?_
    obtain ⟨HM, n1, n2, HR⟩ := right_ok c14
    have HE := may_ent HM
    obtain ⟨k, hk, ei, _⟩ := reg_nat HR
    subst ei
    have q1 := HE (k + 6)
    have q2 := HE (k + 12)
    -- region 4 draws
    refine Fx.W.quiet (fun v1 => ∃ q, v1 = World.drewN w3 q) (by kernel_rfl) (by kernel_rfl) ⟨1, rfl⟩ ?_
    refine Fx.Qt.val (v := .int .i64 (n)) (by rfl) (fun v1 hv1 => Fx.x_move rfl rfl) rfl ?_
    refine Fx.Qt.val (v := .int .i64 ((k : Int) + 1)) (by rfl) (fun v1 hv1 => Fx.x_move rfl rfl) rfl ?_
    refine Fx.Qt.val (v := .int .i64 ((k : Int))) (by rfl) (fun v1 hv1 => Fx.x_sub rfl rfl rfl (Fx.i64e (by omega) (by omega))) rfl ?_
    refine Fx.Qt.val (v := .pointer (some ⟨g1, 6, none⟩)) (by rfl) (fun v1 hv1 => Fx.x_field rfl rfl Try.underlying48 rfl (s := 6) (by kernel_rfl) rfl (by show _ + 6 = _; omega)) rfl ?_
    refine Fx.Qt.val (v := .pointer (some ⟨g1, k + 6, none⟩)) (by rfl) (fun v1 hv1 => Fx.x_index rfl rfl rfl Try.underlying45 (s := 1) (by kernel_rfl) (by omega) (by omega) (by omega)) rfl ?_
    refine Fx.Qt.val (v := .int .i64 (x (k + 6))) (by rfl) (fun v1 hv1 => Fx.x_load1 (x := Fx.rv .i64 x) rfl rfl (by kernel_rfl) (by obtain ⟨q, rfl⟩ := hv1; exact m4.cel) (i := k + 6) (by omega) (by omega) rfl) rfl ?_
    refine Fx.Qt.val (v := .int .i64 ((k : Int) + 1)) (by rfl) (fun v1 hv1 => Fx.x_move rfl rfl) rfl ?_
    refine Fx.Qt.val (v := .int .i64 ((k : Int))) (by rfl) (fun v1 hv1 => Fx.x_sub rfl rfl rfl (Fx.i64e (by omega) (by omega))) rfl ?_
    refine Fx.Qt.val (v := .pointer (some ⟨g1, 12, none⟩)) (by rfl) (fun v1 hv1 => Fx.x_field rfl rfl Try.underlying48 rfl (s := 6) (by kernel_rfl) rfl (by show _ + 12 = _; omega)) rfl ?_
    refine Fx.Qt.val (v := .pointer (some ⟨g1, k + 12, none⟩)) (by rfl) (fun v1 hv1 => Fx.x_index rfl rfl rfl Try.underlying45 (s := 1) (by kernel_rfl) (by omega) (by omega) (by omega)) rfl ?_
    refine Fx.Qt.val (v := .int .i64 (x (k + 12))) (by rfl) (fun v1 hv1 => Fx.x_load1 (x := Fx.rv .i64 x) rfl rfl (by kernel_rfl) (by obtain ⟨q, rfl⟩ := hv1; exact m4.cel) (i := k + 12) (by omega) (by omega) rfl) rfl ?_
    refine Fx.Qt.val (v := .int .i64 ((x (k + 6)) - (x (k + 12)))) (by rfl) (fun v1 hv1 => Fx.x_sub rfl rfl rfl (Fx.i64e (by omega) (by omega))) rfl ?_
    by_cases c29 : ((x (k + 6)) - (x (k + 12))) < n
    · refine Fx.Qt.val (v := .bool true) (by rfl) (fun v1 hv1 => Fx.x_gtrT rfl rfl rfl c29) rfl ?_
      refine Fx.Qt.nil ?_
      rintro _ ⟨q, rfl⟩
      obtain ⟨wq1, ewq1⟩ : ∃ v1, v1 = World.drewN w3 q := ⟨_, rfl⟩
      rw [← ewq1]
      have s4 : Fx.Stp w3.heap.size w3 wq1 := by rw [ewq1]; exact Fx.Stp.of_below (bdrN w3 q)
      have m6 : Fx.Blk wq1 g1 54 (Fx.rv .i64 x) 48 := m4.stp s4 (by have := m4.lt; omega)
      have m7 : Fx.Blk wq1 g2 54 (Fx.rv .i64 (fun _ => 0)) 48 := m5.stp s4 (by have := m5.lt; omega)
      have b4 : Below w.heap.size w wq1 := s4.below b3 b3.size b3.size
      clear ewq1
      refine Fx.seqN ?_
      refine Fx.W.cond (b := true) rfl (fun _ => ?_) (fun h => nomatch h)
      refine Fx.W.seq ?_
      refine Fx.W.list ?_
      refine Fx.L.val (v := .agg (Fx.varr 54 (Fx.rv .i64 (fun _ => 0)))) (by rfl) (Fx.x_build (vs := []) (places := #[(0, 6), (6, 6), (12, 6), (18, 36)]) (m := 54) (x := Fx.rv .i64 (fun _ => 0)) rfl rfl Try.underlying48 (by kernel_rfl) (by kernel_rfl) (by rfl)) rfl ?_
      refine Fx.L.storeA (x := Fx.rv .i64 (fun _ => 0)) (y := Fx.rv .i64 (fun _ => 0)) (by rfl) rfl rfl rfl rfl (fun _ _ => rfl) (by kernel_rfl) m7 (i := 0) (by omega) fun w4 m8 s5 z3 => ?_
      have m9 : Fx.Blk w4 g2 54 (Fx.rv .i64 (fun _ => 0)) 48 := Fx.ovr_all m8
      have m10 : Fx.Blk w4 g1 54 (Fx.rv .i64 x) 48 := m6.stp s5 (by omega)
      have b5 : Below w.heap.size w w4 := s5.below b4 b4.size (by omega)
      refine Fx.L.val (v := .int .i64 (12)) (by rfl) (Fx.x_assign rfl rfl) rfl ?_
      refine Fx.L.nil ?_
      refine Fx.seqN ?_
      refine Fx.W.ret ?_
      refine Fx.seqR ?_
      refine ⟨.tuple #[.agg (Fx.varr 54 (Fx.rv .i64 (fun _ => 0))), .int .i64 (12)], Fx.retV2 Try.results94 ⟨_, rfl, Fx.run_loadV m9.cel (by kernel_rfl) (by kernel_rfl)⟩ (by exact rfl), ?_⟩
      refine ⟨?_, b5⟩
      have hM : freeM x ((k : Int) + 1) n = (zero, 12) := by
        unfold freeM freeE C F
        rw [pl, Nat.add_comm 6 k, Nat.add_comm 12 k, decide_eq_true c29]
        exact turned_err HM n1 n2 HR rfl (by decide)
      rw [hM]
      all_goals rfl
    · refine Fx.Qt.val (v := .bool false) (by rfl) (fun v1 hv1 => Fx.x_gtrF rfl rfl rfl c29) rfl ?_
      refine Fx.Qt.nil ?_
      rintro _ ⟨q, rfl⟩
      obtain ⟨wq2, ewq2⟩ : ∃ v1, v1 = World.drewN w3 q := ⟨_, rfl⟩
      rw [← ewq2]
      have s6 : Fx.Stp w3.heap.size w3 wq2 := by rw [ewq2]; exact Fx.Stp.of_below (bdrN w3 q)
      have m11 : Fx.Blk wq2 g1 54 (Fx.rv .i64 x) 48 := m4.stp s6 (by have := m4.lt; omega)
      have m12 : Fx.Blk wq2 g2 54 (Fx.rv .i64 (fun _ => 0)) 48 := m5.stp s6 (by have := m5.lt; omega)
      have b6 : Below w.heap.size w wq2 := s6.below b3 b3.size b3.size
      clear ewq2
      refine Fx.seqN ?_
      refine Fx.W.cond (b := false) rfl (fun h => nomatch h) (fun _ => ?_)
      refine Fx.W.skip ?_
      refine Fx.seqN ?_
      refine Fx.W.seq ?_
      refine Fx.W.list ?_
      refine Fx.L.val (v := .int .i64 ((k : Int) + 1)) (by rfl) (Fx.x_move rfl rfl) rfl ?_
      refine Fx.L.val (v := .int .i64 ((k : Int))) (by rfl) (Fx.x_sub rfl rfl rfl (Fx.i64e (by omega) (by omega))) rfl ?_
      refine Fx.L.val (v := .pointer (some ⟨g1, 12, none⟩)) (by rfl) (Fx.x_field rfl rfl Try.underlying48 rfl (s := 6) (by kernel_rfl) rfl (by show _ + 12 = _; omega)) rfl ?_
      refine Fx.L.val (v := .pointer (some ⟨g1, k + 12, none⟩)) (by rfl) (Fx.x_index rfl rfl rfl Try.underlying45 (s := 1) (by kernel_rfl) (by omega) (by omega) (by omega)) rfl ?_
      refine Fx.L.val (v := .int .i64 (x (k + 12))) (by rfl) (Fx.x_load1 (x := Fx.rv .i64 x) rfl rfl (by kernel_rfl) m11.cel (i := k + 12) (by omega) (by omega) rfl) rfl ?_
      refine Fx.L.val (v := .int .i64 (n)) (by rfl) (Fx.x_move rfl rfl) rfl ?_
      refine Fx.L.val (v := .int .i64 ((x (k + 12)) + n)) (by rfl) (Fx.x_add rfl rfl rfl (Fx.i64e (by omega) (by omega))) rfl ?_
      refine Fx.L.val (v := .pointer (some ⟨g1, 12, none⟩)) (by rfl) (Fx.x_field rfl rfl Try.underlying48 rfl (s := 6) (by kernel_rfl) rfl (by show _ + 12 = _; omega)) rfl ?_
      refine Fx.L.val (v := .pointer (some ⟨g1, k + 12, none⟩)) (by rfl) (Fx.x_index rfl rfl rfl Try.underlying45 (s := 1) (by kernel_rfl) (by omega) (by omega) (by omega)) rfl ?_
      refine Fx.L.store1 (x := Fx.rv .i64 x) (u := .int .i64 ((x (k + 12)) + n)) (by rfl) rfl rfl rfl rfl (by rfl) (by kernel_rfl) m11 (i := k + 12) (by omega) fun w5 m13 s7 z4 => ?_
      have m14 : Fx.Blk w5 g1 54 (Fx.rv .i64 (upd x (k + 12) ((x (k + 12)) + n))) 48 := m13.to (Fx.updV_rv _ _ _ _)
      have m15 : Fx.Blk w5 g2 54 (Fx.rv .i64 (fun _ => 0)) 48 := m12.stp s7 (by omega)
      have b7 : Below w.heap.size w w5 := s7.below b6 b6.size (by omega)
      refine Fx.L.nil ?_
      refine Fx.seqN ?_
      refine Fx.W.seq ?_
      refine Fx.W.list ?_
      refine Fx.L.val (v := .agg (Fx.varr 54 (Fx.rv .i64 (upd x (k + 12) ((x (k + 12)) + n))))) (by rfl) (Fx.x_loadA (x := Fx.rv .i64 (upd x (k + 12) ((x (k + 12)) + n))) (y := Fx.rv .i64 (upd x (k + 12) ((x (k + 12)) + n))) rfl rfl (by kernel_rfl) (by kernel_rfl) m14.cel (i := 0) (by omega) (by omega) (fun j _ => by rw [Nat.zero_add])) rfl ?_
      refine Fx.L.storeA (x := Fx.rv .i64 (fun _ => 0)) (y := Fx.rv .i64 (upd x (k + 12) ((x (k + 12)) + n))) (by rfl) rfl rfl rfl rfl (fun _ _ => rfl) (by kernel_rfl) m15 (i := 0) (by omega) fun w6 m16 s8 z5 => ?_
      have m17 : Fx.Blk w6 g2 54 (Fx.rv .i64 (upd x (k + 12) ((x (k + 12)) + n))) 48 := Fx.ovr_all m16
      have m18 : Fx.Blk w6 g1 54 (Fx.rv .i64 (upd x (k + 12) ((x (k + 12)) + n))) 48 := m14.stp s8 (by omega)
      have b8 : Below w.heap.size w w6 := s8.below b7 b7.size (by omega)
      refine Fx.L.val (v := .int .i64 (0)) (by rfl) (Fx.x_assign rfl rfl) rfl ?_
      refine Fx.L.nil ?_
      refine Fx.seqN ?_
      refine Fx.W.ret ?_
      refine ⟨.tuple #[.agg (Fx.varr 54 (Fx.rv .i64 (upd x (k + 12) ((x (k + 12)) + n)))), .int .i64 (0)], Fx.retV2 Try.results94 ⟨_, rfl, Fx.run_loadV m17.cel (by kernel_rfl) (by kernel_rfl)⟩ (by exact rfl), ?_⟩
      refine ⟨?_, b8⟩
      have hM : freeM x ((k : Int) + 1) n = (upd x (k + 12) (x (k + 12) + n), 0) := by
        unfold freeM freeE C F
        rw [pl, Nat.add_comm 6 k, Nat.add_comm 12 k, decide_eq_false c29]
        exact turned_fin HM n1 n2 HR rfl (by have := free_fit HM hk; omega)
      rw [hM]
      all_goals rfl
  · refine Fx.L.val (v := .bool true) (by rfl) (Fx.x_neqT rfl rfl rfl c14) rfl ?_
    refine Fx.L.nil ?_
    refine Fx.seqN ?_
    refine Fx.W.cond (b := true) rfl (fun _ => ?_) (fun h => nomatch h)
    refine Fx.W.seq ?_
    refine Fx.W.list ?_
    refine Fx.L.val (v := .agg (Fx.varr 54 (Fx.rv .i64 (fun _ => 0)))) (by rfl) (Fx.x_build (vs := []) (places := #[(0, 6), (6, 6), (12, 6), (18, 36)]) (m := 54) (x := Fx.rv .i64 (fun _ => 0)) rfl rfl Try.underlying48 (by kernel_rfl) (by kernel_rfl) (by rfl)) rfl ?_
    refine Fx.L.val (v := .int .i64 (rightE x i n)) (by rfl) (Fx.x_move rfl rfl) rfl ?_
    refine Fx.L.storeA (x := Fx.rv .i64 (fun _ => 0)) (y := Fx.rv .i64 (fun _ => 0)) (by rfl) rfl rfl rfl rfl (fun _ _ => rfl) (by kernel_rfl) m5 (i := 0) (by omega) fun w7 m19 s9 z6 => ?_
    have m20 : Fx.Blk w7 g2 54 (Fx.rv .i64 (fun _ => 0)) 48 := Fx.ovr_all m19
    have m21 : Fx.Blk w7 g1 54 (Fx.rv .i64 x) 48 := m4.stp s9 (by omega)
    have b9 : Below w.heap.size w w7 := s9.below b3 b3.size (by omega)
    refine Fx.L.val (v := .int .i64 (rightE x i n)) (by rfl) (Fx.x_assign rfl rfl) rfl ?_
    refine Fx.L.nil ?_
    refine Fx.seqN ?_
    refine Fx.W.ret ?_
    refine Fx.seqR ?_
    refine ⟨.tuple #[.agg (Fx.varr 54 (Fx.rv .i64 (fun _ => 0))), .int .i64 (rightE x i n)], Fx.retV2 Try.results94 ⟨_, rfl, Fx.run_loadV m20.cel (by kernel_rfl) (by kernel_rfl)⟩ (by exact rfl), ?_⟩
    refine ⟨?_, b9⟩
    have hM : freeM x i n = (zero, rightE x i n) := by
      exact right_no c14
    rw [hM]
    all_goals rfl
set_option maxRecDepth 10000 in
theorem f7_move (x : Nat → Int) (i j n : Int) (w : World) :
    Calls Try.prog 95 #[.agg (Fx.varr 54 (Fx.rv .i64 x)), .int .i64 (i), .int .i64 (j), .int .i64 (n)] w fun e w' => e = .returned (.tuple #[.agg (Fx.varr 54 (Fx.rv .i64 (moveM x i j n).1)), .int .i64 (moveM x i j n).2]) ∧ Below w.heap.size w w' := by
  refine Fx.enter Try.func95 rfl (n := 59) rfl (by rfl) ?_
  refine Fx.W.seq ?_
  refine Fx.W.list ?_
  refine Fx.L.box (m := 54) (y := Fx.rv .i64 x) (by rfl) rfl rfl (Fx.cells_agg _ _) rfl fun g1 w1 eg1 m1 s1 z1 => ?_
  have b1 : Below w.heap.size w w1 := s1.below (Below.refl w.heap.size w) (Below.refl w.heap.size w).size (Below.refl w.heap.size w).size
  have lg1 : w.heap.size ≤ g1 := by rw [eg1]; exact (Below.refl w.heap.size w).size
  have tg1 : g1 < w1.heap.size := m1.lt
  clear eg1
  refine Fx.L.new (m := 54) (y := Fx.rv .i64 (fun _ => 0)) (by rfl) rfl (by kernel_rfl) rfl fun g2 w2 eg2 m2 s2 z2 => ?_
  have m3 : Fx.Blk w2 g1 54 (Fx.rv .i64 x) 48 := m1.stp s2 (Nat.ne_of_lt (m1.lt))
  have b2 : Below w.heap.size w w2 := s2.below b1 b1.size b1.size
  have lg2 : w.heap.size ≤ g2 := by rw [eg2]; exact b1.size
  have ng2m3 : g1 ≠ g2 := by rw [eg2]; exact Nat.ne_of_lt (m1.lt)
  have tg2 : g2 < w2.heap.size := m2.lt
  clear eg2
  refine Fx.L.val (v := .int .i64 (0)) (by rfl) (Fx.x_assign rfl rfl) rfl ?_
  refine Fx.L.nil ?_
  refine Fx.seqN ?_
  refine Fx.W.seq ?_
  refine Fx.W.list ?_
  refine Fx.L.val (v := .agg (Fx.varr 54 (Fx.rv .i64 x))) (by rfl) (Fx.x_loadA (x := Fx.rv .i64 x) (y := Fx.rv .i64 x) rfl rfl (by kernel_rfl) (by kernel_rfl) m3.cel (i := 0) (by omega) (by omega) (fun j _ => by rw [Nat.zero_add])) rfl ?_
  refine Fx.L.val (v := .int .i64 (i)) (by rfl) (Fx.x_move rfl rfl) rfl ?_
  refine Fx.L.val (v := .int .i64 (n)) (by rfl) (Fx.x_move rfl rfl) rfl ?_
  refine Fx.L.call (by rfl) (Fx.r_call (args := [.agg (Fx.varr 54 (Fx.rv .i64 x)), .int .i64 (i), .int .i64 (n)]) rfl rfl Try.func116 rfl rfl) rfl ((f7_right x i n _).mono ?_)
  rintro e w3 ⟨he, hb1⟩
  refine ⟨.int .i64 (rightE x i n), by rw [he], ?_⟩
  clear he
  have s3 := Fx.Stp.of_below hb1
  have m4 : Fx.Blk w3 g1 54 (Fx.rv .i64 x) 48 := m3.stp s3 (Nat.ne_of_lt (m3.lt))
  have m5 : Fx.Blk w3 g2 54 (Fx.rv .i64 (fun _ => 0)) 48 := m2.stp s3 (Nat.ne_of_lt (m2.lt))
  have b3 : Below w.heap.size w w3 := s3.below b2 b2.size b2.size
  refine Fx.L.val (v := .int .i64 (rightE x i n)) (by rfl) (Fx.x_assign rfl rfl) rfl ?_
  refine Fx.L.nil ?_
  refine Fx.seqN ?_
  refine Fx.W.seq ?_
  refine Fx.W.seq ?_
  refine Fx.W.list ?_
  refine Fx.L.val (v := .int .i64 (rightE x i n)) (by rfl) (Fx.x_move rfl rfl) rfl ?_
  by_cases c16 : (rightE x i n) = 0
  · refine Fx.L.val (v := .bool false) (by rfl) (Fx.x_neqF rfl rfl rfl c16) rfl ?_
    refine Fx.L.nil ?_
    refine Fx.seqN ?_
    refine Fx.W.cond (b := false) rfl (fun h => nomatch h) (fun _ => ?_)
    refine Fx.W.skip ?_
    refine Fx.seqN ?_
    refine Fx.W.seq ?_
    refine Fx.W.seq ?_
    obtain ⟨HM, n1, n2, HR⟩ := right_ok c16
    have HE := may_ent HM
    obtain ⟨k, hk, ei, _⟩ := reg_nat HR
    subst ei
    refine Fx.W.list ?_
    refine Fx.L.val (v := .int .i64 (j)) (by rfl) (Fx.x_move rfl rfl) rfl ?_
    by_cases c20 : (regB j) = true
    · refine Fx.L.call (by rfl) (Fx.r_call (args := [.int .i64 (j)]) rfl rfl Try.func96 rfl rfl) rfl ((f7_region j _).mono ?_)
      rintro e v1 ⟨he, rfl⟩
      refine ⟨.bool true, by rw [he, c20], ?_⟩
      clear he
      refine Fx.L.val (v := .bool false) (by rfl) (Fx.x_notF rfl rfl) rfl ?_
      refine Fx.L.nil ?_
      refine Fx.seqN ?_
      refine Fx.W.cond (b := false) rfl (fun h => nomatch h) (fun _ => ?_)
      refine Fx.W.skip ?_
      refine Fx.seqN ?_
      refine Fx.W.seq ?_
      refine Fx.W.seq ?_
      obtain ⟨q, hq, ej, _⟩ := reg_nat c20
      subst ej
      refine Fx.W.list ?_
      refine Fx.L.val (v := .int .i64 ((k : Int) + 1)) (by rfl) (Fx.x_move rfl rfl) rfl ?_
      refine Fx.L.val (v := .int .i64 ((q : Int) + 1)) (by rfl) (Fx.x_move rfl rfl) rfl ?_
      by_cases c25 : ((k : Int) + 1) = ((q : Int) + 1)
      · refine Fx.L.val (v := .bool true) (by rfl) (Fx.x_eqlT rfl rfl rfl c25) rfl ?_
        refine Fx.L.nil ?_
        refine Fx.seqN ?_
        refine Fx.W.cond (b := true) rfl (fun _ => ?_) (fun h => nomatch h)
        refine Fx.W.seq ?_
        refine Fx.W.list ?_
        refine Fx.L.val (v := .agg (Fx.varr 54 (Fx.rv .i64 (fun _ => 0)))) (by rfl) (Fx.x_build (vs := []) (places := #[(0, 6), (6, 6), (12, 6), (18, 36)]) (m := 54) (x := Fx.rv .i64 (fun _ => 0)) rfl rfl Try.underlying48 (by kernel_rfl) (by kernel_rfl) (by rfl)) rfl ?_
        refine Fx.L.storeA (x := Fx.rv .i64 (fun _ => 0)) (y := Fx.rv .i64 (fun _ => 0)) (by rfl) rfl rfl rfl rfl (fun _ _ => rfl) (by kernel_rfl) m5 (i := 0) (by omega) fun w4 m6 s4 z3 => ?_
        have m7 : Fx.Blk w4 g2 54 (Fx.rv .i64 (fun _ => 0)) 48 := Fx.ovr_all m6
        have m8 : Fx.Blk w4 g1 54 (Fx.rv .i64 x) 48 := m4.stp s4 (by omega)
        have b4 : Below w.heap.size w w4 := s4.below b3 b3.size (by omega)
        refine Fx.L.val (v := .int .i64 (1)) (by rfl) (Fx.x_assign rfl rfl) rfl ?_
        refine Fx.L.nil ?_
        refine Fx.seqN ?_
        refine Fx.W.ret ?_
        refine Fx.seqR ?_
        refine ⟨.tuple #[.agg (Fx.varr 54 (Fx.rv .i64 (fun _ => 0))), .int .i64 (1)], Fx.retV2 Try.results95 ⟨_, rfl, Fx.run_loadV m7.cel (by kernel_rfl) (by kernel_rfl)⟩ (by exact rfl), ?_⟩
        refine ⟨?_, b4⟩
        have hM : moveM x ((k : Int) + 1) ((q : Int) + 1) n = (zero, 1) := by
          unfold moveM moveE
          rw [if_pos c25]
          exact turned_err HM n1 n2 (by rw [HR, c20]; rfl) rfl (by decide)
        rw [hM]
        all_goals rfl
      · refine Fx.L.val (v := .bool false) (by rfl) (Fx.x_eqlF rfl rfl rfl c25) rfl ?_
        refine Fx.L.nil ?_
        refine Fx.seqN ?_
        refine Fx.W.cond (b := false) rfl (fun h => nomatch h) (fun _ => ?_)
        refine Fx.W.skip ?_
        refine Fx.seqN ?_
        refine Fx.W.seq ?_
        refine Fx.W.seq ?_
        refine Fx.W.list ?_
        refine Fx.L.val (v := .int .i64 (n)) (by rfl) (Fx.x_move rfl rfl) rfl ?_
        refine Fx.L.val (v := .agg (Fx.varr 54 (Fx.rv .i64 x))) (by rfl) (Fx.x_loadA (x := Fx.rv .i64 x) (y := Fx.rv .i64 x) rfl rfl (by kernel_rfl) (by kernel_rfl) m4.cel (i := 0) (by omega) (by omega) (fun j _ => by rw [Nat.zero_add])) rfl ?_
        refine Fx.L.val (v := .int .i64 ((k : Int) + 1)) (by rfl) (Fx.x_move rfl rfl) rfl ?_
        refine Fx.L.call (by rfl) (Fx.r_call (args := [.agg (Fx.varr 54 (Fx.rv .i64 x)), .int .i64 ((k : Int) + 1)]) rfl rfl Try.func91 rfl rfl) rfl ((f7_local x k _ (by omega) (may_ent HM)).mono ?_)
        rintro e w5 ⟨he, hb2⟩
        refine ⟨.int .i64 (L x k), by rw [he], ?_⟩
        clear he
        have s5 := Fx.Stp.of_below hb2
        have m9 : Fx.Blk w5 g1 54 (Fx.rv .i64 x) 48 := m4.stp s5 (Nat.ne_of_lt (m4.lt))
        have m10 : Fx.Blk w5 g2 54 (Fx.rv .i64 (fun _ => 0)) 48 := m5.stp s5 (Nat.ne_of_lt (m5.lt))
        have b5 : Below w.heap.size w w5 := s5.below b3 b3.size b3.size
        by_cases c31 : (L x k) < n
        · refine Fx.L.val (v := .bool true) (by rfl) (Fx.x_gtrT rfl rfl rfl c31) rfl ?_
          refine Fx.L.nil ?_
          refine Fx.seqN ?_
          refine Fx.W.cond (b := true) rfl (fun _ => ?_) (fun h => nomatch h)
          refine Fx.W.seq ?_
          refine Fx.W.list ?_
          refine Fx.L.val (v := .agg (Fx.varr 54 (Fx.rv .i64 (fun _ => 0)))) (by rfl) (Fx.x_build (vs := []) (places := #[(0, 6), (6, 6), (12, 6), (18, 36)]) (m := 54) (x := Fx.rv .i64 (fun _ => 0)) rfl rfl Try.underlying48 (by kernel_rfl) (by kernel_rfl) (by rfl)) rfl ?_
          refine Fx.L.storeA (x := Fx.rv .i64 (fun _ => 0)) (y := Fx.rv .i64 (fun _ => 0)) (by rfl) rfl rfl rfl rfl (fun _ _ => rfl) (by kernel_rfl) m10 (i := 0) (by omega) fun w6 m11 s6 z4 => ?_
          have m12 : Fx.Blk w6 g2 54 (Fx.rv .i64 (fun _ => 0)) 48 := Fx.ovr_all m11
          have m13 : Fx.Blk w6 g1 54 (Fx.rv .i64 x) 48 := m9.stp s6 (by omega)
          have b6 : Below w.heap.size w w6 := s6.below b5 b5.size (by omega)
          refine Fx.L.val (v := .int .i64 (11)) (by rfl) (Fx.x_assign rfl rfl) rfl ?_
          refine Fx.L.nil ?_
          refine Fx.seqN ?_
          refine Fx.W.ret ?_
          refine Fx.seqR ?_
          refine ⟨.tuple #[.agg (Fx.varr 54 (Fx.rv .i64 (fun _ => 0))), .int .i64 (11)], Fx.retV2 Try.results95 ⟨_, rfl, Fx.run_loadV m12.cel (by kernel_rfl) (by kernel_rfl)⟩ (by exact rfl), ?_⟩
          refine ⟨?_, b6⟩
          have hM : moveM x ((k : Int) + 1) ((q : Int) + 1) n = (zero, 11) := by
            unfold moveM moveE
            rw [if_neg c25, localV_L HM k hk, decide_eq_true c31]
            exact turned_err HM n1 n2 (by rw [HR, c20]; rfl) rfl (by decide)
          rw [hM]
          all_goals rfl
        · refine Fx.L.val (v := .bool false) (by rfl) (Fx.x_gtrF rfl rfl rfl c31) rfl ?_
          refine Fx.L.nil ?_
          refine Fx.seqN ?_
          refine Fx.W.cond (b := false) rfl (fun h => nomatch h) (fun _ => ?_)
          refine Fx.W.skip ?_
          refine Fx.seqN ?_
          refine Fx.W.seq ?_
          refine Fx.W.seq ?_
          have q1 := HE (6 * k + q + 18)
          refine Fx.W.list ?_
          refine Fx.L.val (v := .int .i64 ((k : Int) + 1)) (by rfl) (Fx.x_move rfl rfl) rfl ?_
          refine Fx.L.val (v := .int .i64 ((k : Int))) (by rfl) (Fx.x_sub rfl rfl rfl (Fx.i64e (by omega) (by omega))) rfl ?_
          refine Fx.L.val (v := .int .i64 ((q : Int) + 1)) (by rfl) (Fx.x_move rfl rfl) rfl ?_
          refine Fx.L.val (v := .int .i64 ((q : Int))) (by rfl) (Fx.x_sub rfl rfl rfl (Fx.i64e (by omega) (by omega))) rfl ?_
          refine Fx.L.val (v := .pointer (some ⟨g1, 18, none⟩)) (by rfl) (Fx.x_field rfl rfl Try.underlying48 rfl (s := 36) (by kernel_rfl) rfl (by show _ + 18 = _; omega)) rfl ?_
          refine Fx.L.val (v := .pointer (some ⟨g1, 6 * k + 18, none⟩)) (by rfl) (Fx.x_index rfl rfl rfl Try.underlying46 (s := 6) (by kernel_rfl) (by omega) (by omega) (by omega)) rfl ?_
          refine Fx.L.val (v := .pointer (some ⟨g1, 6 * k + q + 18, none⟩)) (by rfl) (Fx.x_index rfl rfl rfl Try.underlying45 (s := 1) (by kernel_rfl) (by omega) (by omega) (by omega)) rfl ?_
          refine Fx.L.val (v := .int .i64 (x (6 * k + q + 18))) (by rfl) (Fx.x_load1 (x := Fx.rv .i64 x) rfl rfl (by kernel_rfl) m9.cel (i := 6 * k + q + 18) (by omega) (by omega) rfl) rfl ?_
          refine Fx.L.val (v := .int .i64 (n)) (by rfl) (Fx.x_move rfl rfl) rfl ?_
          refine Fx.L.val (v := .int .i64 ((x (6 * k + q + 18)) + n)) (by rfl) (Fx.x_add rfl rfl rfl (Fx.i64e (by omega) (by omega))) rfl ?_
          by_cases c43 : 1125899906842624 < ((x (6 * k + q + 18)) + n)
          · refine Fx.L.val (v := .bool true) (by rfl) (Fx.x_gtrT rfl rfl rfl c43) rfl ?_
            refine Fx.L.nil ?_
            refine Fx.seqN ?_
            refine Fx.W.cond (b := true) rfl (fun _ => ?_) (fun h => nomatch h)
            refine Fx.W.seq ?_
            refine Fx.W.list ?_
            refine Fx.L.val (v := .agg (Fx.varr 54 (Fx.rv .i64 (fun _ => 0)))) (by rfl) (Fx.x_build (vs := []) (places := #[(0, 6), (6, 6), (12, 6), (18, 36)]) (m := 54) (x := Fx.rv .i64 (fun _ => 0)) rfl rfl Try.underlying48 (by kernel_rfl) (by kernel_rfl) (by rfl)) rfl ?_
            refine Fx.L.storeA (x := Fx.rv .i64 (fun _ => 0)) (y := Fx.rv .i64 (fun _ => 0)) (by rfl) rfl rfl rfl rfl (fun _ _ => rfl) (by kernel_rfl) m10 (i := 0) (by omega) fun w7 m14 s7 z5 => ?_
            have m15 : Fx.Blk w7 g2 54 (Fx.rv .i64 (fun _ => 0)) 48 := Fx.ovr_all m14
            have m16 : Fx.Blk w7 g1 54 (Fx.rv .i64 x) 48 := m9.stp s7 (by omega)
            have b7 : Below w.heap.size w w7 := s7.below b5 b5.size (by omega)
            refine Fx.L.val (v := .int .i64 (6)) (by rfl) (Fx.x_assign rfl rfl) rfl ?_
            refine Fx.L.nil ?_
            refine Fx.seqN ?_
            refine Fx.W.ret ?_
            refine Fx.seqR ?_
            refine ⟨.tuple #[.agg (Fx.varr 54 (Fx.rv .i64 (fun _ => 0))), .int .i64 (6)], Fx.retV2 Try.results95 ⟨_, rfl, Fx.run_loadV m15.cel (by kernel_rfl) (by kernel_rfl)⟩ (by exact rfl), ?_⟩
            refine ⟨?_, b7⟩
            have hM : moveM x ((k : Int) + 1) ((q : Int) + 1) n = (zero, 6) := by
              unfold moveM moveE
              rw [if_neg c25, localV_L HM k hk, decide_eq_false c31, moveO_at]
              exact turned_many HM n1 n2 (by rw [HR, c20]; rfl) rfl (by omega)
            rw [hM]
            all_goals rfl
          · refine Fx.L.val (v := .bool false) (by rfl) (Fx.x_gtrF rfl rfl rfl c43) rfl ?_
            refine Fx.L.nil ?_
            refine Fx.seqN ?_
            refine Fx.W.cond (b := false) rfl (fun h => nomatch h) (fun _ => ?_)
            refine Fx.W.skip ?_
            refine Fx.seqN ?_
            refine Fx.W.seq ?_
            -- region 12 draws
            refine Fx.W.tail 13 (by kernel_rfl) (by kernel_rfl) fun wt1 hbwt1 hzwt1 => ?_
            have s8 : Fx.Stp w5.heap.size w5 wt1 := Fx.Stp.of_below hbwt1
            have m17 : Fx.Blk wt1 g1 54 (Fx.rv .i64 x) 48 := m9.stp s8 (by have := m9.lt; omega)
            have m18 : Fx.Blk wt1 g2 54 (Fx.rv .i64 (fun _ => 0)) 48 := m10.stp s8 (by have := m10.lt; omega)
            have b8 : Below w.heap.size w wt1 := s8.below b5 b5.size b5.size
            refine Fx.St.val (v := .int .i64 ((k : Int) + 1)) (by rfl) (Fx.x_move rfl rfl) rfl ?_
            refine Fx.St.val (v := .int .i64 ((k : Int))) (by rfl) (Fx.x_sub rfl rfl rfl (Fx.i64e (by omega) (by omega))) rfl ?_
            refine Fx.St.val (v := .int .i64 ((q : Int) + 1)) (by rfl) (Fx.x_move rfl rfl) rfl ?_
            refine Fx.St.val (v := .int .i64 ((q : Int))) (by rfl) (Fx.x_sub rfl rfl rfl (Fx.i64e (by omega) (by omega))) rfl ?_
            refine Fx.St.val (v := .pointer (some ⟨g1, 18, none⟩)) (by rfl) (Fx.x_field rfl rfl Try.underlying48 rfl (s := 36) (by kernel_rfl) rfl (by show _ + 18 = _; omega)) rfl ?_
            refine Fx.St.val (v := .pointer (some ⟨g1, 6 * k + 18, none⟩)) (by rfl) (Fx.x_index rfl rfl rfl Try.underlying46 (s := 6) (by kernel_rfl) (by omega) (by omega) (by omega)) rfl ?_
            refine Fx.St.val (v := .pointer (some ⟨g1, 6 * k + q + 18, none⟩)) (by rfl) (Fx.x_index rfl rfl rfl Try.underlying45 (s := 1) (by kernel_rfl) (by omega) (by omega) (by omega)) rfl ?_
            refine Fx.St.val (v := .int .i64 (x (6 * k + q + 18))) (by rfl) (Fx.x_load1 (x := Fx.rv .i64 x) rfl rfl (by kernel_rfl) m17.cel (i := 6 * k + q + 18) (by omega) (by omega) rfl) rfl ?_
            refine Fx.St.val (v := .int .i64 (n)) (by rfl) (Fx.x_move rfl rfl) rfl ?_
            refine Fx.St.val (v := .int .i64 ((x (6 * k + q + 18)) + n)) (by rfl) (Fx.x_add rfl rfl rfl (Fx.i64e (by omega) (by omega))) rfl ?_
            refine Fx.St.val (v := .pointer (some ⟨g1, 18, none⟩)) (by rfl) (Fx.x_field rfl rfl Try.underlying48 rfl (s := 36) (by kernel_rfl) rfl (by show _ + 18 = _; omega)) rfl ?_
            refine Fx.St.val (v := .pointer (some ⟨g1, 6 * k + 18, none⟩)) (by rfl) (Fx.x_index rfl rfl rfl Try.underlying46 (s := 6) (by kernel_rfl) (by omega) (by omega) (by omega)) rfl ?_
            refine Fx.St.val (v := .pointer (some ⟨g1, 6 * k + q + 18, none⟩)) (by rfl) (Fx.x_index rfl rfl rfl Try.underlying45 (s := 1) (by kernel_rfl) (by omega) (by omega) (by omega)) rfl ?_
            refine Fx.St.nil ?_
            refine Fx.L.store1 (x := Fx.rv .i64 x) (u := .int .i64 ((x (6 * k + q + 18)) + n)) (by rfl) rfl rfl rfl rfl (by rfl) (by kernel_rfl) m17 (i := 6 * k + q + 18) (by omega) fun w8 m19 s9 z6 => ?_
            have m20 : Fx.Blk w8 g1 54 (Fx.rv .i64 (upd x (6 * k + q + 18) ((x (6 * k + q + 18)) + n))) 48 := m19.to (Fx.updV_rv _ _ _ _)
            have m21 : Fx.Blk w8 g2 54 (Fx.rv .i64 (fun _ => 0)) 48 := m18.stp s9 (by omega)
            have b9 : Below w.heap.size w w8 := s9.below b8 b8.size (by omega)
            refine Fx.L.nil ?_
            refine Fx.seqN ?_
            refine Fx.W.seq ?_
            refine Fx.W.list ?_
            refine Fx.L.val (v := .agg (Fx.varr 54 (Fx.rv .i64 (upd x (6 * k + q + 18) ((x (6 * k + q + 18)) + n))))) (by rfl) (Fx.x_loadA (x := Fx.rv .i64 (upd x (6 * k + q + 18) ((x (6 * k + q + 18)) + n))) (y := Fx.rv .i64 (upd x (6 * k + q + 18) ((x (6 * k + q + 18)) + n))) rfl rfl (by kernel_rfl) (by kernel_rfl) m20.cel (i := 0) (by omega) (by omega) (fun j _ => by rw [Nat.zero_add])) rfl ?_
            refine Fx.L.storeA (x := Fx.rv .i64 (fun _ => 0)) (y := Fx.rv .i64 (upd x (6 * k + q + 18) ((x (6 * k + q + 18)) + n))) (by rfl) rfl rfl rfl rfl (fun _ _ => rfl) (by kernel_rfl) m21 (i := 0) (by omega) fun w9 m22 s10 z7 => ?_
            have m23 : Fx.Blk w9 g2 54 (Fx.rv .i64 (upd x (6 * k + q + 18) ((x (6 * k + q + 18)) + n))) 48 := Fx.ovr_all m22
            have m24 : Fx.Blk w9 g1 54 (Fx.rv .i64 (upd x (6 * k + q + 18) ((x (6 * k + q + 18)) + n))) 48 := m20.stp s10 (by omega)
            have b10 : Below w.heap.size w w9 := s10.below b9 b9.size (by omega)
            refine Fx.L.val (v := .int .i64 (0)) (by rfl) (Fx.x_assign rfl rfl) rfl ?_
            refine Fx.L.nil ?_
            refine Fx.seqN ?_
            refine Fx.W.ret ?_
            refine ⟨.tuple #[.agg (Fx.varr 54 (Fx.rv .i64 (upd x (6 * k + q + 18) ((x (6 * k + q + 18)) + n)))), .int .i64 (0)], Fx.retV2 Try.results95 ⟨_, rfl, Fx.run_loadV m23.cel (by kernel_rfl) (by kernel_rfl)⟩ (by exact rfl), ?_⟩
            refine ⟨?_, b10⟩
            have hM : moveM x ((k : Int) + 1) ((q : Int) + 1) n = (upd x (6 * k + q + 18) (x (6 * k + q + 18) + n), 0) := by
              unfold moveM moveE
              rw [if_neg c25, localV_L HM k hk, decide_eq_false c31, moveO_at]
              exact turned_fin HM n1 n2 (by rw [HR, c20]; rfl) rfl (by omega)
            rw [hM]
            all_goals rfl
    · rw [Bool.not_eq_true] at c20
      refine Fx.L.call (by rfl) (Fx.r_call (args := [.int .i64 (j)]) rfl rfl Try.func96 rfl rfl) rfl ((f7_region j _).mono ?_)
      rintro e v1 ⟨he, rfl⟩
      refine ⟨.bool false, by rw [he, c20], ?_⟩
      clear he
      refine Fx.L.val (v := .bool true) (by rfl) (Fx.x_notT rfl rfl) rfl ?_
      refine Fx.L.nil ?_
      refine Fx.seqN ?_
      refine Fx.W.cond (b := true) rfl (fun _ => ?_) (fun h => nomatch h)
      refine Fx.W.seq ?_
      refine Fx.W.list ?_
      refine Fx.L.val (v := .agg (Fx.varr 54 (Fx.rv .i64 (fun _ => 0)))) (by rfl) (Fx.x_build (vs := []) (places := #[(0, 6), (6, 6), (12, 6), (18, 36)]) (m := 54) (x := Fx.rv .i64 (fun _ => 0)) rfl rfl Try.underlying48 (by kernel_rfl) (by kernel_rfl) (by rfl)) rfl ?_
      refine Fx.L.storeA (x := Fx.rv .i64 (fun _ => 0)) (y := Fx.rv .i64 (fun _ => 0)) (by rfl) rfl rfl rfl rfl (fun _ _ => rfl) (by kernel_rfl) m5 (i := 0) (by omega) fun w10 m25 s11 z8 => ?_
      have m26 : Fx.Blk w10 g2 54 (Fx.rv .i64 (fun _ => 0)) 48 := Fx.ovr_all m25
      have m27 : Fx.Blk w10 g1 54 (Fx.rv .i64 x) 48 := m4.stp s11 (by omega)
      have b11 : Below w.heap.size w w10 := s11.below b3 b3.size (by omega)
      refine Fx.L.val (v := .int .i64 (10)) (by rfl) (Fx.x_assign rfl rfl) rfl ?_
      refine Fx.L.nil ?_
      refine Fx.seqN ?_
      refine Fx.W.ret ?_
      refine Fx.seqR ?_
      refine ⟨.tuple #[.agg (Fx.varr 54 (Fx.rv .i64 (fun _ => 0))), .int .i64 (10)], Fx.retV2 Try.results95 ⟨_, rfl, Fx.run_loadV m26.cel (by kernel_rfl) (by kernel_rfl)⟩ (by exact rfl), ?_⟩
      refine ⟨?_, b11⟩
      have hM : moveM x ((k : Int) + 1) j n = (zero, 10) := by
        unfold moveM
        rw [c20, Bool.and_false]
        exact turned_is HM n1 n2
      rw [hM]
      all_goals rfl
  · refine Fx.L.val (v := .bool true) (by rfl) (Fx.x_neqT rfl rfl rfl c16) rfl ?_
    refine Fx.L.nil ?_
    refine Fx.seqN ?_
    refine Fx.W.cond (b := true) rfl (fun _ => ?_) (fun h => nomatch h)
    refine Fx.W.seq ?_
    refine Fx.W.list ?_
    refine Fx.L.val (v := .agg (Fx.varr 54 (Fx.rv .i64 (fun _ => 0)))) (by rfl) (Fx.x_build (vs := []) (places := #[(0, 6), (6, 6), (12, 6), (18, 36)]) (m := 54) (x := Fx.rv .i64 (fun _ => 0)) rfl rfl Try.underlying48 (by kernel_rfl) (by kernel_rfl) (by rfl)) rfl ?_
    refine Fx.L.val (v := .int .i64 (rightE x i n)) (by rfl) (Fx.x_move rfl rfl) rfl ?_
    refine Fx.L.storeA (x := Fx.rv .i64 (fun _ => 0)) (y := Fx.rv .i64 (fun _ => 0)) (by rfl) rfl rfl rfl rfl (fun _ _ => rfl) (by kernel_rfl) m5 (i := 0) (by omega) fun w11 m28 s12 z9 => ?_
    have m29 : Fx.Blk w11 g2 54 (Fx.rv .i64 (fun _ => 0)) 48 := Fx.ovr_all m28
    have m30 : Fx.Blk w11 g1 54 (Fx.rv .i64 x) 48 := m4.stp s12 (by omega)
    have b12 : Below w.heap.size w w11 := s12.below b3 b3.size (by omega)
    refine Fx.L.val (v := .int .i64 (rightE x i n)) (by rfl) (Fx.x_assign rfl rfl) rfl ?_
    refine Fx.L.nil ?_
    refine Fx.seqN ?_
    refine Fx.W.ret ?_
    refine Fx.seqR ?_
    refine ⟨.tuple #[.agg (Fx.varr 54 (Fx.rv .i64 (fun _ => 0))), .int .i64 (rightE x i n)], Fx.retV2 Try.results95 ⟨_, rfl, Fx.run_loadV m29.cel (by kernel_rfl) (by kernel_rfl)⟩ (by exact rfl), ?_⟩
    refine ⟨?_, b12⟩
    have hM : moveM x i j n = (zero, rightE x i n) := by
      exact right_no2 c16
    rw [hM]
    all_goals rfl
end Go.Proofs.Ytolmkjepieoloaa
