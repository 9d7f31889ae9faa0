/-
  What the proof of the law rests on, part 4: walks of functions, and plain laws; each says its conditions itself.
-/
import Derived.Test.YtleajegppehbdaaZF3
namespace Go.Proofs.Ytleajegppehbdaa
open Go.RowKit Rt
open Fx (x_move x_assign x_field x_load1 x_pickF x_pickT x_nil x_conv x_indexS x_index x_leqF x_loadA x_len x_gtrF x_build x_eqlF x_eqlT Lv sN Ln Ws Qv Wl Rp Wc Qs Wr Sb Lk Wk rC rV sR)
namespace Rt
theorem right_ok {x : Nat → Int} {i n : Int} (h : rightE x i n = 0) : may x = true ∧ 1 ≤ n ∧ n ≤ 1125899906842624 ∧ regB i = true := by
  unfold rightE at h
  by_cases h1 : may x = true
  · by_cases h2 : 1 ≤ n
    · by_cases h3 : n ≤ 1125899906842624
      · rw [h1, decide_eq_true h2, decide_eq_true h3] at h
        cases h4 : regB i
        · rw [h4] at h; simp at h
        exact ⟨h1, h2, h3, rfl⟩
      rw [decide_eq_false h3] at h; simp at h
    rw [decide_eq_false h2] at h; simp at h
  rw [show may x = false by simpa using h1] at h; simp at h
theorem right_no {x : Nat → Int} {i n em : Int} {off : Nat} (h : ¬ rightE x i n = 0) : turnedM x n (regB i) em off = (zero, rightE x i n) := by
  unfold rightE at *
  unfold turnedM
  by_cases h1 : (may x && decide (1 ≤ n) && decide (n ≤ 1125899906842624)) = true
  · simp only [if_pos h1] at *
    cases h4 : regB i
    · simp
    simp [h4] at h
  simp only [if_neg h1] at *
theorem turned_y2 {x : Nat → Int} {n em : Int} {is : Bool} {off : Nat} (h1 : may x = true) (h2 : 1 ≤ n) (h3 : n ≤ 1125899906842624) (h4 : is = true) :
    turnedM x n is em off = if em = 0 then (if x off + n ≤ 1125899906842624 then (upd x off (x off + n), 0) else (zero, 6)) else (zero, em) := by
  unfold turnedM; rw [h1, decide_eq_true h2, decide_eq_true h3, h4]; simp
theorem turned_fin {x : Nat → Int} {n em : Int} {is : Bool} {off : Nat} (h1 : may x = true) (h2 : 1 ≤ n) (h3 : n ≤ 1125899906842624) (h4 : is = true) (h5 : em = 0) (h6 : x off + n ≤ 1125899906842624) : turnedM x n is em off = (upd x off (x off + n), 0) := by
  rw [turned_y2 h1 h2 h3 h4, if_pos h5, if_pos h6]
theorem turned_many {x : Nat → Int} {n em : Int} {is : Bool} {off : Nat} (h1 : may x = true) (h2 : 1 ≤ n) (h3 : n ≤ 1125899906842624) (h4 : is = true) (h5 : em = 0) (h6 : ¬ x off + n ≤ 1125899906842624) : turnedM x n is em off = (zero, 6) := by
  rw [turned_y2 h1 h2 h3 h4, if_pos h5, if_neg h6]
theorem turned_err {x : Nat → Int} {n em e : Int} {is : Bool} {off : Nat} (h1 : may x = true) (h2 : 1 ≤ n) (h3 : n ≤ 1125899906842624) (h4 : is = true) (h5 : em = e) (h6 : e ≠ 0) : turnedM x n is em off = (zero, e) := by
  rw [turned_y2 h1 h2 h3 h4, h5, if_neg h6]
theorem turned_is {x : Nat → Int} {n em : Int} {off : Nat} (h1 : may x = true) (h2 : 1 ≤ n) (h3 : n ≤ 1125899906842624) : turnedM x n false em off = (zero, 10) := by
  unfold turnedM; rw [h1, decide_eq_true h2, decide_eq_true h3]; simp
theorem pl (k : Nat) : ((k : Int) + 1).toNat - 1 = k := by omega
theorem right_no2 {x : Nat → Int} {i j n : Int} (h : ¬ rightE x i n = 0) : moveM x i j n = (zero, rightE x i n) := by
  unfold moveM
  unfold rightE at *
  unfold turnedM
  by_cases h1 : (may x && decide (1 ≤ n) && decide (n ≤ 1125899906842624)) = true
  · simp only [if_pos h1] at *
    cases h4 : regB i
    · simp
    simp [h4] at h
  simp only [if_neg h1] at *
theorem moveO_at (k q : Nat) : moveO ((k : Int) + 1) ((q : Int) + 1) = 6 * k + q + 18 := by unfold moveO; omega
theorem free_fit {x : Nat → Int} {k : Nat} (HM : may x = true) (hk : k < 6) : x (k + 6) ≤ 1125899906842624 := (may_ent HM (k + 6) (by omega)).2
end Rt
-- leatref07.Give is not in this seat
set_option maxRecDepth 10000 in
theorem f7_take (x : Nat → Int) (i n : Int) (w : World) :
    Calls Try.prog 98 #[.agg (Fx.varr 54 (Fx.rv .i64 x)), .int .i64 (i), .int .i64 (n)] w fun e w' => e = .returned (.tuple #[.agg (Fx.varr 54 (Fx.rv .i64 (takeM x i n).1)), .int .i64 (takeM x i n).2]) ∧ Below w.heap.size w w' := by
 refine Fx.enter Try.func98 rfl (n := 42) rfl (by rfl) ?_
 refine Ws (Wl (Fx.L.box (m := 54) (y := Fx.rv .i64 x) (by rfl) rfl rfl (Fx.cells_agg _ _) rfl fun g1 w1 eg1 m1 s1 z1 => ?_))
 have b1 := s1.below (Below.refl w.heap.size w) (Below.refl w.heap.size w).size (Below.refl w.heap.size w).size
 have lg1 : w.heap.size ≤ g1 := by rw [eg1]; exact (Below.refl w.heap.size w).size
 have tg1 : g1 < w1.heap.size := m1.lt
 clear eg1
 refine Fx.L.new (m := 54) (y := Fx.rv .i64 (fun _ => 0)) (by rfl) rfl (by kernel_rfl) rfl fun g2 w2 eg2 m2 s2 z2 => ?_
 have m3 := m1.stp s2 m1.ne
 have b2 := s2.below b1 b1.size b1.size
 have lg2 : w.heap.size ≤ g2 := by rw [eg2]; exact b1.size
 have ng2m3 : g1 ≠ g2 := by rw [eg2]; exact Nat.ne_of_lt (m1.lt)
 have tg2 : g2 < w2.heap.size := m2.lt
 clear eg2
 refine Lv (.int .i64 (0)) (x_assign rfl rfl) (Ln (sN (Ws (Wl (Lv (.agg (Fx.varr 54 (Fx.rv .i64 x))) (x_loadA (x := Fx.rv .i64 x) (y := Fx.rv .i64 x) rfl rfl (by kernel_rfl) (by kernel_rfl) m3.cel (i := 0) (by omega) (by omega) (fun j _ => by rw [Nat.zero_add])) (Lv (.int .i64 (i)) (x_move rfl rfl) (Lv (.int .i64 (n)) (x_move rfl rfl) (Fx.L.call (by rfl) (rC (args := [.agg (Fx.varr 54 (Fx.rv .i64 x)), .int .i64 (i), .int .i64 (n)]) rfl rfl Try.func101 rfl rfl) rfl ((f7_right x i n _).mono ?_)))))))))
 rintro e w3 ⟨he, hb1⟩
 refine ⟨.int .i64 (rightE x i n), by rw [he], ?_⟩
 clear he
 have s3 := Sb hb1
 have m4 := m3.stp s3 m3.ne
 have m5 := m2.stp s3 m2.ne
 have b3 := s3.below b2 b2.size b2.size
 refine Lv (.int .i64 (rightE x i n)) (x_assign rfl rfl) (Ln (sN (Ws (Ws (Wl (Lv (.int .i64 (rightE x i n)) (x_move rfl rfl) ?_))))))
 by_cases c14 : (rightE x i n) = 0
 ·refine Lv (.bool false) (Fx.x_neqF rfl rfl rfl c14) (Ln (sN (Wc (b := false) rfl (fun h => nomatch h) (fun _ => Wk (sN (Ws (Ws ?_)))))))
  obtain ⟨HM, n1, n2, HR⟩ := right_ok c14
  have HE := may_ent HM
  obtain ⟨k, hk, ei, _⟩ := reg_nat HR
  subst ei
  refine Wl (Lv (.int .i64 (n)) (x_move rfl rfl) (Lv (.agg (Fx.varr 54 (Fx.rv .i64 x))) (x_loadA (x := Fx.rv .i64 x) (y := Fx.rv .i64 x) rfl rfl (by kernel_rfl) (by kernel_rfl) m4.cel (i := 0) (by omega) (by omega) (fun j _ => by rw [Nat.zero_add])) (Lv (.int .i64 ((k : Int) + 1)) (x_move rfl rfl) (Fx.L.call (by rfl) (rC (args := [.agg (Fx.varr 54 (Fx.rv .i64 x)), .int .i64 ((k : Int) + 1)]) rfl rfl Try.func103 rfl rfl) rfl ((f7_local x k _ (by omega) (may_ent HM)).mono ?_)))))
  rintro e w4 ⟨he, hb2⟩
  refine ⟨.int .i64 (L x k), by rw [he], ?_⟩
  clear he
  have s4 := Sb hb2
  have m6 := m4.stp s4 m4.ne
  have m7 := m5.stp s4 m5.ne
  have b4 := s4.below b3 b3.size b3.size
  by_cases c21 : (L x k) < n
  ·refine Lv (.bool true) (Fx.x_gtrT rfl rfl rfl c21) (Ln (sN (Wc (b := true) rfl (fun _ => Ws (Wl (Lv (.agg (Fx.varr 54 (Fx.rv .i64 (fun _ => 0)))) (x_build (vs := []) (places := #[(0, 6), (6, 6), (12, 6), (18, 36)]) (m := 54) (x := Fx.rv .i64 (fun _ => 0)) rfl rfl Try.underlying121 (by kernel_rfl) (by kernel_rfl) (by rfl)) ?_))) (fun h => nomatch h))))
   refine Fx.L.storeA (x := Fx.rv .i64 (fun _ => 0)) (y := Fx.rv .i64 (fun _ => 0)) (by rfl) rfl rfl rfl rfl (fun _ _ => rfl) (by kernel_rfl) m7 (i := 0) (by omega) fun w5 m8 s5 z3 => ?_
   have m9 : Fx.Blk w5 g2 54 (Fx.rv .i64 (fun _ => 0)) 121 := Fx.ovr_all m8
   have m10 := m6.stp s5 (by omega)
   have b5 := s5.below b4 b4.size (by omega)
   refine Lv (.int .i64 (11)) (x_assign rfl rfl) (Ln (sN (Wr (sR (⟨.tuple #[.agg (Fx.varr 54 (Fx.rv .i64 (fun _ => 0))), .int .i64 (11)], Fx.retV2 Try.results98 ⟨_, rfl, Fx.run_loadV m9.cel (by kernel_rfl) (by kernel_rfl)⟩ (by exact rfl), ?_⟩)))))
   refine ⟨?_, b5⟩
   have hM : takeM x ((k : Int) + 1) n = (zero, 11) := by
    unfold takeM takeE
    rw [localV_L HM k hk, decide_eq_true c21]
    exact turned_err HM n1 n2 HR rfl (by decide)
   rw [hM]
   all_goals rfl
  refine Lv (.bool false) (x_gtrF rfl rfl rfl c21) (Ln (sN (Wc (b := false) rfl (fun h => nomatch h) (fun _ => Wk (sN (Ws (Ws ?_)))))))
  have q1 := HE (k + 6)
  refine Wl (Lv (.int .i64 ((k : Int) + 1)) (x_move rfl rfl) (Lv (.int .i64 ((k : Int))) (Fx.x_sub rfl rfl rfl Fx.io) (Lv ((pf g1 6)) (x_field rfl rfl Try.underlying121 rfl (s := 6) (by kernel_rfl) rfl (by show _ + 6 = _; omega)) (Lv ((pf g1 (k + 6))) (x_index rfl rfl rfl Try.underlying118 (s := 1) (by kernel_rfl) (by omega) (by omega) (by omega)) (Lv (.int .i64 (x (k + 6))) (x_load1 (x := Fx.rv .i64 x) rfl rfl (by kernel_rfl) m6.cel (i := k + 6) (by omega) (by omega) rfl) (Lv (.int .i64 (n)) (x_move rfl rfl) (Lv (.int .i64 ((x (k + 6)) + n)) (Fx.x_add rfl rfl rfl Fx.io) ?_)))))))
  by_cases c30 : 1125899906842624 < ((x (k + 6)) + n)
  ·refine Lv (.bool true) (Fx.x_gtrT rfl rfl rfl c30) (Ln (sN (Wc (b := true) rfl (fun _ => Ws (Wl (Lv (.agg (Fx.varr 54 (Fx.rv .i64 (fun _ => 0)))) (x_build (vs := []) (places := #[(0, 6), (6, 6), (12, 6), (18, 36)]) (m := 54) (x := Fx.rv .i64 (fun _ => 0)) rfl rfl Try.underlying121 (by kernel_rfl) (by kernel_rfl) (by rfl)) ?_))) (fun h => nomatch h))))
   refine Fx.L.storeA (x := Fx.rv .i64 (fun _ => 0)) (y := Fx.rv .i64 (fun _ => 0)) (by rfl) rfl rfl rfl rfl (fun _ _ => rfl) (by kernel_rfl) m7 (i := 0) (by omega) fun w6 m11 s6 z4 => ?_
   have m12 : Fx.Blk w6 g2 54 (Fx.rv .i64 (fun _ => 0)) 121 := Fx.ovr_all m11
   have m13 := m6.stp s6 (by omega)
   have b6 := s6.below b4 b4.size (by omega)
   refine Lv (.int .i64 (6)) (x_assign rfl rfl) (Ln (sN (Wr (sR (⟨.tuple #[.agg (Fx.varr 54 (Fx.rv .i64 (fun _ => 0))), .int .i64 (6)], Fx.retV2 Try.results98 ⟨_, rfl, Fx.run_loadV m12.cel (by kernel_rfl) (by kernel_rfl)⟩ (by exact rfl), ?_⟩)))))
   refine ⟨?_, b6⟩
   have hM : takeM x ((k : Int) + 1) n = (zero, 6) := by
    unfold takeM takeE
    rw [localV_L HM k hk, decide_eq_false c21, pl, Nat.add_comm 6 k]
    exact turned_many HM n1 n2 HR rfl (by omega)
   rw [hM]
   all_goals rfl
  refine Lv (.bool false) (x_gtrF rfl rfl rfl c30) (Ln (sN (Wc (b := false) rfl (fun h => nomatch h) (fun _ => Wk (sN (Ws (Wl (Lv (.int .i64 ((k : Int) + 1)) (x_move rfl rfl) (Lv (.int .i64 ((k : Int))) (Fx.x_sub rfl rfl rfl Fx.io) (Lv ((pf g1 6)) (x_field rfl rfl Try.underlying121 rfl (s := 6) (by kernel_rfl) rfl (by show _ + 6 = _; omega)) (Lv ((pf g1 (k + 6))) (x_index rfl rfl rfl Try.underlying118 (s := 1) (by kernel_rfl) (by omega) (by omega) (by omega)) (Lv (.int .i64 (x (k + 6))) (x_load1 (x := Fx.rv .i64 x) rfl rfl (by kernel_rfl) m6.cel (i := k + 6) (by omega) (by omega) rfl) (Lv (.int .i64 (n)) (x_move rfl rfl) (Lv (.int .i64 ((x (k + 6)) + n)) (Fx.x_add rfl rfl rfl Fx.io) (Lv ((pf g1 6)) (x_field rfl rfl Try.underlying121 rfl (s := 6) (by kernel_rfl) rfl (by show _ + 6 = _; omega)) (Lv ((pf g1 (k + 6))) (x_index rfl rfl rfl Try.underlying118 (s := 1) (by kernel_rfl) (by omega) (by omega) (by omega)) (Fx.L.store1 (x := Fx.rv .i64 x) (u := .int .i64 ((x (k + 6)) + n)) (by rfl) rfl rfl rfl rfl (by rfl) (by kernel_rfl) m6 (i := k + 6) (by omega) fun w7 m14 s7 z5 => ?_)))))))))))))))))
  have m15 : Fx.Blk w7 g1 54 (Fx.rv .i64 (upd x (k + 6) ((x (k + 6)) + n))) 121 := m14.to (Fx.updV_rv _ _ _ _)
  have m16 := m7.stp s7 (by omega)
  have b7 := s7.below b4 b4.size (by omega)
  refine Ln (sN (Ws (Wl (Lv (.agg (Fx.varr 54 (Fx.rv .i64 (upd x (k + 6) ((x (k + 6)) + n))))) (x_loadA (x := Fx.rv .i64 (upd x (k + 6) ((x (k + 6)) + n))) (y := Fx.rv .i64 (upd x (k + 6) ((x (k + 6)) + n))) rfl rfl (by kernel_rfl) (by kernel_rfl) m15.cel (i := 0) (by omega) (by omega) (fun j _ => by rw [Nat.zero_add])) (Fx.L.storeA (x := Fx.rv .i64 (fun _ => 0)) (y := Fx.rv .i64 (upd x (k + 6) ((x (k + 6)) + n))) (by rfl) rfl rfl rfl rfl (fun _ _ => rfl) (by kernel_rfl) m16 (i := 0) (by omega) fun w8 m17 s8 z6 => ?_)))))
  have m18 : Fx.Blk w8 g2 54 (Fx.rv .i64 (upd x (k + 6) ((x (k + 6)) + n))) 121 := Fx.ovr_all m17
  have m19 := m15.stp s8 (by omega)
  have b8 := s8.below b7 b7.size (by omega)
  refine Lv (.int .i64 (0)) (x_assign rfl rfl) (Ln (sN (Wr (⟨.tuple #[.agg (Fx.varr 54 (Fx.rv .i64 (upd x (k + 6) ((x (k + 6)) + n)))), .int .i64 (0)], Fx.retV2 Try.results98 ⟨_, rfl, Fx.run_loadV m18.cel (by kernel_rfl) (by kernel_rfl)⟩ (by exact rfl), ?_⟩))))
  refine ⟨?_, b8⟩
  have hM : takeM x ((k : Int) + 1) n = (upd x (k + 6) (x (k + 6) + n), 0) := by
   unfold takeM takeE
   rw [localV_L HM k hk, decide_eq_false c21, pl, Nat.add_comm 6 k]
   exact turned_fin HM n1 n2 HR rfl (by omega)
  rw [hM]
  all_goals rfl
 refine Lv (.bool true) (Fx.x_neqT rfl rfl rfl c14) (Ln (sN (Wc (b := true) rfl (fun _ => Ws (Wl (Lv (.agg (Fx.varr 54 (Fx.rv .i64 (fun _ => 0)))) (x_build (vs := []) (places := #[(0, 6), (6, 6), (12, 6), (18, 36)]) (m := 54) (x := Fx.rv .i64 (fun _ => 0)) rfl rfl Try.underlying121 (by kernel_rfl) (by kernel_rfl) (by rfl)) ?_))) (fun h => nomatch h))))
 refine Lv (.int .i64 (rightE x i n)) (x_move rfl rfl) (Fx.L.storeA (x := Fx.rv .i64 (fun _ => 0)) (y := Fx.rv .i64 (fun _ => 0)) (by rfl) rfl rfl rfl rfl (fun _ _ => rfl) (by kernel_rfl) m5 (i := 0) (by omega) fun w9 m20 s9 z7 => ?_)
 have m21 : Fx.Blk w9 g2 54 (Fx.rv .i64 (fun _ => 0)) 121 := Fx.ovr_all m20
 have m22 := m4.stp s9 (by omega)
 have b9 := s9.below b3 b3.size (by omega)
 refine Lv (.int .i64 (rightE x i n)) (x_assign rfl rfl) (Ln (sN (Wr (sR (⟨.tuple #[.agg (Fx.varr 54 (Fx.rv .i64 (fun _ => 0))), .int .i64 (rightE x i n)], Fx.retV2 Try.results98 ⟨_, rfl, Fx.run_loadV m21.cel (by kernel_rfl) (by kernel_rfl)⟩ (by exact rfl), ?_⟩)))))
 refine ⟨?_, b9⟩
 have hM : takeM x i n = (zero, rightE x i n) := by
  exact right_no c14
 rw [hM]
 all_goals rfl
set_option maxRecDepth 10000 in
theorem f7_free (x : Nat → Int) (i n : Int) (w : World) :
    Calls Try.prog 100 #[.agg (Fx.varr 54 (Fx.rv .i64 x)), .int .i64 (i), .int .i64 (n)] w fun e w' => e = .returned (.tuple #[.agg (Fx.varr 54 (Fx.rv .i64 (freeM x i n).1)), .int .i64 (freeM x i n).2]) ∧ Below w.heap.size w w' := by
 refine Fx.enter Try.func100 rfl (n := 41) rfl (by rfl) ?_
 refine Ws (Wl (Fx.L.box (m := 54) (y := Fx.rv .i64 x) (by rfl) rfl rfl (Fx.cells_agg _ _) rfl fun g1 w1 eg1 m1 s1 z1 => ?_))
 have b1 := s1.below (Below.refl w.heap.size w) (Below.refl w.heap.size w).size (Below.refl w.heap.size w).size
 have lg1 : w.heap.size ≤ g1 := by rw [eg1]; exact (Below.refl w.heap.size w).size
 have tg1 : g1 < w1.heap.size := m1.lt
 clear eg1
 refine Fx.L.new (m := 54) (y := Fx.rv .i64 (fun _ => 0)) (by rfl) rfl (by kernel_rfl) rfl fun g2 w2 eg2 m2 s2 z2 => ?_
 have m3 := m1.stp s2 m1.ne
 have b2 := s2.below b1 b1.size b1.size
 have lg2 : w.heap.size ≤ g2 := by rw [eg2]; exact b1.size
 have ng2m3 : g1 ≠ g2 := by rw [eg2]; exact Nat.ne_of_lt (m1.lt)
 have tg2 : g2 < w2.heap.size := m2.lt
 clear eg2
 refine Lv (.int .i64 (0)) (x_assign rfl rfl) (Ln (sN (Ws (Wl (Lv (.agg (Fx.varr 54 (Fx.rv .i64 x))) (x_loadA (x := Fx.rv .i64 x) (y := Fx.rv .i64 x) rfl rfl (by kernel_rfl) (by kernel_rfl) m3.cel (i := 0) (by omega) (by omega) (fun j _ => by rw [Nat.zero_add])) (Lv (.int .i64 (i)) (x_move rfl rfl) (Lv (.int .i64 (n)) (x_move rfl rfl) (Fx.L.call (by rfl) (rC (args := [.agg (Fx.varr 54 (Fx.rv .i64 x)), .int .i64 (i), .int .i64 (n)]) rfl rfl Try.func101 rfl rfl) rfl ((f7_right x i n _).mono ?_)))))))))
 rintro e w3 ⟨he, hb1⟩
 refine ⟨.int .i64 (rightE x i n), by rw [he], ?_⟩
 clear he
 have s3 := Sb hb1
 have m4 := m3.stp s3 m3.ne
 have m5 := m2.stp s3 m2.ne
 have b3 := s3.below b2 b2.size b2.size
 refine Lv (.int .i64 (rightE x i n)) (x_assign rfl rfl) (Ln (sN (Ws (Ws (Wl (Lv (.int .i64 (rightE x i n)) (x_move rfl rfl) ?_))))))
 by_cases c14 : (rightE x i n) = 0
 ·refine Lv (.bool false) (Fx.x_neqF rfl rfl rfl c14) (Ln (sN (Wc (b := false) rfl (fun h => nomatch h) (fun _ => Wk (sN (Ws (Ws ?_)))))))
  obtain ⟨HM, n1, n2, HR⟩ := right_ok c14
  have HE := may_ent HM
  obtain ⟨k, hk, ei, _⟩ := reg_nat HR
  subst ei
  have q1 := HE (k + 6)
  have q2 := HE (k + 12)
  -- region 4 draws
  refine Fx.W.quiet (fun v1 => ∃ q, v1 = World.drewN w3 q) (by kernel_rfl) (by kernel_rfl) ⟨1, rfl⟩ ?_
  refine Qv (.int .i64 (n)) (fun v1 hv1 => x_move rfl rfl) (Qv (.int .i64 ((k : Int) + 1)) (fun v1 hv1 => x_move rfl rfl) (Qv (.int .i64 ((k : Int))) (fun v1 hv1 => Fx.x_sub rfl rfl rfl Fx.io) (Qv ((pf g1 6)) (fun v1 hv1 => x_field rfl rfl Try.underlying121 rfl (s := 6) (by kernel_rfl) rfl (by show _ + 6 = _; omega)) (Qv ((pf g1 (k + 6))) (fun v1 hv1 => x_index rfl rfl rfl Try.underlying118 (s := 1) (by kernel_rfl) (by omega) (by omega) (by omega)) (Qv (.int .i64 (x (k + 6))) (fun v1 hv1 => x_load1 (x := Fx.rv .i64 x) rfl rfl (by kernel_rfl) (by obtain ⟨qd, rfl⟩ := hv1; exact m4.cel) (i := k + 6) (by omega) (by omega) rfl) (Qv (.int .i64 ((k : Int) + 1)) (fun v1 hv1 => x_move rfl rfl) (Qv (.int .i64 ((k : Int))) (fun v1 hv1 => Fx.x_sub rfl rfl rfl Fx.io) (Qv ((pf g1 12)) (fun v1 hv1 => x_field rfl rfl Try.underlying121 rfl (s := 6) (by kernel_rfl) rfl (by show _ + 12 = _; omega)) (Qv ((pf g1 (k + 12))) (fun v1 hv1 => x_index rfl rfl rfl Try.underlying118 (s := 1) (by kernel_rfl) (by omega) (by omega) (by omega)) (Qv (.int .i64 (x (k + 12))) (fun v1 hv1 => x_load1 (x := Fx.rv .i64 x) rfl rfl (by kernel_rfl) (by obtain ⟨qd, rfl⟩ := hv1; exact m4.cel) (i := k + 12) (by omega) (by omega) rfl) (Qv (.int .i64 ((x (k + 6)) - (x (k + 12)))) (fun v1 hv1 => Fx.x_sub rfl rfl rfl Fx.io) ?_)))))))))))
  by_cases c29 : ((x (k + 6)) - (x (k + 12))) < n
  ·refine Qv (.bool true) (fun v1 hv1 => Fx.x_gtrT rfl rfl rfl c29) (Fx.Qt.nil ?_)
   rintro _ ⟨qd, rfl⟩
   obtain ⟨wq1, ewq1⟩ : ∃ v1, v1 = World.drewN w3 qd := ⟨_, rfl⟩
   rw [← ewq1]
   have s4 : Fx.Stp w3.heap.size w3 wq1 := by rw [ewq1]; exact Sb (bdrN w3 qd)
   have m6 := m4.stp s4 m4.ne
   have m7 := m5.stp s4 m5.ne
   have b4 := s4.below b3 b3.size b3.size
   clear ewq1
   refine sN (Wc (b := true) rfl (fun _ => Ws (Wl (Lv (.agg (Fx.varr 54 (Fx.rv .i64 (fun _ => 0)))) (x_build (vs := []) (places := #[(0, 6), (6, 6), (12, 6), (18, 36)]) (m := 54) (x := Fx.rv .i64 (fun _ => 0)) rfl rfl Try.underlying121 (by kernel_rfl) (by kernel_rfl) (by rfl)) ?_))) (fun h => nomatch h))
   refine Fx.L.storeA (x := Fx.rv .i64 (fun _ => 0)) (y := Fx.rv .i64 (fun _ => 0)) (by rfl) rfl rfl rfl rfl (fun _ _ => rfl) (by kernel_rfl) m7 (i := 0) (by omega) fun w4 m8 s5 z3 => ?_
   have m9 : Fx.Blk w4 g2 54 (Fx.rv .i64 (fun _ => 0)) 121 := Fx.ovr_all m8
   have m10 := m6.stp s5 (by omega)
   have b5 := s5.below b4 b4.size (by omega)
   refine Lv (.int .i64 (12)) (x_assign rfl rfl) (Ln (sN (Wr (sR (⟨.tuple #[.agg (Fx.varr 54 (Fx.rv .i64 (fun _ => 0))), .int .i64 (12)], Fx.retV2 Try.results100 ⟨_, rfl, Fx.run_loadV m9.cel (by kernel_rfl) (by kernel_rfl)⟩ (by exact rfl), ?_⟩)))))
   refine ⟨?_, b5⟩
   have hM : freeM x ((k : Int) + 1) n = (zero, 12) := by
    unfold freeM freeE C F
    rw [pl, Nat.add_comm 6 k, Nat.add_comm 12 k, decide_eq_true c29]
    exact turned_err HM n1 n2 HR rfl (by decide)
   rw [hM]
   all_goals rfl
  refine Qv (.bool false) (fun v1 hv1 => x_gtrF rfl rfl rfl c29) (Fx.Qt.nil ?_)
  rintro _ ⟨qd, rfl⟩
  obtain ⟨wq2, ewq2⟩ : ∃ v1, v1 = World.drewN w3 qd := ⟨_, rfl⟩
  rw [← ewq2]
  have s6 : Fx.Stp w3.heap.size w3 wq2 := by rw [ewq2]; exact Sb (bdrN w3 qd)
  have m11 := m4.stp s6 m4.ne
  have m12 := m5.stp s6 m5.ne
  have b6 := s6.below b3 b3.size b3.size
  clear ewq2
  refine sN (Wc (b := false) rfl (fun h => nomatch h) (fun _ => Wk (sN (Ws (Wl (Lv (.int .i64 ((k : Int) + 1)) (x_move rfl rfl) (Lv (.int .i64 ((k : Int))) (Fx.x_sub rfl rfl rfl Fx.io) (Lv ((pf g1 12)) (x_field rfl rfl Try.underlying121 rfl (s := 6) (by kernel_rfl) rfl (by show _ + 12 = _; omega)) (Lv ((pf g1 (k + 12))) (x_index rfl rfl rfl Try.underlying118 (s := 1) (by kernel_rfl) (by omega) (by omega) (by omega)) (Lv (.int .i64 (x (k + 12))) (x_load1 (x := Fx.rv .i64 x) rfl rfl (by kernel_rfl) m11.cel (i := k + 12) (by omega) (by omega) rfl) (Lv (.int .i64 (n)) (x_move rfl rfl) (Lv (.int .i64 ((x (k + 12)) + n)) (Fx.x_add rfl rfl rfl Fx.io) (Lv ((pf g1 12)) (x_field rfl rfl Try.underlying121 rfl (s := 6) (by kernel_rfl) rfl (by show _ + 12 = _; omega)) (Lv ((pf g1 (k + 12))) (x_index rfl rfl rfl Try.underlying118 (s := 1) (by kernel_rfl) (by omega) (by omega) (by omega)) (Fx.L.store1 (x := Fx.rv .i64 x) (u := .int .i64 ((x (k + 12)) + n)) (by rfl) rfl rfl rfl rfl (by rfl) (by kernel_rfl) m11 (i := k + 12) (by omega) fun w5 m13 s7 z4 => ?_)))))))))))))))
  have m14 : Fx.Blk w5 g1 54 (Fx.rv .i64 (upd x (k + 12) ((x (k + 12)) + n))) 121 := m13.to (Fx.updV_rv _ _ _ _)
  have m15 := m12.stp s7 (by omega)
  have b7 := s7.below b6 b6.size (by omega)
  refine Ln (sN (Ws (Wl (Lv (.agg (Fx.varr 54 (Fx.rv .i64 (upd x (k + 12) ((x (k + 12)) + n))))) (x_loadA (x := Fx.rv .i64 (upd x (k + 12) ((x (k + 12)) + n))) (y := Fx.rv .i64 (upd x (k + 12) ((x (k + 12)) + n))) rfl rfl (by kernel_rfl) (by kernel_rfl) m14.cel (i := 0) (by omega) (by omega) (fun j _ => by rw [Nat.zero_add])) (Fx.L.storeA (x := Fx.rv .i64 (fun _ => 0)) (y := Fx.rv .i64 (upd x (k + 12) ((x (k + 12)) + n))) (by rfl) rfl rfl rfl rfl (fun _ _ => rfl) (by kernel_rfl) m15 (i := 0) (by omega) fun w6 m16 s8 z5 => ?_)))))
  have m17 : Fx.Blk w6 g2 54 (Fx.rv .i64 (upd x (k + 12) ((x (k + 12)) + n))) 121 := Fx.ovr_all m16
  have m18 := m14.stp s8 (by omega)
  have b8 := s8.below b7 b7.size (by omega)
  refine Lv (.int .i64 (0)) (x_assign rfl rfl) (Ln (sN (Wr (⟨.tuple #[.agg (Fx.varr 54 (Fx.rv .i64 (upd x (k + 12) ((x (k + 12)) + n)))), .int .i64 (0)], Fx.retV2 Try.results100 ⟨_, rfl, Fx.run_loadV m17.cel (by kernel_rfl) (by kernel_rfl)⟩ (by exact rfl), ?_⟩))))
  refine ⟨?_, b8⟩
  have hM : freeM x ((k : Int) + 1) n = (upd x (k + 12) (x (k + 12) + n), 0) := by
   unfold freeM freeE C F
   rw [pl, Nat.add_comm 6 k, Nat.add_comm 12 k, decide_eq_false c29]
   exact turned_fin HM n1 n2 HR rfl (by have := free_fit HM hk; omega)
  rw [hM]
  all_goals rfl
 refine Lv (.bool true) (Fx.x_neqT rfl rfl rfl c14) (Ln (sN (Wc (b := true) rfl (fun _ => Ws (Wl (Lv (.agg (Fx.varr 54 (Fx.rv .i64 (fun _ => 0)))) (x_build (vs := []) (places := #[(0, 6), (6, 6), (12, 6), (18, 36)]) (m := 54) (x := Fx.rv .i64 (fun _ => 0)) rfl rfl Try.underlying121 (by kernel_rfl) (by kernel_rfl) (by rfl)) ?_))) (fun h => nomatch h))))
 refine Lv (.int .i64 (rightE x i n)) (x_move rfl rfl) (Fx.L.storeA (x := Fx.rv .i64 (fun _ => 0)) (y := Fx.rv .i64 (fun _ => 0)) (by rfl) rfl rfl rfl rfl (fun _ _ => rfl) (by kernel_rfl) m5 (i := 0) (by omega) fun w7 m19 s9 z6 => ?_)
 have m20 : Fx.Blk w7 g2 54 (Fx.rv .i64 (fun _ => 0)) 121 := Fx.ovr_all m19
 have m21 := m4.stp s9 (by omega)
 have b9 := s9.below b3 b3.size (by omega)
 refine Lv (.int .i64 (rightE x i n)) (x_assign rfl rfl) (Ln (sN (Wr (sR (⟨.tuple #[.agg (Fx.varr 54 (Fx.rv .i64 (fun _ => 0))), .int .i64 (rightE x i n)], Fx.retV2 Try.results100 ⟨_, rfl, Fx.run_loadV m20.cel (by kernel_rfl) (by kernel_rfl)⟩ (by exact rfl), ?_⟩)))))
 refine ⟨?_, b9⟩
 have hM : freeM x i n = (zero, rightE x i n) := by
  exact right_no c14
 rw [hM]
 all_goals rfl
set_option maxRecDepth 10000 in
theorem f7_move (x : Nat → Int) (i j n : Int) (w : World) :
    Calls Try.prog 78 #[.agg (Fx.varr 54 (Fx.rv .i64 x)), .int .i64 (i), .int .i64 (j), .int .i64 (n)] w fun e w' => e = .returned (.tuple #[.agg (Fx.varr 54 (Fx.rv .i64 (moveM x i j n).1)), .int .i64 (moveM x i j n).2]) ∧ Below w.heap.size w w' := by
 refine Fx.enter Try.func78 rfl (n := 59) rfl (by rfl) ?_
 refine Ws (Wl (Fx.L.box (m := 54) (y := Fx.rv .i64 x) (by rfl) rfl rfl (Fx.cells_agg _ _) rfl fun g1 w1 eg1 m1 s1 z1 => ?_))
 have b1 := s1.below (Below.refl w.heap.size w) (Below.refl w.heap.size w).size (Below.refl w.heap.size w).size
 have lg1 : w.heap.size ≤ g1 := by rw [eg1]; exact (Below.refl w.heap.size w).size
 have tg1 : g1 < w1.heap.size := m1.lt
 clear eg1
 refine Fx.L.new (m := 54) (y := Fx.rv .i64 (fun _ => 0)) (by rfl) rfl (by kernel_rfl) rfl fun g2 w2 eg2 m2 s2 z2 => ?_
 have m3 := m1.stp s2 m1.ne
 have b2 := s2.below b1 b1.size b1.size
 have lg2 : w.heap.size ≤ g2 := by rw [eg2]; exact b1.size
 have ng2m3 : g1 ≠ g2 := by rw [eg2]; exact Nat.ne_of_lt (m1.lt)
 have tg2 : g2 < w2.heap.size := m2.lt
 clear eg2
 refine Lv (.int .i64 (0)) (x_assign rfl rfl) (Ln (sN (Ws (Wl (Lv (.agg (Fx.varr 54 (Fx.rv .i64 x))) (x_loadA (x := Fx.rv .i64 x) (y := Fx.rv .i64 x) rfl rfl (by kernel_rfl) (by kernel_rfl) m3.cel (i := 0) (by omega) (by omega) (fun j _ => by rw [Nat.zero_add])) (Lv (.int .i64 (i)) (x_move rfl rfl) (Lv (.int .i64 (n)) (x_move rfl rfl) (Fx.L.call (by rfl) (rC (args := [.agg (Fx.varr 54 (Fx.rv .i64 x)), .int .i64 (i), .int .i64 (n)]) rfl rfl Try.func101 rfl rfl) rfl ((f7_right x i n _).mono ?_)))))))))
 rintro e w3 ⟨he, hb1⟩
 refine ⟨.int .i64 (rightE x i n), by rw [he], ?_⟩
 clear he
 have s3 := Sb hb1
 have m4 := m3.stp s3 m3.ne
 have m5 := m2.stp s3 m2.ne
 have b3 := s3.below b2 b2.size b2.size
 refine Lv (.int .i64 (rightE x i n)) (x_assign rfl rfl) (Ln (sN (Ws (Ws (Wl (Lv (.int .i64 (rightE x i n)) (x_move rfl rfl) ?_))))))
 by_cases c16 : (rightE x i n) = 0
 ·refine Lv (.bool false) (Fx.x_neqF rfl rfl rfl c16) (Ln (sN (Wc (b := false) rfl (fun h => nomatch h) (fun _ => Wk (sN (Ws (Ws ?_)))))))
  obtain ⟨HM, n1, n2, HR⟩ := right_ok c16
  have HE := may_ent HM
  obtain ⟨k, hk, ei, _⟩ := reg_nat HR
  subst ei
  refine Wl (Lv (.int .i64 (j)) (x_move rfl rfl) ?_)
  by_cases c20 : (regB j) = true
  ·refine Fx.L.call (by rfl) (rC (args := [.int .i64 (j)]) rfl rfl Try.func102 rfl rfl) rfl ((f7_region j _).mono ?_)
   rintro e v1 ⟨he, hv1⟩
   subst v1
   refine ⟨.bool true, by rw [he, c20], ?_⟩
   clear he
   refine Lv (.bool false) (Fx.x_notF rfl rfl) (Ln (sN (Wc (b := false) rfl (fun h => nomatch h) (fun _ => Wk (sN (Ws (Ws ?_)))))))
   obtain ⟨q, hq, ej, _⟩ := reg_nat c20
   subst ej
   refine Wl (Lv (.int .i64 ((k : Int) + 1)) (x_move rfl rfl) (Lv (.int .i64 ((q : Int) + 1)) (x_move rfl rfl) ?_))
   by_cases c25 : ((k : Int) + 1) = ((q : Int) + 1)
   ·refine Lv (.bool true) (x_eqlT rfl rfl rfl c25) (Ln (sN (Wc (b := true) rfl (fun _ => Ws (Wl (Lv (.agg (Fx.varr 54 (Fx.rv .i64 (fun _ => 0)))) (x_build (vs := []) (places := #[(0, 6), (6, 6), (12, 6), (18, 36)]) (m := 54) (x := Fx.rv .i64 (fun _ => 0)) rfl rfl Try.underlying121 (by kernel_rfl) (by kernel_rfl) (by rfl)) ?_))) (fun h => nomatch h))))
    refine Fx.L.storeA (x := Fx.rv .i64 (fun _ => 0)) (y := Fx.rv .i64 (fun _ => 0)) (by rfl) rfl rfl rfl rfl (fun _ _ => rfl) (by kernel_rfl) m5 (i := 0) (by omega) fun w4 m6 s4 z3 => ?_
    have m7 : Fx.Blk w4 g2 54 (Fx.rv .i64 (fun _ => 0)) 121 := Fx.ovr_all m6
    have m8 := m4.stp s4 (by omega)
    have b4 := s4.below b3 b3.size (by omega)
    refine Lv (.int .i64 (1)) (x_assign rfl rfl) (Ln (sN (Wr (sR (⟨.tuple #[.agg (Fx.varr 54 (Fx.rv .i64 (fun _ => 0))), .int .i64 (1)], Fx.retV2 Try.results78 ⟨_, rfl, Fx.run_loadV m7.cel (by kernel_rfl) (by kernel_rfl)⟩ (by exact rfl), ?_⟩)))))
    refine ⟨?_, b4⟩
    have hM : moveM x ((k : Int) + 1) ((q : Int) + 1) n = (zero, 1) := by
     unfold moveM moveE
     rw [if_pos c25]
     exact turned_err HM n1 n2 (by rw [HR, c20]; rfl) rfl (by decide)
    rw [hM]
    all_goals rfl
   refine Lv (.bool false) (x_eqlF rfl rfl rfl c25) (Ln (sN (Wc (b := false) rfl (fun h => nomatch h) (fun _ => Wk (sN (Ws (Ws (Wl (Lv (.int .i64 (n)) (x_move rfl rfl) (Lv (.agg (Fx.varr 54 (Fx.rv .i64 x))) (x_loadA (x := Fx.rv .i64 x) (y := Fx.rv .i64 x) rfl rfl (by kernel_rfl) (by kernel_rfl) m4.cel (i := 0) (by omega) (by omega) (fun j _ => by rw [Nat.zero_add])) (Lv (.int .i64 ((k : Int) + 1)) (x_move rfl rfl) (Fx.L.call (by rfl) (rC (args := [.agg (Fx.varr 54 (Fx.rv .i64 x)), .int .i64 ((k : Int) + 1)]) rfl rfl Try.func103 rfl rfl) rfl ((f7_local x k _ (by omega) (may_ent HM)).mono ?_)))))))))))))
   rintro e w5 ⟨he, hb2⟩
   refine ⟨.int .i64 (L x k), by rw [he], ?_⟩
   clear he
   have s5 := Sb hb2
   have m9 := m4.stp s5 m4.ne
   have m10 := m5.stp s5 m5.ne
   have b5 := s5.below b3 b3.size b3.size
   by_cases c31 : (L x k) < n
   ·refine Lv (.bool true) (Fx.x_gtrT rfl rfl rfl c31) (Ln (sN (Wc (b := true) rfl (fun _ => Ws (Wl (Lv (.agg (Fx.varr 54 (Fx.rv .i64 (fun _ => 0)))) (x_build (vs := []) (places := #[(0, 6), (6, 6), (12, 6), (18, 36)]) (m := 54) (x := Fx.rv .i64 (fun _ => 0)) rfl rfl Try.underlying121 (by kernel_rfl) (by kernel_rfl) (by rfl)) ?_))) (fun h => nomatch h))))
    refine Fx.L.storeA (x := Fx.rv .i64 (fun _ => 0)) (y := Fx.rv .i64 (fun _ => 0)) (by rfl) rfl rfl rfl rfl (fun _ _ => rfl) (by kernel_rfl) m10 (i := 0) (by omega) fun w6 m11 s6 z4 => ?_
    have m12 : Fx.Blk w6 g2 54 (Fx.rv .i64 (fun _ => 0)) 121 := Fx.ovr_all m11
    have m13 := m9.stp s6 (by omega)
    have b6 := s6.below b5 b5.size (by omega)
    refine Lv (.int .i64 (11)) (x_assign rfl rfl) (Ln (sN (Wr (sR (⟨.tuple #[.agg (Fx.varr 54 (Fx.rv .i64 (fun _ => 0))), .int .i64 (11)], Fx.retV2 Try.results78 ⟨_, rfl, Fx.run_loadV m12.cel (by kernel_rfl) (by kernel_rfl)⟩ (by exact rfl), ?_⟩)))))
    refine ⟨?_, b6⟩
    have hM : moveM x ((k : Int) + 1) ((q : Int) + 1) n = (zero, 11) := by
     unfold moveM moveE
     rw [if_neg c25, localV_L HM k hk, decide_eq_true c31]
     exact turned_err HM n1 n2 (by rw [HR, c20]; rfl) rfl (by decide)
    rw [hM]
    all_goals rfl
   refine Lv (.bool false) (x_gtrF rfl rfl rfl c31) (Ln (sN (Wc (b := false) rfl (fun h => nomatch h) (fun _ => Wk (sN (Ws (Ws ?_)))))))
   have q1 := HE (6 * k + q + 18)
   refine Wl (Lv (.int .i64 ((k : Int) + 1)) (x_move rfl rfl) (Lv (.int .i64 ((k : Int))) (Fx.x_sub rfl rfl rfl Fx.io) (Lv (.int .i64 ((q : Int) + 1)) (x_move rfl rfl) (Lv (.int .i64 ((q : Int))) (Fx.x_sub rfl rfl rfl Fx.io) (Lv ((pf g1 18)) (x_field rfl rfl Try.underlying121 rfl (s := 36) (by kernel_rfl) rfl (by show _ + 18 = _; omega)) (Lv ((pf g1 (6 * k + 18))) (x_index rfl rfl rfl Try.underlying119 (s := 6) (by kernel_rfl) (by omega) (by omega) (by omega)) (Lv ((pf g1 (6 * k + q + 18))) (x_index rfl rfl rfl Try.underlying118 (s := 1) (by kernel_rfl) (by omega) (by omega) (by omega)) (Lv (.int .i64 (x (6 * k + q + 18))) (x_load1 (x := Fx.rv .i64 x) rfl rfl (by kernel_rfl) m9.cel (i := 6 * k + q + 18) (by omega) (by omega) rfl) (Lv (.int .i64 (n)) (x_move rfl rfl) (Lv (.int .i64 ((x (6 * k + q + 18)) + n)) (Fx.x_add rfl rfl rfl Fx.io) ?_))))))))))
   by_cases c43 : 1125899906842624 < ((x (6 * k + q + 18)) + n)
   ·refine Lv (.bool true) (Fx.x_gtrT rfl rfl rfl c43) (Ln (sN (Wc (b := true) rfl (fun _ => Ws (Wl (Lv (.agg (Fx.varr 54 (Fx.rv .i64 (fun _ => 0)))) (x_build (vs := []) (places := #[(0, 6), (6, 6), (12, 6), (18, 36)]) (m := 54) (x := Fx.rv .i64 (fun _ => 0)) rfl rfl Try.underlying121 (by kernel_rfl) (by kernel_rfl) (by rfl)) ?_))) (fun h => nomatch h))))
    refine Fx.L.storeA (x := Fx.rv .i64 (fun _ => 0)) (y := Fx.rv .i64 (fun _ => 0)) (by rfl) rfl rfl rfl rfl (fun _ _ => rfl) (by kernel_rfl) m10 (i := 0) (by omega) fun w7 m14 s7 z5 => ?_
    have m15 : Fx.Blk w7 g2 54 (Fx.rv .i64 (fun _ => 0)) 121 := Fx.ovr_all m14
    have m16 := m9.stp s7 (by omega)
    have b7 := s7.below b5 b5.size (by omega)
    refine Lv (.int .i64 (6)) (x_assign rfl rfl) (Ln (sN (Wr (sR (⟨.tuple #[.agg (Fx.varr 54 (Fx.rv .i64 (fun _ => 0))), .int .i64 (6)], Fx.retV2 Try.results78 ⟨_, rfl, Fx.run_loadV m15.cel (by kernel_rfl) (by kernel_rfl)⟩ (by exact rfl), ?_⟩)))))
    refine ⟨?_, b7⟩
    have hM : moveM x ((k : Int) + 1) ((q : Int) + 1) n = (zero, 6) := by
     unfold moveM moveE
     rw [if_neg c25, localV_L HM k hk, decide_eq_false c31, moveO_at]
     exact turned_many HM n1 n2 (by rw [HR, c20]; rfl) rfl (by omega)
    rw [hM]
    all_goals rfl
   refine Lv (.bool false) (x_gtrF rfl rfl rfl c43) (Ln (sN (Wc (b := false) rfl (fun h => nomatch h) (fun _ => Wk (sN (Ws ?_))))))
   -- region 12 draws
   refine Fx.W.tail 13 (by kernel_rfl) (by kernel_rfl) fun wt1 hbwt1 hzwt1 => ?_
   have s8 : Fx.Stp w5.heap.size w5 wt1 := Sb hbwt1
   have m17 := m9.stp s8 m9.ne
   have m18 := m10.stp s8 m10.ne
   have b8 := s8.below b5 b5.size b5.size
   refine Fx.St.v (.int .i64 ((k : Int) + 1)) (x_move rfl rfl) (Fx.St.v (.int .i64 ((k : Int))) (Fx.x_sub rfl rfl rfl Fx.io) (Fx.St.v (.int .i64 ((q : Int) + 1)) (x_move rfl rfl) (Fx.St.v (.int .i64 ((q : Int))) (Fx.x_sub rfl rfl rfl Fx.io) (Fx.St.v ((pf g1 18)) (x_field rfl rfl Try.underlying121 rfl (s := 36) (by kernel_rfl) rfl (by show _ + 18 = _; omega)) (Fx.St.v ((pf g1 (6 * k + 18))) (x_index rfl rfl rfl Try.underlying119 (s := 6) (by kernel_rfl) (by omega) (by omega) (by omega)) (Fx.St.v ((pf g1 (6 * k + q + 18))) (x_index rfl rfl rfl Try.underlying118 (s := 1) (by kernel_rfl) (by omega) (by omega) (by omega)) (Fx.St.v (.int .i64 (x (6 * k + q + 18))) (x_load1 (x := Fx.rv .i64 x) rfl rfl (by kernel_rfl) m17.cel (i := 6 * k + q + 18) (by omega) (by omega) rfl) (Fx.St.v (.int .i64 (n)) (x_move rfl rfl) (Fx.St.v (.int .i64 ((x (6 * k + q + 18)) + n)) (Fx.x_add rfl rfl rfl Fx.io) (Fx.St.v ((pf g1 18)) (x_field rfl rfl Try.underlying121 rfl (s := 36) (by kernel_rfl) rfl (by show _ + 18 = _; omega)) (Fx.St.v ((pf g1 (6 * k + 18))) (x_index rfl rfl rfl Try.underlying119 (s := 6) (by kernel_rfl) (by omega) (by omega) (by omega)) (Fx.St.v ((pf g1 (6 * k + q + 18))) (x_index rfl rfl rfl Try.underlying118 (s := 1) (by kernel_rfl) (by omega) (by omega) (by omega)) (Fx.St.nil ?_)))))))))))))
   refine Fx.L.store1 (x := Fx.rv .i64 x) (u := .int .i64 ((x (6 * k + q + 18)) + n)) (by rfl) rfl rfl rfl rfl (by rfl) (by kernel_rfl) m17 (i := 6 * k + q + 18) (by omega) fun w8 m19 s9 z6 => ?_
   have m20 : Fx.Blk w8 g1 54 (Fx.rv .i64 (upd x (6 * k + q + 18) ((x (6 * k + q + 18)) + n))) 121 := m19.to (Fx.updV_rv _ _ _ _)
   have m21 := m18.stp s9 (by omega)
   have b9 := s9.below b8 b8.size (by omega)
   refine Ln (sN (Ws (Wl (Lv (.agg (Fx.varr 54 (Fx.rv .i64 (upd x (6 * k + q + 18) ((x (6 * k + q + 18)) + n))))) (x_loadA (x := Fx.rv .i64 (upd x (6 * k + q + 18) ((x (6 * k + q + 18)) + n))) (y := Fx.rv .i64 (upd x (6 * k + q + 18) ((x (6 * k + q + 18)) + n))) rfl rfl (by kernel_rfl) (by kernel_rfl) m20.cel (i := 0) (by omega) (by omega) (fun j _ => by rw [Nat.zero_add])) (Fx.L.storeA (x := Fx.rv .i64 (fun _ => 0)) (y := Fx.rv .i64 (upd x (6 * k + q + 18) ((x (6 * k + q + 18)) + n))) (by rfl) rfl rfl rfl rfl (fun _ _ => rfl) (by kernel_rfl) m21 (i := 0) (by omega) fun w9 m22 s10 z7 => ?_)))))
   have m23 : Fx.Blk w9 g2 54 (Fx.rv .i64 (upd x (6 * k + q + 18) ((x (6 * k + q + 18)) + n))) 121 := Fx.ovr_all m22
   have m24 := m20.stp s10 (by omega)
   have b10 := s10.below b9 b9.size (by omega)
   refine Lv (.int .i64 (0)) (x_assign rfl rfl) (Ln (sN (Wr (⟨.tuple #[.agg (Fx.varr 54 (Fx.rv .i64 (upd x (6 * k + q + 18) ((x (6 * k + q + 18)) + n)))), .int .i64 (0)], Fx.retV2 Try.results78 ⟨_, rfl, Fx.run_loadV m23.cel (by kernel_rfl) (by kernel_rfl)⟩ (by exact rfl), ?_⟩))))
   refine ⟨?_, b10⟩
   have hM : moveM x ((k : Int) + 1) ((q : Int) + 1) n = (upd x (6 * k + q + 18) (x (6 * k + q + 18) + n), 0) := by
    unfold moveM moveE
    rw [if_neg c25, localV_L HM k hk, decide_eq_false c31, moveO_at]
    exact turned_fin HM n1 n2 (by rw [HR, c20]; rfl) rfl (by omega)
   rw [hM]
   all_goals rfl
  rw [Bool.not_eq_true] at c20
  refine Fx.L.call (by rfl) (rC (args := [.int .i64 (j)]) rfl rfl Try.func102 rfl rfl) rfl ((f7_region j _).mono ?_)
  rintro e v1 ⟨he, hv1⟩
  subst v1
  refine ⟨.bool false, by rw [he, c20], ?_⟩
  clear he
  refine Lv (.bool true) (Fx.x_notT rfl rfl) (Ln (sN (Wc (b := true) rfl (fun _ => Ws (Wl (Lv (.agg (Fx.varr 54 (Fx.rv .i64 (fun _ => 0)))) (x_build (vs := []) (places := #[(0, 6), (6, 6), (12, 6), (18, 36)]) (m := 54) (x := Fx.rv .i64 (fun _ => 0)) rfl rfl Try.underlying121 (by kernel_rfl) (by kernel_rfl) (by rfl)) ?_))) (fun h => nomatch h))))
  refine Fx.L.storeA (x := Fx.rv .i64 (fun _ => 0)) (y := Fx.rv .i64 (fun _ => 0)) (by rfl) rfl rfl rfl rfl (fun _ _ => rfl) (by kernel_rfl) m5 (i := 0) (by omega) fun w10 m25 s11 z8 => ?_
  have m26 : Fx.Blk w10 g2 54 (Fx.rv .i64 (fun _ => 0)) 121 := Fx.ovr_all m25
  have m27 := m4.stp s11 (by omega)
  have b11 := s11.below b3 b3.size (by omega)
  refine Lv (.int .i64 (10)) (x_assign rfl rfl) (Ln (sN (Wr (sR (⟨.tuple #[.agg (Fx.varr 54 (Fx.rv .i64 (fun _ => 0))), .int .i64 (10)], Fx.retV2 Try.results78 ⟨_, rfl, Fx.run_loadV m26.cel (by kernel_rfl) (by kernel_rfl)⟩ (by exact rfl), ?_⟩)))))
  refine ⟨?_, b11⟩
  have hM : moveM x ((k : Int) + 1) j n = (zero, 10) := by
   unfold moveM
   rw [c20, Bool.and_false]
   exact turned_is HM n1 n2
  rw [hM]
  all_goals rfl
 refine Lv (.bool true) (Fx.x_neqT rfl rfl rfl c16) (Ln (sN (Wc (b := true) rfl (fun _ => Ws (Wl (Lv (.agg (Fx.varr 54 (Fx.rv .i64 (fun _ => 0)))) (x_build (vs := []) (places := #[(0, 6), (6, 6), (12, 6), (18, 36)]) (m := 54) (x := Fx.rv .i64 (fun _ => 0)) rfl rfl Try.underlying121 (by kernel_rfl) (by kernel_rfl) (by rfl)) ?_))) (fun h => nomatch h))))
 refine Lv (.int .i64 (rightE x i n)) (x_move rfl rfl) (Fx.L.storeA (x := Fx.rv .i64 (fun _ => 0)) (y := Fx.rv .i64 (fun _ => 0)) (by rfl) rfl rfl rfl rfl (fun _ _ => rfl) (by kernel_rfl) m5 (i := 0) (by omega) fun w11 m28 s12 z9 => ?_)
 have m29 : Fx.Blk w11 g2 54 (Fx.rv .i64 (fun _ => 0)) 121 := Fx.ovr_all m28
 have m30 := m4.stp s12 (by omega)
 have b12 := s12.below b3 b3.size (by omega)
 refine Lv (.int .i64 (rightE x i n)) (x_assign rfl rfl) (Ln (sN (Wr (sR (⟨.tuple #[.agg (Fx.varr 54 (Fx.rv .i64 (fun _ => 0))), .int .i64 (rightE x i n)], Fx.retV2 Try.results78 ⟨_, rfl, Fx.run_loadV m29.cel (by kernel_rfl) (by kernel_rfl)⟩ (by exact rfl), ?_⟩)))))
 refine ⟨?_, b12⟩
 have hM : moveM x i j n = (zero, rightE x i n) := by
  exact right_no2 c16
 rw [hM]
 all_goals rfl
namespace Rt
theorem node_at {m : LdM} {x : Int} (h : 0 ≤ m.node x) : ∃ q : Nat, q < m.s.nn ∧ firstI (fun i => decide (m.id i = x)) m.s.nn = (q : Int) ∧ m.id q = x := by
  rcases firstI_spec (fun i => decide (m.id i = x)) m.s.nn with ⟨q, hq, e, hp⟩ | ⟨e, _⟩
  · exact ⟨q, hq, e, of_decide_eq_true hp⟩
  unfold LdM.node at h; omega
theorem req_app {n : Nat} {x : Nat → Int} {r : Int} : ∀ j, j < (n + 1) * 1 → Fx.appX (Fx.rv .u64 x) (n * 1) (Fx.ovr (fun j => Fx.rv .u64 (fun _ => 0) (j % 1)) (0 * 1) 1 (fun _ => .int .u64 r)) j = Fx.rv .u64 (updA x n r) j := by
  intro j hj
  unfold Fx.appX Fx.rv updA
  by_cases h : j < n * 1
  · rw [if_pos h, if_neg (by omega)]
  rw [if_neg h, if_pos (by omega)]
  unfold Fx.ovr
  rw [if_pos (by omega)]
theorem gtB_step {P : Nat → Bool} {n k j : Nat} (e : k = j + 1) (h : ∀ i, k ≤ i → i < n → P i = true) (hj : P j = true) : ∀ i, j ≤ i → i < n → P i = true := fun i h1 h2 => by
  by_cases e2 : i = j
  · subst e2; exact hj
  · exact h i (by omega) h2
end Rt
theorem l_asked2 (m : LdM) (p a : Nat) (o r : Int) (w : World) (h : Ldg w p m) (ha : a < 6) (ho : o = (a : Int) + 1) :
    Calls Try.prog 96 #[(pt p), .int .i64 (o), .int .u64 (r)] w fun e w' => e = .returned (.bool (decide (0 ≤ m.askedN a r))) ∧ Below w.heap.size w w' := by
  subst ho; exact l_asked m p a r w h ha
set_option maxRecDepth 20000 in
set_option maxHeartbeats 2000000 in
theorem l_takes (m : LdM) (B p a D : Nat) (v : EvM) (w : World) (hL : LdO w B p m) (hB : B ≤ w.heap.size) (ha : a < 6) (ho : v.o = (a : Int) + 1) (bgg : m.s.gn ≤ 900000) (brr : ∀ i, i < 6 → m.rn i ≤ 900000) (hTN : ∀ x, m.node x = findT m.t m.tn x) (hD : findT m.t m.tn (iterT m.t m.tn D v.node) < 0) (hD2 : D ≤ 1000) :
    Calls Try.prog 76 #[(pt p), .agg (Fx.varr 14 (evY v))] w fun e w' => e = .returned (.int .i64 (takesE m.core v)) ∧ Below B w w' ∧ (takesE m.core v = 0 → ∃ m', m'.core = takesC m.core v ∧ LdO w' B p m') := by
 have hLc := hL.c
 have hLn := hL.n
 have hLg := hL.g
 have hLt := hL.tc
 have hLtr := hL.t
 have hLr := hL.r
 have hLp := hL.pB
 have hLtb := hL.tB
 have bn := hL.bn
 have bg := hL.bg
 have bt := hL.bt
 have lpp : p < w.heap.size := hLc.lt
 have ltb : m.tb < w.heap.size := hLt.lt
 refine Fx.enter Try.func76 rfl (n := 188) rfl (by rfl) ?_
 refine Ws (Wl (Fx.L.box (m := 14) (y := evY v) (by rfl) rfl rfl (Fx.cells_agg _ _) rfl fun g1 w1 eg1 m1 s1 z1 => ?_))
 have m2 := hLc.stp s1 hLc.ne
 have m3 := hLn.stp s1 (hLn.notNew (Nat.le_refl _))
 have m4 := hLg.stp s1 (hLg.notNew (Nat.le_refl _))
 have m5 := hLt.stp s1 hLt.ne
 have m6 := hLtr.stp s1 (hLtr.notNew (Nat.le_refl _))
 have m7 := hLr.up s1.old
 have b1 := s1.below (Below.refl B w) (Nat.le_trans hB (Below.refl B w).size) (Nat.le_trans hB (Below.refl B w).size)
 have lg1 : w.heap.size ≤ g1 := by rw [eg1]; exact (Below.refl B w).size
 have ng1m2 : p ≠ g1 := by rw [eg1]; exact Nat.ne_of_lt (hLc.lt)
 have ng1m5 : m.tb ≠ g1 := by rw [eg1]; exact Nat.ne_of_lt (hLt.lt)
 have tg1 : g1 < w1.heap.size := m1.lt
 clear eg1
 refine Lv (.int .i64 (0)) (x_assign rfl rfl) (Ln (sN (Ws (Ws (Wl (Lv ((pt p)) (x_move rfl rfl) (Lv ((pt g1)) (x_field rfl rfl Try.underlying50 rfl (s := 1) (by kernel_rfl) rfl rfl) (Lv (.int .i64 (v.o)) (x_load1 (x := evY v) rfl rfl (by kernel_rfl) m1.cel (i := 0) (by omega) (by omega) rfl) (Lv ((pf g1 12)) (x_field rfl rfl Try.underlying50 rfl (s := 1) (by kernel_rfl) rfl (by show _ + 12 = _; omega)) (Lv (.int .u64 (v.req)) (x_load1 (x := evY v) rfl rfl (by kernel_rfl) m1.cel (i := 12) (by omega) (by omega) rfl) ?_))))))))))
 have hld1 : Ldg w1 p m := { c := m2.cel, an := m3.arr, ag := m4.arr, tc := m5.cel, at2 := m6.arr, ar := fun i hi => (m7.1 i hi).arr, bn := (by show m.s.nn ≤ 1000000; omega), bg := bg, bt := (by show m.tn ≤ 1000000; omega), br := hL.br }
 by_cases c17 : (decide (0 ≤ m.askedN a v.req)) = true
 ·refine Fx.L.call (by rfl) (rC (args := [(pt p), .int .i64 (v.o), .int .u64 (v.req)]) rfl rfl Try.func96 rfl rfl) rfl ((l_asked2 m p a v.o v.req _ hld1 ha ho).mono ?_)
  rintro e w2 ⟨he, hb1⟩
  refine ⟨.bool true, by rw [he, c17], ?_⟩
  clear he
  have s2 := Sb hb1
  have b2 := s2.below b1 (Nat.le_trans hB b1.size) (Nat.le_trans hB b1.size)
  refine Ln (sN (Wc (b := true) rfl (fun _ => Ws (Wl (Lv (.int .i64 (14)) (x_assign rfl rfl) ?_))) (fun h => nomatch h)))
  refine Ln (sN (Wr (sR (⟨.int .i64 (14), rV Try.results76 (by exact rfl), ?_⟩))))
  have eN : regN v = a := by unfold regN; omega
  have ee : takesE m.core v = 14 := by unfold takesE; rw [eN]; exact if_pos (of_decide_eq_true c17)
  exact ⟨congrArg (fun q => Ending.returned (Value.int .i64 q)) ee.symm, b2, fun h0 => by rw [ee] at h0; cases h0⟩
 rw [Bool.not_eq_true] at c17
 refine Fx.L.call (by rfl) (rC (args := [(pt p), .int .i64 (v.o), .int .u64 (v.req)]) rfl rfl Try.func96 rfl rfl) rfl ((l_asked2 m p a v.o v.req _ hld1 ha ho).mono ?_)
 rintro e w3 ⟨he, hb2⟩
 refine ⟨.bool false, by rw [he, c17], ?_⟩
 clear he
 have s3 := Sb hb2
 have m15 := m2.stp s3 m2.ne
 have m16 := m3.stp s3 (m3.notNew (Nat.le_refl _))
 have m17 := m4.stp s3 (m4.notNew (Nat.le_refl _))
 have m18 := m5.stp s3 m5.ne
 have m19 := m6.stp s3 (m6.notNew (Nat.le_refl _))
 have m20 := m7.up s3.old
 have m21 := m1.stp s3 m1.ne
 have b3 := s3.below b1 (Nat.le_trans hB b1.size) (Nat.le_trans hB b1.size)
 refine Ln (sN (Wc (b := false) rfl (fun h => nomatch h) (fun _ => Wk (sN (Ws ?_)))))
 -- region 3 draws
 refine Fx.W.reord [0, 1, 2, 4, 3, 5, 6, 7] [0, 0, 0, 4, 0, 4, 3, 0] Fx.Mk Fx.Mk.refl Fx.Mk.trans (certs := [(6, 3, [3]), (6, 5, [5]), (7, 6, [6])]) (by kernel_rfl) (by kernel_rfl) (by kernel_rfl) (by kernel_rfl) (by kernel_rfl) fun wt1 hbwt1 hzwt1 => ?_
 have s4 : Fx.Stp w3.heap.size w3 wt1 := Sb hbwt1
 have m22 := m15.stp s4 m15.ne
 have m23 := m16.stp s4 (m16.notNew (Nat.le_refl _))
 have m24 := m17.stp s4 (m17.notNew (Nat.le_refl _))
 have m25 := m18.stp s4 m18.ne
 have m26 := m19.stp s4 (m19.notNew (Nat.le_refl _))
 have m27 := m20.up s4.old
 have m28 := m21.stp s4 m21.ne
 have b4 := s4.below b3 (Nat.le_trans hB b3.size) (Nat.le_trans hB b3.size)
 refine Rp ((pt p)) (fun v1 => x_move rfl rfl) (Rp ((pt p)) (fun v1 => x_nil rfl rfl) (Rp ((pf p 20)) (fun v1 => x_field rfl rfl Try.underlying70 rfl (s := 1) (by kernel_rfl) rfl (by show _ + 20 = _; omega)) (Rp ((pf g1 9)) (fun v1 => x_field rfl rfl Try.underlying50 rfl (s := 1) (by kernel_rfl) rfl (by show _ + 9 = _; omega)) (Fx.R.s ((pt m.tb)) (x_load1 (x := ldY m) rfl rfl (by kernel_rfl) m22.cel (i := 20) (by omega) (by omega) rfl) ?_))))
 refine Fx.R.s (.int .u64 (v.node)) (x_load1 (x := evY v) rfl rfl (by kernel_rfl) m28.cel (i := 9) (by omega) (by omega) rfl) ?_
 refine Fx.R.eff (by rfl) ?_
 refine Fx.L.call (by rfl) (rC (args := [(pt m.tb), .int .u64 (v.node)]) rfl rfl Try.func97 rfl rfl) rfl ((l_path m.tb m.ta m.tn m.tc m.t v.node D _ (ownTree m25 m26 bt) hD hD2).mono ?_)
 rintro e w4 ⟨K, vv, he, hown, hall1, hK1, hb3⟩
 obtain ⟨a1, cap1, rfl⟩ := hown.val
 refine ⟨.slice a1 K cap1, he, ?_⟩
 clear he
 have hKp : K = pathK m.t m.tn v.node := pathK_eq hall1 hK1 hD hD2
 have hKD : K ≤ 1000 := by rw [hKp]; exact lead_le _ _
 have s5 := Sb hb3
 have m29 := m22.stp s5 m22.ne
 have m30 := m23.stp s5 (m23.notNew (Nat.le_refl _))
 have m31 := m24.stp s5 (m24.notNew (Nat.le_refl _))
 have m32 := m25.stp s5 m25.ne
 have m33 := m26.stp s5 (m26.notNew (Nat.le_refl _))
 have m34 := m27.up s5.old
 have m35 := m28.stp s5 m28.ne
 have b5 := s5.below b4 (Nat.le_trans hB b4.size) (Nat.le_trans hB b4.size)
 refine Ln (Rp (.slice a1 (K) (cap1)) (fun v1 => x_assign rfl rfl) (Fx.R.nil (sN (Ws (Ws (Wl (Lv (.slice a1 (K) (cap1)) (x_move rfl rfl) ?_)))))))
 refine Lv (.int .i64 ((K : Int))) (x_len rfl rfl rfl (by kernel_rfl)) ?_
 by_cases c27 : (K : Int) = 0
 ·refine Lv (.bool true) (x_eqlT rfl rfl rfl c27) (Ln (sN (Wc (b := true) rfl (fun _ => Ws (Wl (Lv (.int .i64 (9)) (x_assign rfl rfl) ?_))) (fun h => nomatch h))))
  refine Ln (sN (Wr (sR (⟨.int .i64 (9), rV Try.results76 (by exact rfl), ?_⟩))))
  have eN : regN v = a := by unfold regN; omega
  have ne1 : ¬ 0 ≤ m.core.askedN (regN v) v.req := by rw [eN]; exact of_decide_eq_false c17
  have ee : takesE m.core v = 9 := by unfold takesE; rw [if_neg ne1]; exact if_pos (hKp.symm.trans (by omega))
  exact ⟨congrArg (fun q => Ending.returned (Value.int .i64 q)) ee.symm, b5, fun h0 => by rw [ee] at h0; cases h0⟩
 refine Lv (.bool false) (x_eqlF rfl rfl rfl c27) (Ln (sN (Wc (b := false) rfl (fun h => nomatch h) (fun _ => Wk (sN (Ws (Ws (Wl (Lv (.int .i64 (0)) (x_assign rfl rfl) (Ln (sN (Fx.W.block (Fx.W.loop (fun f w_ => ∃ k : Nat, ∃ Rk : Nat → Nat → Int, k ≤ K ∧ walkR (fun x => takeM x v.o v.amt) (idxT m.core v.node) m.R k = (Rk, 0) ∧ f 0 = (pt p) ∧ f 3 = (pt g1) ∧ f 5 = .slice a1 (K) (cap1) ∧ f 6 = .int .i64 ((k : Int)) ∧ Fx.Blk w_ p 27 (ldY m) 70 ∧ Fx.Own w_ B 159 5 (.slice m.s.ga (m.s.gn) (m.s.gc)) m.s.gn (grX m) ∧ Fx.Blk w_ m.tb 1 (fun _ => .slice m.ta m.tn m.tc) 117 ∧ Fx.Own w_ B 170 2 (.slice m.ta (m.tn) (m.tc)) m.tn (trX m.t) ∧ Rqs w_ B 6 m ∧ Fx.Blk w_ g1 14 (evY v) 50 ∧ Fx.Own w_ wt1.heap.size 30 1 (.slice a1 (K) (cap1)) K (Fx.rv .u64 (fun i => iterT m.t m.tn i v.node)) ∧ Fx.Own w_ B 123 56 (.slice m.s.na (m.s.nn) (m.s.nc)) m.s.nn (Fx.flat 56 (fun kq => ndY (m.id kq) (m.par kq) (Rk kq))) ∧ Below B w w_) (fun f _ => (K - (intOf (f 6)).toNat)) ⟨0, m.R, by omega, rfl, (by rfl), (by rfl), (by rfl), Fx.ic, m29, m31, m32, m33, m34, m35, hown, m30, b5⟩ ?_)))))))))))))
 rintro f1 w5 ⟨k, Rk, hk, hRk, h1, h2, h3, h4, m36, m37, m38, m39, m40, m41, m42, m43, b6⟩
 refine Ws (Ws (Wl (Lv (.int .i64 ((k : Int))) (x_move rfl h4) (Lv (.slice a1 (K) (cap1)) (x_move rfl h3) (Lv (.int .i64 ((K : Int))) (x_len rfl rfl rfl (by kernel_rfl)) ?_)))))
 by_cases c31 : (k : Int) < (K : Int)
 ·refine Lv (.bool true) (Fx.x_lssT rfl rfl rfl c31) (Ln (sN (Wc (b := true) rfl (fun _ => Wk (sN (Ws (Fx.W.block (Ws ?_))))) (fun h => nomatch h))))
  obtain ⟨q, hq, eq0, _⟩ := node_at (m := m) (x := iterT m.t m.tn k v.node) (by rw [hTN]; exact hall1 k (by omega))
  have ex1 : idxT m.core v.node k = q := by show (firstI (fun i => decide (m.id i = iterT m.t m.tn k v.node)) m.s.nn).toNat = q; rw [eq0]; rfl
  refine Wl (Lv ((pt p)) (x_move rfl h1) (Lv (.slice a1 (K) (cap1)) (x_move rfl h3) (Lv (.int .i64 ((k : Int))) (x_move rfl h4) ?_)))
  obtain ⟨gq1, eq1⟩ := m42.addr (by omega)
  have m44 : Fx.Own w5 wt1.heap.size 30 1 (.slice (some ⟨gq1, 0, none⟩) K cap1) K (Fx.rv .u64 (fun i => iterT m.t m.tn i v.node)) := m42.congV (congrArg (fun q => Value.slice q K cap1) eq1)
  refine Lv ((pf gq1 k)) (x_indexS rfl (rfl.trans (congrArg (fun q => Value.slice q (K) (cap1)) eq1)) rfl Try.underlying67 (s := 1) (by kernel_rfl) (by omega) (by omega) (by omega)) (Lv (.int .u64 (iterT m.t m.tn k v.node)) (x_load1 (x := Fx.rv .u64 (fun i => iterT m.t m.tn i v.node)) rfl rfl (by kernel_rfl) m44.cel (i := k) (by omega) (by omega) rfl) ?_)
  have m45 : Fx.Own w5 wt1.heap.size 30 1 (.slice a1 (K) (cap1)) K (Fx.rv .u64 (fun i => iterT m.t m.tn i v.node)) := m44.congV (congrArg (fun q => Value.slice q K cap1) eq1.symm)
  have hld2 : Ldg w5 p { m with R := Rk } := { c := m36.cel, an := m43.arr, ag := m37.arr, tc := m38.cel, at2 := m39.arr, ar := fun i hi => (m40.1 i hi).arr, bn := (by show m.s.nn ≤ 1000000; omega), bg := bg, bt := (by show m.tn ≤ 1000000; omega), br := hL.br }
  refine Fx.L.call (by rfl) (rC (args := [(pt p), .int .u64 (iterT m.t m.tn k v.node)]) rfl rfl Try.func75 rfl rfl) rfl (((l_node { m with R := Rk } p (iterT m.t m.tn k v.node) _ hld2).mono (fun e w2 h2 => (⟨h2.1.trans (congrArg (fun z => Ending.returned (Value.int .i64 z)) eq0), h2.2⟩ : e = .returned (.int .i64 (q : Int)) ∧ _))).mono ?_)
  rintro e w6 ⟨he, hb4⟩
  refine ⟨.int .i64 ((q : Int)), by rw [he], ?_⟩
  clear he
  have s6 := Sb hb4
  have m46 := m36.stp s6 m36.ne
  have m47 := m37.stp s6 (m37.notNew (Nat.le_refl _))
  have m48 := m38.stp s6 m38.ne
  have m49 := m39.stp s6 (m39.notNew (Nat.le_refl _))
  have m50 := m40.up s6.old
  have m51 := m41.stp s6 m41.ne
  have m52 := m43.stp s6 (m43.notNew (Nat.le_refl _))
  have m53 := m45.stp s6 (m45.notNew (Nat.le_refl _))
  have b7 := s6.below b6 (Nat.le_trans hB b6.size) (Nat.le_trans hB b6.size)
  refine Lv (.int .i64 ((q : Int))) (x_assign rfl rfl) (Ln (sN (Ws ?_)))
  -- region 10 draws
  obtain ⟨gq2, eq2⟩ := m52.addr (by omega)
  have m54 : Fx.Own w6 B 123 56 (.slice (some ⟨gq2, 0, none⟩) m.s.nn m.s.nc) m.s.nn (Fx.flat 56 (fun kq => ndY (m.id kq) (m.par kq) (Rk kq))) := m52.congV (congrArg (fun q => Value.slice q m.s.nn m.s.nc) eq2)
  refine Fx.W.one (T := 121) (T' := 121) (a := .tmp 8) (v := .tmp 55) (m := 54) (z := Fx.rv .i64 (fun _ => 0)) (y := Fx.rv .i64 ((takeM (Rk q) v.o v.amt).1)) (u := .agg (Fx.varr 54 (Fx.rv .i64 ((takeM (Rk q) v.o v.amt).1)))) 17 18 (List.replicate 20 (0, 2, [], [])) #[(pt p), (pt p), (pt p), (pf p 18), .slice m.s.na (m.s.nn) (m.s.nc), .int .i64 ((q : Int)), (pf gq2 (56 * q)), (pf gq2 (56 * q + 2)), .agg (Fx.varr 54 (Fx.rv .i64 (Rk q))), (pt g1), .int .i64 (v.o), (pf g1 11), .int .i64 (v.amt), .tuple #[.agg (Fx.varr 54 (Fx.rv .i64 ((takeM (Rk q) v.o v.amt).1))), .int .i64 ((takeM (Rk q) v.o v.amt).2)], .tuple #[.agg (Fx.varr 54 (Fx.rv .i64 ((takeM (Rk q) v.o v.amt).1))), .int .i64 ((takeM (Rk q) v.o v.amt).2)], .agg (Fx.varr 54 (Fx.rv .i64 ((takeM (Rk q) v.o v.amt).1))), .int .i64 ((takeM (Rk q) v.o v.amt).2), undef, undef, .int .i64 ((takeM (Rk q) v.o v.amt).2)] (by kernel_rfl) (by kernel_rfl) (by kernel_rfl) (by kernel_rfl) (by kernel_rfl) (by kernel_rfl) rfl (by kernel_rfl) rfl rfl (by kernel_rfl) (fun g2 => (show Fx.ev _ (.tmp 8) = (pt g2) from by kernel_rfl)) (fun g2 => (show Fx.ev _ (.tmp 55) = .agg (Fx.varr 54 (Fx.rv .i64 ((takeM (Rk q) v.o v.amt).1))) from by kernel_rfl)) (Fx.cells_agg _ _) (fun _ _ => rfl) (by kernel_rfl) (fun g2 => ?_) ?_
  ·refine ⟨?_, ?_, ?_, ?_, ?_, ?_, ?_, ?_, ?_, ?_, ?_, ?_, ?_, ?_, ?_, ?_, ?_, ?_, ?_, ?_, trivial⟩
   ·exact .inr (.inr (Fx.qb_yes (v := (pt p)) (by kernel_rfl) (by kernel_rfl) (Fx.qbV fun v1 hv1 => x_move rfl ((Fx.fOne_out (by kernel_rfl)).trans h1))))
   ·exact .inr (.inr (Fx.qb_yes (v := (pt p)) (by kernel_rfl) (by kernel_rfl) (Fx.qbV fun v1 hv1 => x_nil rfl (show Fx.ev _ (.tmp 41) = (pt p) from by kernel_rfl))))
   ·exact .inr (.inr (Fx.qb_yes (v := (pt p)) (by kernel_rfl) (by kernel_rfl) (Fx.qbV fun v1 hv1 => x_field rfl (show Fx.ev _ (.tmp 42) = (pt p) from by kernel_rfl) Try.underlying70 rfl (s := 20) (by kernel_rfl) rfl rfl)))
   ·exact .inr (.inr (Fx.qb_yes (v := (pf p 18)) (by kernel_rfl) (by kernel_rfl) (Fx.qbV fun v1 hv1 => x_field rfl (show Fx.ev _ (.tmp 43) = (pt p) from by kernel_rfl) Try.underlying65 rfl (s := 1) (by kernel_rfl) rfl (by show _ + 18 = _; omega))))
   ·exact .inr (.inr (Fx.qb_yes (v := .slice m.s.na (m.s.nn) (m.s.nc)) (by kernel_rfl) (by kernel_rfl) (Fx.qbV fun v1 hv1 => x_load1 (x := ldY m) rfl (show Fx.ev _ (.tmp 44) = (pf p 18) from by kernel_rfl) (by kernel_rfl) (m46.cel.below hv1 (by have := m46.lt; omega)) (i := 18) (by omega) (by omega) rfl)))
   ·exact .inr (.inr (Fx.qb_yes (v := .int .i64 ((q : Int))) (by kernel_rfl) (by kernel_rfl) (Fx.qbV fun v1 hv1 => x_move rfl (show Fx.ev _ (.tmp 7) = .int .i64 ((q : Int)) from by kernel_rfl))))
   ·exact .inr (.inr (Fx.qb_yes (v := (pf gq2 (56 * q))) (by kernel_rfl) (by kernel_rfl) (Fx.qbV fun v1 hv1 => x_indexS rfl ((show Fx.ev _ (.tmp 45) = .slice m.s.na (m.s.nn) (m.s.nc) from by kernel_rfl).trans (congrArg (fun q => Value.slice q (m.s.nn) (m.s.nc)) eq2)) (show Fx.ev _ (.tmp 46) = .int .i64 ((q : Int)) from by kernel_rfl) Try.underlying62 (s := 56) (by kernel_rfl) (by omega) (by omega) (by omega))))
   ·exact .inr (.inr (Fx.qb_yes (v := (pf gq2 (56 * q + 2))) (by kernel_rfl) (by kernel_rfl) (Fx.qbV fun v1 hv1 => x_field rfl (show Fx.ev _ (.tmp 47) = (pf gq2 (56 * q)) from by kernel_rfl) Try.underlying123 rfl (s := 54) (by kernel_rfl) rfl (by show _ + 2 = _; omega))))
   ·exact .inr (.inr (Fx.qb_yes (v := .agg (Fx.varr 54 (Fx.rv .i64 (Rk q)))) (by kernel_rfl) (by kernel_rfl) (Fx.qbV fun v1 hv1 => x_loadA (x := Fx.flat 56 (fun kq => ndY (m.id kq) (m.par kq) (Rk kq))) (y := Fx.rv .i64 (Rk q)) rfl (show Fx.ev _ (.tmp 48) = (pf gq2 (56 * q + 2)) from by kernel_rfl) (by kernel_rfl) (by kernel_rfl) (m54.cel.below hv1 (by have := m54.lt; omega)) (i := 56 * q + 2) (by omega) (by omega) (fun jq hjq => (Fx.flat_at (k := q) (j := 2 + jq) (by omega) (by omega)).trans ((fun jq _ => ndY_row _ _ _ jq) jq hjq)))))
   ·exact .inr (.inr (Fx.qb_yes (v := (pt g1)) (by kernel_rfl) (by kernel_rfl) (Fx.qbV fun v1 hv1 => x_field rfl ((Fx.fOne_out (by kernel_rfl)).trans h2) Try.underlying50 rfl (s := 1) (by kernel_rfl) rfl rfl)))
   ·exact .inr (.inr (Fx.qb_yes (v := .int .i64 (v.o)) (by kernel_rfl) (by kernel_rfl) (Fx.qbV fun v1 hv1 => x_load1 (x := evY v) rfl (show Fx.ev _ (.tmp 50) = (pt g1) from by kernel_rfl) (by kernel_rfl) (m51.cel.below hv1 (by have := m51.lt; omega)) (i := 0) (by omega) (by omega) rfl)))
   ·exact .inr (.inr (Fx.qb_yes (v := (pf g1 11)) (by kernel_rfl) (by kernel_rfl) (Fx.qbV fun v1 hv1 => x_field rfl ((Fx.fOne_out (by kernel_rfl)).trans h2) Try.underlying50 rfl (s := 1) (by kernel_rfl) rfl (by show _ + 11 = _; omega))))
   ·exact .inr (.inr (Fx.qb_yes (v := .int .i64 (v.amt)) (by kernel_rfl) (by kernel_rfl) (Fx.qbV fun v1 hv1 => x_load1 (x := evY v) rfl (show Fx.ev _ (.tmp 52) = (pf g1 11) from by kernel_rfl) (by kernel_rfl) (m51.cel.below hv1 (by have := m51.lt; omega)) (i := 11) (by omega) (by omega) rfl)))
   ·exact .inr (.inr (Fx.qb_yes (v := .tuple #[.agg (Fx.varr 54 (Fx.rv .i64 ((takeM (Rk q) v.o v.amt).1))), .int .i64 ((takeM (Rk q) v.o v.amt).2)]) (by kernel_rfl) (by kernel_rfl) (Fx.qbC (fun v1 hv1 => rC (args := [.agg (Fx.varr 54 (Fx.rv .i64 (Rk q))), .int .i64 (v.o), .int .i64 (v.amt)]) rfl (Fx.args3 (show Fx.ev _ (.tmp 49) = .agg (Fx.varr 54 (Fx.rv .i64 (Rk q))) from by kernel_rfl) (show Fx.ev _ (.tmp 51) = .int .i64 (v.o) from by kernel_rfl) (show Fx.ev _ (.tmp 53) = .int .i64 (v.amt) from by kernel_rfl)) Try.func98 rfl rfl) (fun v1 hv1 => (f7_take (Rk q) v.o v.amt _).mono fun e v2 h => ⟨h.1, h.2⟩))))
   ·exact .inr (.inr (Fx.qb_yes (v := .tuple #[.agg (Fx.varr 54 (Fx.rv .i64 ((takeM (Rk q) v.o v.amt).1))), .int .i64 ((takeM (Rk q) v.o v.amt).2)]) (by kernel_rfl) (by kernel_rfl) (Fx.qbV fun v1 hv1 => x_move rfl (show Fx.ev _ (.tmp 54) = .tuple #[.agg (Fx.varr 54 (Fx.rv .i64 ((takeM (Rk q) v.o v.amt).1))), .int .i64 ((takeM (Rk q) v.o v.amt).2)] from by kernel_rfl))))
   ·exact .inr (.inr (Fx.qb_yes (v := .agg (Fx.varr 54 (Fx.rv .i64 ((takeM (Rk q) v.o v.amt).1)))) (by kernel_rfl) (by kernel_rfl) (Fx.qbV fun v1 hv1 => Fx.x_extract rfl (show Fx.ev _ (.tmp 40) = .tuple #[.agg (Fx.varr 54 (Fx.rv .i64 ((takeM (Rk q) v.o v.amt).1))), .int .i64 ((takeM (Rk q) v.o v.amt).2)] from by kernel_rfl) rfl)))
   ·exact .inr (.inr (Fx.qb_yes (v := .int .i64 ((takeM (Rk q) v.o v.amt).2)) (by kernel_rfl) (by kernel_rfl) (Fx.qbV fun v1 hv1 => Fx.x_extract rfl (show Fx.ev _ (.tmp 40) = .tuple #[.agg (Fx.varr 54 (Fx.rv .i64 ((takeM (Rk q) v.o v.amt).1))), .int .i64 ((takeM (Rk q) v.o v.amt).2)] from by kernel_rfl) rfl)))
   ·exact .inl rfl
   ·exact .inr (.inl rfl)
   exact .inr (.inr (Fx.qb_yes (v := .int .i64 ((takeM (Rk q) v.o v.amt).2)) (by kernel_rfl) (by kernel_rfl) (Fx.qbV fun v1 hv1 => x_assign rfl (show Fx.ev _ (.tmp 56) = .int .i64 ((takeM (Rk q) v.o v.amt).2) from by kernel_rfl))))
  rintro g2 w7 f2 hf1 lg2 m55 hb5
  have s7 := Sb hb5
  have ng2m46 : p ≠ g2 := Nat.ne_of_lt (Nat.lt_of_lt_of_le (m46.lt) lg2)
  have ng2m48 : m.tb ≠ g2 := Nat.ne_of_lt (Nat.lt_of_lt_of_le (m48.lt) lg2)
  have ng2m51 : g1 ≠ g2 := Nat.ne_of_lt (Nat.lt_of_lt_of_le (m51.lt) lg2)
  have ng2m54 : gq2 ≠ g2 := Nat.ne_of_lt (Nat.lt_of_lt_of_le (m54.lt) lg2)
  have m56 := m46.stp s7 m46.ne
  have m57 := m47.stp s7 (m47.notNew (Nat.le_refl _))
  have m58 := m48.stp s7 m48.ne
  have m59 := m49.stp s7 (m49.notNew (Nat.le_refl _))
  have m60 := m50.up s7.old
  have m61 := m51.stp s7 m51.ne
  have m62 := m53.stp s7 (m53.notNew (Nat.le_refl _))
  have m63 := m54.stpB s7 (Nat.ne_of_lt (m54.lt))
  have b8 := s7.below b7 (Nat.le_trans hB b7.size) (Nat.le_trans hB b7.size)
  have lg2 : w.heap.size ≤ g2 := Nat.le_trans b7.size lg2
  have tg2 : g2 < w7.heap.size := m55.lt
  have q1 : f2 0 = (pt p) := by rw [hf1]; exact (Fx.fOne_out (by kernel_rfl)).trans h1
  have q2 : f2 3 = (pt g1) := by rw [hf1]; exact (Fx.fOne_out (by kernel_rfl)).trans h2
  have q3 : f2 5 = .slice a1 (K) (cap1) := by rw [hf1]; exact (Fx.fOne_out (by kernel_rfl)).trans h3
  have q4 : f2 6 = .int .i64 ((k : Int)) := by rw [hf1]; exact (Fx.fOne_out (by kernel_rfl)).trans h4
  have q5 : f2 28 = .int .i64 ((k : Int)) := by rw [hf1]; kernel_rfl
  have q6 : f2 29 = .slice a1 (K) (cap1) := by rw [hf1]; kernel_rfl
  have q7 : f2 30 = .int .i64 ((K : Int)) := by rw [hf1]; kernel_rfl
  have q8 : f2 31 = .bool true := by rw [hf1]; kernel_rfl
  have q9 : f2 34 = (pt p) := by rw [hf1]; kernel_rfl
  have q10 : f2 35 = .slice a1 (K) (cap1) := by rw [hf1]; kernel_rfl
  have q11 : f2 36 = .int .i64 ((k : Int)) := by rw [hf1]; kernel_rfl
  have q12 : f2 37 = (pf gq1 k) := by rw [hf1]; kernel_rfl
  have q13 : f2 38 = .int .u64 (iterT m.t m.tn k v.node) := by rw [hf1]; kernel_rfl
  have q14 : f2 39 = .int .i64 ((q : Int)) := by rw [hf1]; kernel_rfl
  have q15 : f2 7 = .int .i64 ((q : Int)) := by rw [hf1]; kernel_rfl
  have q16 : f2 41 = (pt p) := by rw [hf1]; kernel_rfl
  have q17 : f2 42 = (pt p) := by rw [hf1]; kernel_rfl
  have q18 : f2 43 = (pt p) := by rw [hf1]; kernel_rfl
  have q19 : f2 44 = (pf p 18) := by rw [hf1]; kernel_rfl
  have q20 : f2 45 = .slice m.s.na (m.s.nn) (m.s.nc) := by rw [hf1]; kernel_rfl
  have q21 : f2 46 = .int .i64 ((q : Int)) := by rw [hf1]; kernel_rfl
  have q22 : f2 47 = (pf gq2 (56 * q)) := by rw [hf1]; kernel_rfl
  have q23 : f2 48 = (pf gq2 (56 * q + 2)) := by rw [hf1]; kernel_rfl
  have q24 : f2 49 = .agg (Fx.varr 54 (Fx.rv .i64 (Rk q))) := by rw [hf1]; kernel_rfl
  have q25 : f2 50 = (pt g1) := by rw [hf1]; kernel_rfl
  have q26 : f2 51 = .int .i64 (v.o) := by rw [hf1]; kernel_rfl
  have q27 : f2 52 = (pf g1 11) := by rw [hf1]; kernel_rfl
  have q28 : f2 53 = .int .i64 (v.amt) := by rw [hf1]; kernel_rfl
  have q29 : f2 54 = .tuple #[.agg (Fx.varr 54 (Fx.rv .i64 ((takeM (Rk q) v.o v.amt).1))), .int .i64 ((takeM (Rk q) v.o v.amt).2)] := by rw [hf1]; kernel_rfl
  have q30 : f2 40 = .tuple #[.agg (Fx.varr 54 (Fx.rv .i64 ((takeM (Rk q) v.o v.amt).1))), .int .i64 ((takeM (Rk q) v.o v.amt).2)] := by rw [hf1]; kernel_rfl
  have q31 : f2 55 = .agg (Fx.varr 54 (Fx.rv .i64 ((takeM (Rk q) v.o v.amt).1))) := by rw [hf1]; kernel_rfl
  have q32 : f2 56 = .int .i64 ((takeM (Rk q) v.o v.amt).2) := by rw [hf1]; kernel_rfl
  have q33 : f2 8 = (pt g2) := by rw [hf1]; kernel_rfl
  have q34 : f2 9 = .int .i64 ((takeM (Rk q) v.o v.amt).2) := by rw [hf1]; kernel_rfl
  clear hf1
  refine sN (Ws (Ws (Wl (Lv (.int .i64 ((takeM (Rk q) v.o v.amt).2)) (x_move rfl q34) ?_))))
  by_cases c58 : ((takeM (Rk q) v.o v.amt).2) = 0
  ·refine Lv (.bool false) (Fx.x_neqF rfl rfl rfl c58) (Ln (sN (Wc (b := false) rfl (fun h => nomatch h) (fun _ => Wk (sN ?_)))))
   -- region 13 draws
   refine Fx.W.reord [0, 1, 2, 3, 5, 4, 6, 7, 8, 9] [0, 0, 0, 0, 4, 0, 4, 0, 0, 3] Fx.Mk Fx.Mk.refl Fx.Mk.trans (certs := [(9, 4, [4]), (9, 6, [6])]) (by kernel_rfl) (by kernel_rfl) (by kernel_rfl) (by kernel_rfl) (by kernel_rfl) fun wt2 hbwt2 hzwt2 => ?_
   have s8 : Fx.Stp w7.heap.size w7 wt2 := Sb hbwt2
   have m64 := m56.stp s8 m56.ne
   have m65 := m57.stp s8 (m57.notNew (Nat.le_refl _))
   have m66 := m58.stp s8 m58.ne
   have m67 := m59.stp s8 (m59.notNew (Nat.le_refl _))
   have m68 := m60.up s8.old
   have m69 := m61.stp s8 m61.ne
   have m70 := m62.stp s8 (m62.notNew (Nat.le_refl _))
   have m71 := m63.stpB s8 (Nat.ne_of_lt (m63.lt))
   have m72 := m55.stp s8 m55.ne
   have b9 := s8.below b8 (Nat.le_trans hB b8.size) (Nat.le_trans hB b8.size)
   refine Rp ((pt p)) (fun v1 => x_move rfl q1) (Rp ((pt p)) (fun v1 => x_nil rfl rfl) (Rp ((pt p)) (fun v1 => x_field rfl rfl Try.underlying70 rfl (s := 20) (by kernel_rfl) rfl rfl) (Rp ((pf p 18)) (fun v1 => x_field rfl rfl Try.underlying65 rfl (s := 1) (by kernel_rfl) rfl (by show _ + 18 = _; omega)) (Rp (.int .i64 ((q : Int))) (fun v1 => x_move rfl q15) (Fx.R.s (.slice m.s.na (m.s.nn) (m.s.nc)) (x_load1 (x := ldY m) rfl rfl (by kernel_rfl) m64.cel (i := 18) (by omega) (by omega) rfl) ?_)))))
   refine Fx.R.s (.agg (Fx.varr 54 (Fx.rv .i64 ((takeM (Rk q) v.o v.amt).1)))) (x_loadA (x := Fx.rv .i64 ((takeM (Rk q) v.o v.amt).1)) (y := Fx.rv .i64 ((takeM (Rk q) v.o v.amt).1)) rfl q33 (by kernel_rfl) (by kernel_rfl) m72.cel (i := 0) (by omega) (by omega) (fun j _ => by rw [Nat.zero_add])) ?_
   refine Rp ((pf gq2 (56 * q))) (fun v1 => x_indexS rfl (rfl.trans (congrArg (fun q => Value.slice q (m.s.nn) (m.s.nc)) eq2)) rfl Try.underlying62 (s := 56) (by kernel_rfl) (by omega) (by omega) (by omega)) (Rp ((pf gq2 (56 * q + 2))) (fun v1 => x_field rfl rfl Try.underlying123 rfl (s := 54) (by kernel_rfl) rfl (by show _ + 2 = _; omega)) (Fx.R.eff (by rfl) ?_))
   refine Fx.L.ownA (x := Fx.flat 56 (fun kq => ndY (m.id kq) (m.par kq) (Rk kq))) (y := Fx.rv .i64 ((takeM (Rk q) v.o v.amt).1)) (by rfl) rfl rfl rfl rfl (fun _ _ => rfl) (by kernel_rfl) m71 (i := 56 * q + 2) (by omega) fun w8 m73 s9 z2 => ?_
   have hct1 := Fx.ChT.of_stp s9 m71.tyB
   have m74 := m64.chT hct1 (by decide)
   have m75 := m65.chT hct1 (by decide)
   have m76 := m66.chT hct1 (by decide)
   have m77 := m67.chT hct1 (by decide)
   have m78 := m68.chT hct1 (by decide)
   have m79 := m69.chT hct1 (by decide)
   have m80 := m70.chT hct1 (by decide)
   have b10 := s9.below b9 (Nat.le_trans hB b9.size) m71.blk.1
   have m82 : Fx.Own w8 B 123 56 (.slice (some ⟨gq2, 0, none⟩) m.s.nn m.s.nc) m.s.nn (Fx.flat 56 (fun kq => ndY (m.id kq) (m.par kq) (updA Rk q ((takeM (Rk q) v.o v.amt).1) kq))) := m73.congr (fun pq hp => (Fx.ovrS_flat (k := q) (j := 2) (by omega) (by omega) pq hp).trans (Fx.flat_cong (fun i hi j hj => ndR_store i hi j hj) pq hp))
   refine Ln (Fx.R.nil (Fx.blkN (sN (Wl (Lv (.int .i64 ((k : Int))) (x_move rfl q4) (Lv (.int .i64 ((k : Int) + 1)) (Fx.x_add rfl rfl rfl Fx.io) (Lv (.int .i64 ((k : Int) + 1)) (x_assign rfl rfl) (Ln ?_))))))))
   have m83 : Fx.Own w8 B 123 56 (.slice m.s.na (m.s.nn) (m.s.nc)) m.s.nn (Fx.flat 56 (fun kq => ndY (m.id kq) (m.par kq) (updA Rk q ((takeM (Rk q) v.o v.amt).1) kq))) := m82.congV (congrArg (fun q => Value.slice q m.s.nn m.s.nc) eq2.symm)
   refine Fx.lpN ⟨k + 1, (updA Rk q (takeM (Rk q) v.o v.amt).1), by omega, (walkR_step hRk ex1 (by first | exact c58 | exact Classical.not_not.1 c58)), q1, q2, q3, Fx.ic, m74, m75, m76, m77, m78, m79, m80, m83, b10⟩ ?_
   show (K - (intOf ((.int .i64 ((k : Int) + 1)))).toNat) < _
   simp only [h4, intOf]; omega
  refine Lv (.bool true) (Fx.x_neqT rfl rfl rfl c58) (Ln (sN (Wc (b := true) rfl (fun _ => Ws (Wl (Lv (.int .i64 ((takeM (Rk q) v.o v.amt).2)) (x_move rfl q34) ?_))) (fun h => nomatch h))))
  refine Lv (.int .i64 ((takeM (Rk q) v.o v.amt).2)) (x_assign rfl rfl) (Ln (sN (Wr (sR (Fx.blkR (sR (Fx.lpR (Fx.blkR (sR (⟨.int .i64 ((takeM (Rk q) v.o v.amt).2), rV Try.results76 (by exact rfl), ?_⟩))))))))))
  have eN : regN v = a := by unfold regN; omega
  have ne1 : ¬ 0 ≤ m.core.askedN (regN v) v.req := by rw [eN]; exact of_decide_eq_false c17
  have ne2 : ¬ pathK m.core.t m.core.tn v.node = 0 := fun e => c27 (by rw [show K = 0 from hKp.trans e]; rfl)
  have ew : takesW m.core v = walkR (fun x => takeM x v.o v.amt) (idxT m.core v.node) m.R K := by unfold takesW; rw [show pathK m.core.t m.core.tn v.node = K from hKp.symm]; rfl
  have ee : takesE m.core v = (takeM (Rk q) v.o v.amt).2 := by
   unfold takesE; rw [if_neg ne1, if_neg ne2, ew]
   have e1 := walkR_err hRk ex1 c58
   rw [walkR_stop (k := k + 1) (by rw [e1]; exact c58) K (by omega)]; exact e1
  exact ⟨congrArg (fun q => Ending.returned (Value.int .i64 q)) ee.symm, b8, fun h0 => absurd (ee.symm.trans h0) c58⟩
 refine Lv (.bool false) (Fx.x_lssF rfl rfl rfl c31) (Ln (sN (Wc (b := false) rfl (fun h => nomatch h) (fun _ => Fx.W.exit (Fx.seqX (Fx.lpX (Fx.blkX (sN (Ws ?_)))))))))
 have hRK : walkR (fun x => takeM x v.o v.amt) (idxT m.core v.node) m.R K = (Rk, 0) := by rw [show K = k by omega]; exact hRk
 refine Wl (Lv ((pt g1)) (x_field rfl h2 Try.underlying50 rfl (s := 1) (by kernel_rfl) rfl rfl) (Lv (.int .i64 (v.o)) (x_load1 (x := evY v) rfl rfl (by kernel_rfl) m41.cel (i := 0) (by omega) (by omega) rfl) (Lv ((pf g1 12)) (x_field rfl h2 Try.underlying50 rfl (s := 1) (by kernel_rfl) rfl (by show _ + 12 = _; omega)) (Lv (.int .u64 (v.req)) (x_load1 (x := evY v) rfl rfl (by kernel_rfl) m41.cel (i := 12) (by omega) (by omega) rfl) (Lv ((pf g1 9)) (x_field rfl h2 Try.underlying50 rfl (s := 1) (by kernel_rfl) rfl (by show _ + 9 = _; omega)) (Lv (.int .u64 (v.node)) (x_load1 (x := evY v) rfl rfl (by kernel_rfl) m41.cel (i := 9) (by omega) (by omega) rfl) (Lv ((pf g1 11)) (x_field rfl h2 Try.underlying50 rfl (s := 1) (by kernel_rfl) rfl (by show _ + 11 = _; omega)) (Lv (.int .i64 (v.amt)) (x_load1 (x := evY v) rfl rfl (by kernel_rfl) m41.cel (i := 11) (by omega) (by omega) rfl) (Lv (.agg (Fx.varr 5 (Fx.ovr (Fx.ovr (Fx.ovr (Fx.ovr (fun zq => if zq < 1 then .int .i64 (0) else if zq < 3 then .int .u64 (0) else if zq < 4 then .int .i64 (0) else .int .u64 (0)) 0 1 (fun _ => .int .i64 (v.o))) 1 1 (fun _ => .int .u64 (v.req))) 2 1 (fun _ => .int .u64 (v.node))) 3 1 (fun _ => .int .i64 (v.amt))))) (x_build (vs := [(0, .int .i64 (v.o)), (1, .int .u64 (v.req)), (2, .int .u64 (v.node)), (3, .int .i64 (v.amt))]) (places := #[(0, 1), (1, 1), (2, 1), (3, 1), (4, 1)]) (m := 5) (x := fun zq => if zq < 1 then .int .i64 (0) else if zq < 3 then .int .u64 (0) else if zq < 4 then .int .i64 (0) else .int .u64 (0)) rfl rfl Try.underlying159 (by kernel_rfl) (by kernel_rfl) (by rw [Fx.fill_step (off := 0) (s := 1) (y := fun _ => .int .i64 (v.o)) (by kernel_rfl) (Fx.cells_one (by rfl)) (by rfl)]; rw [Fx.fill_step (off := 1) (s := 1) (y := fun _ => .int .u64 (v.req)) (by kernel_rfl) (Fx.cells_one (by rfl)) (by rfl)]; rw [Fx.fill_step (off := 2) (s := 1) (y := fun _ => .int .u64 (v.node)) (by kernel_rfl) (Fx.cells_one (by rfl)) (by rfl)]; rw [Fx.fill_step (off := 3) (s := 1) (y := fun _ => .int .i64 (v.amt)) (by kernel_rfl) (Fx.cells_one (by rfl)) (by rfl)]; rfl)) (Fx.L.new (m := 5) (y := fun zq => if zq < 1 then .int .i64 (0) else if zq < 3 then .int .u64 (0) else if zq < 4 then .int .i64 (0) else .int .u64 (0)) (by rfl) rfl (by kernel_rfl) rfl fun g3 w9 eg3 m84 s10 z3 => ?_))))))))))
 have m85 := m36.stp s10 m36.ne
 have m86 := m37.stp s10 (m37.notNew (Nat.le_refl _))
 have m87 := m38.stp s10 m38.ne
 have m88 := m39.stp s10 (m39.notNew (Nat.le_refl _))
 have m89 := m40.up s10.old
 have m90 := m41.stp s10 m41.ne
 have m92 := m43.stp s10 (m43.notNew (Nat.le_refl _))
 have b11 := s10.below b6 (Nat.le_trans hB b6.size) (Nat.le_trans hB b6.size)
 have lg3 : w.heap.size ≤ g3 := by rw [eg3]; exact b6.size
 have ng3m85 : p ≠ g3 := by rw [eg3]; exact Nat.ne_of_lt (m36.lt)
 have ng3m86 : (.slice m.s.ga (m.s.gn) (m.s.gc) : Value).ownBlock ≠ some g3 := by rw [eg3]; exact m37.notNew (Nat.le_refl _)
 have ng3m87 : m.tb ≠ g3 := by rw [eg3]; exact Nat.ne_of_lt (m38.lt)
 have ng3m90 : g1 ≠ g3 := by rw [eg3]; exact Nat.ne_of_lt (m41.lt)
 have tg3 : g3 < w9.heap.size := m84.lt
 clear eg3
 refine Fx.L.storeA (x := fun zq => if zq < 1 then .int .i64 (0) else if zq < 3 then .int .u64 (0) else if zq < 4 then .int .i64 (0) else .int .u64 (0)) (y := Fx.ovr (Fx.ovr (Fx.ovr (Fx.ovr (fun zq => if zq < 1 then .int .i64 (0) else if zq < 3 then .int .u64 (0) else if zq < 4 then .int .i64 (0) else .int .u64 (0)) 0 1 (fun _ => .int .i64 (v.o))) 1 1 (fun _ => .int .u64 (v.req))) 2 1 (fun _ => .int .u64 (v.node))) 3 1 (fun _ => .int .i64 (v.amt))) (by rfl) rfl rfl rfl rfl (Fx.ovr_ones (Fx.ovr_ones (Fx.ovr_ones (Fx.ovr_ones (fun jq _ => by show ((fun zq => if zq < 1 then .int .i64 (0) else if zq < 3 then .int .u64 (0) else if zq < 4 then .int .i64 (0) else .int .u64 (0) : Nat → Value) jq).oneCell' = true; simp only []; repeat (first | rfl | split)) (fun _ _ => rfl)) (fun _ _ => rfl)) (fun _ _ => rfl)) (fun _ _ => rfl)) (by kernel_rfl) m84 (i := 0) (by omega) fun w10 m93 s11 z4 => ?_
 have m94 : Fx.Blk w10 g3 5 (Fx.ovr (Fx.ovr (Fx.ovr (Fx.ovr (fun zq => if zq < 1 then .int .i64 (0) else if zq < 3 then .int .u64 (0) else if zq < 4 then .int .i64 (0) else .int .u64 (0)) 0 1 (fun _ => .int .i64 (v.o))) 1 1 (fun _ => .int .u64 (v.req))) 2 1 (fun _ => .int .u64 (v.node))) 3 1 (fun _ => .int .i64 (v.amt))) 159 := Fx.ovr_all m93
 have hct2 := Fx.ChT.of_stp s11 m84.ty
 have m95 := m85.chT hct2 (by decide)
 have m96 := m86.stp s11 ng3m86
 have m97 := m87.chT hct2 (by decide)
 have m98 := m88.chT hct2 (by decide)
 have m99 := m89.chT hct2 (by decide)
 have m100 := m90.chT hct2 (by decide)
 have m102 := m92.chT hct2 (by decide)
 have b12 := s11.below b11 (Nat.le_trans hB b11.size) (by omega)
 refine Ln (sN (Ws ?_))
 have m103 : Fx.Blk w10 g3 5 (grY (grN v)) 159 := m94.congr (fun j hj => by rcases j with _|_|_|_|_|j <;> first | rfl | omega)
 refine Wl (Lv ((pt p)) (x_move rfl h1) (Lv ((pt p)) (x_nil rfl rfl) (Lv ((pt p)) (x_field rfl rfl Try.underlying70 rfl (s := 20) (by kernel_rfl) rfl rfl) (Lv ((pf p 19)) (x_field rfl rfl Try.underlying65 rfl (s := 1) (by kernel_rfl) rfl (by show _ + 19 = _; omega)) (Lv (.slice m.s.ga (m.s.gn) (m.s.gc)) (x_load1 (x := ldY m) rfl rfl (by kernel_rfl) m95.cel (i := 19) (by omega) (by omega) rfl) (Lv (.int .i64 ((m.s.gn : Int))) (x_len rfl rfl rfl (by kernel_rfl)) (Lv (.int .i64 ((m.s.gn : Int))) (x_assign rfl rfl) (Ln (sN (Ws ?_))))))))))
 -- region 16 draws
 refine Fx.W.reord [0, 1, 2, 3, 4, 5, 6, 7, 8, 9, 10, 11, 12] [0, 0, 0, 0, 0, 1, 4, 2, 2, 0, 0, 0, 3] (Fx.ChT [159]) Fx.ChT.refl Fx.ChT.trans (certs := [(12, 5, [5]), (7, 6, [6]), (8, 6, [7, 6]), (12, 6, [6]), (8, 7, [7]), (9, 7, [7]), (10, 7, [7]), (11, 7, [7]), (12, 7, [7]), (9, 8, [8]), (10, 8, [8]), (11, 8, [8]), (12, 8, [8])]) (by kernel_rfl) (by kernel_rfl) (by kernel_rfl) (by kernel_rfl) (by kernel_rfl) fun wt3 hbwt3 hzwt3 => ?_
 have s12 : Fx.Stp w10.heap.size w10 wt3 := Sb hbwt3
 have m104 := m95.stp s12 m95.ne
 have m105 := m96.stp s12 (m96.notNew (Nat.le_refl _))
 have m106 := m97.stp s12 m97.ne
 have m107 := m98.stp s12 (m98.notNew (Nat.le_refl _))
 have m108 := m99.up s12.old
 have m109 := m100.stp s12 m100.ne
 have m110 := m102.stp s12 (m102.notNew (Nat.le_refl _))
 have m111 := m103.stp s12 m103.ne
 have b13 := s12.below b12 (Nat.le_trans hB b12.size) (Nat.le_trans hB b12.size)
 refine Rp ((pt p)) (fun v1 => x_move rfl h1) (Rp ((pt p)) (fun v1 => x_move rfl h1) (Rp ((pt p)) (fun v1 => x_nil rfl rfl) (Rp ((pt p)) (fun v1 => x_field rfl rfl Try.underlying70 rfl (s := 20) (by kernel_rfl) rfl rfl) (Rp ((pf p 19)) (fun v1 => x_field rfl rfl Try.underlying65 rfl (s := 1) (by kernel_rfl) rfl (by show _ + 19 = _; omega)) (Fx.R.read (v := .slice m.s.ga (m.s.gn) (m.s.gc)) (by rfl) (by rfl) (Fx.ChT.refl _) (fun v1 hv1 => x_load1 (x := ldY m) rfl rfl (by kernel_rfl) (m104.chT hv1 (by decide)).cel (i := 19) (by omega) (by omega) rfl) ?_)))))
 refine Fx.R.s (.agg (Fx.varr 5 (grY (grN v)))) (x_loadA (x := grY (grN v)) (y := grY (grN v)) rfl rfl (by kernel_rfl) (by kernel_rfl) m111.cel (i := 0) (by omega) (by omega) (fun j _ => by rw [Nat.zero_add])) ?_
 refine Fx.R.make (by rfl) ?_
 refine Fx.L.bslice (vs := [(0, .agg (Fx.varr 5 (grY (grN v))))]) (s := 5) (zc := fun zq => if zq < 1 then .int .i64 (0) else if zq < 3 then .int .u64 (0) else if zq < 4 then .int .i64 (0) else .int .u64 (0)) (y := Fx.ovr (fun j => (fun zq => if zq < 1 then .int .i64 (0) else if zq < 3 then .int .u64 (0) else if zq < 4 then .int .i64 (0) else .int .u64 (0)) (j % 5)) (0 * 5) 5 (grY (grN v))) (by rfl) rfl rfl Try.underlying63 (by kernel_rfl) (by rfl) (by rfl) (by kernel_rfl) (by rw [Fx.fill_step (off := 0 * 5) (s := 5) (y := grY (grN v)) rfl (Fx.cells_agg _ _) (by rfl)]; rfl) rfl fun g4 w11 eg4 m112 s13 z5 => ?_
 have m113 := m104.stp s13 m104.ne
 have m114 := m105.stp s13 (m105.notNew (Nat.le_refl _))
 have m115 := m106.stp s13 m106.ne
 have m116 := m107.stp s13 (m107.notNew (Nat.le_refl _))
 have m117 := m108.up s13.old
 have m118 := m109.stp s13 m109.ne
 have m119 := m110.stp s13 (m110.notNew (Nat.le_refl _))
 have m120 := m111.stp s13 m111.ne
 have b14 := s13.below b13 (Nat.le_trans hB b13.size) (Nat.le_trans hB b13.size)
 have lg4 : w.heap.size ≤ g4 := by rw [eg4]; exact b13.size
 have ng4m113 : p ≠ g4 := by rw [eg4]; exact Nat.ne_of_lt (m104.lt)
 have ng4m114 : (.slice m.s.ga (m.s.gn) (m.s.gc) : Value).ownBlock ≠ some g4 := by rw [eg4]; exact m105.notNew (Nat.le_refl _)
 have ng4m115 : m.tb ≠ g4 := by rw [eg4]; exact Nat.ne_of_lt (m106.lt)
 have ng4m118 : g1 ≠ g4 := by rw [eg4]; exact Nat.ne_of_lt (m109.lt)
 have ng4m120 : g3 ≠ g4 := by rw [eg4]; exact Nat.ne_of_lt (m111.lt)
 have tg4 : g4 < w11.heap.size := m112.lt
 clear eg4
 refine Ln ⟨Fx.ChT.of_below s13.old, ?_⟩
 refine Fx.R.make (by rfl) ?_
 refine Fx.L.app (B := B) (s := 5) (bytes := 40) (k := m.s.gn) (m := 1) (v := .slice m.s.ga (m.s.gn) (m.s.gc)) (x := grX m) (by rfl) rfl rfl rfl Try.underlying63 (by kernel_rfl) (by kernel_rfl) rfl rfl m114 m112.cel (ovr_one (grY_one _)) (by omega) (by omega) (by omega) (Nat.le_trans hB b14.size) fun g5 cap1 w12 ho1 hg1 hgv1 hlt1 => ?_
 have hct3 := Fx.ChT.of_grown hg1 m114
 have m122 := m113.chT hct3 (by decide)
 have m123 := m115.chT hct3 (by decide)
 have m124 := m116.chT hct3 (by decide)
 have m125 := m117.chT hct3 (by decide)
 have m126 := m118.chT hct3 (by decide)
 have m127 := m119.chT hct3 (by decide)
 have m128 := m120.grown hg1 ng3m86
 have ng5m128 : g3 ≠ g5 := fun e => hgv1.elim (fun e2 => ng3m86 (by rw [e]; exact e2)) (fun e2 => by have := m120.lt; omega)
 have m121 : Fx.Own w12 B 159 5 (.slice (some ⟨g5, 0, none⟩) (m.s.gn + 1) cap1) (m.s.gn + 1) (Fx.flat 5 (Fx.shF (fun kq => grY (m.g kq)) (grY (grN v)) m.s.gn m.s.gn)) := (ho1.congr (fun j hj => (Fx.app_flat j hj).trans (Fx.flat_cong (fun i hi q _ => Fx.sh_start i hi q) j hj)))
 have b15 : Below B w w12 := Fx.Below.grow b14 hg1 (Nat.le_trans hB b14.size) (fun q hq => (m114.ge hq).1)
 refine Ln ⟨hct3, ?_⟩
 refine Rp ((pt p)) (fun v1 => x_nil rfl rfl) (Rp ((pt p)) (fun v1 => x_field rfl rfl Try.underlying70 rfl (s := 20) (by kernel_rfl) rfl rfl) (Rp ((pf p 19)) (fun v1 => x_field rfl rfl Try.underlying65 rfl (s := 1) (by kernel_rfl) rfl (by show _ + 19 = _; omega)) (Fx.R.eff (by rfl) ?_)))
 refine Fx.L.store1 (x := ldY m) (u := .slice (some ⟨g5, 0, none⟩) (m.s.gn + 1) (cap1)) (by rfl) rfl rfl rfl rfl (by rfl) (by kernel_rfl) m122 (i := 19) (by omega) fun w13 m129 s14 z6 => ?_
 have hct4 := Fx.ChT.of_stp s14 m122.ty
 have m130 := m123.chT hct4 (by decide)
 have m131 := m124.chT hct4 (by decide)
 have m132 := m125.chT hct4 (by decide)
 have m133 := m126.chT hct4 (by decide)
 have m134 := m127.chT hct4 (by decide)
 have m135 := m128.chT hct4 (by decide)
 have m136 := m121.chT hct4 (by decide)
 have b16 := s14.below b15 (Nat.le_trans hB b15.size) (by omega)
 refine Ln (Fx.R.nil (sN (Fx.W.seqJ (fun f w_ => ∃ k : Nat, k ≤ m.s.gn ∧ k = Fx.down (fun i => gtG v (m.g i)) m.s.gn ∧ f 0 = (pt p) ∧ f 3 = (pt g1) ∧ f 10 = (pt g3) ∧ f 11 = .int .i64 ((k : Int)) ∧ Fx.Blk w_ m.tb 1 (fun _ => .slice m.ta m.tn m.tc) 117 ∧ Fx.Own w_ B 170 2 (.slice m.ta (m.tn) (m.tc)) m.tn (trX m.t) ∧ Rqs w_ B 6 m ∧ Fx.Blk w_ g1 14 (evY v) 50 ∧ Fx.Own w_ B 123 56 (.slice m.s.na (m.s.nn) (m.s.nc)) m.s.nn (Fx.flat 56 (fun kq => ndY (m.id kq) (m.par kq) (Rk kq))) ∧ Fx.Blk w_ g3 5 (grY (grN v)) 159 ∧ Fx.Blk w_ p 27 (Fx.updV (ldY m) 19 (.slice (some ⟨g5, 0, none⟩) (m.s.gn + 1) (cap1))) 70 ∧ Fx.Own w_ B 159 5 (.slice (some ⟨g5, 0, none⟩) (m.s.gn + 1) cap1) (m.s.gn + 1) (Fx.flat 5 (Fx.shF (fun kq => grY (m.g kq)) (grY (grN v)) m.s.gn k)) ∧ Below B w w_) ?_ ?_)))
 ·refine Fx.W.block (Fx.W.loop (fun f w_ => ∃ k : Nat, k ≤ m.s.gn ∧ (∀ i, k ≤ i → i < m.s.gn → gtG v (m.g i) = true) ∧ f 0 = (pt p) ∧ f 3 = (pt g1) ∧ f 10 = (pt g3) ∧ f 11 = .int .i64 ((k : Int)) ∧ Fx.Blk w_ m.tb 1 (fun _ => .slice m.ta m.tn m.tc) 117 ∧ Fx.Own w_ B 170 2 (.slice m.ta (m.tn) (m.tc)) m.tn (trX m.t) ∧ Rqs w_ B 6 m ∧ Fx.Blk w_ g1 14 (evY v) 50 ∧ Fx.Own w_ B 123 56 (.slice m.s.na (m.s.nn) (m.s.nc)) m.s.nn (Fx.flat 56 (fun kq => ndY (m.id kq) (m.par kq) (Rk kq))) ∧ Fx.Blk w_ g3 5 (grY (grN v)) 159 ∧ Fx.Blk w_ p 27 (Fx.updV (ldY m) 19 (.slice (some ⟨g5, 0, none⟩) (m.s.gn + 1) (cap1))) 70 ∧ Fx.Own w_ B 159 5 (.slice (some ⟨g5, 0, none⟩) (m.s.gn + 1) cap1) (m.s.gn + 1) (Fx.flat 5 (Fx.shF (fun kq => grY (m.g kq)) (grY (grN v)) m.s.gn k)) ∧ Below B w w_) (fun f _ => (intOf (f 11)).toNat) ⟨m.s.gn, by omega, (fun i h1 h2 => absurd h1 (by omega)), h1, h2, (by rfl), Fx.ic, m130, m131, m132, m133, m134, m135, m129, m136, b16⟩ ?_)
  rintro f3 w14 ⟨k, hk, hgt, h5, h6, h7, h8, m137, m138, m139, m140, m141, m142, m143, m144, b17⟩
  refine Ws (Ws ?_)
  -- region 17 draws
  refine Fx.W.quiet (fun v1 => ∃ q, v1 = World.drewN w14 q) (by kernel_rfl) (by kernel_rfl) ⟨1, rfl⟩ ?_
  refine Qv (.int .i64 ((k : Int))) (fun v1 hv1 => x_move rfl h8) ?_
  by_cases c97 : 0 < (k : Int)
  ·obtain ⟨j, ej⟩ : ∃ j, k = j + 1 := ⟨k - 1, by omega⟩
   refine Qv (.bool true) (fun v1 hv1 => Fx.x_gtrT rfl rfl rfl c97) (Qv (.bool true) (fun v1 hv1 => x_move rfl rfl) (Qv ((pt p)) (fun v1 hv1 => x_move rfl h5) (Qv ((pt p)) (fun v1 hv1 => x_nil rfl rfl) (Qv ((pt p)) (fun v1 hv1 => x_field rfl rfl Try.underlying70 rfl (s := 20) (by kernel_rfl) rfl rfl) (Qv ((pf p 19)) (fun v1 hv1 => x_field rfl rfl Try.underlying65 rfl (s := 1) (by kernel_rfl) rfl (by show _ + 19 = _; omega)) (Qv (.slice (some ⟨g5, 0, none⟩) (m.s.gn + 1) (cap1)) (fun v1 hv1 => x_load1 (x := Fx.updV (ldY m) 19 (.slice (some ⟨g5, 0, none⟩) (m.s.gn + 1) (cap1))) rfl rfl (by kernel_rfl) (by obtain ⟨qd, rfl⟩ := hv1; exact m143.cel) (i := 19) (by omega) (by omega) (Fx.updV_eq (by omega))) (Qv (.int .i64 ((k : Int))) (fun v1 hv1 => x_move rfl h8) (Qv (.int .i64 ((j : Int))) (fun v1 hv1 => Fx.x_sub rfl rfl rfl Fx.io) (Qv ((pf g5 (5 * j))) (fun v1 hv1 => x_indexS rfl rfl rfl Try.underlying63 (s := 5) (by kernel_rfl) (by omega) (by omega) (by omega)) (Qv ((pf g5 (5 * j))) (fun v1 hv1 => x_field rfl rfl Try.underlying159 rfl (s := 1) (by kernel_rfl) rfl rfl) (Qv (.int .i64 ((m.g j) 0)) (fun v1 hv1 => x_load1 (x := Fx.flat 5 (Fx.shF (fun kq => grY (m.g kq)) (grY (grN v)) m.s.gn k)) rfl rfl (by kernel_rfl) (by obtain ⟨qd, rfl⟩ := hv1; exact m144.cel) (i := 5 * j) (by omega) (by omega) (Fx.flat_cell (k := j) (j := 0) (by omega) (by omega) ((congrFun (Fx.sh_at (by omega) (by omega)) 0).trans rfl))) (Qv ((pt g3)) (fun v1 hv1 => x_field rfl h7 Try.underlying159 rfl (s := 1) (by kernel_rfl) rfl rfl) (Qv (.int .i64 (v.o)) (fun v1 hv1 => x_load1 (x := grY (grN v)) rfl rfl (by kernel_rfl) (by obtain ⟨qd, rfl⟩ := hv1; exact m142.cel) (i := 0) (by omega) (by omega) rfl) ?_)))))))))))))
   by_cases c111 : v.o < ((m.g j) 0)
   ·refine Qv (.bool true) (fun v1 hv1 => Fx.x_gtrT rfl rfl rfl c111) (Qv (.bool true) (fun v1 hv1 => x_move rfl rfl) (Qs (by rfl) rfl (Qs (by rfl) rfl (Qs (by rfl) rfl (Qs (by rfl) rfl (Qs (by rfl) rfl (Qs (by rfl) rfl (Qs (by rfl) rfl (Qs (by rfl) rfl (Qs (by rfl) rfl (Qs (by rfl) rfl (Qs (by rfl) rfl (Qs (by rfl) rfl (Qs (by rfl) rfl (Qs (by rfl) rfl (Qs (by rfl) rfl (Qs (by rfl) rfl (Qs (by rfl) rfl (Qs (by rfl) rfl (Qs (by rfl) rfl (Qs (by rfl) rfl (Qs (by rfl) rfl (Qs (by rfl) rfl (Qs (by rfl) rfl ?_))))))))))))))))))))))))
    refine Qs (by rfl) rfl (Qs (by rfl) rfl (Qs (by rfl) rfl (Qs (by rfl) rfl (Qs (by rfl) rfl (Qv (.bool true) (fun v1 hv1 => x_pickT rfl rfl rfl) (Qv (.bool true) (fun v1 hv1 => x_pickT rfl rfl rfl) (Fx.Qt.nil ?_)))))))
    rintro _ ⟨qd, rfl⟩
    obtain ⟨wq1, ewq1⟩ : ∃ v1, v1 = World.drewN w14 qd := ⟨_, rfl⟩
    rw [← ewq1]
    have s15 : Fx.Stp w14.heap.size w14 wq1 := by rw [ewq1]; exact Sb (bdrN w14 qd)
    have m145 := m137.stp s15 m137.ne
    have m146 := m138.stp s15 (m138.notNew (Nat.le_refl _))
    have m147 := m139.up s15.old
    have m148 := m140.stp s15 m140.ne
    have m149 := m141.stp s15 (m141.notNew (Nat.le_refl _))
    have m150 := m142.stp s15 m142.ne
    have m151 := m143.stp s15 m143.ne
    have m152 := m144.stpB s15 (Nat.ne_of_lt (m144.lt))
    have b18 := s15.below b17 (Nat.le_trans hB b17.size) (Nat.le_trans hB b17.size)
    clear ewq1
    refine sN (Wc (b := true) rfl (fun _ => Wk (sN (Fx.W.block (Ws ?_)))) (fun h => nomatch h))
    -- region 18 draws
    refine Fx.W.reord [0, 1, 2, 3, 5, 6, 7, 8, 9, 11, 12, 4, 10, 13, 14, 15, 16] [0, 0, 0, 0, 4, 0, 0, 0, 0, 0, 4, 0, 0, 0, 4, 0, 3] Fx.Mk Fx.Mk.refl Fx.Mk.trans (certs := [(16, 4, [4]), (16, 10, [10]), (16, 14, [14])]) (by kernel_rfl) (by kernel_rfl) (by kernel_rfl) (by kernel_rfl) (by kernel_rfl) fun wt4 hbwt4 hzwt4 => ?_
    have s16 : Fx.Stp wq1.heap.size wq1 wt4 := Sb hbwt4
    have m153 := m145.stp s16 m145.ne
    have m154 := m146.stp s16 (m146.notNew (Nat.le_refl _))
    have m155 := m147.up s16.old
    have m156 := m148.stp s16 m148.ne
    have m157 := m149.stp s16 (m149.notNew (Nat.le_refl _))
    have m158 := m150.stp s16 m150.ne
    have m159 := m151.stp s16 m151.ne
    have m160 := m152.stpB s16 (Nat.ne_of_lt (m152.lt))
    have b19 := s16.below b18 (Nat.le_trans hB b18.size) (Nat.le_trans hB b18.size)
    refine Rp ((pt p)) (fun v1 => x_move rfl h5) (Rp ((pt p)) (fun v1 => x_nil rfl rfl) (Rp ((pt p)) (fun v1 => x_field rfl rfl Try.underlying70 rfl (s := 20) (by kernel_rfl) rfl rfl) (Rp ((pf p 19)) (fun v1 => x_field rfl rfl Try.underlying65 rfl (s := 1) (by kernel_rfl) rfl (by show _ + 19 = _; omega)) (Rp (.int .i64 ((k : Int))) (fun v1 => x_move rfl h8) (Rp ((pt p)) (fun v1 => x_move rfl h5) (Rp ((pt p)) (fun v1 => x_nil rfl rfl) (Rp ((pt p)) (fun v1 => x_field rfl rfl Try.underlying70 rfl (s := 20) (by kernel_rfl) rfl rfl) (Rp ((pf p 19)) (fun v1 => x_field rfl rfl Try.underlying65 rfl (s := 1) (by kernel_rfl) rfl (by show _ + 19 = _; omega)) (Rp (.int .i64 ((k : Int))) (fun v1 => x_move rfl h8) (Rp (.int .i64 ((j : Int))) (fun v1 => Fx.x_sub rfl rfl rfl Fx.io) (Fx.R.s (.slice (some ⟨g5, 0, none⟩) (m.s.gn + 1) (cap1)) (x_load1 (x := Fx.updV (ldY m) 19 (.slice (some ⟨g5, 0, none⟩) (m.s.gn + 1) (cap1))) rfl rfl (by kernel_rfl) m159.cel (i := 19) (by omega) (by omega) (Fx.updV_eq (by omega))) ?_)))))))))))
    refine Fx.R.s (.slice (some ⟨g5, 0, none⟩) (m.s.gn + 1) (cap1)) (x_load1 (x := Fx.updV (ldY m) 19 (.slice (some ⟨g5, 0, none⟩) (m.s.gn + 1) (cap1))) rfl rfl (by kernel_rfl) m159.cel (i := 19) (by omega) (by omega) (Fx.updV_eq (by omega))) ?_
    refine Rp ((pf g5 (5 * j))) (fun v1 => x_indexS rfl rfl rfl Try.underlying63 (s := 5) (by kernel_rfl) (by omega) (by omega) (by omega)) (Fx.R.s (.agg (Fx.varr 5 (grY (m.g j)))) (x_loadA (x := Fx.flat 5 (Fx.shF (fun kq => grY (m.g kq)) (grY (grN v)) m.s.gn k)) (y := grY (m.g j)) rfl rfl (by kernel_rfl) (by kernel_rfl) m160.cel (i := 5 * j) (by omega) (by omega) (fun jq hjq => (Fx.flat_at (k := j) (by omega) hjq).trans (congrFun (Fx.sh_at (by omega) (by omega)) jq))) ?_)
    refine Rp ((pf g5 (5 * k))) (fun v1 => x_indexS rfl rfl rfl Try.underlying63 (s := 5) (by kernel_rfl) (by omega) (by omega) (by omega)) (Fx.R.eff (by rfl) ?_)
    refine Fx.L.ownA (x := Fx.flat 5 (Fx.shF (fun kq => grY (m.g kq)) (grY (grN v)) m.s.gn k)) (y := grY (m.g j)) (by rfl) rfl rfl rfl rfl (fun j _ => grY_one _ j) (by kernel_rfl) m160 (i := 5 * k) (by omega) fun w15 m161 s17 z7 => ?_
    have hct5 := Fx.ChT.of_stp s17 m160.tyB
    have m162 := m153.chT hct5 (by decide)
    have m163 := m154.chT hct5 (by decide)
    have m164 := m155.chT hct5 (by decide)
    have m165 := m156.chT hct5 (by decide)
    have m166 := m157.chT hct5 (by decide)
    have m167 := m158.stp s17 (by omega)
    have m168 := m159.chT hct5 (by decide)
    have b20 := s17.below b19 (Nat.le_trans hB b19.size) m160.blk.1
    have m169 : Fx.Own w15 B 159 5 (.slice (some ⟨g5, 0, none⟩) (m.s.gn + 1) cap1) (m.s.gn + 1) (Fx.flat 5 (Fx.shF (fun kq => grY (m.g kq)) (grY (grN v)) m.s.gn j)) := m161.congr (fun pq hp => (Fx.ovr_flat (k := k) (by omega) pq hp).trans (Fx.flat_cong (fun i hi q _ => Fx.sh_step ej (by omega) i hi q) pq hp))
    refine Ln (Fx.R.nil (sN (Wl (Lv (.int .i64 ((k : Int))) (x_move rfl h8) (Lv (.int .i64 ((j : Int))) (Fx.x_sub rfl rfl rfl Fx.io) (Lv (.int .i64 ((j : Int))) (x_assign rfl rfl) (Ln (Fx.blkN (Fx.lpN ⟨j, by omega, (gtB_step ej hgt (by unfold gtG; rw [decide_eq_true c111]; rfl)), h5, h6, h7, Fx.ic, m162, m163, m164, m165, m166, m167, m168, m169, b20⟩ ?_)))))))))
    show (intOf ((.int .i64 ((j : Int))))).toNat < _
    simp only [h8, intOf]; omega
   refine Qv (.bool false) (fun v1 hv1 => x_gtrF rfl rfl rfl c111) (Qv (.bool false) (fun v1 hv1 => x_move rfl rfl) (Qv ((pt p)) (fun v1 hv1 => x_move rfl h5) (Qv ((pt p)) (fun v1 hv1 => x_nil rfl rfl) (Qv ((pt p)) (fun v1 hv1 => x_field rfl rfl Try.underlying70 rfl (s := 20) (by kernel_rfl) rfl rfl) (Qv ((pf p 19)) (fun v1 hv1 => x_field rfl rfl Try.underlying65 rfl (s := 1) (by kernel_rfl) rfl (by show _ + 19 = _; omega)) (Qv (.slice (some ⟨g5, 0, none⟩) (m.s.gn + 1) (cap1)) (fun v1 hv1 => x_load1 (x := Fx.updV (ldY m) 19 (.slice (some ⟨g5, 0, none⟩) (m.s.gn + 1) (cap1))) rfl rfl (by kernel_rfl) (by obtain ⟨qd, rfl⟩ := hv1; exact m143.cel) (i := 19) (by omega) (by omega) (Fx.updV_eq (by omega))) (Qv (.int .i64 ((k : Int))) (fun v1 hv1 => x_move rfl h8) (Qv (.int .i64 ((j : Int))) (fun v1 hv1 => Fx.x_sub rfl rfl rfl Fx.io) (Qv ((pf g5 (5 * j))) (fun v1 hv1 => x_indexS rfl rfl rfl Try.underlying63 (s := 5) (by kernel_rfl) (by omega) (by omega) (by omega)) (Qv ((pf g5 (5 * j))) (fun v1 hv1 => x_field rfl rfl Try.underlying159 rfl (s := 1) (by kernel_rfl) rfl rfl) (Qv (.int .i64 ((m.g j) 0)) (fun v1 hv1 => x_load1 (x := Fx.flat 5 (Fx.shF (fun kq => grY (m.g kq)) (grY (grN v)) m.s.gn k)) rfl rfl (by kernel_rfl) (by obtain ⟨qd, rfl⟩ := hv1; exact m144.cel) (i := 5 * j) (by omega) (by omega) (Fx.flat_cell (k := j) (j := 0) (by omega) (by omega) ((congrFun (Fx.sh_at (by omega) (by omega)) 0).trans rfl))) (Qv ((pt g3)) (fun v1 hv1 => x_field rfl h7 Try.underlying159 rfl (s := 1) (by kernel_rfl) rfl rfl) (Qv (.int .i64 (v.o)) (fun v1 hv1 => x_load1 (x := grY (grN v)) rfl rfl (by kernel_rfl) (by obtain ⟨qd, rfl⟩ := hv1; exact m142.cel) (i := 0) (by omega) (by omega) rfl) ?_)))))))))))))
   by_cases c125 : ((m.g j) 0) = v.o
   ·refine Qv (.bool true) (fun v1 hv1 => x_eqlT rfl rfl rfl c125) (Qv (.bool true) (fun v1 hv1 => x_move rfl rfl) (Qv ((pt p)) (fun v1 hv1 => x_move rfl h5) (Qv ((pt p)) (fun v1 hv1 => x_nil rfl rfl) (Qv ((pt p)) (fun v1 hv1 => x_field rfl rfl Try.underlying70 rfl (s := 20) (by kernel_rfl) rfl rfl) (Qv ((pf p 19)) (fun v1 hv1 => x_field rfl rfl Try.underlying65 rfl (s := 1) (by kernel_rfl) rfl (by show _ + 19 = _; omega)) (Qv (.slice (some ⟨g5, 0, none⟩) (m.s.gn + 1) (cap1)) (fun v1 hv1 => x_load1 (x := Fx.updV (ldY m) 19 (.slice (some ⟨g5, 0, none⟩) (m.s.gn + 1) (cap1))) rfl rfl (by kernel_rfl) (by obtain ⟨qd, rfl⟩ := hv1; exact m143.cel) (i := 19) (by omega) (by omega) (Fx.updV_eq (by omega))) (Qv (.int .i64 ((k : Int))) (fun v1 hv1 => x_move rfl h8) (Qv (.int .i64 ((j : Int))) (fun v1 hv1 => Fx.x_sub rfl rfl rfl Fx.io) (Qv ((pf g5 (5 * j))) (fun v1 hv1 => x_indexS rfl rfl rfl Try.underlying63 (s := 5) (by kernel_rfl) (by omega) (by omega) (by omega)) (Qv ((pf g5 (5 * j + 1))) (fun v1 hv1 => x_field rfl rfl Try.underlying159 rfl (s := 1) (by kernel_rfl) rfl (by show _ + 1 = _; omega)) (Qv (.int .u64 ((m.g j) 1)) (fun v1 hv1 => x_load1 (x := Fx.flat 5 (Fx.shF (fun kq => grY (m.g kq)) (grY (grN v)) m.s.gn k)) rfl rfl (by kernel_rfl) (by obtain ⟨qd, rfl⟩ := hv1; exact m144.cel) (i := 5 * j + 1) (by omega) (by omega) (Fx.flat_cell (k := j) (j := 1) (by omega) (by omega) ((congrFun (Fx.sh_at (by omega) (by omega)) 1).trans rfl))) (Qv ((pf g3 1)) (fun v1 hv1 => x_field rfl h7 Try.underlying159 rfl (s := 1) (by kernel_rfl) rfl (by show _ + 1 = _; omega)) (Qv (.int .u64 (v.req)) (fun v1 hv1 => x_load1 (x := grY (grN v)) rfl rfl (by kernel_rfl) (by obtain ⟨qd, rfl⟩ := hv1; exact m142.cel) (i := 1) (by omega) (by omega) rfl) ?_)))))))))))))
    by_cases c139 : v.req < ((m.g j) 1)
    ·refine Qv (.bool true) (fun v1 hv1 => Fx.x_gtrT rfl rfl rfl c139) (Qv (.bool true) (fun v1 hv1 => x_pickT rfl rfl rfl) (Qv (.bool true) (fun v1 hv1 => x_pickF rfl rfl rfl) (Qv (.bool true) (fun v1 hv1 => x_pickT rfl rfl rfl) (Fx.Qt.nil ?_))))
     rintro _ ⟨qd, rfl⟩
     obtain ⟨wq2, ewq2⟩ : ∃ v1, v1 = World.drewN w14 qd := ⟨_, rfl⟩
     rw [← ewq2]
     have s18 : Fx.Stp w14.heap.size w14 wq2 := by rw [ewq2]; exact Sb (bdrN w14 qd)
     have m170 := m137.stp s18 m137.ne
     have m171 := m138.stp s18 (m138.notNew (Nat.le_refl _))
     have m172 := m139.up s18.old
     have m173 := m140.stp s18 m140.ne
     have m174 := m141.stp s18 (m141.notNew (Nat.le_refl _))
     have m175 := m142.stp s18 m142.ne
     have m176 := m143.stp s18 m143.ne
     have m177 := m144.stpB s18 (Nat.ne_of_lt (m144.lt))
     have b21 := s18.below b17 (Nat.le_trans hB b17.size) (Nat.le_trans hB b17.size)
     clear ewq2
     refine sN (Wc (b := true) rfl (fun _ => Wk (sN (Fx.W.block (Ws ?_)))) (fun h => nomatch h))
     -- region 18 draws
     refine Fx.W.reord [0, 1, 2, 3, 5, 6, 7, 8, 9, 11, 12, 4, 10, 13, 14, 15, 16] [0, 0, 0, 0, 4, 0, 0, 0, 0, 0, 4, 0, 0, 0, 4, 0, 3] Fx.Mk Fx.Mk.refl Fx.Mk.trans (certs := [(16, 4, [4]), (16, 10, [10]), (16, 14, [14])]) (by kernel_rfl) (by kernel_rfl) (by kernel_rfl) (by kernel_rfl) (by kernel_rfl) fun wt5 hbwt5 hzwt5 => ?_
     have s19 : Fx.Stp wq2.heap.size wq2 wt5 := Sb hbwt5
     have m178 := m170.stp s19 m170.ne
     have m179 := m171.stp s19 (m171.notNew (Nat.le_refl _))
     have m180 := m172.up s19.old
     have m181 := m173.stp s19 m173.ne
     have m182 := m174.stp s19 (m174.notNew (Nat.le_refl _))
     have m183 := m175.stp s19 m175.ne
     have m184 := m176.stp s19 m176.ne
     have m185 := m177.stpB s19 (Nat.ne_of_lt (m177.lt))
     have b22 := s19.below b21 (Nat.le_trans hB b21.size) (Nat.le_trans hB b21.size)
     refine Rp ((pt p)) (fun v1 => x_move rfl h5) (Rp ((pt p)) (fun v1 => x_nil rfl rfl) (Rp ((pt p)) (fun v1 => x_field rfl rfl Try.underlying70 rfl (s := 20) (by kernel_rfl) rfl rfl) (Rp ((pf p 19)) (fun v1 => x_field rfl rfl Try.underlying65 rfl (s := 1) (by kernel_rfl) rfl (by show _ + 19 = _; omega)) (Rp (.int .i64 ((k : Int))) (fun v1 => x_move rfl h8) (Rp ((pt p)) (fun v1 => x_move rfl h5) (Rp ((pt p)) (fun v1 => x_nil rfl rfl) (Rp ((pt p)) (fun v1 => x_field rfl rfl Try.underlying70 rfl (s := 20) (by kernel_rfl) rfl rfl) (Rp ((pf p 19)) (fun v1 => x_field rfl rfl Try.underlying65 rfl (s := 1) (by kernel_rfl) rfl (by show _ + 19 = _; omega)) (Rp (.int .i64 ((k : Int))) (fun v1 => x_move rfl h8) (Rp (.int .i64 ((j : Int))) (fun v1 => Fx.x_sub rfl rfl rfl Fx.io) (Fx.R.s (.slice (some ⟨g5, 0, none⟩) (m.s.gn + 1) (cap1)) (x_load1 (x := Fx.updV (ldY m) 19 (.slice (some ⟨g5, 0, none⟩) (m.s.gn + 1) (cap1))) rfl rfl (by kernel_rfl) m184.cel (i := 19) (by omega) (by omega) (Fx.updV_eq (by omega))) ?_)))))))))))
     refine Fx.R.s (.slice (some ⟨g5, 0, none⟩) (m.s.gn + 1) (cap1)) (x_load1 (x := Fx.updV (ldY m) 19 (.slice (some ⟨g5, 0, none⟩) (m.s.gn + 1) (cap1))) rfl rfl (by kernel_rfl) m184.cel (i := 19) (by omega) (by omega) (Fx.updV_eq (by omega))) ?_
     refine Rp ((pf g5 (5 * j))) (fun v1 => x_indexS rfl rfl rfl Try.underlying63 (s := 5) (by kernel_rfl) (by omega) (by omega) (by omega)) (Fx.R.s (.agg (Fx.varr 5 (grY (m.g j)))) (x_loadA (x := Fx.flat 5 (Fx.shF (fun kq => grY (m.g kq)) (grY (grN v)) m.s.gn k)) (y := grY (m.g j)) rfl rfl (by kernel_rfl) (by kernel_rfl) m185.cel (i := 5 * j) (by omega) (by omega) (fun jq hjq => (Fx.flat_at (k := j) (by omega) hjq).trans (congrFun (Fx.sh_at (by omega) (by omega)) jq))) ?_)
     refine Rp ((pf g5 (5 * k))) (fun v1 => x_indexS rfl rfl rfl Try.underlying63 (s := 5) (by kernel_rfl) (by omega) (by omega) (by omega)) (Fx.R.eff (by rfl) ?_)
     refine Fx.L.ownA (x := Fx.flat 5 (Fx.shF (fun kq => grY (m.g kq)) (grY (grN v)) m.s.gn k)) (y := grY (m.g j)) (by rfl) rfl rfl rfl rfl (fun j _ => grY_one _ j) (by kernel_rfl) m185 (i := 5 * k) (by omega) fun w16 m186 s20 z8 => ?_
     have hct6 := Fx.ChT.of_stp s20 m185.tyB
     have m187 := m178.chT hct6 (by decide)
     have m188 := m179.chT hct6 (by decide)
     have m189 := m180.chT hct6 (by decide)
     have m190 := m181.chT hct6 (by decide)
     have m191 := m182.chT hct6 (by decide)
     have m192 := m183.stp s20 (by omega)
     have m193 := m184.chT hct6 (by decide)
     have b23 := s20.below b22 (Nat.le_trans hB b22.size) m185.blk.1
     have m194 : Fx.Own w16 B 159 5 (.slice (some ⟨g5, 0, none⟩) (m.s.gn + 1) cap1) (m.s.gn + 1) (Fx.flat 5 (Fx.shF (fun kq => grY (m.g kq)) (grY (grN v)) m.s.gn j)) := m186.congr (fun pq hp => (Fx.ovr_flat (k := k) (by omega) pq hp).trans (Fx.flat_cong (fun i hi q _ => Fx.sh_step ej (by omega) i hi q) pq hp))
     refine Ln (Fx.R.nil (sN (Wl (Lv (.int .i64 ((k : Int))) (x_move rfl h8) (Lv (.int .i64 ((j : Int))) (Fx.x_sub rfl rfl rfl Fx.io) (Lv (.int .i64 ((j : Int))) (x_assign rfl rfl) (Ln (Fx.blkN (Fx.lpN ⟨j, by omega, (gtB_step ej hgt (by unfold gtG; rw [decide_eq_true c125, decide_eq_true c139]; cases decide (v.o < m.g j 0) <;> rfl)), h5, h6, h7, Fx.ic, m187, m188, m189, m190, m191, m192, m193, m194, b23⟩ ?_)))))))))
     show (intOf ((.int .i64 ((j : Int))))).toNat < _
     simp only [h8, intOf]; omega
    refine Qv (.bool false) (fun v1 hv1 => x_gtrF rfl rfl rfl c139) (Qv (.bool false) (fun v1 hv1 => x_pickT rfl rfl rfl) (Qv (.bool false) (fun v1 hv1 => x_pickF rfl rfl rfl) (Qv (.bool false) (fun v1 hv1 => x_pickT rfl rfl rfl) (Fx.Qt.nil ?_))))
    rintro _ ⟨qd, rfl⟩
    obtain ⟨wq3, ewq3⟩ : ∃ v1, v1 = World.drewN w14 qd := ⟨_, rfl⟩
    rw [← ewq3]
    have s21 : Fx.Stp w14.heap.size w14 wq3 := by rw [ewq3]; exact Sb (bdrN w14 qd)
    have m195 := m137.stp s21 m137.ne
    have m196 := m138.stp s21 (m138.notNew (Nat.le_refl _))
    have m197 := m139.up s21.old
    have m198 := m140.stp s21 m140.ne
    have m199 := m141.stp s21 (m141.notNew (Nat.le_refl _))
    have m200 := m142.stp s21 m142.ne
    have m201 := m143.stp s21 m143.ne
    have m202 := m144.stpB s21 (Nat.ne_of_lt (m144.lt))
    have b24 := s21.below b17 (Nat.le_trans hB b17.size) (Nat.le_trans hB b17.size)
    clear ewq3
    refine sN (Wc (b := false) rfl (fun h => nomatch h) (fun _ => Fx.W.exit (Fx.seqX (Fx.lpX (Fx.blkX ?_)))))
    exact Fx.jnN ⟨k, hk, (Fx.down_eq hk hgt (.inr (fun j2 e => by rw [show j2 = j by omega]; unfold gtG; rw [decide_eq_false c111, decide_eq_false c139, Bool.and_false]; rfl))), h5, h6, h7, (h8.trans Fx.ic), m195, m196, m197, m198, m199, m200, m201, m202, b24⟩
   refine Qv (.bool false) (fun v1 hv1 => x_eqlF rfl rfl rfl c125) (Qv (.bool false) (fun v1 hv1 => x_move rfl rfl) (Qs (by rfl) rfl (Qs (by rfl) rfl (Qs (by rfl) rfl (Qs (by rfl) rfl (Qs (by rfl) rfl (Qs (by rfl) rfl (Qs (by rfl) rfl (Qs (by rfl) rfl (Qs (by rfl) rfl (Qs (by rfl) rfl (Qs (by rfl) rfl (Qs (by rfl) rfl (Qs (by rfl) rfl (Qv (.bool false) (fun v1 hv1 => x_pickF rfl rfl rfl) (Qv (.bool false) (fun v1 hv1 => x_pickF rfl rfl rfl) (Qv (.bool false) (fun v1 hv1 => x_pickT rfl rfl rfl) (Fx.Qt.nil ?_))))))))))))))))))
   rintro _ ⟨qd, rfl⟩
   obtain ⟨wq4, ewq4⟩ : ∃ v1, v1 = World.drewN w14 qd := ⟨_, rfl⟩
   rw [← ewq4]
   have s22 : Fx.Stp w14.heap.size w14 wq4 := by rw [ewq4]; exact Sb (bdrN w14 qd)
   have m203 := m137.stp s22 m137.ne
   have m204 := m138.stp s22 (m138.notNew (Nat.le_refl _))
   have m205 := m139.up s22.old
   have m206 := m140.stp s22 m140.ne
   have m207 := m141.stp s22 (m141.notNew (Nat.le_refl _))
   have m208 := m142.stp s22 m142.ne
   have m209 := m143.stp s22 m143.ne
   have m210 := m144.stpB s22 (Nat.ne_of_lt (m144.lt))
   have b25 := s22.below b17 (Nat.le_trans hB b17.size) (Nat.le_trans hB b17.size)
   clear ewq4
   refine sN (Wc (b := false) rfl (fun h => nomatch h) (fun _ => Fx.W.exit (Fx.seqX (Fx.lpX (Fx.blkX ?_)))))
   exact Fx.jnN ⟨k, hk, (Fx.down_eq hk hgt (.inr (fun j2 e => by rw [show j2 = j by omega]; unfold gtG; rw [decide_eq_false c111, decide_eq_false c125]; rfl))), h5, h6, h7, (h8.trans Fx.ic), m203, m204, m205, m206, m207, m208, m209, m210, b25⟩
  refine Qv (.bool false) (fun v1 hv1 => x_gtrF rfl rfl rfl c97) (Qv (.bool false) (fun v1 hv1 => x_move rfl rfl) (Qs (by rfl) rfl (Qs (by rfl) rfl (Qs (by rfl) rfl (Qs (by rfl) rfl (Qs (by rfl) rfl (Qs (by rfl) rfl (Qs (by rfl) rfl (Qs (by rfl) rfl (Qs (by rfl) rfl (Qs (by rfl) rfl (Qs (by rfl) rfl (Qs (by rfl) rfl (Qs (by rfl) rfl (Qs (by rfl) rfl (Qs (by rfl) rfl (Qs (by rfl) rfl (Qs (by rfl) rfl (Qs (by rfl) rfl (Qs (by rfl) rfl (Qs (by rfl) rfl (Qs (by rfl) rfl (Qs (by rfl) rfl (Qs (by rfl) rfl ?_))))))))))))))))))))))))
  refine Qs (by rfl) rfl (Qs (by rfl) rfl (Qs (by rfl) rfl (Qs (by rfl) rfl (Qs (by rfl) rfl (Qs (by rfl) rfl (Qs (by rfl) rfl (Qs (by rfl) rfl (Qs (by rfl) rfl (Qs (by rfl) rfl (Qs (by rfl) rfl (Qs (by rfl) rfl (Qs (by rfl) rfl (Qs (by rfl) rfl (Qs (by rfl) rfl (Qs (by rfl) rfl (Qs (by rfl) rfl (Qs (by rfl) rfl (Qs (by rfl) rfl (Qs (by rfl) rfl (Qv (.bool false) (fun v1 hv1 => x_pickF rfl rfl rfl) (Fx.Qt.nil ?_)))))))))))))))))))))
  rintro _ ⟨qd, rfl⟩
  obtain ⟨wq5, ewq5⟩ : ∃ v1, v1 = World.drewN w14 qd := ⟨_, rfl⟩
  rw [← ewq5]
  have s23 : Fx.Stp w14.heap.size w14 wq5 := by rw [ewq5]; exact Sb (bdrN w14 qd)
  have m211 := m137.stp s23 m137.ne
  have m212 := m138.stp s23 (m138.notNew (Nat.le_refl _))
  have m213 := m139.up s23.old
  have m214 := m140.stp s23 m140.ne
  have m215 := m141.stp s23 (m141.notNew (Nat.le_refl _))
  have m216 := m142.stp s23 m142.ne
  have m217 := m143.stp s23 m143.ne
  have m218 := m144.stpB s23 (Nat.ne_of_lt (m144.lt))
  have b26 := s23.below b17 (Nat.le_trans hB b17.size) (Nat.le_trans hB b17.size)
  clear ewq5
  refine sN (Wc (b := false) rfl (fun h => nomatch h) (fun _ => Fx.W.exit (Fx.seqX (Fx.lpX (Fx.blkX ?_)))))
  exact Fx.jnN ⟨k, hk, (Fx.down_eq hk hgt (.inl (by omega))), h5, h6, h7, (h8.trans Fx.ic), m211, m212, m213, m214, m215, m216, m217, m218, b26⟩
 rintro f4 w17 ⟨k, hk, ek, h9, h10, h11, h12, m219, m220, m221, m222, m223, m224, m225, m226, b27⟩
 refine Ws ?_
 -- region 20 draws
 refine Fx.W.reord [0, 1, 2, 3, 5, 4, 6, 7, 8] [0, 0, 0, 0, 4, 0, 4, 0, 3] Fx.Mk Fx.Mk.refl Fx.Mk.trans (certs := [(8, 4, [4]), (8, 6, [6])]) (by kernel_rfl) (by kernel_rfl) (by kernel_rfl) (by kernel_rfl) (by kernel_rfl) fun wt6 hbwt6 hzwt6 => ?_
 have s24 : Fx.Stp w17.heap.size w17 wt6 := Sb hbwt6
 have m227 := m219.stp s24 m219.ne
 have m228 := m220.stp s24 (m220.notNew (Nat.le_refl _))
 have m229 := m221.up s24.old
 have m230 := m222.stp s24 m222.ne
 have m231 := m223.stp s24 (m223.notNew (Nat.le_refl _))
 have m232 := m224.stp s24 m224.ne
 have m233 := m225.stp s24 m225.ne
 have m234 := m226.stpB s24 (Nat.ne_of_lt (m226.lt))
 have b28 := s24.below b27 (Nat.le_trans hB b27.size) (Nat.le_trans hB b27.size)
 refine Rp ((pt p)) (fun v1 => x_move rfl h9) (Rp ((pt p)) (fun v1 => x_nil rfl rfl) (Rp ((pt p)) (fun v1 => x_field rfl rfl Try.underlying70 rfl (s := 20) (by kernel_rfl) rfl rfl) (Rp ((pf p 19)) (fun v1 => x_field rfl rfl Try.underlying65 rfl (s := 1) (by kernel_rfl) rfl (by show _ + 19 = _; omega)) (Rp (.int .i64 ((k : Int))) (fun v1 => x_move rfl h12) (Fx.R.s (.slice (some ⟨g5, 0, none⟩) (m.s.gn + 1) (cap1)) (x_load1 (x := Fx.updV (ldY m) 19 (.slice (some ⟨g5, 0, none⟩) (m.s.gn + 1) (cap1))) rfl rfl (by kernel_rfl) m233.cel (i := 19) (by omega) (by omega) (Fx.updV_eq (by omega))) ?_)))))
 refine Fx.R.s (.agg (Fx.varr 5 (grY (grN v)))) (x_loadA (x := grY (grN v)) (y := grY (grN v)) rfl h11 (by kernel_rfl) (by kernel_rfl) m232.cel (i := 0) (by omega) (by omega) (fun j _ => by rw [Nat.zero_add])) ?_
 refine Rp ((pf g5 (5 * k))) (fun v1 => x_indexS rfl rfl rfl Try.underlying63 (s := 5) (by kernel_rfl) (by omega) (by omega) (by omega)) (Fx.R.eff (by rfl) ?_)
 refine Fx.L.ownA (x := Fx.flat 5 (Fx.shF (fun kq => grY (m.g kq)) (grY (grN v)) m.s.gn k)) (y := grY (grN v)) (by rfl) rfl rfl rfl rfl (fun j _ => grY_one _ j) (by kernel_rfl) m234 (i := 5 * k) (by omega) fun w18 m235 s25 z9 => ?_
 have hct7 := Fx.ChT.of_stp s25 m234.tyB
 have m236 := m227.chT hct7 (by decide)
 have m237 := m228.chT hct7 (by decide)
 have m238 := m229.chT hct7 (by decide)
 have m239 := m230.chT hct7 (by decide)
 have m240 := m231.chT hct7 (by decide)
 have m241 := m232.stp s25 (by omega)
 have m242 := m233.chT hct7 (by decide)
 have b29 := s25.below b28 (Nat.le_trans hB b28.size) m234.blk.1
 have m243 : Fx.Own w18 B 159 5 (.slice (some ⟨g5, 0, none⟩) (m.s.gn + 1) cap1) (m.s.gn + 1) (Fx.flat 5 (Fx.insF (fun kq => grY (m.g kq)) k (grY (grN v)))) := m235.congr (fun pq hp => (Fx.ovr_flat (k := k) (by omega) pq hp).trans (Fx.flat_cong (fun i hi q _ => Fx.ins_end (by omega) i hi q) pq hp))
 refine Ln (Fx.R.nil (sN (Ws ?_)))
 have m244 : Fx.Own w18 B 30 1 (.slice (m.ra a) ((m.rn a)) ((m.rc a))) (m.rn a) (Fx.rv .u64 (m.rq a)) := m238.1 a ha
 have bra := hL.br a ha
 -- region 21 draws
 refine Fx.W.reord [0, 1, 4, 5, 8, 9, 12, 16, 17, 2, 3, 6, 7, 10, 11, 13, 14, 15, 18, 19] [0, 0, 1, 0, 0, 0, 1, 0, 0, 0, 0, 1, 0, 4, 2, 2, 0, 0, 0, 3] (Fx.ChT [30]) Fx.ChT.refl Fx.ChT.trans (certs := [(19, 2, [2]), (19, 6, [6]), (19, 11, [11]), (14, 13, [13]), (15, 13, [14, 13]), (19, 13, [13]), (15, 14, [14]), (18, 14, [14]), (19, 14, [14]), (18, 15, [15]), (19, 15, [15])]) (by kernel_rfl) (by kernel_rfl) (by kernel_rfl) (by kernel_rfl) (by kernel_rfl) fun wt7 hbwt7 hzwt7 => ?_
 have s26 : Fx.Stp w18.heap.size w18 wt7 := Sb hbwt7
 have m245 := m236.stp s26 m236.ne
 have m246 := m237.stp s26 (m237.notNew (Nat.le_refl _))
 have m247 := m238.up s26.old
 have m248 := m239.stp s26 m239.ne
 have m249 := m240.stp s26 (m240.notNew (Nat.le_refl _))
 have m250 := m241.stp s26 m241.ne
 have m251 := m242.stp s26 m242.ne
 have m252 := m243.stpB s26 (Nat.ne_of_lt (m243.lt))
 have m253 := m244.stp s26 (m244.notNew (Nat.le_refl _))
 have b30 := s26.below b29 (Nat.le_trans hB b29.size) (Nat.le_trans hB b29.size)
 refine Rp ((pt p)) (fun v1 => x_move rfl h9) (Rp ((pt g1)) (fun v1 => x_field rfl h10 Try.underlying50 rfl (s := 1) (by kernel_rfl) rfl rfl) (Rp ((pt p)) (fun v1 => x_move rfl h9) (Rp ((pt g1)) (fun v1 => x_field rfl h10 Try.underlying50 rfl (s := 1) (by kernel_rfl) rfl rfl) (Rp ((pt p)) (fun v1 => x_nil rfl rfl) (Rp ((pf p 21)) (fun v1 => x_field rfl rfl Try.underlying70 rfl (s := 6) (by kernel_rfl) rfl (by show _ + 21 = _; omega)) (Rp ((pf g1 12)) (fun v1 => x_field rfl h10 Try.underlying50 rfl (s := 1) (by kernel_rfl) rfl (by show _ + 12 = _; omega)) (Rp ((pt p)) (fun v1 => x_nil rfl rfl) (Rp ((pf p 21)) (fun v1 => x_field rfl rfl Try.underlying70 rfl (s := 6) (by kernel_rfl) rfl (by show _ + 21 = _; omega)) (Fx.R.read (v := .int .i64 (v.o)) (by rfl) (by rfl) (Fx.ChT.refl _) (fun v1 hv1 => x_load1 (x := evY v) rfl rfl (by kernel_rfl) (m248.chT hv1 (by decide)).cel (i := 0) (by omega) (by omega) rfl) ?_)))))))))
 refine Rp (.int .i64 ((a : Int))) (fun v1 => Fx.x_sub rfl rfl rfl Fx.io) (Fx.R.read (v := .int .i64 (v.o)) (by rfl) (by rfl) (Fx.ChT.refl _) (fun v1 hv1 => x_load1 (x := evY v) rfl rfl (by kernel_rfl) (m248.chT hv1 (by decide)).cel (i := 0) (by omega) (by omega) rfl) ?_)
 refine Rp (.int .i64 ((a : Int))) (fun v1 => Fx.x_sub rfl rfl rfl Fx.io) (Rp ((pf p (a + 21))) (fun v1 => x_index rfl rfl rfl Try.underlying68 (s := 1) (by kernel_rfl) (by omega) (by omega) (by omega)) (Fx.R.read (v := .slice (m.ra a) ((m.rn a)) ((m.rc a))) (by rfl) (by rfl) (Fx.ChT.refl _) (fun v1 hv1 => x_load1 (x := Fx.updV (ldY m) 19 (.slice (some ⟨g5, 0, none⟩) (m.s.gn + 1) (cap1))) rfl rfl (by kernel_rfl) (m251.chT hv1 (by decide)).cel (i := a + 21) (by omega) (by omega) (Fx.updV_ne (by omega) (ldY_req _ (by omega)))) ?_))
 refine Fx.R.s (.int .u64 (v.req)) (x_load1 (x := evY v) rfl rfl (by kernel_rfl) m248.cel (i := 12) (by omega) (by omega) rfl) ?_
 refine Fx.R.make (by rfl) ?_
 refine Fx.L.bslice (vs := [(0, .int .u64 (v.req))]) (s := 1) (zc := Fx.rv .u64 (fun _ => 0)) (y := Fx.ovr (fun j => (Fx.rv .u64 (fun _ => 0)) (j % 1)) (0 * 1) 1 (fun _ => .int .u64 (v.req))) (by rfl) rfl rfl Try.underlying67 (by kernel_rfl) (by rfl) (by rfl) (by kernel_rfl) (by rw [Fx.fill_step (off := 0 * 1) (s := 1) (y := fun _ => .int .u64 (v.req)) rfl (Fx.cells_one (by rfl)) (by rfl)]; rfl) rfl fun g6 w19 eg6 m254 s27 z10 => ?_
 have m255 := m245.stp s27 m245.ne
 have m256 := m246.stp s27 (m246.notNew (Nat.le_refl _))
 have m257 := m247.up s27.old
 have m259 := m249.stp s27 (m249.notNew (Nat.le_refl _))
 have m261 := m251.stp s27 m251.ne
 have m262 := m252.stpB s27 (Nat.ne_of_lt (m252.lt))
 have m263 := m253.stp s27 (m253.notNew (Nat.le_refl _))
 have b31 := s27.below b30 (Nat.le_trans hB b30.size) (Nat.le_trans hB b30.size)
 have lg6 : w.heap.size ≤ g6 := by rw [eg6]; exact b30.size
 have ng6m255 : m.tb ≠ g6 := by rw [eg6]; exact Nat.ne_of_lt (m245.lt)
 have ng6m258 : g1 ≠ g6 := by rw [eg6]; exact Nat.ne_of_lt (m248.lt)
 have ng6m260 : g3 ≠ g6 := by rw [eg6]; exact Nat.ne_of_lt (m250.lt)
 have ng6m261 : p ≠ g6 := by rw [eg6]; exact Nat.ne_of_lt (m251.lt)
 have ng6m262 : g5 ≠ g6 := by rw [eg6]; exact Nat.ne_of_lt (m252.lt)
 have ng6m263 : (.slice (m.ra a) ((m.rn a)) ((m.rc a)) : Value).ownBlock ≠ some g6 := by rw [eg6]; exact m253.notNew (Nat.le_refl _)
 have tg6 : g6 < w19.heap.size := m254.lt
 clear eg6
 refine Ln ⟨Fx.ChT.of_below s27.old, ?_⟩
 refine Fx.R.make (by rfl) ?_
 refine Fx.L.app (B := B) (s := 1) (bytes := 8) (k := (m.rn a)) (m := 1) (v := .slice (m.ra a) ((m.rn a)) ((m.rc a))) (x := Fx.rv .u64 (m.rq a)) (by rfl) rfl rfl rfl Try.underlying67 (by kernel_rfl) (by kernel_rfl) rfl rfl m263 m254.cel (ovr_one (fun _ => rfl)) (by omega) (by omega) (by omega) (Nat.le_trans hB b31.size) fun g7 cap2 w20 ho2 hg2 hgv2 hlt2 => ?_
 have hct8 := Fx.ChT.of_grown hg2 m263
 have m265 := m255.chT hct8 (by decide)
 have m266 := m256.chT hct8 (by decide)
 have m268 := m259.chT hct8 (by decide)
 have m270 := m261.chT hct8 (by decide)
 have m271 := m262.chT hct8 (by decide)
 have m264 : Fx.Own w20 B 30 1 (.slice (some ⟨g7, 0, none⟩) ((m.rn a) + 1) cap2) ((m.rn a) + 1) (Fx.rv .u64 (updA (m.rq a) (m.rn a) v.req)) := (ho2.congr (fun j hj => req_app j hj))
 have b32 : Below B w w20 := Fx.Below.grow b31 hg2 (Nat.le_trans hB b31.size) (fun q hq => (m263.ge hq).1)
 have m272 : Rqs w20 B 6 { m with ra := updA m.ra a (some ⟨g7, 0, none⟩), rn := updA m.rn a (m.rn a + 1), rc := updA m.rc a cap2, rq := updA m.rq a (updA (m.rq a) (m.rn a) v.req) } := Rqs.app m257 ha rfl rfl rfl rfl m264 hg2 hgv2
 refine Ln ⟨hct8, ?_⟩
 refine Rp ((pf p (a + 21))) (fun v1 => x_index rfl rfl rfl Try.underlying68 (s := 1) (by kernel_rfl) (by omega) (by omega) (by omega)) (Fx.R.eff (by rfl) ?_)
 refine Fx.L.store1 (x := Fx.updV (ldY m) 19 (.slice (some ⟨g5, 0, none⟩) (m.s.gn + 1) (cap1))) (u := .slice (some ⟨g7, 0, none⟩) ((m.rn a) + 1) (cap2)) (by rfl) rfl rfl rfl rfl (by rfl) (by kernel_rfl) m270 (i := a + 21) (by omega) fun w21 m273 s28 z11 => ?_
 have hct9 := Fx.ChT.of_stp s28 m270.ty
 have m274 := m265.chT hct9 (by decide)
 have m275 := m266.chT hct9 (by decide)
 have m277 := m268.chT hct9 (by decide)
 have m279 := m271.chT hct9 (by decide)
 have m281 := m272.chT hct9 (by decide)
 have b33 := s28.below b32 (Nat.le_trans hB b32.size) (by omega)
 refine Ln (Fx.R.nil (sN (Ws (Wl (Lv (.int .i64 (0)) (x_assign rfl rfl) (Ln (sN (Wr (⟨.int .i64 (0), rV Try.results76 (by exact rfl), ?_⟩)))))))))
 have eN : regN v = a := by unfold regN; omega
 have ne1 : ¬ 0 ≤ m.core.askedN (regN v) v.req := by rw [eN]; exact of_decide_eq_false c17
 have ne2 : ¬ pathK m.core.t m.core.tn v.node = 0 := fun e => c27 (by rw [show K = 0 from hKp.trans e]; rfl)
 have ew : takesW m.core v = walkR (fun x => takeM x v.o v.amt) (idxT m.core v.node) m.R K := by unfold takesW; rw [show pathK m.core.t m.core.tn v.node = K from hKp.symm]; rfl
 have ee : takesE m.core v = 0 := by unfold takesE; rw [if_neg ne1, if_neg ne2, ew, hRK]
 have eW : takesW m.core v = (Rk, 0) := ew.trans hRK
 have m282 : Fx.Own w21 B 159 5 (.slice (some ⟨g5, 0, none⟩) (m.s.gn + 1) (cap1)) (m.s.gn + 1) (Fx.flat 5 fun kq => grY (Fx.insI m.g k (grN v) kq)) := by rw [← insF_gr]; exact m279
 refine ⟨congrArg (fun q => Ending.returned (Value.int .i64 q)) ee.symm, b33, fun _ => ⟨{ m with s := { m.s with ga := some ⟨g5, 0, none⟩, gn := m.s.gn + 1, gc := cap1 }, R := Rk, g := Fx.insI m.g k (grN v), ra := updA m.ra a (some ⟨g7, 0, none⟩), rn := updA m.rn a (m.rn a + 1), rc := updA m.rc a cap2, rq := updA m.rq a (updA (m.rq a) (m.rn a) v.req) }, ?_, ?_⟩⟩
 ·unfold takesC addReq; rw [eW, eN]; rw [show Fx.down (fun i => gtG v (m.core.g i)) m.core.gn = k from ek.symm]; rfl
 exact { c := m273.to ((congrArg (fun z => Fx.updV z (a + 21) _) (ldY_grants m _ _ _)).trans (ldY_reqs _ rfl _ _ _)), n := m277, g := m282, tc := m274, t := m275, r := m281, pB := hLp, tB := hLtb, bn := bn, bg := (by show m.s.gn + 1 ≤ 1000000; omega), bt := bt, br := (fun i hi => by show updA m.rn a (m.rn a + 1) i ≤ 1000000; have := brr i hi; have := brr a ha; unfold updA; split <;> omega) }
namespace Rt
def kgN (L : LdC) (v : EvM) : Nat := (L.grant v.o v.of).toNat
def freesW (L : LdC) (v : EvM) : (Nat → Nat → Int) × Int := walkR (fun x => freeM x v.o (L.g (kgN L v) 3)) (idxT L (L.g (kgN L v) 2)) L.R (pathK L.t L.tn (L.g (kgN L v) 2))
def freesE (L : LdC) (v : EvM) : Int := if 0 ≤ L.askedN (regN v) v.req then 14 else if L.grant v.o v.of < 0 ∨ L.g (kgN L v) 4 ≠ 0 then 12 else (freesW L v).2
def freesC (L : LdC) (v : EvM) : LdC := addReq { L with R := (freesW L v).1, g := updA L.g (kgN L v) (updA (L.g (kgN L v)) 4 v.req) } (regN v) v.req
theorem grant_at {m : LdM} {o r : Int} (h : ¬ m.grant o r < 0) : ∃ q : Nat, q < m.s.gn ∧ m.grant o r = (q : Int) ∧ m.g q 0 = o ∧ m.g q 1 = r := by
  rcases firstI_spec (fun i => decide (m.g i 0 = o) && decide (m.g i 1 = r)) m.s.gn with ⟨q, hq, e, hp⟩ | ⟨e, _⟩
  · rw [Bool.and_eq_true] at hp
    exact ⟨q, hq, e, of_decide_eq_true hp.1, of_decide_eq_true hp.2⟩
  unfold LdM.grant at h; omega
theorem grB_store {n q : Nat} {g : Nat → Nat → Int} {r : Int} : ∀ i, i < n → ∀ j, j < 5 → Fx.updF (fun kq => grY (g kq)) q (Fx.updV (grY (g q)) 4 (.int .u64 r)) i j = grY (updA g q (updA (g q) 4 r) i) j := fun i _ j hj => by
  unfold Fx.updF
  by_cases h : i = q
  · subst h
    rw [if_pos rfl]
    unfold updA Fx.updV grY
    rw [if_pos rfl]
    rcases j with _|_|_|_|_|j <;> first | rfl | omega
  · rw [if_neg h]; unfold updA; rw [if_neg h]
end Rt
set_option maxRecDepth 20000 in
set_option maxHeartbeats 2000000 in
theorem l_frees (m : LdM) (B p a : Nat) (v : EvM) (w : World) (hL : LdO w B p m) (hB : B ≤ w.heap.size) (ha : a < 6) (ho : v.o = (a : Int) + 1) (bgg : m.s.gn ≤ 900000) (brr : ∀ i, i < 6 → m.rn i ≤ 900000) (hTN : ∀ x, m.node x = findT m.t m.tn x) (hDx : ∀ x, ∃ D, D ≤ 1000 ∧ findT m.t m.tn (iterT m.t m.tn D x) < 0) :
    Calls Try.prog 77 #[(pt p), .agg (Fx.varr 14 (evY v))] w fun e w' => e = .returned (.int .i64 (freesE m.core v)) ∧ Below B w w' ∧ (freesE m.core v = 0 → ∃ m', m'.core = freesC m.core v ∧ LdO w' B p m') := by
 have hLc := hL.c
 have hLn := hL.n
 have hLg := hL.g
 have hLt := hL.tc
 have hLtr := hL.t
 have hLr := hL.r
 have hLp := hL.pB
 have hLtb := hL.tB
 have bn := hL.bn
 have bg := hL.bg
 have bt := hL.bt
 have lpp : p < w.heap.size := hLc.lt
 have ltb : m.tb < w.heap.size := hLt.lt
 refine Fx.enter Try.func77 rfl (n := 128) rfl (by rfl) ?_
 refine Ws (Wl (Fx.L.box (m := 14) (y := evY v) (by rfl) rfl rfl (Fx.cells_agg _ _) rfl fun g1 w1 eg1 m1 s1 z1 => ?_))
 have m2 := hLc.stp s1 hLc.ne
 have m3 := hLn.stp s1 (hLn.notNew (Nat.le_refl _))
 have m4 := hLg.stp s1 (hLg.notNew (Nat.le_refl _))
 have m5 := hLt.stp s1 hLt.ne
 have m6 := hLtr.stp s1 (hLtr.notNew (Nat.le_refl _))
 have m7 := hLr.up s1.old
 have b1 := s1.below (Below.refl B w) (Nat.le_trans hB (Below.refl B w).size) (Nat.le_trans hB (Below.refl B w).size)
 have lg1 : w.heap.size ≤ g1 := by rw [eg1]; exact (Below.refl B w).size
 have ng1m2 : p ≠ g1 := by rw [eg1]; exact Nat.ne_of_lt (hLc.lt)
 have ng1m5 : m.tb ≠ g1 := by rw [eg1]; exact Nat.ne_of_lt (hLt.lt)
 have tg1 : g1 < w1.heap.size := m1.lt
 clear eg1
 refine Lv (.int .i64 (0)) (x_assign rfl rfl) (Ln (sN (Ws (Ws (Wl (Lv ((pt p)) (x_move rfl rfl) (Lv ((pt g1)) (x_field rfl rfl Try.underlying50 rfl (s := 1) (by kernel_rfl) rfl rfl) (Lv (.int .i64 (v.o)) (x_load1 (x := evY v) rfl rfl (by kernel_rfl) m1.cel (i := 0) (by omega) (by omega) rfl) (Lv ((pf g1 12)) (x_field rfl rfl Try.underlying50 rfl (s := 1) (by kernel_rfl) rfl (by show _ + 12 = _; omega)) (Lv (.int .u64 (v.req)) (x_load1 (x := evY v) rfl rfl (by kernel_rfl) m1.cel (i := 12) (by omega) (by omega) rfl) ?_))))))))))
 have hld1 : Ldg w1 p m := { c := m2.cel, an := m3.arr, ag := m4.arr, tc := m5.cel, at2 := m6.arr, ar := fun i hi => (m7.1 i hi).arr, bn := (by show m.s.nn ≤ 1000000; omega), bg := bg, bt := (by show m.tn ≤ 1000000; omega), br := hL.br }
 by_cases c16 : (decide (0 ≤ m.askedN a v.req)) = true
 ·refine Fx.L.call (by rfl) (rC (args := [(pt p), .int .i64 (v.o), .int .u64 (v.req)]) rfl rfl Try.func96 rfl rfl) rfl ((l_asked2 m p a v.o v.req _ hld1 ha ho).mono ?_)
  rintro e w2 ⟨he, hb1⟩
  refine ⟨.bool true, by rw [he, c16], ?_⟩
  clear he
  have s2 := Sb hb1
  have b2 := s2.below b1 (Nat.le_trans hB b1.size) (Nat.le_trans hB b1.size)
  refine Ln (sN (Wc (b := true) rfl (fun _ => Ws (Wl (Lv (.int .i64 (14)) (x_assign rfl rfl) ?_))) (fun h => nomatch h)))
  refine Ln (sN (Wr (sR (⟨.int .i64 (14), rV Try.results77 (by exact rfl), ?_⟩))))
  have eN : regN v = a := by unfold regN; omega
  have ee : freesE m.core v = 14 := by unfold freesE; rw [eN]; exact if_pos (of_decide_eq_true c16)
  exact ⟨congrArg (fun q => Ending.returned (Value.int .i64 q)) ee.symm, b2, fun h0 => by rw [ee] at h0; cases h0⟩
 rw [Bool.not_eq_true] at c16
 refine Fx.L.call (by rfl) (rC (args := [(pt p), .int .i64 (v.o), .int .u64 (v.req)]) rfl rfl Try.func96 rfl rfl) rfl ((l_asked2 m p a v.o v.req _ hld1 ha ho).mono ?_)
 rintro e w3 ⟨he, hb2⟩
 refine ⟨.bool false, by rw [he, c16], ?_⟩
 clear he
 have s3 := Sb hb2
 have m15 := m2.stp s3 m2.ne
 have m16 := m3.stp s3 (m3.notNew (Nat.le_refl _))
 have m17 := m4.stp s3 (m4.notNew (Nat.le_refl _))
 have m18 := m5.stp s3 m5.ne
 have m19 := m6.stp s3 (m6.notNew (Nat.le_refl _))
 have m20 := m7.up s3.old
 have m21 := m1.stp s3 m1.ne
 have b3 := s3.below b1 (Nat.le_trans hB b1.size) (Nat.le_trans hB b1.size)
 refine Ln (sN (Wc (b := false) rfl (fun h => nomatch h) (fun _ => Wk (sN (Ws (Wl (Lv ((pt p)) (x_move rfl rfl) (Lv ((pt g1)) (x_field rfl rfl Try.underlying50 rfl (s := 1) (by kernel_rfl) rfl rfl) (Lv (.int .i64 (v.o)) (x_load1 (x := evY v) rfl rfl (by kernel_rfl) m21.cel (i := 0) (by omega) (by omega) rfl) (Lv ((pf g1 13)) (x_field rfl rfl Try.underlying50 rfl (s := 1) (by kernel_rfl) rfl (by show _ + 13 = _; omega)) (Lv (.int .u64 (v.of)) (x_load1 (x := evY v) rfl rfl (by kernel_rfl) m21.cel (i := 13) (by omega) (by omega) rfl) ?_)))))))))))
 have hld2 : Ldg w3 p m := { c := m15.cel, an := m16.arr, ag := m17.arr, tc := m18.cel, at2 := m19.arr, ar := fun i hi => (m20.1 i hi).arr, bn := (by show m.s.nn ≤ 1000000; omega), bg := bg, bt := (by show m.tn ≤ 1000000; omega), br := hL.br }
 refine Fx.L.call (by rfl) (rC (args := [(pt p), .int .i64 (v.o), .int .u64 (v.of)]) rfl rfl Try.func99 rfl rfl) rfl ((l_grant m p v.o v.of _ hld2).mono ?_)
 rintro e w4 ⟨he, hb3⟩
 refine ⟨.int .i64 (m.grant v.o v.of), by rw [he], ?_⟩
 clear he
 have s4 := Sb hb3
 have m22 := m15.stp s4 m15.ne
 have m23 := m16.stp s4 (m16.notNew (Nat.le_refl _))
 have m24 := m17.stp s4 (m17.notNew (Nat.le_refl _))
 have m25 := m18.stp s4 m18.ne
 have m26 := m19.stp s4 (m19.notNew (Nat.le_refl _))
 have m27 := m20.up s4.old
 have m28 := m21.stp s4 m21.ne
 have b4 := s4.below b3 (Nat.le_trans hB b3.size) (Nat.le_trans hB b3.size)
 refine Lv (.int .i64 (m.grant v.o v.of)) (x_assign rfl rfl) (Ln (sN (Ws (Ws (Wl (Lv (.int .i64 (m.grant v.o v.of)) (x_move rfl rfl) ?_))))))
 by_cases c24 : (m.grant v.o v.of) < 0
 ·refine Lv (.bool true) (Fx.x_lssT rfl rfl rfl c24) (Lv (.bool true) (x_move rfl rfl) (Lk (by rfl) rfl (Lk (by rfl) rfl (Lk (by rfl) rfl (Lk (by rfl) rfl (Lk (by rfl) rfl (Lk (by rfl) rfl (Lk (by rfl) rfl (Lk (by rfl) rfl (Lk (by rfl) rfl (Lk (by rfl) rfl (Lv (.bool true) (x_pickT rfl rfl rfl) (Ln (sN (Wc (b := true) rfl (fun _ => Ws (Wl (Lv (.int .i64 (12)) (x_assign rfl rfl) ?_))) (fun h => nomatch h))))))))))))))))
  refine Ln (sN (Wr (sR (⟨.int .i64 (12), rV Try.results77 (by exact rfl), ?_⟩))))
  have eN : regN v = a := by unfold regN; omega
  have ne1 : ¬ 0 ≤ m.core.askedN (regN v) v.req := by rw [eN]; exact of_decide_eq_false c16
  have ee : freesE m.core v = 12 := by unfold freesE; rw [if_neg ne1]; exact if_pos (.inl c24)
  exact ⟨congrArg (fun q => Ending.returned (Value.int .i64 q)) ee.symm, b4, fun h0 => by rw [ee] at h0; cases h0⟩
 obtain ⟨kg, hkg, ekg, _, _⟩ := grant_at c24
 have ekN : kgN m.core v = kg := by show (m.grant v.o v.of).toNat = kg; rw [ekg]; rfl
 refine Lv (.bool false) (Fx.x_lssF rfl rfl rfl c24) (Lv (.bool false) (x_move rfl rfl) (Lv ((pt p)) (x_move rfl rfl) (Lv ((pt p)) (x_nil rfl rfl) (Lv ((pt p)) (x_field rfl rfl Try.underlying70 rfl (s := 20) (by kernel_rfl) rfl rfl) (Lv ((pf p 19)) (x_field rfl rfl Try.underlying65 rfl (s := 1) (by kernel_rfl) rfl (by show _ + 19 = _; omega)) (Lv (.slice m.s.ga (m.s.gn) (m.s.gc)) (x_load1 (x := ldY m) rfl rfl (by kernel_rfl) m22.cel (i := 19) (by omega) (by omega) rfl) (Lv (.int .i64 ((kg : Int))) (x_move rfl (congrArg (Value.int .i64) ekg)) ?_)))))))
 obtain ⟨gq1, eq1⟩ := m24.addr (by omega)
 have m29 : Fx.Own w4 B 159 5 (.slice (some ⟨gq1, 0, none⟩) m.s.gn m.s.gc) m.s.gn (grX m) := m24.congV (congrArg (fun q => Value.slice q m.s.gn m.s.gc) eq1)
 refine Lv ((pf gq1 (5 * kg))) (x_indexS rfl (rfl.trans (congrArg (fun q => Value.slice q (m.s.gn) (m.s.gc)) eq1)) rfl Try.underlying63 (s := 5) (by kernel_rfl) (by omega) (by omega) (by omega)) (Lv ((pf gq1 (5 * kg + 4))) (x_field rfl rfl Try.underlying159 rfl (s := 1) (by kernel_rfl) rfl (by show _ + 4 = _; omega)) (Lv (.int .u64 ((m.g kg) 4)) (x_load1 (x := grX m) rfl rfl (by kernel_rfl) m29.cel (i := 5 * kg + 4) (by omega) (by omega) (Fx.flat_cell (k := kg) (j := 4) (by omega) (by omega) rfl)) ?_))
 by_cases c35 : ((m.g kg) 4) = 0
 ·refine Lv (.bool false) (Fx.x_neqF rfl rfl rfl c35) (Lv (.bool false) (x_pickF rfl rfl rfl) (Ln (sN (Wc (b := false) rfl (fun h => nomatch h) (fun _ => Wk (sN (Ws ?_)))))))
  obtain ⟨D, hD2, hD⟩ := hDx (m.g kg 2)
  -- region 6 draws
  refine Fx.W.reord [0, 1, 2, 4, 5, 6, 7, 9, 3, 8, 10, 11, 12, 13, 14] [0, 0, 0, 4, 0, 0, 0, 0, 4, 0, 0, 0, 4, 3, 0] Fx.Mk Fx.Mk.refl Fx.Mk.trans (certs := [(13, 3, [3]), (13, 8, [12, 11, 10, 8]), (13, 12, [12]), (14, 13, [13])]) (by kernel_rfl) (by kernel_rfl) (by kernel_rfl) (by kernel_rfl) (by kernel_rfl) fun wt1 hbwt1 hzwt1 => ?_
  have s5 : Fx.Stp w4.heap.size w4 wt1 := Sb hbwt1
  have m30 := m22.stp s5 m22.ne
  have m31 := m23.stp s5 (m23.notNew (Nat.le_refl _))
  have m32 := m25.stp s5 m25.ne
  have m33 := m26.stp s5 (m26.notNew (Nat.le_refl _))
  have m34 := m27.up s5.old
  have m35 := m28.stp s5 m28.ne
  have m36 := m29.stpB s5 (Nat.ne_of_lt (m29.lt))
  have b5 := s5.below b4 (Nat.le_trans hB b4.size) (Nat.le_trans hB b4.size)
  refine Rp ((pt p)) (fun v1 => x_move rfl rfl) (Rp ((pt p)) (fun v1 => x_nil rfl rfl) (Rp ((pf p 20)) (fun v1 => x_field rfl rfl Try.underlying70 rfl (s := 1) (by kernel_rfl) rfl (by show _ + 20 = _; omega)) (Rp ((pt p)) (fun v1 => x_move rfl rfl) (Rp ((pt p)) (fun v1 => x_nil rfl rfl) (Rp ((pt p)) (fun v1 => x_field rfl rfl Try.underlying70 rfl (s := 20) (by kernel_rfl) rfl rfl) (Rp ((pf p 19)) (fun v1 => x_field rfl rfl Try.underlying65 rfl (s := 1) (by kernel_rfl) rfl (by show _ + 19 = _; omega)) (Rp (.int .i64 ((kg : Int))) (fun v1 => x_move rfl (congrArg (Value.int .i64) ekg)) (Fx.R.s ((pt m.tb)) (x_load1 (x := ldY m) rfl rfl (by kernel_rfl) m30.cel (i := 20) (by omega) (by omega) rfl) ?_))))))))
  refine Fx.R.s (.slice m.s.ga (m.s.gn) (m.s.gc)) (x_load1 (x := ldY m) rfl rfl (by kernel_rfl) m30.cel (i := 19) (by omega) (by omega) rfl) ?_
  refine Rp ((pf gq1 (5 * kg))) (fun v1 => x_indexS rfl (rfl.trans (congrArg (fun q => Value.slice q (m.s.gn) (m.s.gc)) eq1)) rfl Try.underlying63 (s := 5) (by kernel_rfl) (by omega) (by omega) (by omega)) (Rp ((pf gq1 (5 * kg + 2))) (fun v1 => x_field rfl rfl Try.underlying159 rfl (s := 1) (by kernel_rfl) rfl (by show _ + 2 = _; omega)) (Fx.R.s (.int .u64 ((m.g kg) 2)) (x_load1 (x := grX m) rfl rfl (by kernel_rfl) m36.cel (i := 5 * kg + 2) (by omega) (by omega) (Fx.flat_cell (k := kg) (j := 2) (by omega) (by omega) rfl)) ?_))
  refine Fx.R.eff (by rfl) ?_
  refine Fx.L.call (by rfl) (rC (args := [(pt m.tb), .int .u64 ((m.g kg) 2)]) rfl rfl Try.func97 rfl rfl) rfl ((l_path m.tb m.ta m.tn m.tc m.t (m.g kg 2) D _ (ownTree m32 m33 bt) hD hD2).mono ?_)
  rintro e w5 ⟨K, vv, he, hown, hall1, hK1, hb4⟩
  obtain ⟨a1, cap1, rfl⟩ := hown.val
  refine ⟨.slice a1 K cap1, he, ?_⟩
  clear he
  have hKp : K = pathK m.t m.tn (m.g kg 2) := pathK_eq hall1 hK1 hD hD2
  have hKD : K ≤ 1000 := by rw [hKp]; exact lead_le _ _
  have s6 := Sb hb4
  have m37 := m30.stp s6 m30.ne
  have m38 := m31.stp s6 (m31.notNew (Nat.le_refl _))
  have m39 := m32.stp s6 m32.ne
  have m40 := m33.stp s6 (m33.notNew (Nat.le_refl _))
  have m41 := m34.up s6.old
  have m42 := m35.stp s6 m35.ne
  have m43 := m36.stpB s6 (Nat.ne_of_lt (m36.lt))
  have b6 := s6.below b5 (Nat.le_trans hB b5.size) (Nat.le_trans hB b5.size)
  refine Ln (Rp (.slice a1 (K) (cap1)) (fun v1 => x_assign rfl rfl) (Fx.R.nil (sN (Ws (Ws (Wl (Lv (.int .i64 (0)) (x_assign rfl rfl) ?_)))))))
  refine Ln (sN (Fx.W.block ?_))
  have m44 : Fx.Own w5 B 159 5 (.slice m.s.ga (m.s.gn) (m.s.gc)) m.s.gn (grX m) := m43.congV (congrArg (fun q => Value.slice q m.s.gn m.s.gc) eq1.symm)
  refine Fx.W.loop (fun f w_ => ∃ k : Nat, ∃ Rk : Nat → Nat → Int, k ≤ K ∧ walkR (fun x => freeM x v.o (m.g kg 3)) (idxT m.core (m.g kg 2)) m.R k = (Rk, 0) ∧ f 0 = (pt p) ∧ f 3 = (pt g1) ∧ f 6 = .slice a1 (K) (cap1) ∧ f 7 = .int .i64 ((k : Int)) ∧ f 5 = .int .i64 ((kg : Int)) ∧ Fx.Blk w_ p 27 (ldY m) 70 ∧ Fx.Blk w_ m.tb 1 (fun _ => .slice m.ta m.tn m.tc) 117 ∧ Fx.Own w_ B 170 2 (.slice m.ta (m.tn) (m.tc)) m.tn (trX m.t) ∧ Rqs w_ B 6 m ∧ Fx.Blk w_ g1 14 (evY v) 50 ∧ Fx.Own w_ B 159 5 (.slice m.s.ga (m.s.gn) (m.s.gc)) m.s.gn (grX m) ∧ Fx.Own w_ wt1.heap.size 30 1 (.slice a1 (K) (cap1)) K (Fx.rv .u64 (fun i => iterT m.t m.tn i (m.g kg 2))) ∧ Fx.Own w_ B 123 56 (.slice m.s.na (m.s.nn) (m.s.nc)) m.s.nn (Fx.flat 56 (fun kq => ndY (m.id kq) (m.par kq) (Rk kq))) ∧ Below B w w_) (fun f _ => (K - (intOf (f 7)).toNat)) ⟨0, m.R, by omega, rfl, (by rfl), (by rfl), (by rfl), Fx.ic, ((congrArg (Value.int .i64) ekg).trans Fx.ic), m37, m39, m40, m41, m42, m44, hown, m38, b6⟩ ?_
  rintro f1 w6 ⟨k, Rk, hk, hRk, h1, h2, h3, h4, h5, m45, m46, m47, m48, m49, m50, m51, m52, b7⟩
  refine Ws (Ws (Wl (Lv (.int .i64 ((k : Int))) (x_move rfl h4) (Lv (.slice a1 (K) (cap1)) (x_move rfl h3) (Lv (.int .i64 ((K : Int))) (x_len rfl rfl rfl (by kernel_rfl)) ?_)))))
  by_cases c54 : (k : Int) < (K : Int)
  ·refine Lv (.bool true) (Fx.x_lssT rfl rfl rfl c54) (Ln (sN (Wc (b := true) rfl (fun _ => Wk (sN (Ws (Fx.W.block (Ws ?_))))) (fun h => nomatch h))))
   obtain ⟨q, hq, eq0, _⟩ := node_at (m := m) (x := iterT m.t m.tn k (m.g kg 2)) (by rw [hTN]; exact hall1 k (by omega))
   have ex1 : idxT m.core (m.g kg 2) k = q := by show (firstI (fun i => decide (m.id i = iterT m.t m.tn k (m.g kg 2))) m.s.nn).toNat = q; rw [eq0]; rfl
   refine Wl (Lv ((pt p)) (x_move rfl h1) (Lv (.slice a1 (K) (cap1)) (x_move rfl h3) (Lv (.int .i64 ((k : Int))) (x_move rfl h4) ?_)))
   obtain ⟨gq2, eq2⟩ := m51.addr (by omega)
   have m53 : Fx.Own w6 wt1.heap.size 30 1 (.slice (some ⟨gq2, 0, none⟩) K cap1) K (Fx.rv .u64 (fun i => iterT m.t m.tn i (m.g kg 2))) := m51.congV (congrArg (fun q => Value.slice q K cap1) eq2)
   refine Lv ((pf gq2 k)) (x_indexS rfl (rfl.trans (congrArg (fun q => Value.slice q (K) (cap1)) eq2)) rfl Try.underlying67 (s := 1) (by kernel_rfl) (by omega) (by omega) (by omega)) (Lv (.int .u64 ((fun i => iterT m.t m.tn i (m.g kg 2)) k)) (x_load1 (x := Fx.rv .u64 (fun i => iterT m.t m.tn i (m.g kg 2))) rfl rfl (by kernel_rfl) m53.cel (i := k) (by omega) (by omega) rfl) ?_)
   have m54 : Fx.Own w6 wt1.heap.size 30 1 (.slice a1 (K) (cap1)) K (Fx.rv .u64 (fun i => iterT m.t m.tn i (m.g kg 2))) := m53.congV (congrArg (fun q => Value.slice q K cap1) eq2.symm)
   have hld3 : Ldg w6 p { m with R := Rk } := { c := m45.cel, an := m52.arr, ag := m50.arr, tc := m46.cel, at2 := m47.arr, ar := fun i hi => (m48.1 i hi).arr, bn := (by show m.s.nn ≤ 1000000; omega), bg := bg, bt := (by show m.tn ≤ 1000000; omega), br := hL.br }
   refine Fx.L.call (by rfl) (rC (args := [(pt p), .int .u64 ((fun i => iterT m.t m.tn i (m.g kg 2)) k)]) rfl rfl Try.func75 rfl rfl) rfl (((l_node { m with R := Rk } p (iterT m.t m.tn k (m.g kg 2)) _ hld3).mono (fun e w2 h2 => (⟨h2.1.trans (congrArg (fun z => Ending.returned (Value.int .i64 z)) eq0), h2.2⟩ : e = .returned (.int .i64 (q : Int)) ∧ _))).mono ?_)
   rintro e w7 ⟨he, hb5⟩
   refine ⟨.int .i64 ((q : Int)), by rw [he], ?_⟩
   clear he
   have s7 := Sb hb5
   have m55 := m45.stp s7 m45.ne
   have m56 := m46.stp s7 m46.ne
   have m57 := m47.stp s7 (m47.notNew (Nat.le_refl _))
   have m58 := m48.up s7.old
   have m59 := m49.stp s7 m49.ne
   have m60 := m50.stp s7 (m50.notNew (Nat.le_refl _))
   have m61 := m52.stp s7 (m52.notNew (Nat.le_refl _))
   have m62 := m54.stp s7 (m54.notNew (Nat.le_refl _))
   have b8 := s7.below b7 (Nat.le_trans hB b7.size) (Nat.le_trans hB b7.size)
   refine Lv (.int .i64 ((q : Int))) (x_assign rfl rfl) (Ln (sN (Ws ?_)))
   -- region 11 draws
   obtain ⟨gq3, eq3⟩ := m61.addr (by omega)
   have m63 : Fx.Own w7 B 123 56 (.slice (some ⟨gq3, 0, none⟩) m.s.nn m.s.nc) m.s.nn (Fx.flat 56 (fun kq => ndY (m.id kq) (m.par kq) (Rk kq))) := m61.congV (congrArg (fun q => Value.slice q m.s.nn m.s.nc) eq3)
   obtain ⟨gq4, eq4⟩ := m60.addr (by omega)
   have m64 : Fx.Own w7 B 159 5 (.slice (some ⟨gq4, 0, none⟩) m.s.gn m.s.gc) m.s.gn (grX m) := m60.congV (congrArg (fun q => Value.slice q m.s.gn m.s.gc) eq4)
   refine Fx.W.one (T := 121) (T' := 121) (a := .tmp 9) (v := .tmp 85) (m := 54) (z := Fx.rv .i64 (fun _ => 0)) (y := Fx.rv .i64 ((freeM (Rk q) v.o ((m.g kg) 3)).1)) (u := .agg (Fx.varr 54 (Fx.rv .i64 ((freeM (Rk q) v.o ((m.g kg) 3)).1)))) 24 25 (List.replicate 27 (0, 2, [], [])) #[(pt p), (pt p), (pt p), (pf p 18), .slice m.s.na (m.s.nn) (m.s.nc), .int .i64 ((q : Int)), (pf gq3 (56 * q)), (pf gq3 (56 * q + 2)), .agg (Fx.varr 54 (Fx.rv .i64 (Rk q))), (pt g1), .int .i64 (v.o), (pt p), (pt p), (pt p), (pf p 19), .slice m.s.ga (m.s.gn) (m.s.gc), .int .i64 ((kg : Int)), (pf gq4 (5 * kg)), (pf gq4 (5 * kg + 3)), .int .i64 ((m.g kg) 3), .tuple #[.agg (Fx.varr 54 (Fx.rv .i64 ((freeM (Rk q) v.o ((m.g kg) 3)).1))), .int .i64 ((freeM (Rk q) v.o ((m.g kg) 3)).2)], .tuple #[.agg (Fx.varr 54 (Fx.rv .i64 ((freeM (Rk q) v.o ((m.g kg) 3)).1))), .int .i64 ((freeM (Rk q) v.o ((m.g kg) 3)).2)], .agg (Fx.varr 54 (Fx.rv .i64 ((freeM (Rk q) v.o ((m.g kg) 3)).1))), .int .i64 ((freeM (Rk q) v.o ((m.g kg) 3)).2), undef, undef, .int .i64 ((freeM (Rk q) v.o ((m.g kg) 3)).2)] (by kernel_rfl) (by kernel_rfl) (by kernel_rfl) (by kernel_rfl) (by kernel_rfl) (by kernel_rfl) rfl (by kernel_rfl) rfl rfl (by kernel_rfl) (fun g2 => (show Fx.ev _ (.tmp 9) = (pt g2) from by kernel_rfl)) (fun g2 => (show Fx.ev _ (.tmp 85) = .agg (Fx.varr 54 (Fx.rv .i64 ((freeM (Rk q) v.o ((m.g kg) 3)).1))) from by kernel_rfl)) (Fx.cells_agg _ _) (fun _ _ => rfl) (by kernel_rfl) (fun g2 => ?_) ?_
   ·refine ⟨?_, ?_, ?_, ?_, ?_, ?_, ?_, ?_, ?_, ?_, ?_, ?_, ?_, ?_, ?_, ?_, ?_, ?_, ?_, ?_, ?_, ?_, ?_, ?_, ?_, ?_, ?_, trivial⟩
    ·exact .inr (.inr (Fx.qb_yes (v := (pt p)) (by kernel_rfl) (by kernel_rfl) (Fx.qbV fun v1 hv1 => x_move rfl ((Fx.fOne_out (by kernel_rfl)).trans h1))))
    ·exact .inr (.inr (Fx.qb_yes (v := (pt p)) (by kernel_rfl) (by kernel_rfl) (Fx.qbV fun v1 hv1 => x_nil rfl (show Fx.ev _ (.tmp 64) = (pt p) from by kernel_rfl))))
    ·exact .inr (.inr (Fx.qb_yes (v := (pt p)) (by kernel_rfl) (by kernel_rfl) (Fx.qbV fun v1 hv1 => x_field rfl (show Fx.ev _ (.tmp 65) = (pt p) from by kernel_rfl) Try.underlying70 rfl (s := 20) (by kernel_rfl) rfl rfl)))
    ·exact .inr (.inr (Fx.qb_yes (v := (pf p 18)) (by kernel_rfl) (by kernel_rfl) (Fx.qbV fun v1 hv1 => x_field rfl (show Fx.ev _ (.tmp 66) = (pt p) from by kernel_rfl) Try.underlying65 rfl (s := 1) (by kernel_rfl) rfl (by show _ + 18 = _; omega))))
    ·exact .inr (.inr (Fx.qb_yes (v := .slice m.s.na (m.s.nn) (m.s.nc)) (by kernel_rfl) (by kernel_rfl) (Fx.qbV fun v1 hv1 => x_load1 (x := ldY m) rfl (show Fx.ev _ (.tmp 67) = (pf p 18) from by kernel_rfl) (by kernel_rfl) (m55.cel.below hv1 (by have := m55.lt; omega)) (i := 18) (by omega) (by omega) rfl)))
    ·exact .inr (.inr (Fx.qb_yes (v := .int .i64 ((q : Int))) (by kernel_rfl) (by kernel_rfl) (Fx.qbV fun v1 hv1 => x_move rfl (show Fx.ev _ (.tmp 8) = .int .i64 ((q : Int)) from by kernel_rfl))))
    ·exact .inr (.inr (Fx.qb_yes (v := (pf gq3 (56 * q))) (by kernel_rfl) (by kernel_rfl) (Fx.qbV fun v1 hv1 => x_indexS rfl ((show Fx.ev _ (.tmp 68) = .slice m.s.na (m.s.nn) (m.s.nc) from by kernel_rfl).trans (congrArg (fun q => Value.slice q (m.s.nn) (m.s.nc)) eq3)) (show Fx.ev _ (.tmp 69) = .int .i64 ((q : Int)) from by kernel_rfl) Try.underlying62 (s := 56) (by kernel_rfl) (by omega) (by omega) (by omega))))
    ·exact .inr (.inr (Fx.qb_yes (v := (pf gq3 (56 * q + 2))) (by kernel_rfl) (by kernel_rfl) (Fx.qbV fun v1 hv1 => x_field rfl (show Fx.ev _ (.tmp 70) = (pf gq3 (56 * q)) from by kernel_rfl) Try.underlying123 rfl (s := 54) (by kernel_rfl) rfl (by show _ + 2 = _; omega))))
    ·exact .inr (.inr (Fx.qb_yes (v := .agg (Fx.varr 54 (Fx.rv .i64 (Rk q)))) (by kernel_rfl) (by kernel_rfl) (Fx.qbV fun v1 hv1 => x_loadA (x := Fx.flat 56 (fun kq => ndY (m.id kq) (m.par kq) (Rk kq))) (y := Fx.rv .i64 (Rk q)) rfl (show Fx.ev _ (.tmp 71) = (pf gq3 (56 * q + 2)) from by kernel_rfl) (by kernel_rfl) (by kernel_rfl) (m63.cel.below hv1 (by have := m63.lt; omega)) (i := 56 * q + 2) (by omega) (by omega) (fun jq hjq => (Fx.flat_at (k := q) (j := 2 + jq) (by omega) (by omega)).trans ((fun jq _ => ndY_row _ _ _ jq) jq hjq)))))
    ·exact .inr (.inr (Fx.qb_yes (v := (pt g1)) (by kernel_rfl) (by kernel_rfl) (Fx.qbV fun v1 hv1 => x_field rfl ((Fx.fOne_out (by kernel_rfl)).trans h2) Try.underlying50 rfl (s := 1) (by kernel_rfl) rfl rfl)))
    ·exact .inr (.inr (Fx.qb_yes (v := .int .i64 (v.o)) (by kernel_rfl) (by kernel_rfl) (Fx.qbV fun v1 hv1 => x_load1 (x := evY v) rfl (show Fx.ev _ (.tmp 73) = (pt g1) from by kernel_rfl) (by kernel_rfl) (m59.cel.below hv1 (by have := m59.lt; omega)) (i := 0) (by omega) (by omega) rfl)))
    ·exact .inr (.inr (Fx.qb_yes (v := (pt p)) (by kernel_rfl) (by kernel_rfl) (Fx.qbV fun v1 hv1 => x_move rfl ((Fx.fOne_out (by kernel_rfl)).trans h1))))
    ·exact .inr (.inr (Fx.qb_yes (v := (pt p)) (by kernel_rfl) (by kernel_rfl) (Fx.qbV fun v1 hv1 => x_nil rfl (show Fx.ev _ (.tmp 75) = (pt p) from by kernel_rfl))))
    ·exact .inr (.inr (Fx.qb_yes (v := (pt p)) (by kernel_rfl) (by kernel_rfl) (Fx.qbV fun v1 hv1 => x_field rfl (show Fx.ev _ (.tmp 76) = (pt p) from by kernel_rfl) Try.underlying70 rfl (s := 20) (by kernel_rfl) rfl rfl)))
    ·exact .inr (.inr (Fx.qb_yes (v := (pf p 19)) (by kernel_rfl) (by kernel_rfl) (Fx.qbV fun v1 hv1 => x_field rfl (show Fx.ev _ (.tmp 77) = (pt p) from by kernel_rfl) Try.underlying65 rfl (s := 1) (by kernel_rfl) rfl (by show _ + 19 = _; omega))))
    ·exact .inr (.inr (Fx.qb_yes (v := .slice m.s.ga (m.s.gn) (m.s.gc)) (by kernel_rfl) (by kernel_rfl) (Fx.qbV fun v1 hv1 => x_load1 (x := ldY m) rfl (show Fx.ev _ (.tmp 78) = (pf p 19) from by kernel_rfl) (by kernel_rfl) (m55.cel.below hv1 (by have := m55.lt; omega)) (i := 19) (by omega) (by omega) rfl)))
    ·exact .inr (.inr (Fx.qb_yes (v := .int .i64 ((kg : Int))) (by kernel_rfl) (by kernel_rfl) (Fx.qbV fun v1 hv1 => x_move rfl ((Fx.fOne_out (by kernel_rfl)).trans h5))))
    ·exact .inr (.inr (Fx.qb_yes (v := (pf gq4 (5 * kg))) (by kernel_rfl) (by kernel_rfl) (Fx.qbV fun v1 hv1 => x_indexS rfl ((show Fx.ev _ (.tmp 79) = .slice m.s.ga (m.s.gn) (m.s.gc) from by kernel_rfl).trans (congrArg (fun q => Value.slice q (m.s.gn) (m.s.gc)) eq4)) (show Fx.ev _ (.tmp 80) = .int .i64 ((kg : Int)) from by kernel_rfl) Try.underlying63 (s := 5) (by kernel_rfl) (by omega) (by omega) (by omega))))
    ·exact .inr (.inr (Fx.qb_yes (v := (pf gq4 (5 * kg + 3))) (by kernel_rfl) (by kernel_rfl) (Fx.qbV fun v1 hv1 => x_field rfl (show Fx.ev _ (.tmp 81) = (pf gq4 (5 * kg)) from by kernel_rfl) Try.underlying159 rfl (s := 1) (by kernel_rfl) rfl (by show _ + 3 = _; omega))))
    ·exact .inr (.inr (Fx.qb_yes (v := .int .i64 ((m.g kg) 3)) (by kernel_rfl) (by kernel_rfl) (Fx.qbV fun v1 hv1 => x_load1 (x := grX m) rfl (show Fx.ev _ (.tmp 82) = (pf gq4 (5 * kg + 3)) from by kernel_rfl) (by kernel_rfl) (m64.cel.below hv1 (by have := m64.lt; omega)) (i := 5 * kg + 3) (by omega) (by omega) (Fx.flat_cell (k := kg) (j := 3) (by omega) (by omega) rfl))))
    ·exact .inr (.inr (Fx.qb_yes (v := .tuple #[.agg (Fx.varr 54 (Fx.rv .i64 ((freeM (Rk q) v.o ((m.g kg) 3)).1))), .int .i64 ((freeM (Rk q) v.o ((m.g kg) 3)).2)]) (by kernel_rfl) (by kernel_rfl) (Fx.qbC (fun v1 hv1 => rC (args := [.agg (Fx.varr 54 (Fx.rv .i64 (Rk q))), .int .i64 (v.o), .int .i64 ((m.g kg) 3)]) rfl (Fx.args3 (show Fx.ev _ (.tmp 72) = .agg (Fx.varr 54 (Fx.rv .i64 (Rk q))) from by kernel_rfl) (show Fx.ev _ (.tmp 74) = .int .i64 (v.o) from by kernel_rfl) (show Fx.ev _ (.tmp 83) = .int .i64 ((m.g kg) 3) from by kernel_rfl)) Try.func100 rfl rfl) (fun v1 hv1 => (f7_free (Rk q) v.o ((m.g kg) 3) _).mono fun e v2 h => ⟨h.1, h.2⟩))))
    ·exact .inr (.inr (Fx.qb_yes (v := .tuple #[.agg (Fx.varr 54 (Fx.rv .i64 ((freeM (Rk q) v.o ((m.g kg) 3)).1))), .int .i64 ((freeM (Rk q) v.o ((m.g kg) 3)).2)]) (by kernel_rfl) (by kernel_rfl) (Fx.qbV fun v1 hv1 => x_move rfl (show Fx.ev _ (.tmp 84) = .tuple #[.agg (Fx.varr 54 (Fx.rv .i64 ((freeM (Rk q) v.o ((m.g kg) 3)).1))), .int .i64 ((freeM (Rk q) v.o ((m.g kg) 3)).2)] from by kernel_rfl))))
    ·exact .inr (.inr (Fx.qb_yes (v := .agg (Fx.varr 54 (Fx.rv .i64 ((freeM (Rk q) v.o ((m.g kg) 3)).1)))) (by kernel_rfl) (by kernel_rfl) (Fx.qbV fun v1 hv1 => Fx.x_extract rfl (show Fx.ev _ (.tmp 63) = .tuple #[.agg (Fx.varr 54 (Fx.rv .i64 ((freeM (Rk q) v.o ((m.g kg) 3)).1))), .int .i64 ((freeM (Rk q) v.o ((m.g kg) 3)).2)] from by kernel_rfl) rfl)))
    ·exact .inr (.inr (Fx.qb_yes (v := .int .i64 ((freeM (Rk q) v.o ((m.g kg) 3)).2)) (by kernel_rfl) (by kernel_rfl) (Fx.qbV fun v1 hv1 => Fx.x_extract rfl (show Fx.ev _ (.tmp 63) = .tuple #[.agg (Fx.varr 54 (Fx.rv .i64 ((freeM (Rk q) v.o ((m.g kg) 3)).1))), .int .i64 ((freeM (Rk q) v.o ((m.g kg) 3)).2)] from by kernel_rfl) rfl)))
    ·exact .inl rfl
    ·exact .inr (.inl rfl)
    exact .inr (.inr (Fx.qb_yes (v := .int .i64 ((freeM (Rk q) v.o ((m.g kg) 3)).2)) (by kernel_rfl) (by kernel_rfl) (Fx.qbV fun v1 hv1 => x_assign rfl (show Fx.ev _ (.tmp 86) = .int .i64 ((freeM (Rk q) v.o ((m.g kg) 3)).2) from by kernel_rfl))))
   rintro g2 w8 f2 hf1 lg2 m65 hb6
   have s8 := Sb hb6
   have ng2m55 : p ≠ g2 := Nat.ne_of_lt (Nat.lt_of_lt_of_le (m55.lt) lg2)
   have ng2m56 : m.tb ≠ g2 := Nat.ne_of_lt (Nat.lt_of_lt_of_le (m56.lt) lg2)
   have ng2m59 : g1 ≠ g2 := Nat.ne_of_lt (Nat.lt_of_lt_of_le (m59.lt) lg2)
   have ng2m63 : gq3 ≠ g2 := Nat.ne_of_lt (Nat.lt_of_lt_of_le (m63.lt) lg2)
   have ng2m64 : gq4 ≠ g2 := Nat.ne_of_lt (Nat.lt_of_lt_of_le (m64.lt) lg2)
   have m66 := m55.stp s8 m55.ne
   have m67 := m56.stp s8 m56.ne
   have m68 := m57.stp s8 (m57.notNew (Nat.le_refl _))
   have m69 := m58.up s8.old
   have m70 := m59.stp s8 m59.ne
   have m71 := m62.stp s8 (m62.notNew (Nat.le_refl _))
   have m72 := m63.stpB s8 (Nat.ne_of_lt (m63.lt))
   have m73 := m64.stpB s8 (Nat.ne_of_lt (m64.lt))
   have b9 := s8.below b8 (Nat.le_trans hB b8.size) (Nat.le_trans hB b8.size)
   have lg2 : w.heap.size ≤ g2 := Nat.le_trans b8.size lg2
   have tg2 : g2 < w8.heap.size := m65.lt
   have q1 : f2 0 = (pt p) := by rw [hf1]; exact (Fx.fOne_out (by kernel_rfl)).trans h1
   have q2 : f2 3 = (pt g1) := by rw [hf1]; exact (Fx.fOne_out (by kernel_rfl)).trans h2
   have q3 : f2 6 = .slice a1 (K) (cap1) := by rw [hf1]; exact (Fx.fOne_out (by kernel_rfl)).trans h3
   have q4 : f2 7 = .int .i64 ((k : Int)) := by rw [hf1]; exact (Fx.fOne_out (by kernel_rfl)).trans h4
   have q5 : f2 5 = .int .i64 ((kg : Int)) := by rw [hf1]; exact (Fx.fOne_out (by kernel_rfl)).trans h5
   have q6 : f2 51 = .int .i64 ((k : Int)) := by rw [hf1]; kernel_rfl
   have q7 : f2 52 = .slice a1 (K) (cap1) := by rw [hf1]; kernel_rfl
   have q8 : f2 53 = .int .i64 ((K : Int)) := by rw [hf1]; kernel_rfl
   have q9 : f2 54 = .bool true := by rw [hf1]; kernel_rfl
   have q10 : f2 57 = (pt p) := by rw [hf1]; kernel_rfl
   have q11 : f2 58 = .slice a1 (K) (cap1) := by rw [hf1]; kernel_rfl
   have q12 : f2 59 = .int .i64 ((k : Int)) := by rw [hf1]; kernel_rfl
   have q13 : f2 60 = (pf gq2 k) := by rw [hf1]; kernel_rfl
   have q14 : f2 61 = .int .u64 ((fun i => iterT m.t m.tn i (m.g kg 2)) k) := by rw [hf1]; kernel_rfl
   have q15 : f2 62 = .int .i64 ((q : Int)) := by rw [hf1]; kernel_rfl
   have q16 : f2 8 = .int .i64 ((q : Int)) := by rw [hf1]; kernel_rfl
   have q17 : f2 64 = (pt p) := by rw [hf1]; kernel_rfl
   have q18 : f2 65 = (pt p) := by rw [hf1]; kernel_rfl
   have q19 : f2 66 = (pt p) := by rw [hf1]; kernel_rfl
   have q20 : f2 67 = (pf p 18) := by rw [hf1]; kernel_rfl
   have q21 : f2 68 = .slice m.s.na (m.s.nn) (m.s.nc) := by rw [hf1]; kernel_rfl
   have q22 : f2 69 = .int .i64 ((q : Int)) := by rw [hf1]; kernel_rfl
   have q23 : f2 70 = (pf gq3 (56 * q)) := by rw [hf1]; kernel_rfl
   have q24 : f2 71 = (pf gq3 (56 * q + 2)) := by rw [hf1]; kernel_rfl
   have q25 : f2 72 = .agg (Fx.varr 54 (Fx.rv .i64 (Rk q))) := by rw [hf1]; kernel_rfl
   have q26 : f2 73 = (pt g1) := by rw [hf1]; kernel_rfl
   have q27 : f2 74 = .int .i64 (v.o) := by rw [hf1]; kernel_rfl
   have q28 : f2 75 = (pt p) := by rw [hf1]; kernel_rfl
   have q29 : f2 76 = (pt p) := by rw [hf1]; kernel_rfl
   have q30 : f2 77 = (pt p) := by rw [hf1]; kernel_rfl
   have q31 : f2 78 = (pf p 19) := by rw [hf1]; kernel_rfl
   have q32 : f2 79 = .slice m.s.ga (m.s.gn) (m.s.gc) := by rw [hf1]; kernel_rfl
   have q33 : f2 80 = .int .i64 ((kg : Int)) := by rw [hf1]; kernel_rfl
   have q34 : f2 81 = (pf gq4 (5 * kg)) := by rw [hf1]; kernel_rfl
   have q35 : f2 82 = (pf gq4 (5 * kg + 3)) := by rw [hf1]; kernel_rfl
   have q36 : f2 83 = .int .i64 ((m.g kg) 3) := by rw [hf1]; kernel_rfl
   have q37 : f2 84 = .tuple #[.agg (Fx.varr 54 (Fx.rv .i64 ((freeM (Rk q) v.o ((m.g kg) 3)).1))), .int .i64 ((freeM (Rk q) v.o ((m.g kg) 3)).2)] := by rw [hf1]; kernel_rfl
   have q38 : f2 63 = .tuple #[.agg (Fx.varr 54 (Fx.rv .i64 ((freeM (Rk q) v.o ((m.g kg) 3)).1))), .int .i64 ((freeM (Rk q) v.o ((m.g kg) 3)).2)] := by rw [hf1]; kernel_rfl
   have q39 : f2 85 = .agg (Fx.varr 54 (Fx.rv .i64 ((freeM (Rk q) v.o ((m.g kg) 3)).1))) := by rw [hf1]; kernel_rfl
   have q40 : f2 86 = .int .i64 ((freeM (Rk q) v.o ((m.g kg) 3)).2) := by rw [hf1]; kernel_rfl
   have q41 : f2 9 = (pt g2) := by rw [hf1]; kernel_rfl
   have q42 : f2 10 = .int .i64 ((freeM (Rk q) v.o ((m.g kg) 3)).2) := by rw [hf1]; kernel_rfl
   clear hf1
   refine sN (Ws (Ws (Wl (Lv (.int .i64 ((freeM (Rk q) v.o ((m.g kg) 3)).2)) (x_move rfl q42) ?_))))
   by_cases c88 : ((freeM (Rk q) v.o ((m.g kg) 3)).2) = 0
   ·refine Lv (.bool false) (Fx.x_neqF rfl rfl rfl c88) (Ln (sN (Wc (b := false) rfl (fun h => nomatch h) (fun _ => Wk (sN ?_)))))
    -- region 14 draws
    refine Fx.W.reord [0, 1, 2, 3, 5, 4, 6, 7, 8, 9] [0, 0, 0, 0, 4, 0, 4, 0, 0, 3] Fx.Mk Fx.Mk.refl Fx.Mk.trans (certs := [(9, 4, [4]), (9, 6, [6])]) (by kernel_rfl) (by kernel_rfl) (by kernel_rfl) (by kernel_rfl) (by kernel_rfl) fun wt2 hbwt2 hzwt2 => ?_
    have s9 : Fx.Stp w8.heap.size w8 wt2 := Sb hbwt2
    have m74 := m66.stp s9 m66.ne
    have m75 := m67.stp s9 m67.ne
    have m76 := m68.stp s9 (m68.notNew (Nat.le_refl _))
    have m77 := m69.up s9.old
    have m78 := m70.stp s9 m70.ne
    have m79 := m71.stp s9 (m71.notNew (Nat.le_refl _))
    have m80 := m72.stpB s9 (Nat.ne_of_lt (m72.lt))
    have m81 := m73.stpB s9 (Nat.ne_of_lt (m73.lt))
    have m82 := m65.stp s9 m65.ne
    have b10 := s9.below b9 (Nat.le_trans hB b9.size) (Nat.le_trans hB b9.size)
    refine Rp ((pt p)) (fun v1 => x_move rfl q1) (Rp ((pt p)) (fun v1 => x_nil rfl rfl) (Rp ((pt p)) (fun v1 => x_field rfl rfl Try.underlying70 rfl (s := 20) (by kernel_rfl) rfl rfl) (Rp ((pf p 18)) (fun v1 => x_field rfl rfl Try.underlying65 rfl (s := 1) (by kernel_rfl) rfl (by show _ + 18 = _; omega)) (Rp (.int .i64 ((q : Int))) (fun v1 => x_move rfl q16) (Fx.R.s (.slice m.s.na (m.s.nn) (m.s.nc)) (x_load1 (x := ldY m) rfl rfl (by kernel_rfl) m74.cel (i := 18) (by omega) (by omega) rfl) ?_)))))
    refine Fx.R.s (.agg (Fx.varr 54 (Fx.rv .i64 ((freeM (Rk q) v.o ((m.g kg) 3)).1)))) (x_loadA (x := Fx.rv .i64 ((freeM (Rk q) v.o ((m.g kg) 3)).1)) (y := Fx.rv .i64 ((freeM (Rk q) v.o ((m.g kg) 3)).1)) rfl q41 (by kernel_rfl) (by kernel_rfl) m82.cel (i := 0) (by omega) (by omega) (fun j _ => by rw [Nat.zero_add])) ?_
    refine Rp ((pf gq3 (56 * q))) (fun v1 => x_indexS rfl (rfl.trans (congrArg (fun q => Value.slice q (m.s.nn) (m.s.nc)) eq3)) rfl Try.underlying62 (s := 56) (by kernel_rfl) (by omega) (by omega) (by omega)) (Rp ((pf gq3 (56 * q + 2))) (fun v1 => x_field rfl rfl Try.underlying123 rfl (s := 54) (by kernel_rfl) rfl (by show _ + 2 = _; omega)) (Fx.R.eff (by rfl) ?_))
    refine Fx.L.ownA (x := Fx.flat 56 (fun kq => ndY (m.id kq) (m.par kq) (Rk kq))) (y := Fx.rv .i64 ((freeM (Rk q) v.o ((m.g kg) 3)).1)) (by rfl) rfl rfl rfl rfl (fun _ _ => rfl) (by kernel_rfl) m80 (i := 56 * q + 2) (by omega) fun w9 m83 s10 z2 => ?_
    have hct1 := Fx.ChT.of_stp s10 m80.tyB
    have m84 := m74.chT hct1 (by decide)
    have m85 := m75.chT hct1 (by decide)
    have m86 := m76.chT hct1 (by decide)
    have m87 := m77.chT hct1 (by decide)
    have m88 := m78.chT hct1 (by decide)
    have m89 := m79.chT hct1 (by decide)
    have m90 := m81.chT hct1 (by decide)
    have b11 := s10.below b10 (Nat.le_trans hB b10.size) m80.blk.1
    have m92 : Fx.Own w9 B 123 56 (.slice (some ⟨gq3, 0, none⟩) m.s.nn m.s.nc) m.s.nn (Fx.flat 56 (fun kq => ndY (m.id kq) (m.par kq) (updA Rk q ((freeM (Rk q) v.o ((m.g kg) 3)).1) kq))) := m83.congr (fun pq hp => (Fx.ovrS_flat (k := q) (j := 2) (by omega) (by omega) pq hp).trans (Fx.flat_cong (fun i hi j hj => ndR_store i hi j hj) pq hp))
    refine Ln (Fx.R.nil (Fx.blkN (sN (Wl (Lv (.int .i64 ((k : Int))) (x_move rfl q4) (Lv (.int .i64 ((k : Int) + 1)) (Fx.x_add rfl rfl rfl Fx.io) (Lv (.int .i64 ((k : Int) + 1)) (x_assign rfl rfl) (Ln ?_))))))))
    have m93 : Fx.Own w9 B 159 5 (.slice m.s.ga (m.s.gn) (m.s.gc)) m.s.gn (grX m) := m90.congV (congrArg (fun q => Value.slice q m.s.gn m.s.gc) eq4.symm)
    have m94 : Fx.Own w9 B 123 56 (.slice m.s.na (m.s.nn) (m.s.nc)) m.s.nn (Fx.flat 56 (fun kq => ndY (m.id kq) (m.par kq) (updA Rk q ((freeM (Rk q) v.o ((m.g kg) 3)).1) kq))) := m92.congV (congrArg (fun q => Value.slice q m.s.nn m.s.nc) eq3.symm)
    refine Fx.lpN ⟨k + 1, (updA Rk q (freeM (Rk q) v.o (m.g kg 3)).1), by omega, (walkR_step hRk ex1 (by first | exact c88 | exact Classical.not_not.1 c88)), q1, q2, q3, Fx.ic, (q5.trans Fx.ic), m84, m85, m86, m87, m88, m93, m89, m94, b11⟩ ?_
    show (K - (intOf ((.int .i64 ((k : Int) + 1)))).toNat) < _
    simp only [h4, intOf]; omega
   refine Lv (.bool true) (Fx.x_neqT rfl rfl rfl c88) (Ln (sN (Wc (b := true) rfl (fun _ => Ws (Wl (Lv (.int .i64 ((freeM (Rk q) v.o ((m.g kg) 3)).2)) (x_move rfl q42) ?_))) (fun h => nomatch h))))
   refine Lv (.int .i64 ((freeM (Rk q) v.o ((m.g kg) 3)).2)) (x_assign rfl rfl) (Ln (sN (Wr (sR (Fx.blkR (sR (Fx.lpR (Fx.blkR (sR (⟨.int .i64 ((freeM (Rk q) v.o ((m.g kg) 3)).2), rV Try.results77 (by exact rfl), ?_⟩))))))))))
   have eN : regN v = a := by unfold regN; omega
   have ne1 : ¬ 0 ≤ m.core.askedN (regN v) v.req := by rw [eN]; exact of_decide_eq_false c16
   have ne2 : ¬ (m.core.grant v.o v.of < 0 ∨ m.core.g (kgN m.core v) 4 ≠ 0) := by rw [ekN]; exact fun h => h.elim c24 (fun h => h c35)
   have ew : freesW m.core v = walkR (fun x => freeM x v.o (m.g kg 3)) (idxT m.core (m.g kg 2)) m.R K := by unfold freesW; rw [ekN, show pathK m.core.t m.core.tn (m.core.g kg 2) = K from hKp.symm]; rfl
   have ee : freesE m.core v = (freeM (Rk q) v.o (m.g kg 3)).2 := by
    unfold freesE; rw [if_neg ne1, if_neg ne2, ew]
    have e1 := walkR_err hRk ex1 c88
    rw [walkR_stop (k := k + 1) (by rw [e1]; exact c88) K (by omega)]; exact e1
   exact ⟨congrArg (fun q => Ending.returned (Value.int .i64 q)) ee.symm, b9, fun h0 => absurd (ee.symm.trans h0) c88⟩
  refine Lv (.bool false) (Fx.x_lssF rfl rfl rfl c54) (Ln (sN (Wc (b := false) rfl (fun h => nomatch h) (fun _ => Fx.W.exit (Fx.seqX (Fx.lpX (Fx.blkX (sN (Ws ?_)))))))))
  have hRK : walkR (fun x => freeM x v.o (m.g kg 3)) (idxT m.core (m.g kg 2)) m.R K = (Rk, 0) := by rw [show K = k by omega]; exact hRk
  -- region 15 draws
  refine Fx.W.reord [0, 1, 2, 3, 5, 6, 4, 7, 8, 9, 10] [0, 0, 0, 0, 4, 0, 0, 4, 0, 0, 3] Fx.Mk Fx.Mk.refl Fx.Mk.trans (certs := [(10, 4, [4]), (10, 7, [7])]) (by kernel_rfl) (by kernel_rfl) (by kernel_rfl) (by kernel_rfl) (by kernel_rfl) fun wt3 hbwt3 hzwt3 => ?_
  have s11 : Fx.Stp w6.heap.size w6 wt3 := Sb hbwt3
  have m95 := m45.stp s11 m45.ne
  have m96 := m46.stp s11 m46.ne
  have m97 := m47.stp s11 (m47.notNew (Nat.le_refl _))
  have m98 := m48.up s11.old
  have m99 := m49.stp s11 m49.ne
  have m100 := m50.stp s11 (m50.notNew (Nat.le_refl _))
  have m102 := m52.stp s11 (m52.notNew (Nat.le_refl _))
  have b12 := s11.below b7 (Nat.le_trans hB b7.size) (Nat.le_trans hB b7.size)
  refine Rp ((pt p)) (fun v1 => x_move rfl h1) (Rp ((pt p)) (fun v1 => x_nil rfl rfl) (Rp ((pt p)) (fun v1 => x_field rfl rfl Try.underlying70 rfl (s := 20) (by kernel_rfl) rfl rfl) (Rp ((pf p 19)) (fun v1 => x_field rfl rfl Try.underlying65 rfl (s := 1) (by kernel_rfl) rfl (by show _ + 19 = _; omega)) (Rp (.int .i64 ((kg : Int))) (fun v1 => x_move rfl h5) (Rp ((pf g1 12)) (fun v1 => x_field rfl h2 Try.underlying50 rfl (s := 1) (by kernel_rfl) rfl (by show _ + 12 = _; omega)) (Fx.R.s (.slice m.s.ga (m.s.gn) (m.s.gc)) (x_load1 (x := ldY m) rfl rfl (by kernel_rfl) m95.cel (i := 19) (by omega) (by omega) rfl) ?_))))))
  refine Fx.R.s (.int .u64 (v.req)) (x_load1 (x := evY v) rfl rfl (by kernel_rfl) m99.cel (i := 12) (by omega) (by omega) rfl) ?_
  obtain ⟨gq5, eq5⟩ := m100.addr (by omega)
  have m103 : Fx.Own wt3 B 159 5 (.slice (some ⟨gq5, 0, none⟩) m.s.gn m.s.gc) m.s.gn (grX m) := m100.congV (congrArg (fun q => Value.slice q m.s.gn m.s.gc) eq5)
  refine Rp ((pf gq5 (5 * kg))) (fun v1 => x_indexS rfl (rfl.trans (congrArg (fun q => Value.slice q (m.s.gn) (m.s.gc)) eq5)) rfl Try.underlying63 (s := 5) (by kernel_rfl) (by omega) (by omega) (by omega)) (Rp ((pf gq5 (5 * kg + 4))) (fun v1 => x_field rfl rfl Try.underlying159 rfl (s := 1) (by kernel_rfl) rfl (by show _ + 4 = _; omega)) (Fx.R.eff (by rfl) ?_))
  refine Fx.L.own1 (x := grX m) (u := .int .u64 (v.req)) (by rfl) rfl rfl rfl rfl (by rfl) (by kernel_rfl) m103 (i := 5 * kg + 4) (by omega) fun w10 m104 s12 z3 => ?_
  have hct2 := Fx.ChT.of_stp s12 m103.tyB
  have m105 := m95.chT hct2 (by decide)
  have m106 := m96.chT hct2 (by decide)
  have m107 := m97.chT hct2 (by decide)
  have m108 := m98.chT hct2 (by decide)
  have m109 := m99.chT hct2 (by decide)
  have m111 := m102.chT hct2 (by decide)
  have b13 := s12.below b12 (Nat.le_trans hB b12.size) m103.blk.1
  have m112 : Fx.Own w10 B 159 5 (.slice (some ⟨gq5, 0, none⟩) m.s.gn m.s.gc) m.s.gn (Fx.flat 5 (fun kq => grY (updA m.g kg (updA (m.g kg) 4 v.req) kq))) := m104.congr (fun pq hp => (Fx.updV_flat (k := kg) (j := 4) (by omega) (by omega) pq hp).trans (Fx.flat_cong (fun i hi j hj => grB_store i hi j hj) pq hp))
  refine Ln (Fx.R.nil (sN (Ws ?_)))
  have m113 : Fx.Own w10 B 159 5 (.slice m.s.ga (m.s.gn) (m.s.gc)) m.s.gn (Fx.flat 5 (fun kq => grY (updA m.g kg (updA (m.g kg) 4 v.req) kq))) := m112.congV (congrArg (fun q => Value.slice q m.s.gn m.s.gc) eq5.symm)
  have m114 : Fx.Own w10 B 30 1 (.slice (m.ra a) ((m.rn a)) ((m.rc a))) (m.rn a) (Fx.rv .u64 (m.rq a)) := m108.1 a ha
  have bra := hL.br a ha
  -- region 16 draws
  refine Fx.W.reord [0, 1, 4, 5, 8, 9, 12, 16, 17, 2, 3, 6, 7, 10, 11, 13, 14, 15, 18, 19] [0, 0, 1, 0, 0, 0, 1, 0, 0, 0, 0, 1, 0, 4, 2, 2, 0, 0, 0, 3] (Fx.ChT [30]) Fx.ChT.refl Fx.ChT.trans (certs := [(19, 2, [2]), (19, 6, [6]), (19, 11, [11]), (14, 13, [13]), (15, 13, [14, 13]), (19, 13, [13]), (15, 14, [14]), (18, 14, [14]), (19, 14, [14]), (18, 15, [15]), (19, 15, [15])]) (by kernel_rfl) (by kernel_rfl) (by kernel_rfl) (by kernel_rfl) (by kernel_rfl) fun wt4 hbwt4 hzwt4 => ?_
  have s13 : Fx.Stp w10.heap.size w10 wt4 := Sb hbwt4
  have m115 := m105.stp s13 m105.ne
  have m116 := m106.stp s13 m106.ne
  have m117 := m107.stp s13 (m107.notNew (Nat.le_refl _))
  have m118 := m108.up s13.old
  have m119 := m109.stp s13 m109.ne
  have m120 := m111.stp s13 (m111.notNew (Nat.le_refl _))
  have m121 := m113.stp s13 (m113.notNew (Nat.le_refl _))
  have m122 := m114.stp s13 (m114.notNew (Nat.le_refl _))
  have b14 := s13.below b13 (Nat.le_trans hB b13.size) (Nat.le_trans hB b13.size)
  refine Rp ((pt p)) (fun v1 => x_move rfl h1) (Rp ((pt g1)) (fun v1 => x_field rfl h2 Try.underlying50 rfl (s := 1) (by kernel_rfl) rfl rfl) (Rp ((pt p)) (fun v1 => x_move rfl h1) (Rp ((pt g1)) (fun v1 => x_field rfl h2 Try.underlying50 rfl (s := 1) (by kernel_rfl) rfl rfl) (Rp ((pt p)) (fun v1 => x_nil rfl rfl) (Rp ((pf p 21)) (fun v1 => x_field rfl rfl Try.underlying70 rfl (s := 6) (by kernel_rfl) rfl (by show _ + 21 = _; omega)) (Rp ((pf g1 12)) (fun v1 => x_field rfl h2 Try.underlying50 rfl (s := 1) (by kernel_rfl) rfl (by show _ + 12 = _; omega)) (Rp ((pt p)) (fun v1 => x_nil rfl rfl) (Rp ((pf p 21)) (fun v1 => x_field rfl rfl Try.underlying70 rfl (s := 6) (by kernel_rfl) rfl (by show _ + 21 = _; omega)) (Fx.R.read (v := .int .i64 (v.o)) (by rfl) (by rfl) (Fx.ChT.refl _) (fun v1 hv1 => x_load1 (x := evY v) rfl rfl (by kernel_rfl) (m119.chT hv1 (by decide)).cel (i := 0) (by omega) (by omega) rfl) ?_)))))))))
  refine Rp (.int .i64 ((a : Int))) (fun v1 => Fx.x_sub rfl rfl rfl Fx.io) (Fx.R.read (v := .int .i64 (v.o)) (by rfl) (by rfl) (Fx.ChT.refl _) (fun v1 hv1 => x_load1 (x := evY v) rfl rfl (by kernel_rfl) (m119.chT hv1 (by decide)).cel (i := 0) (by omega) (by omega) rfl) ?_)
  refine Rp (.int .i64 ((a : Int))) (fun v1 => Fx.x_sub rfl rfl rfl Fx.io) (Rp ((pf p (a + 21))) (fun v1 => x_index rfl rfl rfl Try.underlying68 (s := 1) (by kernel_rfl) (by omega) (by omega) (by omega)) (Fx.R.read (v := .slice (m.ra a) ((m.rn a)) ((m.rc a))) (by rfl) (by rfl) (Fx.ChT.refl _) (fun v1 hv1 => x_load1 (x := ldY m) rfl rfl (by kernel_rfl) (m115.chT hv1 (by decide)).cel (i := a + 21) (by omega) (by omega) (ldY_req _ (by omega))) ?_))
  refine Fx.R.s (.int .u64 (v.req)) (x_load1 (x := evY v) rfl rfl (by kernel_rfl) m119.cel (i := 12) (by omega) (by omega) rfl) ?_
  refine Fx.R.make (by rfl) ?_
  refine Fx.L.bslice (vs := [(0, .int .u64 (v.req))]) (s := 1) (zc := Fx.rv .u64 (fun _ => 0)) (y := Fx.ovr (fun j => (Fx.rv .u64 (fun _ => 0)) (j % 1)) (0 * 1) 1 (fun _ => .int .u64 (v.req))) (by rfl) rfl rfl Try.underlying67 (by kernel_rfl) (by rfl) (by rfl) (by kernel_rfl) (by rw [Fx.fill_step (off := 0 * 1) (s := 1) (y := fun _ => .int .u64 (v.req)) rfl (Fx.cells_one (by rfl)) (by rfl)]; rfl) rfl fun g3 w11 eg3 m123 s14 z4 => ?_
  have m124 := m115.stp s14 m115.ne
  have m125 := m116.stp s14 m116.ne
  have m126 := m117.stp s14 (m117.notNew (Nat.le_refl _))
  have m127 := m118.up s14.old
  have m129 := m120.stp s14 (m120.notNew (Nat.le_refl _))
  have m130 := m121.stp s14 (m121.notNew (Nat.le_refl _))
  have m131 := m122.stp s14 (m122.notNew (Nat.le_refl _))
  have b15 := s14.below b14 (Nat.le_trans hB b14.size) (Nat.le_trans hB b14.size)
  have lg3 : w.heap.size ≤ g3 := by rw [eg3]; exact b14.size
  have ng3m124 : p ≠ g3 := by rw [eg3]; exact Nat.ne_of_lt (m115.lt)
  have ng3m125 : m.tb ≠ g3 := by rw [eg3]; exact Nat.ne_of_lt (m116.lt)
  have ng3m128 : g1 ≠ g3 := by rw [eg3]; exact Nat.ne_of_lt (m119.lt)
  have ng3m131 : (.slice (m.ra a) ((m.rn a)) ((m.rc a)) : Value).ownBlock ≠ some g3 := by rw [eg3]; exact m122.notNew (Nat.le_refl _)
  have tg3 : g3 < w11.heap.size := m123.lt
  clear eg3
  refine Ln ⟨Fx.ChT.of_below s14.old, ?_⟩
  refine Fx.R.make (by rfl) ?_
  refine Fx.L.app (B := B) (s := 1) (bytes := 8) (k := (m.rn a)) (m := 1) (v := .slice (m.ra a) ((m.rn a)) ((m.rc a))) (x := Fx.rv .u64 (m.rq a)) (by rfl) rfl rfl rfl Try.underlying67 (by kernel_rfl) (by kernel_rfl) rfl rfl m131 m123.cel (ovr_one (fun _ => rfl)) (by omega) (by omega) (by omega) (Nat.le_trans hB b15.size) fun g4 cap1 w12 ho1 hg1 hgv1 hlt1 => ?_
  have hct3 := Fx.ChT.of_grown hg1 m131
  have m133 := m124.chT hct3 (by decide)
  have m134 := m125.chT hct3 (by decide)
  have m135 := m126.chT hct3 (by decide)
  have m137 := m129.chT hct3 (by decide)
  have m138 := m130.chT hct3 (by decide)
  have m132 : Fx.Own w12 B 30 1 (.slice (some ⟨g4, 0, none⟩) ((m.rn a) + 1) cap1) ((m.rn a) + 1) (Fx.rv .u64 (updA (m.rq a) (m.rn a) v.req)) := (ho1.congr (fun j hj => req_app j hj))
  have b16 : Below B w w12 := Fx.Below.grow b15 hg1 (Nat.le_trans hB b15.size) (fun q hq => (m131.ge hq).1)
  have m139 : Rqs w12 B 6 { m with ra := updA m.ra a (some ⟨g4, 0, none⟩), rn := updA m.rn a (m.rn a + 1), rc := updA m.rc a cap1, rq := updA m.rq a (updA (m.rq a) (m.rn a) v.req) } := Rqs.app m127 ha rfl rfl rfl rfl m132 hg1 hgv1
  refine Ln ⟨hct3, ?_⟩
  refine Rp ((pf p (a + 21))) (fun v1 => x_index rfl rfl rfl Try.underlying68 (s := 1) (by kernel_rfl) (by omega) (by omega) (by omega)) (Fx.R.eff (by rfl) ?_)
  refine Fx.L.store1 (x := ldY m) (u := .slice (some ⟨g4, 0, none⟩) ((m.rn a) + 1) (cap1)) (by rfl) rfl rfl rfl rfl (by rfl) (by kernel_rfl) m133 (i := a + 21) (by omega) fun w13 m140 s15 z5 => ?_
  have hct4 := Fx.ChT.of_stp s15 m133.ty
  have m141 := m134.chT hct4 (by decide)
  have m142 := m135.chT hct4 (by decide)
  have m144 := m137.chT hct4 (by decide)
  have m145 := m138.chT hct4 (by decide)
  have m147 := m139.chT hct4 (by decide)
  have b17 := s15.below b16 (Nat.le_trans hB b16.size) (by omega)
  refine Ln (Fx.R.nil (sN (Ws (Wl (Lv (.int .i64 (0)) (x_assign rfl rfl) (Ln (sN (Wr (⟨.int .i64 (0), rV Try.results77 (by exact rfl), ?_⟩)))))))))
  have eN : regN v = a := by unfold regN; omega
  have ne1 : ¬ 0 ≤ m.core.askedN (regN v) v.req := by rw [eN]; exact of_decide_eq_false c16
  have ne2 : ¬ (m.core.grant v.o v.of < 0 ∨ m.core.g (kgN m.core v) 4 ≠ 0) := by rw [ekN]; exact fun h => h.elim c24 (fun h => h c35)
  have ew : freesW m.core v = walkR (fun x => freeM x v.o (m.g kg 3)) (idxT m.core (m.g kg 2)) m.R K := by unfold freesW; rw [ekN, show pathK m.core.t m.core.tn (m.core.g kg 2) = K from hKp.symm]; rfl
  have ee : freesE m.core v = 0 := by unfold freesE; rw [if_neg ne1, if_neg ne2, ew, hRK]
  have eW : freesW m.core v = (Rk, 0) := ew.trans hRK
  refine ⟨congrArg (fun q => Ending.returned (Value.int .i64 q)) ee.symm, b17, fun _ => ⟨{ m with s := { m.s with ga := m.s.ga, gn := m.s.gn, gc := m.s.gc }, R := Rk, g := updA m.g kg (updA (m.g kg) 4 v.req), ra := updA m.ra a (some ⟨g4, 0, none⟩), rn := updA m.rn a (m.rn a + 1), rc := updA m.rc a cap1, rq := updA m.rq a (updA (m.rq a) (m.rn a) v.req) }, ?_, ?_⟩⟩
  ·unfold freesC addReq; rw [eW, eN]; rw [ekN]; rfl
  exact { c := m140.to (ldY_reqs _ rfl _ _ _), n := m144, g := m145, tc := m141, t := m142, r := m147, pB := hLp, tB := hLtb, bn := bn, bg := (by show m.s.gn ≤ 1000000; omega), bt := bt, br := (fun i hi => by show updA m.rn a (m.rn a + 1) i ≤ 1000000; have := brr i hi; have := brr a ha; unfold updA; split <;> omega) }
 refine Lv (.bool true) (Fx.x_neqT rfl rfl rfl c35) (Lv (.bool true) (x_pickF rfl rfl rfl) (Ln (sN (Wc (b := true) rfl (fun _ => Ws (Wl (Lv (.int .i64 (12)) (x_assign rfl rfl) ?_))) (fun h => nomatch h)))))
 refine Ln (sN (Wr (sR (⟨.int .i64 (12), rV Try.results77 (by exact rfl), ?_⟩))))
 have eN : regN v = a := by unfold regN; omega
 have ne1 : ¬ 0 ≤ m.core.askedN (regN v) v.req := by rw [eN]; exact of_decide_eq_false c16
 have ee : freesE m.core v = 12 := by unfold freesE; rw [if_neg ne1, ekN]; exact if_pos (.inr c35)
 exact ⟨congrArg (fun q => Ending.returned (Value.int .i64 q)) ee.symm, b4, fun h0 => by rw [ee] at h0; cases h0⟩
namespace Rt
def raiseE (L : LdC) (v : EvM) : Int := if L.node v.node < 0 then 9 else if 140737488355328 < L.R (L.node v.node).toNat (regN v) + v.amt then 6 else 0
def raiseC (L : LdC) (v : EvM) : LdC := { L with R := updA L.R (L.node v.node).toNat (upd (L.R (L.node v.node).toNat) (regN v) (L.R (L.node v.node).toNat (regN v) + v.amt)) }
def moveW (L : LdC) (v : EvM) : (Nat → Int) × Int := moveM (L.R (L.node v.node).toNat) v.o v.dst v.amt
def movesE (L : LdC) (v : EvM) : Int := if L.node v.node < 0 then 9 else if v.dst < 1 ∨ 6 < v.dst ∨ L.inn (v.dst - 1).toNat = false then 10 else (moveW L v).2
def movesC (L : LdC) (v : EvM) : LdC := { L with R := updA L.R (L.node v.node).toNat (moveW L v).1 }
noncomputable def doesE (L : LdC) (v : EvM) : Int :=
  if v.kind = 1 then makesE L v else if v.kind = 2 then raiseE L v else if v.kind = 3 then takesE L v else if v.kind = 4 then freesE L v else if v.kind = 5 then movesE L v else 0
def doesC (L : LdC) (v : EvM) : LdC :=
  if v.kind = 1 then makesC L v else if v.kind = 2 then raiseC L v else if v.kind = 3 then takesC L v else if v.kind = 4 then freesC L v else if v.kind = 5 then movesC L v
  else if v.kind = 6 then { L with inn := updA L.inn (v.dst - 1).toNat true } else { L with left := updA L.left (regN v) true }
theorem ndR1_store {n q a : Nat} {id par : Nat → Int} {R : Nat → Nat → Int} {x : Int} : ∀ i, i < n → ∀ j, j < 56 → Fx.updF (fun kq => ndY (id kq) (par kq) (R kq)) q (Fx.updV (ndY (id q) (par q) (R q)) (a + 2) (.int .i64 x)) i j = ndY (id i) (par i) (updA R q (upd (R q) a x) i) j := fun i _ j _ => by
  unfold Fx.updF
  by_cases h : i = q
  · subst h; rw [if_pos rfl, ndY_upd rfl]; unfold updA; rw [if_pos rfl]
  · rw [if_neg h]; unfold updA; rw [if_neg h]
theorem ldY_inn (m : LdM) {i : Nat} (hi : i < 6) : Fx.updV (ldY m) i (.bool true) = ldY { m with s := { m.s with inn := updA m.s.inn i true } } := by
  funext p
  unfold Fx.updV ldY
  by_cases h : p = i
  · subst h; rw [if_pos rfl, if_pos (by omega)]; unfold stY; rw [if_pos hi]; simp [updA]
  rw [if_neg h]
  by_cases h2 : p < 20
  · rw [if_pos h2, if_pos h2]; unfold stY
    by_cases h3 : p < 6
    · rw [if_pos h3, if_pos h3]; simp [updA, h]
    rw [if_neg h3, if_neg h3]
  rw [if_neg h2, if_neg h2]
theorem ldY_left (m : LdM) {i q : Nat} (hi : i < 6) (hq : q = i + 6) : Fx.updV (ldY m) q (.bool true) = ldY { m with s := { m.s with left := updA m.s.left i true } } := by
  subst hq
  funext p
  unfold Fx.updV ldY
  by_cases h : p = i + 6
  · subst h; rw [if_pos rfl, if_pos (by omega)]; unfold stY; rw [if_neg (by omega), if_pos (by omega)]; simp [updA]
  rw [if_neg h]
  by_cases h2 : p < 20
  · rw [if_pos h2, if_pos h2]; unfold stY
    by_cases h3 : p < 6
    · rw [if_pos h3, if_pos h3]
    rw [if_neg h3, if_neg h3]
    by_cases h4 : p < 12
    · rw [if_pos h4, if_pos h4]; simp [updA, show ¬ p - 6 = i by omega]
    rw [if_neg h4, if_neg h4]
  rw [if_neg h2, if_neg h2]
theorem ldY_known (m : LdM) {i q : Nat} (hi : i < 6) (hq : q = i + 12) (x : Int) : Fx.updV (ldY m) q (.int .u64 x) = ldY { m with s := { m.s with known := updA m.s.known i x } } := by
  subst hq
  funext p
  unfold Fx.updV ldY
  by_cases h : p = i + 12
  · subst h; rw [if_pos rfl, if_pos (by omega)]; unfold stY; rw [if_neg (by omega), if_neg (by omega), if_pos (by omega)]; simp [updA]
  rw [if_neg h]
  by_cases h2 : p < 20
  · rw [if_pos h2, if_pos h2]; unfold stY
    by_cases h3 : p < 6
    · rw [if_pos h3, if_pos h3]
    rw [if_neg h3, if_neg h3]
    by_cases h4 : p < 12
    · rw [if_pos h4, if_pos h4]
    rw [if_neg h4, if_neg h4]
    by_cases h5 : p < 18
    · rw [if_pos h5, if_pos h5]; simp [updA, show ¬ p - 12 = i by omega]
    rw [if_neg h5, if_neg h5]
  rw [if_neg h2, if_neg h2]
theorem fields_kind {v : EvM} (h : mayE v = true) : 1 ≤ v.kind ∧ v.kind ≤ 7 := by
  unfold mayE at h
  simp only [Bool.and_eq_true] at h
  have hf := h.2
  unfold fieldsE at hf
  split at hf; · omega
  split at hf; · omega
  split at hf; · omega
  split at hf; · omega
  split at hf; · omega
  split at hf; · omega
  have := of_decide_eq_true hf; omega
theorem fields_amt {v : EvM} (h : mayE v = true) (hk : v.kind = 2 ∨ v.kind = 3 ∨ v.kind = 5) : 1 ≤ v.amt ∧ v.amt ≤ 1125899906842624 := by
  unfold mayE at h
  simp only [Bool.and_eq_true] at h
  have hf := h.2
  unfold fieldsE at hf
  rw [if_neg (by omega)] at hf
  have key : someE v = true → 1 ≤ v.amt ∧ v.amt ≤ 1125899906842624 := fun h => by unfold someE at h; simpa using h
  split at hf; · exact key hf
  split at hf; · rw [Bool.and_eq_true] at hf; exact key hf.1
  rw [if_neg (by omega)] at hf
  split at hf; · rw [Bool.and_eq_true] at hf; exact key hf.1
  omega
theorem fields_to {v : EvM} (h : mayE v = true) (hk : v.kind = 6) : ∃ b : Nat, b < 6 ∧ v.dst = (b : Int) + 1 := by
  unfold mayE at h
  simp only [Bool.and_eq_true] at h
  have hf := h.2
  unfold fieldsE at hf
  rw [if_neg (by omega), if_neg (by omega), if_neg (by omega), if_neg (by omega), if_neg (by omega), if_pos hk] at hf
  unfold otherE at hf
  rw [Bool.and_eq_true] at hf
  exact regE_nat hf.1
end Rt
set_option maxRecDepth 20000 in
set_option maxHeartbeats 2000000 in
theorem l_does (m : LdM) (B p a : Nat) (v : EvM) (w : World) (hL : LdO w B p m) (hB : B ≤ w.heap.size) (ha : a < 6) (ho : v.o = (a : Int) + 1) (bnn : m.s.nn ≤ 900) (bgg : m.s.gn ≤ 900000) (brr : ∀ i, i < 6 → m.rn i ≤ 900000) (hTN : ∀ x, m.node x = findT m.t m.tn x) (hDx : ∀ x, ∃ D, D ≤ 1000 ∧ findT m.t m.tn (iterT m.t m.tn D x) < 0) (hv : EvWf v) (hmay : mayE v = true) (hR : ∀ k, k < m.s.nn → may (m.R k) = true) :
    Calls Try.prog 57 #[(pt p), .agg (Fx.varr 14 (evY v))] w fun e w' => e = .returned (.int .i64 (doesE m.core v)) ∧ Below B w w' ∧ (doesE m.core v = 0 → ∃ m', m'.core = doesC m.core v ∧ LdO w' B p m') := by
 have hLp := hL.pB
 have hLtb := hL.tB
 have bn := hL.bn
 have bg := hL.bg
 have bt := hL.bt
 have lpp : p < w.heap.size := hL.c.lt
 have ltb : m.tb < w.heap.size := hL.tc.lt
 have hvk := hv.kind
 have hvt := hv.dst
 have hkr := fields_kind hmay
 obtain ⟨D, hD2, hD⟩ := hDx v.node
 refine Fx.enter Try.func57 rfl (n := 152) rfl (by rfl) ?_
 refine Ws (Wl (Fx.L.box (m := 14) (y := evY v) (by rfl) rfl rfl (Fx.cells_agg _ _) rfl fun g1 w1 eg1 m1 s1 z1 => ?_))
 have m2 := hL.up s1.old
 have b1 := s1.below (Below.refl B w) (Nat.le_trans hB (Below.refl B w).size) (Nat.le_trans hB (Below.refl B w).size)
 have lg1 : w.heap.size ≤ g1 := by rw [eg1]; exact (Below.refl B w).size
 have tg1 : g1 < w1.heap.size := m1.lt
 clear eg1
 refine Lv (.int .i64 (0)) (x_assign rfl rfl) (Ln (sN (Ws (Ws (Wl (Lv ((pf g1 8)) (x_field rfl rfl Try.underlying50 rfl (s := 1) (by kernel_rfl) rfl (by show _ + 8 = _; omega)) (Lv (.int .u8 (v.kind)) (x_load1 (x := evY v) rfl rfl (by kernel_rfl) m1.cel (i := 8) (by omega) (by omega) rfl) (Ln (sN (Fx.W.block (Ws (Wl ?_))))))))))))
 by_cases c12 : v.kind = 1
 ·refine Lv (.bool true) (x_eqlT rfl rfl rfl c12) (Lv (.bool true) (x_assign rfl rfl) (Ln (sN (Wc (b := true) rfl (fun _ => Ws (Wl (Lv ((pt p)) (x_move rfl rfl) ?_))) (fun h => nomatch h)))))
  refine Lv (.agg (Fx.varr 14 (evY v))) (x_loadA (x := evY v) (y := evY v) rfl rfl (by kernel_rfl) (by kernel_rfl) m1.cel (i := 0) (by omega) (by omega) (fun j _ => by rw [Nat.zero_add])) (Fx.L.call (by rfl) (rC (args := [(pt p), .agg (Fx.varr 14 (evY v))]) rfl rfl Try.func74 rfl rfl) rfl ((l_makes m B p a D v _ m2 (Nat.le_trans hB b1.size) ha ho bnn hD hD2).mono ?_))
  rintro e w2 ⟨he, hb1, hr1⟩
  refine ⟨.int .i64 (makesE m.core v), he, ?_⟩
  clear he
  have b2 : Below B w w2 := b1.trans hb1
  refine Lv (.int .i64 (makesE m.core v)) (x_assign rfl rfl) (Ln (sN (Wr (Fx.blkR (sR (⟨.int .i64 (makesE m.core v), rV Try.results57 (by exact rfl), ?_⟩))))))
  have ee : doesE m.core v = makesE m.core v := by unfold doesE; rw [if_pos c12]
  have ec : doesC m.core v = makesC m.core v := by unfold doesC; rw [if_pos c12]
  exact ⟨congrArg (fun q => Ending.returned (Value.int .i64 q)) ee.symm, b2, fun h0 => by rw [ec]; exact hr1 (ee.symm.trans h0)⟩
 refine Lv (.bool false) (x_eqlF rfl rfl rfl c12) (Lv (.bool false) (x_assign rfl rfl) (Ln (sN (Wc (b := false) rfl (fun h => nomatch h) (fun _ => Ws (Wl ?_))))))
 by_cases c17 : v.kind = 2
 ·refine Lv (.bool true) (x_eqlT rfl rfl rfl c17) (Lv (.bool true) (x_assign rfl rfl) (Ln (sN (Wc (b := true) rfl (fun _ => Ws ?_) (fun h => nomatch h)))))
  have hLc := m2.c
  have hLn := m2.n
  have hLg := m2.g
  have hLt := m2.tc
  have hLtr := m2.t
  have hLr := m2.r
  refine Wl (Lv ((pt p)) (x_move rfl rfl) (Lv ((pf g1 9)) (x_field rfl rfl Try.underlying50 rfl (s := 1) (by kernel_rfl) rfl (by show _ + 9 = _; omega)) (Lv (.int .u64 (v.node)) (x_load1 (x := evY v) rfl rfl (by kernel_rfl) m1.cel (i := 9) (by omega) (by omega) rfl) ?_)))
  have hld1 : Ldg w1 p m := { c := hLc.cel, an := hLn.arr, ag := hLg.arr, tc := hLt.cel, at2 := hLtr.arr, ar := fun i hi => (hLr.1 i hi).arr, bn := (by show m.s.nn ≤ 1000000; omega), bg := bg, bt := (by show m.tn ≤ 1000000; omega), br := hL.br }
  refine Fx.L.call (by rfl) (rC (args := [(pt p), .int .u64 (v.node)]) rfl rfl Try.func75 rfl rfl) rfl ((l_node m p v.node _ hld1).mono ?_)
  rintro e w3 ⟨he, hb2⟩
  refine ⟨.int .i64 (m.node v.node), by rw [he], ?_⟩
  clear he
  have s2 := Sb hb2
  have m3 := m1.stp s2 m1.ne
  have m4 := hLc.stp s2 hLc.ne
  have m5 := hLn.stp s2 (hLn.notNew (Nat.le_refl _))
  have m6 := hLg.stp s2 (hLg.notNew (Nat.le_refl _))
  have m7 := hLt.stp s2 hLt.ne
  have m8 := hLtr.stp s2 (hLtr.notNew (Nat.le_refl _))
  have m9 := hLr.up s2.old
  have b3 := s2.below b1 (Nat.le_trans hB b1.size) (Nat.le_trans hB b1.size)
  refine Lv (.int .i64 (m.node v.node)) (x_assign rfl rfl) (Ln (sN (Ws (Ws (Wl (Lv (.int .i64 (m.node v.node)) (x_move rfl rfl) ?_))))))
  by_cases c23 : (m.node v.node) < 0
  ·refine Lv (.bool true) (Fx.x_lssT rfl rfl rfl c23) (Ln (sN (Wc (b := true) rfl (fun _ => Ws (Wl (Lv (.int .i64 (9)) (x_assign rfl rfl) ?_))) (fun h => nomatch h))))
   refine Ln (sN (Wr (sR (Fx.blkR (sR (⟨.int .i64 (9), rV Try.results57 (by exact rfl), ?_⟩))))))
   have eN : regN v = a := by unfold regN; omega
   have ee : doesE m.core v = 9 := by unfold doesE; rw [if_neg c12, if_pos c17]; unfold raiseE; exact if_pos c23
   exact ⟨congrArg (fun q => Ending.returned (Value.int .i64 q)) ee.symm, b3, fun h0 => by rw [ee] at h0; cases h0⟩
  obtain ⟨kn, hkq, ekq, _⟩ := node_at (m := m) (x := v.node) (by omega)
  have ekq : m.node v.node = (kn : Int) := ekq
  have ekN : (m.core.node v.node).toNat = kn := by show (m.node v.node).toNat = kn; rw [ekq]; rfl
  refine Lv (.bool false) (Fx.x_lssF rfl rfl rfl c23) (Ln (sN (Wc (b := false) rfl (fun h => nomatch h) (fun _ => Wk (sN (Ws (Ws ?_)))))))
  have hRb := may_ent (hR kn hkq) a (by omega)
  have hab := fields_amt hmay (.inl c17)
  -- region 8 draws
  refine Fx.W.quiet (fun v1 => ∃ q, v1 = World.drewN w3 q) (by kernel_rfl) (by kernel_rfl) ⟨1, rfl⟩ ?_
  refine Qv ((pt p)) (fun v1 hv1 => x_move rfl rfl) (Qv ((pt p)) (fun v1 hv1 => x_nil rfl rfl) (Qv ((pt p)) (fun v1 hv1 => x_field rfl rfl Try.underlying70 rfl (s := 20) (by kernel_rfl) rfl rfl) (Qv ((pf p 18)) (fun v1 hv1 => x_field rfl rfl Try.underlying65 rfl (s := 1) (by kernel_rfl) rfl (by show _ + 18 = _; omega)) (Qv (.slice m.s.na (m.s.nn) (m.s.nc)) (fun v1 hv1 => x_load1 (x := ldY m) rfl rfl (by kernel_rfl) (by obtain ⟨qd, rfl⟩ := hv1; exact m4.cel) (i := 18) (by omega) (by omega) rfl) (Qv (.int .i64 ((kn : Int))) (fun v1 hv1 => x_move rfl (congrArg (Value.int .i64) ekq)) (Qv ((pt g1)) (fun v1 hv1 => x_field rfl rfl Try.underlying50 rfl (s := 1) (by kernel_rfl) rfl rfl) (Qv (.int .i64 (v.o)) (fun v1 hv1 => x_load1 (x := evY v) rfl rfl (by kernel_rfl) (by obtain ⟨qd, rfl⟩ := hv1; exact m3.cel) (i := 0) (by omega) (by omega) rfl) (Qv (.int .i64 ((a : Int))) (fun v1 hv1 => Fx.x_sub rfl rfl rfl Fx.io) ?_))))))))
  obtain ⟨gq1, eq1⟩ := m5.addr (by omega)
  have m10 : Fx.Own w3 B 123 56 (.slice (some ⟨gq1, 0, none⟩) m.s.nn m.s.nc) m.s.nn (ndX m) := m5.congV (congrArg (fun q => Value.slice q m.s.nn m.s.nc) eq1)
  refine Qv ((pf gq1 (56 * kn))) (fun v1 hv1 => x_indexS rfl (rfl.trans (congrArg (fun q => Value.slice q (m.s.nn) (m.s.nc)) eq1)) rfl Try.underlying62 (s := 56) (by kernel_rfl) (by omega) (by omega) (by omega)) (Qv ((pf gq1 (56 * kn + 2))) (fun v1 hv1 => x_field rfl rfl Try.underlying123 rfl (s := 54) (by kernel_rfl) rfl (by show _ + 2 = _; omega)) (Qv ((pf gq1 (56 * kn + 2))) (fun v1 hv1 => x_field rfl rfl Try.underlying121 rfl (s := 6) (by kernel_rfl) rfl rfl) (Qv ((pf gq1 (a + 56 * kn + 2))) (fun v1 hv1 => x_index rfl rfl rfl Try.underlying118 (s := 1) (by kernel_rfl) (by omega) (by omega) (by omega)) (Qv (.int .i64 ((m.R kn) a)) (fun v1 hv1 => x_load1 (x := ndX m) rfl rfl (by kernel_rfl) (by obtain ⟨qd, rfl⟩ := hv1; exact m10.cel) (i := a + 56 * kn + 2) (by omega) (by omega) (Fx.flat_cell (k := kn) (j := a + 2) (by omega) (by omega) (ndY_at _ _ _ (by omega)))) (Qv ((pf g1 11)) (fun v1 hv1 => x_field rfl rfl Try.underlying50 rfl (s := 1) (by kernel_rfl) rfl (by show _ + 11 = _; omega)) (Qv (.int .i64 (v.amt)) (fun v1 hv1 => x_load1 (x := evY v) rfl rfl (by kernel_rfl) (by obtain ⟨qd, rfl⟩ := hv1; exact m3.cel) (i := 11) (by omega) (by omega) rfl) (Qv (.int .i64 (((m.R kn) a) + v.amt)) (fun v1 hv1 => Fx.x_add rfl rfl rfl Fx.io) ?_)))))))
  by_cases c41 : 140737488355328 < (((m.R kn) a) + v.amt)
  ·refine Qv (.bool true) (fun v1 hv1 => Fx.x_gtrT rfl rfl rfl c41) (Fx.Qt.nil ?_)
   rintro _ ⟨qd, rfl⟩
   obtain ⟨wq1, ewq1⟩ : ∃ v1, v1 = World.drewN w3 qd := ⟨_, rfl⟩
   rw [← ewq1]
   have s3 : Fx.Stp w3.heap.size w3 wq1 := by rw [ewq1]; exact Sb (bdrN w3 qd)
   have b4 := s3.below b3 (Nat.le_trans hB b3.size) (Nat.le_trans hB b3.size)
   clear ewq1
   refine sN (Wc (b := true) rfl (fun _ => Ws (Wl (Lv (.int .i64 (6)) (x_assign rfl rfl) ?_))) (fun h => nomatch h))
   refine Ln (sN (Wr (sR (Fx.blkR (sR (⟨.int .i64 (6), rV Try.results57 (by exact rfl), ?_⟩))))))
   have eN : regN v = a := by unfold regN; omega
   have ee : doesE m.core v = 6 := by unfold doesE; rw [if_neg c12, if_pos c17]; unfold raiseE; rw [ekN, eN, if_neg (show ¬ m.core.node v.node < 0 from c23)]; exact if_pos c41
   exact ⟨congrArg (fun q => Ending.returned (Value.int .i64 q)) ee.symm, b4, fun h0 => by rw [ee] at h0; cases h0⟩
  refine Qv (.bool false) (fun v1 hv1 => x_gtrF rfl rfl rfl c41) (Fx.Qt.nil ?_)
  rintro _ ⟨qd, rfl⟩
  obtain ⟨wq2, ewq2⟩ : ∃ v1, v1 = World.drewN w3 qd := ⟨_, rfl⟩
  rw [← ewq2]
  have s4 : Fx.Stp w3.heap.size w3 wq2 := by rw [ewq2]; exact Sb (bdrN w3 qd)
  have m18 := m3.stp s4 m3.ne
  have m19 := m4.stp s4 m4.ne
  have m20 := m6.stp s4 (m6.notNew (Nat.le_refl _))
  have m21 := m7.stp s4 m7.ne
  have m22 := m8.stp s4 (m8.notNew (Nat.le_refl _))
  have m23 := m9.up s4.old
  have m24 := m10.stpB s4 (Nat.ne_of_lt (m10.lt))
  have b5 := s4.below b3 (Nat.le_trans hB b3.size) (Nat.le_trans hB b3.size)
  clear ewq2
  refine sN (Wc (b := false) rfl (fun h => nomatch h) (fun _ => Wk (sN ?_)))
  -- region 10 draws
  refine Fx.W.reord [0, 1, 2, 3, 5, 6, 14, 4, 9, 10, 11, 17, 18, 19, 7, 8, 12, 13, 15, 16, 20, 21] [0, 0, 0, 0, 4, 0, 0, 4, 0, 0, 0, 0, 0, 4, 0, 4, 0, 0, 0, 0, 0, 3] Fx.Mk Fx.Mk.refl Fx.Mk.trans (certs := [(21, 4, [4]), (21, 7, [7]), (21, 13, [13]), (21, 15, [15])]) (by kernel_rfl) (by kernel_rfl) (by kernel_rfl) (by kernel_rfl) (by kernel_rfl) fun wt1 hbwt1 hzwt1 => ?_
  have s5 : Fx.Stp wq2.heap.size wq2 wt1 := Sb hbwt1
  have m25 := m18.stp s5 m18.ne
  have m26 := m19.stp s5 m19.ne
  have m27 := m20.stp s5 (m20.notNew (Nat.le_refl _))
  have m28 := m21.stp s5 m21.ne
  have m29 := m22.stp s5 (m22.notNew (Nat.le_refl _))
  have m30 := m23.up s5.old
  have m31 := m24.stpB s5 (Nat.ne_of_lt (m24.lt))
  have b6 := s5.below b5 (Nat.le_trans hB b5.size) (Nat.le_trans hB b5.size)
  refine Rp ((pt p)) (fun v1 => x_move rfl rfl) (Rp ((pt p)) (fun v1 => x_nil rfl rfl) (Rp ((pt p)) (fun v1 => x_field rfl rfl Try.underlying70 rfl (s := 20) (by kernel_rfl) rfl rfl) (Rp ((pf p 18)) (fun v1 => x_field rfl rfl Try.underlying65 rfl (s := 1) (by kernel_rfl) rfl (by show _ + 18 = _; omega)) (Rp (.int .i64 ((kn : Int))) (fun v1 => x_move rfl (congrArg (Value.int .i64) ekq)) (Rp ((pt g1)) (fun v1 => x_field rfl rfl Try.underlying50 rfl (s := 1) (by kernel_rfl) rfl rfl) (Rp ((pf g1 11)) (fun v1 => x_field rfl rfl Try.underlying50 rfl (s := 1) (by kernel_rfl) rfl (by show _ + 11 = _; omega)) (Fx.R.s (.slice m.s.na (m.s.nn) (m.s.nc)) (x_load1 (x := ldY m) rfl rfl (by kernel_rfl) m26.cel (i := 18) (by omega) (by omega) rfl) ?_)))))))
  refine Rp ((pf gq1 (56 * kn))) (fun v1 => x_indexS rfl (rfl.trans (congrArg (fun q => Value.slice q (m.s.nn) (m.s.nc)) eq1)) rfl Try.underlying62 (s := 56) (by kernel_rfl) (by omega) (by omega) (by omega)) (Rp ((pf gq1 (56 * kn + 2))) (fun v1 => x_field rfl rfl Try.underlying123 rfl (s := 54) (by kernel_rfl) rfl (by show _ + 2 = _; omega)) (Rp ((pf gq1 (56 * kn + 2))) (fun v1 => x_field rfl rfl Try.underlying121 rfl (s := 6) (by kernel_rfl) rfl rfl) (Rp ((pf gq1 (56 * kn))) (fun v1 => x_indexS rfl (rfl.trans (congrArg (fun q => Value.slice q (m.s.nn) (m.s.nc)) eq1)) rfl Try.underlying62 (s := 56) (by kernel_rfl) (by omega) (by omega) (by omega)) (Rp ((pf gq1 (56 * kn + 2))) (fun v1 => x_field rfl rfl Try.underlying123 rfl (s := 54) (by kernel_rfl) rfl (by show _ + 2 = _; omega)) (Rp ((pf gq1 (56 * kn + 2))) (fun v1 => x_field rfl rfl Try.underlying121 rfl (s := 6) (by kernel_rfl) rfl rfl) (Fx.R.s (.int .i64 (v.o)) (x_load1 (x := evY v) rfl rfl (by kernel_rfl) m25.cel (i := 0) (by omega) (by omega) rfl) ?_))))))
  refine Rp (.int .i64 ((a : Int))) (fun v1 => Fx.x_sub rfl rfl rfl Fx.io) (Rp ((pf gq1 (a + 56 * kn + 2))) (fun v1 => x_index rfl rfl rfl Try.underlying118 (s := 1) (by kernel_rfl) (by omega) (by omega) (by omega)) (Fx.R.s (.int .i64 ((m.R kn) a)) (x_load1 (x := ndX m) rfl rfl (by kernel_rfl) m31.cel (i := a + 56 * kn + 2) (by omega) (by omega) (Fx.flat_cell (k := kn) (j := a + 2) (by omega) (by omega) (ndY_at _ _ _ (by omega)))) ?_))
  refine Fx.R.s (.int .i64 (v.amt)) (x_load1 (x := evY v) rfl rfl (by kernel_rfl) m25.cel (i := 11) (by omega) (by omega) rfl) ?_
  refine Rp (.int .i64 (((m.R kn) a) + v.amt)) (fun v1 => Fx.x_add rfl rfl rfl Fx.io) (Rp ((pf gq1 (a + 56 * kn + 2))) (fun v1 => x_index rfl rfl rfl Try.underlying118 (s := 1) (by kernel_rfl) (by omega) (by omega) (by omega)) (Fx.R.eff (by rfl) ?_))
  refine Fx.L.own1 (x := ndX m) (u := .int .i64 (((m.R kn) a) + v.amt)) (by rfl) rfl rfl rfl rfl (by rfl) (by kernel_rfl) m31 (i := a + 56 * kn + 2) (by omega) fun w4 m32 s6 z2 => ?_
  have hct1 := Fx.ChT.of_stp s6 m31.tyB
  have m34 := m26.chT hct1 (by decide)
  have m35 := m27.chT hct1 (by decide)
  have m36 := m28.chT hct1 (by decide)
  have m37 := m29.chT hct1 (by decide)
  have m38 := m30.chT hct1 (by decide)
  have b7 := s6.below b6 (Nat.le_trans hB b6.size) m31.blk.1
  have m39 : Fx.Own w4 B 123 56 (.slice (some ⟨gq1, 0, none⟩) m.s.nn m.s.nc) m.s.nn (Fx.flat 56 (fun kq => ndY (m.id kq) (m.par kq) (updA m.R kn (upd (m.R kn) a (((m.R kn) a) + v.amt)) kq))) := m32.congr (fun pq hp => (Fx.updV_flat (k := kn) (j := a + 2) (by omega) (by omega) pq hp).trans (Fx.flat_cong (fun i hi j hj => ndR1_store (a := a) (x := ((m.R kn) a) + v.amt) (q := kn) (id := m.id) (par := m.par) (R := m.R) i hi j hj) pq hp))
  refine Ln (Fx.R.nil (Fx.blkN (sN (Ws (Wl (Lv (.int .i64 (0)) (x_assign rfl rfl) (Ln (sN (Wr (⟨.int .i64 (0), rV Try.results57 (by exact rfl), ?_⟩))))))))))
  have eN : regN v = a := by unfold regN; omega
  have m40 : Fx.Own w4 B 123 56 (.slice m.s.na (m.s.nn) (m.s.nc)) m.s.nn (Fx.flat 56 (fun kq => ndY (m.id kq) (m.par kq) (updA m.R kn (upd (m.R kn) a (((m.R kn) a) + v.amt)) kq))) := m39.congV (congrArg (fun q => Value.slice q m.s.nn m.s.nc) eq1.symm)
  have ee : doesE m.core v = 0 := by unfold doesE; rw [if_neg c12, if_pos c17]; unfold raiseE; rw [ekN, eN, if_neg (show ¬ m.core.node v.node < 0 from c23)]; exact if_neg c41
  refine ⟨congrArg (fun q => Ending.returned (Value.int .i64 q)) ee.symm, b7, fun _ => ⟨{ m with R := updA m.R kn (upd (m.R kn) a (m.R kn a + v.amt)) }, by symm; unfold doesC; rw [if_neg c12, if_pos c17]; unfold raiseC; rw [ekN, eN]; rfl, ?_⟩⟩
  exact { c := m34, n := m40, g := m35, tc := m36, t := m37, r := m38, pB := hLp, tB := hLtb, bn := bn, bg := bg, bt := bt, br := hL.br }
 refine Lv (.bool false) (x_eqlF rfl rfl rfl c17) (Lv (.bool false) (x_assign rfl rfl) (Ln (sN (Wc (b := false) rfl (fun h => nomatch h) (fun _ => Ws (Wl ?_))))))
 by_cases c64 : v.kind = 3
 ·refine Lv (.bool true) (x_eqlT rfl rfl rfl c64) (Lv (.bool true) (x_assign rfl rfl) (Ln (sN (Wc (b := true) rfl (fun _ => Ws (Wl (Lv ((pt p)) (x_move rfl rfl) ?_))) (fun h => nomatch h)))))
  refine Lv (.agg (Fx.varr 14 (evY v))) (x_loadA (x := evY v) (y := evY v) rfl rfl (by kernel_rfl) (by kernel_rfl) m1.cel (i := 0) (by omega) (by omega) (fun j _ => by rw [Nat.zero_add])) (Fx.L.call (by rfl) (rC (args := [(pt p), .agg (Fx.varr 14 (evY v))]) rfl rfl Try.func76 rfl rfl) rfl ((l_takes m B p a D v _ m2 (Nat.le_trans hB b1.size) ha ho bgg brr hTN hD hD2).mono ?_))
  rintro e w5 ⟨he, hb3, hr2⟩
  refine ⟨.int .i64 (takesE m.core v), he, ?_⟩
  clear he
  have b8 : Below B w w5 := b1.trans hb3
  refine Lv (.int .i64 (takesE m.core v)) (x_assign rfl rfl) (Ln (sN (Wr (Fx.blkR (sR (⟨.int .i64 (takesE m.core v), rV Try.results57 (by exact rfl), ?_⟩))))))
  have ee : doesE m.core v = takesE m.core v := by unfold doesE; rw [if_neg c12, if_neg c17, if_pos c64]
  have ec : doesC m.core v = takesC m.core v := by unfold doesC; rw [if_neg c12, if_neg c17, if_pos c64]
  exact ⟨congrArg (fun q => Ending.returned (Value.int .i64 q)) ee.symm, b8, fun h0 => by rw [ec]; exact hr2 (ee.symm.trans h0)⟩
 refine Lv (.bool false) (x_eqlF rfl rfl rfl c64) (Lv (.bool false) (x_assign rfl rfl) (Ln (sN (Wc (b := false) rfl (fun h => nomatch h) (fun _ => Ws (Wl ?_))))))
 by_cases c69 : v.kind = 4
 ·refine Lv (.bool true) (x_eqlT rfl rfl rfl c69) (Lv (.bool true) (x_assign rfl rfl) (Ln (sN (Wc (b := true) rfl (fun _ => Ws (Wl (Lv ((pt p)) (x_move rfl rfl) ?_))) (fun h => nomatch h)))))
  refine Lv (.agg (Fx.varr 14 (evY v))) (x_loadA (x := evY v) (y := evY v) rfl rfl (by kernel_rfl) (by kernel_rfl) m1.cel (i := 0) (by omega) (by omega) (fun j _ => by rw [Nat.zero_add])) (Fx.L.call (by rfl) (rC (args := [(pt p), .agg (Fx.varr 14 (evY v))]) rfl rfl Try.func77 rfl rfl) rfl ((l_frees m B p a  v _ m2 (Nat.le_trans hB b1.size) ha ho bgg brr hTN hDx).mono ?_))
  rintro e w6 ⟨he, hb4, hr3⟩
  refine ⟨.int .i64 (freesE m.core v), he, ?_⟩
  clear he
  have b9 : Below B w w6 := b1.trans hb4
  refine Lv (.int .i64 (freesE m.core v)) (x_assign rfl rfl) (Ln (sN (Wr (Fx.blkR (sR (⟨.int .i64 (freesE m.core v), rV Try.results57 (by exact rfl), ?_⟩))))))
  have ee : doesE m.core v = freesE m.core v := by unfold doesE; rw [if_neg c12, if_neg c17, if_neg c64, if_pos c69]
  have ec : doesC m.core v = freesC m.core v := by unfold doesC; rw [if_neg c12, if_neg c17, if_neg c64, if_pos c69]
  exact ⟨congrArg (fun q => Ending.returned (Value.int .i64 q)) ee.symm, b9, fun h0 => by rw [ec]; exact hr3 (ee.symm.trans h0)⟩
 refine Lv (.bool false) (x_eqlF rfl rfl rfl c69) (Lv (.bool false) (x_assign rfl rfl) (Ln (sN (Wc (b := false) rfl (fun h => nomatch h) (fun _ => Ws (Wl ?_))))))
 by_cases c74 : v.kind = 5
 ·refine Lv (.bool true) (x_eqlT rfl rfl rfl c74) (Lv (.bool true) (x_assign rfl rfl) (Ln (sN (Wc (b := true) rfl (fun _ => Ws ?_) (fun h => nomatch h)))))
  have hLc := m2.c
  have hLn := m2.n
  have hLg := m2.g
  have hLt := m2.tc
  have hLtr := m2.t
  have hLr := m2.r
  refine Wl (Lv ((pt p)) (x_move rfl rfl) (Lv ((pf g1 9)) (x_field rfl rfl Try.underlying50 rfl (s := 1) (by kernel_rfl) rfl (by show _ + 9 = _; omega)) (Lv (.int .u64 (v.node)) (x_load1 (x := evY v) rfl rfl (by kernel_rfl) m1.cel (i := 9) (by omega) (by omega) rfl) ?_)))
  have hld2 : Ldg w1 p m := { c := hLc.cel, an := hLn.arr, ag := hLg.arr, tc := hLt.cel, at2 := hLtr.arr, ar := fun i hi => (hLr.1 i hi).arr, bn := (by show m.s.nn ≤ 1000000; omega), bg := bg, bt := (by show m.tn ≤ 1000000; omega), br := hL.br }
  refine Fx.L.call (by rfl) (rC (args := [(pt p), .int .u64 (v.node)]) rfl rfl Try.func75 rfl rfl) rfl ((l_node m p v.node _ hld2).mono ?_)
  rintro e w7 ⟨he, hb5⟩
  refine ⟨.int .i64 (m.node v.node), by rw [he], ?_⟩
  clear he
  have s7 := Sb hb5
  have m41 := m1.stp s7 m1.ne
  have m42 := hLc.stp s7 hLc.ne
  have m43 := hLn.stp s7 (hLn.notNew (Nat.le_refl _))
  have m44 := hLg.stp s7 (hLg.notNew (Nat.le_refl _))
  have m45 := hLt.stp s7 hLt.ne
  have m46 := hLtr.stp s7 (hLtr.notNew (Nat.le_refl _))
  have m47 := hLr.up s7.old
  have b10 := s7.below b1 (Nat.le_trans hB b1.size) (Nat.le_trans hB b1.size)
  refine Lv (.int .i64 (m.node v.node)) (x_assign rfl rfl) (Ln (sN (Ws (Ws (Wl (Lv (.int .i64 (m.node v.node)) (x_move rfl rfl) ?_))))))
  by_cases c80 : (m.node v.node) < 0
  ·refine Lv (.bool true) (Fx.x_lssT rfl rfl rfl c80) (Ln (sN (Wc (b := true) rfl (fun _ => Ws (Wl (Lv (.int .i64 (9)) (x_assign rfl rfl) ?_))) (fun h => nomatch h))))
   refine Ln (sN (Wr (sR (Fx.blkR (sR (⟨.int .i64 (9), rV Try.results57 (by exact rfl), ?_⟩))))))
   have eN : regN v = a := by unfold regN; omega
   have ee : doesE m.core v = 9 := by unfold doesE; rw [if_neg c12, if_neg c17, if_neg c64, if_neg c69, if_pos c74]; unfold movesE; exact if_pos c80
   exact ⟨congrArg (fun q => Ending.returned (Value.int .i64 q)) ee.symm, b10, fun h0 => by rw [ee] at h0; cases h0⟩
  obtain ⟨kn, hkq, ekq, _⟩ := node_at (m := m) (x := v.node) (by omega)
  have ekq : m.node v.node = (kn : Int) := ekq
  have ekN : (m.core.node v.node).toNat = kn := by show (m.node v.node).toNat = kn; rw [ekq]; rfl
  refine Lv (.bool false) (Fx.x_lssF rfl rfl rfl c80) (Ln (sN (Wc (b := false) rfl (fun h => nomatch h) (fun _ => Wk (sN (Ws (Ws ?_)))))))
  -- region 19 draws
  refine Fx.W.quiet (fun v1 => ∃ q, v1 = World.drewN w7 q) (by kernel_rfl) (by kernel_rfl) ⟨1, rfl⟩ ?_
  refine Qv ((pf g1 10)) (fun v1 hv1 => x_field rfl rfl Try.underlying50 rfl (s := 1) (by kernel_rfl) rfl (by show _ + 10 = _; omega)) (Qv (.int .i64 (v.dst)) (fun v1 hv1 => x_load1 (x := evY v) rfl rfl (by kernel_rfl) (by obtain ⟨qd, rfl⟩ := hv1; exact m41.cel) (i := 10) (by omega) (by omega) rfl) ?_)
  by_cases c83 : v.dst < 1
  ·refine Qv (.bool true) (fun v1 hv1 => Fx.x_lssT rfl rfl rfl c83) (Qv (.bool true) (fun v1 hv1 => x_move rfl rfl) (Qs (by rfl) rfl (Qs (by rfl) rfl (Qs (by rfl) rfl (Qv (.bool true) (fun v1 hv1 => x_pickT rfl rfl rfl) (Qv (.bool true) (fun v1 hv1 => x_move rfl rfl) (Qs (by rfl) rfl (Qs (by rfl) rfl (Qs (by rfl) rfl (Qs (by rfl) rfl (Qs (by rfl) rfl (Qs (by rfl) rfl (Qs (by rfl) rfl (Qs (by rfl) rfl (Qs (by rfl) rfl (Qs (by rfl) rfl (Qv (.bool true) (fun v1 hv1 => x_pickT rfl rfl rfl) (Fx.Qt.nil ?_))))))))))))))))))
   rintro _ ⟨qd, rfl⟩
   obtain ⟨wq3, ewq3⟩ : ∃ v1, v1 = World.drewN w7 qd := ⟨_, rfl⟩
   rw [← ewq3]
   have s8 : Fx.Stp w7.heap.size w7 wq3 := by rw [ewq3]; exact Sb (bdrN w7 qd)
   have b11 := s8.below b10 (Nat.le_trans hB b10.size) (Nat.le_trans hB b10.size)
   clear ewq3
   refine sN (Wc (b := true) rfl (fun _ => Ws (Wl (Lv (.int .i64 (10)) (x_assign rfl rfl) ?_))) (fun h => nomatch h))
   refine Ln (sN (Wr (sR (Fx.blkR (sR (⟨.int .i64 (10), rV Try.results57 (by exact rfl), ?_⟩))))))
   have eN : regN v = a := by unfold regN; omega
   have ee : doesE m.core v = 10 := by unfold doesE; rw [if_neg c12, if_neg c17, if_neg c64, if_neg c69, if_pos c74]; unfold movesE; rw [if_neg (show ¬ m.core.node v.node < 0 from c80)]; exact if_pos (.inl c83)
   exact ⟨congrArg (fun q => Ending.returned (Value.int .i64 q)) ee.symm, b11, fun h0 => by rw [ee] at h0; cases h0⟩
  refine Qv (.bool false) (fun v1 hv1 => Fx.x_lssF rfl rfl rfl c83) (Qv (.bool false) (fun v1 hv1 => x_move rfl rfl) (Qv ((pf g1 10)) (fun v1 hv1 => x_field rfl rfl Try.underlying50 rfl (s := 1) (by kernel_rfl) rfl (by show _ + 10 = _; omega)) (Qv (.int .i64 (v.dst)) (fun v1 hv1 => x_load1 (x := evY v) rfl rfl (by kernel_rfl) (by obtain ⟨qd, rfl⟩ := hv1; exact m41.cel) (i := 10) (by omega) (by omega) rfl) ?_)))
  by_cases c87 : 6 < v.dst
  ·refine Qv (.bool true) (fun v1 hv1 => Fx.x_gtrT rfl rfl rfl c87) (Qv (.bool true) (fun v1 hv1 => x_pickF rfl rfl rfl) (Qv (.bool true) (fun v1 hv1 => x_move rfl rfl) (Qs (by rfl) rfl (Qs (by rfl) rfl (Qs (by rfl) rfl (Qs (by rfl) rfl (Qs (by rfl) rfl (Qs (by rfl) rfl (Qs (by rfl) rfl (Qs (by rfl) rfl (Qs (by rfl) rfl (Qs (by rfl) rfl (Qv (.bool true) (fun v1 hv1 => x_pickT rfl rfl rfl) (Fx.Qt.nil ?_))))))))))))))
   rintro _ ⟨qd, rfl⟩
   obtain ⟨wq4, ewq4⟩ : ∃ v1, v1 = World.drewN w7 qd := ⟨_, rfl⟩
   rw [← ewq4]
   have s9 : Fx.Stp w7.heap.size w7 wq4 := by rw [ewq4]; exact Sb (bdrN w7 qd)
   have b12 := s9.below b10 (Nat.le_trans hB b10.size) (Nat.le_trans hB b10.size)
   clear ewq4
   refine sN (Wc (b := true) rfl (fun _ => Ws (Wl (Lv (.int .i64 (10)) (x_assign rfl rfl) ?_))) (fun h => nomatch h))
   refine Ln (sN (Wr (sR (Fx.blkR (sR (⟨.int .i64 (10), rV Try.results57 (by exact rfl), ?_⟩))))))
   have eN : regN v = a := by unfold regN; omega
   have ee : doesE m.core v = 10 := by unfold doesE; rw [if_neg c12, if_neg c17, if_neg c64, if_neg c69, if_pos c74]; unfold movesE; rw [if_neg (show ¬ m.core.node v.node < 0 from c80)]; exact if_pos (.inr (.inl c87))
   exact ⟨congrArg (fun q => Ending.returned (Value.int .i64 q)) ee.symm, b12, fun h0 => by rw [ee] at h0; cases h0⟩
  obtain ⟨b9, hb9, eb9⟩ : ∃ b : Nat, b < 6 ∧ v.dst = (b : Int) + 1 := ⟨(v.dst - 1).toNat, by omega, by omega⟩
  refine Qv (.bool false) (fun v1 hv1 => x_gtrF rfl rfl rfl c87) (Qv (.bool false) (fun v1 hv1 => x_pickF rfl rfl rfl) (Qv (.bool false) (fun v1 hv1 => x_move rfl rfl) (Qv ((pt p)) (fun v1 hv1 => x_move rfl rfl) (Qv ((pf g1 10)) (fun v1 hv1 => x_field rfl rfl Try.underlying50 rfl (s := 1) (by kernel_rfl) rfl (by show _ + 10 = _; omega)) (Qv (.int .i64 (v.dst)) (fun v1 hv1 => x_load1 (x := evY v) rfl rfl (by kernel_rfl) (by obtain ⟨qd, rfl⟩ := hv1; exact m41.cel) (i := 10) (by omega) (by omega) rfl) (Qv (.int .i64 ((b9 : Int))) (fun v1 hv1 => Fx.x_sub rfl rfl rfl Fx.io) (Qv ((pt p)) (fun v1 hv1 => x_nil rfl rfl) (Qv ((pt p)) (fun v1 hv1 => x_field rfl rfl Try.underlying70 rfl (s := 20) (by kernel_rfl) rfl rfl) (Qv ((pt p)) (fun v1 hv1 => x_field rfl rfl Try.underlying65 rfl (s := 6) (by kernel_rfl) rfl rfl) (Qv ((pf p b9)) (fun v1 hv1 => x_index rfl rfl rfl Try.underlying61 (s := 1) (by kernel_rfl) (by omega) (by omega) (by omega)) ?_))))))))))
  by_cases c98 : (m.s.inn b9) = true
  ·refine Qv (.bool true) (fun v1 hv1 => x_load1 (x := ldY m) rfl rfl (by kernel_rfl) (by obtain ⟨qd, rfl⟩ := hv1; exact m42.cel) (i := b9) (by omega) (by omega) ((ldY_st _ (by omega) (stY_in _ (by omega))).trans (congrArg Value.bool c98))) (Qv (.bool false) (fun v1 hv1 => Fx.x_notF rfl rfl) (Qv (.bool false) (fun v1 hv1 => x_pickF rfl rfl rfl) (Fx.Qt.nil ?_)))
   rintro _ ⟨qd, rfl⟩
   obtain ⟨wq5, ewq5⟩ : ∃ v1, v1 = World.drewN w7 qd := ⟨_, rfl⟩
   rw [← ewq5]
   have s10 : Fx.Stp w7.heap.size w7 wq5 := by rw [ewq5]; exact Sb (bdrN w7 qd)
   have m62 := m41.stp s10 m41.ne
   have m63 := m42.stp s10 m42.ne
   have m64 := m43.stp s10 (m43.notNew (Nat.le_refl _))
   have m65 := m44.stp s10 (m44.notNew (Nat.le_refl _))
   have m66 := m45.stp s10 m45.ne
   have m67 := m46.stp s10 (m46.notNew (Nat.le_refl _))
   have m68 := m47.up s10.old
   have b13 := s10.below b10 (Nat.le_trans hB b10.size) (Nat.le_trans hB b10.size)
   clear ewq5
   refine sN (Wc (b := false) rfl (fun h => nomatch h) (fun _ => Wk (sN (Ws ?_))))
   -- region 21 draws
   obtain ⟨gq2, eq2⟩ := m64.addr (by omega)
   have m69 : Fx.Own wq5 B 123 56 (.slice (some ⟨gq2, 0, none⟩) m.s.nn m.s.nc) m.s.nn (ndX m) := m64.congV (congrArg (fun q => Value.slice q m.s.nn m.s.nc) eq2)
   refine Fx.W.one (T := 121) (T' := 121) (a := .tmp 7) (v := .tmp 118) (m := 54) (z := Fx.rv .i64 (fun _ => 0)) (y := Fx.rv .i64 ((moveM (m.R kn) v.o v.dst v.amt).1)) (u := .agg (Fx.varr 54 (Fx.rv .i64 ((moveM (m.R kn) v.o v.dst v.amt).1)))) 19 20 (List.replicate 22 (0, 2, [], [])) #[(pt p), (pt p), (pt p), (pf p 18), .slice m.s.na (m.s.nn) (m.s.nc), .int .i64 ((kn : Int)), (pf gq2 (56 * kn)), (pf gq2 (56 * kn + 2)), .agg (Fx.varr 54 (Fx.rv .i64 (m.R kn))), (pt g1), .int .i64 (v.o), (pf g1 10), .int .i64 (v.dst), (pf g1 11), .int .i64 (v.amt), .tuple #[.agg (Fx.varr 54 (Fx.rv .i64 ((moveM (m.R kn) v.o v.dst v.amt).1))), .int .i64 ((moveM (m.R kn) v.o v.dst v.amt).2)], .tuple #[.agg (Fx.varr 54 (Fx.rv .i64 ((moveM (m.R kn) v.o v.dst v.amt).1))), .int .i64 ((moveM (m.R kn) v.o v.dst v.amt).2)], .agg (Fx.varr 54 (Fx.rv .i64 ((moveM (m.R kn) v.o v.dst v.amt).1))), .int .i64 ((moveM (m.R kn) v.o v.dst v.amt).2), undef, undef, .int .i64 ((moveM (m.R kn) v.o v.dst v.amt).2)] (by kernel_rfl) (by kernel_rfl) (by kernel_rfl) (by kernel_rfl) (by kernel_rfl) (by kernel_rfl) rfl (by kernel_rfl) rfl rfl (by kernel_rfl) (fun g2 => (show Fx.ev _ (.tmp 7) = (pt g2) from by kernel_rfl)) (fun g2 => (show Fx.ev _ (.tmp 118) = .agg (Fx.varr 54 (Fx.rv .i64 ((moveM (m.R kn) v.o v.dst v.amt).1))) from by kernel_rfl)) (Fx.cells_agg _ _) (fun _ _ => rfl) (by kernel_rfl) (fun g2 => ?_) ?_
   ·refine ⟨?_, ?_, ?_, ?_, ?_, ?_, ?_, ?_, ?_, ?_, ?_, ?_, ?_, ?_, ?_, ?_, ?_, ?_, ?_, ?_, ?_, ?_, trivial⟩
    ·exact .inr (.inr (Fx.qb_yes (v := (pt p)) (by kernel_rfl) (by kernel_rfl) (Fx.qbV fun v1 hv1 => x_move rfl (show Fx.ev _ (.tmp 0) = (pt p) from by kernel_rfl))))
    ·exact .inr (.inr (Fx.qb_yes (v := (pt p)) (by kernel_rfl) (by kernel_rfl) (Fx.qbV fun v1 hv1 => x_nil rfl (show Fx.ev _ (.tmp 102) = (pt p) from by kernel_rfl))))
    ·exact .inr (.inr (Fx.qb_yes (v := (pt p)) (by kernel_rfl) (by kernel_rfl) (Fx.qbV fun v1 hv1 => x_field rfl (show Fx.ev _ (.tmp 103) = (pt p) from by kernel_rfl) Try.underlying70 rfl (s := 20) (by kernel_rfl) rfl rfl)))
    ·exact .inr (.inr (Fx.qb_yes (v := (pf p 18)) (by kernel_rfl) (by kernel_rfl) (Fx.qbV fun v1 hv1 => x_field rfl (show Fx.ev _ (.tmp 104) = (pt p) from by kernel_rfl) Try.underlying65 rfl (s := 1) (by kernel_rfl) rfl (by show _ + 18 = _; omega))))
    ·exact .inr (.inr (Fx.qb_yes (v := .slice m.s.na (m.s.nn) (m.s.nc)) (by kernel_rfl) (by kernel_rfl) (Fx.qbV fun v1 hv1 => x_load1 (x := ldY m) rfl (show Fx.ev _ (.tmp 105) = (pf p 18) from by kernel_rfl) (by kernel_rfl) (m63.cel.below hv1 (by have := m63.lt; omega)) (i := 18) (by omega) (by omega) rfl)))
    ·exact .inr (.inr (Fx.qb_yes (v := .int .i64 ((kn : Int))) (by kernel_rfl) (by kernel_rfl) (Fx.qbV fun v1 hv1 => x_move rfl ((Fx.fOne_out (by kernel_rfl)).trans (congrArg (Value.int .i64) ekq)))))
    ·exact .inr (.inr (Fx.qb_yes (v := (pf gq2 (56 * kn))) (by kernel_rfl) (by kernel_rfl) (Fx.qbV fun v1 hv1 => x_indexS rfl ((show Fx.ev _ (.tmp 106) = .slice m.s.na (m.s.nn) (m.s.nc) from by kernel_rfl).trans (congrArg (fun q => Value.slice q (m.s.nn) (m.s.nc)) eq2)) (show Fx.ev _ (.tmp 107) = .int .i64 ((kn : Int)) from by kernel_rfl) Try.underlying62 (s := 56) (by kernel_rfl) (by omega) (by omega) (by omega))))
    ·exact .inr (.inr (Fx.qb_yes (v := (pf gq2 (56 * kn + 2))) (by kernel_rfl) (by kernel_rfl) (Fx.qbV fun v1 hv1 => x_field rfl (show Fx.ev _ (.tmp 108) = (pf gq2 (56 * kn)) from by kernel_rfl) Try.underlying123 rfl (s := 54) (by kernel_rfl) rfl (by show _ + 2 = _; omega))))
    ·exact .inr (.inr (Fx.qb_yes (v := .agg (Fx.varr 54 (Fx.rv .i64 (m.R kn)))) (by kernel_rfl) (by kernel_rfl) (Fx.qbV fun v1 hv1 => x_loadA (x := ndX m) (y := Fx.rv .i64 (m.R kn)) rfl (show Fx.ev _ (.tmp 109) = (pf gq2 (56 * kn + 2)) from by kernel_rfl) (by kernel_rfl) (by kernel_rfl) (m69.cel.below hv1 (by have := m69.lt; omega)) (i := 56 * kn + 2) (by omega) (by omega) (fun jq hjq => (Fx.flat_at (k := kn) (j := 2 + jq) (by omega) (by omega)).trans ((fun jq _ => ndY_row _ _ _ jq) jq hjq)))))
    ·exact .inr (.inr (Fx.qb_yes (v := (pt g1)) (by kernel_rfl) (by kernel_rfl) (Fx.qbV fun v1 hv1 => x_field rfl (show Fx.ev _ (.tmp 3) = (pt g1) from by kernel_rfl) Try.underlying50 rfl (s := 1) (by kernel_rfl) rfl rfl)))
    ·exact .inr (.inr (Fx.qb_yes (v := .int .i64 (v.o)) (by kernel_rfl) (by kernel_rfl) (Fx.qbV fun v1 hv1 => x_load1 (x := evY v) rfl (show Fx.ev _ (.tmp 111) = (pt g1) from by kernel_rfl) (by kernel_rfl) (m62.cel.below hv1 (by have := m62.lt; omega)) (i := 0) (by omega) (by omega) rfl)))
    ·exact .inr (.inr (Fx.qb_yes (v := (pf g1 10)) (by kernel_rfl) (by kernel_rfl) (Fx.qbV fun v1 hv1 => x_field rfl (show Fx.ev _ (.tmp 3) = (pt g1) from by kernel_rfl) Try.underlying50 rfl (s := 1) (by kernel_rfl) rfl (by show _ + 10 = _; omega))))
    ·exact .inr (.inr (Fx.qb_yes (v := .int .i64 (v.dst)) (by kernel_rfl) (by kernel_rfl) (Fx.qbV fun v1 hv1 => x_load1 (x := evY v) rfl (show Fx.ev _ (.tmp 113) = (pf g1 10) from by kernel_rfl) (by kernel_rfl) (m62.cel.below hv1 (by have := m62.lt; omega)) (i := 10) (by omega) (by omega) rfl)))
    ·exact .inr (.inr (Fx.qb_yes (v := (pf g1 11)) (by kernel_rfl) (by kernel_rfl) (Fx.qbV fun v1 hv1 => x_field rfl (show Fx.ev _ (.tmp 3) = (pt g1) from by kernel_rfl) Try.underlying50 rfl (s := 1) (by kernel_rfl) rfl (by show _ + 11 = _; omega))))
    ·exact .inr (.inr (Fx.qb_yes (v := .int .i64 (v.amt)) (by kernel_rfl) (by kernel_rfl) (Fx.qbV fun v1 hv1 => x_load1 (x := evY v) rfl (show Fx.ev _ (.tmp 115) = (pf g1 11) from by kernel_rfl) (by kernel_rfl) (m62.cel.below hv1 (by have := m62.lt; omega)) (i := 11) (by omega) (by omega) rfl)))
    ·exact .inr (.inr (Fx.qb_yes (v := .tuple #[.agg (Fx.varr 54 (Fx.rv .i64 ((moveM (m.R kn) v.o v.dst v.amt).1))), .int .i64 ((moveM (m.R kn) v.o v.dst v.amt).2)]) (by kernel_rfl) (by kernel_rfl) (Fx.qbC (fun v1 hv1 => rC (args := [.agg (Fx.varr 54 (Fx.rv .i64 (m.R kn))), .int .i64 (v.o), .int .i64 (v.dst), .int .i64 (v.amt)]) rfl (Fx.args4 (show Fx.ev _ (.tmp 110) = .agg (Fx.varr 54 (Fx.rv .i64 (m.R kn))) from by kernel_rfl) (show Fx.ev _ (.tmp 112) = .int .i64 (v.o) from by kernel_rfl) (show Fx.ev _ (.tmp 114) = .int .i64 (v.dst) from by kernel_rfl) (show Fx.ev _ (.tmp 116) = .int .i64 (v.amt) from by kernel_rfl)) Try.func78 rfl rfl) (fun v1 hv1 => (f7_move (m.R kn) v.o v.dst v.amt _).mono fun e v2 h => ⟨h.1, h.2⟩))))
    ·exact .inr (.inr (Fx.qb_yes (v := .tuple #[.agg (Fx.varr 54 (Fx.rv .i64 ((moveM (m.R kn) v.o v.dst v.amt).1))), .int .i64 ((moveM (m.R kn) v.o v.dst v.amt).2)]) (by kernel_rfl) (by kernel_rfl) (Fx.qbV fun v1 hv1 => x_move rfl (show Fx.ev _ (.tmp 117) = .tuple #[.agg (Fx.varr 54 (Fx.rv .i64 ((moveM (m.R kn) v.o v.dst v.amt).1))), .int .i64 ((moveM (m.R kn) v.o v.dst v.amt).2)] from by kernel_rfl))))
    ·exact .inr (.inr (Fx.qb_yes (v := .agg (Fx.varr 54 (Fx.rv .i64 ((moveM (m.R kn) v.o v.dst v.amt).1)))) (by kernel_rfl) (by kernel_rfl) (Fx.qbV fun v1 hv1 => Fx.x_extract rfl (show Fx.ev _ (.tmp 101) = .tuple #[.agg (Fx.varr 54 (Fx.rv .i64 ((moveM (m.R kn) v.o v.dst v.amt).1))), .int .i64 ((moveM (m.R kn) v.o v.dst v.amt).2)] from by kernel_rfl) rfl)))
    ·exact .inr (.inr (Fx.qb_yes (v := .int .i64 ((moveM (m.R kn) v.o v.dst v.amt).2)) (by kernel_rfl) (by kernel_rfl) (Fx.qbV fun v1 hv1 => Fx.x_extract rfl (show Fx.ev _ (.tmp 101) = .tuple #[.agg (Fx.varr 54 (Fx.rv .i64 ((moveM (m.R kn) v.o v.dst v.amt).1))), .int .i64 ((moveM (m.R kn) v.o v.dst v.amt).2)] from by kernel_rfl) rfl)))
    ·exact .inl rfl
    ·exact .inr (.inl rfl)
    exact .inr (.inr (Fx.qb_yes (v := .int .i64 ((moveM (m.R kn) v.o v.dst v.amt).2)) (by kernel_rfl) (by kernel_rfl) (Fx.qbV fun v1 hv1 => x_assign rfl (show Fx.ev _ (.tmp 119) = .int .i64 ((moveM (m.R kn) v.o v.dst v.amt).2) from by kernel_rfl))))
   rintro g2 w8 f1 hf1 lg2 m70 hb6
   have s11 := Sb hb6
   have ng2m62 : g1 ≠ g2 := Nat.ne_of_lt (Nat.lt_of_lt_of_le (m62.lt) lg2)
   have ng2m63 : p ≠ g2 := Nat.ne_of_lt (Nat.lt_of_lt_of_le (m63.lt) lg2)
   have ng2m66 : m.tb ≠ g2 := Nat.ne_of_lt (Nat.lt_of_lt_of_le (m66.lt) lg2)
   have ng2m69 : gq2 ≠ g2 := Nat.ne_of_lt (Nat.lt_of_lt_of_le (m69.lt) lg2)
   have m72 := m63.stp s11 m63.ne
   have m73 := m65.stp s11 (m65.notNew (Nat.le_refl _))
   have m74 := m66.stp s11 m66.ne
   have m75 := m67.stp s11 (m67.notNew (Nat.le_refl _))
   have m76 := m68.up s11.old
   have m77 := m69.stpB s11 (Nat.ne_of_lt (m69.lt))
   have b14 := s11.below b13 (Nat.le_trans hB b13.size) (Nat.le_trans hB b13.size)
   have lg2 : w.heap.size ≤ g2 := Nat.le_trans b13.size lg2
   have tg2 : g2 < w8.heap.size := m70.lt
   have q1 : f1 0 = (pt p) := by rw [hf1]; kernel_rfl
   have q2 : f1 4 = .int .i64 (0) := by rw [hf1]; kernel_rfl
   have q3 : f1 6 = .int .i64 ((kn : Int)) := by rw [hf1]; exact (Fx.fOne_out (by kernel_rfl)).trans (congrArg (Value.int .i64) ekq)
   have q4 : f1 7 = (pt g2) := by rw [hf1]; kernel_rfl
   have q5 : f1 8 = .int .i64 ((moveM (m.R kn) v.o v.dst v.amt).2) := by rw [hf1]; kernel_rfl
   clear hf1
   refine sN (Ws (Ws (Wl (Lv (.int .i64 ((moveM (m.R kn) v.o v.dst v.amt).2)) (x_move rfl q5) ?_))))
   by_cases c121 : ((moveM (m.R kn) v.o v.dst v.amt).2) = 0
   ·refine Lv (.bool false) (Fx.x_neqF rfl rfl rfl c121) (Ln (sN (Wc (b := false) rfl (fun h => nomatch h) (fun _ => Wk (sN ?_)))))
    -- region 24 draws
    refine Fx.W.reord [0, 1, 2, 3, 5, 4, 6, 7, 8, 9] [0, 0, 0, 0, 4, 0, 4, 0, 0, 3] Fx.Mk Fx.Mk.refl Fx.Mk.trans (certs := [(9, 4, [4]), (9, 6, [6])]) (by kernel_rfl) (by kernel_rfl) (by kernel_rfl) (by kernel_rfl) (by kernel_rfl) fun wt2 hbwt2 hzwt2 => ?_
    have s12 : Fx.Stp w8.heap.size w8 wt2 := Sb hbwt2
    have m79 := m72.stp s12 m72.ne
    have m80 := m73.stp s12 (m73.notNew (Nat.le_refl _))
    have m81 := m74.stp s12 m74.ne
    have m82 := m75.stp s12 (m75.notNew (Nat.le_refl _))
    have m83 := m76.up s12.old
    have m84 := m77.stpB s12 (Nat.ne_of_lt (m77.lt))
    have m85 := m70.stp s12 m70.ne
    have b15 := s12.below b14 (Nat.le_trans hB b14.size) (Nat.le_trans hB b14.size)
    refine Rp ((pt p)) (fun v1 => x_move rfl q1) (Rp ((pt p)) (fun v1 => x_nil rfl rfl) (Rp ((pt p)) (fun v1 => x_field rfl rfl Try.underlying70 rfl (s := 20) (by kernel_rfl) rfl rfl) (Rp ((pf p 18)) (fun v1 => x_field rfl rfl Try.underlying65 rfl (s := 1) (by kernel_rfl) rfl (by show _ + 18 = _; omega)) (Rp (.int .i64 ((kn : Int))) (fun v1 => x_move rfl q3) (Fx.R.s (.slice m.s.na (m.s.nn) (m.s.nc)) (x_load1 (x := ldY m) rfl rfl (by kernel_rfl) m79.cel (i := 18) (by omega) (by omega) rfl) ?_)))))
    refine Fx.R.s (.agg (Fx.varr 54 (Fx.rv .i64 ((moveM (m.R kn) v.o v.dst v.amt).1)))) (x_loadA (x := Fx.rv .i64 ((moveM (m.R kn) v.o v.dst v.amt).1)) (y := Fx.rv .i64 ((moveM (m.R kn) v.o v.dst v.amt).1)) rfl q4 (by kernel_rfl) (by kernel_rfl) m85.cel (i := 0) (by omega) (by omega) (fun j _ => by rw [Nat.zero_add])) ?_
    refine Rp ((pf gq2 (56 * kn))) (fun v1 => x_indexS rfl (rfl.trans (congrArg (fun q => Value.slice q (m.s.nn) (m.s.nc)) eq2)) rfl Try.underlying62 (s := 56) (by kernel_rfl) (by omega) (by omega) (by omega)) (Rp ((pf gq2 (56 * kn + 2))) (fun v1 => x_field rfl rfl Try.underlying123 rfl (s := 54) (by kernel_rfl) rfl (by show _ + 2 = _; omega)) (Fx.R.eff (by rfl) ?_))
    refine Fx.L.ownA (x := ndX m) (y := Fx.rv .i64 ((moveM (m.R kn) v.o v.dst v.amt).1)) (by rfl) rfl rfl rfl rfl (fun _ _ => rfl) (by kernel_rfl) m84 (i := 56 * kn + 2) (by omega) fun w9 m86 s13 z3 => ?_
    have hct2 := Fx.ChT.of_stp s13 m84.tyB
    have m88 := m79.chT hct2 (by decide)
    have m89 := m80.chT hct2 (by decide)
    have m90 := m81.chT hct2 (by decide)
    have m91 := m82.chT hct2 (by decide)
    have m92 := m83.chT hct2 (by decide)
    have b16 := s13.below b15 (Nat.le_trans hB b15.size) m84.blk.1
    have m94 : Fx.Own w9 B 123 56 (.slice (some ⟨gq2, 0, none⟩) m.s.nn m.s.nc) m.s.nn (Fx.flat 56 (fun kq => ndY (m.id kq) (m.par kq) (updA m.R kn ((moveM (m.R kn) v.o v.dst v.amt).1) kq))) := m86.congr (fun pq hp => (Fx.ovrS_flat (k := kn) (j := 2) (by omega) (by omega) pq hp).trans (Fx.flat_cong (fun i hi j hj => ndR_store (r := (moveM (m.R kn) v.o v.dst v.amt).1) (q := kn) (id := m.id) (par := m.par) (R := m.R) i hi j hj) pq hp))
    refine Ln (Fx.R.nil (Fx.blkN (sN (Ws (Wl (Lv (.int .i64 (0)) (x_assign rfl rfl) (Ln (sN (Wr (⟨.int .i64 (0), rV Try.results57 (by exact rfl), ?_⟩))))))))))
    have eN : regN v = a := by unfold regN; omega
    have eto : ¬ (v.dst < 1 ∨ 6 < v.dst ∨ m.core.inn (v.dst - 1).toNat = false) := fun h => h.elim c83 (fun h => h.elim c87 (fun h => by rw [show (v.dst - 1).toNat = b9 by omega] at h; rw [show m.core.inn b9 = true from c98] at h; cases h))
    have eW : moveW m.core v = moveM (m.R kn) v.o v.dst v.amt := by unfold moveW; rw [ekN]; rfl
    have m95 : Fx.Own w9 B 123 56 (.slice m.s.na (m.s.nn) (m.s.nc)) m.s.nn (Fx.flat 56 (fun kq => ndY (m.id kq) (m.par kq) (updA m.R kn ((moveM (m.R kn) v.o v.dst v.amt).1) kq))) := m94.congV (congrArg (fun q => Value.slice q m.s.nn m.s.nc) eq2.symm)
    have ee : doesE m.core v = 0 := by unfold doesE; rw [if_neg c12, if_neg c17, if_neg c64, if_neg c69, if_pos c74]; unfold movesE; rw [if_neg (show ¬ m.core.node v.node < 0 from c80), if_neg eto, eW]; exact c121
    refine ⟨congrArg (fun q => Ending.returned (Value.int .i64 q)) ee.symm, b16, fun _ => ⟨{ m with R := updA m.R kn (moveM (m.R kn) v.o v.dst v.amt).1 }, by symm; unfold doesC; rw [if_neg c12, if_neg c17, if_neg c64, if_neg c69, if_pos c74]; unfold movesC; rw [ekN, eW]; rfl, ?_⟩⟩
    exact { c := m88, n := m95, g := m89, tc := m90, t := m91, r := m92, pB := hLp, tB := hLtb, bn := bn, bg := bg, bt := bt, br := hL.br }
   refine Lv (.bool true) (Fx.x_neqT rfl rfl rfl c121) (Ln (sN (Wc (b := true) rfl (fun _ => Ws (Wl (Lv (.int .i64 ((moveM (m.R kn) v.o v.dst v.amt).2)) (x_move rfl q5) ?_))) (fun h => nomatch h))))
   refine Lv (.int .i64 ((moveM (m.R kn) v.o v.dst v.amt).2)) (x_assign rfl rfl) (Ln (sN (Wr (sR (Fx.blkR (sR (⟨.int .i64 ((moveM (m.R kn) v.o v.dst v.amt).2), rV Try.results57 (by exact rfl), ?_⟩)))))))
   have eN : regN v = a := by unfold regN; omega
   have eto : ¬ (v.dst < 1 ∨ 6 < v.dst ∨ m.core.inn (v.dst - 1).toNat = false) := fun h => h.elim c83 (fun h => h.elim c87 (fun h => by rw [show (v.dst - 1).toNat = b9 by omega] at h; rw [show m.core.inn b9 = true from c98] at h; cases h))
   have eW : moveW m.core v = moveM (m.R kn) v.o v.dst v.amt := by unfold moveW; rw [ekN]; rfl
   have ee : doesE m.core v = (moveM (m.R kn) v.o v.dst v.amt).2 := by unfold doesE; rw [if_neg c12, if_neg c17, if_neg c64, if_neg c69, if_pos c74]; unfold movesE; rw [if_neg (show ¬ m.core.node v.node < 0 from c80), if_neg eto, eW]
   exact ⟨congrArg (fun q => Ending.returned (Value.int .i64 q)) ee.symm, b14, fun h0 => by rw [ee] at h0; exact absurd h0 c121⟩
  rw [Bool.not_eq_true] at c98
  refine Qv (.bool false) (fun v1 hv1 => x_load1 (x := ldY m) rfl rfl (by kernel_rfl) (by obtain ⟨qd, rfl⟩ := hv1; exact m42.cel) (i := b9) (by omega) (by omega) ((ldY_st _ (by omega) (stY_in _ (by omega))).trans (congrArg Value.bool c98))) (Qv (.bool true) (fun v1 hv1 => Fx.x_notT rfl rfl) (Qv (.bool true) (fun v1 hv1 => x_pickF rfl rfl rfl) (Fx.Qt.nil ?_)))
  rintro _ ⟨qd, rfl⟩
  obtain ⟨wq6, ewq6⟩ : ∃ v1, v1 = World.drewN w7 qd := ⟨_, rfl⟩
  rw [← ewq6]
  have s14 : Fx.Stp w7.heap.size w7 wq6 := by rw [ewq6]; exact Sb (bdrN w7 qd)
  have b17 := s14.below b10 (Nat.le_trans hB b10.size) (Nat.le_trans hB b10.size)
  clear ewq6
  refine sN (Wc (b := true) rfl (fun _ => Ws (Wl (Lv (.int .i64 (10)) (x_assign rfl rfl) ?_))) (fun h => nomatch h))
  refine Ln (sN (Wr (sR (Fx.blkR (sR (⟨.int .i64 (10), rV Try.results57 (by exact rfl), ?_⟩))))))
  have eN : regN v = a := by unfold regN; omega
  have ee : doesE m.core v = 10 := by unfold doesE; rw [if_neg c12, if_neg c17, if_neg c64, if_neg c69, if_pos c74]; unfold movesE; rw [if_neg (show ¬ m.core.node v.node < 0 from c80)]; exact if_pos (.inr (.inr (by rw [show (v.dst - 1).toNat = b9 by omega]; exact c98)))
  exact ⟨congrArg (fun q => Ending.returned (Value.int .i64 q)) ee.symm, b17, fun h0 => by rw [ee] at h0; cases h0⟩
 refine Lv (.bool false) (x_eqlF rfl rfl rfl c74) (Lv (.bool false) (x_assign rfl rfl) (Ln (sN (Wc (b := false) rfl (fun h => nomatch h) (fun _ => Ws (Wl ?_))))))
 by_cases c133 : v.kind = 6
 ·refine Lv (.bool true) (x_eqlT rfl rfl rfl c133) (Lv (.bool true) (x_assign rfl rfl) (Ln (sN (Wc (b := true) rfl (fun _ => ?_) (fun h => nomatch h)))))
  have hLc := m2.c
  have hLn := m2.n
  have hLg := m2.g
  have hLt := m2.tc
  have hLtr := m2.t
  have hLr := m2.r
  obtain ⟨b9, hb9, eb9⟩ := fields_to hmay c133
  -- region 26 draws
  refine Fx.W.reord [0, 1, 4, 5, 6, 2, 3, 7, 8] [0, 0, 4, 0, 0, 0, 0, 0, 3] Fx.Mk Fx.Mk.refl Fx.Mk.trans (certs := [(8, 2, [2])]) (by kernel_rfl) (by kernel_rfl) (by kernel_rfl) (by kernel_rfl) (by kernel_rfl) fun wt3 hbwt3 hzwt3 => ?_
  have s15 : Fx.Stp w1.heap.size w1 wt3 := Sb hbwt3
  have m103 := m1.stp s15 m1.ne
  have m104 := hLc.stp s15 hLc.ne
  have m105 := hLn.stp s15 (hLn.notNew (Nat.le_refl _))
  have m106 := hLg.stp s15 (hLg.notNew (Nat.le_refl _))
  have m107 := hLt.stp s15 hLt.ne
  have m108 := hLtr.stp s15 (hLtr.notNew (Nat.le_refl _))
  have m109 := hLr.up s15.old
  have b18 := s15.below b1 (Nat.le_trans hB b1.size) (Nat.le_trans hB b1.size)
  refine Rp ((pt p)) (fun v1 => x_move rfl rfl) (Rp ((pf g1 10)) (fun v1 => x_field rfl rfl Try.underlying50 rfl (s := 1) (by kernel_rfl) rfl (by show _ + 10 = _; omega)) (Rp ((pt p)) (fun v1 => x_nil rfl rfl) (Rp ((pt p)) (fun v1 => x_field rfl rfl Try.underlying70 rfl (s := 20) (by kernel_rfl) rfl rfl) (Rp ((pt p)) (fun v1 => x_field rfl rfl Try.underlying65 rfl (s := 6) (by kernel_rfl) rfl rfl) (Fx.R.s (.int .i64 (v.dst)) (x_load1 (x := evY v) rfl rfl (by kernel_rfl) m103.cel (i := 10) (by omega) (by omega) rfl) ?_)))))
  refine Rp (.int .i64 ((b9 : Int))) (fun v1 => Fx.x_sub rfl rfl rfl Fx.io) (Rp ((pf p b9)) (fun v1 => x_index rfl rfl rfl Try.underlying61 (s := 1) (by kernel_rfl) (by omega) (by omega) (by omega)) (Fx.R.eff (by rfl) ?_))
  refine Fx.L.store1 (x := ldY m) (u := .bool true) (by rfl) rfl rfl rfl rfl (by rfl) (by kernel_rfl) m104 (i := b9) (by omega) fun w10 m110 s16 z4 => ?_
  have hct3 := Fx.ChT.of_stp s16 m104.ty
  have m112 := m105.chT hct3 (by decide)
  have m113 := m106.chT hct3 (by decide)
  have m114 := m107.chT hct3 (by decide)
  have m115 := m108.chT hct3 (by decide)
  have m116 := m109.chT hct3 (by decide)
  have b19 := s16.below b18 (Nat.le_trans hB b18.size) (by omega)
  refine Ln (Fx.R.nil (Fx.blkN (sN (Ws (Wl (Lv (.int .i64 (0)) (x_assign rfl rfl) (Ln (sN (Wr (⟨.int .i64 (0), rV Try.results57 (by exact rfl), ?_⟩))))))))))
  have eN : regN v = a := by unfold regN; omega
  have ee : doesE m.core v = 0 := by unfold doesE; rw [if_neg c12, if_neg c17, if_neg c64, if_neg c69, if_neg c74]
  refine ⟨congrArg (fun q => Ending.returned (Value.int .i64 q)) ee.symm, b19, fun _ => ⟨{ m with s := { m.s with inn := updA m.s.inn b9 true } }, by symm; unfold doesC; rw [if_neg c12, if_neg c17, if_neg c64, if_neg c69, if_neg c74, if_pos c133]; rw [show (v.dst - 1).toNat = b9 by omega]; rfl, ?_⟩⟩
  exact { c := m110.to (ldY_inn m hb9), n := m112, g := m113, tc := m114, t := m115, r := m116, pB := hLp, tB := hLtb, bn := bn, bg := bg, bt := bt, br := hL.br }
 refine Lv (.bool false) (x_eqlF rfl rfl rfl c133) (Lv (.bool false) (x_assign rfl rfl) (Ln (sN (Wc (b := false) rfl (fun h => nomatch h) (fun _ => Ws (Wl (Lv (.bool true) (x_eqlT rfl rfl rfl (by omega)) (Lv (.bool true) (x_assign rfl rfl) (Ln (sN (Wc (b := true) rfl (fun _ => ?_) (fun h => nomatch h))))))))))))
 have hLc := m2.c
 have hLn := m2.n
 have hLg := m2.g
 have hLt := m2.tc
 have hLtr := m2.t
 have hLr := m2.r
 -- region 28 draws
 refine Fx.W.reord [0, 1, 4, 5, 6, 2, 3, 7, 8] [0, 0, 4, 0, 0, 0, 0, 0, 3] Fx.Mk Fx.Mk.refl Fx.Mk.trans (certs := [(8, 2, [2])]) (by kernel_rfl) (by kernel_rfl) (by kernel_rfl) (by kernel_rfl) (by kernel_rfl) fun wt4 hbwt4 hzwt4 => ?_
 have s17 : Fx.Stp w1.heap.size w1 wt4 := Sb hbwt4
 have m117 := m1.stp s17 m1.ne
 have m118 := hLc.stp s17 hLc.ne
 have m119 := hLn.stp s17 (hLn.notNew (Nat.le_refl _))
 have m120 := hLg.stp s17 (hLg.notNew (Nat.le_refl _))
 have m121 := hLt.stp s17 hLt.ne
 have m122 := hLtr.stp s17 (hLtr.notNew (Nat.le_refl _))
 have m123 := hLr.up s17.old
 have b20 := s17.below b1 (Nat.le_trans hB b1.size) (Nat.le_trans hB b1.size)
 refine Rp ((pt p)) (fun v1 => x_move rfl rfl) (Rp ((pt g1)) (fun v1 => x_field rfl rfl Try.underlying50 rfl (s := 1) (by kernel_rfl) rfl rfl) (Rp ((pt p)) (fun v1 => x_nil rfl rfl) (Rp ((pt p)) (fun v1 => x_field rfl rfl Try.underlying70 rfl (s := 20) (by kernel_rfl) rfl rfl) (Rp ((pf p 6)) (fun v1 => x_field rfl rfl Try.underlying65 rfl (s := 6) (by kernel_rfl) rfl (by show _ + 6 = _; omega)) (Fx.R.s (.int .i64 (v.o)) (x_load1 (x := evY v) rfl rfl (by kernel_rfl) m117.cel (i := 0) (by omega) (by omega) rfl) ?_)))))
 refine Rp (.int .i64 ((a : Int))) (fun v1 => Fx.x_sub rfl rfl rfl Fx.io) (Rp ((pf p (a + 6))) (fun v1 => x_index rfl rfl rfl Try.underlying61 (s := 1) (by kernel_rfl) (by omega) (by omega) (by omega)) (Fx.R.eff (by rfl) ?_))
 refine Fx.L.store1 (x := ldY m) (u := .bool true) (by rfl) rfl rfl rfl rfl (by rfl) (by kernel_rfl) m118 (i := a + 6) (by omega) fun w11 m124 s18 z5 => ?_
 have hct4 := Fx.ChT.of_stp s18 m118.ty
 have m126 := m119.chT hct4 (by decide)
 have m127 := m120.chT hct4 (by decide)
 have m128 := m121.chT hct4 (by decide)
 have m129 := m122.chT hct4 (by decide)
 have m130 := m123.chT hct4 (by decide)
 have b21 := s18.below b20 (Nat.le_trans hB b20.size) (by omega)
 refine Ln (Fx.R.nil (Fx.blkN (sN (Ws (Wl (Lv (.int .i64 (0)) (x_assign rfl rfl) (Ln (sN (Wr (⟨.int .i64 (0), rV Try.results57 (by exact rfl), ?_⟩))))))))))
 have eN : regN v = a := by unfold regN; omega
 have ee : doesE m.core v = 0 := by unfold doesE; rw [if_neg c12, if_neg c17, if_neg c64, if_neg c69, if_neg c74]
 refine ⟨congrArg (fun q => Ending.returned (Value.int .i64 q)) ee.symm, b21, fun _ => ⟨{ m with s := { m.s with left := updA m.s.left a true } }, by symm; unfold doesC; rw [if_neg c12, if_neg c17, if_neg c64, if_neg c69, if_neg c74, if_neg c133]; rw [eN]; rfl, ?_⟩⟩
 exact { c := m124.to (ldY_left m ha rfl), n := m126, g := m127, tc := m128, t := m129, r := m130, pB := hLp, tB := hLtb, bn := bn, bg := bg, bt := bt, br := hL.br }
namespace Rt
structure InvW (L : LdC) (T : Nat) : Prop where
  nn : L.nn ≤ 33
  gn : L.gn ≤ T
  rn : ∀ i, i < 6 → L.rn i ≤ T
  tn : ∀ x, L.node x = findT L.t L.tn x
  dx : ∀ x, ∃ D, D ≤ 1000 ∧ findT L.t L.tn (iterT L.t L.tn D x) < 0
  may : ∀ k, k < L.nn → may (L.R k) = true
  kn : KnOk L.known
open Classical in
noncomputable def applyE (L : LdC) (v : EvM) : Int :=
  if mayE v = false then 1 else if lateE L.known v = true then 14 else if readyE L.known v = false then 13 else if L.inn (regN v) = false ∨ L.left (regN v) = true then 10 else doesE L v
def knowC (L : LdC) (v : EvM) : LdC := { L with known := updA L.known (regN v) (L.known (regN v) + 1) }
open Classical in
noncomputable def applyC (L : LdC) (v : EvM) : LdC := if applyE L v = 0 then knowC (doesC L v) v else L
theorem doesC_known (L : LdC) (v : EvM) : (doesC L v).known = L.known := by
  unfold doesC
  split; · unfold makesC; rfl
  split; · unfold raiseC; rfl
  split; · unfold takesC addReq; rfl
  split; · unfold freesC addReq; rfl
  split; · unfold movesC; rfl
  split <;> rfl
end Rt
set_option maxRecDepth 20000 in
set_option maxHeartbeats 2000000 in
theorem l_apply (m : LdM) (B p T : Nat) (v : EvM) (w : World) (hL : LdO w B p m) (hv : EvWf v) (hI : InvW m.core T) (hT : T ≤ 900000) :
    Calls Try.prog 41 #[(pt p), .agg (Fx.varr 14 (evY v))] w fun e w' => ∃ p' m', e = .returned (.tuple #[(pt p'), .int .i64 (applyE m.core v)]) ∧ m'.core = applyC m.core v ∧ LdO w' B p' m' ∧ Below w.heap.size w w' := by
 have hLc := hL.c
 have lpp : p < w.heap.size := hLc.lt
 have hpB := hL.pB
 refine Fx.enter Try.func41 rfl (n := 73) rfl (by rfl) ?_
 refine Ws (Wl (Fx.L.box (m := 14) (y := evY v) (by rfl) rfl rfl (Fx.cells_agg _ _) rfl fun g1 w1 eg1 m1 s1 z1 => ?_))
 have m2 := hL.up s1.old
 have m3 := hLc.stp s1 hLc.ne
 have b1 := s1.below (Below.refl w.heap.size w) (Below.refl w.heap.size w).size (Below.refl w.heap.size w).size
 have lg1 : w.heap.size ≤ g1 := by rw [eg1]; exact (Below.refl w.heap.size w).size
 have ng1m3 : p ≠ g1 := by rw [eg1]; exact Nat.ne_of_lt (hLc.lt)
 have tg1 : g1 < w1.heap.size := m1.lt
 clear eg1
 refine Lv (.pointer none) (x_assign rfl rfl) (Lv (.int .i64 (0)) (x_assign rfl rfl) (Ln (sN (Ws (Ws (Wl (Lv (.agg (Fx.varr 14 (evY v))) (x_loadA (x := evY v) (y := evY v) rfl rfl (by kernel_rfl) (by kernel_rfl) m1.cel (i := 0) (by omega) (by omega) (fun j _ => by rw [Nat.zero_add])) ?_)))))))
 by_cases c10 : (mayE v) = true
 ·refine Fx.L.call (by rfl) (rC (args := [.agg (Fx.varr 14 (evY v))]) rfl rfl Try.func45 rfl rfl) rfl ((e_may v _ hv).mono ?_)
  rintro e w2 ⟨he, hb1⟩
  refine ⟨.bool true, by rw [he, c10], ?_⟩
  clear he
  have s2 := Sb hb1
  have m4 := m2.up s2.old
  have m5 := m3.stp s2 m3.ne
  have m6 := m1.stp s2 m1.ne
  have b2 := s2.below b1 b1.size b1.size
  refine Lv (.bool false) (Fx.x_notF rfl rfl) (Ln (sN (Wc (b := false) rfl (fun h => nomatch h) (fun _ => Wk (sN (Ws (Ws ?_)))))))
  -- region 3 draws
  refine Fx.W.quiet (fun v1 => Below w2.heap.size w2 v1) (by kernel_rfl) (by kernel_rfl) (Below.refl _ _).drew ?_
  refine Qv ((pt p)) (fun v1 hv1 => x_move rfl rfl) (Qv ((pt p)) (fun v1 hv1 => x_nil rfl rfl) (Qv ((pt p)) (fun v1 hv1 => x_field rfl rfl Try.underlying70 rfl (s := 20) (by kernel_rfl) rfl rfl) (Qv ((pf p 12)) (fun v1 hv1 => x_field rfl rfl Try.underlying65 rfl (s := 6) (by kernel_rfl) rfl (by show _ + 12 = _; omega)) (Qv (.agg (Fx.varr 6 (Fx.rv .u64 m.s.known))) (fun v1 hv1 => x_loadA (x := ldY m) (y := Fx.rv .u64 m.s.known) rfl rfl (by kernel_rfl) (by kernel_rfl) (m5.cel.below hv1 (by have := m5.lt; omega)) (i := 12) (by omega) (by omega) (fun j hj => ldY_st _ (by omega) (stY_known _ hj (by omega)))) (Qv (.agg (Fx.varr 14 (evY v))) (fun v1 hv1 => x_loadA (x := evY v) (y := evY v) rfl rfl (by kernel_rfl) (by kernel_rfl) (m6.cel.below hv1 (by have := m6.lt; omega)) (i := 0) (by omega) (by omega) (fun j _ => by rw [Nat.zero_add])) ?_)))))
  by_cases c19 : (lateE m.s.known v) = true
  ·refine Fx.Qt.call (v := .bool true) (by rfl) (fun v1 hv1 => rC (args := [.agg (Fx.varr 6 (Fx.rv .u64 m.s.known)), .agg (Fx.varr 14 (evY v))]) rfl rfl Try.func46 rfl rfl) rfl (fun v1 hv1 => (e_late m.s.known v _ hv).mono fun e v2 h => ⟨by rw [h.1, c19], bch hv1 h.2⟩) ?_
   refine Fx.Qt.nil ?_
   intro wb1 hbwb1
   have s3 : Fx.Stp w2.heap.size w2 wb1 := Sb hbwb1
   have m7 := m4.up s3.old
   have b3 := s3.below b2 b2.size b2.size
   refine sN (Wc (b := true) rfl (fun _ => Ws (Wl (Lv ((pt p)) (x_move rfl rfl) ?_))) (fun h => nomatch h))
   refine Lv ((pt p)) (x_assign rfl rfl) (Lv (.int .i64 (14)) (x_assign rfl rfl) (Ln (sN (Wr (sR (⟨.tuple #[(pt p), .int .i64 (14)], Fx.retV2 Try.results41 (by exact rfl) (by exact rfl), ?_⟩))))))
   have ee : applyE m.core v = 14 := by unfold applyE; rw [if_neg (by rw [c10]; decide)]; exact if_pos c19
   have ec : applyC m.core v = m.core := by unfold applyC; rw [if_neg (by rw [ee]; decide)]
   exact ⟨p, m, by rw [ee], ec.symm, m7, b3⟩
  rw [Bool.not_eq_true] at c19
  refine Fx.Qt.call (v := .bool false) (by rfl) (fun v1 hv1 => rC (args := [.agg (Fx.varr 6 (Fx.rv .u64 m.s.known)), .agg (Fx.varr 14 (evY v))]) rfl rfl Try.func46 rfl rfl) rfl (fun v1 hv1 => (e_late m.s.known v _ hv).mono fun e v2 h => ⟨by rw [h.1, c19], bch hv1 h.2⟩) ?_
  refine Fx.Qt.nil ?_
  intro wb2 hbwb2
  have s4 : Fx.Stp w2.heap.size w2 wb2 := Sb hbwb2
  have m10 := m4.up s4.old
  have m11 := m5.stp s4 m5.ne
  have m12 := m6.stp s4 m6.ne
  have b4 := s4.below b2 b2.size b2.size
  refine sN (Wc (b := false) rfl (fun h => nomatch h) (fun _ => Wk (sN (Ws (Ws ?_)))))
  -- region 5 draws
  refine Fx.W.quiet (fun v1 => Below wb2.heap.size wb2 v1) (by kernel_rfl) (by kernel_rfl) (Below.refl _ _).drew ?_
  refine Qv ((pt p)) (fun v1 hv1 => x_move rfl rfl) (Qv ((pt p)) (fun v1 hv1 => x_nil rfl rfl) (Qv ((pt p)) (fun v1 hv1 => x_field rfl rfl Try.underlying70 rfl (s := 20) (by kernel_rfl) rfl rfl) (Qv ((pf p 12)) (fun v1 hv1 => x_field rfl rfl Try.underlying65 rfl (s := 6) (by kernel_rfl) rfl (by show _ + 12 = _; omega)) (Qv (.agg (Fx.varr 6 (Fx.rv .u64 m.s.known))) (fun v1 hv1 => x_loadA (x := ldY m) (y := Fx.rv .u64 m.s.known) rfl rfl (by kernel_rfl) (by kernel_rfl) (m11.cel.below hv1 (by have := m11.lt; omega)) (i := 12) (by omega) (by omega) (fun j hj => ldY_st _ (by omega) (stY_known _ hj (by omega)))) (Qv (.agg (Fx.varr 14 (evY v))) (fun v1 hv1 => x_loadA (x := evY v) (y := evY v) rfl rfl (by kernel_rfl) (by kernel_rfl) (m12.cel.below hv1 (by have := m12.lt; omega)) (i := 0) (by omega) (by omega) (fun j _ => by rw [Nat.zero_add])) ?_)))))
  by_cases c27 : (readyE m.s.known v) = true
  ·refine Fx.Qt.call (v := .bool true) (by rfl) (fun v1 hv1 => rC (args := [.agg (Fx.varr 6 (Fx.rv .u64 m.s.known)), .agg (Fx.varr 14 (evY v))]) rfl rfl Try.func47 rfl rfl) rfl (fun v1 hv1 => (e_ready m.s.known v _ hv hI.kn).mono fun e v2 h => ⟨by rw [h.1, c27], bch hv1 h.2⟩) ?_
   refine Qv (.bool false) (fun v1 hv1 => Fx.x_notF rfl rfl) (Fx.Qt.nil ?_)
   intro wb3 hbwb3
   have s5 : Fx.Stp wb2.heap.size wb2 wb3 := Sb hbwb3
   have m13 := m10.up s5.old
   have m14 := m11.stp s5 m11.ne
   have m15 := m12.stp s5 m12.ne
   have b5 := s5.below b4 b4.size b4.size
   refine sN (Wc (b := false) rfl (fun h => nomatch h) (fun _ => Wk (sN (Ws ?_))))
   obtain ⟨a, ha, ho⟩ := regE_nat (may_reg c10)
   refine Wl (Lv ((pt g1)) (x_field rfl rfl Try.underlying50 rfl (s := 1) (by kernel_rfl) rfl rfl) (Lv (.int .i64 (v.o)) (x_load1 (x := evY v) rfl rfl (by kernel_rfl) m15.cel (i := 0) (by omega) (by omega) rfl) (Lv (.int .i64 ((a : Int))) (Fx.x_sub rfl rfl rfl Fx.io) (Lv (.int .i64 ((a : Int))) (x_assign rfl rfl) (Ln (sN (Ws (Ws (Wl (Lv ((pt p)) (x_move rfl rfl) (Lv (.int .i64 ((a : Int))) (x_move rfl rfl) (Lv ((pt p)) (x_nil rfl rfl) (Lv ((pt p)) (x_field rfl rfl Try.underlying70 rfl (s := 20) (by kernel_rfl) rfl rfl) (Lv ((pt p)) (x_field rfl rfl Try.underlying65 rfl (s := 6) (by kernel_rfl) rfl rfl) (Lv ((pf p a)) (x_index rfl rfl rfl Try.underlying61 (s := 1) (by kernel_rfl) (by omega) (by omega) (by omega)) ?_)))))))))))))))
   by_cases c39 : (m.s.inn a) = true
   ·refine Lv (.bool true) (x_load1 (x := ldY m) rfl rfl (by kernel_rfl) m14.cel (i := a) (by omega) (by omega) ((ldY_st _ (by omega) (stY_in _ (by omega))).trans (congrArg Value.bool c39))) (Lv (.bool false) (Fx.x_notF rfl rfl) (Lv (.bool false) (x_move rfl rfl) (Lv ((pt p)) (x_move rfl rfl) (Lv (.int .i64 ((a : Int))) (x_move rfl rfl) (Lv ((pt p)) (x_nil rfl rfl) (Lv ((pt p)) (x_field rfl rfl Try.underlying70 rfl (s := 20) (by kernel_rfl) rfl rfl) (Lv ((pf p 6)) (x_field rfl rfl Try.underlying65 rfl (s := 6) (by kernel_rfl) rfl (by show _ + 6 = _; omega)) (Lv ((pf p (a + 6))) (x_index rfl rfl rfl Try.underlying61 (s := 1) (by kernel_rfl) (by omega) (by omega) (by omega)) ?_))))))))
    by_cases c48 : (m.s.left a) = true
    ·refine Lv (.bool true) (x_load1 (x := ldY m) rfl rfl (by kernel_rfl) m14.cel (i := a + 6) (by omega) (by omega) ((ldY_st _ (by omega) (stY_left _ (by omega) (by omega))).trans (congrArg Value.bool c48))) (Lv (.bool true) (x_pickF rfl rfl rfl) (Ln (sN (Wc (b := true) rfl (fun _ => Ws (Wl (Lv ((pt p)) (x_move rfl rfl) ?_))) (fun h => nomatch h)))))
     refine Lv ((pt p)) (x_assign rfl rfl) (Lv (.int .i64 (10)) (x_assign rfl rfl) (Ln (sN (Wr (sR (⟨.tuple #[(pt p), .int .i64 (10)], Fx.retV2 Try.results41 (by exact rfl) (by exact rfl), ?_⟩))))))
     have eN : regN v = a := by unfold regN; omega
     have ee : applyE m.core v = 10 := by unfold applyE; rw [if_neg (by rw [c10]; decide), if_neg (by rw [show lateE m.core.known v = false from c19]; decide), if_neg (by rw [show readyE m.core.known v = true from c27]; decide), eN]; exact if_pos (.inr c48)
     have ec : applyC m.core v = m.core := by unfold applyC; rw [if_neg (by rw [ee]; decide)]
     exact ⟨p, m, by rw [ee], ec.symm, m13, b5⟩
    rw [Bool.not_eq_true] at c48
    refine Lv (.bool false) (x_load1 (x := ldY m) rfl rfl (by kernel_rfl) m14.cel (i := a + 6) (by omega) (by omega) ((ldY_st _ (by omega) (stY_left _ (by omega) (by omega))).trans (congrArg Value.bool c48))) (Lv (.bool false) (x_pickF rfl rfl rfl) (Ln (sN (Wc (b := false) rfl (fun h => nomatch h) (fun _ => Wk (sN (Ws (Wl (Lv ((pt p)) (x_move rfl rfl) (Fx.L.call (by rfl) (rC (args := [(pt p)]) rfl rfl Try.func56 rfl rfl) rfl ((l_copy m p _ m13.ldg (by have := hI.nn; have e : m.core.nn = m.s.nn := rfl; omega) m13.bt).mono ?_)))))))))))
    rintro e w3 ⟨p2, m2, he, hco, hL2, hbc⟩
    refine ⟨(pt p2), he, ?_⟩
    clear he
    have s6 := Sb hbc
    have m18 := m15.stp s6 m15.ne
    have b6 := s6.below b5 b5.size b5.size
    have hI2 : InvW m2.core T := by rw [hco]; exact hI
    refine Lv ((pt p2)) (x_assign rfl rfl) (Ln (sN (Ws ?_)))
    have hL2s := hL2
    refine Wl (Lv ((pt p2)) (x_move rfl rfl) (Lv (.agg (Fx.varr 14 (evY v))) (x_loadA (x := evY v) (y := evY v) rfl rfl (by kernel_rfl) (by kernel_rfl) m18.cel (i := 0) (by omega) (by omega) (fun j _ => by rw [Nat.zero_add])) (Fx.L.call (by rfl) (rC (args := [(pt p2), .agg (Fx.varr 14 (evY v))]) rfl rfl Try.func57 rfl rfl) rfl ((l_does m2 wb3.heap.size p2 a v _ hL2s hbc.size ha ho (by have h9 : m2.s.nn ≤ 33 := hI2.nn; omega) (Nat.le_trans hI2.gn hT) (fun i hi => Nat.le_trans (hI2.rn i hi) hT) hI2.tn hI2.dx hv c10 hI2.may).mono ?_))))
    rintro e w4 ⟨he, hbd, hL3⟩
    refine ⟨.int .i64 (doesE m.core v), by rw [← hco]; exact he, ?_⟩
    clear he
    rw [hco] at hL3
    have b8 : Below wb3.heap.size wb3 w4 := hbc.trans hbd
    have b7 : Below w.heap.size w w4 := b6.trans (hbd.mono (Nat.le_trans (Nat.le_refl _) b5.size))
    have m19 : LdO w4 B p m := m13.up b8
    refine Lv (.int .i64 (doesE m.core v)) (x_assign rfl rfl) (Ln (sN (Ws (Ws (Wl (Lv (.int .i64 (doesE m.core v)) (x_move rfl rfl) ?_))))))
    by_cases c57 : (doesE m.core v) = 0
    ·refine Lv (.bool false) (Fx.x_neqF rfl rfl rfl c57) (Ln (sN (Wc (b := false) rfl (fun h => nomatch h) (fun _ => Wk (sN (Ws ?_))))))
     obtain ⟨m3, hc3, hL3b⟩ := hL3 c57
     have hMc := hL3b.c
     have hMn := hL3b.n
     have hMg := hL3b.g
     have hMt := hL3b.tc
     have hMtr := hL3b.t
     have hMr := hL3b.r
     have ek3 : m3.s.known = m.s.known := by show m3.core.known = _; rw [hc3, doesC_known]; rfl
     have hk3 := hI.kn a ha
     have hk3 : 0 ≤ m3.s.known a ∧ m3.s.known a < 1099511627776 := by rw [ek3]; exact hk3
     have lp2 := hL3b.pB
     have sw1 := b5.size
     -- region 14 draws
     refine Fx.W.reord [0, 1, 2, 3, 4, 5, 8, 9, 10, 6, 7, 11, 12] [0, 0, 0, 0, 0, 0, 4, 0, 0, 0, 0, 0, 3] Fx.Mk Fx.Mk.refl Fx.Mk.trans (certs := [(12, 6, [6])]) (by kernel_rfl) (by kernel_rfl) (by kernel_rfl) (by kernel_rfl) (by kernel_rfl) fun wt1 hbwt1 hzwt1 => ?_
     have s7 : Fx.Stp w4.heap.size w4 wt1 := Sb hbwt1
     have m20 := hMc.stp s7 hMc.ne
     have m21 := hMn.stp s7 (hMn.notNew (Nat.le_refl _))
     have m22 := hMg.stp s7 (hMg.notNew (Nat.le_refl _))
     have m23 := hMt.stp s7 hMt.ne
     have m24 := hMtr.stp s7 (hMtr.notNew (Nat.le_refl _))
     have m25 := hMr.up s7.old
     have b9 := s7.below b7 b7.size b7.size
     refine Rp ((pt p2)) (fun v1 => x_move rfl rfl) (Rp (.int .i64 ((a : Int))) (fun v1 => x_move rfl rfl) (Rp ((pt p2)) (fun v1 => x_nil rfl rfl) (Rp ((pt p2)) (fun v1 => x_field rfl rfl Try.underlying70 rfl (s := 20) (by kernel_rfl) rfl rfl) (Rp ((pf p2 12)) (fun v1 => x_field rfl rfl Try.underlying65 rfl (s := 6) (by kernel_rfl) rfl (by show _ + 12 = _; omega)) (Rp ((pf p2 (a + 12))) (fun v1 => x_index rfl rfl rfl Try.underlying32 (s := 1) (by kernel_rfl) (by omega) (by omega) (by omega)) (Rp ((pt p2)) (fun v1 => x_nil rfl rfl) (Rp ((pt p2)) (fun v1 => x_field rfl rfl Try.underlying70 rfl (s := 20) (by kernel_rfl) rfl rfl) (Rp ((pf p2 12)) (fun v1 => x_field rfl rfl Try.underlying65 rfl (s := 6) (by kernel_rfl) rfl (by show _ + 12 = _; omega)) (Fx.R.s (.int .u64 (m3.s.known a)) (x_load1 (x := ldY m3) rfl rfl (by kernel_rfl) m20.cel (i := a + 12) (by omega) (by omega) (ldY_st _ (by omega) (stY_known _ (by omega) (by omega)))) ?_)))))))))
     refine Rp (.int .u64 (m3.s.known a + 1)) (fun v1 => Fx.x_add rfl rfl rfl (Fx.u64e (by omega) (by omega))) (Rp ((pf p2 (a + 12))) (fun v1 => x_index rfl rfl rfl Try.underlying32 (s := 1) (by kernel_rfl) (by omega) (by omega) (by omega)) (Fx.R.eff (by rfl) ?_))
     refine Fx.L.store1 (x := ldY m3) (u := .int .u64 (m3.s.known a + 1)) (by rfl) rfl rfl rfl rfl (by rfl) (by kernel_rfl) m20 (i := a + 12) (by omega) fun w5 m26 s8 z2 => ?_
     have hct1 := Fx.ChT.of_stp s8 m20.ty
     have m27 := m21.chT hct1 (by decide)
     have m28 := m22.chT hct1 (by decide)
     have m29 := m23.chT hct1 (by decide)
     have m30 := m24.chT hct1 (by decide)
     have m31 := m25.chT hct1 (by decide)
     have b10 := s8.below b9 b9.size (by omega)
     refine Ln (Fx.R.nil (sN (Ws (Wl (Lv ((pt p2)) (x_move rfl rfl) (Lv ((pt p2)) (x_assign rfl rfl) (Lv (.int .i64 (0)) (x_assign rfl rfl) (Ln (sN (Wr (⟨.tuple #[(pt p2), .int .i64 (0)], Fx.retV2 Try.results41 (by exact rfl) (by exact rfl), ?_⟩)))))))))))
     have eN : regN v = a := by unfold regN; omega
     have ee : applyE m.core v = 0 := by unfold applyE; rw [if_neg (by rw [c10]; decide), if_neg (by rw [show lateE m.core.known v = false from c19]; decide), if_neg (by rw [show readyE m.core.known v = true from c27]; decide), eN]; rw [if_neg (show ¬ (m.core.inn a = false ∨ m.core.left a = true) from fun h => h.elim (fun h => by rw [show m.core.inn a = true from c39] at h; cases h) (fun h => by rw [show m.core.left a = false from c48] at h; cases h))]; exact c57
     have hfin : LdO w5 wb3.heap.size p2 { m3 with s := { m3.s with known := updA m3.s.known a (m3.s.known a + 1) } } := { c := m26.to (ldY_known m3 ha rfl _), n := m27, g := m28, tc := m29, t := m30, r := m31, pB := hL3b.pB, tB := hL3b.tB, bn := hL3b.bn, bg := hL3b.bg, bt := hL3b.bt, br := hL3b.br }
     refine ⟨p2, { m3 with s := { m3.s with known := updA m3.s.known a (m3.s.known a + 1) } }, by rw [ee], ?_, hfin.mono (by have := hL.pB; have := lpp; omega), b10⟩
     unfold applyC; rw [if_pos ee]; unfold knowC; rw [eN, doesC_known, ← hc3, show m.core.known = m3.s.known from ek3.symm]; rfl
    refine Lv (.bool true) (Fx.x_neqT rfl rfl rfl c57) (Ln (sN (Wc (b := true) rfl (fun _ => Ws (Wl (Lv ((pt p)) (x_move rfl rfl) ?_))) (fun h => nomatch h))))
    refine Lv (.int .i64 (doesE m.core v)) (x_move rfl rfl) (Lv ((pt p)) (x_assign rfl rfl) (Lv (.int .i64 (doesE m.core v)) (x_assign rfl rfl) (Ln (sN (Wr (sR (⟨.tuple #[(pt p), .int .i64 (doesE m.core v)], Fx.retV2 Try.results41 (by exact rfl) (by exact rfl), ?_⟩)))))))
    have eN : regN v = a := by unfold regN; omega
    have ee : applyE m.core v = doesE m.core v := by unfold applyE; rw [if_neg (by rw [c10]; decide), if_neg (by rw [show lateE m.core.known v = false from c19]; decide), if_neg (by rw [show readyE m.core.known v = true from c27]; decide), eN]; rw [if_neg (show ¬ (m.core.inn a = false ∨ m.core.left a = true) from fun h => h.elim (fun h => by rw [show m.core.inn a = true from c39] at h; cases h) (fun h => by rw [show m.core.left a = false from c48] at h; cases h))]
    have ec : applyC m.core v = m.core := by unfold applyC; rw [if_neg (by rw [ee]; exact c57)]
    exact ⟨p, m, by rw [ee], ec.symm, m19, b7⟩
   rw [Bool.not_eq_true] at c39
   refine Lv (.bool false) (x_load1 (x := ldY m) rfl rfl (by kernel_rfl) m14.cel (i := a) (by omega) (by omega) ((ldY_st _ (by omega) (stY_in _ (by omega))).trans (congrArg Value.bool c39))) (Lv (.bool true) (Fx.x_notT rfl rfl) (Lv (.bool true) (x_move rfl rfl) (Lk (by rfl) rfl (Lk (by rfl) rfl (Lk (by rfl) rfl (Lk (by rfl) rfl (Lk (by rfl) rfl (Lk (by rfl) rfl (Lk (by rfl) rfl (Lv (.bool true) (x_pickT rfl rfl rfl) (Ln (sN (Wc (b := true) rfl (fun _ => Ws (Wl (Lv ((pt p)) (x_move rfl rfl) ?_))) (fun h => nomatch h))))))))))))))
   refine Lv ((pt p)) (x_assign rfl rfl) (Lv (.int .i64 (10)) (x_assign rfl rfl) (Ln (sN (Wr (sR (⟨.tuple #[(pt p), .int .i64 (10)], Fx.retV2 Try.results41 (by exact rfl) (by exact rfl), ?_⟩))))))
   have eN : regN v = a := by unfold regN; omega
   have ee : applyE m.core v = 10 := by unfold applyE; rw [if_neg (by rw [c10]; decide), if_neg (by rw [show lateE m.core.known v = false from c19]; decide), if_neg (by rw [show readyE m.core.known v = true from c27]; decide), eN]; exact if_pos (.inl c39)
   have ec : applyC m.core v = m.core := by unfold applyC; rw [if_neg (by rw [ee]; decide)]
   exact ⟨p, m, by rw [ee], ec.symm, m13, b5⟩
  rw [Bool.not_eq_true] at c27
  refine Fx.Qt.call (v := .bool false) (by rfl) (fun v1 hv1 => rC (args := [.agg (Fx.varr 6 (Fx.rv .u64 m.s.known)), .agg (Fx.varr 14 (evY v))]) rfl rfl Try.func47 rfl rfl) rfl (fun v1 hv1 => (e_ready m.s.known v _ hv hI.kn).mono fun e v2 h => ⟨by rw [h.1, c27], bch hv1 h.2⟩) ?_
  refine Qv (.bool true) (fun v1 hv1 => Fx.x_notT rfl rfl) (Fx.Qt.nil ?_)
  intro wb4 hbwb4
  have s9 : Fx.Stp wb2.heap.size wb2 wb4 := Sb hbwb4
  have m32 := m10.up s9.old
  have b11 := s9.below b4 b4.size b4.size
  refine sN (Wc (b := true) rfl (fun _ => Ws (Wl (Lv ((pt p)) (x_move rfl rfl) ?_))) (fun h => nomatch h))
  refine Lv ((pt p)) (x_assign rfl rfl) (Lv (.int .i64 (13)) (x_assign rfl rfl) (Ln (sN (Wr (sR (⟨.tuple #[(pt p), .int .i64 (13)], Fx.retV2 Try.results41 (by exact rfl) (by exact rfl), ?_⟩))))))
  have ee : applyE m.core v = 13 := by unfold applyE; rw [if_neg (by rw [c10]; decide), if_neg (by rw [show lateE m.core.known v = false from c19]; decide)]; exact if_pos c27
  have ec : applyC m.core v = m.core := by unfold applyC; rw [if_neg (by rw [ee]; decide)]
  exact ⟨p, m, by rw [ee], ec.symm, m32, b11⟩
 rw [Bool.not_eq_true] at c10
 refine Fx.L.call (by rfl) (rC (args := [.agg (Fx.varr 14 (evY v))]) rfl rfl Try.func45 rfl rfl) rfl ((e_may v _ hv).mono ?_)
 rintro e w6 ⟨he, hb2⟩
 refine ⟨.bool false, by rw [he, c10], ?_⟩
 clear he
 have s10 := Sb hb2
 have m35 := m2.up s10.old
 have b12 := s10.below b1 b1.size b1.size
 refine Lv (.bool true) (Fx.x_notT rfl rfl) (Ln (sN (Wc (b := true) rfl (fun _ => Ws (Wl (Lv ((pt p)) (x_move rfl rfl) ?_))) (fun h => nomatch h))))
 refine Lv ((pt p)) (x_assign rfl rfl) (Lv (.int .i64 (1)) (x_assign rfl rfl) (Ln (sN (Wr (sR (⟨.tuple #[(pt p), .int .i64 (1)], Fx.retV2 Try.results41 (by exact rfl) (by exact rfl), ?_⟩))))))
 have ee : applyE m.core v = 1 := by unfold applyE; exact if_pos c10
 have ec : applyC m.core v = m.core := by unfold applyC; rw [if_neg (by rw [ee]; decide)]
 exact ⟨p, m, by rw [ee], ec.symm, m35, b12⟩
section
namespace Rt
structure Inv0 (L : LdC) (T : Nat) : Prop where
  tnn : L.tn = L.nn
  nn : L.nn ≤ 32
  tid : ∀ i, i < L.nn → L.t i 0 = L.id i ∧ L.t i 1 = L.par i
  rise : ∀ i j, i < j → j < L.nn → L.id i < L.id j
  pos : ∀ i, i < L.nn → 1 ≤ L.id i
  top : ∀ i, i < L.nn → L.id i < 7696581394432
  up : ∀ i, i < L.nn → L.par i = 0 ∨ ∃ j, j < L.nn ∧ L.id j = L.par i
  dep : ∀ x, ∃ D, D ≤ 4 ∧ findT L.t L.tn (iterT L.t L.tn D x) < 0
  gn : L.gn ≤ T
  rn : ∀ i, i < 6 → L.rn i ≤ T
  may : ∀ k, k < L.nn → may (L.R k) = true
  g47 : ∀ k, k < L.nn → ∀ a, a < 6 → L.R k a ≤ 140737488355328
  kn : KnOk L.known
theorem ilt (a : Int) : a < 0 ∨ 0 ≤ a := by omega
theorem findT_iff {t : Nat → Nat → Int} {tn : Nat} {x : Int} : 0 ≤ findT t tn x ↔ ∃ i, i < tn ∧ t i 0 = x := by
  constructor
  · intro h
    obtain ⟨j, hj, _, e⟩ := find_nat h
    exact ⟨j, hj, e⟩
  rintro ⟨i, hi, e⟩
  rcases firstI_spec (fun i => decide (t i 0 = x)) tn with ⟨k, _, e2, _⟩ | ⟨_, h2⟩
  · unfold findT; rw [e2]; omega
  have := h2 i hi; rw [decide_eq_true e] at this; cases this
theorem findT_no {t : Nat → Nat → Int} {tn : Nat} {x : Int} : findT t tn x < 0 ↔ ∀ i, i < tn → t i 0 ≠ x := by
  constructor
  · intro h i hi e
    have := findT_iff.2 ⟨i, hi, e⟩; omega
  intro h
  rcases ilt (findT t tn x) with h1 | h1
  · exact h1
  obtain ⟨i, hi, e⟩ := findT_iff.1 h1
  exact absurd e (h i hi)
theorem findT_at {t : Nat → Nat → Int} {tn i : Nat} (hu : ∀ i j, i < tn → j < tn → t i 0 = t j 0 → i = j) (hi : i < tn) : findT t tn (t i 0) = (i : Int) := by
  obtain ⟨j, hj, e, e2⟩ := find_nat (findT_iff.2 ⟨i, hi, rfl⟩)
  rw [e, hu j i hj hi e2]
theorem iter_shift {t : Nat → Nat → Int} {tn : Nat} {x : Int} : ∀ j, iterT t tn (j + 1) x = iterT t tn j (iterT t tn 1 x)
  | 0 => rfl
  | j + 1 => by
    show t (findT t tn (iterT t tn (j + 1) x)).toNat 1 = t (findT t tn (iterT t tn j (iterT t tn 1 x))).toNat 1
    rw [iter_shift j]
section
variable {L : LdC} {T : Nat}
theorem Inv0.inj (h : Inv0 L T) : ∀ i j, i < L.nn → j < L.nn → L.id i = L.id j → i = j := fun i j hi hj e => by
  rcases Nat.lt_trichotomy i j with h1 | h1 | h1
  · have := h.rise i j h1 hj; omega
  · exact h1
  · have := h.rise j i h1 hi; omega
theorem Inv0.tinj (h : Inv0 L T) : ∀ i j, i < L.tn → j < L.tn → L.t i 0 = L.t j 0 → i = j := fun i j hi hj e => by
  rw [h.tnn] at hi hj
  rw [(h.tid i hi).1, (h.tid j hj).1] at e
  exact h.inj i j hi hj e
theorem firstI_cong {P Q : Nat → Bool} : ∀ {n : Nat}, (∀ i, i < n → P i = Q i) → firstI P n = firstI Q n
  | 0, _ => rfl
  | n + 1, h => by
    simp only [firstI]
    rw [firstI_cong (n := n) fun i hi => h i (by omega), h n (by omega)]
theorem Inv0.node (h : Inv0 L T) (x : Int) : L.node x = findT L.t L.tn x := by
  unfold LdC.node findT
  rw [h.tnn]
  exact firstI_cong fun i hi => by rw [(h.tid i hi).1]
theorem Inv0.w (h : Inv0 L T) : InvW L T where
  nn := by have := h.nn; omega
  gn := h.gn
  rn := h.rn
  tn := h.node
  dx := fun x => by obtain ⟨D, hD, hx⟩ := h.dep x; exact ⟨D, by omega, hx⟩
  may := h.may
  kn := h.kn
theorem Inv0.mono {T' : Nat} (h : Inv0 L T) (hT : T ≤ T') : Inv0 L T' := { h with gn := Nat.le_trans h.gn hT, rn := fun i hi => Nat.le_trans (h.rn i hi) hT }
theorem insI_lt {α : Type} {f : Nat → α} {k i : Nat} {v : α} (h : i < k) : Fx.insI f k v i = f i := by unfold Fx.insI; rw [if_pos h]
theorem insI_eq {α : Type} {f : Nat → α} {k : Nat} {v : α} : Fx.insI f k v k = v := by unfold Fx.insI; rw [if_neg (by omega), if_pos rfl]
theorem insI_gt {α : Type} {f : Nat → α} {k i : Nat} {v : α} (h : k < i) : Fx.insI f k v i = f (i - 1) := by unfold Fx.insI; rw [if_neg (by omega), if_neg (by omega)]
theorem insI_old {k i n : Nat} (hk : k ≤ n) (hi : i < n + 1) : i = k ∨ ∃ j, j < n ∧ (∀ {α : Type} (f : Nat → α) (v : α), Fx.insI f k v i = f j) ∧ (j < k → i = j) ∧ (k ≤ j → i = j + 1) := by
  rcases Nat.lt_trichotomy i k with h | h | h
  · exact .inr ⟨i, by omega, fun f v => insI_lt h, fun _ => rfl, fun h2 => by omega⟩
  · exact .inl h
  exact .inr ⟨i - 1, by omega, fun f v => insI_gt h, fun h2 => by omega, fun _ => by omega⟩
theorem insI_new {k j n : Nat} (hj : j < n) : ∃ i, i < n + 1 ∧ i ≠ k ∧ ∀ {α : Type} (f : Nat → α) (v : α), Fx.insI f k v i = f j := by
  by_cases h : j < k
  · exact ⟨j, by omega, by omega, fun f v => insI_lt h⟩
  exact ⟨j + 1, by omega, by omega, fun f v => by rw [insI_gt (by omega)]; rfl⟩
theorem insT_eq (t : Nat → Nat → Int) (k : Nat) (id par : Int) (i : Nat) : insT t k id par i = Fx.insI t k (fun j => if j = 0 then id else par) i := rfl
theorem down_cong {P Q : Nat → Bool} : ∀ {n : Nat}, (∀ i, i < n → P i = Q i) → Fx.down P n = Fx.down Q n
  | 0, _ => rfl
  | n + 1, h => by
    unfold Fx.down
    rw [down_cong (n := n) fun i hi => h i (by omega), h n (by omega)]
structure TreeUp (t t' : Nat → Nat → Int) (tn : Nat) (id par : Int) : Prop where
  u : ∀ i j, i < tn → j < tn → t i 0 = t j 0 → i = j
  u' : ∀ i j, i < tn + 1 → j < tn + 1 → t' i 0 = t' j 0 → i = j
  no : ∀ i, i < tn → t i 0 ≠ id
  old : ∀ i, i < tn → ∃ j, j < tn + 1 ∧ t' j = t i
  new : ∃ j, j < tn + 1 ∧ t' j 0 = id ∧ t' j 1 = par
  back : ∀ j, j < tn + 1 → t' j 0 = id ∨ ∃ i, i < tn ∧ t' j = t i
variable {t t' : Nat → Nat → Int} {tn : Nat} {id par : Int}
theorem TreeUp.find (h : TreeUp t t' tn id par) {x : Int} : 0 ≤ findT t' (tn + 1) x ↔ (0 ≤ findT t tn x ∨ x = id) := by
  rw [findT_iff, findT_iff]
  constructor
  · rintro ⟨j, hj, e⟩
    rcases h.back j hj with h1 | ⟨i, hi, h1⟩
    · exact .inr (e.symm.trans h1)
    exact .inl ⟨i, hi, by rw [← h1]; exact e⟩
  rintro (⟨i, hi, e⟩ | e)
  · obtain ⟨j, hj, h1⟩ := h.old i hi
    exact ⟨j, hj, by rw [h1]; exact e⟩
  obtain ⟨j, hj, h1, _⟩ := h.new
  exact ⟨j, hj, h1.trans e.symm⟩
theorem TreeUp.par_old (h : TreeUp t t' tn id par) {x : Int} (hx : 0 ≤ findT t tn x) : t' (findT t' (tn + 1) x).toNat 1 = t (findT t tn x).toNat 1 := by
  obtain ⟨i, hi, e⟩ := findT_iff.1 hx
  obtain ⟨j, hj, e2⟩ := h.old i hi
  have h1 : findT t tn x = (i : Int) := by rw [← e]; exact findT_at h.u hi
  have h2 : findT t' (tn + 1) x = (j : Int) := by
    have : t' j 0 = x := by rw [e2]; exact e
    rw [← this]; exact findT_at h.u' hj
  rw [h1, h2]
  show t' j 1 = t i 1
  rw [e2]
theorem TreeUp.iter (h : TreeUp t t' tn id par) {x : Int} : ∀ K, (∀ i, i < K → 0 ≤ findT t tn (iterT t tn i x)) → iterT t' (tn + 1) K x = iterT t tn K x
  | 0, _ => rfl
  | K + 1, hk => by
    have ih := TreeUp.iter h K fun i hi => hk i (by omega)
    show t' (findT t' (tn + 1) (iterT t' (tn + 1) K x)).toNat 1 = t (findT t tn (iterT t tn K x)).toNat 1
    rw [ih]; exact h.par_old (hk K (by omega))
theorem first_end {t : Nat → Nat → Int} {tn : Nat} {x : Int} : ∀ D, findT t tn (iterT t tn D x) < 0 → ∃ K, K ≤ D ∧ findT t tn (iterT t tn K x) < 0 ∧ ∀ i, i < K → 0 ≤ findT t tn (iterT t tn i x)
  | 0, h => ⟨0, Nat.le_refl _, h, fun _ hi => absurd hi (Nat.not_lt_zero _)⟩
  | D + 1, h => by
    by_cases hall : ∀ i, i < D + 1 → 0 ≤ findT t tn (iterT t tn i x)
    · exact ⟨D + 1, Nat.le_refl _, h, hall⟩
    · obtain ⟨i, hi⟩ := Classical.not_forall.1 hall
      obtain ⟨hi, h2⟩ := Classical.not_imp.1 hi
      rcases Nat.lt_or_ge i D with h3 | h3
      · -- an earlier end
        have : ∀ n, n ≤ D → (∃ j, j ≤ n ∧ findT t tn (iterT t tn j x) < 0) → ∃ K, K ≤ n ∧ findT t tn (iterT t tn K x) < 0 ∧ ∀ i, i < K → 0 ≤ findT t tn (iterT t tn i x) := by
          intro n
          induction n with
          | zero => rintro _ ⟨j, hj, hn⟩; obtain rfl : j = 0 := by omega
                    exact ⟨0, Nat.le_refl _, hn, fun _ hi => absurd hi (Nat.not_lt_zero _)⟩
          | succ n ih =>
            rintro hn ⟨j, hj, hj2⟩
            by_cases h5 : ∃ j, j ≤ n ∧ findT t tn (iterT t tn j x) < 0
            · obtain ⟨K, hK, h6⟩ := ih (by omega) h5; exact ⟨K, by omega, h6⟩
            · refine ⟨n + 1, Nat.le_refl _, ?_, fun i hi => ?_⟩
              · by_cases e : j = n + 1
                · rw [← e]; exact hj2
                · exact absurd ⟨j, by omega, hj2⟩ h5
              · rcases ilt (findT t tn (iterT t tn i x)) with h7 | h7
                · exact absurd ⟨i, by omega, h7⟩ h5
                · exact h7
        obtain ⟨K, hK, h4⟩ := this i (by omega) ⟨i, Nat.le_refl _, by omega⟩
        exact ⟨K, by omega, h4⟩
      · obtain rfl : i = D := by omega
        obtain ⟨K, hK, h4⟩ := first_end (t := t) (tn := tn) (x := x) i (by omega)
        exact ⟨K, by omega, h4⟩
theorem TreeUp.dep (h : TreeUp t t' tn id par) (hid : 1 ≤ id) (hup : ∀ i, i < tn → t i 1 = 0 ∨ 0 ≤ findT t tn (t i 1)) (hpar : par = 0 ∨ 0 ≤ findT t tn par) (hz : findT t tn 0 < 0) (hd : ∀ x, ∃ D, D ≤ 4 ∧ findT t tn (iterT t tn D x) < 0) (hdeep : ¬ deepT t tn par) :
    ∀ x, ∃ D, D ≤ 4 ∧ findT t' (tn + 1) (iterT t' (tn + 1) D x) < 0 := by
  -- an end of an old path is none of the new tree's nodes
  have hidn : findT t tn id < 0 := findT_no.2 h.no
  have key : ∀ x K, x ≠ id → findT t tn (iterT t tn K x) < 0 → (∀ i, i < K → 0 ≤ findT t tn (iterT t tn i x)) → findT t' (tn + 1) (iterT t' (tn + 1) K x) < 0 := fun x K hx hK hall => by
    rw [h.iter K hall]
    rcases ilt (findT t' (tn + 1) (iterT t tn K x)) with h1 | h1
    · exact h1
    · exfalso
      rcases h.find.1 h1 with h2 | h2
      · omega
      · cases K with
        | zero => exact hx h2
        | succ K =>
          have hf := hall K (by omega)
          obtain ⟨i, hi, e⟩ := findT_iff.1 hf
          have e3 : iterT t tn (K + 1) x = t i 1 := by
            show t (findT t tn (iterT t tn K x)).toNat 1 = t i 1
            rw [← e, findT_at h.u hi]; rfl
          rw [e3] at h2 hK
          rcases hup i hi with h4 | h4
          · omega
          · omega
  intro x
  by_cases hx : x = id
  · subst hx
    obtain ⟨i, hi⟩ := Classical.not_forall.1 hdeep
    obtain ⟨hi4, hi⟩ := Classical.not_imp.1 hi
    obtain ⟨K, hK, hK2, hall⟩ := first_end (t := t) (tn := tn) (x := par) i (by omega)
    refine ⟨K + 1, by omega, ?_⟩
    have e1 : iterT t' (tn + 1) 1 x = par := by
      obtain ⟨j, hj, e2, e3⟩ := h.new
      show t' (findT t' (tn + 1) x).toNat 1 = par
      rw [← e2, findT_at h.u' hj]; exact e3
    rw [iter_shift, e1]
    refine key par K ?_ hK2 hall
    rintro rfl
    rcases hpar with h1 | h1 <;> omega
  obtain ⟨D, hD, hD2⟩ := hd x
  obtain ⟨K, hK, hK2, hall⟩ := first_end D hD2
  exact ⟨K, by omega, key x K hx hK2 hall⟩
end
end Rt
end
section
namespace Rt
section
variable {L : LdC} {T : Nat} {v : EvM}
theorem addE_ok {t : Nat → Nat → Int} {tn : Nat} {id par : Int} (h : addE t tn id par = 0) : id ≠ 0 ∧ findT t tn id < 0 ∧ (par = 0 ∨ 0 ≤ findT t tn par) ∧ tn < 32 ∧ ¬ deepT t tn par := by
  unfold addE at h
  split at h; · cases h
  rename_i h1
  split at h; · cases h
  rename_i h2
  split at h; · cases h
  rename_i h3
  split at h; · cases h
  rename_i h4
  refine ⟨h1, by omega, ?_, ?_, fun hd => h4 (.inr hd)⟩
  · rcases ilt (findT t tn par) with h5 | h5
    · by_cases h6 : par = 0
      · exact .inl h6
      exact absurd ⟨h6, h5⟩ h3
    exact .inr h5
  rcases Nat.lt_or_ge tn 32 with h5 | h5
  · exact h5
  exact absurd (Or.inl h5) h4
theorem may_bd (h : mayE v = true) : 1 ≤ v.o ∧ v.o ≤ 6 ∧ 1 ≤ v.seq ∧ v.seq < 1099511627776 := by
  have h1 := may_reg h
  have h2 := may_seq h
  unfold regE at h1
  simp only [Bool.and_eq_true, decide_eq_true_eq] at h1
  exact ⟨h1.1, h1.2, h2.1, h2.2⟩
theorem idE_may (h : mayE v = true) : idE v.o v.seq = 1099511627776 * v.o + v.seq := by
  have := may_bd h
  unfold idE; rw [if_pos (by omega)]
theorem regN_lt (h : mayE v = true) : regN v < 6 := by
  have := may_bd h; unfold regN; omega
theorem may_new {a : Nat} {n : Int} (ha : a < 6) (h0 : 0 ≤ n) (h1 : n ≤ 1125899906842624) : may (upd (fun _ => 0) a n) = true := by
  have e : ∀ p, upd (fun _ => 0) a n p = if p = a then n else 0 := fun p => rfl
  rw [may_iff]
  refine ⟨fun p hp => ?_, fun k hk => ?_, ?_⟩
  · rw [e]; split <;> omega
  · have hr : ∀ i j, R (upd (fun _ => 0) a n) i j = 0 := fun i j => by unfold R; rw [e, if_neg (by omega)]
    refine ⟨?_, ?_, hr k k⟩
    · unfold L
      simp only [hr]
      have hg : 0 ≤ G (upd (fun _ => 0) a n) k := by unfold G; rw [e]; split <;> omega
      have hf : F (upd (fun _ => 0) a n) k = 0 := by unfold F; rw [e, if_neg (by omega)]
      have hc : C (upd (fun _ => 0) a n) k = 0 := by unfold C; rw [e, if_neg (by omega)]
      omega
    have hf : F (upd (fun _ => 0) a n) k = 0 := by unfold F; rw [e, if_neg (by omega)]
    have hc : C (upd (fun _ => 0) a n) k = 0 := by unfold C; rw [e, if_neg (by omega)]
    omega
  unfold gSum G
  simp only [e]
  have : (if 0 = a then n else 0) + (if 1 = a then n else 0) + (if 2 = a then n else 0) + (if 3 = a then n else 0) + (if 4 = a then n else 0) + (if 5 = a then n else 0) = n := six a ha n
  omega
theorem makes_tree (h : Inv0 L T) (hm : mayE v = true) (hk : v.kind = 1) (hE : makesE L v = 0) : ∃ k, k ≤ L.nn ∧ 1 ≤ idE v.o v.seq ∧ L.nn < 32 ∧ (0 ≤ v.amt ∧ v.amt ≤ 140737488355328) ∧ (v.node = 0 ∨ 0 ≤ findT L.t L.tn v.node) ∧ ¬ deepT L.t L.tn v.node ∧
    makesC L v = { L with nn := L.nn + 1, id := Fx.insI L.id k (idE v.o v.seq), par := Fx.insI L.par k v.node, R := Fx.insI L.R k (upd (fun _ => 0) (regN v) v.amt), tn := L.tn + 1, t := insT L.t k (idE v.o v.seq) v.node } ∧
    (∀ i j, i < j → j < L.nn + 1 → Fx.insI L.id k (idE v.o v.seq) i < Fx.insI L.id k (idE v.o v.seq) j) ∧ (∀ i, i < L.nn + 1 → insT L.t k (idE v.o v.seq) v.node i 0 = Fx.insI L.id k (idE v.o v.seq) i ∧ insT L.t k (idE v.o v.seq) v.node i 1 = Fx.insI L.par k v.node i) ∧
    TreeUp L.t (insT L.t k (idE v.o v.seq) v.node) L.tn (idE v.o v.seq) v.node := by
  unfold makesE at hE
  split at hE
  · cases hE
  rename_i h47
  obtain ⟨a1, a2, a3, a4, a5⟩ := addE_ok hE
  have hb := may_bd hm
  have hid := idE_may hm
  have hro := regN_lt hm
  have hamt : 0 ≤ v.amt ∧ v.amt ≤ 140737488355328 := by
    have h8 : ¬ 140737488355328 < v.amt := fun h => h47 (.inr h)
    unfold mayE at hm
    simp only [Bool.and_eq_true] at hm
    have hf := hm.2
    unfold fieldsE at hf
    rw [if_pos hk] at hf
    simp only [Bool.and_eq_true, decide_eq_true_eq] at hf
    omega
  generalize hx : idE v.o v.seq = x at *
  have hx1 : 1 ≤ x := by omega
  have ekt : Fx.down (fun i => decide (x < L.t i 0)) L.tn = downI L.id L.nn x := by
    unfold downI; rw [h.tnn]; exact down_cong fun i hi => by rw [(h.tid i hi).1]
  have eC : makesC L v = { L with nn := L.nn + 1, id := Fx.insI L.id (downI L.id L.nn x) x, par := Fx.insI L.par (downI L.id L.nn x) v.node, R := Fx.insI L.R (downI L.id L.nn x) (upd (fun _ => 0) (regN v) v.amt), tn := L.tn + 1, t := insT L.t (downI L.id L.nn x) x v.node } := by
    unfold makesC; rw [hx, ekt]; rfl
  generalize hkk : downI L.id L.nn x = k at *
  have hkn : k ≤ L.nn := by rw [← hkk]; exact Fx.down_le _ _
  have hno : ∀ i, i < L.nn → L.id i ≠ x := fun i hi e => findT_no.1 a2 i (by rw [h.tnn]; exact hi) (by rw [(h.tid i hi).1]; exact e)
  have hB : ∀ q, k ≤ q → q < L.nn → x < L.id q := fun q h1 h2 => by
    have := Fx.down_gt (P := fun i => decide (x < L.id i)) (n := L.nn) (i := q) (by show downI L.id L.nn x ≤ q; omega) h2
    exact of_decide_eq_true this
  have hA : ∀ q, q < k → L.id q < x := fun q h1 => by
    obtain ⟨j, rfl⟩ : ∃ j, k = j + 1 := ⟨k - 1, by omega⟩
    have h2 := Fx.down_no (P := fun i => decide (x < L.id i)) (n := L.nn) (j := j) hkk
    have h3 : ¬ x < L.id j := of_decide_eq_false h2
    have h4 := hno j (by omega)
    by_cases e : q = j
    · subst e; omega
    · have := h.rise q j (by omega) (by omega); omega
  have hnt : L.nn < 32 := by have := h.tnn; omega
  have hrise : ∀ i j, i < j → j < L.nn + 1 → Fx.insI L.id k x i < Fx.insI L.id k x j := fun i j hij hj => by
    rcases insI_old hkn (show i < L.nn + 1 by omega) with rfl | ⟨q, hq, eq, q1, q2⟩
    · rcases insI_old hkn hj with rfl | ⟨r, hr, er, r1, r2⟩
      · omega
      · rw [insI_eq, er]
        exact hB r (by omega) hr
    · rcases insI_old hkn hj with rfl | ⟨r, hr, er, r1, r2⟩
      · rw [insI_eq, eq]
        exact hA q (by omega)
      · rw [eq, er]
        exact h.rise q r (by omega) hr
  have htid : ∀ i, i < L.nn + 1 → insT L.t k x v.node i 0 = Fx.insI L.id k x i ∧ insT L.t k x v.node i 1 = Fx.insI L.par k v.node i := fun i hi => by
    rw [insT_eq]
    rcases insI_old hkn hi with rfl | ⟨q, hq, eq, _, _⟩
    · rw [insI_eq, insI_eq, insI_eq]; exact ⟨rfl, rfl⟩
    · rw [eq, eq, eq]; exact h.tid q hq
  have hinj : ∀ i j, i < L.nn + 1 → j < L.nn + 1 → Fx.insI L.id k x i = Fx.insI L.id k x j → i = j := fun i j hi hj e => by
    rcases Nat.lt_trichotomy i j with h1 | h1 | h1
    · have := hrise i j h1 hj; omega
    · exact h1
    · have := hrise j i h1 hi; omega
  have hup : TreeUp L.t (insT L.t k x v.node) L.tn x v.node := {
    u := h.tinj
    u' := fun i j hi hj e => by
      rw [h.tnn] at hi hj
      rw [(htid i hi).1, (htid j hj).1] at e
      exact hinj i j hi hj e
    no := findT_no.1 a2
    old := fun i hi => by
      obtain ⟨j, hj, _, e⟩ := insI_new (k := k) hi
      exact ⟨j, hj, by rw [insT_eq]; exact e L.t _⟩
    new := ⟨k, by have := h.tnn; omega, by rw [insT_eq, insI_eq]; rfl, by rw [insT_eq, insI_eq]; rfl⟩
    back := fun j hj => by
      rw [h.tnn] at hj
      rcases insI_old hkn hj with rfl | ⟨q, hq, eq, _, _⟩
      · exact .inl (by rw [insT_eq, insI_eq]; rfl)
      · exact .inr ⟨q, by rw [h.tnn]; exact hq, by rw [insT_eq]; exact eq L.t _⟩ }
  exact ⟨k, hkn, hx1, hnt, hamt, a3, a5, eC, hrise, htid, hup⟩
theorem inv_makes (h : Inv0 L T) (hm : mayE v = true) (hk : v.kind = 1) (hE : makesE L v = 0) : Inv0 (makesC L v) (T + 1) := by
  obtain ⟨k, hkn, hx1, hnt, hamt, a3, a5, eC, hrise, htid, hup⟩ := makes_tree h hm hk hE
  have hb := may_bd hm
  have hid := idE_may hm
  have hro := regN_lt hm
  rw [eC]
  generalize hx : idE v.o v.seq = x at *
  have hold : ∀ j, j < L.nn → ∃ i, i < L.nn + 1 ∧ Fx.insI L.id k x i = L.id j := fun j hj => by
    obtain ⟨i, hi, _, e⟩ := insI_new (k := k) hj
    exact ⟨i, hi, e L.id x⟩
  have hz : findT L.t L.tn 0 < 0 := findT_no.2 fun i hi e => by
    rw [h.tnn] at hi
    rw [(h.tid i hi).1] at e
    have := h.pos i hi; omega
  have hpar1 : v.node = 0 ∨ ∃ j, j < L.nn ∧ L.id j = v.node := by
    rcases a3 with e | e
    · exact .inl e
    · obtain ⟨i, hi, e2⟩ := findT_iff.1 e
      rw [h.tnn] at hi
      exact .inr ⟨i, hi, by rw [← (h.tid i hi).1]; exact e2⟩
  exact {
    tnn := by show L.tn + 1 = L.nn + 1; rw [h.tnn]
    nn := by show L.nn + 1 ≤ 32; omega
    tid := htid
    rise := hrise
    pos := fun i hi => by
      show 1 ≤ Fx.insI L.id k x i
      rcases insI_old hkn hi with rfl | ⟨q, hq, eq, _, _⟩
      · rw [insI_eq]; exact hx1
      · rw [eq]; exact h.pos q hq
    top := fun i hi => by
      show Fx.insI L.id k x i < _
      rcases insI_old hkn hi with rfl | ⟨q, hq, eq, _, _⟩
      · rw [insI_eq]; omega
      · rw [eq]; exact h.top q hq
    up := fun i hi => by
      show Fx.insI L.par k v.node i = 0 ∨ ∃ j, j < L.nn + 1 ∧ Fx.insI L.id k x j = Fx.insI L.par k v.node i
      have hh : ∀ y, (y = 0 ∨ ∃ j, j < L.nn ∧ L.id j = y) → (y = 0 ∨ ∃ j, j < L.nn + 1 ∧ Fx.insI L.id k x j = y) := fun y hy => hy.imp id fun ⟨j, hj, e⟩ => by
        obtain ⟨i, hi, e2⟩ := hold j hj
        exact ⟨i, hi, e2.trans e⟩
      rcases insI_old hkn hi with rfl | ⟨q, hq, eq, _, _⟩
      · rw [insI_eq]; exact hh _ hpar1
      · rw [eq]; exact hh _ (h.up q hq)
    dep := by
      show ∀ y, ∃ D, D ≤ 4 ∧ findT (insT L.t k x v.node) (L.tn + 1) (iterT (insT L.t k x v.node) (L.tn + 1) D y) < 0
      refine hup.dep hx1 (fun i hi => ?_) a3 hz h.dep a5
      have hi' := hi
      rw [h.tnn] at hi'
      rw [(h.tid i hi').2]
      rcases h.up i hi' with e | ⟨j, hj, e⟩
      · exact .inl e
      · exact .inr (findT_iff.2 ⟨j, by rw [h.tnn]; exact hj, by rw [(h.tid j hj).1]; exact e⟩)
    gn := Nat.le_succ_of_le h.gn
    rn := fun i hi => Nat.le_succ_of_le (h.rn i hi)
    may := fun i hi => by
      show may (Fx.insI L.R k _ i) = true
      rcases insI_old hkn hi with rfl | ⟨q, hq, eq, _, _⟩
      · rw [insI_eq]; exact may_new hro hamt.1 (by omega)
      · rw [eq]; exact h.may q hq
    g47 := fun i hi b hb' => by
      show Fx.insI L.R k _ i b ≤ _
      rcases insI_old hkn hi with rfl | ⟨q, hq, eq, _, _⟩
      · rw [insI_eq]
        show (if b = regN v then v.amt else 0) ≤ _
        split <;> omega
      · rw [eq]; exact h.g47 q hq b hb'
    kn := h.kn }
theorem inv_R {L' : LdC} {T' : Nat} (h : Inv0 L T) (e1 : L'.nn = L.nn) (e2 : L'.id = L.id) (e3 : L'.par = L.par) (e4 : L'.tn = L.tn) (e5 : L'.t = L.t) (e6 : L'.known = L.known) (hg : L'.gn ≤ T') (hr : ∀ i, i < 6 → L'.rn i ≤ T')
    (hP : ∀ k, k < L.nn → may (L'.R k) = true ∧ ∀ a, a < 6 → L'.R k a ≤ 140737488355328) : Inv0 L' T' where
  tnn := by rw [e1, e4]; exact h.tnn
  nn := by rw [e1]; exact h.nn
  tid := by rw [e1, e2, e3, e5]; exact h.tid
  rise := by rw [e1, e2]; exact h.rise
  pos := by rw [e1, e2]; exact h.pos
  top := by rw [e1, e2]; exact h.top
  up := by rw [e1, e2, e3]; exact h.up
  dep := by rw [e4, e5]; exact h.dep
  gn := hg
  rn := hr
  may := by rw [e1]; exact fun k hk => (hP k hk).1
  g47 := by rw [e1]; exact fun k hk => (hP k hk).2
  kn := by rw [e6]; exact h.kn
def Ok47 (x : Nat → Int) : Prop := may x = true ∧ ∀ a, a < 6 → x a ≤ 140737488355328
theorem walkR_ok {f : (Nat → Int) → (Nat → Int) × Int} {idx : Nat → Nat} {R : Nat → Nat → Int} {n : Nat} (hs : ∀ x, Ok47 x → (f x).2 = 0 → Ok47 (f x).1) (h0 : ∀ k, k < n → Ok47 (R k)) : ∀ K k, k < n → Ok47 ((walkR f idx R K).1 k)
  | 0, k, hk => h0 k hk
  | K + 1, k, hk => by
    have ih := walkR_ok hs h0 (idx := idx) K
    unfold walkR
    by_cases h1 : (walkR f idx R K).2 = 0
    · rw [if_pos h1]
      by_cases h2 : (f ((walkR f idx R K).1 (idx K))).2 = 0
      · rw [if_pos h2]
        show Ok47 (if k = idx K then _ else _)
        by_cases h3 : k = idx K
        · rw [if_pos h3]; exact hs _ (by rw [← h3]; exact ih k hk) h2
        · rw [if_neg h3]; exact ih k hk
      · rw [if_neg h2]; exact ih k hk
    · rw [if_neg h1]; exact ih k hk
theorem take_47 {x : Nat → Int} {i n : Int} (h : Ok47 x) (h2 : (takeM x i n).2 = 0) : Ok47 (takeM x i n).1 := by
  obtain ⟨a, ha, _, _, _, _, _, hm, _, _, _, e⟩ := take_ok h2
  exact ⟨hm, fun b hb => by rw [e, upd_other _ _ _ _ (by omega)]; exact h.2 b hb⟩
theorem free_47 {x : Nat → Int} {i n : Int} (h : Ok47 x) (h2 : (freeM x i n).2 = 0) : Ok47 (freeM x i n).1 := by
  obtain ⟨a, ha, _, _, _, _, hm, _, _, _, e⟩ := free_ok h2
  exact ⟨hm, fun b hb => by rw [e, upd_other _ _ _ _ (by omega)]; exact h.2 b hb⟩
theorem move_47 {x : Nat → Int} {i j n : Int} (h : Ok47 x) (h2 : (moveM x i j n).2 = 0) : Ok47 (moveM x i j n).1 := by
  obtain ⟨a, b, ha, hb, _, _, _, _, _, _, hm, e⟩ := move_ok h2
  exact ⟨hm.may, fun c hc => by rw [e, upd_other _ _ _ _ (by omega)]; exact h.2 c hc⟩
theorem raise_47 {x : Nat → Int} {a : Nat} {n : Int} (ha : a < 6) (h : Ok47 x) (hn : 0 ≤ n) (h2 : ¬ 140737488355328 < x a + n) : Ok47 (upd x a (x a + n)) := by
  have hm := (may_iff x).1 h.1
  have e : ∀ p, upd x a (x a + n) p = if p = a then x a + n else x p := fun p => rfl
  have hx := hm.1 a (by omega)
  have hg : ∀ b, b < 6 → upd x a (x a + n) b ≤ 140737488355328 := fun b hb => by
    rw [e]; split
    · omega
    · exact h.2 b hb
  refine ⟨(may_iff _).2 ⟨fun p hp => ?_, fun k hk => ?_, ?_⟩, hg⟩
  · have := hm.1 p hp
    rw [e]; split <;> omega
  · obtain ⟨h3, h4, h5⟩ := hm.2.1 k hk
    have hc : C (upd x a (x a + n)) k = C x k := by unfold C; rw [e, if_neg (by omega)]
    have hf : F (upd x a (x a + n)) k = F x k := by unfold F; rw [e, if_neg (by omega)]
    refine ⟨?_, ?_, ?_⟩
    · rw [L_low x a (by omega), hc, hf, G_upd]; split <;> omega
    · rw [hc, hf]; exact h4
    unfold R; rw [e, if_neg (by omega)]; exact h5
  unfold gSum G
  have := hg 0 (by omega); have := hg 1 (by omega); have := hg 2 (by omega); have := hg 3 (by omega); have := hg 4 (by omega); have := hg 5 (by omega)
  omega
theorem Inv0.ok47 (h : Inv0 L T) : ∀ k, k < L.nn → Ok47 (L.R k) := fun k hk => ⟨h.may k hk, h.g47 k hk⟩
theorem rn_more (h : Inv0 L T) (a : Nat) : ∀ i, i < 6 → updA L.rn a (L.rn a + 1) i ≤ T + 1 := fun i hi => by
  unfold updA
  by_cases e : i = a
  · subst e; rw [if_pos rfl]; have := h.rn i hi; omega
  · rw [if_neg e]; have := h.rn i hi; omega
theorem updA_ok {q : Nat} {r : Nat → Int} (h : ∀ k, k < L.nn → Ok47 (L.R k)) (hr : Ok47 r) : ∀ k, k < L.nn → Ok47 (updA L.R q r k) := fun k hk => by
  unfold updA; split
  · exact hr
  · exact h k hk
theorem Inv0.nodeK (h : Inv0 L T) {x : Int} (hx : ¬ L.node x < 0) : (L.node x).toNat < L.nn := by
  rw [h.node] at hx ⊢
  obtain ⟨j, hj, e, _⟩ := find_nat (show 0 ≤ findT L.t L.tn x by omega)
  rw [e]; have := h.tnn; simp; omega
theorem inv_takes (h : Inv0 L T) (hw : ∀ k, k < L.nn → Ok47 ((takesW L v).1 k)) : Inv0 (takesC L v) (T + 1) := by
  unfold takesC addReq
  generalize takesW L v = W at hw
  exact inv_R h rfl rfl rfl rfl rfl rfl (Nat.succ_le_succ h.gn) (rn_more h _) hw
theorem inv_frees (h : Inv0 L T) (hw : ∀ k, k < L.nn → Ok47 ((freesW L v).1 k)) : Inv0 (freesC L v) (T + 1) := by
  unfold freesC addReq
  generalize freesW L v = W at hw
  exact inv_R h rfl rfl rfl rfl rfl rfl (Nat.le_succ_of_le h.gn) (rn_more h _) hw
theorem inv_does (h : Inv0 L T) (hm : mayE v = true) (hE : doesE L v = 0) : Inv0 (doesC L v) (T + 1) := by
  have hk := fields_kind hm
  have hro := regN_lt hm
  have hg := h.gn
  have hT : ∀ i, i < 6 → L.rn i ≤ T + 1 := fun i hi => Nat.le_succ_of_le (h.rn i hi)
  unfold doesE at hE
  unfold doesC
  by_cases k1 : v.kind = 1
  · rw [if_pos k1] at hE ⊢; exact inv_makes h hm k1 hE
  by_cases k2 : v.kind = 2
  · rw [if_neg k1, if_pos k2] at hE ⊢
    unfold raiseE at hE
    split at hE; · cases hE
    rename_i n1
    split at hE; · cases hE
    rename_i n2
    have hb := fields_amt hm (.inl k2)
    exact inv_R h rfl rfl rfl rfl rfl rfl (Nat.le_succ_of_le hg) hT (updA_ok h.ok47 (raise_47 hro (h.ok47 _ (h.nodeK n1)) (by omega) n2))
  by_cases k3 : v.kind = 3
  · rw [if_neg k1, if_neg k2, if_pos k3] at hE ⊢
    have hw : ∀ k, k < L.nn → Ok47 ((takesW L v).1 k) := by unfold takesW; exact walkR_ok (fun x => take_47) h.ok47 _
    exact inv_takes h hw
  by_cases k4 : v.kind = 4
  · rw [if_neg k1, if_neg k2, if_neg k3, if_pos k4] at hE ⊢
    have hw : ∀ k, k < L.nn → Ok47 ((freesW L v).1 k) := by unfold freesW; exact walkR_ok (fun x => free_47) h.ok47 _
    exact inv_frees h hw
  by_cases k5 : v.kind = 5
  · rw [if_neg k1, if_neg k2, if_neg k3, if_neg k4, if_pos k5] at hE ⊢
    unfold movesE at hE
    split at hE; · cases hE
    rename_i n1
    split at hE; · cases hE
    exact inv_R h rfl rfl rfl rfl rfl rfl (Nat.le_succ_of_le hg) hT (updA_ok h.ok47 (move_47 (h.ok47 _ (h.nodeK n1)) hE))
  rw [if_neg k1, if_neg k2, if_neg k3, if_neg k4, if_neg k5]
  split
  · exact inv_R h rfl rfl rfl rfl rfl rfl (Nat.le_succ_of_le hg) hT h.ok47
  exact inv_R h rfl rfl rfl rfl rfl rfl (Nat.le_succ_of_le hg) hT h.ok47
theorem inv0_apply (h : Inv0 L T) : Inv0 (applyC L v) (T + 1) := by
  unfold applyC
  by_cases h0 : applyE L v = 0
  · rw [if_pos h0]
    unfold applyE at h0
    split at h0; · cases h0
    rename_i h1
    split at h0; · cases h0
    split at h0; · cases h0
    rename_i h3
    split at h0; · cases h0
    have hm : mayE v = true := by simpa using h1
    have hr : readyE L.known v = true := by simpa using h3
    have hd := inv_does h hm h0
    have hro := regN_lt hm
    have hs := may_seq hm
    refine { hd with kn := fun i hi => ?_ }
    have ek : (knowC (doesC L v) v).known = updA L.known (regN v) (L.known (regN v) + 1) := by unfold knowC; simp only [doesC_known]
    rw [ek]
    unfold readyE at hr
    simp only [Bool.and_eq_true, decide_eq_true_eq] at hr
    have hk := h.kn
    unfold updA
    split
    · have h5 := hr.1.2
      have h6 : v.seq = L.known (regN v) + 1 := h5
      have := hk (regN v) hro
      omega
    exact hk i hi
  rw [if_neg h0]; exact h.mono (Nat.le_succ T)
end
end Rt
end
end Go.Proofs.Ytleajegppehbdaa
