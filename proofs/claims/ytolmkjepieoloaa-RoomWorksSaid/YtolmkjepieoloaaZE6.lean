/-
  What the proof of the law rests on, part 6: walks of functions, and plain laws; each says its conditions itself.
-/
import Derived.Test.YtolmkjepieoloaaZE5
namespace Go.Proofs.Ytolmkjepieoloaa
open Go.RowKit Rt
open Fx (x_move x_assign x_field x_load1 x_pickF x_pickT x_nil x_conv x_indexS x_index x_leqF x_loadA x_len x_gtrF x_build x_eqlF x_eqlT)
theorem Rt.one3 {z y : Nat → Value} (hy : ∀ j, j < 3 → (y j).oneCell' = true) : ∀ j, j < 1 * 3 → (Fx.ovr z (0 * 3) 3 y j).oneCell' = true := fun j hj => by
  unfold Fx.ovr; rw [if_pos (by omega)]; exact hy _ (by omega)
theorem Rt.pathS_pos {id par : Nat → Int} {n : Nat} {x : Int} (h : 0 ≤ firstS id n x) : 1 ≤ pathS id par n x := by
  rcases Nat.lt_or_ge 0 (pathS id par n x) with h1 | h1
  · exact h1
  · exfalso
    have : pathS id par n x = 0 := by omega
    have h2 : ∀ N, lead (fun i => decide (0 ≤ firstS id n (iterS id par n i x))) (N + 1) ≠ 0 := fun N => by
      induction N with
      | zero => unfold lead; rw [if_pos ⟨rfl, decide_eq_true h⟩]; decide
      | succ N ih => unfold lead; split <;> omega
    exact h2 31 this
set_option maxRecDepth 10000 in
set_option maxHeartbeats 1000000 in
theorem ro_gifts (s : StM) (id par : Nat → Int) (R : Nat → Nat → Int) (x : Int) (w : World) (hnd : Fx.Arr w s.na s.nn 56 (Fx.flat 56 fun k => ndY (id k) (par k) (R k))) (hnn : s.nn ≤ 1000000) (hlo : ∀ x, 0 ≤ firstS id s.nn x → LoOk (locI id s.nn R x)) (nl a : Nat) (y : Int) (ha : a < 6) (hnl : nl = (liveN s 6).length) (hli : liveI s ((a : Int) + 1) = true) (hf : 0 ≤ firstS id s.nn x) (hy : 1 ≤ y ∧ y ≤ 1125899906842624) :
    Calls Try.prog 59 #[.agg (Fx.varr 20 (stY s)), .int .i64 ((a : Int) + 1), .int .u64 (x), .int .i64 (y)] w fun e w' => ((∃ v n, e = .returned (.tuple #[v, .int .i64 (0)]) ∧ (∀ q, q < (pathS id par s.nn x) → okG (liveN s 6) nl y a (locI id s.nn R (iterS id par s.nn q x)) = true) ∧ n = (allG (liveN s 6) nl y a (fun p => locI id s.nn R (iterS id par s.nn p x)) (fun p => iterS id par s.nn p x) (pathS id par s.nn x)).length ∧ Fx.Own w' w.heap.size 122 3 v n (gfX (allG (liveN s 6) nl y a (fun p => locI id s.nn R (iterS id par s.nn p x)) (fun p => iterS id par s.nn p x) (pathS id par s.nn x)))) ∨ (e = .returned (.tuple #[.slice none 0 0, .int .i64 (11)]) ∧ ∃ q, q < (pathS id par s.nn x) ∧ okG (liveN s 6) nl y a (locI id s.nn R (iterS id par s.nn q x)) = false)) ∧ Below w.heap.size w w' := by
 have hlv := live_ok s hnl
 refine Fx.enter Try.func59 rfl (n := 91) rfl (by rfl) ?_
 refine Fx.W.seq (Fx.W.list (Fx.L.box (m := 20) (y := stY s) (by rfl) rfl rfl (Fx.cells_agg _ _) rfl fun g1 w1 eg1 m1 s1 z1 => ?_))
 have b1 := s1.below (Below.refl w.heap.size w) (Below.refl w.heap.size w).size (Below.refl w.heap.size w).size
 have lg1 : w.heap.size ≤ g1 := by rw [eg1]; exact (Below.refl w.heap.size w).size
 have tg1 : g1 < w1.heap.size := m1.lt
 clear eg1
 refine Fx.L.v (.slice none 0 0) (x_assign rfl rfl) (Fx.L.v (.int .i64 (0)) (x_assign rfl rfl) (Fx.L.nil (Fx.seqN (Fx.W.seq (Fx.W.list (Fx.L.v (.agg (Fx.varr 20 (stY s))) (x_loadA (x := stY s) (y := stY s) rfl rfl (by kernel_rfl) (by kernel_rfl) m1.cel (i := 0) (by omega) (by omega) (fun j _ => by rw [Nat.zero_add])) (Fx.L.v (.int .u64 (x)) (x_move rfl rfl) (Fx.L.call (by rfl) (Fx.r_call (args := [.agg (Fx.varr 20 (stY s)), .int .u64 (x)]) rfl rfl Try.func38 rfl rfl) rfl ((q_path s id par R x _ (hnd.up b1 rfl) hnn).mono ?_)))))))))
 rintro e9 w2 ⟨vq1, P, he, hP, hOq1, hbq1⟩
 obtain ⟨aq1, capq1, rfl⟩ := hOq1.val
 refine ⟨_, he, ?_⟩
 clear he
 have s2 := Fx.Stp.of_below hbq1
 have m2 := m1.stp s2 (Nat.ne_of_lt (m1.lt))
 have b2 := s2.below b1 b1.size b1.size
 have hP32 : P ≤ 32 := by rw [hP]; exact path_le
 refine Fx.L.v (.slice aq1 (P) (capq1)) (x_assign rfl rfl) (Fx.L.nil (Fx.seqN (Fx.W.seq (Fx.W.list (Fx.L.v (.agg (Fx.varr 20 (stY s))) (x_loadA (x := stY s) (y := stY s) rfl rfl (by kernel_rfl) (by kernel_rfl) m2.cel (i := 0) (by omega) (by omega) (fun j _ => by rw [Nat.zero_add])) (Fx.L.call (by rfl) (Fx.r_call (args := [.agg (Fx.varr 20 (stY s))]) rfl rfl Try.func30 rfl rfl) rfl ((m_live s _).mono ?_)))))))
 rintro e9 w3 ⟨v9, n9, he, hn9, hO9, hb9⟩
 obtain ⟨a9, cap9, rfl⟩ := hO9.val
 obtain rfl : nl = n9 := hnl.trans hn9.symm
 refine ⟨.slice a9 nl cap9, he, ?_⟩
 clear he
 have s3 := Fx.Stp.of_below hb9
 have m3 := m2.stp s3 (Nat.ne_of_lt (m2.lt))
 have m4 := hOq1.stp s3 (hOq1.notNew (Nat.le_refl _))
 have b3 := s3.below b2 b2.size b2.size
 have hn9l : nl ≤ 6 := by rw [hnl]; exact live_len s 6
 refine Fx.L.v (.slice a9 (nl) (cap9)) (x_assign rfl rfl) (Fx.L.nil (Fx.seqN (Fx.W.seq (Fx.W.block (Fx.W.seq (Fx.W.seq (Fx.W.list (Fx.L.v (.int .i64 (y)) (x_move rfl rfl) (Fx.L.v (.bool false) (Fx.x_lssF rfl rfl rfl (by omega)) (Fx.L.v (.bool false) (x_assign rfl rfl) (Fx.L.nil (Fx.seqN (Fx.W.cond (b := false) rfl (fun h => nomatch h) (fun _ => Fx.W.list (Fx.L.v (.int .i64 (y)) (x_move rfl rfl) (Fx.L.v (.bool false) (x_gtrF rfl rfl rfl (by omega)) (Fx.L.v (.bool false) (x_assign rfl rfl) (Fx.L.nil (Fx.seqN (Fx.W.cond (b := false) rfl (fun h => nomatch h) (fun _ => Fx.W.seq (Fx.W.list (Fx.L.v (.slice aq1 (P) (capq1)) (x_move rfl rfl) (Fx.L.v (.int .i64 ((P : Int))) (x_len rfl rfl rfl (by kernel_rfl)) (Fx.L.v (.bool false) (x_eqlF rfl rfl rfl (by have := pathS_pos (par := par) hf; omega)) (Fx.L.v (.bool false) (x_assign rfl rfl) (Fx.L.nil (Fx.seqN (Fx.W.cond (b := false) rfl (fun h => nomatch h) (fun _ => Fx.W.seq (Fx.W.list (Fx.L.v (.slice a9 (nl) (cap9)) (x_move rfl rfl) (Fx.L.v (.int .i64 ((a : Int) + 1)) (x_move rfl rfl) (Fx.L.call (by rfl) (Fx.r_call (args := [.slice a9 (nl) (cap9), .int .i64 ((a : Int) + 1)]) rfl rfl Try.func75 rfl rfl) rfl (((g_contains a9 nl cap9 (liveN s 6) ((a : Int) + 1) _ hO9.arr (by omega)).mono (fun e w2 h2 => (⟨h2.1.trans (by rw [hnl, live_has]), h2.2⟩ : e = .returned (.bool (liveI s ((a : Int) + 1))) ∧ _))).mono ?_)))))))))))))))))))))))))))))))))))
 rintro e w4 ⟨he, hb1⟩
 refine ⟨.bool true, by rw [he, hli], ?_⟩
 clear he
 have s4 := Fx.Stp.of_below hb1
 have m5 := m3.stp s4 (Nat.ne_of_lt (m3.lt))
 have m6 := m4.stp s4 (m4.notNew (Nat.le_refl _))
 have m7 := hO9.stp s4 (hO9.notNew (Nat.le_refl _))
 have b4 := s4.below b3 b3.size b3.size
 refine Fx.L.v (.bool false) (Fx.x_notF rfl rfl) (Fx.L.v (.bool false) (x_assign rfl rfl) (Fx.L.nil (Fx.seqN (Fx.W.cond (b := false) rfl (fun h => nomatch h) (fun _ => Fx.W.skip (Fx.blkN (Fx.seqN (Fx.W.seq (Fx.W.seq (Fx.W.list (Fx.L.v (.slice aq1 (P) (capq1)) (x_move rfl rfl) (Fx.L.v (.int .i64 ((P : Int))) (x_len rfl rfl rfl (by kernel_rfl)) (Fx.L.v (.int .i64 (0)) (x_move rfl rfl) (Fx.L.nil (Fx.seqN (Fx.W.block ?_))))))))))))))))
 have m8 : Fx.Own w4 w.heap.size 122 3 (.slice none 0 0) 0 (gfX (allG (liveN s 6) nl y a (fun p => locI id s.nn R (iterS id par s.nn p x)) (fun p => iterS id par s.nn p x) 0)) := Fx.Own.nil _ _ _ _ _
 refine Fx.W.loop (fun f w_ => ∃ k : Nat, ∃ no : Nat, ∃ ao : Option Addr, ∃ co : Nat, k ≤ P ∧ no = (allG (liveN s 6) nl y a (fun p => locI id s.nn R (iterS id par s.nn p x)) (fun p => iterS id par s.nn p x) k).length ∧ no ≤ 5 * k ∧ (∀ q, q < k → okG (liveN s 6) nl y a (locI id s.nn R (iterS id par s.nn q x)) = true) ∧ f 1 = .int .i64 ((a : Int) + 1) ∧ f 3 = .int .i64 (y) ∧ f 4 = .pointer (some ⟨g1, 0, none⟩) ∧ f 10 = .slice aq1 (P) (capq1) ∧ f 11 = .slice a9 (nl) (cap9) ∧ f 36 = .slice aq1 (P) (capq1) ∧ f 37 = .int .i64 ((P : Int)) ∧ f 8 = .slice ao (no) (co) ∧ f 38 = .int .i64 ((k : Int)) ∧ Fx.Blk w_ g1 20 (stY s) 43 ∧ Fx.Own w_ w1.heap.size 27 1 (.slice aq1 (P) (capq1)) P (ptU id par s.nn x) ∧ Fx.Own w_ w2.heap.size 3 1 (.slice a9 (nl) (cap9)) nl (lsX (liveN s 6)) ∧ Fx.Own w_ w.heap.size 122 3 (.slice ao (no) (co)) no (gfX (allG (liveN s 6) nl y a (fun p => locI id s.nn R (iterS id par s.nn p x)) (fun p => iterS id par s.nn p x) k)) ∧ Below w.heap.size w w_) (fun f _ => (P - (intOf (f 38)).toNat)) ⟨0, 0, none, 0, by omega, rfl, by omega, (fun q h => absurd h (by omega)), (by first | rfl | exact congrArg (Value.int .i64) (by omega)), (by first | rfl | exact congrArg (Value.int .i64) (by omega)), (by rfl), (by rfl), (by rfl), (by rfl), (by first | rfl | exact congrArg (Value.int .i64) (by omega)), (by rfl), (by first | rfl | exact congrArg (Value.int .i64) (by omega)), m5, m6, m7, m8, b4⟩ ?_
 rintro f1 w5 ⟨k, no, ao, co, hk, hno, hn5, hok, h1, h2, h3, h4, h5, h6, h7, h8, h9, m9, m10, m11, m12, b5⟩
 refine Fx.W.seq (Fx.W.list ?_)
 by_cases c39 : (k : Int) < (P : Int)
 ·refine Fx.L.v (.bool true) (Fx.x_lssT rfl h9 h7 c39) (Fx.L.nil (Fx.seqN (Fx.W.seq (Fx.W.cond (b := true) rfl (fun _ => Fx.W.skip (Fx.seqN (Fx.W.seq (Fx.W.block (Fx.W.seq (Fx.W.list ?_)))))) (fun h => nomatch h)))))
  obtain ⟨gq1, eq1⟩ := m10.addr (by omega)
  have m13 : Fx.Own w5 w1.heap.size 27 1 (.slice (some ⟨gq1, 0, none⟩) P capq1) P (ptU id par s.nn x) := m10.congV (congrArg (fun q => Value.slice q P capq1) eq1)
  refine Fx.L.v (.pointer (some ⟨gq1, k, none⟩)) (x_indexS rfl (h6.trans (congrArg (fun q => Value.slice q (P) (capq1)) eq1)) h9 Try.underlying68 (s := 1) (by kernel_rfl) (by omega) (by omega) (by omega)) (Fx.L.v (.int .u64 (iterS id par s.nn k x)) (x_load1 (x := ptU id par s.nn x) rfl rfl (by kernel_rfl) m13.cel (i := k) (by omega) (by omega) rfl) (Fx.L.v (.int .u64 (iterS id par s.nn k x)) (x_assign rfl rfl) (Fx.L.nil (Fx.seqN (Fx.W.seq (Fx.W.list (Fx.L.v (.agg (Fx.varr 20 (stY s))) (x_loadA (x := stY s) (y := stY s) rfl h3 (by kernel_rfl) (by kernel_rfl) m9.cel (i := 0) (by omega) (by omega) (fun j _ => by rw [Nat.zero_add])) (Fx.L.v (.int .u64 (iterS id par s.nn k x)) (x_move rfl rfl) (Fx.L.call (by rfl) (Fx.r_call (args := [.agg (Fx.varr 20 (stY s)), .int .u64 (iterS id par s.nn k x)]) rfl rfl Try.func105 rfl rfl) rfl ((ro_local s id par R (iterS id par s.nn k x) _ (hnd.up b5 rfl) hnn (pathS_lt (by omega))).mono ?_))))))))))
  rintro e w6 ⟨he, hb2⟩
  refine ⟨.agg (Fx.varr 6 (Fx.rv .i64 (locI id s.nn R (iterS id par s.nn k x)))), by rw [he], ?_⟩
  clear he
  have s5 := Fx.Stp.of_below hb2
  have m14 := m9.stp s5 (Nat.ne_of_lt (m9.lt))
  have m15 := m11.stp s5 (m11.notNew (Nat.le_refl _))
  have m16 := m12.stp s5 (m12.notNew (Nat.le_refl _))
  have m17 := m13.stpB s5 (Nat.ne_of_lt (m13.lt))
  have b6 := s5.below b5 b5.size b5.size
  refine Fx.L.new (m := 6) (y := Fx.rv .i64 (fun _ => 0)) (by rfl) rfl (by kernel_rfl) rfl fun g2 w7 eg2 m18 s6 z2 => ?_
  have m19 := m14.stp s6 (Nat.ne_of_lt (m14.lt))
  have m20 := m15.stp s6 (m15.notNew (Nat.le_refl _))
  have m21 := m16.stp s6 (m16.notNew (Nat.le_refl _))
  have m22 := m17.stpB s6 (Nat.ne_of_lt (m17.lt))
  have b7 := s6.below b6 b6.size b6.size
  have lg2 : w.heap.size ≤ g2 := by rw [eg2]; exact b6.size
  have ng2m19 : g1 ≠ g2 := by rw [eg2]; exact Nat.ne_of_lt (m14.lt)
  have ng2m22 : gq1 ≠ g2 := by rw [eg2]; exact Nat.ne_of_lt (m17.lt)
  have tg2 : g2 < w7.heap.size := m18.lt
  clear eg2
  refine Fx.L.storeA (x := Fx.rv .i64 (fun _ => 0)) (y := Fx.rv .i64 (locI id s.nn R (iterS id par s.nn k x))) (by rfl) rfl rfl rfl rfl (fun _ _ => rfl) (by kernel_rfl) m18 (i := 0) (by omega) fun w8 m23 s7 z3 => ?_
  have m24 : Fx.Blk w8 g2 6 (Fx.rv .i64 (locI id s.nn R (iterS id par s.nn k x))) 45 := Fx.ovr_all m23
  have hct1 := Fx.ChT.of_stp s7 m18.ty
  have m25 := m19.chT hct1 (by decide)
  have m26 := m20.chT hct1 (by decide)
  have m27 := m21.chT hct1 (by decide)
  have m28 := m22.chT hct1 (by decide)
  have b8 := s7.below b7 b7.size (by omega)
  refine Fx.L.nil (Fx.seqN (Fx.W.block ?_))
  have m29 : Fx.Own w8 w1.heap.size 27 1 (.slice aq1 (P) (capq1)) P (ptU id par s.nn x) := m28.congV (congrArg (fun q => Value.slice q P capq1) eq1.symm)
  obtain ⟨l0, el0⟩ : ∃ q, q = locI id s.nn R (iterS id par s.nn k x) := ⟨_, rfl⟩
  have m31 : Fx.Blk w8 g2 6 (Fx.rv .i64 (itG (liveN s 6) nl y a l0 0)) 45 := m24.to (by rw [el0]; rfl)
  have hl0 : LoOk l0 := by rw [el0]; exact hlo _ (pathS_lt (by omega))
  have m30 := m27.congr (y := gfX (allG (liveN s 6) nl y a (fun p => locI id s.nn R (iterS id par s.nn p x)) (fun p => iterS id par s.nn p x) k ++ gfN (liveN s 6) nl y a l0 (iterS id par s.nn k x) 0)) (fun j _ => by unfold gfN; rw [List.append_nil])
  refine Fx.W.loop (fun f w_ => ∃ m : Nat, ∃ n2 : Nat, ∃ a2 : Option Addr, ∃ c2 : Nat, m ≤ 5 ∧ n2 = no + m ∧ (∀ q, q < m → goG (liveN s 6) nl y a l0 q = true) ∧ f 1 = .int .i64 ((a : Int) + 1) ∧ f 3 = .int .i64 (y) ∧ f 4 = .pointer (some ⟨g1, 0, none⟩) ∧ f 10 = .slice aq1 (P) (capq1) ∧ f 11 = .slice a9 (nl) (cap9) ∧ f 13 = .int .u64 (iterS id par s.nn k x) ∧ f 14 = .pointer (some ⟨g2, 0, none⟩) ∧ f 36 = .slice aq1 (P) (capq1) ∧ f 37 = .int .i64 ((P : Int)) ∧ f 38 = .int .i64 ((k : Int)) ∧ f 8 = .slice a2 (n2) (c2) ∧ Fx.Blk w_ g1 20 (stY s) 43 ∧ Fx.Own w_ w2.heap.size 3 1 (.slice a9 (nl) (cap9)) nl (lsX (liveN s 6)) ∧ Fx.Own w_ w1.heap.size 27 1 (.slice aq1 (P) (capq1)) P (ptU id par s.nn x) ∧ Fx.Blk w_ g2 6 (Fx.rv .i64 (itG (liveN s 6) nl y a l0 m)) 45 ∧ Fx.Own w_ w.heap.size 122 3 (.slice a2 (n2) (c2)) n2 (gfX (allG (liveN s 6) nl y a (fun p => locI id s.nn R (iterS id par s.nn p x)) (fun p => iterS id par s.nn p x) k ++ gfN (liveN s 6) nl y a l0 (iterS id par s.nn k x) m)) ∧ Below w.heap.size w w_) (fun f _ => (no + 6 - lenV (f 8))) ⟨0, no, ao, co, by omega, by omega, (fun q h => absurd h (by omega)), (h1.trans (by first | rfl | exact congrArg (Value.int .i64) (by omega))), (h2.trans (by first | rfl | exact congrArg (Value.int .i64) (by omega))), h3, h4, h5, (by first | rfl | exact congrArg (Value.int .u64) (by omega)), (by rfl), h6, (h7.trans (by first | rfl | exact congrArg (Value.int .i64) (by omega))), (h9.trans (by first | rfl | exact congrArg (Value.int .i64) (by omega))), h8, m25, m26, m29, m31, m30, b8⟩ ?_
  rintro f2 w9 ⟨m, n2, a2, c2, hm, hn2, hall, h10, h11, h12, h13, h14, h15, h16, h17, h18, h19, h20, m32, m33, m34, m35, m36, b9⟩
  refine Fx.W.seq (Fx.W.seq (Fx.W.list (Fx.L.v (.int .i64 ((a : Int) + 1)) (x_move rfl h10) (Fx.L.v (.int .i64 ((a : Int))) (Fx.x_sub rfl rfl rfl (Fx.i64e (by omega) (by omega))) (Fx.L.v (.pointer (some ⟨g2, a, none⟩)) (x_index rfl h16 rfl Try.underlying45 (s := 1) (by kernel_rfl) (by omega) (by omega) (by omega)) (Fx.L.v (.int .i64 ((itG (liveN s 6) nl y a l0 m) a)) (x_load1 (x := Fx.rv .i64 (itG (liveN s 6) nl y a l0 m)) rfl rfl (by kernel_rfl) m35.cel (i := a) (by omega) (by omega) rfl) (Fx.L.v (.int .i64 (y)) (x_move rfl h11) ?_)))))))
  by_cases c50 : ((itG (liveN s 6) nl y a l0 m) a) < y
  ·refine Fx.L.v (.bool true) (Fx.x_lssT rfl rfl rfl c50) (Fx.L.nil (Fx.seqN (Fx.W.cond (b := true) rfl (fun _ => Fx.W.skip (Fx.seqN (Fx.W.block (Fx.W.seq ?_)))) (fun h => nomatch h))))
   obtain ⟨lm, elm⟩ : ∃ q, q = itG (liveN s 6) nl y a l0 m := ⟨_, rfl⟩
   have m37 : Fx.Blk w9 g2 6 (Fx.rv .i64 lm) 45 := m35.to (by rw [elm])
   have hlm : LoOk lm := by rw [elm]; exact it_ok hlv ha hl0 hy.2 m hall
   have hla := hlm a ha
   have hga : itG (liveN s 6) nl y a l0 m a = lm a := by rw [elm]
   refine Fx.W.list (Fx.L.v (.slice a9 (nl) (cap9)) (x_move rfl h14) (Fx.L.v (.agg (Fx.varr 6 (Fx.rv .i64 lm))) (x_loadA (x := Fx.rv .i64 lm) (y := Fx.rv .i64 lm) rfl h16 (by kernel_rfl) (by kernel_rfl) m37.cel (i := 0) (by omega) (by omega) (fun j _ => by rw [Nat.zero_add])) (Fx.L.v (.int .i64 ((a : Int) + 1)) (x_move rfl h10) (Fx.L.call (by rfl) (Fx.r_call (args := [.slice a9 (nl) (cap9), .agg (Fx.varr 6 (Fx.rv .i64 lm)), .int .i64 ((a : Int) + 1)]) rfl rfl Try.func106 rfl rfl) rfl ((ro_giver (liveN s 6) lm ((a : Int) + 1) a9 nl cap9 _ hlv m33.arr).mono ?_)))))
   rintro e w10 ⟨he, hb3⟩
   refine ⟨.int .i64 (gvN (liveN s 6) lm ((a : Int) + 1) nl), by rw [he], ?_⟩
   clear he
   have s8 := Fx.Stp.of_below hb3
   have m38 := m32.stp s8 (Nat.ne_of_lt (m32.lt))
   have m39 := m33.stp s8 (m33.notNew (Nat.le_refl _))
   have m40 := m34.stp s8 (m34.notNew (Nat.le_refl _))
   have m41 := m36.stp s8 (m36.notNew (Nat.le_refl _))
   have m42 := m37.stp s8 (Nat.ne_of_lt (m37.lt))
   have b10 := s8.below b9 b9.size b9.size
   refine Fx.L.v (.int .i64 (gvN (liveN s 6) lm ((a : Int) + 1) nl)) (x_assign rfl rfl) (Fx.L.nil (Fx.seqN (Fx.W.seq (Fx.W.seq ?_))))
   obtain ⟨fr, efr⟩ : ∃ q, q = frG (liveN s 6) nl a lm := ⟨_, rfl⟩
   refine Fx.W.list (Fx.L.v (.int .i64 (fr)) (x_move rfl (rfl.trans (congrArg (Value.int .i64) efr.symm))) ?_)
   by_cases c56 : fr = 0
   ·refine Fx.L.v (.bool true) (x_eqlT rfl rfl rfl c56) (Fx.L.nil (Fx.seqN (Fx.W.cond (b := true) rfl (fun _ => Fx.W.seq ?_) (fun h => nomatch h))))
    have hgo : goG (liveN s 6) nl y a l0 m = false := by unfold goG; rw [← elm, ← efr, decide_eq_true c56, Bool.not_true, Bool.and_false]
    have hcn : cntG (liveN s 6) nl y a l0 = m := cnt_is (by omega) hall hgo
    have hbad : okG (liveN s 6) nl y a (locI id s.nn R (iterS id par s.nn k x)) = false := by rw [← el0]; unfold okG; rw [hcn]; exact decide_eq_false (by omega)
    refine Fx.W.list (Fx.L.v (.slice none 0 0) (x_assign rfl rfl) (Fx.L.v (.int .i64 (11)) (x_assign rfl rfl) (Fx.L.nil (Fx.seqN (Fx.W.ret (Fx.seqR (Fx.blkR (Fx.lpR (Fx.blkR (Fx.blkR (Fx.seqR (Fx.lpR (Fx.blkR (Fx.seqR (⟨.tuple #[.slice none 0 0, .int .i64 (11)], Fx.retV2 Try.results59 (by exact rfl) (by exact rfl), ?_⟩)))))))))))))))
    exact ⟨.inr ⟨rfl, k, by omega, hbad⟩, b10⟩
   ·refine Fx.L.v (.bool false) (x_eqlF rfl rfl rfl c56) (Fx.L.nil (Fx.seqN (Fx.W.cond (b := false) rfl (fun h => nomatch h) (fun _ => Fx.W.skip (Fx.seqN (Fx.W.seq ?_))))))
    have hgo : goG (liveN s 6) nl y a l0 m = true := by unfold goG; rw [← elm, ← efr, decide_eq_false c56, Bool.not_false, Bool.and_true]; exact decide_eq_true (by omega)
    have hm5 := go_lt hlv ha hall hgo
    obtain ⟨b, hb, eb, hba, hpb, _⟩ := fr_some hlv (by rw [← efr]; exact c56)
    rw [← efr] at eb
    have hlb := hlm b hb
    -- region 18 draws
    refine Fx.W.quiet (fun v1 => ∃ q, v1 = World.drewN w10 q) (by kernel_rfl) (by kernel_rfl) ⟨1, rfl⟩ ?_
    refine Fx.Qt.v (.int .i64 ((b : Int) + 1)) (fun v1 hv1 => x_move rfl ((rfl.trans (congrArg (Value.int .i64) efr.symm)).trans (congrArg (Value.int .i64) eb))) (Fx.Qt.v (.int .i64 ((b : Int))) (fun v1 hv1 => Fx.x_sub rfl rfl rfl (Fx.i64e (by omega) (by omega))) (Fx.Qt.v (.pointer (some ⟨g2, b, none⟩)) (fun v1 hv1 => x_index rfl h16 rfl Try.underlying45 (s := 1) (by kernel_rfl) (by omega) (by omega) (by omega)) (Fx.Qt.v (.int .i64 (lm b)) (fun v1 hv1 => x_load1 (x := Fx.rv .i64 lm) rfl rfl (by kernel_rfl) (by obtain ⟨qd, rfl⟩ := hv1; exact m42.cel) (i := b) (by omega) (by omega) rfl) (Fx.Qt.v (.int .i64 (y)) (fun v1 hv1 => x_move rfl h11) (Fx.Qt.v (.int .i64 ((a : Int) + 1)) (fun v1 hv1 => x_move rfl h10) (Fx.Qt.v (.int .i64 ((a : Int))) (fun v1 hv1 => Fx.x_sub rfl rfl rfl (Fx.i64e (by omega) (by omega))) (Fx.Qt.v (.pointer (some ⟨g2, a, none⟩)) (fun v1 hv1 => x_index rfl h16 rfl Try.underlying45 (s := 1) (by kernel_rfl) (by omega) (by omega) (by omega)) (Fx.Qt.v (.int .i64 (lm a)) (fun v1 hv1 => x_load1 (x := Fx.rv .i64 lm) rfl rfl (by kernel_rfl) (by obtain ⟨qd, rfl⟩ := hv1; exact m42.cel) (i := a) (by omega) (by omega) rfl) (Fx.Qt.v (.int .i64 (y - (lm a))) (fun v1 hv1 => Fx.x_sub rfl rfl rfl (Fx.i64e (by omega) (by omega))) (Fx.Qt.v (.int .i64 (gAmt lm b a y)) (fun v1 hv1 => Fx.x_min rfl rfl rfl) (Fx.Qt.v (.int .i64 (gAmt lm b a y)) (fun v1 hv1 => x_assign rfl rfl) (Fx.Qt.nil ?_))))))))))))
    rintro _ ⟨qd, rfl⟩
    obtain ⟨wq1, ewq1⟩ : ∃ v1, v1 = World.drewN w10 qd := ⟨_, rfl⟩
    rw [← ewq1]
    have s9 : Fx.Stp w10.heap.size w10 wq1 := by rw [ewq1]; exact Fx.Stp.of_below (bdrN w10 qd)
    have m43 := m38.stp s9 (Nat.ne_of_lt (m38.lt))
    have m44 := m39.stp s9 (m39.notNew (Nat.le_refl _))
    have m45 := m40.stp s9 (m40.notNew (Nat.le_refl _))
    have m46 := m41.stp s9 (m41.notNew (Nat.le_refl _))
    have m47 := m42.stp s9 (Nat.ne_of_lt (m42.lt))
    have b11 := s9.below b10 b10.size b10.size
    clear ewq1
    refine Fx.seqN (Fx.W.seq ?_)
    obtain ⟨am, eam⟩ : ∃ q, q = gAmt lm b a y := ⟨_, rfl⟩
    have ham : 1 ≤ am ∧ am ≤ lm b ∧ am ≤ y - lm a := by rw [eam]; exact gAmt_bd (by omega) hpb
    refine Fx.W.list (Fx.L.v (.int .i64 ((b : Int) + 1)) (x_move rfl ((rfl.trans (congrArg (Value.int .i64) efr.symm)).trans (congrArg (Value.int .i64) eb))) (Fx.L.v (.int .i64 ((b : Int))) (Fx.x_sub rfl rfl rfl (Fx.i64e (by omega) (by omega))) (Fx.L.v (.pointer (some ⟨g2, b, none⟩)) (x_index rfl h16 rfl Try.underlying45 (s := 1) (by kernel_rfl) (by omega) (by omega) (by omega)) (Fx.L.v (.int .i64 (lm b)) (x_load1 (x := Fx.rv .i64 lm) rfl rfl (by kernel_rfl) m47.cel (i := b) (by omega) (by omega) rfl) (Fx.L.v (.int .i64 (am)) (x_move rfl (rfl.trans (congrArg (Value.int .i64) eam.symm))) (Fx.L.v (.int .i64 ((lm b) - am)) (Fx.x_sub rfl rfl rfl (Fx.i64e (by omega) (by omega))) (Fx.L.v (.pointer (some ⟨g2, b, none⟩)) (x_index rfl h16 rfl Try.underlying45 (s := 1) (by kernel_rfl) (by omega) (by omega) (by omega)) (Fx.L.store1 (x := Fx.rv .i64 lm) (u := .int .i64 ((lm b) - am)) (by rfl) rfl rfl rfl rfl (by rfl) (by kernel_rfl) m47 (i := b) (by omega) fun w11 m48 s10 z4 => ?_))))))))
    have m49 : Fx.Blk w11 g2 6 (Fx.rv .i64 (upd lm b ((lm b) - am))) 45 := m48.to (Fx.updV_rv _ _ _ _)
    have hct2 := Fx.ChT.of_stp s10 m47.ty
    have m50 := m43.chT hct2 (by decide)
    have m51 := m44.chT hct2 (by decide)
    have m52 := m45.chT hct2 (by decide)
    have m53 := m46.chT hct2 (by decide)
    have b12 := s10.below b11 b11.size (by omega)
    refine Fx.L.nil (Fx.seqN (Fx.W.seq ?_))
    have hua : (upd lm b (lm b - am)) a = lm a := upd_other _ _ _ _ (by omega)
    refine Fx.W.list (Fx.L.v (.int .i64 ((a : Int) + 1)) (x_move rfl h10) (Fx.L.v (.int .i64 ((a : Int))) (Fx.x_sub rfl rfl rfl (Fx.i64e (by omega) (by omega))) (Fx.L.v (.pointer (some ⟨g2, a, none⟩)) (x_index rfl h16 rfl Try.underlying45 (s := 1) (by kernel_rfl) (by omega) (by omega) (by omega)) (Fx.L.v (.int .i64 ((upd lm b ((lm b) - am)) a)) (x_load1 (x := Fx.rv .i64 (upd lm b ((lm b) - am))) rfl rfl (by kernel_rfl) m49.cel (i := a) (by omega) (by omega) rfl) (Fx.L.v (.int .i64 (am)) (x_move rfl (rfl.trans (congrArg (Value.int .i64) eam.symm))) (Fx.L.v (.int .i64 (((upd lm b ((lm b) - am)) a) + am)) (Fx.x_add rfl rfl rfl (Fx.i64e (by omega) (by omega))) (Fx.L.v (.pointer (some ⟨g2, a, none⟩)) (x_index rfl h16 rfl Try.underlying45 (s := 1) (by kernel_rfl) (by omega) (by omega) (by omega)) (Fx.L.store1 (x := Fx.rv .i64 (upd lm b ((lm b) - am))) (u := .int .i64 (((upd lm b ((lm b) - am)) a) + am)) (by rfl) rfl rfl rfl rfl (by rfl) (by kernel_rfl) m49 (i := a) (by omega) fun w12 m54 s11 z5 => ?_))))))))
    have m55 : Fx.Blk w12 g2 6 (Fx.rv .i64 (upd (upd lm b ((lm b) - am)) a (((upd lm b ((lm b) - am)) a) + am))) 45 := m54.to (Fx.updV_rv _ _ _ _)
    have hct3 := Fx.ChT.of_stp s11 m49.ty
    have m56 := m50.chT hct3 (by decide)
    have m57 := m51.chT hct3 (by decide)
    have m58 := m52.chT hct3 (by decide)
    have m59 := m53.chT hct3 (by decide)
    have b13 := s11.below b12 b12.size (by omega)
    refine Fx.L.nil (Fx.seqN ?_)
    have hnx : upd (upd lm b (lm b - am)) a ((upd lm b (lm b - am)) a + am) = itG (liveN s 6) nl y a l0 (m + 1) := by show mvG lm b a am = stG (liveN s 6) nl y a (itG (liveN s 6) nl y a l0 m); unfold stG; rw [← elm, ← efr, eb, show ((b : Int) + 1 - 1).toNat = b by omega, ← eam]
    have m60 : Fx.Blk w12 g2 6 (Fx.rv .i64 (itG (liveN s 6) nl y a l0 (m + 1))) 45 := m55.to (by rw [← hnx])
    have hone : oneG (liveN s 6) nl y a (iterS id par s.nn k x) (itG (liveN s 6) nl y a l0 m) = ⟨(b : Int) + 1, iterS id par s.nn k x, am⟩ := by unfold oneG; rw [← elm, ← efr, eb, show ((b : Int) + 1 - 1).toNat = b by omega, ← eam]
    refine Fx.W.list (Fx.L.v (.slice a2 (n2) (c2)) (x_move rfl h20) (Fx.L.v (.int .i64 ((b : Int) + 1)) (x_move rfl ((rfl.trans (congrArg (Value.int .i64) efr.symm)).trans (congrArg (Value.int .i64) eb))) (Fx.L.v (.int .u64 (iterS id par s.nn k x)) (x_move rfl h15) (Fx.L.v (.int .i64 (am)) (x_move rfl (rfl.trans (congrArg (Value.int .i64) eam.symm))) (Fx.L.v (.agg (Fx.varr 3 (Fx.ovr (Fx.ovr (Fx.ovr (fun zq => if zq < 1 then .int .i64 (0) else if zq < 2 then .int .u64 (0) else .int .i64 (0)) 0 1 (fun _ => .int .i64 ((b : Int) + 1))) 1 1 (fun _ => .int .u64 (iterS id par s.nn k x))) 2 1 (fun _ => .int .i64 (am))))) (x_build (vs := [(0, .int .i64 ((b : Int) + 1)), (1, .int .u64 (iterS id par s.nn k x)), (2, .int .i64 (am))]) (places := #[(0, 1), (1, 1), (2, 1)]) (m := 3) (x := fun zq => if zq < 1 then .int .i64 (0) else if zq < 2 then .int .u64 (0) else .int .i64 (0)) rfl rfl Try.underlying122 (by kernel_rfl) (by kernel_rfl) (by rw [Fx.fill_step (off := 0) (s := 1) (y := fun _ => .int .i64 ((b : Int) + 1)) (by kernel_rfl) (Fx.cells_one (by rfl)) (by rfl)]; rw [Fx.fill_step (off := 1) (s := 1) (y := fun _ => .int .u64 (iterS id par s.nn k x)) (by kernel_rfl) (Fx.cells_one (by rfl)) (by rfl)]; rw [Fx.fill_step (off := 2) (s := 1) (y := fun _ => .int .i64 (am)) (by kernel_rfl) (Fx.cells_one (by rfl)) (by rfl)]; rfl)) (Fx.L.bslice (vs := [(0, .agg (Fx.varr 3 (Fx.ovr (Fx.ovr (Fx.ovr (fun zq => if zq < 1 then .int .i64 (0) else if zq < 2 then .int .u64 (0) else .int .i64 (0)) 0 1 (fun _ => .int .i64 ((b : Int) + 1))) 1 1 (fun _ => .int .u64 (iterS id par s.nn k x))) 2 1 (fun _ => .int .i64 (am)))))]) (s := 3) (zc := fun zq => if zq < 1 then .int .i64 (0) else if zq < 2 then .int .u64 (0) else .int .i64 (0)) (y := Fx.ovr (fun j => (fun zq => if zq < 1 then .int .i64 (0) else if zq < 2 then .int .u64 (0) else .int .i64 (0)) (j % 3)) (0 * 3) 3 (Fx.ovr (Fx.ovr (Fx.ovr (fun zq => if zq < 1 then .int .i64 (0) else if zq < 2 then .int .u64 (0) else .int .i64 (0)) 0 1 (fun _ => .int .i64 ((b : Int) + 1))) 1 1 (fun _ => .int .u64 (iterS id par s.nn k x))) 2 1 (fun _ => .int .i64 (am)))) (by rfl) rfl rfl Try.underlying117 (by kernel_rfl) (by rfl) (by rfl) (by kernel_rfl) (by rw [Fx.fill_step (off := 0 * 3) (s := 3) (y := Fx.ovr (Fx.ovr (Fx.ovr (fun zq => if zq < 1 then .int .i64 (0) else if zq < 2 then .int .u64 (0) else .int .i64 (0)) 0 1 (fun _ => .int .i64 ((b : Int) + 1))) 1 1 (fun _ => .int .u64 (iterS id par s.nn k x))) 2 1 (fun _ => .int .i64 (am))) rfl (Fx.cells_agg _ _) (by rfl)]; rfl) rfl fun g3 w13 eg3 m61 s12 z6 => ?_))))))
    have m62 := m56.stp s12 (Nat.ne_of_lt (m56.lt))
    have m63 := m57.stp s12 (m57.notNew (Nat.le_refl _))
    have m64 := m58.stp s12 (m58.notNew (Nat.le_refl _))
    have m65 := m59.stp s12 (m59.notNew (Nat.le_refl _))
    have m66 := m60.stp s12 (Nat.ne_of_lt (m60.lt))
    have b14 := s12.below b13 b13.size b13.size
    have lg3 : w.heap.size ≤ g3 := by rw [eg3]; exact b13.size
    have ng3m62 : g1 ≠ g3 := by rw [eg3]; exact Nat.ne_of_lt (m56.lt)
    have ng3m65 : (.slice a2 (n2) (c2) : Value).ownBlock ≠ some g3 := by rw [eg3]; exact m59.notNew (Nat.le_refl _)
    have ng3m66 : g2 ≠ g3 := by rw [eg3]; exact Nat.ne_of_lt (m60.lt)
    have tg3 : g3 < w13.heap.size := m61.lt
    clear eg3
    refine Fx.L.app (B := w.heap.size) (s := 3) (bytes := 24) (k := n2) (m := 1) (v := .slice a2 (n2) (c2)) (x := gfX (allG (liveN s 6) nl y a (fun p => locI id s.nn R (iterS id par s.nn p x)) (fun p => iterS id par s.nn p x) k ++ gfN (liveN s 6) nl y a l0 (iterS id par s.nn k x) m)) (by rfl) rfl rfl rfl Try.underlying117 (by kernel_rfl) (by kernel_rfl) rfl rfl m65 m61.cel (one3 (fun j hj => by rcases j with _|_|_|j <;> first | rfl | omega)) (by omega) (by omega) (by omega) b14.size fun g4 cap1 w14 ho1 hg1 hgv1 hlt1 => ?_
    have hct4 := Fx.ChT.of_grown hg1 m65
    have m68 := m62.chT hct4 (by decide)
    have m69 := m63.chT hct4 (by decide)
    have m70 := m64.chT hct4 (by decide)
    have m71 := m66.chT hct4 (by decide)
    have m67 : Fx.Own w14 w.heap.size 122 3 (.slice (some ⟨g4, 0, none⟩) (n2 + 1) cap1) (n2 + 1) (gfX (allG (liveN s 6) nl y a (fun p => locI id s.nn R (iterS id par s.nn p x)) (fun p => iterS id par s.nn p x) k ++ gfN (liveN s 6) nl y a l0 (iterS id par s.nn k x) (m + 1))) := (ho1.congr (fun j hj => (gf_app (x := ⟨(b : Int) + 1, iterS id par s.nn k x, am⟩) (by rw [List.length_append, gfN_len, ← hno]; exact hn2) (fun j hj => by rcases j with _|_|_|j <;> first | rfl | omega) j hj).trans (by rw [← hone, List.append_assoc]; rfl)))
    have b15 : Below w.heap.size w w14 := Fx.Below.grow b14 hg1 b14.size (fun q hq => (m65.ge hq).1)
    refine Fx.L.v (.slice (some ⟨g4, 0, none⟩) (n2 + 1) (cap1)) (x_assign rfl rfl) (Fx.L.nil (Fx.blkN ?_))
    skip
    refine Fx.lpN ⟨m + 1, n2 + 1, (some ⟨g4, 0, none⟩), cap1, by omega, by omega, (go_step hall hgo), (h10.trans (by first | rfl | exact congrArg (Value.int .i64) (by omega))), (h11.trans (by first | rfl | exact congrArg (Value.int .i64) (by omega))), h12, h13, h14, (h15.trans (by first | rfl | exact congrArg (Value.int .u64) (by omega))), h16, h17, (h18.trans (by first | rfl | exact congrArg (Value.int .i64) (by omega))), (h19.trans (by first | rfl | exact congrArg (Value.int .i64) (by omega))), (by rfl), m68, m69, m70, m71, m67, b15⟩ ?_
    show (no + 6 - lenV ((.slice (some ⟨g4, 0, none⟩) (n2 + 1) (cap1)))) < _
    simp only [h20, intOf, lenV]; omega
  ·refine Fx.L.v (.bool false) (Fx.x_lssF rfl rfl rfl c50) (Fx.L.nil (Fx.seqN (Fx.W.cond (b := false) rfl (fun h => nomatch h) (fun _ => Fx.W.exit (Fx.seqX (Fx.lpX (Fx.blkX (Fx.blkN (Fx.seqN ?_)))))))))
   have hgo : goG (liveN s 6) nl y a l0 m = false := by unfold goG; rw [decide_eq_false c50, Bool.false_and]
   refine Fx.W.list (Fx.L.v (.int .i64 ((k : Int) + 1)) (Fx.x_add rfl h19 rfl (Fx.i64e (by omega) (by omega))) (Fx.L.v (.int .i64 ((k : Int) + 1)) (x_move rfl rfl) (Fx.L.nil ?_)))
   have hcn : cntG (liveN s 6) nl y a l0 = m := cnt_is (by omega) hall hgo
   have hokk : okG (liveN s 6) nl y a (locI id s.nn R (iterS id par s.nn k x)) = true := by rw [← el0]; unfold okG; rw [hcn]; exact decide_eq_true (by omega)
   have hal : allG (liveN s 6) nl y a (fun p => locI id s.nn R (iterS id par s.nn p x)) (fun p => iterS id par s.nn p x) (k + 1) = allG (liveN s 6) nl y a (fun p => locI id s.nn R (iterS id par s.nn p x)) (fun p => iterS id par s.nn p x) k ++ gfN (liveN s 6) nl y a l0 (iterS id par s.nn k x) m := by show _ ++ nodeG (liveN s 6) nl y a (locI id s.nn R (iterS id par s.nn k x)) (iterS id par s.nn k x) = _; rw [← el0]; unfold nodeG; rw [hcn]
   have m72 := m36.congr (y := gfX (allG (liveN s 6) nl y a (fun p => locI id s.nn R (iterS id par s.nn p x)) (fun p => iterS id par s.nn p x) (k + 1))) (fun j _ => by rw [hal])
   skip
   refine Fx.lpN ⟨k + 1, n2, a2, c2, by omega, (by rw [hal, List.length_append, gfN_len, ← hno]; exact hn2), by omega, (fun q h => (Nat.lt_or_eq_of_le (Nat.le_of_lt_succ h)).elim (hok q) (fun e => by rw [e]; exact hokk)), (h10.trans (by first | rfl | exact congrArg (Value.int .i64) (by omega))), (h11.trans (by first | rfl | exact congrArg (Value.int .i64) (by omega))), h12, h13, h14, h17, (h18.trans (by first | rfl | exact congrArg (Value.int .i64) (by omega))), h20, (by first | rfl | exact congrArg (Value.int .i64) (by omega)), m32, m34, m33, m72, b9⟩ ?_
   show (P - (intOf ((.int .i64 ((k : Int) + 1)))).toNat) < _
   simp only [h9, intOf]; omega
 ·refine Fx.L.v (.bool false) (Fx.x_lssF rfl h9 h7 c39) (Fx.L.nil (Fx.seqN (Fx.W.seq (Fx.W.cond (b := false) rfl (fun h => nomatch h) (fun _ => Fx.W.exit (Fx.seqX (Fx.lpX (Fx.blkX (Fx.seqN (Fx.W.seq (Fx.W.list (Fx.L.v (.slice ao (no) (co)) (x_move rfl h8) (Fx.L.v (.slice ao (no) (co)) (x_assign rfl rfl) (Fx.L.v (.int .i64 (0)) (x_assign rfl rfl) (Fx.L.nil (Fx.seqN (Fx.W.ret (⟨.tuple #[.slice ao (no) (co), .int .i64 (0)], Fx.retV2 Try.results59 (by exact rfl) (by exact rfl), ?_⟩))))))))))))))))))
  obtain rfl : k = P := by omega
  exact ⟨.inl ⟨_, no, rfl, fun q hq => hok q (by omega), hP ▸ hno, hP ▸ m12⟩, b5⟩
namespace Rt
structure AskM where
  kind : Int
  node : Int
  dst : Int
  amt : Int
  req : Int
  of : Int
def askY (x : AskM) : Nat → Value := fun p => if p = 0 then .int .u8 x.kind else if p = 1 then .int .u64 x.node else if p = 2 then .int .i64 x.dst else if p = 3 then .int .i64 x.amt else if p = 4 then .int .u64 x.req else .int .u64 x.of
def ask0 : AskM := ⟨0, 0, 0, 0, 0, 0⟩
def asX (l : List AskM) : Nat → Value := Fx.flat 6 fun k => askY (l.getD k ask0)
theorem as_app {l : List AskM} {n : Nat} {y z : Nat → Value} {x : AskM} (hn : n = l.length) (hy : ∀ j, j < 6 → y j = askY x j) : ∀ j, j < (n + 1) * 6 → Fx.appX (asX l) (n * 6) (Fx.ovr z (0 * 6) 6 y) j = asX (l ++ [x]) j := fun j hj =>
  (Fx.app_flat j hj).trans (Fx.flat_cong (fun i hi q hq => by
    subst hn
    unfold Fx.updF
    by_cases h : i = l.length
    · subst h; rw [if_pos rfl, hy q hq, List.getD_eq_getElem?_getD, List.getElem?_append_right (by omega), Nat.sub_self]; rfl
    · rw [if_neg h]; show askY (l.getD i ask0) q = _; rw [List.getD_eq_getElem?_getD, List.getD_eq_getElem?_getD, List.getElem?_append_left (by omega)]) j hj)
end Rt
theorem Rt.one6 {z y : Nat → Value} (hy : ∀ j, j < 6 → (y j).oneCell' = true) : ∀ j, j < 1 * 6 → (Fx.ovr z (0 * 6) 6 y j).oneCell' = true := fun j hj => by
  unfold Fx.ovr; rw [if_pos (by omega)]; exact hy _ (by omega)
namespace Rt
def akN (gl : List GiftM) (fr dst : Int) : Nat → List AskM
  | 0 => []
  | k + 1 => if (gl.getD k gf0).fr = fr then akN gl fr dst k ++ [⟨5, (gl.getD k gf0).node, dst, (gl.getD k gf0).amt, 0, 0⟩] else akN gl fr dst k
theorem ak_yes {gl : List GiftM} {fr dst : Int} {k : Nat} (h : (gl.getD k gf0).fr = fr) : akN gl fr dst (k + 1) = akN gl fr dst k ++ [⟨5, (gl.getD k gf0).node, dst, (gl.getD k gf0).amt, 0, 0⟩] := if_pos h
theorem ak_no {gl : List GiftM} {fr dst : Int} {k : Nat} (h : ¬ (gl.getD k gf0).fr = fr) : akN gl fr dst (k + 1) = akN gl fr dst k := if_neg h
theorem ak_len (gl : List GiftM) (fr dst : Int) : ∀ k, (akN gl fr dst k).length ≤ k
  | 0 => Nat.le_refl _
  | k + 1 => by
    have := ak_len gl fr dst k
    show (if _ then _ else _ : List AskM).length ≤ k + 1
    split
    · simp; omega
    · omega
end Rt
set_option maxRecDepth 10000 in
theorem ro_asks (gl : List GiftM) (ag : Option Addr) (ng cg : Nat) (fr dst : Int) (w : World) (hgf : Fx.Arr w ag ng 3 (Fx.flat 3 fun kq => gfY (gl.getD kq gf0))) (hng : ng ≤ 1000) :
    Calls Try.prog 60 #[.slice ag (ng) (cg), .int .i64 (fr), .int .i64 (dst)] w fun e w' => ∃ v n, e = .returned v ∧ n = (akN gl fr dst ng).length ∧ Fx.Own w' w.heap.size 116 6 v n (asX (akN gl fr dst ng)) ∧ Below w.heap.size w w' := by
 refine Fx.enter Try.func60 rfl (n := 30) rfl (by rfl) ?_
 refine Fx.W.seq (Fx.W.list (Fx.L.v (.slice none 0 0) (x_assign rfl rfl) (Fx.L.nil (Fx.seqN (Fx.W.seq (Fx.W.seq (Fx.W.list (Fx.L.v (.slice ag (ng) (cg)) (x_move rfl rfl) (Fx.L.v (.int .i64 ((ng : Int))) (x_len rfl rfl rfl (by kernel_rfl)) (Fx.L.v (.int .i64 (0)) (x_move rfl rfl) (Fx.L.nil (Fx.seqN (Fx.W.block ?_)))))))))))))
 have m1 : Fx.Own w w.heap.size 116 6 (.slice none 0 0) 0 (asX (akN gl fr dst 0)) := Fx.Own.nil _ _ _ _ _
 refine Fx.W.loop (fun f w_ => ∃ k : Nat, ∃ n : Nat, ∃ a : Option Addr, ∃ cap : Nat, k ≤ ng ∧ n = (akN gl fr dst k).length ∧ f 1 = .int .i64 (fr) ∧ f 2 = .int .i64 (dst) ∧ f 9 = .slice ag (ng) (cg) ∧ f 10 = .int .i64 ((ng : Int)) ∧ f 6 = .slice a (n) (cap) ∧ f 11 = .int .i64 ((k : Int)) ∧ Fx.Own w_ w.heap.size 116 6 (.slice a (n) (cap)) n (asX (akN gl fr dst k)) ∧ Below w.heap.size w w_) (fun f _ => (ng - (intOf (f 11)).toNat)) ⟨0, 0, none, 0, by omega, rfl, (by first | rfl | exact congrArg (Value.int .i64) (by omega)), (by first | rfl | exact congrArg (Value.int .i64) (by omega)), (by rfl), (by first | rfl | exact congrArg (Value.int .i64) (by omega)), (by rfl), (by first | rfl | exact congrArg (Value.int .i64) (by omega)), m1, (Below.refl w.heap.size w)⟩ ?_
 rintro f1 w1 ⟨k, n, a, cap, hk, hn, h1, h2, h3, h4, h5, h6, m2, b1⟩
 have hnl := ak_len gl fr dst k
 refine Fx.W.seq (Fx.W.list ?_)
 by_cases c12 : (k : Int) < (ng : Int)
 ·refine Fx.L.v (.bool true) (Fx.x_lssT rfl h6 h4 c12) (Fx.L.nil (Fx.seqN (Fx.W.seq (Fx.W.cond (b := true) rfl (fun _ => Fx.W.skip (Fx.seqN (Fx.W.seq (Fx.W.block (Fx.W.seq (Fx.W.list ?_)))))) (fun h => nomatch h)))))
  obtain ⟨bq1, oq1, eq1, m3⟩ := (hgf.up b1 rfl) (by omega)
  have lbq1 : bq1 < w1.heap.size := m3.lt (by omega)
  refine Fx.L.v (.pointer (some ⟨bq1, 3 * k + oq1, none⟩)) (x_indexS rfl (h3.trans (congrArg (fun q => Value.slice q (ng) (cg)) eq1)) h6 Try.underlying117 (s := 3) (by kernel_rfl) (by omega) (by omega) (by omega)) (Fx.L.v (.agg (Fx.varr 3 (gfY (gl.getD k gf0)))) (x_loadA (x := Fx.flat 3 (fun kq => gfY (gl.getD kq gf0))) (y := gfY (gl.getD k gf0)) rfl rfl (by kernel_rfl) (by kernel_rfl) m3 (i := 3 * k) (by omega) (by omega) (fun jq hjq => Fx.flat_at (k := k) (by omega) hjq)) (Fx.L.new (m := 3) (y := fun zq => if zq < 1 then .int .i64 (0) else if zq < 2 then .int .u64 (0) else .int .i64 (0)) (by rfl) rfl (by kernel_rfl) rfl fun g1 w2 eg1 m4 s1 z1 => ?_))
  have m5 := m2.stp s1 (m2.notNew (Nat.le_refl _))
  have m6 := m3.stp s1 (Nat.ne_of_lt (m3.lt (by omega)))
  have b2 := s1.below b1 b1.size b1.size
  have lg1 : w.heap.size ≤ g1 := by rw [eg1]; exact b1.size
  have ng1m6 : bq1 ≠ g1 := by rw [eg1]; exact Nat.ne_of_lt (m3.lt (by omega))
  have tg1 : g1 < w2.heap.size := m4.lt
  clear eg1
  refine Fx.L.storeA (x := fun zq => if zq < 1 then .int .i64 (0) else if zq < 2 then .int .u64 (0) else .int .i64 (0)) (y := gfY (gl.getD k gf0)) (by rfl) rfl rfl rfl rfl (fun j _ => gfY_one _ j) (by kernel_rfl) m4 (i := 0) (by omega) fun w3 m7 s2 z2 => ?_
  have m8 : Fx.Blk w3 g1 3 (gfY (gl.getD k gf0)) 122 := Fx.ovr_all m7
  have hct1 := Fx.ChT.of_stp s2 m4.ty
  have m9 := m5.chT hct1 (by decide)
  have m10 := m6.stp s2 (by omega)
  have b3 := s2.below b2 b2.size (by omega)
  refine Fx.L.nil (Fx.seqN (Fx.W.seq (Fx.W.list (Fx.L.v (.pointer (some ⟨g1, 0, none⟩)) (x_field rfl rfl Try.underlying122 rfl (s := 1) (by kernel_rfl) rfl rfl) (Fx.L.v (.int .i64 ((gl.getD k gf0).fr)) (x_load1 (x := gfY (gl.getD k gf0)) rfl rfl (by kernel_rfl) m8.cel (i := 0) (by omega) (by omega) rfl) (Fx.L.v (.int .i64 (fr)) (x_move rfl h1) ?_))))))
  by_cases c18 : ((gl.getD k gf0).fr) = fr
  ·refine Fx.L.v (.bool true) (x_eqlT rfl rfl rfl c18) (Fx.L.nil (Fx.seqN (Fx.W.cond (b := true) rfl (fun _ => Fx.W.list (Fx.L.v (.slice a (n) (cap)) (x_move rfl h5) ?_)) (fun h => nomatch h))))
   refine Fx.L.v (.pointer (some ⟨g1, 1, none⟩)) (x_field rfl rfl Try.underlying122 rfl (s := 1) (by kernel_rfl) rfl (by show _ + 1 = _; omega)) (Fx.L.v (.int .u64 ((gl.getD k gf0).node)) (x_load1 (x := gfY (gl.getD k gf0)) rfl rfl (by kernel_rfl) m8.cel (i := 1) (by omega) (by omega) rfl) (Fx.L.v (.pointer (some ⟨g1, 2, none⟩)) (x_field rfl rfl Try.underlying122 rfl (s := 1) (by kernel_rfl) rfl (by show _ + 2 = _; omega)) (Fx.L.v (.int .i64 ((gl.getD k gf0).amt)) (x_load1 (x := gfY (gl.getD k gf0)) rfl rfl (by kernel_rfl) m8.cel (i := 2) (by omega) (by omega) rfl) (Fx.L.v (.int .i64 (dst)) (x_move rfl h2) (Fx.L.v (.agg (Fx.varr 6 (Fx.ovr (Fx.ovr (Fx.ovr (Fx.ovr (fun zq => if zq < 1 then .int .u8 (0) else if zq < 2 then .int .u64 (0) else if zq < 4 then .int .i64 (0) else .int .u64 (0)) 0 1 (fun _ => .int .u8 (5))) 1 1 (fun _ => .int .u64 ((gl.getD k gf0).node))) 3 1 (fun _ => .int .i64 ((gl.getD k gf0).amt))) 2 1 (fun _ => .int .i64 (dst))))) (x_build (vs := [(0, .int .u8 (5)), (1, .int .u64 ((gl.getD k gf0).node)), (3, .int .i64 ((gl.getD k gf0).amt)), (2, .int .i64 (dst))]) (places := #[(0, 1), (1, 1), (2, 1), (3, 1), (4, 1), (5, 1)]) (m := 6) (x := fun zq => if zq < 1 then .int .u8 (0) else if zq < 2 then .int .u64 (0) else if zq < 4 then .int .i64 (0) else .int .u64 (0)) rfl rfl Try.underlying116 (by kernel_rfl) (by kernel_rfl) (by rw [Fx.fill_step (off := 0) (s := 1) (y := fun _ => .int .u8 (5)) (by kernel_rfl) (Fx.cells_one (by rfl)) (by rfl)]; rw [Fx.fill_step (off := 1) (s := 1) (y := fun _ => .int .u64 ((gl.getD k gf0).node)) (by kernel_rfl) (Fx.cells_one (by rfl)) (by rfl)]; rw [Fx.fill_step (off := 3) (s := 1) (y := fun _ => .int .i64 ((gl.getD k gf0).amt)) (by kernel_rfl) (Fx.cells_one (by rfl)) (by rfl)]; rw [Fx.fill_step (off := 2) (s := 1) (y := fun _ => .int .i64 (dst)) (by kernel_rfl) (Fx.cells_one (by rfl)) (by rfl)]; rfl)) (Fx.L.bslice (vs := [(0, .agg (Fx.varr 6 (Fx.ovr (Fx.ovr (Fx.ovr (Fx.ovr (fun zq => if zq < 1 then .int .u8 (0) else if zq < 2 then .int .u64 (0) else if zq < 4 then .int .i64 (0) else .int .u64 (0)) 0 1 (fun _ => .int .u8 (5))) 1 1 (fun _ => .int .u64 ((gl.getD k gf0).node))) 3 1 (fun _ => .int .i64 ((gl.getD k gf0).amt))) 2 1 (fun _ => .int .i64 (dst)))))]) (s := 6) (zc := fun zq => if zq < 1 then .int .u8 (0) else if zq < 2 then .int .u64 (0) else if zq < 4 then .int .i64 (0) else .int .u64 (0)) (y := Fx.ovr (fun j => (fun zq => if zq < 1 then .int .u8 (0) else if zq < 2 then .int .u64 (0) else if zq < 4 then .int .i64 (0) else .int .u64 (0)) (j % 6)) (0 * 6) 6 (Fx.ovr (Fx.ovr (Fx.ovr (Fx.ovr (fun zq => if zq < 1 then .int .u8 (0) else if zq < 2 then .int .u64 (0) else if zq < 4 then .int .i64 (0) else .int .u64 (0)) 0 1 (fun _ => .int .u8 (5))) 1 1 (fun _ => .int .u64 ((gl.getD k gf0).node))) 3 1 (fun _ => .int .i64 ((gl.getD k gf0).amt))) 2 1 (fun _ => .int .i64 (dst)))) (by rfl) rfl rfl Try.underlying76 (by kernel_rfl) (by rfl) (by rfl) (by kernel_rfl) (by rw [Fx.fill_step (off := 0 * 6) (s := 6) (y := Fx.ovr (Fx.ovr (Fx.ovr (Fx.ovr (fun zq => if zq < 1 then .int .u8 (0) else if zq < 2 then .int .u64 (0) else if zq < 4 then .int .i64 (0) else .int .u64 (0)) 0 1 (fun _ => .int .u8 (5))) 1 1 (fun _ => .int .u64 ((gl.getD k gf0).node))) 3 1 (fun _ => .int .i64 ((gl.getD k gf0).amt))) 2 1 (fun _ => .int .i64 (dst))) rfl (Fx.cells_agg _ _) (by rfl)]; rfl) rfl fun g2 w4 eg2 m11 s3 z3 => ?_))))))
   have m12 := m9.stp s3 (m9.notNew (Nat.le_refl _))
   have b4 := s3.below b3 b3.size b3.size
   have lg2 : w.heap.size ≤ g2 := by rw [eg2]; exact b3.size
   have ng2m12 : (.slice a (n) (cap) : Value).ownBlock ≠ some g2 := by rw [eg2]; exact m9.notNew (Nat.le_refl _)
   have ng2m13 : g1 ≠ g2 := by rw [eg2]; exact Nat.ne_of_lt (m8.lt)
   have tg2 : g2 < w4.heap.size := m11.lt
   clear eg2
   refine Fx.L.app (B := w.heap.size) (s := 6) (bytes := 48) (k := n) (m := 1) (v := .slice a (n) (cap)) (x := asX (akN gl fr dst k)) (by rfl) rfl rfl rfl Try.underlying76 (by kernel_rfl) (by kernel_rfl) rfl rfl m12 m11.cel (one6 (fun j hj => by rcases j with _|_|_|_|_|_|j <;> first | rfl | omega)) (by omega) (by omega) (by omega) b4.size fun g3 cap1 w5 ho1 hg1 hgv1 hlt1 => ?_
   have m14 : Fx.Own w5 w.heap.size 116 6 (.slice (some ⟨g3, 0, none⟩) (n + 1) cap1) (n + 1) (asX (akN gl fr dst (k + 1))) := (ho1.congr (fun j hj => by rw [ak_yes c18]; exact as_app hn (fun j hj => by rcases j with _|_|_|_|_|_|j <;> first | rfl | omega) j hj))
   have b5 : Below w.heap.size w w5 := Fx.Below.grow b4 hg1 b4.size (fun q hq => (m12.ge hq).1)
   refine Fx.L.v (.slice (some ⟨g3, 0, none⟩) (n + 1) (cap1)) (x_assign rfl rfl) (Fx.L.nil (Fx.blkN (Fx.seqN (Fx.W.list (Fx.L.v (.int .i64 ((k : Int) + 1)) (Fx.x_add rfl h6 rfl (Fx.i64e (by omega) (by omega))) (Fx.L.v (.int .i64 ((k : Int) + 1)) (x_move rfl rfl) (Fx.L.nil ?_)))))))
   skip
   refine Fx.lpN ⟨k + 1, n + 1, (some ⟨g3, 0, none⟩), cap1, by omega, (by rw [ak_yes c18, List.length_append, ← hn]; rfl), (h1.trans (by first | rfl | exact congrArg (Value.int .i64) (by omega))), (h2.trans (by first | rfl | exact congrArg (Value.int .i64) (by omega))), h3, (h4.trans (by first | rfl | exact congrArg (Value.int .i64) (by omega))), (by rfl), (by first | rfl | exact congrArg (Value.int .i64) (by omega)), m14, b5⟩ ?_
   show (ng - (intOf ((.int .i64 ((k : Int) + 1)))).toNat) < _
   simp only [h6, intOf]; omega
  ·refine Fx.L.v (.bool false) (x_eqlF rfl rfl rfl c18) (Fx.L.nil (Fx.seqN (Fx.W.cond (b := false) rfl (fun h => nomatch h) (fun _ => Fx.W.skip (Fx.blkN (Fx.seqN (Fx.W.list (Fx.L.v (.int .i64 ((k : Int) + 1)) (Fx.x_add rfl h6 rfl (Fx.i64e (by omega) (by omega))) (Fx.L.v (.int .i64 ((k : Int) + 1)) (x_move rfl rfl) (Fx.L.nil ?_))))))))))
   have m16 := m9.congr (y := asX (akN gl fr dst (k + 1))) (fun j _ => by rw [ak_no c18])
   skip
   refine Fx.lpN ⟨k + 1, n, a, cap, by omega, (by rw [ak_no c18]; exact hn), (h1.trans (by first | rfl | exact congrArg (Value.int .i64) (by omega))), (h2.trans (by first | rfl | exact congrArg (Value.int .i64) (by omega))), h3, (h4.trans (by first | rfl | exact congrArg (Value.int .i64) (by omega))), h5, (by first | rfl | exact congrArg (Value.int .i64) (by omega)), m16, b3⟩ ?_
   show (ng - (intOf ((.int .i64 ((k : Int) + 1)))).toNat) < _
   simp only [h6, intOf]; omega
 ·refine Fx.L.v (.bool false) (Fx.x_lssF rfl h6 h4 c12) (Fx.L.nil (Fx.seqN (Fx.W.seq (Fx.W.cond (b := false) rfl (fun h => nomatch h) (fun _ => Fx.W.exit (Fx.seqX (Fx.lpX (Fx.blkX (Fx.seqN (Fx.W.seq (Fx.W.list (Fx.L.v (.slice a (n) (cap)) (x_move rfl h5) (Fx.L.v (.slice a (n) (cap)) (x_assign rfl rfl) (Fx.L.nil (Fx.seqN (Fx.W.ret (⟨.slice a (n) (cap), Fx.retV1 Try.results60 (by exact rfl), ?_⟩)))))))))))))))))
  obtain rfl : k = ng := by omega
  exact ⟨_, n, rfl, hn, m2, b1⟩
namespace Rt
structure AskWf (x : AskM) : Prop where
  kind : 0 ≤ x.kind ∧ x.kind ≤ 255
  node : U64r x.node
  dst : I64r x.dst
  amt : I64r x.amt
  req : U64r x.req
  of : U64r x.of
theorem kd_ask {x : AskM} (h : AskWf x) : Fx.Kd [(some .u8), (some .u64), (some .i64), (some .i64), (some .u64), (some .u64)] (askY x) := by
  have one : ∀ (k : IntKind) (n : Int), (Lit.int k n).wf = true → ∃ l, litOf (some k) (.int k n) = some l := fun k n hw => by
    obtain ⟨l, hl⟩ := Fx.kd_rv (k := k) (n := 1) (x := fun _ => n) (fun _ _ => hw) 0 (by simp)
    exact ⟨l, hl⟩
  intro i hi
  have hi' : i < 6 := hi
  rcases i with _|_|_|_|_|_|i
  · exact one .u8 x.kind (Fx.wfu8 h.kind)
  · exact one .u64 x.node (Fx.wfu64 h.node)
  · exact one .i64 x.dst (Fx.wf64 h.dst)
  · exact one .i64 x.amt (Fx.wf64 h.amt)
  · exact one .u64 x.req (Fx.wfu64 h.req)
  · exact one .u64 x.of (Fx.wfu64 h.of)
  · omega
end Rt
namespace Rt
theorem kd_congr {ks : List (Option IntKind)} {X Y : Nat → Value} (h : Fx.Kd ks X) (e : ∀ i, i < ks.length → X i = Y i) : Fx.Kd ks Y := fun i hi => by
  obtain ⟨l, hl⟩ := h i hi; exact ⟨l, by rw [← e i hi]; exact hl⟩
def wst (g cap : Nat) : StM := ⟨fun i => decide (i < 2), fun _ => false, fun _ => 0, some ⟨g, 0, none⟩, 1, cap, none, 0, 0⟩
end Rt
namespace Rt
def wR3 : Nat → Int := upd (fun _ => 0) 0 10
def wgf : GiftM := ⟨1, 5, 4⟩
def wak : AskM := ⟨5, 5, 2, 4, 0, 0⟩
theorem wk3_app {x z : Nat → Value} : ∀ j, j < (0 + 1) * 56 → Fx.appX x (0 * 56) (Fx.ovr z (0 * 56) 56 (ndY 5 0 wR3)) j = Fx.flat 56 (fun _ => ndY 5 0 wR3) j := fun j hj => by
  rw [app0]
  unfold Fx.ovr
  rw [if_pos (by omega), show j - 0 * 56 = j by omega]
  exact (Fx.flat_at (F := fun _ => ndY 5 0 wR3) (k := 0) (by omega) (by omega)).symm
theorem wk3_nd (j : Nat) : Fx.updV (Fx.ovr (fun zq => if zq < 2 then .int .u64 (0) else .int .i64 (0)) 0 1 (fun _ => .int .u64 (5))) 2 (.int .i64 (10)) j = ndY 5 0 wR3 j := by
  unfold Fx.updV Fx.ovr ndY wR3 upd
  by_cases h0 : j = 0
  · subst h0; rfl
  · by_cases h1 : j = 1
    · subst h1; rfl
    · by_cases h2 : j = 2
      · subst h2; rfl
      · rw [if_neg h2, if_neg (by omega), if_neg h0, if_neg h1, if_neg (by omega)]
        show (if j < 2 then _ else _) = _
        rw [if_neg (by omega)]
theorem wk3_lo (g c : Nat) : ∀ x, 0 ≤ firstS (fun _ => 5) (wst g c).nn x → LoOk (locI (fun _ => 5) (wst g c).nn (fun _ => wR3) x) := fun x _ j hj => by
  show 0 ≤ localV wR3 ((j : Int) + 1) ∧ localV wR3 ((j : Int) + 1) ≤ 9007199254740992
  rcases j with _|_|_|_|_|_|j
  · exact of_decide_eq_true (by kernel_rfl)
  · exact of_decide_eq_true (by kernel_rfl)
  · exact of_decide_eq_true (by kernel_rfl)
  · exact of_decide_eq_true (by kernel_rfl)
  · exact of_decide_eq_true (by kernel_rfl)
  · exact of_decide_eq_true (by kernel_rfl)
  · omega
theorem wk3_P : pathS (fun _ => 5) (fun _ => 0) 1 5 = 1 := by kernel_rfl
theorem wk3_len (g c : Nat) : 2 = (liveN (wst g c) 6).length := by kernel_rfl
def wlo : Nat → Nat → Int := fun p => locI (fun _ => 5) 1 (fun _ => wR3) (iterS (fun _ => 5) (fun _ => 0) 1 p 5)
theorem wk3_4 (g c : Nat) : okG (liveN (wst g c) 6) 2 4 1 (wlo 0) = true ∧ allG (liveN (wst g c) 6) 2 4 1 wlo (fun p => iterS (fun _ => 5) (fun _ => 0) 1 p 5) 1 = [wgf] := ⟨by kernel_rfl, by kernel_rfl⟩
theorem wk3_11 (g c : Nat) : okG (liveN (wst g c) 6) 2 11 1 (wlo 0) = false := by kernel_rfl
theorem wk3_all (g c : Nat) : leastV (fun k => allI (wst g c) (wlo k)) 1 = 10 := by kernel_rfl
theorem wk3_own : leastV (fun k => wlo k 0) 1 = 10 ∧ leastV (fun k => wlo k 1) 1 = 0 := ⟨by kernel_rfl, by kernel_rfl⟩
theorem wk3_ak : akN [wgf] 1 2 1 = [wak] := rfl
theorem kd_gf {x : GiftM} (h1 : I64r x.fr) (h2 : U64r x.node) (h3 : I64r x.amt) : Fx.Kd [(some .i64), (some .u64), (some .i64)] (gfY x) := by
  have one : ∀ (k : IntKind) (n : Int), (Lit.int k n).wf = true → ∃ l, litOf (some k) (.int k n) = some l := fun k n hw => by
    obtain ⟨l, hl⟩ := Fx.kd_rv (k := k) (n := 1) (x := fun _ => n) (fun _ _ => hw) 0 (by simp)
    exact ⟨l, hl⟩
  intro i hi
  have hi' : i < 3 := hi
  rcases i with _|_|_|i
  · exact one .i64 x.fr (Fx.wf64 h1)
  · exact one .u64 x.node (Fx.wfu64 h2)
  · exact one .i64 x.amt (Fx.wf64 h3)
  · omega
end Rt
theorem w33_all (g c : Nat) (w : World) (h : Fx.Arr w (wst g c).na (wst g c).nn 56 (Fx.flat 56 fun _ => ndY 5 0 wR3)) : Calls Try.prog 55 #[.agg (Fx.varr 20 (stY (wst g c))), .int .u64 (5)] w fun e w' => e = .returned (.int .i64 (10)) ∧ Below w.heap.size w w' := by
  have := ro_all (wst g c) (fun _ => 5) (fun _ => 0) (fun _ => wR3) 5 w h (by show 1 ≤ 1000000; omega) (wk3_lo g c)
  exact this.mono fun e w' h => ⟨h.1.trans (congrArg (fun q => Ending.returned (Value.int .i64 q)) ((congrArg (leastV fun k => allI (wst g c) (wlo k)) wk3_P).trans (wk3_all g c))), h.2⟩
theorem w33_own (g c a : Nat) (v : Int) (w : World) (h : Fx.Arr w (wst g c).na (wst g c).nn 56 (Fx.flat 56 fun _ => ndY 5 0 wR3)) (ha : a < 6) (hl : liveI (wst g c) ((a : Int) + 1) = true) (hv : leastV (fun k => wlo k a) 1 = v) : Calls Try.prog 56 #[.agg (Fx.varr 20 (stY (wst g c))), .int .i64 ((a : Int) + 1), .int .u64 (5)] w fun e w' => e = .returned (.int .i64 (v)) ∧ Below w.heap.size w w' := by
  have := ro_own (wst g c) (fun _ => 5) (fun _ => 0) (fun _ => wR3) 5 w h (by show 1 ≤ 1000000; omega) a ha hl
  exact this.mono fun e w' h => ⟨h.1.trans (congrArg (fun q => Ending.returned (Value.int .i64 q)) ((congrArg (leastV fun k => wlo k a) wk3_P).trans hv)), h.2⟩
theorem w33_g4 (g c : Nat) (w : World) (h : Fx.Arr w (wst g c).na (wst g c).nn 56 (Fx.flat 56 fun _ => ndY 5 0 wR3)) : Calls Try.prog 59 #[.agg (Fx.varr 20 (stY (wst g c))), .int .i64 (2), .int .u64 (5), .int .i64 (4)] w fun e w' => ∃ v, e = .returned (.tuple #[v, .int .i64 (0)]) ∧ Fx.Own w' w.heap.size 122 3 v 1 (gfX [wgf]) ∧ Below w.heap.size w w' := by
  have := ro_gifts (wst g c) (fun _ => 5) (fun _ => 0) (fun _ => wR3) 5 w h (by show 1 ≤ 1000000; omega) (wk3_lo g c) 2 1 4 (by decide) (wk3_len g c) (by kernel_rfl) (by show (0 : Int) ≤ firstS (fun _ => 5) 1 5; exact of_decide_eq_true (by kernel_rfl)) (by decide)
  refine this.mono ?_
  rintro e w' ⟨h1, hb⟩
  rw [show pathS (fun _ => 5) (fun _ => 0) (wst g c).nn 5 = 1 from wk3_P] at h1
  rcases h1 with ⟨v, n, he, _, hn, hO⟩ | ⟨_, q, hq, hbad⟩
  · obtain rfl : n = 1 := hn.trans (congrArg List.length (wk3_4 g c).2)
    exact ⟨v, he, hO.congr (fun j _ => congrFun (congrArg gfX (wk3_4 g c).2) j), hb⟩
  · obtain rfl : q = 0 := by omega
    exact absurd ((wk3_4 g c).1.symm.trans hbad) (by decide)
theorem w33_g11 (g c : Nat) (w : World) (h : Fx.Arr w (wst g c).na (wst g c).nn 56 (Fx.flat 56 fun _ => ndY 5 0 wR3)) : Calls Try.prog 59 #[.agg (Fx.varr 20 (stY (wst g c))), .int .i64 (2), .int .u64 (5), .int .i64 (11)] w fun e w' => e = .returned (.tuple #[.slice none 0 0, .int .i64 (11)]) ∧ Below w.heap.size w w' := by
  have := ro_gifts (wst g c) (fun _ => 5) (fun _ => 0) (fun _ => wR3) 5 w h (by show 1 ≤ 1000000; omega) (wk3_lo g c) 2 1 11 (by decide) (wk3_len g c) (by kernel_rfl) (by show (0 : Int) ≤ firstS (fun _ => 5) 1 5; exact of_decide_eq_true (by kernel_rfl)) (by decide)
  refine this.mono ?_
  rintro e w' ⟨h1, hb⟩
  rw [show pathS (fun _ => 5) (fun _ => 0) (wst g c).nn 5 = 1 from wk3_P] at h1
  rcases h1 with ⟨v, n, he, hall, hn, hO⟩ | ⟨he, _⟩
  · have := hall 0 (by omega)
    exact absurd ((wk3_11 g c).symm.trans this) (by decide)
  · exact ⟨he, hb⟩
theorem w33_asks (ag : Option Addr) (cg : Nat) (w : World) (h : Fx.Arr w ag 1 3 (gfX [wgf])) : Calls Try.prog 60 #[.slice ag 1 cg, .int .i64 (1), .int .i64 (2)] w fun e w' => ∃ v, e = .returned v ∧ Fx.Own w' w.heap.size 116 6 v 1 (asX [wak]) ∧ Below w.heap.size w w' := by
  have := ro_asks [wgf] ag 1 cg 1 2 w h (by decide)
  rw [wk3_ak] at this
  refine this.mono ?_
  rintro e w' ⟨v, n, he, hn, hO, hb⟩
  obtain rfl : n = 1 := hn
  exact ⟨v, he, hO, hb⟩
set_option maxRecDepth 20000 in
set_option maxHeartbeats 1000000 in
theorem works33_any (w : World) :
    Calls Try.prog 53 #[] w fun e w' => e = .returned (.bool true) ∧ Below w.heap.size w w' := by
 refine Fx.enter Try.func53 rfl (n := 77) rfl (by rfl) ?_
 refine Fx.W.seq (Fx.W.list (Fx.L.v (.bool false) (x_assign rfl rfl) (Fx.L.nil (Fx.seqN (Fx.W.seq (Fx.W.list (Fx.L.v (.agg (Fx.varr 6 (Fx.ovr (Fx.ovr (fun _ => .bool false) 0 1 (fun _ => .bool true)) 1 1 (fun _ => .bool true)))) (Fx.x_buildArr (vs := [(0, .bool true), (1, .bool true)]) (s := 1) (m := 6) (x := fun _ => .bool false) rfl rfl Try.underlying39 (by kernel_rfl) (by kernel_rfl) (by rw [Fx.fill_step (off := 0) (s := 1) (y := fun _ => .bool true) (by kernel_rfl) (Fx.cells_one (by rfl)) (by rfl)]; rw [Fx.fill_step (off := 1) (s := 1) (y := fun _ => .bool true) (by kernel_rfl) (Fx.cells_one (by rfl)) (by rfl)]; rfl)) (Fx.L.v (.agg (Fx.varr 20 (Fx.ovr (fun zq => if zq < 12 then .bool false else if zq < 18 then .int .u64 (0) else .slice none 0 0) 0 6 (Fx.ovr (Fx.ovr (fun _ => .bool false) 0 1 (fun _ => .bool true)) 1 1 (fun _ => .bool true))))) (x_build (vs := [(0, .agg (Fx.varr 6 (Fx.ovr (Fx.ovr (fun _ => .bool false) 0 1 (fun _ => .bool true)) 1 1 (fun _ => .bool true))))]) (places := #[(0, 6), (6, 6), (12, 6), (18, 1), (19, 1)]) (m := 20) (x := fun zq => if zq < 12 then .bool false else if zq < 18 then .int .u64 (0) else .slice none 0 0) rfl rfl Try.underlying43 (by kernel_rfl) (by kernel_rfl) (by rw [Fx.fill_step (off := 0) (s := 6) (y := Fx.ovr (Fx.ovr (fun _ => .bool false) 0 1 (fun _ => .bool true)) 1 1 (fun _ => .bool true)) (by kernel_rfl) (Fx.cells_agg _ _) (by rfl)]; rfl)) (Fx.L.new (m := 20) (y := fun zq => if zq < 12 then .bool false else if zq < 18 then .int .u64 (0) else .slice none 0 0) (by rfl) rfl (by kernel_rfl) rfl fun g1 w1 eg1 m1 s1 z1 => ?_)))))))))
 have b1 := s1.below (Below.refl w.heap.size w) (Below.refl w.heap.size w).size (Below.refl w.heap.size w).size
 have lg1 : w.heap.size ≤ g1 := by rw [eg1]; exact (Below.refl w.heap.size w).size
 have tg1 : g1 < w1.heap.size := m1.lt
 clear eg1
 refine Fx.L.storeA (x := fun zq => if zq < 12 then .bool false else if zq < 18 then .int .u64 (0) else .slice none 0 0) (y := Fx.ovr (fun zq => if zq < 12 then .bool false else if zq < 18 then .int .u64 (0) else .slice none 0 0) 0 6 (Fx.ovr (Fx.ovr (fun _ => .bool false) 0 1 (fun _ => .bool true)) 1 1 (fun _ => .bool true))) (by rfl) rfl rfl rfl rfl (Fx.ovr_ones (fun jq _ => by show ((fun zq => if zq < 12 then .bool false else if zq < 18 then .int .u64 (0) else .slice none 0 0 : Nat → Value) jq).oneCell' = true; simp only []; repeat (first | rfl | split)) (Fx.ovr_ones (Fx.ovr_ones (fun jq _ => by show ((fun _ => .bool false : Nat → Value) jq).oneCell' = true; simp only []; repeat (first | rfl | split)) (fun _ _ => rfl)) (fun _ _ => rfl))) (by kernel_rfl) m1 (i := 0) (by omega) fun w2 m2 s2 z2 => ?_
 have m3 : Fx.Blk w2 g1 20 (Fx.ovr (fun zq => if zq < 12 then .bool false else if zq < 18 then .int .u64 (0) else .slice none 0 0) 0 6 (Fx.ovr (Fx.ovr (fun _ => .bool false) 0 1 (fun _ => .bool true)) 1 1 (fun _ => .bool true))) 43 := Fx.ovr_all m2
 have b2 := s2.below b1 b1.size (by omega)
 refine Fx.L.nil (Fx.seqN (Fx.W.seq (Fx.W.list (Fx.L.v (.agg (Fx.varr 56 (Fx.ovr (fun zq => if zq < 2 then .int .u64 (0) else .int .i64 (0)) 0 1 (fun _ => .int .u64 (5))))) (x_build (vs := [(0, .int .u64 (5))]) (places := #[(0, 1), (1, 1), (2, 54)]) (m := 56) (x := fun zq => if zq < 2 then .int .u64 (0) else .int .i64 (0)) rfl rfl Try.underlying50 (by kernel_rfl) (by kernel_rfl) (by rw [Fx.fill_step (off := 0) (s := 1) (y := fun _ => .int .u64 (5)) (by kernel_rfl) (Fx.cells_one (by rfl)) (by rfl)]; rfl)) (Fx.L.new (m := 56) (y := fun zq => if zq < 2 then .int .u64 (0) else .int .i64 (0)) (by rfl) rfl (by kernel_rfl) rfl fun g2 w3 eg2 m4 s3 z3 => ?_)))))
 have m5 := m3.stp s3 (Nat.ne_of_lt (m3.lt))
 have b3 := s3.below b2 b2.size b2.size
 have lg2 : w.heap.size ≤ g2 := by rw [eg2]; exact b2.size
 have ng2m5 : g1 ≠ g2 := by rw [eg2]; exact Nat.ne_of_lt (m3.lt)
 have tg2 : g2 < w3.heap.size := m4.lt
 clear eg2
 refine Fx.L.storeA (x := fun zq => if zq < 2 then .int .u64 (0) else .int .i64 (0)) (y := Fx.ovr (fun zq => if zq < 2 then .int .u64 (0) else .int .i64 (0)) 0 1 (fun _ => .int .u64 (5))) (by rfl) rfl rfl rfl rfl (Fx.ovr_ones (fun jq _ => by show ((fun zq => if zq < 2 then .int .u64 (0) else .int .i64 (0) : Nat → Value) jq).oneCell' = true; simp only []; repeat (first | rfl | split)) (fun _ _ => rfl)) (by kernel_rfl) m4 (i := 0) (by omega) fun w4 m6 s4 z4 => ?_
 have m7 : Fx.Blk w4 g2 56 (Fx.ovr (fun zq => if zq < 2 then .int .u64 (0) else .int .i64 (0)) 0 1 (fun _ => .int .u64 (5))) 50 := Fx.ovr_all m6
 have hct1 := Fx.ChT.of_stp s4 m4.ty
 have m8 := m5.chT hct1 (by decide)
 have b4 := s4.below b3 b3.size (by omega)
 refine Fx.L.nil (Fx.seqN (Fx.W.seq (Fx.W.list (Fx.L.v (.pointer (some ⟨g2, 2, none⟩)) (x_field rfl rfl Try.underlying50 rfl (s := 54) (by kernel_rfl) rfl (by show _ + 2 = _; omega)) (Fx.L.v (.pointer (some ⟨g2, 2, none⟩)) (x_field rfl rfl Try.underlying48 rfl (s := 6) (by kernel_rfl) rfl rfl) (Fx.L.v (.pointer (some ⟨g2, 2, none⟩)) (x_index rfl rfl rfl Try.underlying45 (s := 1) (by kernel_rfl) (by omega) (by omega) (by omega)) (Fx.L.store1 (x := Fx.ovr (fun zq => if zq < 2 then .int .u64 (0) else .int .i64 (0)) 0 1 (fun _ => .int .u64 (5))) (u := .int .i64 (10)) (by rfl) rfl rfl rfl rfl (by rfl) (by kernel_rfl) m7 (i := 2) (by omega) fun w5 m9 s5 z5 => ?_)))))))
 have hct2 := Fx.ChT.of_stp s5 m7.ty
 have m10 := m8.chT hct2 (by decide)
 have b5 := s5.below b4 b4.size (by omega)
 refine Fx.L.nil (Fx.seqN (Fx.W.seq ?_))
 have m11 : Fx.Blk w5 g2 56 (ndY 5 0 wR3) 50 := m9.congr (fun j hj => wk3_nd j)
 refine Fx.W.list (Fx.L.v (.pointer (some ⟨g1, 18, none⟩)) (x_field rfl rfl Try.underlying43 rfl (s := 1) (by kernel_rfl) rfl (by show _ + 18 = _; omega)) (Fx.L.v (.slice none 0 0) (x_load1 (x := Fx.ovr (fun zq => if zq < 12 then .bool false else if zq < 18 then .int .u64 (0) else .slice none 0 0) 0 6 (Fx.ovr (Fx.ovr (fun _ => .bool false) 0 1 (fun _ => .bool true)) 1 1 (fun _ => .bool true))) rfl rfl (by kernel_rfl) m10.cel (i := 18) (by omega) (by omega) (Fx.ovr_out (by omega) rfl)) (Fx.L.v (.agg (Fx.varr 56 (ndY 5 0 wR3))) (x_loadA (x := ndY 5 0 wR3) (y := ndY 5 0 wR3) rfl rfl (by kernel_rfl) (by kernel_rfl) m11.cel (i := 0) (by omega) (by omega) (fun j _ => by rw [Nat.zero_add])) (Fx.L.bslice (vs := [(0, .agg (Fx.varr 56 (ndY 5 0 wR3)))]) (s := 56) (zc := fun zq => if zq < 2 then .int .u64 (0) else .int .i64 (0)) (y := Fx.ovr (fun j => (fun zq => if zq < 2 then .int .u64 (0) else .int .i64 (0)) (j % 56)) (0 * 56) 56 (ndY 5 0 wR3)) (by rfl) rfl rfl Try.underlying40 (by kernel_rfl) (by rfl) (by rfl) (by kernel_rfl) (by rw [Fx.fill_step (off := 0 * 56) (s := 56) (y := ndY 5 0 wR3) rfl (Fx.cells_agg _ _) (by rfl)]; rfl) rfl fun g3 w6 eg3 m12 s6 z6 => ?_))))
 have m13 := m10.stp s6 (Nat.ne_of_lt (m10.lt))
 have b6 := s6.below b5 b5.size b5.size
 have lg3 : w.heap.size ≤ g3 := by rw [eg3]; exact b5.size
 have ng3m13 : g1 ≠ g3 := by rw [eg3]; exact Nat.ne_of_lt (m10.lt)
 have ng3m14 : g2 ≠ g3 := by rw [eg3]; exact Nat.ne_of_lt (m11.lt)
 have tg3 : g3 < w6.heap.size := m12.lt
 clear eg3
 refine Fx.L.app (B := w.heap.size) (s := 56) (bytes := 448) (k := 0) (m := 1) (v := .slice none 0 0) (x := fun _ => undef) (by rfl) rfl rfl rfl Try.underlying40 (by kernel_rfl) (by kernel_rfl) rfl rfl (Fx.Own.nil w6 w.heap.size 50 56 (fun _ => undef)) m12.cel (ovr_one (ndY_one' _ _ _)) (by omega) (by omega) (by omega) b6.size fun g4 cap1 w7 ho1 hg1 hgv1 hlt1 => ?_
 have hct3 := Fx.ChT.of_grown hg1 (Fx.Own.nil w6 w.heap.size 50 56 (fun _ => undef))
 have m16 := m13.chT hct3 (by decide)
 have hq1 : Below w6.heap.size w6 w7 := ⟨hg1.os, hg1.tape, hg1.output, hg1.size, fun q hq => hg1.block q hq (fun e => by cases e)⟩
 have m15 : Fx.Own w7 w.heap.size 50 56 (.slice (some ⟨g4, 0, none⟩) 1 cap1) 1 (Fx.flat 56 (fun _ => ndY 5 0 wR3)) := (ho1.congr (fun j hj => wk3_app j hj))
 have b7 : Below w.heap.size w w7 := Fx.Below.grow b6 hg1 b6.size (fun q hq => ((Fx.Own.nil w6 w.heap.size 50 56 (fun _ => undef)).ge hq).1)
 refine Fx.L.v (.pointer (some ⟨g1, 18, none⟩)) (x_field rfl rfl Try.underlying43 rfl (s := 1) (by kernel_rfl) rfl (by show _ + 18 = _; omega)) (Fx.L.store1 (x := Fx.ovr (fun zq => if zq < 12 then .bool false else if zq < 18 then .int .u64 (0) else .slice none 0 0) 0 6 (Fx.ovr (Fx.ovr (fun _ => .bool false) 0 1 (fun _ => .bool true)) 1 1 (fun _ => .bool true))) (u := .slice (some ⟨g4, 0, none⟩) (1) (cap1)) (by rfl) rfl rfl rfl rfl (by rfl) (by kernel_rfl) m16 (i := 18) (by omega) fun w8 m18 s7 z7 => ?_)
 have hct4 := Fx.ChT.of_stp s7 m16.ty
 have m20 := m15.chT hct4 (by decide)
 have b8 := s7.below b7 b7.size (by omega)
 refine Fx.L.nil (Fx.seqN (Fx.W.seq ?_))
 have m21 : Fx.Blk w8 g1 20 (stY (wst g4 cap1)) 43 := m18.congr (fun j hj => by rcases j with _|_|_|_|_|_|_|_|_|_|_|_|_|_|_|_|_|_|_|_|j <;> first | rfl | omega)
 refine Fx.W.list (Fx.L.v (.agg (Fx.varr 20 (stY (wst g4 cap1)))) (x_loadA (x := stY (wst g4 cap1)) (y := stY (wst g4 cap1)) rfl rfl (by kernel_rfl) (by kernel_rfl) m21.cel (i := 0) (by omega) (by omega) (fun j _ => by rw [Nat.zero_add])) (Fx.L.call (by rfl) (Fx.r_call (args := [.agg (Fx.varr 20 (stY (wst g4 cap1))), .int .i64 (2), .int .u64 (5), .int .i64 (4)]) rfl rfl Try.func59 rfl rfl) rfl ((w33_g4 g4 cap1 _ (m20.arr)).mono ?_)))
 rintro e9 w9 ⟨vg, he, hOg, hbg⟩
 obtain ⟨ag, cg, rfl⟩ := hOg.val
 refine ⟨_, he, ?_⟩
 clear he
 have s8 := Fx.Stp.of_below hbg
 have m23 := m20.stpB s8 (Nat.ne_of_lt (m20.lt))
 have m24 := m21.stp s8 (Nat.ne_of_lt (m21.lt))
 have b9 := s8.below b8 b8.size b8.size
 refine Fx.L.v (.tuple #[.slice ag (1) (cg), .int .i64 (0)]) (x_move rfl rfl) (Fx.L.v (.slice ag (1) (cg)) (Fx.x_extract rfl rfl rfl) (Fx.L.v (.int .i64 (0)) (Fx.x_extract rfl rfl rfl) (Fx.L.v (.slice ag (1) (cg)) (x_assign rfl rfl) (Fx.L.v (.int .i64 (0)) (x_assign rfl rfl) (Fx.L.nil (Fx.seqN (Fx.W.seq (Fx.W.list (Fx.L.v (.agg (Fx.varr 20 (stY (wst g4 cap1)))) (x_loadA (x := stY (wst g4 cap1)) (y := stY (wst g4 cap1)) rfl rfl (by kernel_rfl) (by kernel_rfl) m24.cel (i := 0) (by omega) (by omega) (fun j _ => by rw [Nat.zero_add])) (Fx.L.call (by rfl) (Fx.r_call (args := [.agg (Fx.varr 20 (stY (wst g4 cap1))), .int .i64 (2), .int .u64 (5), .int .i64 (11)]) rfl rfl Try.func59 rfl rfl) rfl ((w33_g11 g4 cap1 _ (m23.arr)).mono ?_)))))))))))
 rintro e w10 ⟨he, hb1⟩
 refine ⟨.tuple #[.slice none 0 0, .int .i64 (11)], by rw [he], ?_⟩
 clear he
 have s9 := Fx.Stp.of_below hb1
 have m26 := m23.stpB s9 (Nat.ne_of_lt (m23.lt))
 have m27 := m24.stp s9 (Nat.ne_of_lt (m24.lt))
 have m28 := hOg.stp s9 (hOg.notNew (Nat.le_refl _))
 have b10 := s9.below b9 b9.size b9.size
 refine Fx.L.v (.tuple #[.slice none 0 0, .int .i64 (11)]) (x_move rfl rfl) (Fx.L.v (.slice none 0 0) (Fx.x_extract rfl rfl rfl) (Fx.L.v (.int .i64 (11)) (Fx.x_extract rfl rfl rfl) (Fx.L.v (.slice none 0 0) (x_assign rfl rfl) (Fx.L.v (.int .i64 (11)) (x_assign rfl rfl) (Fx.L.nil (Fx.seqN (Fx.W.seq (Fx.W.list (Fx.L.v (.slice ag (1) (cg)) (x_move rfl rfl) (Fx.L.call (by rfl) (Fx.r_call (args := [.slice ag (1) (cg), .int .i64 (1), .int .i64 (2)]) rfl rfl Try.func60 rfl rfl) rfl ((w33_asks ag cg _ m28.arr).mono ?_)))))))))))
 rintro e9 w11 ⟨va, he, hOa, hba⟩
 obtain ⟨aa, ca, rfl⟩ := hOa.val
 refine ⟨_, he, ?_⟩
 clear he
 have s10 := Fx.Stp.of_below hba
 have m30 := m26.stpB s10 (Nat.ne_of_lt (m26.lt))
 have m31 := m27.stp s10 (Nat.ne_of_lt (m27.lt))
 have m32 := m28.stp s10 (m28.notNew (Nat.le_refl _))
 have b11 := s10.below b10 b10.size b10.size
 refine Fx.L.v (.slice aa (1) (ca)) (x_assign rfl rfl) (Fx.L.nil (Fx.seqN (Fx.W.seq (Fx.W.list (Fx.L.v (.agg (Fx.varr 20 (stY (wst g4 cap1)))) (x_loadA (x := stY (wst g4 cap1)) (y := stY (wst g4 cap1)) rfl rfl (by kernel_rfl) (by kernel_rfl) m31.cel (i := 0) (by omega) (by omega) (fun j _ => by rw [Nat.zero_add])) (Fx.L.call (by rfl) (Fx.r_call (args := [.agg (Fx.varr 20 (stY (wst g4 cap1))), .int .u64 (5)]) rfl rfl Try.func55 rfl rfl) rfl ((w33_all g4 cap1 _ (m30.arr)).mono ?_)))))))
 rintro e w12 ⟨he, hb2⟩
 refine ⟨.int .i64 (10), by rw [he], ?_⟩
 clear he
 have s11 := Fx.Stp.of_below hb2
 have m34 := m30.stpB s11 (Nat.ne_of_lt (m30.lt))
 have m35 := m31.stp s11 (Nat.ne_of_lt (m31.lt))
 have m36 := m32.stp s11 (m32.notNew (Nat.le_refl _))
 have m37 := hOa.stp s11 (hOa.notNew (Nat.le_refl _))
 have b12 := s11.below b11 b11.size b11.size
 refine Fx.L.v (.bool true) (x_eqlT rfl rfl rfl rfl) (Fx.L.v (.bool true) (x_move rfl rfl) (Fx.L.v (.agg (Fx.varr 20 (stY (wst g4 cap1)))) (x_loadA (x := stY (wst g4 cap1)) (y := stY (wst g4 cap1)) rfl rfl (by kernel_rfl) (by kernel_rfl) m35.cel (i := 0) (by omega) (by omega) (fun j _ => by rw [Nat.zero_add])) (Fx.L.call (by rfl) (Fx.r_call (args := [.agg (Fx.varr 20 (stY (wst g4 cap1))), .int .i64 (2), .int .u64 (5)]) rfl rfl Try.func56 rfl rfl) rfl ((w33_own g4 cap1 1 0 _ (m34.arr) (by decide) (by kernel_rfl) wk3_own.2).mono ?_))))
 rintro e w13 ⟨he, hb3⟩
 refine ⟨.int .i64 (0), by rw [he], ?_⟩
 clear he
 have s12 := Fx.Stp.of_below hb3
 have m39 := m34.stpB s12 (Nat.ne_of_lt (m34.lt))
 have m40 := m35.stp s12 (Nat.ne_of_lt (m35.lt))
 have m41 := m36.stp s12 (m36.notNew (Nat.le_refl _))
 have m42 := m37.stp s12 (m37.notNew (Nat.le_refl _))
 have b13 := s12.below b12 b12.size b12.size
 refine Fx.L.v (.bool true) (x_eqlT rfl rfl rfl rfl) (Fx.L.v (.bool true) (x_pickT rfl rfl rfl) (Fx.L.v (.bool true) (x_move rfl rfl) (Fx.L.v (.agg (Fx.varr 20 (stY (wst g4 cap1)))) (x_loadA (x := stY (wst g4 cap1)) (y := stY (wst g4 cap1)) rfl rfl (by kernel_rfl) (by kernel_rfl) m40.cel (i := 0) (by omega) (by omega) (fun j _ => by rw [Nat.zero_add])) (Fx.L.call (by rfl) (Fx.r_call (args := [.agg (Fx.varr 20 (stY (wst g4 cap1))), .int .i64 (1), .int .u64 (5)]) rfl rfl Try.func56 rfl rfl) rfl ((w33_own g4 cap1 0 10 _ (m39.arr) (by decide) (by kernel_rfl) wk3_own.1).mono ?_)))))
 rintro e w14 ⟨he, hb4⟩
 refine ⟨.int .i64 (10), by rw [he], ?_⟩
 clear he
 have s13 := Fx.Stp.of_below hb4
 have m46 := m41.stp s13 (m41.notNew (Nat.le_refl _))
 have m47 := m42.stp s13 (m42.notNew (Nat.le_refl _))
 have b14 := s13.below b13 b13.size b13.size
 refine Fx.L.v (.bool true) (x_eqlT rfl rfl rfl rfl) (Fx.L.v (.bool true) (x_pickT rfl rfl rfl) (Fx.L.v (.bool true) (x_move rfl rfl) (Fx.L.v (.int .i64 (0)) (x_move rfl rfl) (Fx.L.v (.bool true) (x_eqlT rfl rfl rfl rfl) (Fx.L.v (.bool true) (x_pickT rfl rfl rfl) (Fx.L.v (.bool true) (x_move rfl rfl) (Fx.L.v (.slice ag (1) (cg)) (x_move rfl rfl) (Fx.L.v (.int .i64 (1)) (x_len rfl rfl rfl (by kernel_rfl)) (Fx.L.v (.bool true) (x_eqlT rfl rfl rfl rfl) (Fx.L.v (.bool true) (x_pickT rfl rfl rfl) (Fx.L.v (.bool true) (x_move rfl rfl) (Fx.L.v (.slice ag (1) (cg)) (x_move rfl rfl) ?_))))))))))))
 obtain ⟨gq1, eq1⟩ := m46.addr (by omega)
 have m48 : Fx.Own w14 w8.heap.size 122 3 (.slice (some ⟨gq1, 0, none⟩) 1 cg) 1 (gfX [wgf]) := m46.congV (congrArg (fun q => Value.slice q 1 cg) eq1)
 refine Fx.L.v (.pointer (some ⟨gq1, 0, none⟩)) (x_indexS rfl (rfl.trans (congrArg (fun q => Value.slice q (1) (cg)) eq1)) rfl Try.underlying117 (s := 3) (by kernel_rfl) (by omega) (by omega) (by omega)) (Fx.L.v (.agg (Fx.varr 3 (gfY ([wgf].getD 0 gf0)))) (x_loadA (x := gfX [wgf]) (y := gfY ([wgf].getD 0 gf0)) rfl rfl (by kernel_rfl) (by kernel_rfl) m48.cel (i := 0) (by omega) (by omega) (fun jq hjq => Fx.flat_at (k := 0) (by omega) hjq)) (Fx.L.v (.agg (Fx.varr 3 (Fx.ovr (Fx.ovr (Fx.ovr (fun zq => if zq < 1 then .int .i64 (0) else if zq < 2 then .int .u64 (0) else .int .i64 (0)) 0 1 (fun _ => .int .i64 (1))) 1 1 (fun _ => .int .u64 (5))) 2 1 (fun _ => .int .i64 (4))))) (x_build (vs := [(0, .int .i64 (1)), (1, .int .u64 (5)), (2, .int .i64 (4))]) (places := #[(0, 1), (1, 1), (2, 1)]) (m := 3) (x := fun zq => if zq < 1 then .int .i64 (0) else if zq < 2 then .int .u64 (0) else .int .i64 (0)) rfl rfl Try.underlying122 (by kernel_rfl) (by kernel_rfl) (by rw [Fx.fill_step (off := 0) (s := 1) (y := fun _ => .int .i64 (1)) (by kernel_rfl) (Fx.cells_one (by rfl)) (by rfl)]; rw [Fx.fill_step (off := 1) (s := 1) (y := fun _ => .int .u64 (5)) (by kernel_rfl) (Fx.cells_one (by rfl)) (by rfl)]; rw [Fx.fill_step (off := 2) (s := 1) (y := fun _ => .int .i64 (4)) (by kernel_rfl) (Fx.cells_one (by rfl)) (by rfl)]; rfl)) (Fx.L.v (.bool true) (Fx.x_eqlA (n := 3) (ks := [(some .i64), (some .u64), (some .i64)]) (X := gfY ([wgf].getD 0 gf0)) (Y := Fx.ovr (Fx.ovr (Fx.ovr (fun zq => if zq < 1 then .int .i64 (0) else if zq < 2 then .int .u64 (0) else .int .i64 (0)) 0 1 (fun _ => .int .i64 (1))) 1 1 (fun _ => .int .u64 (5))) 2 1 (fun _ => .int .i64 (4))) 12 true rfl rfl rfl (Fx.yesb (fun i hi => by rcases i with _|_|_|i <;> first | rfl | omega)) (kd_congr (kd_gf ⟨by decide, by decide⟩ ⟨by decide, by decide⟩ ⟨by decide, by decide⟩ : Fx.Kd _ (gfY wgf)) (fun i hi => by rcases i with _|_|_|i <;> first | rfl | exact absurd hi (by simp))) (kd_congr (kd_gf ⟨by decide, by decide⟩ ⟨by decide, by decide⟩ ⟨by decide, by decide⟩ : Fx.Kd _ (gfY wgf)) (fun i hi => by rcases i with _|_|_|i <;> first | rfl | exact absurd hi (by simp))) rfl (by kernel_rfl) (by kernel_rfl) (by kernel_rfl) (by kernel_rfl) (by kernel_rfl)) (Fx.L.v (.bool true) (x_pickT rfl rfl rfl) (Fx.L.v (.bool true) (x_move rfl rfl) (Fx.L.v (.int .i64 (11)) (x_move rfl rfl) (Fx.L.v (.bool true) (x_eqlT rfl rfl rfl rfl) (Fx.L.v (.bool true) (x_pickT rfl rfl rfl) (Fx.L.v (.bool true) (x_move rfl rfl) (Fx.L.v (.slice aa (1) (ca)) (x_move rfl rfl) (Fx.L.v (.int .i64 (1)) (x_len rfl rfl rfl (by kernel_rfl)) (Fx.L.v (.bool true) (x_eqlT rfl rfl rfl rfl) (Fx.L.v (.bool true) (x_pickT rfl rfl rfl) (Fx.L.v (.bool true) (x_move rfl rfl) (Fx.L.v (.slice aa (1) (ca)) (x_move rfl rfl) ?_)))))))))))))))
 obtain ⟨gq2, eq2⟩ := m47.addr (by omega)
 have m49 : Fx.Own w14 w10.heap.size 116 6 (.slice (some ⟨gq2, 0, none⟩) 1 ca) 1 (asX [wak]) := m47.congV (congrArg (fun q => Value.slice q 1 ca) eq2)
 refine Fx.L.v (.pointer (some ⟨gq2, 0, none⟩)) (x_indexS rfl (rfl.trans (congrArg (fun q => Value.slice q (1) (ca)) eq2)) rfl Try.underlying76 (s := 6) (by kernel_rfl) (by omega) (by omega) (by omega)) (Fx.L.v (.agg (Fx.varr 6 (askY ([wak].getD 0 ask0)))) (x_loadA (x := asX [wak]) (y := askY ([wak].getD 0 ask0)) rfl rfl (by kernel_rfl) (by kernel_rfl) m49.cel (i := 0) (by omega) (by omega) (fun jq hjq => Fx.flat_at (k := 0) (by omega) hjq)) (Fx.L.v (.agg (Fx.varr 6 (Fx.ovr (Fx.ovr (Fx.ovr (Fx.ovr (fun zq => if zq < 1 then .int .u8 (0) else if zq < 2 then .int .u64 (0) else if zq < 4 then .int .i64 (0) else .int .u64 (0)) 0 1 (fun _ => .int .u8 (5))) 1 1 (fun _ => .int .u64 (5))) 3 1 (fun _ => .int .i64 (4))) 2 1 (fun _ => .int .i64 (2))))) (x_build (vs := [(0, .int .u8 (5)), (1, .int .u64 (5)), (3, .int .i64 (4)), (2, .int .i64 (2))]) (places := #[(0, 1), (1, 1), (2, 1), (3, 1), (4, 1), (5, 1)]) (m := 6) (x := fun zq => if zq < 1 then .int .u8 (0) else if zq < 2 then .int .u64 (0) else if zq < 4 then .int .i64 (0) else .int .u64 (0)) rfl rfl Try.underlying116 (by kernel_rfl) (by kernel_rfl) (by rw [Fx.fill_step (off := 0) (s := 1) (y := fun _ => .int .u8 (5)) (by kernel_rfl) (Fx.cells_one (by rfl)) (by rfl)]; rw [Fx.fill_step (off := 1) (s := 1) (y := fun _ => .int .u64 (5)) (by kernel_rfl) (Fx.cells_one (by rfl)) (by rfl)]; rw [Fx.fill_step (off := 3) (s := 1) (y := fun _ => .int .i64 (4)) (by kernel_rfl) (Fx.cells_one (by rfl)) (by rfl)]; rw [Fx.fill_step (off := 2) (s := 1) (y := fun _ => .int .i64 (2)) (by kernel_rfl) (Fx.cells_one (by rfl)) (by rfl)]; rfl)) (Fx.L.v (.bool true) (Fx.x_eqlA (n := 6) (ks := [(some .u8), (some .u64), (some .i64), (some .i64), (some .u64), (some .u64)]) (X := askY ([wak].getD 0 ask0)) (Y := Fx.ovr (Fx.ovr (Fx.ovr (Fx.ovr (fun zq => if zq < 1 then .int .u8 (0) else if zq < 2 then .int .u64 (0) else if zq < 4 then .int .i64 (0) else .int .u64 (0)) 0 1 (fun _ => .int .u8 (5))) 1 1 (fun _ => .int .u64 (5))) 3 1 (fun _ => .int .i64 (4))) 2 1 (fun _ => .int .i64 (2))) 12 true rfl rfl rfl (Fx.yesb (fun i hi => by rcases i with _|_|_|_|_|_|i <;> first | rfl | omega)) (kd_congr (kd_ask ⟨by decide, ⟨by decide, by decide⟩, ⟨by decide, by decide⟩, ⟨by decide, by decide⟩, ⟨by decide, by decide⟩, ⟨by decide, by decide⟩⟩ : Fx.Kd _ (askY wak)) (fun i hi => by rcases i with _|_|_|_|_|_|i <;> first | rfl | exact absurd hi (by simp))) (kd_congr (kd_ask ⟨by decide, ⟨by decide, by decide⟩, ⟨by decide, by decide⟩, ⟨by decide, by decide⟩, ⟨by decide, by decide⟩, ⟨by decide, by decide⟩⟩ : Fx.Kd _ (askY wak)) (fun i hi => by rcases i with _|_|_|_|_|_|i <;> first | rfl | exact absurd hi (by simp))) rfl (by kernel_rfl) (by kernel_rfl) (by kernel_rfl) (by kernel_rfl) (by kernel_rfl)) (Fx.L.v (.bool true) (x_pickT rfl rfl rfl) (Fx.L.v (.bool true) (x_assign rfl rfl) (Fx.L.nil (Fx.seqN (Fx.W.ret (⟨.bool true, Fx.retV1 Try.results53 (by exact rfl), ?_⟩)))))))))
 exact ⟨rfl, b14⟩
theorem l_newWorld2 (n : Nat) (m : Int) (w : World) (hm : m = (n : Int)) (hn1 : 1 ≤ n) (hn6 : n ≤ 6) :
    Calls Try.prog 22 #[.int .i64 m] w fun e w' => ∃ p M, e = .returned (.pointer (some ⟨p, 0, none⟩)) ∧ M.n = n ∧ M.an = 0 ∧ WldO w' w.heap.size p M 0 ∧ Below w.heap.size w w' := by
  subst hm; exact l_newWorld n w hn1 hn6
theorem bchB {B : Nat} {w0 w1 w2 : World} (h : Below w0.heap.size w0 w1) (hb : Below B w1 w2) (hB : w0.heap.size ≤ B) : Below w0.heap.size w0 w2 := h.trans (hb.mono hB)
theorem l_doY (M : WM) (B p T : Nat) (x : ActM) (y : Nat → Value) (w : World) (hW : WldO w B p M T) (hB : B ≤ w.heap.size) (hx : ActOk x) (han : M.an ≤ 60) (hT : T ≤ 890000) (hy : ∀ j, j < 9 → y j = actY x j) :
    Calls Try.prog 23 #[.pointer (some ⟨p, 0, none⟩), .agg (Fx.varr 9 y)] w fun e w' => (∃ v, e = .returned v) ∧ ∃ M', WldO w' B p M' (T + 3660) ∧ M'.n = M.n ∧ M'.an ≤ M.an + 1 ∧ (x.meet = true → M'.an = M.an) ∧ Below B w w' := by
  rw [Fx.varr_congr hy]; exact l_doM M B p T x w hW hB hx han hT
set_option maxRecDepth 20000 in
set_option maxHeartbeats 1000000 in
theorem r33_met (rb : Nat) (aa0 : Option Addr) (na ca : Nat) (xa : Nat → ActM) (w : World) (hrb : rb ≤ 255) (hna : na ≤ 60) (hxa : ∀ k, k < na → ActOk (xa k)) (hacts : Fx.Arr w aa0 na 9 (Fx.flat 9 fun k => actY (xa k))) :
    Calls Try.prog 54 #[.int .u8 ((rb : Int)), .slice aa0 (na) (ca)] w fun e w' => ∃ pw M T p0 m0, e = .returned (.tuple #[.pointer (some ⟨p0, 0, none⟩), .pointer (some ⟨pw, 0, none⟩)]) ∧ WldO w' w.heap.size pw M T ∧ LdO w' w.heap.size p0 m0 ∧ Inv m0.core T ∧ T ≤ 250000 ∧ M.an ≤ 60 ∧ Below w.heap.size w w' := by
 refine Fx.enter Try.func54 rfl (n := 47) rfl (by rfl) ?_
 refine Fx.W.seq (Fx.W.list (Fx.L.v (.pointer none) (x_assign rfl rfl) (Fx.L.v (.pointer none) (x_assign rfl rfl) (Fx.L.nil (Fx.seqN (Fx.W.seq ?_))))))
 obtain ⟨rn, ern⟩ : ∃ r, r = rb % 6 := ⟨_, rfl⟩
 have hrn : rn < 6 := by rw [ern]; exact Nat.mod_lt _ (by omega)
 refine Fx.W.list (Fx.L.v (.int .u8 ((rb : Int))) (x_move rfl rfl) (Fx.L.v (.int .i64 ((rb : Int))) (x_conv rfl rfl (by kernel_rfl) Try.underlying3 (Fx.i64e (by omega) rfl)) (Fx.L.v (.int .i64 ((rn : Int))) (Fx.x_rem rfl rfl rfl (by omega) (remL ern)) (Fx.L.v (.int .i64 ((rn : Int) + 1)) (Fx.x_add rfl rfl rfl (Fx.i64e (by omega) (by omega))) (Fx.L.call (by rfl) (Fx.r_call (args := [.int .i64 ((rn : Int) + 1)]) rfl rfl Try.func22 rfl rfl) rfl ((l_newWorld2 (rn + 1) _ _ (by omega) (by omega) (by omega)).mono ?_))))))
 rintro e9 w1 ⟨pw, M0, he, hMn, hMa, hW0, hbw⟩
 refine ⟨.pointer (some ⟨pw, 0, none⟩), he, ?_⟩
 clear he
 have sB := (Below.refl w.heap.size w).size
 have s1 := Fx.Stp.of_below hbw
 have b1 := s1.below (Below.refl w.heap.size w) (Below.refl w.heap.size w).size (Below.refl w.heap.size w).size
 have sW : w.heap.size ≤ w1.heap.size := hbw.size
 refine Fx.L.v (.pointer (some ⟨pw, 0, none⟩)) (x_assign rfl rfl) (Fx.L.nil (Fx.seqN (Fx.W.seq (Fx.W.seq (Fx.W.list (Fx.L.v (.int .i64 (0)) (x_assign rfl rfl) (Fx.L.nil (Fx.seqN (Fx.W.block (Fx.W.loop (fun f w_ => ∃ k : Nat, ∃ M9 : WM, ∃ T9 : Nat, k ≤ na ∧ T9 ≤ 3660 * k ∧ M9.n = M0.n ∧ M9.an ≤ k ∧ w.heap.size ≤ w_.heap.size ∧ f 1 = .slice aa0 (na) (ca) ∧ f 6 = .pointer (some ⟨pw, 0, none⟩) ∧ f 7 = .int .i64 ((k : Int)) ∧ WldO w_ w.heap.size pw M9 T9 ∧ Below w.heap.size w w_) (fun f _ => (na - (intOf (f 7)).toNat)) ⟨0, M0, 0, by omega, by omega, rfl, by omega, sW, (by rfl), (by rfl), (by first | rfl | exact congrArg (Value.int .i64) (by omega)), hW0, b1⟩ ?_))))))))))
 rintro f1 w2 ⟨k, M9, T9, hk, hTk, hMn9, hMa9, sWk, h1, h2, h3, m1, b2⟩
 refine Fx.W.seq (Fx.W.seq (Fx.W.list (Fx.L.v (.int .i64 ((k : Int))) (x_move rfl h3) (Fx.L.v (.slice aa0 (na) (ca)) (x_move rfl h1) (Fx.L.v (.int .i64 ((na : Int))) (x_len rfl rfl rfl (by kernel_rfl)) ?_)))))
 by_cases c17 : (k : Int) < (na : Int)
 ·refine Fx.L.v (.bool true) (Fx.x_lssT rfl rfl rfl c17) (Fx.L.nil (Fx.seqN (Fx.W.cond (b := true) rfl (fun _ => Fx.W.skip (Fx.seqN (Fx.W.seq (Fx.W.block (Fx.W.list (Fx.L.v (.pointer (some ⟨pw, 0, none⟩)) (x_move rfl h2) ?_)))))) (fun h => nomatch h))))
  refine Fx.L.v (.slice aa0 (na) (ca)) (x_move rfl h1) (Fx.L.v (.int .i64 ((k : Int))) (x_move rfl h3) ?_)
  obtain ⟨bq1, oq1, eq1, m2⟩ := (hacts.up b2 rfl) (by omega)
  have lbq1 : bq1 < w2.heap.size := m2.lt (by omega)
  refine Fx.L.v (.pointer (some ⟨bq1, 9 * k + oq1, none⟩)) (x_indexS rfl (rfl.trans (congrArg (fun q => Value.slice q (na) (ca)) eq1)) rfl Try.underlying38 (s := 9) (by kernel_rfl) (by omega) (by omega) (by omega)) (Fx.L.v (.agg (Fx.varr 9 (actY (xa k)))) (x_loadA (x := Fx.flat 9 fun k => actY (xa k)) (y := actY (xa k)) rfl rfl (by kernel_rfl) (by kernel_rfl) m2 (i := 9 * k) (by omega) (by omega) (fun jq hjq => Fx.flat_at (k := k) (by omega) hjq)) (Fx.L.call (by rfl) (Fx.r_call (args := [.pointer (some ⟨pw, 0, none⟩), .agg (Fx.varr 9 (actY (xa k)))]) rfl rfl Try.func23 rfl rfl) rfl ((l_do M9 w.heap.size pw T9 (xa k) _ m1 sWk (hxa k (by omega)) (by omega) (by omega)).mono ?_)))
  rintro e9 w3 ⟨⟨v9, he⟩, M2, hW1, hM2n, hM2a, hb1⟩
  refine ⟨v9, he, ?_⟩
  clear he
  have b3 : Below w.heap.size w w3 := bchB b2 hb1 sB
  have sW1 : w.heap.size ≤ w3.heap.size := by have := hb1.size; omega
  have sWn : w.heap.size ≤ w3.heap.size := by have := hb1.size; omega
  refine Fx.L.nil (Fx.blkN (Fx.seqN (Fx.W.list (Fx.L.v (.int .i64 ((k : Int))) (x_move rfl h3) (Fx.L.v (.int .i64 ((k : Int) + 1)) (Fx.x_add rfl rfl rfl (Fx.i64e (by omega) (by omega))) (Fx.L.v (.int .i64 ((k : Int) + 1)) (x_assign rfl rfl) (Fx.L.nil (Fx.lpN ⟨k + 1, M2, (T9 + 3660), by omega, by omega, (hM2n.trans hMn9), by omega, sWn, h1, h2, (by first | rfl | exact congrArg (Value.int .i64) (by omega)), hW1, b3⟩ ?_))))))))
  show (na - (intOf ((.int .i64 ((k : Int) + 1)))).toNat) < _
  simp only [h3, intOf]; omega
 ·refine Fx.L.v (.bool false) (Fx.x_lssF rfl rfl rfl c17) (Fx.L.nil (Fx.seqN (Fx.W.cond (b := false) rfl (fun h => nomatch h) (fun _ => Fx.W.exit (Fx.seqX (Fx.lpX (Fx.blkX (Fx.seqN (Fx.W.seq (Fx.W.seq (Fx.W.list (Fx.L.v (.int .i64 (1)) (x_assign rfl rfl) (Fx.L.nil (Fx.seqN (Fx.W.block ?_)))))))))))))))
  have hM91 := m1.n1
  have hM96 := m1.n6
  refine Fx.W.loop (fun f w_ => ∃ i : Nat, ∃ M8 : WM, ∃ T8 : Nat, 1 ≤ i ∧ i ≤ M8.n ∧ T8 ≤ 3660 * (60 + i) ∧ M8.n ≤ 6 ∧ M8.an ≤ 60 ∧ w.heap.size ≤ w_.heap.size ∧ f 6 = .pointer (some ⟨pw, 0, none⟩) ∧ f 8 = .int .i64 ((i : Int)) ∧ WldO w_ w.heap.size pw M8 T8 ∧ Below w.heap.size w w_) (fun f _ => (6 - (intOf (f 8)).toNat)) ⟨1, M9, T9, Nat.le_refl _, hM91, by omega, hM96, (by omega), sWk, h2, (by first | rfl | exact congrArg (Value.int .i64) (by omega)), m1, b2⟩ ?_
  rintro f2 w4 ⟨i, M8, T8, hi1, hi2, hTi, hMn8, hMa8, sWk2, h4, h5, m3, b4⟩
  refine Fx.W.seq (Fx.W.seq ?_)
  have hWc := m3.c
  have hWl := m3.l
  have hWa := m3.a
  have hWg := m3.g
  refine Fx.W.list (Fx.L.v (.int .i64 ((i : Int))) (x_move rfl h5) (Fx.L.v (.pointer (some ⟨pw, 0, none⟩)) (x_move rfl h4) (Fx.L.v (.pointer (some ⟨pw, 0, none⟩)) (x_nil rfl rfl) (Fx.L.v (.pointer (some ⟨pw, 0, none⟩)) (x_field rfl rfl Try.underlying63 rfl (s := 1) (by kernel_rfl) rfl rfl) (Fx.L.v (.slice M8.la (M8.n) (M8.lc)) (x_load1 (x := wdY (.slice M8.la (M8.n) (M8.lc)) (.slice M8.aa (M8.an) (M8.ac))) rfl rfl (by kernel_rfl) hWc.cel (i := 0) (by omega) (by omega) rfl) (Fx.L.v (.int .i64 ((M8.n : Int))) (x_len rfl rfl rfl (by kernel_rfl)) ?_))))))
  by_cases c32 : (i : Int) < (M8.n : Int)
  ·refine Fx.L.v (.bool true) (Fx.x_lssT rfl rfl rfl c32) (Fx.L.nil (Fx.seqN (Fx.W.cond (b := true) rfl (fun _ => Fx.W.skip (Fx.seqN (Fx.W.seq (Fx.W.block (Fx.W.list (Fx.L.v (.pointer (some ⟨pw, 0, none⟩)) (x_move rfl h4) ?_)))))) (fun h => nomatch h))))
   refine Fx.L.v (.int .i64 ((i : Int))) (x_move rfl h5) (Fx.L.v (.int .u8 ((i : Int))) (x_conv rfl rfl (by kernel_rfl) Try.underlying5 (Fx.u8e (by omega) rfl)) (Fx.L.v (.agg (Fx.varr 9 (Fx.ovr (Fx.ovr (fun zq => if zq < 1 then .int .u8 (0) else if zq < 2 then .bool false else if zq < 6 then .int .u8 (0) else if zq < 7 then .int .u16 (0) else .int .u8 (0)) 1 1 (fun _ => .bool true)) 2 1 (fun _ => .int .u8 ((i : Int)))))) (x_build (vs := [(1, .bool true), (2, .int .u8 ((i : Int)))]) (places := #[(0, 1), (1, 1), (2, 1), (3, 1), (4, 1), (5, 1), (6, 1), (7, 1), (8, 1)]) (m := 9) (x := fun zq => if zq < 1 then .int .u8 (0) else if zq < 2 then .bool false else if zq < 6 then .int .u8 (0) else if zq < 7 then .int .u16 (0) else .int .u8 (0)) rfl rfl Try.underlying58 (by kernel_rfl) (by kernel_rfl) (by rw [Fx.fill_step (off := 1) (s := 1) (y := fun _ => .bool true) (by kernel_rfl) (Fx.cells_one (by rfl)) (by rfl)]; rw [Fx.fill_step (off := 2) (s := 1) (y := fun _ => .int .u8 ((i : Int))) (by kernel_rfl) (Fx.cells_one (by rfl)) (by rfl)]; rfl)) (Fx.L.call (by rfl) (Fx.r_call (args := [.pointer (some ⟨pw, 0, none⟩), .agg (Fx.varr 9 (Fx.ovr (Fx.ovr (fun zq => if zq < 1 then .int .u8 (0) else if zq < 2 then .bool false else if zq < 6 then .int .u8 (0) else if zq < 7 then .int .u16 (0) else .int .u8 (0)) 1 1 (fun _ => .bool true)) 2 1 (fun _ => .int .u8 ((i : Int)))))]) rfl rfl Try.func23 rfl rfl) rfl ((l_doY M8 w.heap.size pw T8 ⟨0, true, i, 0, 0, 0, 0, 0, 0⟩ _ _ m3 sWk2 ⟨Nat.zero_le _, by show i ≤ 255; omega, Nat.zero_le _, Nat.zero_le _, Nat.zero_le _, Nat.zero_le _, Nat.zero_le _, Nat.zero_le _⟩ (by omega) (by omega) (fun j hj => by rcases j with _|_|_|_|_|_|_|_|_|j <;> first | rfl | omega)).mono ?_))))
   rintro e9 w5 ⟨⟨v9, he⟩, M2, hW2, hM2n, _, hM2a, hb2⟩
   have hM2a := hM2a rfl
   refine ⟨v9, he, ?_⟩
   clear he
   have b5 : Below w.heap.size w w5 := bchB b4 hb2 sB
   have sWn : w.heap.size ≤ w5.heap.size := by have := hb2.size; omega
   refine Fx.L.nil (Fx.blkN (Fx.seqN (Fx.W.list (Fx.L.v (.int .i64 ((i : Int))) (x_move rfl h5) (Fx.L.v (.int .i64 ((i : Int) + 1)) (Fx.x_add rfl rfl rfl (Fx.i64e (by omega) (by omega))) (Fx.L.v (.int .i64 ((i : Int) + 1)) (x_assign rfl rfl) (Fx.L.nil (Fx.lpN ⟨i + 1, M2, (T8 + 3660), by omega, by omega, by omega, (by omega), (by omega), sWn, h4, (by first | rfl | exact congrArg (Value.int .i64) (by omega)), hW2, b5⟩ ?_))))))))
   show (6 - (intOf ((.int .i64 ((i : Int) + 1)))).toNat) < _
   simp only [h5, intOf]; omega
  ·refine Fx.L.v (.bool false) (Fx.x_lssF rfl rfl rfl c32) (Fx.L.nil (Fx.seqN (Fx.W.cond (b := false) rfl (fun h => nomatch h) (fun _ => Fx.W.exit (Fx.seqX (Fx.lpX (Fx.blkX (Fx.seqN (Fx.W.seq ?_)))))))))
   have hn1 := m3.n1
   refine Fx.W.list (Fx.L.v (.pointer (some ⟨pw, 0, none⟩)) (x_move rfl h4) (Fx.L.v (.pointer (some ⟨pw, 0, none⟩)) (x_nil rfl rfl) (Fx.L.v (.pointer (some ⟨pw, 0, none⟩)) (x_field rfl rfl Try.underlying63 rfl (s := 1) (by kernel_rfl) rfl rfl) (Fx.L.v (.slice M8.la (M8.n) (M8.lc)) (x_load1 (x := wdY (.slice M8.la (M8.n) (M8.lc)) (.slice M8.aa (M8.an) (M8.ac))) rfl rfl (by kernel_rfl) hWc.cel (i := 0) (by omega) (by omega) rfl) ?_))))
   obtain ⟨gq1, eq2⟩ := hWl.addr (by omega)
   have m4 : Fx.Own w4 w.heap.size 59 1 (.slice (some ⟨gq1, 0, none⟩) M8.n M8.lc) M8.n (ptX M8.pl) := hWl.congV (congrArg (fun q => Value.slice q M8.n M8.lc) eq2)
   refine Fx.L.v (.pointer (some ⟨gq1, 0, none⟩)) (x_indexS rfl (rfl.trans (congrArg (fun q => Value.slice q (M8.n) (M8.lc)) eq2)) rfl Try.underlying60 (s := 1) (by kernel_rfl) (by omega) (by omega) (by omega)) (Fx.L.v (.pointer (some ⟨(M8.pl 0), 0, none⟩)) (x_load1 (x := ptX M8.pl) rfl rfl (by kernel_rfl) m4.cel (i := 0) (by omega) (by omega) rfl) (Fx.L.v (.pointer (some ⟨pw, 0, none⟩)) (x_move rfl h4) (Fx.L.v (.pointer (some ⟨(M8.pl 0), 0, none⟩)) (x_assign rfl rfl) (Fx.L.v (.pointer (some ⟨pw, 0, none⟩)) (x_assign rfl rfl) (Fx.L.nil (Fx.seqN (Fx.W.ret (⟨.tuple #[.pointer (some ⟨(M8.pl 0), 0, none⟩), .pointer (some ⟨pw, 0, none⟩)], Fx.retV2 Try.results54 (by exact rfl) (by exact rfl), ?_⟩))))))))
   exact ⟨pw, M8, T8, M8.pl 0, M8.ml 0, rfl, m3, m3.g 0 m3.n1, m3.inv 0 m3.n1, by omega, hMa8, b4⟩
set_option maxRecDepth 20000 in
theorem r33_event (m : LdM) (B p b : Nat) (x : AskM) (w : World) (hL : LdO w B p m) (hb : b < 6) (hk : 0 ≤ m.s.known b ∧ m.s.known b ≤ 300000) :
    Calls Try.prog 58 #[.pointer (some ⟨p, 0, none⟩), .int .i64 ((b : Int) + 1), .agg (Fx.varr 6 (askY x))] w fun e w' => e = .returned (.agg (Fx.varr 14 (evY ⟨(b : Int) + 1, m.s.known b + 1, m.s.known, x.kind, x.node, x.dst, x.amt, x.req, x.of⟩))) ∧ Below w.heap.size w w' := by
 have hLc := hL.c
 have lpp : p < w.heap.size := hLc.lt
 refine Fx.enter Try.func58 rfl (n := 35) rfl (by rfl) ?_
 refine Fx.W.seq (Fx.W.list (Fx.L.box (m := 6) (y := askY x) (by rfl) rfl rfl (Fx.cells_agg _ _) rfl fun g1 w1 eg1 m1 s1 z1 => ?_))
 have m2 := hLc.stp s1 (Nat.ne_of_lt (hLc.lt))
 have b1 := s1.below (Below.refl w.heap.size w) (Below.refl w.heap.size w).size (Below.refl w.heap.size w).size
 have lg1 : w.heap.size ≤ g1 := by rw [eg1]; exact (Below.refl w.heap.size w).size
 have ng1m2 : p ≠ g1 := by rw [eg1]; exact Nat.ne_of_lt (hLc.lt)
 have tg1 : g1 < w1.heap.size := m1.lt
 clear eg1
 refine Fx.L.new (m := 14) (y := fun zq => if zq < 1 then .int .i64 (0) else if zq < 8 then .int .u64 (0) else if zq < 9 then .int .u8 (0) else if zq < 10 then .int .u64 (0) else if zq < 12 then .int .i64 (0) else .int .u64 (0)) (by rfl) rfl (by kernel_rfl) rfl fun g2 w2 eg2 m3 s2 z2 => ?_
 have m4 := m2.stp s2 (Nat.ne_of_lt (m2.lt))
 have m5 := m1.stp s2 (Nat.ne_of_lt (m1.lt))
 have b2 := s2.below b1 b1.size b1.size
 have lg2 : w.heap.size ≤ g2 := by rw [eg2]; exact b1.size
 have ng2m4 : p ≠ g2 := by rw [eg2]; exact Nat.ne_of_lt (m2.lt)
 have ng2m5 : g1 ≠ g2 := by rw [eg2]; exact Nat.ne_of_lt (m1.lt)
 have tg2 : g2 < w2.heap.size := m3.lt
 clear eg2
 refine Fx.L.nil (Fx.seqN (Fx.W.seq ?_))
 -- region 1 draws
 refine Fx.W.tail 28 (by kernel_rfl) (by kernel_rfl) fun wt1 hbwt1 hzwt1 => ?_
 have s3 : Fx.Stp w2.heap.size w2 wt1 := Fx.Stp.of_below hbwt1
 have m6 := m4.stp s3 (Nat.ne_of_lt (m4.lt))
 have m7 := m5.stp s3 (Nat.ne_of_lt (m5.lt))
 have m8 := m3.stp s3 (Nat.ne_of_lt (m3.lt))
 have b3 := s3.below b2 b2.size b2.size
 refine Fx.St.v (.int .i64 ((b : Int) + 1)) (x_move rfl rfl) (Fx.St.v (.pointer (some ⟨p, 0, none⟩)) (x_move rfl rfl) (Fx.St.v (.int .i64 ((b : Int) + 1)) (x_move rfl rfl) (Fx.St.v (.int .i64 ((b : Int))) (Fx.x_sub rfl rfl rfl (Fx.i64e (by omega) (by omega))) (Fx.St.v (.pointer (some ⟨p, 0, none⟩)) (x_nil rfl rfl) (Fx.St.v (.pointer (some ⟨p, 0, none⟩)) (x_field rfl rfl Try.underlying71 rfl (s := 20) (by kernel_rfl) rfl rfl) (Fx.St.v (.pointer (some ⟨p, 12, none⟩)) (x_field rfl rfl Try.underlying43 rfl (s := 6) (by kernel_rfl) rfl (by show _ + 12 = _; omega)) (Fx.St.v (.pointer (some ⟨p, b + 12, none⟩)) (x_index rfl rfl rfl Try.underlying29 (s := 1) (by kernel_rfl) (by omega) (by omega) (by omega)) (Fx.St.v (.int .u64 (m.s.known b)) (x_load1 (x := ldY m) rfl rfl (by kernel_rfl) m6.cel (i := b + 12) (by omega) (by omega) (ldY_st _ (by omega) (stY_known _ (by omega) (by omega)))) (Fx.St.v (.int .u64 ((m.s.known b) + 1)) (Fx.x_add rfl rfl rfl (Fx.u64e (by omega) (by omega))) (Fx.St.v (.pointer (some ⟨p, 0, none⟩)) (x_move rfl rfl) (Fx.St.v (.pointer (some ⟨p, 0, none⟩)) (x_nil rfl rfl) (Fx.St.v (.pointer (some ⟨p, 0, none⟩)) (x_field rfl rfl Try.underlying71 rfl (s := 20) (by kernel_rfl) rfl rfl) (Fx.St.v (.pointer (some ⟨p, 12, none⟩)) (x_field rfl rfl Try.underlying43 rfl (s := 6) (by kernel_rfl) rfl (by show _ + 12 = _; omega)) (Fx.St.v (.agg (Fx.varr 6 (Fx.rv .u64 m.s.known))) (x_loadA (x := ldY m) (y := Fx.rv .u64 m.s.known) rfl rfl (by kernel_rfl) (by kernel_rfl) m6.cel (i := 12) (by omega) (by omega) (fun j hj => ldY_st _ (by omega) (stY_known _ hj (by omega)))) (Fx.St.v (.pointer (some ⟨g1, 0, none⟩)) (x_field rfl rfl Try.underlying116 rfl (s := 1) (by kernel_rfl) rfl rfl) (Fx.St.v (.int .u8 (x.kind)) (x_load1 (x := askY x) rfl rfl (by kernel_rfl) m7.cel (i := 0) (by omega) (by omega) rfl) (Fx.St.v (.pointer (some ⟨g1, 1, none⟩)) (x_field rfl rfl Try.underlying116 rfl (s := 1) (by kernel_rfl) rfl (by show _ + 1 = _; omega)) (Fx.St.v (.int .u64 (x.node)) (x_load1 (x := askY x) rfl rfl (by kernel_rfl) m7.cel (i := 1) (by omega) (by omega) rfl) (Fx.St.v (.pointer (some ⟨g1, 2, none⟩)) (x_field rfl rfl Try.underlying116 rfl (s := 1) (by kernel_rfl) rfl (by show _ + 2 = _; omega)) (Fx.St.v (.int .i64 (x.dst)) (x_load1 (x := askY x) rfl rfl (by kernel_rfl) m7.cel (i := 2) (by omega) (by omega) rfl) (Fx.St.v (.pointer (some ⟨g1, 3, none⟩)) (x_field rfl rfl Try.underlying116 rfl (s := 1) (by kernel_rfl) rfl (by show _ + 3 = _; omega)) (Fx.St.v (.int .i64 (x.amt)) (x_load1 (x := askY x) rfl rfl (by kernel_rfl) m7.cel (i := 3) (by omega) (by omega) rfl) (Fx.St.v (.pointer (some ⟨g1, 4, none⟩)) (x_field rfl rfl Try.underlying116 rfl (s := 1) (by kernel_rfl) rfl (by show _ + 4 = _; omega)) (Fx.St.v (.int .u64 (x.req)) (x_load1 (x := askY x) rfl rfl (by kernel_rfl) m7.cel (i := 4) (by omega) (by omega) rfl) ?_))))))))))))))))))))))))
 refine Fx.St.v (.pointer (some ⟨g1, 5, none⟩)) (x_field rfl rfl Try.underlying116 rfl (s := 1) (by kernel_rfl) rfl (by show _ + 5 = _; omega)) (Fx.St.v (.int .u64 (x.of)) (x_load1 (x := askY x) rfl rfl (by kernel_rfl) m7.cel (i := 5) (by omega) (by omega) rfl) (Fx.St.v (.agg (Fx.varr 14 (Fx.ovr (Fx.ovr (Fx.ovr (Fx.ovr (Fx.ovr (Fx.ovr (Fx.ovr (Fx.ovr (Fx.ovr (fun zq => if zq < 1 then .int .i64 (0) else if zq < 8 then .int .u64 (0) else if zq < 9 then .int .u8 (0) else if zq < 10 then .int .u64 (0) else if zq < 12 then .int .i64 (0) else .int .u64 (0)) 0 1 (fun _ => .int .i64 ((b : Int) + 1))) 1 1 (fun _ => .int .u64 ((m.s.known b) + 1))) 2 6 (Fx.rv .u64 m.s.known)) 8 1 (fun _ => .int .u8 (x.kind))) 9 1 (fun _ => .int .u64 (x.node))) 10 1 (fun _ => .int .i64 (x.dst))) 11 1 (fun _ => .int .i64 (x.amt))) 12 1 (fun _ => .int .u64 (x.req))) 13 1 (fun _ => .int .u64 (x.of))))) (x_build (vs := [(0, .int .i64 ((b : Int) + 1)), (1, .int .u64 ((m.s.known b) + 1)), (2, .agg (Fx.varr 6 (Fx.rv .u64 m.s.known))), (3, .int .u8 (x.kind)), (4, .int .u64 (x.node)), (5, .int .i64 (x.dst)), (6, .int .i64 (x.amt)), (7, .int .u64 (x.req)), (8, .int .u64 (x.of))]) (places := #[(0, 1), (1, 1), (2, 6), (8, 1), (9, 1), (10, 1), (11, 1), (12, 1), (13, 1)]) (m := 14) (x := fun zq => if zq < 1 then .int .i64 (0) else if zq < 8 then .int .u64 (0) else if zq < 9 then .int .u8 (0) else if zq < 10 then .int .u64 (0) else if zq < 12 then .int .i64 (0) else .int .u64 (0)) rfl rfl Try.underlying54 (by kernel_rfl) (by kernel_rfl) (by rw [Fx.fill_step (off := 0) (s := 1) (y := fun _ => .int .i64 ((b : Int) + 1)) (by kernel_rfl) (Fx.cells_one (by rfl)) (by rfl)]; rw [Fx.fill_step (off := 1) (s := 1) (y := fun _ => .int .u64 ((m.s.known b) + 1)) (by kernel_rfl) (Fx.cells_one (by rfl)) (by rfl)]; rw [Fx.fill_step (off := 2) (s := 6) (y := Fx.rv .u64 m.s.known) (by kernel_rfl) (Fx.cells_agg _ _) (by rfl)]; rw [Fx.fill_step (off := 8) (s := 1) (y := fun _ => .int .u8 (x.kind)) (by kernel_rfl) (Fx.cells_one (by rfl)) (by rfl)]; rw [Fx.fill_step (off := 9) (s := 1) (y := fun _ => .int .u64 (x.node)) (by kernel_rfl) (Fx.cells_one (by rfl)) (by rfl)]; rw [Fx.fill_step (off := 10) (s := 1) (y := fun _ => .int .i64 (x.dst)) (by kernel_rfl) (Fx.cells_one (by rfl)) (by rfl)]; rw [Fx.fill_step (off := 11) (s := 1) (y := fun _ => .int .i64 (x.amt)) (by kernel_rfl) (Fx.cells_one (by rfl)) (by rfl)]; rw [Fx.fill_step (off := 12) (s := 1) (y := fun _ => .int .u64 (x.req)) (by kernel_rfl) (Fx.cells_one (by rfl)) (by rfl)]; rw [Fx.fill_step (off := 13) (s := 1) (y := fun _ => .int .u64 (x.of)) (by kernel_rfl) (Fx.cells_one (by rfl)) (by rfl)]; rfl)) (Fx.St.nil ?_)))
 refine Fx.L.storeA (x := fun zq => if zq < 1 then .int .i64 (0) else if zq < 8 then .int .u64 (0) else if zq < 9 then .int .u8 (0) else if zq < 10 then .int .u64 (0) else if zq < 12 then .int .i64 (0) else .int .u64 (0)) (y := Fx.ovr (Fx.ovr (Fx.ovr (Fx.ovr (Fx.ovr (Fx.ovr (Fx.ovr (Fx.ovr (Fx.ovr (fun zq => if zq < 1 then .int .i64 (0) else if zq < 8 then .int .u64 (0) else if zq < 9 then .int .u8 (0) else if zq < 10 then .int .u64 (0) else if zq < 12 then .int .i64 (0) else .int .u64 (0)) 0 1 (fun _ => .int .i64 ((b : Int) + 1))) 1 1 (fun _ => .int .u64 ((m.s.known b) + 1))) 2 6 (Fx.rv .u64 m.s.known)) 8 1 (fun _ => .int .u8 (x.kind))) 9 1 (fun _ => .int .u64 (x.node))) 10 1 (fun _ => .int .i64 (x.dst))) 11 1 (fun _ => .int .i64 (x.amt))) 12 1 (fun _ => .int .u64 (x.req))) 13 1 (fun _ => .int .u64 (x.of))) (by rfl) rfl rfl rfl rfl (Fx.ovr_ones (Fx.ovr_ones (Fx.ovr_ones (Fx.ovr_ones (Fx.ovr_ones (Fx.ovr_ones (Fx.ovr_ones (Fx.ovr_ones (Fx.ovr_ones (fun jq _ => by show ((fun zq => if zq < 1 then .int .i64 (0) else if zq < 8 then .int .u64 (0) else if zq < 9 then .int .u8 (0) else if zq < 10 then .int .u64 (0) else if zq < 12 then .int .i64 (0) else .int .u64 (0) : Nat → Value) jq).oneCell' = true; simp only []; repeat (first | rfl | split)) (fun _ _ => rfl)) (fun _ _ => rfl)) (fun _ _ => rfl)) (fun _ _ => rfl)) (fun _ _ => rfl)) (fun _ _ => rfl)) (fun _ _ => rfl)) (fun _ _ => rfl)) (fun _ _ => rfl)) (by kernel_rfl) m8 (i := 0) (by omega) fun w3 m9 s4 z3 => ?_
 have m10 : Fx.Blk w3 g2 14 (Fx.ovr (Fx.ovr (Fx.ovr (Fx.ovr (Fx.ovr (Fx.ovr (Fx.ovr (Fx.ovr (Fx.ovr (fun zq => if zq < 1 then .int .i64 (0) else if zq < 8 then .int .u64 (0) else if zq < 9 then .int .u8 (0) else if zq < 10 then .int .u64 (0) else if zq < 12 then .int .i64 (0) else .int .u64 (0)) 0 1 (fun _ => .int .i64 ((b : Int) + 1))) 1 1 (fun _ => .int .u64 ((m.s.known b) + 1))) 2 6 (Fx.rv .u64 m.s.known)) 8 1 (fun _ => .int .u8 (x.kind))) 9 1 (fun _ => .int .u64 (x.node))) 10 1 (fun _ => .int .i64 (x.dst))) 11 1 (fun _ => .int .i64 (x.amt))) 12 1 (fun _ => .int .u64 (x.req))) 13 1 (fun _ => .int .u64 (x.of))) 54 := Fx.ovr_all m9
 have m11 : Fx.Blk w3 g2 14 (evY ⟨(b : Int) + 1, m.s.known b + 1, m.s.known, x.kind, x.node, x.dst, x.amt, x.req, x.of⟩) 54 := m10.congr (fun j hj => by rcases j with _|_|_|_|_|_|_|_|_|_|_|_|_|_|j <;> first | rfl | omega)
 have b4 := s4.below b3 b3.size (by omega)
 refine Fx.L.nil (Fx.seqN (Fx.W.ret (⟨.agg (Fx.varr 14 (evY ⟨(b : Int) + 1, m.s.known b + 1, m.s.known, x.kind, x.node, x.dst, x.amt, x.req, x.of⟩)), Fx.retV1 Try.results58 ⟨_, rfl, Fx.run_loadV m11.cel (by kernel_rfl) (by kernel_rfl)⟩, ?_⟩)))
 exact ⟨rfl, b4⟩
section
namespace Rt
def loAt (L : LdC) (x : Int) : Nat → Int := locI L.id L.nn L.R x
def pathN (L : LdC) (x : Int) : Nat := pathS L.id L.par L.nn x
def ndAt (L : LdC) (x : Int) (p : Nat) : Int := iterS L.id L.par L.nn p x
def takeV (L : LdC) (a : Nat) (x y : Int) : EvM := ⟨(a : Int) + 1, L.known a + 1, L.known, 3, x, 0, y, 1073741824, 0⟩
def moveV (L : LdC) (b a : Nat) (x y : Int) : EvM := ⟨(b : Int) + 1, L.known b + 1, L.known, 5, x, (a : Int) + 1, y, 0, 0⟩
section
variable {L : LdC} {T a b : Nat} {x y : Int}
theorem regB_nat (ha : a < 6) : regB ((a : Int) + 1) = true := by unfold regB; rw [decide_eq_true (by omega), decide_eq_true (by omega)]; rfl
theorem regE_nat2 (ha : a < 6) : regE ((a : Int) + 1) = true := by unfold regE; rw [decide_eq_true (by omega), decide_eq_true (by omega)]; rfl
theorem turned_go {r : Nat → Int} {n em : Int} {off : Nat} (hm : may r = true) (h1 : 1 ≤ n) (h2 : n ≤ 1125899906842624) (h3 : r off + n ≤ 1125899906842624) : (turnedM r n true em off).2 = em ∧ (em = 0 → (turnedM r n true em off).1 = upd r off (r off + n)) := by
  unfold turnedM
  rw [hm, decide_eq_true h1, decide_eq_true h2]
  simp only [Bool.and_self, if_true]
  by_cases e : em = 0
  · rw [if_pos e, if_pos h3]; exact ⟨e.symm, fun _ => rfl⟩
  · rw [if_neg e]; exact ⟨rfl, fun h => absurd h e⟩
theorem take_is {r : Nat → Int} {n : Int} (hm : may r = true) (ha : a < 6) (h1 : 1 ≤ n) (h2 : n ≤ 1125899906842624) (h3 : r (6 + a) + n ≤ 1125899906842624) : (takeM r ((a : Int) + 1) n).2 = if n ≤ localV r ((a : Int) + 1) then 0 else 11 := by
  unfold takeM
  rw [regB_nat ha, show 6 + (((a : Int) + 1).toNat - 1) = 6 + a by omega, (turned_go hm h1 h2 h3).1]
  unfold takeE
  by_cases e : n ≤ localV r ((a : Int) + 1)
  · rw [if_pos e, decide_eq_false (by omega)]; rfl
  · rw [if_neg e, decide_eq_true (by omega)]; rfl
theorem move_is {r : Nat → Int} {n : Int} (hm : may r = true) (ha : a < 6) (hb : b < 6) (hne : b ≠ a) (h1 : 1 ≤ n) (h2 : n ≤ localV r ((b : Int) + 1)) (h3 : n ≤ 1125899906842624) (h4 : r (18 + b * 6 + a) + n ≤ 1125899906842624) : (moveM r ((b : Int) + 1) ((a : Int) + 1) n).2 = 0 := by
  have e0 : moveE r ((b : Int) + 1) ((a : Int) + 1) n = 0 := by unfold moveE; rw [if_neg (by omega), decide_eq_false (by omega)]; rfl
  unfold moveM
  rw [regB_nat ha, regB_nat hb, show moveO ((b : Int) + 1) ((a : Int) + 1) = 18 + b * 6 + a by unfold moveO; omega]
  exact (turned_go hm h1 h3 h4).1.trans e0
theorem move_local {r : Nat → Int} {n : Int} (hm : may r = true) (ha : a < 6) (hb : b < 6) (hne : b ≠ a) (h0 : (moveM r ((b : Int) + 1) ((a : Int) + 1) n).2 = 0) (j : Nat) : localV (moveM r ((b : Int) + 1) ((a : Int) + 1) n).1 ((j : Int) + 1) = if j = a then localV r ((j : Int) + 1) + n else if j = b then localV r ((j : Int) + 1) - n else localV r ((j : Int) + 1) := by
  obtain ⟨b2, a2, hb2, ha2, _, e1, e2, _, _, _, hM, _⟩ := move_ok h0
  obtain rfl : b2 = b := by omega
  obtain rfl : a2 = a := by omega
  by_cases hj : j < 6
  · rw [localV_L hM.may j hj, hM.l j hj, localV_L hm j hj]
    by_cases e3 : j = a2
    · rw [if_pos e3, if_neg (fun h => hne (h.symm.trans e3)), if_pos e3]; omega
    · rw [if_neg e3, if_neg e3]
      by_cases e4 : j = b2
      · rw [if_pos e4, if_pos e4]; omega
      · rw [if_neg e4, if_neg e4]; omega
  · have hz : ∀ z : Nat → Int, localV z ((j : Int) + 1) = 0 := fun z => by
      unfold localV
      rw [show regB ((j : Int) + 1) = false by unfold regB; rw [decide_eq_false (show ¬ (j : Int) + 1 ≤ 6 by omega), Bool.and_false], Bool.false_and, if_neg (by decide)]
    rw [hz, hz, if_neg (by omega), if_neg (by omega)]
theorem L_le {r : Nat → Int} (h : may r = true) : ∀ k : Nat, k < 6 → 0 ≤ localV r ((k : Int) + 1) ∧ localV r ((k : Int) + 1) ≤ 1125899906842624 := fun k hk => by
  have h1 := (may_iff r).1 h
  have h2 := lsumV_eq h
  have a := h1.2.1
  have h3 : 0 ≤ uSum r := by
    have a0 := a 0 (by omega); have a1 := a 1 (by omega); have a2 := a 2 (by omega); have a3 := a 3 (by omega); have a4 := a 4 (by omega); have a5 := a 5 (by omega)
    unfold uSum; omega
  have e : ∀ k, k < 6 → lsumV r (k + 1) = lsumV r k + L r k := fun k hk => by rw [← localV_L h k hk]; rfl
  rw [e 5 (by omega), e 4 (by omega), e 3 (by omega), e 2 (by omega), e 1 (by omega), e 0 (by omega)] at h2
  have a0 := a 0 (by omega); have a1 := a 1 (by omega); have a2 := a 2 (by omega); have a3 := a 3 (by omega); have a4 := a 4 (by omega); have a5 := a 5 (by omega)
  have z : lsumV r 0 = 0 := rfl
  have hg := h1.2.2
  rw [localV_L h k hk]
  have : k = 0 ∨ k = 1 ∨ k = 2 ∨ k = 3 ∨ k = 4 ∨ k = 5 := by omega
  rcases this with rfl | rfl | rfl | rfl | rfl | rfl <;> omega
theorem first_nat {x : Int} (h : 0 ≤ firstS L.id L.nn x) : ∃ k : Nat, k < L.nn ∧ firstS L.id L.nn x = (k : Int) ∧ L.id k = x := first_ge h |>.imp fun k ⟨a, b, c⟩ => ⟨a, b, c⟩
theorem lo_ok (h : Inv0 L T) (hf : 0 ≤ firstS L.id L.nn x) : LoOk (loAt L x) := fun j hj => by
  obtain ⟨k, hk, e, _⟩ := first_nat hf
  have := L_le (h.may k hk) j hj
  unfold loAt locI
  rw [e]
  show 0 ≤ localV (L.R k) _ ∧ localV (L.R k) _ ≤ _
  omega
theorem nn_pos (hf : 0 ≤ firstS L.id L.nn x) : 0 < L.nn := by obtain ⟨k, hk, _⟩ := first_nat hf; omega
theorem path_T (h : Inv0 L T) (h0 : 0 < L.nn) : pathN L x = pathK L.t L.tn x ∧ pathN L x ≤ 4 ∧ firstS L.id L.nn (ndAt L x (pathN L x)) < 0 := by
  obtain ⟨D, hD, hD2⟩ := h.dep x
  obtain ⟨K, hK, hK2, hall⟩ := first_end D hD2
  have e1 : K = pathK L.t L.tn x := pathK_eq hall hK2 hD2 (by omega)
  have hn : ∀ z, firstS L.id L.nn z = findT L.t L.tn z := fun z => h.node z
  have e2 : K = pathS L.id L.par L.nn x := path_end (fun i hi => by rw [iter_eq h h0, hn]; exact hall i hi) (by rw [iter_eq h h0, hn]; exact hK2) (by omega)
  unfold pathN ndAt
  rw [← e2]
  exact ⟨e1, by omega, by rw [iter_eq h h0, hn]; exact hK2⟩
theorem nd_find {p : Nat} (hp : p < pathN L x) : 0 ≤ firstS L.id L.nn (ndAt L x p) := pathS_lt hp
theorem nd_shift (L : LdC) (x : Int) {p q : Nat} (e : ndAt L x p = ndAt L x q) : ∀ j, ndAt L x (p + j) = ndAt L x (q + j)
  | 0 => e
  | j + 1 => by
    show L.par (firstS L.id L.nn (ndAt L x (p + j))).toNat = L.par (firstS L.id L.nn (ndAt L x (q + j))).toNat
    rw [nd_shift L x e j]
theorem nd_lt (h : Inv0 L T) (h0 : 0 < L.nn) {p q : Nat} (hpq : p < q) (hq : q < pathN L x) : ndAt L x p ≠ ndAt L x q := fun e => by
  have h1 := nd_shift L x e (pathN L x - q)
  have h2 := (path_T (x := x) h h0).2.2
  rw [show q + (pathN L x - q) = pathN L x by omega] at h1
  rw [← h1] at h2
  have := nd_find (L := L) (x := x) (p := p + (pathN L x - q)) (by omega)
  omega
theorem nd_ne (h : Inv0 L T) (h0 : 0 < L.nn) {p q : Nat} (hp : p < pathN L x) (hq : q < pathN L x) (hne : p ≠ q) : ndAt L x p ≠ ndAt L x q := by
  rcases Nat.lt_or_gt_of_ne hne with h1 | h1
  · exact nd_lt h h0 h1 hq
  · exact fun e => nd_lt h h0 h1 hp e.symm
theorem idx_nd (h : Inv0 L T) (h0 : 0 < L.nn) {p : Nat} : idxT L x p = (firstS L.id L.nn (ndAt L x p)).toNat := by
  unfold idxT ndAt
  rw [iter_eq h h0]; rfl
theorem live_in {s : LdC} {b : Nat} (h : (s.inn b && !s.left b) = true) : s.inn b = true ∧ s.left b = false := by simpa using h
theorem known_bd (h : Inv L T) (hT : T ≤ 300000) (i : Nat) (hi : i < 6) : 0 ≤ L.known i ∧ L.known i ≤ 300000 := by
  have h1 := h.kn i hi
  have h2 := h.b.kt i hi
  omega
theorem deps_ok (h : Inv L T) (hT : T ≤ 300000) {v : EvM} (hv : v.deps = L.known) : depsOk v = true := by
  unfold depsOk; rw [List.all_eq_true]; intro i hi
  have := known_bd h hT i (List.mem_range.1 hi)
  rw [hv]; exact decide_eq_true (by omega)
theorem may_ev (h : Inv L T) (hT : T ≤ 300000) {v : EvM} (ha : a < 6) (e1 : v.o = (a : Int) + 1) (e2 : v.seq = L.known a + 1) (e3 : v.deps = L.known) (hs : sameE v = true) (hf : fieldsE v = true) : mayE v = true := by
  have hk := known_bd h hT a ha
  unfold mayE
  rw [e1, e2, e3, regE_nat2 ha, decide_eq_true (by omega), decide_eq_true (by omega), show ((a : Int) + 1 - 1).toNat = a by omega, decide_eq_true (by omega), deps_ok h hT e3, hs, hf]; rfl
theorem apply_ev (h : Inv L T) (hT : T ≤ 300000) {v : EvM} (ha : a < 6) (hl : (L.inn a && !L.left a) = true) (e1 : v.o = (a : Int) + 1) (e2 : v.seq = L.known a + 1) (e3 : v.deps = L.known) (hs : sameE v = true) (hf : fieldsE v = true) : applyE L v = doesE L v := by
  have hm := may_ev h hT ha e1 e2 e3 hs hf
  obtain ⟨i1, i2⟩ := live_in hl
  have er : regN v = a := by unfold regN; omega
  have hla : lateE L.known v = false := by unfold lateE; rw [e1, e2, show ((a : Int) + 1 - 1).toNat = a by omega, decide_eq_false (by omega), Bool.and_false]
  have hre : readyE L.known v = true := by
    unfold readyE; rw [hm, e1, e2, e3, show ((a : Int) + 1 - 1).toNat = a by omega, decide_eq_true rfl]
    show (true && leAll L.known L.known) = true
    unfold leAll; rw [Bool.true_and, List.all_eq_true]; intro i _; exact decide_eq_true (Int.le_refl _)
  unfold applyE
  rw [hm, hla, hre, er, i1, i2, if_neg (by decide), if_neg (by decide), if_neg (by decide), if_neg (by rintro (h | h) <;> cases h)]
theorem walk_take {idx : Nat → Nat} {R : Nat → Nat → Int} {n : Int} (ha : a < 6) (h1 : 1 ≤ n) (h2 : n ≤ 1125899906842624) : ∀ K, (∀ i j, i < j → j < K → idx i ≠ idx j) → (∀ i, i < K → may (R (idx i)) = true ∧ R (idx i) (6 + a) + n ≤ 1125899906842624) →
    ((∀ i, i < K → n ≤ localV (R (idx i)) ((a : Int) + 1)) → (walkR (fun x => takeM x ((a : Int) + 1) n) idx R K).2 = 0 ∧ ∀ q, (∀ i, i < K → idx i ≠ q) → (walkR (fun x => takeM x ((a : Int) + 1) n) idx R K).1 q = R q) ∧
    (¬ (∀ i, i < K → n ≤ localV (R (idx i)) ((a : Int) + 1)) → (walkR (fun x => takeM x ((a : Int) + 1) n) idx R K).2 = 11)
  | 0, _, _ => ⟨fun _ => ⟨rfl, fun _ _ => rfl⟩, fun h => absurd (fun i hi => absurd hi (Nat.not_lt_zero i)) h⟩
  | K + 1, hd, hm => by
    obtain ⟨i1, i2⟩ := walk_take ha h1 h2 (idx := idx) (R := R) K (fun i j hij hj => hd i j hij (by omega)) (fun i hi => hm i (by omega))
    have hmK := hm K (by omega)
    have htk := take_is hmK.1 ha h1 h2 hmK.2
    by_cases hall : ∀ i, i < K → n ≤ localV (R (idx i)) ((a : Int) + 1)
    · obtain ⟨j1, j2⟩ := i1 hall
      have eK := j2 (idx K) fun i hi => hd i K hi (by omega)
      by_cases hK : n ≤ localV (R (idx K)) ((a : Int) + 1)
      · rw [if_pos hK] at htk
        refine ⟨fun _ => ?_, fun h => absurd (fun i hi => (Nat.lt_or_eq_of_le (Nat.le_of_lt_succ hi)).elim (hall i) (fun e => by rw [e]; exact hK)) h⟩
        unfold walkR
        rw [if_pos j1, eK, if_pos htk]
        refine ⟨rfl, fun q hq => ?_⟩
        show updA _ (idx K) _ q = _
        unfold updA
        rw [if_neg (fun e => hq K (by omega) e.symm)]
        exact j2 q fun i hi => hq i (by omega)
      · rw [if_neg hK] at htk
        refine ⟨fun h => absurd (h K (by omega)) hK, fun _ => ?_⟩
        unfold walkR
        rw [if_pos j1, eK, if_neg (by rw [htk]; decide)]
        exact htk
    · have j1 := i2 hall
      refine ⟨fun h => absurd (fun i hi => h i (by omega)) hall, fun _ => ?_⟩
      unfold walkR
      rw [if_neg (by rw [j1]; decide)]; exact j1
theorem asked_no (h : Inv L T) (ha : a < 6) : ¬ 0 ≤ L.askedN a 1073741824 := fun h1 => by
  rcases firstI_spec (fun i => decide (L.rq a i = 1073741824)) (L.rn a) with ⟨k, hk, e, hp⟩ | ⟨e, _⟩
  · have := h.b.rq a ha k hk
    have h2 : L.rq a k = 1073741824 := of_decide_eq_true hp
    omega
  · unfold LdC.askedN at h1; omega
theorem take_E (h : Inv L T) (hT : T ≤ 300000) (ha : a < 6) (hl : (L.inn a && !L.left a) = true) (hf : 0 ≤ firstS L.id L.nn x) (h1 : 1 ≤ y) (h2 : y ≤ 562949953421312) :
    ((∀ p, p < pathN L x → y ≤ loAt L (ndAt L x p) a) → applyE L (takeV L a x y) = 0) ∧ (¬ (∀ p, p < pathN L x → y ≤ loAt L (ndAt L x p) a) → applyE L (takeV L a x y) = 11) := by
  have h0 := nn_pos hf
  obtain ⟨eP, hP4, _⟩ := path_T (x := x) h.toInv0 h0
  have hk : (takeV L a x y).kind = 3 := rfl
  have hsame : sameE (takeV L a x y) = true := by
    unfold sameE ownE; rw [if_neg (by rw [hk]; decide), if_neg (by rw [hk]; decide), if_pos hk]
    show (decide (x = x) && decide ((0 : Int) = 0) && decide (y = y) && decide ((1073741824 : Int) = 1073741824) && decide ((0 : Int) = 0)) = true
    simp
  have hfld : fieldsE (takeV L a x y) = true := by
    unfold fieldsE; rw [if_neg (by rw [hk]; decide), if_neg (by rw [hk]; decide), if_pos hk]
    show (decide (1 ≤ y) && decide (y ≤ 1125899906842624) && decide ((1 : Int) ≤ 1073741824)) = true
    rw [decide_eq_true h1, decide_eq_true (by omega)]; rfl
  have hA := apply_ev h hT ha hl (v := takeV L a x y) rfl rfl rfl hsame hfld
  have hr : regN (takeV L a x y) = a := by show ((a : Int) + 1 - 1).toNat = a; omega
  have hPp : 1 ≤ pathN L x := pathS_pos hf
  have hD : doesE L (takeV L a x y) = (walkR (fun r => takeM r ((a : Int) + 1) y) (idxT L x) L.R (pathN L x)).2 := by
    unfold doesE
    rw [if_neg (by rw [hk]; decide), if_neg (by rw [hk]; decide), if_pos hk]
    unfold takesE
    rw [hr, if_neg (show ¬ 0 ≤ L.askedN a (takeV L a x y).req from asked_no h ha), if_neg (by show ¬ pathK L.t L.tn x = 0; omega)]
    show (walkR (fun r => takeM r ((a : Int) + 1) y) (idxT L x) L.R (pathK L.t L.tn x)).2 = _
    rw [eP]
  rw [hA, hD]
  have hat : ∀ p, p < pathN L x → ∃ k : Nat, k < L.nn ∧ idxT L x p = k ∧ L.id k = ndAt L x p ∧ loAt L (ndAt L x p) a = localV (L.R (idxT L x p)) ((a : Int) + 1) := fun p hp => by
    obtain ⟨k, hk, e, e2⟩ := first_nat (nd_find (L := L) hp)
    have e3 : idxT L x p = k := by rw [idx_nd h.toInv0 h0, e]; rfl
    refine ⟨k, hk, e3, e2, ?_⟩
    rw [e3]; unfold loAt locI; rw [e]; rfl
  have hw := walk_take (idx := idxT L x) (R := L.R) (n := y) ha h1 (by omega) (pathN L x) (fun i j hij hj e => by
      obtain ⟨k, _, e1, e2, _⟩ := hat i (by omega)
      obtain ⟨k2, _, e3, e4, _⟩ := hat j hj
      exact nd_lt h.toInv0 h0 hij hj (by rw [← e2, ← e4, ← e1, ← e3, e])) (fun i hi => by
      obtain ⟨k, hk, e1, _⟩ := hat i hi
      rw [e1]
      have := h.b.rb k hk (6 + a) (by omega)
      exact ⟨h.may k hk, by omega⟩)
  refine ⟨fun hall => (hw.1 fun i hi => by rw [← (hat i hi).choose_spec.2.2.2]; exact hall i hi).1, fun hn => hw.2 fun hall => hn fun p hp => by rw [(hat p hp).choose_spec.2.2.2]; exact hall p hp⟩
theorem move_E (h : Inv L T) (hT : T ≤ 300000) (ha : a < 6) (hb : b < 6) (hne : b ≠ a) (hlb : (L.inn b && !L.left b) = true) (hla : (L.inn a && !L.left a) = true) (hf : 0 ≤ firstS L.id L.nn x) (h1 : 1 ≤ y) (h2 : y ≤ loAt L x b) (h3 : y ≤ 562949953421312) :
    applyE L (moveV L b a x y) = 0 ∧ (applyC L (moveV L b a x y)).nn = L.nn ∧ (applyC L (moveV L b a x y)).id = L.id ∧ (applyC L (moveV L b a x y)).par = L.par ∧ (applyC L (moveV L b a x y)).inn = L.inn ∧ (applyC L (moveV L b a x y)).left = L.left ∧
    ∀ z, 0 ≤ firstS L.id L.nn z → loAt (applyC L (moveV L b a x y)) z = if z = x then mvG (loAt L x) b a y else loAt L z := by
  obtain ⟨k, hk, ek, eid⟩ := first_nat hf
  have hno : L.node x = (k : Int) := ek
  have hm := h.may k hk
  have hlo : loAt L x = fun q : Nat => localV (L.R k) ((q : Int) + 1) := by unfold loAt locI; rw [ek]; rfl
  have h2' : y ≤ localV (L.R k) ((b : Int) + 1) := by rw [hlo] at h2; exact h2
  have hL := L_le hm b hb
  have hrb := h.b.rb k hk (18 + b * 6 + a) (by omega)
  have hk5 : (moveV L b a x y).kind = 5 := rfl
  have hsame : sameE (moveV L b a x y) = true := by
    unfold sameE ownE; rw [if_neg (by rw [hk5]; decide), if_neg (by rw [hk5]; decide), if_neg (by rw [hk5]; decide), if_neg (by rw [hk5]; decide), if_pos hk5]
    show (decide (x = x) && decide ((a : Int) + 1 = (a : Int) + 1) && decide (y = y) && decide ((0 : Int) = 0) && decide ((0 : Int) = 0)) = true
    simp
  have hfld : fieldsE (moveV L b a x y) = true := by
    unfold fieldsE; rw [if_neg (by rw [hk5]; decide), if_neg (by rw [hk5]; decide), if_neg (by rw [hk5]; decide), if_neg (by rw [hk5]; decide), if_pos hk5]
    show ((decide (1 ≤ y) && decide (y ≤ 1125899906842624)) && (regE ((a : Int) + 1) && !decide ((a : Int) + 1 = (b : Int) + 1))) = true
    rw [decide_eq_true h1, decide_eq_true (by omega), regE_nat2 ha, decide_eq_false (by omega)]; rfl
  have hA := apply_ev h hT hb hlb (v := moveV L b a x y) rfl rfl rfl hsame hfld
  have hM0 := move_is hm ha hb hne h1 h2' (by omega) (by omega)
  obtain ⟨i1, _⟩ := live_in hla
  have hW : moveW L (moveV L b a x y) = moveM (L.R k) ((b : Int) + 1) ((a : Int) + 1) y := by
    unfold moveW
    show moveM (L.R (L.node x).toNat) _ _ _ = _
    rw [hno]; rfl
  have hD : doesE L (moveV L b a x y) = 0 := by
    unfold doesE
    rw [if_neg (by rw [hk5]; decide), if_neg (by rw [hk5]; decide), if_neg (by rw [hk5]; decide), if_neg (by rw [hk5]; decide), if_pos hk5]
    unfold movesE
    rw [if_neg (by show ¬ L.node x < 0; omega), if_neg (by
      show ¬ ((a : Int) + 1 < 1 ∨ 6 < (a : Int) + 1 ∨ L.inn ((a : Int) + 1 - 1).toNat = false)
      rw [show ((a : Int) + 1 - 1).toNat = a by omega, i1]
      rintro (h | h | h)
      · omega
      · omega
      · cases h), hW]
    exact hM0
  have hE : applyE L (moveV L b a x y) = 0 := hA.trans hD
  have hC : applyC L (moveV L b a x y) = knowC (movesC L (moveV L b a x y)) (moveV L b a x y) := by
    unfold applyC
    rw [if_pos hE]
    unfold doesC
    rw [if_neg (by rw [hk5]; decide), if_neg (by rw [hk5]; decide), if_neg (by rw [hk5]; decide), if_neg (by rw [hk5]; decide), if_pos hk5]
  rw [hC]
  refine ⟨hE, rfl, rfl, rfl, rfl, rfl, fun z hz => ?_⟩
  obtain ⟨k2, hk2, ek2, eid2⟩ := first_nat hz
  show locI L.id L.nn (updA L.R (L.node x).toNat (moveW L (moveV L b a x y)).1) z = _
  rw [hW, hno]
  unfold locI
  rw [ek2]
  funext j
  show localV (updA L.R ((k : Int)).toNat (moveM (L.R k) ((b : Int) + 1) ((a : Int) + 1) y).1 ((k2 : Int)).toNat) ((j : Int) + 1) = _
  rw [show ((k : Int)).toNat = k from rfl, show ((k2 : Int)).toNat = k2 from rfl]
  by_cases e : z = x
  · subst e
    have : k2 = k := h.inj k2 k hk2 hk (eid2.trans eid.symm)
    subst this
    rw [if_pos rfl, mvG_at hne]
    unfold updA
    rw [if_pos rfl, move_local hm ha hb hne hM0 j, hlo]
    by_cases e3 : j = a
    · rw [if_pos e3, if_pos e3, e3]
    · rw [if_neg e3, if_neg e3]
      by_cases e4 : j = b
      · rw [if_pos e4, if_pos e4, e4]
      · rw [if_neg e4, if_neg e4]
  · rw [if_neg e]
    unfold updA
    rw [if_neg (fun e2 => e (by rw [← eid2, ← eid, e2]))]
    unfold loAt locI
    rw [ek2]; rfl
end
end Rt
end
section
namespace Rt
theorem leastI_le {f : Nat → Int} {z : Int} : ∀ P, z ≤ leastI f P ↔ z ≤ 1125899906842624 ∧ ∀ p, p < P → z ≤ f p
  | 0 => ⟨fun h => ⟨h, fun _ h => absurd h (Nat.not_lt_zero _)⟩, fun h => h.1⟩
  | P + 1 => by
    have ih := leastI_le (f := f) (z := z) P
    unfold leastI
    constructor
    · intro h
      have h2 : z ≤ leastI f P ∧ z ≤ f P := by split at h <;> omega
      obtain ⟨h3, h4⟩ := ih.1 h2.1
      exact ⟨h3, fun p hp => (Nat.lt_or_eq_of_le (Nat.le_of_lt_succ hp)).elim (h4 p) (fun e => by rw [e]; exact h2.2)⟩
    · rintro ⟨h3, h4⟩
      have h5 := ih.2 ⟨h3, fun p hp => h4 p (by omega)⟩
      have h6 := h4 P (by omega)
      split <;> omega
theorem leastV_le {f : Nat → Int} {P : Nat} {z : Int} (hP : 1 ≤ P) (h1 : 1 ≤ z) (h2 : z ≤ 1125899906842624) : z ≤ leastV f P ↔ ∀ p, p < P → z ≤ f p := by
  have h := leastI_le (f := f) (z := z) P
  unfold leastV
  rw [if_neg (by omega)]
  constructor
  · intro h3
    exact (h.1 (by split at h3 <;> omega)).2
  · intro h3
    have := h.2 ⟨h2, h3⟩
    split <;> omega
theorem leastV_nn {f : Nat → Int} {P : Nat} : 0 ≤ leastV f P := by
  unfold leastV; split
  · exact Int.le_refl _
  · split <;> omega
theorem leastV_top {f : Nat → Int} : ∀ {P : Nat}, leastV f P ≤ 1125899906842624 := fun {P} => by
  have h := (leastI_le (f := f) (z := leastI f P) P).1 (Int.le_refl _)
  unfold leastV; split
  · decide
  · split
    · decide
    · exact h.1
theorem leastV_mono {f g : Nat → Int} {P : Nat} (h : ∀ p, p < P → f p ≤ g p) : leastV f P ≤ leastV g P := by
  rcases Int.lt_or_le 0 (leastV f P) with h1 | h1
  · have hP : 1 ≤ P := by
      rcases Nat.eq_zero_or_pos P with e | e
      · rw [e] at h1; unfold leastV at h1; rw [if_pos rfl] at h1; omega
      · exact e
    have h2 := (leastV_le (f := f) (z := leastV f P) hP (by omega) leastV_top).1 (Int.le_refl _)
    exact (leastV_le hP (by omega) leastV_top).2 fun p hp => Int.le_trans (h2 p hp) (h p hp)
  · have := leastV_nn (f := g) (P := P); omega
def sumS (s : StM) (l : Nat → Int) : Nat → Int
  | 0 => 0
  | k + 1 => sumS s l k + if isLive s k then l k else 0
theorem sumL_app {l : Nat → Int} {xs : List Int} {v : Int} : ∀ k, k ≤ xs.length → sumL l (xs ++ [v]) k = sumL l xs k
  | 0, _ => rfl
  | k + 1, h => by
    unfold sumL
    rw [sumL_app k (by omega), show (xs ++ [v]).getD k 0 = xs.getD k 0 by rw [List.getD_eq_getElem?_getD, List.getD_eq_getElem?_getD, List.getElem?_append_left (by omega)]]
theorem sumL_S (s : StM) (l : Nat → Int) : ∀ k, sumL l (liveN s k) (liveN s k).length = sumS s l k
  | 0 => rfl
  | k + 1 => by
    have ih := sumL_S s l k
    unfold sumS
    cases hl : isLive s k with
    | true =>
      rw [live_yes hl, List.length_append, if_pos rfl]
      show sumL l (liveN s k ++ [(k : Int) + 1]) (liveN s k).length + l ((liveN s k ++ [(k : Int) + 1]).getD (liveN s k).length 0 - 1).toNat = _
      rw [sumL_app _ (Nat.le_refl _), ih, show (liveN s k ++ [(k : Int) + 1]).getD (liveN s k).length 0 = (k : Int) + 1 by rw [List.getD_eq_getElem?_getD, List.getElem?_append_right (by omega), Nat.sub_self]; rfl, show ((k : Int) + 1 - 1).toNat = k by omega]
    | false =>
      rw [live_no hl, ih, if_neg (by decide)]; omega
theorem sumS_upd {s : StM} {l : Nat → Int} {b : Nat} {v : Int} : ∀ k, sumS s (upd l b v) k = sumS s l k + if b < k ∧ isLive s b = true then v - l b else 0
  | 0 => by unfold sumS; rw [if_neg (fun h => absurd h.1 (Nat.not_lt_zero _))]; rfl
  | k + 1 => by
    unfold sumS
    rw [sumS_upd k]
    show sumS s l k + (if b < k ∧ isLive s b = true then v - l b else 0) + (if isLive s k then (if k = b then v else l k) else 0) = sumS s l k + (if isLive s k then l k else 0) + (if b < k + 1 ∧ isLive s b = true then v - l b else 0)
    by_cases e : k = b
    · subst e
      rw [if_neg (show ¬ (k < k ∧ isLive s k = true) from fun h => absurd h.1 (Nat.lt_irrefl _))]
      cases hl : isLive s k with
      | true => rw [if_pos (show k < k + 1 ∧ true = true from ⟨Nat.lt_succ_self k, rfl⟩)]; simp only [if_true]; omega
      | false => rw [if_neg (show ¬ (k < k + 1 ∧ false = true) from fun h => by cases h.2)]; simp
    · rw [if_neg e]
      by_cases hb : b < k ∧ isLive s b = true
      · rw [if_pos hb, if_pos (show b < k + 1 ∧ isLive s b = true from ⟨by omega, hb.2⟩)]; omega
      · rw [if_neg hb, if_neg (show ¬ (b < k + 1 ∧ isLive s b = true) from fun h => hb ⟨by omega, h.2⟩)]; omega
theorem sumS_mv {s : StM} {l : Nat → Int} {a b : Nat} {am : Int} (hne : b ≠ a) (ha : a < 6) (hb : b < 6) (hla : isLive s a = true) (hlb : isLive s b = true) : sumS s (mvG l b a am) 6 = sumS s l 6 := by
  unfold mvG
  rw [sumS_upd, sumS_upd, if_pos (show a < 6 ∧ isLive s a = true from ⟨ha, hla⟩), if_pos (show b < 6 ∧ isLive s b = true from ⟨hb, hlb⟩), upd_other _ _ _ _ (fun h => hne h.symm)]; omega
theorem sumS_ge {s : StM} {l : Nat → Int} {a : Nat} (hl : LoOk l) (hla : isLive s a = true) : ∀ k, k ≤ 6 → 0 ≤ sumS s l k ∧ (a < k → l a ≤ sumS s l k)
  | 0, _ => ⟨Int.le_refl _, fun h => absurd h (Nat.not_lt_zero _)⟩
  | k + 1, hk => by
    have ih := sumS_ge (a := a) hl hla k (by omega)
    have h1 := hl k (by omega)
    unfold sumS
    by_cases e : k = a
    · subst e; rw [if_pos hla]; exact ⟨by omega, fun _ => by omega⟩
    · refine ⟨by split <;> omega, fun h => ?_⟩
      have := ih.2 (by omega)
      split <;> omega
theorem sumS_one {s : StM} {l : Nat → Int} {a : Nat} (hla : isLive s a = true) (h0 : ∀ j, j < 6 → j ≠ a → isLive s j = true → l j = 0) : ∀ k, k ≤ 6 → sumS s l k = if a < k then l a else 0
  | 0, _ => rfl
  | k + 1, hk => by
    unfold sumS
    rw [sumS_one hla h0 k (by omega)]
    by_cases e : k = a
    · subst e; rw [if_neg (Nat.lt_irrefl _), if_pos hla, if_pos (Nat.lt_succ_self _)]; omega
    · by_cases hl : isLive s k = true
      · rw [if_pos hl, h0 k (by omega) e hl]
        by_cases h : a < k
        · rw [if_pos h, if_pos (by omega)]; omega
        · rw [if_neg h, if_neg (by omega)]; rfl
      · rw [if_neg hl]
        by_cases h : a < k
        · rw [if_pos h, if_pos (by omega)]; omega
        · rw [if_neg h, if_neg (by omega)]; rfl
section
variable {s : StM} {n a m : Nat} {y : Int} {l : Nat → Int}
theorem live_at {q : Nat} (hn : n = (liveN s 6).length) (hq : q < n) : ∃ b : Nat, b < 6 ∧ (liveN s 6).getD q 0 = (b : Int) + 1 ∧ isLive s b = true := by
  subst hn
  have h := (mem_live (s := s) 6).1 (ls_at hq)
  exact ⟨((liveN s 6).getD q 0 - 1).toNat, by omega, by omega, h.2.2⟩
theorem live_pos {b : Nat} (hn : n = (liveN s 6).length) (hb : b < 6) (hl : isLive s b = true) : ∃ q, q < n ∧ (liveN s 6).getD q 0 = (b : Int) + 1 := by
  subst hn
  have h : ((b : Int) + 1) ∈ liveN s 6 := (mem_live (s := s) 6).2 ⟨by omega, by omega, by rw [show ((b : Int) + 1 - 1).toNat = b by omega]; exact hl⟩
  obtain ⟨q, hq, e⟩ := List.getElem_of_mem h
  exact ⟨q, hq, by rw [List.getD_eq_getElem?_getD, List.getElem?_eq_getElem hq, e]; rfl⟩
theorem live_Iff {i : Nat} (hi : i < 6) : liveI s ((i : Int) + 1) = isLive s i := by
  unfold liveI; rw [decide_eq_true (by omega), decide_eq_true (by omega), show ((i : Int) + 1 - 1).toNat = i by omega]; rfl
theorem go_is (hn : n = (liveN s 6).length) (hg : goG (liveN s 6) n y a l m = true) : ∃ b : Nat, b < 6 ∧ b ≠ a ∧ isLive s b = true ∧ frG (liveN s 6) n a (itG (liveN s 6) n y a l m) = (b : Int) + 1 ∧ 0 < itG (liveN s 6) n y a l m b ∧ itG (liveN s 6) n y a l m a < y ∧
    itG (liveN s 6) n y a l (m + 1) = mvG (itG (liveN s 6) n y a l m) b a (gAmt (itG (liveN s 6) n y a l m) b a y) ∧ (∀ j, j < 6 → j ≠ a → isLive s j = true → itG (liveN s 6) n y a l m j ≤ itG (liveN s 6) n y a l m b) := by
  have hlv := live_ok s hn
  unfold goG at hg
  simp only [Bool.and_eq_true, Bool.not_eq_true', decide_eq_false_iff_not, decide_eq_true_eq] at hg
  have e0 : itG (liveN s 6) n y a l (m + 1) = stG (liveN s 6) n y a (itG (liveN s 6) n y a l m) := rfl
  rw [e0]
  generalize itG (liveN s 6) n y a l m = lm at hg ⊢
  obtain ⟨b, hb, e, hne, hp, q, hq, eq⟩ := fr_some hlv hg.2
  obtain ⟨b2, _, eb, hl⟩ := live_at hn hq
  obtain rfl : b2 = b := by omega
  refine ⟨b2, hb, hne, hl, e, hp, hg.1, ?_, fun j hj hja hlj => ?_⟩
  · unfold stG; rw [e, show ((b2 : Int) + 1 - 1).toNat = b2 by omega]
  · obtain ⟨q2, hq2, e2⟩ := live_pos hn hj hlj
    have := (gv_max (l := lm) (but := (a : Int) + 1) hlv n (Nat.le_refl _) q2 hq2 (by rw [e2]; omega)).2 hg.2
    rw [e2, show ((j : Int) + 1 - 1).toNat = j by omega] at this
    have e3 : gvN (liveN s 6) lm ((a : Int) + 1) n = (b2 : Int) + 1 := e
    rw [e3, show ((b2 : Int) + 1 - 1).toNat = b2 by omega] at this
    exact this
theorem go_end (hn : n = (liveN s 6).length) (hg : goG (liveN s 6) n y a l m = false) : y ≤ itG (liveN s 6) n y a l m a ∨ ∀ j, j < 6 → j ≠ a → isLive s j = true → itG (liveN s 6) n y a l m j ≤ 0 := by
  have hlv := live_ok s hn
  rcases Int.lt_or_le (itG (liveN s 6) n y a l m a) y with h1 | h1
  · right
    intro j hj hja hlj
    have h0 : frG (liveN s 6) n a (itG (liveN s 6) n y a l m) = 0 := by
      unfold goG at hg
      rw [decide_eq_true h1, Bool.true_and] at hg
      by_cases e : frG (liveN s 6) n a (itG (liveN s 6) n y a l m) = 0
      · exact e
      · rw [decide_eq_false e] at hg; cases hg
    obtain ⟨q2, hq2, e2⟩ := live_pos hn hj hlj
    have := (gv_max (l := itG (liveN s 6) n y a l m) (but := (a : Int) + 1) hlv n (Nat.le_refl _) q2 hq2 (by rw [e2]; omega)).1 h0
    rw [e2, show ((j : Int) + 1 - 1).toNat = j by omega] at this
    exact this
  · exact .inl h1
theorem it_inv (hn : n = (liveN s 6).length) (ha : a < 6) (hla : isLive s a = true) (hl : LoOk l) (hy : y ≤ 1125899906842624) : ∀ m, (∀ q, q < m → goG (liveN s 6) n y a l q = true) →
    LoOk (itG (liveN s 6) n y a l m) ∧ sumS s (itG (liveN s 6) n y a l m) 6 = sumS s l 6 ∧ (0 < m → itG (liveN s 6) n y a l m a ≤ y) ∧ l a ≤ itG (liveN s 6) n y a l m a
  | 0, _ => ⟨hl, rfl, fun h => absurd h (Nat.lt_irrefl _), Int.le_refl _⟩
  | m + 1, hg => by
    obtain ⟨i1, i2, i3, i4⟩ := it_inv hn ha hla hl hy m fun q hq => hg q (by omega)
    have hok := it_ok (live_ok s hn) ha hl hy (m + 1) hg
    obtain ⟨b, hb, hne, hlb, e, hp, hlt, enx, _⟩ := go_is hn (hg m (Nat.lt_succ_self m))
    have hgb := gAmt_bd (b := b) hlt hp
    refine ⟨hok, ?_, fun _ => ?_, ?_⟩
    · rw [enx, sumS_mv hne ha hb hla hlb, i2]
    · rw [enx, mvG_at hne, if_pos rfl]; omega
    · rw [enx, mvG_at hne, if_pos rfl]; omega
theorem ok_iff (hn : n = (liveN s 6).length) (ha : a < 6) (hla : isLive s a = true) (hl : LoOk l) (hy : y ≤ 1125899906842624) : okG (liveN s 6) n y a l = true ↔ y ≤ sumS s l 6 := by
  obtain ⟨c1, c2, c3⟩ := cnt_go (y := y) (l := l) (live_ok s hn) ha
  obtain ⟨i1, i2, i3, _⟩ := it_inv hn ha hla hl hy _ c2
  unfold okG
  rw [decide_eq_true_iff, ← i2]
  have hge := (sumS_ge i1 hla 6 (Nat.le_refl _)).2 ha
  constructor
  · intro h; omega
  · intro h
    rcases go_end hn c3 with h1 | h1
    · exact h1
    · have := sumS_one (l := itG (liveN s 6) n y a l (cntG (liveN s 6) n y a l)) hla (fun j hj hja hlj => by
        have h2 := h1 j hj hja hlj
        have h3 := i1 j hj
        omega) 6 (Nat.le_refl _)
      rw [if_pos ha] at this
      omega
theorem cnt_zero (hn : n = (liveN s 6).length) (ha : a < 6) (hk : okG (liveN s 6) n y a l = true) : cntG (liveN s 6) n y a l = 0 ↔ y ≤ l a := by
  obtain ⟨c1, c2, c3⟩ := cnt_go (y := y) (l := l) (live_ok s hn) ha
  constructor
  · intro h
    unfold okG at hk
    rw [h] at hk
    exact of_decide_eq_true hk
  · intro h
    rcases Nat.eq_zero_or_pos (cntG (liveN s 6) n y a l) with e | e
    · exact e
    · have := c2 0 e
      unfold goG at this
      rw [show itG (liveN s 6) n y a l 0 a = l a from rfl, decide_eq_false (by omega)] at this
      cases this
theorem end_at (hn : n = (liveN s 6).length) (ha : a < 6) (hla : isLive s a = true) (hl : LoOk l) (hy : y ≤ 1125899906842624) (hk : okG (liveN s 6) n y a l = true) :
    y ≤ itG (liveN s 6) n y a l (cntG (liveN s 6) n y a l) a ∧ (cntG (liveN s 6) n y a l ≠ 0 → itG (liveN s 6) n y a l (cntG (liveN s 6) n y a l) a = y) := by
  obtain ⟨c1, c2, c3⟩ := cnt_go (y := y) (l := l) (live_ok s hn) ha
  obtain ⟨i1, i2, i3, _⟩ := it_inv hn ha hla hl hy _ c2
  have h1 : y ≤ itG (liveN s 6) n y a l (cntG (liveN s 6) n y a l) a := of_decide_eq_true hk
  exact ⟨h1, fun h => by have := i3 (by omega); omega⟩
end
end Rt
end
section
namespace Rt
def loP (L : LdC) (x : Int) (p : Nat) : Nat → Int := loAt L (ndAt L x p)
def gsP (s : StM) (n : Nat) (y : Int) (a : Nat) (L : LdC) (x : Int) (p : Nat) : List GiftM := allG (liveN s 6) n y a (loP L x) (ndAt L x) p
structure RmI (s : StM) (n : Nat) (y : Int) (a : Nat) (L0 L : LdC) (x : Int) (k : Nat) : Prop where
  e : L.nn = L0.nn ∧ L.id = L0.id ∧ L.par = L0.par ∧ L.inn = L0.inn ∧ L.left = L0.left
  st : ∃ p m, p ≤ pathN L0 x ∧ (p < pathN L0 x → m ≤ cntG (liveN s 6) n y a (loP L0 x p)) ∧ (p = pathN L0 x → m = 0) ∧ k = (gsP s n y a L0 x p).length + m ∧
    ∀ q, q < pathN L0 x → loAt L (ndAt L0 x q) = if q < p then itG (liveN s 6) n y a (loP L0 x q) (cntG (liveN s 6) n y a (loP L0 x q)) else if q = p then itG (liveN s 6) n y a (loP L0 x p) m else loP L0 x q
section
variable {s : StM} {n a k : Nat} {y x : Int} {L0 L : LdC} {T T0 : Nat}
theorem RmI.init : RmI s n y a L0 L0 x 0 where
  e := ⟨rfl, rfl, rfl, rfl, rfl⟩
  st := ⟨0, 0, Nat.zero_le _, fun _ => Nat.zero_le _, fun _ => rfl, rfl, fun q _ => by
    rw [if_neg (Nat.not_lt_zero q)]
    by_cases h : q = 0
    · rw [if_pos h, h]; rfl
    · rw [if_neg h]; rfl⟩
theorem gsP_len (p : Nat) : (gsP s n y a L0 x (p + 1)).length = (gsP s n y a L0 x p).length + cntG (liveN s 6) n y a (loP L0 x p) := by
  show (allG _ _ _ _ _ _ p ++ nodeG _ _ _ _ _ _).length = _
  rw [List.length_append]; unfold nodeG; rw [gfN_len]; rfl
theorem gsP_mono {p : Nat} : ∀ q, p ≤ q → (gsP s n y a L0 x p).length ≤ (gsP s n y a L0 x q).length
  | 0, h => by obtain rfl : p = 0 := by omega
               exact Nat.le_refl _
  | q + 1, h => by
    by_cases e : p = q + 1
    · rw [e]; exact Nat.le_refl _
    · have := gsP_mono (p := p) q (by omega)
      rw [gsP_len]; omega
theorem gfN_get {live : List Int} {l : Nat → Int} {node : Int} {m : Nat} : ∀ c, m < c → (gfN live n y a l node c).getD m gf0 = oneG live n y a node (itG live n y a l m)
  | 0, h => absurd h (Nat.not_lt_zero _)
  | c + 1, h => by
    unfold gfN
    by_cases e : m = c
    · subst e
      rw [List.getD_eq_getElem?_getD, List.getElem?_append_right (by rw [gfN_len]; exact Nat.le_refl _), gfN_len, Nat.sub_self]; rfl
    · have := gfN_get (live := live) (l := l) (node := node) (m := m) c (by omega)
      rw [List.getD_eq_getElem?_getD, List.getElem?_append_left (by rw [gfN_len]; omega), ← List.getD_eq_getElem?_getD]; exact this
theorem gsP_get {p m : Nat} (hm : m < cntG (liveN s 6) n y a (loP L0 x p)) : ∀ P, p < P → (gsP s n y a L0 x P).getD ((gsP s n y a L0 x p).length + m) gf0 = oneG (liveN s 6) n y a (ndAt L0 x p) (itG (liveN s 6) n y a (loP L0 x p) m)
  | 0, h => absurd h (Nat.not_lt_zero _)
  | P + 1, h => by
    show (gsP s n y a L0 x P ++ nodeG _ _ _ _ _ _).getD _ _ = _
    by_cases e : p = P
    · subst e
      rw [List.getD_eq_getElem?_getD, List.getElem?_append_right (Nat.le_add_right _ _), Nat.add_sub_cancel_left, ← List.getD_eq_getElem?_getD]
      exact gfN_get _ hm
    · have ih := gsP_get hm P (by omega)
      have h1 := gsP_mono (s := s) (n := n) (y := y) (a := a) (L0 := L0) (x := x) (p := p + 1) P (by omega)
      rw [gsP_len] at h1
      rw [List.getD_eq_getElem?_getD, List.getElem?_append_left (by omega), ← List.getD_eq_getElem?_getD]; exact ih
theorem it0 {live : List Int} {l : Nat → Int} : itG live n y a l 0 = l := rfl
theorem gsP0 : (gsP s n y a L0 x 0).length = 0 := rfl
theorem path_1 (hf : 0 ≤ firstS L0.id L0.nn x) : 1 ≤ pathN L0 x := pathS_pos hf
end
attribute [local irreducible] cntG itG gsP pathN sumS liveN ndAt loAt
section
variable {s : StM} {n a k : Nat} {y x : Int} {L0 L : LdC} {T T0 : Nat}
theorem RmI.next (h : RmI s n y a L0 L x k) (hk : k < (gsP s n y a L0 x (pathN L0 x)).length) : ∃ p m, p < pathN L0 x ∧ m < cntG (liveN s 6) n y a (loP L0 x p) ∧ k = (gsP s n y a L0 x p).length + m ∧
    ∀ q, q < pathN L0 x → loAt L (ndAt L0 x q) = if q < p then itG (liveN s 6) n y a (loP L0 x q) (cntG (liveN s 6) n y a (loP L0 x q)) else if q = p then itG (liveN s 6) n y a (loP L0 x p) m else loP L0 x q := by
  obtain ⟨p, m, h1, h2, h3, h4, h5⟩ := h.st
  have key : ∀ d p m, d = pathN L0 x - p → p ≤ pathN L0 x → (p < pathN L0 x → m ≤ cntG (liveN s 6) n y a (loP L0 x p)) → (p = pathN L0 x → m = 0) → k = (gsP s n y a L0 x p).length + m →
      (∀ q, q < pathN L0 x → loAt L (ndAt L0 x q) = if q < p then itG (liveN s 6) n y a (loP L0 x q) (cntG (liveN s 6) n y a (loP L0 x q)) else if q = p then itG (liveN s 6) n y a (loP L0 x p) m else loP L0 x q) →
      ∃ p m, p < pathN L0 x ∧ m < cntG (liveN s 6) n y a (loP L0 x p) ∧ k = (gsP s n y a L0 x p).length + m ∧
        ∀ q, q < pathN L0 x → loAt L (ndAt L0 x q) = if q < p then itG (liveN s 6) n y a (loP L0 x q) (cntG (liveN s 6) n y a (loP L0 x q)) else if q = p then itG (liveN s 6) n y a (loP L0 x p) m else loP L0 x q := by
    intro d
    induction d with
    | zero =>
      intro p m hd h1 h2 h3 h4 h5
      obtain rfl : p = pathN L0 x := by omega
      have := h3 rfl; omega
    | succ d ih =>
      intro p m hd h1 h2 h3 h4 h5
      have hp : p < pathN L0 x := by omega
      have hm := h2 hp
      by_cases e : m < cntG (liveN s 6) n y a (loP L0 x p)
      · exact ⟨p, m, hp, e, h4, h5⟩
      · obtain rfl : m = cntG (liveN s 6) n y a (loP L0 x p) := by omega
        refine ih (p + 1) 0 (by omega) (by omega) (fun _ => Nat.zero_le _) (fun _ => rfl) (by rw [gsP_len]; omega) fun q hq => ?_
        rw [h5 q hq]
        by_cases e1 : q < p
        · rw [if_pos e1, if_pos (by omega)]
        · rw [if_neg e1]
          by_cases e2 : q = p
          · rw [if_pos e2, if_pos (by omega), e2]
          · rw [if_neg e2, if_neg (by omega)]
            by_cases e3 : q = p + 1
            · rw [if_pos e3, e3, it0]
            · rw [if_neg e3]
  exact key _ p m rfl h1 h2 h3 h4 h5
theorem RmI.path (h : RmI s n y a L0 L x k) (q : Nat) : ndAt L x q = ndAt L0 x q ∧ pathN L x = pathN L0 x ∧ ∀ z, firstS L.id L.nn z = firstS L0.id L0.nn z := by
  obtain ⟨e1, e2, e3, _⟩ := h.e
  refine ⟨?_, ?_, fun z => by rw [e1, e2]⟩
  · unfold ndAt; rw [e1, e2, e3]
  · unfold pathN; rw [e1, e2, e3]
theorem RmI.step (h : RmI s n y a L0 L x k) (hk : k < (gsP s n y a L0 x (pathN L0 x)).length) (hI0 : Inv L0 T0) (hI : Inv L T) (hT : T ≤ 300000) (hn : n = (liveN s 6).length) (ha : a < 6) (hla : isLive s a = true) (hs : L0.inn = s.inn ∧ L0.left = s.left) (hy : 1 ≤ y ∧ y ≤ 65536) (hf : 0 ≤ firstS L0.id L0.nn x) :
    ∃ b : Nat, b < 6 ∧ b ≠ a ∧ ((gsP s n y a L0 x (pathN L0 x)).getD k gf0).fr = (b : Int) + 1 ∧ 0 ≤ firstS L0.id L0.nn ((gsP s n y a L0 x (pathN L0 x)).getD k gf0).node ∧ 1 ≤ ((gsP s n y a L0 x (pathN L0 x)).getD k gf0).amt ∧ ((gsP s n y a L0 x (pathN L0 x)).getD k gf0).amt ≤ 65536 ∧
      applyE L (moveV L b a ((gsP s n y a L0 x (pathN L0 x)).getD k gf0).node ((gsP s n y a L0 x (pathN L0 x)).getD k gf0).amt) = 0 ∧
      RmI s n y a L0 (applyC L (moveV L b a ((gsP s n y a L0 x (pathN L0 x)).getD k gf0).node ((gsP s n y a L0 x (pathN L0 x)).getD k gf0).amt)) x (k + 1) := by
  obtain ⟨p, m, hp, hm, ek, hst⟩ := h.next hk
  obtain ⟨e1, e2, e3, e4, e5⟩ := h.e
  have h0 := nn_pos hf
  have hlo : LoOk (loP L0 x p) := lo_ok hI0.toInv0 (nd_find hp)
  obtain ⟨c1, c2, c3⟩ := cnt_go (y := y) (l := loP L0 x p) (live_ok s hn) ha
  obtain ⟨i1, i2, i3, i4⟩ := it_inv hn ha hla hlo (show y ≤ 1125899906842624 by omega) m fun q hq => c2 q (by omega)
  obtain ⟨b, hb, hne, hlb, ef, hpb, hlt, enx, _⟩ := go_is hn (c2 m hm)
  have hgb := gAmt_bd (b := b) hlt hpb
  have hia := i1 a ha
  have eg : (gsP s n y a L0 x (pathN L0 x)).getD k gf0 = ⟨(b : Int) + 1, ndAt L0 x p, gAmt (itG (liveN s 6) n y a (loP L0 x p) m) b a y⟩ := by
    rw [ek, gsP_get hm _ hp]
    unfold oneG
    rw [ef, show ((b : Int) + 1 - 1).toNat = b by omega]
  rw [eg]
  show ∃ b2 : Nat, _ ∧ _ ∧ (b : Int) + 1 = (b2 : Int) + 1 ∧ _
  have hat : loAt L (ndAt L0 x p) = itG (liveN s 6) n y a (loP L0 x p) m := by rw [hst p hp, if_neg (Nat.lt_irrefl _), if_pos rfl]
  have hff : ∀ z, firstS L.id L.nn z = firstS L0.id L0.nn z := (h.path 0).2.2
  have hfp : 0 ≤ firstS L.id L.nn (ndAt L0 x p) := by rw [hff]; exact nd_find hp
  have hL : ∀ j, isLive s j = true → (L.inn j && !L.left j) = true := fun j hj => by rw [e4, e5, hs.1, hs.2]; exact hj
  obtain ⟨m1, m2, m3, m4, m5, m6, m7⟩ := move_E (y := gAmt (itG (liveN s 6) n y a (loP L0 x p) m) b a y) hI hT ha hb hne (hL b hlb) (hL a hla) hfp hgb.1 (by rw [hat]; exact hgb.2.1) (by omega)
  refine ⟨b, hb, hne, rfl, nd_find hp, hgb.1, by show gAmt _ b a y ≤ 65536; omega, m1, ⟨⟨m2.trans e1, m3.trans e2, m4.trans e3, m5.trans e4, m6.trans e5⟩, p, m + 1, by omega, fun _ => hm, fun e => by omega, by omega, fun q hq => ?_⟩⟩
  have hfq : 0 ≤ firstS L.id L.nn (ndAt L0 x q) := by rw [hff]; exact nd_find hq
  rw [m7 _ hfq, hat]
  by_cases e : q = p
  · subst e
    rw [if_pos rfl, if_neg (Nat.lt_irrefl _), if_pos rfl, enx]
  · rw [if_neg (nd_ne hI0.toInv0 h0 hq hp e), hst q hq]
    by_cases e6 : q < p
    · rw [if_pos e6, if_pos e6]
    · rw [if_neg e6, if_neg e, if_neg e6, if_neg e]
theorem RmI.last (h : RmI s n y a L0 L x k) (hk : k = (gsP s n y a L0 x (pathN L0 x)).length) {q : Nat} (hq : q < pathN L0 x) : loAt L (ndAt L0 x q) = itG (liveN s 6) n y a (loP L0 x q) (cntG (liveN s 6) n y a (loP L0 x q)) := by
  obtain ⟨p, m, h1, h2, h3, h4, h5⟩ := h.st
  rw [h5 q hq]
  by_cases e1 : q < p
  · rw [if_pos e1]
  · rw [if_neg e1]
    have hp : p < pathN L0 x := by omega
    have hm := h2 hp
    have g1 := gsP_mono (s := s) (n := n) (y := y) (a := a) (L0 := L0) (x := x) (p := p + 1) (pathN L0 x) (by omega)
    have g2 := gsP_len (s := s) (n := n) (y := y) (a := a) (L0 := L0) (x := x) p
    by_cases e2 : q = p
    · subst e2
      rw [if_pos rfl, show m = cntG (liveN s 6) n y a (loP L0 x q) by omega]
    · rw [if_neg e2]
      have g3 := gsP_mono (s := s) (n := n) (y := y) (a := a) (L0 := L0) (x := x) (p := p + 1) q (by omega)
      have g4 := gsP_mono (s := s) (n := n) (y := y) (a := a) (L0 := L0) (x := x) (p := q + 1) (pathN L0 x) (by omega)
      have g5 := gsP_len (s := s) (n := n) (y := y) (a := a) (L0 := L0) (x := x) q
      rw [show cntG (liveN s 6) n y a (loP L0 x q) = 0 by omega, it0]
def ownC (L : LdC) (x : Int) (a : Nat) : Int := leastV (fun p => loAt L (ndAt L x p) a) (pathN L x)
def allC (s : StM) (L : LdC) (x : Int) : Int := leastV (fun p => sumS s (loAt L (ndAt L x p)) 6) (pathN L x)
theorem own_all (hI : Inv0 L0 T) (ha : a < 6) (hla : isLive s a = true) : 0 ≤ ownC L0 x a ∧ ownC L0 x a ≤ allC s L0 x :=
  ⟨leastV_nn, leastV_mono fun _ hp => (sumS_ge (lo_ok hI (nd_find hp)) hla 6 (Nat.le_refl _)).2 ha⟩
theorem all_ok (hI : Inv0 L0 T) (hn : n = (liveN s 6).length) (ha : a < 6) (hla : isLive s a = true) (hf : 0 ≤ firstS L0.id L0.nn x) (hy : 1 ≤ y ∧ y ≤ 65536) : (∀ q, q < pathN L0 x → okG (liveN s 6) n y a (loP L0 x q) = true) ↔ y ≤ allC s L0 x := by
  unfold allC
  rw [leastV_le (path_1 hf) hy.1 (by omega)]
  exact forall_congr' fun q => ⟨fun h hq => (ok_iff hn ha hla (lo_ok hI (nd_find hq)) (by omega)).1 (h hq), fun h hq => (ok_iff hn ha hla (lo_ok hI (nd_find hq)) (by omega)).2 (h hq)⟩
theorem none_own (hn : n = (liveN s 6).length) (ha : a < 6) (hf : 0 ≤ firstS L0.id L0.nn x) (hy : 1 ≤ y ∧ y ≤ 65536) (hok : ∀ q, q < pathN L0 x → okG (liveN s 6) n y a (loP L0 x q) = true) : (gsP s n y a L0 x (pathN L0 x)).length = 0 ↔ y ≤ ownC L0 x a := by
  unfold ownC
  rw [leastV_le (path_1 hf) hy.1 (by omega)]
  constructor
  · intro h p hp
    have g1 := gsP_mono (s := s) (n := n) (y := y) (a := a) (L0 := L0) (x := x) (p := p + 1) (pathN L0 x) (by omega)
    rw [gsP_len] at g1
    exact (cnt_zero hn ha (hok p hp)).1 (by omega)
  · intro h
    have : ∀ p, p ≤ pathN L0 x → (gsP s n y a L0 x p).length = 0 := fun p => by
      induction p with
      | zero => intro _; exact gsP0
      | succ p ih =>
        intro hp
        rw [gsP_len, ih (by omega), (cnt_zero hn ha (hok p (by omega))).2 (h p (by omega))]
    exact this _ (Nat.le_refl _)
theorem RmI.done (h : RmI s n y a L0 L x k) (hk : k = (gsP s n y a L0 x (pathN L0 x)).length) (hI0 : Inv0 L0 T0) (hn : n = (liveN s 6).length) (ha : a < 6) (hla : isLive s a = true) (hf : 0 ≤ firstS L0.id L0.nn x) (hy : 1 ≤ y ∧ y ≤ 65536) (hok : ∀ q, q < pathN L0 x → okG (liveN s 6) n y a (loP L0 x q) = true) :
    y ≤ ownC L x a ∧ (0 < k → ownC L x a = y) ∧ ∀ p, p < pathN L x → y ≤ loAt L (ndAt L x p) a := by
  have hP := (h.path 0).2.1
  have hat : ∀ q, q < pathN L0 x → loAt L (ndAt L x q) a = itG (liveN s 6) n y a (loP L0 x q) (cntG (liveN s 6) n y a (loP L0 x q)) a := fun q hq => by rw [(h.path q).1, h.last hk hq]
  have hend : ∀ q, q < pathN L0 x → _ := fun q hq => end_at (l := loP L0 x q) hn ha hla (lo_ok hI0 (nd_find hq)) (show y ≤ 1125899906842624 by omega) (hok q hq)
  have hall : ∀ p, p < pathN L x → y ≤ loAt L (ndAt L x p) a := fun p hp => by rw [hP] at hp; rw [hat p hp]; exact (hend p hp).1
  have hPp : 1 ≤ pathN L x := by rw [hP]; exact path_1 hf
  have h1 : y ≤ ownC L x a := (leastV_le hPp hy.1 (by omega)).2 hall
  refine ⟨h1, fun hk0 => ?_, hall⟩
  -- some node lacked rights
  have hsome : ∃ p, p < pathN L0 x ∧ cntG (liveN s 6) n y a (loP L0 x p) ≠ 0 := by
    rcases Classical.em (∃ p, p < pathN L0 x ∧ cntG (liveN s 6) n y a (loP L0 x p) ≠ 0) with h2 | h2
    · exact h2
    · exfalso
      have : ∀ p, p ≤ pathN L0 x → (gsP s n y a L0 x p).length = 0 := fun p => by
        induction p with
        | zero => intro _; exact gsP0
        | succ p ih =>
          intro hp
          rw [gsP_len, ih (by omega)]
          rcases Nat.eq_zero_or_pos (cntG (liveN s 6) n y a (loP L0 x p)) with e | e
          · rw [e]
          · exact absurd ⟨p, by omega, by omega⟩ h2
      have := this _ (Nat.le_refl _)
      omega
  obtain ⟨p, hp, hc⟩ := hsome
  have h3 := (hend p hp).2 hc
  rw [← hat p hp] at h3
  have h4 : ownC L x a ≤ loAt L (ndAt L x p) a := (leastV_le (z := ownC L x a) hPp (by omega) leastV_top).1 (Int.le_refl (ownC L x a)) p (by rw [hP]; exact hp)
  omega
end
end Rt
end
end Go.Proofs.Ytolmkjepieoloaa
namespace Go.Proofs.Ytolmkjepieoloaa
open Go.RowKit Rt
namespace Fx
section
variable {P : Program} {f : Nat → Value} {w : World} {o : Oper}
theorem x_sliceLH {T E : TypeId} {x lo hi : Operand} {b off len cap s : Nat} {k k2 : IntKind} {j h : Nat} (ho : o.op = .slice T x (some lo) (some hi) none) (hx : ev f x = .slice (some ⟨b, off, none⟩) len cap) (hl : ev f lo = .int k (j : Int)) (hh : ev f hi = .int k2 ((j : Int) + 1)) (hu : P.underlying T = some (.slice E)) (hs : (P.info? E).map (·.size) = some s) (hj : j < cap) (hoff : off + j * s = h) :
    Runs P f o w (.slice (some ⟨b, h, none⟩) 1 (cap - j)) := by
  subst hoff
  obtain ⟨i, hi', hi2⟩ := Option.map_eq_some_iff.1 hs
  unfold Runs execOp
  simp only [ho, hx, hl, hh, Option.map_some, Option.map_none]
  have hj' : (j : Int) + 1 ≤ (cap : Int) := by omega
  have e1 : (0 : Int) ≤ (j : Int) + 1 := by omega
  have e2 : ((j : Int) + 1).toNat = j + 1 := by omega
  have e4 : ¬ cap = j := by omega
  simp [Instr.sliceAt, Instr.slice, underlying, hu, Instr.sliceBounds, Instr.sliceBound, asIntOf, hj', e1, e2, e4, sizeOf, typeInfo, hi', hi2, addr_add]
theorem Own.lecap {w : World} {B n s c : Nat} {a : Option Addr} {E : TypeId} {x : Nat → Value} (h : Own w B E s (.slice a n c) n x) : n ≤ c := by
  rcases h.2 with ⟨e, e2⟩ | ⟨g, cap, cur, e, _, _, h2, _⟩
  · cases e; exact Nat.le_refl _
  · cases e; exact h2
theorem cel_sub {w : World} {b n s k h : Nat} {F : Nat → Nat → Value} (hc : Cel w b 0 (n * s) (flat s F)) (hk : k < n) (hh : s * k = h) : Cel w b h (1 * s) (flat s fun _ => F k) := fun i hi => by
  have hi' : i < s := by omega
  have hlt : s * k + i < n * s := by
    have h1 : (k + 1) * s ≤ n * s := Nat.mul_le_mul_right s hk
    rw [Nat.add_mul, Nat.one_mul, Nat.mul_comm k s] at h1
    omega
  have := hc (s * k + i) hlt
  rw [flat_at rfl hi', Nat.zero_add] at this
  rw [← hh, this, flat_at (k := 0) (j := i) (by omega) hi']
end
end Fx
namespace Rt
theorem gf_cel {w : World} {b n k : Nat} {gl : List GiftM} (hc : Fx.Cel w b 0 (n * 3) (gfX gl)) (hk : k < n) : Fx.Cel w b (3 * k) (1 * 3) (Fx.flat 3 fun kq => gfY ([gl.getD k gf0].getD kq gf0)) := fun i hi => by
  have h1 := Fx.cel_sub (F := fun kq => gfY (gl.getD kq gf0)) hc hk rfl i hi
  rw [h1, Fx.flat_at (k := 0) (j := i) (by omega) (by omega), Fx.flat_at (k := 0) (j := i) (by omega) (by omega)]; rfl
theorem ak_one {g : GiftM} {fr dst : Int} (h : g.fr = fr) : akN [g] fr dst 1 = [⟨5, g.node, dst, g.amt, 0, 0⟩] := if_pos h
section
variable {L : LdC} {m : LdM} {T a b : Nat} {x y : Int}
theorem L_small (h : Inv L T) (hT : T ≤ 300000) {k : Nat} (hk : k < L.nn) (ha : a < 6) : localV (L.R k) ((a : Int) + 1) ≤ 70368744177664 := by
  rw [localV_L (h.may k hk) a ha]
  have e := (may_iff _).1 (h.may k hk)
  have n0 := fun p hp => (e.1 p hp).1
  have b0 := fun p hp => h.b.rb k hk p hp
  have g1 := b0 a (by omega); have g2 := b0 (12 + a) (by omega); have g3 := n0 (6 + a) (by omega)
  have r0 := b0 (18 + 0 * 6 + a) (by omega); have r1 := b0 (18 + 1 * 6 + a) (by omega); have r2 := b0 (18 + 2 * 6 + a) (by omega); have r3 := b0 (18 + 3 * 6 + a) (by omega); have r4 := b0 (18 + 4 * 6 + a) (by omega); have r5 := b0 (18 + 5 * 6 + a) (by omega)
  have q0 := n0 (18 + a * 6 + 0) (by omega); have q1 := n0 (18 + a * 6 + 1) (by omega); have q2 := n0 (18 + a * 6 + 2) (by omega); have q3 := n0 (18 + a * 6 + 3) (by omega); have q4 := n0 (18 + a * 6 + 4) (by omega); have q5 := n0 (18 + a * 6 + 5) (by omega)
  show G (L.R k) a + F (L.R k) a + R (L.R k) 0 a + R (L.R k) 1 a + R (L.R k) 2 a + R (L.R k) 3 a + R (L.R k) 4 a + R (L.R k) 5 a - C (L.R k) a - R (L.R k) a 0 - R (L.R k) a 1 - R (L.R k) a 2 - R (L.R k) a 3 - R (L.R k) a 4 - R (L.R k) a 5 ≤ _
  unfold G F C R
  omega
theorem own_small (h : Inv L T) (hT : T ≤ 300000) (ha : a < 6) (hf : 0 ≤ firstS L.id L.nn x) : ownC L x a ≤ 70368744177664 := by
  rcases Int.lt_or_le (ownC L x a) 1 with h1 | h1
  · omega
  · have hP : 1 ≤ pathN L x := path_1 hf
    have h2 := (leastV_le (z := ownC L x a) hP h1 leastV_top).1 (Int.le_refl _) 0 hP
    obtain ⟨k, hk, e, _⟩ := first_nat hf
    have h3 : loAt L (ndAt L x 0) a = localV (L.R k) ((a : Int) + 1) := by
      show localV (L.R (firstS L.id L.nn x).toNat) ((a : Int) + 1) = _
      rw [e]; rfl
    rw [h3] at h2
    exact Int.le_trans h2 (L_small h hT hk ha)
theorem take_own (h : Inv L T) (hT : T ≤ 300000) (ha : a < 6) (hl : (L.inn a && !L.left a) = true) (hf : 0 ≤ firstS L.id L.nn x) (h1 : 1 ≤ y) (h2 : y ≤ 562949953421312) : (y ≤ ownC L x a → applyE L (takeV L a x y) = 0) ∧ (ownC L x a < y → applyE L (takeV L a x y) = 11) := by
  obtain ⟨t1, t2⟩ := take_E h hT ha hl hf h1 h2
  have hi := leastV_le (f := fun p => loAt L (ndAt L x p) a) (P := pathN L x) (z := y) (path_1 hf) h1 (by omega)
  exact ⟨fun h3 => t1 (hi.1 h3), fun h3 => t2 fun hall => absurd (hi.2 hall) (Int.not_le.2 h3)⟩
theorem node_find {k : Nat} (h : nodeM m k ≠ 0) : 0 ≤ firstS m.id m.s.nn (nodeM m k) := by
  unfold nodeM at h ⊢
  by_cases e : m.s.nn = 0
  · rw [if_pos e] at h; exact absurd rfl h
  · rw [if_neg e]
    have hq : k % m.s.nn < m.s.nn := Nat.mod_lt _ (by omega)
    rcases firstI_spec (fun i => decide (m.id i = m.id (k % m.s.nn))) m.s.nn with ⟨j, _, ej, _⟩ | ⟨_, hno⟩
    · unfold firstS; rw [ej]; omega
    · have := hno _ hq
      rw [decide_eq_true rfl] at this; cases this
theorem id_u (h : Inv L T) (hf : 0 ≤ firstS L.id L.nn x) : U64r x ∧ 1 ≤ x := by
  obtain ⟨k, hk, _, e⟩ := first_nat hf
  have h1 := h.pos k hk
  have h2 := h.top k hk
  rw [e] at h1 h2
  exact ⟨⟨by show (0 : Int) ≤ x; omega, by show x ≤ _; omega⟩, h1⟩
theorem wf_take (h : Inv L T) (hT : T ≤ 300000) (ha : a < 6) (hx : U64r x) (hy : 0 ≤ y ∧ y ≤ 562949953421312) : EvWf (takeV L a x y) := by
  have hk := known_bd h hT a ha
  have z : U64r 0 := ⟨by decide, by decide⟩
  have z2 : I64r 0 := ⟨by decide, by decide⟩
  have z3 : U64r 1073741824 := ⟨by decide, by decide⟩
  exact ⟨⟨by show (_ : Int) ≤ (a : Int) + 1; omega, by show (a : Int) + 1 ≤ _; omega⟩, ⟨by show (0 : Int) ≤ L.known a + 1; omega, by show L.known a + 1 ≤ _; omega⟩, fun i hi => ⟨(known_bd h hT i hi).1, by have := (known_bd h hT i hi).2; show L.known i ≤ _; omega⟩, ⟨by show (0 : Int) ≤ 3; decide, by show (3 : Int) ≤ 255; decide⟩, hx, z2, ⟨by show (_ : Int) ≤ y; omega, by show y ≤ _; omega⟩, z3, z⟩
theorem wf_move (h : Inv L T) (hT : T ≤ 300000) (ha : a < 6) (hb : b < 6) (hx : U64r x) (hy : 0 ≤ y ∧ y ≤ 562949953421312) : EvWf (moveV L b a x y) := by
  have hk := known_bd h hT b hb
  have z : U64r 0 := ⟨by decide, by decide⟩
  exact ⟨⟨by show (_ : Int) ≤ (b : Int) + 1; omega, by show (b : Int) + 1 ≤ _; omega⟩, ⟨by show (0 : Int) ≤ L.known b + 1; omega, by show L.known b + 1 ≤ _; omega⟩, fun i hi => ⟨(known_bd h hT i hi).1, by have := (known_bd h hT i hi).2; show L.known i ≤ _; omega⟩, ⟨by show (0 : Int) ≤ 5; decide, by show (5 : Int) ≤ 255; decide⟩, hx, ⟨by show (_ : Int) ≤ (a : Int) + 1; omega, by show (a : Int) + 1 ≤ _; omega⟩, ⟨by show (_ : Int) ≤ y; omega, by show y ≤ _; omega⟩, z, z⟩
theorem sm_move (hy : y ≤ 65536) : EvSm (moveV L b a x y) := ⟨hy, by show (0 : Int) ≤ 256; decide⟩
theorem RmI.live {s : StM} {n k : Nat} {L0 : LdC} (h : RmI s n y a L0 L x k) : L.inn = L0.inn ∧ L.left = L0.left := ⟨h.e.2.2.2.1, h.e.2.2.2.2⟩
theorem RmI.live_m {s : StM} {n k : Nat} {L0 : LdC} (h : RmI s n y a L0 m.core x k) (hs : L0.inn = s.inn ∧ L0.left = s.left) (ha : a < 6) (hla : isLive s a = true) : liveI m.s ((a : Int) + 1) = true ∧ (m.core.inn a && !m.core.left a) = true := by
  obtain ⟨e1, e2⟩ := h.live
  have e3 : isLive m.s a = true := by
    show (m.core.inn a && !m.core.left a) = true
    rw [e1, e2, hs.1, hs.2]; exact hla
  exact ⟨(live_Iff ha).trans e3, e3⟩
theorem RmI.find {s : StM} {n k : Nat} {L0 : LdC} {z : Int} (h : RmI s n y a L0 L x k) (hf : 0 ≤ firstS L0.id L0.nn z) : 0 ≤ firstS L.id L.nn z := by rw [(h.path 0).2.2]; exact hf
end
end Rt
section
variable (m : LdM) (B p T : Nat) (x : Int) (w : World)
theorem k_all (hL : LdO w B p m) (hI : Inv m.core T) : Calls Try.prog 55 #[.agg (Fx.varr 20 (stY m.s)), .int .u64 (x)] w fun e w' => e = .returned (.int .i64 (allC m.s m.core x)) ∧ Below w.heap.size w w' :=
  (ro_all m.s m.id m.par m.R x w hL.ldg.an (by have := hL.bn; omega) (fun z hz => lo_ok (L := m.core) hI.toInv0 hz)).mono fun e w' h => ⟨h.1.trans (congrArg (fun q => Ending.returned (Value.int .i64 q)) (congrArg (fun f => leastV f (pathN m.core x)) (funext fun k => sumL_S m.s (loAt m.core (ndAt m.core x k)) 6))), h.2⟩
theorem k_own (a : Nat) (hL : LdO w B p m) (ha : a < 6) (hli : liveI m.s ((a : Int) + 1) = true) : Calls Try.prog 56 #[.agg (Fx.varr 20 (stY m.s)), .int .i64 ((a : Int) + 1), .int .u64 (x)] w fun e w' => e = .returned (.int .i64 (ownC m.core x a)) ∧ Below w.heap.size w w' :=
  ro_own m.s m.id m.par m.R x w hL.ldg.an (by have := hL.bn; omega) a ha hli
theorem k_gifts (nl a : Nat) (y : Int) (hL : LdO w B p m) (hI : Inv m.core T) (ha : a < 6) (hnl : nl = (liveN m.s 6).length) (hli : liveI m.s ((a : Int) + 1) = true) (hf : 0 ≤ firstS m.id m.s.nn x) (hy : 1 ≤ y ∧ y ≤ 65536) :
    Calls Try.prog 59 #[.agg (Fx.varr 20 (stY m.s)), .int .i64 ((a : Int) + 1), .int .u64 (x), .int .i64 (y)] w fun e w' =>
      ((∃ v n, e = .returned (.tuple #[v, .int .i64 (0)]) ∧ (∀ q, q < pathN m.core x → okG (liveN m.s 6) nl y a (loP m.core x q) = true) ∧ n = (gsP m.s nl y a m.core x (pathN m.core x)).length ∧ Fx.Own w' w.heap.size 122 3 v n (gfX (gsP m.s nl y a m.core x (pathN m.core x)))) ∨
        (e = .returned (.tuple #[.slice none 0 0, .int .i64 (11)]) ∧ ∃ q, q < pathN m.core x ∧ okG (liveN m.s 6) nl y a (loP m.core x q) = false)) ∧ Below w.heap.size w w' :=
  ro_gifts m.s m.id m.par m.R x w hL.ldg.an (by have := hL.bn; omega) (fun z hz => lo_ok (L := m.core) hI.toInv0 hz) nl a y ha hnl hli hf ⟨hy.1, by omega⟩
theorem k_evTake (a : Nat) (amt : Int) (y : Nat → Value) (hL : LdO w B p m) (ha : a < 6) (hI : Inv m.core T) (hT : T ≤ 300000) (hy : ∀ j, j < 6 → y j = askY ⟨3, x, 0, amt, 1073741824, 0⟩ j) : Calls Try.prog 58 #[.pointer (some ⟨p, 0, none⟩), .int .i64 ((a : Int) + 1), .agg (Fx.varr 6 y)] w fun e w' => e = .returned (.agg (Fx.varr 14 (evY (takeV m.core a x amt)))) ∧ Below w.heap.size w w' := by
  rw [Fx.varr_congr hy]
  exact r33_event m B p a ⟨3, x, 0, amt, 1073741824, 0⟩ w hL ha (known_bd hI hT a ha)
theorem k_evMove (b a : Nat) (amt : Int) (y : Nat → Value) (hL : LdO w B p m) (hb : b < 6) (hI : Inv m.core T) (hT : T ≤ 300000) (hy : ∀ j, j < 6 → y j = askY ⟨5, x, (a : Int) + 1, amt, 0, 0⟩ j) : Calls Try.prog 58 #[.pointer (some ⟨p, 0, none⟩), .int .i64 ((b : Int) + 1), .agg (Fx.varr 6 y)] w fun e w' => e = .returned (.agg (Fx.varr 14 (evY (moveV m.core b a x amt)))) ∧ Below w.heap.size w w' := by
  rw [Fx.varr_congr hy]
  exact r33_event m B p b ⟨5, x, (a : Int) + 1, amt, 0, 0⟩ w hL hb (known_bd hI hT b hb)
end
end Go.Proofs.Ytolmkjepieoloaa
namespace Go.Proofs.Ytolmkjepieoloaa
open Go.RowKit Rt
open Fx (x_move x_assign x_field x_load1 x_pickF x_pickT x_nil x_conv x_indexS x_index x_leqF x_loadA x_len x_gtrF x_build x_eqlF x_eqlT)
section
theorem Rt.gs_len {m : LdM} {n a T : Nat} {y x : Int} (hn : n = (liveN m.s 6).length) (ha : a < 6) (hI : Inv m.core T) (hf : 0 ≤ firstS m.id m.s.nn x) : (gsP m.s n y a m.core x (pathN m.core x)).length ≤ 200 := by
  have h1 := allG_len (y := y) (lo := loP m.core x) (nd := ndAt m.core x) (live_ok m.s hn) ha (pathN m.core x)
  have h2 := (path_T (x := x) hI.toInv0 (nn_pos hf)).2.1
  unfold gsP; omega
attribute [local irreducible] ownC allC gsP pathN firstS applyE takeV moveV nodeM liveN
set_option maxRecDepth 20000 in
set_option maxHeartbeats 2000000 in
theorem works33L_any (rb : Nat) (aa0 : Option Addr) (na ca : Nat) (xa : Nat → ActM) (wh pk xx : Nat) (w : World) (hrb : rb ≤ 255) (hwh : wh ≤ 255) (hpk : pk ≤ 255) (hxx : xx ≤ 65535) (hxa : ∀ k, k < na → ActOk (xa k)) (hacts : Fx.Arr w aa0 na 9 (Fx.flat 9 fun k => actY (xa k))) :
    Calls Try.prog 13 #[.int .u8 ((rb : Int)), .slice aa0 (na) (ca), .int .u8 ((wh : Int)), .int .u8 ((pk : Int)), .int .u16 ((xx : Int))] w fun e w' => e = .returned (.bool true) ∧ Below w.heap.size w w' := by
 refine Fx.enter Try.func13 rfl (n := 264) rfl (by rfl) ?_
 refine Fx.W.seq (Fx.W.list (Fx.L.v (.bool false) (x_assign rfl rfl) (Fx.L.nil (Fx.seqN (Fx.W.seq (Fx.W.seq (Fx.W.list (Fx.L.v (.slice aa0 (na) (ca)) (x_move rfl rfl) (Fx.L.v (.int .i64 ((na : Int))) (x_len rfl rfl rfl (by kernel_rfl)) ?_)))))))))
 by_cases c32 : 60 < (na : Int)
 ·refine Fx.L.v (.bool true) (Fx.x_gtrT rfl rfl rfl c32) (Fx.L.nil (Fx.seqN (Fx.W.cond (b := true) rfl (fun _ => Fx.W.seq (Fx.W.list (Fx.L.call (by rfl) (Fx.r_call (args := []) rfl rfl Try.func53 rfl rfl) rfl ((works33_any _).mono ?_)))) (fun h => nomatch h))))
  rintro e w1 ⟨he, hb1⟩
  refine ⟨.bool true, by rw [he], ?_⟩
  clear he
  have s1 := Fx.Stp.of_below hb1
  have b1 := s1.below (Below.refl w.heap.size w) (Below.refl w.heap.size w).size (Below.refl w.heap.size w).size
  refine Fx.L.v (.bool true) (x_assign rfl rfl) (Fx.L.nil (Fx.seqN (Fx.W.ret (Fx.seqR (⟨.bool true, Fx.retV1 Try.results13 (by exact rfl), ?_⟩)))))
  exact ⟨rfl, b1⟩
 ·refine Fx.L.v (.bool false) (x_gtrF rfl rfl rfl c32) (Fx.L.nil (Fx.seqN (Fx.W.cond (b := false) rfl (fun h => nomatch h) (fun _ => Fx.W.skip (Fx.seqN (Fx.W.seq ?_))))))
  have hna60 : na ≤ 60 := by omega
  refine Fx.W.list (Fx.L.v (.int .u8 ((rb : Int))) (x_move rfl rfl) (Fx.L.v (.slice aa0 (na) (ca)) (x_move rfl rfl) (Fx.L.call (by rfl) (Fx.r_call (args := [.int .u8 ((rb : Int)), .slice aa0 (na) (ca)]) rfl rfl Try.func54 rfl rfl) rfl ((r33_met rb aa0 na ca xa _ hrb (by omega) hxa hacts).mono ?_))))
  rintro e9 w2 ⟨pw, M8, T8, p0, m0, he, hWm, hL0, hI0, hT8, hMa8, hbm⟩
  refine ⟨_, he, ?_⟩
  clear he
  have s2 := Fx.Stp.of_below hbm
  have b2 := s2.below (Below.refl w.heap.size w) (Below.refl w.heap.size w).size (Below.refl w.heap.size w).size
  have hLoc := hL0.c
  have hWc := hWm.c
  refine Fx.L.v (.tuple #[.pointer (some ⟨p0, 0, none⟩), .pointer (some ⟨pw, 0, none⟩)]) (x_move rfl rfl) (Fx.L.v (.pointer (some ⟨p0, 0, none⟩)) (Fx.x_extract rfl rfl rfl) (Fx.L.v (.pointer (some ⟨pw, 0, none⟩)) (Fx.x_extract rfl rfl rfl) (Fx.L.v (.pointer (some ⟨p0, 0, none⟩)) (x_assign rfl rfl) (Fx.L.v (.pointer (some ⟨pw, 0, none⟩)) (x_assign rfl rfl) (Fx.L.nil (Fx.seqN (Fx.W.seq (Fx.W.list (Fx.L.v (.pointer (some ⟨p0, 0, none⟩)) (x_move rfl rfl) (Fx.L.v (.int .u8 ((pk : Int))) (x_move rfl rfl) (Fx.L.v (.int .i64 ((pk : Int))) (x_conv rfl rfl (by kernel_rfl) Try.underlying3 (Fx.i64e (by omega) rfl)) (Fx.L.call (by rfl) (Fx.r_call (args := [.pointer (some ⟨p0, 0, none⟩), .int .i64 ((pk : Int))]) rfl rfl Try.func24 rfl rfl) rfl ((l_nodeId m0 p0 pk _ hL0.ldg (by omega)).mono ?_)))))))))))))
  rintro e w3 ⟨he, hb2⟩
  refine ⟨.int .u64 (nodeM m0 pk), by rw [he], ?_⟩
  clear he
  have s3 := Fx.Stp.of_below hb2
  have m1 := hL0.up s3.old
  have m2 := hLoc.stp s3 (Nat.ne_of_lt (hLoc.lt))
  have m3 := hWc.stp s3 (Nat.ne_of_lt (hWc.lt))
  have b3 := s3.below b2 b2.size b2.size
  refine Fx.L.v (.int .u64 (nodeM m0 pk)) (x_assign rfl rfl) (Fx.L.nil (Fx.seqN (Fx.W.seq (Fx.W.list (Fx.L.v (.pointer (some ⟨p0, 0, none⟩)) (x_move rfl rfl) (Fx.L.v (.pointer (some ⟨p0, 0, none⟩)) (x_nil rfl rfl) (Fx.L.v (.pointer (some ⟨p0, 0, none⟩)) (x_field rfl rfl Try.underlying71 rfl (s := 20) (by kernel_rfl) rfl rfl) (Fx.L.v (.agg (Fx.varr 20 (fun j => (ldY m0) (0 + j)))) (x_loadA (x := ldY m0) (y := fun j => (ldY m0) (0 + j)) rfl rfl (by kernel_rfl) (by kernel_rfl) m2.cel (i := 0) (by omega) (by omega) (fun _ _ => rfl)) (Fx.L.call (by rfl) (Fx.r_call (args := [.agg (Fx.varr 20 (fun j => (ldY m0) (0 + j)))]) rfl rfl Try.func31 rfl rfl) rfl ((r_live m0.s _).mono ?_))))))))))
  rintro e9 w4 ⟨v9, nl, he, hnl, hO9, hb9⟩
  obtain ⟨a9, cap9, rfl⟩ := hO9.val
  refine ⟨.slice a9 nl cap9, he, ?_⟩
  clear he
  have s4 := Fx.Stp.of_below hb9
  have m4 := m1.up s4.old
  have m5 := m2.stp s4 (Nat.ne_of_lt (m2.lt))
  have m6 := m3.stp s4 (Nat.ne_of_lt (m3.lt))
  have b4 := s4.below b3 b3.size b3.size
  have hn9l : nl ≤ 6 := by rw [hnl]; exact live_len m0.s 6
  refine Fx.L.v (.slice a9 (nl) (cap9)) (x_assign rfl rfl) (Fx.L.nil (Fx.seqN (Fx.W.seq (Fx.W.seq (Fx.W.list (Fx.L.v (.slice a9 (nl) (cap9)) (x_move rfl rfl) (Fx.L.v (.int .i64 ((nl : Int))) (x_len rfl rfl rfl (by kernel_rfl)) ?_)))))))
  by_cases c51 : (nl : Int) = 0
  ·refine Fx.L.v (.bool true) (x_eqlT rfl rfl rfl c51) (Fx.L.v (.bool true) (x_move rfl rfl) (Fx.L.skip (by rfl) rfl (Fx.L.skip (by rfl) rfl (Fx.L.v (.bool true) (x_pickT rfl rfl rfl) (Fx.L.v (.bool true) (x_move rfl rfl) (Fx.L.skip (by rfl) rfl (Fx.L.skip (by rfl) rfl (Fx.L.skip (by rfl) rfl (Fx.L.skip (by rfl) rfl (Fx.L.skip (by rfl) rfl (Fx.L.skip (by rfl) rfl (Fx.L.v (.bool true) (x_pickT rfl rfl rfl) (Fx.L.nil (Fx.seqN (Fx.W.cond (b := true) rfl (fun _ => Fx.W.seq (Fx.W.list (Fx.L.call (by rfl) (Fx.r_call (args := []) rfl rfl Try.func53 rfl rfl) rfl ((works33_any _).mono ?_)))) (fun h => nomatch h))))))))))))))))
   rintro e w5 ⟨he, hb3⟩
   refine ⟨.bool true, by rw [he], ?_⟩
   clear he
   have s5 := Fx.Stp.of_below hb3
   have b5 := s5.below b4 b4.size b4.size
   refine Fx.L.v (.bool true) (x_assign rfl rfl) (Fx.L.nil (Fx.seqN (Fx.W.ret (Fx.seqR (⟨.bool true, Fx.retV1 Try.results13 (by exact rfl), ?_⟩)))))
   exact ⟨rfl, b5⟩
  ·refine Fx.L.v (.bool false) (x_eqlF rfl rfl rfl c51) (Fx.L.v (.bool false) (x_move rfl rfl) (Fx.L.v (.int .u64 (nodeM m0 pk)) (x_move rfl rfl) ?_))
   by_cases c54 : (nodeM m0 pk) = 0
   ·refine Fx.L.v (.bool true) (x_eqlT rfl rfl rfl c54) (Fx.L.v (.bool true) (x_pickF rfl rfl rfl) (Fx.L.v (.bool true) (x_move rfl rfl) (Fx.L.skip (by rfl) rfl (Fx.L.skip (by rfl) rfl (Fx.L.skip (by rfl) rfl (Fx.L.skip (by rfl) rfl (Fx.L.skip (by rfl) rfl (Fx.L.skip (by rfl) rfl (Fx.L.v (.bool true) (x_pickT rfl rfl rfl) (Fx.L.nil (Fx.seqN (Fx.W.cond (b := true) rfl (fun _ => Fx.W.seq (Fx.W.list (Fx.L.call (by rfl) (Fx.r_call (args := []) rfl rfl Try.func53 rfl rfl) rfl ((works33_any _).mono ?_)))) (fun h => nomatch h)))))))))))))
    rintro e w6 ⟨he, hb4⟩
    refine ⟨.bool true, by rw [he], ?_⟩
    clear he
    have s6 := Fx.Stp.of_below hb4
    have b6 := s6.below b4 b4.size b4.size
    refine Fx.L.v (.bool true) (x_assign rfl rfl) (Fx.L.nil (Fx.seqN (Fx.W.ret (Fx.seqR (⟨.bool true, Fx.retV1 Try.results13 (by exact rfl), ?_⟩)))))
    exact ⟨rfl, b6⟩
   ·refine Fx.L.v (.bool false) (x_eqlF rfl rfl rfl c54) (Fx.L.v (.bool false) (x_pickF rfl rfl rfl) (Fx.L.v (.bool false) (x_move rfl rfl) (Fx.L.v (.pointer (some ⟨pw, 0, none⟩)) (x_move rfl rfl) (Fx.L.v (.pointer (some ⟨pw, 0, none⟩)) (x_nil rfl rfl) (Fx.L.v (.pointer (some ⟨pw, 1, none⟩)) (x_field rfl rfl Try.underlying63 rfl (s := 1) (by kernel_rfl) rfl (by show _ + 1 = _; omega)) (Fx.L.v (.slice M8.aa (M8.an) (M8.ac)) (x_load1 (x := wdY (.slice M8.la (M8.n) (M8.lc)) (.slice M8.aa (M8.an) (M8.ac))) rfl rfl (by kernel_rfl) m6.cel (i := 1) (by omega) (by omega) rfl) (Fx.L.v (.int .i64 ((M8.an : Int))) (x_len rfl rfl rfl (by kernel_rfl)) (Fx.L.v (.bool false) (x_gtrF rfl rfl rfl (by omega)) (Fx.L.v (.bool false) (x_pickF rfl rfl rfl) (Fx.L.nil (Fx.seqN (Fx.W.cond (b := false) rfl (fun h => nomatch h) (fun _ => Fx.W.skip (Fx.seqN (Fx.W.seq ?_)))))))))))))))
    obtain ⟨qi, eqi⟩ : ∃ r, r = wh % nl := ⟨_, rfl⟩
    have hqi : qi < nl := by rw [eqi]; exact Nat.mod_lt _ (by omega)
    refine Fx.W.list (Fx.L.v (.slice a9 (nl) (cap9)) (x_move rfl rfl) (Fx.L.v (.int .u8 ((wh : Int))) (x_move rfl rfl) (Fx.L.v (.int .i64 ((wh : Int))) (x_conv rfl rfl (by kernel_rfl) Try.underlying3 (Fx.i64e (by omega) rfl)) (Fx.L.v (.slice a9 (nl) (cap9)) (x_move rfl rfl) (Fx.L.v (.int .i64 ((nl : Int))) (x_len rfl rfl rfl (by kernel_rfl)) (Fx.L.v (.int .i64 ((qi : Int))) (Fx.x_rem rfl rfl rfl (by omega) (remL eqi)) ?_))))))
    obtain ⟨gq1, eq1⟩ := hO9.addr (by omega)
    have m15 : Fx.Own w4 w3.heap.size 3 1 (.slice (some ⟨gq1, 0, none⟩) nl cap9) nl (lsX (liveN m0.s 6)) := hO9.congV (congrArg (fun q => Value.slice q nl cap9) eq1)
    refine Fx.L.v (.pointer (some ⟨gq1, qi, none⟩)) (x_indexS rfl (rfl.trans (congrArg (fun q => Value.slice q (nl) (cap9)) eq1)) rfl Try.underlying23 (s := 1) (by kernel_rfl) (by omega) (by omega) (by omega)) (Fx.L.v (.int .i64 ((liveN m0.s 6).getD qi 0)) (x_load1 (x := lsX (liveN m0.s 6)) rfl rfl (by kernel_rfl) m15.cel (i := qi) (by omega) (by omega) rfl) (Fx.L.v (.int .i64 ((liveN m0.s 6).getD qi 0)) (x_assign rfl rfl) (Fx.L.nil (Fx.seqN (Fx.W.seq ?_)))))
    obtain ⟨a, ha, eqa, hla⟩ := live_at (q := qi) hnl (by omega)
    have hli : liveI m0.s ((a : Int) + 1) = true := (live_Iff ha).trans hla
    have hlc : (m0.core.inn a && !m0.core.left a) = true := hla
    have hf := node_find (m := m0) (k := pk) c54
    obtain ⟨nd, end9⟩ : ∃ q : Int, q = nodeM m0 pk := ⟨_, rfl⟩
    rw [← end9] at hf
    have hU := id_u hI0 hf
    refine Fx.W.list (Fx.L.v (.pointer (some ⟨p0, 0, none⟩)) (x_move rfl rfl) (Fx.L.v (.pointer (some ⟨p0, 0, none⟩)) (x_nil rfl rfl) (Fx.L.v (.pointer (some ⟨p0, 0, none⟩)) (x_field rfl rfl Try.underlying71 rfl (s := 20) (by kernel_rfl) rfl rfl) (Fx.L.v (.agg (Fx.varr 20 (fun j => (ldY m0) (0 + j)))) (x_loadA (x := ldY m0) (y := fun j => (ldY m0) (0 + j)) rfl rfl (by kernel_rfl) (by kernel_rfl) m5.cel (i := 0) (by omega) (by omega) (fun _ _ => rfl)) (Fx.L.v (.int .u64 (nd)) (x_move rfl (rfl.trans (congrArg (Value.int .u64) end9.symm))) (Fx.L.call (by rfl) (Fx.r_call (args := [.agg (Fx.varr 20 (fun j => (ldY m0) (0 + j))), .int .u64 (nd)]) rfl rfl Try.func55 rfl rfl) rfl ((k_all m0 w.heap.size p0 T8 nd _ m4 hI0).mono ?_)))))))
    rintro e w7 ⟨he, hb5⟩
    refine ⟨.int .i64 (allC m0.s m0.core nd), by rw [he], ?_⟩
    clear he
    have s7 := Fx.Stp.of_below hb5
    have m16 := m4.up s7.old
    have m17 := m5.stp s7 (Nat.ne_of_lt (m5.lt))
    have b7 := s7.below b4 b4.size b4.size
    refine Fx.L.v (.int .i64 (allC m0.s m0.core nd)) (x_assign rfl rfl) (Fx.L.nil (Fx.seqN (Fx.W.seq ?_)))
    obtain ⟨al, eal⟩ : ∃ q : Int, q = allC m0.s m0.core nd := ⟨_, rfl⟩
    refine Fx.W.list (Fx.L.v (.pointer (some ⟨p0, 0, none⟩)) (x_move rfl rfl) (Fx.L.v (.pointer (some ⟨p0, 0, none⟩)) (x_nil rfl rfl) (Fx.L.v (.pointer (some ⟨p0, 0, none⟩)) (x_field rfl rfl Try.underlying71 rfl (s := 20) (by kernel_rfl) rfl rfl) (Fx.L.v (.agg (Fx.varr 20 (fun j => (ldY m0) (0 + j)))) (x_loadA (x := ldY m0) (y := fun j => (ldY m0) (0 + j)) rfl rfl (by kernel_rfl) (by kernel_rfl) m17.cel (i := 0) (by omega) (by omega) (fun _ _ => rfl)) (Fx.L.v (.int .i64 ((a : Int) + 1)) (x_move rfl (rfl.trans (congrArg (Value.int .i64) eqa))) (Fx.L.v (.int .u64 (nd)) (x_move rfl (rfl.trans (congrArg (Value.int .u64) end9.symm))) (Fx.L.call (by rfl) (Fx.r_call (args := [.agg (Fx.varr 20 (fun j => (ldY m0) (0 + j))), .int .i64 ((a : Int) + 1), .int .u64 (nd)]) rfl rfl Try.func56 rfl rfl) rfl ((k_own m0 w.heap.size p0 nd _ a m16 ha hli).mono ?_))))))))
    rintro e w8 ⟨he, hb6⟩
    refine ⟨.int .i64 (ownC m0.core nd a), by rw [he], ?_⟩
    clear he
    have s8 := Fx.Stp.of_below hb6
    have m18 := m16.up s8.old
    have m19 := m17.stp s8 (Nat.ne_of_lt (m17.lt))
    have b8 := s8.below b7 b7.size b7.size
    refine Fx.L.v (.int .i64 (ownC m0.core nd a)) (x_assign rfl rfl) (Fx.L.nil (Fx.seqN (Fx.W.seq (Fx.W.list (Fx.L.v (.int .u64 (1073741824)) (x_assign rfl rfl) (Fx.L.nil (Fx.seqN (Fx.W.seq (Fx.W.seq ?_)))))))))
    obtain ⟨ow, eow⟩ : ∃ q : Int, q = ownC m0.core nd a := ⟨_, rfl⟩
    have hoa := own_all (x := nd) hI0.toInv0 ha hla
    have how := own_small hI0 (by omega) ha hf
    have hoa : 0 ≤ ow ∧ ow ≤ al := by rw [eow, eal]; exact hoa
    have how : ow ≤ 70368744177664 := by rw [eow]; exact how
    refine Fx.W.list (Fx.L.v (.int .i64 (ow)) (x_move rfl (rfl.trans (congrArg (Value.int .i64) eow.symm))) (Fx.L.v (.bool false) (Fx.x_lssF rfl rfl rfl (by omega)) (Fx.L.v (.bool false) (x_move rfl rfl) (Fx.L.v (.int .i64 (ow)) (x_move rfl (rfl.trans (congrArg (Value.int .i64) eow.symm))) (Fx.L.v (.int .i64 (al)) (x_move rfl (rfl.trans (congrArg (Value.int .i64) eal.symm))) (Fx.L.v (.bool false) (x_gtrF rfl rfl rfl (by omega)) (Fx.L.v (.bool false) (x_pickF rfl rfl rfl) (Fx.L.nil (Fx.seqN (Fx.W.cond (b := false) rfl (fun h => nomatch h) (fun _ => Fx.W.skip (Fx.seqN (Fx.W.seq (Fx.W.list (Fx.L.v (.pointer (some ⟨p0, 0, none⟩)) (x_move rfl rfl) (Fx.L.v (.pointer (some ⟨p0, 0, none⟩)) (x_move rfl rfl) (Fx.L.v (.int .i64 ((a : Int) + 1)) (x_move rfl (rfl.trans (congrArg (Value.int .i64) eqa))) (Fx.L.v (.int .u64 (nd)) (x_move rfl (rfl.trans (congrArg (Value.int .u64) end9.symm))) (Fx.L.v (.int .i64 (ow)) (x_move rfl (rfl.trans (congrArg (Value.int .i64) eow.symm))) (Fx.L.v (.int .i64 (ow + 1)) (Fx.x_add rfl rfl rfl (Fx.i64e (by omega) (by omega))) (Fx.L.v (.int .u64 (1073741824)) (x_move rfl rfl) (Fx.L.v (.agg (Fx.varr 6 (Fx.ovr (Fx.ovr (Fx.ovr (Fx.ovr (fun zq => if zq < 1 then .int .u8 (0) else if zq < 2 then .int .u64 (0) else if zq < 4 then .int .i64 (0) else .int .u64 (0)) 0 1 (fun _ => .int .u8 (3))) 1 1 (fun _ => .int .u64 (nd))) 3 1 (fun _ => .int .i64 (ow + 1))) 4 1 (fun _ => .int .u64 (1073741824))))) (x_build (vs := [(0, .int .u8 (3)), (1, .int .u64 (nd)), (3, .int .i64 (ow + 1)), (4, .int .u64 (1073741824))]) (places := #[(0, 1), (1, 1), (2, 1), (3, 1), (4, 1), (5, 1)]) (m := 6) (x := fun zq => if zq < 1 then .int .u8 (0) else if zq < 2 then .int .u64 (0) else if zq < 4 then .int .i64 (0) else .int .u64 (0)) rfl rfl Try.underlying116 (by kernel_rfl) (by kernel_rfl) (by rw [Fx.fill_step (off := 0) (s := 1) (y := fun _ => .int .u8 (3)) (by kernel_rfl) (Fx.cells_one (by rfl)) (by rfl)]; rw [Fx.fill_step (off := 1) (s := 1) (y := fun _ => .int .u64 (nd)) (by kernel_rfl) (Fx.cells_one (by rfl)) (by rfl)]; rw [Fx.fill_step (off := 3) (s := 1) (y := fun _ => .int .i64 (ow + 1)) (by kernel_rfl) (Fx.cells_one (by rfl)) (by rfl)]; rw [Fx.fill_step (off := 4) (s := 1) (y := fun _ => .int .u64 (1073741824)) (by kernel_rfl) (Fx.cells_one (by rfl)) (by rfl)]; rfl)) (Fx.L.call (by rfl) (Fx.r_call (args := [.pointer (some ⟨p0, 0, none⟩), .int .i64 ((a : Int) + 1), .agg (Fx.varr 6 (Fx.ovr (Fx.ovr (Fx.ovr (Fx.ovr (fun zq => if zq < 1 then .int .u8 (0) else if zq < 2 then .int .u64 (0) else if zq < 4 then .int .i64 (0) else .int .u64 (0)) 0 1 (fun _ => .int .u8 (3))) 1 1 (fun _ => .int .u64 (nd))) 3 1 (fun _ => .int .i64 (ow + 1))) 4 1 (fun _ => .int .u64 (1073741824))))]) rfl rfl Try.func58 rfl rfl) rfl ((k_evTake m0 w.heap.size p0 T8 nd _ a (ow + 1) _ m18 ha hI0 (by omega) (fun j hj => by rcases j with _|_|_|_|_|_|j <;> first | rfl | omega)).mono ?_))))))))))))))))))))))))
    rintro e w9 ⟨he, hb7⟩
    refine ⟨.agg (Fx.varr 14 (evY (takeV m0.core a nd (ow + 1)))), by rw [he], ?_⟩
    clear he
    have s9 := Fx.Stp.of_below hb7
    have m20 := m18.up s9.old
    have m21 := m19.stp s9 (Nat.ne_of_lt (m19.lt))
    have b9 := s9.below b8 b8.size b8.size
    refine Fx.L.call (by rfl) (Fx.r_call (args := [.pointer (some ⟨p0, 0, none⟩), .agg (Fx.varr 14 (evY (takeV m0.core a nd (ow + 1))))]) rfl rfl Try.func57 rfl rfl) rfl ((l_apply m0 w.heap.size p0 T8 (takeV m0.core a nd (ow + 1)) _ m20 (wf_take hI0 (by omega) ha hU.1 (by omega)) hI0.w (by omega)).mono ?_)
    rintro e9 w10 ⟨pq1, mq1, he, _, _, hbq1⟩
    refine ⟨_, he, ?_⟩
    clear he
    have s10 := Fx.Stp.of_below hbq1
    have m22 := m20.up s10.old
    have m23 := m21.stp s10 (Nat.ne_of_lt (m21.lt))
    have b10 := s10.below b9 b9.size b9.size
    refine Fx.L.v (.tuple #[.pointer (some ⟨pq1, 0, none⟩), .int .i64 (applyE m0.core (takeV m0.core a nd (ow + 1)))]) (x_move rfl rfl) (Fx.L.v (.pointer (some ⟨pq1, 0, none⟩)) (Fx.x_extract rfl rfl rfl) (Fx.L.v (.int .i64 (applyE m0.core (takeV m0.core a nd (ow + 1)))) (Fx.x_extract rfl rfl rfl) (Fx.L.v (.pointer (some ⟨pq1, 0, none⟩)) (x_assign rfl rfl) (Fx.L.v (.int .i64 (applyE m0.core (takeV m0.core a nd (ow + 1)))) (x_assign rfl rfl) (Fx.L.nil (Fx.seqN (Fx.W.seq (Fx.W.seq ?_))))))))
    have hE1 := (take_own hI0 (by omega) ha hlc hf (y := ow + 1) (by omega) (by omega)).2 (by rw [← eow]; omega)
    refine Fx.W.list (Fx.L.v (.int .i64 (applyE m0.core (takeV m0.core a nd (ow + 1)))) (x_move rfl rfl) (Fx.L.v (.bool false) (Fx.x_neqF rfl rfl rfl hE1) (Fx.L.nil (Fx.seqN (Fx.W.cond (b := false) rfl (fun h => nomatch h) (fun _ => Fx.W.skip (Fx.seqN (Fx.W.seqJ (fun f w_ => f 4 = .int .u16 ((xx : Int)) ∧ f 18 = .int .u64 (1073741824) ∧ f 11 = .pointer (some ⟨p0, 0, none⟩) ∧ f 13 = .int .u64 (nd) ∧ f 15 = .int .i64 ((a : Int) + 1) ∧ f 16 = .int .i64 (al) ∧ f 17 = .int .i64 (ow) ∧ LdO w_ w.heap.size p0 m0 ∧ Fx.Blk w_ p0 27 (ldY m0) 71 ∧ Below w.heap.size w w_) ?_ ?_))))))))
    ·refine Fx.W.seq (Fx.W.list (Fx.L.v (.int .i64 (ow)) (x_move rfl (rfl.trans (congrArg (Value.int .i64) eow.symm))) (Fx.L.v (.bool (decide (0 < ow))) (Fx.x_gtr rfl rfl rfl) (Fx.L.nil (Fx.seqN (Fx.W.cond (b := decide (0 < ow)) rfl (fun c109 => ?_) (fun c109 => ?_)))))))
     ·have c109 := of_decide_eq_true c109
      refine Fx.W.seq (Fx.W.list (Fx.L.v (.pointer (some ⟨p0, 0, none⟩)) (x_move rfl rfl) (Fx.L.v (.pointer (some ⟨p0, 0, none⟩)) (x_move rfl rfl) (Fx.L.v (.int .i64 ((a : Int) + 1)) (x_move rfl (rfl.trans (congrArg (Value.int .i64) eqa))) (Fx.L.v (.int .u64 (nd)) (x_move rfl (rfl.trans (congrArg (Value.int .u64) end9.symm))) (Fx.L.v (.int .i64 (ow)) (x_move rfl (rfl.trans (congrArg (Value.int .i64) eow.symm))) (Fx.L.v (.int .u64 (1073741824)) (x_move rfl rfl) (Fx.L.v (.agg (Fx.varr 6 (Fx.ovr (Fx.ovr (Fx.ovr (Fx.ovr (fun zq => if zq < 1 then .int .u8 (0) else if zq < 2 then .int .u64 (0) else if zq < 4 then .int .i64 (0) else .int .u64 (0)) 0 1 (fun _ => .int .u8 (3))) 1 1 (fun _ => .int .u64 (nd))) 3 1 (fun _ => .int .i64 (ow))) 4 1 (fun _ => .int .u64 (1073741824))))) (x_build (vs := [(0, .int .u8 (3)), (1, .int .u64 (nd)), (3, .int .i64 (ow)), (4, .int .u64 (1073741824))]) (places := #[(0, 1), (1, 1), (2, 1), (3, 1), (4, 1), (5, 1)]) (m := 6) (x := fun zq => if zq < 1 then .int .u8 (0) else if zq < 2 then .int .u64 (0) else if zq < 4 then .int .i64 (0) else .int .u64 (0)) rfl rfl Try.underlying116 (by kernel_rfl) (by kernel_rfl) (by rw [Fx.fill_step (off := 0) (s := 1) (y := fun _ => .int .u8 (3)) (by kernel_rfl) (Fx.cells_one (by rfl)) (by rfl)]; rw [Fx.fill_step (off := 1) (s := 1) (y := fun _ => .int .u64 (nd)) (by kernel_rfl) (Fx.cells_one (by rfl)) (by rfl)]; rw [Fx.fill_step (off := 3) (s := 1) (y := fun _ => .int .i64 (ow)) (by kernel_rfl) (Fx.cells_one (by rfl)) (by rfl)]; rw [Fx.fill_step (off := 4) (s := 1) (y := fun _ => .int .u64 (1073741824)) (by kernel_rfl) (Fx.cells_one (by rfl)) (by rfl)]; rfl)) (Fx.L.call (by rfl) (Fx.r_call (args := [.pointer (some ⟨p0, 0, none⟩), .int .i64 ((a : Int) + 1), .agg (Fx.varr 6 (Fx.ovr (Fx.ovr (Fx.ovr (Fx.ovr (fun zq => if zq < 1 then .int .u8 (0) else if zq < 2 then .int .u64 (0) else if zq < 4 then .int .i64 (0) else .int .u64 (0)) 0 1 (fun _ => .int .u8 (3))) 1 1 (fun _ => .int .u64 (nd))) 3 1 (fun _ => .int .i64 (ow))) 4 1 (fun _ => .int .u64 (1073741824))))]) rfl rfl Try.func58 rfl rfl) rfl ((k_evTake m0 w.heap.size p0 T8 nd _ a ow _ m22 ha hI0 (by omega) (fun j hj => by rcases j with _|_|_|_|_|_|j <;> first | rfl | omega)).mono ?_))))))))))
      rintro e w11 ⟨he, hb8⟩
      refine ⟨.agg (Fx.varr 14 (evY (takeV m0.core a nd ow))), by rw [he], ?_⟩
      clear he
      have s11 := Fx.Stp.of_below hb8
      have m24 := m22.up s11.old
      have m25 := m23.stp s11 (Nat.ne_of_lt (m23.lt))
      have b11 := s11.below b10 b10.size b10.size
      refine Fx.L.call (by rfl) (Fx.r_call (args := [.pointer (some ⟨p0, 0, none⟩), .agg (Fx.varr 14 (evY (takeV m0.core a nd ow)))]) rfl rfl Try.func57 rfl rfl) rfl ((l_apply m0 w.heap.size p0 T8 (takeV m0.core a nd ow) _ m24 (wf_take hI0 (by omega) ha hU.1 (by omega)) hI0.w (by omega)).mono ?_)
      rintro e9 w12 ⟨pq2, mq2, he, _, _, hbq2⟩
      refine ⟨_, he, ?_⟩
      clear he
      have s12 := Fx.Stp.of_below hbq2
      have m26 := m24.up s12.old
      have m27 := m25.stp s12 (Nat.ne_of_lt (m25.lt))
      have b12 := s12.below b11 b11.size b11.size
      refine Fx.L.v (.tuple #[.pointer (some ⟨pq2, 0, none⟩), .int .i64 (applyE m0.core (takeV m0.core a nd ow))]) (x_move rfl rfl) (Fx.L.v (.pointer (some ⟨pq2, 0, none⟩)) (Fx.x_extract rfl rfl rfl) (Fx.L.v (.int .i64 (applyE m0.core (takeV m0.core a nd ow))) (Fx.x_extract rfl rfl rfl) (Fx.L.v (.int .i64 (applyE m0.core (takeV m0.core a nd ow))) (x_assign rfl rfl) (Fx.L.nil (Fx.seqN (Fx.W.seq ?_))))))
      have hE2 := (take_own hI0 (by omega) ha hlc hf (y := ow) (by omega) (by omega)).1 (by rw [← eow]; omega)
      refine Fx.W.list (Fx.L.v (.int .i64 (applyE m0.core (takeV m0.core a nd ow))) (x_move rfl rfl) (Fx.L.v (.bool false) (Fx.x_neqF rfl rfl rfl hE2) (Fx.L.nil (Fx.seqN (Fx.W.cond (b := false) rfl (fun h => nomatch h) (fun _ => Fx.W.skip ?_))))))
      exact Fx.jnN ⟨(by first | rfl | exact congrArg (Value.int .u16) (by omega)), (by first | rfl | exact congrArg (Value.int .u64) (by omega)), (by rfl), ((rfl.trans (congrArg (Value.int .u64) end9.symm)).trans (by first | rfl | exact congrArg (Value.int .u64) (by omega))), ((rfl.trans (congrArg (Value.int .i64) eqa)).trans (by first | rfl | exact congrArg (Value.int .i64) (by omega))), ((rfl.trans (congrArg (Value.int .i64) eal.symm)).trans (by first | rfl | exact congrArg (Value.int .i64) (by omega))), ((rfl.trans (congrArg (Value.int .i64) eow.symm)).trans (by first | rfl | exact congrArg (Value.int .i64) (by omega))), m26, m27, b12⟩
     ·have c109 := of_decide_eq_false c109
      refine Fx.W.skip ?_
      exact Fx.jnN ⟨(by first | rfl | exact congrArg (Value.int .u16) (by omega)), (by first | rfl | exact congrArg (Value.int .u64) (by omega)), (by rfl), ((rfl.trans (congrArg (Value.int .u64) end9.symm)).trans (by first | rfl | exact congrArg (Value.int .u64) (by omega))), ((rfl.trans (congrArg (Value.int .i64) eqa)).trans (by first | rfl | exact congrArg (Value.int .i64) (by omega))), ((rfl.trans (congrArg (Value.int .i64) eal.symm)).trans (by first | rfl | exact congrArg (Value.int .i64) (by omega))), ((rfl.trans (congrArg (Value.int .i64) eow.symm)).trans (by first | rfl | exact congrArg (Value.int .i64) (by omega))), m22, m23, b10⟩
    ·rintro f1 w13 ⟨h1, h2, h3, h4, h5, h6, h7, m28, m29, b13⟩
     refine Fx.W.seq (Fx.W.list (Fx.L.v (.int .u16 ((xx : Int))) (x_move rfl h1) (Fx.L.v (.int .i64 ((xx : Int))) (x_conv rfl rfl (by kernel_rfl) Try.underlying2 (Fx.i64e (by omega) rfl)) (Fx.L.v (.int .i64 ((xx : Int) + 1)) (Fx.x_add rfl rfl rfl (Fx.i64e (by omega) (by omega))) (Fx.L.v (.int .i64 ((xx : Int) + 1)) (x_assign rfl rfl) (Fx.L.nil (Fx.seqN (Fx.W.seq ?_))))))))
     obtain ⟨y, ey⟩ : ∃ q : Int, q = 1 + (xx : Int) := ⟨_, rfl⟩
     have hy9 : (xx : Int) + 1 = y := (by omega)
     have hy : 1 ≤ y ∧ y ≤ 65536 := by omega
     refine Fx.W.list (Fx.L.v (.pointer (some ⟨p0, 0, none⟩)) (x_move rfl h3) (Fx.L.v (.pointer (some ⟨p0, 0, none⟩)) (x_nil rfl rfl) (Fx.L.v (.pointer (some ⟨p0, 0, none⟩)) (x_field rfl rfl Try.underlying71 rfl (s := 20) (by kernel_rfl) rfl rfl) (Fx.L.v (.agg (Fx.varr 20 (fun j => (ldY m0) (0 + j)))) (x_loadA (x := ldY m0) (y := fun j => (ldY m0) (0 + j)) rfl rfl (by kernel_rfl) (by kernel_rfl) m29.cel (i := 0) (by omega) (by omega) (fun _ _ => rfl)) (Fx.L.v (.int .i64 ((a : Int) + 1)) (x_move rfl h5) (Fx.L.v (.int .u64 (nd)) (x_move rfl h4) (Fx.L.v (.int .i64 (y)) (x_move rfl (rfl.trans (congrArg (Value.int .i64) hy9))) (Fx.L.call (by rfl) (Fx.r_call (args := [.agg (Fx.varr 20 (fun j => (ldY m0) (0 + j))), .int .i64 ((a : Int) + 1), .int .u64 (nd), .int .i64 (y)]) rfl rfl Try.func59 rfl rfl) rfl ((k_gifts m0 w.heap.size p0 T8 nd _ nl a y m28 hI0 ha hnl hli hf hy).mono ?_)))))))))
     rintro e9 w14 ⟨hor, hbg⟩
     rcases hor with ⟨vg, ng, he, hokA, hng, hOg⟩ | ⟨he, qb, hqb, hbad⟩
     ·obtain ⟨ag, cg, rfl⟩ := hOg.val
      refine ⟨_, he, ?_⟩
      clear he
      have s13 := Fx.Stp.of_below hbg
      have m30 := m28.up s13.old
      have b14 := s13.below b13 b13.size b13.size
      have hya : y ≤ al := by rw [eal]; exact (all_ok hI0.toInv0 hnl ha hla hf hy).1 hokA
      refine Fx.L.v (.tuple #[.slice ag (ng) (cg), .int .i64 (0)]) (x_move rfl rfl) (Fx.L.v (.slice ag (ng) (cg)) (Fx.x_extract rfl rfl rfl) (Fx.L.v (.int .i64 (0)) (Fx.x_extract rfl rfl rfl) (Fx.L.v (.slice ag (ng) (cg)) (x_assign rfl rfl) (Fx.L.v (.int .i64 (0)) (x_assign rfl rfl) (Fx.L.nil (Fx.seqN (Fx.W.seq (Fx.W.seq (Fx.W.list (Fx.L.v (.int .i64 (0)) (x_move rfl rfl) (Fx.L.v (.bool true) (x_eqlT rfl rfl rfl rfl) (Fx.L.v (.int .i64 (y)) (x_move rfl (rfl.trans (congrArg (Value.int .i64) hy9))) (Fx.L.v (.int .i64 (al)) (x_move rfl h6) (Fx.L.v (.bool true) (Fx.x_leqT rfl rfl rfl hya) (Fx.L.v (.bool false) (Fx.x_neqB rfl rfl rfl (by kernel_rfl) rfl) (Fx.L.nil (Fx.seqN (Fx.W.cond (b := false) rfl (fun h => nomatch h) (fun _ => Fx.W.skip (Fx.seqN (Fx.W.seq (Fx.W.seq (Fx.W.list (Fx.L.v (.int .i64 (0)) (x_move rfl rfl) (Fx.L.v (.bool false) (Fx.x_neqF rfl rfl rfl rfl) (Fx.L.nil (Fx.seqN (Fx.W.cond (b := false) rfl (fun h => nomatch h) (fun _ => Fx.W.skip (Fx.seqN (Fx.W.seq (Fx.W.seq ?_))))))))))))))))))))))))))))))))
      have hno9 := none_own hnl ha hf hy hokA
      rw [← hng, ← eow] at hno9
      refine Fx.W.list (Fx.L.v (.slice ag (ng) (cg)) (x_move rfl rfl) (Fx.L.v (.int .i64 ((ng : Int))) (x_len rfl rfl rfl (by kernel_rfl)) (Fx.L.v (.bool (decide ((ng : Int) = 0))) (Fx.x_eql rfl rfl rfl) (Fx.L.v (.int .i64 (y)) (x_move rfl (rfl.trans (congrArg (Value.int .i64) hy9))) (Fx.L.v (.int .i64 (ow)) (x_move rfl h7) (Fx.L.v (.bool (decide (y ≤ ow))) (Fx.x_leq rfl rfl rfl) (Fx.L.v (.bool false) (Fx.x_neqB rfl rfl rfl (by kernel_rfl) (by rw [show decide ((ng : Int) = 0) = decide (y ≤ ow) from decide_eq_decide.2 ⟨fun h => hno9.1 (by omega), fun h => by have := hno9.2 h; omega⟩]; simp)) (Fx.L.nil (Fx.seqN (Fx.W.cond (b := false) rfl (fun h => nomatch h) (fun _ => Fx.W.skip (Fx.seqN (Fx.W.seq (Fx.W.seq (Fx.W.list (Fx.L.v (.int .i64 (0)) (x_assign rfl rfl) (Fx.L.nil (Fx.seqN (Fx.W.block ?_)))))))))))))))))))
      have hng0 : ng ≤ 200 := by rw [hng]; exact gs_len hnl ha hI0 hf
      have hR0 : RmI m0.s nl y a m0.core m0.core nd 0 := RmI.init
      refine Fx.W.loop (fun f w_ => ∃ k : Nat, ∃ p2 : Nat, ∃ m2 : LdM, k ≤ ng ∧ Inv m2.core (T8 + k) ∧ RmI m0.s nl y a m0.core m2.core nd k ∧ f 11 = .pointer (some ⟨p2, 0, none⟩) ∧ f 13 = .int .u64 (nd) ∧ f 15 = .int .i64 ((a : Int) + 1) ∧ f 18 = .int .u64 (1073741824) ∧ f 21 = .int .i64 (y) ∧ f 22 = .slice ag (ng) (cg) ∧ f 24 = .int .i64 ((k : Int)) ∧ Fx.Own w_ w13.heap.size 122 3 (.slice ag (ng) (cg)) ng (gfX (gsP m0.s nl y a m0.core nd (pathN m0.core nd))) ∧ LdO w_ w.heap.size p2 m2 ∧ Below w.heap.size w w_) (fun f _ => (ng - (intOf (f 24)).toNat)) ⟨0, p0, m0, by omega, hI0, hR0, h3, (h4.trans (by first | rfl | exact congrArg (Value.int .u64) (by omega))), (h5.trans (by first | rfl | exact congrArg (Value.int .i64) (by omega))), (h2.trans (by first | rfl | exact congrArg (Value.int .u64) (by omega))), ((rfl.trans (congrArg (Value.int .i64) hy9)).trans (by first | rfl | exact congrArg (Value.int .i64) (by omega))), (by rfl), (by first | rfl | exact congrArg (Value.int .i64) (by omega)), hOg, m30, b14⟩ ?_
      rintro f2 w15 ⟨k, p2, m2, hk, hI2, hR, h8, h9, h10, h11, h12, h13, h14, m32, m33, b15⟩
      refine Fx.W.seq (Fx.W.seq (Fx.W.list (Fx.L.v (.int .i64 ((k : Int))) (x_move rfl h14) (Fx.L.v (.slice ag (ng) (cg)) (x_move rfl h13) (Fx.L.v (.int .i64 ((ng : Int))) (x_len rfl rfl rfl (by kernel_rfl)) ?_)))))
      by_cases c161 : (k : Int) < (ng : Int)
      ·refine Fx.L.v (.bool true) (Fx.x_lssT rfl rfl rfl c161) (Fx.L.nil (Fx.seqN (Fx.W.cond (b := true) rfl (fun _ => Fx.W.skip (Fx.seqN (Fx.W.seq (Fx.W.block (Fx.W.seq ?_))))) (fun h => nomatch h))))
       have hkl : k < (gsP m0.s nl y a m0.core nd (pathN m0.core nd)).length := by rw [← hng]; omega
       obtain ⟨b, hb, hne9, efr, hfb, ham1, ham2, hEm, hRn⟩ := hR.step hkl hI0 hI2 (by omega) hnl ha hla ⟨rfl, rfl⟩ hy hf
       -- region 32 draws
       refine Fx.W.reord [0, 1, 2, 3, 4, 5, 6, 7, 8, 10, 9, 11, 12] [0, 0, 0, 0, 0, 0, 0, 0, 0, 4, 0, 3, 0] Fx.Mk Fx.Mk.refl Fx.Mk.trans (certs := [(11, 9, [9]), (12, 11, [11])]) (by kernel_rfl) (by kernel_rfl) (by kernel_rfl) (by kernel_rfl) (by kernel_rfl) fun wt1 hbwt1 hzwt1 => ?_
       have s14 : Fx.Stp w15.heap.size w15 wt1 := Fx.Stp.of_below hbwt1
       have m34 := m32.stp s14 (m32.notNew (Nat.le_refl _))
       have m35 := m33.up s14.old
       have b16 := s14.below b15 b15.size b15.size
       refine Fx.R.p (.slice ag (ng) (cg)) (fun v1 => x_move rfl h13) (Fx.R.p (.int .i64 ((k : Int))) (fun v1 => x_move rfl h14) (Fx.R.p (.int .i64 ((k : Int))) (fun v1 => x_move rfl h14) (Fx.R.p (.int .i64 ((k : Int) + 1)) (fun v1 => Fx.x_add rfl rfl rfl (Fx.i64e (by omega) (by omega))) ?_)))
       obtain ⟨gq2, eq2⟩ := m34.addr (by omega)
       have m36 : Fx.Own wt1 w13.heap.size 122 3 (.slice (some ⟨gq2, 0, none⟩) ng cg) ng (gfX (gsP m0.s nl y a m0.core nd (pathN m0.core nd))) := m34.congV (congrArg (fun q => Value.slice q ng cg) eq2)
       have hlc9 := m36.lecap
       refine Fx.R.p (.slice (some ⟨gq2, 3 * k, none⟩) (1) (cg - k)) (fun v1 => Fx.x_sliceLH (j := k) (h := 3 * k) (s := 3) rfl (rfl.trans (congrArg (fun q => Value.slice q (ng) (cg)) eq2)) rfl rfl Try.underlying117 (by kernel_rfl) (by omega) (by omega)) (Fx.R.p (.slice ag (ng) (cg)) (fun v1 => x_move rfl h13) (Fx.R.p (.int .i64 ((k : Int))) (fun v1 => x_move rfl h14) (Fx.R.p (.pointer (some ⟨gq2, 3 * k, none⟩)) (fun v1 => x_indexS rfl (rfl.trans (congrArg (fun q => Value.slice q (ng) (cg)) eq2)) rfl Try.underlying117 (s := 3) (by kernel_rfl) (by omega) (by omega) (by omega)) (Fx.R.p (.pointer (some ⟨gq2, 3 * k, none⟩)) (fun v1 => x_field rfl rfl Try.underlying122 rfl (s := 1) (by kernel_rfl) rfl rfl) (Fx.R.p (.int .i64 ((a : Int) + 1)) (fun v1 => x_move rfl h10) (Fx.R.s (.int .i64 ((b : Int) + 1)) (x_load1 (x := gfX (gsP m0.s nl y a m0.core nd (pathN m0.core nd))) rfl rfl (by kernel_rfl) m36.cel (i := 3 * k) (by omega) (by omega) (Fx.flat_cell (k := k) (j := 0) (by omega) (by omega) (congrArg (Value.int .i64) efr))) ?_))))))
       refine Fx.R.eff (by rfl) ?_
       refine Fx.L.call (by rfl) (Fx.r_call (args := [.slice (some ⟨gq2, 3 * k, none⟩) (1) (cg - k), .int .i64 ((b : Int) + 1), .int .i64 ((a : Int) + 1)]) rfl rfl Try.func60 rfl rfl) rfl ((ro_asks [((gsP m0.s nl y a m0.core nd (pathN m0.core nd)).getD k gf0)] (some ⟨gq2, 3 * k, none⟩) 1 (cg - k) ((b : Int) + 1) ((a : Int) + 1) _ (fun _ => ⟨gq2, 3 * k, rfl, gf_cel (k := k) m36.cel (by omega)⟩) (by decide)).mono ?_)
       rintro e9 w16 ⟨va, nk, he, hna9, hOa, hba9⟩
       rw [ak_one efr] at hna9 hOa
       obtain rfl : nk = 1 := hna9
       obtain ⟨aa, cca, rfl⟩ := hOa.val
       refine ⟨_, he, ?_⟩
       clear he
       have s15 := Fx.Stp.of_below hba9
       have m37 := m35.up s15.old
       have m38 := m36.stpB s15 (Nat.ne_of_lt (m36.lt))
       have b17 := s15.below b16 b16.size b16.size
       refine Fx.L.nil (Fx.R.p (.slice aa (1) (cca)) (fun v1 => x_assign rfl rfl) (Fx.R.nil (Fx.seqN (Fx.W.seq (Fx.W.seq (Fx.W.list (Fx.L.v (.slice aa (1) (cca)) (x_move rfl rfl) ?_)))))))
       refine Fx.L.v (.int .i64 (1)) (x_len rfl rfl rfl (by kernel_rfl)) (Fx.L.v (.bool false) (Fx.x_neqF rfl rfl rfl rfl) (Fx.L.v (.bool false) (x_move rfl rfl) (Fx.L.v (.slice ag (ng) (cg)) (x_move rfl h13) (Fx.L.v (.int .i64 ((k : Int))) (x_move rfl h14) (Fx.L.v (.pointer (some ⟨gq2, 3 * k, none⟩)) (x_indexS rfl (rfl.trans (congrArg (fun q => Value.slice q (ng) (cg)) eq2)) rfl Try.underlying117 (s := 3) (by kernel_rfl) (by omega) (by omega) (by omega)) (Fx.L.v (.pointer (some ⟨gq2, 3 * k, none⟩)) (x_field rfl rfl Try.underlying122 rfl (s := 1) (by kernel_rfl) rfl rfl) (Fx.L.v (.int .i64 ((b : Int) + 1)) (x_load1 (x := gfX (gsP m0.s nl y a m0.core nd (pathN m0.core nd))) rfl rfl (by kernel_rfl) m38.cel (i := 3 * k) (by omega) (by omega) (Fx.flat_cell (k := k) (j := 0) (by omega) (by omega) (congrArg (Value.int .i64) efr))) (Fx.L.v (.bool false) (Fx.x_lssF rfl rfl rfl (by omega)) (Fx.L.v (.bool false) (x_pickF rfl rfl rfl) (Fx.L.v (.bool false) (x_move rfl rfl) (Fx.L.v (.slice ag (ng) (cg)) (x_move rfl h13) (Fx.L.v (.int .i64 ((k : Int))) (x_move rfl h14) (Fx.L.v (.pointer (some ⟨gq2, 3 * k, none⟩)) (x_indexS rfl (rfl.trans (congrArg (fun q => Value.slice q (ng) (cg)) eq2)) rfl Try.underlying117 (s := 3) (by kernel_rfl) (by omega) (by omega) (by omega)) (Fx.L.v (.pointer (some ⟨gq2, 3 * k, none⟩)) (x_field rfl rfl Try.underlying122 rfl (s := 1) (by kernel_rfl) rfl rfl) (Fx.L.v (.int .i64 ((b : Int) + 1)) (x_load1 (x := gfX (gsP m0.s nl y a m0.core nd (pathN m0.core nd))) rfl rfl (by kernel_rfl) m38.cel (i := 3 * k) (by omega) (by omega) (Fx.flat_cell (k := k) (j := 0) (by omega) (by omega) (congrArg (Value.int .i64) efr))) (Fx.L.v (.bool false) (x_gtrF rfl rfl rfl (by omega)) (Fx.L.v (.bool false) (x_pickF rfl rfl rfl) (Fx.L.v (.bool false) (x_move rfl rfl) (Fx.L.v (.slice ag (ng) (cg)) (x_move rfl h13) (Fx.L.v (.int .i64 ((k : Int))) (x_move rfl h14) (Fx.L.v (.pointer (some ⟨gq2, 3 * k, none⟩)) (x_indexS rfl (rfl.trans (congrArg (fun q => Value.slice q (ng) (cg)) eq2)) rfl Try.underlying117 (s := 3) (by kernel_rfl) (by omega) (by omega) (by omega)) (Fx.L.v (.pointer (some ⟨gq2, 3 * k, none⟩)) (x_field rfl rfl Try.underlying122 rfl (s := 1) (by kernel_rfl) rfl rfl) (Fx.L.v (.int .i64 ((b : Int) + 1)) (x_load1 (x := gfX (gsP m0.s nl y a m0.core nd (pathN m0.core nd))) rfl rfl (by kernel_rfl) m38.cel (i := 3 * k) (by omega) (by omega) (Fx.flat_cell (k := k) (j := 0) (by omega) (by omega) (congrArg (Value.int .i64) efr))) (Fx.L.v (.int .i64 ((a : Int) + 1)) (x_move rfl h10) ?_))))))))))))))))))))))))
       refine Fx.L.v (.bool false) (x_eqlF rfl rfl rfl (by omega)) (Fx.L.v (.bool false) (x_pickF rfl rfl rfl) (Fx.L.nil (Fx.seqN (Fx.W.cond (b := false) rfl (fun h => nomatch h) (fun _ => Fx.W.skip (Fx.seqN (Fx.W.seq ?_)))))))
       -- region 35 draws
       refine Fx.W.reord [0, 1, 2, 3, 4, 5, 7, 8, 6, 9, 10, 11, 12, 13, 14, 15, 16] [0, 0, 0, 0, 0, 0, 4, 0, 0, 4, 3, 3, 0, 0, 0, 0, 0] Fx.Mk Fx.Mk.refl Fx.Mk.trans (certs := [(10, 6, [6]), (11, 6, [10, 6]), (10, 9, [9]), (11, 9, [10, 9]), (11, 10, [10]), (12, 10, [11, 10]), (13, 10, [12, 11, 10]), (14, 10, [12, 11, 10]), (15, 10, [10]), (16, 10, [10]), (12, 11, [11]), (13, 11, [12, 11]), (14, 11, [12, 11]), (15, 11, [11]), (16, 11, [11])]) (by kernel_rfl) (by kernel_rfl) (by kernel_rfl) (by kernel_rfl) (by kernel_rfl) fun wt2 hbwt2 hzwt2 => ?_
       have s16 : Fx.Stp w16.heap.size w16 wt2 := Fx.Stp.of_below hbwt2
       have m39 := m37.up s16.old
       have m40 := m38.stpB s16 (Nat.ne_of_lt (m38.lt))
       have m41 := hOa.stp s16 (hOa.notNew (Nat.le_refl _))
       have b18 := s16.below b17 b17.size b17.size
       refine Fx.R.p (.pointer (some ⟨p2, 0, none⟩)) (fun v1 => x_move rfl h8) (Fx.R.p (.pointer (some ⟨p2, 0, none⟩)) (fun v1 => x_move rfl h8) (Fx.R.p (.slice ag (ng) (cg)) (fun v1 => x_move rfl h13) (Fx.R.p (.int .i64 ((k : Int))) (fun v1 => x_move rfl h14) (Fx.R.p (.pointer (some ⟨gq2, 3 * k, none⟩)) (fun v1 => x_indexS rfl (rfl.trans (congrArg (fun q => Value.slice q (ng) (cg)) eq2)) rfl Try.underlying117 (s := 3) (by kernel_rfl) (by omega) (by omega) (by omega)) (Fx.R.p (.pointer (some ⟨gq2, 3 * k, none⟩)) (fun v1 => x_field rfl rfl Try.underlying122 rfl (s := 1) (by kernel_rfl) rfl rfl) (Fx.R.p (.slice aa (1) (cca)) (fun v1 => x_move rfl rfl) ?_))))))
       obtain ⟨gq3, eq3⟩ := m41.addr (by omega)
       have m42 : Fx.Own wt2 wt1.heap.size 116 6 (.slice (some ⟨gq3, 0, none⟩) 1 cca) 1 (asX [(⟨5, ((gsP m0.s nl y a m0.core nd (pathN m0.core nd)).getD k gf0).node, (a : Int) + 1, ((gsP m0.s nl y a m0.core nd (pathN m0.core nd)).getD k gf0).amt, 0, 0⟩ : AskM)]) := m41.congV (congrArg (fun q => Value.slice q 1 cca) eq3)
       refine Fx.R.p (.pointer (some ⟨gq3, 0, none⟩)) (fun v1 => x_indexS rfl (rfl.trans (congrArg (fun q => Value.slice q (1) (cca)) eq3)) rfl Try.underlying76 (s := 6) (by kernel_rfl) (by omega) (by omega) (by omega)) (Fx.R.s (.int .i64 ((b : Int) + 1)) (x_load1 (x := gfX (gsP m0.s nl y a m0.core nd (pathN m0.core nd))) rfl rfl (by kernel_rfl) m40.cel (i := 3 * k) (by omega) (by omega) (Fx.flat_cell (k := k) (j := 0) (by omega) (by omega) (congrArg (Value.int .i64) efr))) ?_)
       refine Fx.R.s (.agg (Fx.varr 6 (askY ([(⟨5, ((gsP m0.s nl y a m0.core nd (pathN m0.core nd)).getD k gf0).node, (a : Int) + 1, ((gsP m0.s nl y a m0.core nd (pathN m0.core nd)).getD k gf0).amt, 0, 0⟩ : AskM)].getD 0 ask0)))) (x_loadA (x := asX [(⟨5, ((gsP m0.s nl y a m0.core nd (pathN m0.core nd)).getD k gf0).node, (a : Int) + 1, ((gsP m0.s nl y a m0.core nd (pathN m0.core nd)).getD k gf0).amt, 0, 0⟩ : AskM)]) (y := askY ([(⟨5, ((gsP m0.s nl y a m0.core nd (pathN m0.core nd)).getD k gf0).node, (a : Int) + 1, ((gsP m0.s nl y a m0.core nd (pathN m0.core nd)).getD k gf0).amt, 0, 0⟩ : AskM)].getD 0 ask0)) rfl rfl (by kernel_rfl) (by kernel_rfl) m42.cel (i := 0) (by omega) (by omega) (fun jq hjq => Fx.flat_at (k := 0) (by omega) hjq)) ?_
       refine Fx.R.eff (by rfl) ?_
       refine Fx.L.call (by rfl) (Fx.r_call (args := [.pointer (some ⟨p2, 0, none⟩), .int .i64 ((b : Int) + 1), .agg (Fx.varr 6 (askY ([(⟨5, ((gsP m0.s nl y a m0.core nd (pathN m0.core nd)).getD k gf0).node, (a : Int) + 1, ((gsP m0.s nl y a m0.core nd (pathN m0.core nd)).getD k gf0).amt, 0, 0⟩ : AskM)].getD 0 ask0)))]) rfl rfl Try.func58 rfl rfl) rfl ((k_evMove m2 w.heap.size p2 (T8 + k) ((gsP m0.s nl y a m0.core nd (pathN m0.core nd)).getD k gf0).node _ b a ((gsP m0.s nl y a m0.core nd (pathN m0.core nd)).getD k gf0).amt _ m39 hb hI2 (by omega) (fun _ _ => rfl)).mono ?_)
       rintro e w17 ⟨he, hb9⟩
       refine ⟨.agg (Fx.varr 14 (evY (moveV m2.core b a ((gsP m0.s nl y a m0.core nd (pathN m0.core nd)).getD k gf0).node ((gsP m0.s nl y a m0.core nd (pathN m0.core nd)).getD k gf0).amt))), by rw [he], ?_⟩
       clear he
       have s17 := Fx.Stp.of_below hb9
       have m43 := m39.up s17.old
       have m44 := m40.stpB s17 (Nat.ne_of_lt (m40.lt))
       have m45 := m42.stpB s17 (Nat.ne_of_lt (m42.lt))
       have b19 := s17.below b18 b18.size b18.size
       refine Fx.L.nil (Fx.R.eff (by rfl) (Fx.L.call (by rfl) (Fx.r_call (args := [.pointer (some ⟨p2, 0, none⟩), .agg (Fx.varr 14 (evY (moveV m2.core b a ((gsP m0.s nl y a m0.core nd (pathN m0.core nd)).getD k gf0).node ((gsP m0.s nl y a m0.core nd (pathN m0.core nd)).getD k gf0).amt)))]) rfl rfl Try.func57 rfl rfl) rfl ((l_apply m2 w.heap.size p2 (T8 + k) (moveV m2.core b a ((gsP m0.s nl y a m0.core nd (pathN m0.core nd)).getD k gf0).node ((gsP m0.s nl y a m0.core nd (pathN m0.core nd)).getD k gf0).amt) _ m43 (wf_move hI2 (by omega) ha hb (id_u hI0 hfb).1 (by omega)) hI2.w (by omega)).mono ?_)))
       rintro e9 w18 ⟨p3, m3, he, hc3, hL3, hb3⟩
       refine ⟨_, he, ?_⟩
       clear he
       have s18 := Fx.Stp.of_below hb3
       have m46 := m44.stpB s18 (Nat.ne_of_lt (m44.lt))
       have m47 := m45.stpB s18 (Nat.ne_of_lt (m45.lt))
       have b20 := s18.below b19 b19.size b19.size
       have hI3 : Inv m3.core (T8 + (k + 1)) := by rw [hc3]; exact inv_apply (sm_move ham2) hI2
       have hR3 : RmI m0.s nl y a m0.core m3.core nd (k + 1) := by rw [hc3]; exact hRn
       refine Fx.L.nil (Fx.R.p (.tuple #[.pointer (some ⟨p3, 0, none⟩), .int .i64 (applyE m2.core (moveV m2.core b a ((gsP m0.s nl y a m0.core nd (pathN m0.core nd)).getD k gf0).node ((gsP m0.s nl y a m0.core nd (pathN m0.core nd)).getD k gf0).amt))]) (fun v1 => x_move rfl rfl) (Fx.R.p (.pointer (some ⟨p3, 0, none⟩)) (fun v1 => Fx.x_extract rfl rfl rfl) (Fx.R.p (.int .i64 (applyE m2.core (moveV m2.core b a ((gsP m0.s nl y a m0.core nd (pathN m0.core nd)).getD k gf0).node ((gsP m0.s nl y a m0.core nd (pathN m0.core nd)).getD k gf0).amt))) (fun v1 => Fx.x_extract rfl rfl rfl) (Fx.R.p (.pointer (some ⟨p3, 0, none⟩)) (fun v1 => x_assign rfl rfl) (Fx.R.p (.int .i64 (applyE m2.core (moveV m2.core b a ((gsP m0.s nl y a m0.core nd (pathN m0.core nd)).getD k gf0).node ((gsP m0.s nl y a m0.core nd (pathN m0.core nd)).getD k gf0).amt))) (fun v1 => x_assign rfl rfl) (Fx.R.nil (Fx.seqN (Fx.W.seq (Fx.W.seq (Fx.W.list (Fx.L.v (.int .i64 (applyE m2.core (moveV m2.core b a ((gsP m0.s nl y a m0.core nd (pathN m0.core nd)).getD k gf0).node ((gsP m0.s nl y a m0.core nd (pathN m0.core nd)).getD k gf0).amt))) (x_move rfl rfl) ?_)))))))))))
       refine Fx.L.v (.bool false) (Fx.x_neqF rfl rfl rfl hEm) (Fx.L.nil (Fx.seqN (Fx.W.cond (b := false) rfl (fun h => nomatch h) (fun _ => Fx.W.skip (Fx.seqN (Fx.W.list (Fx.L.v (.pointer (some ⟨p3, 0, none⟩)) (x_move rfl rfl) (Fx.L.v (.pointer (some ⟨p3, 0, none⟩)) (x_assign rfl rfl) (Fx.L.nil (Fx.blkN (Fx.seqN ?_)))))))))))
       have m48 : Fx.Own w18 w13.heap.size 122 3 (.slice ag (ng) (cg)) ng (gfX (gsP m0.s nl y a m0.core nd (pathN m0.core nd))) := m46.congV (congrArg (fun q => Value.slice q ng cg) eq2.symm)
       have m49 : Fx.Own w18 wt1.heap.size 116 6 (.slice aa (1) (cca)) 1 (asX [(⟨5, ((gsP m0.s nl y a m0.core nd (pathN m0.core nd)).getD k gf0).node, (a : Int) + 1, ((gsP m0.s nl y a m0.core nd (pathN m0.core nd)).getD k gf0).amt, 0, 0⟩ : AskM)]) := m47.congV (congrArg (fun q => Value.slice q 1 cca) eq3.symm)
       refine Fx.W.list (Fx.L.v (.int .i64 ((k : Int))) (x_move rfl h14) (Fx.L.v (.int .i64 ((k : Int) + 1)) (Fx.x_add rfl rfl rfl (Fx.i64e (by omega) (by omega))) (Fx.L.v (.int .i64 ((k : Int) + 1)) (x_assign rfl rfl) (Fx.L.nil (Fx.lpN ⟨k + 1, p3, m3, by omega, hI3, hR3, (by rfl), (h9.trans (by first | rfl | exact congrArg (Value.int .u64) (by omega))), (h10.trans (by first | rfl | exact congrArg (Value.int .i64) (by omega))), (h11.trans (by first | rfl | exact congrArg (Value.int .u64) (by omega))), (h12.trans (by first | rfl | exact congrArg (Value.int .i64) (by omega))), h13, (by first | rfl | exact congrArg (Value.int .i64) (by omega)), m48, hL3, b20⟩ ?_)))))
       show (ng - (intOf ((.int .i64 ((k : Int) + 1)))).toNat) < _
       simp only [h14, intOf]; omega
      ·refine Fx.L.v (.bool false) (Fx.x_lssF rfl rfl rfl c161) (Fx.L.nil (Fx.seqN (Fx.W.cond (b := false) rfl (fun h => nomatch h) (fun _ => Fx.W.exit (Fx.seqX (Fx.lpX (Fx.blkX (Fx.seqN (Fx.W.seq ?_)))))))))
       have hkn : k = (gsP m0.s nl y a m0.core nd (pathN m0.core nd)).length := by rw [← hng]; omega
       obtain ⟨hli2, hlc2⟩ := hR.live_m ⟨rfl, rfl⟩ ha hla
       have hf2 := hR.find hf
       obtain ⟨hd1, hd2, hd3⟩ := hR.done hkn hI0.toInv0 hnl ha hla hf hy hokA
       have hE9 : applyE m2.core (takeV m2.core a nd y) = 0 := (take_E hI2 (by omega) ha hlc2 hf2 hy.1 (by omega)).1 hd3
       refine Fx.W.seqJ (fun f w_ => f 246 = .bool false ∧ f 11 = .pointer (some ⟨p2, 0, none⟩) ∧ f 13 = .int .u64 (nd) ∧ f 15 = .int .i64 ((a : Int) + 1) ∧ f 18 = .int .u64 (1073741824) ∧ f 21 = .int .i64 (y) ∧ LdO w_ w.heap.size p2 m2 ∧ Below w.heap.size w w_) ?_ ?_
       ·have hLoc2 := m33.c
        refine Fx.W.list (Fx.L.v (.pointer (some ⟨p2, 0, none⟩)) (x_move rfl h8) (Fx.L.v (.pointer (some ⟨p2, 0, none⟩)) (x_nil rfl rfl) (Fx.L.v (.pointer (some ⟨p2, 0, none⟩)) (x_field rfl rfl Try.underlying71 rfl (s := 20) (by kernel_rfl) rfl rfl) (Fx.L.v (.agg (Fx.varr 20 (fun j => (ldY m2) (0 + j)))) (x_loadA (x := ldY m2) (y := fun j => (ldY m2) (0 + j)) rfl rfl (by kernel_rfl) (by kernel_rfl) hLoc2.cel (i := 0) (by omega) (by omega) (fun _ _ => rfl)) (Fx.L.v (.int .i64 ((a : Int) + 1)) (x_move rfl h10) (Fx.L.v (.int .u64 (nd)) (x_move rfl h9) (Fx.L.call (by rfl) (Fx.r_call (args := [.agg (Fx.varr 20 (fun j => (ldY m2) (0 + j))), .int .i64 ((a : Int) + 1), .int .u64 (nd)]) rfl rfl Try.func56 rfl rfl) rfl ((k_own m2 w.heap.size p2 nd _ a m33 ha hli2).mono ?_))))))))
        rintro e w19 ⟨he, hb10⟩
        refine ⟨.int .i64 (ownC m2.core nd a), by rw [he], ?_⟩
        clear he
        have s19 := Fx.Stp.of_below hb10
        have m51 := m33.up s19.old
        have m52 := hLoc2.stp s19 (Nat.ne_of_lt (hLoc2.lt))
        have b21 := s19.below b15 b15.size b15.size
        refine Fx.L.v (.int .i64 (y)) (x_move rfl h12) (Fx.L.v (.bool false) (Fx.x_lssF rfl rfl rfl (Int.not_lt.2 hd1)) (Fx.L.v (.bool false) (x_move rfl rfl) (Fx.L.v (.slice ag (ng) (cg)) (x_move rfl h13) (Fx.L.v (.int .i64 ((ng : Int))) (x_len rfl rfl rfl (by kernel_rfl)) ?_))))
        by_cases c234 : 0 < (ng : Int)
        ·refine Fx.L.v (.bool true) (Fx.x_gtrT rfl rfl rfl c234) (Fx.L.v (.bool true) (x_move rfl rfl) (Fx.L.v (.pointer (some ⟨p2, 0, none⟩)) (x_move rfl h8) (Fx.L.v (.pointer (some ⟨p2, 0, none⟩)) (x_nil rfl rfl) (Fx.L.v (.pointer (some ⟨p2, 0, none⟩)) (x_field rfl rfl Try.underlying71 rfl (s := 20) (by kernel_rfl) rfl rfl) (Fx.L.v (.agg (Fx.varr 20 (fun j => (ldY m2) (0 + j)))) (x_loadA (x := ldY m2) (y := fun j => (ldY m2) (0 + j)) rfl rfl (by kernel_rfl) (by kernel_rfl) m52.cel (i := 0) (by omega) (by omega) (fun _ _ => rfl)) (Fx.L.v (.int .i64 ((a : Int) + 1)) (x_move rfl h10) (Fx.L.v (.int .u64 (nd)) (x_move rfl h9) (Fx.L.call (by rfl) (Fx.r_call (args := [.agg (Fx.varr 20 (fun j => (ldY m2) (0 + j))), .int .i64 ((a : Int) + 1), .int .u64 (nd)]) rfl rfl Try.func56 rfl rfl) rfl ((k_own m2 w.heap.size p2 nd _ a m51 ha hli2).mono ?_)))))))))
         rintro e w20 ⟨he, hb11⟩
         refine ⟨.int .i64 (ownC m2.core nd a), by rw [he], ?_⟩
         clear he
         have s20 := Fx.Stp.of_below hb11
         have m54 := m51.up s20.old
         have b22 := s20.below b21 b21.size b21.size
         refine Fx.L.v (.int .i64 (y)) (x_move rfl h12) (Fx.L.v (.bool false) (Fx.x_neqF rfl rfl rfl (hd2 (by omega))) (Fx.L.v (.bool false) (x_pickT rfl rfl rfl) (Fx.L.v (.bool false) (x_pickF rfl rfl rfl) (Fx.L.nil ?_))))
         exact Fx.jnN ⟨(by rfl), h8, (h9.trans (by first | rfl | exact congrArg (Value.int .u64) (by omega))), (h10.trans (by first | rfl | exact congrArg (Value.int .i64) (by omega))), (h11.trans (by first | rfl | exact congrArg (Value.int .u64) (by omega))), (h12.trans (by first | rfl | exact congrArg (Value.int .i64) (by omega))), m54, b22⟩
        ·refine Fx.L.v (.bool false) (x_gtrF rfl rfl rfl c234) (Fx.L.v (.bool false) (x_move rfl rfl) (Fx.L.skip (by rfl) rfl (Fx.L.skip (by rfl) rfl (Fx.L.skip (by rfl) rfl (Fx.L.skip (by rfl) rfl (Fx.L.skip (by rfl) rfl (Fx.L.skip (by rfl) rfl (Fx.L.skip (by rfl) rfl (Fx.L.skip (by rfl) rfl (Fx.L.skip (by rfl) rfl (Fx.L.v (.bool false) (x_pickF rfl rfl rfl) (Fx.L.v (.bool false) (x_pickF rfl rfl rfl) (Fx.L.nil ?_)))))))))))))
         exact Fx.jnN ⟨(by rfl), h8, (h9.trans (by first | rfl | exact congrArg (Value.int .u64) (by omega))), (h10.trans (by first | rfl | exact congrArg (Value.int .i64) (by omega))), (h11.trans (by first | rfl | exact congrArg (Value.int .u64) (by omega))), (h12.trans (by first | rfl | exact congrArg (Value.int .i64) (by omega))), m51, b21⟩
       ·rintro f3 w21 ⟨h15, h16, h17, h18, h19, h20, m56, b23⟩
        refine Fx.W.cond (b := false) h15 (fun h => nomatch h) (fun _ => Fx.W.skip (Fx.seqN (Fx.W.seq (Fx.W.list (Fx.L.v (.pointer (some ⟨p2, 0, none⟩)) (x_move rfl h16) (Fx.L.v (.pointer (some ⟨p2, 0, none⟩)) (x_move rfl h16) (Fx.L.v (.int .i64 ((a : Int) + 1)) (x_move rfl h18) (Fx.L.v (.int .u64 (nd)) (x_move rfl h17) (Fx.L.v (.int .i64 (y)) (x_move rfl h20) (Fx.L.v (.int .u64 (1073741824)) (x_move rfl h19) (Fx.L.v (.agg (Fx.varr 6 (Fx.ovr (Fx.ovr (Fx.ovr (Fx.ovr (fun zq => if zq < 1 then .int .u8 (0) else if zq < 2 then .int .u64 (0) else if zq < 4 then .int .i64 (0) else .int .u64 (0)) 0 1 (fun _ => .int .u8 (3))) 1 1 (fun _ => .int .u64 (nd))) 3 1 (fun _ => .int .i64 (y))) 4 1 (fun _ => .int .u64 (1073741824))))) (x_build (vs := [(0, .int .u8 (3)), (1, .int .u64 (nd)), (3, .int .i64 (y)), (4, .int .u64 (1073741824))]) (places := #[(0, 1), (1, 1), (2, 1), (3, 1), (4, 1), (5, 1)]) (m := 6) (x := fun zq => if zq < 1 then .int .u8 (0) else if zq < 2 then .int .u64 (0) else if zq < 4 then .int .i64 (0) else .int .u64 (0)) rfl rfl Try.underlying116 (by kernel_rfl) (by kernel_rfl) (by rw [Fx.fill_step (off := 0) (s := 1) (y := fun _ => .int .u8 (3)) (by kernel_rfl) (Fx.cells_one (by rfl)) (by rfl)]; rw [Fx.fill_step (off := 1) (s := 1) (y := fun _ => .int .u64 (nd)) (by kernel_rfl) (Fx.cells_one (by rfl)) (by rfl)]; rw [Fx.fill_step (off := 3) (s := 1) (y := fun _ => .int .i64 (y)) (by kernel_rfl) (Fx.cells_one (by rfl)) (by rfl)]; rw [Fx.fill_step (off := 4) (s := 1) (y := fun _ => .int .u64 (1073741824)) (by kernel_rfl) (Fx.cells_one (by rfl)) (by rfl)]; rfl)) (Fx.L.call (by rfl) (Fx.r_call (args := [.pointer (some ⟨p2, 0, none⟩), .int .i64 ((a : Int) + 1), .agg (Fx.varr 6 (Fx.ovr (Fx.ovr (Fx.ovr (Fx.ovr (fun zq => if zq < 1 then .int .u8 (0) else if zq < 2 then .int .u64 (0) else if zq < 4 then .int .i64 (0) else .int .u64 (0)) 0 1 (fun _ => .int .u8 (3))) 1 1 (fun _ => .int .u64 (nd))) 3 1 (fun _ => .int .i64 (y))) 4 1 (fun _ => .int .u64 (1073741824))))]) rfl rfl Try.func58 rfl rfl) rfl ((k_evTake m2 w.heap.size p2 (T8 + k) nd _ a y _ m56 ha hI2 (by omega) (fun j hj => by rcases j with _|_|_|_|_|_|j <;> first | rfl | omega)).mono ?_)))))))))))))
        rintro e w22 ⟨he, hb12⟩
        refine ⟨.agg (Fx.varr 14 (evY (takeV m2.core a nd y))), by rw [he], ?_⟩
        clear he
        have s21 := Fx.Stp.of_below hb12
        have m57 := m56.up s21.old
        have b24 := s21.below b23 b23.size b23.size
        refine Fx.L.call (by rfl) (Fx.r_call (args := [.pointer (some ⟨p2, 0, none⟩), .agg (Fx.varr 14 (evY (takeV m2.core a nd y)))]) rfl rfl Try.func57 rfl rfl) rfl ((l_apply m2 w.heap.size p2 (T8 + k) (takeV m2.core a nd y) _ m57 (wf_take hI2 (by omega) ha hU.1 (by omega)) hI2.w (by omega)).mono ?_)
        rintro e9 w23 ⟨pq3, mq3, he, _, _, hbq3⟩
        refine ⟨_, he, ?_⟩
        clear he
        have s22 := Fx.Stp.of_below hbq3
        have b25 := s22.below b24 b24.size b24.size
        refine Fx.L.v (.tuple #[.pointer (some ⟨pq3, 0, none⟩), .int .i64 (applyE m2.core (takeV m2.core a nd y))]) (x_move rfl rfl) (Fx.L.v (.pointer (some ⟨pq3, 0, none⟩)) (Fx.x_extract rfl rfl rfl) (Fx.L.v (.int .i64 (applyE m2.core (takeV m2.core a nd y))) (Fx.x_extract rfl rfl rfl) (Fx.L.v (.pointer (some ⟨pq3, 0, none⟩)) (x_assign rfl rfl) (Fx.L.v (.int .i64 (applyE m2.core (takeV m2.core a nd y))) (x_assign rfl rfl) (Fx.L.nil (Fx.seqN (Fx.W.seq (Fx.W.list (Fx.L.v (.int .i64 (applyE m2.core (takeV m2.core a nd y))) (x_move rfl rfl) (Fx.L.v (.bool true) (x_eqlT rfl rfl rfl hE9) (Fx.L.v (.bool true) (x_move rfl rfl) (Fx.L.call (by rfl) (Fx.r_call (args := []) rfl rfl Try.func53 rfl rfl) rfl ((works33_any _).mono ?_)))))))))))))
        rintro e w24 ⟨he, hb13⟩
        refine ⟨.bool true, by rw [he], ?_⟩
        clear he
        have s23 := Fx.Stp.of_below hb13
        have b26 := s23.below b25 b25.size b25.size
        refine Fx.L.v (.bool true) (x_pickT rfl rfl rfl) (Fx.L.v (.bool true) (x_assign rfl rfl) (Fx.L.nil (Fx.seqN (Fx.W.ret (⟨.bool true, Fx.retV1 Try.results13 (by exact rfl), ?_⟩)))))
        exact ⟨rfl, b26⟩
     ·refine ⟨_, he, ?_⟩
      clear he
      have s24 := Fx.Stp.of_below hbg
      have b27 := s24.below b13 b13.size b13.size
      have hya : ¬ y ≤ al := fun h => by have h2 := (all_ok hI0.toInv0 hnl ha hla hf hy).2 (by rw [← eal]; exact h) qb hqb; rw [hbad] at h2; cases h2
      refine Fx.L.v (.tuple #[.slice none 0 0, .int .i64 (11)]) (x_move rfl rfl) (Fx.L.v (.slice none 0 0) (Fx.x_extract rfl rfl rfl) (Fx.L.v (.int .i64 (11)) (Fx.x_extract rfl rfl rfl) (Fx.L.v (.slice none 0 0) (x_assign rfl rfl) (Fx.L.v (.int .i64 (11)) (x_assign rfl rfl) (Fx.L.nil (Fx.seqN (Fx.W.seq (Fx.W.seq (Fx.W.list (Fx.L.v (.int .i64 (11)) (x_move rfl rfl) (Fx.L.v (.bool false) (x_eqlF rfl rfl rfl (by decide)) (Fx.L.v (.int .i64 (y)) (x_move rfl (rfl.trans (congrArg (Value.int .i64) hy9))) (Fx.L.v (.int .i64 (al)) (x_move rfl h6) (Fx.L.v (.bool false) (x_leqF rfl rfl rfl hya) (Fx.L.v (.bool false) (Fx.x_neqB rfl rfl rfl (by kernel_rfl) rfl) (Fx.L.nil (Fx.seqN (Fx.W.cond (b := false) rfl (fun h => nomatch h) (fun _ => Fx.W.skip (Fx.seqN (Fx.W.seq (Fx.W.seq (Fx.W.list (Fx.L.v (.int .i64 (11)) (x_move rfl rfl) (Fx.L.v (.bool true) (Fx.x_neqT rfl rfl rfl (by decide)) (Fx.L.nil (Fx.seqN (Fx.W.cond (b := true) rfl (fun _ => Fx.W.seq (Fx.W.list (Fx.L.v (.int .i64 (11)) (x_move rfl rfl) ?_))) (fun h => nomatch h)))))))))))))))))))))))))))))
      refine Fx.L.v (.bool true) (x_eqlT rfl rfl rfl rfl) (Fx.L.v (.bool true) (x_move rfl rfl) (Fx.L.call (by rfl) (Fx.r_call (args := []) rfl rfl Try.func53 rfl rfl) rfl ((works33_any _).mono ?_)))
      rintro e w25 ⟨he, hb14⟩
      refine ⟨.bool true, by rw [he], ?_⟩
      clear he
      have s25 := Fx.Stp.of_below hb14
      have b28 := s25.below b27 b27.size b27.size
      refine Fx.L.v (.bool true) (x_pickT rfl rfl rfl) (Fx.L.v (.bool true) (x_assign rfl rfl) (Fx.L.nil (Fx.seqN (Fx.W.ret (Fx.seqR (⟨.bool true, Fx.retV1 Try.results13 (by exact rfl), ?_⟩))))))
      exact ⟨rfl, b28⟩
end
end Go.Proofs.Ytolmkjepieoloaa
