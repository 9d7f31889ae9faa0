/-
  The walk of leatlaw14.DonorAll.
-/
import Derived.Test.Ytolmkjepieoloaa14C
namespace Go.Proofs.Ytolmkjepieoloaa
open Go.RowKit Rt
namespace Rt
def halfN (n : Int) : Nat → Int
  | 0 => n
  | k + 1 => halfN n k / 2
theorem halfN_bd {n : Int} (h : 0 ≤ n) : ∀ k, 0 ≤ halfN n k ∧ halfN n k ≤ n
  | 0 => ⟨h, Int.le_refl _⟩
  | k + 1 => by have := halfN_bd h k; simp only [halfN]; omega
theorem halfN_mono {m n : Int} (h : m ≤ n) : ∀ k, halfN m k ≤ halfN n k
  | 0 => h
  | k + 1 => Int.ediv_le_ediv (by omega) (halfN_mono h k)
theorem halfN_end {n : Int} (h : 0 ≤ n) (h2 : n ≤ 1125899906842624) : halfN n 64 = 0 := by
  have a := halfN_bd h 64
  have b := halfN_mono h2 64
  have c : halfN 1125899906842624 64 = 0 := by kernel_rfl
  omega
theorem mayS_yes {x : Int} (h1 : 1 ≤ x) (h2 : x ≤ 1125899906842624) : mayS x = true := by unfold mayS; rw [decide_eq_true h1, decide_eq_true h2]; rfl
theorem share_left {l n : Int} (h1 : 1 ≤ l) (h2 : l ≤ n) (h3 : n ≤ 1125899906842624) : shareM l n = (l + 1) / 2 := by
  unfold shareM; rw [mayS_yes h1 (by omega), mayS_yes (by omega) h3]
  simp only [Bool.and_self, if_true, mnI]
  split <;> omega
theorem share_no {l n : Int} (h : mayS l = false) : shareM l n = 0 := by unfold shareM; rw [h, Bool.false_and]; rfl
theorem share_fit {l n : Int} (h1 : 1 ≤ l) (h2 : l ≤ 1125899906842624) (h3 : 1 ≤ n) (h4 : n ≤ 1125899906842624) : 1 ≤ shareM l n ∧ shareM l n ≤ n ∧ shareM l n ≤ l := by
  unfold shareM; rw [mayS_yes h1 h2, mayS_yes h3 h4]
  simp only [Bool.and_self, if_true, mnI]
  split <;> omega
end Rt
set_option maxRecDepth 10000 in
theorem all14_any (n want : Int) (w : World) (hn : -9223372036854775808 ≤ n ∧ n ≤ 9223372036854775807) :
    Calls Try.prog 5 #[.int .i64 (n), .int .i64 (want)] w fun e w' => e = .returned (.bool true) ∧ Below w.heap.size w w' := by
  refine Fx.enter Try.func5 rfl (n := 74) rfl (by rfl) ?_
  refine Fx.W.seq ?_
  refine Fx.W.list ?_
  refine Fx.L.val (v := .bool false) (by rfl) (Fx.x_assign rfl rfl) rfl ?_
  refine Fx.L.nil ?_
  refine Fx.seqN ?_
  refine Fx.W.seq ?_
  refine Fx.W.seq ?_
  refine Fx.W.list ?_
  refine Fx.L.val (v := .int .i64 (n)) (by rfl) (Fx.x_move rfl rfl) rfl ?_
  by_cases c10 : n < 1
  · refine Fx.L.val (v := .bool true) (by rfl) (Fx.x_lssT rfl rfl rfl c10) rfl ?_
    refine Fx.L.val (v := .bool true) (by rfl) (Fx.x_move rfl rfl) rfl ?_
    refine Fx.L.skip (by rfl) rfl ?_
    refine Fx.L.skip (by rfl) rfl ?_
    refine Fx.L.val (v := .bool true) (by rfl) (Fx.x_pickT rfl rfl rfl) rfl ?_
    refine Fx.L.nil ?_
    refine Fx.seqN ?_
    refine Fx.W.cond (b := true) rfl (fun _ => ?_) (fun h => nomatch h)
    refine Fx.W.seq ?_
    refine Fx.W.list ?_
    refine Fx.L.val (v := .int .i64 (n)) (by rfl) (Fx.x_move rfl rfl) rfl ?_
    refine Fx.L.val (v := .int .i64 (want)) (by rfl) (Fx.x_move rfl rfl) rfl ?_
    refine Fx.L.call (by rfl) (Fx.r_call (args := [.int .i64 (n), .int .i64 (want)]) rfl rfl Try.func25 rfl rfl) rfl ((d_share n want _).mono ?_)
    rintro e v1 ⟨he, hv1⟩
    subst v1
    refine ⟨.int .i64 (shareM n want), by rw [he], ?_⟩
    clear he
    refine Fx.L.val (v := .bool true) (by rfl) (Fx.x_eqlT rfl rfl rfl (share_no (by unfold mayS; simp; omega))) rfl ?_
    refine Fx.L.val (v := .bool true) (by rfl) (Fx.x_move rfl rfl) rfl ?_
    refine Fx.L.call (by rfl) (Fx.r_call (args := []) rfl rfl Try.func21 rfl rfl) rfl ((works14_any _).mono ?_)
    rintro e w1 ⟨he, hb1⟩
    refine ⟨.bool true, by rw [he], ?_⟩
    clear he
    have s1 := Fx.Stp.of_below hb1
    have b1 : Below w.heap.size w w1 := s1.below (Below.refl w.heap.size w) (Below.refl w.heap.size w).size (Below.refl w.heap.size w).size
    refine Fx.L.val (v := .bool true) (by rfl) (Fx.x_pickT rfl rfl rfl) rfl ?_
    refine Fx.L.val (v := .bool true) (by rfl) (Fx.x_assign rfl rfl) rfl ?_
    refine Fx.L.nil ?_
    refine Fx.seqN ?_
    refine Fx.W.ret ?_
    refine Fx.seqR ?_
    refine ⟨.bool true, Fx.retV1 Try.results5 (by exact rfl), ?_⟩
    exact ⟨rfl, b1⟩
  · refine Fx.L.val (v := .bool false) (by rfl) (Fx.x_lssF rfl rfl rfl c10) rfl ?_
    refine Fx.L.val (v := .bool false) (by rfl) (Fx.x_move rfl rfl) rfl ?_
    refine Fx.L.val (v := .int .i64 (n)) (by rfl) (Fx.x_move rfl rfl) rfl ?_
    by_cases c13 : 1125899906842624 < n
    · refine Fx.L.val (v := .bool true) (by rfl) (Fx.x_gtrT rfl rfl rfl c13) rfl ?_
      refine Fx.L.val (v := .bool true) (by rfl) (Fx.x_pickF rfl rfl rfl) rfl ?_
      refine Fx.L.nil ?_
      refine Fx.seqN ?_
      refine Fx.W.cond (b := true) rfl (fun _ => ?_) (fun h => nomatch h)
      refine Fx.W.seq ?_
      refine Fx.W.list ?_
      refine Fx.L.val (v := .int .i64 (n)) (by rfl) (Fx.x_move rfl rfl) rfl ?_
      refine Fx.L.val (v := .int .i64 (want)) (by rfl) (Fx.x_move rfl rfl) rfl ?_
      refine Fx.L.call (by rfl) (Fx.r_call (args := [.int .i64 (n), .int .i64 (want)]) rfl rfl Try.func25 rfl rfl) rfl ((d_share n want _).mono ?_)
      rintro e v1 ⟨he, hv1⟩
      subst v1
      refine ⟨.int .i64 (shareM n want), by rw [he], ?_⟩
      clear he
      refine Fx.L.val (v := .bool true) (by rfl) (Fx.x_eqlT rfl rfl rfl (share_no (by unfold mayS; simp; omega))) rfl ?_
      refine Fx.L.val (v := .bool true) (by rfl) (Fx.x_move rfl rfl) rfl ?_
      refine Fx.L.call (by rfl) (Fx.r_call (args := []) rfl rfl Try.func21 rfl rfl) rfl ((works14_any _).mono ?_)
      rintro e w2 ⟨he, hb2⟩
      refine ⟨.bool true, by rw [he], ?_⟩
      clear he
      have s2 := Fx.Stp.of_below hb2
      have b2 : Below w.heap.size w w2 := s2.below (Below.refl w.heap.size w) (Below.refl w.heap.size w).size (Below.refl w.heap.size w).size
      refine Fx.L.val (v := .bool true) (by rfl) (Fx.x_pickT rfl rfl rfl) rfl ?_
      refine Fx.L.val (v := .bool true) (by rfl) (Fx.x_assign rfl rfl) rfl ?_
      refine Fx.L.nil ?_
      refine Fx.seqN ?_
      refine Fx.W.ret ?_
      refine Fx.seqR ?_
      refine ⟨.bool true, Fx.retV1 Try.results5 (by exact rfl), ?_⟩
      exact ⟨rfl, b2⟩
    · refine Fx.L.val (v := .bool false) (by rfl) (Fx.x_gtrF rfl rfl rfl c13) rfl ?_
      refine Fx.L.val (v := .bool false) (by rfl) (Fx.x_pickF rfl rfl rfl) rfl ?_
      refine Fx.L.nil ?_
      refine Fx.seqN ?_
      refine Fx.W.cond (b := false) rfl (fun h => nomatch h) (fun _ => ?_)
      refine Fx.W.skip ?_
      refine Fx.seqN ?_
      refine Fx.W.seq ?_
      refine Fx.W.list ?_
      refine Fx.L.val (v := .int .i64 (n)) (by rfl) (Fx.x_move rfl rfl) rfl ?_
      refine Fx.L.val (v := .int .i64 (n)) (by rfl) (Fx.x_assign rfl rfl) rfl ?_
      refine Fx.L.nil ?_
      refine Fx.seqN ?_
      refine Fx.W.seq ?_
      refine Fx.W.seq ?_
      refine Fx.W.list ?_
      refine Fx.L.val (v := .int .i64 (0)) (by rfl) (Fx.x_assign rfl rfl) rfl ?_
      refine Fx.L.nil ?_
      refine Fx.seqN ?_
      refine Fx.W.block ?_
      refine Fx.W.loop (fun f w_ => ∃ k : Nat, k ≤ 64 ∧ f 0 = .int .i64 (n) ∧ f 1 = .int .i64 (want) ∧ f 5 = .int .i64 (halfN n k) ∧ f 6 = .int .i64 ((k : Int)) ∧ Below w.heap.size w w_) (fun f _ => (64 - (intOf (f 6)).toNat)) ⟨0, by omega, (by first | rfl | exact congrArg (Value.int .i64) (by omega)), (by first | rfl | exact congrArg (Value.int .i64) (by omega)), (by first | rfl | exact congrArg (Value.int .i64) (by omega)), (by first | rfl | exact congrArg (Value.int .i64) (by omega)), (Below.refl w.heap.size w)⟩ ?_
      rintro f1 w3 ⟨k, hk, h1, h2, h3, h4, b3⟩
      have HB := halfN_bd (n := n) (by omega) k
      have HS : halfN n (k + 1) = halfN n k / 2 := rfl
      refine Fx.W.seq ?_
      refine Fx.W.seq ?_
      refine Fx.W.list ?_
      refine Fx.L.val (v := .int .i64 ((k : Int))) (by rfl) (Fx.x_move rfl h4) rfl ?_
      by_cases c24 : (k : Int) < 64
      · refine Fx.L.val (v := .bool true) (by rfl) (Fx.x_lssT rfl rfl rfl c24) rfl ?_
        refine Fx.L.val (v := .bool true) (by rfl) (Fx.x_move rfl rfl) rfl ?_
        refine Fx.L.val (v := .int .i64 (halfN n k)) (by rfl) (Fx.x_move rfl h3) rfl ?_
        by_cases c27 : 0 < (halfN n k)
        · refine Fx.L.val (v := .bool true) (by rfl) (Fx.x_gtrT rfl rfl rfl c27) rfl ?_
          refine Fx.L.val (v := .bool true) (by rfl) (Fx.x_pickT rfl rfl rfl) rfl ?_
          refine Fx.L.nil ?_
          refine Fx.seqN ?_
          refine Fx.W.cond (b := true) rfl (fun _ => ?_) (fun h => nomatch h)
          refine Fx.W.skip ?_
          refine Fx.seqN ?_
          refine Fx.W.seq ?_
          refine Fx.W.block ?_
          refine Fx.W.seq ?_
          have SL := share_left (l := halfN n k) (n := n) (by omega) (by omega) (by omega)
          refine Fx.W.list ?_
          refine Fx.L.val (v := .int .i64 (halfN n k)) (by rfl) (Fx.x_move rfl h3) rfl ?_
          refine Fx.L.val (v := .int .i64 (n)) (by rfl) (Fx.x_move rfl h1) rfl ?_
          refine Fx.L.call (by rfl) (Fx.r_call (args := [.int .i64 (halfN n k), .int .i64 (n)]) rfl rfl Try.func25 rfl rfl) rfl ((d_share (halfN n k) n _).mono ?_)
          rintro e v1 ⟨he, hv1⟩
          subst v1
          refine ⟨.int .i64 (shareM (halfN n k) n), by rw [he], ?_⟩
          clear he
          refine Fx.L.val (v := .int .i64 (shareM (halfN n k) n)) (by rfl) (Fx.x_assign rfl rfl) rfl ?_
          refine Fx.L.nil ?_
          refine Fx.seqN ?_
          refine Fx.W.seq ?_
          refine Fx.W.seq ?_
          refine Fx.W.list ?_
          refine Fx.L.val (v := .int .i64 (shareM (halfN n k) n)) (by rfl) (Fx.x_move rfl rfl) rfl ?_
          refine Fx.L.val (v := .bool false) (by rfl) (Fx.x_lssF rfl rfl rfl (by omega)) rfl ?_
          refine Fx.L.val (v := .bool false) (by rfl) (Fx.x_move rfl rfl) rfl ?_
          refine Fx.L.val (v := .int .i64 (shareM (halfN n k) n)) (by rfl) (Fx.x_move rfl rfl) rfl ?_
          refine Fx.L.val (v := .int .i64 (halfN n k)) (by rfl) (Fx.x_move rfl h3) rfl ?_
          refine Fx.L.val (v := .bool false) (by rfl) (Fx.x_gtrF rfl rfl rfl (by omega)) rfl ?_
          refine Fx.L.val (v := .bool false) (by rfl) (Fx.x_pickF rfl rfl rfl) rfl ?_
          refine Fx.L.nil ?_
          refine Fx.seqN ?_
          refine Fx.W.cond (b := false) rfl (fun h => nomatch h) (fun _ => ?_)
          refine Fx.W.skip ?_
          refine Fx.seqN ?_
          refine Fx.W.list ?_
          refine Fx.L.val (v := .int .i64 (halfN n k)) (by rfl) (Fx.x_move rfl h3) rfl ?_
          refine Fx.L.val (v := .int .i64 (shareM (halfN n k) n)) (by rfl) (Fx.x_move rfl rfl) rfl ?_
          refine Fx.L.val (v := .int .i64 ((halfN n k) - (shareM (halfN n k) n))) (by rfl) (Fx.x_sub rfl rfl rfl (Fx.i64e (by omega) (by omega))) rfl ?_
          refine Fx.L.val (v := .int .i64 ((halfN n k) - (shareM (halfN n k) n))) (by rfl) (Fx.x_assign rfl rfl) rfl ?_
          refine Fx.L.nil ?_
          refine Fx.blkN ?_
          refine Fx.seqN ?_
          refine Fx.W.list ?_
          refine Fx.L.val (v := .int .i64 ((k : Int))) (by rfl) (Fx.x_move rfl h4) rfl ?_
          refine Fx.L.val (v := .int .i64 ((k : Int) + 1)) (by rfl) (Fx.x_add rfl rfl rfl (Fx.i64e (by omega) (by omega))) rfl ?_
          refine Fx.L.val (v := .int .i64 ((k : Int) + 1)) (by rfl) (Fx.x_assign rfl rfl) rfl ?_
          refine Fx.L.nil ?_
          refine Fx.lpN ⟨k + 1, by omega, (h1.trans (by first | rfl | exact congrArg (Value.int .i64) (by omega))), (h2.trans (by first | rfl | exact congrArg (Value.int .i64) (by omega))), (by first | rfl | exact congrArg (Value.int .i64) (by omega)), (by first | rfl | exact congrArg (Value.int .i64) (by omega)), b3⟩ ?_
          show (64 - (intOf ((.int .i64 ((k : Int) + 1)))).toNat) < _
          simp only [h4, intOf]; omega
        · refine Fx.L.val (v := .bool false) (by rfl) (Fx.x_gtrF rfl rfl rfl c27) rfl ?_
          refine Fx.L.val (v := .bool false) (by rfl) (Fx.x_pickT rfl rfl rfl) rfl ?_
          refine Fx.L.nil ?_
          refine Fx.seqN ?_
          refine Fx.W.cond (b := false) rfl (fun h => nomatch h) (fun _ => ?_)
          refine Fx.W.exit ?_
          refine Fx.seqX ?_
          refine Fx.lpX ?_
          refine Fx.blkX ?_
          refine Fx.seqN ?_
          refine Fx.W.seq ?_
          have H0 : halfN n k = 0 := by
            omega
          refine Fx.W.list ?_
          refine Fx.L.val (v := .int .i64 (n)) (by rfl) (Fx.x_move rfl h1) rfl ?_
          refine Fx.L.val (v := .int .i64 (want)) (by rfl) (Fx.x_move rfl h2) rfl ?_
          refine Fx.L.call (by rfl) (Fx.r_call (args := [.int .i64 (n), .int .i64 (want)]) rfl rfl Try.func25 rfl rfl) rfl ((d_share n want _).mono ?_)
          rintro e v1 ⟨he, hv1⟩
          subst v1
          refine ⟨.int .i64 (shareM n want), by rw [he], ?_⟩
          clear he
          refine Fx.L.val (v := .int .i64 (shareM n want)) (by rfl) (Fx.x_assign rfl rfl) rfl ?_
          refine Fx.L.nil ?_
          refine Fx.seqN ?_
          refine Fx.W.seq ?_
          refine Fx.W.list ?_
          refine Fx.L.val (v := .int .i64 (halfN n k)) (by rfl) (Fx.x_move rfl h3) rfl ?_
          refine Fx.L.val (v := .bool true) (by rfl) (Fx.x_eqlT rfl rfl rfl H0) rfl ?_
          refine Fx.L.val (v := .bool true) (by rfl) (Fx.x_move rfl rfl) rfl ?_
          refine Fx.L.val (v := .int .i64 (want)) (by rfl) (Fx.x_move rfl h2) rfl ?_
          by_cases c51 : want < 1
          · refine Fx.L.val (v := .bool true) (by rfl) (Fx.x_lssT rfl rfl rfl c51) rfl ?_
            refine Fx.L.val (v := .bool true) (by rfl) (Fx.x_move rfl rfl) rfl ?_
            refine Fx.L.skip (by rfl) rfl ?_
            refine Fx.L.skip (by rfl) rfl ?_
            refine Fx.L.val (v := .bool true) (by rfl) (Fx.x_pickT rfl rfl rfl) rfl ?_
            refine Fx.L.val (v := .bool true) (by rfl) (Fx.x_move rfl rfl) rfl ?_
            refine Fx.L.skip (by rfl) rfl ?_
            refine Fx.L.skip (by rfl) rfl ?_
            refine Fx.L.skip (by rfl) rfl ?_
            refine Fx.L.skip (by rfl) rfl ?_
            refine Fx.L.skip (by rfl) rfl ?_
            refine Fx.L.skip (by rfl) rfl ?_
            refine Fx.L.skip (by rfl) rfl ?_
            refine Fx.L.skip (by rfl) rfl ?_
            refine Fx.L.skip (by rfl) rfl ?_
            refine Fx.L.skip (by rfl) rfl ?_
            refine Fx.L.skip (by rfl) rfl ?_
            refine Fx.L.skip (by rfl) rfl ?_
            refine Fx.L.val (v := .bool true) (by rfl) (Fx.x_pickT rfl rfl rfl) rfl ?_
            refine Fx.L.val (v := .bool true) (by rfl) (Fx.x_pickT rfl rfl rfl) rfl ?_
            refine Fx.L.val (v := .bool true) (by rfl) (Fx.x_move rfl rfl) rfl ?_
            refine Fx.L.call (by rfl) (Fx.r_call (args := []) rfl rfl Try.func21 rfl rfl) rfl ((works14_any _).mono ?_)
            rintro e w4 ⟨he, hb3⟩
            refine ⟨.bool true, by rw [he], ?_⟩
            clear he
            have s3 := Fx.Stp.of_below hb3
            have b4 : Below w.heap.size w w4 := s3.below b3 b3.size b3.size
            refine Fx.L.val (v := .bool true) (by rfl) (Fx.x_pickT rfl rfl rfl) rfl ?_
            refine Fx.L.val (v := .bool true) (by rfl) (Fx.x_assign rfl rfl) rfl ?_
            refine Fx.L.nil ?_
            refine Fx.seqN ?_
            refine Fx.W.ret ?_
            refine ⟨.bool true, Fx.retV1 Try.results5 (by exact rfl), ?_⟩
            exact ⟨rfl, b4⟩
          · refine Fx.L.val (v := .bool false) (by rfl) (Fx.x_lssF rfl rfl rfl c51) rfl ?_
            refine Fx.L.val (v := .bool false) (by rfl) (Fx.x_move rfl rfl) rfl ?_
            refine Fx.L.val (v := .int .i64 (want)) (by rfl) (Fx.x_move rfl h2) rfl ?_
            by_cases c54 : 1125899906842624 < want
            · refine Fx.L.val (v := .bool true) (by rfl) (Fx.x_gtrT rfl rfl rfl c54) rfl ?_
              refine Fx.L.val (v := .bool true) (by rfl) (Fx.x_pickF rfl rfl rfl) rfl ?_
              refine Fx.L.val (v := .bool true) (by rfl) (Fx.x_move rfl rfl) rfl ?_
              refine Fx.L.skip (by rfl) rfl ?_
              refine Fx.L.skip (by rfl) rfl ?_
              refine Fx.L.skip (by rfl) rfl ?_
              refine Fx.L.skip (by rfl) rfl ?_
              refine Fx.L.skip (by rfl) rfl ?_
              refine Fx.L.skip (by rfl) rfl ?_
              refine Fx.L.skip (by rfl) rfl ?_
              refine Fx.L.skip (by rfl) rfl ?_
              refine Fx.L.skip (by rfl) rfl ?_
              refine Fx.L.skip (by rfl) rfl ?_
              refine Fx.L.skip (by rfl) rfl ?_
              refine Fx.L.skip (by rfl) rfl ?_
              refine Fx.L.val (v := .bool true) (by rfl) (Fx.x_pickT rfl rfl rfl) rfl ?_
              refine Fx.L.val (v := .bool true) (by rfl) (Fx.x_pickT rfl rfl rfl) rfl ?_
              refine Fx.L.val (v := .bool true) (by rfl) (Fx.x_move rfl rfl) rfl ?_
              refine Fx.L.call (by rfl) (Fx.r_call (args := []) rfl rfl Try.func21 rfl rfl) rfl ((works14_any _).mono ?_)
              rintro e w5 ⟨he, hb4⟩
              refine ⟨.bool true, by rw [he], ?_⟩
              clear he
              have s4 := Fx.Stp.of_below hb4
              have b5 : Below w.heap.size w w5 := s4.below b3 b3.size b3.size
              refine Fx.L.val (v := .bool true) (by rfl) (Fx.x_pickT rfl rfl rfl) rfl ?_
              refine Fx.L.val (v := .bool true) (by rfl) (Fx.x_assign rfl rfl) rfl ?_
              refine Fx.L.nil ?_
              refine Fx.seqN ?_
              refine Fx.W.ret ?_
              refine ⟨.bool true, Fx.retV1 Try.results5 (by exact rfl), ?_⟩
              exact ⟨rfl, b5⟩
            · refine Fx.L.val (v := .bool false) (by rfl) (Fx.x_gtrF rfl rfl rfl c54) rfl ?_
              refine Fx.L.val (v := .bool false) (by rfl) (Fx.x_pickF rfl rfl rfl) rfl ?_
              refine Fx.L.val (v := .bool false) (by rfl) (Fx.x_move rfl rfl) rfl ?_
              refine Fx.L.val (v := .int .i64 (shareM n want)) (by rfl) (Fx.x_move rfl rfl) rfl ?_
              refine Fx.L.val (v := .bool true) (by rfl) (Fx.x_geqT rfl rfl rfl (by have := share_fit (l := n) (n := want) (by omega) (by omega) (by omega) (by omega); omega)) rfl ?_
              refine Fx.L.val (v := .bool true) (by rfl) (Fx.x_move rfl rfl) rfl ?_
              refine Fx.L.val (v := .int .i64 (shareM n want)) (by rfl) (Fx.x_move rfl rfl) rfl ?_
              refine Fx.L.val (v := .int .i64 (want)) (by rfl) (Fx.x_move rfl h2) rfl ?_
              refine Fx.L.val (v := .bool true) (by rfl) (Fx.x_leqT rfl rfl rfl (by have := share_fit (l := n) (n := want) (by omega) (by omega) (by omega) (by omega); omega)) rfl ?_
              refine Fx.L.val (v := .bool true) (by rfl) (Fx.x_pickT rfl rfl rfl) rfl ?_
              refine Fx.L.val (v := .bool true) (by rfl) (Fx.x_move rfl rfl) rfl ?_
              refine Fx.L.val (v := .int .i64 (shareM n want)) (by rfl) (Fx.x_move rfl rfl) rfl ?_
              refine Fx.L.val (v := .int .i64 (n)) (by rfl) (Fx.x_move rfl h1) rfl ?_
              refine Fx.L.val (v := .bool true) (by rfl) (Fx.x_leqT rfl rfl rfl (by have := share_fit (l := n) (n := want) (by omega) (by omega) (by omega) (by omega); omega)) rfl ?_
              refine Fx.L.val (v := .bool true) (by rfl) (Fx.x_pickT rfl rfl rfl) rfl ?_
              refine Fx.L.val (v := .bool true) (by rfl) (Fx.x_pickF rfl rfl rfl) rfl ?_
              refine Fx.L.val (v := .bool true) (by rfl) (Fx.x_pickT rfl rfl rfl) rfl ?_
              refine Fx.L.val (v := .bool true) (by rfl) (Fx.x_move rfl rfl) rfl ?_
              refine Fx.L.call (by rfl) (Fx.r_call (args := []) rfl rfl Try.func21 rfl rfl) rfl ((works14_any _).mono ?_)
              rintro e w6 ⟨he, hb5⟩
              refine ⟨.bool true, by rw [he], ?_⟩
              clear he
              have s5 := Fx.Stp.of_below hb5
              have b6 : Below w.heap.size w w6 := s5.below b3 b3.size b3.size
              refine Fx.L.val (v := .bool true) (by rfl) (Fx.x_pickT rfl rfl rfl) rfl ?_
              refine Fx.L.val (v := .bool true) (by rfl) (Fx.x_assign rfl rfl) rfl ?_
              refine Fx.L.nil ?_
              refine Fx.seqN ?_
              refine Fx.W.ret ?_
              refine ⟨.bool true, Fx.retV1 Try.results5 (by exact rfl), ?_⟩
              exact ⟨rfl, b6⟩
      · refine Fx.L.val (v := .bool false) (by rfl) (Fx.x_lssF rfl rfl rfl c24) rfl ?_
        refine Fx.L.val (v := .bool false) (by rfl) (Fx.x_move rfl rfl) rfl ?_
        refine Fx.L.skip (by rfl) rfl ?_
        refine Fx.L.skip (by rfl) rfl ?_
        refine Fx.L.val (v := .bool false) (by rfl) (Fx.x_pickF rfl rfl rfl) rfl ?_
        refine Fx.L.nil ?_
        refine Fx.seqN ?_
        refine Fx.W.cond (b := false) rfl (fun h => nomatch h) (fun _ => ?_)
        refine Fx.W.exit ?_
        refine Fx.seqX ?_
        refine Fx.lpX ?_
        refine Fx.blkX ?_
        refine Fx.seqN ?_
        refine Fx.W.seq ?_
        have H0 : halfN n k = 0 := by
          have e : k = 64 := by omega
          rw [e]; exact halfN_end (by omega) (by omega)
        refine Fx.W.list ?_
        refine Fx.L.val (v := .int .i64 (n)) (by rfl) (Fx.x_move rfl h1) rfl ?_
        refine Fx.L.val (v := .int .i64 (want)) (by rfl) (Fx.x_move rfl h2) rfl ?_
        refine Fx.L.call (by rfl) (Fx.r_call (args := [.int .i64 (n), .int .i64 (want)]) rfl rfl Try.func25 rfl rfl) rfl ((d_share n want _).mono ?_)
        rintro e v1 ⟨he, hv1⟩
        subst v1
        refine ⟨.int .i64 (shareM n want), by rw [he], ?_⟩
        clear he
        refine Fx.L.val (v := .int .i64 (shareM n want)) (by rfl) (Fx.x_assign rfl rfl) rfl ?_
        refine Fx.L.nil ?_
        refine Fx.seqN ?_
        refine Fx.W.seq ?_
        refine Fx.W.list ?_
        refine Fx.L.val (v := .int .i64 (halfN n k)) (by rfl) (Fx.x_move rfl h3) rfl ?_
        refine Fx.L.val (v := .bool true) (by rfl) (Fx.x_eqlT rfl rfl rfl H0) rfl ?_
        refine Fx.L.val (v := .bool true) (by rfl) (Fx.x_move rfl rfl) rfl ?_
        refine Fx.L.val (v := .int .i64 (want)) (by rfl) (Fx.x_move rfl h2) rfl ?_
        by_cases c51 : want < 1
        · refine Fx.L.val (v := .bool true) (by rfl) (Fx.x_lssT rfl rfl rfl c51) rfl ?_
          refine Fx.L.val (v := .bool true) (by rfl) (Fx.x_move rfl rfl) rfl ?_
          refine Fx.L.skip (by rfl) rfl ?_
          refine Fx.L.skip (by rfl) rfl ?_
          refine Fx.L.val (v := .bool true) (by rfl) (Fx.x_pickT rfl rfl rfl) rfl ?_
          refine Fx.L.val (v := .bool true) (by rfl) (Fx.x_move rfl rfl) rfl ?_
          refine Fx.L.skip (by rfl) rfl ?_
          refine Fx.L.skip (by rfl) rfl ?_
          refine Fx.L.skip (by rfl) rfl ?_
          refine Fx.L.skip (by rfl) rfl ?_
          refine Fx.L.skip (by rfl) rfl ?_
          refine Fx.L.skip (by rfl) rfl ?_
          refine Fx.L.skip (by rfl) rfl ?_
          refine Fx.L.skip (by rfl) rfl ?_
          refine Fx.L.skip (by rfl) rfl ?_
          refine Fx.L.skip (by rfl) rfl ?_
          refine Fx.L.skip (by rfl) rfl ?_
          refine Fx.L.skip (by rfl) rfl ?_
          refine Fx.L.val (v := .bool true) (by rfl) (Fx.x_pickT rfl rfl rfl) rfl ?_
          refine Fx.L.val (v := .bool true) (by rfl) (Fx.x_pickT rfl rfl rfl) rfl ?_
          refine Fx.L.val (v := .bool true) (by rfl) (Fx.x_move rfl rfl) rfl ?_
          refine Fx.L.call (by rfl) (Fx.r_call (args := []) rfl rfl Try.func21 rfl rfl) rfl ((works14_any _).mono ?_)
          rintro e w7 ⟨he, hb6⟩
          refine ⟨.bool true, by rw [he], ?_⟩
          clear he
          have s6 := Fx.Stp.of_below hb6
          have b7 : Below w.heap.size w w7 := s6.below b3 b3.size b3.size
          refine Fx.L.val (v := .bool true) (by rfl) (Fx.x_pickT rfl rfl rfl) rfl ?_
          refine Fx.L.val (v := .bool true) (by rfl) (Fx.x_assign rfl rfl) rfl ?_
          refine Fx.L.nil ?_
          refine Fx.seqN ?_
          refine Fx.W.ret ?_
          refine ⟨.bool true, Fx.retV1 Try.results5 (by exact rfl), ?_⟩
          exact ⟨rfl, b7⟩
        · refine Fx.L.val (v := .bool false) (by rfl) (Fx.x_lssF rfl rfl rfl c51) rfl ?_
          refine Fx.L.val (v := .bool false) (by rfl) (Fx.x_move rfl rfl) rfl ?_
          refine Fx.L.val (v := .int .i64 (want)) (by rfl) (Fx.x_move rfl h2) rfl ?_
          by_cases c54 : 1125899906842624 < want
          · refine Fx.L.val (v := .bool true) (by rfl) (Fx.x_gtrT rfl rfl rfl c54) rfl ?_
            refine Fx.L.val (v := .bool true) (by rfl) (Fx.x_pickF rfl rfl rfl) rfl ?_
            refine Fx.L.val (v := .bool true) (by rfl) (Fx.x_move rfl rfl) rfl ?_
            refine Fx.L.skip (by rfl) rfl ?_
            refine Fx.L.skip (by rfl) rfl ?_
            refine Fx.L.skip (by rfl) rfl ?_
            refine Fx.L.skip (by rfl) rfl ?_
            refine Fx.L.skip (by rfl) rfl ?_
            refine Fx.L.skip (by rfl) rfl ?_
            refine Fx.L.skip (by rfl) rfl ?_
            refine Fx.L.skip (by rfl) rfl ?_
            refine Fx.L.skip (by rfl) rfl ?_
            refine Fx.L.skip (by rfl) rfl ?_
            refine Fx.L.skip (by rfl) rfl ?_
            refine Fx.L.skip (by rfl) rfl ?_
            refine Fx.L.val (v := .bool true) (by rfl) (Fx.x_pickT rfl rfl rfl) rfl ?_
            refine Fx.L.val (v := .bool true) (by rfl) (Fx.x_pickT rfl rfl rfl) rfl ?_
            refine Fx.L.val (v := .bool true) (by rfl) (Fx.x_move rfl rfl) rfl ?_
            refine Fx.L.call (by rfl) (Fx.r_call (args := []) rfl rfl Try.func21 rfl rfl) rfl ((works14_any _).mono ?_)
            rintro e w8 ⟨he, hb7⟩
            refine ⟨.bool true, by rw [he], ?_⟩
            clear he
            have s7 := Fx.Stp.of_below hb7
            have b8 : Below w.heap.size w w8 := s7.below b3 b3.size b3.size
            refine Fx.L.val (v := .bool true) (by rfl) (Fx.x_pickT rfl rfl rfl) rfl ?_
            refine Fx.L.val (v := .bool true) (by rfl) (Fx.x_assign rfl rfl) rfl ?_
            refine Fx.L.nil ?_
            refine Fx.seqN ?_
            refine Fx.W.ret ?_
            refine ⟨.bool true, Fx.retV1 Try.results5 (by exact rfl), ?_⟩
            exact ⟨rfl, b8⟩
          · refine Fx.L.val (v := .bool false) (by rfl) (Fx.x_gtrF rfl rfl rfl c54) rfl ?_
            refine Fx.L.val (v := .bool false) (by rfl) (Fx.x_pickF rfl rfl rfl) rfl ?_
            refine Fx.L.val (v := .bool false) (by rfl) (Fx.x_move rfl rfl) rfl ?_
            refine Fx.L.val (v := .int .i64 (shareM n want)) (by rfl) (Fx.x_move rfl rfl) rfl ?_
            refine Fx.L.val (v := .bool true) (by rfl) (Fx.x_geqT rfl rfl rfl (by have := share_fit (l := n) (n := want) (by omega) (by omega) (by omega) (by omega); omega)) rfl ?_
            refine Fx.L.val (v := .bool true) (by rfl) (Fx.x_move rfl rfl) rfl ?_
            refine Fx.L.val (v := .int .i64 (shareM n want)) (by rfl) (Fx.x_move rfl rfl) rfl ?_
            refine Fx.L.val (v := .int .i64 (want)) (by rfl) (Fx.x_move rfl h2) rfl ?_
            refine Fx.L.val (v := .bool true) (by rfl) (Fx.x_leqT rfl rfl rfl (by have := share_fit (l := n) (n := want) (by omega) (by omega) (by omega) (by omega); omega)) rfl ?_
            refine Fx.L.val (v := .bool true) (by rfl) (Fx.x_pickT rfl rfl rfl) rfl ?_
            refine Fx.L.val (v := .bool true) (by rfl) (Fx.x_move rfl rfl) rfl ?_
            refine Fx.L.val (v := .int .i64 (shareM n want)) (by rfl) (Fx.x_move rfl rfl) rfl ?_
            refine Fx.L.val (v := .int .i64 (n)) (by rfl) (Fx.x_move rfl h1) rfl ?_
            refine Fx.L.val (v := .bool true) (by rfl) (Fx.x_leqT rfl rfl rfl (by have := share_fit (l := n) (n := want) (by omega) (by omega) (by omega) (by omega); omega)) rfl ?_
            refine Fx.L.val (v := .bool true) (by rfl) (Fx.x_pickT rfl rfl rfl) rfl ?_
            refine Fx.L.val (v := .bool true) (by rfl) (Fx.x_pickF rfl rfl rfl) rfl ?_
            refine Fx.L.val (v := .bool true) (by rfl) (Fx.x_pickT rfl rfl rfl) rfl ?_
            refine Fx.L.val (v := .bool true) (by rfl) (Fx.x_move rfl rfl) rfl ?_
            refine Fx.L.call (by rfl) (Fx.r_call (args := []) rfl rfl Try.func21 rfl rfl) rfl ((works14_any _).mono ?_)
            rintro e w9 ⟨he, hb8⟩
            refine ⟨.bool true, by rw [he], ?_⟩
            clear he
            have s8 := Fx.Stp.of_below hb8
            have b9 : Below w.heap.size w w9 := s8.below b3 b3.size b3.size
            refine Fx.L.val (v := .bool true) (by rfl) (Fx.x_pickT rfl rfl rfl) rfl ?_
            refine Fx.L.val (v := .bool true) (by rfl) (Fx.x_assign rfl rfl) rfl ?_
            refine Fx.L.nil ?_
            refine Fx.seqN ?_
            refine Fx.W.ret ?_
            refine ⟨.bool true, Fx.retV1 Try.results5 (by exact rfl), ?_⟩
            exact ⟨rfl, b9⟩
end Go.Proofs.Ytolmkjepieoloaa
