/-
  The walks of donor.may, Share.
-/
import Derived.Test.YtolmkjepieoloaaRows
import Derived.Test.YtolmkjepieoloaaFxs
import Derived.Test.YtolmkjepieoloaaRPlain
namespace Go.Proofs.Ytolmkjepieoloaa
open Go.RowKit Rt
namespace Rt
def mayS (x : Int) : Bool := decide (1 ≤ x) && decide (x ≤ 1125899906842624)
def mnI (a b : Int) : Int := if b < a then b else a
def shareM (l n : Int) : Int := if mayS l && mayS n then mnI n ((l + 1) / 2) else 0
end Rt
theorem d_may (n : Int) (w : World) :
    Calls Try.prog 71 #[.int .i64 (n)] w fun e w' => e = .returned (.bool (mayS n)) ∧ w' = w := by
  refine Fx.enter Try.func71 rfl (n := 9) rfl (by rfl) ?_
  refine Fx.W.seq ?_
  refine Fx.W.list ?_
  refine Fx.L.val (v := .bool false) (by rfl) (Fx.x_assign rfl rfl) rfl ?_
  refine Fx.L.nil ?_
  refine Fx.seqN ?_
  refine Fx.W.seq ?_
  refine Fx.W.list ?_
  refine Fx.L.val (v := .int .i64 (n)) (by rfl) (Fx.x_move rfl rfl) rfl ?_
  by_cases c4 : 1 ≤ n
  · refine Fx.L.val (v := .bool true) (by rfl) (Fx.x_geqT rfl rfl rfl c4) rfl ?_
    refine Fx.L.val (v := .bool true) (by rfl) (Fx.x_move rfl rfl) rfl ?_
    refine Fx.L.val (v := .int .i64 (n)) (by rfl) (Fx.x_move rfl rfl) rfl ?_
    by_cases c7 : n ≤ 1125899906842624
    · refine Fx.L.val (v := .bool true) (by rfl) (Fx.x_leqT rfl rfl rfl c7) rfl ?_
      refine Fx.L.val (v := .bool true) (by rfl) (Fx.x_pickT rfl rfl rfl) rfl ?_
      refine Fx.L.val (v := .bool true) (by rfl) (Fx.x_assign rfl rfl) rfl ?_
      refine Fx.L.nil ?_
      refine Fx.seqN ?_
      refine Fx.W.ret ?_
      refine ⟨.bool true, Fx.retV1 Try.results71 (by exact rfl), ?_⟩
      exact ⟨congrArg (fun q => Ending.returned (Value.bool q)) (by simp only [mayS]; first | (symm; simp; omega) | (symm; simp; done)), rfl⟩
    · refine Fx.L.val (v := .bool false) (by rfl) (Fx.x_leqF rfl rfl rfl c7) rfl ?_
      refine Fx.L.val (v := .bool false) (by rfl) (Fx.x_pickT rfl rfl rfl) rfl ?_
      refine Fx.L.val (v := .bool false) (by rfl) (Fx.x_assign rfl rfl) rfl ?_
      refine Fx.L.nil ?_
      refine Fx.seqN ?_
      refine Fx.W.ret ?_
      refine ⟨.bool false, Fx.retV1 Try.results71 (by exact rfl), ?_⟩
      exact ⟨congrArg (fun q => Ending.returned (Value.bool q)) (by simp only [mayS]; first | (symm; simp; omega) | (symm; simp; done)), rfl⟩
  · refine Fx.L.val (v := .bool false) (by rfl) (Fx.x_geqF rfl rfl rfl c4) rfl ?_
    refine Fx.L.val (v := .bool false) (by rfl) (Fx.x_move rfl rfl) rfl ?_
    refine Fx.L.skip (by rfl) rfl ?_
    refine Fx.L.skip (by rfl) rfl ?_
    refine Fx.L.val (v := .bool false) (by rfl) (Fx.x_pickF rfl rfl rfl) rfl ?_
    refine Fx.L.val (v := .bool false) (by rfl) (Fx.x_assign rfl rfl) rfl ?_
    refine Fx.L.nil ?_
    refine Fx.seqN ?_
    refine Fx.W.ret ?_
    refine ⟨.bool false, Fx.retV1 Try.results71 (by exact rfl), ?_⟩
    exact ⟨congrArg (fun q => Ending.returned (Value.bool q)) (by simp only [mayS]; first | (symm; simp; omega) | (symm; simp; done)), rfl⟩
theorem mayS_bd {x : Int} (h : mayS x = true) : 1 ≤ x ∧ x ≤ 1125899906842624 := by unfold mayS at h; simpa using h
theorem mayS_no {x : Int} (h : mayS x = false) : x < 1 ∨ 1125899906842624 < x := by unfold mayS at h; simp at h; omega
theorem d_share (l n : Int) (w : World) :
    Calls Try.prog 25 #[.int .i64 (l), .int .i64 (n)] w fun e w' => e = .returned (.int .i64 (shareM l n)) ∧ w' = w := by
  refine Fx.enter Try.func25 rfl (n := 18) rfl (by rfl) ?_
  refine Fx.W.seq ?_
  refine Fx.W.list ?_
  refine Fx.L.val (v := .int .i64 (0)) (by rfl) (Fx.x_assign rfl rfl) rfl ?_
  refine Fx.L.nil ?_
  refine Fx.seqN ?_
  refine Fx.W.seq ?_
  refine Fx.W.seq ?_
  refine Fx.W.list ?_
  refine Fx.L.val (v := .int .i64 (l)) (by rfl) (Fx.x_move rfl rfl) rfl ?_
  by_cases c6 : (mayS l) = true
  · refine Fx.L.call (by rfl) (Fx.r_call (args := [.int .i64 (l)]) rfl rfl Try.func71 rfl rfl) rfl ((d_may l _).mono ?_)
    rintro e v1 ⟨he, rfl⟩
    refine ⟨.bool true, by rw [he, c6], ?_⟩
    clear he
    refine Fx.L.val (v := .bool false) (by rfl) (Fx.x_notF rfl rfl) rfl ?_
    refine Fx.L.val (v := .bool false) (by rfl) (Fx.x_move rfl rfl) rfl ?_
    refine Fx.L.val (v := .int .i64 (n)) (by rfl) (Fx.x_move rfl rfl) rfl ?_
    by_cases c10 : (mayS n) = true
    · refine Fx.L.call (by rfl) (Fx.r_call (args := [.int .i64 (n)]) rfl rfl Try.func71 rfl rfl) rfl ((d_may n _).mono ?_)
      rintro e v1 ⟨he, rfl⟩
      refine ⟨.bool true, by rw [he, c10], ?_⟩
      clear he
      refine Fx.L.val (v := .bool false) (by rfl) (Fx.x_notF rfl rfl) rfl ?_
      refine Fx.L.val (v := .bool false) (by rfl) (Fx.x_pickF rfl rfl rfl) rfl ?_
      refine Fx.L.nil ?_
      refine Fx.seqN ?_
      refine Fx.W.cond (b := false) rfl (fun h => nomatch h) (fun _ => ?_)
      refine Fx.W.skip ?_
      refine Fx.seqN ?_
      refine Fx.W.seq ?_
      have q1 := mayS_bd c6
      refine Fx.W.list ?_
      refine Fx.L.val (v := .int .i64 (n)) (by rfl) (Fx.x_move rfl rfl) rfl ?_
      refine Fx.L.val (v := .int .i64 (l)) (by rfl) (Fx.x_move rfl rfl) rfl ?_
      refine Fx.L.val (v := .int .i64 (l + 1)) (by rfl) (Fx.x_add rfl rfl rfl (Fx.i64e (by omega) (by omega))) rfl ?_
      refine Fx.L.val (v := .int .i64 ((l + 1) / 2)) (by rfl) (Fx.x_quo rfl rfl rfl (by omega) (by rw [Int.tdiv_eq_ediv_of_nonneg (by omega)]; exact Fx.i64e (by omega) rfl)) rfl ?_
      refine Fx.L.val (v := .int .i64 (mnI n ((l + 1) / 2))) (by rfl) (Fx.x_min rfl rfl rfl) rfl ?_
      refine Fx.L.val (v := .int .i64 (mnI n ((l + 1) / 2))) (by rfl) (Fx.x_assign rfl rfl) rfl ?_
      refine Fx.L.nil ?_
      refine Fx.seqN ?_
      refine Fx.W.ret ?_
      refine ⟨.int .i64 (mnI n ((l + 1) / 2)), Fx.retV1 Try.results25 (by exact rfl), ?_⟩
      exact ⟨congrArg (fun q => Ending.returned (Value.int .i64 q)) (Eq.symm (by unfold shareM; rw [c6, c10]; rfl)), rfl⟩
    · rw [Bool.not_eq_true] at c10
      refine Fx.L.call (by rfl) (Fx.r_call (args := [.int .i64 (n)]) rfl rfl Try.func71 rfl rfl) rfl ((d_may n _).mono ?_)
      rintro e v1 ⟨he, rfl⟩
      refine ⟨.bool false, by rw [he, c10], ?_⟩
      clear he
      refine Fx.L.val (v := .bool true) (by rfl) (Fx.x_notT rfl rfl) rfl ?_
      refine Fx.L.val (v := .bool true) (by rfl) (Fx.x_pickF rfl rfl rfl) rfl ?_
      refine Fx.L.nil ?_
      refine Fx.seqN ?_
      refine Fx.W.cond (b := true) rfl (fun _ => ?_) (fun h => nomatch h)
      refine Fx.W.seq ?_
      refine Fx.W.list ?_
      refine Fx.L.val (v := .int .i64 (0)) (by rfl) (Fx.x_assign rfl rfl) rfl ?_
      refine Fx.L.nil ?_
      refine Fx.seqN ?_
      refine Fx.W.ret ?_
      refine Fx.seqR ?_
      refine ⟨.int .i64 (0), Fx.retV1 Try.results25 (by exact rfl), ?_⟩
      exact ⟨congrArg (fun q => Ending.returned (Value.int .i64 q)) (Eq.symm (by unfold shareM; rw [c10, Bool.and_false]; rfl)), rfl⟩
  · rw [Bool.not_eq_true] at c6
    refine Fx.L.call (by rfl) (Fx.r_call (args := [.int .i64 (l)]) rfl rfl Try.func71 rfl rfl) rfl ((d_may l _).mono ?_)
    rintro e v1 ⟨he, rfl⟩
    refine ⟨.bool false, by rw [he, c6], ?_⟩
    clear he
    refine Fx.L.val (v := .bool true) (by rfl) (Fx.x_notT rfl rfl) rfl ?_
    refine Fx.L.val (v := .bool true) (by rfl) (Fx.x_move rfl rfl) rfl ?_
    refine Fx.L.skip (by rfl) rfl ?_
    refine Fx.L.skip (by rfl) rfl ?_
    refine Fx.L.skip (by rfl) rfl ?_
    refine Fx.L.val (v := .bool true) (by rfl) (Fx.x_pickT rfl rfl rfl) rfl ?_
    refine Fx.L.nil ?_
    refine Fx.seqN ?_
    refine Fx.W.cond (b := true) rfl (fun _ => ?_) (fun h => nomatch h)
    refine Fx.W.seq ?_
    refine Fx.W.list ?_
    refine Fx.L.val (v := .int .i64 (0)) (by rfl) (Fx.x_assign rfl rfl) rfl ?_
    refine Fx.L.nil ?_
    refine Fx.seqN ?_
    refine Fx.W.ret ?_
    refine Fx.seqR ?_
    refine ⟨.int .i64 (0), Fx.retV1 Try.results25 (by exact rfl), ?_⟩
    exact ⟨congrArg (fun q => Ending.returned (Value.int .i64 q)) (Eq.symm (by unfold shareM; rw [c6, Bool.false_and]; rfl)), rfl⟩
end Go.Proofs.Ytolmkjepieoloaa
