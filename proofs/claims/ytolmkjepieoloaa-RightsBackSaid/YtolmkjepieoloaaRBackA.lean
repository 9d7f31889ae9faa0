/-
  The walk of leatlaw07.RightsBack.
-/
import Derived.Test.YtolmkjepieoloaaRWorks
import Derived.Test.YtolmkjepieoloaaRMathB
import Derived.Test.YtolmkjepieoloaaREq
namespace Go.Proofs.Ytolmkjepieoloaa
open Go.RowKit Rt
/-- what the walk is told of the calls -/
structure Told (x y z c d : Nat → Int) (f g : Nat → Int) (i j k n f0 g0 h0 : Int) (a b : Nat) : Prop where
  may : ∀ w', Calls Try.prog 39 #[.agg (iarr .i64 54 x)] w' fun e w'' => e = .returned (.bool true) ∧ Below w'.heap.size w' w''
  mayY : ∀ w', Calls Try.prog 39 #[.agg (iarr .i64 54 y)] w' fun e w'' => e = .returned (.bool true) ∧ Below w'.heap.size w' w''
  sum : ∀ w', Calls Try.prog 41 #[.agg (iarr .i64 54 x)] w' fun e w'' => e = .returned (.tuple #[.int .i64 (gSum x), .int .i64 (uSum x)]) ∧ Below w'.heap.size w' w''
  sumY : ∀ w', Calls Try.prog 41 #[.agg (iarr .i64 54 y)] w' fun e w'' => e = .returned (.tuple #[.int .i64 (gSum x), .int .i64 (uSum x)]) ∧ Below w'.heap.size w' w''
  mv : ∀ w', Calls Try.prog 42 #[.agg (iarr .i64 54 x), .int .i64 i, .int .i64 j, .int .i64 n] w' (rpost (y, 0) w')
  mv2 : ∀ w', Calls Try.prog 42 #[.agg (iarr .i64 54 y), .int .i64 j, .int .i64 i, .int .i64 n] w' (rpost (z, f0) w')
  mv3 : ∀ w', Calls Try.prog 42 #[.agg (iarr .i64 54 y), .int .i64 j, .int .i64 k, .int .i64 n] w' (rpost (c, g0) w')
  mv4 : ∀ w', Calls Try.prog 42 #[.agg (iarr .i64 54 x), .int .i64 i, .int .i64 k, .int .i64 n] w' (rpost (d, h0) w')
  lx : ∀ q : Nat, q < 6 → ∀ w', Calls Try.prog 43 #[.agg (iarr .i64 54 x), .int .i64 ((q : Int) + 1)] w' fun e w'' => e = .returned (.int .i64 (f q)) ∧ Below w'.heap.size w' w''
  ly : ∀ q : Nat, q < 6 → ∀ w', Calls Try.prog 43 #[.agg (iarr .i64 54 y), .int .i64 ((q : Int) + 1)] w' fun e w'' => e = .returned (.int .i64 (f q + (if q = b then n else 0) - (if q = a then n else 0))) ∧ Below w'.heap.size w' w''
  lz : f0 = 0 → ∀ q : Nat, q < 6 → ∀ w', Calls Try.prog 43 #[.agg (iarr .i64 54 z), .int .i64 ((q : Int) + 1)] w' fun e w'' => e = .returned (.int .i64 (f q)) ∧ Below w'.heap.size w' w''
  lc : g0 = 0 → h0 = 0 → ∀ q : Nat, q < 6 → ∀ w', Calls Try.prog 43 #[.agg (iarr .i64 54 c), .int .i64 ((q : Int) + 1)] w' fun e w'' => e = .returned (.int .i64 (g q)) ∧ Below w'.heap.size w' w''
  ld : g0 = 0 → h0 = 0 → ∀ q : Nat, q < 6 → ∀ w', Calls Try.prog 43 #[.agg (iarr .i64 54 d), .int .i64 ((q : Int) + 1)] w' fun e w'' => e = .returned (.int .i64 (g q)) ∧ Below w'.heap.size w' w''
  bd : ∀ q : Nat, -(1125899906842624 * 8) ≤ f q ∧ f q ≤ 1125899906842624 * 8
theorem told_of {x : Nat → Int} {i j k n : Int} (hm : may x = true) (h0 : (moveM x i j n).2 = 0) (hi : -9223372036854775808 ≤ i ∧ i ≤ 9223372036854775807) (hj : -9223372036854775808 ≤ j ∧ j ≤ 9223372036854775807) (hk : -9223372036854775808 ≤ k ∧ k ≤ 9223372036854775807) :
    ∃ a b : Nat, a < 6 ∧ b < 6 ∧ a ≠ b ∧ i = (a : Int) + 1 ∧ j = (b : Int) + 1 ∧ 1 ≤ n ∧ n ≤ 1125899906842624 ∧ ∃ y z c d f g f0 g0 h0, Told x y z c d f g i j k n f0 g0 h0 a b := by
  obtain ⟨a, b, ha, hb, hab, hia, hjb, h1, h2, hL, hM, hy⟩ := move_ok h0
  have lv : ∀ (u : Nat → Int), may u = true → ∀ q : Nat, q < 6 → ∀ w', Calls Try.prog 43 #[.agg (iarr .i64 54 u), .int .i64 ((q : Int) + 1)] w' fun e w'' => e = .returned (.int .i64 (L u q)) ∧ Below w'.heap.size w' w'' := by
    intro u hu q hq w'
    have := localV_any u ((q : Int) + 1) w' (by omega)
    rw [localV_L hu q hq] at this; exact this
  have hxy : ∀ w', Calls Try.prog 42 #[.agg (iarr .i64 54 x), .int .i64 i, .int .i64 j, .int .i64 n] w' (rpost ((moveM x i j n).1, 0) w') := fun w' => by
    have := move_any x i j n w' hi hj
    rw [show moveM x i j n = ((moveM x i j n).1, 0) from Prod.ext rfl h0] at this; exact this
  clear hy
  generalize (moveM x i j n).1 = y at *
  have sm : ∀ u, may u = true → ∀ w', Calls Try.prog 41 #[.agg (iarr .i64 54 u)] w' fun e w'' => e = .returned (.tuple #[.int .i64 (gSum u), .int .i64 (uSum u)]) ∧ Below w'.heap.size w' w'' := fun u hu w' => by
    have := sums_any u w'; rw [sums_eq hu] at this; exact this
  have my : ∀ u, may u = true → ∀ w', Calls Try.prog 39 #[.agg (iarr .i64 54 u)] w' fun e w'' => e = .returned (.bool true) ∧ Below w'.heap.size w' w'' := fun u hu w' => by
    have := may_any u w'; rw [hu] at this; exact this
  have hyq : ∀ q : Nat, q < 6 → ∀ w', Calls Try.prog 43 #[.agg (iarr .i64 54 y), .int .i64 ((q : Int) + 1)] w' fun e w'' => e = .returned (.int .i64 (L x q + (if q = b then n else 0) - (if q = a then n else 0))) ∧ Below w'.heap.size w' w'' := fun q hq w' => by
    have := lv y hM.may q hq w'; rw [hM.l q hq] at this; exact this
  refine ⟨a, b, ha, hb, hab, hia, hjb, h1, h2, y, (moveM y j i n).1, (moveM y j k n).1, (moveM x i k n).1, fun q => if q < 6 then L x q else 0, fun q => L (moveM x i k n).1 q, (moveM y j i n).2, (moveM y j k n).2, (moveM x i k n).2, ?_⟩
  refine ⟨my x hm, my y hM.may, sm x hm, ?_, hxy, fun w' => move_any y j i n w' hj hi, fun w' => move_any y j k n w' hj hk, fun w' => move_any x i k n w' hi hk, ?_, ?_, ?_, ?_, ?_, ?_⟩
  · intro w'
    have := sm y hM.may w'; rw [hM.g, hM.u] at this; exact this
  · intro q hq; simp only [hq, if_true]; exact lv x hm q hq
  · intro q hq; simp only [hq, if_true]; exact hyq q hq
  · intro h3 q hq w'
    obtain ⟨a', b', ha', hb', _, e1, e2, _, _, _, hM', _⟩ := move_ok h3
    obtain rfl : a' = b := by omega
    obtain rfl : b' = a := by omega
    have := lv _ hM'.may q hq w'
    rw [hM'.l q hq, hM.l q hq, show (L x q + (if q = a' then n else 0) - (if q = b' then n else 0) + (if q = b' then n else 0) - (if q = a' then n else 0)) = L x q by omega] at this
    simp only [hq, if_true]; exact this
  · intro h3 h4 q hq w'
    obtain ⟨a', b', ha', hb', _, e1, e2, _, _, _, hM', _⟩ := move_ok h3
    obtain ⟨a2, b2, ha2, hb2, _, e3, e4, _, _, _, hM2, _⟩ := move_ok h4
    obtain rfl : a' = b := by omega
    obtain rfl : a2 = a := by omega
    obtain rfl : b2 = b' := by omega
    have := lv _ hM'.may q hq w'
    rw [hM'.l q hq, hM.l q hq] at this
    rw [hM2.l q hq, show (L x q + (if q = b2 then n else 0) - (if q = a2 then n else 0)) = (L x q + (if q = a' then n else 0) - (if q = a2 then n else 0) + (if q = b2 then n else 0) - (if q = a' then n else 0)) by omega]
    exact this
  · intro h3 h4 q hq w'
    obtain ⟨a2, b2, ha2, hb2, _, e3, e4, _, _, _, hM2, _⟩ := move_ok h4
    exact lv _ hM2.may q hq w'
  · intro q
    by_cases hq : q < 6
    · simp only [hq, if_true]
      have := localV_bd x ((q : Int) + 1)
      rw [localV_L hm q hq] at this; exact this
    · simp only [hq, if_false]; omega
end Go.Proofs.Ytolmkjepieoloaa
