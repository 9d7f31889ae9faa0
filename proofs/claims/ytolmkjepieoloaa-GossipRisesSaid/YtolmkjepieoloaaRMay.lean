/-
  The walks of rights.May, Local, Sums.
-/
import Derived.Test.YtolmkjepieoloaaRLocal
namespace Go.Proofs.Ytolmkjepieoloaa
open Go.RowKit Rt
namespace Rt
def mayK (x : Nat → Int) (k : Nat) : Bool := (localM x k).2 && decide (0 ≤ (localM x k).1) && decide (F x k ≤ C x k) && (R x k k == 0)
def mayN (x : Nat → Int) : Nat → Bool
  | 0 => true
  | k + 1 => mayN x k && mayK x k
def gs (x : Nat → Int) : List Int := [x 0, x 1, x 2, x 3, x 4, x 5]
def may (x : Nat → Int) : Bool := mayN x 6 && ((sumI (gs x)).2 && decide ((sumI (gs x)).1 ≤ 1125899906842624))
theorem mayN_false (x : Nat → Int) (k : Nat) (h : mayK x k = false) : ∀ n, k < n → mayN x n = false
  | 0, hn => absurd hn (by omega)
  | n + 1, hn => by
    rw [mayN]
    by_cases e : k = n
    · subst e; rw [h, Bool.and_false]
    · rw [mayN_false x k h n (by omega), Bool.false_and]
theorem may_false (x : Nat → Int) (k : Nat) (hk : k < 6) (h : mayK x k = false) : may x = false := by
  unfold may; rw [mayN_false x k h 6 hk, Bool.false_and]
end Rt
theorem rd_gs {w : World} {g : Nat} {x : Nat → Int} {t : TypeId} {fz : Nat × Nat} (h : w.heap[g]? = some (.cells (iarr .i64 54 x) t fz)) : RdI .i64 w (some ⟨g, 0, none⟩) (gs x) := by
  intro i hi
  have hi6 : i < 6 := hi
  refine ⟨g, 0, rfl, ?_⟩
  rw [Nat.zero_add, iarr_cell h i (by omega)]
  rcases (show i = 0 ∨ i = 1 ∨ i = 2 ∨ i = 3 ∨ i = 4 ∨ i = 5 by omega) with rfl | rfl | rfl | rfl | rfl | rfl <;> rfl
set_option maxHeartbeats 1000000 in
theorem may_any (x : Nat → Int) (w : World) :
    Calls Try.prog 39 #[.agg (iarr .i64 54 x)] w fun e w' => e = .returned (.bool (may x)) ∧ Below w.heap.size w w' := by
  go_enter Try.func39, Try.ntmps39
  go_wp2
  go_loopw [2, 3, 8] (fun r _ i wr => r = .bool false ∧ ∃ k : Nat, k ≤ 6 ∧ i = .int .i64 k ∧ mayN x k = true ∧ wr.heap[w.heap.size]? = some (.cells (iarr .i64 54 x) 48 (0, 0)) ∧ Below w.heap.size w wr) (fun _ _ i _ => 6 - (intOf i).toNat)
  case atStart => exact ⟨rfl, 0, Nat.zero_le _, rfl, rfl, heap_alloc_new w _, (Below.refl _ _).alloc (Nat.le_refl _) _⟩
  case round =>
    obtain ⟨rfl, k, hk, rfl, hN, hrow, hbel⟩ := hrel
    have hlt : w.heap.size < wr.heap.size := (Array.getElem?_eq_some_iff.1 hrow).1
    have Hrow : Hid _ := hrow
    have HN : Hid _ := hN
    clear hrow hN
    by_cases hk2 : k < 6
    · have hki : (k : Int) < 6 := by omega
      have HM : Hid (mayN x (k + 1) = (mayN x k && mayK x k)) := rfl
      have HF : Hid (mayK x k = false → may x = false) := fun h => may_false x k hk2 h
      have HK : Hid (mayK x k = ((localM x k).2 && decide (0 ≤ (localM x k).1) && decide (F x k ≤ C x k) && (R x k k == 0))) := rfl
      go_wp2_with fail
      refine (local_any w.heap.size _ _ x k wr hk2 Hrow).mono ?_
      rintro e w1 ⟨rfl, hb1⟩
      have hrow1 := (hb1.block _ hlt).trans Hrow.out
      have hbel1 := hbel.trans (hb1.mono (Nat.le_of_lt hlt))
      have c1 := iarr_cell hrow1 (12 + k) (by omega)
      have c2 := iarr_cell hrow1 (6 + k) (by omega)
      have c3 := iarr_cell hrow1 (18 + k * 6 + k) (by omega)
      have Hrow1 : Hid _ := hrow1
      clear hrow1 Hrow hbel hb1
      generalize (localM x k).1 = n at *
      generalize hF : F x k = f at *
      generalize hC : C x k = c at *
      generalize hR : R x k k = r at *
      unfold F at hF; unfold C at hC; unfold R at hR
      rw [hF] at c1; rw [hC] at c2; rw [hR] at c3
      clear hF hC hR
      cases his : (localM x k).2
      · rw [his] at HK
        clear his
        have HR : Hid _ := HF.out (by rw [HK.out]; rfl)
        clear HK HF HM
        go_wp2_with fail
        go_quiet (fail)
        go_wp2
        go_ret
        rw [HR.out]; exact ⟨rfl, bN hbel1 _⟩
      · rw [his] at HK
        clear his
        by_cases h1 : n < 0
        · have d1 : decide (n < 0) = true := by simpa using h1
          have d1' : decide (0 ≤ n) = false := by simp; omega
          have HR : Hid _ := HF.out (by rw [HK.out]; rw [d1']; rfl)
          clear HK HF HM
          go_wp2_with fail
          go_quiet (fail)
          go_wp2
          go_ret
          rw [HR.out]; exact ⟨rfl, bN hbel1 _⟩
        · have d1 : decide (n < 0) = false := by simp; omega
          have d1' : Hid (decide (0 ≤ n) = true) := by unfold Hid; simp; omega
          by_cases h2 : c < f
          · have d2 : decide (c < f) = true := by simpa using h2
            have d2' : decide (f ≤ c) = false := by simp; omega
            have HR : Hid _ := HF.out (by rw [HK.out]; rw [d2', Bool.and_false, Bool.false_and])
            clear HK HF HM
            go_wp2_with fail
            go_quiet (fail)
            go_wp2
            go_ret
            rw [HR.out]; exact ⟨rfl, bN hbel1 _⟩
          · have d2 : decide (c < f) = false := by simp; omega
            have d2' : Hid (decide (f ≤ c) = true) := by unfold Hid; simp; omega
            by_cases h3 : r = 0
            · subst h3
              go_wp2_with fail
              go_quiet (fail)
              go_wp2
              go_roundw
              case rel => exact ⟨rfl, k + 1, by omega, by go_num, by rw [HM.out, HN.out, HK.out, d1'.out, d2'.out]; rfl, Hrow1.out, bN hbel1 _⟩
              case measure => simp [intOf]; omega
            · have d3 : (r != 0) = true := by simpa using h3
              have d3' : (r == 0) = false := by simpa using h3
              have HR : Hid _ := HF.out (by rw [HK.out]; rw [d3', Bool.and_false])
              clear HK HF HM
              go_wp2_with fail
              go_quiet (fail)
              go_wp2
              go_ret
              rw [HR.out]; exact ⟨rfl, bN hbel1 _⟩
    · obtain rfl : k = 6 := by omega
      have HV : Hid (may x = ((sumI (gs x)).2 && decide ((sumI (gs x)).1 ≤ 1125899906842624))) := by unfold Hid may; rw [HN.out, Bool.true_and]
      have hg : RdI .i64 wr (some ⟨w.heap.size, 0, none⟩) (gs x) := rd_gs Hrow.out
      have HL : Hid ((gs x).length = 6) := rfl
      generalize gs x = l at *
      clear HN
      go_wp2_with fail
      refine (sum_any _ 6 _ l _ (by omega) HL hg).mono ?_
      rintro e w1 ⟨rfl, rfl⟩
      generalize (sumI l).1 = n at *
      cases h : (sumI l).2
      · rw [h] at HV
        clear h
        go_wp2_with fail
        go_ret
        rw [HV.out]; exact ⟨rfl, hbel⟩
      · rw [h] at HV
        clear h
        go_wp2_with fail
        go_ret
        rw [HV.out]; exact ⟨rfl, hbel⟩
end Go.Proofs.Ytolmkjepieoloaa
