/-
  The walks of rights.region, Local, Sums.
-/
import Derived.Test.YtolmkjepieoloaaRMay
namespace Go.Proofs.Ytolmkjepieoloaa
open Go.RowKit Rt
namespace Rt
def regB (i : Int) : Bool := decide (1 ≤ i) && decide (i ≤ 6)
def localV (x : Nat → Int) (i : Int) : Int := if regB i && may x then (localM x (i.toNat - 1)).1 else 0
def limN (x : Nat → Int) : Nat → Int
  | 0 => 0
  | k + 1 => limN x k + G x k
def usedN (x : Nat → Int) : Nat → Int
  | 0 => 0
  | k + 1 => usedN x k + (C x k - F x k)
def sums (x : Nat → Int) : Int × Int := if may x then (limN x 6, usedN x 6) else (0, 0)
theorem okN_bd {n : Int} (h : okN n = true) : 0 ≤ n ∧ n ≤ 1125899906842624 := by unfold okN at h; simpa using h
theorem sumI_ok {l : List Int} (h : (sumI l).2 = true) : sumOk l = true := by
  unfold sumI at h
  by_cases h2 : sumOk l = true
  · exact h2
  · rw [if_neg h2] at h; exact absurd h (by decide)
theorem sumOk_mem {l : List Int} (h : sumOk l = true) {n : Int} (hn : n ∈ l) : 0 ≤ n ∧ n ≤ 1125899906842624 := by
  unfold sumOk at h
  rw [List.all_eq_true] at h
  exact okN_bd (h n hn)
theorem outs_mem (x : Nat → Int) (k : Nat) : ∀ j, C x k ∈ outs x k j
  | 0 => by simp [outs]
  | j + 1 => by rw [outs]; exact List.mem_append_left _ (outs_mem x k j)
theorem outs_memR (x : Nat → Int) (k i : Nat) : ∀ j, i < j → R x k i ∈ outs x k j
  | 0, h => absurd h (by omega)
  | j + 1, h => by
    rw [outs]
    by_cases e : i = j
    · subst e; simp
    · exact List.mem_append_left _ (outs_memR x k i j (by omega))
theorem ins_mem (x : Nat → Int) (k : Nat) : ∀ j, G x k ∈ ins x k j ∧ F x k ∈ ins x k j
  | 0 => by simp [ins]
  | j + 1 => by rw [ins]; exact ⟨List.mem_append_left _ (ins_mem x k j).1, List.mem_append_left _ (ins_mem x k j).2⟩
/-- what may be: each number is in its bounds -/
theorem mayN_at (x : Nat → Int) (k : Nat) : ∀ n, mayN x n = true → k < n → mayK x k = true
  | 0, _, hk => absurd hk (by omega)
  | n + 1, h, hk => by
    rw [mayN, Bool.and_eq_true] at h
    by_cases e : k = n
    · subst e; exact h.2
    · exact mayN_at x k n h.1 (by omega)
theorem may_mayK {x : Nat → Int} (h : may x = true) (k : Nat) (hk : k < 6) : mayK x k = true := by
  unfold may at h; rw [Bool.and_eq_true] at h; exact mayN_at x k 6 h.1 hk
structure KOk (x : Nat → Int) (k : Nat) : Prop where
  g : 0 ≤ G x k ∧ G x k ≤ 1125899906842624
  c : 0 ≤ C x k ∧ C x k ≤ 1125899906842624
  f : 0 ≤ F x k ∧ F x k ≤ 1125899906842624
  fc : F x k ≤ C x k
  r : ∀ i, i < 6 → 0 ≤ R x k i ∧ R x k i ≤ 1125899906842624
  l : 0 ≤ (localM x k).1
  rkk : R x k k = 0
  l2 : (localM x k).2 = true
theorem mayK_ok {x : Nat → Int} {k : Nat} (h : mayK x k = true) : KOk x k := by
  unfold mayK at h
  rw [Bool.and_eq_true, Bool.and_eq_true, Bool.and_eq_true] at h
  obtain ⟨⟨⟨h1, h2⟩, h3⟩, h4⟩ := h
  have h1' := h1
  unfold localM at h1
  rw [Bool.and_eq_true] at h1
  have ho := sumI_ok h1.1
  have hi := sumI_ok h1.2
  exact ⟨sumOk_mem hi (ins_mem x k 6).1, sumOk_mem ho (outs_mem x k 6), sumOk_mem hi (ins_mem x k 6).2, by simpa using h3, fun i hi' => sumOk_mem ho (outs_memR x k i 6 hi'), by simpa using h2, by simpa using h4, h1'⟩
theorem may_ok {x : Nat → Int} (h : may x = true) (k : Nat) (hk : k < 6) : KOk x k := mayK_ok (may_mayK h k hk)
theorem limN_bd {x : Nat → Int} (h : ∀ k, k < 6 → KOk x k) : ∀ k, k ≤ 6 → 0 ≤ limN x k ∧ limN x k ≤ 1125899906842624 * (k : Int)
  | 0, _ => by simp [limN]
  | k + 1, hk => by have := limN_bd h k (by omega); have := (h k (by omega)).g; rw [limN]; omega
theorem usedN_bd {x : Nat → Int} (h : ∀ k, k < 6 → KOk x k) : ∀ k, k ≤ 6 → 0 ≤ usedN x k ∧ usedN x k ≤ 1125899906842624 * (k : Int)
  | 0, _ => by simp [usedN]
  | k + 1, hk => by have := usedN_bd h k (by omega); have := h k (by omega); have := this.c; have := this; have h2 := (h k (by omega)).f; have h3 := (h k (by omega)).fc; rw [usedN]; omega
theorem localM_bd (x : Nat → Int) (k : Nat) : -(1125899906842624 * 8) ≤ (localM x k).1 ∧ (localM x k).1 ≤ 1125899906842624 * 8 := by
  have a := sumI_bound (ins x k 6)
  have b := sumI_bound (outs x k 6)
  rw [ins_len'] at a
  rw [outs_len'] at b
  unfold localM
  simp only
  omega
end Rt
set_option maxHeartbeats 400000 in
theorem region_any (i : Int) (w : World) (hi : -9223372036854775808 ≤ i ∧ i ≤ 9223372036854775807) :
    Calls Try.prog 82 #[.int .i64 i] w fun e w' => e = .returned (.bool (regB i)) ∧ w' = w := by
  unfold regB
  by_cases h1 : i < 1
  · have d1 : decide (1 ≤ i) = false := by simp; omega
    have D1 : Hid _ := d1
    go_enter Try.func82, Try.ntmps82
    go_wp2
    go_ret
    first | exact ⟨rfl, rfl⟩ | (rw [D1.out]; exact ⟨rfl, rfl⟩)
  · have d1 : decide (1 ≤ i) = true := by simp; omega
    have D1 : Hid _ := d1
    go_enter Try.func82, Try.ntmps82
    go_wp2
    go_ret
    first | exact ⟨rfl, rfl⟩ | (rw [D1.out]; exact ⟨rfl, rfl⟩)
theorem infoR : (Try.prog.info? 48).map (·.size) = some 54 := by kernel_rfl
theorem localV_no (x : Nat → Int) (i : Int) (h : (regB i && may x) = false) : localV x i = 0 := by unfold localV; rw [if_neg (by rw [h]; decide)]
set_option maxRecDepth 100000 in
set_option maxHeartbeats 400000 in
theorem localV_any (x : Nat → Int) (i : Int) (w : World) (hi : -9223372036854775808 ≤ i ∧ i ≤ 9223372036854775807) :
    Calls Try.prog 43 #[.agg (iarr .i64 54 x), .int .i64 i] w fun e w' => e = .returned (.int .i64 (localV x i)) ∧ Below w.heap.size w w' := by
  have HV : Hid (localV x i = if regB i && may x then (localM x (i.toNat - 1)).1 else 0) := rfl
  have hrow : Hid ((w.alloc (.cells (iarr .i64 54 x) 48)).heap[w.heap.size]? = some (.cells (iarr .i64 54 x) 48 (0, 0))) := heap_alloc_new w _
  have HR : Hid ((regB i = true ↔ 1 ≤ i ∧ i ≤ 6)) := by unfold Hid regB; simp
  have hreg : Hid (∀ w', Calls Try.prog 82 #[.int .i64 i] w' fun e w'' => e = .returned (.bool (regB i)) ∧ w'' = w') := fun w' => region_any i w' hi
  have hmay : Hid (∀ w', Calls Try.prog 39 #[.agg (iarr .i64 54 x)] w' fun e w'' => e = .returned (.bool (may x)) ∧ Below w'.heap.size w' w'') := fun w' => may_any x w'
  generalize regB i = r at *
  cases r
  · go_enter Try.func43, Try.ntmps43
    go_wp2_with (go_at_call 82; refine (hreg.out _).mono ?_; rintro e w' ⟨rfl, rfl⟩)
    go_ret
    rw [HV.out]; exact ⟨rfl, (Below.refl _ _).alloc (Nat.le_refl _) _⟩
  · have hb : 1 ≤ i ∧ i ≤ 6 := HR.out.1 rfl
    obtain ⟨k, hk⟩ := Int.eq_ofNat_of_zero_le (show 0 ≤ i - 1 by omega)
    have Hk : Hid (i - 1 = (k : Int)) := hk
    have hk6 : k < 6 := by omega
    have hkt : Hid (i.toNat - 1 = k) := by unfold Hid; omega
    clear hk
    generalize may x = m at *
    cases m
    · go_enter Try.func43, Try.ntmps43
      go_wp2_with (first
        | (go_at_call 82; refine (hreg.out _).mono ?_; rintro e w' ⟨rfl, rfl⟩)
        | (refine wpList_wanted (by rfl) (wp_load_row (o := ⟨some 11, _, _, _, _, _⟩) 48 (.tmp 2) (by rfl) w.heap.size (by rfl) 48 (iarr .i64 54 x) (0, 0) _ hrow.out Try.underlying48 (by rfl) (by rw [iarr_size]; exact infoR) ?_))
        | (go_at_call 39; refine (hmay.out _).mono ?_; rintro e w1 ⟨rfl, hb1⟩))
      go_ret
      rw [HV.out]; exact ⟨rfl, bal hb1⟩
    · go_enter Try.func43, Try.ntmps43
      go_wp2_with (first
        | (go_at_call 82; refine (hreg.out _).mono ?_; rintro e w' ⟨rfl, rfl⟩)
        | (refine wpList_wanted (by rfl) (wp_load_row (o := ⟨some 11, _, _, _, _, _⟩) 48 (.tmp 2) (by rfl) w.heap.size (by rfl) 48 (iarr .i64 54 x) (0, 0) _ hrow.out Try.underlying48 (by rfl) (by rw [iarr_size]; exact infoR) ?_))
        | (go_at_call 39; refine (hmay.out _).mono ?_; rintro e w1 ⟨rfl, hb1⟩)
        | (go_at_call 78; rw [Hk.out]; refine (local_any w.heap.size 48 (0, 0) x k w1 hk6 ((hb1.block _ (by simp)).trans hrow.out)).mono ?_; rintro e w2 ⟨rfl, hb2⟩))
      go_ret
      rw [HV.out, hkt.out]; exact ⟨rfl, bch (bal hb1) hb2⟩
set_option maxRecDepth 100000 in
set_option maxHeartbeats 1000000 in
theorem sums_any (x : Nat → Int) (w : World) :
    Calls Try.prog 41 #[.agg (iarr .i64 54 x)] w fun e w' => e = .returned (.tuple #[.int .i64 (sums x).1, .int .i64 (sums x).2]) ∧ Below w.heap.size w w' := by
  have HV : Hid (sums x = if may x then (limN x 6, usedN x 6) else (0, 0)) := rfl
  have hrow : Hid ((w.alloc (.cells (iarr .i64 54 x) 48)).heap[w.heap.size]? = some (.cells (iarr .i64 54 x) 48 (0, 0))) := heap_alloc_new w _
  have hmay : Hid (∀ w', Calls Try.prog 39 #[.agg (iarr .i64 54 x)] w' fun e w'' => e = .returned (.bool (may x)) ∧ Below w'.heap.size w' w'') := fun w' => may_any x w'
  have hok : Hid (may x = true → ∀ k, k < 6 → KOk x k) := fun h k hk => may_ok h k hk
  generalize may x = m at *
  cases m
  · go_enter Try.func41, Try.ntmps41
    go_wp2_with (first
      | (refine wpList_load_row (o := ⟨some 5, _, _, _, _, _⟩) (by rfl) 48 (.tmp 1) (by rfl) w.heap.size (by rfl) 48 (iarr .i64 54 x) (0, 0) _ hrow.out Try.underlying48 (by rfl) (by rw [iarr_size]; exact infoR) ?_)
      | (go_at_call 39; refine (hmay.out _).mono ?_; rintro e w1 ⟨rfl, hb1⟩))
    go_ret2
    rw [HV.out]; exact ⟨rfl, bal hb1⟩
  · have hK := hok.out rfl
    have HK : Hid _ := hK
    clear hK hok
    go_enter Try.func41, Try.ntmps41
    go_wp2_with (first
      | (refine wpList_load_row (o := ⟨some 5, _, _, _, _, _⟩) (by rfl) 48 (.tmp 1) (by rfl) w.heap.size (by rfl) 48 (iarr .i64 54 x) (0, 0) _ hrow.out Try.underlying48 (by rfl) (by rw [iarr_size]; exact infoR) ?_)
      | (go_at_call 39; refine (hmay.out _).mono ?_; rintro e w1 ⟨rfl, hb1⟩))
    have hrow1 := (hb1.block w.heap.size (by simp)).trans hrow.out
    have hbel := bal hb1
    clear hb1 hrow
    go_loopw [2, 3, 4, 8] (fun a b _ i wr => ∃ k : Nat, k ≤ 6 ∧ i = .int .i64 k ∧ a = .int .i64 (limN x k) ∧ b = .int .i64 (usedN x k) ∧ wr.heap[w.heap.size]? = some (.cells (iarr .i64 54 x) 48 (0, 0)) ∧ Below w.heap.size w wr) (fun _ _ _ i _ => 6 - (intOf i).toNat)
    case atStart => exact ⟨0, Nat.zero_le _, rfl, rfl, rfl, hrow1, hbel⟩
    case round =>
      obtain ⟨k, hk, rfl, rfl, rfl, hr, hb⟩ := hrel
      have Hr : Hid _ := hr
      have l1 := limN_bd HK.out k hk
      have l2 := usedN_bd HK.out k hk
      by_cases hk2 : k < 6
      · have hki : (k : Int) < 6 := by omega
        have c1 := iarr_cell hr k (by omega)
        have c2 := iarr_cell hr (6 + k) (by omega)
        have c3 := iarr_cell hr (12 + k) (by omega)
        have q := HK.out k hk2
        have q1 := q.g
        have q2 := q.c
        have q3 := q.f
        have HL : Hid (limN x (k + 1) = limN x k + G x k) := rfl
        have HU : Hid (usedN x (k + 1) = usedN x k + (C x k - F x k)) := rfl
        unfold G at q1 HL; unfold C at q2 HU; unfold F at q3 HU
        clear hr q
        generalize x k = g at *
        generalize x (6 + k) = c at *
        generalize x (12 + k) = f at *
        generalize limN x k = n1 at *
        generalize usedN x k = n2 at *
        go_wp2
        go_quiet (fail)
        go_wp2
        go_roundw
        case rel => exact ⟨k + 1, by omega, by go_num, by rw [HL.out], by rw [HU.out], Hr.out, bN hb _⟩
        case measure => simp [intOf]; omega
      · obtain rfl : k = 6 := by omega
        clear hr Hr
        go_wp2
        go_ret2
        rw [HV.out]; exact ⟨rfl, hb⟩
end Go.Proofs.Ytolmkjepieoloaa
