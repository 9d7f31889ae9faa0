/-
  CrcFar, CrcNoughts.
-/
import Derived.Test.YtenkbgcmmmdhmaaBytes
import Derived.Test.YtenkbgcmmmdhmaaMath
import Derived.Deep.RegionWith
import Derived.Deep.OwnRows
namespace Go.Proofs.Ytenkbgcmmmdhmaa
open Go.RowKit Crc
attribute [local go_sem] signed_u32 bnotm bxor band bxorb bone bshr bpat stp_mul stp_walk wrap_I wrap_J bshb shr_succ one_shl I_beq
attribute [local irreducible] Crc.sum Crc.join Crc.rsum Crc.more Crc.rmore Crc.turn strB
theorem far_eq (s : W32) (a b : Int) (ha : 0 ≤ a ∧ a ≤ 4294967295) (hb : 0 ≤ b ∧ b ≤ 4294967295) :
    (turn (turn s (a * 128).toNat) (b * 128).toNat == turn s (a * 128 + b * 128).toNat) = true := by
  rw [turn_add _ _ _ (by omega), show (a * 128).toNat + (b * 128).toNat = (a * 128 + b * 128).toNat by omega]; exact beq_self_eq_true _
theorem far_eq2 (s : W32) (k : Int) (hk : 0 ≤ k ∧ k ≤ 255) : (turn s (-k).toNat == s) = true := by
  rw [show (-k).toNat = 0 by omega, turn_zero]; exact beq_self_eq_true _
theorem far_eq3 (s : W32) (k : Int) (hk : 0 ≤ k ∧ k ≤ 255) : (join s 0#32 (-k).toNat == s) = true := by
  rw [show (-k).toNat = 0 by omega, join_zero]; exact beq_self_eq_true _
set_option maxHeartbeats 1000000 in
theorem far_any (s : W32) (a b : Int) (k : Int) (w : World) (ha : 0 ≤ a ∧ a ≤ 4294967295) (hb : 0 ≤ b ∧ b ≤ 4294967295) (hk : 0 ≤ k ∧ k ≤ 255) :
    Calls Try.prog 9 #[.int .u32 (I s), .int .u32 a, .int .u32 b, .int .u8 k] w fun e w' => e = .returned (.bool true) ∧ Below w.heap.size w w' := by
  have e1 := far_eq s a b ha hb
  have e2 := far_eq2 s k hk
  have e3 := far_eq3 s k hk
  go_enter Try.func9, Try.ntmps9
  go_wp2_with fail
  refine (turn_any _ _ _ (by omega)).mono ?_
  rintro e w1 ⟨rfl, hb1⟩
  go_wp2_with fail
  refine (turn_any _ _ _ (by omega)).mono ?_
  rintro e w2 ⟨rfl, hb2⟩
  go_wp2_with fail
  refine (turn_any _ _ _ (by omega)).mono ?_
  rintro e w3 ⟨rfl, hb3⟩
  go_wp2_with fail
  refine (turn_any _ _ _ (by omega)).mono ?_
  rintro e w4 ⟨rfl, hb4⟩
  go_wp2_with fail
  refine (join_any _ 0#32 _ _ (by omega)).mono ?_
  rintro e w5 ⟨rfl, hb5⟩
  go_wp2_with fail
  refine (works_any _).mono ?_
  rintro e w6 ⟨rfl, hb6⟩
  go_wp2_with fail
  go_ret
  exact ⟨rfl, bch (bch (bch (bch (bch hb1 hb2) hb3) hb4) hb5) hb6⟩
theorem far_walk (a0 a1 a2 a3 : Int) (w : World) (w0 : (Lit.int .u32 a0).wf = true) (w1 : (Lit.int .u32 a1).wf = true) (w2 : (Lit.int .u32 a2).wf = true) (w3 : (Lit.int .u8 a3).wf = true) :
    Calls Try.prog 9 #[.int .u32 a0, .int .u32 a1, .int .u32 a2, .int .u8 a3] w fun e w' => e = .returned (.bool true) ∧ Below w.heap.size w w' := by
  obtain ⟨s, rfl⟩ := word_of w0
  have hb1 : 0 ≤ a1 ∧ a1 ≤ 4294967295 := by simpa [Lit.wf, IntKind.min, IntKind.max, IntKind.signed, IntKind.bits] using w1
  have hb2 : 0 ≤ a2 ∧ a2 ≤ 4294967295 := by simpa [Lit.wf, IntKind.min, IntKind.max, IntKind.signed, IntKind.bits] using w2
  have hb3 : 0 ≤ a3 ∧ a3 ≤ 255 := by simpa [Lit.wf, IntKind.min, IntKind.max, IntKind.signed, IntKind.bits] using w3
  exact far_any s a1 a2 a3 w hb1 hb2 hb3
theorem rd_made (w : World) (n : Nat) : Rd (w.alloc (.cells (madeCells #[.int .u8 0] n) 5)) (some ⟨w.heap.size, 0, none⟩) (List.replicate n 0) := by
  intro k hk
  have hk' : k < n := by simpa using hk
  refine ⟨w.heap.size, 0, rfl, ?_⟩
  rw [Nat.zero_add, cell_of_row _ _ _ _ _ _ (heap_alloc_new w _)]
  unfold madeCells
  simp [hk', J, Nat.mod_one]
theorem heq_law (s : W32) (m : Nat) (hmm : m ≤ 3000) : (turn s m == rmore s (List.replicate m 0)) = true := by
  rw [turn_more _ _ (by omega)]; exact beq_self_eq_true _
set_option maxHeartbeats 1000000 in
theorem noughts_pos (s : W32) (m : Nat) (w : World) (hmm : m ≤ 3000) :
    Calls Try.prog 8 #[.int .u32 (I s), .int .i64 m] w fun e w' => e = .returned (.bool true) ∧ Below w.heap.size w w' := by
  have hmk := run_make_row' (P := Try.prog) 22 5 (.int .u8 0) 1 Try.underlying22 info5 rfl .i64 .i64 m (by omega) (by omega)
  have heq := heq_law s m hmm
  go_enter Try.func8, Try.ntmps8
  go_wp2_with fail
  go_region_with (first
    | (go_at_call 17; refine (turn_any _ _ _ (by omega)).mono ?_; rintro e w' ⟨rfl, hb⟩)
    | (go_at_call 15; refine (rmore_any s _ m m (List.replicate m 0) _ (by omega) (by simp) (by first | exact rd_made _ _ | exact rd_made w.drew m | exact rd_kept hb (by exact rd_made w.drew m))).mono ?_; rintro e w' ⟨rfl, rfl⟩)
    | (go_at_call 11; refine (works_any _).mono ?_; rintro e w' ⟨rfl, hbw⟩))
  all_goals go_wp2
  all_goals go_ret
  all_goals first | exact ⟨rfl, bdr (bch hb (bal hbw))⟩ | exact ⟨rfl, bdr (bal (bch hb hbw))⟩ | exact ⟨rfl, bal (bdr (bch hb hbw))⟩
set_option maxHeartbeats 1000000 in
theorem noughts_neg (s : W32) (n : Int) (w : World) (hn : -9223372036854775808 ≤ n ∧ n < 0) :
    Calls Try.prog 8 #[.int .u32 (I s), .int .i64 n] w fun e w' => e = .returned (.bool true) ∧ Below w.heap.size w w' := by
  have hmk := run_make_row' (P := Try.prog) 22 5 (.int .u8 0) 1 Try.underlying22 info5 rfl .i64 .i64 0 (by omega) (by omega)
  rw [show (((0 : Nat) : Int)) = (0 : Int) from rfl] at hmk
  have heq : (turn s n.toNat == rmore s []) = true := by
    rw [show n.toNat = 0 by omega]; exact heq_law s 0 (by omega)
  go_enter Try.func8, Try.ntmps8
  go_wp2_with fail
  go_region_with (first
    | (go_at_call 17; refine (turn_any _ _ _ (by omega)).mono ?_; rintro e w' ⟨rfl, hb⟩)
    | (go_at_call 15; refine (rmore_any s _ 0 0 [] _ (by omega) (by rfl) (by intro k hk; exact absurd hk (by simp))).mono ?_; rintro e w' ⟨rfl, rfl⟩)
    | (go_at_call 11; refine (works_any _).mono ?_; rintro e w' ⟨rfl, hbw⟩))
  all_goals go_wp2
  all_goals go_ret
  all_goals first | exact ⟨rfl, bdr (bch hb (bal hbw))⟩ | exact ⟨rfl, bdr (bal (bch hb hbw))⟩ | exact ⟨rfl, bal (bdr (bch hb hbw))⟩
set_option maxHeartbeats 400000 in
theorem noughts_vast (s : W32) (n : Int) (w : World) (hn : 3000 < n ∧ n ≤ 9223372036854775807) :
    Calls Try.prog 8 #[.int .u32 (I s), .int .i64 n] w fun e w' => e = .returned (.bool true) ∧ Below w.heap.size w w' := by
  go_enter Try.func8, Try.ntmps8
  go_wp2_with fail
  refine (works_any _).mono ?_
  rintro e w6 ⟨rfl, hb6⟩
  go_wp2_with fail
  go_ret
  exact ⟨rfl, hb6⟩
theorem noughts_walk (a0 : Int) (a1 : Int) (w : World) (w0 : (Lit.int .u32 a0).wf = true) (w1 : (Lit.int .i64 a1).wf = true) :
    Calls Try.prog 8 #[.int .u32 a0, .int .i64 a1] w fun e w' => e = .returned (.bool true) ∧ Below w.heap.size w w' := by
  obtain ⟨s, rfl⟩ := word_of w0
  have hb : -9223372036854775808 ≤ a1 ∧ a1 ≤ 9223372036854775807 := by
    simpa [Lit.wf, IntKind.min, IntKind.max, IntKind.signed, IntKind.bits] using w1
  by_cases h0 : a1 < 0
  · exact noughts_neg s a1 w ⟨hb.1, h0⟩
  · by_cases h1 : 3000 < a1
    · exact noughts_vast s a1 w ⟨h1, hb.2⟩
    · obtain ⟨m, rfl⟩ := Int.eq_ofNat_of_zero_le (show 0 ≤ a1 by omega)
      exact noughts_pos s m w (by omega)
end Go.Proofs.Ytenkbgcmmmdhmaa
