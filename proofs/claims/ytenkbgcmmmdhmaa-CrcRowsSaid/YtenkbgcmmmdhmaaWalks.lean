/-
  The walks of crc and its reference.
-/
import Derived.Test.YtenkbgcmmmdhmaaRows
import Derived.Test.YtenkbgcmmmdhmaaPlain
import Derived.WalkKit
import Derived.WalkSpells
import Derived.WalkLawsBesides
namespace Go.Proofs.Ytenkbgcmmmdhmaa
open Go.RowKit Crc
attribute [local go_sem] signed_u32 bnotm bxor band bxorb bone bshr bpat stp_mul stp_walk wrap_I wrap_J bshb
set_option maxHeartbeats 400000 in
theorem stepped_any (s : W32) (w : World) :
    Calls Try.prog 18 #[.int .u32 (I s)] w fun e w' => e = .returned (.int .u32 (I (stpN 8 s))) ∧ w' = w := by
  go_enter Try.func18, Try.ntmps18
  go_wp2
  go_loop [0, 3] (fun v i => ∃ k : Nat, k ≤ 8 ∧ i = .int .i64 k ∧ v = .int .u32 (I (stpN k s))) (fun _ i => 8 - (intOf i).toNat)
  case atStart => exact ⟨0, Nat.zero_le _, rfl, rfl⟩
  case round =>
    obtain ⟨k, hk, rfl, rfl⟩ := hrel
    by_cases hlt : k < 8
    · go_wp2
      go_round
      case rel => exact ⟨k + 1, by omega, by go_num, rfl⟩
      case measure => simp [intOf]; omega
    · obtain rfl : k = 8 := by omega
      go_wp2
      go_ret
      exact ⟨rfl, rfl⟩
set_option maxHeartbeats 400000 in
theorem more_any (s : W32) (a : Option Addr) (len cap : Nat) (bs : List UInt8) (w : World)
  (hlen : len ≤ 140737488355328) (hbs : bs.length = len) (hr : Rd w a bs) :
    Calls Try.prog 14 #[.int .u32 (I s), .slice a len cap] w fun e w' => e = .returned (.int .u32 (I (more s bs))) ∧ w' = w := by
  have Hbs : Hid (bs.length = len) := hbs
  clear hbs
  go_enter Try.func14, Try.ntmps14
  go_wp2
  go_loop [5, 12] (fun v i => ∃ k : Nat, k ≤ len ∧ i = .int .i64 k ∧ v = .int .u32 (I ((bs.take k).foldl byteStep (~~~ s)))) (fun _ i => len - (intOf i).toNat)
  case atStart => exact ⟨0, Nat.zero_le _, rfl, rfl⟩
  case round =>
    obtain ⟨k, hk, rfl, rfl⟩ := hrel
    by_cases hlt : k < len
    · have hk' : k < bs.length := by rw [Hbs.out]; exact hlt
      have HT : Hid ((bs.take (k + 1)).foldl byteStep (~~~ s) = byteStep ((bs.take k).foldl byteStep (~~~ s)) bs[k]) := take_succ_foldl _ _ _ _ hk'
      obtain ⟨b, off, rfl, hc⟩ := rd_at hr k hk'
      clear hr
      go_wp2_with (go_at_call 18; refine (stepped_any _ _).mono ?_; rintro e w' ⟨rfl, rfl⟩)
      go_round
      case rel => exact ⟨k + 1, by omega, by go_num, by rw [HT.out]; rfl⟩
      case measure => simp [intOf]; omega
    · have hm := more_all s bs k (by rw [Hbs.out]; exact hlt)
      have Hm : Hid (_ = _) := hm
      clear hm
      go_wp2
      go_ret
      rw [Hm.out]
      exact ⟨rfl, rfl⟩
set_option maxHeartbeats 400000 in
theorem sum_any (a : Option Addr) (len cap : Nat) (bs : List UInt8) (w : World)
  (hlen : len ≤ 140737488355328) (hbs : Hid (bs.length = len)) (hr : Rd w a bs) :
    Calls Try.prog 12 #[.slice a len cap] w fun e w' => e = .returned (.int .u32 (I (sum bs))) ∧ w' = w := by
  go_enter Try.func12, Try.ntmps12
  go_wp2_with (go_at_call 14; refine (more_any 0#32 a len cap bs _ hlen hbs.out hr).mono ?_; rintro e w' ⟨rfl, rfl⟩)
  go_ret
  exact ⟨rfl, rfl⟩
set_option maxHeartbeats 400000 in
theorem rstep_any (s x : W32) (w : World) :
    Calls Try.prog 19 #[.int .u32 (I s), .int .u32 (I x)] w fun e w' => e = .returned (.int .u32 (I (rstep s x))) ∧ w' = w := by
  go_enter Try.func19, Try.ntmps19
  go_wp2
  · have h : (I (s &&& 1#32 ^^^ x) == 1) = true := by assumption
    have Hh : Hid _ := rstep_hi s x h
    go_ret
    rw [← Hh.out]; exact ⟨rfl, rfl⟩
  · have h : (I (s &&& 1#32 ^^^ x) == 1) = false := by assumption
    have Hh : Hid _ := rstep_lo s x h
    go_ret
    rw [← Hh.out]; exact ⟨rfl, rfl⟩
set_option maxHeartbeats 400000 in
theorem rmore_any (s : W32) (a : Option Addr) (len cap : Nat) (bs : List UInt8) (w : World)
  (hlen : len ≤ 140737488355328) (hbs : bs.length = len) (hr : Rd w a bs) :
    Calls Try.prog 15 #[.int .u32 (I s), .slice a len cap] w fun e w' => e = .returned (.int .u32 (I (rmore s bs))) ∧ w' = w := by
  have Hbs : Hid (bs.length = len) := hbs
  clear hbs
  go_enter Try.func15, Try.ntmps15
  go_wp2
  go_loop [5, 6] (fun v i => ∃ k : Nat, k ≤ len ∧ i = .int .i64 k ∧ v = .int .u32 (I ((bs.take k).foldl rbyte (~~~ s)))) (fun _ i => len - (intOf i).toNat)
  case atStart => exact ⟨0, Nat.zero_le _, rfl, rfl⟩
  case round =>
    obtain ⟨k, hk, rfl, rfl⟩ := hrel
    by_cases hlt : k < len
    · have hk' : k < bs.length := by rw [Hbs.out]; exact hlt
      have HT : Hid ((bs.take (k + 1)).foldl rbyte (~~~ s) = rbyte ((bs.take k).foldl rbyte (~~~ s)) bs[k]) := take_succ_foldl _ _ _ _ hk'
      obtain ⟨b, off, rfl, hc⟩ := rd_at hr k hk'
      clear hr
      generalize (bs.take k).foldl rbyte (~~~ s) = s0 at *
      generalize bs[k] = c at *
      go_wp2
      go_loop [5, 7] (fun v i => ∃ m : Nat, m ≤ 8 ∧ i = .int .i64 m ∧ v = .int .u32 (I (rbyteN c m s0))) (fun _ i => 8 - (intOf i).toNat)
      case atStart => exact ⟨0, Nat.zero_le _, rfl, rfl⟩
      case round =>
        obtain ⟨m, hm, rfl, rfl⟩ := hrel
        by_cases hlm : m < 8
        · go_wp2_with (go_at_call 19; refine (rstep_any _ _ _).mono ?_; rintro e w' ⟨rfl, rfl⟩)
          go_round
          case rel => exact ⟨m + 1, by omega, by go_num, rfl⟩
          case measure => simp [intOf]; omega
        · obtain rfl : m = 8 := by omega
          go_wp2
          go_round
          case rel => exact ⟨k + 1, by omega, by go_num, by rw [HT.out]; rfl⟩
          case measure => simp [intOf]; omega
    · have hm := rmore_all s bs k (by rw [Hbs.out]; exact hlt)
      have Hm : Hid (_ = _) := hm
      clear hm
      go_wp2
      go_ret
      rw [Hm.out]
      exact ⟨rfl, rfl⟩
set_option maxHeartbeats 400000 in
theorem rsum_any (a : Option Addr) (len cap : Nat) (bs : List UInt8) (w : World)
  (hlen : len ≤ 140737488355328) (hbs : Hid (bs.length = len)) (hr : Rd w a bs) :
    Calls Try.prog 13 #[.slice a len cap] w fun e w' => e = .returned (.int .u32 (I (rsum bs))) ∧ w' = w := by
  go_enter Try.func13, Try.ntmps13
  go_wp2_with (go_at_call 15; refine (rmore_any 0#32 a len cap bs _ hlen hbs.out hr).mono ?_; rintro e w' ⟨rfl, rfl⟩)
  go_ret
  exact ⟨rfl, rfl⟩
end Go.Proofs.Ytenkbgcmmmdhmaa
