/-
  The walks of rights.
-/
import Derived.Test.YtolmkjepieoloaaRows
import Derived.Test.YtolmkjepieoloaaRPlain
import Derived.Test.YtolmkjepieoloaaFlat
namespace Go.Proofs.Ytolmkjepieoloaa
open Go.RowKit Rt
set_option maxHeartbeats 400000 in
theorem sum_any (a : Option Addr) (len cap : Nat) (l : List Int) (w : World) (hlen : len ≤ 100) (hl : Hid (l.length = len)) (hr : RdI .i64 w a l) :
    Calls Try.prog 79 #[.slice a len cap] w fun e w' => e = .returned (.tuple #[.int .i64 (sumI l).1, .bool (sumI l).2]) ∧ w' = w := by
  go_enter Try.func79, Try.ntmps79
  go_wp2
  go_loop [2, 3, 8] (fun v o i => o = .bool false ∧ ∃ k : Nat, k ≤ len ∧ i = .int .i64 k ∧ sumOk (l.take k) = true ∧ v = .int .i64 (l.take k).sum) (fun _ _ i => len - (intOf i).toNat)
  case atStart => exact ⟨rfl, 0, Nat.zero_le _, rfl, rfl, rfl⟩
  case round =>
    obtain ⟨rfl, k, hk, rfl, hok, rfl⟩ := hrel
    by_cases hk2 : k < len
    · have hk3 : k < l.length := by rw [hl.out]; exact hk2
      obtain ⟨b, off, rfl, hc⟩ := hr k hk3
      have hb := sum_bound _ hok
      have hle : (l.take k).length ≤ k := List.length_take_le _ _
      have HS : Hid _ := sum_take_succ l k hk3
      have HO : Hid _ := sumOk_take_succ l k hk3
      have HF : Hid (okN l[k] = false → sumI l = (0, false)) := by intro h; unfold sumI; rw [if_neg (by rw [sumOk_of_take hk3 h]; decide)]
      have Hok : Hid _ := hok
      clear hr hok
      generalize l[k] = x at *
      generalize hs : (l.take k).sum = s at *
      clear hs
      by_cases h0 : x < 0
      · have hn : okN x = false := by unfold okN; simp; omega
        have HR : Hid _ := HF.out hn
        clear HF hn HS HO
        go_wp2
        go_ret2
        rw [HR.out]; exact ⟨rfl, rfl⟩
      · by_cases h1 : 1125899906842624 < x
        · have hn : okN x = false := by unfold okN; simp; omega
          have HR : Hid _ := HF.out hn
          clear HF hn HS HO
          go_wp2
          go_ret2
          rw [HR.out]; exact ⟨rfl, rfl⟩
        · have hy : Hid (okN x = true) := by unfold okN Hid; simp; omega
          clear HF
          go_wp2
          go_round
          case rel => exact ⟨rfl, k + 1, by omega, by go_num, by rw [HO.out, Hok.out, hy.out]; rfl, by rw [HS.out]⟩
          case measure => simp [intOf]; omega
    · have hT : Hid (l.take k = l) := List.take_of_length_le (by rw [hl.out]; omega)
      rw [hT.out] at hok ⊢
      have HR : Hid (sumI l = (l.sum, true)) := by unfold sumI Hid; rw [if_pos hok]
      clear hok
      generalize l.sum = s at *
      go_wp2
      go_ret2
      rw [HR.out]; exact ⟨rfl, rfl⟩
end Go.Proofs.Ytolmkjepieoloaa
