/-
  CrcPlays.
-/
import Derived.Test.YtenkbgcmmmdhmaaBytes
import Derived.Test.YtenkbgcmmmdhmaaMath
namespace Go.Proofs.Ytenkbgcmmmdhmaa
open Go.RowKit Crc
attribute [local go_sem] signed_u32 bnotm bxor band bxorb bone bshr bpat stp_mul stp_walk wrap_I wrap_J bshb shr_succ one_shl I_beq
attribute [local irreducible] Crc.sum Crc.join Crc.rsum Crc.more Crc.rmore strB
set_option maxHeartbeats 1000000 in
theorem plays_any (a : Option Addr) (len cap : Nat) (bs : List UInt8) (s : W32) (w : World) (hle : len ≤ 4096) (hbs : Hid (bs.length = len)) (hr : Rd w a bs)
    (hnil : a = none → len = 0 ∧ cap = 0) :
    Calls Try.prog 3 #[.slice a len cap, .int .u32 (I s)] w fun e w' => e = .returned (.bool true) ∧ Below w.heap.size w w' := by
  have hsum : Hid (sum bs = rsum bs) := sum_eq bs
  have hmore : Hid (more s bs = rmore s bs) := more_eq s bs
  have Hnil : Hid _ := hnil
  clear hnil
  have h1 : decide ((4096 : Int) < len) = false := by simp; omega
  go_enter Try.func3, Try.ntmps3
  go_wp2_with fail
  refine (vast_any _ _ _ _).mono ?_
  rintro e w' ⟨rfl, rfl⟩
  go_wp2_with (at_builtin; refine app_bytes (by rfl) (.tmp 9) (.tmp 10) (by rfl) _ _ 0 0 [] (by rfl) rfl (OwnB.new _) a len cap bs (by rfl) hbs.out ?c1 Hnil.out ?c2 ?c3 ?_; rotate_left 3; intro V vc w1 hown hg)
  case c1 => exact rd_kept ((Below.refl _ _).alloc (Nat.le_refl _) _) hr
  case c2 => omega
  case c3 => simp
  have hb1 : Below w'.heap.size w' w1 := ((Below.refl _ _).alloc (Nat.le_refl _) _).grown hg (by simp) (by intro k hk; simp [Value.ownBlock] at hk; omega)
  have hr1 : Rd w1 a bs := rd_kept hb1 hr
  have Hrv : Rd w1 V bs := hown.rd
  have Hnv : Hid (V = none → len = 0 ∧ vc = 0) := by rw [← hbs.out]; exact hown.nil
  have e1 : (sum bs == rsum bs) = true := by rw [hsum.out]; exact beq_self_eq_true _
  have e2 : (more s bs == rmore s bs) = true := by rw [hmore.out]; exact beq_self_eq_true _
  have c1 := conv_bytes w1 a len cap bs hr1 hbs.out Hnil.out
  have c2 := conv_bytes w1 V len vc bs Hrv hbs.out Hnv.out
  clear hg hown
  refine (sum_any V len vc bs _ (by omega) hbs Hrv).mono ?_
  rintro e w2 ⟨rfl, rfl⟩
  go_wp2_with fail
  refine (rsum_any a len cap bs _ (by omega) hbs hr1).mono ?_
  rintro e w3 ⟨rfl, rfl⟩
  go_wp2_with fail
  refine (more_any s V len vc bs _ (by omega) hbs.out Hrv).mono ?_
  rintro e w4 ⟨rfl, rfl⟩
  go_wp2_with fail
  refine (rmore_any s a len cap bs _ (by omega) hbs.out hr1).mono ?_
  rintro e w5 ⟨rfl, rfl⟩
  go_wp2_with fail
  refine (works_any _).mono ?_
  rintro e w6 ⟨rfl, hb6⟩
  go_wp2_with fail
  go_ret
  exact ⟨rfl, hb1.trans (hb6.mono hb1.size)⟩
set_option maxHeartbeats 400000 in
theorem plays_vast (a : Option Addr) (len cap : Nat) (s : W32) (w : World) (hle : 4096 < len) :
    Calls Try.prog 3 #[.slice a len cap, .int .u32 (I s)] w fun e w' => e = .returned (.bool true) ∧ Below w.heap.size w w' := by
  have h1 : decide ((4096 : Int) < len) = true := by simp; omega
  go_enter Try.func3, Try.ntmps3
  go_wp2_with fail
  refine (vast_any _ _ _ _).mono ?_
  rintro e w' ⟨rfl, rfl⟩
  go_wp2_with fail
  refine (works_any _).mono ?_
  rintro e w6 ⟨rfl, hb6⟩
  go_wp2_with fail
  go_ret
  exact ⟨rfl, hb6⟩
theorem plays_walk (a0 : Option Addr) (len0 cap0 : Nat) (z0 : List Int) (a1 : Int) (w : World) (w0 : IsRow .u8 w a0 len0 cap0 z0) (w1 : (Lit.int .u32 a1).wf = true) :
    Calls Try.prog 3 #[.slice a0 len0 cap0, .int .u32 a1] w fun e w' => e = .returned (.bool true) ∧ Below w.heap.size w w' := by
  obtain ⟨s, rfl⟩ := word_of w1
  obtain ⟨bs, hl, hr, hn⟩ := w0.bytes
  by_cases h : len0 ≤ 4096
  · exact plays_any a0 len0 cap0 bs s w h hl hr hn
  · exact plays_vast a0 len0 cap0 s w (by omega)
end Go.Proofs.Ytenkbgcmmmdhmaa
