/-
  CrcRows.
-/
import Derived.Test.YtenkbgcmmmdhmaaRows1
namespace Go.Proofs.Ytenkbgcmmmdhmaa
open Go.RowKit Crc
attribute [local go_sem] signed_u32 bnotm bxor band bxorb bone bshr bpat stp_mul stp_walk wrap_I wrap_J bshb shr_succ one_shl I_beq
attribute [local irreducible] Crc.sum Crc.join Crc.rsum Crc.more Crc.rmore Crc.turn strB
theorem shrI (row : W32) (k : Nat) : I row / (2 : Int) ^ k = I (row >>> k) := by
  unfold I
  rw [BitVec.toNat_ushiftRight, Nat.shiftRight_eq_div_pow, Int.natCast_ediv, Int.natCast_pow]; rfl
theorem I_bne (a b : W32) : (I a != I b) = (a != b) := by show (!(I a == I b)) = !(a == b); rw [I_beq]
attribute [local go_sem] shrI I_bne
set_option maxHeartbeats 1000000 in
theorem rows_any (a : Option Addr) (len cap : Nat) (bs : List UInt8) (at_ : Int) (f : Nat) (row : W32) (w : World) (hle : len ≤ 4096) (hge : 4 ≤ len) (hbs : Hid (bs.length = len)) (hr : Rd w a bs)
    (hnil : a = none → len = 0 ∧ cap = 0) (hat : 0 ≤ at_ ∧ at_ ≤ 65535) (hf : at_ % (8 * (len : Int) - 31) = f) (hrow : row ≠ 0#32) :
    Calls Try.prog 5 #[.slice a len cap, .int .u16 at_, .int .u32 (I row)] w fun e w' => e = .returned (.bool true) ∧ Below w.heap.size w w' := by
  have Hnil : Hid _ := hnil
  clear hnil
  have hf32 : f + 32 ≤ 8 * len := by have := Int.emod_lt_of_pos at_ (show 0 < 8 * (len : Int) - 31 by omega); omega
  have h1 : decide ((4096 : Int) < len) = false := by simp; omega
  have h2 : decide ((len : Int) < 4) = false := by simp; omega
  have h3 : (I row == 0) = false := by
    rw [beq_eq_false_iff_ne]; intro e; exact hrow (I_inj (e.trans rfl))
  go_enter Try.func5, Try.ntmps5
  go_wp2_with fail
  refine (vast_any _ _ _ _).mono ?_
  rintro e w' ⟨rfl, rfl⟩
  go_wp2_with (at_builtin; refine app_bytes (by rfl) (.tmp 22) (.tmp 23) (by rfl) _ _ 0 0 [] (by rfl) rfl (OwnB.new _) a len cap bs (by rfl) hbs.out ?c1 Hnil.out ?c2 ?c3 ?_; rotate_left 3; intro V vc w1 hown hg)
  case c1 => exact rd_kept ((Below.refl _ _).alloc (Nat.le_refl _) _) hr
  case c2 => omega
  case c3 => simp
  have hb1 : Below w'.heap.size w' w1 := ((Below.refl _ _).alloc (Nat.le_refl _) _).grown hg (by simp) (by intro k hk; simp [Value.ownBlock] at hk; omega)
  obtain ⟨g, rfl, hL⟩ := hown.named (by have := hbs.out; simp; omega)
  have hL1 : OwnL w1 w'.heap.size g vc len bs := by have := hbs.out; rw [← this]; exact hL
  have hr1 : Rd w1 a bs := rd_kept hb1 hr
  have hbnd : ∀ ad, a = some ad → ad.block < w'.heap.size := by
    intro ad e
    obtain ⟨b, o, e', hc⟩ := hr 0 (by have := hbs.out; omega)
    rw [e] at e'; injection e' with e'; subst e'
    exact block_lt_of_cell hc
  clear hg hown hL
  go_loopw [9] (fun i wr => ∃ k : Nat, k ≤ 32 ∧ i = .int .i64 k ∧ OwnL wr w'.heap.size g vc len (flipN bs f row k) ∧ Rd wr a bs ∧ Below w'.heap.size w' wr) (fun i _ => 32 - (intOf i).toNat)
  case atStart => exact ⟨0, Nat.zero_le _, rfl, hL1, hr1, hb1⟩
  case round =>
    obtain ⟨k, hk, rfl, hLk, hrk, hbk⟩ := hrel
    have hlt2 := hLk.lt
    by_cases hk2 : k < 32
    · by_cases hbit : (I ((row >>> k) &&& 1#32) == 1) = true
      · have HF : Hid _ := flipN_hi bs f row k hbit
        have hq : (f + k) / 8 < len := by omega
        have hc := hLk.cell ((f + k) / 8) hq
        have hfz := hLk.fz ((f + k) / 8)
        have hx := bx8 ((flipN bs f row k).getD ((f + k) / 8) 0) ((f + k) % 8) (by omega)
        have hst : OwnL (wr.setCell ⟨g, (f + k) / 8, none⟩ (.int .u8 (J ((flipN bs f row k).getD ((f + k) / 8) 0 ^^^ UInt8.ofNat (2 ^ ((f + k) % 8)))))) w'.heap.size g vc len (flipN bs f row (k + 1)) := by
          rw [HF.out]; exact hLk.set _ _
        generalize (flipN bs f row k).getD ((f + k) / 8) 0 = c0 at *
        clear HF hLk
        have Hst : Hid _ := hst
        clear hst
        go_wp2_with fail
        go_roundw
        case rel => exact ⟨k + 1, by omega, by go_num, Hst.out, rd_setCell hrk g _ _ (by intro ad e; have := hbnd ad e; omega), hbk.setCell hlt2.1 _⟩
        case measure => simp [intOf]; omega
      · have hbit' : (I ((row >>> k) &&& 1#32) == 1) = false := by simpa using hbit
        clear hbit
        have HF : Hid _ := flipN_lo bs f row k hbit'
        go_wp2_with fail
        go_roundw
        case rel => exact ⟨k + 1, by omega, by go_num, by rw [HF.out]; exact hLk, hrk, hbk⟩
        case measure => simp [intOf]; omega
    · obtain rfl : k = 32 := by omega
      have hne : (sum (flipN bs f row 32) != sum bs) = true := by
        rw [bne_iff_ne]; exact flip_differs bs f row (by have := hbs.out; omega) hrow
      have hrv := hLk.rd
      have hlen2 : Hid ((flipN bs f row 32).length = len) := hLk.len
      generalize flipN bs f row 32 = own at *
      clear hLk
      go_wp2_with fail
      refine (sum_any (some ⟨g, 0, none⟩) len vc own _ (by omega) hlen2 hrv).mono ?_
      rintro e w2 ⟨rfl, rfl⟩
      go_wp2_with fail
      refine (sum_any a len cap bs _ (by omega) hbs hrk).mono ?_
      rintro e w3 ⟨rfl, rfl⟩
      go_wp2_with fail
      refine (works_any _).mono ?_
      rintro e w6 ⟨rfl, hb6⟩
      go_wp2_with fail
      go_ret
      exact ⟨rfl, hbk.trans (hb6.mono hbk.size)⟩
set_option maxHeartbeats 400000 in
theorem rows_small (a : Option Addr) (len cap : Nat) (at_ : Int) (s : W32) (w : World) (hle : len < 4) :
    Calls Try.prog 5 #[.slice a len cap, .int .u16 at_, .int .u32 (I s)] w fun e w' => e = .returned (.bool true) ∧ Below w.heap.size w w' := by
  have h1 : decide ((4096 : Int) < len) = false := by simp; omega
  have h2 : decide ((len : Int) < 4) = true := by simp; omega
  go_enter Try.func5, Try.ntmps5
  go_wp2_with fail
  refine (vast_any _ _ _ _).mono ?_
  rintro e w' ⟨rfl, rfl⟩
  go_wp2_with fail
  refine (works_any _).mono ?_
  rintro e w6 ⟨rfl, hb6⟩
  go_wp2_with fail
  go_ret
  exact ⟨rfl, hb6⟩
set_option maxHeartbeats 400000 in
theorem rows_vast (a : Option Addr) (len cap : Nat) (at_ : Int) (s : W32) (w : World) (hle : 4096 < len) :
    Calls Try.prog 5 #[.slice a len cap, .int .u16 at_, .int .u32 (I s)] w fun e w' => e = .returned (.bool true) ∧ Below w.heap.size w w' := by
  have h1 : decide ((4096 : Int) < len) = true := by simp; omega
  go_enter Try.func5, Try.ntmps5
  go_wp2_with fail
  refine (vast_any _ _ _ _).mono ?_
  rintro e w' ⟨rfl, rfl⟩
  go_wp2_with fail
  refine (works_any _).mono ?_
  rintro e w6 ⟨rfl, hb6⟩
  go_wp2_with fail
  go_ret
  exact ⟨rfl, hb6⟩
set_option maxHeartbeats 400000 in
theorem rows_zero (a : Option Addr) (len cap : Nat) (at_ : Int) (w : World) (hle : len ≤ 4096) (hge : 4 ≤ len) :
    Calls Try.prog 5 #[.slice a len cap, .int .u16 at_, .int .u32 0] w fun e w' => e = .returned (.bool true) ∧ Below w.heap.size w w' := by
  have h1 : decide ((4096 : Int) < len) = false := by simp; omega
  have h2 : decide ((len : Int) < 4) = false := by simp; omega
  go_enter Try.func5, Try.ntmps5
  go_wp2_with fail
  refine (vast_any _ _ _ _).mono ?_
  rintro e w' ⟨rfl, rfl⟩
  go_wp2_with fail
  refine (works_any _).mono ?_
  rintro e w6 ⟨rfl, hb6⟩
  go_wp2_with fail
  go_ret
  exact ⟨rfl, hb6⟩
theorem rows_walk (a0 : Option Addr) (len0 cap0 : Nat) (z0 : List Int) (a1 a2 : Int) (w : World) (w0 : IsRow .u8 w a0 len0 cap0 z0) (w1 : (Lit.int .u16 a1).wf = true) (w2 : (Lit.int .u32 a2).wf = true) :
    Calls Try.prog 5 #[.slice a0 len0 cap0, .int .u16 a1, .int .u32 a2] w fun e w' => e = .returned (.bool true) ∧ Below w.heap.size w w' := by
  obtain ⟨s, rfl⟩ := word_of w2
  obtain ⟨bs, hl, hr, hn⟩ := w0.bytes
  have hat : 0 ≤ a1 ∧ a1 ≤ 65535 := by simpa [Lit.wf, IntKind.min, IntKind.max, IntKind.signed, IntKind.bits] using w1
  by_cases h : len0 ≤ 4096
  · by_cases h2 : 4 ≤ len0
    · by_cases h3 : s = 0#32
      · subst h3; exact rows_zero a0 len0 cap0 a1 w h h2
      · obtain ⟨f, hf⟩ := Int.eq_ofNat_of_zero_le (Int.emod_nonneg a1 (show 8 * (len0 : Int) - 31 ≠ 0 by omega))
        exact rows_any a0 len0 cap0 bs a1 f s w h h2 hl hr hn hat hf h3
    · exact rows_small a0 len0 cap0 a1 s w (by omega)
  · exact rows_vast a0 len0 cap0 a1 s w (by omega)
end Go.Proofs.Ytenkbgcmmmdhmaa
