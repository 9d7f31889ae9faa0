/-
  CrcAffine.
-/
import Derived.Test.YtenkbgcmmmdhmaaAffine1
import Derived.BigRegion
import Derived.ChangeAlike
namespace Go.Proofs.Ytenkbgcmmmdhmaa
open Go.RowKit Crc
attribute [local go_sem] signed_u32 bnotm bxor band bxorb bone bshr bpat stp_mul stp_walk wrap_I wrap_J bshb shr_succ one_shl I_beq bxor8
attribute [local irreducible] Crc.sum Crc.join Crc.rsum Crc.more Crc.rmore Crc.turn strB
set_option maxHeartbeats 1000000 in
theorem affine_any (a at_ ao : Option Addr) (len cap lt ct lo co : Nat) (bs ts os : List UInt8) (w : World) (hle : len ≤ 4096) (hlt : lt ≤ 4096) (hlo : lo ≤ 4096) (hgt : 0 < len)
    (hbs : Hid (bs.length = len)) (hts : Hid (ts.length = lt)) (hos : Hid (os.length = lo)) (hr : Rd w a bs) (hrt : Rd w at_ ts) (hro : Rd w ao os)
    (hnil : a = none → len = 0 ∧ cap = 0) :
    Calls Try.prog 6 #[.slice a len cap, .slice at_ lt ct, .slice ao lo co] w fun e w' => e = .returned (.bool true) ∧ Below w.heap.size w w' := by
  have Hnil : Hid _ := hnil
  clear hnil
  have h1 : decide ((4096 : Int) < len) = false := by simp; omega
  have h2 : decide ((4096 : Int) < lt) = false := by simp; omega
  have h3 : decide ((4096 : Int) < lo) = false := by simp; omega
  go_enter Try.func6, Try.ntmps6
  go_wp2_with (first
    | (go_at_call 10; refine (vast_any _ _ _ _).mono ?_; rintro e w' ⟨rfl, rfl⟩)
    | (at_builtin; refine app_bytes (o := ⟨some 24, _, _, _, _, _⟩) (by rfl) (.tmp 22) (.tmp 23) (by rfl) _ _ 0 0 [] (by rfl) rfl (OwnB.new _) a len cap bs (by rfl) hbs.out (rd_kept ((Below.refl _ _).alloc (Nat.le_refl _) _) hr) Hnil.out (by omega) (by simp) ?_; intro V1 c1 w1 own1 hg1; have hb1 := app_new hg1; clear hg1; have hr1 := rd_kept hb1 hr; have hrt1 := rd_kept hb1 hrt; have hro1 := rd_kept hb1 hro)
    | (at_builtin; refine app_bytes (o := ⟨some 27, _, _, _, _, _⟩) (by rfl) (.tmp 25) (.tmp 26) (by rfl) _ _ 0 0 [] (by rfl) rfl (OwnB.new _) a len cap bs (by rfl) hbs.out (rd_kept ((Below.refl _ _).alloc (Nat.le_refl _) _) hr1) Hnil.out (by omega) (by simp) ?_; intro V2 c2 w2 own2 hg2; have hb2 := app_new hg2; clear hg2; have own12 := own1.below hb2 (Nat.le_refl _); have hr2 := rd_kept hb2 hr1; have hrt2 := rd_kept hb2 hrt1; have hro2 := rd_kept hb2 hro1)
    | (at_builtin; refine app_bytes (o := ⟨some 30, _, _, _, _, _⟩) (by rfl) (.tmp 28) (.tmp 29) (by rfl) _ _ 0 0 [] (by rfl) rfl (OwnB.new _) a len cap bs (by rfl) hbs.out (rd_kept ((Below.refl _ _).alloc (Nat.le_refl _) _) hr2) Hnil.out (by omega) (by simp) ?_; intro V3 c3 w3 own3 hg3; have hb3 := app_new hg3; clear hg3; have own13 := own12.below hb3 (Nat.le_refl _); have own23 := own2.below hb3 (Nat.le_refl _); have hr3 := rd_kept hb3 hr2; have hrt3 := rd_kept hb3 hrt2; have hro3 := rd_kept hb3 hro2))
  have el : bs.length = len := hbs.out
  obtain ⟨g1, rfl, L1⟩ := own13.named (by simp; omega)
  obtain ⟨g2, rfl, L2⟩ := own23.named (by simp; omega)
  obtain ⟨g3, rfl, L3⟩ := own3.named (by simp; omega)
  rw [List.nil_append, el] at L1 L2 L3
  have q1 := own1.block _ rfl
  have q2 := own2.block _ rfl
  have q3 := own3.block _ rfl
  have s1 := hb1.size
  have s2 := hb2.size
  have s3 := hb3.size
  have d12 : g1 < g2 := by simp at q1 q2; omega
  have d23 : g2 < g3 := by simp at q2 q3; omega
  have d0 : w'.heap.size ≤ g1 := by simp at q1; omega
  have hb : Below w'.heap.size w' w3 := bch (bch hb1 hb2) hb3
  have bnd : ∀ (A : Option Addr) (l : List UInt8), Rd w' A l → 0 < l.length → ∀ ad, A = some ad → ad.block < w'.heap.size := by
    intro A l hA hl ad e
    obtain ⟨b, o, e', hc⟩ := hA 0 hl
    rw [e] at e'; injection e' with e'; subst e'
    exact block_lt_of_cell hc
  clear own1 own2 own3 own12 own13 own23 q1 q2 q3 hb1 hb2 hb3 s1 s2 s3 hr1 hr2 hrt1 hrt2 hro1 hro2
  have Hbnd : Hid _ := bnd
  clear bnd el
  go_loopw [10] (fun i wr => ∃ k : Nat, k ≤ len ∧ i = .int .i64 k ∧ OwnL wr w'.heap.size g1 c1 len (mix bs (fb bs ts) k) ∧ OwnL wr w1.heap.size g2 c2 len (mix bs (fc bs os) k) ∧ OwnL wr w2.heap.size g3 c3 len (mix bs (fd bs ts os) k)
      ∧ Below w'.heap.size w' wr) (fun i _ => len - (intOf i).toNat)
  case atStart => exact ⟨0, Nat.zero_le _, rfl, by rw [mix_zero]; exact L1, by rw [mix_zero]; exact L2, by rw [mix_zero]; exact L3, hb⟩
  case round =>
    obtain ⟨k, hk, rfl, K1, K2, K3, hbk⟩ := hrel
    have kr := rd_kept hbk hr
    have kt := rd_kept hbk hrt
    have ko := rd_kept hbk hro
    by_cases hk2 : k < len
    · obtain ⟨ba, oa, rfl, ca⟩ := rd_cellAt kr k (by have := hbs.out; omega)
      have ha := Hbnd.out _ _ hr (by have := hbs.out; omega) _ rfl
      dsimp only at ha
      have e1 := K1.cell k hk2
      have e2 := K2.cell k hk2
      have e3 := K3.cell k hk2
      rw [mix_get _ _ _ _ (by have := hbs.out; omega), if_neg (Nat.lt_irrefl _)] at e1 e2 e3
      have z1 := K1.fz k
      have z2 := K2.fz k
      have z3 := K3.fz k
      by_cases kt2 : k < lt
      · obtain ⟨bt, ot, rfl, ct'⟩ := rd_cellAt kt k (by have := hts.out; omega)
        have ht := Hbnd.out _ _ hrt (by have := hts.out; omega) _ rfl
        dsimp only at ht
        have f1 : Hid (fb bs ts k = bs.getD k 0 ^^^ ts.getD k 0) := by unfold fb Hid; rw [if_pos (by have := hts.out; omega)]
        by_cases ko2 : k < lo
        · obtain ⟨bo, oo, rfl, co'⟩ := rd_cellAt ko k (by have := hos.out; omega)
          have ho := Hbnd.out _ _ hro (by have := hos.out; omega) _ rfl
          dsimp only at ho
          have f2 : Hid (fc bs os k = os.getD k 0) := by unfold fc Hid; rw [if_pos (by have := hos.out; omega)]
          have f3 : Hid (fd bs ts os k = bs.getD k 0 ^^^ (bs.getD k 0 ^^^ ts.getD k 0) ^^^ (os.getD k 0)) := by unfold fd Hid; rw [f1.out, f2.out]
          go_wp2
          go_region
          go_wp2
          go_region
          go_wp2
          have n1 := ((K1.set k (fb bs ts k)).other g2 k (.int .u8 (J (fc bs os k))) (by omega)).other g3 k (.int .u8 (J (fd bs ts os k))) (by omega)
          have n2 := (OwnL.set (K2.other g1 k (.int .u8 (J (fb bs ts k))) (by omega)) k (fc bs os k)).other g3 k (.int .u8 (J (fd bs ts os k))) (by omega)
          have n3 := OwnL.set ((K3.other g1 k (.int .u8 (J (fb bs ts k))) (by omega)).other g2 k (.int .u8 (J (fc bs os k))) (by omega)) k (fd bs ts os k)
          have nb := (((hbk).setCell (p := ⟨g1, k, none⟩) d0 (.int .u8 (J (fb bs ts k)))).setCell (p := ⟨g2, k, none⟩) (by show _ ≤ g2; omega) (.int .u8 (J (fc bs os k)))).setCell (p := ⟨g3, k, none⟩) (by show _ ≤ g3; omega) (.int .u8 (J (fd bs ts os k)))
          rw [mix_set] at n1
          rw [mix_set] at n2
          rw [mix_set] at n3
          rw [f3.out, f1.out, f2.out] at n1 n2 n3 nb
          go_roundw
          case rel => exact ⟨k + 1, by omega, by go_num, n1, n2, n3, ⟨nb.os, nb.tape, nb.output, nb.size, nb.block⟩⟩
          case measure => simp [intOf]; omega
        · have f2 : Hid (fc bs os k = bs.getD k 0) := by unfold fc Hid; rw [if_neg (by have := hos.out; omega)]
          have f3 : Hid (fd bs ts os k = bs.getD k 0 ^^^ (bs.getD k 0 ^^^ ts.getD k 0) ^^^ (bs.getD k 0)) := by unfold fd Hid; rw [f1.out, f2.out]
          go_wp2
          go_region
          go_wp2
          go_region
          go_wp2
          have n1 := (K1.set k (fb bs ts k)).other g3 k (.int .u8 (J (fd bs ts os k))) (by omega)
          have n2 := (K2.other g1 k (.int .u8 (J (fb bs ts k))) (by omega)).other g3 k (.int .u8 (J (fd bs ts os k))) (by omega)
          have n3 := OwnL.set (K3.other g1 k (.int .u8 (J (fb bs ts k))) (by omega)) k (fd bs ts os k)
          have nb := ((hbk).setCell (p := ⟨g1, k, none⟩) d0 (.int .u8 (J (fb bs ts k)))).setCell (p := ⟨g3, k, none⟩) (by show _ ≤ g3; omega) (.int .u8 (J (fd bs ts os k)))
          rw [mix_set] at n1
          rw [← mix_same bs (fc bs os) k f2.out] at n2
          rw [mix_set] at n3
          rw [f3.out, f1.out] at n1 n2 n3 nb
          go_roundw
          case rel => exact ⟨k + 1, by omega, by go_num, n1, n2, n3, ⟨nb.os, nb.tape, nb.output, nb.size, nb.block⟩⟩
          case measure => simp [intOf]; omega
      · have f1 : Hid (fb bs ts k = bs.getD k 0) := by unfold fb Hid; rw [if_neg (by have := hts.out; omega)]
        by_cases ko2 : k < lo
        · obtain ⟨bo, oo, rfl, co'⟩ := rd_cellAt ko k (by have := hos.out; omega)
          have ho := Hbnd.out _ _ hro (by have := hos.out; omega) _ rfl
          dsimp only at ho
          have f2 : Hid (fc bs os k = os.getD k 0) := by unfold fc Hid; rw [if_pos (by have := hos.out; omega)]
          have f3 : Hid (fd bs ts os k = os.getD k 0) := by unfold fd Hid; rw [f1.out, f2.out, UInt8.xor_self, UInt8.zero_xor]
          go_wp2
          go_region
          go_wp2
          have n1 := ((K1).other g2 k (.int .u8 (J (fc bs os k))) (by omega)).other g3 k (.int .u8 (J (fd bs ts os k))) (by omega)
          have n2 := (OwnL.set (K2) k (fc bs os k)).other g3 k (.int .u8 (J (fd bs ts os k))) (by omega)
          have n3 := OwnL.set ((K3).other g2 k (.int .u8 (J (fc bs os k))) (by omega)) k (fd bs ts os k)
          have nb := ((hbk).setCell (p := ⟨g2, k, none⟩) (by show _ ≤ g2; omega) (.int .u8 (J (fc bs os k)))).setCell (p := ⟨g3, k, none⟩) (by show _ ≤ g3; omega) (.int .u8 (J (fd bs ts os k)))
          rw [← mix_same bs (fb bs ts) k f1.out] at n1
          rw [mix_set] at n2
          rw [mix_set] at n3
          rw [f3.out, f2.out] at n1 n2 n3 nb
          go_roundw
          case rel => exact ⟨k + 1, by omega, by go_num, n1, n2, n3, ⟨nb.os, nb.tape, nb.output, nb.size, nb.block⟩⟩
          case measure => simp [intOf]; omega
        · have f2 : Hid (fc bs os k = bs.getD k 0) := by unfold fc Hid; rw [if_neg (by have := hos.out; omega)]
          have f3 : Hid (fd bs ts os k = bs.getD k 0) := by unfold fd Hid; rw [f1.out, f2.out, UInt8.xor_self, UInt8.zero_xor]
          go_wp2
          go_region
          go_wp2
          have n1 := (K1).other g3 k (.int .u8 (J (fd bs ts os k))) (by omega)
          have n2 := (K2).other g3 k (.int .u8 (J (fd bs ts os k))) (by omega)
          have n3 := OwnL.set (K3) k (fd bs ts os k)
          have nb := (hbk).setCell (p := ⟨g3, k, none⟩) (by show _ ≤ g3; omega) (.int .u8 (J (fd bs ts os k)))
          rw [← mix_same bs (fb bs ts) k f1.out] at n1
          rw [← mix_same bs (fc bs os) k f2.out] at n2
          rw [mix_set] at n3
          rw [f3.out] at n1 n2 n3 nb
          go_roundw
          case rel => exact ⟨k + 1, by omega, by go_num, n1, n2, n3, ⟨nb.os, nb.tape, nb.output, nb.size, nb.block⟩⟩
          case measure => simp [intOf]; omega
    · obtain rfl : k = len := by omega
      have heq := affine_eq bs ts os
      have x1 := K1.rd
      have x2 := K2.rd
      have x3 := K3.rd
      rw [hbs.out] at heq
      have y1 : Hid ((mix bs (fb bs ts) k).length = k) := K1.len
      have y2 : Hid ((mix bs (fc bs os) k).length = k) := K2.len
      have y3 : Hid ((mix bs (fd bs ts os) k).length = k) := K3.len
      clear K1 K2 K3 L1 L2 L3
      generalize mix bs (fb bs ts) k = m1 at *
      generalize mix bs (fc bs os) k = m2 at *
      generalize mix bs (fd bs ts os) k = m3 at *
      rw [I_beq] at heq
      go_wp2_with fail
      refine (sum_any a k cap bs _ (by omega) hbs kr).mono ?_
      rintro e w5 ⟨rfl, rfl⟩
      go_wp2_with fail
      refine (sum_any _ k c1 m1 _ (by omega) y1 x1).mono ?_
      rintro e w5 ⟨rfl, rfl⟩
      go_wp2_with fail
      refine (sum_any _ k c2 m2 _ (by omega) y2 x2).mono ?_
      rintro e w5 ⟨rfl, rfl⟩
      go_wp2_with fail
      refine (sum_any _ k c3 m3 _ (by omega) y3 x3).mono ?_
      rintro e w5 ⟨rfl, rfl⟩
      go_wp2_with fail
      refine (works_any _).mono ?_
      rintro e w6 ⟨rfl, hb6⟩
      go_wp2_with fail
      go_ret
      exact ⟨rfl, hbk.trans (hb6.mono hbk.size)⟩
set_option maxHeartbeats 1000000 in
theorem affine_nil (a at_ ao : Option Addr) (cap lt ct lo co : Nat) (w : World) (hlt : lt ≤ 4096) (hlo : lo ≤ 4096) (hnil : a = none → cap = 0) :
    Calls Try.prog 6 #[.slice a 0 cap, .slice at_ lt ct, .slice ao lo co] w fun e w' => e = .returned (.bool true) ∧ Below w.heap.size w w' := by
  have Hnil : Hid _ := hnil
  clear hnil
  have h2 : decide ((4096 : Int) < lt) = false := by simp; omega
  have h3 : decide ((4096 : Int) < lo) = false := by simp; omega
  have hz : ∀ (w : World) (A : Option Addr), Rd w A [] := fun w A k hk => absurd hk (by simp)
  have Hz : Hid _ := hz
  clear hz
  have hx : (I (sum []) == 0) = true := works1
  have hx2 : bits .xor .u32 (bits .xor .u32 (I (sum [])) (I (sum []))) (I (sum [])) = I (sum []) := by rw [bxor, bxor, BitVec.xor_self, BitVec.zero_xor]
  go_enter Try.func6, Try.ntmps6
  go_wp2_with (first
    | (go_at_call 10; refine (vast_any _ _ _ _).mono ?_; rintro e w' ⟨rfl, rfl⟩)
    | (at_builtin; refine app_bytes (o := ⟨some 24, _, _, _, _, _⟩) (by rfl) (.tmp 22) (.tmp 23) (by rfl) _ _ 0 0 [] (by rfl) rfl (OwnB.new _) a 0 cap [] (by rfl) rfl (Hz.out _ _) (fun e => ⟨rfl, Hnil.out e⟩) (by omega) (by simp) ?_; intro V1 c1 w1 own1 hg1; have hb1 := app_new hg1; clear hg1 own1)
    | (at_builtin; refine app_bytes (o := ⟨some 27, _, _, _, _, _⟩) (by rfl) (.tmp 25) (.tmp 26) (by rfl) _ _ 0 0 [] (by rfl) rfl (OwnB.new _) a 0 cap [] (by rfl) rfl (Hz.out _ _) (fun e => ⟨rfl, Hnil.out e⟩) (by omega) (by simp) ?_; intro V2 c2 w2 own2 hg2; have hb2 := app_new hg2; clear hg2 own2)
    | (at_builtin; refine app_bytes (o := ⟨some 30, _, _, _, _, _⟩) (by rfl) (.tmp 28) (.tmp 29) (by rfl) _ _ 0 0 [] (by rfl) rfl (OwnB.new _) a 0 cap [] (by rfl) rfl (Hz.out _ _) (fun e => ⟨rfl, Hnil.out e⟩) (by omega) (by simp) ?_; intro V3 c3 w3 own3 hg3; have hb3 := app_new hg3; clear hg3 own3))
  refine wp_loop_once ?_
  go_wp2_with fail
  refine (sum_any a 0 cap [] _ (by omega) rfl (Hz.out _ _)).mono ?_
  rintro e w5 ⟨rfl, rfl⟩
  go_wp2_with fail
  refine (sum_any _ 0 c1 [] _ (by omega) rfl (Hz.out _ _)).mono ?_
  rintro e w5 ⟨rfl, rfl⟩
  go_wp2_with fail
  refine (sum_any _ 0 c2 [] _ (by omega) rfl (Hz.out _ _)).mono ?_
  rintro e w5 ⟨rfl, rfl⟩
  go_wp2_with fail
  refine (sum_any _ 0 c3 [] _ (by omega) rfl (Hz.out _ _)).mono ?_
  rintro e w5 ⟨rfl, rfl⟩
  go_wp2_with fail
  refine (works_any _).mono ?_
  rintro e w6 ⟨rfl, hb6⟩
  go_wp2_with fail
  go_ret
  exact ⟨rfl, bch (bch (bch hb1 hb2) hb3) hb6⟩
set_option maxHeartbeats 400000 in
theorem affine_vast (a at_ ao : Option Addr) (len cap lt ct lo co : Nat) (w : World) (h : 4096 < len ∨ 4096 < lt ∨ 4096 < lo) :
    Calls Try.prog 6 #[.slice a len cap, .slice at_ lt ct, .slice ao lo co] w fun e w' => e = .returned (.bool true) ∧ Below w.heap.size w w' := by
  by_cases h1 : 4096 < len
  · have h1 : decide ((4096 : Int) < len) = true := by simp; omega
    clear h
    go_enter Try.func6, Try.ntmps6
    go_wp2_with (first | (go_at_call 10; refine (vast_any _ _ _ _).mono ?_; rintro e w' ⟨rfl, rfl⟩) | (go_at_call 11; refine (works_any _).mono ?_; rintro e w6 ⟨rfl, hb6⟩))
    go_ret
    exact ⟨rfl, hb6⟩
  · have h1' : decide ((4096 : Int) < len) = false := by simp; omega
    by_cases h2 : 4096 < lt
    · have h2 : decide ((4096 : Int) < lt) = true := by simp; omega
      clear h
      go_enter Try.func6, Try.ntmps6
      go_wp2_with (first | (go_at_call 10; refine (vast_any _ _ _ _).mono ?_; rintro e w' ⟨rfl, rfl⟩) | (go_at_call 11; refine (works_any _).mono ?_; rintro e w6 ⟨rfl, hb6⟩))
      go_ret
      exact ⟨rfl, hb6⟩
    · have h2' : decide ((4096 : Int) < lt) = false := by simp; omega
      have h3 : decide ((4096 : Int) < lo) = true := by simp; omega
      clear h
      go_enter Try.func6, Try.ntmps6
      go_wp2_with (first | (go_at_call 10; refine (vast_any _ _ _ _).mono ?_; rintro e w' ⟨rfl, rfl⟩) | (go_at_call 11; refine (works_any _).mono ?_; rintro e w6 ⟨rfl, hb6⟩))
      go_ret
      exact ⟨rfl, hb6⟩
theorem affine_walk (a0 : Option Addr) (len0 cap0 : Nat) (z0 : List Int) (a1 : Option Addr) (len1 cap1 : Nat) (z1 : List Int) (a2 : Option Addr) (len2 cap2 : Nat) (z2 : List Int) (w : World)
    (w0 : IsRow .u8 w a0 len0 cap0 z0) (w1 : IsRow .u8 w a1 len1 cap1 z1) (w2 : IsRow .u8 w a2 len2 cap2 z2) :
    Calls Try.prog 6 #[.slice a0 len0 cap0, .slice a1 len1 cap1, .slice a2 len2 cap2] w fun e w' => e = .returned (.bool true) ∧ Below w.heap.size w w' := by
  obtain ⟨bs, hl, hr, hn⟩ := w0.bytes
  obtain ⟨ts, hl1, hr1, hn1⟩ := w1.bytes
  obtain ⟨os, hl2, hr2, hn2⟩ := w2.bytes
  by_cases h : 4096 < len0 ∨ 4096 < len1 ∨ 4096 < len2
  · exact affine_vast _ _ _ _ _ _ _ _ _ w h
  · by_cases hz : 0 < len0
    · exact affine_any a0 a1 a2 len0 cap0 len1 cap1 len2 cap2 bs ts os w (by omega) (by omega) (by omega) hz hl hl1 hl2 hr hr1 hr2 hn
    · obtain rfl : len0 = 0 := by omega
      exact affine_nil a0 a1 a2 cap0 len1 cap1 len2 cap2 w (by omega) (by omega) (fun e => (hn e).2)
end Go.Proofs.Ytenkbgcmmmdhmaa
