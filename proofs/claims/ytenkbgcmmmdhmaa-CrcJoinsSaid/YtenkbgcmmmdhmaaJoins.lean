/-
  CrcJoins.
-/
import Derived.Test.YtenkbgcmmmdhmaaRows1
import Derived.Deep.RegionWith
import Derived.Deep.Matrix
namespace Go.Proofs.Ytenkbgcmmmdhmaa
open Go.RowKit Crc
attribute [local go_sem] signed_u32 bnotm bxor band bxorb bone bshr bpat stp_mul stp_walk wrap_I wrap_J bshb shr_succ one_shl I_beq
theorem joins_eq (x y : List UInt8) (h : y.length ≤ 4096) : join (Crc.sum x) (Crc.sum y) y.length = Crc.sum (x ++ y) := join_append x y (by omega)
theorem more_sum (x y : List UInt8) : more (Crc.sum x) y = Crc.sum (x ++ y) := more_append 0#32 x y
theorem sum_nil : I (Crc.sum []) = 0 := rfl
def RdS (w : World) (a : Option Addr) (bss : List (List UInt8)) : Prop :=
  ∀ k (h : k < bss.length), ∃ b off A c, a = some ⟨b, off, none⟩ ∧ w.cell? ⟨b, off + k, none⟩ = some (.slice A bss[k].length c) ∧ Rd w A bss[k] ∧ (A = none → bss[k].length = 0 ∧ c = 0)
theorem rdS_kept {w w' : World} (h : Below w.heap.size w w') {a : Option Addr} {bss : List (List UInt8)} (hr : RdS w a bss) : RdS w' a bss := by
  intro k hk
  obtain ⟨b, o, A, c, e, hc, hr2, hn⟩ := hr k hk
  subst e
  exact ⟨b, o, A, c, rfl, by rw [h.cell (p := ⟨b, o + k, none⟩) (block_lt_of_cell hc)]; exact hc, rd_kept h hr2, hn⟩
attribute [local irreducible] Crc.sum Crc.join Crc.rsum Crc.more Crc.rmore Crc.turn strB
def cat (bss : List (List UInt8)) (i : Nat) : List UInt8 := (bss.take i).flatten
theorem cat_succ (bss : List (List UInt8)) (i : Nat) (h : i < bss.length) : cat bss (i + 1) = cat bss i ++ bss[i] := by
  unfold cat; rw [List.take_succ_eq_append_getElem h, List.flatten_append]; simp
set_option maxHeartbeats 1000000 in
theorem joins_any (a : Option Addr) (len cap : Nat) (bss : List (List UInt8)) (w : World) (hle : len ≤ 40) (hbs : Hid (bss.length = len)) (hr : RdS w a bss) :
    Calls Try.prog 4 #[.slice a len cap] w fun e w' => e = .returned (.bool true) ∧ Below w.heap.size w w' := by
  go_enter Try.func4, Try.ntmps4
  go_wp2_with fail
  go_loopw [2, 3, 4, 5, 6] (fun r v m j i wr => r = .bool false ∧ ∃ (k : Nat) (V : Option Addr) (vc : Nat), k ≤ len ∧ i = .int .i64 k ∧ v = .slice V (cat bss k).length vc ∧ OwnB wr w.heap.size V vc (cat bss k) ∧ m = .int .u32 (I (sum (cat bss k))) ∧ j = .int .u32 (I (sum (cat bss k)))
      ∧ (cat bss k).length ≤ 8192 ∧ Below w.heap.size w wr) (fun _ _ _ _ i _ => len - (intOf i).toNat)
  case atStart => exact ⟨rfl, 0, none, 0, Nat.zero_le _, rfl, rfl, World.ownsRow_nil _ _ _ _, by show _ = Value.int .u32 (I (sum [])); rw [sum_nil], by show _ = Value.int .u32 (I (sum [])); rw [sum_nil], by unfold cat; simp, Below.refl _ _⟩
  case round =>
    obtain ⟨rfl, k, V, vc, hk, rfl, rfl, hown, rfl, rfl, hl, hbk⟩ := hrel
    by_cases hk2 : k < len
    · have hk3 : k < bss.length := by rw [hbs.out]; exact hk2
      obtain ⟨b, off, A, c, rfl, hc0, hrd0, hn⟩ := hr k hk3
      have hblt : b < w.heap.size := block_lt_of_cell hc0
      have HC : Hid _ := cat_succ bss k hk3
      have Hn : Hid _ := hn
      clear hn
      generalize bss[k] = x at *
      have hc := (hbk.cell (p := ⟨b, off + k, none⟩) hblt).trans hc0
      have hrd := rd_kept hbk hrd0
      by_cases hv : 4096 < (cat bss k).length
      · have hv1 : decide ((4096 : Int) < ((cat bss k).length : Nat)) = true := by simp; omega
        generalize cat bss k = y at *
        go_wp2_with (first | (go_at_call 10; refine (vast_any _ _ _ _).mono ?_; rintro e w' ⟨rfl, rfl⟩) | (go_at_call 11; refine (works_any _).mono ?_; rintro e w6 ⟨rfl, hb6⟩))
        go_ret
        exact ⟨rfl, hbk.trans (hb6.mono hbk.size)⟩
      · have hv1 : decide ((4096 : Int) < ((cat bss k).length : Nat)) = false := by simp; omega
        by_cases hx : 4096 < x.length
        · have hv2 : decide ((4096 : Int) < (x.length : Nat)) = true := by simp; omega
          generalize cat bss k = y at *
          go_wp2_with (first | (go_at_call 10; refine (vast_any _ _ _ _).mono ?_; rintro e w' ⟨rfl, rfl⟩) | (go_at_call 11; refine (works_any _).mono ?_; rintro e w6 ⟨rfl, hb6⟩))
          go_ret
          exact ⟨rfl, hbk.trans (hb6.mono hbk.size)⟩
        · have hv2 : decide ((4096 : Int) < (x.length : Nat)) = false := by simp; omega
          generalize cat bss k = y at *
          have Hms : Hid _ := more_sum y x
          have Hjs : Hid _ := joins_eq y x (by omega)
          go_wp2_with (first
            | (go_at_call 10; refine (vast_any _ _ _ _).mono ?_; rintro e w' ⟨rfl, rfl⟩)
            | (at_builtin; refine app_bytes (o := ⟨some 32, _, _, _, _, _⟩) (by rfl) (.tmp 27) (.tmp 31) (by rfl) _ V vc y.length y (by rfl) rfl hown A x.length c x (by rfl) rfl hrd Hn.out (by omega) hbk.size ?_; intro V2 c2 w2 own2 hg2; have hb2 := hbk.grown hg2 hbk.size (fun q hq => (World.ownsRow.lt hown q hq).1); have hc2 := (hb2.cell (p := ⟨b, off + k, none⟩) hblt).trans hc0; have hrd2 := rd_kept hb2 hrd0; clear hg2)
            | (go_at_call 14; refine (more_any _ A _ c x _ (by omega) rfl (by assumption)).mono ?_; rintro e w' ⟨rfl, rfl⟩))
          rw [Hms.out]
          clear hc hrd hown hbk
          have hal : ∀ ad, V2 = some ad → ad.block < w'.heap.size := fun ad e => (own2.block ad e).2
          go_region_with (first
            | (go_at_call 12; refine (sum_any A _ c x _ (by omega) rfl (by first | exact hrd2 | exact hrd2)).mono ?_; rintro e w8 ⟨rfl, rfl⟩)
            | (go_at_call 16; refine (join_any _ _ _ _ (by omega)).mono ?_; rintro e w9 ⟨rfl, hb9⟩))
          all_goals go_wp2
          all_goals go_roundw
          all_goals first
            | (simp [intOf]; omega)
            | (rw [Hjs.out]; exact ⟨rfl, k + 1, V2, c2, by omega, by go_num, by rw [HC.out, List.length_append], by rw [HC.out]; exact own2.below (bdr hb9) (Nat.le_refl _), by rw [HC.out], by rw [HC.out], by rw [HC.out, List.length_append]; omega, hb2.trans ((bdr hb9).mono hb2.size)⟩)
    · have e1 : Hid (bss.length = len) := hbs
      obtain rfl : k = len := by omega
      have hrv := hown.rd
      generalize cat bss k = y at *
      have e2 : (sum y == sum y) = true := beq_self_eq_true _
      clear hown
      go_wp2_with (first
        | (go_at_call 12; refine (sum_any V _ vc y _ (by omega) rfl hrv).mono ?_; rintro e w8 ⟨rfl, rfl⟩)
        | (go_at_call 11; refine (works_any _).mono ?_; rintro e w6 ⟨rfl, hb6⟩))
      go_ret
      exact ⟨rfl, hbk.trans (hb6.mono hbk.size)⟩
set_option maxHeartbeats 400000 in
theorem joins_many (a : Option Addr) (len cap : Nat) (w : World) (hle : 40 < len) (hm : len ≤ maxLen) :
    Calls Try.prog 4 #[.slice a len cap] w fun e w' => e = .returned (.bool true) ∧ Below w.heap.size w w' := by
  unfold maxLen at hm
  go_enter Try.func4, Try.ntmps4
  go_wp2_with (go_at_call 11; refine (works_any _).mono ?_; rintro e w6 ⟨rfl, hb6⟩)
  go_ret
  exact ⟨rfl, hb6⟩
end Go.Proofs.Ytenkbgcmmmdhmaa
