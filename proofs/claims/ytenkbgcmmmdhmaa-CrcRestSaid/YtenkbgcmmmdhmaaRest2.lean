/-
  CrcRest.
-/
import Derived.Test.YtenkbgcmmmdhmaaRest1
namespace Go.Proofs.Ytenkbgcmmmdhmaa
open Go.RowKit Crc
attribute [local go_sem] signed_u32 bnotm bxor band bxorb bone bshr bpat stp_mul stp_walk wrap_I wrap_J bshb shr_succ one_shl I_beq lowb_I shr8 shr16 shr24
attribute [local irreducible] Crc.sum Crc.join Crc.rsum Crc.more Crc.rmore Crc.turn strB lowb
theorem rd_row {w : World} {g : Nat} {cs : Array Value} {t : TypeId} {fz : Nat × Nat} (h : w.heap[g]? = some (.cells cs t fz)) (bs : List UInt8) (hc : cs = (cellsOf bs).toArray) : Rd w (some ⟨g, 0, none⟩) bs := by
  intro k hk
  refine ⟨g, 0, rfl, ?_⟩
  rw [Nat.zero_add, cell_of_row _ _ _ _ _ _ h, hc]
  simpa using cellsOf_get bs k hk
theorem rest_c (s : W32) : (I (more s (four s)) == 558161692) = true := by
  rw [rest_own]; rfl
theorem rest_d (s o : W32) : (I (more s (four o)) == 558161692) = (o == s) := by
  rw [show (558161692 : Int) = I 0x2144df1c#32 from rfl, I_beq, rest_iff]
theorem rest_e (b : List UInt8) : (I (sum (b ++ four (sum b))) == 558161692) = true := by
  rw [rest_sum]; rfl
set_option maxHeartbeats 1000000 in
theorem rest_any (a : Option Addr) (len cap : Nat) (bs : List UInt8) (o : W32) (w : World) (hle : len ≤ 4096) (hbs : Hid (bs.length = len)) (hr : Rd w a bs)
    (hnil : a = none → len = 0 ∧ cap = 0) :
    Calls Try.prog 7 #[.slice a len cap, .int .u32 (I o)] w fun e w' => e = .returned (.bool true) ∧ Below w.heap.size w w' := by
  have Hnil : Hid _ := hnil
  clear hnil
  have h1 : decide ((4096 : Int) < len) = false := by simp; omega
  have h2 := rest_c (sum bs)
  have h3 := rest_d (sum bs) o
  have h4 := rest_e bs
  go_enter Try.func7, Try.ntmps7
  go_wp2_with fail
  refine (vast_any _ _ _ _).mono ?_
  rintro e w' ⟨rfl, rfl⟩
  go_wp2_with fail
  refine (sum_any a len cap bs _ (by omega) hbs hr).mono ?_
  rintro e w' ⟨rfl, rfl⟩
  go_wp2_with fail
  have hb0 : Below w'.heap.size w' ((w'.alloc (.cells #[.int .u8 (J (lowb (sum bs))), .int .u8 (J (lowb (sum bs >>> 8))), .int .u8 (J (lowb (sum bs >>> 16))), .int .u8 (J (lowb (sum bs >>> 24)))] 5)).alloc (.cells #[.int .u8 (J (lowb o)), .int .u8 (J (lowb (o >>> 8))), .int .u8 (J (lowb (o >>> 16))), .int .u8 (J (lowb (o >>> 24)))] 5)) :=
    ((Below.refl _ _).alloc (Nat.le_refl _) _).alloc (by simp) _
  have hA := rd_row (heap_alloc2_old w' (.cells #[.int .u8 (J (lowb (sum bs))), .int .u8 (J (lowb (sum bs >>> 8))), .int .u8 (J (lowb (sum bs >>> 16))), .int .u8 (J (lowb (sum bs >>> 24)))] 5) (.cells #[.int .u8 (J (lowb o)), .int .u8 (J (lowb (o >>> 8))), .int .u8 (J (lowb (o >>> 16))), .int .u8 (J (lowb (o >>> 24)))] 5)) (four (sum bs)) rfl
  have hB := rd_row (heap_alloc2_new w' (.cells #[.int .u8 (J (lowb (sum bs))), .int .u8 (J (lowb (sum bs >>> 8))), .int .u8 (J (lowb (sum bs >>> 16))), .int .u8 (J (lowb (sum bs >>> 24)))] 5) (.cells #[.int .u8 (J (lowb o)), .int .u8 (J (lowb (o >>> 8))), .int .u8 (J (lowb (o >>> 16))), .int .u8 (J (lowb (o >>> 24)))] 5)) (four o) rfl
  have hr2 := rd_kept hb0 hr
  have hsz : w'.heap.size + 1 < ((w'.alloc (.cells #[.int .u8 (J (lowb (sum bs))), .int .u8 (J (lowb (sum bs >>> 8))), .int .u8 (J (lowb (sum bs >>> 16))), .int .u8 (J (lowb (sum bs >>> 24)))] 5)).alloc (.cells #[.int .u8 (J (lowb o)), .int .u8 (J (lowb (o >>> 8))), .int .u8 (J (lowb (o >>> 16))), .int .u8 (J (lowb (o >>> 24)))] 5)).heap.size := by simp
  generalize ((w'.alloc (.cells #[.int .u8 (J (lowb (sum bs))), .int .u8 (J (lowb (sum bs >>> 8))), .int .u8 (J (lowb (sum bs >>> 16))), .int .u8 (J (lowb (sum bs >>> 24)))] 5)).alloc (.cells #[.int .u8 (J (lowb o)), .int .u8 (J (lowb (o >>> 8))), .int .u8 (J (lowb (o >>> 16))), .int .u8 (J (lowb (o >>> 24)))] 5)) = W at *
  refine (more_any _ _ 4 4 (four (sum bs)) _ (by omega) rfl hA).mono ?_
  rintro e w2 ⟨rfl, rfl⟩
  go_wp2_with fail
  refine (more_any _ _ 4 4 (four o) _ (by omega) rfl hB).mono ?_
  rintro e w3 ⟨rfl, rfl⟩
  have hnn : (some (⟨w'.heap.size, 0, none⟩ : Addr)) = none → 4 = 0 ∧ 4 = 0 := by intro e; cases e
  have Hnn : Hid _ := hnn
  clear hnn
  go_wp2_with (first
    | (at_builtin; refine wpList_wanted (by rfl) (app_bytes_wp (o := ⟨some 54, _, _, _, _, _⟩) (.tmp 52) (.tmp 53) (by rfl) _ _ 0 0 [] (by rfl) rfl (OwnB.new _) a len cap bs (by rfl) hbs.out (rd_kept ((Below.refl _ _).alloc (Nat.le_refl _) _) hr2) Hnil.out (by omega) (by simp) ?_); intro V vc w4 hown hg; have hb4 : Below w3.heap.size w3 w4 := ((Below.refl _ _).alloc (Nat.le_refl _) _).grown hg (by simp) (by intro k hk; simp [Value.ownBlock] at hk; omega); clear hg; rw [List.nil_append] at hown; have hA4 := rd_kept hb4 hA)
    | (at_builtin; refine wpList_wanted (by rfl) (app_bytes_wp (o := ⟨some 56, _, _, _, _, _⟩) (.tmp 54) (.tmp 55) (by rfl) w3.heap.size V vc len bs (by rfl) hbs.out hown (some ⟨w'.heap.size, 0, none⟩) 4 4 (four (sum bs)) (by rfl) rfl hA4 Hnn.out (by omega) hb4.size ?_); intro V2 vc2 w5 hown2 hg2; have hb5 : Below w3.heap.size w3 w5 := hb4.grown hg2 hb4.size (by intro k hk; exact (World.ownsRow.lt hown k (by have := hbs.out; rw [this]; exact hk)).1); have hrd2 := hown2.rd; clear hg2 hown hown2 hA4))
  refine (sum_any V2 (len + 4) vc2 (bs ++ four (sum bs)) _ (by omega) (by have := hbs.out; show (bs ++ four (sum bs)).length = _; rw [List.length_append, this]; rfl) hrd2).mono ?_
  rintro e w6 ⟨rfl, rfl⟩
  go_wp2_with fail
  refine (works_any _).mono ?_
  rintro e w7 ⟨rfl, hb7⟩
  go_wp2_with fail
  go_ret
  exact ⟨rfl, bch (bch hb0 hb5) hb7⟩
set_option maxHeartbeats 400000 in
theorem rest_vast (a : Option Addr) (len cap : Nat) (s : W32) (w : World) (hle : 4096 < len) :
    Calls Try.prog 7 #[.slice a len cap, .int .u32 (I s)] w fun e w' => e = .returned (.bool true) ∧ Below w.heap.size w w' := by
  have h1 : decide ((4096 : Int) < len) = true := by simp; omega
  go_enter Try.func7, Try.ntmps7
  go_wp2_with fail
  refine (vast_any _ _ _ _).mono ?_
  rintro e w' ⟨rfl, rfl⟩
  go_wp2_with fail
  refine (works_any _).mono ?_
  rintro e w6 ⟨rfl, hb6⟩
  go_wp2_with fail
  go_ret
  exact ⟨rfl, hb6⟩
theorem rest_walk (a0 : Option Addr) (len0 cap0 : Nat) (z0 : List Int) (a1 : Int) (w : World) (w0 : IsRow .u8 w a0 len0 cap0 z0) (w1 : (Lit.int .u32 a1).wf = true) :
    Calls Try.prog 7 #[.slice a0 len0 cap0, .int .u32 a1] w fun e w' => e = .returned (.bool true) ∧ Below w.heap.size w w' := by
  obtain ⟨s, rfl⟩ := word_of w1
  obtain ⟨bs, hl, hr, hn⟩ := w0.bytes
  by_cases h : len0 ≤ 4096
  · exact rest_any a0 len0 cap0 bs s w h hl hr hn
  · exact rest_vast a0 len0 cap0 s w (by omega)
end Go.Proofs.Ytenkbgcmmmdhmaa
