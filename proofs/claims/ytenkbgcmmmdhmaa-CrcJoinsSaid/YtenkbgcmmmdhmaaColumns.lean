/-
  The walks of crc's columns.
-/
import Derived.Test.YtenkbgcmmmdhmaaWalks
import Derived.BigQuiet
import Derived.Deep.QuietTactic
import Derived.Deep.Cut
namespace Go.Proofs.Ytenkbgcmmmdhmaa
open Go.RowKit Crc
attribute [local go_sem] signed_u32 bnotm bxor band bxorb bone bshr bpat stp_mul stp_walk wrap_I wrap_J bshb shr_succ one_shl
set_option maxHeartbeats 400000 in
theorem of_any (b : Nat) (t : TypeId) (fz : Nat × Nat) (f : Nat → W32) (s : W32) (w : World) (hb : Hid (w.heap[b]? = some (.cells (arr f) t fz))) :
    Calls Try.prog 21 #[.pointer (some ⟨b, 0, none⟩), .int .u32 (I s)] w fun e w' => e = .returned (.int .u32 (I (ofC f s))) ∧ w' = w := by
  go_enter Try.func21, Try.ntmps21
  go_wp2
  go_loop [1, 4, 5] (fun v o i => ∃ k : Nat, k ≤ 32 ∧ i = .int .i64 k ∧ v = .int .u32 (I (s >>> k)) ∧ o = .int .u32 (I (ofN f s k))) (fun _ _ i => 32 - (intOf i).toNat)
  case atStart => exact ⟨0, Nat.zero_le _, rfl, by rw [BitVec.ushiftRight_zero], rfl⟩
  case round =>
    obtain ⟨k, hk, rfl, rfl, rfl⟩ := hrel
    by_cases hz : 0 < I (s >>> k)
    · have hlt : k < 32 := shr_lt (I_pos hz)
      have hc := arr_cell hb.out k hlt
      by_cases hbit : (I ((s >>> k) &&& 1#32) == 1) = true
      · have HO : Hid _ := ofN_hi f s k hbit
        go_wp2
        go_round
        case rel => exact ⟨k + 1, by omega, by go_num, rfl, by rw [HO.out]⟩
        case measure => simp [intOf]; omega
      · have hbit' : (I ((s >>> k) &&& 1#32) == 1) = false := by simpa using hbit
        clear hbit
        have HO : Hid _ := ofN_lo f s k hbit'
        go_wp2
        go_round
        case rel => exact ⟨k + 1, by omega, by go_num, rfl, by rw [HO.out]⟩
        case measure => simp [intOf]; omega
    · have HE : Hid _ := ofC_end f s k hk (I_zero hz)
      go_wp2
      go_ret
      rw [HE.out]; exact ⟨rfl, rfl⟩
/-- behind n rounds that filled a block of 32 cells -/
def TwRel (T : TypeId) (w : World) (g : Nat → W32) (wr : World) : Prop :=
  wr.heap[w.heap.size]? = some (.cells (arr g) T (0, 0)) ∧ wr.heap.size = w.heap.size + 1 ∧ Below w.heap.size w wr
theorem TwRel.start (T : TypeId) (w : World) (g : Nat → W32) (hg : ∀ k, k < 32 → g k = 0#32) : TwRel T w g (w.alloc (.cells (arr (fun _ => 0#32)) T)) := by
  refine ⟨?_, by simp, (Below.refl _ _).alloc (Nat.le_refl _) _⟩
  rw [heap_alloc_new, arr_congr (g := fun _ => 0#32) hg]
theorem TwRel.drew {T : TypeId} {w wr : World} {g : Nat → W32} (h : TwRel T w g wr) (n : Nat) : TwRel T w g (wr.drewN n) :=
  ⟨h.1, h.2.1, ⟨h.2.2.os, h.2.2.tape, h.2.2.output, h.2.2.size, h.2.2.block⟩⟩
theorem TwRel.set {T : TypeId} {w wr : World} {g : Nat → W32} (h : TwRel T w g wr) (k : Nat) (x : W32) : TwRel T w (fun j => if j = k then x else g j) (wr.setCell ⟨w.heap.size, k, none⟩ (.int .u32 (I x))) := by
  refine ⟨?_, by simp [World.setCell, h.2.1], h.2.2.setCell (Nat.le_refl _) _⟩
  rw [heap_setCell_same _ _ _ _ _ _ h.1, arr_set]
theorem info42 : (Try.prog.info? 42).map (·.size) = some 32 := by kernel_rfl
set_option maxHeartbeats 1000000 in
theorem twice_any (b : Nat) (t : TypeId) (fz : Nat × Nat) (f : Nat → W32) (w : World) (hb : Hid (w.heap[b]? = some (.cells (arr f) t fz))) :
    Calls Try.prog 22 #[.pointer (some ⟨b, 0, none⟩)] w fun e w' => e = .returned (.agg (arr (twice f))) ∧ Below w.heap.size w w' := by
  have hlt : b < w.heap.size := (Array.getElem?_eq_some_iff.1 hb.out).1
  go_enter Try.func22, Try.ntmps22
  go_wp2
  go_loopw [6] (fun i wr => ∃ k : Nat, k ≤ 32 ∧ i = .int .i64 k ∧ TwRel 42 w (twN f k) wr) (fun i _ => 32 - (intOf i).toNat)
  case atStart => exact ⟨0, Nat.zero_le _, rfl, TwRel.start 42 w (twN f 0) (fun _ _ => rfl)⟩
  case round =>
    obtain ⟨k, hk, rfl, HR⟩ := hrel
    by_cases hk2 : k < 32
    · have HB : Hid (wr.heap[b]? = some (.cells (arr f) t fz)) := (HR.2.2.block b hlt).trans hb.out
      have hc := arr_cell HB.out k hk2
      have hc2 := arr_cell HR.1 k hk2
      have hf2 := frozen_of_row wr w.heap.size k _ _ HR.1
      go_wp2
      go_quiet (fail)
      go_wp2_with (go_at_call 21; refine (of_any b t fz f _ _ (by exact HB.out)).mono ?_; rintro e w' ⟨rfl, rfl⟩)
      go_round
      case rel => exact ⟨k + 1, by omega, by go_num, by have := (HR.drew nq).set k (ofC f (f k)); rw [twN_succ] at this; exact this⟩
      case measure => simp [intOf]; omega
    · obtain rfl : k = 32 := by omega
      have hz := HR.2.2
      have hrow : Hid (wr.heap[w.heap.size]? = some (.cells (arr (twice f)) 42 (0, 0))) := by rw [← arr_twN]; exact HR.1
      clear HR
      go_wp2_with (first
        | (refine wpList_load_row (o := ⟨some 18, _, _, _, _, _⟩) (by rfl) 42 (.tmp 2) (by rfl) w.heap.size (by rfl) 42 (arr (twice f)) (0, 0) _ hrow.out Try.underlying42 (by rfl) (by rw [arr_size]; exact info42) ?_)
        | (refine wpList_store_row (o := ⟨none, _, _, _, _, _⟩) (by rfl) 42 (.tmp 2) (.tmp 18) (by rfl) w.heap.size (arr (twice f)) (by rfl) (by rfl) 42 (arr (twice f)) hrow.out (by rw [arr_size]; exact info42) (by rfl) (arr_one _) ?_))
      refine bodyPost_ret (v := .agg (arr (twice f))) (results_cell_row rfl _ _ w.heap.size 42 _ (0, 0) _ rfl (setRow_heap _ _ _ _ _ _ hrow.out) Try.underlying42 rfl (by rw [arr_size]; exact info42)) rfl ⟨rfl, ?_⟩
      exact hz.trans ⟨rfl, rfl, rfl, by simp, fun k hk => setRow_other _ _ _ _ (by omega)⟩
theorem Tw3 (T : TypeId) {w w2 w3 : World} (h2 : Below w.heap.size w w2) (hs : w.heap.size < w2.heap.size) (h3 : Below w2.heap.size w2 w3) {old : Array Value}
    (hr : w3.heap[w.heap.size]? = some (.cells old T (0, 0))) (new : Array Value) :
    (w3.setRow w.heap.size new).heap[w.heap.size]? = some (.cells new T (0, 0)) ∧ Below w.heap.size w (w3.setRow w.heap.size new) ∧ w.heap.size < (w3.setRow w.heap.size new).heap.size := by
  have hs3 := h3.size
  refine ⟨setRow_heap _ _ _ _ _ _ hr, ?_, by rw [size_setRow]; omega⟩
  exact (h2.trans (h3.mono (by omega))).trans ⟨rfl, rfl, rfl, by simp, fun k hk => setRow_other _ _ _ _ (by omega)⟩
set_option maxHeartbeats 1000000 in
theorem noughts_any (s : W32) (n : Int) (w : World) (hn : -9223372036854775808 ≤ n ∧ n ≤ 9223372036854775807) :
    Calls Try.prog 20 #[.int .u32 (I s), .int .i64 n] w fun e w' => e = .returned (.int .u32 (I (noughts s n.toNat))) ∧ Below w.heap.size w w' := by
  go_enter Try.func20, Try.ntmps20
  go_wp2
  go_loopw [7] (fun i wr => ∃ k : Nat, k ≤ 32 ∧ i = .int .i64 k ∧ TwRel 42 w (fillN k) wr) (fun i _ => 32 - (intOf i).toNat)
  case atStart => exact ⟨0, Nat.zero_le _, rfl, TwRel.start 42 w (fillN 0) (fun _ _ => rfl)⟩
  case round =>
    obtain ⟨k, hk, rfl, HR⟩ := hrel
    by_cases hk2 : k < 32
    · have hc2 := arr_cell HR.1 k hk2
      have hf2 := frozen_of_row wr w.heap.size k _ _ HR.1
      go_wp2_with (go_at_call 18; refine (stepped_any _ _).mono ?_; rintro e w' ⟨rfl, rfl⟩)
      go_roundw
      case rel => exact ⟨k + 1, by omega, by go_num, by have := HR.set k (col0 k); rw [fillN_succ] at this; exact this⟩
      case measure => simp [intOf]; omega
    · obtain rfl : k = 32 := by omega
      have hw0 : Below w.heap.size w wr := HR.2.2
      have hs0 : w.heap.size < wr.heap.size := by have := HR.2.1; omega
      have hrow : Hid (wr.heap[w.heap.size]? = some (.cells (arr col0) 42 (0, 0))) := by rw [← arr_fillN]; exact HR.1
      clear HR
      rw [show (((32 : Nat) : Int)) = (32 : Int) from rfl]
      go_wp2
      go_loopw [0, 1] (fun v i wq => ∃ (x : Int) (t : W32) (f : Nat) (c : Nat → W32), i = .int .i64 x ∧ v = .int .u32 (I t) ∧ (-9223372036854775808 ≤ x ∧ x ≤ 9223372036854775807) ∧ x.toNat < 2 ^ f ∧ ngo f c t x.toNat = noughts s n.toNat ∧ wq.heap[w.heap.size]? = some (.cells (arr c) 42 (0, 0)) ∧ Below w.heap.size w wq ∧ w.heap.size < wq.heap.size) (fun _ i _ => (intOf i).toNat)
      case atStart => exact ⟨n, s, 64, col0, rfl, rfl, hn, by omega, rfl, hrow.out, hw0, hs0⟩
      case round =>
        obtain ⟨x, t, f, c, rfl, rfl, hx, hxf, hngo, hrow2, hw2, hs2⟩ := hrel
        by_cases hp : 0 < x
        · have hand : bits .and .i64 x 1 = x % 2 := and1_i64 x hp hx.2
          by_cases hb : (x % 2 == 1) = true
          · obtain ⟨g, hg, Hg⟩ := ngo_hi f c t x hp hxf hb
            have Hg2 : Hid (_ = _) := Hg.symm.trans hngo
            have Hrow2 : Hid _ := hrow2
            clear hngo hrow2 hrow hw0 hs0 hxf Hg
            go_wp2_with (first
              | (go_at_call 21; refine (of_any w.heap.size 42 (0, 0) c t _ Hrow2).mono ?_; rintro e w' ⟨rfl, rfl⟩)
              | (go_at_call 22; refine (twice_any w.heap.size 42 (0, 0) c _ Hrow2).mono ?_; rintro e w3 ⟨rfl, hb3⟩; have Hrow3 := (hb3.block _ hs2).trans Hrow2.out)
              | (refine wpList_store_row (o := ⟨none, _, _, _, _, _⟩) (by rfl) 42 (.tmp 5) (.tmp 25) (by rfl) w.heap.size (arr (twice c)) (by rfl) (by rfl) 42 (arr c) (by assumption) (by rw [arr_size]; exact info42) (by rw [arr_size, arr_size]) (arr_one _) ?_))
            have hw3 := Tw3 42 hw2 hs2 hb3 Hrow3 (arr (twice c))
            clear hb3 Hrow3
            go_roundw
            case rel => exact ⟨x / 2, ofC c t, g, twice c, rfl, rfl, by omega, hg, Hg2.out, hw3⟩
            case measure => simp [intOf]; omega
          · have hb' : (x % 2 == 1) = false := by simpa using hb
            clear hb
            obtain ⟨g, hg, Hg⟩ := ngo_lo f c t x hp hxf hb'
            have Hg2 : Hid (_ = _) := Hg.symm.trans hngo
            have Hrow2 : Hid _ := hrow2
            clear hngo hrow2 hrow hw0 hs0 hxf Hg
            go_wp2_with (first
              | (go_at_call 21; refine (of_any w.heap.size 42 (0, 0) c t _ Hrow2).mono ?_; rintro e w' ⟨rfl, rfl⟩)
              | (go_at_call 22; refine (twice_any w.heap.size 42 (0, 0) c _ Hrow2).mono ?_; rintro e w3 ⟨rfl, hb3⟩; have Hrow3 := (hb3.block _ hs2).trans Hrow2.out)
              | (refine wpList_store_row (o := ⟨none, _, _, _, _, _⟩) (by rfl) 42 (.tmp 5) (.tmp 25) (by rfl) w.heap.size (arr (twice c)) (by rfl) (by rfl) 42 (arr c) (by assumption) (by rw [arr_size]; exact info42) (by rw [arr_size, arr_size]) (arr_one _) ?_))
            have hw3 := Tw3 42 hw2 hs2 hb3 Hrow3 (arr (twice c))
            clear hb3 Hrow3
            go_roundw
            case rel => exact ⟨x / 2, t, g, twice c, rfl, rfl, by omega, hg, Hg2.out, hw3⟩
            case measure => simp [intOf]; omega
        · have e : x.toNat = 0 := by omega
          have Hf : Hid (noughts s n.toNat = t) := by rw [← hngo, e]; exact ngo_zero _ _ _
          clear e hngo hrow hrow2
          go_wp2
          go_ret
          rw [Hf.out]; exact ⟨rfl, hw2⟩
/-- a new block of bytes reads as these -/
theorem rd_new (w : World) (t : TypeId) (fz : Nat × Nat) (bs : List UInt8) (cs : List Value) (h : cs = bs.map fun c => Value.int .u8 (J c)) :
    Rd (w.alloc (.cells cs.toArray t fz)) (some ⟨w.heap.size, 0, none⟩) bs := by
  intro k hk
  refine ⟨w.heap.size, 0, rfl, ?_⟩
  rw [Nat.zero_add, cell_of_row _ _ _ _ _ _ (heap_alloc_new w _), h]
  simp [hk]
theorem rd_below {B : Nat} {w w' : World} (h : Below B w w') {b off : Nat} (hb : b < B) {bs : List UInt8} (hr : Rd w (some ⟨b, off, none⟩) bs) : Rd w' (some ⟨b, off, none⟩) bs := by
  intro k hk
  obtain ⟨b', o', e, hc⟩ := hr k hk
  injection e with e; injection e with e1 e2; subst e1; subst e2
  exact ⟨b, off, rfl, by rw [h.cell (p := ⟨b, off + k, none⟩) hb]; exact hc⟩
end Go.Proofs.Ytenkbgcmmmdhmaa
