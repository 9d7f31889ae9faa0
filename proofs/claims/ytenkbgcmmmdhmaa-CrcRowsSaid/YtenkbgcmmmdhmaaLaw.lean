/-
  The walks of the laws' helpers.
-/
import Derived.Test.YtenkbgcmmmdhmaaColumns
import Derived.Lib.SlBytesConst
namespace Go.Proofs.Ytenkbgcmmmdhmaa
open Go.RowKit Crc
attribute [local go_sem] signed_u32 bnotm bxor band bxorb bone bshr bpat stp_mul stp_walk wrap_I wrap_J bshb shr_succ one_shl
set_option maxHeartbeats 400000 in
theorem turn_any (s : W32) (n : Int) (w : World) (hn : -9223372036854775808 ≤ n ∧ n ≤ 9223372036854775807) :
    Calls Try.prog 17 #[.int .u32 (I s), .int .i64 n] w fun e w' => e = .returned (.int .u32 (I (turn s n.toNat))) ∧ Below w.heap.size w w' := by
  go_enter Try.func17, Try.ntmps17
  go_wp2_with (go_at_call 20; refine (noughts_any _ n _ hn).mono ?_; rintro e w' ⟨rfl, hb⟩)
  go_ret
  exact ⟨rfl, hb⟩
set_option maxHeartbeats 400000 in
theorem join_any (a b : W32) (n : Int) (w : World) (hn : -9223372036854775808 ≤ n ∧ n ≤ 9223372036854775807) :
    Calls Try.prog 16 #[.int .u32 (I a), .int .u32 (I b), .int .i64 n] w fun e w' => e = .returned (.int .u32 (I (join a b n.toNat))) ∧ Below w.heap.size w w' := by
  go_enter Try.func16, Try.ntmps16
  go_wp2_with (go_at_call 20; refine (noughts_any _ n _ hn).mono ?_; rintro e w' ⟨rfl, hb⟩)
  go_ret
  exact ⟨rfl, hb⟩
set_option maxHeartbeats 400000 in
theorem vast_any (a : Option Addr) (len cap : Nat) (w : World) :
    Calls Try.prog 10 #[.slice a len cap] w fun e w' => e = .returned (.bool (decide ((4096 : Int) < len))) ∧ w' = w := by
  go_enter Try.func10, Try.ntmps10
  go_wp2
  go_ret
  exact ⟨rfl, rfl⟩
theorem works1 : (I (sum []) == 0) = true := by kernel_rfl
theorem works2 : (I (sum [97]) == 3904355907) = true := by kernel_rfl
theorem works3 : (I (sum [49, 50, 51, 52, 53, 54, 55, 56, 57]) == 3421780262) = true := by kernel_rfl
theorem works4 : (I (join (sum [49, 50, 51, 52]) (sum [53, 54, 55, 56, 57]) 5) == 3421780262) = true := by kernel_rfl
theorem sum_new (w : World) (fz : Nat × Nat) (n : Nat) (bs : List UInt8) (cs : Array Value) (hn : bs.length = n) (hn2 : n ≤ 100) (h : cs = (bs.map fun c => Value.int .u8 (J c)).toArray) :
    Calls Try.prog 12 #[.slice (some ⟨w.heap.size, 0, none⟩) n n] (w.alloc (.cells cs 5 fz)) fun e w' => e = .returned (.int .u32 (I (sum bs))) ∧ Below w.heap.size w w' := by
  subst h
  refine (sum_any _ n n bs _ (by omega) hn (rd_new w 5 fz bs _ rfl)).mono ?_
  rintro e w' ⟨rfl, rfl⟩
  exact ⟨rfl, (Below.refl _ _).alloc (Nat.le_refl _) _⟩
attribute [local irreducible] Crc.sum Crc.join
set_option maxHeartbeats 1000000 in
theorem works_any (w : World) :
    Calls Try.prog 11 #[] w fun e w' => e = .returned (.bool true) ∧ Below w.heap.size w w' := by
  have h1 := works1
  have h2 := works2
  have h3 := works3
  have h4 := works4
  go_enter Try.func11, Try.ntmps11
  go_wp2_with fail
  refine (sum_any none 0 0 [] _ (by omega) rfl (fun k hk => absurd hk (by simp))).mono ?_
  rintro e w' ⟨rfl, rfl⟩
  have kc := fun (w : World) (C : Array Value) (n c : Nat) => Lib.run_convert_bytes_const (P := Try.prog) w 22 5 C n c Try.underlying22 Try.underlying5
  go_wp2_with fail
  refine (sum_new _ _ 1 [97] _ rfl (by omega) rfl).mono ?_
  rintro e w1 ⟨rfl, hb1⟩
  go_wp2_with fail
  refine (sum_new _ _ 9 [49, 50, 51, 52, 53, 54, 55, 56, 57] _ rfl (by omega) rfl).mono ?_
  rintro e w2 ⟨rfl, hb2⟩
  go_wp2_with fail
  refine (sum_new _ _ 4 [49, 50, 51, 52] _ rfl (by omega) rfl).mono ?_
  rintro e w3 ⟨rfl, hb3⟩
  go_wp2_with fail
  refine (sum_new _ _ 5 [53, 54, 55, 56, 57] _ rfl (by omega) rfl).mono ?_
  rintro e w4 ⟨rfl, hb4⟩
  go_wp2_with fail
  refine (join_any _ _ 5 _ (by omega)).mono ?_
  rintro e w5 ⟨rfl, hb5⟩
  go_wp2_with fail
  go_ret
  have s1 := hb1.size
  have s2 := hb2.size
  have s3 := hb3.size
  have s4 := hb4.size
  exact ⟨rfl, ((((hb1.trans (hb2.mono (by omega))).trans (hb3.mono (by omega))).trans (hb4.mono (by omega))).trans (hb5.mono (by omega)))⟩
end Go.Proofs.Ytenkbgcmmmdhmaa
