/-
  The walks of vector.fold, Join, Meet.
-/
import Derived.Test.Ytcdkiakknbmfjaa17A
import Derived.Test.YtcdkiakknbmfjaaFxb
namespace Go.Proofs.Ytcdkiakknbmfjaa
open Go.RowKit Rt
namespace Rt
def V2 (x y : Nat → Int) : Nat → Nat → Int
  | 0 => x
  | 1 => y
  | _ => fun _ => 0
end Rt
theorem g_fold0_max (a : Option Addr) (cap : Nat) (w : World) :
    Calls Try.prog 54 #[.slice a (0) (cap), .func (.func 55) #[] #[]] w fun e w' => e = .returned (.agg (Fx.varr 6 (Fx.rv .u64 (fun _ => 0)))) ∧ Below w.heap.size w w' := by
  refine Fx.enter Try.func54 rfl (n := 26) rfl (by rfl) ?_
  refine Fx.W.seq ?_
  refine Fx.W.list ?_
  refine Fx.L.box (m := 1) (y := fun _ => .func (.func 55) #[] #[]) (by rfl) rfl rfl (Fx.cells_one (by rfl)) rfl fun g1 w1 eg1 m1 s1 z1 => ?_
  have b1 : Below w.heap.size w w1 := s1.below (Below.refl w.heap.size w) (Below.refl w.heap.size w).size (Below.refl w.heap.size w).size
  have lg1 : w.heap.size ≤ g1 := by rw [eg1]; exact (Below.refl w.heap.size w).size
  have tg1 : g1 < w1.heap.size := m1.lt
  clear eg1
  refine Fx.L.new (m := 6) (y := Fx.rv .u64 (fun _ => 0)) (by rfl) rfl (by kernel_rfl) rfl fun g2 w2 eg2 m2 s2 z2 => ?_
  have m3 : Fx.Blk w2 g1 1 (fun _ => .func (.func 55) #[] #[]) 110 := m1.stp s2 (Nat.ne_of_lt (m1.lt))
  have b2 : Below w.heap.size w w2 := s2.below b1 b1.size b1.size
  have lg2 : w.heap.size ≤ g2 := by rw [eg2]; exact b1.size
  have ng2m3 : g1 ≠ g2 := by rw [eg2]; exact Nat.ne_of_lt (m1.lt)
  have tg2 : g2 < w2.heap.size := m2.lt
  clear eg2
  refine Fx.L.nil ?_
  refine Fx.seqN ?_
  refine Fx.W.seq ?_
  refine Fx.W.seq ?_
  refine Fx.W.list ?_
  refine Fx.L.val (v := .slice a (0) (cap)) (by rfl) (Fx.x_move rfl rfl) rfl ?_
  refine Fx.L.val (v := .int .i64 (0)) (by rfl) (Fx.x_len rfl rfl rfl (by kernel_rfl)) rfl ?_
  refine Fx.L.val (v := .bool true) (by rfl) (Fx.x_eqlT rfl rfl rfl rfl) rfl ?_
  refine Fx.L.nil ?_
  refine Fx.seqN ?_
  refine Fx.W.cond (b := true) rfl (fun _ => ?_) (fun h => nomatch h)
  refine Fx.W.seq ?_
  refine Fx.W.list ?_
  refine Fx.L.val (v := .agg (Fx.varr 6 (Fx.rv .u64 (fun _ => 0)))) (by rfl) (Fx.x_buildArr (vs := []) (s := 1) (m := 6) (x := Fx.rv .u64 (fun _ => 0)) rfl rfl Try.underlying64 (by kernel_rfl) (by kernel_rfl) (by rfl)) rfl ?_
  refine Fx.L.storeA (x := Fx.rv .u64 (fun _ => 0)) (y := Fx.rv .u64 (fun _ => 0)) (by rfl) rfl rfl rfl rfl (fun _ _ => rfl) (by kernel_rfl) m2 (i := 0) (by omega) fun w3 m4 s3 z3 => ?_
  have m5 : Fx.Blk w3 g2 6 (Fx.rv .u64 (fun _ => 0)) 64 := Fx.ovr_all m4
  have m6 : Fx.Blk w3 g1 1 (fun _ => .func (.func 55) #[] #[]) 110 := m3.stp s3 (by omega)
  have b3 : Below w.heap.size w w3 := s3.below b2 b2.size (by omega)
  refine Fx.L.nil ?_
  refine Fx.seqN ?_
  refine Fx.W.ret ?_
  refine Fx.seqR ?_
  refine ⟨.agg (Fx.varr 6 (Fx.rv .u64 (fun _ => 0))), Fx.retV1 Try.results54 ⟨_, rfl, Fx.run_loadV m5.cel (by kernel_rfl) (by kernel_rfl)⟩, ?_⟩
  exact ⟨rfl, b3⟩
theorem g_foldS_max (b off m cap : Nat) (X : Nat → Nat → Int) (w : World) (hcap : m + 1 ≤ cap) (hm : m ≤ 1000000) (hx : Fx.Cel w b off (6 * (m + 1)) (vx X)) :
    Calls Try.prog 54 #[.slice (some ⟨b, off, none⟩) (m + 1) (cap), .func (.func 55) #[] #[]] w fun e w' => e = .returned (.agg (Fx.varr 6 (Fx.rv .u64 (foldS mx6 X m)))) ∧ Below w.heap.size w w' := by
  have lb := hx.lt (by omega)
  refine Fx.enter Try.func54 rfl (n := 26) rfl (by rfl) ?_
  refine Fx.W.seq ?_
  refine Fx.W.list ?_
  refine Fx.L.box (m := 1) (y := fun _ => .func (.func 55) #[] #[]) (by rfl) rfl rfl (Fx.cells_one (by rfl)) rfl fun g1 w1 eg1 m1 s1 z1 => ?_
  have m2 : Fx.Cel w1 b off (6 * (m + 1)) (vx X) := hx.stp s1 (Nat.ne_of_lt (hx.lt (by omega)))
  have b1 : Below w.heap.size w w1 := s1.below (Below.refl w.heap.size w) (Below.refl w.heap.size w).size (Below.refl w.heap.size w).size
  have lg1 : w.heap.size ≤ g1 := by rw [eg1]; exact (Below.refl w.heap.size w).size
  have ng1m2 : b ≠ g1 := by rw [eg1]; exact Nat.ne_of_lt (hx.lt (by omega))
  have tg1 : g1 < w1.heap.size := m1.lt
  clear eg1
  refine Fx.L.new (m := 6) (y := Fx.rv .u64 (fun _ => 0)) (by rfl) rfl (by kernel_rfl) rfl fun g2 w2 eg2 m3 s2 z2 => ?_
  have m4 : Fx.Cel w2 b off (6 * (m + 1)) (vx X) := m2.stp s2 (Nat.ne_of_lt (m2.lt (by omega)))
  have m5 : Fx.Blk w2 g1 1 (fun _ => .func (.func 55) #[] #[]) 110 := m1.stp s2 (Nat.ne_of_lt (m1.lt))
  have b2 : Below w.heap.size w w2 := s2.below b1 b1.size b1.size
  have lg2 : w.heap.size ≤ g2 := by rw [eg2]; exact b1.size
  have ng2m4 : b ≠ g2 := by rw [eg2]; exact Nat.ne_of_lt (m2.lt (by omega))
  have ng2m5 : g1 ≠ g2 := by rw [eg2]; exact Nat.ne_of_lt (m1.lt)
  have tg2 : g2 < w2.heap.size := m3.lt
  clear eg2
  refine Fx.L.nil ?_
  refine Fx.seqN ?_
  refine Fx.W.seq ?_
  refine Fx.W.seq ?_
  refine Fx.W.list ?_
  refine Fx.L.val (v := .slice (some ⟨b, off, none⟩) (m + 1) (cap)) (by rfl) (Fx.x_move rfl rfl) rfl ?_
  refine Fx.L.val (v := .int .i64 (((m + 1 : Nat) : Int))) (by rfl) (Fx.x_len rfl rfl rfl (by kernel_rfl)) rfl ?_
  refine Fx.L.val (v := .bool false) (by rfl) (Fx.x_eqlF rfl rfl rfl (by omega)) rfl ?_
  refine Fx.L.nil ?_
  refine Fx.seqN ?_
  refine Fx.W.cond (b := false) rfl (fun h => nomatch h) (fun _ => ?_)
  refine Fx.W.skip ?_
  refine Fx.seqN ?_
  refine Fx.W.seq ?_
  refine Fx.W.list ?_
  refine Fx.L.val (v := .slice (some ⟨b, off, none⟩) (m + 1) (cap)) (by rfl) (Fx.x_move rfl rfl) rfl ?_
  refine Fx.L.val (v := .pointer (some ⟨b, off, none⟩)) (by rfl) (Fx.x_indexS rfl rfl rfl Try.underlying100 (s := 6) (by kernel_rfl) (by omega) (by omega) (by omega)) rfl ?_
  refine Fx.L.val (v := .agg (Fx.varr 6 (Fx.rv .u64 (X 0)))) (by rfl) (Fx.x_loadA (x := vx X) (y := Fx.rv .u64 (X 0)) rfl rfl (by kernel_rfl) (by kernel_rfl) m4 (i := 0) (by omega) (by omega) (fun j hj => vx_row _ (i := 0) (p := 0) (by omega) hj)) rfl ?_
  refine Fx.L.new (m := 6) (y := Fx.rv .u64 (fun _ => 0)) (by rfl) rfl (by kernel_rfl) rfl fun g3 w3 eg3 m6 s3 z3 => ?_
  have m7 : Fx.Cel w3 b off (6 * (m + 1)) (vx X) := m4.stp s3 (Nat.ne_of_lt (m4.lt (by omega)))
  have m8 : Fx.Blk w3 g1 1 (fun _ => .func (.func 55) #[] #[]) 110 := m5.stp s3 (Nat.ne_of_lt (m5.lt))
  have m9 : Fx.Blk w3 g2 6 (Fx.rv .u64 (fun _ => 0)) 64 := m3.stp s3 (Nat.ne_of_lt (m3.lt))
  have b3 : Below w.heap.size w w3 := s3.below b2 b2.size b2.size
  have lg3 : w.heap.size ≤ g3 := by rw [eg3]; exact b2.size
  have ng3m7 : b ≠ g3 := by rw [eg3]; exact Nat.ne_of_lt (m4.lt (by omega))
  have ng3m8 : g1 ≠ g3 := by rw [eg3]; exact Nat.ne_of_lt (m5.lt)
  have ng3m9 : g2 ≠ g3 := by rw [eg3]; exact Nat.ne_of_lt (m3.lt)
  have tg3 : g3 < w3.heap.size := m6.lt
  clear eg3
  refine Fx.L.storeA (x := Fx.rv .u64 (fun _ => 0)) (y := Fx.rv .u64 (X 0)) (by rfl) rfl rfl rfl rfl (fun _ _ => rfl) (by kernel_rfl) m6 (i := 0) (by omega) fun w4 m10 s4 z4 => ?_
  have m11 : Fx.Blk w4 g3 6 (Fx.rv .u64 (X 0)) 64 := Fx.ovr_all m10
  have m12 : Fx.Cel w4 b off (6 * (m + 1)) (vx X) := m7.stp s4 (by omega)
  have m13 : Fx.Blk w4 g1 1 (fun _ => .func (.func 55) #[] #[]) 110 := m8.stp s4 (by omega)
  have m14 : Fx.Blk w4 g2 6 (Fx.rv .u64 (fun _ => 0)) 64 := m9.stp s4 (by omega)
  have b4 : Below w.heap.size w w4 := s4.below b3 b3.size (by omega)
  refine Fx.L.nil ?_
  refine Fx.seqN ?_
  refine Fx.W.seq ?_
  refine Fx.W.seq ?_
  refine Fx.W.list ?_
  refine Fx.L.val (v := .slice (some ⟨b, off, none⟩) (m + 1) (cap)) (by rfl) (Fx.x_move rfl rfl) rfl ?_
  refine Fx.L.val (v := .slice (if cap = 1 then some ⟨b, off, none⟩ else some ⟨b, off + 6, none⟩) (m) (cap - 1)) (by rfl) (Fx.x_sliceLo2 (j := 1) (b := b) (off := off) (len := m + 1) (cap := cap) (s := 6) rfl rfl rfl Try.underlying100 (by kernel_rfl) (by omega) rfl rfl rfl) rfl ?_
  refine Fx.L.val (v := .int .i64 ((m : Int))) (by rfl) (Fx.x_len rfl rfl rfl (by kernel_rfl)) rfl ?_
  refine Fx.L.val (v := .int .i64 (0)) (by rfl) (Fx.x_move rfl rfl) rfl ?_
  refine Fx.L.nil ?_
  refine Fx.seqN ?_
  refine Fx.W.block ?_
  have m15 : Fx.Blk w4 g3 6 (Fx.rv .u64 (foldS mx6 X 0)) 64 := m11
  refine Fx.W.loop (fun f w_ => ∃ k : Nat, k ≤ m ∧ f 3 = .pointer (some ⟨g1, 0, none⟩) ∧ f 4 = .pointer (some ⟨g2, 0, none⟩) ∧ f 5 = .pointer (some ⟨g3, 0, none⟩) ∧ f 16 = .slice (if cap = 1 then some ⟨b, off, none⟩ else some ⟨b, off + 6, none⟩) (m) (cap - 1) ∧ f 17 = .int .i64 ((m : Int)) ∧ f 18 = .int .i64 ((k : Int)) ∧ Fx.Cel w_ b off (6 * (m + 1)) (vx X) ∧ Fx.Blk w_ g1 1 (fun _ => .func (.func 55) #[] #[]) 110 ∧ Fx.Blk w_ g2 6 (Fx.rv .u64 (fun _ => 0)) 64 ∧ Fx.Blk w_ g3 6 (Fx.rv .u64 (foldS mx6 X k)) 64 ∧ Below w.heap.size w w_) (fun f _ => (m - (intOf (f 18)).toNat)) ⟨0, by omega, (by rfl), (by rfl), (by rfl), (by rfl), (by first | rfl | exact congrArg (Value.int .i64) (by omega)), (by first | rfl | exact congrArg (Value.int .i64) (by omega)), m12, m13, m14, m15, b4⟩ ?_
  rintro f1 w5 ⟨k, hk, h1, h2, h3, h4, h5, h6, m16, m17, m18, m19, b5⟩
  refine Fx.W.seq ?_
  refine Fx.W.list ?_
  by_cases c19 : (k : Int) < (m : Int)
  · refine Fx.L.val (v := .bool true) (by rfl) (Fx.x_lssT rfl h6 h5 c19) rfl ?_
    refine Fx.L.nil ?_
    refine Fx.seqN ?_
    refine Fx.W.seq ?_
    refine Fx.W.cond (b := true) rfl (fun _ => ?_) (fun h => nomatch h)
    refine Fx.W.skip ?_
    refine Fx.seqN ?_
    refine Fx.W.seq ?_
    refine Fx.W.block ?_
    refine Fx.W.seq ?_
    refine Fx.W.list ?_
    refine Fx.L.val (v := .pointer (some ⟨b, 6 * k + off + 6, none⟩)) (by rfl) (Fx.x_indexS rfl (h4.trans (congrArg (fun q => Value.slice q (m) (cap - 1)) (if_neg (by omega)))) h6 Try.underlying100 (s := 6) (by kernel_rfl) (by omega) (by omega) (by omega)) rfl ?_
    refine Fx.L.val (v := .agg (Fx.varr 6 (Fx.rv .u64 (X (k + 1))))) (by rfl) (Fx.x_loadA (x := vx X) (y := Fx.rv .u64 (X (k + 1))) rfl rfl (by kernel_rfl) (by kernel_rfl) m16 (i := 6 * k + 6) (by omega) (by omega) (fun j hj => vx_row _ (i := k + 1) (p := 6 * k + 6) (by omega) hj)) rfl ?_
    refine Fx.L.new (m := 6) (y := Fx.rv .u64 (fun _ => 0)) (by rfl) rfl (by kernel_rfl) rfl fun g4 w6 eg4 m20 s5 z5 => ?_
    have m21 : Fx.Cel w6 b off (6 * (m + 1)) (vx X) := m16.stp s5 (Nat.ne_of_lt (m16.lt (by omega)))
    have m22 : Fx.Blk w6 g1 1 (fun _ => .func (.func 55) #[] #[]) 110 := m17.stp s5 (Nat.ne_of_lt (m17.lt))
    have m23 : Fx.Blk w6 g2 6 (Fx.rv .u64 (fun _ => 0)) 64 := m18.stp s5 (Nat.ne_of_lt (m18.lt))
    have m24 : Fx.Blk w6 g3 6 (Fx.rv .u64 (foldS mx6 X k)) 64 := m19.stp s5 (Nat.ne_of_lt (m19.lt))
    have b6 : Below w.heap.size w w6 := s5.below b5 b5.size b5.size
    have lg4 : w.heap.size ≤ g4 := by rw [eg4]; exact b5.size
    have ng4m21 : b ≠ g4 := by rw [eg4]; exact Nat.ne_of_lt (m16.lt (by omega))
    have ng4m22 : g1 ≠ g4 := by rw [eg4]; exact Nat.ne_of_lt (m17.lt)
    have ng4m23 : g2 ≠ g4 := by rw [eg4]; exact Nat.ne_of_lt (m18.lt)
    have ng4m24 : g3 ≠ g4 := by rw [eg4]; exact Nat.ne_of_lt (m19.lt)
    have tg4 : g4 < w6.heap.size := m20.lt
    clear eg4
    refine Fx.L.storeA (x := Fx.rv .u64 (fun _ => 0)) (y := Fx.rv .u64 (X (k + 1))) (by rfl) rfl rfl rfl rfl (fun _ _ => rfl) (by kernel_rfl) m20 (i := 0) (by omega) fun w7 m25 s6 z6 => ?_
    have m26 : Fx.Blk w7 g4 6 (Fx.rv .u64 (X (k + 1))) 64 := Fx.ovr_all m25
    have m27 : Fx.Cel w7 b off (6 * (m + 1)) (vx X) := m21.stp s6 (by omega)
    have m28 : Fx.Blk w7 g1 1 (fun _ => .func (.func 55) #[] #[]) 110 := m22.stp s6 (by omega)
    have m29 : Fx.Blk w7 g2 6 (Fx.rv .u64 (fun _ => 0)) 64 := m23.stp s6 (by omega)
    have m30 : Fx.Blk w7 g3 6 (Fx.rv .u64 (foldS mx6 X k)) 64 := m24.stp s6 (by omega)
    have b7 : Below w.heap.size w w7 := s6.below b6 b6.size (by omega)
    refine Fx.L.nil ?_
    refine Fx.seqN ?_
    refine Fx.W.list ?_
    refine Fx.L.val (v := .func (.func 65) #[] #[.pointer (some ⟨g1, 0, none⟩), .pointer (some ⟨g3, 0, none⟩), .pointer (some ⟨g4, 0, none⟩)]) (by rfl) (Fx.x_func (us := []) (vs := [.pointer (some ⟨g1, 0, none⟩), .pointer (some ⟨g3, 0, none⟩), .pointer (some ⟨g4, 0, none⟩)]) rfl rfl (Fx.args3 h1 h3 rfl)) rfl ?_
    refine Fx.L.call (by rfl) (Fx.r_call (args := [.func (.func 65) #[] #[.pointer (some ⟨g1, 0, none⟩), .pointer (some ⟨g3, 0, none⟩), .pointer (some ⟨g4, 0, none⟩)]]) rfl rfl Try.func64 rfl rfl) rfl ((g_each_max (foldS mx6 X k) (X (k + 1)) g1 g3 g4 _ m28 m30 m26).mono ?_)
    rintro e w8 ⟨he, hb1⟩
    refine ⟨.agg (Fx.varr 6 (Fx.rv .u64 (fun p => mx6 ((foldS mx6 X k) p) ((X (k + 1)) p)))), by rw [he], ?_⟩
    clear he
    have s7 := Fx.Stp.of_below hb1
    have m31 : Fx.Cel w8 b off (6 * (m + 1)) (vx X) := m27.stp s7 (Nat.ne_of_lt (m27.lt (by omega)))
    have m32 : Fx.Blk w8 g1 1 (fun _ => .func (.func 55) #[] #[]) 110 := m28.stp s7 (Nat.ne_of_lt (m28.lt))
    have m33 : Fx.Blk w8 g2 6 (Fx.rv .u64 (fun _ => 0)) 64 := m29.stp s7 (Nat.ne_of_lt (m29.lt))
    have m34 : Fx.Blk w8 g3 6 (Fx.rv .u64 (foldS mx6 X k)) 64 := m30.stp s7 (Nat.ne_of_lt (m30.lt))
    have m35 : Fx.Blk w8 g4 6 (Fx.rv .u64 (X (k + 1))) 64 := m26.stp s7 (Nat.ne_of_lt (m26.lt))
    have b8 : Below w.heap.size w w8 := s7.below b7 b7.size b7.size
    refine Fx.L.storeA (x := Fx.rv .u64 (foldS mx6 X k)) (y := Fx.rv .u64 (fun p => mx6 ((foldS mx6 X k) p) ((X (k + 1)) p))) (by rfl) rfl rfl h3 rfl (fun _ _ => rfl) (by kernel_rfl) m34 (i := 0) (by omega) fun w9 m36 s8 z7 => ?_
    have m37 : Fx.Blk w9 g3 6 (Fx.rv .u64 (fun p => mx6 ((foldS mx6 X k) p) ((X (k + 1)) p))) 64 := Fx.ovr_all m36
    have m38 : Fx.Cel w9 b off (6 * (m + 1)) (vx X) := m31.stp s8 (by omega)
    have m39 : Fx.Blk w9 g1 1 (fun _ => .func (.func 55) #[] #[]) 110 := m32.stp s8 (by omega)
    have m40 : Fx.Blk w9 g2 6 (Fx.rv .u64 (fun _ => 0)) 64 := m33.stp s8 (by omega)
    have m41 : Fx.Blk w9 g4 6 (Fx.rv .u64 (X (k + 1))) 64 := m35.stp s8 (by omega)
    have b9 : Below w.heap.size w w9 := s8.below b8 b8.size (by omega)
    refine Fx.L.nil ?_
    refine Fx.blkN ?_
    refine Fx.seqN ?_
    refine Fx.W.list ?_
    refine Fx.L.val (v := .int .i64 ((k : Int) + 1)) (by rfl) (Fx.x_add rfl h6 rfl (Fx.i64e (by omega) (by omega))) rfl ?_
    refine Fx.L.val (v := .int .i64 ((k : Int) + 1)) (by rfl) (Fx.x_move rfl rfl) rfl ?_
    refine Fx.L.nil ?_
    refine Fx.lpN ⟨k + 1, by omega, h1, h2, h3, h4, (h5.trans (by first | rfl | exact congrArg (Value.int .i64) (by omega))), (by first | rfl | exact congrArg (Value.int .i64) (by omega)), m38, m39, m40, m37, b9⟩ ?_
    show (m - (intOf ((.int .i64 ((k : Int) + 1)))).toNat) < _
    simp only [h6, intOf]; omega
  · refine Fx.L.val (v := .bool false) (by rfl) (Fx.x_lssF rfl h6 h5 c19) rfl ?_
    refine Fx.L.nil ?_
    refine Fx.seqN ?_
    refine Fx.W.seq ?_
    refine Fx.W.cond (b := false) rfl (fun h => nomatch h) (fun _ => ?_)
    refine Fx.W.exit ?_
    refine Fx.seqX ?_
    refine Fx.lpX ?_
    refine Fx.blkX ?_
    refine Fx.seqN ?_
    refine Fx.W.seq ?_
    refine Fx.W.list ?_
    refine Fx.L.val (v := .agg (Fx.varr 6 (Fx.rv .u64 (foldS mx6 X k)))) (by rfl) (Fx.x_loadA (x := Fx.rv .u64 (foldS mx6 X k)) (y := Fx.rv .u64 (foldS mx6 X k)) rfl h3 (by kernel_rfl) (by kernel_rfl) m19.cel (i := 0) (by omega) (by omega) (fun j _ => by rw [Nat.zero_add])) rfl ?_
    refine Fx.L.storeA (x := Fx.rv .u64 (fun _ => 0)) (y := Fx.rv .u64 (foldS mx6 X k)) (by rfl) rfl rfl h2 rfl (fun _ _ => rfl) (by kernel_rfl) m18 (i := 0) (by omega) fun w10 m42 s9 z8 => ?_
    have m43 : Fx.Blk w10 g2 6 (Fx.rv .u64 (foldS mx6 X k)) 64 := Fx.ovr_all m42
    have m44 : Fx.Cel w10 b off (6 * (m + 1)) (vx X) := m16.stp s9 (by omega)
    have m45 : Fx.Blk w10 g1 1 (fun _ => .func (.func 55) #[] #[]) 110 := m17.stp s9 (by omega)
    have m46 : Fx.Blk w10 g3 6 (Fx.rv .u64 (foldS mx6 X k)) 64 := m19.stp s9 (by omega)
    have b10 : Below w.heap.size w w10 := s9.below b5 b5.size (by omega)
    refine Fx.L.nil ?_
    refine Fx.seqN ?_
    refine Fx.W.ret ?_
    refine ⟨.agg (Fx.varr 6 (Fx.rv .u64 (foldS mx6 X k))), Fx.retV1 Try.results54 ⟨_, h2, Fx.run_loadV m43.cel (by kernel_rfl) (by kernel_rfl)⟩, ?_⟩
    have ek : k = m := by omega
    exact ⟨by rw [ek], b10⟩
theorem g_fold_max (a : Option Addr) (n cap : Nat) (X : Nat → Nat → Int) (w : World) (hn : n ≤ 1000000) (h : Vcs w a n cap X) :
    Calls Try.prog 54 #[.slice a n cap, .func (.func 55) #[] #[]] w fun e w' => e = .returned (.agg (Fx.varr 6 (Fx.rv .u64 (foldV mx6 X n)))) ∧ Below w.heap.size w w' := by
  cases n with
  | zero => exact g_fold0_max a cap w
  | succ m => obtain ⟨hc, b, off, rfl, hx⟩ := h (by omega); exact g_foldS_max b off m cap X w hc (by omega) hx
theorem g_fold0_min (a : Option Addr) (cap : Nat) (w : World) :
    Calls Try.prog 54 #[.slice a (0) (cap), .func (.func 56) #[] #[]] w fun e w' => e = .returned (.agg (Fx.varr 6 (Fx.rv .u64 (fun _ => 0)))) ∧ Below w.heap.size w w' := by
  refine Fx.enter Try.func54 rfl (n := 26) rfl (by rfl) ?_
  refine Fx.W.seq ?_
  refine Fx.W.list ?_
  refine Fx.L.box (m := 1) (y := fun _ => .func (.func 56) #[] #[]) (by rfl) rfl rfl (Fx.cells_one (by rfl)) rfl fun g1 w1 eg1 m1 s1 z1 => ?_
  have b1 : Below w.heap.size w w1 := s1.below (Below.refl w.heap.size w) (Below.refl w.heap.size w).size (Below.refl w.heap.size w).size
  have lg1 : w.heap.size ≤ g1 := by rw [eg1]; exact (Below.refl w.heap.size w).size
  have tg1 : g1 < w1.heap.size := m1.lt
  clear eg1
  refine Fx.L.new (m := 6) (y := Fx.rv .u64 (fun _ => 0)) (by rfl) rfl (by kernel_rfl) rfl fun g2 w2 eg2 m2 s2 z2 => ?_
  have m3 : Fx.Blk w2 g1 1 (fun _ => .func (.func 56) #[] #[]) 110 := m1.stp s2 (Nat.ne_of_lt (m1.lt))
  have b2 : Below w.heap.size w w2 := s2.below b1 b1.size b1.size
  have lg2 : w.heap.size ≤ g2 := by rw [eg2]; exact b1.size
  have ng2m3 : g1 ≠ g2 := by rw [eg2]; exact Nat.ne_of_lt (m1.lt)
  have tg2 : g2 < w2.heap.size := m2.lt
  clear eg2
  refine Fx.L.nil ?_
  refine Fx.seqN ?_
  refine Fx.W.seq ?_
  refine Fx.W.seq ?_
  refine Fx.W.list ?_
  refine Fx.L.val (v := .slice a (0) (cap)) (by rfl) (Fx.x_move rfl rfl) rfl ?_
  refine Fx.L.val (v := .int .i64 (0)) (by rfl) (Fx.x_len rfl rfl rfl (by kernel_rfl)) rfl ?_
  refine Fx.L.val (v := .bool true) (by rfl) (Fx.x_eqlT rfl rfl rfl rfl) rfl ?_
  refine Fx.L.nil ?_
  refine Fx.seqN ?_
  refine Fx.W.cond (b := true) rfl (fun _ => ?_) (fun h => nomatch h)
  refine Fx.W.seq ?_
  refine Fx.W.list ?_
  refine Fx.L.val (v := .agg (Fx.varr 6 (Fx.rv .u64 (fun _ => 0)))) (by rfl) (Fx.x_buildArr (vs := []) (s := 1) (m := 6) (x := Fx.rv .u64 (fun _ => 0)) rfl rfl Try.underlying64 (by kernel_rfl) (by kernel_rfl) (by rfl)) rfl ?_
  refine Fx.L.storeA (x := Fx.rv .u64 (fun _ => 0)) (y := Fx.rv .u64 (fun _ => 0)) (by rfl) rfl rfl rfl rfl (fun _ _ => rfl) (by kernel_rfl) m2 (i := 0) (by omega) fun w3 m4 s3 z3 => ?_
  have m5 : Fx.Blk w3 g2 6 (Fx.rv .u64 (fun _ => 0)) 64 := Fx.ovr_all m4
  have m6 : Fx.Blk w3 g1 1 (fun _ => .func (.func 56) #[] #[]) 110 := m3.stp s3 (by omega)
  have b3 : Below w.heap.size w w3 := s3.below b2 b2.size (by omega)
  refine Fx.L.nil ?_
  refine Fx.seqN ?_
  refine Fx.W.ret ?_
  refine Fx.seqR ?_
  refine ⟨.agg (Fx.varr 6 (Fx.rv .u64 (fun _ => 0))), Fx.retV1 Try.results54 ⟨_, rfl, Fx.run_loadV m5.cel (by kernel_rfl) (by kernel_rfl)⟩, ?_⟩
  exact ⟨rfl, b3⟩
theorem g_foldS_min (b off m cap : Nat) (X : Nat → Nat → Int) (w : World) (hcap : m + 1 ≤ cap) (hm : m ≤ 1000000) (hx : Fx.Cel w b off (6 * (m + 1)) (vx X)) :
    Calls Try.prog 54 #[.slice (some ⟨b, off, none⟩) (m + 1) (cap), .func (.func 56) #[] #[]] w fun e w' => e = .returned (.agg (Fx.varr 6 (Fx.rv .u64 (foldS mn6 X m)))) ∧ Below w.heap.size w w' := by
  have lb := hx.lt (by omega)
  refine Fx.enter Try.func54 rfl (n := 26) rfl (by rfl) ?_
  refine Fx.W.seq ?_
  refine Fx.W.list ?_
  refine Fx.L.box (m := 1) (y := fun _ => .func (.func 56) #[] #[]) (by rfl) rfl rfl (Fx.cells_one (by rfl)) rfl fun g1 w1 eg1 m1 s1 z1 => ?_
  have m2 : Fx.Cel w1 b off (6 * (m + 1)) (vx X) := hx.stp s1 (Nat.ne_of_lt (hx.lt (by omega)))
  have b1 : Below w.heap.size w w1 := s1.below (Below.refl w.heap.size w) (Below.refl w.heap.size w).size (Below.refl w.heap.size w).size
  have lg1 : w.heap.size ≤ g1 := by rw [eg1]; exact (Below.refl w.heap.size w).size
  have ng1m2 : b ≠ g1 := by rw [eg1]; exact Nat.ne_of_lt (hx.lt (by omega))
  have tg1 : g1 < w1.heap.size := m1.lt
  clear eg1
  refine Fx.L.new (m := 6) (y := Fx.rv .u64 (fun _ => 0)) (by rfl) rfl (by kernel_rfl) rfl fun g2 w2 eg2 m3 s2 z2 => ?_
  have m4 : Fx.Cel w2 b off (6 * (m + 1)) (vx X) := m2.stp s2 (Nat.ne_of_lt (m2.lt (by omega)))
  have m5 : Fx.Blk w2 g1 1 (fun _ => .func (.func 56) #[] #[]) 110 := m1.stp s2 (Nat.ne_of_lt (m1.lt))
  have b2 : Below w.heap.size w w2 := s2.below b1 b1.size b1.size
  have lg2 : w.heap.size ≤ g2 := by rw [eg2]; exact b1.size
  have ng2m4 : b ≠ g2 := by rw [eg2]; exact Nat.ne_of_lt (m2.lt (by omega))
  have ng2m5 : g1 ≠ g2 := by rw [eg2]; exact Nat.ne_of_lt (m1.lt)
  have tg2 : g2 < w2.heap.size := m3.lt
  clear eg2
  refine Fx.L.nil ?_
  refine Fx.seqN ?_
  refine Fx.W.seq ?_
  refine Fx.W.seq ?_
  refine Fx.W.list ?_
  refine Fx.L.val (v := .slice (some ⟨b, off, none⟩) (m + 1) (cap)) (by rfl) (Fx.x_move rfl rfl) rfl ?_
  refine Fx.L.val (v := .int .i64 (((m + 1 : Nat) : Int))) (by rfl) (Fx.x_len rfl rfl rfl (by kernel_rfl)) rfl ?_
  refine Fx.L.val (v := .bool false) (by rfl) (Fx.x_eqlF rfl rfl rfl (by omega)) rfl ?_
  refine Fx.L.nil ?_
  refine Fx.seqN ?_
  refine Fx.W.cond (b := false) rfl (fun h => nomatch h) (fun _ => ?_)
  refine Fx.W.skip ?_
  refine Fx.seqN ?_
  refine Fx.W.seq ?_
  refine Fx.W.list ?_
  refine Fx.L.val (v := .slice (some ⟨b, off, none⟩) (m + 1) (cap)) (by rfl) (Fx.x_move rfl rfl) rfl ?_
  refine Fx.L.val (v := .pointer (some ⟨b, off, none⟩)) (by rfl) (Fx.x_indexS rfl rfl rfl Try.underlying100 (s := 6) (by kernel_rfl) (by omega) (by omega) (by omega)) rfl ?_
  refine Fx.L.val (v := .agg (Fx.varr 6 (Fx.rv .u64 (X 0)))) (by rfl) (Fx.x_loadA (x := vx X) (y := Fx.rv .u64 (X 0)) rfl rfl (by kernel_rfl) (by kernel_rfl) m4 (i := 0) (by omega) (by omega) (fun j hj => vx_row _ (i := 0) (p := 0) (by omega) hj)) rfl ?_
  refine Fx.L.new (m := 6) (y := Fx.rv .u64 (fun _ => 0)) (by rfl) rfl (by kernel_rfl) rfl fun g3 w3 eg3 m6 s3 z3 => ?_
  have m7 : Fx.Cel w3 b off (6 * (m + 1)) (vx X) := m4.stp s3 (Nat.ne_of_lt (m4.lt (by omega)))
  have m8 : Fx.Blk w3 g1 1 (fun _ => .func (.func 56) #[] #[]) 110 := m5.stp s3 (Nat.ne_of_lt (m5.lt))
  have m9 : Fx.Blk w3 g2 6 (Fx.rv .u64 (fun _ => 0)) 64 := m3.stp s3 (Nat.ne_of_lt (m3.lt))
  have b3 : Below w.heap.size w w3 := s3.below b2 b2.size b2.size
  have lg3 : w.heap.size ≤ g3 := by rw [eg3]; exact b2.size
  have ng3m7 : b ≠ g3 := by rw [eg3]; exact Nat.ne_of_lt (m4.lt (by omega))
  have ng3m8 : g1 ≠ g3 := by rw [eg3]; exact Nat.ne_of_lt (m5.lt)
  have ng3m9 : g2 ≠ g3 := by rw [eg3]; exact Nat.ne_of_lt (m3.lt)
  have tg3 : g3 < w3.heap.size := m6.lt
  clear eg3
  refine Fx.L.storeA (x := Fx.rv .u64 (fun _ => 0)) (y := Fx.rv .u64 (X 0)) (by rfl) rfl rfl rfl rfl (fun _ _ => rfl) (by kernel_rfl) m6 (i := 0) (by omega) fun w4 m10 s4 z4 => ?_
  have m11 : Fx.Blk w4 g3 6 (Fx.rv .u64 (X 0)) 64 := Fx.ovr_all m10
  have m12 : Fx.Cel w4 b off (6 * (m + 1)) (vx X) := m7.stp s4 (by omega)
  have m13 : Fx.Blk w4 g1 1 (fun _ => .func (.func 56) #[] #[]) 110 := m8.stp s4 (by omega)
  have m14 : Fx.Blk w4 g2 6 (Fx.rv .u64 (fun _ => 0)) 64 := m9.stp s4 (by omega)
  have b4 : Below w.heap.size w w4 := s4.below b3 b3.size (by omega)
  refine Fx.L.nil ?_
  refine Fx.seqN ?_
  refine Fx.W.seq ?_
  refine Fx.W.seq ?_
  refine Fx.W.list ?_
  refine Fx.L.val (v := .slice (some ⟨b, off, none⟩) (m + 1) (cap)) (by rfl) (Fx.x_move rfl rfl) rfl ?_
  refine Fx.L.val (v := .slice (if cap = 1 then some ⟨b, off, none⟩ else some ⟨b, off + 6, none⟩) (m) (cap - 1)) (by rfl) (Fx.x_sliceLo2 (j := 1) (b := b) (off := off) (len := m + 1) (cap := cap) (s := 6) rfl rfl rfl Try.underlying100 (by kernel_rfl) (by omega) rfl rfl rfl) rfl ?_
  refine Fx.L.val (v := .int .i64 ((m : Int))) (by rfl) (Fx.x_len rfl rfl rfl (by kernel_rfl)) rfl ?_
  refine Fx.L.val (v := .int .i64 (0)) (by rfl) (Fx.x_move rfl rfl) rfl ?_
  refine Fx.L.nil ?_
  refine Fx.seqN ?_
  refine Fx.W.block ?_
  have m15 : Fx.Blk w4 g3 6 (Fx.rv .u64 (foldS mn6 X 0)) 64 := m11
  refine Fx.W.loop (fun f w_ => ∃ k : Nat, k ≤ m ∧ f 3 = .pointer (some ⟨g1, 0, none⟩) ∧ f 4 = .pointer (some ⟨g2, 0, none⟩) ∧ f 5 = .pointer (some ⟨g3, 0, none⟩) ∧ f 16 = .slice (if cap = 1 then some ⟨b, off, none⟩ else some ⟨b, off + 6, none⟩) (m) (cap - 1) ∧ f 17 = .int .i64 ((m : Int)) ∧ f 18 = .int .i64 ((k : Int)) ∧ Fx.Cel w_ b off (6 * (m + 1)) (vx X) ∧ Fx.Blk w_ g1 1 (fun _ => .func (.func 56) #[] #[]) 110 ∧ Fx.Blk w_ g2 6 (Fx.rv .u64 (fun _ => 0)) 64 ∧ Fx.Blk w_ g3 6 (Fx.rv .u64 (foldS mn6 X k)) 64 ∧ Below w.heap.size w w_) (fun f _ => (m - (intOf (f 18)).toNat)) ⟨0, by omega, (by rfl), (by rfl), (by rfl), (by rfl), (by first | rfl | exact congrArg (Value.int .i64) (by omega)), (by first | rfl | exact congrArg (Value.int .i64) (by omega)), m12, m13, m14, m15, b4⟩ ?_
  rintro f1 w5 ⟨k, hk, h1, h2, h3, h4, h5, h6, m16, m17, m18, m19, b5⟩
  refine Fx.W.seq ?_
  refine Fx.W.list ?_
  by_cases c19 : (k : Int) < (m : Int)
  · refine Fx.L.val (v := .bool true) (by rfl) (Fx.x_lssT rfl h6 h5 c19) rfl ?_
    refine Fx.L.nil ?_
    refine Fx.seqN ?_
    refine Fx.W.seq ?_
    refine Fx.W.cond (b := true) rfl (fun _ => ?_) (fun h => nomatch h)
    refine Fx.W.skip ?_
    refine Fx.seqN ?_
    refine Fx.W.seq ?_
    refine Fx.W.block ?_
    refine Fx.W.seq ?_
    refine Fx.W.list ?_
    refine Fx.L.val (v := .pointer (some ⟨b, 6 * k + off + 6, none⟩)) (by rfl) (Fx.x_indexS rfl (h4.trans (congrArg (fun q => Value.slice q (m) (cap - 1)) (if_neg (by omega)))) h6 Try.underlying100 (s := 6) (by kernel_rfl) (by omega) (by omega) (by omega)) rfl ?_
    refine Fx.L.val (v := .agg (Fx.varr 6 (Fx.rv .u64 (X (k + 1))))) (by rfl) (Fx.x_loadA (x := vx X) (y := Fx.rv .u64 (X (k + 1))) rfl rfl (by kernel_rfl) (by kernel_rfl) m16 (i := 6 * k + 6) (by omega) (by omega) (fun j hj => vx_row _ (i := k + 1) (p := 6 * k + 6) (by omega) hj)) rfl ?_
    refine Fx.L.new (m := 6) (y := Fx.rv .u64 (fun _ => 0)) (by rfl) rfl (by kernel_rfl) rfl fun g4 w6 eg4 m20 s5 z5 => ?_
    have m21 : Fx.Cel w6 b off (6 * (m + 1)) (vx X) := m16.stp s5 (Nat.ne_of_lt (m16.lt (by omega)))
    have m22 : Fx.Blk w6 g1 1 (fun _ => .func (.func 56) #[] #[]) 110 := m17.stp s5 (Nat.ne_of_lt (m17.lt))
    have m23 : Fx.Blk w6 g2 6 (Fx.rv .u64 (fun _ => 0)) 64 := m18.stp s5 (Nat.ne_of_lt (m18.lt))
    have m24 : Fx.Blk w6 g3 6 (Fx.rv .u64 (foldS mn6 X k)) 64 := m19.stp s5 (Nat.ne_of_lt (m19.lt))
    have b6 : Below w.heap.size w w6 := s5.below b5 b5.size b5.size
    have lg4 : w.heap.size ≤ g4 := by rw [eg4]; exact b5.size
    have ng4m21 : b ≠ g4 := by rw [eg4]; exact Nat.ne_of_lt (m16.lt (by omega))
    have ng4m22 : g1 ≠ g4 := by rw [eg4]; exact Nat.ne_of_lt (m17.lt)
    have ng4m23 : g2 ≠ g4 := by rw [eg4]; exact Nat.ne_of_lt (m18.lt)
    have ng4m24 : g3 ≠ g4 := by rw [eg4]; exact Nat.ne_of_lt (m19.lt)
    have tg4 : g4 < w6.heap.size := m20.lt
    clear eg4
    refine Fx.L.storeA (x := Fx.rv .u64 (fun _ => 0)) (y := Fx.rv .u64 (X (k + 1))) (by rfl) rfl rfl rfl rfl (fun _ _ => rfl) (by kernel_rfl) m20 (i := 0) (by omega) fun w7 m25 s6 z6 => ?_
    have m26 : Fx.Blk w7 g4 6 (Fx.rv .u64 (X (k + 1))) 64 := Fx.ovr_all m25
    have m27 : Fx.Cel w7 b off (6 * (m + 1)) (vx X) := m21.stp s6 (by omega)
    have m28 : Fx.Blk w7 g1 1 (fun _ => .func (.func 56) #[] #[]) 110 := m22.stp s6 (by omega)
    have m29 : Fx.Blk w7 g2 6 (Fx.rv .u64 (fun _ => 0)) 64 := m23.stp s6 (by omega)
    have m30 : Fx.Blk w7 g3 6 (Fx.rv .u64 (foldS mn6 X k)) 64 := m24.stp s6 (by omega)
    have b7 : Below w.heap.size w w7 := s6.below b6 b6.size (by omega)
    refine Fx.L.nil ?_
    refine Fx.seqN ?_
    refine Fx.W.list ?_
    refine Fx.L.val (v := .func (.func 65) #[] #[.pointer (some ⟨g1, 0, none⟩), .pointer (some ⟨g3, 0, none⟩), .pointer (some ⟨g4, 0, none⟩)]) (by rfl) (Fx.x_func (us := []) (vs := [.pointer (some ⟨g1, 0, none⟩), .pointer (some ⟨g3, 0, none⟩), .pointer (some ⟨g4, 0, none⟩)]) rfl rfl (Fx.args3 h1 h3 rfl)) rfl ?_
    refine Fx.L.call (by rfl) (Fx.r_call (args := [.func (.func 65) #[] #[.pointer (some ⟨g1, 0, none⟩), .pointer (some ⟨g3, 0, none⟩), .pointer (some ⟨g4, 0, none⟩)]]) rfl rfl Try.func64 rfl rfl) rfl ((g_each_min (foldS mn6 X k) (X (k + 1)) g1 g3 g4 _ m28 m30 m26).mono ?_)
    rintro e w8 ⟨he, hb1⟩
    refine ⟨.agg (Fx.varr 6 (Fx.rv .u64 (fun p => mn6 ((foldS mn6 X k) p) ((X (k + 1)) p)))), by rw [he], ?_⟩
    clear he
    have s7 := Fx.Stp.of_below hb1
    have m31 : Fx.Cel w8 b off (6 * (m + 1)) (vx X) := m27.stp s7 (Nat.ne_of_lt (m27.lt (by omega)))
    have m32 : Fx.Blk w8 g1 1 (fun _ => .func (.func 56) #[] #[]) 110 := m28.stp s7 (Nat.ne_of_lt (m28.lt))
    have m33 : Fx.Blk w8 g2 6 (Fx.rv .u64 (fun _ => 0)) 64 := m29.stp s7 (Nat.ne_of_lt (m29.lt))
    have m34 : Fx.Blk w8 g3 6 (Fx.rv .u64 (foldS mn6 X k)) 64 := m30.stp s7 (Nat.ne_of_lt (m30.lt))
    have m35 : Fx.Blk w8 g4 6 (Fx.rv .u64 (X (k + 1))) 64 := m26.stp s7 (Nat.ne_of_lt (m26.lt))
    have b8 : Below w.heap.size w w8 := s7.below b7 b7.size b7.size
    refine Fx.L.storeA (x := Fx.rv .u64 (foldS mn6 X k)) (y := Fx.rv .u64 (fun p => mn6 ((foldS mn6 X k) p) ((X (k + 1)) p))) (by rfl) rfl rfl h3 rfl (fun _ _ => rfl) (by kernel_rfl) m34 (i := 0) (by omega) fun w9 m36 s8 z7 => ?_
    have m37 : Fx.Blk w9 g3 6 (Fx.rv .u64 (fun p => mn6 ((foldS mn6 X k) p) ((X (k + 1)) p))) 64 := Fx.ovr_all m36
    have m38 : Fx.Cel w9 b off (6 * (m + 1)) (vx X) := m31.stp s8 (by omega)
    have m39 : Fx.Blk w9 g1 1 (fun _ => .func (.func 56) #[] #[]) 110 := m32.stp s8 (by omega)
    have m40 : Fx.Blk w9 g2 6 (Fx.rv .u64 (fun _ => 0)) 64 := m33.stp s8 (by omega)
    have m41 : Fx.Blk w9 g4 6 (Fx.rv .u64 (X (k + 1))) 64 := m35.stp s8 (by omega)
    have b9 : Below w.heap.size w w9 := s8.below b8 b8.size (by omega)
    refine Fx.L.nil ?_
    refine Fx.blkN ?_
    refine Fx.seqN ?_
    refine Fx.W.list ?_
    refine Fx.L.val (v := .int .i64 ((k : Int) + 1)) (by rfl) (Fx.x_add rfl h6 rfl (Fx.i64e (by omega) (by omega))) rfl ?_
    refine Fx.L.val (v := .int .i64 ((k : Int) + 1)) (by rfl) (Fx.x_move rfl rfl) rfl ?_
    refine Fx.L.nil ?_
    refine Fx.lpN ⟨k + 1, by omega, h1, h2, h3, h4, (h5.trans (by first | rfl | exact congrArg (Value.int .i64) (by omega))), (by first | rfl | exact congrArg (Value.int .i64) (by omega)), m38, m39, m40, m37, b9⟩ ?_
    show (m - (intOf ((.int .i64 ((k : Int) + 1)))).toNat) < _
    simp only [h6, intOf]; omega
  · refine Fx.L.val (v := .bool false) (by rfl) (Fx.x_lssF rfl h6 h5 c19) rfl ?_
    refine Fx.L.nil ?_
    refine Fx.seqN ?_
    refine Fx.W.seq ?_
    refine Fx.W.cond (b := false) rfl (fun h => nomatch h) (fun _ => ?_)
    refine Fx.W.exit ?_
    refine Fx.seqX ?_
    refine Fx.lpX ?_
    refine Fx.blkX ?_
    refine Fx.seqN ?_
    refine Fx.W.seq ?_
    refine Fx.W.list ?_
    refine Fx.L.val (v := .agg (Fx.varr 6 (Fx.rv .u64 (foldS mn6 X k)))) (by rfl) (Fx.x_loadA (x := Fx.rv .u64 (foldS mn6 X k)) (y := Fx.rv .u64 (foldS mn6 X k)) rfl h3 (by kernel_rfl) (by kernel_rfl) m19.cel (i := 0) (by omega) (by omega) (fun j _ => by rw [Nat.zero_add])) rfl ?_
    refine Fx.L.storeA (x := Fx.rv .u64 (fun _ => 0)) (y := Fx.rv .u64 (foldS mn6 X k)) (by rfl) rfl rfl h2 rfl (fun _ _ => rfl) (by kernel_rfl) m18 (i := 0) (by omega) fun w10 m42 s9 z8 => ?_
    have m43 : Fx.Blk w10 g2 6 (Fx.rv .u64 (foldS mn6 X k)) 64 := Fx.ovr_all m42
    have m44 : Fx.Cel w10 b off (6 * (m + 1)) (vx X) := m16.stp s9 (by omega)
    have m45 : Fx.Blk w10 g1 1 (fun _ => .func (.func 56) #[] #[]) 110 := m17.stp s9 (by omega)
    have m46 : Fx.Blk w10 g3 6 (Fx.rv .u64 (foldS mn6 X k)) 64 := m19.stp s9 (by omega)
    have b10 : Below w.heap.size w w10 := s9.below b5 b5.size (by omega)
    refine Fx.L.nil ?_
    refine Fx.seqN ?_
    refine Fx.W.ret ?_
    refine ⟨.agg (Fx.varr 6 (Fx.rv .u64 (foldS mn6 X k))), Fx.retV1 Try.results54 ⟨_, h2, Fx.run_loadV m43.cel (by kernel_rfl) (by kernel_rfl)⟩, ?_⟩
    have ek : k = m := by omega
    exact ⟨by rw [ek], b10⟩
theorem g_fold_min (a : Option Addr) (n cap : Nat) (X : Nat → Nat → Int) (w : World) (hn : n ≤ 1000000) (h : Vcs w a n cap X) :
    Calls Try.prog 54 #[.slice a n cap, .func (.func 56) #[] #[]] w fun e w' => e = .returned (.agg (Fx.varr 6 (Fx.rv .u64 (foldV mn6 X n)))) ∧ Below w.heap.size w w' := by
  cases n with
  | zero => exact g_fold0_min a cap w
  | succ m => obtain ⟨hc, b, off, rfl, hx⟩ := h (by omega); exact g_foldS_min b off m cap X w hc (by omega) hx
theorem vcs_up {w w' : World} {a : Option Addr} {n cap : Nat} {X : Nat → Nat → Int} (h : Vcs w a n cap X) (hb : Below w.heap.size w w') : Vcs w' a n cap X := fun h0 => by
  obtain ⟨hc, b, off, e, hx⟩ := h h0
  exact ⟨hc, b, off, e, hx.below hb (hx.lt (by omega))⟩
theorem g_join (a : Option Addr) (n cap : Nat) (X : Nat → Nat → Int) (w : World) (hn : n ≤ 1000000) (h : Vcs w a n cap X) :
    Calls Try.prog 45 #[.slice a (n) (cap)] w fun e w' => e = .returned (.agg (Fx.varr 6 (Fx.rv .u64 (foldV mx6 X n)))) ∧ Below w.heap.size w w' := by
  refine Fx.enter Try.func45 rfl (n := 5) rfl (by rfl) ?_
  refine Fx.W.seq ?_
  refine Fx.W.list ?_
  refine Fx.L.new (m := 6) (y := Fx.rv .u64 (fun _ => 0)) (by rfl) rfl (by kernel_rfl) rfl fun g1 w1 eg1 m1 s1 z1 => ?_
  have b1 : Below w.heap.size w w1 := s1.below (Below.refl w.heap.size w) (Below.refl w.heap.size w).size (Below.refl w.heap.size w).size
  have lg1 : w.heap.size ≤ g1 := by rw [eg1]; exact (Below.refl w.heap.size w).size
  have tg1 : g1 < w1.heap.size := m1.lt
  clear eg1
  refine Fx.L.nil ?_
  refine Fx.seqN ?_
  refine Fx.W.seq ?_
  refine Fx.W.list ?_
  refine Fx.L.val (v := .slice a (n) (cap)) (by rfl) (Fx.x_move rfl rfl) rfl ?_
  refine Fx.L.call (by rfl) (Fx.r_call (args := [.slice a (n) (cap), .func (.func 55) #[] #[]]) rfl rfl Try.func54 rfl rfl) rfl ((g_fold_max a n cap X _ hn (vcs_up h b1)).mono ?_)
  rintro e w2 ⟨he, hb1⟩
  refine ⟨.agg (Fx.varr 6 (Fx.rv .u64 (foldV mx6 X n))), by rw [he], ?_⟩
  clear he
  have s2 := Fx.Stp.of_below hb1
  have m2 : Fx.Blk w2 g1 6 (Fx.rv .u64 (fun _ => 0)) 64 := m1.stp s2 (Nat.ne_of_lt (m1.lt))
  have b2 : Below w.heap.size w w2 := s2.below b1 b1.size b1.size
  refine Fx.L.storeA (x := Fx.rv .u64 (fun _ => 0)) (y := Fx.rv .u64 (foldV mx6 X n)) (by rfl) rfl rfl rfl rfl (fun _ _ => rfl) (by kernel_rfl) m2 (i := 0) (by omega) fun w3 m3 s3 z2 => ?_
  have m4 : Fx.Blk w3 g1 6 (Fx.rv .u64 (foldV mx6 X n)) 64 := Fx.ovr_all m3
  have b3 : Below w.heap.size w w3 := s3.below b2 b2.size (by omega)
  refine Fx.L.nil ?_
  refine Fx.seqN ?_
  refine Fx.W.ret ?_
  refine ⟨.agg (Fx.varr 6 (Fx.rv .u64 (foldV mx6 X n))), Fx.retV1 Try.results45 ⟨_, rfl, Fx.run_loadV m4.cel (by kernel_rfl) (by kernel_rfl)⟩, ?_⟩
  exact ⟨rfl, b3⟩
theorem g_meet (a : Option Addr) (n cap : Nat) (X : Nat → Nat → Int) (w : World) (hn : n ≤ 1000000) (h : Vcs w a n cap X) :
    Calls Try.prog 46 #[.slice a (n) (cap)] w fun e w' => e = .returned (.agg (Fx.varr 6 (Fx.rv .u64 (foldV mn6 X n)))) ∧ Below w.heap.size w w' := by
  refine Fx.enter Try.func46 rfl (n := 5) rfl (by rfl) ?_
  refine Fx.W.seq ?_
  refine Fx.W.list ?_
  refine Fx.L.new (m := 6) (y := Fx.rv .u64 (fun _ => 0)) (by rfl) rfl (by kernel_rfl) rfl fun g1 w1 eg1 m1 s1 z1 => ?_
  have b1 : Below w.heap.size w w1 := s1.below (Below.refl w.heap.size w) (Below.refl w.heap.size w).size (Below.refl w.heap.size w).size
  have lg1 : w.heap.size ≤ g1 := by rw [eg1]; exact (Below.refl w.heap.size w).size
  have tg1 : g1 < w1.heap.size := m1.lt
  clear eg1
  refine Fx.L.nil ?_
  refine Fx.seqN ?_
  refine Fx.W.seq ?_
  refine Fx.W.list ?_
  refine Fx.L.val (v := .slice a (n) (cap)) (by rfl) (Fx.x_move rfl rfl) rfl ?_
  refine Fx.L.call (by rfl) (Fx.r_call (args := [.slice a (n) (cap), .func (.func 56) #[] #[]]) rfl rfl Try.func54 rfl rfl) rfl ((g_fold_min a n cap X _ hn (vcs_up h b1)).mono ?_)
  rintro e w2 ⟨he, hb1⟩
  refine ⟨.agg (Fx.varr 6 (Fx.rv .u64 (foldV mn6 X n))), by rw [he], ?_⟩
  clear he
  have s2 := Fx.Stp.of_below hb1
  have m2 : Fx.Blk w2 g1 6 (Fx.rv .u64 (fun _ => 0)) 64 := m1.stp s2 (Nat.ne_of_lt (m1.lt))
  have b2 : Below w.heap.size w w2 := s2.below b1 b1.size b1.size
  refine Fx.L.storeA (x := Fx.rv .u64 (fun _ => 0)) (y := Fx.rv .u64 (foldV mn6 X n)) (by rfl) rfl rfl rfl rfl (fun _ _ => rfl) (by kernel_rfl) m2 (i := 0) (by omega) fun w3 m3 s3 z2 => ?_
  have m4 : Fx.Blk w3 g1 6 (Fx.rv .u64 (foldV mn6 X n)) 64 := Fx.ovr_all m3
  have b3 : Below w.heap.size w w3 := s3.below b2 b2.size (by omega)
  refine Fx.L.nil ?_
  refine Fx.seqN ?_
  refine Fx.W.ret ?_
  refine ⟨.agg (Fx.varr 6 (Fx.rv .u64 (foldV mn6 X n))), Fx.retV1 Try.results46 ⟨_, rfl, Fx.run_loadV m4.cel (by kernel_rfl) (by kernel_rfl)⟩, ?_⟩
  exact ⟨rfl, b3⟩
end Go.Proofs.Ytcdkiakknbmfjaa
