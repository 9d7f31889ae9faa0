/-
  The walk of leatlaw17.works.
-/
import Derived.Test.Ytcdkiakknbmfjaa17D
namespace Go.Proofs.Ytcdkiakknbmfjaa
open Go.RowKit Rt
namespace Rt
def W6 (x y : Int) : Nat → Int
  | 0 => x
  | 1 => y
  | _ => 0
theorem w6_eq (x y : Int) : Fx.varr 6 (Fx.ovr (Fx.ovr (Fx.rv .u64 (fun _ => 0)) 0 1 (fun _ => .int .u64 (x))) 1 1 (fun _ => .int .u64 (y))) = Fx.varr 6 (Fx.rv .u64 (W6 x y)) := Fx.varr_congr (by intro i hi; rcases i with _|_|_|_|_|_|i <;> first | rfl | omega)
theorem told_w6 (K : Nat → Int) (x y : Int) (gp : Nat) (n : Int) (w : World) (hp : Fx.Blk w gp 36 (Fx.rv .u64 K) 99) :
    Calls Try.prog 30 #[.pointer (some ⟨gp, 0, none⟩), .int .i64 n, .agg (Fx.varr 6 (Fx.ovr (Fx.ovr (Fx.rv .u64 (fun _ => 0)) 0 1 (fun _ => .int .u64 (x))) 1 1 (fun _ => .int .u64 (y))))] w fun e w' => e = .returned (.int .i64 (tE n)) ∧ Fx.Blk w' gp 36 (Fx.rv .u64 (toldK K n (W6 x y))) 99 ∧ Fx.Stp gp w w' := by
  rw [w6_eq]; exact g_told K (W6 x y) gp n w hp
def KW : Nat → Int := toldK (toldK (toldK (fun _ => 0) 2 (W6 3 1)) 2 (W6 1 4)) 0 (fun _ => 0)
theorem of_kw2 : ∀ i, i < 6 → Fx.rv .u64 (ofV KW 2) i = (Fx.ovr (Fx.ovr (Fx.rv .u64 (fun _ => 0)) 0 1 (fun _ => .int .u64 (3))) 1 1 (fun _ => .int .u64 (4))) i := by intro i hi; rcases i with _|_|_|_|_|_|i <;> first | rfl | omega
theorem least_kw2 : ∀ i, i < 6 → Fx.rv .u64 (leastV KW (W2 2 3) 2) i = Fx.rv .u64 (fun _ => 0) i := by intro i hi; rcases i with _|_|_|_|_|_|i <;> first | rfl | omega
theorem least_kw1 : ∀ i, i < 6 → Fx.rv .u64 (leastV KW (fun _ => 2) 1) i = (Fx.ovr (Fx.ovr (Fx.rv .u64 (fun _ => 0)) 0 1 (fun _ => .int .u64 (3))) 1 1 (fun _ => .int .u64 (4))) i := by intro i hi; rcases i with _|_|_|_|_|_|i <;> first | rfl | omega
theorem w2_eq (x y : Int) : ∀ j, j < 2 → (Fx.ovr (Fx.ovr (fun j => Fx.rv .i64 (fun _ => 0) (j % 1)) (0 * 1) 1 (fun _ => .int .i64 (x))) (1 * 1) 1 (fun _ => .int .i64 (y))) j = Fx.rv .i64 (W2 x y) j := by intro i hi; rcases i with _|_|i <;> first | rfl | omega
theorem w1_eq (x : Int) : ∀ j, j < 1 → (Fx.ovr (fun j => Fx.rv .i64 (fun _ => 0) (j % 1)) (0 * 1) 1 (fun _ => .int .i64 (x))) j = Fx.rv .i64 (fun _ => x) j := by intro i hi; rcases i with _|i <;> first | rfl | omega
end Rt
set_option maxRecDepth 10000 in
theorem works17_any (w : World) :
    Calls Try.prog 29 #[] w fun e w' => e = .returned (.bool true) ∧ Below w.heap.size w w' := by
  refine Fx.enter Try.func29 rfl (n := 45) rfl (by rfl) ?_
  refine Fx.W.seq ?_
  refine Fx.W.list ?_
  refine Fx.L.val (v := .bool false) (by rfl) (Fx.x_assign rfl rfl) rfl ?_
  refine Fx.L.nil ?_
  refine Fx.seqN ?_
  refine Fx.W.seq ?_
  refine Fx.W.list ?_
  refine Fx.L.call (by rfl) (Fx.r_call (args := []) rfl rfl Try.func43 rfl rfl) rfl ((g_new _).mono ?_)
  rintro e w1 ⟨g1, he, l0g1, m1, hb1⟩
  refine ⟨.pointer (some ⟨g1, 0, none⟩), he, ?_⟩
  clear he
  have s1 := Fx.Stp.of_below hb1
  have b1 : Below w.heap.size w w1 := s1.below (Below.refl w.heap.size w) (Below.refl w.heap.size w).size (Below.refl w.heap.size w).size
  have lg1 : w.heap.size ≤ g1 := Nat.le_trans (Below.refl w.heap.size w).size l0g1
  have tg1 : g1 < w1.heap.size := m1.lt
  refine Fx.L.val (v := .pointer (some ⟨g1, 0, none⟩)) (by rfl) (Fx.x_assign rfl rfl) rfl ?_
  refine Fx.L.nil ?_
  refine Fx.seqN ?_
  refine Fx.W.seq ?_
  refine Fx.W.list ?_
  refine Fx.L.val (v := .pointer (some ⟨g1, 0, none⟩)) (by rfl) (Fx.x_move rfl rfl) rfl ?_
  refine Fx.L.val (v := .agg (Fx.varr 6 (Fx.ovr (Fx.ovr (Fx.rv .u64 (fun _ => 0)) 0 1 (fun _ => .int .u64 (3))) 1 1 (fun _ => .int .u64 (1))))) (by rfl) (Fx.x_buildArr (vs := [(0, .int .u64 (3)), (1, .int .u64 (1))]) (s := 1) (m := 6) (x := Fx.rv .u64 (fun _ => 0)) rfl rfl Try.underlying64 (by kernel_rfl) (by kernel_rfl) (by rw [Fx.fill_step (off := 0) (s := 1) (y := fun _ => .int .u64 (3)) (by kernel_rfl) (Fx.cells_one (by rfl)) (by rfl)]; rw [Fx.fill_step (off := 1) (s := 1) (y := fun _ => .int .u64 (1)) (by kernel_rfl) (Fx.cells_one (by rfl)) (by rfl)]; rfl)) rfl ?_
  refine Fx.L.call (by rfl) (Fx.r_call (args := [.pointer (some ⟨g1, 0, none⟩), .int .i64 (2), .agg (Fx.varr 6 (Fx.ovr (Fx.ovr (Fx.rv .u64 (fun _ => 0)) 0 1 (fun _ => .int .u64 (3))) 1 1 (fun _ => .int .u64 (1))))]) rfl rfl Try.func30 rfl rfl) rfl ((told_w6 (fun _ => 0) 3 1 g1 2 _ m1).mono ?_)
  rintro e w2 ⟨he, m2, s2⟩
  refine ⟨.int .i64 (tE 2), he, ?_⟩
  clear he
  have b2 : Below w.heap.size w w2 := s2.below b1 b1.size (by omega)
  refine Fx.L.val (v := .int .i64 (tE 2)) (by rfl) (Fx.x_assign rfl rfl) rfl ?_
  refine Fx.L.nil ?_
  refine Fx.seqN ?_
  refine Fx.W.seq ?_
  refine Fx.W.list ?_
  refine Fx.L.val (v := .pointer (some ⟨g1, 0, none⟩)) (by rfl) (Fx.x_move rfl rfl) rfl ?_
  refine Fx.L.val (v := .agg (Fx.varr 6 (Fx.ovr (Fx.ovr (Fx.rv .u64 (fun _ => 0)) 0 1 (fun _ => .int .u64 (1))) 1 1 (fun _ => .int .u64 (4))))) (by rfl) (Fx.x_buildArr (vs := [(0, .int .u64 (1)), (1, .int .u64 (4))]) (s := 1) (m := 6) (x := Fx.rv .u64 (fun _ => 0)) rfl rfl Try.underlying64 (by kernel_rfl) (by kernel_rfl) (by rw [Fx.fill_step (off := 0) (s := 1) (y := fun _ => .int .u64 (1)) (by kernel_rfl) (Fx.cells_one (by rfl)) (by rfl)]; rw [Fx.fill_step (off := 1) (s := 1) (y := fun _ => .int .u64 (4)) (by kernel_rfl) (Fx.cells_one (by rfl)) (by rfl)]; rfl)) rfl ?_
  refine Fx.L.call (by rfl) (Fx.r_call (args := [.pointer (some ⟨g1, 0, none⟩), .int .i64 (2), .agg (Fx.varr 6 (Fx.ovr (Fx.ovr (Fx.rv .u64 (fun _ => 0)) 0 1 (fun _ => .int .u64 (1))) 1 1 (fun _ => .int .u64 (4))))]) rfl rfl Try.func30 rfl rfl) rfl ((told_w6 (toldK (fun _ => 0) 2 (W6 3 1)) 1 4 g1 2 _ m2).mono ?_)
  rintro e w3 ⟨he, m3, s3⟩
  refine ⟨.int .i64 (tE 2), he, ?_⟩
  clear he
  have b3 : Below w.heap.size w w3 := s3.below b2 b2.size (by omega)
  refine Fx.L.val (v := .int .i64 (tE 2)) (by rfl) (Fx.x_assign rfl rfl) rfl ?_
  refine Fx.L.nil ?_
  refine Fx.seqN ?_
  refine Fx.W.seq ?_
  refine Fx.W.list ?_
  refine Fx.L.val (v := .pointer (some ⟨g1, 0, none⟩)) (by rfl) (Fx.x_move rfl rfl) rfl ?_
  refine Fx.L.val (v := .agg (Fx.varr 6 (Fx.rv .u64 (fun _ => 0)))) (by rfl) (Fx.x_buildArr (vs := []) (s := 1) (m := 6) (x := Fx.rv .u64 (fun _ => 0)) rfl rfl Try.underlying64 (by kernel_rfl) (by kernel_rfl) (by rfl)) rfl ?_
  refine Fx.L.call (by rfl) (Fx.r_call (args := [.pointer (some ⟨g1, 0, none⟩), .int .i64 (0), .agg (Fx.varr 6 (Fx.rv .u64 (fun _ => 0)))]) rfl rfl Try.func30 rfl rfl) rfl ((g_told (toldK (toldK (fun _ => 0) 2 (W6 3 1)) 2 (W6 1 4)) (fun _ => 0) g1 0 _ m3).mono ?_)
  rintro e w4 ⟨he, m4, s4⟩
  refine ⟨.int .i64 (tE 0), he, ?_⟩
  clear he
  have b4 : Below w.heap.size w w4 := s4.below b3 b3.size (by omega)
  refine Fx.L.val (v := .int .i64 (tE 0)) (by rfl) (Fx.x_assign rfl rfl) rfl ?_
  refine Fx.L.nil ?_
  refine Fx.seqN ?_
  refine Fx.W.seq ?_
  refine Fx.W.list ?_
  refine Fx.L.val (v := .int .i64 (tE 2)) (by rfl) (Fx.x_move rfl rfl) rfl ?_
  refine Fx.L.val (v := .bool true) (by rfl) (Fx.x_eqlT rfl rfl rfl (by rfl)) rfl ?_
  refine Fx.L.val (v := .bool true) (by rfl) (Fx.x_move rfl rfl) rfl ?_
  refine Fx.L.val (v := .int .i64 (tE 2)) (by rfl) (Fx.x_move rfl rfl) rfl ?_
  refine Fx.L.val (v := .bool true) (by rfl) (Fx.x_eqlT rfl rfl rfl (by rfl)) rfl ?_
  refine Fx.L.val (v := .bool true) (by rfl) (Fx.x_pickT rfl rfl rfl) rfl ?_
  refine Fx.L.val (v := .bool true) (by rfl) (Fx.x_move rfl rfl) rfl ?_
  refine Fx.L.val (v := .int .i64 (tE 0)) (by rfl) (Fx.x_move rfl rfl) rfl ?_
  refine Fx.L.val (v := .bool true) (by rfl) (Fx.x_eqlT rfl rfl rfl (by rfl)) rfl ?_
  refine Fx.L.val (v := .bool true) (by rfl) (Fx.x_pickT rfl rfl rfl) rfl ?_
  refine Fx.L.val (v := .bool true) (by rfl) (Fx.x_move rfl rfl) rfl ?_
  refine Fx.L.val (v := .pointer (some ⟨g1, 0, none⟩)) (by rfl) (Fx.x_move rfl rfl) rfl ?_
  refine Fx.L.call (by rfl) (Fx.r_call (args := [.pointer (some ⟨g1, 0, none⟩), .int .i64 (2)]) rfl rfl Try.func31 rfl rfl) rfl ((g_of KW g1 2 _ m4).mono ?_)
  rintro e w5 ⟨he, hb2⟩
  refine ⟨.agg (Fx.varr 6 (Fx.rv .u64 (ofV KW 2))), by rw [he], ?_⟩
  clear he
  have s5 := Fx.Stp.of_below hb2
  have m5 : Fx.Blk w5 g1 36 (Fx.rv .u64 (toldK (toldK (toldK (fun _ => 0) 2 (W6 3 1)) 2 (W6 1 4)) 0 (fun _ => 0))) 99 := m4.stp s5 (Nat.ne_of_lt (m4.lt))
  have b5 : Below w.heap.size w w5 := s5.below b4 b4.size b4.size
  refine Fx.L.val (v := .agg (Fx.varr 6 (Fx.ovr (Fx.ovr (Fx.rv .u64 (fun _ => 0)) 0 1 (fun _ => .int .u64 (3))) 1 1 (fun _ => .int .u64 (4))))) (by rfl) (Fx.x_buildArr (vs := [(0, .int .u64 (3)), (1, .int .u64 (4))]) (s := 1) (m := 6) (x := Fx.rv .u64 (fun _ => 0)) rfl rfl Try.underlying64 (by kernel_rfl) (by kernel_rfl) (by rw [Fx.fill_step (off := 0) (s := 1) (y := fun _ => .int .u64 (3)) (by kernel_rfl) (Fx.cells_one (by rfl)) (by rfl)]; rw [Fx.fill_step (off := 1) (s := 1) (y := fun _ => .int .u64 (4)) (by kernel_rfl) (Fx.cells_one (by rfl)) (by rfl)]; rfl)) rfl ?_
  refine Fx.L.val (v := .bool true) (by rfl) (Fx.x_eqlA (n := 6) (ks := List.replicate 6 (some .u64)) (X := Fx.rv .u64 (ofV KW 2)) (Y := Fx.ovr (Fx.ovr (Fx.rv .u64 (fun _ => 0)) 0 1 (fun _ => .int .u64 (3))) 1 1 (fun _ => .int .u64 (4))) 12 true rfl rfl rfl (Fx.yesb of_kw2) (kd6 (fun i => intOf ((Fx.rv .u64 (ofV KW 2)) i)) (by intro i hi; rcases i with _|_|_|_|_|_|i <;> first | rfl | omega) (by decide)) (kd6 (fun i => intOf ((Fx.ovr (Fx.ovr (Fx.rv .u64 (fun _ => 0)) 0 1 (fun _ => .int .u64 (3))) 1 1 (fun _ => .int .u64 (4))) i)) (by intro i hi; rcases i with _|_|_|_|_|_|i <;> first | rfl | omega) (by decide)) rfl (by kernel_rfl) (by kernel_rfl) (by kernel_rfl) (by kernel_rfl) (by kernel_rfl)) rfl ?_
  refine Fx.L.val (v := .bool true) (by rfl) (Fx.x_pickT rfl rfl rfl) rfl ?_
  refine Fx.L.val (v := .bool true) (by rfl) (Fx.x_move rfl rfl) rfl ?_
  refine Fx.L.val (v := .pointer (some ⟨g1, 0, none⟩)) (by rfl) (Fx.x_move rfl rfl) rfl ?_
  refine Fx.L.bslice (vs := [(0, .int .i64 (2)), (1, .int .i64 (3))]) (s := 1) (zc := Fx.rv .i64 (fun _ => 0)) (y := Fx.ovr (Fx.ovr (fun j => (Fx.rv .i64 (fun _ => 0)) (j % 1)) (0 * 1) 1 (fun _ => .int .i64 (2))) (1 * 1) 1 (fun _ => .int .i64 (3))) (by rfl) rfl rfl Try.underlying65 (by kernel_rfl) (by rfl) (by rfl) (by kernel_rfl) (by rw [Fx.fill_step (off := 0 * 1) (s := 1) (y := fun _ => .int .i64 (2)) rfl (Fx.cells_one (by rfl)) (by rfl)]; rw [Fx.fill_step (off := 1 * 1) (s := 1) (y := fun _ => .int .i64 (3)) rfl (Fx.cells_one (by rfl)) (by rfl)]; rfl) rfl fun g2 w6 eg2 m6 s6 z1 => ?_
  have m7 : Fx.Blk w6 g1 36 (Fx.rv .u64 (toldK (toldK (toldK (fun _ => 0) 2 (W6 3 1)) 2 (W6 1 4)) 0 (fun _ => 0))) 99 := m5.stp s6 (Nat.ne_of_lt (m5.lt))
  have b6 : Below w.heap.size w w6 := s6.below b5 b5.size b5.size
  have lg2 : w.heap.size ≤ g2 := by rw [eg2]; exact b5.size
  have ng2m7 : g1 ≠ g2 := by rw [eg2]; exact Nat.ne_of_lt (m5.lt)
  have tg2 : g2 < w6.heap.size := m6.lt
  clear eg2
  refine Fx.L.call (by rfl) (Fx.r_call (args := [.pointer (some ⟨g1, 0, none⟩), .slice (some ⟨g2, 0, none⟩) (2) (2)]) rfl rfl Try.func32 rfl rfl) rfl ((g_least KW (W2 2 3) g1 (some ⟨g2, 0, none⟩) 2 2 _ (by omega) (fun _ => ⟨g2, 0, rfl, (m6.congr (w2_eq 2 3)).cel⟩) m7).mono ?_)
  rintro e w7 ⟨he, hb3⟩
  refine ⟨.agg (Fx.varr 6 (Fx.rv .u64 (leastV KW (W2 2 3) 2))), by rw [he], ?_⟩
  clear he
  have s7 := Fx.Stp.of_below hb3
  have m8 : Fx.Blk w7 g1 36 (Fx.rv .u64 (toldK (toldK (toldK (fun _ => 0) 2 (W6 3 1)) 2 (W6 1 4)) 0 (fun _ => 0))) 99 := m7.stp s7 (Nat.ne_of_lt (m7.lt))
  have m9 : Fx.Blk w7 g2 2 (Fx.ovr (Fx.ovr (fun j => (Fx.rv .i64 (fun _ => 0)) (j % 1)) (0 * 1) 1 (fun _ => .int .i64 (2))) (1 * 1) 1 (fun _ => .int .i64 (3))) 3 := m6.stp s7 (Nat.ne_of_lt (m6.lt))
  have b7 : Below w.heap.size w w7 := s7.below b6 b6.size b6.size
  refine Fx.L.val (v := .agg (Fx.varr 6 (Fx.rv .u64 (fun _ => 0)))) (by rfl) (Fx.x_buildArr (vs := []) (s := 1) (m := 6) (x := Fx.rv .u64 (fun _ => 0)) rfl rfl Try.underlying64 (by kernel_rfl) (by kernel_rfl) (by rfl)) rfl ?_
  refine Fx.L.val (v := .bool true) (by rfl) (Fx.x_eqlA (n := 6) (ks := List.replicate 6 (some .u64)) (X := Fx.rv .u64 (leastV KW (W2 2 3) 2)) (Y := Fx.rv .u64 (fun _ => 0)) 12 true rfl rfl rfl (Fx.yesb least_kw2) (kd6 (fun i => intOf ((Fx.rv .u64 (leastV KW (W2 2 3) 2)) i)) (by intro i hi; rcases i with _|_|_|_|_|_|i <;> first | rfl | omega) (by decide)) (kd6 (fun i => intOf ((Fx.rv .u64 (fun _ => 0)) i)) (by intro i hi; rcases i with _|_|_|_|_|_|i <;> first | rfl | omega) (by decide)) rfl (by kernel_rfl) (by kernel_rfl) (by kernel_rfl) (by kernel_rfl) (by kernel_rfl)) rfl ?_
  refine Fx.L.val (v := .bool true) (by rfl) (Fx.x_pickT rfl rfl rfl) rfl ?_
  refine Fx.L.val (v := .bool true) (by rfl) (Fx.x_move rfl rfl) rfl ?_
  refine Fx.L.val (v := .pointer (some ⟨g1, 0, none⟩)) (by rfl) (Fx.x_move rfl rfl) rfl ?_
  refine Fx.L.bslice (vs := [(0, .int .i64 (2))]) (s := 1) (zc := Fx.rv .i64 (fun _ => 0)) (y := Fx.ovr (fun j => (Fx.rv .i64 (fun _ => 0)) (j % 1)) (0 * 1) 1 (fun _ => .int .i64 (2))) (by rfl) rfl rfl Try.underlying65 (by kernel_rfl) (by rfl) (by rfl) (by kernel_rfl) (by rw [Fx.fill_step (off := 0 * 1) (s := 1) (y := fun _ => .int .i64 (2)) rfl (Fx.cells_one (by rfl)) (by rfl)]; rfl) rfl fun g3 w8 eg3 m10 s8 z2 => ?_
  have m11 : Fx.Blk w8 g1 36 (Fx.rv .u64 (toldK (toldK (toldK (fun _ => 0) 2 (W6 3 1)) 2 (W6 1 4)) 0 (fun _ => 0))) 99 := m8.stp s8 (Nat.ne_of_lt (m8.lt))
  have m12 : Fx.Blk w8 g2 2 (Fx.ovr (Fx.ovr (fun j => (Fx.rv .i64 (fun _ => 0)) (j % 1)) (0 * 1) 1 (fun _ => .int .i64 (2))) (1 * 1) 1 (fun _ => .int .i64 (3))) 3 := m9.stp s8 (Nat.ne_of_lt (m9.lt))
  have b8 : Below w.heap.size w w8 := s8.below b7 b7.size b7.size
  have lg3 : w.heap.size ≤ g3 := by rw [eg3]; exact b7.size
  have ng3m11 : g1 ≠ g3 := by rw [eg3]; exact Nat.ne_of_lt (m8.lt)
  have ng3m12 : g2 ≠ g3 := by rw [eg3]; exact Nat.ne_of_lt (m9.lt)
  have tg3 : g3 < w8.heap.size := m10.lt
  clear eg3
  refine Fx.L.call (by rfl) (Fx.r_call (args := [.pointer (some ⟨g1, 0, none⟩), .slice (some ⟨g3, 0, none⟩) (1) (1)]) rfl rfl Try.func32 rfl rfl) rfl ((g_least KW (fun _ => 2) g1 (some ⟨g3, 0, none⟩) 1 1 _ (by omega) (fun _ => ⟨g3, 0, rfl, (m10.congr (w1_eq 2)).cel⟩) m11).mono ?_)
  rintro e w9 ⟨he, hb4⟩
  refine ⟨.agg (Fx.varr 6 (Fx.rv .u64 (leastV KW (fun _ => 2) 1))), by rw [he], ?_⟩
  clear he
  have s9 := Fx.Stp.of_below hb4
  have m13 : Fx.Blk w9 g1 36 (Fx.rv .u64 (toldK (toldK (toldK (fun _ => 0) 2 (W6 3 1)) 2 (W6 1 4)) 0 (fun _ => 0))) 99 := m11.stp s9 (Nat.ne_of_lt (m11.lt))
  have m14 : Fx.Blk w9 g2 2 (Fx.ovr (Fx.ovr (fun j => (Fx.rv .i64 (fun _ => 0)) (j % 1)) (0 * 1) 1 (fun _ => .int .i64 (2))) (1 * 1) 1 (fun _ => .int .i64 (3))) 3 := m12.stp s9 (Nat.ne_of_lt (m12.lt))
  have m15 : Fx.Blk w9 g3 1 (Fx.ovr (fun j => (Fx.rv .i64 (fun _ => 0)) (j % 1)) (0 * 1) 1 (fun _ => .int .i64 (2))) 3 := m10.stp s9 (Nat.ne_of_lt (m10.lt))
  have b9 : Below w.heap.size w w9 := s9.below b8 b8.size b8.size
  refine Fx.L.val (v := .agg (Fx.varr 6 (Fx.ovr (Fx.ovr (Fx.rv .u64 (fun _ => 0)) 0 1 (fun _ => .int .u64 (3))) 1 1 (fun _ => .int .u64 (4))))) (by rfl) (Fx.x_buildArr (vs := [(0, .int .u64 (3)), (1, .int .u64 (4))]) (s := 1) (m := 6) (x := Fx.rv .u64 (fun _ => 0)) rfl rfl Try.underlying64 (by kernel_rfl) (by kernel_rfl) (by rw [Fx.fill_step (off := 0) (s := 1) (y := fun _ => .int .u64 (3)) (by kernel_rfl) (Fx.cells_one (by rfl)) (by rfl)]; rw [Fx.fill_step (off := 1) (s := 1) (y := fun _ => .int .u64 (4)) (by kernel_rfl) (Fx.cells_one (by rfl)) (by rfl)]; rfl)) rfl ?_
  refine Fx.L.val (v := .bool true) (by rfl) (Fx.x_eqlA (n := 6) (ks := List.replicate 6 (some .u64)) (X := Fx.rv .u64 (leastV KW (fun _ => 2) 1)) (Y := Fx.ovr (Fx.ovr (Fx.rv .u64 (fun _ => 0)) 0 1 (fun _ => .int .u64 (3))) 1 1 (fun _ => .int .u64 (4))) 12 true rfl rfl rfl (Fx.yesb least_kw1) (kd6 (fun i => intOf ((Fx.rv .u64 (leastV KW (fun _ => 2) 1)) i)) (by intro i hi; rcases i with _|_|_|_|_|_|i <;> first | rfl | omega) (by decide)) (kd6 (fun i => intOf ((Fx.ovr (Fx.ovr (Fx.rv .u64 (fun _ => 0)) 0 1 (fun _ => .int .u64 (3))) 1 1 (fun _ => .int .u64 (4))) i)) (by intro i hi; rcases i with _|_|_|_|_|_|i <;> first | rfl | omega) (by decide)) rfl (by kernel_rfl) (by kernel_rfl) (by kernel_rfl) (by kernel_rfl) (by kernel_rfl)) rfl ?_
  refine Fx.L.val (v := .bool true) (by rfl) (Fx.x_pickT rfl rfl rfl) rfl ?_
  refine Fx.L.val (v := .bool true) (by rfl) (Fx.x_assign rfl rfl) rfl ?_
  refine Fx.L.nil ?_
  refine Fx.seqN ?_
  refine Fx.W.ret ?_
  refine ⟨.bool true, Fx.retV1 Try.results29 (by exact rfl), ?_⟩
  exact ⟨rfl, b9⟩
end Go.Proofs.Ytcdkiakknbmfjaa
