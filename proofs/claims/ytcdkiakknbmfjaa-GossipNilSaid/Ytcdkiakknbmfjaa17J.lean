/-
  The walk of leatlaw17.GossipNil.
-/
import Derived.Test.Ytcdkiakknbmfjaa17H
import Derived.Test.YtcdkiakknbmfjaaOpenG
namespace Go.Proofs.Ytcdkiakknbmfjaa
open Go.RowKit Rt
theorem g_lacks_nil (n m : Int) (w : World) :
    Calls Try.prog 33 #[.pointer none, .int .i64 (n), .pointer none, .int .i64 (m)] w fun e w' => e = .returned (.slice none 0 0) ∧ Below w.heap.size w w' := by
  refine Fx.enter Try.func33 rfl (n := 17) rfl (by rfl) ?_
  refine Fx.W.seq ?_
  refine Fx.W.list ?_
  refine Fx.L.val (v := .slice none 0 0) (by rfl) (Fx.x_assign rfl rfl) rfl ?_
  refine Fx.L.nil ?_
  refine Fx.seqN ?_
  refine Fx.W.seq ?_
  refine Fx.W.seq ?_
  refine Fx.W.list ?_
  refine Fx.L.val (v := .pointer none) (by rfl) (Fx.x_move rfl rfl) rfl ?_
  refine Fx.L.val (v := .bool true) (by rfl) (Fx.x_eqNil' rfl rfl rfl (by kernel_rfl)) rfl ?_
  refine Fx.L.nil ?_
  refine Fx.seqN ?_
  refine Fx.W.cond (b := true) rfl (fun _ => ?_) (fun h => nomatch h)
  refine Fx.W.seq ?_
  refine Fx.W.list ?_
  refine Fx.L.val (v := .slice none 0 0) (by rfl) (Fx.x_assign rfl rfl) rfl ?_
  refine Fx.L.nil ?_
  refine Fx.seqN ?_
  refine Fx.W.ret ?_
  refine Fx.seqR ?_
  refine ⟨.slice none 0 0, Fx.retV1 Try.results33 (by exact rfl), ?_⟩
  exact ⟨rfl, (Below.refl w.heap.size w)⟩
set_option maxRecDepth 10000 in
theorem gnil_any (n : Int) (v : Nat → Int) (sa : Option Addr) (m ca : Nat) (X : Nat → Int) (w : World) (hS : Its w sa m X) :
    Calls Try.prog 9 #[.int .i64 (n), .agg (Fx.varr 6 (Fx.rv .u64 v)), .slice sa (m) (ca)] w fun e w' => e = .returned (.bool true) ∧ Below w.heap.size w w' := by
  refine Fx.enter Try.func9 rfl (n := 41) rfl (by rfl) ?_
  refine Fx.W.seq ?_
  refine Fx.W.list ?_
  refine Fx.L.box (m := 6) (y := Fx.rv .u64 v) (by rfl) rfl rfl (Fx.cells_agg _ _) rfl fun g1 w1 eg1 m1 s1 z1 => ?_
  have b1 : Below w.heap.size w w1 := s1.below (Below.refl w.heap.size w) (Below.refl w.heap.size w).size (Below.refl w.heap.size w).size
  have lg1 : w.heap.size ≤ g1 := by rw [eg1]; exact (Below.refl w.heap.size w).size
  have tg1 : g1 < w1.heap.size := m1.lt
  clear eg1
  refine Fx.L.val (v := .bool false) (by rfl) (Fx.x_assign rfl rfl) rfl ?_
  refine Fx.L.nil ?_
  refine Fx.seqN ?_
  refine Fx.W.seq ?_
  refine Fx.W.seq ?_
  refine Fx.W.list ?_
  refine Fx.L.val (v := .slice sa (m) (ca)) (by rfl) (Fx.x_move rfl rfl) rfl ?_
  refine Fx.L.val (v := .int .i64 ((m : Int))) (by rfl) (Fx.x_len rfl rfl rfl (by kernel_rfl)) rfl ?_
  by_cases c10 : 20 < (m : Int)
  · refine Fx.L.val (v := .bool true) (by rfl) (Fx.x_gtrT rfl rfl rfl c10) rfl ?_
    refine Fx.L.nil ?_
    refine Fx.seqN ?_
    refine Fx.W.cond (b := true) rfl (fun _ => ?_) (fun h => nomatch h)
    refine Fx.W.seq ?_
    refine Fx.W.list ?_
    refine Fx.L.call (by rfl) (Fx.r_call (args := []) rfl rfl Try.func29 rfl rfl) rfl ((works17_any _).mono ?_)
    rintro e w2 ⟨he, hb1⟩
    refine ⟨.bool true, by rw [he], ?_⟩
    clear he
    have s2 := Fx.Stp.of_below hb1
    have m2 : Fx.Blk w2 g1 6 (Fx.rv .u64 v) 64 := m1.stp s2 (Nat.ne_of_lt (m1.lt))
    have b2 : Below w.heap.size w w2 := s2.below b1 b1.size b1.size
    refine Fx.L.val (v := .bool true) (by rfl) (Fx.x_assign rfl rfl) rfl ?_
    refine Fx.L.nil ?_
    refine Fx.seqN ?_
    refine Fx.W.ret ?_
    refine Fx.seqR ?_
    refine ⟨.bool true, Fx.retV1 Try.results9 (by exact rfl), ?_⟩
    exact ⟨rfl, b2⟩
  · refine Fx.L.val (v := .bool false) (by rfl) (Fx.x_gtrF rfl rfl rfl c10) rfl ?_
    refine Fx.L.nil ?_
    refine Fx.seqN ?_
    refine Fx.W.cond (b := false) rfl (fun h => nomatch h) (fun _ => ?_)
    refine Fx.W.skip ?_
    refine Fx.seqN ?_
    refine Fx.W.seq ?_
    refine Fx.W.list ?_
    refine Fx.L.val (v := .pointer none) (by rfl) (Fx.x_assign rfl rfl) rfl ?_
    refine Fx.L.nil ?_
    refine Fx.seqN ?_
    refine Fx.W.seq ?_
    refine Fx.W.list ?_
    refine Fx.L.val (v := .pointer none) (by rfl) (Fx.x_move rfl rfl) rfl ?_
    refine Fx.L.val (v := .int .i64 (n)) (by rfl) (Fx.x_move rfl rfl) rfl ?_
    refine Fx.L.val (v := .agg (Fx.varr 6 (Fx.rv .u64 v))) (by rfl) (Fx.x_loadA (x := Fx.rv .u64 v) (y := Fx.rv .u64 v) rfl rfl (by kernel_rfl) (by kernel_rfl) m1.cel (i := 0) (by omega) (by omega) (fun j _ => by rw [Nat.zero_add])) rfl ?_
    refine Fx.L.call (by rfl) (Fx.r_call (args := [.pointer none, .int .i64 (n), .agg (Fx.varr 6 (Fx.rv .u64 v))]) rfl rfl Try.func30 rfl rfl) rfl ((g_told_nil v n _).mono ?_)
    rintro e w3 ⟨he, hb2⟩
    refine ⟨.int .i64 (2), by rw [he], ?_⟩
    clear he
    have s3 := Fx.Stp.of_below hb2
    have m3 : Fx.Blk w3 g1 6 (Fx.rv .u64 v) 64 := m1.stp s3 (Nat.ne_of_lt (m1.lt))
    have b3 : Below w.heap.size w w3 := s3.below b1 b1.size b1.size
    refine Fx.L.val (v := .bool true) (by rfl) (Fx.x_eqlT rfl rfl rfl rfl) rfl ?_
    refine Fx.L.val (v := .bool true) (by rfl) (Fx.x_move rfl rfl) rfl ?_
    refine Fx.L.val (v := .pointer none) (by rfl) (Fx.x_move rfl rfl) rfl ?_
    refine Fx.L.val (v := .int .i64 (n)) (by rfl) (Fx.x_move rfl rfl) rfl ?_
    refine Fx.L.call (by rfl) (Fx.r_call (args := [.pointer none, .int .i64 (n)]) rfl rfl Try.func31 rfl rfl) rfl ((g_of_nil n _).mono ?_)
    rintro e w4 ⟨he, hb3⟩
    refine ⟨.agg (Fx.varr 6 (Fx.rv .u64 (fun _ => 0))), by rw [he], ?_⟩
    clear he
    have s4 := Fx.Stp.of_below hb3
    have m4 : Fx.Blk w4 g1 6 (Fx.rv .u64 v) 64 := m3.stp s4 (Nat.ne_of_lt (m3.lt))
    have b4 : Below w.heap.size w w4 := s4.below b3 b3.size b3.size
    refine Fx.L.val (v := .agg (Fx.varr 6 (Fx.rv .u64 (fun _ => 0)))) (by rfl) (Fx.x_buildArr (vs := []) (s := 1) (m := 6) (x := Fx.rv .u64 (fun _ => 0)) rfl rfl Try.underlying64 (by kernel_rfl) (by kernel_rfl) (by rfl)) rfl ?_
    refine Fx.L.val (v := .bool true) (by rfl) (Fx.x_eqlA (n := 6) (ks := List.replicate 6 (some .u64)) (X := Fx.rv .u64 (fun _ => 0)) (Y := Fx.rv .u64 (fun _ => 0)) 12 true rfl rfl rfl (Fx.yesb (fun _ _ => rfl)) (Fx.kd_rv (fun _ _ => by decide)) (Fx.kd_rv (fun _ _ => by decide)) rfl (by kernel_rfl) (by kernel_rfl) (by kernel_rfl) (by kernel_rfl) (by kernel_rfl)) rfl ?_
    refine Fx.L.val (v := .bool true) (by rfl) (Fx.x_pickT rfl rfl rfl) rfl ?_
    refine Fx.L.val (v := .bool true) (by rfl) (Fx.x_move rfl rfl) rfl ?_
    refine Fx.L.val (v := .pointer none) (by rfl) (Fx.x_move rfl rfl) rfl ?_
    refine Fx.L.val (v := .slice sa (m) (ca)) (by rfl) (Fx.x_move rfl rfl) rfl ?_
    refine Fx.L.call (by rfl) (Fx.r_call (args := [.pointer none, .slice sa (m) (ca)]) rfl rfl Try.func32 rfl rfl) rfl ((g_least_nil X sa m ca _ (by omega) (fun h0 => by obtain ⟨b2, off2, ea2, hc2⟩ := hS h0; exact ⟨b2, off2, ea2, hc2.below b4 (hc2.lt (by omega))⟩)).mono ?_)
    rintro e w5 ⟨he, hb4⟩
    refine ⟨.agg (Fx.varr 6 (Fx.rv .u64 (fun _ => 0))), by rw [he], ?_⟩
    clear he
    have s5 := Fx.Stp.of_below hb4
    have m5 : Fx.Blk w5 g1 6 (Fx.rv .u64 v) 64 := m4.stp s5 (Nat.ne_of_lt (m4.lt))
    have b5 : Below w.heap.size w w5 := s5.below b4 b4.size b4.size
    refine Fx.L.val (v := .agg (Fx.varr 6 (Fx.rv .u64 (fun _ => 0)))) (by rfl) (Fx.x_buildArr (vs := []) (s := 1) (m := 6) (x := Fx.rv .u64 (fun _ => 0)) rfl rfl Try.underlying64 (by kernel_rfl) (by kernel_rfl) (by rfl)) rfl ?_
    refine Fx.L.val (v := .bool true) (by rfl) (Fx.x_eqlA (n := 6) (ks := List.replicate 6 (some .u64)) (X := Fx.rv .u64 (fun _ => 0)) (Y := Fx.rv .u64 (fun _ => 0)) 12 true rfl rfl rfl (Fx.yesb (fun _ _ => rfl)) (Fx.kd_rv (fun _ _ => by decide)) (Fx.kd_rv (fun _ _ => by decide)) rfl (by kernel_rfl) (by kernel_rfl) (by kernel_rfl) (by kernel_rfl) (by kernel_rfl)) rfl ?_
    refine Fx.L.val (v := .bool true) (by rfl) (Fx.x_pickT rfl rfl rfl) rfl ?_
    refine Fx.L.val (v := .bool true) (by rfl) (Fx.x_move rfl rfl) rfl ?_
    refine Fx.L.val (v := .pointer none) (by rfl) (Fx.x_move rfl rfl) rfl ?_
    refine Fx.L.val (v := .int .i64 (n)) (by rfl) (Fx.x_move rfl rfl) rfl ?_
    refine Fx.L.call (by rfl) (Fx.r_call (args := [.pointer none, .int .i64 (n), .pointer none, .int .i64 (5)]) rfl rfl Try.func33 rfl rfl) rfl ((g_lacks_nil n 5 _).mono ?_)
    rintro e w6 ⟨he, hb5⟩
    refine ⟨.slice none 0 0, by rw [he], ?_⟩
    clear he
    have s6 := Fx.Stp.of_below hb5
    have m6 : Fx.Blk w6 g1 6 (Fx.rv .u64 v) 64 := m5.stp s6 (Nat.ne_of_lt (m5.lt))
    have b6 : Below w.heap.size w w6 := s6.below b5 b5.size b5.size
    refine Fx.L.val (v := .int .i64 (0)) (by rfl) (Fx.x_len rfl rfl rfl (by kernel_rfl)) rfl ?_
    refine Fx.L.val (v := .bool true) (by rfl) (Fx.x_eqlT rfl rfl rfl rfl) rfl ?_
    refine Fx.L.val (v := .bool true) (by rfl) (Fx.x_pickT rfl rfl rfl) rfl ?_
    refine Fx.L.val (v := .bool true) (by rfl) (Fx.x_move rfl rfl) rfl ?_
    refine Fx.L.call (by rfl) (Fx.r_call (args := []) rfl rfl Try.func29 rfl rfl) rfl ((works17_any _).mono ?_)
    rintro e w7 ⟨he, hb6⟩
    refine ⟨.bool true, by rw [he], ?_⟩
    clear he
    have s7 := Fx.Stp.of_below hb6
    have m7 : Fx.Blk w7 g1 6 (Fx.rv .u64 v) 64 := m6.stp s7 (Nat.ne_of_lt (m6.lt))
    have b7 : Below w.heap.size w w7 := s7.below b6 b6.size b6.size
    refine Fx.L.val (v := .bool true) (by rfl) (Fx.x_pickT rfl rfl rfl) rfl ?_
    refine Fx.L.val (v := .bool true) (by rfl) (Fx.x_assign rfl rfl) rfl ?_
    refine Fx.L.nil ?_
    refine Fx.seqN ?_
    refine Fx.W.ret ?_
    refine ⟨.bool true, Fx.retV1 Try.results9 (by exact rfl), ?_⟩
    exact ⟨rfl, b7⟩
namespace Rt
theorem flat_ints (X : Nat → Nat → Int) : flatX [.i64] X = Fx.rv .i64 (fun i => X i 0) := by
  funext p
  show Value.int (([.i64] : List IntKind).getD (p % 1) .i64) (X (p / 1) (p % 1)) = Value.int .i64 (X p 0)
  rw [Nat.mod_one, Nat.div_one]; rfl
theorem gnil_flat (n : Int) (v : Nat → Int) (a1 : Option Addr) (l1 c1 : Nat) (X1 : Nat → Nat → Int) (W : World)
    (st1 : 0 < l1 → ∃ b off, a1 = some ⟨b, off, none⟩ ∧ Fx.Cel W b off (([.i64] : List IntKind).length * l1) (flatX [.i64] X1)) :
    Calls Try.prog 9 #[.int .i64 n, .agg (Fx.varr 6 (Fx.rv .u64 v)), .slice a1 l1 c1] W fun e w' => e = .returned (.bool true) ∧ Below W.heap.size W w' := by
  refine gnil_any n v a1 l1 c1 (fun i => X1 i 0) W (fun h => ?_)
  obtain ⟨b, off, e, hc⟩ := st1 h
  rw [flat_ints, show ([.i64] : List IntKind).length * l1 = l1 from Nat.one_mul _] at hc; exact ⟨b, off, e, hc⟩
end Rt
end Go.Proofs.Ytcdkiakknbmfjaa
