/-
  The walks of donor.best, Whom, and of leatlaw14.works.
-/
import Derived.Test.Ytolmkjepieoloaa14B
namespace Go.Proofs.Ytolmkjepieoloaa
open Go.RowKit Rt
theorem d_best (s : StM) (id par : Nat → Int) (R : Nat → Nat → Int) (i node : Int) (gi gs gn : Nat) (w : World) (hnn : s.nn ≤ 1000000) (hi : Fx.Blk w gi 1 (fun _ => .int .i64 (i)) 3) (hs : Fx.Blk w gs 20 (stY s) 43) (hn : Fx.Blk w gn 1 (fun _ => .int .u64 (node)) 27) (hnd : Nds w s.na s.nn id par R) :
    Calls Try.prog 72 #[.func (.func 73) #[] #[.pointer (some ⟨gi, 0, none⟩), .pointer (some ⟨gs, 0, none⟩), .pointer (some ⟨gn, 0, none⟩)]] w fun e w' => e = .returned (.int .i64 (whomM s id R i node)) ∧ Below w.heap.size w w' := by
  refine Fx.enter Try.func72 rfl (n := 19) rfl (by rfl) ?_
  refine Fx.W.seq ?_
  refine Fx.W.list ?_
  refine Fx.L.val (v := .int .i64 (0)) (by rfl) (Fx.x_assign rfl rfl) rfl ?_
  refine Fx.L.nil ?_
  refine Fx.seqN ?_
  refine Fx.W.seq ?_
  refine Fx.W.list ?_
  refine Fx.L.val (v := .int .i64 (0)) (by rfl) (Fx.x_assign rfl rfl) rfl ?_
  refine Fx.L.nil ?_
  refine Fx.seqN ?_
  refine Fx.W.seq ?_
  refine Fx.W.seq ?_
  refine Fx.W.list ?_
  refine Fx.L.val (v := .int .i64 (1)) (by rfl) (Fx.x_assign rfl rfl) rfl ?_
  refine Fx.L.nil ?_
  refine Fx.seqN ?_
  refine Fx.W.block ?_
  refine Fx.W.loop (fun f w_ => ∃ k : Nat, k ≤ 6 ∧ f 0 = .func (.func 73) #[] #[.pointer (some ⟨gi, 0, none⟩), .pointer (some ⟨gs, 0, none⟩), .pointer (some ⟨gn, 0, none⟩)] ∧ f 2 = .int .i64 ((bestN (whomV s id R i node) k).1) ∧ f 3 = .int .i64 ((bestN (whomV s id R i node) k).2) ∧ f 4 = .int .i64 ((k : Int) + 1) ∧ Fx.Blk w_ gi 1 (fun _ => .int .i64 (i)) 3 ∧ Fx.Blk w_ gs 20 (stY s) 43 ∧ Fx.Blk w_ gn 1 (fun _ => .int .u64 (node)) 27 ∧ Below w.heap.size w w_) (fun f _ => (7 - (intOf (f 4)).toNat)) ⟨0, by omega, (by rfl), (by rfl), (by rfl), (by first | rfl | exact congrArg (Value.int .i64) (by omega)), hi, hs, hn, (Below.refl w.heap.size w)⟩ ?_
  rintro f1 w1 ⟨k, hk, h1, h2, h3, h4, m1, m2, m3, b1⟩
  have HB : bestN (whomV s id R i node) (k + 1) = if (bestN (whomV s id R i node) k).2 < whomV s id R i node k then ((k : Int) + 1, whomV s id R i node k) else bestN (whomV s id R i node) k := rfl
  refine Fx.W.seq ?_
  refine Fx.W.seq ?_
  refine Fx.W.list ?_
  refine Fx.L.val (v := .int .i64 ((k : Int) + 1)) (by rfl) (Fx.x_move rfl h4) rfl ?_
  by_cases c7 : ((k : Int) + 1) ≤ 6
  · refine Fx.L.val (v := .bool true) (by rfl) (Fx.x_leqT rfl rfl rfl c7) rfl ?_
    refine Fx.L.nil ?_
    refine Fx.seqN ?_
    refine Fx.W.cond (b := true) rfl (fun _ => ?_) (fun h => nomatch h)
    refine Fx.W.skip ?_
    refine Fx.seqN ?_
    refine Fx.W.seq ?_
    refine Fx.W.block ?_
    refine Fx.W.seq ?_
    refine Fx.W.list ?_
    refine Fx.L.val (v := .func (.func 73) #[] #[.pointer (some ⟨gi, 0, none⟩), .pointer (some ⟨gs, 0, none⟩), .pointer (some ⟨gn, 0, none⟩)]) (by rfl) (Fx.x_move rfl h1) rfl ?_
    refine Fx.L.val (v := .int .i64 ((k : Int) + 1)) (by rfl) (Fx.x_move rfl h4) rfl ?_
    refine Fx.L.call (by rfl) (Fx.r_clo (args := [.int .i64 ((k : Int) + 1)]) rfl rfl rfl (all := #[.int .i64 ((k : Int) + 1), .pointer (some ⟨gi, 0, none⟩), .pointer (some ⟨gs, 0, none⟩), .pointer (some ⟨gn, 0, none⟩)]) rfl Try.func73 rfl rfl) rfl ((d_whom1 s id par R i node k gi gs gn _ (by omega) hnn m1 m2 m3 (hnd.below b1)).mono ?_)
    rintro e w2 ⟨he, hb1⟩
    refine ⟨.int .i64 (whomV s id R i node k), by rw [he], ?_⟩
    clear he
    have s1 := Fx.Stp.of_below hb1
    have m4 : Fx.Blk w2 gi 1 (fun _ => .int .i64 (i)) 3 := m1.stp s1 (Nat.ne_of_lt (m1.lt))
    have m5 : Fx.Blk w2 gs 20 (stY s) 43 := m2.stp s1 (Nat.ne_of_lt (m2.lt))
    have m6 : Fx.Blk w2 gn 1 (fun _ => .int .u64 (node)) 27 := m3.stp s1 (Nat.ne_of_lt (m3.lt))
    have b2 : Below w.heap.size w w2 := s1.below b1 b1.size b1.size
    refine Fx.L.val (v := .int .i64 (whomV s id R i node k)) (by rfl) (Fx.x_assign rfl rfl) rfl ?_
    refine Fx.L.nil ?_
    refine Fx.seqN ?_
    refine Fx.W.seq ?_
    refine Fx.W.list ?_
    refine Fx.L.val (v := .int .i64 (whomV s id R i node k)) (by rfl) (Fx.x_move rfl rfl) rfl ?_
    refine Fx.L.val (v := .int .i64 ((bestN (whomV s id R i node) k).2)) (by rfl) (Fx.x_move rfl h3) rfl ?_
    by_cases c15 : ((bestN (whomV s id R i node) k).2) < (whomV s id R i node k)
    · refine Fx.L.val (v := .bool true) (by rfl) (Fx.x_gtrT rfl rfl rfl c15) rfl ?_
      refine Fx.L.nil ?_
      refine Fx.seqN ?_
      refine Fx.W.cond (b := true) rfl (fun _ => ?_) (fun h => nomatch h)
      refine Fx.W.list ?_
      refine Fx.L.val (v := .int .i64 ((k : Int) + 1)) (by rfl) (Fx.x_move rfl h4) rfl ?_
      refine Fx.L.val (v := .int .i64 (whomV s id R i node k)) (by rfl) (Fx.x_move rfl rfl) rfl ?_
      refine Fx.L.val (v := .int .i64 ((k : Int) + 1)) (by rfl) (Fx.x_assign rfl rfl) rfl ?_
      refine Fx.L.val (v := .int .i64 (whomV s id R i node k)) (by rfl) (Fx.x_assign rfl rfl) rfl ?_
      refine Fx.L.nil ?_
      refine Fx.blkN ?_
      refine Fx.seqN ?_
      refine Fx.W.list ?_
      refine Fx.L.val (v := .int .i64 ((k : Int) + 1)) (by rfl) (Fx.x_move rfl h4) rfl ?_
      refine Fx.L.val (v := .int .i64 ((k : Int) + 2)) (by rfl) (Fx.x_add rfl rfl rfl (Fx.i64e (by omega) (by omega))) rfl ?_
      refine Fx.L.val (v := .int .i64 ((k : Int) + 2)) (by rfl) (Fx.x_assign rfl rfl) rfl ?_
      refine Fx.L.nil ?_
      refine Fx.lpN ⟨k + 1, by omega, h1, (congrArg (Value.int .i64) (by rw [HB, if_pos c15])), (congrArg (Value.int .i64) (by rw [HB, if_pos c15])), (by first | rfl | exact congrArg (Value.int .i64) (by omega)), m4, m5, m6, b2⟩ ?_
      show (7 - (intOf ((.int .i64 ((k : Int) + 2)))).toNat) < _
      simp only [h4, intOf]; omega
    · refine Fx.L.val (v := .bool false) (by rfl) (Fx.x_gtrF rfl rfl rfl c15) rfl ?_
      refine Fx.L.nil ?_
      refine Fx.seqN ?_
      refine Fx.W.cond (b := false) rfl (fun h => nomatch h) (fun _ => ?_)
      refine Fx.W.skip ?_
      refine Fx.blkN ?_
      refine Fx.seqN ?_
      refine Fx.W.list ?_
      refine Fx.L.val (v := .int .i64 ((k : Int) + 1)) (by rfl) (Fx.x_move rfl h4) rfl ?_
      refine Fx.L.val (v := .int .i64 ((k : Int) + 2)) (by rfl) (Fx.x_add rfl rfl rfl (Fx.i64e (by omega) (by omega))) rfl ?_
      refine Fx.L.val (v := .int .i64 ((k : Int) + 2)) (by rfl) (Fx.x_assign rfl rfl) rfl ?_
      refine Fx.L.nil ?_
      refine Fx.lpN ⟨k + 1, by omega, h1, (h2.trans (congrArg (Value.int .i64) (by rw [HB, if_neg c15]))), (h3.trans (congrArg (Value.int .i64) (by rw [HB, if_neg c15]))), (by first | rfl | exact congrArg (Value.int .i64) (by omega)), m4, m5, m6, b2⟩ ?_
      show (7 - (intOf ((.int .i64 ((k : Int) + 2)))).toNat) < _
      simp only [h4, intOf]; omega
  · refine Fx.L.val (v := .bool false) (by rfl) (Fx.x_leqF rfl rfl rfl c7) rfl ?_
    refine Fx.L.nil ?_
    refine Fx.seqN ?_
    refine Fx.W.cond (b := false) rfl (fun h => nomatch h) (fun _ => ?_)
    refine Fx.W.exit ?_
    refine Fx.seqX ?_
    refine Fx.lpX ?_
    refine Fx.blkX ?_
    refine Fx.seqN ?_
    refine Fx.W.seq ?_
    refine Fx.W.list ?_
    refine Fx.L.val (v := .int .i64 ((bestN (whomV s id R i node) k).1)) (by rfl) (Fx.x_move rfl h2) rfl ?_
    refine Fx.L.val (v := .int .i64 ((bestN (whomV s id R i node) k).1)) (by rfl) (Fx.x_assign rfl rfl) rfl ?_
    refine Fx.L.nil ?_
    refine Fx.seqN ?_
    refine Fx.W.ret ?_
    refine ⟨.int .i64 ((bestN (whomV s id R i node) k).1), Fx.retV1 Try.results72 (by exact rfl), ?_⟩
    have e6 : k = 6 := by omega
    exact ⟨by rw [e6]; rfl, b1⟩
theorem d_whom (s : StM) (id par : Nat → Int) (R : Nat → Nat → Int) (i node : Int) (w : World) (hnn : s.nn ≤ 1000000) (hnd : Nds w s.na s.nn id par R) :
    Calls Try.prog 27 #[.agg (Fx.varr 20 (stY s)), .int .i64 (i), .int .u64 (node)] w fun e w' => e = .returned (.int .i64 (whomM s id R i node)) ∧ Below w.heap.size w w' := by
  refine Fx.enter Try.func27 rfl (n := 9) rfl (by rfl) ?_
  refine Fx.W.seq ?_
  refine Fx.W.list ?_
  refine Fx.L.box (m := 20) (y := stY s) (by rfl) rfl rfl (Fx.cells_agg _ _) rfl fun g1 w1 eg1 m1 s1 z1 => ?_
  have b1 : Below w.heap.size w w1 := s1.below (Below.refl w.heap.size w) (Below.refl w.heap.size w).size (Below.refl w.heap.size w).size
  have lg1 : w.heap.size ≤ g1 := by rw [eg1]; exact (Below.refl w.heap.size w).size
  have tg1 : g1 < w1.heap.size := m1.lt
  clear eg1
  refine Fx.L.box (m := 1) (y := fun _ => .int .i64 (i)) (by rfl) rfl rfl (Fx.cells_one (by rfl)) rfl fun g2 w2 eg2 m2 s2 z2 => ?_
  have m3 : Fx.Blk w2 g1 20 (stY s) 43 := m1.stp s2 (Nat.ne_of_lt (m1.lt))
  have b2 : Below w.heap.size w w2 := s2.below b1 b1.size b1.size
  have lg2 : w.heap.size ≤ g2 := by rw [eg2]; exact b1.size
  have ng2m3 : g1 ≠ g2 := by rw [eg2]; exact Nat.ne_of_lt (m1.lt)
  have tg2 : g2 < w2.heap.size := m2.lt
  clear eg2
  refine Fx.L.box (m := 1) (y := fun _ => .int .u64 (node)) (by rfl) rfl rfl (Fx.cells_one (by rfl)) rfl fun g3 w3 eg3 m4 s3 z3 => ?_
  have m5 : Fx.Blk w3 g1 20 (stY s) 43 := m3.stp s3 (Nat.ne_of_lt (m3.lt))
  have m6 : Fx.Blk w3 g2 1 (fun _ => .int .i64 (i)) 3 := m2.stp s3 (Nat.ne_of_lt (m2.lt))
  have b3 : Below w.heap.size w w3 := s3.below b2 b2.size b2.size
  have lg3 : w.heap.size ≤ g3 := by rw [eg3]; exact b2.size
  have ng3m5 : g1 ≠ g3 := by rw [eg3]; exact Nat.ne_of_lt (m3.lt)
  have ng3m6 : g2 ≠ g3 := by rw [eg3]; exact Nat.ne_of_lt (m2.lt)
  have tg3 : g3 < w3.heap.size := m4.lt
  clear eg3
  refine Fx.L.val (v := .int .i64 (0)) (by rfl) (Fx.x_assign rfl rfl) rfl ?_
  refine Fx.L.nil ?_
  refine Fx.seqN ?_
  refine Fx.W.seq ?_
  refine Fx.W.list ?_
  refine Fx.L.val (v := .func (.func 73) #[] #[.pointer (some ⟨g2, 0, none⟩), .pointer (some ⟨g1, 0, none⟩), .pointer (some ⟨g3, 0, none⟩)]) (by rfl) (Fx.x_func (us := []) (vs := [.pointer (some ⟨g2, 0, none⟩), .pointer (some ⟨g1, 0, none⟩), .pointer (some ⟨g3, 0, none⟩)]) rfl rfl rfl) rfl ?_
  refine Fx.L.call (by rfl) (Fx.r_call (args := [.func (.func 73) #[] #[.pointer (some ⟨g2, 0, none⟩), .pointer (some ⟨g1, 0, none⟩), .pointer (some ⟨g3, 0, none⟩)]]) rfl rfl Try.func72 rfl rfl) rfl ((d_best s id par R i node g2 g1 g3 _ hnn m6 m5 m4 (hnd.below b3)).mono ?_)
  rintro e w4 ⟨he, hb1⟩
  refine ⟨.int .i64 (whomM s id R i node), by rw [he], ?_⟩
  clear he
  have s4 := Fx.Stp.of_below hb1
  have m7 : Fx.Blk w4 g1 20 (stY s) 43 := m5.stp s4 (Nat.ne_of_lt (m5.lt))
  have m8 : Fx.Blk w4 g2 1 (fun _ => .int .i64 (i)) 3 := m6.stp s4 (Nat.ne_of_lt (m6.lt))
  have m9 : Fx.Blk w4 g3 1 (fun _ => .int .u64 (node)) 27 := m4.stp s4 (Nat.ne_of_lt (m4.lt))
  have b4 : Below w.heap.size w w4 := s4.below b3 b3.size b3.size
  refine Fx.L.val (v := .int .i64 (whomM s id R i node)) (by rfl) (Fx.x_assign rfl rfl) rfl ?_
  refine Fx.L.nil ?_
  refine Fx.seqN ?_
  refine Fx.W.ret ?_
  refine ⟨.int .i64 (whomM s id R i node), Fx.retV1 Try.results27 (by exact rfl), ?_⟩
  exact ⟨rfl, b4⟩
def zst : StM := ⟨fun _ => false, fun _ => false, fun _ => 0, none, 0, 0, none, 0, 0⟩
theorem zst_eq : Fx.varr 20 (fun i => (#[.bool false, .bool false, .bool false, .bool false, .bool false, .bool false, .bool false, .bool false, .bool false, .bool false, .bool false, .bool false, .int .u64 (0), .int .u64 (0), .int .u64 (0), .int .u64 (0), .int .u64 (0), .int .u64 (0), .slice none 0 0, .slice none 0 0] : Array Value).getD i undef) = Fx.varr 20 (stY zst) := by kernel_rfl
theorem zwhom_any (w : World) : Calls Try.prog 27 #[.agg (Fx.varr 20 (fun i => (#[.bool false, .bool false, .bool false, .bool false, .bool false, .bool false, .bool false, .bool false, .bool false, .bool false, .bool false, .bool false, .int .u64 (0), .int .u64 (0), .int .u64 (0), .int .u64 (0), .int .u64 (0), .int .u64 (0), .slice none 0 0, .slice none 0 0] : Array Value).getD i undef)), .int .i64 (1), .int .u64 (1)] w fun e w' => e = .returned (.int .i64 (0)) ∧ Below w.heap.size w w' := by
  rw [zst_eq]
  exact d_whom zst (fun _ => 0) (fun _ => 0) (fun _ _ => 0) 1 1 w (by show 0 ≤ 1000000; omega) (fun k hk => absurd hk (by show ¬ k < 0; omega))
set_option maxRecDepth 10000 in
theorem works14_any (w : World) :
    Calls Try.prog 21 #[] w fun e w' => e = .returned (.bool true) ∧ Below w.heap.size w w' := by
  refine Fx.enter Try.func21 rfl (n := 20) rfl (by rfl) ?_
  refine Fx.W.seq ?_
  refine Fx.W.list ?_
  refine Fx.L.val (v := .bool false) (by rfl) (Fx.x_assign rfl rfl) rfl ?_
  refine Fx.L.nil ?_
  refine Fx.seqN ?_
  refine Fx.W.seq ?_
  refine Fx.W.list ?_
  refine Fx.L.call (by rfl) (Fx.r_call (args := [.int .i64 (10), .int .i64 (3)]) rfl rfl Try.func25 rfl rfl) rfl ((d_share 10 3 _).mono ?_)
  rintro e v1 ⟨he, hv1⟩
  subst v1
  refine ⟨.int .i64 (shareM 10 3), by rw [he], ?_⟩
  clear he
  refine Fx.L.val (v := .bool true) (by rfl) (Fx.x_eqlT rfl rfl rfl (by decide)) rfl ?_
  refine Fx.L.val (v := .bool true) (by rfl) (Fx.x_move rfl rfl) rfl ?_
  refine Fx.L.call (by rfl) (Fx.r_call (args := [.int .i64 (10), .int .i64 (100)]) rfl rfl Try.func25 rfl rfl) rfl ((d_share 10 100 _).mono ?_)
  rintro e v1 ⟨he, hv1⟩
  subst v1
  refine ⟨.int .i64 (shareM 10 100), by rw [he], ?_⟩
  clear he
  refine Fx.L.val (v := .bool true) (by rfl) (Fx.x_eqlT rfl rfl rfl (by decide)) rfl ?_
  refine Fx.L.val (v := .bool true) (by rfl) (Fx.x_pickT rfl rfl rfl) rfl ?_
  refine Fx.L.val (v := .bool true) (by rfl) (Fx.x_move rfl rfl) rfl ?_
  refine Fx.L.call (by rfl) (Fx.r_call (args := [.int .i64 (1), .int .i64 (1)]) rfl rfl Try.func25 rfl rfl) rfl ((d_share 1 1 _).mono ?_)
  rintro e v1 ⟨he, hv1⟩
  subst v1
  refine ⟨.int .i64 (shareM 1 1), by rw [he], ?_⟩
  clear he
  refine Fx.L.val (v := .bool true) (by rfl) (Fx.x_eqlT rfl rfl rfl (by decide)) rfl ?_
  refine Fx.L.val (v := .bool true) (by rfl) (Fx.x_pickT rfl rfl rfl) rfl ?_
  refine Fx.L.val (v := .bool true) (by rfl) (Fx.x_move rfl rfl) rfl ?_
  refine Fx.L.call (by rfl) (Fx.r_call (args := [.int .i64 (0), .int .i64 (1)]) rfl rfl Try.func25 rfl rfl) rfl ((d_share 0 1 _).mono ?_)
  rintro e v1 ⟨he, hv1⟩
  subst v1
  refine ⟨.int .i64 (shareM 0 1), by rw [he], ?_⟩
  clear he
  refine Fx.L.val (v := .bool true) (by rfl) (Fx.x_eqlT rfl rfl rfl (by decide)) rfl ?_
  refine Fx.L.val (v := .bool true) (by rfl) (Fx.x_pickT rfl rfl rfl) rfl ?_
  refine Fx.L.val (v := .bool true) (by rfl) (Fx.x_move rfl rfl) rfl ?_
  refine Fx.L.val (v := .agg (Fx.varr 20 (fun i => (#[.bool false, .bool false, .bool false, .bool false, .bool false, .bool false, .bool false, .bool false, .bool false, .bool false, .bool false, .bool false, .int .u64 (0), .int .u64 (0), .int .u64 (0), .int .u64 (0), .int .u64 (0), .int .u64 (0), .slice none 0 0, .slice none 0 0] : Array Value).getD i undef))) (by rfl) (Fx.x_build (vs := []) (places := #[(0, 6), (6, 6), (12, 6), (18, 1), (19, 1)]) (m := 20) (x := fun i => (#[.bool false, .bool false, .bool false, .bool false, .bool false, .bool false, .bool false, .bool false, .bool false, .bool false, .bool false, .bool false, .int .u64 (0), .int .u64 (0), .int .u64 (0), .int .u64 (0), .int .u64 (0), .int .u64 (0), .slice none 0 0, .slice none 0 0] : Array Value).getD i undef) rfl rfl Try.underlying43 (by kernel_rfl) (by kernel_rfl) (by rfl)) rfl ?_
  refine Fx.L.call (by rfl) (Fx.r_call (args := [.agg (Fx.varr 20 (fun i => (#[.bool false, .bool false, .bool false, .bool false, .bool false, .bool false, .bool false, .bool false, .bool false, .bool false, .bool false, .bool false, .int .u64 (0), .int .u64 (0), .int .u64 (0), .int .u64 (0), .int .u64 (0), .int .u64 (0), .slice none 0 0, .slice none 0 0] : Array Value).getD i undef)), .int .i64 (1), .int .u64 (1)]) rfl rfl Try.func27 rfl rfl) rfl ((zwhom_any _).mono ?_)
  rintro e w1 ⟨he, hb1⟩
  refine ⟨.int .i64 (0), by rw [he], ?_⟩
  clear he
  have s1 := Fx.Stp.of_below hb1
  have b1 : Below w.heap.size w w1 := s1.below (Below.refl w.heap.size w) (Below.refl w.heap.size w).size (Below.refl w.heap.size w).size
  refine Fx.L.val (v := .bool true) (by rfl) (Fx.x_eqlT rfl rfl rfl rfl) rfl ?_
  refine Fx.L.val (v := .bool true) (by rfl) (Fx.x_pickT rfl rfl rfl) rfl ?_
  refine Fx.L.val (v := .bool true) (by rfl) (Fx.x_assign rfl rfl) rfl ?_
  refine Fx.L.nil ?_
  refine Fx.seqN ?_
  refine Fx.W.ret ?_
  refine ⟨.bool true, Fx.retV1 Try.results21 (by exact rfl), ?_⟩
  exact ⟨rfl, b1⟩
end Go.Proofs.Ytolmkjepieoloaa
