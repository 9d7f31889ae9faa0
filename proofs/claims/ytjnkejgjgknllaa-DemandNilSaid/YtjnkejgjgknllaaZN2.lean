/-
  What the proof of the law rests on, part 2: walks of functions, and plain laws; each says its conditions itself.
-/
import Derived.Test.YtjnkejgjgknllaaZN1
namespace Go.Proofs.Ytjnkejgjgknllaa
open Go.RowKit Rt
namespace Rt
theorem put_first {W W' : Nat → WtM} {node x now c : Int} {n' : Nat} (h : PutR 0 W node x now c n' W') (hb : ¬ putBad node x now) : c = 0 ∧ n' = 1 ∧ W' 0 = ⟨node, x, now, 1⟩ := by
  cases h with
  | arg h => exact absurd h hb
  | had j _ hj => omega
  | full _ _ hf => omega
  | new => exact ⟨rfl, rfl, by unfold Fx.putI; rw [if_pos rfl]⟩
theorem those_one {m : Nat} {W : Nat → WtM} {P : Nat → Prop} {τ : Nat → Nat} (h : ThoseR 1 W P m τ) (hp : P 0) : m = 1 := by
  obtain ⟨q, hq, _⟩ := h.mem 0 (by omega) hp
  have := those_le h
  omega
theorem those_no {m : Nat} {W : Nat → WtM} {P : Nat → Prop} {τ : Nat → Nat} (h : ThoseR 1 W P m τ) (hp : ¬ P 0) : m = 0 := by
  rcases Nat.eq_zero_or_pos m with h0 | h0
  · exact h0
  · have h1 := h.yes 0 h0
    have h2 := h.lt 0 h0
    rw [show τ 0 = 0 by omega] at h1
    exact absurd h1 hp
theorem done_one {W W' : Nat → WtM} {node : Int} {b : Bool} {n' : Nat} (h : DoneR 1 W node b n' W') (e : (W 0).node = node) : b = true ∧ n' = 0 := by
  cases h with
  | no hn => exact absurd e (hn 0 (by omega))
  | yes => exact ⟨rfl, rfl⟩
theorem done_none {W W' : Nat → WtM} {node : Int} {b : Bool} {n' : Nat} (h : DoneR 0 W node b n' W') : b = false ∧ n' = 0 := by
  cases h with
  | no hn => exact ⟨rfl, rfl⟩
  | yes j hj => omega
end Rt
theorem d_put_nil (node x now : Int) (w : World) :
    Calls Try.prog 9 #[.pointer none, .int .u64 (node), .int .i64 (x), .int .u64 (now)] w fun e w' => e = .returned (.int .i64 2) ∧ w' = w := by
 refine Fx.enter Try.func9 rfl (n := 62) rfl (by rfl) ?_
 refine Fx.W.seq (Fx.W.list (Fx.L.v (.int .i64 (0)) (Fx.x_assign rfl rfl) ?_))
 refine Fx.L.nil (Fx.seqN (Fx.W.seq (Fx.W.seq (Fx.W.list (Fx.L.v (.pointer none) (Fx.x_move rfl rfl) ?_)))))
 refine Fx.L.v (.bool true) (Fx.x_eqNil' rfl rfl rfl (by kernel_rfl)) ?_
 refine Fx.L.nil (Fx.seqN (Fx.W.cond (b := true) rfl (fun _ => Fx.W.seq (Fx.W.list (Fx.L.v (.int .i64 (2)) (Fx.x_assign rfl rfl) ?_))) (fun h => nomatch h)))
 refine Fx.L.nil (Fx.seqN (Fx.W.ret (Fx.seqR (⟨.int .i64 (2), Fx.retV1 Try.results9 (by exact rfl), ?_⟩))))
 exact ⟨rfl, rfl⟩
theorem d_those_due_nil (nb : Nat) (w : World) :
    Calls Try.prog 18 #[.pointer none, .func (.func 19) #[] #[.pointer (some ⟨nb, 0, none⟩)]] w fun e w' => e = .returned (.slice none 0 0) ∧ w' = w := by
 refine Fx.enter Try.func18 rfl (n := 28) rfl (by rfl) ?_
 refine Fx.W.seq (Fx.W.list (Fx.L.v (.slice none 0 0) (Fx.x_assign rfl rfl) ?_))
 refine Fx.L.nil (Fx.seqN (Fx.W.seq (Fx.W.seq (Fx.W.list (Fx.L.v (.pointer none) (Fx.x_move rfl rfl) ?_)))))
 refine Fx.L.v (.bool true) (Fx.x_eqNil' rfl rfl rfl (by kernel_rfl)) ?_
 refine Fx.L.nil (Fx.seqN (Fx.W.cond (b := true) rfl (fun _ => Fx.W.seq (Fx.W.list (Fx.L.v (.slice none 0 0) (Fx.x_assign rfl rfl) ?_))) (fun h => nomatch h)))
 refine Fx.L.nil (Fx.seqN (Fx.W.ret (Fx.seqR (⟨.slice none 0 0, Fx.retV1 Try.results18 (by exact rfl), ?_⟩))))
 exact ⟨rfl, rfl⟩
theorem d_those_list_nil (w : World) :
    Calls Try.prog 18 #[.pointer none, .func (.func 20) #[] #[]] w fun e w' => e = .returned (.slice none 0 0) ∧ w' = w := by
 refine Fx.enter Try.func18 rfl (n := 28) rfl (by rfl) ?_
 refine Fx.W.seq (Fx.W.list (Fx.L.v (.slice none 0 0) (Fx.x_assign rfl rfl) ?_))
 refine Fx.L.nil (Fx.seqN (Fx.W.seq (Fx.W.seq (Fx.W.list (Fx.L.v (.pointer none) (Fx.x_move rfl rfl) ?_)))))
 refine Fx.L.v (.bool true) (Fx.x_eqNil' rfl rfl rfl (by kernel_rfl)) ?_
 refine Fx.L.nil (Fx.seqN (Fx.W.cond (b := true) rfl (fun _ => Fx.W.seq (Fx.W.list (Fx.L.v (.slice none 0 0) (Fx.x_assign rfl rfl) ?_))) (fun h => nomatch h)))
 refine Fx.L.nil (Fx.seqN (Fx.W.ret (Fx.seqR (⟨.slice none 0 0, Fx.retV1 Try.results18 (by exact rfl), ?_⟩))))
 exact ⟨rfl, rfl⟩
theorem d_due_nil (now : Int) (w : World) :
    Calls Try.prog 10 #[.pointer none, .int .u64 (now)] w fun e w' => e = .returned (.slice none 0 0) ∧ Below w.heap.size w w' := by
 refine Fx.enter Try.func10 rfl (n := 42) rfl (by rfl) ?_
 refine Fx.W.seq (Fx.W.list (Fx.L.box (m := 1) (y := fun _ => .int .u64 (now)) (by rfl) rfl rfl (Fx.cells_one (by rfl)) rfl fun g1 w1 eg1 m1 s1 z1 => ?_))
 have b1 := s1.below (Below.refl w.heap.size w) (Below.refl w.heap.size w).size (Below.refl w.heap.size w).size
 have lg1 : w.heap.size ≤ g1 := by rw [eg1]; exact (Below.refl w.heap.size w).size
 have tg1 : g1 < w1.heap.size := m1.lt
 clear eg1
 refine Fx.L.v (.slice none 0 0) (Fx.x_assign rfl rfl) ?_
 refine Fx.L.nil (Fx.seqN (Fx.W.seq (Fx.W.seq (Fx.W.list (Fx.L.v (.pointer none) (Fx.x_move rfl rfl) ?_)))))
 refine Fx.L.v (.func (.func 19) #[] #[.pointer (some ⟨g1, 0, none⟩)]) (Fx.x_func (us := []) (vs := [.pointer (some ⟨g1, 0, none⟩)]) rfl rfl rfl) ?_
 refine Fx.L.call (by rfl) (Fx.r_call (args := [.pointer none, .func (.func 19) #[] #[.pointer (some ⟨g1, 0, none⟩)]]) rfl rfl Try.func18 rfl rfl) rfl ((d_those_due_nil g1 _).mono ?_)
 rintro e v1 ⟨he, hv1⟩
 subst v1
 refine ⟨.slice none 0 0, by rw [he], ?_⟩
 clear he
 refine Fx.L.v (.int .i64 (0)) (Fx.x_len rfl rfl rfl (by kernel_rfl)) ?_
 refine Fx.L.v (.int .i64 (0)) (Fx.x_move rfl rfl) ?_
 refine Fx.L.nil (Fx.seqN (Fx.W.block (Fx.W.loop (fun f w_ => f 0 = .pointer none ∧ f 4 = .slice none 0 0 ∧ f 10 = .int .i64 (0) ∧ f 11 = .int .i64 (0) ∧ Below w.heap.size w w_) (fun f _ => 0) ⟨(by rfl), (by rfl), (by first | rfl | exact congrArg (Value.int .i64) (by omega)), (by first | rfl | exact congrArg (Value.int .i64) (by omega)), b1⟩ ?_)))
 rintro f1 w2 ⟨h1, h2, h3, h4, b2⟩
 refine Fx.W.seq (Fx.W.list (Fx.L.v (.bool false) (Fx.x_lssF rfl h4 h3 (by omega)) ?_))
 refine Fx.L.nil (Fx.seqN (Fx.W.seq (Fx.W.cond (b := false) rfl (fun h => nomatch h) (fun _ => Fx.W.exit (Fx.seqX (Fx.lpX (Fx.blkX (Fx.seqN (Fx.W.seq (Fx.W.list (Fx.L.v (.slice none 0 0) (Fx.x_move rfl h2) ?_)))))))))))
 refine Fx.L.v (.slice none 0 0) (Fx.x_assign rfl rfl) ?_
 refine Fx.L.nil (Fx.seqN (Fx.W.ret (⟨.slice none 0 0, Fx.retV1 Try.results10 (by exact rfl), ?_⟩)))
 exact ⟨rfl, b2⟩
theorem d_list_nil (w : World) :
    Calls Try.prog 16 #[.pointer none] w fun e w' => e = .returned (.slice none 0 0) ∧ Below w.heap.size w w' := by
 refine Fx.enter Try.func16 rfl (n := 21) rfl (by rfl) ?_
 refine Fx.W.seq (Fx.W.list (Fx.L.v (.slice none 0 0) (Fx.x_assign rfl rfl) ?_))
 refine Fx.L.nil (Fx.seqN (Fx.W.seq (Fx.W.seq (Fx.W.list (Fx.L.v (.pointer none) (Fx.x_move rfl rfl) ?_)))))
 refine Fx.L.call (by rfl) (Fx.r_call (args := [.pointer none, .func (.func 20) #[] #[]]) rfl rfl Try.func18 rfl rfl) rfl ((d_those_list_nil _).mono ?_)
 rintro e v1 ⟨he, hv1⟩
 subst v1
 refine ⟨.slice none 0 0, by rw [he], ?_⟩
 clear he
 refine Fx.L.v (.int .i64 (0)) (Fx.x_len rfl rfl rfl (by kernel_rfl)) ?_
 refine Fx.L.v (.int .i64 (0)) (Fx.x_move rfl rfl) ?_
 refine Fx.L.nil (Fx.seqN (Fx.W.block (Fx.W.loop (fun f w_ => f 0 = .pointer none ∧ f 2 = .slice none 0 0 ∧ f 7 = .int .i64 (0) ∧ f 8 = .int .i64 (0) ∧ Below w.heap.size w w_) (fun f _ => 0) ⟨(by rfl), (by rfl), (by first | rfl | exact congrArg (Value.int .i64) (by omega)), (by first | rfl | exact congrArg (Value.int .i64) (by omega)), (Below.refl w.heap.size w)⟩ ?_)))
 rintro f1 w1 ⟨h1, h2, h3, h4, b1⟩
 refine Fx.W.seq (Fx.W.list (Fx.L.v (.bool false) (Fx.x_lssF rfl h4 h3 (by omega)) ?_))
 refine Fx.L.nil (Fx.seqN (Fx.W.seq (Fx.W.cond (b := false) rfl (fun h => nomatch h) (fun _ => Fx.W.exit (Fx.seqX (Fx.lpX (Fx.blkX (Fx.seqN (Fx.W.seq (Fx.W.list (Fx.L.v (.slice none 0 0) (Fx.x_move rfl h2) ?_)))))))))))
 refine Fx.L.v (.slice none 0 0) (Fx.x_assign rfl rfl) ?_
 refine Fx.L.nil (Fx.seqN (Fx.W.ret (⟨.slice none 0 0, Fx.retV1 Try.results16 (by exact rfl), ?_⟩)))
 exact ⟨rfl, b1⟩
theorem d_done_nil (node : Int) (w : World) :
    Calls Try.prog 14 #[.pointer none, .int .u64 (node)] w fun e w' => e = .returned (.bool false) ∧ w' = w := by
 refine Fx.enter Try.func14 rfl (n := 21) rfl (by rfl) ?_
 refine Fx.W.seq (Fx.W.list (Fx.L.v (.bool false) (Fx.x_assign rfl rfl) ?_))
 refine Fx.L.nil (Fx.seqN (Fx.W.seq (Fx.W.seq (Fx.W.list (Fx.L.v (.pointer none) (Fx.x_move rfl rfl) ?_)))))
 refine Fx.L.v (.bool true) (Fx.x_eqNil' rfl rfl rfl (by kernel_rfl)) ?_
 refine Fx.L.v (.bool true) (Fx.x_move rfl rfl) ?_
 refine Fx.L.skip (by rfl) rfl ?_
 refine Fx.L.skip (by rfl) rfl ?_
 refine Fx.L.skip (by rfl) rfl ?_
 refine Fx.L.skip (by rfl) rfl ?_
 refine Fx.L.skip (by rfl) rfl ?_
 refine Fx.L.skip (by rfl) rfl ?_
 refine Fx.L.skip (by rfl) rfl ?_
 refine Fx.L.v (.bool true) (Fx.x_pickT rfl rfl rfl) ?_
 refine Fx.L.nil (Fx.seqN (Fx.W.cond (b := true) rfl (fun _ => Fx.W.seq (Fx.W.list (Fx.L.v (.bool false) (Fx.x_assign rfl rfl) ?_))) (fun h => nomatch h)))
 refine Fx.L.nil (Fx.seqN (Fx.W.ret (Fx.seqR (⟨.bool false, Fx.retV1 Try.results14 (by exact rfl), ?_⟩))))
 exact ⟨rfl, rfl⟩
theorem works18_any (w : World) :
    Calls Try.prog 7 #[] w fun e w' => e = .returned (.bool true) ∧ Below w.heap.size w w' := by
 refine Fx.enter Try.func7 rfl (n := 64) rfl (by rfl) ?_
 refine Fx.W.seq (Fx.W.list (Fx.L.v (.bool false) (Fx.x_assign rfl rfl) ?_))
 refine Fx.L.nil (Fx.seqN (Fx.W.seq (Fx.W.list (Fx.L.call (by rfl) (Fx.r_call (args := []) rfl rfl Try.func8 rfl rfl) rfl ((d_new _ (fun _ => 0) (fun _ => ⟨0, 0, 0, 0⟩)).mono ?_)))))
 rintro e9 w1 ⟨p, mb, he, hb1, hd1⟩
 refine ⟨_, he, ?_⟩
 clear he
 have b1 := hb1
 refine Fx.L.v (.pointer (some ⟨p, 0, none⟩)) (Fx.x_assign rfl rfl) ?_
 refine Fx.L.nil (Fx.seqN (Fx.W.seq (Fx.W.list (Fx.L.v (.pointer (some ⟨p, 0, none⟩)) (Fx.x_move rfl rfl) ?_))))
 refine Fx.L.call (by rfl) (Fx.r_call (args := [.pointer (some ⟨p, 0, none⟩), .int .u64 (5), .int .i64 (3), .int .u64 (10)]) rfl rfl Try.func9 rfl rfl) rfl ((d_put 5 3 10 p mb _ _ _ _ _ hd1 b1.size).mono ?_)
 rintro e9 w2 ⟨cc1, he, hc1, nn1, pb1, W1, hr1, hd2⟩
 obtain ⟨rfl, rfl, hW1⟩ := put_first hr1 (by unfold putBad; omega)
 refine ⟨_, he, ?_⟩
 clear he
 have hbl1 := hd1.below b1.size hc1
 have b2 := b1.trans hbl1
 refine Fx.L.v (.int .i64 (0)) (Fx.x_assign rfl rfl) ?_
 refine Fx.L.nil (Fx.seqN (Fx.W.seq (Fx.W.list (Fx.L.v (.pointer (some ⟨p, 0, none⟩)) (Fx.x_move rfl rfl) ?_))))
 refine Fx.L.call (by rfl) (Fx.r_call (args := [.pointer (some ⟨p, 0, none⟩), .int .u64 (10)]) rfl rfl Try.func10 rfl rfl) rfl ((d_due 10 p mb _ _ _ _ _ hd2 (by omega) (by omega)).mono ?_)
 rintro e9 w3 ⟨a1, mm1, c1, τ1, he, ho1, ht1, hd3, hc2⟩
 obtain rfl : mm1 = 1 := those_one ht1 (by show (W1 0).at_ ≤ 10; rw [hW1]; show ((10 : Int) ≤ 10); decide)
 refine ⟨_, he, ?_⟩
 clear he ho1 ht1
 obtain ⟨W2, eW1⟩ : ∃ V : Nat → WtM, V = fun i => dueW 10 (W1 i) := ⟨_, rfl⟩
 rw [← eW1] at hd3
 have hW2 : W2 0 = ⟨5, 3, 11, 2⟩ := by rw [eW1]; show dueW 10 (W1 0) = _; rw [hW1]; rfl
 have hbl2 := hd2.below b2.size hc2
 have b3 := b2.trans hbl2
 refine Fx.L.v (.int .i64 (1)) (Fx.x_len rfl rfl rfl (by kernel_rfl)) ?_
 refine Fx.L.v (.pointer (some ⟨p, 0, none⟩)) (Fx.x_move rfl rfl) ?_
 refine Fx.L.call (by rfl) (Fx.r_call (args := [.pointer (some ⟨p, 0, none⟩), .int .u64 (10)]) rfl rfl Try.func10 rfl rfl) rfl ((d_due 10 p mb _ _ _ _ _ hd3 (by omega) (by omega)).mono ?_)
 rintro e9 w4 ⟨a2, mm2, c2, τ2, he, ho2, ht2, hd4, hc3⟩
 obtain rfl : mm2 = 0 := those_no ht2 (by show ¬ (W2 0).at_ ≤ 10; rw [hW2]; show ¬ ((11 : Int) ≤ 10); decide)
 refine ⟨_, he, ?_⟩
 clear he ho2 ht2
 obtain ⟨W3, eW2⟩ : ∃ V : Nat → WtM, V = fun i => dueW 10 (W2 i) := ⟨_, rfl⟩
 rw [← eW2] at hd4
 have hW3 : W3 0 = ⟨5, 3, 11, 2⟩ := by rw [eW2]; show dueW 10 (W2 0) = _; rw [hW2]; rfl
 have hbl3 := hd3.below b3.size hc3
 have b4 := b3.trans hbl3
 refine Fx.L.v (.int .i64 (0)) (Fx.x_len rfl rfl rfl (by kernel_rfl)) ?_
 refine Fx.L.v (.pointer (some ⟨p, 0, none⟩)) (Fx.x_move rfl rfl) ?_
 refine Fx.L.call (by rfl) (Fx.r_call (args := [.pointer (some ⟨p, 0, none⟩), .int .u64 (11)]) rfl rfl Try.func10 rfl rfl) rfl ((d_due 11 p mb _ _ _ _ _ hd4 (by omega) (by omega)).mono ?_)
 rintro e9 w5 ⟨a3, mm3, c3, τ3, he, ho3, ht3, hd5, hc4⟩
 obtain rfl : mm3 = 1 := those_one ht3 (by show (W3 0).at_ ≤ 11; rw [hW3]; show ((11 : Int) ≤ 11); decide)
 refine ⟨_, he, ?_⟩
 clear he ho3 ht3
 obtain ⟨W4, eW3⟩ : ∃ V : Nat → WtM, V = fun i => dueW 11 (W3 i) := ⟨_, rfl⟩
 rw [← eW3] at hd5
 have hW4 : W4 0 = ⟨5, 3, 13, 4⟩ := by rw [eW3]; show dueW 11 (W3 0) = _; rw [hW3]; rfl
 have hbl4 := hd4.below b4.size hc4
 have b5 := b4.trans hbl4
 refine Fx.L.v (.int .i64 (1)) (Fx.x_len rfl rfl rfl (by kernel_rfl)) ?_
 refine Fx.L.v (.pointer (some ⟨p, 0, none⟩)) (Fx.x_move rfl rfl) ?_
 refine Fx.L.call (by rfl) (Fx.r_call (args := [.pointer (some ⟨p, 0, none⟩), .int .u64 (12)]) rfl rfl Try.func10 rfl rfl) rfl ((d_due 12 p mb _ _ _ _ _ hd5 (by omega) (by omega)).mono ?_)
 rintro e9 w6 ⟨a4, mm4, c4, τ4, he, ho4, ht4, hd6, hc5⟩
 obtain rfl : mm4 = 0 := those_no ht4 (by show ¬ (W4 0).at_ ≤ 12; rw [hW4]; show ¬ ((13 : Int) ≤ 12); decide)
 refine ⟨_, he, ?_⟩
 clear he ho4 ht4
 obtain ⟨W5, eW4⟩ : ∃ V : Nat → WtM, V = fun i => dueW 12 (W4 i) := ⟨_, rfl⟩
 rw [← eW4] at hd6
 have hW5 : W5 0 = ⟨5, 3, 13, 4⟩ := by rw [eW4]; show dueW 12 (W4 0) = _; rw [hW4]; rfl
 have hbl5 := hd5.below b5.size hc5
 have b6 := b5.trans hbl5
 refine Fx.L.v (.int .i64 (0)) (Fx.x_len rfl rfl rfl (by kernel_rfl)) ?_
 refine Fx.L.v (.pointer (some ⟨p, 0, none⟩)) (Fx.x_move rfl rfl) ?_
 refine Fx.L.call (by rfl) (Fx.r_call (args := [.pointer (some ⟨p, 0, none⟩), .int .u64 (13)]) rfl rfl Try.func10 rfl rfl) rfl ((d_due 13 p mb _ _ _ _ _ hd6 (by omega) (by omega)).mono ?_)
 rintro e9 w7 ⟨a5, mm5, c5, τ5, he, ho5, ht5, hd7, hc6⟩
 obtain rfl : mm5 = 1 := those_one ht5 (by show (W5 0).at_ ≤ 13; rw [hW5]; show ((13 : Int) ≤ 13); decide)
 refine ⟨_, he, ?_⟩
 clear he ho5 ht5
 obtain ⟨W6, eW5⟩ : ∃ V : Nat → WtM, V = fun i => dueW 13 (W5 i) := ⟨_, rfl⟩
 rw [← eW5] at hd7
 have hW6 : W6 0 = ⟨5, 3, 17, 8⟩ := by rw [eW5]; show dueW 13 (W5 0) = _; rw [hW5]; rfl
 have hbl6 := hd6.below b6.size hc6
 have b7 := b6.trans hbl6
 refine Fx.L.v (.int .i64 (1)) (Fx.x_len rfl rfl rfl (by kernel_rfl)) ?_
 refine Fx.L.bslice (vs := [(0, .int .i64 (1)), (1, .int .i64 (0)), (2, .int .i64 (1)), (3, .int .i64 (0)), (4, .int .i64 (1))]) (s := 1) (zc := Fx.rv .i64 (fun _ => 0)) (y := Fx.ovr (Fx.ovr (Fx.ovr (Fx.ovr (Fx.ovr (fun j => (Fx.rv .i64 (fun _ => 0)) (j % 1)) (0 * 1) 1 (fun _ => .int .i64 (1))) (1 * 1) 1 (fun _ => .int .i64 (0))) (2 * 1) 1 (fun _ => .int .i64 (1))) (3 * 1) 1 (fun _ => .int .i64 (0))) (4 * 1) 1 (fun _ => .int .i64 (1))) (by rfl) rfl rfl Try.underlying51 (by kernel_rfl) (by rfl) (by rfl) (by kernel_rfl) (by rw [Fx.fill_step (off := 0 * 1) (s := 1) (y := fun _ => .int .i64 (1)) rfl (Fx.cells_one (by rfl)) (by rfl)]; rw [Fx.fill_step (off := 1 * 1) (s := 1) (y := fun _ => .int .i64 (0)) rfl (Fx.cells_one (by rfl)) (by rfl)]; rw [Fx.fill_step (off := 2 * 1) (s := 1) (y := fun _ => .int .i64 (1)) rfl (Fx.cells_one (by rfl)) (by rfl)]; rw [Fx.fill_step (off := 3 * 1) (s := 1) (y := fun _ => .int .i64 (0)) rfl (Fx.cells_one (by rfl)) (by rfl)]; rw [Fx.fill_step (off := 4 * 1) (s := 1) (y := fun _ => .int .i64 (1)) rfl (Fx.cells_one (by rfl)) (by rfl)]; rfl) rfl fun g1 w8 eg1 m1 s1 z1 => ?_
 have m2 := hd7.up s1.old
 have b8 := s1.below b7 b7.size b7.size
 have lg1 : w.heap.size ≤ g1 := by rw [eg1]; exact b7.size
 have tg1 : g1 < w8.heap.size := m1.lt
 clear eg1
 refine Fx.L.v (.slice (some ⟨g1, 0, none⟩) (5) (5)) (Fx.x_assign rfl rfl) ?_
 refine Fx.L.nil (Fx.seqN (Fx.W.seq (Fx.W.list (Fx.L.v (.int .i64 (0)) (Fx.x_move rfl rfl) ?_))))
 refine Fx.L.v (.bool true) (Fx.x_eqlT rfl rfl rfl (by omega)) ?_
 refine Fx.L.v (.bool true) (Fx.x_move rfl rfl) ?_
 refine Fx.L.v (.slice (some ⟨g1, 0, none⟩) (5) (5)) (Fx.x_move rfl rfl) ?_
 refine Fx.L.v (.pointer (some ⟨g1, 0, none⟩)) (Fx.x_indexS rfl rfl rfl Try.underlying51 (s := 1) (by kernel_rfl) (by omega) (by omega) (by omega)) ?_
 refine Fx.L.v (.int .i64 (1)) (Fx.x_load1 (x := Fx.ovr (Fx.ovr (Fx.ovr (Fx.ovr (Fx.ovr (fun j => (Fx.rv .i64 (fun _ => 0)) (j % 1)) (0 * 1) 1 (fun _ => .int .i64 (1))) (1 * 1) 1 (fun _ => .int .i64 (0))) (2 * 1) 1 (fun _ => .int .i64 (1))) (3 * 1) 1 (fun _ => .int .i64 (0))) (4 * 1) 1 (fun _ => .int .i64 (1))) rfl rfl (by kernel_rfl) m1.cel (i := 0) (by omega) (by omega) (Fx.ovr_out (by omega) (Fx.ovr_out (by omega) (Fx.ovr_out (by omega) (Fx.ovr_out (by omega) (Fx.ovr_in (j := 0) (by omega) (by omega) rfl)))))) ?_
 refine Fx.L.v (.bool true) (Fx.x_eqlT rfl rfl rfl (by omega)) ?_
 refine Fx.L.v (.bool true) (Fx.x_pickT rfl rfl rfl) ?_
 refine Fx.L.v (.bool true) (Fx.x_move rfl rfl) ?_
 refine Fx.L.v (.slice (some ⟨g1, 0, none⟩) (5) (5)) (Fx.x_move rfl rfl) ?_
 refine Fx.L.v (.pointer (some ⟨g1, 1, none⟩)) (Fx.x_indexS rfl rfl rfl Try.underlying51 (s := 1) (by kernel_rfl) (by omega) (by omega) (by omega)) ?_
 refine Fx.L.v (.int .i64 (0)) (Fx.x_load1 (x := Fx.ovr (Fx.ovr (Fx.ovr (Fx.ovr (Fx.ovr (fun j => (Fx.rv .i64 (fun _ => 0)) (j % 1)) (0 * 1) 1 (fun _ => .int .i64 (1))) (1 * 1) 1 (fun _ => .int .i64 (0))) (2 * 1) 1 (fun _ => .int .i64 (1))) (3 * 1) 1 (fun _ => .int .i64 (0))) (4 * 1) 1 (fun _ => .int .i64 (1))) rfl rfl (by kernel_rfl) m1.cel (i := 1) (by omega) (by omega) (Fx.ovr_out (by omega) (Fx.ovr_out (by omega) (Fx.ovr_out (by omega) (Fx.ovr_in (j := 0) (by omega) (by omega) rfl))))) ?_
 refine Fx.L.v (.bool true) (Fx.x_eqlT rfl rfl rfl (by omega)) ?_
 refine Fx.L.v (.bool true) (Fx.x_pickT rfl rfl rfl) ?_
 refine Fx.L.v (.bool true) (Fx.x_move rfl rfl) ?_
 refine Fx.L.v (.slice (some ⟨g1, 0, none⟩) (5) (5)) (Fx.x_move rfl rfl) ?_
 refine Fx.L.v (.pointer (some ⟨g1, 2, none⟩)) (Fx.x_indexS rfl rfl rfl Try.underlying51 (s := 1) (by kernel_rfl) (by omega) (by omega) (by omega)) ?_
 refine Fx.L.v (.int .i64 (1)) (Fx.x_load1 (x := Fx.ovr (Fx.ovr (Fx.ovr (Fx.ovr (Fx.ovr (fun j => (Fx.rv .i64 (fun _ => 0)) (j % 1)) (0 * 1) 1 (fun _ => .int .i64 (1))) (1 * 1) 1 (fun _ => .int .i64 (0))) (2 * 1) 1 (fun _ => .int .i64 (1))) (3 * 1) 1 (fun _ => .int .i64 (0))) (4 * 1) 1 (fun _ => .int .i64 (1))) rfl rfl (by kernel_rfl) m1.cel (i := 2) (by omega) (by omega) (Fx.ovr_out (by omega) (Fx.ovr_out (by omega) (Fx.ovr_in (j := 0) (by omega) (by omega) rfl)))) ?_
 refine Fx.L.v (.bool true) (Fx.x_eqlT rfl rfl rfl (by omega)) ?_
 refine Fx.L.v (.bool true) (Fx.x_pickT rfl rfl rfl) ?_
 refine Fx.L.v (.bool true) (Fx.x_move rfl rfl) ?_
 refine Fx.L.v (.slice (some ⟨g1, 0, none⟩) (5) (5)) (Fx.x_move rfl rfl) ?_
 refine Fx.L.v (.pointer (some ⟨g1, 3, none⟩)) (Fx.x_indexS rfl rfl rfl Try.underlying51 (s := 1) (by kernel_rfl) (by omega) (by omega) (by omega)) ?_
 refine Fx.L.v (.int .i64 (0)) (Fx.x_load1 (x := Fx.ovr (Fx.ovr (Fx.ovr (Fx.ovr (Fx.ovr (fun j => (Fx.rv .i64 (fun _ => 0)) (j % 1)) (0 * 1) 1 (fun _ => .int .i64 (1))) (1 * 1) 1 (fun _ => .int .i64 (0))) (2 * 1) 1 (fun _ => .int .i64 (1))) (3 * 1) 1 (fun _ => .int .i64 (0))) (4 * 1) 1 (fun _ => .int .i64 (1))) rfl rfl (by kernel_rfl) m1.cel (i := 3) (by omega) (by omega) (Fx.ovr_out (by omega) (Fx.ovr_in (j := 0) (by omega) (by omega) rfl))) ?_
 refine Fx.L.v (.bool true) (Fx.x_eqlT rfl rfl rfl (by omega)) ?_
 refine Fx.L.v (.bool true) (Fx.x_pickT rfl rfl rfl) ?_
 refine Fx.L.v (.bool true) (Fx.x_move rfl rfl) ?_
 refine Fx.L.v (.slice (some ⟨g1, 0, none⟩) (5) (5)) (Fx.x_move rfl rfl) ?_
 refine Fx.L.v (.pointer (some ⟨g1, 4, none⟩)) (Fx.x_indexS rfl rfl rfl Try.underlying51 (s := 1) (by kernel_rfl) (by omega) (by omega) (by omega)) ?_
 refine Fx.L.v (.int .i64 (1)) (Fx.x_load1 (x := Fx.ovr (Fx.ovr (Fx.ovr (Fx.ovr (Fx.ovr (fun j => (Fx.rv .i64 (fun _ => 0)) (j % 1)) (0 * 1) 1 (fun _ => .int .i64 (1))) (1 * 1) 1 (fun _ => .int .i64 (0))) (2 * 1) 1 (fun _ => .int .i64 (1))) (3 * 1) 1 (fun _ => .int .i64 (0))) (4 * 1) 1 (fun _ => .int .i64 (1))) rfl rfl (by kernel_rfl) m1.cel (i := 4) (by omega) (by omega) (Fx.ovr_in (j := 0) (by omega) (by omega) rfl)) ?_
 refine Fx.L.v (.bool true) (Fx.x_eqlT rfl rfl rfl (by omega)) ?_
 refine Fx.L.v (.bool true) (Fx.x_pickT rfl rfl rfl) ?_
 refine Fx.L.v (.bool true) (Fx.x_move rfl rfl) ?_
 refine Fx.L.v (.pointer (some ⟨p, 0, none⟩)) (Fx.x_move rfl rfl) ?_
 refine Fx.L.call (by rfl) (Fx.r_call (args := [.pointer (some ⟨p, 0, none⟩), .int .u64 (5)]) rfl rfl Try.func14 rfl rfl) rfl ((d_done 5 p mb _ _ _ _ _ m2).mono ?_)
 rintro e9 w9 ⟨bb1, nn2, pb2, W7, he, hr2, hd8, hc7⟩
 obtain ⟨rfl, rfl⟩ := done_one hr2 (by rw [hW6])
 refine ⟨_, he, ?_⟩
 clear he
 have hbl7 := m2.below b8.size hc7
 have hx7 := m2.chx hc7
 have m3 := m1.chX hx7 rfl
 have b9 := b8.trans hbl7
 refine Fx.L.v (.bool true) (Fx.x_pickT rfl rfl rfl) ?_
 refine Fx.L.v (.bool true) (Fx.x_move rfl rfl) ?_
 refine Fx.L.v (.pointer (some ⟨p, 0, none⟩)) (Fx.x_move rfl rfl) ?_
 refine Fx.L.call (by rfl) (Fx.r_call (args := [.pointer (some ⟨p, 0, none⟩), .int .u64 (5)]) rfl rfl Try.func14 rfl rfl) rfl ((d_done 5 p mb _ _ _ _ _ hd8).mono ?_)
 rintro e9 w10 ⟨bb2, nn3, pb3, W8, he, hr3, hd9, hc8⟩
 obtain ⟨rfl, rfl⟩ := done_none hr3
 refine ⟨_, he, ?_⟩
 clear he
 have hbl8 := hd8.below b9.size hc8
 have hx8 := hd8.chx hc8
 have m4 := m3.chX hx8 rfl
 have b10 := b9.trans hbl8
 refine Fx.L.v (.bool true) (Fx.x_notT rfl rfl) ?_
 refine Fx.L.v (.bool true) (Fx.x_pickT rfl rfl rfl) ?_
 refine Fx.L.v (.bool true) (Fx.x_assign rfl rfl) ?_
 refine Fx.L.nil (Fx.seqN (Fx.W.ret (⟨.bool true, Fx.retV1 Try.results7 (by exact rfl), ?_⟩)))
 exact ⟨rfl, b10⟩
theorem dnil_any (node x now : Int) (w : World) :
    Calls Try.prog 5 #[.int .u64 (node), .int .i64 (x), .int .u64 (now)] w fun e w' => e = .returned (.bool true) ∧ Below w.heap.size w w' := by
 refine Fx.enter Try.func5 rfl (n := 36) rfl (by rfl) ?_
 refine Fx.W.seq (Fx.W.list (Fx.L.v (.bool false) (Fx.x_assign rfl rfl) ?_))
 refine Fx.L.nil (Fx.seqN (Fx.W.seq (Fx.W.list (Fx.L.v (.pointer none) (Fx.x_assign rfl rfl) ?_))))
 refine Fx.L.nil (Fx.seqN (Fx.W.seq (Fx.W.list (Fx.L.v (.pointer none) (Fx.x_move rfl rfl) ?_))))
 refine Fx.L.v (.int .u64 (node)) (Fx.x_move rfl rfl) ?_
 refine Fx.L.v (.int .i64 (x)) (Fx.x_move rfl rfl) ?_
 refine Fx.L.v (.int .u64 (now)) (Fx.x_move rfl rfl) ?_
 refine Fx.L.call (by rfl) (Fx.r_call (args := [.pointer none, .int .u64 (node), .int .i64 (x), .int .u64 (now)]) rfl rfl Try.func9 rfl rfl) rfl ((d_put_nil _ _ _ _).mono ?_)
 rintro e v1 ⟨he, hv1⟩
 subst v1
 refine ⟨.int .i64 (2), by rw [he], ?_⟩
 clear he
 refine Fx.L.v (.bool true) (Fx.x_eqlT rfl rfl rfl (by omega)) ?_
 refine Fx.L.v (.bool true) (Fx.x_move rfl rfl) ?_
 refine Fx.L.v (.pointer none) (Fx.x_move rfl rfl) ?_
 refine Fx.L.v (.int .u64 (now)) (Fx.x_move rfl rfl) ?_
 refine Fx.L.call (by rfl) (Fx.r_call (args := [.pointer none, .int .u64 (now)]) rfl rfl Try.func10 rfl rfl) rfl ((d_due_nil _ _).mono ?_)
 rintro e w1 ⟨he, hb1⟩
 refine ⟨.slice none 0 0, by rw [he], ?_⟩
 clear he
 have s1 := Fx.Stp.of_below hb1
 have b1 := s1.below (Below.refl w.heap.size w) (Below.refl w.heap.size w).size (Below.refl w.heap.size w).size
 refine Fx.L.v (.int .i64 (0)) (Fx.x_len rfl rfl rfl (by kernel_rfl)) ?_
 refine Fx.L.v (.bool true) (Fx.x_eqlT rfl rfl rfl (by omega)) ?_
 refine Fx.L.v (.bool true) (Fx.x_pickT rfl rfl rfl) ?_
 refine Fx.L.v (.bool true) (Fx.x_move rfl rfl) ?_
 refine Fx.L.v (.pointer none) (Fx.x_move rfl rfl) ?_
 refine Fx.L.v (.int .u64 (node)) (Fx.x_move rfl rfl) ?_
 refine Fx.L.call (by rfl) (Fx.r_call (args := [.pointer none, .int .u64 (node)]) rfl rfl Try.func14 rfl rfl) rfl ((d_done_nil _ _).mono ?_)
 rintro e v1 ⟨he, hv1⟩
 subst v1
 refine ⟨.bool false, by rw [he], ?_⟩
 clear he
 refine Fx.L.v (.bool true) (Fx.x_notT rfl rfl) ?_
 refine Fx.L.v (.bool true) (Fx.x_pickT rfl rfl rfl) ?_
 refine Fx.L.v (.bool true) (Fx.x_move rfl rfl) ?_
 refine Fx.L.v (.pointer none) (Fx.x_move rfl rfl) ?_
 refine Fx.L.call (by rfl) (Fx.r_call (args := [.pointer none]) rfl rfl Try.func16 rfl rfl) rfl ((d_list_nil _).mono ?_)
 rintro e w2 ⟨he, hb2⟩
 refine ⟨.slice none 0 0, by rw [he], ?_⟩
 clear he
 have s2 := Fx.Stp.of_below hb2
 have b2 := s2.below b1 b1.size b1.size
 refine Fx.L.v (.int .i64 (0)) (Fx.x_len rfl rfl rfl (by kernel_rfl)) ?_
 refine Fx.L.v (.bool true) (Fx.x_eqlT rfl rfl rfl (by omega)) ?_
 refine Fx.L.v (.bool true) (Fx.x_pickT rfl rfl rfl) ?_
 refine Fx.L.v (.bool true) (Fx.x_move rfl rfl) ?_
 refine Fx.L.call (by rfl) (Fx.r_call (args := []) rfl rfl Try.func7 rfl rfl) rfl ((works18_any _).mono ?_)
 rintro e w3 ⟨he, hb3⟩
 refine ⟨.bool true, by rw [he], ?_⟩
 clear he
 have s3 := Fx.Stp.of_below hb3
 have b3 := s3.below b2 b2.size b2.size
 refine Fx.L.v (.bool true) (Fx.x_pickT rfl rfl rfl) ?_
 refine Fx.L.v (.bool true) (Fx.x_assign rfl rfl) ?_
 refine Fx.L.nil (Fx.seqN (Fx.W.ret (⟨.bool true, Fx.retV1 Try.results5 (by exact rfl), ?_⟩)))
 exact ⟨rfl, b3⟩
end Go.Proofs.Ytjnkejgjgknllaa
