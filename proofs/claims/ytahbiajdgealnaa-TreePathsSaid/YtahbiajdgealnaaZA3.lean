/-
  What the proof of the law rests on, part 3: walks of functions, and plain laws; each says its conditions itself.
-/
import Derived.Deep.Slices
import Derived.Lib.SmallJoins
import Derived.Test.YtahbiajdgealnaaZA2
namespace Go.Proofs.Ytahbiajdgealnaa
open Go.RowKit
open Rt
set_option maxRecDepth 10000
theorem s_insI {aI bI : Int} (a b : Nat) (ea : aI = (a : Int)) (eb : bI = (b : Int)) (B g n cap : Nat) (d : Array Int) (w : World) (h : Fx.Own w B 28 1 (.slice (some ⟨g, 0, none⟩) n cap) n (Fx.rv .u64 (gA d))) (hB : B ≤ w.heap.size) (hn : d.size = n) (hs : n ≤ 1000) (ha : a ≤ b) (hb : b ≤ n) :
    Calls Try.prog 24 #[.slice (some ⟨g, 0, none⟩) (n) (cap), .int .i64 (aI), .int .i64 (bI)] w fun e w' => e = .returned (.tuple #[]) ∧ Fx.Own w' B 28 1 (.slice (some ⟨g, 0, none⟩) n cap) n (Fx.rv .u64 (gA (Sort.insertionSort Sort.ltInt d a b))) ∧ Below B w w' := by
  subst ea eb; exact s_ins a b B g n cap d w h hB hn hs ha hb
theorem s_heapI {aI bI : Int} (a b : Nat) (ea : aI = (a : Int)) (eb : bI = (b : Int)) (B g n cap : Nat) (d : Array Int) (w : World) (h : Fx.Own w B 28 1 (.slice (some ⟨g, 0, none⟩) n cap) n (Fx.rv .u64 (gA d))) (hB : B ≤ w.heap.size) (hn : d.size = n) (hs : n ≤ 1000) (ha : a < b) (hb : b ≤ n) :
    Calls Try.prog 25 #[.slice (some ⟨g, 0, none⟩) (n) (cap), .int .i64 (aI), .int .i64 (bI)] w fun e w' => e = .returned (.tuple #[]) ∧ Fx.Own w' B 28 1 (.slice (some ⟨g, 0, none⟩) n cap) n (Fx.rv .u64 (gA (Sort.heapSort Sort.ltInt d a b))) ∧ Below B w w' := by
  subst ea eb; exact s_heap a b B g n cap d w h hB hn hs ha hb
theorem s_revI {aI bI : Int} (a b : Nat) (ea : aI = (a : Int)) (eb : bI = (b : Int)) (B g n cap : Nat) (d : Array Int) (w : World) (h : Fx.Own w B 28 1 (.slice (some ⟨g, 0, none⟩) n cap) n (Fx.rv .u64 (gA d))) (hB : B ≤ w.heap.size) (hn : d.size = n) (hs : n ≤ 1000) (ha : a < b) (hb : b ≤ n) :
    Calls Try.prog 28 #[.slice (some ⟨g, 0, none⟩) (n) (cap), .int .i64 (aI), .int .i64 (bI)] w fun e w' => e = .returned (.tuple #[]) ∧ Fx.Own w' B 28 1 (.slice (some ⟨g, 0, none⟩) n cap) n (Fx.rv .u64 (gA (Sort.reverseRange d a b))) ∧ Below B w w' := by
  subst ea eb; exact s_rev a b B g n cap d w h hB hn hs ha hb
def PdqOk (m : Nat) : Prop := ∀ (aI bI lI : Int) (a b lim : Nat) (B g n cap : Nat) (d : Array Int) (w : World) (h : Fx.Own w B 28 1 (.slice (some ⟨g, 0, none⟩) n cap) n (Fx.rv .u64 (gA d))) (hB : B ≤ w.heap.size) (hn : d.size = n) (hs : n ≤ 1000) (h50 : n < 50) (hl : lim ≤ 1000) (hab : a ≤ b) (hb : b ≤ n) (hBel : Sort.Below Sort.ltInt a b d), aI = (a : Int) → bI = (b : Int) → lI = (lim : Int) → b - a < m →
    Calls Try.prog 22 #[.slice (some ⟨g, 0, none⟩) (n) (cap), .int .i64 aI, .int .i64 bI, .int .i64 lI] w fun e w' => ∃ d2 : Array Int, e = .returned (.tuple #[]) ∧ d2.size = n ∧ Sort.PermIn a b d d2 ∧ Sort.SortedIn Sort.ltInt a b d2 ∧ Fx.Own w' B 28 1 (.slice (some ⟨g, 0, none⟩) n cap) n (Fx.rv .u64 (gA d2)) ∧ Below B w w'
theorem s_pdqS (m : Nat) (ih : PdqOk m) (a b lim : Nat) (B g n cap : Nat) (d : Array Int) (w : World) (h : Fx.Own w B 28 1 (.slice (some ⟨g, 0, none⟩) n cap) n (Fx.rv .u64 (gA d))) (hB : B ≤ w.heap.size) (hn : d.size = n) (hs : n ≤ 1000) (h50 : n < 50) (hl : lim ≤ 1000) (hab : a ≤ b) (hb : b ≤ n) (hBel : Sort.Below Sort.ltInt a b d) (hm : b - a < m + 1) :
    Calls Try.prog 22 #[.slice (some ⟨g, 0, none⟩) (n) (cap), .int .i64 ((a : Int)), .int .i64 ((b : Int)), .int .i64 ((lim : Int))] w fun e w' => ∃ d2 : Array Int, e = .returned (.tuple #[]) ∧ d2.size = n ∧ Sort.PermIn a b d d2 ∧ Sort.SortedIn Sort.ltInt a b d2 ∧ Fx.Own w' B 28 1 (.slice (some ⟨g, 0, none⟩) n cap) n (Fx.rv .u64 (gA d2)) ∧ Below B w w' := by
 refine Fx.enter Try.func22 rfl (n := 134) rfl (by rfl) ?_
 refine Fx.Ws (Fx.Wl (Fx.Lv (.bool true) (Fx.x_assign rfl rfl) (Fx.Ln (Fx.sN (Fx.Ws (Fx.Wl (Fx.Lv (.bool true) (Fx.x_assign rfl rfl) (Fx.Ln (Fx.sN (Fx.W.block (Fx.W.loopE (fun kk f w_ => ∃ ax : Nat, ∃ bx : Nat, ∃ lx : Nat, ∃ dk : Array Int, ∃ wb : Bool, ∃ wp : Bool, dk.size = n ∧ Sort.Below Sort.ltInt ax bx dk ∧ (∀ R, Sort.PermIn ax bx dk R → Sort.SortedIn Sort.ltInt ax bx R → Sort.PermIn a b d R ∧ Sort.SortedIn Sort.ltInt a b R) ∧ (ax ≤ bx ∧ bx ≤ n ∧ lx ≤ 1000 ∧ bx - ax ≤ b - a) ∧ kk = bx - ax ∧ f 0 = .slice (some ⟨g, 0, none⟩) (n) (cap) ∧ f 1 = .int .i64 ((ax : Int)) ∧ f 2 = .int .i64 ((bx : Int)) ∧ f 3 = .int .i64 ((lx : Int)) ∧ f 8 = .bool wb ∧ f 9 = .bool wp ∧ Fx.Own w_ B 28 1 (.slice (some ⟨g, 0, none⟩) n cap) n (Fx.rv .u64 (gA dk)) ∧ Below B w w_) (b - a) ⟨a, b, lim, d, true, true, hn, hBel, (fun R h1 h2 => ⟨h1, h2⟩), (by omega), rfl, (by rfl), Fx.ic, Fx.ic, Fx.ic, (by rfl), (by rfl), h, (Below.refl B w)⟩ ?_)))))))))))
 rintro kk f1 w1 ⟨ax, bx, lx, dk, wb, wp, hk, hBl, hF, hab1, hkk, h1, h2, h3, h4, h5, h6, m1, b1⟩
 refine Fx.W.block (Fx.Ws (Fx.Wl (Fx.Lv (.int .i64 ((bx : Int))) (Fx.x_move rfl h3) (Fx.Lv (.int .i64 ((ax : Int))) (Fx.x_move rfl h2) (Fx.Lv (.int .i64 ((bx : Int) - (ax : Int))) (Fx.x_sub rfl rfl rfl Fx.io) (Fx.Lv (.int .i64 ((bx : Int) - (ax : Int))) (Fx.x_assign rfl rfl) (Fx.Ln (Fx.sN (Fx.Ws (Fx.Ws (Fx.Wl (Fx.Lv (.int .i64 ((bx : Int) - (ax : Int))) (Fx.x_move rfl rfl) ?_))))))))))))
 by_cases c23 : ((bx : Int) - (ax : Int)) ≤ 12
 ·refine Fx.Lv (.bool true) (Fx.x_leqT rfl rfl rfl c23) (Fx.Ln (Fx.sN (Fx.Wc (b := true) rfl (fun _ => Fx.Ws (Fx.Wl (Fx.Lv (.slice (some ⟨g, 0, none⟩) (n) (cap)) (Fx.x_move rfl h1) ?_))) (fun h => nomatch h))))
  refine Fx.Lv (.int .i64 ((ax : Int))) (Fx.x_move rfl h2) (Fx.Lv (.int .i64 ((bx : Int))) (Fx.x_move rfl h3) (Fx.L.call (by rfl) (Fx.rC (args := [.slice (some ⟨g, 0, none⟩) (n) (cap), .int .i64 ((ax : Int)), .int .i64 ((bx : Int))]) rfl rfl Try.func24 rfl rfl) rfl ((s_insI ax bx (by omega) (by omega) B g n cap dk _ m1 (Nat.le_trans hB b1.size) hk hs (by omega) (by omega)).mono ?_)))
  rintro e9 w2 ⟨he, m2, hb1⟩
  refine ⟨_, he, ?_⟩
  clear he
  have b2 := b1.trans hb1
  refine Fx.Ln (Fx.sN (Fx.Wr (Fx.sR (Fx.blkR (Fx.lpR (Fx.blkR (⟨.tuple #[], Fx.ret0 Try.results22, ?_⟩)))))))
  have hp := (Sort.insertionSort_holds Sort.swo_ltInt dk ax bx (by omega) (by omega))
  have hq := hF _ hp.1 hp.2
  exact ⟨_, rfl, hp.1.1.trans hk, hq.1, hq.2, m2, b2⟩
 refine Fx.Lv (.bool false) (Fx.x_leqF rfl rfl rfl c23) (Fx.Ln (Fx.sN (Fx.Wc (b := false) rfl (fun h => nomatch h) (fun _ => Fx.Wk (Fx.sN (Fx.Ws (Fx.Ws (Fx.Wl (Fx.Lv (.int .i64 ((lx : Int))) (Fx.x_move rfl h4) ?_)))))))))
 by_cases c29 : (lx : Int) = 0
 ·refine Fx.Lv (.bool true) (Fx.x_eqlT rfl rfl rfl c29) (Fx.Ln (Fx.sN (Fx.Wc (b := true) rfl (fun _ => Fx.Ws (Fx.Wl (Fx.Lv (.slice (some ⟨g, 0, none⟩) (n) (cap)) (Fx.x_move rfl h1) ?_))) (fun h => nomatch h))))
  refine Fx.Lv (.int .i64 ((ax : Int))) (Fx.x_move rfl h2) (Fx.Lv (.int .i64 ((bx : Int))) (Fx.x_move rfl h3) (Fx.L.call (by rfl) (Fx.rC (args := [.slice (some ⟨g, 0, none⟩) (n) (cap), .int .i64 ((ax : Int)), .int .i64 ((bx : Int))]) rfl rfl Try.func25 rfl rfl) rfl ((s_heapI ax bx (by omega) (by omega) B g n cap dk _ m1 (Nat.le_trans hB b1.size) hk hs (by omega) (by omega)).mono ?_)))
  rintro e9 w3 ⟨he, m3, hb2⟩
  refine ⟨_, he, ?_⟩
  clear he
  have b3 := b1.trans hb2
  refine Fx.Ln (Fx.sN (Fx.Wr (Fx.sR (Fx.blkR (Fx.lpR (Fx.blkR (⟨.tuple #[], Fx.ret0 Try.results22, ?_⟩)))))))
  have hp := (Sort.heapSort_holds Sort.swo_ltInt dk ax bx (by omega) (by omega))
  have hq := hF _ hp.1 hp.2
  exact ⟨_, rfl, hp.1.1.trans hk, hq.1, hq.2, m3, b3⟩
 refine Fx.Lv (.bool false) (Fx.x_eqlF rfl rfl rfl c29) (Fx.Ln (Fx.sN (Fx.Wc (b := false) rfl (fun h => nomatch h) (fun _ => Fx.Wk (Fx.sN (Fx.W.seqJ (fun f w_ => ∃ ly : Nat, ∃ dx : Array Int, dx.size = n ∧ Sort.PermIn ax bx dk dx ∧ ly ≤ 1000 ∧ f 0 = .slice (some ⟨g, 0, none⟩) (n) (cap) ∧ f 1 = .int .i64 ((ax : Int)) ∧ f 2 = .int .i64 ((bx : Int)) ∧ f 3 = .int .i64 ((ly : Int)) ∧ f 8 = .bool wb ∧ f 9 = .bool wp ∧ f 10 = .int .i64 ((bx : Int) - (ax : Int)) ∧ Fx.Own w_ B 28 1 (.slice (some ⟨g, 0, none⟩) n cap) n (Fx.rv .u64 (gA dx)) ∧ Below B w w_) ?_ ?_))))))
 ·refine Fx.Ws (Fx.Wl ?_)
  by_cases c34 : wb = true
  ·refine Fx.Lv (.bool true) (Fx.x_move rfl (h5.trans (congrArg Value.bool c34))) (Fx.Lv (.bool false) (Fx.x_notF rfl rfl) (Fx.Ln (Fx.sN (Fx.Wc (b := false) rfl (fun h => nomatch h) (fun _ => Fx.Wk ?_)))))
   exact Fx.jnN ⟨lx, dk, hk, (Sort.permIn_refl _ _ _), (by omega), h1, (h2.trans Fx.ic), (h3.trans Fx.ic), (h4.trans Fx.ic), h5, h6, Fx.ic, m1, b1⟩
  rw [Bool.not_eq_true] at c34
  refine Fx.Lv (.bool false) (Fx.x_move rfl (h5.trans (congrArg Value.bool c34))) (Fx.Lv (.bool true) (Fx.x_notT rfl rfl) (Fx.Ln (Fx.sN (Fx.Wc (b := true) rfl (fun _ => Fx.Ws (Fx.Wl (Fx.Lv (.slice (some ⟨g, 0, none⟩) (n) (cap)) (Fx.x_move rfl h1) ?_))) (fun h => nomatch h)))))
  refine Fx.Lv (.int .i64 ((ax : Int))) (Fx.x_move rfl h2) (Fx.Lv (.int .i64 ((bx : Int))) (Fx.x_move rfl h3) (Fx.L.call (by rfl) (Fx.rC (args := [.slice (some ⟨g, 0, none⟩) (n) (cap), .int .i64 ((ax : Int)), .int .i64 ((bx : Int))]) rfl rfl Try.func26 rfl rfl) rfl ((s_brk ax bx B g n cap dk _ m1 (Nat.le_trans hB b1.size) hk hs (by omega) (by omega) h50).mono ?_)))
  rintro e9 w4 ⟨dn1, he, hz1, hP1, m4, hb3⟩
  have b4 := b1.trans hb3
  refine ⟨_, he, ?_⟩
  clear he
  refine Fx.Ln (Fx.sN (Fx.Wl (Fx.Lv (.int .i64 ((lx : Int))) (Fx.x_move rfl h4) (Fx.Lv (.int .i64 ((lx : Int) - 1)) (Fx.x_sub rfl rfl rfl Fx.io) (Fx.Lv (.int .i64 ((lx : Int) - 1)) (Fx.x_assign rfl rfl) (Fx.Ln ?_))))))
  exact Fx.jnN ⟨lx - 1, dn1, hz1, hP1, (by omega), h1, (h2.trans Fx.ic), (h3.trans Fx.ic), Fx.ic, h5, h6, Fx.ic, m4, b4⟩
 rintro f2 w5 ⟨ly, dx, hk1, hP1, hl2, h7, h8, h9, h10, h11, h12, h13, m5, b5⟩
 refine Fx.Ws (Fx.Wl (Fx.Lv (.slice (some ⟨g, 0, none⟩) (n) (cap)) (Fx.x_move rfl h7) (Fx.Lv (.int .i64 ((ax : Int))) (Fx.x_move rfl h8) (Fx.Lv (.int .i64 ((bx : Int))) (Fx.x_move rfl h9) (Fx.L.call (by rfl) (Fx.rC (args := [.slice (some ⟨g, 0, none⟩) (n) (cap), .int .i64 ((ax : Int)), .int .i64 ((bx : Int))]) rfl rfl Try.func27 rfl rfl) rfl ((s_piv ax bx B g n cap dx _ m5 (Nat.le_trans hB b5.size) hk1 hs (by omega) (by omega) h50).mono ?_))))))
 rintro e9 w6 ⟨p1, ht1, he, hu1, hv1, m6, hb4⟩
 have b6 := b5.trans hb4
 refine ⟨_, he, ?_⟩
 clear he
 refine Fx.Lv (.tuple #[.int .i64 ((p1 : Int)), .int .i64 (ht1)]) (Fx.x_move rfl rfl) (Fx.Lv (.int .i64 ((p1 : Int))) (Fx.x_extract rfl rfl rfl) (Fx.Lv (.int .i64 (ht1)) (Fx.x_extract rfl rfl rfl) (Fx.Lv (.int .i64 ((p1 : Int))) (Fx.x_assign rfl rfl) (Fx.Lv (.int .i64 (ht1)) (Fx.x_assign rfl rfl) (Fx.Ln (Fx.sN (Fx.W.seqJ (fun f w_ => ∃ pv : Nat, ∃ hint : Int, ∃ dy : Array Int, dy.size = n ∧ Sort.PermIn ax bx dk dy ∧ (ax ≤ pv ∧ pv < bx) ∧ f 0 = .slice (some ⟨g, 0, none⟩) (n) (cap) ∧ f 1 = .int .i64 ((ax : Int)) ∧ f 2 = .int .i64 ((bx : Int)) ∧ f 3 = .int .i64 ((ly : Int)) ∧ f 8 = .bool wb ∧ f 9 = .bool wp ∧ f 10 = .int .i64 ((bx : Int) - (ax : Int)) ∧ f 11 = .int .i64 ((pv : Int)) ∧ f 12 = .int .i64 (hint) ∧ Fx.Own w_ B 28 1 (.slice (some ⟨g, 0, none⟩) n cap) n (Fx.rv .u64 (gA dy)) ∧ Below B w w_) ?_ ?_)))))))
 ·refine Fx.Ws (Fx.Wl (Fx.Lv (.int .i64 (ht1)) (Fx.x_move rfl rfl) ?_))
  by_cases c50 : ht1 = 2
  ·refine Fx.Lv (.bool true) (Fx.x_eqlT rfl rfl rfl c50) (Fx.Ln (Fx.sN (Fx.Wc (b := true) rfl (fun _ => Fx.Ws (Fx.Wl (Fx.Lv (.slice (some ⟨g, 0, none⟩) (n) (cap)) (Fx.x_move rfl h7) ?_))) (fun h => nomatch h))))
   refine Fx.Lv (.int .i64 ((ax : Int))) (Fx.x_move rfl h8) (Fx.Lv (.int .i64 ((bx : Int))) (Fx.x_move rfl h9) (Fx.L.call (by rfl) (Fx.rC (args := [.slice (some ⟨g, 0, none⟩) (n) (cap), .int .i64 ((ax : Int)), .int .i64 ((bx : Int))]) rfl rfl Try.func28 rfl rfl) rfl ((s_revI ax bx (by omega) (by omega) B g n cap dx _ m6 (Nat.le_trans hB b6.size) hk1 hs (by omega) (by omega)).mono ?_)))
   rintro e9 w7 ⟨he, m7, hb5⟩
   refine ⟨_, he, ?_⟩
   clear he
   have b7 := b6.trans hb5
   refine Fx.Ln (Fx.sN (Fx.Ws (Fx.Wl (Fx.Lv (.int .i64 ((bx : Int))) (Fx.x_move rfl h9) (Fx.Lv (.int .i64 ((bx : Int) - 1)) (Fx.x_sub rfl rfl rfl Fx.io) (Fx.Lv (.int .i64 ((p1 : Int))) (Fx.x_move rfl rfl) (Fx.Lv (.int .i64 ((ax : Int))) (Fx.x_move rfl h8) (Fx.Lv (.int .i64 ((p1 : Int) - (ax : Int))) (Fx.x_sub rfl rfl rfl Fx.io) (Fx.Lv (.int .i64 ((ax : Int) + (bx : Int) - (p1 : Int) - 1)) (Fx.x_sub rfl rfl rfl Fx.io) (Fx.Lv (.int .i64 ((ax : Int) + (bx : Int) - (p1 : Int) - 1)) (Fx.x_assign rfl rfl) (Fx.Ln (Fx.sN (Fx.Wl (Fx.Lv (.int .i64 (1)) (Fx.x_assign rfl rfl) (Fx.Ln ?_)))))))))))))))
   exact Fx.jnN ⟨ax + bx - p1 - 1, 1, Sort.reverseRange dx ax bx, ((Sort.reverseRange_holds _ _ _ (by omega) (by omega)).1.trans hk1), (Sort.permIn_trans _ _ _ _ _ hP1 (Sort.reverseRange_holds _ _ _ (by omega) (by omega))), (by omega), h7, (h8.trans Fx.ic), (h9.trans Fx.ic), (h10.trans Fx.ic), h11, h12, (h13.trans Fx.ic), Fx.ic, Fx.ic, m7, b7⟩
  refine Fx.Lv (.bool false) (Fx.x_eqlF rfl rfl rfl c50) (Fx.Ln (Fx.sN (Fx.Wc (b := false) rfl (fun h => nomatch h) (fun _ => Fx.Wk ?_))))
  exact Fx.jnN ⟨p1, ht1, dx, hk1, hP1, (by omega), h7, (h8.trans Fx.ic), (h9.trans Fx.ic), (h10.trans Fx.ic), h11, h12, (h13.trans Fx.ic), Fx.ic, Fx.ic, m6, b6⟩
 rintro f3 w8 ⟨pv, hint, dy, hk2, hP2, hpv, h14, h15, h16, h17, h18, h19, h20, h21, h22, m8, b8⟩
 obtain ⟨hpv1, hpv2⟩ := hpv
 have hpv := And.intro hpv1 hpv2
 refine Fx.W.seqJ (fun f w_ => f 0 = .slice (some ⟨g, 0, none⟩) (n) (cap) ∧ f 1 = .int .i64 ((ax : Int)) ∧ f 2 = .int .i64 ((bx : Int)) ∧ f 3 = .int .i64 ((ly : Int)) ∧ f 8 = .bool wb ∧ f 9 = .bool wp ∧ f 10 = .int .i64 ((bx : Int) - (ax : Int)) ∧ f 11 = .int .i64 ((pv : Int)) ∧ Fx.Own w_ B 28 1 (.slice (some ⟨g, 0, none⟩) n cap) n (Fx.rv .u64 (gA dy)) ∧ Below B w w_) ?_ ?_
 ·refine Fx.Ws (Fx.Wl ?_)
  by_cases c61 : wb = true
  ·refine Fx.Lv (.bool true) (Fx.x_move rfl (h18.trans (congrArg Value.bool c61))) (Fx.Lv (.bool true) (Fx.x_move rfl rfl) ?_)
   by_cases c63 : wp = true
   ·refine Fx.Lv (.bool true) (Fx.x_move rfl (h19.trans (congrArg Value.bool c63))) (Fx.Lv (.bool true) (Fx.x_pickT rfl rfl rfl) (Fx.Lv (.bool true) (Fx.x_move rfl rfl) (Fx.Lv (.int .i64 (hint)) (Fx.x_move rfl h22) ?_)))
    by_cases c67 : hint = 1
    ·refine Fx.Lv (.bool true) (Fx.x_eqlT rfl rfl rfl c67) (Fx.Lv (.bool true) (Fx.x_pickT rfl rfl rfl) (Fx.Ln (Fx.sN (Fx.Wc (b := true) rfl (fun _ => Fx.Ws (Fx.Wl (Fx.Lv (.slice (some ⟨g, 0, none⟩) (n) (cap)) (Fx.x_move rfl h14) ?_))) (fun h => nomatch h)))))
     refine Fx.Lv (.int .i64 ((ax : Int))) (Fx.x_move rfl h15) (Fx.Lv (.int .i64 ((bx : Int))) (Fx.x_move rfl h16) (Fx.L.call (by rfl) (Fx.rC (args := [.slice (some ⟨g, 0, none⟩) (n) (cap), .int .i64 ((ax : Int)), .int .i64 ((bx : Int))]) rfl rfl Try.func29 rfl rfl) rfl ((s_pins ax bx B g n cap dy _ m8 (Nat.le_trans hB b8.size) hk2 hs (by omega) (by omega) h50).mono ?_)))
     rintro e9 w9 ⟨r1, he, hS1, m9, hb6⟩
     have b9 := b8.trans hb6
     rcases r1 with _ | _
     ·refine ⟨_, he, ?_⟩
      clear he
      refine Fx.Ln (Fx.sN (Fx.Wc (b := false) rfl (fun h => nomatch h) (fun _ => Fx.Wk ?_)))
      exact Fx.jnN ⟨h14, (h15.trans Fx.ic), (h16.trans Fx.ic), (h17.trans Fx.ic), h18, h19, (h20.trans Fx.ic), (h21.trans Fx.ic), m9, b9⟩
     refine ⟨_, he, ?_⟩
     clear he
     refine Fx.Ln (Fx.sN (Fx.Wc (b := true) rfl (fun _ => Fx.Wr (Fx.jnR ?_)) (fun h => nomatch h)))
     refine Fx.blkR (Fx.lpR (Fx.blkR (⟨.tuple #[], Fx.ret0 Try.results22, ?_⟩)))
     have hq := hF _ hP2 (hS1 rfl)
     exact ⟨_, rfl, hk2, hq.1, hq.2, m9, b9⟩
    refine Fx.Lv (.bool false) (Fx.x_eqlF rfl rfl rfl c67) (Fx.Lv (.bool false) (Fx.x_pickT rfl rfl rfl) (Fx.Ln (Fx.sN (Fx.Wc (b := false) rfl (fun h => nomatch h) (fun _ => Fx.Wk ?_)))))
    exact Fx.jnN ⟨h14, (h15.trans Fx.ic), (h16.trans Fx.ic), (h17.trans Fx.ic), h18, h19, (h20.trans Fx.ic), (h21.trans Fx.ic), m8, b8⟩
   rw [Bool.not_eq_true] at c63
   refine Fx.Lv (.bool false) (Fx.x_move rfl (h19.trans (congrArg Value.bool c63))) (Fx.Lv (.bool false) (Fx.x_pickT rfl rfl rfl) (Fx.Lv (.bool false) (Fx.x_move rfl rfl) (Fx.Lk (by rfl) rfl (Fx.Lk (by rfl) rfl (Fx.Lv (.bool false) (Fx.x_pickF rfl rfl rfl) (Fx.Ln (Fx.sN (Fx.Wc (b := false) rfl (fun h => nomatch h) (fun _ => Fx.Wk ?_)))))))))
   exact Fx.jnN ⟨h14, (h15.trans Fx.ic), (h16.trans Fx.ic), (h17.trans Fx.ic), h18, h19, (h20.trans Fx.ic), (h21.trans Fx.ic), m8, b8⟩
  rw [Bool.not_eq_true] at c61
  refine Fx.Lv (.bool false) (Fx.x_move rfl (h18.trans (congrArg Value.bool c61))) (Fx.Lv (.bool false) (Fx.x_move rfl rfl) (Fx.Lk (by rfl) rfl (Fx.Lv (.bool false) (Fx.x_pickF rfl rfl rfl) (Fx.Lv (.bool false) (Fx.x_move rfl rfl) (Fx.Lk (by rfl) rfl (Fx.Lk (by rfl) rfl (Fx.Lv (.bool false) (Fx.x_pickF rfl rfl rfl) (Fx.Ln (Fx.sN (Fx.Wc (b := false) rfl (fun h => nomatch h) (fun _ => Fx.Wk ?_)))))))))))
  exact Fx.jnN ⟨h14, (h15.trans Fx.ic), (h16.trans Fx.ic), (h17.trans Fx.ic), h18, h19, (h20.trans Fx.ic), (h21.trans Fx.ic), m8, b8⟩
 rintro f4 w10 ⟨h23, h24, h25, h26, h27, h28, h29, h30, m10, b10⟩
 refine Fx.Ws (Fx.Ws ?_)
 -- region 17 draws
 refine Fx.W.quiet (fun v1 => Below w10.heap.size w10 v1) (by kernel_rfl) (by kernel_rfl) (Below.refl _ _).drew ?_
 refine Fx.Qv (.int .i64 ((ax : Int))) (fun v1 hv1 => Fx.x_move rfl h24) ?_
 by_cases c74 : 0 < (ax : Int)
 ·refine Fx.Qv (.bool true) (fun v1 hv1 => Fx.x_gtrT rfl rfl rfl c74) (Fx.Qv (.bool true) (fun v1 hv1 => Fx.x_move rfl rfl) (Fx.Qv (.slice (some ⟨g, 0, none⟩) (n) (cap)) (fun v1 hv1 => Fx.x_move rfl h23) (Fx.Qv (.int .i64 ((ax : Int))) (fun v1 hv1 => Fx.x_move rfl h24) (Fx.Qv (.int .i64 ((ax : Int) - 1)) (fun v1 hv1 => Fx.x_sub rfl rfl rfl Fx.io) (Fx.Qv ((pf g (ax - 1))) (fun v1 hv1 => Fx.x_indexS rfl rfl rfl Try.underlying33 (s := 1) (by kernel_rfl) (by omega) (by omega) (by omega)) (Fx.Qv (.int .u64 ((gA dy) (ax - 1))) (fun v1 hv1 => Fx.x_load1 (x := Fx.rv .u64 (gA dy)) rfl rfl (by kernel_rfl) (m10.cel.below hv1 (by have := m10.lt; omega)) (i := ax - 1) (by omega) (by omega) rfl) (Fx.Qv (.slice (some ⟨g, 0, none⟩) (n) (cap)) (fun v1 hv1 => Fx.x_move rfl h23) (Fx.Qv (.int .i64 ((pv : Int))) (fun v1 hv1 => Fx.x_move rfl h30) (Fx.Qv ((pf g pv)) (fun v1 hv1 => Fx.x_indexS rfl rfl rfl Try.underlying33 (s := 1) (by kernel_rfl) (by omega) (by omega) (by omega)) (Fx.Qv (.int .u64 ((gA dy) pv)) (fun v1 hv1 => Fx.x_load1 (x := Fx.rv .u64 (gA dy)) rfl rfl (by kernel_rfl) (m10.cel.below hv1 (by have := m10.lt; omega)) (i := pv) (by omega) (by omega) rfl) ?_))))))))))
  by_cases c85 : (decide ((gA dy) (ax - 1) < (gA dy) pv)) = true
  ·refine Fx.Qt.call (v := .bool true) (by rfl) (fun v1 hv1 => Fx.rC (args := [.int .u64 ((gA dy) (ax - 1)), .int .u64 ((gA dy) pv)]) rfl rfl Try.func30 rfl rfl) rfl (fun v1 hv1 => (s_less ((gA dy) (ax - 1)) ((gA dy) pv) _).mono fun e v2 h => ⟨by rw [h.1, c85], by rw [h.2]; exact hv1⟩) ?_
   refine Fx.Qv (.bool false) (fun v1 hv1 => Fx.x_notF rfl rfl) (Fx.Qv (.bool false) (fun v1 hv1 => Fx.x_pickT rfl rfl rfl) (Fx.Qt.nil ?_))
   intro wb1 hbwb1
   have s1 : Fx.Stp w10.heap.size w10 wb1 := Fx.Sb hbwb1
   have m11 := m10.stpB s1 (Nat.ne_of_lt (m10.lt))
   have b11 := s1.below b10 (Nat.le_trans hB b10.size) (Nat.le_trans hB b10.size)
   refine Fx.sN (Fx.Wc (b := false) rfl (fun h => nomatch h) (fun _ => Fx.Wk (Fx.sN (Fx.Ws (Fx.Wl (Fx.Lv (.slice (some ⟨g, 0, none⟩) (n) (cap)) (Fx.x_move rfl h23) (Fx.Lv (.int .i64 ((ax : Int))) (Fx.x_move rfl h24) (Fx.Lv (.int .i64 ((bx : Int))) (Fx.x_move rfl h25) (Fx.Lv (.int .i64 ((pv : Int))) (Fx.x_move rfl h30) (Fx.L.call (by rfl) (Fx.rC (args := [.slice (some ⟨g, 0, none⟩) (n) (cap), .int .i64 ((ax : Int)), .int .i64 ((bx : Int)), .int .i64 ((pv : Int))]) rfl rfl Try.func32 rfl rfl) rfl ((s_pt ax bx pv B g n cap dy _ m11 (Nat.le_trans hB b11.size) hk2 hs (by omega) (by omega) (by omega)).mono ?_)))))))))))
   rintro e9 w11 ⟨mid1, ap1, dn2, he, hu2, hv2, hz2, m12, hb7⟩
   have b12 := b11.trans hb7
   have hx : Sort.partition Sort.ltInt dy ax bx pv = (mid1, (Sort.partition Sort.ltInt dy ax bx pv).2.1, dn2) := Prod.ext hu2 (Prod.ext rfl hv2)
   obtain ⟨r1, r2, r3, r4, r5, r6, r7⟩ := Sort.round_part Sort.swo_ltInt (Sort.partition_holds _) hpv.1 hpv.2 (by omega) (hBl.perm (by omega) hP2) hx
   clear hx
   refine ⟨_, he, ?_⟩
   clear he
   refine Fx.Lv (.tuple #[.int .i64 ((mid1 : Int)), .bool ap1]) (Fx.x_move rfl rfl) (Fx.Lv (.int .i64 ((mid1 : Int))) (Fx.x_extract rfl rfl rfl) (Fx.Lv (.bool ap1) (Fx.x_extract rfl rfl rfl) (Fx.Lv (.int .i64 ((mid1 : Int))) (Fx.x_assign rfl rfl) (Fx.Lv (.bool ap1) (Fx.x_assign rfl rfl) (Fx.Ln (Fx.sN (Fx.Ws (Fx.Wl (Fx.Lv (.bool ap1) (Fx.x_move rfl rfl) (Fx.Lv (.bool ap1) (Fx.x_assign rfl rfl) (Fx.Ln (Fx.sN (Fx.Ws (Fx.Wl (Fx.Lv (.int .i64 ((mid1 : Int))) (Fx.x_move rfl rfl) (Fx.Lv (.int .i64 ((ax : Int))) (Fx.x_move rfl h24) (Fx.Lv (.int .i64 ((mid1 : Int) - (ax : Int))) (Fx.x_sub rfl rfl rfl Fx.io) (Fx.Lv (.int .i64 ((bx : Int))) (Fx.x_move rfl h25) (Fx.Lv (.int .i64 ((mid1 : Int))) (Fx.x_move rfl rfl) (Fx.Lv (.int .i64 ((bx : Int) - (mid1 : Int))) (Fx.x_sub rfl rfl rfl Fx.io) (Fx.Lv (.int .i64 ((mid1 : Int) - (ax : Int))) (Fx.x_assign rfl rfl) (Fx.Lv (.int .i64 ((bx : Int) - (mid1 : Int))) (Fx.x_assign rfl rfl) (Fx.Ln (Fx.sN (Fx.Ws (Fx.Wl (Fx.Lv (.int .i64 ((bx : Int) - (ax : Int))) (Fx.x_move rfl h29) (Fx.Lv (.int .i64 (((bx - ax) / 8 : Nat))) (Fx.x_quo rfl rfl rfl (by omega) (Fx.i64e (by omega) (by rw [Int.tdiv_eq_ediv_of_nonneg (by omega)]; omega))) (Fx.Lv (.int .i64 (((bx - ax) / 8 : Nat))) (Fx.x_assign rfl rfl) (Fx.Ln (Fx.sN (Fx.Ws (Fx.Wl (Fx.Lv (.int .i64 ((mid1 : Int) - (ax : Int))) (Fx.x_move rfl rfl) (Fx.Lv (.int .i64 ((bx : Int) - (mid1 : Int))) (Fx.x_move rfl rfl) ?_)))))))))))))))))))))))))))))))))))
   by_cases c113 : ((mid1 : Int) - (ax : Int)) < ((bx : Int) - (mid1 : Int))
   ·refine Fx.Lv (.bool true) (Fx.x_lssT rfl rfl rfl c113) (Fx.Ln (Fx.sN (Fx.Wc (b := true) rfl (fun _ => Fx.Ws (Fx.Wl (Fx.Lv (.int .i64 ((mid1 : Int) - (ax : Int))) (Fx.x_move rfl rfl) ?_))) (fun h => nomatch h))))
    refine Fx.Lv (.int .i64 (((bx - ax) / 8 : Nat))) (Fx.x_move rfl rfl) (Fx.Lv (.bool (decide (((bx - ax) / 8 : Nat) ≤ ((mid1 : Int) - (ax : Int))))) (Fx.x_geq rfl rfl rfl) (Fx.Lv (.bool (decide (((bx - ax) / 8 : Nat) ≤ ((mid1 : Int) - (ax : Int))))) (Fx.x_assign rfl rfl) (Fx.Ln (Fx.sN (Fx.Ws (Fx.Wl (Fx.Lv (.slice (some ⟨g, 0, none⟩) (n) (cap)) (Fx.x_move rfl h23) (Fx.Lv (.int .i64 ((ax : Int))) (Fx.x_move rfl h24) (Fx.Lv (.int .i64 ((mid1 : Int))) (Fx.x_move rfl rfl) (Fx.Lv (.int .i64 ((ly : Int))) (Fx.x_move rfl h26) (Fx.L.call (by rfl) (Fx.rC (args := [.slice (some ⟨g, 0, none⟩) (n) (cap), .int .i64 ((ax : Int)), .int .i64 ((mid1 : Int)), .int .i64 ((ly : Int))]) rfl rfl Try.func22 rfl rfl) rfl ((ih _ _ _ ax mid1 ly B g n cap dn2 _ m12 (Nat.le_trans hB b12.size) hz2 hs h50 (by omega) (by omega) (by omega) r4 (by omega) (by omega) (by omega) (by omega)).mono ?_))))))))))))
    rintro e9 w12 ⟨dr, he, hz9, hP9, hS9, m13, hb8⟩
    refine ⟨_, he, ?_⟩
    clear he
    have b13 := b12.trans hb8
    obtain ⟨q1, q2⟩ := r6 _ hP9 hS9
    refine Fx.Ln (Fx.sN (Fx.Wl (Fx.Lv (.int .i64 ((mid1 : Int))) (Fx.x_move rfl rfl) (Fx.Lv (.int .i64 ((mid1 : Int) + 1)) (Fx.x_add rfl rfl rfl Fx.io) (Fx.Lv (.int .i64 ((mid1 : Int) + 1)) (Fx.x_assign rfl rfl) (Fx.Ln (Fx.blkN (Fx.lpN ⟨bx - (mid1 + 1), (by omega), mid1 + 1, bx, ly, dr, (decide (((bx - ax) / 8 : Nat) ≤ ((mid1 : Int) - (ax : Int)))), (ap1), hz9, q1, (fun R hR hS => hF R (Sort.permIn_trans _ _ _ _ _ hP2 (q2 R hR hS).1) (q2 R hR hS).2), (by omega), rfl, h23, Fx.ic, (h25.trans Fx.ic), (h26.trans Fx.ic), (by rfl), (by rfl), m13, b13⟩ (by decide)))))))))
   refine Fx.Lv (.bool false) (Fx.x_lssF rfl rfl rfl c113) (Fx.Ln (Fx.sN (Fx.Wc (b := false) rfl (fun h => nomatch h) (fun _ => Fx.Ws (Fx.Wl (Fx.Lv (.int .i64 ((bx : Int) - (mid1 : Int))) (Fx.x_move rfl rfl) (Fx.Lv (.int .i64 (((bx - ax) / 8 : Nat))) (Fx.x_move rfl rfl) (Fx.Lv (.bool (decide (((bx - ax) / 8 : Nat) ≤ ((bx : Int) - (mid1 : Int))))) (Fx.x_geq rfl rfl rfl) (Fx.Lv (.bool (decide (((bx - ax) / 8 : Nat) ≤ ((bx : Int) - (mid1 : Int))))) (Fx.x_assign rfl rfl) (Fx.Ln (Fx.sN (Fx.Ws (Fx.Wl (Fx.Lv (.slice (some ⟨g, 0, none⟩) (n) (cap)) (Fx.x_move rfl h23) (Fx.Lv (.int .i64 ((mid1 : Int))) (Fx.x_move rfl rfl) (Fx.Lv (.int .i64 ((mid1 : Int) + 1)) (Fx.x_add rfl rfl rfl Fx.io) (Fx.Lv (.int .i64 ((bx : Int))) (Fx.x_move rfl h25) (Fx.Lv (.int .i64 ((ly : Int))) (Fx.x_move rfl h26) (Fx.L.call (by rfl) (Fx.rC (args := [.slice (some ⟨g, 0, none⟩) (n) (cap), .int .i64 ((mid1 : Int) + 1), .int .i64 ((bx : Int)), .int .i64 ((ly : Int))]) rfl rfl Try.func22 rfl rfl) rfl ((ih _ _ _ (mid1 + 1) bx ly B g n cap dn2 _ m12 (Nat.le_trans hB b12.size) hz2 hs h50 (by omega) (by omega) (by omega) r5 (by omega) (by omega) (by omega) (by omega)).mono ?_))))))))))))))))))))
   rintro e9 w13 ⟨dr, he, hz9, hP9, hS9, m14, hb9⟩
   refine ⟨_, he, ?_⟩
   clear he
   have b14 := b12.trans hb9
   obtain ⟨q1, q2⟩ := r7 _ hP9 hS9
   refine Fx.Ln (Fx.sN (Fx.Wl (Fx.Lv (.int .i64 ((mid1 : Int))) (Fx.x_move rfl rfl) (Fx.Lv (.int .i64 ((mid1 : Int))) (Fx.x_assign rfl rfl) (Fx.Ln (Fx.blkN (Fx.lpN ⟨mid1 - ax, (by omega), ax, mid1, ly, dr, (decide (((bx - ax) / 8 : Nat) ≤ ((bx : Int) - (mid1 : Int)))), (ap1), hz9, q1, (fun R hR hS => hF R (Sort.permIn_trans _ _ _ _ _ hP2 (q2 R hR hS).1) (q2 R hR hS).2), (by omega), rfl, h23, (h24.trans Fx.ic), Fx.ic, (h26.trans Fx.ic), (by rfl), (by rfl), m14, b14⟩ (by decide))))))))
  rw [Bool.not_eq_true] at c85
  refine Fx.Qt.call (v := .bool false) (by rfl) (fun v1 hv1 => Fx.rC (args := [.int .u64 ((gA dy) (ax - 1)), .int .u64 ((gA dy) pv)]) rfl rfl Try.func30 rfl rfl) rfl (fun v1 hv1 => (s_less ((gA dy) (ax - 1)) ((gA dy) pv) _).mono fun e v2 h => ⟨by rw [h.1, c85], by rw [h.2]; exact hv1⟩) ?_
  refine Fx.Qv (.bool true) (fun v1 hv1 => Fx.x_notT rfl rfl) (Fx.Qv (.bool true) (fun v1 hv1 => Fx.x_pickT rfl rfl rfl) (Fx.Qt.nil ?_))
  intro wb2 hbwb2
  have s2 : Fx.Stp w10.heap.size w10 wb2 := Fx.Sb hbwb2
  have m15 := m10.stpB s2 (Nat.ne_of_lt (m10.lt))
  have b15 := s2.below b10 (Nat.le_trans hB b10.size) (Nat.le_trans hB b10.size)
  refine Fx.sN (Fx.Wc (b := true) rfl (fun _ => Fx.Ws (Fx.Wl (Fx.Lv (.slice (some ⟨g, 0, none⟩) (n) (cap)) (Fx.x_move rfl h23) ?_))) (fun h => nomatch h))
  refine Fx.Lv (.int .i64 ((ax : Int))) (Fx.x_move rfl h24) (Fx.Lv (.int .i64 ((bx : Int))) (Fx.x_move rfl h25) (Fx.Lv (.int .i64 ((pv : Int))) (Fx.x_move rfl h30) (Fx.L.call (by rfl) (Fx.rC (args := [.slice (some ⟨g, 0, none⟩) (n) (cap), .int .i64 ((ax : Int)), .int .i64 ((bx : Int)), .int .i64 ((pv : Int))]) rfl rfl Try.func31 rfl rfl) rfl ((s_pe ax bx pv B g n cap dy _ m15 (Nat.le_trans hB b15.size) hk2 hs (by omega) (by omega) (by omega)).mono ?_))))
  rintro e9 w14 ⟨mid2, dn3, he, hx1, hz3, m16, hb10⟩
  have b16 := b15.trans hb10
  obtain ⟨r1, r2, r3, r4, r5⟩ := Sort.round_eq Sort.swo_ltInt (Sort.partitionEqual_holds _) (by omega) hpv.1 hpv.2 (by omega) (hBl.perm (by omega) hP2) (lt_no (of_decide_eq_false c85)) hx1
  refine ⟨_, he, ?_⟩
  clear he
  refine Fx.Lv (.int .i64 ((mid2 : Int))) (Fx.x_assign rfl rfl) (Fx.Ln (Fx.sN (Fx.Ws (Fx.Wl (Fx.Lv (.int .i64 ((mid2 : Int))) (Fx.x_move rfl rfl) (Fx.Lv (.int .i64 ((mid2 : Int))) (Fx.x_assign rfl rfl) (Fx.Ln (Fx.sN (Fx.W.exit (Fx.seqX (Fx.blkX (Fx.lpN ⟨bx - mid2, (by omega), mid2, bx, ly, dn3, (wb), (wp), hz3, r4, (fun R hR hS => hF R (Sort.permIn_trans _ _ _ _ _ hP2 (r5 R hR hS).1) (r5 R hR hS).2), (by omega), rfl, h23, Fx.ic, (h25.trans Fx.ic), (h26.trans Fx.ic), h27, h28, m16, b16⟩ (by decide)))))))))))))
 refine Fx.Qv (.bool false) (fun v1 hv1 => Fx.x_gtrF rfl rfl rfl c74) (Fx.Qv (.bool false) (fun v1 hv1 => Fx.x_move rfl rfl) (Fx.Qs (by rfl) rfl (Fx.Qs (by rfl) rfl (Fx.Qs (by rfl) rfl (Fx.Qs (by rfl) rfl (Fx.Qs (by rfl) rfl (Fx.Qs (by rfl) rfl (Fx.Qs (by rfl) rfl (Fx.Qs (by rfl) rfl (Fx.Qs (by rfl) rfl (Fx.Qs (by rfl) rfl (Fx.Qs (by rfl) rfl (Fx.Qv (.bool false) (fun v1 hv1 => Fx.x_pickF rfl rfl rfl) (Fx.Qt.nil ?_))))))))))))))
 intro wb3 hbwb3
 have s3 : Fx.Stp w10.heap.size w10 wb3 := Fx.Sb hbwb3
 have m17 := m10.stpB s3 (Nat.ne_of_lt (m10.lt))
 have b17 := s3.below b10 (Nat.le_trans hB b10.size) (Nat.le_trans hB b10.size)
 refine Fx.sN (Fx.Wc (b := false) rfl (fun h => nomatch h) (fun _ => Fx.Wk (Fx.sN (Fx.Ws (Fx.Wl (Fx.Lv (.slice (some ⟨g, 0, none⟩) (n) (cap)) (Fx.x_move rfl h23) (Fx.Lv (.int .i64 ((ax : Int))) (Fx.x_move rfl h24) (Fx.Lv (.int .i64 ((bx : Int))) (Fx.x_move rfl h25) (Fx.Lv (.int .i64 ((pv : Int))) (Fx.x_move rfl h30) (Fx.L.call (by rfl) (Fx.rC (args := [.slice (some ⟨g, 0, none⟩) (n) (cap), .int .i64 ((ax : Int)), .int .i64 ((bx : Int)), .int .i64 ((pv : Int))]) rfl rfl Try.func32 rfl rfl) rfl ((s_pt ax bx pv B g n cap dy _ m17 (Nat.le_trans hB b17.size) hk2 hs (by omega) (by omega) (by omega)).mono ?_)))))))))))
 rintro e9 w15 ⟨mid3, ap2, dn4, he, hu3, hv3, hz4, m18, hb11⟩
 have b18 := b17.trans hb11
 have hx : Sort.partition Sort.ltInt dy ax bx pv = (mid3, (Sort.partition Sort.ltInt dy ax bx pv).2.1, dn4) := Prod.ext hu3 (Prod.ext rfl hv3)
 obtain ⟨r1, r2, r3, r4, r5, r6, r7⟩ := Sort.round_part Sort.swo_ltInt (Sort.partition_holds _) hpv.1 hpv.2 (by omega) (hBl.perm (by omega) hP2) hx
 clear hx
 refine ⟨_, he, ?_⟩
 clear he
 refine Fx.Lv (.tuple #[.int .i64 ((mid3 : Int)), .bool ap2]) (Fx.x_move rfl rfl) (Fx.Lv (.int .i64 ((mid3 : Int))) (Fx.x_extract rfl rfl rfl) (Fx.Lv (.bool ap2) (Fx.x_extract rfl rfl rfl) (Fx.Lv (.int .i64 ((mid3 : Int))) (Fx.x_assign rfl rfl) (Fx.Lv (.bool ap2) (Fx.x_assign rfl rfl) (Fx.Ln (Fx.sN (Fx.Ws (Fx.Wl (Fx.Lv (.bool ap2) (Fx.x_move rfl rfl) (Fx.Lv (.bool ap2) (Fx.x_assign rfl rfl) (Fx.Ln (Fx.sN (Fx.Ws (Fx.Wl (Fx.Lv (.int .i64 ((mid3 : Int))) (Fx.x_move rfl rfl) (Fx.Lv (.int .i64 ((ax : Int))) (Fx.x_move rfl h24) (Fx.Lv (.int .i64 ((mid3 : Int) - (ax : Int))) (Fx.x_sub rfl rfl rfl Fx.io) (Fx.Lv (.int .i64 ((bx : Int))) (Fx.x_move rfl h25) (Fx.Lv (.int .i64 ((mid3 : Int))) (Fx.x_move rfl rfl) (Fx.Lv (.int .i64 ((bx : Int) - (mid3 : Int))) (Fx.x_sub rfl rfl rfl Fx.io) (Fx.Lv (.int .i64 ((mid3 : Int) - (ax : Int))) (Fx.x_assign rfl rfl) (Fx.Lv (.int .i64 ((bx : Int) - (mid3 : Int))) (Fx.x_assign rfl rfl) (Fx.Ln (Fx.sN (Fx.Ws (Fx.Wl (Fx.Lv (.int .i64 ((bx : Int) - (ax : Int))) (Fx.x_move rfl h29) (Fx.Lv (.int .i64 (((bx - ax) / 8 : Nat))) (Fx.x_quo rfl rfl rfl (by omega) (Fx.i64e (by omega) (by rw [Int.tdiv_eq_ediv_of_nonneg (by omega)]; omega))) (Fx.Lv (.int .i64 (((bx - ax) / 8 : Nat))) (Fx.x_assign rfl rfl) (Fx.Ln (Fx.sN (Fx.Ws (Fx.Wl (Fx.Lv (.int .i64 ((mid3 : Int) - (ax : Int))) (Fx.x_move rfl rfl) (Fx.Lv (.int .i64 ((bx : Int) - (mid3 : Int))) (Fx.x_move rfl rfl) ?_)))))))))))))))))))))))))))))))))))
 by_cases c113 : ((mid3 : Int) - (ax : Int)) < ((bx : Int) - (mid3 : Int))
 ·refine Fx.Lv (.bool true) (Fx.x_lssT rfl rfl rfl c113) (Fx.Ln (Fx.sN (Fx.Wc (b := true) rfl (fun _ => Fx.Ws (Fx.Wl (Fx.Lv (.int .i64 ((mid3 : Int) - (ax : Int))) (Fx.x_move rfl rfl) ?_))) (fun h => nomatch h))))
  refine Fx.Lv (.int .i64 (((bx - ax) / 8 : Nat))) (Fx.x_move rfl rfl) (Fx.Lv (.bool (decide (((bx - ax) / 8 : Nat) ≤ ((mid3 : Int) - (ax : Int))))) (Fx.x_geq rfl rfl rfl) (Fx.Lv (.bool (decide (((bx - ax) / 8 : Nat) ≤ ((mid3 : Int) - (ax : Int))))) (Fx.x_assign rfl rfl) (Fx.Ln (Fx.sN (Fx.Ws (Fx.Wl (Fx.Lv (.slice (some ⟨g, 0, none⟩) (n) (cap)) (Fx.x_move rfl h23) (Fx.Lv (.int .i64 ((ax : Int))) (Fx.x_move rfl h24) (Fx.Lv (.int .i64 ((mid3 : Int))) (Fx.x_move rfl rfl) (Fx.Lv (.int .i64 ((ly : Int))) (Fx.x_move rfl h26) (Fx.L.call (by rfl) (Fx.rC (args := [.slice (some ⟨g, 0, none⟩) (n) (cap), .int .i64 ((ax : Int)), .int .i64 ((mid3 : Int)), .int .i64 ((ly : Int))]) rfl rfl Try.func22 rfl rfl) rfl ((ih _ _ _ ax mid3 ly B g n cap dn4 _ m18 (Nat.le_trans hB b18.size) hz4 hs h50 (by omega) (by omega) (by omega) r4 (by omega) (by omega) (by omega) (by omega)).mono ?_))))))))))))
  rintro e9 w16 ⟨dr, he, hz9, hP9, hS9, m19, hb12⟩
  refine ⟨_, he, ?_⟩
  clear he
  have b19 := b18.trans hb12
  obtain ⟨q1, q2⟩ := r6 _ hP9 hS9
  refine Fx.Ln (Fx.sN (Fx.Wl (Fx.Lv (.int .i64 ((mid3 : Int))) (Fx.x_move rfl rfl) (Fx.Lv (.int .i64 ((mid3 : Int) + 1)) (Fx.x_add rfl rfl rfl Fx.io) (Fx.Lv (.int .i64 ((mid3 : Int) + 1)) (Fx.x_assign rfl rfl) (Fx.Ln (Fx.blkN (Fx.lpN ⟨bx - (mid3 + 1), (by omega), mid3 + 1, bx, ly, dr, (decide (((bx - ax) / 8 : Nat) ≤ ((mid3 : Int) - (ax : Int)))), (ap2), hz9, q1, (fun R hR hS => hF R (Sort.permIn_trans _ _ _ _ _ hP2 (q2 R hR hS).1) (q2 R hR hS).2), (by omega), rfl, h23, Fx.ic, (h25.trans Fx.ic), (h26.trans Fx.ic), (by rfl), (by rfl), m19, b19⟩ (by decide)))))))))
 refine Fx.Lv (.bool false) (Fx.x_lssF rfl rfl rfl c113) (Fx.Ln (Fx.sN (Fx.Wc (b := false) rfl (fun h => nomatch h) (fun _ => Fx.Ws (Fx.Wl (Fx.Lv (.int .i64 ((bx : Int) - (mid3 : Int))) (Fx.x_move rfl rfl) (Fx.Lv (.int .i64 (((bx - ax) / 8 : Nat))) (Fx.x_move rfl rfl) (Fx.Lv (.bool (decide (((bx - ax) / 8 : Nat) ≤ ((bx : Int) - (mid3 : Int))))) (Fx.x_geq rfl rfl rfl) (Fx.Lv (.bool (decide (((bx - ax) / 8 : Nat) ≤ ((bx : Int) - (mid3 : Int))))) (Fx.x_assign rfl rfl) (Fx.Ln (Fx.sN (Fx.Ws (Fx.Wl (Fx.Lv (.slice (some ⟨g, 0, none⟩) (n) (cap)) (Fx.x_move rfl h23) (Fx.Lv (.int .i64 ((mid3 : Int))) (Fx.x_move rfl rfl) (Fx.Lv (.int .i64 ((mid3 : Int) + 1)) (Fx.x_add rfl rfl rfl Fx.io) (Fx.Lv (.int .i64 ((bx : Int))) (Fx.x_move rfl h25) (Fx.Lv (.int .i64 ((ly : Int))) (Fx.x_move rfl h26) (Fx.L.call (by rfl) (Fx.rC (args := [.slice (some ⟨g, 0, none⟩) (n) (cap), .int .i64 ((mid3 : Int) + 1), .int .i64 ((bx : Int)), .int .i64 ((ly : Int))]) rfl rfl Try.func22 rfl rfl) rfl ((ih _ _ _ (mid3 + 1) bx ly B g n cap dn4 _ m18 (Nat.le_trans hB b18.size) hz4 hs h50 (by omega) (by omega) (by omega) r5 (by omega) (by omega) (by omega) (by omega)).mono ?_))))))))))))))))))))
 rintro e9 w17 ⟨dr, he, hz9, hP9, hS9, m20, hb13⟩
 refine ⟨_, he, ?_⟩
 clear he
 have b20 := b18.trans hb13
 obtain ⟨q1, q2⟩ := r7 _ hP9 hS9
 refine Fx.Ln (Fx.sN (Fx.Wl (Fx.Lv (.int .i64 ((mid3 : Int))) (Fx.x_move rfl rfl) (Fx.Lv (.int .i64 ((mid3 : Int))) (Fx.x_assign rfl rfl) (Fx.Ln (Fx.blkN (Fx.lpN ⟨mid3 - ax, (by omega), ax, mid3, ly, dr, (decide (((bx - ax) / 8 : Nat) ≤ ((bx : Int) - (mid3 : Int)))), (ap2), hz9, q1, (fun R hR hS => hF R (Sort.permIn_trans _ _ _ _ _ hP2 (q2 R hR hS).1) (q2 R hR hS).2), (by omega), rfl, h23, (h24.trans Fx.ic), Fx.ic, (h26.trans Fx.ic), (by rfl), (by rfl), m20, b20⟩ (by decide))))))))
end Go.Proofs.Ytahbiajdgealnaa
namespace Go.Proofs.Ytahbiajdgealnaa
open Go.RowKit
open Rt
set_option maxRecDepth 10000
theorem s_pdq : ∀ m, PdqOk m
  | 0 => by
    intro aI bI lI a b lim B g n cap d w h hB hn hs h50 hl hab hb hBel e1 e2 e3 hm
    omega
  | m + 1 => by
    intro aI bI lI a b lim B g n cap d w h hB hn hs h50 hl hab hb hBel e1 e2 e3 hm
    subst e1 e2 e3
    exact s_pdqS m (s_pdq m) a b lim B g n cap d w h hB hn hs h50 hl hab hb hBel hm
theorem s_sort1 (B g n cap : Nat) (d : Array Int) (w : World) (h : Fx.Own w B 28 1 (.slice (some ⟨g, 0, none⟩) n cap) n (Fx.rv .u64 (gA d))) (hB : B ≤ w.heap.size) (hn : d.size = n) (hs : n ≤ 1000) (h50 : n < 50) :
    Calls Try.prog 19 #[.slice (some ⟨g, 0, none⟩) (n) (cap)] w fun e w' => ∃ d2 : Array Int, e = .returned (.tuple #[]) ∧ d2.size = n ∧ Sort.PermIn 0 n d d2 ∧ Sort.SortedIn Sort.ltInt 0 n d2 ∧ Fx.Own w' B 28 1 (.slice (some ⟨g, 0, none⟩) n cap) n (Fx.rv .u64 (gA d2)) ∧ Below B w w' := by
 have hbl := bl_le (show n < 64 by omega)
 refine Fx.enter Try.func19 rfl (n := 11) rfl (by rfl) ?_
 refine Fx.Ws (Fx.Wl (Fx.Lv (.slice (some ⟨g, 0, none⟩) (n) (cap)) (Fx.x_move rfl rfl) (Fx.Lv (.int .i64 ((n : Int))) (Fx.x_len rfl rfl rfl (by kernel_rfl)) (Fx.Lv (.int .i64 ((n : Int))) (Fx.x_assign rfl rfl) (Fx.Ln (Fx.sN (Fx.Wl (Fx.Lv (.slice (some ⟨g, 0, none⟩) (n) (cap)) (Fx.x_move rfl rfl) (Fx.Lv (.int .i64 ((n : Int))) (Fx.x_move rfl rfl) (Fx.Lv (.int .i64 ((n : Int))) (Fx.x_move rfl rfl) (Fx.Lv (.int .u64 ((n : Int))) (Fx.x_conv rfl rfl (by kernel_rfl) Try.underlying49 (Fx.u64e (by omega) rfl)) (Fx.L.call (by rfl) (Fx.rC (args := [.int .u64 ((n : Int))]) rfl rfl Try.func23 rfl rfl) rfl ((s_len n _ (by omega)).mono ?_)))))))))))))
 rintro e v1 ⟨he, hv1⟩
 subst v1
 refine ⟨.int .i64 ((Sort.bitsLen n : Int)), by rw [he], ?_⟩
 clear he
 refine Fx.L.call (by rfl) (Fx.rC (args := [.slice (some ⟨g, 0, none⟩) (n) (cap), .int .i64 (0), .int .i64 ((n : Int)), .int .i64 ((Sort.bitsLen n : Int))]) rfl rfl Try.func22 rfl rfl) rfl ((s_pdq (n + 1) _ _ _ 0 n (Sort.bitsLen n) B g n cap d _ h (Nat.le_trans hB (Below.refl B w).size) hn hs h50 (by omega) (by omega) (by omega) (.inl rfl) rfl rfl rfl (by omega)).mono ?_)
 rintro e9 w1 ⟨dr, he, hz9, hP9, hS9, m1, hb1⟩
 refine ⟨_, he, ?_⟩
 clear he
 have b1 := (Below.refl B w).trans hb1
 refine Fx.Ln (⟨.tuple #[], Fx.ret0 Try.results19, ?_⟩)
 exact ⟨dr, rfl, hz9, hP9, hS9, m1, b1⟩
theorem s_ins0 (w : World) :
    Calls Try.prog 24 #[.slice none 0 0, .int .i64 (0), .int .i64 (0)] w fun e w' => e = .returned (.tuple #[]) ∧ Below w.heap.size w w' := by
 refine Fx.enter Try.func24 rfl (n := 49) rfl (by rfl) ?_
 refine Fx.Ws (Fx.Wl (Fx.Lv (.int .i64 (0)) (Fx.x_move rfl rfl) (Fx.Lv (.int .i64 (1)) (Fx.x_add rfl rfl rfl Fx.io) (Fx.Lv (.int .i64 (1)) (Fx.x_assign rfl rfl) (Fx.Ln (Fx.sN (Fx.W.block (Fx.W.loop (fun f w_ => f 1 = .int .i64 (0) ∧ f 2 = .int .i64 (0) ∧ f 6 = .int .i64 (1) ∧ Below w.heap.size w w_) (fun f _ => 0) ⟨Fx.ic, Fx.ic, Fx.ic, (Below.refl w.heap.size w)⟩ ?_))))))))
 rintro f1 w1 ⟨h1, h2, h3, b1⟩
 refine Fx.Ws (Fx.Ws (Fx.Wl (Fx.Lv (.int .i64 (1)) (Fx.x_move rfl h3) (Fx.Lv (.int .i64 (0)) (Fx.x_move rfl h2) (Fx.Lv (.bool false) (Fx.x_lssF rfl rfl rfl (by omega)) (Fx.Ln (Fx.sN (Fx.Wc (b := false) rfl (fun h => nomatch h) (fun _ => Fx.W.exit (Fx.seqX (Fx.lpX (Fx.blkX (⟨.tuple #[], Fx.ret0 Try.results24, ?_⟩)))))))))))))
 exact ⟨rfl, b1⟩
theorem s_pdq0 (w : World) :
    Calls Try.prog 22 #[.slice none 0 0, .int .i64 (0), .int .i64 (0), .int .i64 (0)] w fun e w' => e = .returned (.tuple #[]) ∧ Below w.heap.size w w' := by
 refine Fx.enter Try.func22 rfl (n := 134) rfl (by rfl) ?_
 refine Fx.Ws (Fx.Wl (Fx.Lv (.bool true) (Fx.x_assign rfl rfl) (Fx.Ln (Fx.sN (Fx.Ws (Fx.Wl (Fx.Lv (.bool true) (Fx.x_assign rfl rfl) (Fx.Ln (Fx.sN (Fx.W.block (Fx.W.loop (fun f w_ => f 0 = .slice none 0 0 ∧ f 1 = .int .i64 (0) ∧ f 2 = .int .i64 (0) ∧ Below w.heap.size w w_) (fun f _ => 0) ⟨(by rfl), Fx.ic, Fx.ic, (Below.refl w.heap.size w)⟩ ?_)))))))))))
 rintro f1 w1 ⟨h1, h2, h3, b1⟩
 refine Fx.W.block (Fx.Ws (Fx.Wl (Fx.Lv (.int .i64 (0)) (Fx.x_move rfl h3) (Fx.Lv (.int .i64 (0)) (Fx.x_move rfl h2) (Fx.Lv (.int .i64 (0)) (Fx.x_sub rfl rfl rfl Fx.io) (Fx.Lv (.int .i64 (0)) (Fx.x_assign rfl rfl) (Fx.Ln (Fx.sN (Fx.Ws (Fx.Ws (Fx.Wl (Fx.Lv (.int .i64 (0)) (Fx.x_move rfl rfl) (Fx.Lv (.bool true) (Fx.x_leqT rfl rfl rfl (by omega)) (Fx.Ln (Fx.sN (Fx.Wc (b := true) rfl (fun _ => Fx.Ws (Fx.Wl (Fx.Lv (.slice none 0 0) (Fx.x_move rfl h1) ?_))) (fun h => nomatch h)))))))))))))))))
 refine Fx.Lv (.int .i64 (0)) (Fx.x_move rfl h2) (Fx.Lv (.int .i64 (0)) (Fx.x_move rfl h3) (Fx.L.call (by rfl) (Fx.rC (args := [.slice none 0 0, .int .i64 (0), .int .i64 (0)]) rfl rfl Try.func24 rfl rfl) rfl ((s_ins0 _).mono ?_)))
 rintro e w2 ⟨he, hb1⟩
 refine ⟨.tuple #[], by rw [he], ?_⟩
 clear he
 have s1 := Fx.Sb hb1
 have b2 := s1.below b1 b1.size b1.size
 refine Fx.Ln (Fx.sN (Fx.Wr (Fx.sR (Fx.blkR (Fx.lpR (Fx.blkR (⟨.tuple #[], Fx.ret0 Try.results22, ?_⟩)))))))
 exact ⟨rfl, b2⟩
theorem s_len0 (w : World) : Calls Try.prog 23 #[.int .u64 0] w fun e w' => e = .returned (.int .i64 0) ∧ w' = w := s_len 0 w (by omega)
theorem s_sort0 (w : World) :
    Calls Try.prog 19 #[.slice none 0 0] w fun e w' => e = .returned (.tuple #[]) ∧ Below w.heap.size w w' := by
 refine Fx.enter Try.func19 rfl (n := 11) rfl (by rfl) ?_
 refine Fx.Ws (Fx.Wl (Fx.Lv (.slice none 0 0) (Fx.x_move rfl rfl) (Fx.Lv (.int .i64 (0)) (Fx.x_len rfl rfl rfl (by kernel_rfl)) (Fx.Lv (.int .i64 (0)) (Fx.x_assign rfl rfl) (Fx.Ln (Fx.sN (Fx.Wl (Fx.Lv (.slice none 0 0) (Fx.x_move rfl rfl) (Fx.Lv (.int .i64 (0)) (Fx.x_move rfl rfl) (Fx.Lv (.int .i64 (0)) (Fx.x_move rfl rfl) (Fx.Lv (.int .u64 (0)) (Fx.x_conv rfl rfl (by kernel_rfl) Try.underlying49 (Fx.u64e (by omega) rfl)) (Fx.L.call (by rfl) (Fx.rC (args := [.int .u64 (0)]) rfl rfl Try.func23 rfl rfl) rfl ((s_len0 _).mono ?_)))))))))))))
 rintro e v1 ⟨he, hv1⟩
 subst v1
 refine ⟨.int .i64 (0), by rw [he], ?_⟩
 clear he
 refine Fx.L.call (by rfl) (Fx.rC (args := [.slice none 0 0, .int .i64 (0), .int .i64 (0), .int .i64 (0)]) rfl rfl Try.func22 rfl rfl) rfl ((s_pdq0 _).mono ?_)
 rintro e w1 ⟨he, hb1⟩
 refine ⟨.tuple #[], by rw [he], ?_⟩
 clear he
 have s1 := Fx.Sb hb1
 have b1 := s1.below (Below.refl w.heap.size w) (Below.refl w.heap.size w).size (Below.refl w.heap.size w).size
 refine Fx.Ln (⟨.tuple #[], Fx.ret0 Try.results19, ?_⟩)
 exact ⟨rfl, b1⟩
theorem s_sort {w : World} {B n cap : Nat} {a : Option Addr} {d : Array Int} (h : Fx.Own w B 28 1 (.slice a n cap) n (Fx.rv .u64 (gA d))) (hB : B ≤ w.heap.size) (hn : d.size = n) (h50 : n < 50) :
    Calls Try.prog 19 #[.slice a n cap] w fun e w' => ∃ d2 : Array Int, e = .returned (.tuple #[]) ∧ d2.size = n ∧ Sort.PermIn 0 n d d2 ∧ Sort.SortedIn Sort.ltInt 0 n d2 ∧ Fx.Own w' B 28 1 (.slice a n cap) n (Fx.rv .u64 (gA d2)) ∧ Below B w w' := by
  rcases h.2 with ⟨h1, h2⟩ | ⟨g, c2, cur, h1, _⟩
  · subst h2
    cases h1
    exact (s_sort0 w).mono fun e w' ⟨h3, h4⟩ => ⟨d, h3, hn, Sort.permIn_refl _ _ _, fun i j _ h5 h6 => by omega, Fx.Own.nil _ _ _ _ _, h4.mono hB⟩
  simp only [Value.slice.injEq] at h1
  obtain ⟨rfl, _, rfl⟩ := h1
  exact s_sort1 B g n cap d w h hB hn (by omega) h50
end Go.Proofs.Ytahbiajdgealnaa
namespace Go.Proofs.Ytahbiajdgealnaa
open Go.RowKit Go
set_option linter.unusedVariables false
namespace Rt
def dT (x : Nat → Int) (τ : Nat → Nat) (m : Nat) : Array Int := ((List.range m).map fun q => x (τ q)).toArray
section
variable {n m kk : Nat} {x : Nat → Int} {Q : Int → Prop} {S : Nat → Bool} {τ : Nat → Nat}
theorem dT_size : (dT x τ m).size = m := by unfold dT; simp
theorem dT_get {q : Nat} (hq : q < m) : gA (dT x τ m) q = x (τ q) := by
  unfold gA dT
  rw [getElem!_pos _ q (by simpa using hq)]; simp
theorem dT_rv : ∀ j, j < m * 1 → Value.int .u64 (x (τ j)) = Fx.rv .u64 (gA (dT x τ m)) j := fun j hj => by
  show _ = Value.int .u64 (gA (dT x τ m) j)
  rw [dT_get (by omega)]
theorem gA_lsU {d : Array Int} : ∀ j, j < d.size * 1 → Fx.rv .u64 (gA d) j = lsU d.toList j := fun j hj => by
  show Value.int .u64 d[j]! = Value.int .u64 (d.toList.getD j 0)
  rw [getElem!_pos d j (by omega), List.getD_eq_getElem?_getD, List.getElem?_eq_getElem (by simpa using (show j < d.size by omega))]
  simp
theorem those_fin {d2 : Array Int} (h : ThS n (fun i => Q (x i)) S m τ kk) (hall : ∀ i, i < n → S i = true) (hinj : ∀ a b, a < n → b < n → x a = x b → a = b)
    (hp : Sort.PermIn 0 m (dT x τ m) d2) (hs : Sort.SortedIn Sort.ltInt 0 m d2) (hz : d2.size = m) : d2.toList.Pairwise (· < ·) ∧ ∀ k, k ∈ d2.toList ↔ (hasK x n k = true ∧ Q k) := by
  have hperm : d2.toList.Perm ((List.range m).map fun q => x (τ q)) := by
    have h3 := hp.2.2
    have e1 : d2.extract 0 m = d2 := by rw [← hz]; simp
    have e2 : ∀ d : Array Int, d.size = m → d.extract 0 m = d := fun d hd => by rw [← hd]; simp
    rw [e1, e2 _ dT_size] at h3
    exact h3
  have hnd : d2.toList.Nodup := by
    refine (hperm.nodup_iff).2 ?_
    rw [List.Nodup, List.pairwise_iff_getElem]
    intro i j hi hj hij
    simp only [List.getElem_map, List.getElem_range]
    simp only [List.length_map, List.length_range] at hi hj
    exact fun e => absurd (h.inj i j hi hj (hinj _ _ (h.lt i hi) (h.lt j hj) e)) (by omega)
  refine ⟨?_, fun k => ?_⟩
  · rw [List.pairwise_iff_getElem]
    intro i j hi hj hij
    simp only [Array.length_toList] at hi hj
    have h1 := of_decide_eq_false (hs i j (Nat.zero_le _) hij (by omega))
    rw [getElem!_pos d2 i hi, getElem!_pos d2 j hj] at h1
    rw [List.Nodup, List.pairwise_iff_getElem] at hnd
    have h2 := hnd i j (by simpa using hi) (by simpa using hj) hij
    simp only [Array.getElem_toList] at h2 ⊢
    omega
  rw [hperm.mem_iff]
  simp only [List.mem_map, List.mem_range]
  constructor
  · rintro ⟨q, hq, rfl⟩
    exact ⟨hasK_yes (h.lt q hq) rfl, h.yes q hq⟩
  rintro ⟨h1, h2⟩
  obtain ⟨i, hi, rfl⟩ := hasK_at h1
  obtain ⟨q, hq, rfl⟩ := h.mem i hi (hall i hi) h2
  exact ⟨q, hq, rfl⟩
theorem tau_app {z : Nat → Value} {i : Nat} : ∀ j, j < (m + 1) * 1 → Fx.appX (fun q => .int .u64 (x (τ q))) (m * 1) (Fx.ovr z (0 * 1) 1 (fun _ => .int .u64 (x i))) j = .int .u64 (x (Fx.putI τ m i j)) := fun j hj => by
  unfold Fx.appX Fx.ovr Fx.putI
  by_cases e : j = m
  · subst e; rw [if_neg (by omega), if_pos (by omega), if_pos rfl]
  · rw [if_pos (by omega), if_neg e]
end
end Rt
open Rt
theorem t_sort {w : World} {B m cap : Nat} {a : Option Addr} {x : Nat → Int} {τ : Nat → Nat} (h : Fx.Own w B 28 1 (.slice a m cap) m (fun q => .int .u64 (x (τ q)))) (hB : B ≤ w.heap.size) (hm : m ≤ 32) :
    Calls Try.prog 19 #[.slice a m cap] w fun e w' => e = .returned (.tuple #[]) ∧ ∃ d2 : Array Int, d2.size = m ∧ Sort.PermIn 0 m (dT x τ m) d2 ∧ Sort.SortedIn Sort.ltInt 0 m d2 ∧ Fx.Own w' B 28 1 (.slice a m cap) m (lsU d2.toList) ∧ Below B w w' :=
  (s_sort (d := dT x τ m) (h.congr dT_rv) hB dT_size (by omega)).mono fun e w' ⟨d2, h1, h2, h3, h4, h5, h6⟩ => ⟨h1, d2, h2, h3, h4, h5.congr fun j hj => gA_lsU j (by omega), h6⟩
end Go.Proofs.Ytahbiajdgealnaa
namespace Go.Proofs.Ytahbiajdgealnaa.Fx
open Go.RowKit
section
variable {P : Program} {n0 : Nat} {Q : Post} {f : Nat → Value} {w : World} {ops : Array Oper} {rest : List Oper} {o : Oper}
theorem L.lo {T E : TypeId} {x lo : Operand} {a : Option Addr} {B n c s m : Nat} {k : IntKind} {j : Nat} {y : Nat → Value} (hw : Region.wanted o (yf ops f) = true) (hd : inn n0 o.dst = true) (ho : o.op = .slice T x (some lo) none none) (hx : ev f x = .slice a n c) (hl : ev f lo = .int k (j : Int)) (hu : P.underlying T = some (.slice E)) (hs : (P.info? E).map (·.size) = some s) (hj : n = j + m) (hown : Own w B E s (.slice a n c) n y)
    (hc : ∀ a', Arr w a' m s (fun p => y (j * s + p)) → L P n0 ops Q rest (put f o.dst (.slice a' m (c - j))) w) : L P n0 ops Q (o :: rest) f w := by
  by_cases h0 : n = 0
  · obtain rfl : j = 0 := by omega
    obtain rfl : m = 0 := by omega
    subst h0
    rcases hown.2 with ⟨h1, _⟩ | ⟨g, cap, cur, h1, _, _, hn, _⟩
    · simp only [Value.slice.injEq] at h1
      obtain ⟨rfl, _, rfl⟩ := h1
      obtain ⟨i, hi', _⟩ := Option.map_eq_some_iff.1 hs
      refine Lv _ (?_ : Runs P f o w (.slice none 0 0)) (hc none fun h => absurd h (Nat.lt_irrefl 0)) hw hd
      unfold Runs execOp
      simp only [ho, hx, hl, Option.map_some, Option.map_none]
      simp [Instr.sliceAt, Instr.slice, underlying, hu, Instr.sliceBounds, Instr.sliceBound, asIntOf, sizeOf, typeInfo, hi']
    simp only [Value.slice.injEq] at h1
    obtain ⟨rfl, _, rfl⟩ := h1
    exact Lv _ (x_sliceLo2 (A := if c = 0 then some ⟨g, 0, none⟩ else some ⟨g, 0 + 0 * s, none⟩) (n' := 0) (c' := c - 0) ho hx hl hu hs (Nat.le_refl _) rfl rfl rfl) (hc _ fun h => absurd h (Nat.lt_irrefl 0)) hw hd
  obtain ⟨g, c2, e1, hB, hg, hnc, hcel⟩ := hown.form (by omega)
  simp only [Value.slice.injEq] at e1
  obtain ⟨rfl, _, rfl⟩ := e1
  refine Lv _ (x_sliceLo2 (A := if c = j then some ⟨g, 0, none⟩ else some ⟨g, 0 + j * s, none⟩) (n' := m) (c' := c - j) ho hx hl hu hs (by omega) rfl (by omega) rfl) (hc _ fun hm => ?_) hw hd
  rw [if_neg (by omega)]
  refine ⟨g, _, rfl, fun p hp => ?_⟩
  have hlt : j * s + p < n * s := by
    have : n * s = j * s + m * s := by rw [hj, Nat.add_mul]
    omega
  have := hcel (j * s + p) hlt
  rw [Nat.zero_add] at this
  rw [Nat.zero_add]; exact this
theorem Own.arrLe {B n c s j : Nat} {E : TypeId} {a : Option Addr} {y : Nat → Value} (h : Own w B E s (.slice a n c) n y) (hj : j ≤ n) : Arr w a j s y := fun h0 => by
  obtain ⟨g, c2, e1, hB, hg, hnc, hcel⟩ := h.form (by omega)
  simp only [Value.slice.injEq] at e1
  refine ⟨g, 0, e1.1, fun p hp => hcel p ?_⟩
  exact Nat.lt_of_lt_of_le hp (Nat.mul_le_mul_right s hj)
theorem Own.weak {B B' n s : Nat} {E : TypeId} {v : Value} {y : Nat → Value} (h : Own w B E s v n y) (hB : B' ≤ B) : Own w B' E s v n y := by
  refine ⟨h.1, ?_⟩
  rcases h.2 with hn | ⟨g, cap, cur, hv, hb, rest⟩
  · exact .inl hn
  exact .inr ⟨g, cap, cur, hv, Nat.le_trans hB hb, rest⟩
end
end Go.Proofs.Ytahbiajdgealnaa.Fx
namespace Go.Proofs.Ytahbiajdgealnaa
open Go.RowKit
open Rt
set_option maxRecDepth 10000
theorem t_those1 (x p : Nat → Int) (n tp mb : Nat) (w : World) (hT : Fx.Blk w tp 1 (fun _ => .map (some mb)) 42) (hM : Fx.Mp w mb n x (fun j => .int .u64 (p j))) (h : TrI n x p) :
    Calls Try.prog 14 #[(pt tp), .func (.func 15) #[] #[]] w fun e w' => ∃ a c l, e = .returned (.slice a (List.length l) c) ∧ Fx.Own w' w.heap.size 28 1 (.slice a l.length c) l.length (lsU l) ∧ l.Pairwise (· < ·) ∧ (∀ k, k ∈ l ↔ (hasK x n k = true ∧ True)) ∧ l.length ≤ 32 ∧ Below w.heap.size w w' := by
 have hsm := h.small
 refine Fx.enter Try.func14 rfl (n := 27) rfl (by rfl) ?_
 refine Fx.Ws (Fx.Wl (Fx.Lv (.slice none 0 0) (Fx.x_assign rfl rfl) (Fx.Ln (Fx.sN (Fx.Ws (Fx.Ws (Fx.Wl (Fx.Lv ((pt tp)) (Fx.x_move rfl rfl) (Fx.Lv (.bool false) (Fx.x_eqNil rfl rfl rfl (by kernel_rfl)) (Fx.Ln (Fx.sN (Fx.Wc (b := false) rfl (fun h => nomatch h) (fun _ => Fx.Wk (Fx.sN (Fx.Ws (Fx.Ws (Fx.Wl (Fx.Lv ((pt tp)) (Fx.x_move rfl rfl) (Fx.Lv ((pt tp)) (Fx.x_nil rfl rfl) (Fx.Lv ((pt tp)) (Fx.x_field rfl rfl Try.underlying42 rfl (s := 1) (by kernel_rfl) rfl rfl) (Fx.Lv (.map (some mb)) (Fx.x_load1 (x := fun _ => .map (some mb)) rfl rfl (by kernel_rfl) hT.cel (i := 0) (by omega) (by omega) rfl) (Fx.L.range (by rfl) rfl rfl rfl hM Try.underlying40 fun g1 w1 eg1 m1 s1 z1 => ?_))))))))))))))))))))))
 have m2 := hT.stp s1 hT.ne
 have m3 := hM.up s1.old
 have b1 := s1.below (Below.refl w.heap.size w) (Below.refl w.heap.size w).size (Below.refl w.heap.size w).size
 have lg1 : w.heap.size ≤ g1 := by rw [eg1]; exact (Below.refl w.heap.size w).size
 have tg1 : g1 < w1.heap.size := m1.lt
 clear eg1
 refine Fx.Ln (Fx.sN (Fx.W.block ?_))
 have m4 : Fx.Own w1 w.heap.size 28 1 (.slice none 0 0) 0 (fun q => .int .u64 (x ((fun _ => 0 : Nat → Nat) q))) := Fx.Own.nil _ _ _ _ _
 refine Fx.W.loopE (fun kk f w_ => ∃ m : Nat, ∃ τ : Nat → Nat, ∃ S : Nat → Bool, ∃ a : Option Addr, ∃ cap : Nat, ThS n (fun i => (fun k => True) (x i)) S m τ kk ∧ f 0 = (pt tp) ∧ f 1 = .func (.func 15) #[] #[] ∧ f 4 = .slice a (m) (cap) ∧ f 12 = (pt g1) ∧ Fx.Blk w_ tp 1 (fun _ => .map (some mb)) 42 ∧ Fx.Mp w_ mb n x (fun j => .int .u64 (p j)) ∧ Fx.It w_ g1 mb n S ∧ Fx.Own w_ w.heap.size 28 1 (.slice a (m) (cap)) m (fun q => .int .u64 (x (τ q))) ∧ Below w.heap.size w w_) (Fx.unseen (fun _ => false) n) ⟨0, (fun _ => 0), (fun _ => false), none, 0, (ThS.start n _ _), (by rfl), (by rfl), (by rfl), (by rfl), m2, m3, m1, m4, b1⟩ ?_
 rintro kk f1 w2 ⟨m, τ, S, a, cap, hth, h1, h2, h3, h4, m5, m6, m7, m8, b2⟩
 have hml := hth.le
 refine Fx.Ws (Fx.Wl (Fx.L.next (by rfl) rfl rfl h4 m6 m7 (fun hall1 => ?_) (fun it1 w3 hi1 hS1 m9 mc1 s2 z2 => ?_)))
 ·skip
  refine Fx.Lv (.bool false) (Fx.x_extract rfl rfl rfl) (Fx.Ln (Fx.sN (Fx.Ws (Fx.Wc (b := false) rfl (fun h => nomatch h) (fun _ => Fx.W.exit (Fx.seqX (Fx.lpX (Fx.blkX (Fx.sN (Fx.Ws (Fx.Wl (Fx.Lv (.slice a (m) (cap)) (Fx.x_move rfl h3) (Fx.L.call (by rfl) (Fx.rC (args := [.slice a (m) (cap)]) rfl rfl Try.func19 rfl rfl) rfl ((t_sort m8 b2.size (by omega)).mono ?_))))))))))))))
  rintro e9 w4 ⟨he, d2, hz2, hp2, hs2, m10, hb1⟩
  refine ⟨_, he, ?_⟩
  clear he
  have b3 := b2.trans hb1
  refine Fx.Ln (Fx.sN (Fx.Ws (Fx.Wl (Fx.Lv (.slice a (m) (cap)) (Fx.x_move rfl h3) (Fx.Lv (.slice a (m) (cap)) (Fx.x_assign rfl rfl) (Fx.Ln (Fx.sN (Fx.Wr (⟨.slice a (m) (cap), Fx.rV Try.results14 (by exact rfl), ?_⟩)))))))))
  obtain ⟨f1, f2⟩ := those_fin (Q := fun k => True) hth hall1 h.inj hp2 hs2 hz2
  have hm32 : m ≤ 32 := by omega
  rw [show m = d2.toList.length by rw [Array.length_toList]; exact hz2.symm] at m10 hm32 ⊢
  exact ⟨a, cap, d2.toList, rfl, m10, f1, f2, hm32, b3⟩
 skip
 have hcm1 := m7.chm s2
 have m11 := m5.chM hcm1
 have m12 := m6.chM hcm1 (m7.rb.symm)
 have m13 := m8.chM hcm1
 have b4 := s2.below b2 b2.size (by omega)
 refine Fx.Lv (.bool true) (Fx.x_extract rfl rfl rfl) (Fx.Ln (Fx.sN (Fx.Ws (Fx.Wc (b := true) rfl (fun _ => Fx.Wk (Fx.sN (Fx.W.block (Fx.Ws (Fx.Wl (Fx.Lv (.tuple #[.int .u64 (x it1), .int .u64 (p it1)]) (Fx.x_entry (key := x) (val := fun j => .int .u64 (p j)) (i := it1) rfl h4 m12 mc1 hi1) ?_)))))) (fun h => nomatch h)))))
 refine Fx.Lv (.int .u64 (x it1)) (Fx.x_extract rfl rfl rfl) (Fx.Lv (.int .u64 (x it1)) (Fx.x_assign rfl rfl) (Fx.Ln (Fx.sN (Fx.Ws (Fx.Wl (Fx.Lv (.func (.func 15) #[] #[]) (Fx.x_move rfl h2) (Fx.Lv (.int .u64 (x it1)) (Fx.x_move rfl rfl) (Fx.L.call (by rfl) (Fx.r_clo (args := [.int .u64 (x it1)]) rfl rfl rfl (all := #[.int .u64 (x it1)]) rfl Try.func15 rfl rfl) rfl ((t_cl1 _ _).mono ?_)))))))))
 rintro e v1 ⟨he, hv1⟩
 subst v1
 refine ⟨.bool true, by rw [he], ?_⟩
 clear he
 refine Fx.Ln (Fx.sN (Fx.Wc (b := true) rfl (fun _ => Fx.Wl (Fx.Lv (.slice a (m) (cap)) (Fx.x_move rfl h3) ?_)) (fun h => nomatch h)))
 refine Fx.Lv (.int .u64 (x it1)) (Fx.x_move rfl rfl) (Fx.L.bslice (vs := [(0, .int .u64 (x it1))]) (s := 1) (zc := Fx.rv .u64 (fun _ => 0)) (y := Fx.ovr (fun j => (Fx.rv .u64 (fun _ => 0)) (j % 1)) (0 * 1) 1 (fun _ => .int .u64 (x it1))) (by rfl) rfl rfl Try.underlying33 (by kernel_rfl) (by rfl) (by rfl) (by kernel_rfl) (by rw [Fx.fill_step (off := 0 * 1) (s := 1) (y := fun _ => .int .u64 (x it1)) rfl (Fx.cells_one (by rfl)) (by rfl)]; rfl) rfl fun g2 w5 eg2 m14 s3 z3 => ?_)
 have m15 := m11.stp s3 m11.ne
 have m16 := m12.up s3.old
 have m17 := m13.stp s3 (m13.notNew (Nat.le_refl _))
 have m19 := m9.up s3.old
 have b5 := s3.below b4 b4.size b4.size
 have lg2 : w.heap.size ≤ g2 := by rw [eg2]; exact b4.size
 have ng2m15 : tp ≠ g2 := by rw [eg2]; exact Nat.ne_of_lt (m11.lt)
 have ng2m16 : mb ≠ g2 := by rw [eg2]; exact Nat.ne_of_lt (m12.lt)
 have ng2m17 : (.slice a (m) (cap) : Value).ownBlock ≠ some g2 := by rw [eg2]; exact m13.notNew (Nat.le_refl _)
 have tg2 : g2 < w5.heap.size := m14.lt
 clear eg2
 refine Fx.L.app (B := w.heap.size) (s := 1) (bytes := 8) (k := m) (m := 1) (v := .slice a (m) (cap)) (x := fun q => .int .u64 (x (τ q))) (by rfl) rfl rfl rfl Try.underlying33 (by kernel_rfl) (by kernel_rfl) rfl rfl m17 m14.cel (fun j hj => by unfold Fx.ovr; split <;> rfl) (by omega) (by omega) (by omega) b5.size fun g3 cap1 w6 ho1 hg1 hgv1 hlt1 => ?_
 have hct1 := Fx.ChT.of_grown hg1 m17
 have m21 := m15.chT hct1 (by decide)
 have m22 := m16.chT hct1 (by decide)
 have m24 := m19.chT hct1 (by decide)
 have m20 : Fx.Own w6 w.heap.size 28 1 (.slice (some ⟨g3, 0, none⟩) (m + 1) cap1) (m + 1) (fun q => .int .u64 (x (Fx.putI τ m it1 q))) := (ho1.congr tau_app)
 have b6 : Below w.heap.size w w6 := Fx.Below.grow b5 hg1 b5.size (fun q hq => (m17.ge hq).1)
 refine Fx.Lv (.slice (some ⟨g3, 0, none⟩) (m + 1) (cap1)) (Fx.x_assign rfl rfl) (Fx.Ln (Fx.blkN ?_))
 skip
 refine Fx.lpN ⟨Fx.unseen (Fx.putI S it1 true) n, (by have h1 := Fx.unseen_put hS1 n hi1; have h2 := hth.kk; omega), m + 1, Fx.putI τ m it1, Fx.putI S it1 true, (some ⟨g3, 0, none⟩), cap1, (hth.take hi1 hS1 trivial), h1, h2, (by rfl), h4, m21, m22, m24, m20, b6⟩ (by decide)
theorem t_those2 (x p : Nat → Int) (n tp mb : Nat) (w : World) (hT : Fx.Blk w tp 1 (fun _ => .map (some mb)) 42) (hM : Fx.Mp w mb n x (fun j => .int .u64 (p j))) (h : TrI n x p) (tb ib : Nat) (id : Int) (hb1 : Fx.Blk w tb 1 (fun _ => (pt tp)) 24) (hb2 : Fx.Blk w ib 1 (fun _ => .int .u64 id) 28) :
    Calls Try.prog 14 #[(pt tp), .func (.func 17) #[] #[(pt tb), (pt ib)]] w fun e w' => ∃ a c l, e = .returned (.slice a (List.length l) c) ∧ Fx.Own w' w.heap.size 28 1 (.slice a l.length c) l.length (lsU l) ∧ l.Pairwise (· < ·) ∧ (∀ k, k ∈ l ↔ (hasK x n k = true ∧ id ∈ upK x p n 4 k)) ∧ l.length ≤ 32 ∧ Below w.heap.size w w' := by
 have hsm := h.small
 have ltb := hb1.lt
 have lib := hb2.lt
 refine Fx.enter Try.func14 rfl (n := 27) rfl (by rfl) ?_
 refine Fx.Ws (Fx.Wl (Fx.Lv (.slice none 0 0) (Fx.x_assign rfl rfl) (Fx.Ln (Fx.sN (Fx.Ws (Fx.Ws (Fx.Wl (Fx.Lv ((pt tp)) (Fx.x_move rfl rfl) (Fx.Lv (.bool false) (Fx.x_eqNil rfl rfl rfl (by kernel_rfl)) (Fx.Ln (Fx.sN (Fx.Wc (b := false) rfl (fun h => nomatch h) (fun _ => Fx.Wk (Fx.sN (Fx.Ws (Fx.Ws (Fx.Wl (Fx.Lv ((pt tp)) (Fx.x_move rfl rfl) (Fx.Lv ((pt tp)) (Fx.x_nil rfl rfl) (Fx.Lv ((pt tp)) (Fx.x_field rfl rfl Try.underlying42 rfl (s := 1) (by kernel_rfl) rfl rfl) (Fx.Lv (.map (some mb)) (Fx.x_load1 (x := fun _ => .map (some mb)) rfl rfl (by kernel_rfl) hT.cel (i := 0) (by omega) (by omega) rfl) (Fx.L.range (by rfl) rfl rfl rfl hM Try.underlying40 fun g1 w1 eg1 m1 s1 z1 => ?_))))))))))))))))))))))
 have m2 := hT.stp s1 hT.ne
 have m3 := hM.up s1.old
 have m4 := hb1.stp s1 hb1.ne
 have m5 := hb2.stp s1 hb2.ne
 have b1 := s1.below (Below.refl w.heap.size w) (Below.refl w.heap.size w).size (Below.refl w.heap.size w).size
 have lg1 : w.heap.size ≤ g1 := by rw [eg1]; exact (Below.refl w.heap.size w).size
 have tg1 : g1 < w1.heap.size := m1.lt
 clear eg1
 refine Fx.Ln (Fx.sN (Fx.W.block ?_))
 have m6 : Fx.Own w1 w.heap.size 28 1 (.slice none 0 0) 0 (fun q => .int .u64 (x ((fun _ => 0 : Nat → Nat) q))) := Fx.Own.nil _ _ _ _ _
 refine Fx.W.loopE (fun kk f w_ => ∃ m : Nat, ∃ τ : Nat → Nat, ∃ S : Nat → Bool, ∃ a : Option Addr, ∃ cap : Nat, ThS n (fun i => (fun k => id ∈ upK x p n 4 k) (x i)) S m τ kk ∧ f 0 = (pt tp) ∧ f 1 = .func (.func 17) #[] #[(pt tb), (pt ib)] ∧ f 4 = .slice a (m) (cap) ∧ f 12 = (pt g1) ∧ Fx.Blk w_ tp 1 (fun _ => .map (some mb)) 42 ∧ Fx.Mp w_ mb n x (fun j => .int .u64 (p j)) ∧ Fx.Blk w_ tb 1 (fun _ => (pt tp)) 24 ∧ Fx.Blk w_ ib 1 (fun _ => .int .u64 id) 28 ∧ Fx.It w_ g1 mb n S ∧ Fx.Own w_ w.heap.size 28 1 (.slice a (m) (cap)) m (fun q => .int .u64 (x (τ q))) ∧ Below w.heap.size w w_) (Fx.unseen (fun _ => false) n) ⟨0, (fun _ => 0), (fun _ => false), none, 0, (ThS.start n _ _), (by rfl), (by rfl), (by rfl), (by rfl), m2, m3, m4, m5, m1, m6, b1⟩ ?_
 rintro kk f1 w2 ⟨m, τ, S, a, cap, hth, h1, h2, h3, h4, m7, m8, m9, m10, m11, m12, b2⟩
 have hml := hth.le
 refine Fx.Ws (Fx.Wl (Fx.L.next (by rfl) rfl rfl h4 m8 m11 (fun hall1 => ?_) (fun it1 w3 hi1 hS1 m13 mc1 s2 z2 => ?_)))
 ·skip
  refine Fx.Lv (.bool false) (Fx.x_extract rfl rfl rfl) (Fx.Ln (Fx.sN (Fx.Ws (Fx.Wc (b := false) rfl (fun h => nomatch h) (fun _ => Fx.W.exit (Fx.seqX (Fx.lpX (Fx.blkX (Fx.sN (Fx.Ws (Fx.Wl (Fx.Lv (.slice a (m) (cap)) (Fx.x_move rfl h3) (Fx.L.call (by rfl) (Fx.rC (args := [.slice a (m) (cap)]) rfl rfl Try.func19 rfl rfl) rfl ((t_sort m12 b2.size (by omega)).mono ?_))))))))))))))
  rintro e9 w4 ⟨he, d2, hz2, hp2, hs2, m14, hb1⟩
  refine ⟨_, he, ?_⟩
  clear he
  have b3 := b2.trans hb1
  refine Fx.Ln (Fx.sN (Fx.Ws (Fx.Wl (Fx.Lv (.slice a (m) (cap)) (Fx.x_move rfl h3) (Fx.Lv (.slice a (m) (cap)) (Fx.x_assign rfl rfl) (Fx.Ln (Fx.sN (Fx.Wr (⟨.slice a (m) (cap), Fx.rV Try.results14 (by exact rfl), ?_⟩)))))))))
  obtain ⟨f1, f2⟩ := those_fin (Q := fun k => id ∈ upK x p n 4 k) hth hall1 h.inj hp2 hs2 hz2
  have hm32 : m ≤ 32 := by omega
  rw [show m = d2.toList.length by rw [Array.length_toList]; exact hz2.symm] at m14 hm32 ⊢
  exact ⟨a, cap, d2.toList, rfl, m14, f1, f2, hm32, b3⟩
 skip
 have hcm1 := m11.chm s2
 have m15 := m7.chM hcm1
 have m16 := m8.chM hcm1 (m11.rb.symm)
 have m17 := m9.chM hcm1
 have m18 := m10.chM hcm1
 have m19 := m12.chM hcm1
 have b4 := s2.below b2 b2.size (by omega)
 refine Fx.Lv (.bool true) (Fx.x_extract rfl rfl rfl) (Fx.Ln (Fx.sN (Fx.Ws (Fx.Wc (b := true) rfl (fun _ => Fx.Wk (Fx.sN (Fx.W.block (Fx.Ws (Fx.Wl (Fx.Lv (.tuple #[.int .u64 (x it1), .int .u64 (p it1)]) (Fx.x_entry (key := x) (val := fun j => .int .u64 (p j)) (i := it1) rfl h4 m16 mc1 hi1) ?_)))))) (fun h => nomatch h)))))
 refine Fx.Lv (.int .u64 (x it1)) (Fx.x_extract rfl rfl rfl) (Fx.Lv (.int .u64 (x it1)) (Fx.x_assign rfl rfl) (Fx.Ln (Fx.sN (Fx.Ws (Fx.Wl (Fx.Lv (.func (.func 17) #[] #[(pt tb), (pt ib)]) (Fx.x_move rfl h2) (Fx.Lv (.int .u64 (x it1)) (Fx.x_move rfl rfl) ?_)))))))
 by_cases c19 : (decide (id ∈ upK x p n 4 (x it1))) = true
 ·refine Fx.L.call (by rfl) (Fx.r_clo (args := [.int .u64 (x it1)]) rfl rfl rfl (all := #[.int .u64 (x it1), (pt tb), (pt ib)]) rfl Try.func17 rfl rfl) rfl ((t_cl2 x p n tp mb _ m15 m16 h (x it1) tb ib id m17 m18).mono ?_)
  rintro e w5 ⟨he, hb2⟩
  refine ⟨.bool true, by rw [he, c19], ?_⟩
  clear he
  have s3 := Fx.Sb hb2
  have m20 := m15.stp s3 m15.ne
  have m21 := m16.up s3.old
  have m22 := m17.stp s3 m17.ne
  have m23 := m18.stp s3 m18.ne
  have m24 := m19.stp s3 (m19.notNew (Nat.le_refl _))
  have m26 := m13.up s3.old
  have b5 := s3.below b4 b4.size b4.size
  refine Fx.Ln (Fx.sN (Fx.Wc (b := true) rfl (fun _ => Fx.Wl (Fx.Lv (.slice a (m) (cap)) (Fx.x_move rfl h3) ?_)) (fun h => nomatch h)))
  refine Fx.Lv (.int .u64 (x it1)) (Fx.x_move rfl rfl) (Fx.L.bslice (vs := [(0, .int .u64 (x it1))]) (s := 1) (zc := Fx.rv .u64 (fun _ => 0)) (y := Fx.ovr (fun j => (Fx.rv .u64 (fun _ => 0)) (j % 1)) (0 * 1) 1 (fun _ => .int .u64 (x it1))) (by rfl) rfl rfl Try.underlying33 (by kernel_rfl) (by rfl) (by rfl) (by kernel_rfl) (by rw [Fx.fill_step (off := 0 * 1) (s := 1) (y := fun _ => .int .u64 (x it1)) rfl (Fx.cells_one (by rfl)) (by rfl)]; rfl) rfl fun g2 w6 eg2 m27 s4 z3 => ?_)
  have m28 := m20.stp s4 m20.ne
  have m29 := m21.up s4.old
  have m30 := m22.stp s4 m22.ne
  have m31 := m23.stp s4 m23.ne
  have m32 := m24.stp s4 (m24.notNew (Nat.le_refl _))
  have m34 := m26.up s4.old
  have b6 := s4.below b5 b5.size b5.size
  have lg2 : w.heap.size ≤ g2 := by rw [eg2]; exact b5.size
  have ng2m28 : tp ≠ g2 := by rw [eg2]; exact Nat.ne_of_lt (m20.lt)
  have ng2m29 : mb ≠ g2 := by rw [eg2]; exact Nat.ne_of_lt (m21.lt)
  have ng2m30 : tb ≠ g2 := by rw [eg2]; exact Nat.ne_of_lt (m22.lt)
  have ng2m31 : ib ≠ g2 := by rw [eg2]; exact Nat.ne_of_lt (m23.lt)
  have ng2m32 : (.slice a (m) (cap) : Value).ownBlock ≠ some g2 := by rw [eg2]; exact m24.notNew (Nat.le_refl _)
  have tg2 : g2 < w6.heap.size := m27.lt
  clear eg2
  refine Fx.L.app (B := w.heap.size) (s := 1) (bytes := 8) (k := m) (m := 1) (v := .slice a (m) (cap)) (x := fun q => .int .u64 (x (τ q))) (by rfl) rfl rfl rfl Try.underlying33 (by kernel_rfl) (by kernel_rfl) rfl rfl m32 m27.cel (fun j hj => by unfold Fx.ovr; split <;> rfl) (by omega) (by omega) (by omega) b6.size fun g3 cap1 w7 ho1 hg1 hgv1 hlt1 => ?_
  have hct1 := Fx.ChT.of_grown hg1 m32
  have m36 := m28.chT hct1 (by decide)
  have m37 := m29.chT hct1 (by decide)
  have m38 := m30.chT hct1 (by decide)
  have m39 := m31.grown hg1 (m32.not (by omega))
  have ng3m39 : ib ≠ g3 := fun e => hgv1.elim (fun e2 => (m32.not (by omega)) (by rw [e]; exact e2)) (fun e2 => by have := m31.lt; omega)
  have m41 := m34.chT hct1 (by decide)
  have m35 : Fx.Own w7 w.heap.size 28 1 (.slice (some ⟨g3, 0, none⟩) (m + 1) cap1) (m + 1) (fun q => .int .u64 (x (Fx.putI τ m it1 q))) := (ho1.congr tau_app)
  have b7 : Below w.heap.size w w7 := Fx.Below.grow b6 hg1 b6.size (fun q hq => (m32.ge hq).1)
  refine Fx.Lv (.slice (some ⟨g3, 0, none⟩) (m + 1) (cap1)) (Fx.x_assign rfl rfl) (Fx.Ln (Fx.blkN ?_))
  skip
  refine Fx.lpN ⟨Fx.unseen (Fx.putI S it1 true) n, (by have h1 := Fx.unseen_put hS1 n hi1; have h2 := hth.kk; omega), m + 1, Fx.putI τ m it1, Fx.putI S it1 true, (some ⟨g3, 0, none⟩), cap1, (hth.take hi1 hS1 (of_decide_eq_true c19)), h1, h2, (by rfl), h4, m36, m37, m38, m39, m41, m35, b7⟩ (by decide)
 rw [Bool.not_eq_true] at c19
 refine Fx.L.call (by rfl) (Fx.r_clo (args := [.int .u64 (x it1)]) rfl rfl rfl (all := #[.int .u64 (x it1), (pt tb), (pt ib)]) rfl Try.func17 rfl rfl) rfl ((t_cl2 x p n tp mb _ m15 m16 h (x it1) tb ib id m17 m18).mono ?_)
 rintro e w8 ⟨he, hb3⟩
 refine ⟨.bool false, by rw [he, c19], ?_⟩
 clear he
 have s5 := Fx.Sb hb3
 have m42 := m15.stp s5 m15.ne
 have m43 := m16.up s5.old
 have m44 := m17.stp s5 m17.ne
 have m45 := m18.stp s5 m18.ne
 have m46 := m19.stp s5 (m19.notNew (Nat.le_refl _))
 have m48 := m13.up s5.old
 have b8 := s5.below b4 b4.size b4.size
 refine Fx.Ln (Fx.sN (Fx.Wc (b := false) rfl (fun h => nomatch h) (fun _ => Fx.Wk (Fx.blkN ?_))))
 skip
 refine Fx.lpN ⟨Fx.unseen (Fx.putI S it1 true) n, (by have h1 := Fx.unseen_put hS1 n hi1; have h2 := hth.kk; omega), m, τ, Fx.putI S it1 true, a, cap, (hth.skip hi1 hS1 (of_decide_eq_false c19)), h1, h2, h3, h4, m42, m43, m44, m45, m48, m46, b8⟩ (by decide)
theorem t_list (x p : Nat → Int) (n tp mb : Nat) (w : World) (hT : Fx.Blk w tp 1 (fun _ => .map (some mb)) 42) (hM : Fx.Mp w mb n x (fun j => .int .u64 (p j))) (h : TrI n x p) :
    Calls Try.prog 10 #[(pt tp)] w fun e w' => ∃ a c l, e = .returned (.slice a (List.length l) c) ∧ Fx.Own w' w.heap.size 28 1 (.slice a l.length c) l.length (lsU l) ∧ l.Pairwise (· < ·) ∧ (∀ k, k ∈ l ↔ (hasK x n k = true ∧ True)) ∧ l.length ≤ 32 ∧ Below w.heap.size w w' := by
 refine Fx.enter Try.func10 rfl (n := 5) rfl (by rfl) ?_
 refine Fx.Ws (Fx.Wl (Fx.Lv (.slice none 0 0) (Fx.x_assign rfl rfl) (Fx.Ln (Fx.sN (Fx.Ws (Fx.Wl (Fx.Lv ((pt tp)) (Fx.x_move rfl rfl) (Fx.L.call (by rfl) (Fx.rC (args := [(pt tp), .func (.func 15) #[] #[]]) rfl rfl Try.func14 rfl rfl) rfl ((t_those1 x p n tp mb _ hT hM h).mono ?_)))))))))
 rintro e9 w1 ⟨la1, lc1, ll1, he, m1, hq1, hq2, hq3, hb1⟩
 refine ⟨_, he, ?_⟩
 clear he
 have s1 := Fx.Sb hb1
 have b1 := s1.below (Below.refl w.heap.size w) (Below.refl w.heap.size w).size (Below.refl w.heap.size w).size
 refine Fx.Lv (.slice la1 (ll1.length) (lc1)) (Fx.x_assign rfl rfl) (Fx.Ln (Fx.sN (Fx.Wr (⟨.slice la1 (ll1.length) (lc1), Fx.rV Try.results10 (by exact rfl), ?_⟩))))
 exact ⟨la1, lc1, ll1, rfl, m1.weak (by have := b1.size; first | exact Nat.le_refl _ | exact (Below.refl w.heap.size w).size), hq1, hq2, hq3, b1⟩
theorem t_below (x p : Nat → Int) (n tp mb : Nat) (w : World) (hT : Fx.Blk w tp 1 (fun _ => .map (some mb)) 42) (hM : Fx.Mp w mb n x (fun j => .int .u64 (p j))) (h : TrI n x p) (id : Int) :
    Calls Try.prog 12 #[(pt tp), .int .u64 (id)] w fun e w' => ∃ a c l, e = .returned (.slice a (List.length l) c) ∧ Fx.Own w' w.heap.size 28 1 (.slice a l.length c) l.length (lsU l) ∧ l.Pairwise (· < ·) ∧ (∀ k, k ∈ l ↔ (hasK x n k = true ∧ id ∈ upK x p n 4 k)) ∧ l.length ≤ 32 ∧ Below w.heap.size w w' := by
 refine Fx.enter Try.func12 rfl (n := 8) rfl (by rfl) ?_
 refine Fx.Ws (Fx.Wl (Fx.L.box (m := 1) (y := fun _ => (pt tp)) (by rfl) rfl rfl (Fx.cells_one (by rfl)) rfl fun g1 w1 eg1 m1 s1 z1 => ?_))
 have m2 := hT.stp s1 hT.ne
 have m3 := hM.up s1.old
 have b1 := s1.below (Below.refl w.heap.size w) (Below.refl w.heap.size w).size (Below.refl w.heap.size w).size
 have lg1 : w.heap.size ≤ g1 := by rw [eg1]; exact (Below.refl w.heap.size w).size
 have ng1m2 : tp ≠ g1 := by rw [eg1]; exact Nat.ne_of_lt (hT.lt)
 have ng1m3 : mb ≠ g1 := by rw [eg1]; exact Nat.ne_of_lt (hM.lt)
 have tg1 : g1 < w1.heap.size := m1.lt
 clear eg1
 refine Fx.L.box (m := 1) (y := fun _ => .int .u64 (id)) (by rfl) rfl rfl (Fx.cells_one (by rfl)) rfl fun g2 w2 eg2 m4 s2 z2 => ?_
 have m5 := m2.stp s2 m2.ne
 have m6 := m3.up s2.old
 have m7 := m1.stp s2 m1.ne
 have b2 := s2.below b1 b1.size b1.size
 have lg2 : w.heap.size ≤ g2 := by rw [eg2]; exact b1.size
 have ng2m5 : tp ≠ g2 := by rw [eg2]; exact Nat.ne_of_lt (m2.lt)
 have ng2m6 : mb ≠ g2 := by rw [eg2]; exact Nat.ne_of_lt (m3.lt)
 have ng2m7 : g1 ≠ g2 := by rw [eg2]; exact Nat.ne_of_lt (m1.lt)
 have tg2 : g2 < w2.heap.size := m4.lt
 clear eg2
 refine Fx.Lv (.slice none 0 0) (Fx.x_assign rfl rfl) (Fx.Ln (Fx.sN (Fx.Ws (Fx.Wl (Fx.Lv ((pt tp)) (Fx.x_load1 (x := fun _ => (pt tp)) rfl rfl (by kernel_rfl) m7.cel (i := 0) (by omega) (by omega) rfl) (Fx.Lv (.func (.func 17) #[] #[(pt g1), (pt g2)]) (Fx.x_func (us := []) (vs := [(pt g1), (pt g2)]) rfl rfl rfl) (Fx.L.call (by rfl) (Fx.rC (args := [(pt tp), .func (.func 17) #[] #[(pt g1), (pt g2)]]) rfl rfl Try.func14 rfl rfl) rfl ((t_those2 x p n tp mb _ m5 m6 h g1 g2 id m7 m4).mono ?_))))))))
 rintro e9 w3 ⟨la1, lc1, ll1, he, m8, hq1, hq2, hq3, hb1⟩
 refine ⟨_, he, ?_⟩
 clear he
 have s3 := Fx.Sb hb1
 have b3 := s3.below b2 b2.size b2.size
 refine Fx.Lv (.slice la1 (ll1.length) (lc1)) (Fx.x_assign rfl rfl) (Fx.Ln (Fx.sN (Fx.Wr (⟨.slice la1 (ll1.length) (lc1), Fx.rV Try.results12 (by exact rfl), ?_⟩))))
 exact ⟨la1, lc1, ll1, rfl, m8.weak (by have := b3.size; first | exact Nat.le_refl _ | exact b2.size), hq1, hq2, hq3, b3⟩
end Go.Proofs.Ytahbiajdgealnaa
namespace Go.Proofs.Ytahbiajdgealnaa
open Go.RowKit Go Rt
set_option linter.unusedVariables false
namespace Rt
structure TrM where
  n : Nat
  x : Nat → Int
  p : Nat → Int
def TrM.zero : TrM := ⟨0, fun _ => 0, fun _ => 0⟩
def TrM.has (T : TrM) (k : Int) : Bool := hasK T.x T.n k
def TrM.par (T : TrM) (k : Int) : Int := parK T.x T.p T.n k
def TrM.path (T : TrM) (k : Int) : List Int := upK T.x T.p T.n 4 k
def TrM.err (T : TrM) (id pa : Int) : Int := addC T.x T.p T.n id pa
def TrM.put (T : TrM) (id pa : Int) : TrM := ⟨T.n + 1, Fx.putI T.x T.n id, Fx.putI T.p T.n pa⟩
def TrM.add (T : TrM) (id pa : Int) : TrM := if T.err id pa = 0 then T.put id pa else T
abbrev TrM.ok (T : TrM) : Prop := TrI T.n T.x T.p
theorem TrM.ok_add {T : TrM} (h : T.ok) {id pa : Int} (hb : 0 ≤ id ∧ id ≤ 18446744073709551615) : (T.add id pa).ok := by
  unfold TrM.add
  split
  · rename_i hc; exact TrI.put h hc hb
  exact h
structure TrW (w : World) (B tp mb : Nat) (T : TrM) : Prop where
  blk : Fx.Blk w tp 1 (fun _ => .map (some mb)) 42
  map : Fx.Mp w mb T.n T.x (fun j => .int .u64 (T.p j))
  inv : T.ok
  gt : B ≤ tp
  gm : B ≤ mb
section
variable {w w' : World} {B tp mb r : Nat} {T : TrM} {id pa k : Int}
theorem TrW.up (h : TrW w B tp mb T) (hb : Below w.heap.size w w') : TrW w' B tp mb T := ⟨h.blk.stp (Fx.Sb hb) (Nat.ne_of_lt h.blk.lt), h.map.up hb, h.inv, h.gt, h.gm⟩
theorem TrW.chT {Ts : List TypeId} (h : TrW w B tp mb T) (hc : Fx.ChT Ts w w') (h1 : Ts.contains 42 = false) : TrW w' B tp mb T := ⟨h.blk.chT hc h1, h.map.chT hc trivial, h.inv, h.gt, h.gm⟩
theorem TrW.chm (h : TrW w B tp mb T) (hs : Fx.Stp mb w w') : Fx.ChM mb w w' := h.map.chm hs
theorem TrW.chM (h : TrW w B tp mb T) (hc : Fx.ChM r w w') (ne : mb ≠ r) : TrW w' B tp mb T := ⟨h.blk.chM hc, h.map.chM hc ne, h.inv, h.gt, h.gm⟩
theorem TrW.weak {B' : Nat} (h : TrW w B tp mb T) (hB : B' ≤ B) : TrW w B' tp mb T := ⟨h.blk, h.map, h.inv, Nat.le_trans hB h.gt, Nat.le_trans hB h.gm⟩
theorem TrW.lt (h : TrW w B tp mb T) : mb < w.heap.size := h.map.lt
end
end Rt
theorem w_new (w : World) : Calls Try.prog 6 #[] w fun e w' => ∃ tp mb, e = .returned (.pointer (some ⟨tp, 0, none⟩)) ∧ w.heap.size ≤ mb ∧ TrW w' w.heap.size tp mb TrM.zero ∧ Below w.heap.size w w' :=
  (t_new (fun _ => 0) (fun _ => 0) w).mono fun e w' ⟨tp, mb, h1, h2, h3, h4, h5, h6⟩ => ⟨tp, mb, h1, h3, ⟨h4, h5, TrI.zero _ _, h2, h3⟩, h6⟩
theorem w_add {w : World} {B tp mb : Nat} {T : TrM} (id pa : Int) (h : TrW w B tp mb T) (hb : 0 ≤ id ∧ id ≤ 18446744073709551615) :
    Calls Try.prog 7 #[.pointer (some ⟨tp, 0, none⟩), .int .u64 id, .int .u64 pa] w fun e w' => e = .returned (.int .i64 (T.err id pa)) ∧ TrW w' B tp mb (T.add id pa) ∧ Fx.Stp mb w w' :=
  (t_add T.x T.p T.n tp mb id pa w h.blk h.map h.inv).mono fun e w' ⟨c, n2, x2, p2, h1, h2, h3, h4, h5⟩ => by
    cases h2 with
    | no hc h0 =>
      have hc : T.err id pa = c := hc
      subst hc
      refine ⟨h1, ⟨h3, ?_, TrM.ok_add h.inv hb, h.gt, h.gm⟩, h5⟩
      unfold TrM.add
      rw [if_neg h0]; exact h4
    | yes hc =>
      have hc : T.err id pa = 0 := hc
      refine ⟨by rw [hc]; exact h1, ⟨h3, ?_, TrM.ok_add h.inv hb, h.gt, h.gm⟩, h5⟩
      unfold TrM.add
      rw [if_pos hc]; exact h4
theorem w_has {w : World} {B tp mb : Nat} {T : TrM} (k : Int) (h : TrW w B tp mb T) :
    Calls Try.prog 8 #[.pointer (some ⟨tp, 0, none⟩), .int .u64 k] w fun e w' => e = .returned (.bool (T.has k)) ∧ w' = w := t_has T.x T.p T.n tp mb k w h.blk h.map
def OwL (w : World) (B : Nat) (a : Option Addr) (c : Nat) (l : List Int) : Prop := Fx.Own w B 28 1 (.slice a l.length c) l.length (lsU l)
theorem OwL.up {w w' : World} {B c : Nat} {a : Option Addr} {l : List Int} (h : OwL w B a c l) (hb : Below w.heap.size w w') : OwL w' B a c l := Fx.Own.up h hb
theorem w_path {w : World} {B tp mb : Nat} {T : TrM} (k : Int) (h : TrW w B tp mb T) :
    Calls Try.prog 11 #[.pointer (some ⟨tp, 0, none⟩), .int .u64 k] w fun e w' => ∃ a c, e = .returned (.slice a (T.path k).length c) ∧ OwL w' w.heap.size a c (T.path k) ∧ Below w.heap.size w w' :=
  t_path T.x T.p T.n tp mb 4 k w h.blk h.map h.inv.inj (h.inv.stop k) (h.inv.len k)
theorem w_list {w : World} {B tp mb : Nat} {T : TrM} (h : TrW w B tp mb T) :
    Calls Try.prog 10 #[.pointer (some ⟨tp, 0, none⟩)] w fun e w' => ∃ a c l, e = .returned (.slice a (List.length l) c) ∧ OwL w' w.heap.size a c l ∧ (l.Pairwise (· < ·) ∧ ∀ k, k ∈ l ↔ T.has k = true) ∧ l.length ≤ 32 ∧ Below w.heap.size w w' :=
  (t_list T.x T.p T.n tp mb w h.blk h.map h.inv).mono fun e w' ⟨a, c, l, h1, h2, h3, h4, h5⟩ => ⟨a, c, l, h1, h2, ⟨h3, fun k => by have := h4 k; rw [and_true] at this; exact this⟩, h5⟩
theorem w_below {w : World} {B tp mb : Nat} {T : TrM} (id : Int) (h : TrW w B tp mb T) :
    Calls Try.prog 12 #[.pointer (some ⟨tp, 0, none⟩), .int .u64 id] w fun e w' => ∃ a c l, e = .returned (.slice a (List.length l) c) ∧ OwL w' w.heap.size a c l ∧ (l.Pairwise (· < ·) ∧ ∀ k, k ∈ l ↔ (T.has k = true ∧ id ∈ T.path k)) ∧ l.length ≤ 32 ∧ Below w.heap.size w w' :=
  (t_below T.x T.p T.n tp mb w h.blk h.map h.inv id).mono fun e w' ⟨a, c, l, h1, h2, h3, h4, h5⟩ => ⟨a, c, l, h1, h2, ⟨h3, h4⟩, h5⟩
namespace Rt
section
variable {T U : TrM} {id pa k : Int}
structure SubT (U T : TrM) : Prop where
  has : ∀ k, U.has k = true → T.has k = true
  par : ∀ k, U.has k = true → U.par k = T.par k
theorem SubT.same (h : SubT U T) (hx : ∀ k, T.has k = true → U.has k = true) : ∀ k, U.path k = T.path k := fun k => by
  have e : ∀ k, U.has k = T.has k := fun k => by
    cases h1 : U.has k with
    | true => exact (h.has k h1).symm
    | false =>
      cases h2 : T.has k with
      | false => rfl
      | true => rw [hx k h2] at h1; cases h1
  exact upK_congr e (fun k hk => h.par k (hx k hk)) 4 k
theorem TrM.has_put (T : TrM) (id pa k : Int) : (T.put id pa).has k = (T.has k || decide (id = k)) := Rt.has_put id k
theorem TrM.par_put (T : TrM) (id pa k : Int) : (T.put id pa).par k = if id = k then pa else T.par k := Rt.par_put id pa k
end
end Rt
namespace Fx
theorem x_or40 {P : Program} {f : Nat → Value} {w : World} {o : Oper} {T T' : TypeId} {x y : Operand} {a b : Nat} (ho : o.op = .binOp .or T x y T') (hx : ev f x = .int .u64 (1099511627776 * (a : Int))) (hy : ev f y = .int .u64 (b : Int)) (ha : a ≤ 8388607) (hb : b < 1099511627776) : Runs P f o w (.int .u64 (1099511627776 * (a : Int) + b)) :=
  x_int ho hx hy (by
    have e : ((BitVec.ofInt 64 (1099511627776 * (a : Int)) ||| BitVec.ofInt 64 (b : Int)).toNat : Int) = 1099511627776 * (a : Int) + b := by
      rw [BitVec.toNat_or, BitVec.toNat_ofInt, BitVec.toNat_ofInt]
      rw [show ((1099511627776 * (a : Int)) % ((2 ^ 64 : Nat) : Int)).toNat = 1099511627776 * a by omega, show ((b : Int) % ((2 ^ 64 : Nat) : Int)).toNat = b by omega]
      have h := Nat.shiftLeft_add_eq_or_of_lt (i := 40) (b := b) (by omega) a
      rw [Nat.shiftLeft_eq] at h
      rw [show 1099511627776 * a = a * 2 ^ 40 by omega, ← h]
      omega
    have h := u64e (c := 1099511627776 * (a : Int) + b) (by omega) rfl
    simp only [binOp, Op.intBits]
    show (pure (Value.int .u64 (IntKind.u64.wrap ((BitVec.ofInt 64 (1099511627776 * (a : Int)) ||| BitVec.ofInt 64 (b : Int)).toNat : Int))) : Sem Value).run P w = _
    rw [e, h]; rfl)
theorem arr_of {w : World} {B c : Nat} {a : Option Addr} {l : List Int} (h : OwL w B a c l) : Fx.Arr w a l.length 1 (lsU l) := Own.arrLe h (Nat.le_refl _)
theorem arr_ofB {w : World} {B c g : Nat} {a : Option Addr} {l : List Int} (h : Own w B 28 1 (.slice (some ⟨g, 0, none⟩) l.length c) l.length (lsU l)) (e : a = some ⟨g, 0, none⟩) : Fx.Arr w a l.length 1 (lsU l) := by
  subst e; exact Own.arrLe h (Nat.le_refl _)
theorem arr_lit {w : World} {g n : Nat} {x : Nat → Value} {T : TypeId} {l : List Int} (h : Fx.Blk w g n x T) (hn : n = l.length) (e : ∀ j, j < l.length → x j = lsU l j) : Fx.Arr w (some ⟨g, 0, none⟩) l.length 1 (lsU l) := fun _ =>
  ⟨g, 0, rfl, fun i hi => by rw [← e i (by omega)]; exact h.cel i (by omega)⟩
end Fx
end Go.Proofs.Ytahbiajdgealnaa
namespace Go.Proofs.Ytahbiajdgealnaa
open Go.RowKit
open Rt
set_option maxRecDepth 10000
theorem t_same (l : List Int) (c c2 : Nat) (a a2 : Option Addr) (w : World) (hA1 : Fx.Arr w a l.length 1 (lsU l)) (hA2 : Fx.Arr w a2 l.length 1 (lsU l)) (hl : l.length ≤ 1000) :
    Calls Try.prog 9 #[.slice a (l.length) (c), .slice a2 (l.length) (c2)] w fun e w' => e = .returned (.bool true) ∧ Below w.heap.size w w' := by
 refine Fx.enter Try.func9 rfl (n := 26) rfl (by rfl) ?_
 refine Fx.Ws (Fx.Wl (Fx.Lv (.bool false) (Fx.x_assign rfl rfl) (Fx.Ln (Fx.sN (Fx.Ws (Fx.Ws (Fx.Wl (Fx.Lv (.slice a (l.length) (c)) (Fx.x_move rfl rfl) (Fx.Lv (.int .i64 ((l.length : Int))) (Fx.x_len rfl rfl rfl (by kernel_rfl)) (Fx.Lv (.slice a2 (l.length) (c2)) (Fx.x_move rfl rfl) (Fx.Lv (.int .i64 ((l.length : Int))) (Fx.x_len rfl rfl rfl (by kernel_rfl)) (Fx.Lv (.bool false) (Fx.x_neqF rfl rfl rfl rfl) (Fx.Ln (Fx.sN (Fx.Wc (b := false) rfl (fun h => nomatch h) (fun _ => Fx.Wk (Fx.sN (Fx.Ws (Fx.Ws (Fx.Wl (Fx.Lv (.int .i64 (0)) (Fx.x_assign rfl rfl) (Fx.Ln (Fx.sN (Fx.W.block (Fx.W.loop (fun f w_ => ∃ i : Nat, i ≤ l.length ∧ f 0 = .slice a (l.length) (c) ∧ f 1 = .slice a2 (l.length) (c2) ∧ f 5 = .int .i64 ((i : Int)) ∧ Below w.heap.size w w_) (fun f _ => ((l.length : Int) - intOf (f 5)).toNat) ⟨0, (by omega), (by rfl), (by rfl), Fx.ic, (Below.refl w.heap.size w)⟩ ?_)))))))))))))))))))))))))
 rintro f1 w1 ⟨i, hil, h1, h2, h3, b1⟩
 refine Fx.Ws (Fx.Ws (Fx.Wl (Fx.Lv (.int .i64 ((i : Int))) (Fx.x_move rfl h3) (Fx.Lv (.slice a (l.length) (c)) (Fx.x_move rfl h1) (Fx.Lv (.int .i64 ((l.length : Int))) (Fx.x_len rfl rfl rfl (by kernel_rfl)) ?_)))))
 by_cases c14 : (i : Int) < (l.length : Int)
 ·refine Fx.Lv (.bool true) (Fx.x_lssT rfl rfl rfl c14) (Fx.Ln (Fx.sN (Fx.Wc (b := true) rfl (fun _ => Fx.Wk (Fx.sN (Fx.Ws (Fx.W.block (Fx.Ws ?_))))) (fun h => nomatch h))))
  -- region 6 draws
  refine Fx.W.quiet (fun v1 => ∃ q, v1 = World.drewN w1 q) (by kernel_rfl) (by kernel_rfl) ⟨1, rfl⟩ ?_
  refine Fx.Qv (.slice a (l.length) (c)) (fun v1 hv1 => Fx.x_move rfl h1) (Fx.Qv (.int .i64 ((i : Int))) (fun v1 hv1 => Fx.x_move rfl h3) ?_)
  obtain ⟨bq1, oq1, eq1, m1⟩ := (hA1.up b1 rfl) (by omega)
  have lbq1 : bq1 < w1.heap.size := m1.lt (by omega)
  refine Fx.Qv ((pf bq1 (i + oq1))) (fun v1 hv1 => Fx.x_indexS rfl (rfl.trans (congrArg (fun q => Value.slice q (l.length) (c)) eq1)) rfl Try.underlying33 (s := 1) (by kernel_rfl) (by omega) (by omega) (by omega)) (Fx.Qv (.int .u64 (l.getD i 0)) (fun v1 hv1 => Fx.x_load1 (x := lsU l) rfl rfl (by kernel_rfl) (by obtain ⟨qd, rfl⟩ := hv1; exact m1) (i := i) (by omega) (by omega) rfl) (Fx.Qv (.slice a2 (l.length) (c2)) (fun v1 hv1 => Fx.x_move rfl h2) (Fx.Qv (.int .i64 ((i : Int))) (fun v1 hv1 => Fx.x_move rfl h3) ?_)))
  obtain ⟨bq2, oq2, eq2, m2⟩ := (hA2.up b1 rfl) (by omega)
  have lbq2 : bq2 < w1.heap.size := m2.lt (by omega)
  refine Fx.Qv ((pf bq2 (i + oq2))) (fun v1 hv1 => Fx.x_indexS rfl (rfl.trans (congrArg (fun q => Value.slice q (l.length) (c2)) eq2)) rfl Try.underlying33 (s := 1) (by kernel_rfl) (by omega) (by omega) (by omega)) (Fx.Qv (.int .u64 (l.getD i 0)) (fun v1 hv1 => Fx.x_load1 (x := lsU l) rfl rfl (by kernel_rfl) (by obtain ⟨qd, rfl⟩ := hv1; exact m2) (i := i) (by omega) (by omega) rfl) (Fx.Qv (.bool false) (fun v1 hv1 => Fx.x_neqF rfl rfl rfl rfl) (Fx.Qt.nil ?_)))
  rintro _ ⟨qd, rfl⟩
  obtain ⟨wq1, ewq1⟩ : ∃ v1, v1 = World.drewN w1 qd := ⟨_, rfl⟩
  rw [← ewq1]
  have s1 : Fx.Stp w1.heap.size w1 wq1 := by rw [ewq1]; exact Fx.Sb (bdrN w1 qd)
  have b2 := s1.below b1 b1.size b1.size
  clear ewq1
  refine Fx.sN (Fx.Wc (b := false) rfl (fun h => nomatch h) (fun _ => Fx.Wk (Fx.blkN (Fx.sN (Fx.Wl (Fx.Lv (.int .i64 ((i : Int))) (Fx.x_move rfl h3) (Fx.Lv (.int .i64 ((i : Int) + 1)) (Fx.x_add rfl rfl rfl Fx.io) (Fx.Lv (.int .i64 ((i : Int) + 1)) (Fx.x_assign rfl rfl) (Fx.Ln (Fx.lpN ⟨i + 1, (by omega), h1, h2, Fx.ic, b2⟩ ?_))))))))))
  show ((l.length : Int) - intOf ((.int .i64 ((i : Int) + 1)))).toNat < _
  simp only [h3, intOf]; omega
 refine Fx.Lv (.bool false) (Fx.x_lssF rfl rfl rfl c14) (Fx.Ln (Fx.sN (Fx.Wc (b := false) rfl (fun h => nomatch h) (fun _ => Fx.W.exit (Fx.seqX (Fx.lpX (Fx.blkX (Fx.sN (Fx.Ws (Fx.Wl (Fx.Lv (.bool true) (Fx.x_assign rfl rfl) (Fx.Ln (Fx.sN (Fx.Wr (⟨.bool true, Fx.rV Try.results9 (by exact rfl), ?_⟩)))))))))))))))
 exact ⟨rfl, b1⟩
theorem t_sameE (l m : List Int) (c c2 : Nat) (a a2 : Option Addr) (w : World) (e : m = l) (h1 : Fx.Arr w a l.length 1 (lsU l)) (h2 : Fx.Arr w a2 m.length 1 (lsU m)) (hl : l.length ≤ 1000) :
    Calls Try.prog 9 #[.slice a (l.length) (c), .slice a2 (m.length) (c2)] w fun e w' => e = .returned (.bool true) ∧ Below w.heap.size w w' := by
  subst e; exact t_same _ c c2 a a2 w h1 h2 hl
theorem t_id (o q : Nat) (w : World) (ho : 1 ≤ o ∧ o ≤ 6) (hq : 1 ≤ q ∧ q < 1099511627776) :
    Calls Try.prog 13 #[.int .i64 ((o : Int)), .int .u64 ((q : Int))] w fun e w' => e = .returned (.int .u64 (1099511627776 * (o : Int) + (q : Int))) ∧ w' = w := by
 refine Fx.enter Try.func13 rfl (n := 24) rfl (by rfl) ?_
 refine Fx.Ws (Fx.Wl (Fx.Lv (.int .u64 (0)) (Fx.x_assign rfl rfl) (Fx.Ln (Fx.sN (Fx.Ws (Fx.Ws (Fx.Wl (Fx.Lv (.int .i64 ((o : Int))) (Fx.x_move rfl rfl) (Fx.Lv (.bool false) (Fx.x_lssF rfl rfl rfl (by omega)) (Fx.Lv (.bool false) (Fx.x_move rfl rfl) (Fx.Lv (.int .i64 ((o : Int))) (Fx.x_move rfl rfl) (Fx.Lv (.bool false) (Fx.x_gtrF rfl rfl rfl (by omega)) (Fx.Lv (.bool false) (Fx.x_pickF rfl rfl rfl) (Fx.Lv (.bool false) (Fx.x_move rfl rfl) (Fx.Lv (.int .u64 ((q : Int))) (Fx.x_move rfl rfl) (Fx.Lv (.bool false) (Fx.x_lssF rfl rfl rfl (by omega)) (Fx.Lv (.bool false) (Fx.x_pickF rfl rfl rfl) (Fx.Lv (.bool false) (Fx.x_move rfl rfl) (Fx.Lv (.int .u64 ((q : Int))) (Fx.x_move rfl rfl) (Fx.Lv (.bool false) (Fx.x_geqF rfl rfl rfl (by omega)) (Fx.Lv (.bool false) (Fx.x_pickF rfl rfl rfl) (Fx.Ln (Fx.sN (Fx.Wc (b := false) rfl (fun h => nomatch h) (fun _ => Fx.Wk (Fx.sN (Fx.Ws (Fx.Wl (Fx.Lv (.int .i64 ((o : Int))) (Fx.x_move rfl rfl) (Fx.Lv (.int .u64 ((o : Int))) (Fx.x_conv rfl rfl (by kernel_rfl) Try.underlying28 (Fx.u64e (by omega) rfl)) (Fx.Lv (.int .u64 (1099511627776 * (o : Int))) (Fx.x_shl (b := 40) rfl rfl rfl (by decide) (Fx.u64e (by omega) (by omega))) (Fx.Lv (.int .u64 ((q : Int))) (Fx.x_move rfl rfl) (Fx.Lv (.int .u64 (1099511627776 * (o : Int) + (q : Int))) (Fx.x_or40 rfl rfl rfl (by omega) (by omega)) (Fx.Lv (.int .u64 (1099511627776 * (o : Int) + (q : Int))) (Fx.x_assign rfl rfl) (Fx.Ln (Fx.sN (Fx.Wr (⟨.int .u64 (1099511627776 * (o : Int) + (q : Int)), Fx.rV Try.results13 (by exact rfl), ?_⟩))))))))))))))))))))))))))))))))))))))
 exact ⟨rfl, rfl⟩
end Go.Proofs.Ytahbiajdgealnaa
namespace Go.Proofs.Ytahbiajdgealnaa
open Go.RowKit
open Rt
set_option maxRecDepth 10000
theorem Rt.works_56 (k : Int) : (TrM.has (TrM.add (TrM.add (TrM.add TrM.zero 5 0) 6 5) 7 9) k = true ∧ 5 ∈ TrM.path (TrM.add (TrM.add (TrM.add TrM.zero 5 0) 6 5) 7 9) k) ↔ k ∈ [5, 6] := by
  have e : TrM.has (TrM.add (TrM.add (TrM.add TrM.zero 5 0) 6 5) 7 9) k = (decide (5 = k) || decide (6 = k)) := by
    show ((false || decide (5 = k)) || decide (6 = k)) = _
    rw [Bool.false_or]
  rw [e, Bool.or_eq_true, decide_eq_true_eq, decide_eq_true_eq, List.mem_cons, List.mem_cons]
  constructor
  · rintro ⟨h1 | h1, _⟩
    · exact .inl h1.symm
    exact .inr (.inl h1.symm)
  rintro (rfl | rfl | h1)
  · exact ⟨.inl rfl, by decide⟩
  · exact ⟨.inr rfl, by decide⟩
  cases h1
theorem w_works (w : World) :
    Calls Try.prog 5 #[] w fun e w' => e = .returned (.bool true) ∧ Below w.heap.size w w' := by
 refine Fx.enter Try.func5 rfl (n := 47) rfl (by rfl) ?_
 refine Fx.Ws (Fx.Wl (Fx.Lv (.bool false) (Fx.x_assign rfl rfl) (Fx.Ln (Fx.sN (Fx.Ws (Fx.Wl (Fx.L.call (by rfl) (Fx.rC (args := []) rfl rfl Try.func6 rfl rfl) rfl ((w_new _).mono ?_))))))))
 rintro e9 w1 ⟨tp1, mb1, he, hg1, m1, hb1⟩
 refine ⟨_, he, ?_⟩
 clear he
 have s1 := Fx.Sb hb1
 have b1 := s1.below (Below.refl w.heap.size w) (Below.refl w.heap.size w).size (Below.refl w.heap.size w).size
 have m2 : TrW w1 (w.heap.size) tp1 mb1 TrM.zero := m1.weak (Below.refl w.heap.size w).size
 clear m1 hg1
 refine Fx.Lv ((pt tp1)) (Fx.x_assign rfl rfl) (Fx.Ln (Fx.sN (Fx.Ws (Fx.Wl (Fx.Lv ((pt tp1)) (Fx.x_move rfl rfl) (Fx.L.call (by rfl) (Fx.rC (args := [(pt tp1), .int .u64 (5), .int .u64 (0)]) rfl rfl Try.func7 rfl rfl) rfl ((w_add 5 0 m2 (by omega)).mono ?_)))))))
 rintro e9 w2 ⟨he, m3, s2⟩
 refine ⟨_, he, ?_⟩
 clear he
 have hcm1 := m2.chm s2
 have b2 := s2.below b1 b1.size m2.gm
 refine Fx.Lv (.int .i64 (TrM.err TrM.zero 5 0)) (Fx.x_assign rfl rfl) (Fx.Ln (Fx.sN (Fx.Ws (Fx.Wl (Fx.Lv ((pt tp1)) (Fx.x_move rfl rfl) (Fx.L.call (by rfl) (Fx.rC (args := [(pt tp1), .int .u64 (6), .int .u64 (5)]) rfl rfl Try.func7 rfl rfl) rfl ((w_add 6 5 m3 (by omega)).mono ?_)))))))
 rintro e9 w3 ⟨he, m4, s3⟩
 refine ⟨_, he, ?_⟩
 clear he
 have hcm2 := m3.chm s3
 have b3 := s3.below b2 b2.size m3.gm
 refine Fx.Lv (.int .i64 (TrM.err (TrM.add TrM.zero 5 0) 6 5)) (Fx.x_assign rfl rfl) (Fx.Ln (Fx.sN (Fx.Ws (Fx.Wl (Fx.Lv ((pt tp1)) (Fx.x_move rfl rfl) (Fx.L.call (by rfl) (Fx.rC (args := [(pt tp1), .int .u64 (7), .int .u64 (9)]) rfl rfl Try.func7 rfl rfl) rfl ((w_add 7 9 m4 (by omega)).mono ?_)))))))
 rintro e9 w4 ⟨he, m5, s4⟩
 refine ⟨_, he, ?_⟩
 clear he
 have hcm3 := m4.chm s4
 have b4 := s4.below b3 b3.size m4.gm
 refine Fx.Lv (.int .i64 (TrM.err (TrM.add (TrM.add TrM.zero 5 0) 6 5) 7 9)) (Fx.x_assign rfl rfl) (Fx.Ln (Fx.sN (Fx.Ws (Fx.Wl (Fx.Lv (.int .i64 (TrM.err TrM.zero 5 0)) (Fx.x_move rfl rfl) (Fx.Lv (.bool true) (Fx.x_eqlT rfl rfl rfl (by decide)) (Fx.Lv (.bool true) (Fx.x_move rfl rfl) (Fx.Lv (.int .i64 (TrM.err (TrM.add TrM.zero 5 0) 6 5)) (Fx.x_move rfl rfl) (Fx.Lv (.bool true) (Fx.x_eqlT rfl rfl rfl (by decide)) (Fx.Lv (.bool true) (Fx.x_pickT rfl rfl rfl) (Fx.Lv (.bool true) (Fx.x_move rfl rfl) (Fx.Lv (.int .i64 (TrM.err (TrM.add (TrM.add TrM.zero 5 0) 6 5) 7 9)) (Fx.x_move rfl rfl) (Fx.Lv (.bool true) (Fx.x_eqlT rfl rfl rfl (by decide)) (Fx.Lv (.bool true) (Fx.x_pickT rfl rfl rfl) (Fx.Lv (.bool true) (Fx.x_move rfl rfl) (Fx.Lv ((pt tp1)) (Fx.x_move rfl rfl) (Fx.L.call (by rfl) (Fx.rC (args := [(pt tp1), .int .u64 (6)]) rfl rfl Try.func11 rfl rfl) rfl ((w_path 6 m5).mono ?_))))))))))))))))))
 rintro e9 w5 ⟨pa1, pc1, he, m6, hb2⟩
 refine ⟨_, he, ?_⟩
 clear he
 have s5 := Fx.Sb hb2
 have m7 := m5.up s5.old
 have b5 := s5.below b4 b4.size b4.size
 refine Fx.L.bslice (vs := [(0, .int .u64 (6)), (1, .int .u64 (5))]) (s := 1) (zc := Fx.rv .u64 (fun _ => 0)) (y := Fx.ovr (Fx.ovr (fun j => (Fx.rv .u64 (fun _ => 0)) (j % 1)) (0 * 1) 1 (fun _ => .int .u64 (6))) (1 * 1) 1 (fun _ => .int .u64 (5))) (by rfl) rfl rfl Try.underlying33 (by kernel_rfl) (by rfl) (by rfl) (by kernel_rfl) (by rw [Fx.fill_step (off := 0 * 1) (s := 1) (y := fun _ => .int .u64 (6)) rfl (Fx.cells_one (by rfl)) (by rfl)]; rw [Fx.fill_step (off := 1 * 1) (s := 1) (y := fun _ => .int .u64 (5)) rfl (Fx.cells_one (by rfl)) (by rfl)]; rfl) rfl fun g1 w6 eg1 m8 s6 z1 => ?_
 have m9 := m7.up s6.old
 have m10 := m6.stp s6 (m6.notNew (Nat.le_refl _))
 have b6 := s6.below b5 b5.size b5.size
 have lg1 : w.heap.size ≤ g1 := by rw [eg1]; exact b5.size
 have ng1m10 : (.slice pa1 ((TrM.path (TrM.add (TrM.add (TrM.add TrM.zero 5 0) 6 5) 7 9) 6).length) (pc1) : Value).ownBlock ≠ some g1 := by rw [eg1]; exact m6.notNew (Nat.le_refl _)
 have tg1 : g1 < w6.heap.size := m8.lt
 clear eg1
 refine Fx.L.call (by rfl) (Fx.rC (args := [.slice pa1 ((TrM.path (TrM.add (TrM.add (TrM.add TrM.zero 5 0) 6 5) 7 9) 6).length) (pc1), .slice (some ⟨g1, 0, none⟩) (2) (2)]) rfl rfl Try.func9 rfl rfl) rfl ((t_sameE (TrM.path (TrM.add (TrM.add (TrM.add TrM.zero 5 0) 6 5) 7 9) 6) ([6, 5]) pc1 2 _ _ _ (show ([6, 5] : List Int) = TrM.path (TrM.add (TrM.add (TrM.add TrM.zero 5 0) 6 5) 7 9) 6 from by decide) (Fx.arr_of m10) (Fx.arr_lit m8 rfl (fun j hj => by match j, hj with | 0, _ => rfl | 1, _ => rfl | n + 2, h => exact absurd h (by simp))) (by decide)).mono ?_)
 rintro e w7 ⟨he, hb3⟩
 refine ⟨.bool true, by rw [he], ?_⟩
 clear he
 have s7 := Fx.Sb hb3
 have m11 := m9.up s7.old
 have m12 := m10.stp s7 (m10.notNew (Nat.le_refl _))
 have m13 := m8.stp s7 m8.ne
 have b7 := s7.below b6 b6.size b6.size
 refine Fx.Lv (.bool true) (Fx.x_pickT rfl rfl rfl) (Fx.Lv (.bool true) (Fx.x_move rfl rfl) (Fx.Lv ((pt tp1)) (Fx.x_move rfl rfl) (Fx.L.call (by rfl) (Fx.rC (args := [(pt tp1), .int .u64 (5)]) rfl rfl Try.func12 rfl rfl) rfl ((w_below 5 m11).mono ?_))))
 rintro e9 w8 ⟨la1, lc1, ll1, he, m14, hq1, khq1, hb4⟩
 obtain rfl : ll1 = [5, 6] := rise_uniq hq1.1 (by decide) (fun k => (hq1.2 k).trans (works_56 k))
 refine ⟨_, he, ?_⟩
 clear he
 have s8 := Fx.Sb hb4
 have m15 := m11.up s8.old
 have m16 := m12.stp s8 (m12.notNew (Nat.le_refl _))
 have m17 := m13.stp s8 m13.ne
 have b8 := s8.below b7 b7.size b7.size
 refine Fx.L.bslice (vs := [(0, .int .u64 (5)), (1, .int .u64 (6))]) (s := 1) (zc := Fx.rv .u64 (fun _ => 0)) (y := Fx.ovr (Fx.ovr (fun j => (Fx.rv .u64 (fun _ => 0)) (j % 1)) (0 * 1) 1 (fun _ => .int .u64 (5))) (1 * 1) 1 (fun _ => .int .u64 (6))) (by rfl) rfl rfl Try.underlying33 (by kernel_rfl) (by rfl) (by rfl) (by kernel_rfl) (by rw [Fx.fill_step (off := 0 * 1) (s := 1) (y := fun _ => .int .u64 (5)) rfl (Fx.cells_one (by rfl)) (by rfl)]; rw [Fx.fill_step (off := 1 * 1) (s := 1) (y := fun _ => .int .u64 (6)) rfl (Fx.cells_one (by rfl)) (by rfl)]; rfl) rfl fun g2 w9 eg2 m18 s9 z2 => ?_
 have m19 := m15.up s9.old
 have m22 := m14.stp s9 (m14.notNew (Nat.le_refl _))
 have b9 := s9.below b8 b8.size b8.size
 have lg2 : w.heap.size ≤ g2 := by rw [eg2]; exact b8.size
 have ng2m20 : (.slice pa1 ((TrM.path (TrM.add (TrM.add (TrM.add TrM.zero 5 0) 6 5) 7 9) 6).length) (pc1) : Value).ownBlock ≠ some g2 := by rw [eg2]; exact m16.notNew (Nat.le_refl _)
 have ng2m21 : g1 ≠ g2 := by rw [eg2]; exact Nat.ne_of_lt (m17.lt)
 have ng2m22 : (.slice la1 (([5, 6] : List Int).length) (lc1) : Value).ownBlock ≠ some g2 := by rw [eg2]; exact m14.notNew (Nat.le_refl _)
 have tg2 : g2 < w9.heap.size := m18.lt
 clear eg2
 refine Fx.L.call (by rfl) (Fx.rC (args := [.slice la1 (([5, 6] : List Int).length) (lc1), .slice (some ⟨g2, 0, none⟩) (2) (2)]) rfl rfl Try.func9 rfl rfl) rfl ((t_sameE ([5, 6] : List Int) ([5, 6]) lc1 2 _ _ _ (show ([5, 6] : List Int) = [5, 6] from rfl) (Fx.arr_of m22) (Fx.arr_lit m18 rfl (fun j hj => by match j, hj with | 0, _ => rfl | 1, _ => rfl | n + 2, h => exact absurd h (by simp))) (by decide)).mono ?_)
 rintro e w10 ⟨he, hb5⟩
 refine ⟨.bool true, by rw [he], ?_⟩
 clear he
 have s10 := Fx.Sb hb5
 have m23 := m19.up s10.old
 have b10 := s10.below b9 b9.size b9.size
 refine Fx.Lv (.bool true) (Fx.x_pickT rfl rfl rfl) (Fx.Lv (.bool true) (Fx.x_move rfl rfl) (Fx.Lv ((pt tp1)) (Fx.x_move rfl rfl) (Fx.L.call (by rfl) (Fx.rC (args := [(pt tp1), .int .u64 (6)]) rfl rfl Try.func8 rfl rfl) rfl ((w_has 6 m23).mono ?_))))
 rintro e v1 ⟨he, hv1⟩
 subst v1
 refine ⟨.bool true, by rw [he, (show TrM.has (TrM.add (TrM.add (TrM.add TrM.zero 5 0) 6 5) 7 9) 6 = true from by decide)], ?_⟩
 clear he
 refine Fx.Lv (.bool true) (Fx.x_pickT rfl rfl rfl) (Fx.Lv (.bool true) (Fx.x_move rfl rfl) (Fx.Lv ((pt tp1)) (Fx.x_move rfl rfl) (Fx.L.call (by rfl) (Fx.rC (args := [(pt tp1), .int .u64 (7)]) rfl rfl Try.func8 rfl rfl) rfl ((w_has 7 m23).mono ?_))))
 rintro e v1 ⟨he, hv1⟩
 subst v1
 refine ⟨.bool false, by rw [he, (show TrM.has (TrM.add (TrM.add (TrM.add TrM.zero 5 0) 6 5) 7 9) 7 = false from by decide)], ?_⟩
 clear he
 refine Fx.Lv (.bool true) (Fx.x_notT rfl rfl) (Fx.Lv (.bool true) (Fx.x_pickT rfl rfl rfl) (Fx.Lv (.bool true) (Fx.x_move rfl rfl) (Fx.L.call (by rfl) (Fx.rC (args := [.int .i64 (1), .int .u64 (1)]) rfl rfl Try.func13 rfl rfl) rfl ((t_id 1 1 _ (by omega) (by omega)).mono ?_))))
 rintro e v1 ⟨he, hv1⟩
 subst v1
 refine ⟨.int .u64 (1099511627776 * ((1 : Nat) : Int) + ((1 : Nat) : Int)), by rw [he], ?_⟩
 clear he
 refine Fx.Lv (.bool true) (Fx.x_eqlT rfl rfl rfl (by decide)) (Fx.Lv (.bool true) (Fx.x_pickT rfl rfl rfl) (Fx.Lv (.bool true) (Fx.x_assign rfl rfl) (Fx.Ln (Fx.sN (Fx.Wr (⟨.bool true, Fx.rV Try.results5 (by exact rfl), ?_⟩))))))
 exact ⟨rfl, b10⟩
end Go.Proofs.Ytahbiajdgealnaa
namespace Go.Proofs.Ytahbiajdgealnaa
open Go.RowKit Go
set_option linter.unusedVariables false
namespace Rt
theorem pigeon : ∀ (n m : Nat) (f : Nat → Nat), (∀ i, i < m → f i < n) → (∀ i j, i < m → j < m → f i = f j → i = j) → m ≤ n
  | 0, m, f, h1, _ => by
    rcases Nat.eq_zero_or_pos m with h | h
    · omega
    · have := h1 0 h; omega
  | n + 1, m, f, h1, h2 => by
    rcases Nat.eq_zero_or_pos m with h | h
    · omega
    by_cases hx : ∃ i0, i0 < m ∧ f i0 = n
    · obtain ⟨i0, hi, e⟩ := hx
      have := pigeon n (m - 1) (fun j => f (if j = i0 then m - 1 else j)) (fun j hj => by
        have h3 := h1 (if j = i0 then m - 1 else j) (by split <;> omega)
        have h4 : f (if j = i0 then m - 1 else j) ≠ n := fun e2 => by
          have := h2 _ i0 (by split <;> omega) hi (e2.trans e.symm)
          split at this <;> omega
        show f _ < n
        omega) (fun i j hi2 hj2 e2 => by
        have := h2 _ _ (by split <;> omega) (by split <;> omega) e2
        split at this <;> split at this <;> omega)
      omega
    · have := pigeon n m f (fun i hi => by
        have := h1 i hi
        have : f i ≠ n := fun e => hx ⟨i, hi, e⟩
        omega) h2
      omega
section
variable {T U : TrM} {id pa k : Int} {i : Nat}
theorem TrM.add_yes (h : T.err id pa = 0) : T.add id pa = T.put id pa := if_pos h
theorem TrM.add_no (h : ¬ T.err id pa = 0) : T.add id pa = T := if_neg h
theorem TrM.has_x (hi : i < T.n) : T.has (T.x i) = true := hasK_yes hi rfl
theorem TrM.par_x (h : T.ok) (hi : i < T.n) : T.par (T.x i) = T.p i := parK_at h.inj hi rfl
theorem TrM.step (h : T.ok) (hk : T.has k = true) : T.path k = k :: T.path (T.par k) := by
  have h3 : stopK T.x T.p T.n 3 (T.par k) := h.stop k hk
  show (if hasK T.x T.n k = true then k :: upK T.x T.p T.n 3 (T.par k) else []) = _
  rw [if_pos (show hasK T.x T.n k = true from hk), ← (upK_le h3 (show 3 ≤ 4 by omega)).1]; rfl
theorem TrM.step_x (h : T.ok) (hi : i < T.n) : T.path (T.x i) = T.x i :: T.path (T.p i) := by rw [TrM.step h (TrM.has_x hi), TrM.par_x h hi]
theorem TrM.path_le : (T.path k).length ≤ 4 := upK_len
theorem TrM.path_0 (h : T.ok) : T.path 0 = [] := TrI.path0 h 4
theorem SubT.zero (T : TrM) : SubT TrM.zero T := ⟨fun _ h => (nomatch h), fun _ h => (nomatch h)⟩
theorem SubT.path (hT : T.ok) (hU : U.ok) (h : SubT U T) : ∀ (d : Nat) (k : Int), (k = 0 ∨ U.has k = true) → upK U.x U.p U.n d k = upK T.x T.p T.n d k
  | 0, _, _ => rfl
  | d + 1, k, hk => by
    rcases hk with rfl | hk
    · rw [upK_no (TrI.has0 hU), upK_no (TrI.has0 hT)]
    · unfold upK
      have h1 : hasK U.x U.n k = true := hk
      have h2 : hasK T.x T.n k = true := h.has k hk
      have h3 : parK U.x U.p U.n k = parK T.x T.p T.n k := h.par k hk
      rw [if_pos h1, if_pos h2, ← h3, SubT.path hT hU h d]
      exact TrI.up hU hk
theorem SubT.lt (hU : U.ok) (h : SubT U T) (hi : i < T.n) (hn : U.has (T.x i) = false) : U.n < T.n := by
  have each : ∀ j, ∃ q, j < U.n → q < T.n ∧ T.x q = U.x j := fun j => by
    by_cases hj : j < U.n
    · obtain ⟨q, h1, h2⟩ := hasK_at (h.has _ (TrM.has_x hj))
      exact ⟨q, fun _ => ⟨h1, h2⟩⟩
    · exact ⟨0, fun h => absurd h hj⟩
  obtain ⟨f, hf⟩ := Classical.axiomOfChoice each
  have := pigeon T.n (U.n + 1) (fun j => if j = U.n then i else f j) (fun j hj => by
    show (if j = U.n then i else f j) < T.n
    split
    · exact hi
    · exact (hf j (by omega)).1) (fun a b ha hb e => by
    have ne : ∀ j, j < U.n → f j ≠ i := fun j hj e => by
      have h1 := (hf j hj).2
      rw [e] at h1
      rw [h1, TrM.has_x hj] at hn; cases hn
    have e : (if a = U.n then i else f a) = (if b = U.n then i else f b) := e
    by_cases h1 : a = U.n
    · by_cases h2 : b = U.n
      · omega
      · rw [if_pos h1, if_neg h2] at e; exact absurd e.symm (ne b (by omega))
    · by_cases h2 : b = U.n
      · rw [if_neg h1, if_pos h2] at e; exact absurd e (ne a (by omega))
      · rw [if_neg h1, if_neg h2] at e
        have h3 := (hf a (by omega)).2
        have h4 := (hf b (by omega)).2
        rw [e] at h3
        exact hU.inj a b (by omega) (by omega) (h3.symm.trans h4))
  omega
theorem SubT.add (hT : T.ok) (hU : U.ok) (h : SubT U T) (hi : i < T.n) (hp : T.p i = 0 ∨ U.has (T.p i) = true) :
    SubT (U.add (T.x i) (T.p i)) T ∧ (U.add (T.x i) (T.p i)).has (T.x i) = true ∧ ∀ k, U.has k = true → (U.add (T.x i) (T.p i)).has k = true := by
  cases hh : U.has (T.x i) with
  | true =>
    have e : U.add (T.x i) (T.p i) = U := by
      refine TrM.add_no fun h0 => ?_
      have := (add_ok h0).2.1
      rw [show hasK U.x U.n (T.x i) = U.has (T.x i) from rfl, hh] at this; cases this
    rw [e]; exact ⟨h, hh, fun _ h => h⟩
  | false =>
    have hx0 := (hT.pos i hi).1
    have hlt := SubT.lt hU h hi hh
    have hsm := hT.small
    have e0 : U.err (T.x i) (T.p i) = 0 := by
      unfold TrM.err addC
      rw [if_neg (by omega), if_neg (by rw [show hasK U.x U.n (T.x i) = U.has (T.x i) from rfl, hh]; decide), if_neg, if_neg]
      · rintro (h1 | h1)
        · omega
        · have h2 := SubT.path hT hU h 4 (T.p i) hp
          rw [h2] at h1
          have h3 := TrM.step_x hT hi
          have h4 : (T.path (T.x i)).length ≤ 4 := TrM.path_le
          rw [h3, List.length_cons] at h4
          have h1 : 4 ≤ (T.path (T.p i)).length := h1
          omega
      · rintro ⟨h1, h2⟩
        rcases hp with h3 | h3
        · exact h1 h3
        · rw [show hasK U.x U.n (T.p i) = U.has (T.p i) from rfl, h3] at h2; cases h2
    rw [TrM.add_yes e0]
    refine ⟨⟨fun k hk => ?_, fun k hk => ?_⟩, ?_, fun k hk => ?_⟩
    · rw [TrM.has_put, Bool.or_eq_true] at hk
      rcases hk with hk | hk
      · exact h.has k hk
      · rw [← of_decide_eq_true hk]; exact TrM.has_x hi
    · rw [TrM.has_put, Bool.or_eq_true] at hk
      rw [TrM.par_put]
      split
      · rename_i e; subst e; exact (TrM.par_x hT hi).symm
      · rename_i e
        rcases hk with hk | hk
        · exact h.par k hk
        · exact absurd (of_decide_eq_true hk) e
    · rw [TrM.has_put, decide_eq_true rfl, Bool.or_true]
    · rw [TrM.has_put, hk, Bool.true_or]
structure Rnd (T U : TrM) (r k : Nat) : Prop where
  sub : SubT U T
  fst : ∀ j, j < r → j < T.n → U.has (T.x j) = true
  nxt : k ≤ r → r < T.n → U.has (T.x r) = true
theorem Rnd.start (T : TrM) : ∀ {r : Nat}, r = 0 → Rnd T TrM.zero r T.n := fun e => ⟨SubT.zero T, fun j h => by omega, fun h1 h2 => by omega⟩
theorem Rnd.add {r k : Nat} (hT : T.ok) (hU : U.ok) (h : Rnd T U r k) (hk : 0 < k) (hkn : k ≤ T.n) (hp : T.p (k - 1) = 0 ∨ U.has (T.p (k - 1)) = true) : Rnd T (U.add (T.x (k - 1)) (T.p (k - 1))) r (k - 1) := by
  obtain ⟨h1, h2, h3⟩ := SubT.add hT hU h.sub (show k - 1 < T.n by omega) hp
  refine ⟨h1, fun j hj hn => h3 _ (h.fst j hj hn), fun hr hn => ?_⟩
  by_cases e : k ≤ r
  · exact h3 _ (h.nxt e hn)
  obtain rfl : r = k - 1 := by omega
  exact h2
theorem Rnd.skip {r k : Nat} (hT : T.ok) (h : Rnd T U r k) (hk : 0 < k) (hkn : k ≤ T.n) (hp : ¬ T.p (k - 1) = 0) (hq : U.has (T.p (k - 1)) = false) : Rnd T U r (k - 1) := by
  refine ⟨h.sub, h.fst, fun hr hn => ?_⟩
  by_cases e : k ≤ r
  · exact h.nxt e hn
  obtain rfl : r = k - 1 := by omega
  rcases hT.par (k - 1) (by omega) with h1 | ⟨i, hi, h1⟩
  · exact absurd h1 hp
  rw [← h1, h.fst i hi (by omega)] at hq; cases hq
theorem Rnd.next {r : Nat} (h : Rnd T U r 0) : Rnd T U (r + 1) T.n :=
  ⟨h.sub, fun j hj hn => by
    by_cases e : j = r
    · subst e; exact h.nxt (Nat.zero_le _) hn
    · exact h.fst j (by omega) hn, fun h1 h2 => by omega⟩
theorem Rnd.all {r k : Nat} (h : Rnd T U r k) (hr : T.n ≤ r) : ∀ k, T.has k = true → U.has k = true := fun k hk => by
  obtain ⟨j, hj, rfl⟩ := hasK_at hk
  exact h.fst j (by omega) hj
theorem Rnd.path {r k : Nat} (h : Rnd T U r k) (hr : T.n ≤ r) (q : Int) : U.path q = T.path q := h.sub.same (h.all hr) q
theorem Rnd.list {r k : Nat} (h : Rnd T U r k) (hr : T.n ≤ r) {l m : List Int} (hl : l.Pairwise (· < ·) ∧ ∀ k, k ∈ l ↔ T.has k = true) (hm : m.Pairwise (· < ·) ∧ ∀ k, k ∈ m ↔ U.has k = true) : m = l :=
  rise_uniq hm.1 hl.1 fun k => (hm.2 k).trans (Iff.trans ⟨h.sub.has k, h.all hr k⟩ (hl.2 k).symm)
theorem on_below {i k : Nat} {l : List Int} {on bl : Bool} (hi : i < T.n) (h1 : on = true ↔ T.x k ∈ T.path (T.x i)) (hl : ∀ q, q ∈ l ↔ (T.has q = true ∧ T.x k ∈ T.path q)) (h2 : bl = true ↔ T.x i ∈ l) : on = bl := by
  have : on = true ↔ bl = true := by
    rw [h1, h2, hl]
    exact ⟨fun h => ⟨TrM.has_x hi, h⟩, fun h => h.2⟩
  cases on <;> cases bl <;> simp_all
end
def ndc (a b : Int) : Nat → Value
  | 0 => .int .u64 a
  | _ => .int .u64 b
theorem nd_app {T : TrM} {id pa : Int} {z : Nat → Value} : ∀ j, j < (T.n + 1) * 2 → Fx.appX (Fx.flat 2 fun q => ndc (T.x q) (T.p q)) (T.n * 2) (Fx.ovr z (0 * 2) 2 (ndc id pa)) j = Fx.flat 2 (fun q => ndc ((T.put id pa).x q) ((T.put id pa).p q)) j := fun j hj => by
  unfold Fx.appX Fx.ovr Fx.flat
  show _ = ndc (Fx.putI T.x T.n id (j / 2)) (Fx.putI T.p T.n pa (j / 2)) (j % 2)
  unfold Fx.putI
  by_cases e : j < T.n * 2
  · rw [if_pos e, if_neg (by omega), if_neg (by omega)]
  · rw [if_neg e, if_pos (by omega), if_pos (by omega), if_pos (by omega)]
    rw [show j - T.n * 2 - 0 * 2 = j % 2 by omega]
def Fnd (l : List Int) (v : Int) (n : Nat) (b : Bool) : Prop := b = true ↔ ∃ j, j < n ∧ j < l.length ∧ l.getD j 0 = v
theorem Fnd.zero (l : List Int) (v : Int) : Fnd l v 0 false := ⟨fun h => (nomatch h), fun ⟨j, h, _⟩ => absurd h (Nat.not_lt_zero _)⟩
theorem Fnd.keep {l : List Int} {v : Int} {n : Nat} (h : Fnd l v n true) : Fnd l v (n + 1) true := ⟨fun _ => by obtain ⟨j, h1, h2⟩ := h.1 rfl; exact ⟨j, by omega, h2⟩, fun _ => rfl⟩
theorem Fnd.yes {l : List Int} {v : Int} {n : Nat} (hn : n < l.length) (e : l.getD n 0 = v) : Fnd l v (n + 1) true := ⟨fun _ => ⟨n, by omega, hn, e⟩, fun _ => rfl⟩
theorem Fnd.no {l : List Int} {v : Int} {n : Nat} (h : Fnd l v n false) (e : ¬ l.getD n 0 = v) : Fnd l v (n + 1) false := ⟨fun h => (nomatch h), fun ⟨j, h1, h2, h3⟩ => by
  by_cases ej : j = n
  · subst ej; exact absurd h3 e
  · exact h.2 ⟨j, by omega, h2, h3⟩⟩
theorem Fnd.mem {l : List Int} {v : Int} {n : Nat} {b : Bool} (h : Fnd l v n b) (hn : l.length ≤ n) : b = true ↔ v ∈ l := by
  constructor
  · intro hb
    obtain ⟨j, _, h1, h2⟩ := h.1 hb
    exact getD_mem h1 h2
  intro hm
  obtain ⟨j, hj, e⟩ := List.getElem_of_mem hm
  refine h.2 ⟨j, by omega, hj, ?_⟩
  rw [List.getD_eq_getElem?_getD, List.getElem?_eq_getElem hj]; exact e
end Rt
end Go.Proofs.Ytahbiajdgealnaa
namespace Go.Proofs.Ytahbiajdgealnaa
open Go.RowKit
open Rt
set_option maxRecDepth 10000
theorem Rt.nd_one (a b : Int) (j : Nat) : (ndc a b j).oneCell' = true := by cases j <;> rfl
theorem Rt.lsU_tail {l m : List Int} {v : Int} (h : l = v :: m) : ∀ p, p < m.length * 1 → lsU l (1 * 1 + p) = lsU m p := fun p _ => by
  subst h
  show Value.int .u64 (List.getD (v :: m) (1 * 1 + p) 0) = Value.int .u64 (List.getD m p 0)
  rw [show 1 * 1 + p = p + 1 by omega, List.getD_cons_succ]
theorem Rt.arr_tail {w : World} {a : Option Addr} {l m : List Int} {v : Int} (e : l = v :: m) (h : Fx.Arr w a m.length 1 (fun p => lsU l (1 * 1 + p))) : Fx.Arr w a m.length 1 (lsU m) := fun h0 => by
  obtain ⟨b, o, e1, hc⟩ := h h0
  exact ⟨b, o, e1, fun i hi => by rw [← lsU_tail e i hi]; exact hc i hi⟩
theorem w_paths (a : Option Addr) (n c : Nat) (X : Nat → Nat → Int) (w : World) (hA : Fx.Arr w a n 2 (Fx.flat 2 fun i => ndc (X i 0) (X i 1))) (hX : ∀ i, i < n → (0 ≤ X i 0 ∧ X i 0 ≤ 18446744073709551615) ∧ (0 ≤ X i 1 ∧ X i 1 ≤ 18446744073709551615)) :
    Calls Try.prog 3 #[.slice a (n) (c)] w fun e w' => e = .returned (.bool true) ∧ Below w.heap.size w w' := by
 refine Fx.enter Try.func3 rfl (n := 233) rfl (by rfl) ?_
 refine Fx.Ws (Fx.Wl (Fx.Lv (.bool false) (Fx.x_assign rfl rfl) (Fx.Ln (Fx.sN (Fx.Ws (Fx.Ws (Fx.Wl (Fx.Lv (.slice a (n) (c)) (Fx.x_move rfl rfl) (Fx.Lv (.int .i64 ((n : Int))) (Fx.x_len rfl rfl rfl (by kernel_rfl)) ?_)))))))))
 by_cases c20 : 100 < (n : Int)
 ·refine Fx.Lv (.bool true) (Fx.x_gtrT rfl rfl rfl c20) (Fx.Ln (Fx.sN (Fx.Wc (b := true) rfl (fun _ => Fx.Ws (Fx.Wl (Fx.L.call (by rfl) (Fx.rC (args := []) rfl rfl Try.func5 rfl rfl) rfl ((w_works _).mono ?_)))) (fun h => nomatch h))))
  rintro e w1 ⟨he, hb1⟩
  refine ⟨.bool true, by rw [he], ?_⟩
  clear he
  have s1 := Fx.Sb hb1
  have b1 := s1.below (Below.refl w.heap.size w) (Below.refl w.heap.size w).size (Below.refl w.heap.size w).size
  refine Fx.Lv (.bool true) (Fx.x_assign rfl rfl) (Fx.Ln (Fx.sN (Fx.Wr (Fx.sR (⟨.bool true, Fx.rV Try.results3 (by exact rfl), ?_⟩)))))
  exact ⟨rfl, b1⟩
 refine Fx.Lv (.bool false) (Fx.x_gtrF rfl rfl rfl c20) (Fx.Ln (Fx.sN (Fx.Wc (b := false) rfl (fun h => nomatch h) (fun _ => Fx.Wk (Fx.sN (Fx.Ws (Fx.Wl (Fx.L.call (by rfl) (Fx.rC (args := []) rfl rfl Try.func6 rfl rfl) rfl ((w_new _).mono ?_)))))))))
 rintro e9 w2 ⟨tp1, mb1, he, hg1, m1, hb2⟩
 refine ⟨_, he, ?_⟩
 clear he
 have s2 := Fx.Sb hb2
 have b2 := s2.below (Below.refl w.heap.size w) (Below.refl w.heap.size w).size (Below.refl w.heap.size w).size
 have m2 : TrW w2 (w.heap.size) tp1 mb1 TrM.zero := m1.weak (Below.refl w.heap.size w).size
 clear m1 hg1
 refine Fx.Lv ((pt tp1)) (Fx.x_assign rfl rfl) (Fx.Ln (Fx.sN (Fx.Ws (Fx.Wl (Fx.Lv (.slice none 0 0) (Fx.x_assign rfl rfl) (Fx.Ln (Fx.sN (Fx.Ws (Fx.Ws (Fx.Wl (Fx.Lv (.int .i64 (0)) (Fx.x_assign rfl rfl) (Fx.Ln (Fx.sN (Fx.W.block ?_))))))))))))))
 have m3 : Fx.Own w2 w.heap.size 30 2 (.slice none 0 0) 0 (Fx.flat 2 fun q => ndc (TrM.zero.x q) (TrM.zero.p q)) := Fx.Own.nil _ _ _ _ _
 refine Fx.W.loop (fun f w_ => ∃ i : Nat, ∃ T : TrM, ∃ ia : Option Addr, ∃ ic : Nat, i ≤ n ∧ f 0 = .slice a (n) (c) ∧ f 3 = (pt tp1) ∧ f 4 = .slice ia (T.n) (ic) ∧ f 5 = .int .i64 ((i : Int)) ∧ TrW w_ (w.heap.size) tp1 mb1 T ∧ Fx.Own w_ w.heap.size 30 2 (.slice ia (T.n) (ic)) T.n (Fx.flat 2 fun q => ndc (T.x q) (T.p q)) ∧ Below w.heap.size w w_) (fun f _ => ((n : Int) - intOf (f 5)).toNat) ⟨0, TrM.zero, none, 0, (by omega), (by rfl), (by rfl), (by rfl), Fx.ic, m2, m3, b2⟩ ?_
 rintro f1 w3 ⟨i, T, ia, ic, hi, h1, h2, h3, h4, m4, m5, b3⟩
 have hsm := m4.inv.small
 refine Fx.Ws (Fx.Ws (Fx.Wl (Fx.Lv (.int .i64 ((i : Int))) (Fx.x_move rfl h4) (Fx.Lv (.slice a (n) (c)) (Fx.x_move rfl h1) (Fx.Lv (.int .i64 ((n : Int))) (Fx.x_len rfl rfl rfl (by kernel_rfl)) ?_)))))
 by_cases c26 : (i : Int) < (n : Int)
 ·refine Fx.Lv (.bool true) (Fx.x_lssT rfl rfl rfl c26) (Fx.Ln (Fx.sN (Fx.Wc (b := true) rfl (fun _ => Fx.Wk (Fx.sN (Fx.Ws (Fx.W.block (Fx.Ws ?_))))) (fun h => nomatch h))))
  -- region 8 draws
  refine Fx.W.reord [0, 1, 2, 3, 4, 6, 7, 8, 9, 5, 10, 11, 12] [0, 0, 0, 0, 0, 4, 0, 0, 0, 0, 4, 3, 0] Fx.Mk Fx.Mk.refl Fx.Mk.trans (certs := [(11, 5, [5]), (11, 10, [10]), (12, 11, [11])]) (by kernel_rfl) (by kernel_rfl) (by kernel_rfl) (by kernel_rfl) (by kernel_rfl) fun wt1 hbwt1 hzwt1 => ?_
  have s3 : Fx.Stp w3.heap.size w3 wt1 := Fx.Sb hbwt1
  have m6 := m4.up s3.old
  have m7 := m5.stp s3 (m5.notNew (Nat.le_refl _))
  have b4 := s3.below b3 b3.size b3.size
  refine Fx.Rp ((pt tp1)) (fun v1 => Fx.x_move rfl h2) (Fx.Rp (.slice a (n) (c)) (fun v1 => Fx.x_move rfl h1) (Fx.Rp (.int .i64 ((i : Int))) (fun v1 => Fx.x_move rfl h4) ?_))
  obtain ⟨bq1, oq1, eq1, m8z⟩ := hA (by omega)
  have lbq1z : bq1 < w.heap.size := m8z.lt (by omega)
  have m8 := m8z.below b4 lbq1z
  have lbq1 : bq1 < wt1.heap.size := m8.lt (by omega)
  refine Fx.Rp ((pf bq1 (2 * i + oq1))) (fun v1 => Fx.x_indexS rfl (rfl.trans (congrArg (fun q => Value.slice q (n) (c)) eq1)) rfl Try.underlying22 (s := 2) (by kernel_rfl) (by omega) (by omega) (by omega)) (Fx.Rp ((pf bq1 (2 * i + oq1))) (fun v1 => Fx.x_field rfl rfl Try.underlying30 rfl (s := 1) (by kernel_rfl) rfl rfl) (Fx.Rp (.slice a (n) (c)) (fun v1 => Fx.x_move rfl h1) (Fx.Rp (.int .i64 ((i : Int))) (fun v1 => Fx.x_move rfl h4) (Fx.Rp ((pf bq1 (2 * i + oq1))) (fun v1 => Fx.x_indexS rfl (rfl.trans (congrArg (fun q => Value.slice q (n) (c)) eq1)) rfl Try.underlying22 (s := 2) (by kernel_rfl) (by omega) (by omega) (by omega)) (Fx.Rp ((pf bq1 (2 * i + oq1 + 1))) (fun v1 => Fx.x_field rfl rfl Try.underlying30 rfl (s := 1) (by kernel_rfl) rfl (by show _ + 1 = _; omega)) (Fx.R.s (.int .u64 (X i 0)) (Fx.x_load1 (x := Fx.flat 2 fun i => ndc (X i 0) (X i 1)) rfl rfl (by kernel_rfl) m8 (i := 2 * i) (by omega) (by omega) (Fx.flat_cell (k := i) (j := 0) (by omega) (by omega) rfl)) ?_))))))
  refine Fx.R.s (.int .u64 (X i 1)) (Fx.x_load1 (x := Fx.flat 2 fun i => ndc (X i 0) (X i 1)) rfl rfl (by kernel_rfl) m8 (i := 2 * i + 1) (by omega) (by omega) (Fx.flat_cell (k := i) (j := 1) (by omega) (by omega) rfl)) ?_
  refine Fx.R.eff (by rfl) ?_
  refine Fx.L.call (by rfl) (Fx.rC (args := [(pt tp1), .int .u64 (X i 0), .int .u64 (X i 1)]) rfl rfl Try.func7 rfl rfl) rfl ((w_add (X i 0) (X i 1) m6 (hX i (by omega)).1).mono ?_)
  rintro e9 w4 ⟨he, m9, s4⟩
  refine ⟨_, he, ?_⟩
  clear he
  have hcm1 := m6.chm s4
  have m10 := m7.chM hcm1
  have b5 := s4.below b4 b4.size m6.gm
  refine Fx.Ln ?_
  by_cases c41 : (TrM.err T (X i 0) (X i 1)) = 0
  ·have m11 : TrW w4 (w.heap.size) tp1 mb1 (TrM.put T (X i 0) (X i 1)) := by rw [← TrM.add_yes c41]; exact m9
   refine Fx.Rp (.bool true) (fun v1 => Fx.x_eqlT rfl rfl rfl c41) (Fx.R.nil (Fx.sN (Fx.Wc (b := true) rfl (fun _ => Fx.Wl (Fx.Lv (.slice ia (T.n) (ic)) (Fx.x_move rfl h3) ?_)) (fun h => nomatch h))))
   refine Fx.Lv (.slice a (n) (c)) (Fx.x_move rfl h1) (Fx.Lv (.int .i64 ((i : Int))) (Fx.x_move rfl h4) ?_)
   obtain ⟨bq2, oq2, eq2, m12z⟩ := hA (by omega)
   have lbq2z : bq2 < w.heap.size := m12z.lt (by omega)
   have m12 := m12z.below b5 lbq2z
   have lbq2 : bq2 < w4.heap.size := m12.lt (by omega)
   refine Fx.Lv ((pf bq2 (2 * i + oq2))) (Fx.x_indexS rfl (rfl.trans (congrArg (fun q => Value.slice q (n) (c)) eq2)) rfl Try.underlying22 (s := 2) (by kernel_rfl) (by omega) (by omega) (by omega)) (Fx.Lv (.agg (Fx.varr 2 (ndc (X i 0) (X i 1)))) (Fx.x_loadA (x := Fx.flat 2 fun i => ndc (X i 0) (X i 1)) (y := ndc (X i 0) (X i 1)) rfl rfl (by kernel_rfl) (by kernel_rfl) m12 (i := 2 * i) (by omega) (by omega) (fun jq hjq => Fx.flat_at (k := i) (by omega) hjq)) (Fx.L.bslice (vs := [(0, .agg (Fx.varr 2 (ndc (X i 0) (X i 1))))]) (s := 2) (zc := Fx.rv .u64 (fun _ => 0)) (y := Fx.ovr (fun j => (Fx.rv .u64 (fun _ => 0)) (j % 2)) (0 * 2) 2 (ndc (X i 0) (X i 1))) (by rfl) rfl rfl Try.underlying22 (by kernel_rfl) (by rfl) (by rfl) (by kernel_rfl) (by rw [Fx.fill_step (off := 0 * 2) (s := 2) (y := ndc (X i 0) (X i 1)) rfl (Fx.cells_agg _ _) (by rfl)]; rfl) rfl fun g1 w5 eg1 m13 s5 z1 => ?_))
   have m14 := m10.stp s5 (m10.notNew (Nat.le_refl _))
   have m15 := m11.up s5.old
   have b6 := s5.below b5 b5.size b5.size
   have lg1 : w.heap.size ≤ g1 := by rw [eg1]; exact b5.size
   have ng1m14 : (.slice ia (T.n) (ic) : Value).ownBlock ≠ some g1 := by rw [eg1]; exact m10.notNew (Nat.le_refl _)
   have ng1m16 : bq2 ≠ g1 := by rw [eg1]; exact Nat.ne_of_lt (m12.lt (by omega))
   have tg1 : g1 < w5.heap.size := m13.lt
   clear eg1
   refine Fx.L.app (B := w.heap.size) (s := 2) (bytes := 16) (k := T.n) (m := 1) (v := .slice ia (T.n) (ic)) (x := Fx.flat 2 fun q => ndc (T.x q) (T.p q)) (by rfl) rfl rfl rfl Try.underlying22 (by kernel_rfl) (by kernel_rfl) rfl rfl m14 m13.cel (fun j hj => by unfold Fx.ovr; split; exact nd_one _ _ _; rfl) (by omega) (by omega) (by omega) b6.size fun g2 cap1 w6 ho1 hg2 hgv1 hlt1 => ?_
   have hct1 := Fx.ChT.of_grown hg2 m14
   have m18 := m15.chT hct1 (by decide)
   have m17 : Fx.Own w6 w.heap.size 30 2 (.slice (some ⟨g2, 0, none⟩) (T.n + 1) cap1) (T.n + 1) (Fx.flat 2 fun q => ndc ((TrM.put T (X i 0) (X i 1)).x q) ((TrM.put T (X i 0) (X i 1)).p q)) := (ho1.congr nd_app)
   have b7 : Below w.heap.size w w6 := Fx.Below.grow b6 hg2 b6.size (fun q hq => (m14.ge hq).1)
   refine Fx.Lv (.slice (some ⟨g2, 0, none⟩) (T.n + 1) (cap1)) (Fx.x_assign rfl rfl) (Fx.Ln (Fx.blkN (Fx.sN (Fx.Wl (Fx.Lv (.int .i64 ((i : Int))) (Fx.x_move rfl h4) (Fx.Lv (.int .i64 ((i : Int) + 1)) (Fx.x_add rfl rfl rfl Fx.io) (Fx.Lv (.int .i64 ((i : Int) + 1)) (Fx.x_assign rfl rfl) (Fx.Ln ?_))))))))
   skip
   refine Fx.lpN ⟨i + 1, (TrM.put T (X i 0) (X i 1)), (some ⟨g2, 0, none⟩), cap1, (by omega), h1, h2, (by rfl), Fx.ic, m18, m17, b7⟩ ?_
   show ((n : Int) - intOf ((.int .i64 ((i : Int) + 1)))).toNat < _
   simp only [h4, intOf]; omega
  have m20 : TrW w4 (w.heap.size) tp1 mb1 T := by rw [← TrM.add_no c41]; exact m9
  refine Fx.Rp (.bool false) (fun v1 => Fx.x_eqlF rfl rfl rfl c41) (Fx.R.nil (Fx.sN (Fx.Wc (b := false) rfl (fun h => nomatch h) (fun _ => Fx.Wk (Fx.blkN (Fx.sN (Fx.Wl (Fx.Lv (.int .i64 ((i : Int))) (Fx.x_move rfl h4) ?_))))))))
  refine Fx.Lv (.int .i64 ((i : Int) + 1)) (Fx.x_add rfl rfl rfl Fx.io) (Fx.Lv (.int .i64 ((i : Int) + 1)) (Fx.x_assign rfl rfl) (Fx.Ln ?_))
  skip
  refine Fx.lpN ⟨i + 1, T, ia, ic, (by omega), h1, h2, h3, Fx.ic, m20, m10, b5⟩ ?_
  show ((n : Int) - intOf ((.int .i64 ((i : Int) + 1)))).toNat < _
  simp only [h4, intOf]; omega
 refine Fx.Lv (.bool false) (Fx.x_lssF rfl rfl rfl c26) (Fx.Ln (Fx.sN (Fx.Wc (b := false) rfl (fun h => nomatch h) (fun _ => Fx.W.exit (Fx.seqX (Fx.lpX (Fx.blkX (Fx.sN (Fx.Ws ?_)))))))))
 have hTok := m4.inv
 have hTs := hTok.small
 refine Fx.Wl (Fx.L.call (by rfl) (Fx.rC (args := []) rfl rfl Try.func6 rfl rfl) rfl ((w_new _).mono ?_))
 rintro e9 w7 ⟨tp2, mb2, he, hg3, m21, hb3⟩
 refine ⟨_, he, ?_⟩
 clear he
 have nemb1mb2 : mb1 ≠ mb2 := Nat.ne_of_lt (Nat.lt_of_lt_of_le m4.lt hg3)
 have s6 := Fx.Sb hb3
 have m22 := m4.up s6.old
 have m23 := m5.stp s6 (m5.notNew (Nat.le_refl _))
 have b8 := s6.below b3 b3.size b3.size
 have m24 : TrW w7 (w.heap.size) tp2 mb2 TrM.zero := m21.weak b3.size
 clear m21 hg3
 refine Fx.Lv ((pt tp2)) (Fx.x_assign rfl rfl) (Fx.Ln (Fx.sN (Fx.Ws (Fx.Ws (Fx.Wl (Fx.Lv (.int .i64 (0)) (Fx.x_assign rfl rfl) (Fx.Ln (Fx.sN (Fx.W.block (Fx.W.loop (fun f w_ => ∃ r : Nat, ∃ U : TrM, Rnd T U r T.n ∧ r ≤ T.n ∧ f 3 = (pt tp1) ∧ f 4 = .slice ia (T.n) (ic) ∧ f 6 = (pt tp2) ∧ f 7 = .int .i64 ((r : Int)) ∧ TrW w_ (w.heap.size) tp1 mb1 T ∧ TrW w_ (w.heap.size) tp2 mb2 U ∧ Fx.Own w_ w.heap.size 30 2 (.slice ia (T.n) (ic)) T.n (Fx.flat 2 fun q => ndc (T.x q) (T.p q)) ∧ Below w.heap.size w w_) (fun f _ => ((T.n : Int) - intOf (f 7)).toNat) ⟨0, TrM.zero, (Rnd.start T rfl), (by omega), h2, h3, (by rfl), Fx.ic, m22, m24, m23, b8⟩ ?_))))))))))
 rintro f2 w8 ⟨r, U, hR, hr, h5, h6, h7, h8, m25, m26, m27, b9⟩
 refine Fx.Ws (Fx.Ws (Fx.Wl (Fx.Lv (.int .i64 ((r : Int))) (Fx.x_move rfl h8) (Fx.Lv (.slice ia (T.n) (ic)) (Fx.x_move rfl h6) (Fx.Lv (.int .i64 ((T.n : Int))) (Fx.x_len rfl rfl rfl (by kernel_rfl)) ?_)))))
 by_cases c53 : (r : Int) < (T.n : Int)
 ·refine Fx.Lv (.bool true) (Fx.x_lssT rfl rfl rfl c53) (Fx.Ln (Fx.sN (Fx.Wc (b := true) rfl (fun _ => Fx.Wk (Fx.sN (Fx.Ws (Fx.W.block (Fx.Ws (Fx.Wl (Fx.Lv (.slice ia (T.n) (ic)) (Fx.x_move rfl h6) ?_))))))) (fun h => nomatch h))))
  refine Fx.Lv (.int .i64 ((T.n : Int))) (Fx.x_len rfl rfl rfl (by kernel_rfl)) (Fx.Lv (.int .i64 ((T.n : Int) - 1)) (Fx.x_sub rfl rfl rfl Fx.io) (Fx.Lv (.int .i64 ((T.n : Int) - 1)) (Fx.x_assign rfl rfl) (Fx.Ln (Fx.sN (Fx.W.block (Fx.W.loop (fun f w_ => ∃ k : Nat, ∃ V : TrM, Rnd T V r k ∧ k ≤ T.n ∧ f 3 = (pt tp1) ∧ f 4 = .slice ia (T.n) (ic) ∧ f 6 = (pt tp2) ∧ f 7 = .int .i64 ((r : Int)) ∧ f 8 = .int .i64 ((k : Int) - 1) ∧ TrW w_ (w.heap.size) tp1 mb1 T ∧ TrW w_ (w.heap.size) tp2 mb2 V ∧ Fx.Own w_ w.heap.size 30 2 (.slice ia (T.n) (ic)) T.n (Fx.flat 2 fun q => ndc (T.x q) (T.p q)) ∧ Below w.heap.size w w_) (fun f _ => (intOf (f 8) + 1).toNat) ⟨T.n, U, hR, (by omega), h5, h6, h7, (h8.trans Fx.ic), Fx.ic, m25, m26, m27, b9⟩ ?_))))))
  rintro f3 w9 ⟨k, V, hRk, hkn, h9, h10, h11, h12, h13, m28, m29, m30, b10⟩
  have hVok := m29.inv
  refine Fx.Ws (Fx.Ws (Fx.Wl (Fx.Lv (.int .i64 ((k : Int) - 1)) (Fx.x_move rfl h13) ?_)))
  by_cases c60 : 0 ≤ ((k : Int) - 1)
  ·refine Fx.Lv (.bool true) (Fx.x_geqT rfl rfl rfl c60) (Fx.Ln (Fx.sN (Fx.Wc (b := true) rfl (fun _ => Fx.Wk (Fx.sN (Fx.Ws (Fx.W.block (Fx.Ws (Fx.Wl (Fx.Lv (.slice ia (T.n) (ic)) (Fx.x_move rfl h10) ?_))))))) (fun h => nomatch h))))
   refine Fx.Lv (.int .i64 ((k : Int) - 1)) (Fx.x_move rfl h13) ?_
   obtain ⟨gq1, eq3⟩ := m30.addr (by omega)
   have m31 : Fx.Own w9 w.heap.size 30 2 (.slice (some ⟨gq1, 0, none⟩) T.n ic) T.n (Fx.flat 2 fun q => ndc (T.x q) (T.p q)) := m30.congV (congrArg (fun q => Value.slice q T.n ic) eq3)
   refine Fx.Lv ((pf gq1 (2 * k - 2))) (Fx.x_indexS rfl (rfl.trans (congrArg (fun q => Value.slice q (T.n) (ic)) eq3)) rfl Try.underlying22 (s := 2) (by kernel_rfl) (by omega) (by omega) (by omega)) (Fx.Lv ((pf gq1 (2 * k - 1))) (Fx.x_field rfl rfl Try.underlying30 rfl (s := 1) (by kernel_rfl) rfl (by show _ + 1 = _; omega)) (Fx.Lv (.int .u64 (T.p (k - 1))) (Fx.x_load1 (x := Fx.flat 2 fun q => ndc (T.x q) (T.p q)) rfl rfl (by kernel_rfl) m31.cel (i := 2 * k - 1) (by omega) (by omega) (Fx.flat_cell (k := k - 1) (j := 1) (by omega) (by omega) rfl)) ?_))
   by_cases c68 : (T.p (k - 1)) = 0
   ·refine Fx.Lv (.bool true) (Fx.x_eqlT rfl rfl rfl c68) (Fx.Lv (.bool true) (Fx.x_move rfl rfl) (Fx.Lk (by rfl) rfl (Fx.Lk (by rfl) rfl (Fx.Lk (by rfl) rfl (Fx.Lk (by rfl) rfl (Fx.Lk (by rfl) rfl (Fx.Lk (by rfl) rfl (Fx.Lk (by rfl) rfl (Fx.Lv (.bool true) (Fx.x_pickT rfl rfl rfl) (Fx.Ln (Fx.sN (Fx.Wc (b := true) rfl (fun _ => ?_) (fun h => nomatch h)))))))))))))
    -- region 18 draws
    refine Fx.W.reord [0, 1, 2, 3, 4, 6, 7, 8, 9, 5, 10, 11] [0, 0, 0, 0, 0, 4, 0, 0, 0, 0, 4, 3] Fx.Mk Fx.Mk.refl Fx.Mk.trans (certs := [(11, 5, [5]), (11, 10, [10])]) (by kernel_rfl) (by kernel_rfl) (by kernel_rfl) (by kernel_rfl) (by kernel_rfl) fun wt2 hbwt2 hzwt2 => ?_
    have s7 : Fx.Stp w9.heap.size w9 wt2 := Fx.Sb hbwt2
    have m32 := m28.up s7.old
    have m33 := m29.up s7.old
    have m34 := m31.stpB s7 (Nat.ne_of_lt (m31.lt))
    have b11 := s7.below b10 b10.size b10.size
    refine Fx.Rp ((pt tp2)) (fun v1 => Fx.x_move rfl h11) (Fx.Rp (.slice ia (T.n) (ic)) (fun v1 => Fx.x_move rfl h10) (Fx.Rp (.int .i64 ((k : Int) - 1)) (fun v1 => Fx.x_move rfl h13) (Fx.Rp ((pf gq1 (2 * k - 2))) (fun v1 => Fx.x_indexS rfl (rfl.trans (congrArg (fun q => Value.slice q (T.n) (ic)) eq3)) rfl Try.underlying22 (s := 2) (by kernel_rfl) (by omega) (by omega) (by omega)) (Fx.Rp ((pf gq1 (2 * k - 2))) (fun v1 => Fx.x_field rfl rfl Try.underlying30 rfl (s := 1) (by kernel_rfl) rfl rfl) (Fx.Rp (.slice ia (T.n) (ic)) (fun v1 => Fx.x_move rfl h10) (Fx.Rp (.int .i64 ((k : Int) - 1)) (fun v1 => Fx.x_move rfl h13) (Fx.Rp ((pf gq1 (2 * k - 2))) (fun v1 => Fx.x_indexS rfl (rfl.trans (congrArg (fun q => Value.slice q (T.n) (ic)) eq3)) rfl Try.underlying22 (s := 2) (by kernel_rfl) (by omega) (by omega) (by omega)) (Fx.Rp ((pf gq1 (2 * k - 1))) (fun v1 => Fx.x_field rfl rfl Try.underlying30 rfl (s := 1) (by kernel_rfl) rfl (by show _ + 1 = _; omega)) (Fx.R.s (.int .u64 (T.x (k - 1))) (Fx.x_load1 (x := Fx.flat 2 fun q => ndc (T.x q) (T.p q)) rfl rfl (by kernel_rfl) m34.cel (i := 2 * k - 2) (by omega) (by omega) (Fx.flat_cell (k := k - 1) (j := 0) (by omega) (by omega) rfl)) ?_)))))))))
    refine Fx.R.s (.int .u64 (T.p (k - 1))) (Fx.x_load1 (x := Fx.flat 2 fun q => ndc (T.x q) (T.p q)) rfl rfl (by kernel_rfl) m34.cel (i := 2 * k - 1) (by omega) (by omega) (Fx.flat_cell (k := k - 1) (j := 1) (by omega) (by omega) rfl)) ?_
    refine Fx.R.eff (by rfl) ?_
    refine Fx.L.call (by rfl) (Fx.rC (args := [(pt tp2), .int .u64 (T.x (k - 1)), .int .u64 (T.p (k - 1))]) rfl rfl Try.func7 rfl rfl) rfl ((w_add (T.x (k - 1)) (T.p (k - 1)) m33 (by have := hTok.pos (k - 1) (by omega); omega)).mono ?_)
    rintro e9 w10 ⟨he, m35, s8⟩
    refine ⟨_, he, ?_⟩
    clear he
    have hcm2 := m33.chm s8
    have m36 := m32.chM hcm2 (by first | exact nemb1mb2 | exact fun e => nemb2mb1 e.symm | omega)
    have m37 := m34.chM hcm2
    have b12 := s8.below b11 b11.size m33.gm
    refine Fx.Ln (Fx.R.nil (Fx.blkN (Fx.sN (Fx.Wl (Fx.Lv (.int .i64 ((k : Int) - 1)) (Fx.x_move rfl h13) (Fx.Lv (.int .i64 ((k : Int) - 2)) (Fx.x_sub rfl rfl rfl Fx.io) (Fx.Lv (.int .i64 ((k : Int) - 2)) (Fx.x_assign rfl rfl) (Fx.Ln ?_))))))))
    have m38 : Fx.Own w10 w.heap.size 30 2 (.slice ia (T.n) (ic)) T.n (Fx.flat 2 fun q => ndc (T.x q) (T.p q)) := m37.congV (congrArg (fun q => Value.slice q T.n ic) eq3.symm)
    refine Fx.lpN ⟨k - 1, (TrM.add V (T.x (k - 1)) (T.p (k - 1))), (Rnd.add hTok hVok hRk (by omega) (by omega) (.inl c68)), (by omega), h9, h10, h11, (h12.trans Fx.ic), Fx.ic, m36, m35, m38, b12⟩ ?_
    show (intOf ((.int .i64 ((k : Int) - 2))) + 1).toNat < _
    simp only [h13, intOf]; omega
   refine Fx.Lv (.bool false) (Fx.x_eqlF rfl rfl rfl c68) (Fx.Lv (.bool false) (Fx.x_move rfl rfl) (Fx.Lv ((pt tp2)) (Fx.x_move rfl h11) (Fx.Lv (.slice ia (T.n) (ic)) (Fx.x_move rfl h10) (Fx.Lv (.int .i64 ((k : Int) - 1)) (Fx.x_move rfl h13) (Fx.Lv ((pf gq1 (2 * k - 2))) (Fx.x_indexS rfl (rfl.trans (congrArg (fun q => Value.slice q (T.n) (ic)) eq3)) rfl Try.underlying22 (s := 2) (by kernel_rfl) (by omega) (by omega) (by omega)) (Fx.Lv ((pf gq1 (2 * k - 1))) (Fx.x_field rfl rfl Try.underlying30 rfl (s := 1) (by kernel_rfl) rfl (by show _ + 1 = _; omega)) (Fx.Lv (.int .u64 (T.p (k - 1))) (Fx.x_load1 (x := Fx.flat 2 fun q => ndc (T.x q) (T.p q)) rfl rfl (by kernel_rfl) m31.cel (i := 2 * k - 1) (by omega) (by omega) (Fx.flat_cell (k := k - 1) (j := 1) (by omega) (by omega) rfl)) ?_)))))))
   by_cases c76 : (TrM.has V (T.p (k - 1))) = true
   ·refine Fx.L.call (by rfl) (Fx.rC (args := [(pt tp2), .int .u64 (T.p (k - 1))]) rfl rfl Try.func8 rfl rfl) rfl ((w_has (T.p (k - 1)) m29).mono ?_)
    rintro e v1 ⟨he, hv1⟩
    subst v1
    refine ⟨.bool true, by rw [he, c76], ?_⟩
    clear he
    refine Fx.Lv (.bool true) (Fx.x_pickF rfl rfl rfl) (Fx.Ln (Fx.sN (Fx.Wc (b := true) rfl (fun _ => ?_) (fun h => nomatch h))))
    -- region 18 draws
    refine Fx.W.reord [0, 1, 2, 3, 4, 6, 7, 8, 9, 5, 10, 11] [0, 0, 0, 0, 0, 4, 0, 0, 0, 0, 4, 3] Fx.Mk Fx.Mk.refl Fx.Mk.trans (certs := [(11, 5, [5]), (11, 10, [10])]) (by kernel_rfl) (by kernel_rfl) (by kernel_rfl) (by kernel_rfl) (by kernel_rfl) fun wt3 hbwt3 hzwt3 => ?_
    have s9 : Fx.Stp w9.heap.size w9 wt3 := Fx.Sb hbwt3
    have m39 := m28.up s9.old
    have m40 := m29.up s9.old
    have m41 := m31.stpB s9 (Nat.ne_of_lt (m31.lt))
    have b13 := s9.below b10 b10.size b10.size
    refine Fx.Rp ((pt tp2)) (fun v1 => Fx.x_move rfl h11) (Fx.Rp (.slice ia (T.n) (ic)) (fun v1 => Fx.x_move rfl h10) (Fx.Rp (.int .i64 ((k : Int) - 1)) (fun v1 => Fx.x_move rfl h13) (Fx.Rp ((pf gq1 (2 * k - 2))) (fun v1 => Fx.x_indexS rfl (rfl.trans (congrArg (fun q => Value.slice q (T.n) (ic)) eq3)) rfl Try.underlying22 (s := 2) (by kernel_rfl) (by omega) (by omega) (by omega)) (Fx.Rp ((pf gq1 (2 * k - 2))) (fun v1 => Fx.x_field rfl rfl Try.underlying30 rfl (s := 1) (by kernel_rfl) rfl rfl) (Fx.Rp (.slice ia (T.n) (ic)) (fun v1 => Fx.x_move rfl h10) (Fx.Rp (.int .i64 ((k : Int) - 1)) (fun v1 => Fx.x_move rfl h13) (Fx.Rp ((pf gq1 (2 * k - 2))) (fun v1 => Fx.x_indexS rfl (rfl.trans (congrArg (fun q => Value.slice q (T.n) (ic)) eq3)) rfl Try.underlying22 (s := 2) (by kernel_rfl) (by omega) (by omega) (by omega)) (Fx.Rp ((pf gq1 (2 * k - 1))) (fun v1 => Fx.x_field rfl rfl Try.underlying30 rfl (s := 1) (by kernel_rfl) rfl (by show _ + 1 = _; omega)) (Fx.R.s (.int .u64 (T.x (k - 1))) (Fx.x_load1 (x := Fx.flat 2 fun q => ndc (T.x q) (T.p q)) rfl rfl (by kernel_rfl) m41.cel (i := 2 * k - 2) (by omega) (by omega) (Fx.flat_cell (k := k - 1) (j := 0) (by omega) (by omega) rfl)) ?_)))))))))
    refine Fx.R.s (.int .u64 (T.p (k - 1))) (Fx.x_load1 (x := Fx.flat 2 fun q => ndc (T.x q) (T.p q)) rfl rfl (by kernel_rfl) m41.cel (i := 2 * k - 1) (by omega) (by omega) (Fx.flat_cell (k := k - 1) (j := 1) (by omega) (by omega) rfl)) ?_
    refine Fx.R.eff (by rfl) ?_
    refine Fx.L.call (by rfl) (Fx.rC (args := [(pt tp2), .int .u64 (T.x (k - 1)), .int .u64 (T.p (k - 1))]) rfl rfl Try.func7 rfl rfl) rfl ((w_add (T.x (k - 1)) (T.p (k - 1)) m40 (by have := hTok.pos (k - 1) (by omega); omega)).mono ?_)
    rintro e9 w11 ⟨he, m42, s10⟩
    refine ⟨_, he, ?_⟩
    clear he
    have hcm3 := m40.chm s10
    have m43 := m39.chM hcm3 (by first | exact nemb1mb2 | exact fun e => nemb2mb1 e.symm | omega)
    have m44 := m41.chM hcm3
    have b14 := s10.below b13 b13.size m40.gm
    refine Fx.Ln (Fx.R.nil (Fx.blkN (Fx.sN (Fx.Wl (Fx.Lv (.int .i64 ((k : Int) - 1)) (Fx.x_move rfl h13) (Fx.Lv (.int .i64 ((k : Int) - 2)) (Fx.x_sub rfl rfl rfl Fx.io) (Fx.Lv (.int .i64 ((k : Int) - 2)) (Fx.x_assign rfl rfl) (Fx.Ln ?_))))))))
    have m45 : Fx.Own w11 w.heap.size 30 2 (.slice ia (T.n) (ic)) T.n (Fx.flat 2 fun q => ndc (T.x q) (T.p q)) := m44.congV (congrArg (fun q => Value.slice q T.n ic) eq3.symm)
    refine Fx.lpN ⟨k - 1, (TrM.add V (T.x (k - 1)) (T.p (k - 1))), (Rnd.add hTok hVok hRk (by omega) (by omega) (.inr c76)), (by omega), h9, h10, h11, (h12.trans Fx.ic), Fx.ic, m43, m42, m45, b14⟩ ?_
    show (intOf ((.int .i64 ((k : Int) - 2))) + 1).toNat < _
    simp only [h13, intOf]; omega
   rw [Bool.not_eq_true] at c76
   refine Fx.L.call (by rfl) (Fx.rC (args := [(pt tp2), .int .u64 (T.p (k - 1))]) rfl rfl Try.func8 rfl rfl) rfl ((w_has (T.p (k - 1)) m29).mono ?_)
   rintro e v1 ⟨he, hv1⟩
   subst v1
   refine ⟨.bool false, by rw [he, c76], ?_⟩
   clear he
   refine Fx.Lv (.bool false) (Fx.x_pickF rfl rfl rfl) (Fx.Ln (Fx.sN (Fx.Wc (b := false) rfl (fun h => nomatch h) (fun _ => Fx.Wk (Fx.blkN (Fx.sN (Fx.Wl (Fx.Lv (.int .i64 ((k : Int) - 1)) (Fx.x_move rfl h13) (Fx.Lv (.int .i64 ((k : Int) - 2)) (Fx.x_sub rfl rfl rfl Fx.io) (Fx.Lv (.int .i64 ((k : Int) - 2)) (Fx.x_assign rfl rfl) (Fx.Ln ?_)))))))))))
   have m46 : Fx.Own w9 w.heap.size 30 2 (.slice ia (T.n) (ic)) T.n (Fx.flat 2 fun q => ndc (T.x q) (T.p q)) := m31.congV (congrArg (fun q => Value.slice q T.n ic) eq3.symm)
   refine Fx.lpN ⟨k - 1, V, (Rnd.skip hTok hRk (by omega) (by omega) c68 c76), (by omega), h9, h10, h11, (h12.trans Fx.ic), Fx.ic, m28, m29, m46, b10⟩ ?_
   show (intOf ((.int .i64 ((k : Int) - 2))) + 1).toNat < _
   simp only [h13, intOf]; omega
  refine Fx.Lv (.bool false) (Fx.x_geqF rfl rfl rfl c60) (Fx.Ln (Fx.sN (Fx.Wc (b := false) rfl (fun h => nomatch h) (fun _ => Fx.W.exit (Fx.seqX (Fx.lpX (Fx.blkX (Fx.blkN (Fx.sN (Fx.Wl (Fx.Lv (.int .i64 ((r : Int))) (Fx.x_move rfl h12) (Fx.Lv (.int .i64 ((r : Int) + 1)) (Fx.x_add rfl rfl rfl Fx.io) (Fx.Lv (.int .i64 ((r : Int) + 1)) (Fx.x_assign rfl rfl) (Fx.Ln (Fx.lpN ⟨r + 1, V, (Rnd.next (by have e : k = 0 := (by omega); subst e; exact hRk)), (by omega), h9, h10, h11, Fx.ic, m28, m29, m30, b10⟩ ?_)))))))))))))))
  show ((T.n : Int) - intOf ((.int .i64 ((r : Int) + 1)))).toNat < _
  simp only [h8, intOf]; omega
 refine Fx.Lv (.bool false) (Fx.x_lssF rfl rfl rfl c53) (Fx.Ln (Fx.sN (Fx.Wc (b := false) rfl (fun h => nomatch h) (fun _ => Fx.W.exit (Fx.seqX (Fx.lpX (Fx.blkX (Fx.sN (Fx.Ws (Fx.Ws ?_))))))))))
 have hrn : T.n ≤ r := by omega
 have hP := hR.path hrn
 refine Fx.Wl (Fx.Lv (.slice ia (T.n) (ic)) (Fx.x_move rfl h6) (Fx.Lv (.int .i64 ((T.n : Int))) (Fx.x_len rfl rfl rfl (by kernel_rfl)) (Fx.Lv (.bool false) (Fx.x_gtrF rfl rfl rfl (by omega)) (Fx.Lv (.bool false) (Fx.x_move rfl rfl) (Fx.Lv ((pt tp1)) (Fx.x_move rfl h5) (Fx.L.call (by rfl) (Fx.rC (args := [(pt tp1)]) rfl rfl Try.func10 rfl rfl) rfl ((w_list m25).mono ?_)))))))
 rintro e9 w12 ⟨la1, lc1, ll1, he, m47, hq1, khq1, hb4⟩
 refine ⟨_, he, ?_⟩
 clear he
 have s11 := Fx.Sb hb4
 have m48 := m25.up s11.old
 have m49 := m26.up s11.old
 have m50 := m27.stp s11 (m27.notNew (Nat.le_refl _))
 have b15 := s11.below b9 b9.size b9.size
 refine Fx.Lv ((pt tp2)) (Fx.x_move rfl h7) (Fx.L.call (by rfl) (Fx.rC (args := [(pt tp2)]) rfl rfl Try.func10 rfl rfl) rfl ((w_list m49).mono ?_))
 rintro e9 w13 ⟨la2, lc2, ll2, he, m51, hq2, khq2, hb5⟩
 refine ⟨_, he, ?_⟩
 clear he
 have s12 := Fx.Sb hb5
 have m52 := m48.up s12.old
 have m53 := m49.up s12.old
 have m54 := m50.stp s12 (m50.notNew (Nat.le_refl _))
 have m55 := m47.stp s12 (m47.notNew (Nat.le_refl _))
 have b16 := s12.below b15 b15.size b15.size
 refine Fx.L.call (by rfl) (Fx.rC (args := [.slice la1 (ll1.length) (lc1), .slice la2 (ll2.length) (lc2)]) rfl rfl Try.func9 rfl rfl) rfl ((t_sameE ll1 ll2 lc1 lc2 _ _ _ (hR.list hrn hq1 hq2) (Fx.arr_of m55) (Fx.arr_of m51) (by omega)).mono ?_)
 rintro e w14 ⟨he, hb6⟩
 refine ⟨.bool true, by rw [he], ?_⟩
 clear he
 have s13 := Fx.Sb hb6
 have m56 := m52.up s13.old
 have m57 := m53.up s13.old
 have m58 := m54.stp s13 (m54.notNew (Nat.le_refl _))
 have b17 := s13.below b16 b16.size b16.size
 refine Fx.Lv (.bool false) (Fx.x_notF rfl rfl) (Fx.Lv (.bool false) (Fx.x_pickF rfl rfl rfl) (Fx.Ln (Fx.sN (Fx.Wc (b := false) rfl (fun h => nomatch h) (fun _ => Fx.Wk (Fx.sN (Fx.Ws (Fx.Ws (Fx.Wl (Fx.Lv (.int .i64 (0)) (Fx.x_assign rfl rfl) (Fx.Ln (Fx.sN (Fx.W.block (Fx.W.loop (fun f w_ => ∃ i : Nat, i ≤ T.n ∧ f 3 = (pt tp1) ∧ f 4 = .slice ia (T.n) (ic) ∧ f 6 = (pt tp2) ∧ f 9 = .int .i64 ((i : Int)) ∧ TrW w_ (w.heap.size) tp1 mb1 T ∧ TrW w_ (w.heap.size) tp2 mb2 U ∧ Fx.Own w_ w.heap.size 30 2 (.slice ia (T.n) (ic)) T.n (Fx.flat 2 fun q => ndc (T.x q) (T.p q)) ∧ Below w.heap.size w w_) (fun f _ => ((T.n : Int) - intOf (f 9)).toNat) ⟨0, (by omega), h5, h6, h7, Fx.ic, m56, m57, m58, b17⟩ ?_))))))))))))))
 rintro f4 w15 ⟨i, hin, h14, h15, h16, h17, m61, m62, m63, b18⟩
 refine Fx.Ws (Fx.Ws (Fx.Wl (Fx.Lv (.int .i64 ((i : Int))) (Fx.x_move rfl h17) (Fx.Lv (.slice ia (T.n) (ic)) (Fx.x_move rfl h15) (Fx.Lv (.int .i64 ((T.n : Int))) (Fx.x_len rfl rfl rfl (by kernel_rfl)) ?_)))))
 by_cases c104 : (i : Int) < (T.n : Int)
 ·refine Fx.Lv (.bool true) (Fx.x_lssT rfl rfl rfl c104) (Fx.Ln (Fx.sN (Fx.Wc (b := true) rfl (fun _ => Fx.Wk (Fx.sN (Fx.Ws (Fx.W.block (Fx.Ws (Fx.Wl (Fx.Lv ((pt tp1)) (Fx.x_move rfl h14) ?_))))))) (fun h => nomatch h))))
  refine Fx.Lv (.slice ia (T.n) (ic)) (Fx.x_move rfl h15) (Fx.Lv (.int .i64 ((i : Int))) (Fx.x_move rfl h17) ?_)
  obtain ⟨gq2, eq4⟩ := m63.addr (by omega)
  have m64 : Fx.Own w15 w.heap.size 30 2 (.slice (some ⟨gq2, 0, none⟩) T.n ic) T.n (Fx.flat 2 fun q => ndc (T.x q) (T.p q)) := m63.congV (congrArg (fun q => Value.slice q T.n ic) eq4)
  refine Fx.Lv ((pf gq2 (2 * i))) (Fx.x_indexS rfl (rfl.trans (congrArg (fun q => Value.slice q (T.n) (ic)) eq4)) rfl Try.underlying22 (s := 2) (by kernel_rfl) (by omega) (by omega) (by omega)) (Fx.Lv ((pf gq2 (2 * i))) (Fx.x_field rfl rfl Try.underlying30 rfl (s := 1) (by kernel_rfl) rfl rfl) (Fx.Lv (.int .u64 (T.x i)) (Fx.x_load1 (x := Fx.flat 2 fun q => ndc (T.x q) (T.p q)) rfl rfl (by kernel_rfl) m64.cel (i := 2 * i) (by omega) (by omega) (Fx.flat_cell (k := i) (j := 0) (by omega) (by omega) rfl)) (Fx.L.call (by rfl) (Fx.rC (args := [(pt tp1), .int .u64 (T.x i)]) rfl rfl Try.func11 rfl rfl) rfl ((w_path (T.x i) m61).mono ?_))))
  rintro e9 w16 ⟨pa1, pc1, he, m65, hb7⟩
  refine ⟨_, he, ?_⟩
  clear he
  have s14 := Fx.Sb hb7
  have m66 := m61.up s14.old
  have m67 := m62.up s14.old
  have m68 := m64.stpB s14 (Nat.ne_of_lt (m64.lt))
  have b19 := s14.below b18 b18.size b18.size
  obtain ⟨pl1, hpl1⟩ : ∃ q, q = TrM.path T (T.x i) := ⟨_, rfl⟩
  rw [← hpl1] at m65 ⊢
  have hp1 := hpl1.trans (TrM.step_x hTok (show i < T.n by omega))
  have hp4 : pl1.length ≤ 4 := by rw [hpl1]; exact TrM.path_le
  have hp5 : 1 ≤ pl1.length := by rw [hp1]; simp
  refine Fx.Lv (.slice pa1 (pl1.length) (pc1)) (Fx.x_assign rfl rfl) (Fx.Ln (Fx.sN (Fx.Ws (Fx.Ws ?_))))
  -- region 25 draws
  refine Fx.W.reord [0, 1, 2, 3, 4, 5, 6, 7, 8, 9, 10, 12, 13, 14, 15, 11, 16, 17, 18, 19, 20, 21, 22, 23, 24, 25, 26, 27, 28, 29, 30] [0, 0, 0, 0, 0, 0, 0, 0, 0, 0, 0, 4, 0, 0, 0, 0, 4, 0, 0, 0, 0, 0, 0, 0, 0, 0, 4, 2, 2, 0, 0] Fx.Mk Fx.Mk.refl Fx.Mk.trans (certs := [(27, 11, [19, 18, 17, 11]), (28, 11, [19, 18, 17, 11]), (27, 16, [19, 18, 17, 16]), (28, 16, [19, 18, 17, 16]), (27, 26, [26]), (28, 26, [27, 26]), (28, 27, [27]), (29, 27, [28, 27]), (30, 27, [29, 28, 27]), (29, 28, [28]), (30, 28, [29, 28])]) (by kernel_rfl) (by kernel_rfl) (by kernel_rfl) (by kernel_rfl) (by kernel_rfl) fun wt4 hbwt4 hzwt4 => ?_
  have s15 : Fx.Stp w16.heap.size w16 wt4 := Fx.Sb hbwt4
  have m69 := m66.up s15.old
  have m70 := m67.up s15.old
  have m71 := m68.stpB s15 (Nat.ne_of_lt (m68.lt))
  have m72 := m65.stp s15 (m65.notNew (Nat.le_refl _))
  have b20 := s15.below b19 b19.size b19.size
  refine Fx.Rp (.slice pa1 (pl1.length) (pc1)) (fun v1 => Fx.x_move rfl rfl) (Fx.Rp (.int .i64 ((pl1.length : Int))) (fun v1 => Fx.x_len rfl rfl rfl (by kernel_rfl)) (Fx.Rp (.bool false) (fun v1 => Fx.x_lssF rfl rfl rfl (by omega)) (Fx.Rp (.bool false) (fun v1 => Fx.x_move rfl rfl) (Fx.Rp (.slice pa1 (pl1.length) (pc1)) (fun v1 => Fx.x_move rfl rfl) (Fx.Rp (.int .i64 ((pl1.length : Int))) (fun v1 => Fx.x_len rfl rfl rfl (by kernel_rfl)) (Fx.Rp (.bool false) (fun v1 => Fx.x_gtrF rfl rfl rfl (by omega)) (Fx.Rp (.bool false) (fun v1 => Fx.x_pickF rfl rfl rfl) (Fx.Rp (.bool false) (fun v1 => Fx.x_move rfl rfl) (Fx.Rp (.slice pa1 (pl1.length) (pc1)) (fun v1 => Fx.x_move rfl rfl) ?_)))))))))
  obtain ⟨gq3, eq5⟩ := m72.addr (by omega)
  have m73 : Fx.Own wt4 w15.heap.size 28 1 (.slice (some ⟨gq3, 0, none⟩) pl1.length pc1) pl1.length (lsU pl1) := m72.congV (congrArg (fun q => Value.slice q pl1.length pc1) eq5)
  refine Fx.Rp ((pt gq3)) (fun v1 => Fx.x_indexS rfl (rfl.trans (congrArg (fun q => Value.slice q (pl1.length) (pc1)) eq5)) rfl Try.underlying33 (s := 1) (by kernel_rfl) (by omega) (by omega) (by omega)) (Fx.Rp (.slice ia (T.n) (ic)) (fun v1 => Fx.x_move rfl h15) (Fx.Rp (.int .i64 ((i : Int))) (fun v1 => Fx.x_move rfl h17) (Fx.Rp ((pf gq2 (2 * i))) (fun v1 => Fx.x_indexS rfl (rfl.trans (congrArg (fun q => Value.slice q (T.n) (ic)) eq4)) rfl Try.underlying22 (s := 2) (by kernel_rfl) (by omega) (by omega) (by omega)) (Fx.Rp ((pf gq2 (2 * i))) (fun v1 => Fx.x_field rfl rfl Try.underlying30 rfl (s := 1) (by kernel_rfl) rfl rfl) (Fx.R.s (.int .u64 (pl1.getD 0 0)) (Fx.x_load1 (x := lsU pl1) rfl rfl (by kernel_rfl) m73.cel (i := 0) (by omega) (by omega) rfl) ?_)))))
  refine Fx.R.s (.int .u64 (T.x i)) (Fx.x_load1 (x := Fx.flat 2 fun q => ndc (T.x q) (T.p q)) rfl rfl (by kernel_rfl) m71.cel (i := 2 * i) (by omega) (by omega) (Fx.flat_cell (k := i) (j := 0) (by omega) (by omega) rfl)) ?_
  refine Fx.Rp (.bool false) (fun v1 => Fx.x_neqF rfl rfl rfl (by rw [hp1]; rfl)) (Fx.Rp (.bool false) (fun v1 => Fx.x_pickF rfl rfl rfl) (Fx.Rp (.bool false) (fun v1 => Fx.x_move rfl rfl) (Fx.Rp (.slice pa1 (pl1.length) (pc1)) (fun v1 => Fx.x_move rfl rfl) (Fx.Rp ((pt tp2)) (fun v1 => Fx.x_move rfl h16) (Fx.Rp (.slice ia (T.n) (ic)) (fun v1 => Fx.x_move rfl h15) (Fx.Rp (.int .i64 ((i : Int))) (fun v1 => Fx.x_move rfl h17) (Fx.Rp ((pf gq2 (2 * i))) (fun v1 => Fx.x_indexS rfl (rfl.trans (congrArg (fun q => Value.slice q (T.n) (ic)) eq4)) rfl Try.underlying22 (s := 2) (by kernel_rfl) (by omega) (by omega) (by omega)) (Fx.Rp ((pf gq2 (2 * i))) (fun v1 => Fx.x_field rfl rfl Try.underlying30 rfl (s := 1) (by kernel_rfl) rfl rfl) (Fx.R.s (.int .u64 (T.x i)) (Fx.x_load1 (x := Fx.flat 2 fun q => ndc (T.x q) (T.p q)) rfl rfl (by kernel_rfl) m71.cel (i := 2 * i) (by omega) (by omega) (Fx.flat_cell (k := i) (j := 0) (by omega) (by omega) rfl)) ?_)))))))))
  refine Fx.R.make (by rfl) ?_
  refine Fx.L.call (by rfl) (Fx.rC (args := [(pt tp2), .int .u64 (T.x i)]) rfl rfl Try.func11 rfl rfl) rfl ((w_path (T.x i) m70).mono ?_)
  rintro e9 w17 ⟨pa2, pc2, he, m74, hb8⟩
  refine ⟨_, he, ?_⟩
  clear he
  have s16 := Fx.Sb hb8
  have m75 := m69.up s16.old
  have m76 := m70.up s16.old
  have m77 := m71.stpB s16 (Nat.ne_of_lt (m71.lt))
  have m78 := m73.stpB s16 (Nat.ne_of_lt (m73.lt))
  have b21 := s16.below b20 b20.size b20.size
  obtain ⟨pl2, hpl2⟩ : ∃ q, q = TrM.path U (T.x i) := ⟨_, rfl⟩
  rw [← hpl2] at m74 ⊢
  refine Fx.Ln ⟨s16.old, ?_⟩
  refine Fx.R.make (by rfl) ?_
  refine Fx.L.call (by rfl) (Fx.rC (args := [.slice pa1 (pl1.length) (pc1), .slice pa2 (pl2.length) (pc2)]) rfl rfl Try.func9 rfl rfl) rfl ((t_sameE pl1 pl2 pc1 pc2 _ _ _ (hpl2.trans ((hP _).trans hpl1.symm)) (Fx.arr_ofB m78 eq5) (Fx.arr_of m74) (by omega)).mono ?_)
  rintro e w18 ⟨he, hb9⟩
  refine ⟨.bool true, by rw [he], ?_⟩
  clear he
  have s17 := Fx.Sb hb9
  have m79 := m75.up s17.old
  have m80 := m76.up s17.old
  have m81 := m77.stpB s17 (Nat.ne_of_lt (m77.lt))
  have m82 := m78.stpB s17 (Nat.ne_of_lt (m78.lt))
  have b22 := s17.below b21 b21.size b21.size
  refine Fx.Ln ⟨s17.old, ?_⟩
  refine Fx.Rp (.bool false) (fun v1 => Fx.x_notF rfl rfl) (Fx.Rp (.bool false) (fun v1 => Fx.x_pickF rfl rfl rfl) (Fx.R.nil (Fx.sN (Fx.Wc (b := false) rfl (fun h => nomatch h) (fun _ => Fx.Wk (Fx.sN (Fx.Ws (Fx.Wl (Fx.Lv ((pt tp1)) (Fx.x_move rfl h14) ?_)))))))))
  refine Fx.Lv (.slice ia (T.n) (ic)) (Fx.x_move rfl h15) (Fx.Lv (.int .i64 ((i : Int))) (Fx.x_move rfl h17) (Fx.Lv ((pf gq2 (2 * i))) (Fx.x_indexS rfl (rfl.trans (congrArg (fun q => Value.slice q (T.n) (ic)) eq4)) rfl Try.underlying22 (s := 2) (by kernel_rfl) (by omega) (by omega) (by omega)) (Fx.Lv ((pf gq2 (2 * i + 1))) (Fx.x_field rfl rfl Try.underlying30 rfl (s := 1) (by kernel_rfl) rfl (by show _ + 1 = _; omega)) (Fx.Lv (.int .u64 (T.p i)) (Fx.x_load1 (x := Fx.flat 2 fun q => ndc (T.x q) (T.p q)) rfl rfl (by kernel_rfl) m81.cel (i := 2 * i + 1) (by omega) (by omega) (Fx.flat_cell (k := i) (j := 1) (by omega) (by omega) rfl)) (Fx.L.call (by rfl) (Fx.rC (args := [(pt tp1), .int .u64 (T.p i)]) rfl rfl Try.func11 rfl rfl) rfl ((w_path (T.p i) m79).mono ?_))))))
  rintro e9 w19 ⟨pa3, pc3, he, m84, hb10⟩
  refine ⟨_, he, ?_⟩
  clear he
  have s18 := Fx.Sb hb10
  have m85 := m79.up s18.old
  have m86 := m80.up s18.old
  have m87 := m81.stpB s18 (Nat.ne_of_lt (m81.lt))
  have m88 := m82.stpB s18 (Nat.ne_of_lt (m82.lt))
  have b23 := s18.below b22 b22.size b22.size
  obtain ⟨pl3, hpl3⟩ : ∃ q, q = TrM.path T (T.p i) := ⟨_, rfl⟩
  rw [← hpl3] at m84 ⊢
  have hp3 : pl1 = T.x i :: pl3 := by rw [hp1, hpl3]
  have hp6 : pl3.length ≤ 4 := by rw [hpl3]; exact TrM.path_le
  refine Fx.Lv (.slice pa3 (pl3.length) (pc3)) (Fx.x_assign rfl rfl) (Fx.Ln (Fx.sN (Fx.Ws (Fx.Ws ?_))))
  have m90 : Fx.Own w19 w.heap.size 30 2 (.slice ia (T.n) (ic)) T.n (Fx.flat 2 fun q => ndc (T.x q) (T.p q)) := m87.congV (congrArg (fun q => Value.slice q T.n ic) eq4.symm)
  have m91 : Fx.Own w19 w15.heap.size 28 1 (.slice pa1 (pl1.length) (pc1)) pl1.length (lsU pl1) := m88.congV (congrArg (fun q => Value.slice q pl1.length pc1) eq5.symm)
  refine Fx.Wl (Fx.Lv (.slice ia (T.n) (ic)) (Fx.x_move rfl h15) (Fx.Lv (.int .i64 ((i : Int))) (Fx.x_move rfl h17) ?_))
  obtain ⟨gq4, eq6⟩ := m90.addr (by omega)
  have m92 : Fx.Own w19 w.heap.size 30 2 (.slice (some ⟨gq4, 0, none⟩) T.n ic) T.n (Fx.flat 2 fun q => ndc (T.x q) (T.p q)) := m90.congV (congrArg (fun q => Value.slice q T.n ic) eq6)
  refine Fx.Lv ((pf gq4 (2 * i))) (Fx.x_indexS rfl (rfl.trans (congrArg (fun q => Value.slice q (T.n) (ic)) eq6)) rfl Try.underlying22 (s := 2) (by kernel_rfl) (by omega) (by omega) (by omega)) (Fx.Lv ((pf gq4 (2 * i + 1))) (Fx.x_field rfl rfl Try.underlying30 rfl (s := 1) (by kernel_rfl) rfl (by show _ + 1 = _; omega)) (Fx.Lv (.int .u64 (T.p i)) (Fx.x_load1 (x := Fx.flat 2 fun q => ndc (T.x q) (T.p q)) rfl rfl (by kernel_rfl) m92.cel (i := 2 * i + 1) (by omega) (by omega) (Fx.flat_cell (k := i) (j := 1) (by omega) (by omega) rfl)) ?_))
  by_cases c157 : (T.p i) = 0
  ·refine Fx.Lv (.bool true) (Fx.x_eqlT rfl rfl rfl c157) (Fx.Lv (.bool true) (Fx.x_move rfl rfl) (Fx.Lv (.slice pa1 (pl1.length) (pc1)) (Fx.x_move rfl rfl) (Fx.Lv (.int .i64 ((pl1.length : Int))) (Fx.x_len rfl rfl rfl (by kernel_rfl)) (Fx.Lv (.bool false) (Fx.x_neqF rfl rfl rfl (by rw [hp3, hpl3, c157, TrM.path_0 hTok]; rfl)) (Fx.Lv (.bool false) (Fx.x_pickT rfl rfl rfl) (Fx.Lv (.bool false) (Fx.x_move rfl rfl) (Fx.Lv (.slice ia (T.n) (ic)) (Fx.x_move rfl h15) (Fx.Lv (.int .i64 ((i : Int))) (Fx.x_move rfl h17) (Fx.Lv ((pf gq4 (2 * i))) (Fx.x_indexS rfl (rfl.trans (congrArg (fun q => Value.slice q (T.n) (ic)) eq6)) rfl Try.underlying22 (s := 2) (by kernel_rfl) (by omega) (by omega) (by omega)) (Fx.Lv ((pf gq4 (2 * i + 1))) (Fx.x_field rfl rfl Try.underlying30 rfl (s := 1) (by kernel_rfl) rfl (by show _ + 1 = _; omega)) (Fx.Lv (.int .u64 (T.p i)) (Fx.x_load1 (x := Fx.flat 2 fun q => ndc (T.x q) (T.p q)) rfl rfl (by kernel_rfl) m92.cel (i := 2 * i + 1) (by omega) (by omega) (Fx.flat_cell (k := i) (j := 1) (by omega) (by omega) rfl)) (Fx.Lv (.bool false) (Fx.x_neqF rfl rfl rfl c157) (Fx.Lv (.bool false) (Fx.x_move rfl rfl) (Fx.Lk (by rfl) rfl (Fx.Lk (by rfl) rfl (Fx.Lk (by rfl) rfl (Fx.Lk (by rfl) rfl (Fx.Lk (by rfl) rfl (Fx.Lv (.bool false) (Fx.x_pickF rfl rfl rfl) (Fx.Lv (.bool false) (Fx.x_pickF rfl rfl rfl) (Fx.Ln (Fx.sN (Fx.Wc (b := false) rfl (fun h => nomatch h) (fun _ => Fx.Wk (Fx.sN (Fx.Ws (Fx.Wl (Fx.Lv (.int .i64 (0)) (Fx.x_assign rfl rfl) (Fx.Ln (Fx.sN (Fx.W.block ?_)))))))))))))))))))))))))))))))
   have m93 : Fx.Own w19 w.heap.size 30 2 (.slice ia (T.n) (ic)) T.n (Fx.flat 2 fun q => ndc (T.x q) (T.p q)) := m92.congV (congrArg (fun q => Value.slice q T.n ic) eq6.symm)
   refine Fx.W.loop (fun f w_ => ∃ ki : Nat, ki ≤ T.n ∧ f 3 = (pt tp1) ∧ f 4 = .slice ia (T.n) (ic) ∧ f 6 = (pt tp2) ∧ f 9 = .int .i64 ((i : Int)) ∧ f 10 = .slice pa1 (pl1.length) (pc1) ∧ f 12 = .int .i64 ((ki : Int)) ∧ TrW w_ (w.heap.size) tp1 mb1 T ∧ TrW w_ (w.heap.size) tp2 mb2 U ∧ Fx.Own w_ w.heap.size 30 2 (.slice ia (T.n) (ic)) T.n (Fx.flat 2 fun q => ndc (T.x q) (T.p q)) ∧ Fx.Own w_ w15.heap.size 28 1 (.slice pa1 (pl1.length) (pc1)) pl1.length (lsU pl1) ∧ Below w.heap.size w w_) (fun f _ => ((T.n : Int) - intOf (f 12)).toNat) ⟨0, (by omega), h14, h15, h16, (h17.trans Fx.ic), (by rfl), Fx.ic, m85, m86, m93, m91, b23⟩ ?_
   rintro f5 w20 ⟨ki, hki, h18, h19, h20, h21, h22, h23, m94, m95, m96, m97, b24⟩
   refine Fx.Ws (Fx.Ws (Fx.Wl (Fx.Lv (.int .i64 ((ki : Int))) (Fx.x_move rfl h23) (Fx.Lv (.slice ia (T.n) (ic)) (Fx.x_move rfl h19) (Fx.Lv (.int .i64 ((T.n : Int))) (Fx.x_len rfl rfl rfl (by kernel_rfl)) ?_)))))
   by_cases c181 : (ki : Int) < (T.n : Int)
   ·refine Fx.Lv (.bool true) (Fx.x_lssT rfl rfl rfl c181) (Fx.Ln (Fx.sN (Fx.Wc (b := true) rfl (fun _ => Fx.Wk (Fx.sN (Fx.Ws (Fx.W.block (Fx.Ws (Fx.Wl (Fx.Lv (.bool false) (Fx.x_assign rfl rfl) ?_))))))) (fun h => nomatch h))))
    refine Fx.Ln (Fx.sN (Fx.Ws (Fx.Ws (Fx.Wl (Fx.Lv (.int .i64 (0)) (Fx.x_assign rfl rfl) (Fx.Ln (Fx.sN (Fx.W.block (Fx.W.loop (fun f w_ => ∃ jo : Nat, ∃ on : Bool, Fnd pl1 (T.x ki) jo on ∧ jo ≤ pl1.length ∧ f 3 = (pt tp1) ∧ f 4 = .slice ia (T.n) (ic) ∧ f 6 = (pt tp2) ∧ f 9 = .int .i64 ((i : Int)) ∧ f 10 = .slice pa1 (pl1.length) (pc1) ∧ f 12 = .int .i64 ((ki : Int)) ∧ f 13 = .bool on ∧ f 14 = .int .i64 ((jo : Int)) ∧ TrW w_ (w.heap.size) tp1 mb1 T ∧ TrW w_ (w.heap.size) tp2 mb2 U ∧ Fx.Own w_ w.heap.size 30 2 (.slice ia (T.n) (ic)) T.n (Fx.flat 2 fun q => ndc (T.x q) (T.p q)) ∧ Fx.Own w_ w15.heap.size 28 1 (.slice pa1 (pl1.length) (pc1)) pl1.length (lsU pl1) ∧ Below w.heap.size w w_) (fun f _ => ((pl1.length : Int) - intOf (f 14)).toNat) ⟨0, false, (Fnd.zero _ _), (by omega), h18, h19, h20, (h21.trans Fx.ic), h22, (h23.trans Fx.ic), (by rfl), Fx.ic, m94, m95, m96, m97, b24⟩ ?_)))))))))
    rintro f6 w21 ⟨jo, on, hon, hjo, h24, h25, h26, h27, h28, h29, h30, h31, m98, m99, m100, m101, b25⟩
    refine Fx.Ws (Fx.Ws (Fx.Wl (Fx.Lv (.int .i64 ((jo : Int))) (Fx.x_move rfl h31) (Fx.Lv (.slice pa1 (pl1.length) (pc1)) (Fx.x_move rfl h28) (Fx.Lv (.int .i64 ((pl1.length : Int))) (Fx.x_len rfl rfl rfl (by kernel_rfl)) ?_)))))
    by_cases c187 : (jo : Int) < (pl1.length : Int)
    ·refine Fx.Lv (.bool true) (Fx.x_lssT rfl rfl rfl c187) (Fx.Ln (Fx.sN (Fx.Wc (b := true) rfl (fun _ => Fx.Wk (Fx.sN (Fx.Ws (Fx.W.block ?_)))) (fun h => nomatch h))))
     -- region 37 draws
     refine Fx.W.quiet (fun v1 => ∃ q, v1 = World.drewN w21 q) (by kernel_rfl) (by kernel_rfl) ⟨1, rfl⟩ ?_
     by_cases c190 : on = true
     ·refine Fx.Qv (.bool true) (fun v1 hv1 => Fx.x_move rfl (h30.trans (congrArg Value.bool c190))) (Fx.Qv (.bool true) (fun v1 hv1 => Fx.x_move rfl rfl) (Fx.Qs (by rfl) rfl (Fx.Qs (by rfl) rfl (Fx.Qs (by rfl) rfl (Fx.Qs (by rfl) rfl (Fx.Qs (by rfl) rfl (Fx.Qs (by rfl) rfl (Fx.Qs (by rfl) rfl (Fx.Qs (by rfl) rfl (Fx.Qs (by rfl) rfl (Fx.Qs (by rfl) rfl (Fx.Qv (.bool true) (fun v1 hv1 => Fx.x_pickT rfl rfl rfl) (Fx.Qv (.bool true) (fun v1 hv1 => Fx.x_assign rfl rfl) (Fx.Qt.nil ?_))))))))))))))
      rintro _ ⟨qd, rfl⟩
      obtain ⟨wq1, ewq1⟩ : ∃ v1, v1 = World.drewN w21 qd := ⟨_, rfl⟩
      rw [← ewq1]
      have s19 : Fx.Stp w21.heap.size w21 wq1 := by rw [ewq1]; exact Fx.Sb (bdrN w21 qd)
      have m102 := m98.up s19.old
      have m103 := m99.up s19.old
      have m104 := m100.stp s19 (m100.notNew (Nat.le_refl _))
      have m105 := m101.stp s19 (m101.notNew (Nat.le_refl _))
      have b26 := s19.below b25 b25.size b25.size
      clear ewq1
      refine Fx.blkN (Fx.sN (Fx.Wl (Fx.Lv (.int .i64 ((jo : Int))) (Fx.x_move rfl h31) (Fx.Lv (.int .i64 ((jo : Int) + 1)) (Fx.x_add rfl rfl rfl Fx.io) (Fx.Lv (.int .i64 ((jo : Int) + 1)) (Fx.x_assign rfl rfl) (Fx.Ln (Fx.lpN ⟨jo + 1, true, (by rw [c190] at hon; exact hon.keep), (by omega), h24, h25, h26, (h27.trans Fx.ic), h28, (h29.trans Fx.ic), (by rfl), Fx.ic, m102, m103, m104, m105, b26⟩ ?_)))))))
      show ((pl1.length : Int) - intOf ((.int .i64 ((jo : Int) + 1)))).toNat < _
      simp only [h31, intOf]; omega
     rw [Bool.not_eq_true] at c190
     refine Fx.Qv (.bool false) (fun v1 hv1 => Fx.x_move rfl (h30.trans (congrArg Value.bool c190))) (Fx.Qv (.bool false) (fun v1 hv1 => Fx.x_move rfl rfl) (Fx.Qv (.slice pa1 (pl1.length) (pc1)) (fun v1 hv1 => Fx.x_move rfl h28) (Fx.Qv (.int .i64 ((jo : Int))) (fun v1 hv1 => Fx.x_move rfl h31) ?_)))
     obtain ⟨gq5, eq7⟩ := m101.addr (by omega)
     have m106 : Fx.Own w21 w15.heap.size 28 1 (.slice (some ⟨gq5, 0, none⟩) pl1.length pc1) pl1.length (lsU pl1) := m101.congV (congrArg (fun q => Value.slice q pl1.length pc1) eq7)
     refine Fx.Qv ((pf gq5 jo)) (fun v1 hv1 => Fx.x_indexS rfl (rfl.trans (congrArg (fun q => Value.slice q (pl1.length) (pc1)) eq7)) rfl Try.underlying33 (s := 1) (by kernel_rfl) (by omega) (by omega) (by omega)) (Fx.Qv (.int .u64 (pl1.getD jo 0)) (fun v1 hv1 => Fx.x_load1 (x := lsU pl1) rfl rfl (by kernel_rfl) (by obtain ⟨qd, rfl⟩ := hv1; exact m106.cel) (i := jo) (by omega) (by omega) rfl) (Fx.Qv (.slice ia (T.n) (ic)) (fun v1 hv1 => Fx.x_move rfl h25) (Fx.Qv (.int .i64 ((ki : Int))) (fun v1 hv1 => Fx.x_move rfl h29) ?_)))
     obtain ⟨gq6, eq8⟩ := m100.addr (by omega)
     have m107 : Fx.Own w21 w.heap.size 30 2 (.slice (some ⟨gq6, 0, none⟩) T.n ic) T.n (Fx.flat 2 fun q => ndc (T.x q) (T.p q)) := m100.congV (congrArg (fun q => Value.slice q T.n ic) eq8)
     refine Fx.Qv ((pf gq6 (2 * ki))) (fun v1 hv1 => Fx.x_indexS rfl (rfl.trans (congrArg (fun q => Value.slice q (T.n) (ic)) eq8)) rfl Try.underlying22 (s := 2) (by kernel_rfl) (by omega) (by omega) (by omega)) (Fx.Qv ((pf gq6 (2 * ki))) (fun v1 hv1 => Fx.x_field rfl rfl Try.underlying30 rfl (s := 1) (by kernel_rfl) rfl rfl) (Fx.Qv (.int .u64 (T.x ki)) (fun v1 hv1 => Fx.x_load1 (x := Fx.flat 2 fun q => ndc (T.x q) (T.p q)) rfl rfl (by kernel_rfl) (by obtain ⟨qd, rfl⟩ := hv1; exact m107.cel) (i := 2 * ki) (by omega) (by omega) (Fx.flat_cell (k := ki) (j := 0) (by omega) (by omega) rfl)) ?_))
     by_cases c201 : (pl1.getD jo 0) = (T.x ki)
     ·refine Fx.Qv (.bool true) (fun v1 hv1 => Fx.x_eqlT rfl rfl rfl c201) (Fx.Qv (.bool true) (fun v1 hv1 => Fx.x_pickF rfl rfl rfl) (Fx.Qv (.bool true) (fun v1 hv1 => Fx.x_assign rfl rfl) (Fx.Qt.nil ?_)))
      rintro _ ⟨qd, rfl⟩
      obtain ⟨wq2, ewq2⟩ : ∃ v1, v1 = World.drewN w21 qd := ⟨_, rfl⟩
      rw [← ewq2]
      have s20 : Fx.Stp w21.heap.size w21 wq2 := by rw [ewq2]; exact Fx.Sb (bdrN w21 qd)
      have m108 := m98.up s20.old
      have m109 := m99.up s20.old
      have m110 := m106.stpB s20 (Nat.ne_of_lt (m106.lt))
      have m111 := m107.stpB s20 (Nat.ne_of_lt (m107.lt))
      have b27 := s20.below b25 b25.size b25.size
      clear ewq2
      refine Fx.blkN (Fx.sN (Fx.Wl (Fx.Lv (.int .i64 ((jo : Int))) (Fx.x_move rfl h31) (Fx.Lv (.int .i64 ((jo : Int) + 1)) (Fx.x_add rfl rfl rfl Fx.io) (Fx.Lv (.int .i64 ((jo : Int) + 1)) (Fx.x_assign rfl rfl) (Fx.Ln ?_))))))
      have m112 : Fx.Own wq2 w15.heap.size 28 1 (.slice pa1 (pl1.length) (pc1)) pl1.length (lsU pl1) := m110.congV (congrArg (fun q => Value.slice q pl1.length pc1) eq7.symm)
      have m113 : Fx.Own wq2 w.heap.size 30 2 (.slice ia (T.n) (ic)) T.n (Fx.flat 2 fun q => ndc (T.x q) (T.p q)) := m111.congV (congrArg (fun q => Value.slice q T.n ic) eq8.symm)
      refine Fx.lpN ⟨jo + 1, true, (Fnd.yes (by omega) c201), (by omega), h24, h25, h26, (h27.trans Fx.ic), h28, (h29.trans Fx.ic), (by rfl), Fx.ic, m108, m109, m113, m112, b27⟩ ?_
      show ((pl1.length : Int) - intOf ((.int .i64 ((jo : Int) + 1)))).toNat < _
      simp only [h31, intOf]; omega
     refine Fx.Qv (.bool false) (fun v1 hv1 => Fx.x_eqlF rfl rfl rfl c201) (Fx.Qv (.bool false) (fun v1 hv1 => Fx.x_pickF rfl rfl rfl) (Fx.Qv (.bool false) (fun v1 hv1 => Fx.x_assign rfl rfl) (Fx.Qt.nil ?_)))
     rintro _ ⟨qd, rfl⟩
     obtain ⟨wq3, ewq3⟩ : ∃ v1, v1 = World.drewN w21 qd := ⟨_, rfl⟩
     rw [← ewq3]
     have s21 : Fx.Stp w21.heap.size w21 wq3 := by rw [ewq3]; exact Fx.Sb (bdrN w21 qd)
     have m114 := m98.up s21.old
     have m115 := m99.up s21.old
     have m116 := m106.stpB s21 (Nat.ne_of_lt (m106.lt))
     have m117 := m107.stpB s21 (Nat.ne_of_lt (m107.lt))
     have b28 := s21.below b25 b25.size b25.size
     clear ewq3
     refine Fx.blkN (Fx.sN (Fx.Wl (Fx.Lv (.int .i64 ((jo : Int))) (Fx.x_move rfl h31) (Fx.Lv (.int .i64 ((jo : Int) + 1)) (Fx.x_add rfl rfl rfl Fx.io) (Fx.Lv (.int .i64 ((jo : Int) + 1)) (Fx.x_assign rfl rfl) (Fx.Ln ?_))))))
     have m118 : Fx.Own wq3 w15.heap.size 28 1 (.slice pa1 (pl1.length) (pc1)) pl1.length (lsU pl1) := m116.congV (congrArg (fun q => Value.slice q pl1.length pc1) eq7.symm)
     have m119 : Fx.Own wq3 w.heap.size 30 2 (.slice ia (T.n) (ic)) T.n (Fx.flat 2 fun q => ndc (T.x q) (T.p q)) := m117.congV (congrArg (fun q => Value.slice q T.n ic) eq8.symm)
     refine Fx.lpN ⟨jo + 1, false, (by rw [c190] at hon; exact hon.no c201), (by omega), h24, h25, h26, (h27.trans Fx.ic), h28, (h29.trans Fx.ic), (by rfl), Fx.ic, m114, m115, m119, m118, b28⟩ ?_
     show ((pl1.length : Int) - intOf ((.int .i64 ((jo : Int) + 1)))).toNat < _
     simp only [h31, intOf]; omega
    refine Fx.Lv (.bool false) (Fx.x_lssF rfl rfl rfl c187) (Fx.Ln (Fx.sN (Fx.Wc (b := false) rfl (fun h => nomatch h) (fun _ => Fx.W.exit (Fx.seqX (Fx.lpX (Fx.blkX (Fx.sN (Fx.Ws (Fx.Wl (Fx.Lv (.bool false) (Fx.x_assign rfl rfl) (Fx.Ln (Fx.sN (Fx.Ws (Fx.Wl (Fx.Lv ((pt tp1)) (Fx.x_move rfl h24) (Fx.Lv (.slice ia (T.n) (ic)) (Fx.x_move rfl h25) (Fx.Lv (.int .i64 ((ki : Int))) (Fx.x_move rfl h29) ?_))))))))))))))))))
    obtain ⟨gq7, eq9⟩ := m100.addr (by omega)
    have m120 : Fx.Own w21 w.heap.size 30 2 (.slice (some ⟨gq7, 0, none⟩) T.n ic) T.n (Fx.flat 2 fun q => ndc (T.x q) (T.p q)) := m100.congV (congrArg (fun q => Value.slice q T.n ic) eq9)
    refine Fx.Lv ((pf gq7 (2 * ki))) (Fx.x_indexS rfl (rfl.trans (congrArg (fun q => Value.slice q (T.n) (ic)) eq9)) rfl Try.underlying22 (s := 2) (by kernel_rfl) (by omega) (by omega) (by omega)) (Fx.Lv ((pf gq7 (2 * ki))) (Fx.x_field rfl rfl Try.underlying30 rfl (s := 1) (by kernel_rfl) rfl rfl) (Fx.Lv (.int .u64 (T.x ki)) (Fx.x_load1 (x := Fx.flat 2 fun q => ndc (T.x q) (T.p q)) rfl rfl (by kernel_rfl) m120.cel (i := 2 * ki) (by omega) (by omega) (Fx.flat_cell (k := ki) (j := 0) (by omega) (by omega) rfl)) (Fx.L.call (by rfl) (Fx.rC (args := [(pt tp1), .int .u64 (T.x ki)]) rfl rfl Try.func12 rfl rfl) rfl ((w_below (T.x ki) m98).mono ?_))))
    rintro e9 w22 ⟨la3, lc3, ll3, he, m121, hq3, khq3, hb11⟩
    refine ⟨_, he, ?_⟩
    clear he
    have s22 := Fx.Sb hb11
    have m122 := m98.up s22.old
    have m123 := m99.up s22.old
    have m124 := m101.stp s22 (m101.notNew (Nat.le_refl _))
    have m125 := m120.stpB s22 (Nat.ne_of_lt (m120.lt))
    have b29 := s22.below b25 b25.size b25.size
    refine Fx.Lv (.slice la3 (ll3.length) (lc3)) (Fx.x_assign rfl rfl) (Fx.Ln (Fx.sN (Fx.Ws (Fx.Ws (Fx.Wl (Fx.Lv (.int .i64 (0)) (Fx.x_assign rfl rfl) (Fx.Ln (Fx.sN (Fx.W.block ?_)))))))))
    have m126 : Fx.Own w22 w.heap.size 30 2 (.slice ia (T.n) (ic)) T.n (Fx.flat 2 fun q => ndc (T.x q) (T.p q)) := m125.congV (congrArg (fun q => Value.slice q T.n ic) eq9.symm)
    refine Fx.W.loop (fun f w_ => ∃ jb : Nat, ∃ bl : Bool, Fnd ll3 (T.x i) jb bl ∧ jb ≤ ll3.length ∧ f 3 = (pt tp1) ∧ f 4 = .slice ia (T.n) (ic) ∧ f 6 = (pt tp2) ∧ f 9 = .int .i64 ((i : Int)) ∧ f 10 = .slice pa1 (pl1.length) (pc1) ∧ f 12 = .int .i64 ((ki : Int)) ∧ f 13 = .bool on ∧ f 15 = .bool bl ∧ f 16 = .slice la3 (ll3.length) (lc3) ∧ f 17 = .int .i64 ((jb : Int)) ∧ TrW w_ (w.heap.size) tp1 mb1 T ∧ TrW w_ (w.heap.size) tp2 mb2 U ∧ Fx.Own w_ w.heap.size 30 2 (.slice ia (T.n) (ic)) T.n (Fx.flat 2 fun q => ndc (T.x q) (T.p q)) ∧ Fx.Own w_ w15.heap.size 28 1 (.slice pa1 (pl1.length) (pc1)) pl1.length (lsU pl1) ∧ Fx.Own w_ w21.heap.size 28 1 (.slice la3 (ll3.length) (lc3)) ll3.length (lsU ll3) ∧ Below w.heap.size w w_) (fun f _ => ((ll3.length : Int) - intOf (f 17)).toNat) ⟨0, false, (Fnd.zero _ _), (by omega), h24, h25, h26, (h27.trans Fx.ic), h28, (h29.trans Fx.ic), h30, (by rfl), (by rfl), Fx.ic, m122, m123, m126, m124, m121, b29⟩ ?_
    rintro f7 w23 ⟨jb, bl, hbl, hjb, h32, h33, h34, h35, h36, h37, h38, h39, h40, h41, m127, m128, m129, m130, m131, b30⟩
    refine Fx.Ws (Fx.Ws (Fx.Wl (Fx.Lv (.int .i64 ((jb : Int))) (Fx.x_move rfl h41) (Fx.Lv (.slice la3 (ll3.length) (lc3)) (Fx.x_move rfl h40) (Fx.Lv (.int .i64 ((ll3.length : Int))) (Fx.x_len rfl rfl rfl (by kernel_rfl)) ?_)))))
    by_cases c213 : (jb : Int) < (ll3.length : Int)
    ·refine Fx.Lv (.bool true) (Fx.x_lssT rfl rfl rfl c213) (Fx.Ln (Fx.sN (Fx.Wc (b := true) rfl (fun _ => Fx.Wk (Fx.sN (Fx.Ws (Fx.W.block ?_)))) (fun h => nomatch h))))
     -- region 43 draws
     refine Fx.W.quiet (fun v1 => ∃ q, v1 = World.drewN w23 q) (by kernel_rfl) (by kernel_rfl) ⟨1, rfl⟩ ?_
     by_cases c216 : bl = true
     ·refine Fx.Qv (.bool true) (fun v1 hv1 => Fx.x_move rfl (h39.trans (congrArg Value.bool c216))) (Fx.Qv (.bool true) (fun v1 hv1 => Fx.x_move rfl rfl) (Fx.Qs (by rfl) rfl (Fx.Qs (by rfl) rfl (Fx.Qs (by rfl) rfl (Fx.Qs (by rfl) rfl (Fx.Qs (by rfl) rfl (Fx.Qs (by rfl) rfl (Fx.Qs (by rfl) rfl (Fx.Qs (by rfl) rfl (Fx.Qs (by rfl) rfl (Fx.Qs (by rfl) rfl (Fx.Qv (.bool true) (fun v1 hv1 => Fx.x_pickT rfl rfl rfl) (Fx.Qv (.bool true) (fun v1 hv1 => Fx.x_assign rfl rfl) (Fx.Qt.nil ?_))))))))))))))
      rintro _ ⟨qd, rfl⟩
      obtain ⟨wq4, ewq4⟩ : ∃ v1, v1 = World.drewN w23 qd := ⟨_, rfl⟩
      rw [← ewq4]
      have s23 : Fx.Stp w23.heap.size w23 wq4 := by rw [ewq4]; exact Fx.Sb (bdrN w23 qd)
      have m132 := m127.up s23.old
      have m133 := m128.up s23.old
      have m134 := m129.stp s23 (m129.notNew (Nat.le_refl _))
      have m135 := m130.stp s23 (m130.notNew (Nat.le_refl _))
      have m136 := m131.stp s23 (m131.notNew (Nat.le_refl _))
      have b31 := s23.below b30 b30.size b30.size
      clear ewq4
      refine Fx.blkN (Fx.sN (Fx.Wl (Fx.Lv (.int .i64 ((jb : Int))) (Fx.x_move rfl h41) (Fx.Lv (.int .i64 ((jb : Int) + 1)) (Fx.x_add rfl rfl rfl Fx.io) (Fx.Lv (.int .i64 ((jb : Int) + 1)) (Fx.x_assign rfl rfl) (Fx.Ln (Fx.lpN ⟨jb + 1, true, (by rw [c216] at hbl; exact hbl.keep), (by omega), h32, h33, h34, (h35.trans Fx.ic), h36, (h37.trans Fx.ic), h38, (by rfl), h40, Fx.ic, m132, m133, m134, m135, m136, b31⟩ ?_)))))))
      show ((ll3.length : Int) - intOf ((.int .i64 ((jb : Int) + 1)))).toNat < _
      simp only [h41, intOf]; omega
     rw [Bool.not_eq_true] at c216
     refine Fx.Qv (.bool false) (fun v1 hv1 => Fx.x_move rfl (h39.trans (congrArg Value.bool c216))) (Fx.Qv (.bool false) (fun v1 hv1 => Fx.x_move rfl rfl) (Fx.Qv (.slice la3 (ll3.length) (lc3)) (fun v1 hv1 => Fx.x_move rfl h40) (Fx.Qv (.int .i64 ((jb : Int))) (fun v1 hv1 => Fx.x_move rfl h41) ?_)))
     obtain ⟨gq8, eq10⟩ := m131.addr (by omega)
     have m137 : Fx.Own w23 w21.heap.size 28 1 (.slice (some ⟨gq8, 0, none⟩) ll3.length lc3) ll3.length (lsU ll3) := m131.congV (congrArg (fun q => Value.slice q ll3.length lc3) eq10)
     refine Fx.Qv ((pf gq8 jb)) (fun v1 hv1 => Fx.x_indexS rfl (rfl.trans (congrArg (fun q => Value.slice q (ll3.length) (lc3)) eq10)) rfl Try.underlying33 (s := 1) (by kernel_rfl) (by omega) (by omega) (by omega)) (Fx.Qv (.int .u64 (ll3.getD jb 0)) (fun v1 hv1 => Fx.x_load1 (x := lsU ll3) rfl rfl (by kernel_rfl) (by obtain ⟨qd, rfl⟩ := hv1; exact m137.cel) (i := jb) (by omega) (by omega) rfl) (Fx.Qv (.slice ia (T.n) (ic)) (fun v1 hv1 => Fx.x_move rfl h33) (Fx.Qv (.int .i64 ((i : Int))) (fun v1 hv1 => Fx.x_move rfl h35) ?_)))
     obtain ⟨gq9, eq11⟩ := m129.addr (by omega)
     have m138 : Fx.Own w23 w.heap.size 30 2 (.slice (some ⟨gq9, 0, none⟩) T.n ic) T.n (Fx.flat 2 fun q => ndc (T.x q) (T.p q)) := m129.congV (congrArg (fun q => Value.slice q T.n ic) eq11)
     refine Fx.Qv ((pf gq9 (2 * i))) (fun v1 hv1 => Fx.x_indexS rfl (rfl.trans (congrArg (fun q => Value.slice q (T.n) (ic)) eq11)) rfl Try.underlying22 (s := 2) (by kernel_rfl) (by omega) (by omega) (by omega)) (Fx.Qv ((pf gq9 (2 * i))) (fun v1 hv1 => Fx.x_field rfl rfl Try.underlying30 rfl (s := 1) (by kernel_rfl) rfl rfl) (Fx.Qv (.int .u64 (T.x i)) (fun v1 hv1 => Fx.x_load1 (x := Fx.flat 2 fun q => ndc (T.x q) (T.p q)) rfl rfl (by kernel_rfl) (by obtain ⟨qd, rfl⟩ := hv1; exact m138.cel) (i := 2 * i) (by omega) (by omega) (Fx.flat_cell (k := i) (j := 0) (by omega) (by omega) rfl)) ?_))
     by_cases c227 : (ll3.getD jb 0) = (T.x i)
     ·refine Fx.Qv (.bool true) (fun v1 hv1 => Fx.x_eqlT rfl rfl rfl c227) (Fx.Qv (.bool true) (fun v1 hv1 => Fx.x_pickF rfl rfl rfl) (Fx.Qv (.bool true) (fun v1 hv1 => Fx.x_assign rfl rfl) (Fx.Qt.nil ?_)))
      rintro _ ⟨qd, rfl⟩
      obtain ⟨wq5, ewq5⟩ : ∃ v1, v1 = World.drewN w23 qd := ⟨_, rfl⟩
      rw [← ewq5]
      have s24 : Fx.Stp w23.heap.size w23 wq5 := by rw [ewq5]; exact Fx.Sb (bdrN w23 qd)
      have m139 := m127.up s24.old
      have m140 := m128.up s24.old
      have m141 := m130.stp s24 (m130.notNew (Nat.le_refl _))
      have m142 := m137.stpB s24 (Nat.ne_of_lt (m137.lt))
      have m143 := m138.stpB s24 (Nat.ne_of_lt (m138.lt))
      have b32 := s24.below b30 b30.size b30.size
      clear ewq5
      refine Fx.blkN (Fx.sN (Fx.Wl (Fx.Lv (.int .i64 ((jb : Int))) (Fx.x_move rfl h41) (Fx.Lv (.int .i64 ((jb : Int) + 1)) (Fx.x_add rfl rfl rfl Fx.io) (Fx.Lv (.int .i64 ((jb : Int) + 1)) (Fx.x_assign rfl rfl) (Fx.Ln ?_))))))
      have m144 : Fx.Own wq5 w21.heap.size 28 1 (.slice la3 (ll3.length) (lc3)) ll3.length (lsU ll3) := m142.congV (congrArg (fun q => Value.slice q ll3.length lc3) eq10.symm)
      have m145 : Fx.Own wq5 w.heap.size 30 2 (.slice ia (T.n) (ic)) T.n (Fx.flat 2 fun q => ndc (T.x q) (T.p q)) := m143.congV (congrArg (fun q => Value.slice q T.n ic) eq11.symm)
      refine Fx.lpN ⟨jb + 1, true, (Fnd.yes (by omega) c227), (by omega), h32, h33, h34, (h35.trans Fx.ic), h36, (h37.trans Fx.ic), h38, (by rfl), h40, Fx.ic, m139, m140, m145, m141, m144, b32⟩ ?_
      show ((ll3.length : Int) - intOf ((.int .i64 ((jb : Int) + 1)))).toNat < _
      simp only [h41, intOf]; omega
     refine Fx.Qv (.bool false) (fun v1 hv1 => Fx.x_eqlF rfl rfl rfl c227) (Fx.Qv (.bool false) (fun v1 hv1 => Fx.x_pickF rfl rfl rfl) (Fx.Qv (.bool false) (fun v1 hv1 => Fx.x_assign rfl rfl) (Fx.Qt.nil ?_)))
     rintro _ ⟨qd, rfl⟩
     obtain ⟨wq6, ewq6⟩ : ∃ v1, v1 = World.drewN w23 qd := ⟨_, rfl⟩
     rw [← ewq6]
     have s25 : Fx.Stp w23.heap.size w23 wq6 := by rw [ewq6]; exact Fx.Sb (bdrN w23 qd)
     have m146 := m127.up s25.old
     have m147 := m128.up s25.old
     have m148 := m130.stp s25 (m130.notNew (Nat.le_refl _))
     have m149 := m137.stpB s25 (Nat.ne_of_lt (m137.lt))
     have m150 := m138.stpB s25 (Nat.ne_of_lt (m138.lt))
     have b33 := s25.below b30 b30.size b30.size
     clear ewq6
     refine Fx.blkN (Fx.sN (Fx.Wl (Fx.Lv (.int .i64 ((jb : Int))) (Fx.x_move rfl h41) (Fx.Lv (.int .i64 ((jb : Int) + 1)) (Fx.x_add rfl rfl rfl Fx.io) (Fx.Lv (.int .i64 ((jb : Int) + 1)) (Fx.x_assign rfl rfl) (Fx.Ln ?_))))))
     have m151 : Fx.Own wq6 w21.heap.size 28 1 (.slice la3 (ll3.length) (lc3)) ll3.length (lsU ll3) := m149.congV (congrArg (fun q => Value.slice q ll3.length lc3) eq10.symm)
     have m152 : Fx.Own wq6 w.heap.size 30 2 (.slice ia (T.n) (ic)) T.n (Fx.flat 2 fun q => ndc (T.x q) (T.p q)) := m150.congV (congrArg (fun q => Value.slice q T.n ic) eq11.symm)
     refine Fx.lpN ⟨jb + 1, false, (by rw [c216] at hbl; exact hbl.no c227), (by omega), h32, h33, h34, (h35.trans Fx.ic), h36, (h37.trans Fx.ic), h38, (by rfl), h40, Fx.ic, m146, m147, m152, m148, m151, b33⟩ ?_
     show ((ll3.length : Int) - intOf ((.int .i64 ((jb : Int) + 1)))).toNat < _
     simp only [h41, intOf]; omega
    refine Fx.Lv (.bool false) (Fx.x_lssF rfl rfl rfl c213) (Fx.Ln (Fx.sN (Fx.Wc (b := false) rfl (fun h => nomatch h) (fun _ => Fx.W.exit (Fx.seqX (Fx.lpX (Fx.blkX (Fx.sN (Fx.Ws (Fx.Wl (Fx.Lv (.bool on) (Fx.x_move rfl h38) (Fx.Lv (.bool bl) (Fx.x_move rfl h39) (Fx.Lv (.bool false) (Fx.x_neqB rfl rfl rfl (by kernel_rfl) (by have e := on_below (on := on) (bl := bl) (show i < T.n by omega) (by rw [← hpl1]; exact hon.mem (by omega)) hq3.2 (hbl.mem (by omega)); rw [e]; simp)) (Fx.Ln (Fx.sN (Fx.Wc (b := false) rfl (fun h => nomatch h) (fun _ => Fx.Wk (Fx.blkN (Fx.sN (Fx.Wl (Fx.Lv (.int .i64 ((ki : Int))) (Fx.x_move rfl h37) (Fx.Lv (.int .i64 ((ki : Int) + 1)) (Fx.x_add rfl rfl rfl Fx.io) (Fx.Lv (.int .i64 ((ki : Int) + 1)) (Fx.x_assign rfl rfl) (Fx.Ln (Fx.lpN ⟨ki + 1, (by omega), h32, h33, h34, (h35.trans Fx.ic), h36, Fx.ic, m127, m128, m129, m130, b30⟩ ?_)))))))))))))))))))))))))
    show ((T.n : Int) - intOf ((.int .i64 ((ki : Int) + 1)))).toNat < _
    simp only [h23, intOf]; omega
   refine Fx.Lv (.bool false) (Fx.x_lssF rfl rfl rfl c181) (Fx.Ln (Fx.sN (Fx.Wc (b := false) rfl (fun h => nomatch h) (fun _ => Fx.W.exit (Fx.seqX (Fx.lpX (Fx.blkX (Fx.blkN (Fx.sN (Fx.Wl (Fx.Lv (.int .i64 ((i : Int))) (Fx.x_move rfl h21) (Fx.Lv (.int .i64 ((i : Int) + 1)) (Fx.x_add rfl rfl rfl Fx.io) (Fx.Lv (.int .i64 ((i : Int) + 1)) (Fx.x_assign rfl rfl) (Fx.Ln (Fx.lpN ⟨i + 1, (by omega), h18, h19, h20, Fx.ic, m94, m95, m96, b24⟩ ?_)))))))))))))))
   show ((T.n : Int) - intOf ((.int .i64 ((i : Int) + 1)))).toNat < _
   simp only [h17, intOf]; omega
  refine Fx.Lv (.bool false) (Fx.x_eqlF rfl rfl rfl c157) (Fx.Lv (.bool false) (Fx.x_move rfl rfl) (Fx.Lk (by rfl) rfl (Fx.Lk (by rfl) rfl (Fx.Lk (by rfl) rfl (Fx.Lv (.bool false) (Fx.x_pickF rfl rfl rfl) (Fx.Lv (.bool false) (Fx.x_move rfl rfl) (Fx.Lv (.slice ia (T.n) (ic)) (Fx.x_move rfl h15) (Fx.Lv (.int .i64 ((i : Int))) (Fx.x_move rfl h17) (Fx.Lv ((pf gq4 (2 * i))) (Fx.x_indexS rfl (rfl.trans (congrArg (fun q => Value.slice q (T.n) (ic)) eq6)) rfl Try.underlying22 (s := 2) (by kernel_rfl) (by omega) (by omega) (by omega)) (Fx.Lv ((pf gq4 (2 * i + 1))) (Fx.x_field rfl rfl Try.underlying30 rfl (s := 1) (by kernel_rfl) rfl (by show _ + 1 = _; omega)) (Fx.Lv (.int .u64 (T.p i)) (Fx.x_load1 (x := Fx.flat 2 fun q => ndc (T.x q) (T.p q)) rfl rfl (by kernel_rfl) m92.cel (i := 2 * i + 1) (by omega) (by omega) (Fx.flat_cell (k := i) (j := 1) (by omega) (by omega) rfl)) (Fx.Lv (.bool true) (Fx.x_neqT rfl rfl rfl c157) (Fx.Lv (.bool true) (Fx.x_move rfl rfl) (Fx.Lv (.slice pa1 (pl1.length) (pc1)) (Fx.x_move rfl rfl) (Fx.L.lo (j := 1) (m := pl3.length) (s := 1) (by rfl) (by rfl) rfl rfl rfl Try.underlying33 (by kernel_rfl) (by rw [hp3, List.length_cons]; omega) m91 fun as1 has1 => ?_)))))))))))))))
  refine Fx.Lv (.slice pa3 (pl3.length) (pc3)) (Fx.x_move rfl rfl) (Fx.L.call (by rfl) (Fx.rC (args := [.slice as1 (pl3.length) (pc1 - 1), .slice pa3 (pl3.length) (pc3)]) rfl rfl Try.func9 rfl rfl) rfl ((t_sameE pl3 pl3 (pc1 - 1) pc3 _ _ _ rfl (arr_tail hp3 has1) (Fx.arr_of m84) (by omega)).mono ?_))
  rintro e w24 ⟨he, hb12⟩
  refine ⟨.bool true, by rw [he], ?_⟩
  clear he
  have s26 := Fx.Sb hb12
  have m153 := m85.up s26.old
  have m154 := m86.up s26.old
  have m155 := m91.stp s26 (m91.notNew (Nat.le_refl _))
  have m158 := m92.stpB s26 (Nat.ne_of_lt (m92.lt))
  have b34 := s26.below b23 b23.size b23.size
  refine Fx.Lv (.bool false) (Fx.x_notF rfl rfl) (Fx.Lv (.bool false) (Fx.x_pickT rfl rfl rfl) (Fx.Lv (.bool false) (Fx.x_pickF rfl rfl rfl) (Fx.Ln (Fx.sN (Fx.Wc (b := false) rfl (fun h => nomatch h) (fun _ => Fx.Wk (Fx.sN (Fx.Ws (Fx.Wl (Fx.Lv (.int .i64 (0)) (Fx.x_assign rfl rfl) (Fx.Ln (Fx.sN (Fx.W.block ?_)))))))))))))
  have m159 : Fx.Own w24 w.heap.size 30 2 (.slice ia (T.n) (ic)) T.n (Fx.flat 2 fun q => ndc (T.x q) (T.p q)) := m158.congV (congrArg (fun q => Value.slice q T.n ic) eq6.symm)
  refine Fx.W.loop (fun f w_ => ∃ ki : Nat, ki ≤ T.n ∧ f 3 = (pt tp1) ∧ f 4 = .slice ia (T.n) (ic) ∧ f 6 = (pt tp2) ∧ f 9 = .int .i64 ((i : Int)) ∧ f 10 = .slice pa1 (pl1.length) (pc1) ∧ f 12 = .int .i64 ((ki : Int)) ∧ TrW w_ (w.heap.size) tp1 mb1 T ∧ TrW w_ (w.heap.size) tp2 mb2 U ∧ Fx.Own w_ w.heap.size 30 2 (.slice ia (T.n) (ic)) T.n (Fx.flat 2 fun q => ndc (T.x q) (T.p q)) ∧ Fx.Own w_ w15.heap.size 28 1 (.slice pa1 (pl1.length) (pc1)) pl1.length (lsU pl1) ∧ Below w.heap.size w w_) (fun f _ => ((T.n : Int) - intOf (f 12)).toNat) ⟨0, (by omega), h14, h15, h16, (h17.trans Fx.ic), (by rfl), Fx.ic, m153, m154, m159, m155, b34⟩ ?_
  rintro f8 w25 ⟨ki, hki, h42, h43, h44, h45, h46, h47, m160, m161, m162, m163, b35⟩
  refine Fx.Ws (Fx.Ws (Fx.Wl (Fx.Lv (.int .i64 ((ki : Int))) (Fx.x_move rfl h47) (Fx.Lv (.slice ia (T.n) (ic)) (Fx.x_move rfl h43) (Fx.Lv (.int .i64 ((T.n : Int))) (Fx.x_len rfl rfl rfl (by kernel_rfl)) ?_)))))
  by_cases c181 : (ki : Int) < (T.n : Int)
  ·refine Fx.Lv (.bool true) (Fx.x_lssT rfl rfl rfl c181) (Fx.Ln (Fx.sN (Fx.Wc (b := true) rfl (fun _ => Fx.Wk (Fx.sN (Fx.Ws (Fx.W.block (Fx.Ws (Fx.Wl (Fx.Lv (.bool false) (Fx.x_assign rfl rfl) ?_))))))) (fun h => nomatch h))))
   refine Fx.Ln (Fx.sN (Fx.Ws (Fx.Ws (Fx.Wl (Fx.Lv (.int .i64 (0)) (Fx.x_assign rfl rfl) (Fx.Ln (Fx.sN (Fx.W.block (Fx.W.loop (fun f w_ => ∃ jo : Nat, ∃ on : Bool, Fnd pl1 (T.x ki) jo on ∧ jo ≤ pl1.length ∧ f 3 = (pt tp1) ∧ f 4 = .slice ia (T.n) (ic) ∧ f 6 = (pt tp2) ∧ f 9 = .int .i64 ((i : Int)) ∧ f 10 = .slice pa1 (pl1.length) (pc1) ∧ f 12 = .int .i64 ((ki : Int)) ∧ f 13 = .bool on ∧ f 14 = .int .i64 ((jo : Int)) ∧ TrW w_ (w.heap.size) tp1 mb1 T ∧ TrW w_ (w.heap.size) tp2 mb2 U ∧ Fx.Own w_ w.heap.size 30 2 (.slice ia (T.n) (ic)) T.n (Fx.flat 2 fun q => ndc (T.x q) (T.p q)) ∧ Fx.Own w_ w15.heap.size 28 1 (.slice pa1 (pl1.length) (pc1)) pl1.length (lsU pl1) ∧ Below w.heap.size w w_) (fun f _ => ((pl1.length : Int) - intOf (f 14)).toNat) ⟨0, false, (Fnd.zero _ _), (by omega), h42, h43, h44, (h45.trans Fx.ic), h46, (h47.trans Fx.ic), (by rfl), Fx.ic, m160, m161, m162, m163, b35⟩ ?_)))))))))
   rintro f9 w26 ⟨jo, on, hon, hjo, h48, h49, h50, h51, h52, h53, h54, h55, m164, m165, m166, m167, b36⟩
   refine Fx.Ws (Fx.Ws (Fx.Wl (Fx.Lv (.int .i64 ((jo : Int))) (Fx.x_move rfl h55) (Fx.Lv (.slice pa1 (pl1.length) (pc1)) (Fx.x_move rfl h52) (Fx.Lv (.int .i64 ((pl1.length : Int))) (Fx.x_len rfl rfl rfl (by kernel_rfl)) ?_)))))
   by_cases c187 : (jo : Int) < (pl1.length : Int)
   ·refine Fx.Lv (.bool true) (Fx.x_lssT rfl rfl rfl c187) (Fx.Ln (Fx.sN (Fx.Wc (b := true) rfl (fun _ => Fx.Wk (Fx.sN (Fx.Ws (Fx.W.block ?_)))) (fun h => nomatch h))))
    -- region 37 draws
    refine Fx.W.quiet (fun v1 => ∃ q, v1 = World.drewN w26 q) (by kernel_rfl) (by kernel_rfl) ⟨1, rfl⟩ ?_
    by_cases c190 : on = true
    ·refine Fx.Qv (.bool true) (fun v1 hv1 => Fx.x_move rfl (h54.trans (congrArg Value.bool c190))) (Fx.Qv (.bool true) (fun v1 hv1 => Fx.x_move rfl rfl) (Fx.Qs (by rfl) rfl (Fx.Qs (by rfl) rfl (Fx.Qs (by rfl) rfl (Fx.Qs (by rfl) rfl (Fx.Qs (by rfl) rfl (Fx.Qs (by rfl) rfl (Fx.Qs (by rfl) rfl (Fx.Qs (by rfl) rfl (Fx.Qs (by rfl) rfl (Fx.Qs (by rfl) rfl (Fx.Qv (.bool true) (fun v1 hv1 => Fx.x_pickT rfl rfl rfl) (Fx.Qv (.bool true) (fun v1 hv1 => Fx.x_assign rfl rfl) (Fx.Qt.nil ?_))))))))))))))
     rintro _ ⟨qd, rfl⟩
     obtain ⟨wq7, ewq7⟩ : ∃ v1, v1 = World.drewN w26 qd := ⟨_, rfl⟩
     rw [← ewq7]
     have s27 : Fx.Stp w26.heap.size w26 wq7 := by rw [ewq7]; exact Fx.Sb (bdrN w26 qd)
     have m168 := m164.up s27.old
     have m169 := m165.up s27.old
     have m170 := m166.stp s27 (m166.notNew (Nat.le_refl _))
     have m171 := m167.stp s27 (m167.notNew (Nat.le_refl _))
     have b37 := s27.below b36 b36.size b36.size
     clear ewq7
     refine Fx.blkN (Fx.sN (Fx.Wl (Fx.Lv (.int .i64 ((jo : Int))) (Fx.x_move rfl h55) (Fx.Lv (.int .i64 ((jo : Int) + 1)) (Fx.x_add rfl rfl rfl Fx.io) (Fx.Lv (.int .i64 ((jo : Int) + 1)) (Fx.x_assign rfl rfl) (Fx.Ln (Fx.lpN ⟨jo + 1, true, (by rw [c190] at hon; exact hon.keep), (by omega), h48, h49, h50, (h51.trans Fx.ic), h52, (h53.trans Fx.ic), (by rfl), Fx.ic, m168, m169, m170, m171, b37⟩ ?_)))))))
     show ((pl1.length : Int) - intOf ((.int .i64 ((jo : Int) + 1)))).toNat < _
     simp only [h55, intOf]; omega
    rw [Bool.not_eq_true] at c190
    refine Fx.Qv (.bool false) (fun v1 hv1 => Fx.x_move rfl (h54.trans (congrArg Value.bool c190))) (Fx.Qv (.bool false) (fun v1 hv1 => Fx.x_move rfl rfl) (Fx.Qv (.slice pa1 (pl1.length) (pc1)) (fun v1 hv1 => Fx.x_move rfl h52) (Fx.Qv (.int .i64 ((jo : Int))) (fun v1 hv1 => Fx.x_move rfl h55) ?_)))
    obtain ⟨gq10, eq12⟩ := m167.addr (by omega)
    have m172 : Fx.Own w26 w15.heap.size 28 1 (.slice (some ⟨gq10, 0, none⟩) pl1.length pc1) pl1.length (lsU pl1) := m167.congV (congrArg (fun q => Value.slice q pl1.length pc1) eq12)
    refine Fx.Qv ((pf gq10 jo)) (fun v1 hv1 => Fx.x_indexS rfl (rfl.trans (congrArg (fun q => Value.slice q (pl1.length) (pc1)) eq12)) rfl Try.underlying33 (s := 1) (by kernel_rfl) (by omega) (by omega) (by omega)) (Fx.Qv (.int .u64 (pl1.getD jo 0)) (fun v1 hv1 => Fx.x_load1 (x := lsU pl1) rfl rfl (by kernel_rfl) (by obtain ⟨qd, rfl⟩ := hv1; exact m172.cel) (i := jo) (by omega) (by omega) rfl) (Fx.Qv (.slice ia (T.n) (ic)) (fun v1 hv1 => Fx.x_move rfl h49) (Fx.Qv (.int .i64 ((ki : Int))) (fun v1 hv1 => Fx.x_move rfl h53) ?_)))
    obtain ⟨gq11, eq13⟩ := m166.addr (by omega)
    have m173 : Fx.Own w26 w.heap.size 30 2 (.slice (some ⟨gq11, 0, none⟩) T.n ic) T.n (Fx.flat 2 fun q => ndc (T.x q) (T.p q)) := m166.congV (congrArg (fun q => Value.slice q T.n ic) eq13)
    refine Fx.Qv ((pf gq11 (2 * ki))) (fun v1 hv1 => Fx.x_indexS rfl (rfl.trans (congrArg (fun q => Value.slice q (T.n) (ic)) eq13)) rfl Try.underlying22 (s := 2) (by kernel_rfl) (by omega) (by omega) (by omega)) (Fx.Qv ((pf gq11 (2 * ki))) (fun v1 hv1 => Fx.x_field rfl rfl Try.underlying30 rfl (s := 1) (by kernel_rfl) rfl rfl) (Fx.Qv (.int .u64 (T.x ki)) (fun v1 hv1 => Fx.x_load1 (x := Fx.flat 2 fun q => ndc (T.x q) (T.p q)) rfl rfl (by kernel_rfl) (by obtain ⟨qd, rfl⟩ := hv1; exact m173.cel) (i := 2 * ki) (by omega) (by omega) (Fx.flat_cell (k := ki) (j := 0) (by omega) (by omega) rfl)) ?_))
    by_cases c201 : (pl1.getD jo 0) = (T.x ki)
    ·refine Fx.Qv (.bool true) (fun v1 hv1 => Fx.x_eqlT rfl rfl rfl c201) (Fx.Qv (.bool true) (fun v1 hv1 => Fx.x_pickF rfl rfl rfl) (Fx.Qv (.bool true) (fun v1 hv1 => Fx.x_assign rfl rfl) (Fx.Qt.nil ?_)))
     rintro _ ⟨qd, rfl⟩
     obtain ⟨wq8, ewq8⟩ : ∃ v1, v1 = World.drewN w26 qd := ⟨_, rfl⟩
     rw [← ewq8]
     have s28 : Fx.Stp w26.heap.size w26 wq8 := by rw [ewq8]; exact Fx.Sb (bdrN w26 qd)
     have m174 := m164.up s28.old
     have m175 := m165.up s28.old
     have m176 := m172.stpB s28 (Nat.ne_of_lt (m172.lt))
     have m177 := m173.stpB s28 (Nat.ne_of_lt (m173.lt))
     have b38 := s28.below b36 b36.size b36.size
     clear ewq8
     refine Fx.blkN (Fx.sN (Fx.Wl (Fx.Lv (.int .i64 ((jo : Int))) (Fx.x_move rfl h55) (Fx.Lv (.int .i64 ((jo : Int) + 1)) (Fx.x_add rfl rfl rfl Fx.io) (Fx.Lv (.int .i64 ((jo : Int) + 1)) (Fx.x_assign rfl rfl) (Fx.Ln ?_))))))
     have m178 : Fx.Own wq8 w15.heap.size 28 1 (.slice pa1 (pl1.length) (pc1)) pl1.length (lsU pl1) := m176.congV (congrArg (fun q => Value.slice q pl1.length pc1) eq12.symm)
     have m179 : Fx.Own wq8 w.heap.size 30 2 (.slice ia (T.n) (ic)) T.n (Fx.flat 2 fun q => ndc (T.x q) (T.p q)) := m177.congV (congrArg (fun q => Value.slice q T.n ic) eq13.symm)
     refine Fx.lpN ⟨jo + 1, true, (Fnd.yes (by omega) c201), (by omega), h48, h49, h50, (h51.trans Fx.ic), h52, (h53.trans Fx.ic), (by rfl), Fx.ic, m174, m175, m179, m178, b38⟩ ?_
     show ((pl1.length : Int) - intOf ((.int .i64 ((jo : Int) + 1)))).toNat < _
     simp only [h55, intOf]; omega
    refine Fx.Qv (.bool false) (fun v1 hv1 => Fx.x_eqlF rfl rfl rfl c201) (Fx.Qv (.bool false) (fun v1 hv1 => Fx.x_pickF rfl rfl rfl) (Fx.Qv (.bool false) (fun v1 hv1 => Fx.x_assign rfl rfl) (Fx.Qt.nil ?_)))
    rintro _ ⟨qd, rfl⟩
    obtain ⟨wq9, ewq9⟩ : ∃ v1, v1 = World.drewN w26 qd := ⟨_, rfl⟩
    rw [← ewq9]
    have s29 : Fx.Stp w26.heap.size w26 wq9 := by rw [ewq9]; exact Fx.Sb (bdrN w26 qd)
    have m180 := m164.up s29.old
    have m181 := m165.up s29.old
    have m182 := m172.stpB s29 (Nat.ne_of_lt (m172.lt))
    have m183 := m173.stpB s29 (Nat.ne_of_lt (m173.lt))
    have b39 := s29.below b36 b36.size b36.size
    clear ewq9
    refine Fx.blkN (Fx.sN (Fx.Wl (Fx.Lv (.int .i64 ((jo : Int))) (Fx.x_move rfl h55) (Fx.Lv (.int .i64 ((jo : Int) + 1)) (Fx.x_add rfl rfl rfl Fx.io) (Fx.Lv (.int .i64 ((jo : Int) + 1)) (Fx.x_assign rfl rfl) (Fx.Ln ?_))))))
    have m184 : Fx.Own wq9 w15.heap.size 28 1 (.slice pa1 (pl1.length) (pc1)) pl1.length (lsU pl1) := m182.congV (congrArg (fun q => Value.slice q pl1.length pc1) eq12.symm)
    have m185 : Fx.Own wq9 w.heap.size 30 2 (.slice ia (T.n) (ic)) T.n (Fx.flat 2 fun q => ndc (T.x q) (T.p q)) := m183.congV (congrArg (fun q => Value.slice q T.n ic) eq13.symm)
    refine Fx.lpN ⟨jo + 1, false, (by rw [c190] at hon; exact hon.no c201), (by omega), h48, h49, h50, (h51.trans Fx.ic), h52, (h53.trans Fx.ic), (by rfl), Fx.ic, m180, m181, m185, m184, b39⟩ ?_
    show ((pl1.length : Int) - intOf ((.int .i64 ((jo : Int) + 1)))).toNat < _
    simp only [h55, intOf]; omega
   refine Fx.Lv (.bool false) (Fx.x_lssF rfl rfl rfl c187) (Fx.Ln (Fx.sN (Fx.Wc (b := false) rfl (fun h => nomatch h) (fun _ => Fx.W.exit (Fx.seqX (Fx.lpX (Fx.blkX (Fx.sN (Fx.Ws (Fx.Wl (Fx.Lv (.bool false) (Fx.x_assign rfl rfl) (Fx.Ln (Fx.sN (Fx.Ws (Fx.Wl (Fx.Lv ((pt tp1)) (Fx.x_move rfl h48) (Fx.Lv (.slice ia (T.n) (ic)) (Fx.x_move rfl h49) (Fx.Lv (.int .i64 ((ki : Int))) (Fx.x_move rfl h53) ?_))))))))))))))))))
   obtain ⟨gq12, eq14⟩ := m166.addr (by omega)
   have m186 : Fx.Own w26 w.heap.size 30 2 (.slice (some ⟨gq12, 0, none⟩) T.n ic) T.n (Fx.flat 2 fun q => ndc (T.x q) (T.p q)) := m166.congV (congrArg (fun q => Value.slice q T.n ic) eq14)
   refine Fx.Lv ((pf gq12 (2 * ki))) (Fx.x_indexS rfl (rfl.trans (congrArg (fun q => Value.slice q (T.n) (ic)) eq14)) rfl Try.underlying22 (s := 2) (by kernel_rfl) (by omega) (by omega) (by omega)) (Fx.Lv ((pf gq12 (2 * ki))) (Fx.x_field rfl rfl Try.underlying30 rfl (s := 1) (by kernel_rfl) rfl rfl) (Fx.Lv (.int .u64 (T.x ki)) (Fx.x_load1 (x := Fx.flat 2 fun q => ndc (T.x q) (T.p q)) rfl rfl (by kernel_rfl) m186.cel (i := 2 * ki) (by omega) (by omega) (Fx.flat_cell (k := ki) (j := 0) (by omega) (by omega) rfl)) (Fx.L.call (by rfl) (Fx.rC (args := [(pt tp1), .int .u64 (T.x ki)]) rfl rfl Try.func12 rfl rfl) rfl ((w_below (T.x ki) m164).mono ?_))))
   rintro e9 w27 ⟨la4, lc4, ll4, he, m187, hq4, khq4, hb13⟩
   refine ⟨_, he, ?_⟩
   clear he
   have s30 := Fx.Sb hb13
   have m188 := m164.up s30.old
   have m189 := m165.up s30.old
   have m190 := m167.stp s30 (m167.notNew (Nat.le_refl _))
   have m191 := m186.stpB s30 (Nat.ne_of_lt (m186.lt))
   have b40 := s30.below b36 b36.size b36.size
   refine Fx.Lv (.slice la4 (ll4.length) (lc4)) (Fx.x_assign rfl rfl) (Fx.Ln (Fx.sN (Fx.Ws (Fx.Ws (Fx.Wl (Fx.Lv (.int .i64 (0)) (Fx.x_assign rfl rfl) (Fx.Ln (Fx.sN (Fx.W.block ?_)))))))))
   have m192 : Fx.Own w27 w.heap.size 30 2 (.slice ia (T.n) (ic)) T.n (Fx.flat 2 fun q => ndc (T.x q) (T.p q)) := m191.congV (congrArg (fun q => Value.slice q T.n ic) eq14.symm)
   refine Fx.W.loop (fun f w_ => ∃ jb : Nat, ∃ bl : Bool, Fnd ll4 (T.x i) jb bl ∧ jb ≤ ll4.length ∧ f 3 = (pt tp1) ∧ f 4 = .slice ia (T.n) (ic) ∧ f 6 = (pt tp2) ∧ f 9 = .int .i64 ((i : Int)) ∧ f 10 = .slice pa1 (pl1.length) (pc1) ∧ f 12 = .int .i64 ((ki : Int)) ∧ f 13 = .bool on ∧ f 15 = .bool bl ∧ f 16 = .slice la4 (ll4.length) (lc4) ∧ f 17 = .int .i64 ((jb : Int)) ∧ TrW w_ (w.heap.size) tp1 mb1 T ∧ TrW w_ (w.heap.size) tp2 mb2 U ∧ Fx.Own w_ w.heap.size 30 2 (.slice ia (T.n) (ic)) T.n (Fx.flat 2 fun q => ndc (T.x q) (T.p q)) ∧ Fx.Own w_ w15.heap.size 28 1 (.slice pa1 (pl1.length) (pc1)) pl1.length (lsU pl1) ∧ Fx.Own w_ w26.heap.size 28 1 (.slice la4 (ll4.length) (lc4)) ll4.length (lsU ll4) ∧ Below w.heap.size w w_) (fun f _ => ((ll4.length : Int) - intOf (f 17)).toNat) ⟨0, false, (Fnd.zero _ _), (by omega), h48, h49, h50, (h51.trans Fx.ic), h52, (h53.trans Fx.ic), h54, (by rfl), (by rfl), Fx.ic, m188, m189, m192, m190, m187, b40⟩ ?_
   rintro f10 w28 ⟨jb, bl, hbl, hjb, h56, h57, h58, h59, h60, h61, h62, h63, h64, h65, m193, m194, m195, m196, m197, b41⟩
   refine Fx.Ws (Fx.Ws (Fx.Wl (Fx.Lv (.int .i64 ((jb : Int))) (Fx.x_move rfl h65) (Fx.Lv (.slice la4 (ll4.length) (lc4)) (Fx.x_move rfl h64) (Fx.Lv (.int .i64 ((ll4.length : Int))) (Fx.x_len rfl rfl rfl (by kernel_rfl)) ?_)))))
   by_cases c213 : (jb : Int) < (ll4.length : Int)
   ·refine Fx.Lv (.bool true) (Fx.x_lssT rfl rfl rfl c213) (Fx.Ln (Fx.sN (Fx.Wc (b := true) rfl (fun _ => Fx.Wk (Fx.sN (Fx.Ws (Fx.W.block ?_)))) (fun h => nomatch h))))
    -- region 43 draws
    refine Fx.W.quiet (fun v1 => ∃ q, v1 = World.drewN w28 q) (by kernel_rfl) (by kernel_rfl) ⟨1, rfl⟩ ?_
    by_cases c216 : bl = true
    ·refine Fx.Qv (.bool true) (fun v1 hv1 => Fx.x_move rfl (h63.trans (congrArg Value.bool c216))) (Fx.Qv (.bool true) (fun v1 hv1 => Fx.x_move rfl rfl) (Fx.Qs (by rfl) rfl (Fx.Qs (by rfl) rfl (Fx.Qs (by rfl) rfl (Fx.Qs (by rfl) rfl (Fx.Qs (by rfl) rfl (Fx.Qs (by rfl) rfl (Fx.Qs (by rfl) rfl (Fx.Qs (by rfl) rfl (Fx.Qs (by rfl) rfl (Fx.Qs (by rfl) rfl (Fx.Qv (.bool true) (fun v1 hv1 => Fx.x_pickT rfl rfl rfl) (Fx.Qv (.bool true) (fun v1 hv1 => Fx.x_assign rfl rfl) (Fx.Qt.nil ?_))))))))))))))
     rintro _ ⟨qd, rfl⟩
     obtain ⟨wq10, ewq10⟩ : ∃ v1, v1 = World.drewN w28 qd := ⟨_, rfl⟩
     rw [← ewq10]
     have s31 : Fx.Stp w28.heap.size w28 wq10 := by rw [ewq10]; exact Fx.Sb (bdrN w28 qd)
     have m198 := m193.up s31.old
     have m199 := m194.up s31.old
     have m200 := m195.stp s31 (m195.notNew (Nat.le_refl _))
     have m201 := m196.stp s31 (m196.notNew (Nat.le_refl _))
     have m202 := m197.stp s31 (m197.notNew (Nat.le_refl _))
     have b42 := s31.below b41 b41.size b41.size
     clear ewq10
     refine Fx.blkN (Fx.sN (Fx.Wl (Fx.Lv (.int .i64 ((jb : Int))) (Fx.x_move rfl h65) (Fx.Lv (.int .i64 ((jb : Int) + 1)) (Fx.x_add rfl rfl rfl Fx.io) (Fx.Lv (.int .i64 ((jb : Int) + 1)) (Fx.x_assign rfl rfl) (Fx.Ln (Fx.lpN ⟨jb + 1, true, (by rw [c216] at hbl; exact hbl.keep), (by omega), h56, h57, h58, (h59.trans Fx.ic), h60, (h61.trans Fx.ic), h62, (by rfl), h64, Fx.ic, m198, m199, m200, m201, m202, b42⟩ ?_)))))))
     show ((ll4.length : Int) - intOf ((.int .i64 ((jb : Int) + 1)))).toNat < _
     simp only [h65, intOf]; omega
    rw [Bool.not_eq_true] at c216
    refine Fx.Qv (.bool false) (fun v1 hv1 => Fx.x_move rfl (h63.trans (congrArg Value.bool c216))) (Fx.Qv (.bool false) (fun v1 hv1 => Fx.x_move rfl rfl) (Fx.Qv (.slice la4 (ll4.length) (lc4)) (fun v1 hv1 => Fx.x_move rfl h64) (Fx.Qv (.int .i64 ((jb : Int))) (fun v1 hv1 => Fx.x_move rfl h65) ?_)))
    obtain ⟨gq13, eq15⟩ := m197.addr (by omega)
    have m203 : Fx.Own w28 w26.heap.size 28 1 (.slice (some ⟨gq13, 0, none⟩) ll4.length lc4) ll4.length (lsU ll4) := m197.congV (congrArg (fun q => Value.slice q ll4.length lc4) eq15)
    refine Fx.Qv ((pf gq13 jb)) (fun v1 hv1 => Fx.x_indexS rfl (rfl.trans (congrArg (fun q => Value.slice q (ll4.length) (lc4)) eq15)) rfl Try.underlying33 (s := 1) (by kernel_rfl) (by omega) (by omega) (by omega)) (Fx.Qv (.int .u64 (ll4.getD jb 0)) (fun v1 hv1 => Fx.x_load1 (x := lsU ll4) rfl rfl (by kernel_rfl) (by obtain ⟨qd, rfl⟩ := hv1; exact m203.cel) (i := jb) (by omega) (by omega) rfl) (Fx.Qv (.slice ia (T.n) (ic)) (fun v1 hv1 => Fx.x_move rfl h57) (Fx.Qv (.int .i64 ((i : Int))) (fun v1 hv1 => Fx.x_move rfl h59) ?_)))
    obtain ⟨gq14, eq16⟩ := m195.addr (by omega)
    have m204 : Fx.Own w28 w.heap.size 30 2 (.slice (some ⟨gq14, 0, none⟩) T.n ic) T.n (Fx.flat 2 fun q => ndc (T.x q) (T.p q)) := m195.congV (congrArg (fun q => Value.slice q T.n ic) eq16)
    refine Fx.Qv ((pf gq14 (2 * i))) (fun v1 hv1 => Fx.x_indexS rfl (rfl.trans (congrArg (fun q => Value.slice q (T.n) (ic)) eq16)) rfl Try.underlying22 (s := 2) (by kernel_rfl) (by omega) (by omega) (by omega)) (Fx.Qv ((pf gq14 (2 * i))) (fun v1 hv1 => Fx.x_field rfl rfl Try.underlying30 rfl (s := 1) (by kernel_rfl) rfl rfl) (Fx.Qv (.int .u64 (T.x i)) (fun v1 hv1 => Fx.x_load1 (x := Fx.flat 2 fun q => ndc (T.x q) (T.p q)) rfl rfl (by kernel_rfl) (by obtain ⟨qd, rfl⟩ := hv1; exact m204.cel) (i := 2 * i) (by omega) (by omega) (Fx.flat_cell (k := i) (j := 0) (by omega) (by omega) rfl)) ?_))
    by_cases c227 : (ll4.getD jb 0) = (T.x i)
    ·refine Fx.Qv (.bool true) (fun v1 hv1 => Fx.x_eqlT rfl rfl rfl c227) (Fx.Qv (.bool true) (fun v1 hv1 => Fx.x_pickF rfl rfl rfl) (Fx.Qv (.bool true) (fun v1 hv1 => Fx.x_assign rfl rfl) (Fx.Qt.nil ?_)))
     rintro _ ⟨qd, rfl⟩
     obtain ⟨wq11, ewq11⟩ : ∃ v1, v1 = World.drewN w28 qd := ⟨_, rfl⟩
     rw [← ewq11]
     have s32 : Fx.Stp w28.heap.size w28 wq11 := by rw [ewq11]; exact Fx.Sb (bdrN w28 qd)
     have m205 := m193.up s32.old
     have m206 := m194.up s32.old
     have m207 := m196.stp s32 (m196.notNew (Nat.le_refl _))
     have m208 := m203.stpB s32 (Nat.ne_of_lt (m203.lt))
     have m209 := m204.stpB s32 (Nat.ne_of_lt (m204.lt))
     have b43 := s32.below b41 b41.size b41.size
     clear ewq11
     refine Fx.blkN (Fx.sN (Fx.Wl (Fx.Lv (.int .i64 ((jb : Int))) (Fx.x_move rfl h65) (Fx.Lv (.int .i64 ((jb : Int) + 1)) (Fx.x_add rfl rfl rfl Fx.io) (Fx.Lv (.int .i64 ((jb : Int) + 1)) (Fx.x_assign rfl rfl) (Fx.Ln ?_))))))
     have m210 : Fx.Own wq11 w26.heap.size 28 1 (.slice la4 (ll4.length) (lc4)) ll4.length (lsU ll4) := m208.congV (congrArg (fun q => Value.slice q ll4.length lc4) eq15.symm)
     have m211 : Fx.Own wq11 w.heap.size 30 2 (.slice ia (T.n) (ic)) T.n (Fx.flat 2 fun q => ndc (T.x q) (T.p q)) := m209.congV (congrArg (fun q => Value.slice q T.n ic) eq16.symm)
     refine Fx.lpN ⟨jb + 1, true, (Fnd.yes (by omega) c227), (by omega), h56, h57, h58, (h59.trans Fx.ic), h60, (h61.trans Fx.ic), h62, (by rfl), h64, Fx.ic, m205, m206, m211, m207, m210, b43⟩ ?_
     show ((ll4.length : Int) - intOf ((.int .i64 ((jb : Int) + 1)))).toNat < _
     simp only [h65, intOf]; omega
    refine Fx.Qv (.bool false) (fun v1 hv1 => Fx.x_eqlF rfl rfl rfl c227) (Fx.Qv (.bool false) (fun v1 hv1 => Fx.x_pickF rfl rfl rfl) (Fx.Qv (.bool false) (fun v1 hv1 => Fx.x_assign rfl rfl) (Fx.Qt.nil ?_)))
    rintro _ ⟨qd, rfl⟩
    obtain ⟨wq12, ewq12⟩ : ∃ v1, v1 = World.drewN w28 qd := ⟨_, rfl⟩
    rw [← ewq12]
    have s33 : Fx.Stp w28.heap.size w28 wq12 := by rw [ewq12]; exact Fx.Sb (bdrN w28 qd)
    have m212 := m193.up s33.old
    have m213 := m194.up s33.old
    have m214 := m196.stp s33 (m196.notNew (Nat.le_refl _))
    have m215 := m203.stpB s33 (Nat.ne_of_lt (m203.lt))
    have m216 := m204.stpB s33 (Nat.ne_of_lt (m204.lt))
    have b44 := s33.below b41 b41.size b41.size
    clear ewq12
    refine Fx.blkN (Fx.sN (Fx.Wl (Fx.Lv (.int .i64 ((jb : Int))) (Fx.x_move rfl h65) (Fx.Lv (.int .i64 ((jb : Int) + 1)) (Fx.x_add rfl rfl rfl Fx.io) (Fx.Lv (.int .i64 ((jb : Int) + 1)) (Fx.x_assign rfl rfl) (Fx.Ln ?_))))))
    have m217 : Fx.Own wq12 w26.heap.size 28 1 (.slice la4 (ll4.length) (lc4)) ll4.length (lsU ll4) := m215.congV (congrArg (fun q => Value.slice q ll4.length lc4) eq15.symm)
    have m218 : Fx.Own wq12 w.heap.size 30 2 (.slice ia (T.n) (ic)) T.n (Fx.flat 2 fun q => ndc (T.x q) (T.p q)) := m216.congV (congrArg (fun q => Value.slice q T.n ic) eq16.symm)
    refine Fx.lpN ⟨jb + 1, false, (by rw [c216] at hbl; exact hbl.no c227), (by omega), h56, h57, h58, (h59.trans Fx.ic), h60, (h61.trans Fx.ic), h62, (by rfl), h64, Fx.ic, m212, m213, m218, m214, m217, b44⟩ ?_
    show ((ll4.length : Int) - intOf ((.int .i64 ((jb : Int) + 1)))).toNat < _
    simp only [h65, intOf]; omega
   refine Fx.Lv (.bool false) (Fx.x_lssF rfl rfl rfl c213) (Fx.Ln (Fx.sN (Fx.Wc (b := false) rfl (fun h => nomatch h) (fun _ => Fx.W.exit (Fx.seqX (Fx.lpX (Fx.blkX (Fx.sN (Fx.Ws (Fx.Wl (Fx.Lv (.bool on) (Fx.x_move rfl h62) (Fx.Lv (.bool bl) (Fx.x_move rfl h63) (Fx.Lv (.bool false) (Fx.x_neqB rfl rfl rfl (by kernel_rfl) (by have e := on_below (on := on) (bl := bl) (show i < T.n by omega) (by rw [← hpl1]; exact hon.mem (by omega)) hq4.2 (hbl.mem (by omega)); rw [e]; simp)) (Fx.Ln (Fx.sN (Fx.Wc (b := false) rfl (fun h => nomatch h) (fun _ => Fx.Wk (Fx.blkN (Fx.sN (Fx.Wl (Fx.Lv (.int .i64 ((ki : Int))) (Fx.x_move rfl h61) (Fx.Lv (.int .i64 ((ki : Int) + 1)) (Fx.x_add rfl rfl rfl Fx.io) (Fx.Lv (.int .i64 ((ki : Int) + 1)) (Fx.x_assign rfl rfl) (Fx.Ln (Fx.lpN ⟨ki + 1, (by omega), h56, h57, h58, (h59.trans Fx.ic), h60, Fx.ic, m193, m194, m195, m196, b41⟩ ?_)))))))))))))))))))))))))
   show ((T.n : Int) - intOf ((.int .i64 ((ki : Int) + 1)))).toNat < _
   simp only [h47, intOf]; omega
  refine Fx.Lv (.bool false) (Fx.x_lssF rfl rfl rfl c181) (Fx.Ln (Fx.sN (Fx.Wc (b := false) rfl (fun h => nomatch h) (fun _ => Fx.W.exit (Fx.seqX (Fx.lpX (Fx.blkX (Fx.blkN (Fx.sN (Fx.Wl (Fx.Lv (.int .i64 ((i : Int))) (Fx.x_move rfl h45) (Fx.Lv (.int .i64 ((i : Int) + 1)) (Fx.x_add rfl rfl rfl Fx.io) (Fx.Lv (.int .i64 ((i : Int) + 1)) (Fx.x_assign rfl rfl) (Fx.Ln (Fx.lpN ⟨i + 1, (by omega), h42, h43, h44, Fx.ic, m160, m161, m162, b35⟩ ?_)))))))))))))))
  show ((T.n : Int) - intOf ((.int .i64 ((i : Int) + 1)))).toNat < _
  simp only [h17, intOf]; omega
 refine Fx.Lv (.bool false) (Fx.x_lssF rfl rfl rfl c104) (Fx.Ln (Fx.sN (Fx.Wc (b := false) rfl (fun h => nomatch h) (fun _ => Fx.W.exit (Fx.seqX (Fx.lpX (Fx.blkX (Fx.sN (Fx.Ws (Fx.Wl (Fx.L.call (by rfl) (Fx.rC (args := []) rfl rfl Try.func5 rfl rfl) rfl ((w_works _).mono ?_))))))))))))
 rintro e w29 ⟨he, hb14⟩
 refine ⟨.bool true, by rw [he], ?_⟩
 clear he
 have s34 := Fx.Sb hb14
 have b45 := s34.below b18 b18.size b18.size
 refine Fx.Lv (.bool true) (Fx.x_assign rfl rfl) (Fx.Ln (Fx.sN (Fx.Wr (⟨.bool true, Fx.rV Try.results3 (by exact rfl), ?_⟩))))
 exact ⟨rfl, b45⟩
end Go.Proofs.Ytahbiajdgealnaa
namespace Go.Proofs.Ytahbiajdgealnaa
open Go.RowKit Go.WideShapes Go.ChangeShapes Go.Deep
theorem spotless1 {w : World} {x : Addr} {v : Value} (h : w.cell? x = some v) : ∃ b off, x = ⟨b, off, none⟩ := by
  obtain ⟨b, off, spot⟩ := x
  cases spot with
  | none => exact ⟨b, off, rfl⟩
  | some q =>
    unfold World.cell? at h
    simp at h
    split at h <;> cases h
def At4 (k0 k1 k2 k3 : IntKind) (w : World) (b off : Nat) (x0 x1 x2 x3 : Int) : Prop :=
  w.cell? ⟨b, off, none⟩ = some (.int k0 x0) ∧ w.cell? ⟨b, off + 1, none⟩ = some (.int k1 x1) ∧ w.cell? ⟨b, off + 2, none⟩ = some (.int k2 x2) ∧ w.cell? ⟨b, off + 3, none⟩ = some (.int k3 x3)
def Wf4 (k0 k1 k2 k3 : IntKind) (x0 x1 x2 x3 : Int) : Prop := (Lit.int k0 x0).wf = true ∧ (Lit.int k1 x1).wf = true ∧ (Lit.int k2 x2).wf = true ∧ (Lit.int k3 x3).wf = true
def Sl4 (k0 k1 k2 k3 : IntKind) (w : World) (a : Option Addr) (len : Nat) (X0 X1 X2 X3 : Nat → Int) : Prop :=
  ∀ i, i < len → (∃ b off, a = some ⟨b, off, none⟩ ∧ At4 k0 k1 k2 k3 w b (off + i * 4) (X0 i) (X1 i) (X2 i) (X3 i)) ∧ Wf4 k0 k1 k2 k3 (X0 i) (X1 i) (X2 i) (X3 i)
theorem Sl4.up {k0 k1 k2 k3 : IntKind} {w w' : World} {a : Option Addr} {len : Nat} {X0 X1 X2 X3 : Nat → Int} (h : Sl4 k0 k1 k2 k3 w a len X0 X1 X2 X3) (hb : Below w.heap.size w w') : Sl4 k0 k1 k2 k3 w' a len X0 X1 X2 X3 := by
  intro i hi
  obtain ⟨⟨b, off, e, q0, q1, q2, q3⟩, hw⟩ := h i hi
  have hlt := block_lt_of_cell q0
  dsimp only at hlt
  exact ⟨⟨b, off, e, (hb.cell (p := ⟨b, off + i * 4, none⟩) hlt).trans q0, (hb.cell (p := ⟨b, off + i * 4 + 1, none⟩) hlt).trans q1, (hb.cell (p := ⟨b, off + i * 4 + 2, none⟩) hlt).trans q2, (hb.cell (p := ⟨b, off + i * 4 + 3, none⟩) hlt).trans q3⟩, hw⟩
end Go.Proofs.Ytahbiajdgealnaa
namespace Go.Proofs.Ytahbiajdgealnaa
open Go.RowKit Go.WideShapes Go.ChangeShapes Go.Deep
def flatKs (P : Program) : Nat → TypeId → Option (List IntKind)
  | 0, _ => none
  | d + 1, t => match P.underlying t with
    | some (.int k) => some [k]
    | some (.array n e) => (flatKs P d e).bind fun ks => if P.cellsOf e = ks.length ∧ P.cellsOf t = n * ks.length then some (List.replicate n ks).flatten else none
    | some (.struct fs) => (fs.toList.foldlM (fun l f => (flatKs P d f.type).bind fun ks => if f.offset = l.length ∧ P.cellsOf f.type = ks.length then some (l ++ ks) else none) []).bind fun l => if P.cellsOf t = l.length then some l else none
    | _ => none
def FlatC (ks : List IntKind) (cs : List Value) : Prop := cs.length = ks.length ∧ ∀ (j : Nat) (k : IntKind), ks[j]? = some k → ∃ n, cs[j]? = some (Value.int k n) ∧ (Lit.int k n).wf = true
theorem flat_rep {ks : List IntKind} {k : IntKind} : ∀ (n j : Nat), (List.replicate n ks).flatten[j]? = some k → ks[j % ks.length]? = some k ∧ j / ks.length < n
  | 0, j, h => by simp at h
  | n + 1, j, h => by
    rw [List.replicate_succ, List.flatten_cons] at h
    by_cases hj : j < ks.length
    · rw [List.getElem?_append_left hj] at h
      rw [Nat.mod_eq_of_lt hj, Nat.div_eq_of_lt hj]; exact ⟨h, by omega⟩
    · rw [List.getElem?_append_right (by omega)] at h
      have hs : 0 < ks.length := by
        rcases Nat.eq_zero_or_pos ks.length with e | e
        · obtain ⟨h1, _⟩ := flat_rep n _ h
          have := (List.getElem?_eq_some_iff.1 h1).1; omega
        · exact e
      obtain ⟨h1, h2⟩ := flat_rep n _ h
      rw [Nat.mod_eq_sub_mod (by omega), Nat.div_eq_sub_div hs (by omega)]
      exact ⟨h1, by omega⟩
section
variable {H : Type} {enc : TypeId × Value → H} {P : Program} {w : World} {base : Nat} {spare : Nat → Bool} {held : Bool}
theorem flat_part {ks : List IntKind} {cs : List Value} {o s j : Nat} {k : IntKind} (h : FlatC ks ((cs.drop o).take s)) (hs : s = ks.length) (hk : ks[j]? = some k) : ∃ n, cs[o + j]? = some (Value.int k n) ∧ (Lit.int k n).wf = true := by
  obtain ⟨n, h1, h2⟩ := h.2 j k hk
  have hj := (List.getElem?_eq_some_iff.1 hk).1
  rw [List.getElem?_take_of_lt (by omega), List.getElem?_drop] at h1
  exact ⟨n, h1, h2⟩
theorem flatKs_ok : ∀ (d : Nat) (t : TypeId) (ks : List IntKind), flatKs P d t = some ks → ∀ (fuel : Nat) (cs : List Value) (x : DataW H × List MemPlace), DataW.trod enc P w base spare held fuel t cs = some x → FlatC ks cs
  | 0, _, _, h => by simp [flatKs] at h
  | d + 1, t, ks, h => by
    intro fuel cs x hx
    unfold flatKs at h
    split at h
    · rename_i k hu
      simp only [Option.some.injEq] at h; subst h
      obtain ⟨n, rfl, _, hw⟩ := DataW.trod_int hu hx
      refine ⟨rfl, fun j k' hk => ?_⟩
      match j, hk with
      | 0, hk => simp at hk; subst hk; exact ⟨n, rfl, hw⟩
      | j + 1, hk => simp at hk
    · rename_i n e hu
      obtain ⟨ks', hks, h⟩ := Option.bind_eq_some_iff.1 h
      split at h
      · rename_i hc
        simp only [Option.some.injEq] at h; subst h
        obtain ⟨xs, m, _, _, hl, hlen, hel⟩ := DataW.trod_array hu hx
        refine ⟨by rw [hl, hc.2]; simp, fun j k hk => ?_⟩
        obtain ⟨h1, h2⟩ := flat_rep n j hk
        have hi := hel (j / ks'.length) h2
        rw [List.getElem?_eq_getElem (by omega), hc.1] at hi
        have := flat_part (flatKs_ok d e ks' hks _ _ _ hi) rfl h1
        rw [Nat.mul_comm, Nat.div_add_mod] at this
        exact this
      · cases h
    · rename_i fs hu
      obtain ⟨l, hl, h⟩ := Option.bind_eq_some_iff.1 h
      split at h
      · rename_i hc
        simp only [Option.some.injEq] at h; subst h
        obtain ⟨xs, m, _, _, hlc, hlen, hf⟩ := DataW.trod_struct hu hx
        refine ⟨by rw [hlc, hc], ?_⟩
        have hf' : ∀ f, f ∈ fs.toList → ∃ y, DataW.trod enc P w base spare held m f.type ((cs.drop f.offset).take (P.cellsOf f.type)) = some y := by
          intro f hfm
          obtain ⟨i, hi, e⟩ := List.mem_iff_getElem.1 hfm
          have hi' : i < fs.size := by simpa using hi
          have h1 : fs[i]? = some f := by rw [Array.getElem?_eq_getElem hi']; simpa using e
          have := hf i f h1
          rw [List.getElem?_eq_getElem (by rw [hlen]; exact hi')] at this
          exact ⟨_, this⟩
        have key : ∀ (L : List Field) (acc : List IntKind), (∀ f, f ∈ L → ∃ y, DataW.trod enc P w base spare held m f.type ((cs.drop f.offset).take (P.cellsOf f.type)) = some y) → (∀ (j : Nat) (k : IntKind), acc[j]? = some k → ∃ n, cs[j]? = some (Value.int k n) ∧ (Lit.int k n).wf = true) → ∀ l, L.foldlM (fun l f => (flatKs P d f.type).bind fun ks => if f.offset = l.length ∧ P.cellsOf f.type = ks.length then some (l ++ ks) else none) acc = some l → ∀ (j : Nat) (k : IntKind), l[j]? = some k → ∃ n, cs[j]? = some (Value.int k n) ∧ (Lit.int k n).wf = true := by
          intro L
          induction L with
          | nil => intro acc _ ha l hl; simp at hl; subst hl; exact ha
          | cons f L ih =>
            intro acc hL ha l hl
            rw [List.foldlM_cons] at hl
            obtain ⟨l1, h1, h2⟩ := Option.bind_eq_some_iff.1 hl
            obtain ⟨kf, hkf, h3⟩ := Option.bind_eq_some_iff.1 h1
            split at h3
            · rename_i hcc
              simp only [Option.some.injEq] at h3; subst h3
              refine ih (acc ++ kf) (fun g hg => hL g (List.mem_cons_of_mem _ hg)) (fun j k hk => ?_) l h2
              by_cases hj : j < acc.length
              · rw [List.getElem?_append_left hj] at hk; exact ha j k hk
              · rw [List.getElem?_append_right (by omega)] at hk
                obtain ⟨y, hy⟩ := hL f (List.mem_cons_self ..)
                have := flat_part (flatKs_ok d f.type kf hkf _ _ _ hy) hcc.2 hk
                rw [hcc.1, show acc.length + (j - acc.length) = j by omega] at this
                exact this
            · cases h3
        exact key fs.toList [] hf' (fun j k hk => by simp at hk) l hl
      · cases h
    · cases h
end
def flatX (ks : List IntKind) (X : Nat → Nat → Int) : Nat → Value := fun p => .int (ks.getD (p % ks.length) .i64) (X (p / ks.length) (p % ks.length))
theorem open_flat {H : Type} {enc : TypeId × Value → H} {P : Program} {w : World} {t e : TypeId} {ks : List IntKind} {a : Option Addr} {len cap D : Nat} {d : DataW H} {ps : List MemPlace}
    (ht : P.underlying t = some (.slice e)) (hk : flatKs P D e = some ks) (ce : P.cellsOf e = ks.length) (hs : 0 < ks.length)
    (h : DataW.Trod enc P w 0 (fun _ => true) true t (.slice a len cap) d ps) : len ≤ maxLen ∧ len ≤ cap ∧ ∃ X : Nat → Nat → Int, (∀ i, i < len → ∀ (j : Nat) (k : IntKind), ks[j]? = some k → (Lit.int k (X i j)).wf = true) ∧ (0 < len → ∃ b off, a = some ⟨b, off, none⟩ ∧ Fx.Cel w b off (ks.length * len) (flatX ks X)) := by
  obtain ⟨fuel, hf⟩ := h
  rcases open_slice ht hf with ⟨hcs, _⟩ | ⟨a', l', c', m, n, D, Pl, hcs, _, hl, hm, hmm, _, hx⟩
  · simp [Value.cells] at hcs
    obtain ⟨rfl, rfl, rfl⟩ := hcs
    exact ⟨by unfold maxLen; omega, Nat.le_refl _, fun _ _ => 0, fun i hi => absurd hi (by omega), fun h => absurd h (by omega)⟩
  simp [Value.cells] at hcs
  obtain ⟨rfl, rfl, rfl⟩ := hcs
  have each : ∀ i j : Nat, ∃ q : Int, i < len → ∀ k, ks[j]? = some k → w.cell? (a'.add (i * ks.length + j)) = some (Value.int k q) ∧ (Lit.int k q).wf = true := by
    intro i j
    by_cases hi : i < len ∧ j < ks.length
    · obtain ⟨cs', g1, g2⟩ := hx i (by rw [hmm]; simp; omega)
      rw [ce] at g1
      obtain ⟨_, hlen, hcell⟩ := World.cells?_some g1
      obtain ⟨q, h1, h2⟩ := (flatKs_ok _ _ _ hk _ _ _ g2).2 j _ (List.getElem?_eq_getElem hi.2)
      refine ⟨q, fun _ k hkj => ?_⟩
      rw [List.getElem?_eq_getElem hi.2, Option.some.injEq] at hkj
      subst hkj
      have q0 := hcell j (by omega)
      rw [add_add] at q0
      exact ⟨by rw [← h1]; simpa using q0, h2⟩
    · refine ⟨0, fun h1 k h2 => absurd ⟨h1, (List.getElem?_eq_some_iff.1 h2).1⟩ hi⟩
  refine ⟨by omega, hl, fun i j => Classical.choose (each i j), fun i hi j k hkj => (Classical.choose_spec (each i j) hi k hkj).2, fun h0 => ?_⟩
  have e0 : a'.add (0 * ks.length + 0) = a' := by unfold Addr.add; simp
  obtain ⟨q00, h00⟩ := each 0 0
  have h00 := (h00 h0 _ (List.getElem?_eq_getElem hs)).1
  rw [e0] at h00
  obtain ⟨b, off, e1⟩ := spotless1 h00
  refine ⟨b, off, by rw [e1], fun p hp => ?_⟩
  have hj : p % ks.length < ks.length := Nat.mod_lt _ hs
  have hi : p / ks.length < len := Nat.div_lt_of_lt_mul hp
  have := (Classical.choose_spec (each (p / ks.length) (p % ks.length)) hi _ (List.getElem?_eq_getElem hj)).1
  have ea : a'.add (p / ks.length * ks.length + p % ks.length) = ⟨b, off + p, none⟩ := by rw [e1, addr_add, Nat.mul_comm, Nat.div_add_mod]
  refine (congrArg w.cell? ea).symm.trans (this.trans ?_)
  exact congrArg (fun kk => some (Value.int kk _)) (show ks[p % ks.length] = ks.getD (p % ks.length) .i64 by rw [List.getD_eq_getElem?_getD, List.getElem?_eq_getElem hj]; rfl)
end Go.Proofs.Ytahbiajdgealnaa
namespace Go.Proofs.Ytahbiajdgealnaa
open Go.RowKit Go
set_option linter.unusedVariables false
namespace Rt
theorem flat_nd (X : Nat → Nat → Int) : flatX [.u64, .u64] X = Fx.flat 2 fun i => ndc (X i 0) (X i 1) := by
  funext p
  show Value.int (([.u64, .u64] : List IntKind).getD (p % 2) .i64) (X (p / 2) (p % 2)) = ndc (X (p / 2) 0) (X (p / 2) 1) (p % 2)
  have h : p % 2 < 2 := Nat.mod_lt _ (by omega)
  generalize p % 2 = r at h
  match r, h with
  | 0, _ => rfl
  | 1, _ => rfl
  | r + 2, h => omega
theorem u64_bdT {n : Int} (h : (Lit.int .u64 n).wf = true) : 0 ≤ n ∧ n ≤ 18446744073709551615 := by
  simp [Lit.wf, IntKind.min, IntKind.max, IntKind.bits, IntKind.signed] at h; omega
theorem paths_flat (a0 : Option Addr) (l0 c0 : Nat) (X0 : Nat → Nat → Int) (W : World)
    (wf0 : ∀ i, i < l0 → ∀ (j : Nat) (k : IntKind), ([.u64, .u64] : List IntKind)[j]? = some k → (Lit.int k (X0 i j)).wf = true) (st0 : 0 < l0 → ∃ b off, a0 = some ⟨b, off, none⟩ ∧ Fx.Cel W b off (([.u64, .u64] : List IntKind).length * l0) (flatX [.u64, .u64] X0)) :
    Calls Try.prog 3 #[.slice a0 l0 c0] W fun e w' => e = .returned (.bool true) ∧ Below W.heap.size W w' := by
  refine w_paths a0 l0 c0 X0 W (fun h => ?_) (fun i hi => ⟨u64_bdT (wf0 i hi 0 .u64 rfl), u64_bdT (wf0 i hi 1 .u64 rfl)⟩)
  obtain ⟨b, off, e, hc⟩ := st0 (by omega)
  rw [flat_nd] at hc
  exact ⟨b, off, e, by rw [show l0 * 2 = ([.u64, .u64] : List IntKind).length * l0 from Nat.mul_comm _ _]; exact hc⟩
end Rt
end Go.Proofs.Ytahbiajdgealnaa
