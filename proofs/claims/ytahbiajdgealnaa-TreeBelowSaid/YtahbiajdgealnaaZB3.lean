/-
  What the proof of the law rests on, part 3: walks of functions, and plain laws; each says its conditions itself.
-/
import Derived.Deep.Slices
import Derived.Lib.SmallJoins
import Derived.Test.YtahbiajdgealnaaZB2
namespace Go.Proofs.Ytahbiajdgealnaa
open Go.RowKit
open Rt
set_option maxRecDepth 10000
theorem s_insI {aI bI : Int} (a b : Nat) (ea : aI = (a : Int)) (eb : bI = (b : Int)) (B g n cap : Nat) (d : Array Int) (w : World) (h : Fx.Own w B 28 1 (.slice (some ⟨g, 0, none⟩) n cap) n (Fx.rv .u64 (gA d))) (hB : B ≤ w.heap.size) (hn : d.size = n) (hs : n ≤ 1000) (ha : a ≤ b) (hb : b ≤ n) :
    Calls Try.prog 24 #[.slice (some ⟨g, 0, none⟩) (n) (cap), .int .i64 (aI), .int .i64 (bI)] w fun e w' => e = .returned (.tuple #[]) ∧ Fx.Own w' B 28 1 (.slice (some ⟨g, 0, none⟩) n cap) n (Fx.rv .u64 (gA (Sort.insertionSort Sort.ltInt d a b))) ∧ Below B w w' := by
  subst ea eb; exact s_ins a b B g n cap d w h hB hn hs ha hb
theorem s_heapI {aI bI : Int} (a b : Nat) (ea : aI = (a : Int)) (eb : bI = (b : Int)) (B g n cap : Nat) (d : Array Int) (w : World) (h : Fx.Own w B 28 1 (.slice (some ⟨g, 0, none⟩) n cap) n (Fx.rv .u64 (gA d))) (hB : B ≤ w.heap.size) (hn : d.size = n) (hs : n ≤ 1000) (ha : a < b) (hb : b ≤ n) :
    Calls Try.prog 25 #[.slice (some ⟨g, 0, none⟩) (n) (cap), .int .i64 (aI), .int .i64 (bI)] w fun e w' => e = .returned (.tuple #[]) ∧ Fx.Own w' B 28 1 (.slice (some ⟨g, 0, none⟩) n cap) n (Fx.rv .u64 (gA (Sort.heapSort Sort.ltInt d a b))) ∧ Below B w w' := by
  subst ea eb; exact s_heap a b B g n cap d w h hB hn hs ha hb
theorem s_revI {aI bI : Int} (a b : Nat) (ea : aI = (a : Int)) (eb : bI = (b : Int)) (B g n cap : Nat) (d : Array Int) (w : World) (h : Fx.Own w B 28 1 (.slice (some ⟨g, 0, none⟩) n cap) n (Fx.rv .u64 (gA d))) (hB : B ≤ w.heap.size) (hn : d.size = n) (hs : n ≤ 1000) (ha : a < b) (hb : b ≤ n) :
    Calls Try.prog 28 #[.slice (some ⟨g, 0, none⟩) (n) (cap), .int .i64 (aI), .int .i64 (bI)] w fun e w' => e = .returned (.tuple #[]) ∧ Fx.Own w' B 28 1 (.slice (some ⟨g, 0, none⟩) n cap) n (Fx.rv .u64 (gA (Sort.reverseRange d a b))) ∧ Below B w w' := by
  subst ea eb; exact s_rev a b B g n cap d w h hB hn hs ha hb
def PdqOk (m : Nat) : Prop := ∀ (aI bI lI : Int) (a b lim : Nat) (B g n cap : Nat) (d : Array Int) (w : World) (h : Fx.Own w B 28 1 (.slice (some ⟨g, 0, none⟩) n cap) n (Fx.rv .u64 (gA d))) (hB : B ≤ w.heap.size) (hn : d.size = n) (hs : n ≤ 1000) (h50 : n < 50) (hl : lim ≤ 1000) (hab : a ≤ b) (hb : b ≤ n) (hBel : Sort.Below Sort.ltInt a b d), aI = (a : Int) → bI = (b : Int) → lI = (lim : Int) → b - a < m →
    Calls Try.prog 22 #[.slice (some ⟨g, 0, none⟩) (n) (cap), .int .i64 aI, .int .i64 bI, .int .i64 lI] w fun e w' => ∃ d2 : Array Int, e = .returned (.tuple #[]) ∧ d2.size = n ∧ Sort.PermIn a b d d2 ∧ Sort.SortedIn Sort.ltInt a b d2 ∧ Fx.Own w' B 28 1 (.slice (some ⟨g, 0, none⟩) n cap) n (Fx.rv .u64 (gA d2)) ∧ Below B w w'
theorem s_pdqS (m : Nat) (ih : PdqOk m) (a b lim : Nat) (B g n cap : Nat) (d : Array Int) (w : World) (h : Fx.Own w B 28 1 (.slice (some ⟨g, 0, none⟩) n cap) n (Fx.rv .u64 (gA d))) (hB : B ≤ w.heap.size) (hn : d.size = n) (hs : n ≤ 1000) (h50 : n < 50) (hl : lim ≤ 1000) (hab : a ≤ b) (hb : b ≤ n) (hBel : Sort.Below Sort.ltInt a b d) (hm : b - a < m + 1) :
    Calls Try.prog 22 #[.slice (some ⟨g, 0, none⟩) (n) (cap), .int .i64 ((a : Int)), .int .i64 ((b : Int)), .int .i64 ((lim : Int))] w fun e w' => ∃ d2 : Array Int, e = .returned (.tuple #[]) ∧ d2.size = n ∧ Sort.PermIn a b d d2 ∧ Sort.SortedIn Sort.ltInt a b d2 ∧ Fx.Own w' B 28 1 (.slice (some ⟨g, 0, none⟩) n cap) n (Fx.rv .u64 (gA d2)) ∧ Below B w w' := by
 refine Fx.enter Try.func22 rfl (n := 134) rfl (by rfl) ?_
 refine Fx.Ws (Fx.Wl (Fx.Lv (.bool true) (Fx.x_assign rfl rfl) (Fx.Ln (Fx.sN (Fx.Ws (Fx.Wl (Fx.Lv (.bool true) (Fx.x_assign rfl rfl) (Fx.Ln (Fx.sN (Fx.W.block (Fx.W.loopE (fun kk f w_ => ∃ ax : Nat, ∃ bx : Nat, ∃ lx : Nat, ∃ dk : Array Int, ∃ wb : Bool, ∃ wp : Bool, dk.size = n ∧ Sort.Below Sort.ltInt ax bx dk ∧ (∀ R, Sort.PermIn ax bx dk R → Sort.SortedIn Sort.ltInt ax bx R → Sort.PermIn a b d R ∧ Sort.SortedIn Sort.ltInt a b R) ∧ (ax ≤ bx ∧ bx ≤ n ∧ lx ≤ 1000 ∧ bx - ax ≤ b - a) ∧ kk = bx - ax ∧ f 0 = .slice (some ⟨g, 0, none⟩) (n) (cap) ∧ f 1 = .int .i64 ((ax : Int)) ∧ f 2 = .int .i64 ((bx : Int)) ∧ f 3 = .int .i64 ((lx : Int)) ∧ f 8 = .bool wb ∧ f 9 = .bool wp ∧ Fx.Own w_ B 28 1 (.slice (some ⟨g, 0, none⟩) n cap) n (Fx.rv .u64 (gA dk)) ∧ Below B w w_) (b - a) ⟨a, b, lim, d, true, true, hn, hBel, (fun R h1 h2 => ⟨h1, h2⟩), (by omega), rfl, (by rfl), Fx.ic, Fx.ic, Fx.ic, (by rfl), (by rfl), h, (Below.refl B w)⟩ ?_)))))))))))
 rintro kk f1 w1 ⟨ax, bx, lx, dk, wb, wp, hk, hBl, hF, hab1, hkk, h1, h2, h3, h4, h5, h6, m1, b1⟩
 refine Fx.W.block (Fx.Ws (Fx.Wl (Fx.Lv (.int .i64 ((bx : Int))) (Fx.x_move rfl h3) (Fx.Lv (.int .i64 ((ax : Int))) (Fx.x_move rfl h2) (Fx.Lv (.int .i64 ((bx : Int) - (ax : Int))) (Fx.x_sub rfl rfl rfl Fx.io) (Fx.Lv (.int .i64 ((bx : Int) - (ax : Int))) (Fx.x_assign rfl rfl) (Fx.Ln (Fx.sN (Fx.Ws (Fx.Ws (Fx.Wl (Fx.Lv (.int .i64 ((bx : Int) - (ax : Int))) (Fx.x_move rfl rfl) ?_))))))))))))
 by_cases c23 : ((bx : Int) - (ax : Int)) ≤ 12
 ·refine Fx.Lv (.bool true) (Fx.x_leqT rfl rfl rfl c23) (Fx.Ln (Fx.sN (Fx.Wc (b := true) rfl (fun _ => Fx.Ws (Fx.Wl (Fx.Lv (.slice (some ⟨g, 0, none⟩) (n) (cap)) (Fx.x_move rfl h1) ?_))) (fun h => nomatch h))))
  refine Fx.Lv (.int .i64 ((ax : Int))) (Fx.x_move rfl h2) (Fx.Lv (.int .i64 ((bx : Int))) (Fx.x_move rfl h3) (Fx.L.call (by rfl) (Fx.rC (args := [.slice (some ⟨g, 0, none⟩) (n) (cap), .int .i64 ((ax : Int)), .int .i64 ((bx : Int))]) rfl rfl Try.func24 rfl rfl) rfl ((s_insI ax bx (by omega) (by omega) B g n cap dk _ m1 (Nat.le_trans hB b1.size) hk hs (by omega) (by omega)).mono ?_)))
  rintro e9 w2 ⟨he, m2, hb1⟩
  refine ⟨_, he, ?_⟩
  clear he
  have b2 := b1.trans hb1
  refine Fx.Ln (Fx.sN (Fx.Wr (Fx.sR (Fx.blkR (Fx.lpR (Fx.blkR (⟨.tuple #[], Fx.ret0 Try.results22, ?_⟩)))))))
  have hp := (Sort.insertionSort_holds Sort.swo_ltInt dk ax bx (by omega) (by omega))
  have hq := hF _ hp.1 hp.2
  exact ⟨_, rfl, hp.1.1.trans hk, hq.1, hq.2, m2, b2⟩
 refine Fx.Lv (.bool false) (Fx.x_leqF rfl rfl rfl c23) (Fx.Ln (Fx.sN (Fx.Wc (b := false) rfl (fun h => nomatch h) (fun _ => Fx.Wk (Fx.sN (Fx.Ws (Fx.Ws (Fx.Wl (Fx.Lv (.int .i64 ((lx : Int))) (Fx.x_move rfl h4) ?_)))))))))
 by_cases c29 : (lx : Int) = 0
 ·refine Fx.Lv (.bool true) (Fx.x_eqlT rfl rfl rfl c29) (Fx.Ln (Fx.sN (Fx.Wc (b := true) rfl (fun _ => Fx.Ws (Fx.Wl (Fx.Lv (.slice (some ⟨g, 0, none⟩) (n) (cap)) (Fx.x_move rfl h1) ?_))) (fun h => nomatch h))))
  refine Fx.Lv (.int .i64 ((ax : Int))) (Fx.x_move rfl h2) (Fx.Lv (.int .i64 ((bx : Int))) (Fx.x_move rfl h3) (Fx.L.call (by rfl) (Fx.rC (args := [.slice (some ⟨g, 0, none⟩) (n) (cap), .int .i64 ((ax : Int)), .int .i64 ((bx : Int))]) rfl rfl Try.func25 rfl rfl) rfl ((s_heapI ax bx (by omega) (by omega) B g n cap dk _ m1 (Nat.le_trans hB b1.size) hk hs (by omega) (by omega)).mono ?_)))
  rintro e9 w3 ⟨he, m3, hb2⟩
  refine ⟨_, he, ?_⟩
  clear he
  have b3 := b1.trans hb2
  refine Fx.Ln (Fx.sN (Fx.Wr (Fx.sR (Fx.blkR (Fx.lpR (Fx.blkR (⟨.tuple #[], Fx.ret0 Try.results22, ?_⟩)))))))
  have hp := (Sort.heapSort_holds Sort.swo_ltInt dk ax bx (by omega) (by omega))
  have hq := hF _ hp.1 hp.2
  exact ⟨_, rfl, hp.1.1.trans hk, hq.1, hq.2, m3, b3⟩
 refine Fx.Lv (.bool false) (Fx.x_eqlF rfl rfl rfl c29) (Fx.Ln (Fx.sN (Fx.Wc (b := false) rfl (fun h => nomatch h) (fun _ => Fx.Wk (Fx.sN (Fx.W.seqJ (fun f w_ => ∃ ly : Nat, ∃ dx : Array Int, dx.size = n ∧ Sort.PermIn ax bx dk dx ∧ ly ≤ 1000 ∧ f 0 = .slice (some ⟨g, 0, none⟩) (n) (cap) ∧ f 1 = .int .i64 ((ax : Int)) ∧ f 2 = .int .i64 ((bx : Int)) ∧ f 3 = .int .i64 ((ly : Int)) ∧ f 8 = .bool wb ∧ f 9 = .bool wp ∧ f 10 = .int .i64 ((bx : Int) - (ax : Int)) ∧ Fx.Own w_ B 28 1 (.slice (some ⟨g, 0, none⟩) n cap) n (Fx.rv .u64 (gA dx)) ∧ Below B w w_) ?_ ?_))))))
 ·refine Fx.Ws (Fx.Wl ?_)
  by_cases c34 : wb = true
  ·refine Fx.Lv (.bool true) (Fx.x_move rfl (h5.trans (congrArg Value.bool c34))) (Fx.Lv (.bool false) (Fx.x_notF rfl rfl) (Fx.Ln (Fx.sN (Fx.Wc (b := false) rfl (fun h => nomatch h) (fun _ => Fx.Wk ?_)))))
   exact Fx.jnN ⟨lx, dk, hk, (Sort.permIn_refl _ _ _), (by omega), h1, (h2.trans Fx.ic), (h3.trans Fx.ic), (h4.trans Fx.ic), h5, h6, Fx.ic, m1, b1⟩
  rw [Bool.not_eq_true] at c34
  refine Fx.Lv (.bool false) (Fx.x_move rfl (h5.trans (congrArg Value.bool c34))) (Fx.Lv (.bool true) (Fx.x_notT rfl rfl) (Fx.Ln (Fx.sN (Fx.Wc (b := true) rfl (fun _ => Fx.Ws (Fx.Wl (Fx.Lv (.slice (some ⟨g, 0, none⟩) (n) (cap)) (Fx.x_move rfl h1) ?_))) (fun h => nomatch h)))))
  refine Fx.Lv (.int .i64 ((ax : Int))) (Fx.x_move rfl h2) (Fx.Lv (.int .i64 ((bx : Int))) (Fx.x_move rfl h3) (Fx.L.call (by rfl) (Fx.rC (args := [.slice (some ⟨g, 0, none⟩) (n) (cap), .int .i64 ((ax : Int)), .int .i64 ((bx : Int))]) rfl rfl Try.func26 rfl rfl) rfl ((s_brk ax bx B g n cap dk _ m1 (Nat.le_trans hB b1.size) hk hs (by omega) (by omega) h50).mono ?_)))
  rintro e9 w4 ⟨dn1, he, hz1, hP1, m4, hb3⟩
  have b4 := b1.trans hb3
  refine ⟨_, he, ?_⟩
  clear he
  refine Fx.Ln (Fx.sN (Fx.Wl (Fx.Lv (.int .i64 ((lx : Int))) (Fx.x_move rfl h4) (Fx.Lv (.int .i64 ((lx : Int) - 1)) (Fx.x_sub rfl rfl rfl Fx.io) (Fx.Lv (.int .i64 ((lx : Int) - 1)) (Fx.x_assign rfl rfl) (Fx.Ln ?_))))))
  exact Fx.jnN ⟨lx - 1, dn1, hz1, hP1, (by omega), h1, (h2.trans Fx.ic), (h3.trans Fx.ic), Fx.ic, h5, h6, Fx.ic, m4, b4⟩
 rintro f2 w5 ⟨ly, dx, hk1, hP1, hl2, h7, h8, h9, h10, h11, h12, h13, m5, b5⟩
 refine Fx.Ws (Fx.Wl (Fx.Lv (.slice (some ⟨g, 0, none⟩) (n) (cap)) (Fx.x_move rfl h7) (Fx.Lv (.int .i64 ((ax : Int))) (Fx.x_move rfl h8) (Fx.Lv (.int .i64 ((bx : Int))) (Fx.x_move rfl h9) (Fx.L.call (by rfl) (Fx.rC (args := [.slice (some ⟨g, 0, none⟩) (n) (cap), .int .i64 ((ax : Int)), .int .i64 ((bx : Int))]) rfl rfl Try.func27 rfl rfl) rfl ((s_piv ax bx B g n cap dx _ m5 (Nat.le_trans hB b5.size) hk1 hs (by omega) (by omega) h50).mono ?_))))))
 rintro e9 w6 ⟨p1, ht1, he, hu1, hv1, m6, hb4⟩
 have b6 := b5.trans hb4
 refine ⟨_, he, ?_⟩
 clear he
 refine Fx.Lv (.tuple #[.int .i64 ((p1 : Int)), .int .i64 (ht1)]) (Fx.x_move rfl rfl) (Fx.Lv (.int .i64 ((p1 : Int))) (Fx.x_extract rfl rfl rfl) (Fx.Lv (.int .i64 (ht1)) (Fx.x_extract rfl rfl rfl) (Fx.Lv (.int .i64 ((p1 : Int))) (Fx.x_assign rfl rfl) (Fx.Lv (.int .i64 (ht1)) (Fx.x_assign rfl rfl) (Fx.Ln (Fx.sN (Fx.W.seqJ (fun f w_ => ∃ pv : Nat, ∃ hint : Int, ∃ dy : Array Int, dy.size = n ∧ Sort.PermIn ax bx dk dy ∧ (ax ≤ pv ∧ pv < bx) ∧ f 0 = .slice (some ⟨g, 0, none⟩) (n) (cap) ∧ f 1 = .int .i64 ((ax : Int)) ∧ f 2 = .int .i64 ((bx : Int)) ∧ f 3 = .int .i64 ((ly : Int)) ∧ f 8 = .bool wb ∧ f 9 = .bool wp ∧ f 10 = .int .i64 ((bx : Int) - (ax : Int)) ∧ f 11 = .int .i64 ((pv : Int)) ∧ f 12 = .int .i64 (hint) ∧ Fx.Own w_ B 28 1 (.slice (some ⟨g, 0, none⟩) n cap) n (Fx.rv .u64 (gA dy)) ∧ Below B w w_) ?_ ?_)))))))
 ·refine Fx.Ws (Fx.Wl (Fx.Lv (.int .i64 (ht1)) (Fx.x_move rfl rfl) ?_))
  by_cases c50 : ht1 = 2
  ·refine Fx.Lv (.bool true) (Fx.x_eqlT rfl rfl rfl c50) (Fx.Ln (Fx.sN (Fx.Wc (b := true) rfl (fun _ => Fx.Ws (Fx.Wl (Fx.Lv (.slice (some ⟨g, 0, none⟩) (n) (cap)) (Fx.x_move rfl h7) ?_))) (fun h => nomatch h))))
   refine Fx.Lv (.int .i64 ((ax : Int))) (Fx.x_move rfl h8) (Fx.Lv (.int .i64 ((bx : Int))) (Fx.x_move rfl h9) (Fx.L.call (by rfl) (Fx.rC (args := [.slice (some ⟨g, 0, none⟩) (n) (cap), .int .i64 ((ax : Int)), .int .i64 ((bx : Int))]) rfl rfl Try.func28 rfl rfl) rfl ((s_revI ax bx (by omega) (by omega) B g n cap dx _ m6 (Nat.le_trans hB b6.size) hk1 hs (by omega) (by omega)).mono ?_)))
   rintro e9 w7 ⟨he, m7, hb5⟩
   refine ⟨_, he, ?_⟩
   clear he
   have b7 := b6.trans hb5
   refine Fx.Ln (Fx.sN (Fx.Ws (Fx.Wl (Fx.Lv (.int .i64 ((bx : Int))) (Fx.x_move rfl h9) (Fx.Lv (.int .i64 ((bx : Int) - 1)) (Fx.x_sub rfl rfl rfl Fx.io) (Fx.Lv (.int .i64 ((p1 : Int))) (Fx.x_move rfl rfl) (Fx.Lv (.int .i64 ((ax : Int))) (Fx.x_move rfl h8) (Fx.Lv (.int .i64 ((p1 : Int) - (ax : Int))) (Fx.x_sub rfl rfl rfl Fx.io) (Fx.Lv (.int .i64 ((ax : Int) + (bx : Int) - (p1 : Int) - 1)) (Fx.x_sub rfl rfl rfl Fx.io) (Fx.Lv (.int .i64 ((ax : Int) + (bx : Int) - (p1 : Int) - 1)) (Fx.x_assign rfl rfl) (Fx.Ln (Fx.sN (Fx.Wl (Fx.Lv (.int .i64 (1)) (Fx.x_assign rfl rfl) (Fx.Ln ?_)))))))))))))))
   exact Fx.jnN ⟨ax + bx - p1 - 1, 1, Sort.reverseRange dx ax bx, ((Sort.reverseRange_holds _ _ _ (by omega) (by omega)).1.trans hk1), (Sort.permIn_trans _ _ _ _ _ hP1 (Sort.reverseRange_holds _ _ _ (by omega) (by omega))), (by omega), h7, (h8.trans Fx.ic), (h9.trans Fx.ic), (h10.trans Fx.ic), h11, h12, (h13.trans Fx.ic), Fx.ic, Fx.ic, m7, b7⟩
  refine Fx.Lv (.bool false) (Fx.x_eqlF rfl rfl rfl c50) (Fx.Ln (Fx.sN (Fx.Wc (b := false) rfl (fun h => nomatch h) (fun _ => Fx.Wk ?_))))
  exact Fx.jnN ⟨p1, ht1, dx, hk1, hP1, (by omega), h7, (h8.trans Fx.ic), (h9.trans Fx.ic), (h10.trans Fx.ic), h11, h12, (h13.trans Fx.ic), Fx.ic, Fx.ic, m6, b6⟩
 rintro f3 w8 ⟨pv, hint, dy, hk2, hP2, hpv, h14, h15, h16, h17, h18, h19, h20, h21, h22, m8, b8⟩
 obtain ⟨hpv1, hpv2⟩ := hpv
 have hpv := And.intro hpv1 hpv2
 refine Fx.W.seqJ (fun f w_ => f 0 = .slice (some ⟨g, 0, none⟩) (n) (cap) ∧ f 1 = .int .i64 ((ax : Int)) ∧ f 2 = .int .i64 ((bx : Int)) ∧ f 3 = .int .i64 ((ly : Int)) ∧ f 8 = .bool wb ∧ f 9 = .bool wp ∧ f 10 = .int .i64 ((bx : Int) - (ax : Int)) ∧ f 11 = .int .i64 ((pv : Int)) ∧ Fx.Own w_ B 28 1 (.slice (some ⟨g, 0, none⟩) n cap) n (Fx.rv .u64 (gA dy)) ∧ Below B w w_) ?_ ?_
 ·refine Fx.Ws (Fx.Wl ?_)
  by_cases c61 : wb = true
  ·refine Fx.Lv (.bool true) (Fx.x_move rfl (h18.trans (congrArg Value.bool c61))) (Fx.Lv (.bool true) (Fx.x_move rfl rfl) ?_)
   by_cases c63 : wp = true
   ·refine Fx.Lv (.bool true) (Fx.x_move rfl (h19.trans (congrArg Value.bool c63))) (Fx.Lv (.bool true) (Fx.x_pickT rfl rfl rfl) (Fx.Lv (.bool true) (Fx.x_move rfl rfl) (Fx.Lv (.int .i64 (hint)) (Fx.x_move rfl h22) ?_)))
    by_cases c67 : hint = 1
    ·refine Fx.Lv (.bool true) (Fx.x_eqlT rfl rfl rfl c67) (Fx.Lv (.bool true) (Fx.x_pickT rfl rfl rfl) (Fx.Ln (Fx.sN (Fx.Wc (b := true) rfl (fun _ => Fx.Ws (Fx.Wl (Fx.Lv (.slice (some ⟨g, 0, none⟩) (n) (cap)) (Fx.x_move rfl h14) ?_))) (fun h => nomatch h)))))
     refine Fx.Lv (.int .i64 ((ax : Int))) (Fx.x_move rfl h15) (Fx.Lv (.int .i64 ((bx : Int))) (Fx.x_move rfl h16) (Fx.L.call (by rfl) (Fx.rC (args := [.slice (some ⟨g, 0, none⟩) (n) (cap), .int .i64 ((ax : Int)), .int .i64 ((bx : Int))]) rfl rfl Try.func29 rfl rfl) rfl ((s_pins ax bx B g n cap dy _ m8 (Nat.le_trans hB b8.size) hk2 hs (by omega) (by omega) h50).mono ?_)))
     rintro e9 w9 ⟨r1, he, hS1, m9, hb6⟩
     have b9 := b8.trans hb6
     rcases r1 with _ | _
     ·refine ⟨_, he, ?_⟩
      clear he
      refine Fx.Ln (Fx.sN (Fx.Wc (b := false) rfl (fun h => nomatch h) (fun _ => Fx.Wk ?_)))
      exact Fx.jnN ⟨h14, (h15.trans Fx.ic), (h16.trans Fx.ic), (h17.trans Fx.ic), h18, h19, (h20.trans Fx.ic), (h21.trans Fx.ic), m9, b9⟩
     refine ⟨_, he, ?_⟩
     clear he
     refine Fx.Ln (Fx.sN (Fx.Wc (b := true) rfl (fun _ => Fx.Wr (Fx.jnR ?_)) (fun h => nomatch h)))
     refine Fx.blkR (Fx.lpR (Fx.blkR (⟨.tuple #[], Fx.ret0 Try.results22, ?_⟩)))
     have hq := hF _ hP2 (hS1 rfl)
     exact ⟨_, rfl, hk2, hq.1, hq.2, m9, b9⟩
    refine Fx.Lv (.bool false) (Fx.x_eqlF rfl rfl rfl c67) (Fx.Lv (.bool false) (Fx.x_pickT rfl rfl rfl) (Fx.Ln (Fx.sN (Fx.Wc (b := false) rfl (fun h => nomatch h) (fun _ => Fx.Wk ?_)))))
    exact Fx.jnN ⟨h14, (h15.trans Fx.ic), (h16.trans Fx.ic), (h17.trans Fx.ic), h18, h19, (h20.trans Fx.ic), (h21.trans Fx.ic), m8, b8⟩
   rw [Bool.not_eq_true] at c63
   refine Fx.Lv (.bool false) (Fx.x_move rfl (h19.trans (congrArg Value.bool c63))) (Fx.Lv (.bool false) (Fx.x_pickT rfl rfl rfl) (Fx.Lv (.bool false) (Fx.x_move rfl rfl) (Fx.Lk (by rfl) rfl (Fx.Lk (by rfl) rfl (Fx.Lv (.bool false) (Fx.x_pickF rfl rfl rfl) (Fx.Ln (Fx.sN (Fx.Wc (b := false) rfl (fun h => nomatch h) (fun _ => Fx.Wk ?_)))))))))
   exact Fx.jnN ⟨h14, (h15.trans Fx.ic), (h16.trans Fx.ic), (h17.trans Fx.ic), h18, h19, (h20.trans Fx.ic), (h21.trans Fx.ic), m8, b8⟩
  rw [Bool.not_eq_true] at c61
  refine Fx.Lv (.bool false) (Fx.x_move rfl (h18.trans (congrArg Value.bool c61))) (Fx.Lv (.bool false) (Fx.x_move rfl rfl) (Fx.Lk (by rfl) rfl (Fx.Lv (.bool false) (Fx.x_pickF rfl rfl rfl) (Fx.Lv (.bool false) (Fx.x_move rfl rfl) (Fx.Lk (by rfl) rfl (Fx.Lk (by rfl) rfl (Fx.Lv (.bool false) (Fx.x_pickF rfl rfl rfl) (Fx.Ln (Fx.sN (Fx.Wc (b := false) rfl (fun h => nomatch h) (fun _ => Fx.Wk ?_)))))))))))
  exact Fx.jnN ⟨h14, (h15.trans Fx.ic), (h16.trans Fx.ic), (h17.trans Fx.ic), h18, h19, (h20.trans Fx.ic), (h21.trans Fx.ic), m8, b8⟩
 rintro f4 w10 ⟨h23, h24, h25, h26, h27, h28, h29, h30, m10, b10⟩
 refine Fx.Ws (Fx.Ws ?_)
 -- region 17 draws
 refine Fx.W.quiet (fun v1 => Below w10.heap.size w10 v1) (by kernel_rfl) (by kernel_rfl) (Below.refl _ _).drew ?_
 refine Fx.Qv (.int .i64 ((ax : Int))) (fun v1 hv1 => Fx.x_move rfl h24) ?_
 by_cases c74 : 0 < (ax : Int)
 ·refine Fx.Qv (.bool true) (fun v1 hv1 => Fx.x_gtrT rfl rfl rfl c74) (Fx.Qv (.bool true) (fun v1 hv1 => Fx.x_move rfl rfl) (Fx.Qv (.slice (some ⟨g, 0, none⟩) (n) (cap)) (fun v1 hv1 => Fx.x_move rfl h23) (Fx.Qv (.int .i64 ((ax : Int))) (fun v1 hv1 => Fx.x_move rfl h24) (Fx.Qv (.int .i64 ((ax : Int) - 1)) (fun v1 hv1 => Fx.x_sub rfl rfl rfl Fx.io) (Fx.Qv ((pf g (ax - 1))) (fun v1 hv1 => Fx.x_indexS rfl rfl rfl Try.underlying33 (s := 1) (by kernel_rfl) (by omega) (by omega) (by omega)) (Fx.Qv (.int .u64 ((gA dy) (ax - 1))) (fun v1 hv1 => Fx.x_load1 (x := Fx.rv .u64 (gA dy)) rfl rfl (by kernel_rfl) (m10.cel.below hv1 (by have := m10.lt; omega)) (i := ax - 1) (by omega) (by omega) rfl) (Fx.Qv (.slice (some ⟨g, 0, none⟩) (n) (cap)) (fun v1 hv1 => Fx.x_move rfl h23) (Fx.Qv (.int .i64 ((pv : Int))) (fun v1 hv1 => Fx.x_move rfl h30) (Fx.Qv ((pf g pv)) (fun v1 hv1 => Fx.x_indexS rfl rfl rfl Try.underlying33 (s := 1) (by kernel_rfl) (by omega) (by omega) (by omega)) (Fx.Qv (.int .u64 ((gA dy) pv)) (fun v1 hv1 => Fx.x_load1 (x := Fx.rv .u64 (gA dy)) rfl rfl (by kernel_rfl) (m10.cel.below hv1 (by have := m10.lt; omega)) (i := pv) (by omega) (by omega) rfl) ?_))))))))))
  by_cases c85 : (decide ((gA dy) (ax - 1) < (gA dy) pv)) = true
  ·refine Fx.Qt.call (v := .bool true) (by rfl) (fun v1 hv1 => Fx.rC (args := [.int .u64 ((gA dy) (ax - 1)), .int .u64 ((gA dy) pv)]) rfl rfl Try.func30 rfl rfl) rfl (fun v1 hv1 => (s_less ((gA dy) (ax - 1)) ((gA dy) pv) _).mono fun e v2 h => ⟨by rw [h.1, c85], by rw [h.2]; exact hv1⟩) ?_
   refine Fx.Qv (.bool false) (fun v1 hv1 => Fx.x_notF rfl rfl) (Fx.Qv (.bool false) (fun v1 hv1 => Fx.x_pickT rfl rfl rfl) (Fx.Qt.nil ?_))
   intro wb1 hbwb1
   have s1 : Fx.Stp w10.heap.size w10 wb1 := Fx.Sb hbwb1
   have m11 := m10.stpB s1 (Nat.ne_of_lt (m10.lt))
   have b11 := s1.below b10 (Nat.le_trans hB b10.size) (Nat.le_trans hB b10.size)
   refine Fx.sN (Fx.Wc (b := false) rfl (fun h => nomatch h) (fun _ => Fx.Wk (Fx.sN (Fx.Ws (Fx.Wl (Fx.Lv (.slice (some ⟨g, 0, none⟩) (n) (cap)) (Fx.x_move rfl h23) (Fx.Lv (.int .i64 ((ax : Int))) (Fx.x_move rfl h24) (Fx.Lv (.int .i64 ((bx : Int))) (Fx.x_move rfl h25) (Fx.Lv (.int .i64 ((pv : Int))) (Fx.x_move rfl h30) (Fx.L.call (by rfl) (Fx.rC (args := [.slice (some ⟨g, 0, none⟩) (n) (cap), .int .i64 ((ax : Int)), .int .i64 ((bx : Int)), .int .i64 ((pv : Int))]) rfl rfl Try.func32 rfl rfl) rfl ((s_pt ax bx pv B g n cap dy _ m11 (Nat.le_trans hB b11.size) hk2 hs (by omega) (by omega) (by omega)).mono ?_)))))))))))
   rintro e9 w11 ⟨mid1, ap1, dn2, he, hu2, hv2, hz2, m12, hb7⟩
   have b12 := b11.trans hb7
   have hx : Sort.partition Sort.ltInt dy ax bx pv = (mid1, (Sort.partition Sort.ltInt dy ax bx pv).2.1, dn2) := Prod.ext hu2 (Prod.ext rfl hv2)
   obtain ⟨r1, r2, r3, r4, r5, r6, r7⟩ := Sort.round_part Sort.swo_ltInt (Sort.partition_holds _) hpv.1 hpv.2 (by omega) (hBl.perm (by omega) hP2) hx
   clear hx
   refine ⟨_, he, ?_⟩
   clear he
   refine Fx.Lv (.tuple #[.int .i64 ((mid1 : Int)), .bool ap1]) (Fx.x_move rfl rfl) (Fx.Lv (.int .i64 ((mid1 : Int))) (Fx.x_extract rfl rfl rfl) (Fx.Lv (.bool ap1) (Fx.x_extract rfl rfl rfl) (Fx.Lv (.int .i64 ((mid1 : Int))) (Fx.x_assign rfl rfl) (Fx.Lv (.bool ap1) (Fx.x_assign rfl rfl) (Fx.Ln (Fx.sN (Fx.Ws (Fx.Wl (Fx.Lv (.bool ap1) (Fx.x_move rfl rfl) (Fx.Lv (.bool ap1) (Fx.x_assign rfl rfl) (Fx.Ln (Fx.sN (Fx.Ws (Fx.Wl (Fx.Lv (.int .i64 ((mid1 : Int))) (Fx.x_move rfl rfl) (Fx.Lv (.int .i64 ((ax : Int))) (Fx.x_move rfl h24) (Fx.Lv (.int .i64 ((mid1 : Int) - (ax : Int))) (Fx.x_sub rfl rfl rfl Fx.io) (Fx.Lv (.int .i64 ((bx : Int))) (Fx.x_move rfl h25) (Fx.Lv (.int .i64 ((mid1 : Int))) (Fx.x_move rfl rfl) (Fx.Lv (.int .i64 ((bx : Int) - (mid1 : Int))) (Fx.x_sub rfl rfl rfl Fx.io) (Fx.Lv (.int .i64 ((mid1 : Int) - (ax : Int))) (Fx.x_assign rfl rfl) (Fx.Lv (.int .i64 ((bx : Int) - (mid1 : Int))) (Fx.x_assign rfl rfl) (Fx.Ln (Fx.sN (Fx.Ws (Fx.Wl (Fx.Lv (.int .i64 ((bx : Int) - (ax : Int))) (Fx.x_move rfl h29) (Fx.Lv (.int .i64 (((bx - ax) / 8 : Nat))) (Fx.x_quo rfl rfl rfl (by omega) (Fx.i64e (by omega) (by rw [Int.tdiv_eq_ediv_of_nonneg (by omega)]; omega))) (Fx.Lv (.int .i64 (((bx - ax) / 8 : Nat))) (Fx.x_assign rfl rfl) (Fx.Ln (Fx.sN (Fx.Ws (Fx.Wl (Fx.Lv (.int .i64 ((mid1 : Int) - (ax : Int))) (Fx.x_move rfl rfl) (Fx.Lv (.int .i64 ((bx : Int) - (mid1 : Int))) (Fx.x_move rfl rfl) ?_)))))))))))))))))))))))))))))))))))
   by_cases c113 : ((mid1 : Int) - (ax : Int)) < ((bx : Int) - (mid1 : Int))
   ·refine Fx.Lv (.bool true) (Fx.x_lssT rfl rfl rfl c113) (Fx.Ln (Fx.sN (Fx.Wc (b := true) rfl (fun _ => Fx.Ws (Fx.Wl (Fx.Lv (.int .i64 ((mid1 : Int) - (ax : Int))) (Fx.x_move rfl rfl) ?_))) (fun h => nomatch h))))
    refine Fx.Lv (.int .i64 (((bx - ax) / 8 : Nat))) (Fx.x_move rfl rfl) (Fx.Lv (.bool (decide (((bx - ax) / 8 : Nat) ≤ ((mid1 : Int) - (ax : Int))))) (Fx.x_geq rfl rfl rfl) (Fx.Lv (.bool (decide (((bx - ax) / 8 : Nat) ≤ ((mid1 : Int) - (ax : Int))))) (Fx.x_assign rfl rfl) (Fx.Ln (Fx.sN (Fx.Ws (Fx.Wl (Fx.Lv (.slice (some ⟨g, 0, none⟩) (n) (cap)) (Fx.x_move rfl h23) (Fx.Lv (.int .i64 ((ax : Int))) (Fx.x_move rfl h24) (Fx.Lv (.int .i64 ((mid1 : Int))) (Fx.x_move rfl rfl) (Fx.Lv (.int .i64 ((ly : Int))) (Fx.x_move rfl h26) (Fx.L.call (by rfl) (Fx.rC (args := [.slice (some ⟨g, 0, none⟩) (n) (cap), .int .i64 ((ax : Int)), .int .i64 ((mid1 : Int)), .int .i64 ((ly : Int))]) rfl rfl Try.func22 rfl rfl) rfl ((ih _ _ _ ax mid1 ly B g n cap dn2 _ m12 (Nat.le_trans hB b12.size) hz2 hs h50 (by omega) (by omega) (by omega) r4 (by omega) (by omega) (by omega) (by omega)).mono ?_))))))))))))
    rintro e9 w12 ⟨dr, he, hz9, hP9, hS9, m13, hb8⟩
    refine ⟨_, he, ?_⟩
    clear he
    have b13 := b12.trans hb8
    obtain ⟨q1, q2⟩ := r6 _ hP9 hS9
    refine Fx.Ln (Fx.sN (Fx.Wl (Fx.Lv (.int .i64 ((mid1 : Int))) (Fx.x_move rfl rfl) (Fx.Lv (.int .i64 ((mid1 : Int) + 1)) (Fx.x_add rfl rfl rfl Fx.io) (Fx.Lv (.int .i64 ((mid1 : Int) + 1)) (Fx.x_assign rfl rfl) (Fx.Ln (Fx.blkN (Fx.lpN ⟨bx - (mid1 + 1), (by omega), mid1 + 1, bx, ly, dr, (decide (((bx - ax) / 8 : Nat) ≤ ((mid1 : Int) - (ax : Int)))), (ap1), hz9, q1, (fun R hR hS => hF R (Sort.permIn_trans _ _ _ _ _ hP2 (q2 R hR hS).1) (q2 R hR hS).2), (by omega), rfl, h23, Fx.ic, (h25.trans Fx.ic), (h26.trans Fx.ic), (by rfl), (by rfl), m13, b13⟩ (by decide)))))))))
   refine Fx.Lv (.bool false) (Fx.x_lssF rfl rfl rfl c113) (Fx.Ln (Fx.sN (Fx.Wc (b := false) rfl (fun h => nomatch h) (fun _ => Fx.Ws (Fx.Wl (Fx.Lv (.int .i64 ((bx : Int) - (mid1 : Int))) (Fx.x_move rfl rfl) (Fx.Lv (.int .i64 (((bx - ax) / 8 : Nat))) (Fx.x_move rfl rfl) (Fx.Lv (.bool (decide (((bx - ax) / 8 : Nat) ≤ ((bx : Int) - (mid1 : Int))))) (Fx.x_geq rfl rfl rfl) (Fx.Lv (.bool (decide (((bx - ax) / 8 : Nat) ≤ ((bx : Int) - (mid1 : Int))))) (Fx.x_assign rfl rfl) (Fx.Ln (Fx.sN (Fx.Ws (Fx.Wl (Fx.Lv (.slice (some ⟨g, 0, none⟩) (n) (cap)) (Fx.x_move rfl h23) (Fx.Lv (.int .i64 ((mid1 : Int))) (Fx.x_move rfl rfl) (Fx.Lv (.int .i64 ((mid1 : Int) + 1)) (Fx.x_add rfl rfl rfl Fx.io) (Fx.Lv (.int .i64 ((bx : Int))) (Fx.x_move rfl h25) (Fx.Lv (.int .i64 ((ly : Int))) (Fx.x_move rfl h26) (Fx.L.call (by rfl) (Fx.rC (args := [.slice (some ⟨g, 0, none⟩) (n) (cap), .int .i64 ((mid1 : Int) + 1), .int .i64 ((bx : Int)), .int .i64 ((ly : Int))]) rfl rfl Try.func22 rfl rfl) rfl ((ih _ _ _ (mid1 + 1) bx ly B g n cap dn2 _ m12 (Nat.le_trans hB b12.size) hz2 hs h50 (by omega) (by omega) (by omega) r5 (by omega) (by omega) (by omega) (by omega)).mono ?_))))))))))))))))))))
   rintro e9 w13 ⟨dr, he, hz9, hP9, hS9, m14, hb9⟩
   refine ⟨_, he, ?_⟩
   clear he
   have b14 := b12.trans hb9
   obtain ⟨q1, q2⟩ := r7 _ hP9 hS9
   refine Fx.Ln (Fx.sN (Fx.Wl (Fx.Lv (.int .i64 ((mid1 : Int))) (Fx.x_move rfl rfl) (Fx.Lv (.int .i64 ((mid1 : Int))) (Fx.x_assign rfl rfl) (Fx.Ln (Fx.blkN (Fx.lpN ⟨mid1 - ax, (by omega), ax, mid1, ly, dr, (decide (((bx - ax) / 8 : Nat) ≤ ((bx : Int) - (mid1 : Int)))), (ap1), hz9, q1, (fun R hR hS => hF R (Sort.permIn_trans _ _ _ _ _ hP2 (q2 R hR hS).1) (q2 R hR hS).2), (by omega), rfl, h23, (h24.trans Fx.ic), Fx.ic, (h26.trans Fx.ic), (by rfl), (by rfl), m14, b14⟩ (by decide))))))))
  rw [Bool.not_eq_true] at c85
  refine Fx.Qt.call (v := .bool false) (by rfl) (fun v1 hv1 => Fx.rC (args := [.int .u64 ((gA dy) (ax - 1)), .int .u64 ((gA dy) pv)]) rfl rfl Try.func30 rfl rfl) rfl (fun v1 hv1 => (s_less ((gA dy) (ax - 1)) ((gA dy) pv) _).mono fun e v2 h => ⟨by rw [h.1, c85], by rw [h.2]; exact hv1⟩) ?_
  refine Fx.Qv (.bool true) (fun v1 hv1 => Fx.x_notT rfl rfl) (Fx.Qv (.bool true) (fun v1 hv1 => Fx.x_pickT rfl rfl rfl) (Fx.Qt.nil ?_))
  intro wb2 hbwb2
  have s2 : Fx.Stp w10.heap.size w10 wb2 := Fx.Sb hbwb2
  have m15 := m10.stpB s2 (Nat.ne_of_lt (m10.lt))
  have b15 := s2.below b10 (Nat.le_trans hB b10.size) (Nat.le_trans hB b10.size)
  refine Fx.sN (Fx.Wc (b := true) rfl (fun _ => Fx.Ws (Fx.Wl (Fx.Lv (.slice (some ⟨g, 0, none⟩) (n) (cap)) (Fx.x_move rfl h23) ?_))) (fun h => nomatch h))
  refine Fx.Lv (.int .i64 ((ax : Int))) (Fx.x_move rfl h24) (Fx.Lv (.int .i64 ((bx : Int))) (Fx.x_move rfl h25) (Fx.Lv (.int .i64 ((pv : Int))) (Fx.x_move rfl h30) (Fx.L.call (by rfl) (Fx.rC (args := [.slice (some ⟨g, 0, none⟩) (n) (cap), .int .i64 ((ax : Int)), .int .i64 ((bx : Int)), .int .i64 ((pv : Int))]) rfl rfl Try.func31 rfl rfl) rfl ((s_pe ax bx pv B g n cap dy _ m15 (Nat.le_trans hB b15.size) hk2 hs (by omega) (by omega) (by omega)).mono ?_))))
  rintro e9 w14 ⟨mid2, dn3, he, hx1, hz3, m16, hb10⟩
  have b16 := b15.trans hb10
  obtain ⟨r1, r2, r3, r4, r5⟩ := Sort.round_eq Sort.swo_ltInt (Sort.partitionEqual_holds _) (by omega) hpv.1 hpv.2 (by omega) (hBl.perm (by omega) hP2) (lt_no (of_decide_eq_false c85)) hx1
  refine ⟨_, he, ?_⟩
  clear he
  refine Fx.Lv (.int .i64 ((mid2 : Int))) (Fx.x_assign rfl rfl) (Fx.Ln (Fx.sN (Fx.Ws (Fx.Wl (Fx.Lv (.int .i64 ((mid2 : Int))) (Fx.x_move rfl rfl) (Fx.Lv (.int .i64 ((mid2 : Int))) (Fx.x_assign rfl rfl) (Fx.Ln (Fx.sN (Fx.W.exit (Fx.seqX (Fx.blkX (Fx.lpN ⟨bx - mid2, (by omega), mid2, bx, ly, dn3, (wb), (wp), hz3, r4, (fun R hR hS => hF R (Sort.permIn_trans _ _ _ _ _ hP2 (r5 R hR hS).1) (r5 R hR hS).2), (by omega), rfl, h23, Fx.ic, (h25.trans Fx.ic), (h26.trans Fx.ic), h27, h28, m16, b16⟩ (by decide)))))))))))))
 refine Fx.Qv (.bool false) (fun v1 hv1 => Fx.x_gtrF rfl rfl rfl c74) (Fx.Qv (.bool false) (fun v1 hv1 => Fx.x_move rfl rfl) (Fx.Qs (by rfl) rfl (Fx.Qs (by rfl) rfl (Fx.Qs (by rfl) rfl (Fx.Qs (by rfl) rfl (Fx.Qs (by rfl) rfl (Fx.Qs (by rfl) rfl (Fx.Qs (by rfl) rfl (Fx.Qs (by rfl) rfl (Fx.Qs (by rfl) rfl (Fx.Qs (by rfl) rfl (Fx.Qs (by rfl) rfl (Fx.Qv (.bool false) (fun v1 hv1 => Fx.x_pickF rfl rfl rfl) (Fx.Qt.nil ?_))))))))))))))
 intro wb3 hbwb3
 have s3 : Fx.Stp w10.heap.size w10 wb3 := Fx.Sb hbwb3
 have m17 := m10.stpB s3 (Nat.ne_of_lt (m10.lt))
 have b17 := s3.below b10 (Nat.le_trans hB b10.size) (Nat.le_trans hB b10.size)
 refine Fx.sN (Fx.Wc (b := false) rfl (fun h => nomatch h) (fun _ => Fx.Wk (Fx.sN (Fx.Ws (Fx.Wl (Fx.Lv (.slice (some ⟨g, 0, none⟩) (n) (cap)) (Fx.x_move rfl h23) (Fx.Lv (.int .i64 ((ax : Int))) (Fx.x_move rfl h24) (Fx.Lv (.int .i64 ((bx : Int))) (Fx.x_move rfl h25) (Fx.Lv (.int .i64 ((pv : Int))) (Fx.x_move rfl h30) (Fx.L.call (by rfl) (Fx.rC (args := [.slice (some ⟨g, 0, none⟩) (n) (cap), .int .i64 ((ax : Int)), .int .i64 ((bx : Int)), .int .i64 ((pv : Int))]) rfl rfl Try.func32 rfl rfl) rfl ((s_pt ax bx pv B g n cap dy _ m17 (Nat.le_trans hB b17.size) hk2 hs (by omega) (by omega) (by omega)).mono ?_)))))))))))
 rintro e9 w15 ⟨mid3, ap2, dn4, he, hu3, hv3, hz4, m18, hb11⟩
 have b18 := b17.trans hb11
 have hx : Sort.partition Sort.ltInt dy ax bx pv = (mid3, (Sort.partition Sort.ltInt dy ax bx pv).2.1, dn4) := Prod.ext hu3 (Prod.ext rfl hv3)
 obtain ⟨r1, r2, r3, r4, r5, r6, r7⟩ := Sort.round_part Sort.swo_ltInt (Sort.partition_holds _) hpv.1 hpv.2 (by omega) (hBl.perm (by omega) hP2) hx
 clear hx
 refine ⟨_, he, ?_⟩
 clear he
 refine Fx.Lv (.tuple #[.int .i64 ((mid3 : Int)), .bool ap2]) (Fx.x_move rfl rfl) (Fx.Lv (.int .i64 ((mid3 : Int))) (Fx.x_extract rfl rfl rfl) (Fx.Lv (.bool ap2) (Fx.x_extract rfl rfl rfl) (Fx.Lv (.int .i64 ((mid3 : Int))) (Fx.x_assign rfl rfl) (Fx.Lv (.bool ap2) (Fx.x_assign rfl rfl) (Fx.Ln (Fx.sN (Fx.Ws (Fx.Wl (Fx.Lv (.bool ap2) (Fx.x_move rfl rfl) (Fx.Lv (.bool ap2) (Fx.x_assign rfl rfl) (Fx.Ln (Fx.sN (Fx.Ws (Fx.Wl (Fx.Lv (.int .i64 ((mid3 : Int))) (Fx.x_move rfl rfl) (Fx.Lv (.int .i64 ((ax : Int))) (Fx.x_move rfl h24) (Fx.Lv (.int .i64 ((mid3 : Int) - (ax : Int))) (Fx.x_sub rfl rfl rfl Fx.io) (Fx.Lv (.int .i64 ((bx : Int))) (Fx.x_move rfl h25) (Fx.Lv (.int .i64 ((mid3 : Int))) (Fx.x_move rfl rfl) (Fx.Lv (.int .i64 ((bx : Int) - (mid3 : Int))) (Fx.x_sub rfl rfl rfl Fx.io) (Fx.Lv (.int .i64 ((mid3 : Int) - (ax : Int))) (Fx.x_assign rfl rfl) (Fx.Lv (.int .i64 ((bx : Int) - (mid3 : Int))) (Fx.x_assign rfl rfl) (Fx.Ln (Fx.sN (Fx.Ws (Fx.Wl (Fx.Lv (.int .i64 ((bx : Int) - (ax : Int))) (Fx.x_move rfl h29) (Fx.Lv (.int .i64 (((bx - ax) / 8 : Nat))) (Fx.x_quo rfl rfl rfl (by omega) (Fx.i64e (by omega) (by rw [Int.tdiv_eq_ediv_of_nonneg (by omega)]; omega))) (Fx.Lv (.int .i64 (((bx - ax) / 8 : Nat))) (Fx.x_assign rfl rfl) (Fx.Ln (Fx.sN (Fx.Ws (Fx.Wl (Fx.Lv (.int .i64 ((mid3 : Int) - (ax : Int))) (Fx.x_move rfl rfl) (Fx.Lv (.int .i64 ((bx : Int) - (mid3 : Int))) (Fx.x_move rfl rfl) ?_)))))))))))))))))))))))))))))))))))
 by_cases c113 : ((mid3 : Int) - (ax : Int)) < ((bx : Int) - (mid3 : Int))
 ·refine Fx.Lv (.bool true) (Fx.x_lssT rfl rfl rfl c113) (Fx.Ln (Fx.sN (Fx.Wc (b := true) rfl (fun _ => Fx.Ws (Fx.Wl (Fx.Lv (.int .i64 ((mid3 : Int) - (ax : Int))) (Fx.x_move rfl rfl) ?_))) (fun h => nomatch h))))
  refine Fx.Lv (.int .i64 (((bx - ax) / 8 : Nat))) (Fx.x_move rfl rfl) (Fx.Lv (.bool (decide (((bx - ax) / 8 : Nat) ≤ ((mid3 : Int) - (ax : Int))))) (Fx.x_geq rfl rfl rfl) (Fx.Lv (.bool (decide (((bx - ax) / 8 : Nat) ≤ ((mid3 : Int) - (ax : Int))))) (Fx.x_assign rfl rfl) (Fx.Ln (Fx.sN (Fx.Ws (Fx.Wl (Fx.Lv (.slice (some ⟨g, 0, none⟩) (n) (cap)) (Fx.x_move rfl h23) (Fx.Lv (.int .i64 ((ax : Int))) (Fx.x_move rfl h24) (Fx.Lv (.int .i64 ((mid3 : Int))) (Fx.x_move rfl rfl) (Fx.Lv (.int .i64 ((ly : Int))) (Fx.x_move rfl h26) (Fx.L.call (by rfl) (Fx.rC (args := [.slice (some ⟨g, 0, none⟩) (n) (cap), .int .i64 ((ax : Int)), .int .i64 ((mid3 : Int)), .int .i64 ((ly : Int))]) rfl rfl Try.func22 rfl rfl) rfl ((ih _ _ _ ax mid3 ly B g n cap dn4 _ m18 (Nat.le_trans hB b18.size) hz4 hs h50 (by omega) (by omega) (by omega) r4 (by omega) (by omega) (by omega) (by omega)).mono ?_))))))))))))
  rintro e9 w16 ⟨dr, he, hz9, hP9, hS9, m19, hb12⟩
  refine ⟨_, he, ?_⟩
  clear he
  have b19 := b18.trans hb12
  obtain ⟨q1, q2⟩ := r6 _ hP9 hS9
  refine Fx.Ln (Fx.sN (Fx.Wl (Fx.Lv (.int .i64 ((mid3 : Int))) (Fx.x_move rfl rfl) (Fx.Lv (.int .i64 ((mid3 : Int) + 1)) (Fx.x_add rfl rfl rfl Fx.io) (Fx.Lv (.int .i64 ((mid3 : Int) + 1)) (Fx.x_assign rfl rfl) (Fx.Ln (Fx.blkN (Fx.lpN ⟨bx - (mid3 + 1), (by omega), mid3 + 1, bx, ly, dr, (decide (((bx - ax) / 8 : Nat) ≤ ((mid3 : Int) - (ax : Int)))), (ap2), hz9, q1, (fun R hR hS => hF R (Sort.permIn_trans _ _ _ _ _ hP2 (q2 R hR hS).1) (q2 R hR hS).2), (by omega), rfl, h23, Fx.ic, (h25.trans Fx.ic), (h26.trans Fx.ic), (by rfl), (by rfl), m19, b19⟩ (by decide)))))))))
 refine Fx.Lv (.bool false) (Fx.x_lssF rfl rfl rfl c113) (Fx.Ln (Fx.sN (Fx.Wc (b := false) rfl (fun h => nomatch h) (fun _ => Fx.Ws (Fx.Wl (Fx.Lv (.int .i64 ((bx : Int) - (mid3 : Int))) (Fx.x_move rfl rfl) (Fx.Lv (.int .i64 (((bx - ax) / 8 : Nat))) (Fx.x_move rfl rfl) (Fx.Lv (.bool (decide (((bx - ax) / 8 : Nat) ≤ ((bx : Int) - (mid3 : Int))))) (Fx.x_geq rfl rfl rfl) (Fx.Lv (.bool (decide (((bx - ax) / 8 : Nat) ≤ ((bx : Int) - (mid3 : Int))))) (Fx.x_assign rfl rfl) (Fx.Ln (Fx.sN (Fx.Ws (Fx.Wl (Fx.Lv (.slice (some ⟨g, 0, none⟩) (n) (cap)) (Fx.x_move rfl h23) (Fx.Lv (.int .i64 ((mid3 : Int))) (Fx.x_move rfl rfl) (Fx.Lv (.int .i64 ((mid3 : Int) + 1)) (Fx.x_add rfl rfl rfl Fx.io) (Fx.Lv (.int .i64 ((bx : Int))) (Fx.x_move rfl h25) (Fx.Lv (.int .i64 ((ly : Int))) (Fx.x_move rfl h26) (Fx.L.call (by rfl) (Fx.rC (args := [.slice (some ⟨g, 0, none⟩) (n) (cap), .int .i64 ((mid3 : Int) + 1), .int .i64 ((bx : Int)), .int .i64 ((ly : Int))]) rfl rfl Try.func22 rfl rfl) rfl ((ih _ _ _ (mid3 + 1) bx ly B g n cap dn4 _ m18 (Nat.le_trans hB b18.size) hz4 hs h50 (by omega) (by omega) (by omega) r5 (by omega) (by omega) (by omega) (by omega)).mono ?_))))))))))))))))))))
 rintro e9 w17 ⟨dr, he, hz9, hP9, hS9, m20, hb13⟩
 refine ⟨_, he, ?_⟩
 clear he
 have b20 := b18.trans hb13
 obtain ⟨q1, q2⟩ := r7 _ hP9 hS9
 refine Fx.Ln (Fx.sN (Fx.Wl (Fx.Lv (.int .i64 ((mid3 : Int))) (Fx.x_move rfl rfl) (Fx.Lv (.int .i64 ((mid3 : Int))) (Fx.x_assign rfl rfl) (Fx.Ln (Fx.blkN (Fx.lpN ⟨mid3 - ax, (by omega), ax, mid3, ly, dr, (decide (((bx - ax) / 8 : Nat) ≤ ((bx : Int) - (mid3 : Int)))), (ap2), hz9, q1, (fun R hR hS => hF R (Sort.permIn_trans _ _ _ _ _ hP2 (q2 R hR hS).1) (q2 R hR hS).2), (by omega), rfl, h23, (h24.trans Fx.ic), Fx.ic, (h26.trans Fx.ic), (by rfl), (by rfl), m20, b20⟩ (by decide))))))))
end Go.Proofs.Ytahbiajdgealnaa
namespace Go.Proofs.Ytahbiajdgealnaa
open Go.RowKit
open Rt
set_option maxRecDepth 10000
theorem s_pdq : ∀ m, PdqOk m
  | 0 => by
    intro aI bI lI a b lim B g n cap d w h hB hn hs h50 hl hab hb hBel e1 e2 e3 hm
    omega
  | m + 1 => by
    intro aI bI lI a b lim B g n cap d w h hB hn hs h50 hl hab hb hBel e1 e2 e3 hm
    subst e1 e2 e3
    exact s_pdqS m (s_pdq m) a b lim B g n cap d w h hB hn hs h50 hl hab hb hBel hm
theorem s_sort1 (B g n cap : Nat) (d : Array Int) (w : World) (h : Fx.Own w B 28 1 (.slice (some ⟨g, 0, none⟩) n cap) n (Fx.rv .u64 (gA d))) (hB : B ≤ w.heap.size) (hn : d.size = n) (hs : n ≤ 1000) (h50 : n < 50) :
    Calls Try.prog 19 #[.slice (some ⟨g, 0, none⟩) (n) (cap)] w fun e w' => ∃ d2 : Array Int, e = .returned (.tuple #[]) ∧ d2.size = n ∧ Sort.PermIn 0 n d d2 ∧ Sort.SortedIn Sort.ltInt 0 n d2 ∧ Fx.Own w' B 28 1 (.slice (some ⟨g, 0, none⟩) n cap) n (Fx.rv .u64 (gA d2)) ∧ Below B w w' := by
 have hbl := bl_le (show n < 64 by omega)
 refine Fx.enter Try.func19 rfl (n := 11) rfl (by rfl) ?_
 refine Fx.Ws (Fx.Wl (Fx.Lv (.slice (some ⟨g, 0, none⟩) (n) (cap)) (Fx.x_move rfl rfl) (Fx.Lv (.int .i64 ((n : Int))) (Fx.x_len rfl rfl rfl (by kernel_rfl)) (Fx.Lv (.int .i64 ((n : Int))) (Fx.x_assign rfl rfl) (Fx.Ln (Fx.sN (Fx.Wl (Fx.Lv (.slice (some ⟨g, 0, none⟩) (n) (cap)) (Fx.x_move rfl rfl) (Fx.Lv (.int .i64 ((n : Int))) (Fx.x_move rfl rfl) (Fx.Lv (.int .i64 ((n : Int))) (Fx.x_move rfl rfl) (Fx.Lv (.int .u64 ((n : Int))) (Fx.x_conv rfl rfl (by kernel_rfl) Try.underlying49 (Fx.u64e (by omega) rfl)) (Fx.L.call (by rfl) (Fx.rC (args := [.int .u64 ((n : Int))]) rfl rfl Try.func23 rfl rfl) rfl ((s_len n _ (by omega)).mono ?_)))))))))))))
 rintro e v1 ⟨he, hv1⟩
 subst v1
 refine ⟨.int .i64 ((Sort.bitsLen n : Int)), by rw [he], ?_⟩
 clear he
 refine Fx.L.call (by rfl) (Fx.rC (args := [.slice (some ⟨g, 0, none⟩) (n) (cap), .int .i64 (0), .int .i64 ((n : Int)), .int .i64 ((Sort.bitsLen n : Int))]) rfl rfl Try.func22 rfl rfl) rfl ((s_pdq (n + 1) _ _ _ 0 n (Sort.bitsLen n) B g n cap d _ h (Nat.le_trans hB (Below.refl B w).size) hn hs h50 (by omega) (by omega) (by omega) (.inl rfl) rfl rfl rfl (by omega)).mono ?_)
 rintro e9 w1 ⟨dr, he, hz9, hP9, hS9, m1, hb1⟩
 refine ⟨_, he, ?_⟩
 clear he
 have b1 := (Below.refl B w).trans hb1
 refine Fx.Ln (⟨.tuple #[], Fx.ret0 Try.results19, ?_⟩)
 exact ⟨dr, rfl, hz9, hP9, hS9, m1, b1⟩
theorem s_ins0 (w : World) :
    Calls Try.prog 24 #[.slice none 0 0, .int .i64 (0), .int .i64 (0)] w fun e w' => e = .returned (.tuple #[]) ∧ Below w.heap.size w w' := by
 refine Fx.enter Try.func24 rfl (n := 49) rfl (by rfl) ?_
 refine Fx.Ws (Fx.Wl (Fx.Lv (.int .i64 (0)) (Fx.x_move rfl rfl) (Fx.Lv (.int .i64 (1)) (Fx.x_add rfl rfl rfl Fx.io) (Fx.Lv (.int .i64 (1)) (Fx.x_assign rfl rfl) (Fx.Ln (Fx.sN (Fx.W.block (Fx.W.loop (fun f w_ => f 1 = .int .i64 (0) ∧ f 2 = .int .i64 (0) ∧ f 6 = .int .i64 (1) ∧ Below w.heap.size w w_) (fun f _ => 0) ⟨Fx.ic, Fx.ic, Fx.ic, (Below.refl w.heap.size w)⟩ ?_))))))))
 rintro f1 w1 ⟨h1, h2, h3, b1⟩
 refine Fx.Ws (Fx.Ws (Fx.Wl (Fx.Lv (.int .i64 (1)) (Fx.x_move rfl h3) (Fx.Lv (.int .i64 (0)) (Fx.x_move rfl h2) (Fx.Lv (.bool false) (Fx.x_lssF rfl rfl rfl (by omega)) (Fx.Ln (Fx.sN (Fx.Wc (b := false) rfl (fun h => nomatch h) (fun _ => Fx.W.exit (Fx.seqX (Fx.lpX (Fx.blkX (⟨.tuple #[], Fx.ret0 Try.results24, ?_⟩)))))))))))))
 exact ⟨rfl, b1⟩
theorem s_pdq0 (w : World) :
    Calls Try.prog 22 #[.slice none 0 0, .int .i64 (0), .int .i64 (0), .int .i64 (0)] w fun e w' => e = .returned (.tuple #[]) ∧ Below w.heap.size w w' := by
 refine Fx.enter Try.func22 rfl (n := 134) rfl (by rfl) ?_
 refine Fx.Ws (Fx.Wl (Fx.Lv (.bool true) (Fx.x_assign rfl rfl) (Fx.Ln (Fx.sN (Fx.Ws (Fx.Wl (Fx.Lv (.bool true) (Fx.x_assign rfl rfl) (Fx.Ln (Fx.sN (Fx.W.block (Fx.W.loop (fun f w_ => f 0 = .slice none 0 0 ∧ f 1 = .int .i64 (0) ∧ f 2 = .int .i64 (0) ∧ Below w.heap.size w w_) (fun f _ => 0) ⟨(by rfl), Fx.ic, Fx.ic, (Below.refl w.heap.size w)⟩ ?_)))))))))))
 rintro f1 w1 ⟨h1, h2, h3, b1⟩
 refine Fx.W.block (Fx.Ws (Fx.Wl (Fx.Lv (.int .i64 (0)) (Fx.x_move rfl h3) (Fx.Lv (.int .i64 (0)) (Fx.x_move rfl h2) (Fx.Lv (.int .i64 (0)) (Fx.x_sub rfl rfl rfl Fx.io) (Fx.Lv (.int .i64 (0)) (Fx.x_assign rfl rfl) (Fx.Ln (Fx.sN (Fx.Ws (Fx.Ws (Fx.Wl (Fx.Lv (.int .i64 (0)) (Fx.x_move rfl rfl) (Fx.Lv (.bool true) (Fx.x_leqT rfl rfl rfl (by omega)) (Fx.Ln (Fx.sN (Fx.Wc (b := true) rfl (fun _ => Fx.Ws (Fx.Wl (Fx.Lv (.slice none 0 0) (Fx.x_move rfl h1) ?_))) (fun h => nomatch h)))))))))))))))))
 refine Fx.Lv (.int .i64 (0)) (Fx.x_move rfl h2) (Fx.Lv (.int .i64 (0)) (Fx.x_move rfl h3) (Fx.L.call (by rfl) (Fx.rC (args := [.slice none 0 0, .int .i64 (0), .int .i64 (0)]) rfl rfl Try.func24 rfl rfl) rfl ((s_ins0 _).mono ?_)))
 rintro e w2 ⟨he, hb1⟩
 refine ⟨.tuple #[], by rw [he], ?_⟩
 clear he
 have s1 := Fx.Sb hb1
 have b2 := s1.below b1 b1.size b1.size
 refine Fx.Ln (Fx.sN (Fx.Wr (Fx.sR (Fx.blkR (Fx.lpR (Fx.blkR (⟨.tuple #[], Fx.ret0 Try.results22, ?_⟩)))))))
 exact ⟨rfl, b2⟩
theorem s_len0 (w : World) : Calls Try.prog 23 #[.int .u64 0] w fun e w' => e = .returned (.int .i64 0) ∧ w' = w := s_len 0 w (by omega)
theorem s_sort0 (w : World) :
    Calls Try.prog 19 #[.slice none 0 0] w fun e w' => e = .returned (.tuple #[]) ∧ Below w.heap.size w w' := by
 refine Fx.enter Try.func19 rfl (n := 11) rfl (by rfl) ?_
 refine Fx.Ws (Fx.Wl (Fx.Lv (.slice none 0 0) (Fx.x_move rfl rfl) (Fx.Lv (.int .i64 (0)) (Fx.x_len rfl rfl rfl (by kernel_rfl)) (Fx.Lv (.int .i64 (0)) (Fx.x_assign rfl rfl) (Fx.Ln (Fx.sN (Fx.Wl (Fx.Lv (.slice none 0 0) (Fx.x_move rfl rfl) (Fx.Lv (.int .i64 (0)) (Fx.x_move rfl rfl) (Fx.Lv (.int .i64 (0)) (Fx.x_move rfl rfl) (Fx.Lv (.int .u64 (0)) (Fx.x_conv rfl rfl (by kernel_rfl) Try.underlying49 (Fx.u64e (by omega) rfl)) (Fx.L.call (by rfl) (Fx.rC (args := [.int .u64 (0)]) rfl rfl Try.func23 rfl rfl) rfl ((s_len0 _).mono ?_)))))))))))))
 rintro e v1 ⟨he, hv1⟩
 subst v1
 refine ⟨.int .i64 (0), by rw [he], ?_⟩
 clear he
 refine Fx.L.call (by rfl) (Fx.rC (args := [.slice none 0 0, .int .i64 (0), .int .i64 (0), .int .i64 (0)]) rfl rfl Try.func22 rfl rfl) rfl ((s_pdq0 _).mono ?_)
 rintro e w1 ⟨he, hb1⟩
 refine ⟨.tuple #[], by rw [he], ?_⟩
 clear he
 have s1 := Fx.Sb hb1
 have b1 := s1.below (Below.refl w.heap.size w) (Below.refl w.heap.size w).size (Below.refl w.heap.size w).size
 refine Fx.Ln (⟨.tuple #[], Fx.ret0 Try.results19, ?_⟩)
 exact ⟨rfl, b1⟩
theorem s_sort {w : World} {B n cap : Nat} {a : Option Addr} {d : Array Int} (h : Fx.Own w B 28 1 (.slice a n cap) n (Fx.rv .u64 (gA d))) (hB : B ≤ w.heap.size) (hn : d.size = n) (h50 : n < 50) :
    Calls Try.prog 19 #[.slice a n cap] w fun e w' => ∃ d2 : Array Int, e = .returned (.tuple #[]) ∧ d2.size = n ∧ Sort.PermIn 0 n d d2 ∧ Sort.SortedIn Sort.ltInt 0 n d2 ∧ Fx.Own w' B 28 1 (.slice a n cap) n (Fx.rv .u64 (gA d2)) ∧ Below B w w' := by
  rcases h.2 with ⟨h1, h2⟩ | ⟨g, c2, cur, h1, _⟩
  · subst h2
    cases h1
    exact (s_sort0 w).mono fun e w' ⟨h3, h4⟩ => ⟨d, h3, hn, Sort.permIn_refl _ _ _, fun i j _ h5 h6 => by omega, Fx.Own.nil _ _ _ _ _, h4.mono hB⟩
  simp only [Value.slice.injEq] at h1
  obtain ⟨rfl, _, rfl⟩ := h1
  exact s_sort1 B g n cap d w h hB hn (by omega) h50
end Go.Proofs.Ytahbiajdgealnaa
namespace Go.Proofs.Ytahbiajdgealnaa
open Go.RowKit Go
set_option linter.unusedVariables false
namespace Rt
def dT (x : Nat → Int) (τ : Nat → Nat) (m : Nat) : Array Int := ((List.range m).map fun q => x (τ q)).toArray
section
variable {n m kk : Nat} {x : Nat → Int} {Q : Int → Prop} {S : Nat → Bool} {τ : Nat → Nat}
theorem dT_size : (dT x τ m).size = m := by unfold dT; simp
theorem dT_get {q : Nat} (hq : q < m) : gA (dT x τ m) q = x (τ q) := by
  unfold gA dT
  rw [getElem!_pos _ q (by simpa using hq)]; simp
theorem dT_rv : ∀ j, j < m * 1 → Value.int .u64 (x (τ j)) = Fx.rv .u64 (gA (dT x τ m)) j := fun j hj => by
  show _ = Value.int .u64 (gA (dT x τ m) j)
  rw [dT_get (by omega)]
theorem gA_lsU {d : Array Int} : ∀ j, j < d.size * 1 → Fx.rv .u64 (gA d) j = lsU d.toList j := fun j hj => by
  show Value.int .u64 d[j]! = Value.int .u64 (d.toList.getD j 0)
  rw [getElem!_pos d j (by omega), List.getD_eq_getElem?_getD, List.getElem?_eq_getElem (by simpa using (show j < d.size by omega))]
  simp
theorem those_fin {d2 : Array Int} (h : ThS n (fun i => Q (x i)) S m τ kk) (hall : ∀ i, i < n → S i = true) (hinj : ∀ a b, a < n → b < n → x a = x b → a = b)
    (hp : Sort.PermIn 0 m (dT x τ m) d2) (hs : Sort.SortedIn Sort.ltInt 0 m d2) (hz : d2.size = m) : d2.toList.Pairwise (· < ·) ∧ ∀ k, k ∈ d2.toList ↔ (hasK x n k = true ∧ Q k) := by
  have hperm : d2.toList.Perm ((List.range m).map fun q => x (τ q)) := by
    have h3 := hp.2.2
    have e1 : d2.extract 0 m = d2 := by rw [← hz]; simp
    have e2 : ∀ d : Array Int, d.size = m → d.extract 0 m = d := fun d hd => by rw [← hd]; simp
    rw [e1, e2 _ dT_size] at h3
    exact h3
  have hnd : d2.toList.Nodup := by
    refine (hperm.nodup_iff).2 ?_
    rw [List.Nodup, List.pairwise_iff_getElem]
    intro i j hi hj hij
    simp only [List.getElem_map, List.getElem_range]
    simp only [List.length_map, List.length_range] at hi hj
    exact fun e => absurd (h.inj i j hi hj (hinj _ _ (h.lt i hi) (h.lt j hj) e)) (by omega)
  refine ⟨?_, fun k => ?_⟩
  · rw [List.pairwise_iff_getElem]
    intro i j hi hj hij
    simp only [Array.length_toList] at hi hj
    have h1 := of_decide_eq_false (hs i j (Nat.zero_le _) hij (by omega))
    rw [getElem!_pos d2 i hi, getElem!_pos d2 j hj] at h1
    rw [List.Nodup, List.pairwise_iff_getElem] at hnd
    have h2 := hnd i j (by simpa using hi) (by simpa using hj) hij
    simp only [Array.getElem_toList] at h2 ⊢
    omega
  rw [hperm.mem_iff]
  simp only [List.mem_map, List.mem_range]
  constructor
  · rintro ⟨q, hq, rfl⟩
    exact ⟨hasK_yes (h.lt q hq) rfl, h.yes q hq⟩
  rintro ⟨h1, h2⟩
  obtain ⟨i, hi, rfl⟩ := hasK_at h1
  obtain ⟨q, hq, rfl⟩ := h.mem i hi (hall i hi) h2
  exact ⟨q, hq, rfl⟩
theorem tau_app {z : Nat → Value} {i : Nat} : ∀ j, j < (m + 1) * 1 → Fx.appX (fun q => .int .u64 (x (τ q))) (m * 1) (Fx.ovr z (0 * 1) 1 (fun _ => .int .u64 (x i))) j = .int .u64 (x (Fx.putI τ m i j)) := fun j hj => by
  unfold Fx.appX Fx.ovr Fx.putI
  by_cases e : j = m
  · subst e; rw [if_neg (by omega), if_pos (by omega), if_pos rfl]
  · rw [if_pos (by omega), if_neg e]
end
end Rt
open Rt
theorem t_sort {w : World} {B m cap : Nat} {a : Option Addr} {x : Nat → Int} {τ : Nat → Nat} (h : Fx.Own w B 28 1 (.slice a m cap) m (fun q => .int .u64 (x (τ q)))) (hB : B ≤ w.heap.size) (hm : m ≤ 32) :
    Calls Try.prog 19 #[.slice a m cap] w fun e w' => e = .returned (.tuple #[]) ∧ ∃ d2 : Array Int, d2.size = m ∧ Sort.PermIn 0 m (dT x τ m) d2 ∧ Sort.SortedIn Sort.ltInt 0 m d2 ∧ Fx.Own w' B 28 1 (.slice a m cap) m (lsU d2.toList) ∧ Below B w w' :=
  (s_sort (d := dT x τ m) (h.congr dT_rv) hB dT_size (by omega)).mono fun e w' ⟨d2, h1, h2, h3, h4, h5, h6⟩ => ⟨h1, d2, h2, h3, h4, h5.congr fun j hj => gA_lsU j (by omega), h6⟩
end Go.Proofs.Ytahbiajdgealnaa
namespace Go.Proofs.Ytahbiajdgealnaa.Fx
open Go.RowKit
section
variable {P : Program} {n0 : Nat} {Q : Post} {f : Nat → Value} {w : World} {ops : Array Oper} {rest : List Oper} {o : Oper}
theorem L.lo {T E : TypeId} {x lo : Operand} {a : Option Addr} {B n c s m : Nat} {k : IntKind} {j : Nat} {y : Nat → Value} (hw : Region.wanted o (yf ops f) = true) (hd : inn n0 o.dst = true) (ho : o.op = .slice T x (some lo) none none) (hx : ev f x = .slice a n c) (hl : ev f lo = .int k (j : Int)) (hu : P.underlying T = some (.slice E)) (hs : (P.info? E).map (·.size) = some s) (hj : n = j + m) (hown : Own w B E s (.slice a n c) n y)
    (hc : ∀ a', Arr w a' m s (fun p => y (j * s + p)) → L P n0 ops Q rest (put f o.dst (.slice a' m (c - j))) w) : L P n0 ops Q (o :: rest) f w := by
  by_cases h0 : n = 0
  · obtain rfl : j = 0 := by omega
    obtain rfl : m = 0 := by omega
    subst h0
    rcases hown.2 with ⟨h1, _⟩ | ⟨g, cap, cur, h1, _, _, hn, _⟩
    · simp only [Value.slice.injEq] at h1
      obtain ⟨rfl, _, rfl⟩ := h1
      obtain ⟨i, hi', _⟩ := Option.map_eq_some_iff.1 hs
      refine Lv _ (?_ : Runs P f o w (.slice none 0 0)) (hc none fun h => absurd h (Nat.lt_irrefl 0)) hw hd
      unfold Runs execOp
      simp only [ho, hx, hl, Option.map_some, Option.map_none]
      simp [Instr.sliceAt, Instr.slice, underlying, hu, Instr.sliceBounds, Instr.sliceBound, asIntOf, sizeOf, typeInfo, hi']
    simp only [Value.slice.injEq] at h1
    obtain ⟨rfl, _, rfl⟩ := h1
    exact Lv _ (x_sliceLo2 (A := if c = 0 then some ⟨g, 0, none⟩ else some ⟨g, 0 + 0 * s, none⟩) (n' := 0) (c' := c - 0) ho hx hl hu hs (Nat.le_refl _) rfl rfl rfl) (hc _ fun h => absurd h (Nat.lt_irrefl 0)) hw hd
  obtain ⟨g, c2, e1, hB, hg, hnc, hcel⟩ := hown.form (by omega)
  simp only [Value.slice.injEq] at e1
  obtain ⟨rfl, _, rfl⟩ := e1
  refine Lv _ (x_sliceLo2 (A := if c = j then some ⟨g, 0, none⟩ else some ⟨g, 0 + j * s, none⟩) (n' := m) (c' := c - j) ho hx hl hu hs (by omega) rfl (by omega) rfl) (hc _ fun hm => ?_) hw hd
  rw [if_neg (by omega)]
  refine ⟨g, _, rfl, fun p hp => ?_⟩
  have hlt : j * s + p < n * s := by
    have : n * s = j * s + m * s := by rw [hj, Nat.add_mul]
    omega
  have := hcel (j * s + p) hlt
  rw [Nat.zero_add] at this
  rw [Nat.zero_add]; exact this
theorem Own.arrLe {B n c s j : Nat} {E : TypeId} {a : Option Addr} {y : Nat → Value} (h : Own w B E s (.slice a n c) n y) (hj : j ≤ n) : Arr w a j s y := fun h0 => by
  obtain ⟨g, c2, e1, hB, hg, hnc, hcel⟩ := h.form (by omega)
  simp only [Value.slice.injEq] at e1
  refine ⟨g, 0, e1.1, fun p hp => hcel p ?_⟩
  exact Nat.lt_of_lt_of_le hp (Nat.mul_le_mul_right s hj)
theorem Own.weak {B B' n s : Nat} {E : TypeId} {v : Value} {y : Nat → Value} (h : Own w B E s v n y) (hB : B' ≤ B) : Own w B' E s v n y := by
  refine ⟨h.1, ?_⟩
  rcases h.2 with hn | ⟨g, cap, cur, hv, hb, rest⟩
  · exact .inl hn
  exact .inr ⟨g, cap, cur, hv, Nat.le_trans hB hb, rest⟩
end
end Go.Proofs.Ytahbiajdgealnaa.Fx
namespace Go.Proofs.Ytahbiajdgealnaa
open Go.RowKit
open Rt
set_option maxRecDepth 10000
theorem t_those1 (x p : Nat → Int) (n tp mb : Nat) (w : World) (hT : Fx.Blk w tp 1 (fun _ => .map (some mb)) 42) (hM : Fx.Mp w mb n x (fun j => .int .u64 (p j))) (h : TrI n x p) :
    Calls Try.prog 14 #[(pt tp), .func (.func 15) #[] #[]] w fun e w' => ∃ a c l, e = .returned (.slice a (List.length l) c) ∧ Fx.Own w' w.heap.size 28 1 (.slice a l.length c) l.length (lsU l) ∧ l.Pairwise (· < ·) ∧ (∀ k, k ∈ l ↔ (hasK x n k = true ∧ True)) ∧ l.length ≤ 32 ∧ Below w.heap.size w w' := by
 have hsm := h.small
 refine Fx.enter Try.func14 rfl (n := 27) rfl (by rfl) ?_
 refine Fx.Ws (Fx.Wl (Fx.Lv (.slice none 0 0) (Fx.x_assign rfl rfl) (Fx.Ln (Fx.sN (Fx.Ws (Fx.Ws (Fx.Wl (Fx.Lv ((pt tp)) (Fx.x_move rfl rfl) (Fx.Lv (.bool false) (Fx.x_eqNil rfl rfl rfl (by kernel_rfl)) (Fx.Ln (Fx.sN (Fx.Wc (b := false) rfl (fun h => nomatch h) (fun _ => Fx.Wk (Fx.sN (Fx.Ws (Fx.Ws (Fx.Wl (Fx.Lv ((pt tp)) (Fx.x_move rfl rfl) (Fx.Lv ((pt tp)) (Fx.x_nil rfl rfl) (Fx.Lv ((pt tp)) (Fx.x_field rfl rfl Try.underlying42 rfl (s := 1) (by kernel_rfl) rfl rfl) (Fx.Lv (.map (some mb)) (Fx.x_load1 (x := fun _ => .map (some mb)) rfl rfl (by kernel_rfl) hT.cel (i := 0) (by omega) (by omega) rfl) (Fx.L.range (by rfl) rfl rfl rfl hM Try.underlying40 fun g1 w1 eg1 m1 s1 z1 => ?_))))))))))))))))))))))
 have m2 := hT.stp s1 hT.ne
 have m3 := hM.up s1.old
 have b1 := s1.below (Below.refl w.heap.size w) (Below.refl w.heap.size w).size (Below.refl w.heap.size w).size
 have lg1 : w.heap.size ≤ g1 := by rw [eg1]; exact (Below.refl w.heap.size w).size
 have tg1 : g1 < w1.heap.size := m1.lt
 clear eg1
 refine Fx.Ln (Fx.sN (Fx.W.block ?_))
 have m4 : Fx.Own w1 w.heap.size 28 1 (.slice none 0 0) 0 (fun q => .int .u64 (x ((fun _ => 0 : Nat → Nat) q))) := Fx.Own.nil _ _ _ _ _
 refine Fx.W.loopE (fun kk f w_ => ∃ m : Nat, ∃ τ : Nat → Nat, ∃ S : Nat → Bool, ∃ a : Option Addr, ∃ cap : Nat, ThS n (fun i => (fun k => True) (x i)) S m τ kk ∧ f 0 = (pt tp) ∧ f 1 = .func (.func 15) #[] #[] ∧ f 4 = .slice a (m) (cap) ∧ f 12 = (pt g1) ∧ Fx.Blk w_ tp 1 (fun _ => .map (some mb)) 42 ∧ Fx.Mp w_ mb n x (fun j => .int .u64 (p j)) ∧ Fx.It w_ g1 mb n S ∧ Fx.Own w_ w.heap.size 28 1 (.slice a (m) (cap)) m (fun q => .int .u64 (x (τ q))) ∧ Below w.heap.size w w_) (Fx.unseen (fun _ => false) n) ⟨0, (fun _ => 0), (fun _ => false), none, 0, (ThS.start n _ _), (by rfl), (by rfl), (by rfl), (by rfl), m2, m3, m1, m4, b1⟩ ?_
 rintro kk f1 w2 ⟨m, τ, S, a, cap, hth, h1, h2, h3, h4, m5, m6, m7, m8, b2⟩
 have hml := hth.le
 refine Fx.Ws (Fx.Wl (Fx.L.next (by rfl) rfl rfl h4 m6 m7 (fun hall1 => ?_) (fun it1 w3 hi1 hS1 m9 mc1 s2 z2 => ?_)))
 ·skip
  refine Fx.Lv (.bool false) (Fx.x_extract rfl rfl rfl) (Fx.Ln (Fx.sN (Fx.Ws (Fx.Wc (b := false) rfl (fun h => nomatch h) (fun _ => Fx.W.exit (Fx.seqX (Fx.lpX (Fx.blkX (Fx.sN (Fx.Ws (Fx.Wl (Fx.Lv (.slice a (m) (cap)) (Fx.x_move rfl h3) (Fx.L.call (by rfl) (Fx.rC (args := [.slice a (m) (cap)]) rfl rfl Try.func19 rfl rfl) rfl ((t_sort m8 b2.size (by omega)).mono ?_))))))))))))))
  rintro e9 w4 ⟨he, d2, hz2, hp2, hs2, m10, hb1⟩
  refine ⟨_, he, ?_⟩
  clear he
  have b3 := b2.trans hb1
  refine Fx.Ln (Fx.sN (Fx.Ws (Fx.Wl (Fx.Lv (.slice a (m) (cap)) (Fx.x_move rfl h3) (Fx.Lv (.slice a (m) (cap)) (Fx.x_assign rfl rfl) (Fx.Ln (Fx.sN (Fx.Wr (⟨.slice a (m) (cap), Fx.rV Try.results14 (by exact rfl), ?_⟩)))))))))
  obtain ⟨f1, f2⟩ := those_fin (Q := fun k => True) hth hall1 h.inj hp2 hs2 hz2
  have hm32 : m ≤ 32 := by omega
  rw [show m = d2.toList.length by rw [Array.length_toList]; exact hz2.symm] at m10 hm32 ⊢
  exact ⟨a, cap, d2.toList, rfl, m10, f1, f2, hm32, b3⟩
 skip
 have hcm1 := m7.chm s2
 have m11 := m5.chM hcm1
 have m12 := m6.chM hcm1 (m7.rb.symm)
 have m13 := m8.chM hcm1
 have b4 := s2.below b2 b2.size (by omega)
 refine Fx.Lv (.bool true) (Fx.x_extract rfl rfl rfl) (Fx.Ln (Fx.sN (Fx.Ws (Fx.Wc (b := true) rfl (fun _ => Fx.Wk (Fx.sN (Fx.W.block (Fx.Ws (Fx.Wl (Fx.Lv (.tuple #[.int .u64 (x it1), .int .u64 (p it1)]) (Fx.x_entry (key := x) (val := fun j => .int .u64 (p j)) (i := it1) rfl h4 m12 mc1 hi1) ?_)))))) (fun h => nomatch h)))))
 refine Fx.Lv (.int .u64 (x it1)) (Fx.x_extract rfl rfl rfl) (Fx.Lv (.int .u64 (x it1)) (Fx.x_assign rfl rfl) (Fx.Ln (Fx.sN (Fx.Ws (Fx.Wl (Fx.Lv (.func (.func 15) #[] #[]) (Fx.x_move rfl h2) (Fx.Lv (.int .u64 (x it1)) (Fx.x_move rfl rfl) (Fx.L.call (by rfl) (Fx.r_clo (args := [.int .u64 (x it1)]) rfl rfl rfl (all := #[.int .u64 (x it1)]) rfl Try.func15 rfl rfl) rfl ((t_cl1 _ _).mono ?_)))))))))
 rintro e v1 ⟨he, hv1⟩
 subst v1
 refine ⟨.bool true, by rw [he], ?_⟩
 clear he
 refine Fx.Ln (Fx.sN (Fx.Wc (b := true) rfl (fun _ => Fx.Wl (Fx.Lv (.slice a (m) (cap)) (Fx.x_move rfl h3) ?_)) (fun h => nomatch h)))
 refine Fx.Lv (.int .u64 (x it1)) (Fx.x_move rfl rfl) (Fx.L.bslice (vs := [(0, .int .u64 (x it1))]) (s := 1) (zc := Fx.rv .u64 (fun _ => 0)) (y := Fx.ovr (fun j => (Fx.rv .u64 (fun _ => 0)) (j % 1)) (0 * 1) 1 (fun _ => .int .u64 (x it1))) (by rfl) rfl rfl Try.underlying33 (by kernel_rfl) (by rfl) (by rfl) (by kernel_rfl) (by rw [Fx.fill_step (off := 0 * 1) (s := 1) (y := fun _ => .int .u64 (x it1)) rfl (Fx.cells_one (by rfl)) (by rfl)]; rfl) rfl fun g2 w5 eg2 m14 s3 z3 => ?_)
 have m15 := m11.stp s3 m11.ne
 have m16 := m12.up s3.old
 have m17 := m13.stp s3 (m13.notNew (Nat.le_refl _))
 have m19 := m9.up s3.old
 have b5 := s3.below b4 b4.size b4.size
 have lg2 : w.heap.size ≤ g2 := by rw [eg2]; exact b4.size
 have ng2m15 : tp ≠ g2 := by rw [eg2]; exact Nat.ne_of_lt (m11.lt)
 have ng2m16 : mb ≠ g2 := by rw [eg2]; exact Nat.ne_of_lt (m12.lt)
 have ng2m17 : (.slice a (m) (cap) : Value).ownBlock ≠ some g2 := by rw [eg2]; exact m13.notNew (Nat.le_refl _)
 have tg2 : g2 < w5.heap.size := m14.lt
 clear eg2
 refine Fx.L.app (B := w.heap.size) (s := 1) (bytes := 8) (k := m) (m := 1) (v := .slice a (m) (cap)) (x := fun q => .int .u64 (x (τ q))) (by rfl) rfl rfl rfl Try.underlying33 (by kernel_rfl) (by kernel_rfl) rfl rfl m17 m14.cel (fun j hj => by unfold Fx.ovr; split <;> rfl) (by omega) (by omega) (by omega) b5.size fun g3 cap1 w6 ho1 hg1 hgv1 hlt1 => ?_
 have hct1 := Fx.ChT.of_grown hg1 m17
 have m21 := m15.chT hct1 (by decide)
 have m22 := m16.chT hct1 (by decide)
 have m24 := m19.chT hct1 (by decide)
 have m20 : Fx.Own w6 w.heap.size 28 1 (.slice (some ⟨g3, 0, none⟩) (m + 1) cap1) (m + 1) (fun q => .int .u64 (x (Fx.putI τ m it1 q))) := (ho1.congr tau_app)
 have b6 : Below w.heap.size w w6 := Fx.Below.grow b5 hg1 b5.size (fun q hq => (m17.ge hq).1)
 refine Fx.Lv (.slice (some ⟨g3, 0, none⟩) (m + 1) (cap1)) (Fx.x_assign rfl rfl) (Fx.Ln (Fx.blkN ?_))
 skip
 refine Fx.lpN ⟨Fx.unseen (Fx.putI S it1 true) n, (by have h1 := Fx.unseen_put hS1 n hi1; have h2 := hth.kk; omega), m + 1, Fx.putI τ m it1, Fx.putI S it1 true, (some ⟨g3, 0, none⟩), cap1, (hth.take hi1 hS1 trivial), h1, h2, (by rfl), h4, m21, m22, m24, m20, b6⟩ (by decide)
theorem t_those2 (x p : Nat → Int) (n tp mb : Nat) (w : World) (hT : Fx.Blk w tp 1 (fun _ => .map (some mb)) 42) (hM : Fx.Mp w mb n x (fun j => .int .u64 (p j))) (h : TrI n x p) (tb ib : Nat) (id : Int) (hb1 : Fx.Blk w tb 1 (fun _ => (pt tp)) 24) (hb2 : Fx.Blk w ib 1 (fun _ => .int .u64 id) 28) :
    Calls Try.prog 14 #[(pt tp), .func (.func 17) #[] #[(pt tb), (pt ib)]] w fun e w' => ∃ a c l, e = .returned (.slice a (List.length l) c) ∧ Fx.Own w' w.heap.size 28 1 (.slice a l.length c) l.length (lsU l) ∧ l.Pairwise (· < ·) ∧ (∀ k, k ∈ l ↔ (hasK x n k = true ∧ id ∈ upK x p n 4 k)) ∧ l.length ≤ 32 ∧ Below w.heap.size w w' := by
 have hsm := h.small
 have ltb := hb1.lt
 have lib := hb2.lt
 refine Fx.enter Try.func14 rfl (n := 27) rfl (by rfl) ?_
 refine Fx.Ws (Fx.Wl (Fx.Lv (.slice none 0 0) (Fx.x_assign rfl rfl) (Fx.Ln (Fx.sN (Fx.Ws (Fx.Ws (Fx.Wl (Fx.Lv ((pt tp)) (Fx.x_move rfl rfl) (Fx.Lv (.bool false) (Fx.x_eqNil rfl rfl rfl (by kernel_rfl)) (Fx.Ln (Fx.sN (Fx.Wc (b := false) rfl (fun h => nomatch h) (fun _ => Fx.Wk (Fx.sN (Fx.Ws (Fx.Ws (Fx.Wl (Fx.Lv ((pt tp)) (Fx.x_move rfl rfl) (Fx.Lv ((pt tp)) (Fx.x_nil rfl rfl) (Fx.Lv ((pt tp)) (Fx.x_field rfl rfl Try.underlying42 rfl (s := 1) (by kernel_rfl) rfl rfl) (Fx.Lv (.map (some mb)) (Fx.x_load1 (x := fun _ => .map (some mb)) rfl rfl (by kernel_rfl) hT.cel (i := 0) (by omega) (by omega) rfl) (Fx.L.range (by rfl) rfl rfl rfl hM Try.underlying40 fun g1 w1 eg1 m1 s1 z1 => ?_))))))))))))))))))))))
 have m2 := hT.stp s1 hT.ne
 have m3 := hM.up s1.old
 have m4 := hb1.stp s1 hb1.ne
 have m5 := hb2.stp s1 hb2.ne
 have b1 := s1.below (Below.refl w.heap.size w) (Below.refl w.heap.size w).size (Below.refl w.heap.size w).size
 have lg1 : w.heap.size ≤ g1 := by rw [eg1]; exact (Below.refl w.heap.size w).size
 have tg1 : g1 < w1.heap.size := m1.lt
 clear eg1
 refine Fx.Ln (Fx.sN (Fx.W.block ?_))
 have m6 : Fx.Own w1 w.heap.size 28 1 (.slice none 0 0) 0 (fun q => .int .u64 (x ((fun _ => 0 : Nat → Nat) q))) := Fx.Own.nil _ _ _ _ _
 refine Fx.W.loopE (fun kk f w_ => ∃ m : Nat, ∃ τ : Nat → Nat, ∃ S : Nat → Bool, ∃ a : Option Addr, ∃ cap : Nat, ThS n (fun i => (fun k => id ∈ upK x p n 4 k) (x i)) S m τ kk ∧ f 0 = (pt tp) ∧ f 1 = .func (.func 17) #[] #[(pt tb), (pt ib)] ∧ f 4 = .slice a (m) (cap) ∧ f 12 = (pt g1) ∧ Fx.Blk w_ tp 1 (fun _ => .map (some mb)) 42 ∧ Fx.Mp w_ mb n x (fun j => .int .u64 (p j)) ∧ Fx.Blk w_ tb 1 (fun _ => (pt tp)) 24 ∧ Fx.Blk w_ ib 1 (fun _ => .int .u64 id) 28 ∧ Fx.It w_ g1 mb n S ∧ Fx.Own w_ w.heap.size 28 1 (.slice a (m) (cap)) m (fun q => .int .u64 (x (τ q))) ∧ Below w.heap.size w w_) (Fx.unseen (fun _ => false) n) ⟨0, (fun _ => 0), (fun _ => false), none, 0, (ThS.start n _ _), (by rfl), (by rfl), (by rfl), (by rfl), m2, m3, m4, m5, m1, m6, b1⟩ ?_
 rintro kk f1 w2 ⟨m, τ, S, a, cap, hth, h1, h2, h3, h4, m7, m8, m9, m10, m11, m12, b2⟩
 have hml := hth.le
 refine Fx.Ws (Fx.Wl (Fx.L.next (by rfl) rfl rfl h4 m8 m11 (fun hall1 => ?_) (fun it1 w3 hi1 hS1 m13 mc1 s2 z2 => ?_)))
 ·skip
  refine Fx.Lv (.bool false) (Fx.x_extract rfl rfl rfl) (Fx.Ln (Fx.sN (Fx.Ws (Fx.Wc (b := false) rfl (fun h => nomatch h) (fun _ => Fx.W.exit (Fx.seqX (Fx.lpX (Fx.blkX (Fx.sN (Fx.Ws (Fx.Wl (Fx.Lv (.slice a (m) (cap)) (Fx.x_move rfl h3) (Fx.L.call (by rfl) (Fx.rC (args := [.slice a (m) (cap)]) rfl rfl Try.func19 rfl rfl) rfl ((t_sort m12 b2.size (by omega)).mono ?_))))))))))))))
  rintro e9 w4 ⟨he, d2, hz2, hp2, hs2, m14, hb1⟩
  refine ⟨_, he, ?_⟩
  clear he
  have b3 := b2.trans hb1
  refine Fx.Ln (Fx.sN (Fx.Ws (Fx.Wl (Fx.Lv (.slice a (m) (cap)) (Fx.x_move rfl h3) (Fx.Lv (.slice a (m) (cap)) (Fx.x_assign rfl rfl) (Fx.Ln (Fx.sN (Fx.Wr (⟨.slice a (m) (cap), Fx.rV Try.results14 (by exact rfl), ?_⟩)))))))))
  obtain ⟨f1, f2⟩ := those_fin (Q := fun k => id ∈ upK x p n 4 k) hth hall1 h.inj hp2 hs2 hz2
  have hm32 : m ≤ 32 := by omega
  rw [show m = d2.toList.length by rw [Array.length_toList]; exact hz2.symm] at m14 hm32 ⊢
  exact ⟨a, cap, d2.toList, rfl, m14, f1, f2, hm32, b3⟩
 skip
 have hcm1 := m11.chm s2
 have m15 := m7.chM hcm1
 have m16 := m8.chM hcm1 (m11.rb.symm)
 have m17 := m9.chM hcm1
 have m18 := m10.chM hcm1
 have m19 := m12.chM hcm1
 have b4 := s2.below b2 b2.size (by omega)
 refine Fx.Lv (.bool true) (Fx.x_extract rfl rfl rfl) (Fx.Ln (Fx.sN (Fx.Ws (Fx.Wc (b := true) rfl (fun _ => Fx.Wk (Fx.sN (Fx.W.block (Fx.Ws (Fx.Wl (Fx.Lv (.tuple #[.int .u64 (x it1), .int .u64 (p it1)]) (Fx.x_entry (key := x) (val := fun j => .int .u64 (p j)) (i := it1) rfl h4 m16 mc1 hi1) ?_)))))) (fun h => nomatch h)))))
 refine Fx.Lv (.int .u64 (x it1)) (Fx.x_extract rfl rfl rfl) (Fx.Lv (.int .u64 (x it1)) (Fx.x_assign rfl rfl) (Fx.Ln (Fx.sN (Fx.Ws (Fx.Wl (Fx.Lv (.func (.func 17) #[] #[(pt tb), (pt ib)]) (Fx.x_move rfl h2) (Fx.Lv (.int .u64 (x it1)) (Fx.x_move rfl rfl) ?_)))))))
 by_cases c19 : (decide (id ∈ upK x p n 4 (x it1))) = true
 ·refine Fx.L.call (by rfl) (Fx.r_clo (args := [.int .u64 (x it1)]) rfl rfl rfl (all := #[.int .u64 (x it1), (pt tb), (pt ib)]) rfl Try.func17 rfl rfl) rfl ((t_cl2 x p n tp mb _ m15 m16 h (x it1) tb ib id m17 m18).mono ?_)
  rintro e w5 ⟨he, hb2⟩
  refine ⟨.bool true, by rw [he, c19], ?_⟩
  clear he
  have s3 := Fx.Sb hb2
  have m20 := m15.stp s3 m15.ne
  have m21 := m16.up s3.old
  have m22 := m17.stp s3 m17.ne
  have m23 := m18.stp s3 m18.ne
  have m24 := m19.stp s3 (m19.notNew (Nat.le_refl _))
  have m26 := m13.up s3.old
  have b5 := s3.below b4 b4.size b4.size
  refine Fx.Ln (Fx.sN (Fx.Wc (b := true) rfl (fun _ => Fx.Wl (Fx.Lv (.slice a (m) (cap)) (Fx.x_move rfl h3) ?_)) (fun h => nomatch h)))
  refine Fx.Lv (.int .u64 (x it1)) (Fx.x_move rfl rfl) (Fx.L.bslice (vs := [(0, .int .u64 (x it1))]) (s := 1) (zc := Fx.rv .u64 (fun _ => 0)) (y := Fx.ovr (fun j => (Fx.rv .u64 (fun _ => 0)) (j % 1)) (0 * 1) 1 (fun _ => .int .u64 (x it1))) (by rfl) rfl rfl Try.underlying33 (by kernel_rfl) (by rfl) (by rfl) (by kernel_rfl) (by rw [Fx.fill_step (off := 0 * 1) (s := 1) (y := fun _ => .int .u64 (x it1)) rfl (Fx.cells_one (by rfl)) (by rfl)]; rfl) rfl fun g2 w6 eg2 m27 s4 z3 => ?_)
  have m28 := m20.stp s4 m20.ne
  have m29 := m21.up s4.old
  have m30 := m22.stp s4 m22.ne
  have m31 := m23.stp s4 m23.ne
  have m32 := m24.stp s4 (m24.notNew (Nat.le_refl _))
  have m34 := m26.up s4.old
  have b6 := s4.below b5 b5.size b5.size
  have lg2 : w.heap.size ≤ g2 := by rw [eg2]; exact b5.size
  have ng2m28 : tp ≠ g2 := by rw [eg2]; exact Nat.ne_of_lt (m20.lt)
  have ng2m29 : mb ≠ g2 := by rw [eg2]; exact Nat.ne_of_lt (m21.lt)
  have ng2m30 : tb ≠ g2 := by rw [eg2]; exact Nat.ne_of_lt (m22.lt)
  have ng2m31 : ib ≠ g2 := by rw [eg2]; exact Nat.ne_of_lt (m23.lt)
  have ng2m32 : (.slice a (m) (cap) : Value).ownBlock ≠ some g2 := by rw [eg2]; exact m24.notNew (Nat.le_refl _)
  have tg2 : g2 < w6.heap.size := m27.lt
  clear eg2
  refine Fx.L.app (B := w.heap.size) (s := 1) (bytes := 8) (k := m) (m := 1) (v := .slice a (m) (cap)) (x := fun q => .int .u64 (x (τ q))) (by rfl) rfl rfl rfl Try.underlying33 (by kernel_rfl) (by kernel_rfl) rfl rfl m32 m27.cel (fun j hj => by unfold Fx.ovr; split <;> rfl) (by omega) (by omega) (by omega) b6.size fun g3 cap1 w7 ho1 hg1 hgv1 hlt1 => ?_
  have hct1 := Fx.ChT.of_grown hg1 m32
  have m36 := m28.chT hct1 (by decide)
  have m37 := m29.chT hct1 (by decide)
  have m38 := m30.chT hct1 (by decide)
  have m39 := m31.grown hg1 (m32.not (by omega))
  have ng3m39 : ib ≠ g3 := fun e => hgv1.elim (fun e2 => (m32.not (by omega)) (by rw [e]; exact e2)) (fun e2 => by have := m31.lt; omega)
  have m41 := m34.chT hct1 (by decide)
  have m35 : Fx.Own w7 w.heap.size 28 1 (.slice (some ⟨g3, 0, none⟩) (m + 1) cap1) (m + 1) (fun q => .int .u64 (x (Fx.putI τ m it1 q))) := (ho1.congr tau_app)
  have b7 : Below w.heap.size w w7 := Fx.Below.grow b6 hg1 b6.size (fun q hq => (m32.ge hq).1)
  refine Fx.Lv (.slice (some ⟨g3, 0, none⟩) (m + 1) (cap1)) (Fx.x_assign rfl rfl) (Fx.Ln (Fx.blkN ?_))
  skip
  refine Fx.lpN ⟨Fx.unseen (Fx.putI S it1 true) n, (by have h1 := Fx.unseen_put hS1 n hi1; have h2 := hth.kk; omega), m + 1, Fx.putI τ m it1, Fx.putI S it1 true, (some ⟨g3, 0, none⟩), cap1, (hth.take hi1 hS1 (of_decide_eq_true c19)), h1, h2, (by rfl), h4, m36, m37, m38, m39, m41, m35, b7⟩ (by decide)
 rw [Bool.not_eq_true] at c19
 refine Fx.L.call (by rfl) (Fx.r_clo (args := [.int .u64 (x it1)]) rfl rfl rfl (all := #[.int .u64 (x it1), (pt tb), (pt ib)]) rfl Try.func17 rfl rfl) rfl ((t_cl2 x p n tp mb _ m15 m16 h (x it1) tb ib id m17 m18).mono ?_)
 rintro e w8 ⟨he, hb3⟩
 refine ⟨.bool false, by rw [he, c19], ?_⟩
 clear he
 have s5 := Fx.Sb hb3
 have m42 := m15.stp s5 m15.ne
 have m43 := m16.up s5.old
 have m44 := m17.stp s5 m17.ne
 have m45 := m18.stp s5 m18.ne
 have m46 := m19.stp s5 (m19.notNew (Nat.le_refl _))
 have m48 := m13.up s5.old
 have b8 := s5.below b4 b4.size b4.size
 refine Fx.Ln (Fx.sN (Fx.Wc (b := false) rfl (fun h => nomatch h) (fun _ => Fx.Wk (Fx.blkN ?_))))
 skip
 refine Fx.lpN ⟨Fx.unseen (Fx.putI S it1 true) n, (by have h1 := Fx.unseen_put hS1 n hi1; have h2 := hth.kk; omega), m, τ, Fx.putI S it1 true, a, cap, (hth.skip hi1 hS1 (of_decide_eq_false c19)), h1, h2, h3, h4, m42, m43, m44, m45, m48, m46, b8⟩ (by decide)
theorem t_list (x p : Nat → Int) (n tp mb : Nat) (w : World) (hT : Fx.Blk w tp 1 (fun _ => .map (some mb)) 42) (hM : Fx.Mp w mb n x (fun j => .int .u64 (p j))) (h : TrI n x p) :
    Calls Try.prog 10 #[(pt tp)] w fun e w' => ∃ a c l, e = .returned (.slice a (List.length l) c) ∧ Fx.Own w' w.heap.size 28 1 (.slice a l.length c) l.length (lsU l) ∧ l.Pairwise (· < ·) ∧ (∀ k, k ∈ l ↔ (hasK x n k = true ∧ True)) ∧ l.length ≤ 32 ∧ Below w.heap.size w w' := by
 refine Fx.enter Try.func10 rfl (n := 5) rfl (by rfl) ?_
 refine Fx.Ws (Fx.Wl (Fx.Lv (.slice none 0 0) (Fx.x_assign rfl rfl) (Fx.Ln (Fx.sN (Fx.Ws (Fx.Wl (Fx.Lv ((pt tp)) (Fx.x_move rfl rfl) (Fx.L.call (by rfl) (Fx.rC (args := [(pt tp), .func (.func 15) #[] #[]]) rfl rfl Try.func14 rfl rfl) rfl ((t_those1 x p n tp mb _ hT hM h).mono ?_)))))))))
 rintro e9 w1 ⟨la1, lc1, ll1, he, m1, hq1, hq2, hq3, hb1⟩
 refine ⟨_, he, ?_⟩
 clear he
 have s1 := Fx.Sb hb1
 have b1 := s1.below (Below.refl w.heap.size w) (Below.refl w.heap.size w).size (Below.refl w.heap.size w).size
 refine Fx.Lv (.slice la1 (ll1.length) (lc1)) (Fx.x_assign rfl rfl) (Fx.Ln (Fx.sN (Fx.Wr (⟨.slice la1 (ll1.length) (lc1), Fx.rV Try.results10 (by exact rfl), ?_⟩))))
 exact ⟨la1, lc1, ll1, rfl, m1.weak (by have := b1.size; first | exact Nat.le_refl _ | exact (Below.refl w.heap.size w).size), hq1, hq2, hq3, b1⟩
theorem t_below (x p : Nat → Int) (n tp mb : Nat) (w : World) (hT : Fx.Blk w tp 1 (fun _ => .map (some mb)) 42) (hM : Fx.Mp w mb n x (fun j => .int .u64 (p j))) (h : TrI n x p) (id : Int) :
    Calls Try.prog 12 #[(pt tp), .int .u64 (id)] w fun e w' => ∃ a c l, e = .returned (.slice a (List.length l) c) ∧ Fx.Own w' w.heap.size 28 1 (.slice a l.length c) l.length (lsU l) ∧ l.Pairwise (· < ·) ∧ (∀ k, k ∈ l ↔ (hasK x n k = true ∧ id ∈ upK x p n 4 k)) ∧ l.length ≤ 32 ∧ Below w.heap.size w w' := by
 refine Fx.enter Try.func12 rfl (n := 8) rfl (by rfl) ?_
 refine Fx.Ws (Fx.Wl (Fx.L.box (m := 1) (y := fun _ => (pt tp)) (by rfl) rfl rfl (Fx.cells_one (by rfl)) rfl fun g1 w1 eg1 m1 s1 z1 => ?_))
 have m2 := hT.stp s1 hT.ne
 have m3 := hM.up s1.old
 have b1 := s1.below (Below.refl w.heap.size w) (Below.refl w.heap.size w).size (Below.refl w.heap.size w).size
 have lg1 : w.heap.size ≤ g1 := by rw [eg1]; exact (Below.refl w.heap.size w).size
 have ng1m2 : tp ≠ g1 := by rw [eg1]; exact Nat.ne_of_lt (hT.lt)
 have ng1m3 : mb ≠ g1 := by rw [eg1]; exact Nat.ne_of_lt (hM.lt)
 have tg1 : g1 < w1.heap.size := m1.lt
 clear eg1
 refine Fx.L.box (m := 1) (y := fun _ => .int .u64 (id)) (by rfl) rfl rfl (Fx.cells_one (by rfl)) rfl fun g2 w2 eg2 m4 s2 z2 => ?_
 have m5 := m2.stp s2 m2.ne
 have m6 := m3.up s2.old
 have m7 := m1.stp s2 m1.ne
 have b2 := s2.below b1 b1.size b1.size
 have lg2 : w.heap.size ≤ g2 := by rw [eg2]; exact b1.size
 have ng2m5 : tp ≠ g2 := by rw [eg2]; exact Nat.ne_of_lt (m2.lt)
 have ng2m6 : mb ≠ g2 := by rw [eg2]; exact Nat.ne_of_lt (m3.lt)
 have ng2m7 : g1 ≠ g2 := by rw [eg2]; exact Nat.ne_of_lt (m1.lt)
 have tg2 : g2 < w2.heap.size := m4.lt
 clear eg2
 refine Fx.Lv (.slice none 0 0) (Fx.x_assign rfl rfl) (Fx.Ln (Fx.sN (Fx.Ws (Fx.Wl (Fx.Lv ((pt tp)) (Fx.x_load1 (x := fun _ => (pt tp)) rfl rfl (by kernel_rfl) m7.cel (i := 0) (by omega) (by omega) rfl) (Fx.Lv (.func (.func 17) #[] #[(pt g1), (pt g2)]) (Fx.x_func (us := []) (vs := [(pt g1), (pt g2)]) rfl rfl rfl) (Fx.L.call (by rfl) (Fx.rC (args := [(pt tp), .func (.func 17) #[] #[(pt g1), (pt g2)]]) rfl rfl Try.func14 rfl rfl) rfl ((t_those2 x p n tp mb _ m5 m6 h g1 g2 id m7 m4).mono ?_))))))))
 rintro e9 w3 ⟨la1, lc1, ll1, he, m8, hq1, hq2, hq3, hb1⟩
 refine ⟨_, he, ?_⟩
 clear he
 have s3 := Fx.Sb hb1
 have b3 := s3.below b2 b2.size b2.size
 refine Fx.Lv (.slice la1 (ll1.length) (lc1)) (Fx.x_assign rfl rfl) (Fx.Ln (Fx.sN (Fx.Wr (⟨.slice la1 (ll1.length) (lc1), Fx.rV Try.results12 (by exact rfl), ?_⟩))))
 exact ⟨la1, lc1, ll1, rfl, m8.weak (by have := b3.size; first | exact Nat.le_refl _ | exact b2.size), hq1, hq2, hq3, b3⟩
end Go.Proofs.Ytahbiajdgealnaa
namespace Go.Proofs.Ytahbiajdgealnaa
open Go.RowKit Go Rt
set_option linter.unusedVariables false
namespace Rt
structure TrM where
  n : Nat
  x : Nat → Int
  p : Nat → Int
def TrM.zero : TrM := ⟨0, fun _ => 0, fun _ => 0⟩
def TrM.has (T : TrM) (k : Int) : Bool := hasK T.x T.n k
def TrM.par (T : TrM) (k : Int) : Int := parK T.x T.p T.n k
def TrM.path (T : TrM) (k : Int) : List Int := upK T.x T.p T.n 4 k
def TrM.err (T : TrM) (id pa : Int) : Int := addC T.x T.p T.n id pa
def TrM.put (T : TrM) (id pa : Int) : TrM := ⟨T.n + 1, Fx.putI T.x T.n id, Fx.putI T.p T.n pa⟩
def TrM.add (T : TrM) (id pa : Int) : TrM := if T.err id pa = 0 then T.put id pa else T
abbrev TrM.ok (T : TrM) : Prop := TrI T.n T.x T.p
theorem TrM.ok_add {T : TrM} (h : T.ok) {id pa : Int} (hb : 0 ≤ id ∧ id ≤ 18446744073709551615) : (T.add id pa).ok := by
  unfold TrM.add
  split
  · rename_i hc; exact TrI.put h hc hb
  exact h
structure TrW (w : World) (B tp mb : Nat) (T : TrM) : Prop where
  blk : Fx.Blk w tp 1 (fun _ => .map (some mb)) 42
  map : Fx.Mp w mb T.n T.x (fun j => .int .u64 (T.p j))
  inv : T.ok
  gt : B ≤ tp
  gm : B ≤ mb
section
variable {w w' : World} {B tp mb r : Nat} {T : TrM} {id pa k : Int}
theorem TrW.up (h : TrW w B tp mb T) (hb : Below w.heap.size w w') : TrW w' B tp mb T := ⟨h.blk.stp (Fx.Sb hb) (Nat.ne_of_lt h.blk.lt), h.map.up hb, h.inv, h.gt, h.gm⟩
theorem TrW.chT {Ts : List TypeId} (h : TrW w B tp mb T) (hc : Fx.ChT Ts w w') (h1 : Ts.contains 42 = false) : TrW w' B tp mb T := ⟨h.blk.chT hc h1, h.map.chT hc trivial, h.inv, h.gt, h.gm⟩
theorem TrW.chm (h : TrW w B tp mb T) (hs : Fx.Stp mb w w') : Fx.ChM mb w w' := h.map.chm hs
theorem TrW.chM (h : TrW w B tp mb T) (hc : Fx.ChM r w w') (ne : mb ≠ r) : TrW w' B tp mb T := ⟨h.blk.chM hc, h.map.chM hc ne, h.inv, h.gt, h.gm⟩
theorem TrW.weak {B' : Nat} (h : TrW w B tp mb T) (hB : B' ≤ B) : TrW w B' tp mb T := ⟨h.blk, h.map, h.inv, Nat.le_trans hB h.gt, Nat.le_trans hB h.gm⟩
theorem TrW.lt (h : TrW w B tp mb T) : mb < w.heap.size := h.map.lt
end
end Rt
theorem w_new (w : World) : Calls Try.prog 6 #[] w fun e w' => ∃ tp mb, e = .returned (.pointer (some ⟨tp, 0, none⟩)) ∧ w.heap.size ≤ mb ∧ TrW w' w.heap.size tp mb TrM.zero ∧ Below w.heap.size w w' :=
  (t_new (fun _ => 0) (fun _ => 0) w).mono fun e w' ⟨tp, mb, h1, h2, h3, h4, h5, h6⟩ => ⟨tp, mb, h1, h3, ⟨h4, h5, TrI.zero _ _, h2, h3⟩, h6⟩
theorem w_add {w : World} {B tp mb : Nat} {T : TrM} (id pa : Int) (h : TrW w B tp mb T) (hb : 0 ≤ id ∧ id ≤ 18446744073709551615) :
    Calls Try.prog 7 #[.pointer (some ⟨tp, 0, none⟩), .int .u64 id, .int .u64 pa] w fun e w' => e = .returned (.int .i64 (T.err id pa)) ∧ TrW w' B tp mb (T.add id pa) ∧ Fx.Stp mb w w' :=
  (t_add T.x T.p T.n tp mb id pa w h.blk h.map h.inv).mono fun e w' ⟨c, n2, x2, p2, h1, h2, h3, h4, h5⟩ => by
    cases h2 with
    | no hc h0 =>
      have hc : T.err id pa = c := hc
      subst hc
      refine ⟨h1, ⟨h3, ?_, TrM.ok_add h.inv hb, h.gt, h.gm⟩, h5⟩
      unfold TrM.add
      rw [if_neg h0]; exact h4
    | yes hc =>
      have hc : T.err id pa = 0 := hc
      refine ⟨by rw [hc]; exact h1, ⟨h3, ?_, TrM.ok_add h.inv hb, h.gt, h.gm⟩, h5⟩
      unfold TrM.add
      rw [if_pos hc]; exact h4
theorem w_has {w : World} {B tp mb : Nat} {T : TrM} (k : Int) (h : TrW w B tp mb T) :
    Calls Try.prog 8 #[.pointer (some ⟨tp, 0, none⟩), .int .u64 k] w fun e w' => e = .returned (.bool (T.has k)) ∧ w' = w := t_has T.x T.p T.n tp mb k w h.blk h.map
def OwL (w : World) (B : Nat) (a : Option Addr) (c : Nat) (l : List Int) : Prop := Fx.Own w B 28 1 (.slice a l.length c) l.length (lsU l)
theorem OwL.up {w w' : World} {B c : Nat} {a : Option Addr} {l : List Int} (h : OwL w B a c l) (hb : Below w.heap.size w w') : OwL w' B a c l := Fx.Own.up h hb
theorem w_path {w : World} {B tp mb : Nat} {T : TrM} (k : Int) (h : TrW w B tp mb T) :
    Calls Try.prog 11 #[.pointer (some ⟨tp, 0, none⟩), .int .u64 k] w fun e w' => ∃ a c, e = .returned (.slice a (T.path k).length c) ∧ OwL w' w.heap.size a c (T.path k) ∧ Below w.heap.size w w' :=
  t_path T.x T.p T.n tp mb 4 k w h.blk h.map h.inv.inj (h.inv.stop k) (h.inv.len k)
theorem w_list {w : World} {B tp mb : Nat} {T : TrM} (h : TrW w B tp mb T) :
    Calls Try.prog 10 #[.pointer (some ⟨tp, 0, none⟩)] w fun e w' => ∃ a c l, e = .returned (.slice a (List.length l) c) ∧ OwL w' w.heap.size a c l ∧ (l.Pairwise (· < ·) ∧ ∀ k, k ∈ l ↔ T.has k = true) ∧ l.length ≤ 32 ∧ Below w.heap.size w w' :=
  (t_list T.x T.p T.n tp mb w h.blk h.map h.inv).mono fun e w' ⟨a, c, l, h1, h2, h3, h4, h5⟩ => ⟨a, c, l, h1, h2, ⟨h3, fun k => by have := h4 k; rw [and_true] at this; exact this⟩, h5⟩
theorem w_below {w : World} {B tp mb : Nat} {T : TrM} (id : Int) (h : TrW w B tp mb T) :
    Calls Try.prog 12 #[.pointer (some ⟨tp, 0, none⟩), .int .u64 id] w fun e w' => ∃ a c l, e = .returned (.slice a (List.length l) c) ∧ OwL w' w.heap.size a c l ∧ (l.Pairwise (· < ·) ∧ ∀ k, k ∈ l ↔ (T.has k = true ∧ id ∈ T.path k)) ∧ l.length ≤ 32 ∧ Below w.heap.size w w' :=
  (t_below T.x T.p T.n tp mb w h.blk h.map h.inv id).mono fun e w' ⟨a, c, l, h1, h2, h3, h4, h5⟩ => ⟨a, c, l, h1, h2, ⟨h3, h4⟩, h5⟩
namespace Rt
section
variable {T U : TrM} {id pa k : Int}
structure SubT (U T : TrM) : Prop where
  has : ∀ k, U.has k = true → T.has k = true
  par : ∀ k, U.has k = true → U.par k = T.par k
theorem SubT.same (h : SubT U T) (hx : ∀ k, T.has k = true → U.has k = true) : ∀ k, U.path k = T.path k := fun k => by
  have e : ∀ k, U.has k = T.has k := fun k => by
    cases h1 : U.has k with
    | true => exact (h.has k h1).symm
    | false =>
      cases h2 : T.has k with
      | false => rfl
      | true => rw [hx k h2] at h1; cases h1
  exact upK_congr e (fun k hk => h.par k (hx k hk)) 4 k
theorem TrM.has_put (T : TrM) (id pa k : Int) : (T.put id pa).has k = (T.has k || decide (id = k)) := Rt.has_put id k
theorem TrM.par_put (T : TrM) (id pa k : Int) : (T.put id pa).par k = if id = k then pa else T.par k := Rt.par_put id pa k
end
end Rt
namespace Fx
theorem x_or40 {P : Program} {f : Nat → Value} {w : World} {o : Oper} {T T' : TypeId} {x y : Operand} {a b : Nat} (ho : o.op = .binOp .or T x y T') (hx : ev f x = .int .u64 (1099511627776 * (a : Int))) (hy : ev f y = .int .u64 (b : Int)) (ha : a ≤ 8388607) (hb : b < 1099511627776) : Runs P f o w (.int .u64 (1099511627776 * (a : Int) + b)) :=
  x_int ho hx hy (by
    have e : ((BitVec.ofInt 64 (1099511627776 * (a : Int)) ||| BitVec.ofInt 64 (b : Int)).toNat : Int) = 1099511627776 * (a : Int) + b := by
      rw [BitVec.toNat_or, BitVec.toNat_ofInt, BitVec.toNat_ofInt]
      rw [show ((1099511627776 * (a : Int)) % ((2 ^ 64 : Nat) : Int)).toNat = 1099511627776 * a by omega, show ((b : Int) % ((2 ^ 64 : Nat) : Int)).toNat = b by omega]
      have h := Nat.shiftLeft_add_eq_or_of_lt (i := 40) (b := b) (by omega) a
      rw [Nat.shiftLeft_eq] at h
      rw [show 1099511627776 * a = a * 2 ^ 40 by omega, ← h]
      omega
    have h := u64e (c := 1099511627776 * (a : Int) + b) (by omega) rfl
    simp only [binOp, Op.intBits]
    show (pure (Value.int .u64 (IntKind.u64.wrap ((BitVec.ofInt 64 (1099511627776 * (a : Int)) ||| BitVec.ofInt 64 (b : Int)).toNat : Int))) : Sem Value).run P w = _
    rw [e, h]; rfl)
theorem arr_of {w : World} {B c : Nat} {a : Option Addr} {l : List Int} (h : OwL w B a c l) : Fx.Arr w a l.length 1 (lsU l) := Own.arrLe h (Nat.le_refl _)
theorem arr_lit {w : World} {g n : Nat} {x : Nat → Value} {T : TypeId} {l : List Int} (h : Fx.Blk w g n x T) (hn : n = l.length) (e : ∀ j, j < l.length → x j = lsU l j) : Fx.Arr w (some ⟨g, 0, none⟩) l.length 1 (lsU l) := fun _ =>
  ⟨g, 0, rfl, fun i hi => by rw [← e i (by omega)]; exact h.cel i (by omega)⟩
end Fx
end Go.Proofs.Ytahbiajdgealnaa
namespace Go.Proofs.Ytahbiajdgealnaa
open Go.RowKit
open Rt
set_option maxRecDepth 10000
theorem t_same (l : List Int) (c c2 : Nat) (a a2 : Option Addr) (w : World) (hA1 : Fx.Arr w a l.length 1 (lsU l)) (hA2 : Fx.Arr w a2 l.length 1 (lsU l)) (hl : l.length ≤ 1000) :
    Calls Try.prog 9 #[.slice a (l.length) (c), .slice a2 (l.length) (c2)] w fun e w' => e = .returned (.bool true) ∧ Below w.heap.size w w' := by
 refine Fx.enter Try.func9 rfl (n := 26) rfl (by rfl) ?_
 refine Fx.Ws (Fx.Wl (Fx.Lv (.bool false) (Fx.x_assign rfl rfl) (Fx.Ln (Fx.sN (Fx.Ws (Fx.Ws (Fx.Wl (Fx.Lv (.slice a (l.length) (c)) (Fx.x_move rfl rfl) (Fx.Lv (.int .i64 ((l.length : Int))) (Fx.x_len rfl rfl rfl (by kernel_rfl)) (Fx.Lv (.slice a2 (l.length) (c2)) (Fx.x_move rfl rfl) (Fx.Lv (.int .i64 ((l.length : Int))) (Fx.x_len rfl rfl rfl (by kernel_rfl)) (Fx.Lv (.bool false) (Fx.x_neqF rfl rfl rfl rfl) (Fx.Ln (Fx.sN (Fx.Wc (b := false) rfl (fun h => nomatch h) (fun _ => Fx.Wk (Fx.sN (Fx.Ws (Fx.Ws (Fx.Wl (Fx.Lv (.int .i64 (0)) (Fx.x_assign rfl rfl) (Fx.Ln (Fx.sN (Fx.W.block (Fx.W.loop (fun f w_ => ∃ i : Nat, i ≤ l.length ∧ f 0 = .slice a (l.length) (c) ∧ f 1 = .slice a2 (l.length) (c2) ∧ f 5 = .int .i64 ((i : Int)) ∧ Below w.heap.size w w_) (fun f _ => ((l.length : Int) - intOf (f 5)).toNat) ⟨0, (by omega), (by rfl), (by rfl), Fx.ic, (Below.refl w.heap.size w)⟩ ?_)))))))))))))))))))))))))
 rintro f1 w1 ⟨i, hil, h1, h2, h3, b1⟩
 refine Fx.Ws (Fx.Ws (Fx.Wl (Fx.Lv (.int .i64 ((i : Int))) (Fx.x_move rfl h3) (Fx.Lv (.slice a (l.length) (c)) (Fx.x_move rfl h1) (Fx.Lv (.int .i64 ((l.length : Int))) (Fx.x_len rfl rfl rfl (by kernel_rfl)) ?_)))))
 by_cases c14 : (i : Int) < (l.length : Int)
 ·refine Fx.Lv (.bool true) (Fx.x_lssT rfl rfl rfl c14) (Fx.Ln (Fx.sN (Fx.Wc (b := true) rfl (fun _ => Fx.Wk (Fx.sN (Fx.Ws (Fx.W.block (Fx.Ws ?_))))) (fun h => nomatch h))))
  -- region 6 draws
  refine Fx.W.quiet (fun v1 => ∃ q, v1 = World.drewN w1 q) (by kernel_rfl) (by kernel_rfl) ⟨1, rfl⟩ ?_
  refine Fx.Qv (.slice a (l.length) (c)) (fun v1 hv1 => Fx.x_move rfl h1) (Fx.Qv (.int .i64 ((i : Int))) (fun v1 hv1 => Fx.x_move rfl h3) ?_)
  obtain ⟨bq1, oq1, eq1, m1⟩ := (hA1.up b1 rfl) (by omega)
  have lbq1 : bq1 < w1.heap.size := m1.lt (by omega)
  refine Fx.Qv ((pf bq1 (i + oq1))) (fun v1 hv1 => Fx.x_indexS rfl (rfl.trans (congrArg (fun q => Value.slice q (l.length) (c)) eq1)) rfl Try.underlying33 (s := 1) (by kernel_rfl) (by omega) (by omega) (by omega)) (Fx.Qv (.int .u64 (l.getD i 0)) (fun v1 hv1 => Fx.x_load1 (x := lsU l) rfl rfl (by kernel_rfl) (by obtain ⟨qd, rfl⟩ := hv1; exact m1) (i := i) (by omega) (by omega) rfl) (Fx.Qv (.slice a2 (l.length) (c2)) (fun v1 hv1 => Fx.x_move rfl h2) (Fx.Qv (.int .i64 ((i : Int))) (fun v1 hv1 => Fx.x_move rfl h3) ?_)))
  obtain ⟨bq2, oq2, eq2, m2⟩ := (hA2.up b1 rfl) (by omega)
  have lbq2 : bq2 < w1.heap.size := m2.lt (by omega)
  refine Fx.Qv ((pf bq2 (i + oq2))) (fun v1 hv1 => Fx.x_indexS rfl (rfl.trans (congrArg (fun q => Value.slice q (l.length) (c2)) eq2)) rfl Try.underlying33 (s := 1) (by kernel_rfl) (by omega) (by omega) (by omega)) (Fx.Qv (.int .u64 (l.getD i 0)) (fun v1 hv1 => Fx.x_load1 (x := lsU l) rfl rfl (by kernel_rfl) (by obtain ⟨qd, rfl⟩ := hv1; exact m2) (i := i) (by omega) (by omega) rfl) (Fx.Qv (.bool false) (fun v1 hv1 => Fx.x_neqF rfl rfl rfl rfl) (Fx.Qt.nil ?_)))
  rintro _ ⟨qd, rfl⟩
  obtain ⟨wq1, ewq1⟩ : ∃ v1, v1 = World.drewN w1 qd := ⟨_, rfl⟩
  rw [← ewq1]
  have s1 : Fx.Stp w1.heap.size w1 wq1 := by rw [ewq1]; exact Fx.Sb (bdrN w1 qd)
  have b2 := s1.below b1 b1.size b1.size
  clear ewq1
  refine Fx.sN (Fx.Wc (b := false) rfl (fun h => nomatch h) (fun _ => Fx.Wk (Fx.blkN (Fx.sN (Fx.Wl (Fx.Lv (.int .i64 ((i : Int))) (Fx.x_move rfl h3) (Fx.Lv (.int .i64 ((i : Int) + 1)) (Fx.x_add rfl rfl rfl Fx.io) (Fx.Lv (.int .i64 ((i : Int) + 1)) (Fx.x_assign rfl rfl) (Fx.Ln (Fx.lpN ⟨i + 1, (by omega), h1, h2, Fx.ic, b2⟩ ?_))))))))))
  show ((l.length : Int) - intOf ((.int .i64 ((i : Int) + 1)))).toNat < _
  simp only [h3, intOf]; omega
 refine Fx.Lv (.bool false) (Fx.x_lssF rfl rfl rfl c14) (Fx.Ln (Fx.sN (Fx.Wc (b := false) rfl (fun h => nomatch h) (fun _ => Fx.W.exit (Fx.seqX (Fx.lpX (Fx.blkX (Fx.sN (Fx.Ws (Fx.Wl (Fx.Lv (.bool true) (Fx.x_assign rfl rfl) (Fx.Ln (Fx.sN (Fx.Wr (⟨.bool true, Fx.rV Try.results9 (by exact rfl), ?_⟩)))))))))))))))
 exact ⟨rfl, b1⟩
theorem t_sameE (l m : List Int) (c c2 : Nat) (a a2 : Option Addr) (w : World) (e : m = l) (h1 : Fx.Arr w a l.length 1 (lsU l)) (h2 : Fx.Arr w a2 m.length 1 (lsU m)) (hl : l.length ≤ 1000) :
    Calls Try.prog 9 #[.slice a (l.length) (c), .slice a2 (m.length) (c2)] w fun e w' => e = .returned (.bool true) ∧ Below w.heap.size w w' := by
  subst e; exact t_same _ c c2 a a2 w h1 h2 hl
theorem t_id (o q : Nat) (w : World) (ho : 1 ≤ o ∧ o ≤ 6) (hq : 1 ≤ q ∧ q < 1099511627776) :
    Calls Try.prog 13 #[.int .i64 ((o : Int)), .int .u64 ((q : Int))] w fun e w' => e = .returned (.int .u64 (1099511627776 * (o : Int) + (q : Int))) ∧ w' = w := by
 refine Fx.enter Try.func13 rfl (n := 24) rfl (by rfl) ?_
 refine Fx.Ws (Fx.Wl (Fx.Lv (.int .u64 (0)) (Fx.x_assign rfl rfl) (Fx.Ln (Fx.sN (Fx.Ws (Fx.Ws (Fx.Wl (Fx.Lv (.int .i64 ((o : Int))) (Fx.x_move rfl rfl) (Fx.Lv (.bool false) (Fx.x_lssF rfl rfl rfl (by omega)) (Fx.Lv (.bool false) (Fx.x_move rfl rfl) (Fx.Lv (.int .i64 ((o : Int))) (Fx.x_move rfl rfl) (Fx.Lv (.bool false) (Fx.x_gtrF rfl rfl rfl (by omega)) (Fx.Lv (.bool false) (Fx.x_pickF rfl rfl rfl) (Fx.Lv (.bool false) (Fx.x_move rfl rfl) (Fx.Lv (.int .u64 ((q : Int))) (Fx.x_move rfl rfl) (Fx.Lv (.bool false) (Fx.x_lssF rfl rfl rfl (by omega)) (Fx.Lv (.bool false) (Fx.x_pickF rfl rfl rfl) (Fx.Lv (.bool false) (Fx.x_move rfl rfl) (Fx.Lv (.int .u64 ((q : Int))) (Fx.x_move rfl rfl) (Fx.Lv (.bool false) (Fx.x_geqF rfl rfl rfl (by omega)) (Fx.Lv (.bool false) (Fx.x_pickF rfl rfl rfl) (Fx.Ln (Fx.sN (Fx.Wc (b := false) rfl (fun h => nomatch h) (fun _ => Fx.Wk (Fx.sN (Fx.Ws (Fx.Wl (Fx.Lv (.int .i64 ((o : Int))) (Fx.x_move rfl rfl) (Fx.Lv (.int .u64 ((o : Int))) (Fx.x_conv rfl rfl (by kernel_rfl) Try.underlying28 (Fx.u64e (by omega) rfl)) (Fx.Lv (.int .u64 (1099511627776 * (o : Int))) (Fx.x_shl (b := 40) rfl rfl rfl (by decide) (Fx.u64e (by omega) (by omega))) (Fx.Lv (.int .u64 ((q : Int))) (Fx.x_move rfl rfl) (Fx.Lv (.int .u64 (1099511627776 * (o : Int) + (q : Int))) (Fx.x_or40 rfl rfl rfl (by omega) (by omega)) (Fx.Lv (.int .u64 (1099511627776 * (o : Int) + (q : Int))) (Fx.x_assign rfl rfl) (Fx.Ln (Fx.sN (Fx.Wr (⟨.int .u64 (1099511627776 * (o : Int) + (q : Int)), Fx.rV Try.results13 (by exact rfl), ?_⟩))))))))))))))))))))))))))))))))))))))
 exact ⟨rfl, rfl⟩
end Go.Proofs.Ytahbiajdgealnaa
namespace Go.Proofs.Ytahbiajdgealnaa
open Go.RowKit
open Rt
set_option maxRecDepth 10000
theorem Rt.works_56 (k : Int) : (TrM.has (TrM.add (TrM.add (TrM.add TrM.zero 5 0) 6 5) 7 9) k = true ∧ 5 ∈ TrM.path (TrM.add (TrM.add (TrM.add TrM.zero 5 0) 6 5) 7 9) k) ↔ k ∈ [5, 6] := by
  have e : TrM.has (TrM.add (TrM.add (TrM.add TrM.zero 5 0) 6 5) 7 9) k = (decide (5 = k) || decide (6 = k)) := by
    show ((false || decide (5 = k)) || decide (6 = k)) = _
    rw [Bool.false_or]
  rw [e, Bool.or_eq_true, decide_eq_true_eq, decide_eq_true_eq, List.mem_cons, List.mem_cons]
  constructor
  · rintro ⟨h1 | h1, _⟩
    · exact .inl h1.symm
    exact .inr (.inl h1.symm)
  rintro (rfl | rfl | h1)
  · exact ⟨.inl rfl, by decide⟩
  · exact ⟨.inr rfl, by decide⟩
  cases h1
theorem w_works (w : World) :
    Calls Try.prog 5 #[] w fun e w' => e = .returned (.bool true) ∧ Below w.heap.size w w' := by
 refine Fx.enter Try.func5 rfl (n := 47) rfl (by rfl) ?_
 refine Fx.Ws (Fx.Wl (Fx.Lv (.bool false) (Fx.x_assign rfl rfl) (Fx.Ln (Fx.sN (Fx.Ws (Fx.Wl (Fx.L.call (by rfl) (Fx.rC (args := []) rfl rfl Try.func6 rfl rfl) rfl ((w_new _).mono ?_))))))))
 rintro e9 w1 ⟨tp1, mb1, he, hg1, m1, hb1⟩
 refine ⟨_, he, ?_⟩
 clear he
 have s1 := Fx.Sb hb1
 have b1 := s1.below (Below.refl w.heap.size w) (Below.refl w.heap.size w).size (Below.refl w.heap.size w).size
 have m2 : TrW w1 (w.heap.size) tp1 mb1 TrM.zero := m1.weak (Below.refl w.heap.size w).size
 clear m1 hg1
 refine Fx.Lv ((pt tp1)) (Fx.x_assign rfl rfl) (Fx.Ln (Fx.sN (Fx.Ws (Fx.Wl (Fx.Lv ((pt tp1)) (Fx.x_move rfl rfl) (Fx.L.call (by rfl) (Fx.rC (args := [(pt tp1), .int .u64 (5), .int .u64 (0)]) rfl rfl Try.func7 rfl rfl) rfl ((w_add 5 0 m2 (by omega)).mono ?_)))))))
 rintro e9 w2 ⟨he, m3, s2⟩
 refine ⟨_, he, ?_⟩
 clear he
 have hcm1 := m2.chm s2
 have b2 := s2.below b1 b1.size m2.gm
 refine Fx.Lv (.int .i64 (TrM.err TrM.zero 5 0)) (Fx.x_assign rfl rfl) (Fx.Ln (Fx.sN (Fx.Ws (Fx.Wl (Fx.Lv ((pt tp1)) (Fx.x_move rfl rfl) (Fx.L.call (by rfl) (Fx.rC (args := [(pt tp1), .int .u64 (6), .int .u64 (5)]) rfl rfl Try.func7 rfl rfl) rfl ((w_add 6 5 m3 (by omega)).mono ?_)))))))
 rintro e9 w3 ⟨he, m4, s3⟩
 refine ⟨_, he, ?_⟩
 clear he
 have hcm2 := m3.chm s3
 have b3 := s3.below b2 b2.size m3.gm
 refine Fx.Lv (.int .i64 (TrM.err (TrM.add TrM.zero 5 0) 6 5)) (Fx.x_assign rfl rfl) (Fx.Ln (Fx.sN (Fx.Ws (Fx.Wl (Fx.Lv ((pt tp1)) (Fx.x_move rfl rfl) (Fx.L.call (by rfl) (Fx.rC (args := [(pt tp1), .int .u64 (7), .int .u64 (9)]) rfl rfl Try.func7 rfl rfl) rfl ((w_add 7 9 m4 (by omega)).mono ?_)))))))
 rintro e9 w4 ⟨he, m5, s4⟩
 refine ⟨_, he, ?_⟩
 clear he
 have hcm3 := m4.chm s4
 have b4 := s4.below b3 b3.size m4.gm
 refine Fx.Lv (.int .i64 (TrM.err (TrM.add (TrM.add TrM.zero 5 0) 6 5) 7 9)) (Fx.x_assign rfl rfl) (Fx.Ln (Fx.sN (Fx.Ws (Fx.Wl (Fx.Lv (.int .i64 (TrM.err TrM.zero 5 0)) (Fx.x_move rfl rfl) (Fx.Lv (.bool true) (Fx.x_eqlT rfl rfl rfl (by decide)) (Fx.Lv (.bool true) (Fx.x_move rfl rfl) (Fx.Lv (.int .i64 (TrM.err (TrM.add TrM.zero 5 0) 6 5)) (Fx.x_move rfl rfl) (Fx.Lv (.bool true) (Fx.x_eqlT rfl rfl rfl (by decide)) (Fx.Lv (.bool true) (Fx.x_pickT rfl rfl rfl) (Fx.Lv (.bool true) (Fx.x_move rfl rfl) (Fx.Lv (.int .i64 (TrM.err (TrM.add (TrM.add TrM.zero 5 0) 6 5) 7 9)) (Fx.x_move rfl rfl) (Fx.Lv (.bool true) (Fx.x_eqlT rfl rfl rfl (by decide)) (Fx.Lv (.bool true) (Fx.x_pickT rfl rfl rfl) (Fx.Lv (.bool true) (Fx.x_move rfl rfl) (Fx.Lv ((pt tp1)) (Fx.x_move rfl rfl) (Fx.L.call (by rfl) (Fx.rC (args := [(pt tp1), .int .u64 (6)]) rfl rfl Try.func11 rfl rfl) rfl ((w_path 6 m5).mono ?_))))))))))))))))))
 rintro e9 w5 ⟨pa1, pc1, he, m6, hb2⟩
 refine ⟨_, he, ?_⟩
 clear he
 have s5 := Fx.Sb hb2
 have m7 := m5.up s5.old
 have b5 := s5.below b4 b4.size b4.size
 refine Fx.L.bslice (vs := [(0, .int .u64 (6)), (1, .int .u64 (5))]) (s := 1) (zc := Fx.rv .u64 (fun _ => 0)) (y := Fx.ovr (Fx.ovr (fun j => (Fx.rv .u64 (fun _ => 0)) (j % 1)) (0 * 1) 1 (fun _ => .int .u64 (6))) (1 * 1) 1 (fun _ => .int .u64 (5))) (by rfl) rfl rfl Try.underlying33 (by kernel_rfl) (by rfl) (by rfl) (by kernel_rfl) (by rw [Fx.fill_step (off := 0 * 1) (s := 1) (y := fun _ => .int .u64 (6)) rfl (Fx.cells_one (by rfl)) (by rfl)]; rw [Fx.fill_step (off := 1 * 1) (s := 1) (y := fun _ => .int .u64 (5)) rfl (Fx.cells_one (by rfl)) (by rfl)]; rfl) rfl fun g1 w6 eg1 m8 s6 z1 => ?_
 have m9 := m7.up s6.old
 have m10 := m6.stp s6 (m6.notNew (Nat.le_refl _))
 have b6 := s6.below b5 b5.size b5.size
 have lg1 : w.heap.size ≤ g1 := by rw [eg1]; exact b5.size
 have ng1m10 : (.slice pa1 ((TrM.path (TrM.add (TrM.add (TrM.add TrM.zero 5 0) 6 5) 7 9) 6).length) (pc1) : Value).ownBlock ≠ some g1 := by rw [eg1]; exact m6.notNew (Nat.le_refl _)
 have tg1 : g1 < w6.heap.size := m8.lt
 clear eg1
 refine Fx.L.call (by rfl) (Fx.rC (args := [.slice pa1 ((TrM.path (TrM.add (TrM.add (TrM.add TrM.zero 5 0) 6 5) 7 9) 6).length) (pc1), .slice (some ⟨g1, 0, none⟩) (2) (2)]) rfl rfl Try.func9 rfl rfl) rfl ((t_sameE (TrM.path (TrM.add (TrM.add (TrM.add TrM.zero 5 0) 6 5) 7 9) 6) ([6, 5]) pc1 2 _ _ _ (show ([6, 5] : List Int) = TrM.path (TrM.add (TrM.add (TrM.add TrM.zero 5 0) 6 5) 7 9) 6 from by decide) (Fx.arr_of m10) (Fx.arr_lit m8 rfl (fun j hj => by match j, hj with | 0, _ => rfl | 1, _ => rfl | n + 2, h => exact absurd h (by simp))) (by decide)).mono ?_)
 rintro e w7 ⟨he, hb3⟩
 refine ⟨.bool true, by rw [he], ?_⟩
 clear he
 have s7 := Fx.Sb hb3
 have m11 := m9.up s7.old
 have m12 := m10.stp s7 (m10.notNew (Nat.le_refl _))
 have m13 := m8.stp s7 m8.ne
 have b7 := s7.below b6 b6.size b6.size
 refine Fx.Lv (.bool true) (Fx.x_pickT rfl rfl rfl) (Fx.Lv (.bool true) (Fx.x_move rfl rfl) (Fx.Lv ((pt tp1)) (Fx.x_move rfl rfl) (Fx.L.call (by rfl) (Fx.rC (args := [(pt tp1), .int .u64 (5)]) rfl rfl Try.func12 rfl rfl) rfl ((w_below 5 m11).mono ?_))))
 rintro e9 w8 ⟨la1, lc1, ll1, he, m14, hq1, khq1, hb4⟩
 obtain rfl : ll1 = [5, 6] := rise_uniq hq1.1 (by decide) (fun k => (hq1.2 k).trans (works_56 k))
 refine ⟨_, he, ?_⟩
 clear he
 have s8 := Fx.Sb hb4
 have m15 := m11.up s8.old
 have m16 := m12.stp s8 (m12.notNew (Nat.le_refl _))
 have m17 := m13.stp s8 m13.ne
 have b8 := s8.below b7 b7.size b7.size
 refine Fx.L.bslice (vs := [(0, .int .u64 (5)), (1, .int .u64 (6))]) (s := 1) (zc := Fx.rv .u64 (fun _ => 0)) (y := Fx.ovr (Fx.ovr (fun j => (Fx.rv .u64 (fun _ => 0)) (j % 1)) (0 * 1) 1 (fun _ => .int .u64 (5))) (1 * 1) 1 (fun _ => .int .u64 (6))) (by rfl) rfl rfl Try.underlying33 (by kernel_rfl) (by rfl) (by rfl) (by kernel_rfl) (by rw [Fx.fill_step (off := 0 * 1) (s := 1) (y := fun _ => .int .u64 (5)) rfl (Fx.cells_one (by rfl)) (by rfl)]; rw [Fx.fill_step (off := 1 * 1) (s := 1) (y := fun _ => .int .u64 (6)) rfl (Fx.cells_one (by rfl)) (by rfl)]; rfl) rfl fun g2 w9 eg2 m18 s9 z2 => ?_
 have m19 := m15.up s9.old
 have m22 := m14.stp s9 (m14.notNew (Nat.le_refl _))
 have b9 := s9.below b8 b8.size b8.size
 have lg2 : w.heap.size ≤ g2 := by rw [eg2]; exact b8.size
 have ng2m20 : (.slice pa1 ((TrM.path (TrM.add (TrM.add (TrM.add TrM.zero 5 0) 6 5) 7 9) 6).length) (pc1) : Value).ownBlock ≠ some g2 := by rw [eg2]; exact m16.notNew (Nat.le_refl _)
 have ng2m21 : g1 ≠ g2 := by rw [eg2]; exact Nat.ne_of_lt (m17.lt)
 have ng2m22 : (.slice la1 (([5, 6] : List Int).length) (lc1) : Value).ownBlock ≠ some g2 := by rw [eg2]; exact m14.notNew (Nat.le_refl _)
 have tg2 : g2 < w9.heap.size := m18.lt
 clear eg2
 refine Fx.L.call (by rfl) (Fx.rC (args := [.slice la1 (([5, 6] : List Int).length) (lc1), .slice (some ⟨g2, 0, none⟩) (2) (2)]) rfl rfl Try.func9 rfl rfl) rfl ((t_sameE ([5, 6] : List Int) ([5, 6]) lc1 2 _ _ _ (show ([5, 6] : List Int) = [5, 6] from rfl) (Fx.arr_of m22) (Fx.arr_lit m18 rfl (fun j hj => by match j, hj with | 0, _ => rfl | 1, _ => rfl | n + 2, h => exact absurd h (by simp))) (by decide)).mono ?_)
 rintro e w10 ⟨he, hb5⟩
 refine ⟨.bool true, by rw [he], ?_⟩
 clear he
 have s10 := Fx.Sb hb5
 have m23 := m19.up s10.old
 have b10 := s10.below b9 b9.size b9.size
 refine Fx.Lv (.bool true) (Fx.x_pickT rfl rfl rfl) (Fx.Lv (.bool true) (Fx.x_move rfl rfl) (Fx.Lv ((pt tp1)) (Fx.x_move rfl rfl) (Fx.L.call (by rfl) (Fx.rC (args := [(pt tp1), .int .u64 (6)]) rfl rfl Try.func8 rfl rfl) rfl ((w_has 6 m23).mono ?_))))
 rintro e v1 ⟨he, hv1⟩
 subst v1
 refine ⟨.bool true, by rw [he, (show TrM.has (TrM.add (TrM.add (TrM.add TrM.zero 5 0) 6 5) 7 9) 6 = true from by decide)], ?_⟩
 clear he
 refine Fx.Lv (.bool true) (Fx.x_pickT rfl rfl rfl) (Fx.Lv (.bool true) (Fx.x_move rfl rfl) (Fx.Lv ((pt tp1)) (Fx.x_move rfl rfl) (Fx.L.call (by rfl) (Fx.rC (args := [(pt tp1), .int .u64 (7)]) rfl rfl Try.func8 rfl rfl) rfl ((w_has 7 m23).mono ?_))))
 rintro e v1 ⟨he, hv1⟩
 subst v1
 refine ⟨.bool false, by rw [he, (show TrM.has (TrM.add (TrM.add (TrM.add TrM.zero 5 0) 6 5) 7 9) 7 = false from by decide)], ?_⟩
 clear he
 refine Fx.Lv (.bool true) (Fx.x_notT rfl rfl) (Fx.Lv (.bool true) (Fx.x_pickT rfl rfl rfl) (Fx.Lv (.bool true) (Fx.x_move rfl rfl) (Fx.L.call (by rfl) (Fx.rC (args := [.int .i64 (1), .int .u64 (1)]) rfl rfl Try.func13 rfl rfl) rfl ((t_id 1 1 _ (by omega) (by omega)).mono ?_))))
 rintro e v1 ⟨he, hv1⟩
 subst v1
 refine ⟨.int .u64 (1099511627776 * ((1 : Nat) : Int) + ((1 : Nat) : Int)), by rw [he], ?_⟩
 clear he
 refine Fx.Lv (.bool true) (Fx.x_eqlT rfl rfl rfl (by decide)) (Fx.Lv (.bool true) (Fx.x_pickT rfl rfl rfl) (Fx.Lv (.bool true) (Fx.x_assign rfl rfl) (Fx.Ln (Fx.sN (Fx.Wr (⟨.bool true, Fx.rV Try.results5 (by exact rfl), ?_⟩))))))
 exact ⟨rfl, b10⟩
end Go.Proofs.Ytahbiajdgealnaa
namespace Go.Proofs.Ytahbiajdgealnaa
open Go.RowKit Go
set_option linter.unusedVariables false
namespace Rt
theorem pigeon : ∀ (n m : Nat) (f : Nat → Nat), (∀ i, i < m → f i < n) → (∀ i j, i < m → j < m → f i = f j → i = j) → m ≤ n
  | 0, m, f, h1, _ => by
    rcases Nat.eq_zero_or_pos m with h | h
    · omega
    · have := h1 0 h; omega
  | n + 1, m, f, h1, h2 => by
    rcases Nat.eq_zero_or_pos m with h | h
    · omega
    by_cases hx : ∃ i0, i0 < m ∧ f i0 = n
    · obtain ⟨i0, hi, e⟩ := hx
      have := pigeon n (m - 1) (fun j => f (if j = i0 then m - 1 else j)) (fun j hj => by
        have h3 := h1 (if j = i0 then m - 1 else j) (by split <;> omega)
        have h4 : f (if j = i0 then m - 1 else j) ≠ n := fun e2 => by
          have := h2 _ i0 (by split <;> omega) hi (e2.trans e.symm)
          split at this <;> omega
        show f _ < n
        omega) (fun i j hi2 hj2 e2 => by
        have := h2 _ _ (by split <;> omega) (by split <;> omega) e2
        split at this <;> split at this <;> omega)
      omega
    · have := pigeon n m f (fun i hi => by
        have := h1 i hi
        have : f i ≠ n := fun e => hx ⟨i, hi, e⟩
        omega) h2
      omega
section
variable {T U : TrM} {id pa k : Int} {i : Nat}
theorem TrM.add_yes (h : T.err id pa = 0) : T.add id pa = T.put id pa := if_pos h
theorem TrM.add_no (h : ¬ T.err id pa = 0) : T.add id pa = T := if_neg h
theorem TrM.has_x (hi : i < T.n) : T.has (T.x i) = true := hasK_yes hi rfl
theorem TrM.par_x (h : T.ok) (hi : i < T.n) : T.par (T.x i) = T.p i := parK_at h.inj hi rfl
theorem TrM.step (h : T.ok) (hk : T.has k = true) : T.path k = k :: T.path (T.par k) := by
  have h3 : stopK T.x T.p T.n 3 (T.par k) := h.stop k hk
  show (if hasK T.x T.n k = true then k :: upK T.x T.p T.n 3 (T.par k) else []) = _
  rw [if_pos (show hasK T.x T.n k = true from hk), ← (upK_le h3 (show 3 ≤ 4 by omega)).1]; rfl
theorem TrM.step_x (h : T.ok) (hi : i < T.n) : T.path (T.x i) = T.x i :: T.path (T.p i) := by rw [TrM.step h (TrM.has_x hi), TrM.par_x h hi]
theorem TrM.path_le : (T.path k).length ≤ 4 := upK_len
theorem TrM.path_0 (h : T.ok) : T.path 0 = [] := TrI.path0 h 4
theorem SubT.zero (T : TrM) : SubT TrM.zero T := ⟨fun _ h => (nomatch h), fun _ h => (nomatch h)⟩
theorem SubT.path (hT : T.ok) (hU : U.ok) (h : SubT U T) : ∀ (d : Nat) (k : Int), (k = 0 ∨ U.has k = true) → upK U.x U.p U.n d k = upK T.x T.p T.n d k
  | 0, _, _ => rfl
  | d + 1, k, hk => by
    rcases hk with rfl | hk
    · rw [upK_no (TrI.has0 hU), upK_no (TrI.has0 hT)]
    · unfold upK
      have h1 : hasK U.x U.n k = true := hk
      have h2 : hasK T.x T.n k = true := h.has k hk
      have h3 : parK U.x U.p U.n k = parK T.x T.p T.n k := h.par k hk
      rw [if_pos h1, if_pos h2, ← h3, SubT.path hT hU h d]
      exact TrI.up hU hk
theorem SubT.lt (hU : U.ok) (h : SubT U T) (hi : i < T.n) (hn : U.has (T.x i) = false) : U.n < T.n := by
  have each : ∀ j, ∃ q, j < U.n → q < T.n ∧ T.x q = U.x j := fun j => by
    by_cases hj : j < U.n
    · obtain ⟨q, h1, h2⟩ := hasK_at (h.has _ (TrM.has_x hj))
      exact ⟨q, fun _ => ⟨h1, h2⟩⟩
    · exact ⟨0, fun h => absurd h hj⟩
  obtain ⟨f, hf⟩ := Classical.axiomOfChoice each
  have := pigeon T.n (U.n + 1) (fun j => if j = U.n then i else f j) (fun j hj => by
    show (if j = U.n then i else f j) < T.n
    split
    · exact hi
    · exact (hf j (by omega)).1) (fun a b ha hb e => by
    have ne : ∀ j, j < U.n → f j ≠ i := fun j hj e => by
      have h1 := (hf j hj).2
      rw [e] at h1
      rw [h1, TrM.has_x hj] at hn; cases hn
    have e : (if a = U.n then i else f a) = (if b = U.n then i else f b) := e
    by_cases h1 : a = U.n
    · by_cases h2 : b = U.n
      · omega
      · rw [if_pos h1, if_neg h2] at e; exact absurd e.symm (ne b (by omega))
    · by_cases h2 : b = U.n
      · rw [if_neg h1, if_pos h2] at e; exact absurd e (ne a (by omega))
      · rw [if_neg h1, if_neg h2] at e
        have h3 := (hf a (by omega)).2
        have h4 := (hf b (by omega)).2
        rw [e] at h3
        exact hU.inj a b (by omega) (by omega) (h3.symm.trans h4))
  omega
theorem SubT.add (hT : T.ok) (hU : U.ok) (h : SubT U T) (hi : i < T.n) (hp : T.p i = 0 ∨ U.has (T.p i) = true) :
    SubT (U.add (T.x i) (T.p i)) T ∧ (U.add (T.x i) (T.p i)).has (T.x i) = true ∧ ∀ k, U.has k = true → (U.add (T.x i) (T.p i)).has k = true := by
  cases hh : U.has (T.x i) with
  | true =>
    have e : U.add (T.x i) (T.p i) = U := by
      refine TrM.add_no fun h0 => ?_
      have := (add_ok h0).2.1
      rw [show hasK U.x U.n (T.x i) = U.has (T.x i) from rfl, hh] at this; cases this
    rw [e]; exact ⟨h, hh, fun _ h => h⟩
  | false =>
    have hx0 := (hT.pos i hi).1
    have hlt := SubT.lt hU h hi hh
    have hsm := hT.small
    have e0 : U.err (T.x i) (T.p i) = 0 := by
      unfold TrM.err addC
      rw [if_neg (by omega), if_neg (by rw [show hasK U.x U.n (T.x i) = U.has (T.x i) from rfl, hh]; decide), if_neg, if_neg]
      · rintro (h1 | h1)
        · omega
        · have h2 := SubT.path hT hU h 4 (T.p i) hp
          rw [h2] at h1
          have h3 := TrM.step_x hT hi
          have h4 : (T.path (T.x i)).length ≤ 4 := TrM.path_le
          rw [h3, List.length_cons] at h4
          have h1 : 4 ≤ (T.path (T.p i)).length := h1
          omega
      · rintro ⟨h1, h2⟩
        rcases hp with h3 | h3
        · exact h1 h3
        · rw [show hasK U.x U.n (T.p i) = U.has (T.p i) from rfl, h3] at h2; cases h2
    rw [TrM.add_yes e0]
    refine ⟨⟨fun k hk => ?_, fun k hk => ?_⟩, ?_, fun k hk => ?_⟩
    · rw [TrM.has_put, Bool.or_eq_true] at hk
      rcases hk with hk | hk
      · exact h.has k hk
      · rw [← of_decide_eq_true hk]; exact TrM.has_x hi
    · rw [TrM.has_put, Bool.or_eq_true] at hk
      rw [TrM.par_put]
      split
      · rename_i e; subst e; exact (TrM.par_x hT hi).symm
      · rename_i e
        rcases hk with hk | hk
        · exact h.par k hk
        · exact absurd (of_decide_eq_true hk) e
    · rw [TrM.has_put, decide_eq_true rfl, Bool.or_true]
    · rw [TrM.has_put, hk, Bool.true_or]
structure Rnd (T U : TrM) (r k : Nat) : Prop where
  sub : SubT U T
  fst : ∀ j, j < r → j < T.n → U.has (T.x j) = true
  nxt : k ≤ r → r < T.n → U.has (T.x r) = true
theorem Rnd.start (T : TrM) : ∀ {r : Nat}, r = 0 → Rnd T TrM.zero r T.n := fun e => ⟨SubT.zero T, fun j h => by omega, fun h1 h2 => by omega⟩
theorem Rnd.add {r k : Nat} (hT : T.ok) (hU : U.ok) (h : Rnd T U r k) (hk : 0 < k) (hkn : k ≤ T.n) (hp : T.p (k - 1) = 0 ∨ U.has (T.p (k - 1)) = true) : Rnd T (U.add (T.x (k - 1)) (T.p (k - 1))) r (k - 1) := by
  obtain ⟨h1, h2, h3⟩ := SubT.add hT hU h.sub (show k - 1 < T.n by omega) hp
  refine ⟨h1, fun j hj hn => h3 _ (h.fst j hj hn), fun hr hn => ?_⟩
  by_cases e : k ≤ r
  · exact h3 _ (h.nxt e hn)
  obtain rfl : r = k - 1 := by omega
  exact h2
theorem Rnd.skip {r k : Nat} (hT : T.ok) (h : Rnd T U r k) (hk : 0 < k) (hkn : k ≤ T.n) (hp : ¬ T.p (k - 1) = 0) (hq : U.has (T.p (k - 1)) = false) : Rnd T U r (k - 1) := by
  refine ⟨h.sub, h.fst, fun hr hn => ?_⟩
  by_cases e : k ≤ r
  · exact h.nxt e hn
  obtain rfl : r = k - 1 := by omega
  rcases hT.par (k - 1) (by omega) with h1 | ⟨i, hi, h1⟩
  · exact absurd h1 hp
  rw [← h1, h.fst i hi (by omega)] at hq; cases hq
theorem Rnd.next {r : Nat} (h : Rnd T U r 0) : Rnd T U (r + 1) T.n :=
  ⟨h.sub, fun j hj hn => by
    by_cases e : j = r
    · subst e; exact h.nxt (Nat.zero_le _) hn
    · exact h.fst j (by omega) hn, fun h1 h2 => by omega⟩
theorem Rnd.all {r k : Nat} (h : Rnd T U r k) (hr : T.n ≤ r) : ∀ k, T.has k = true → U.has k = true := fun k hk => by
  obtain ⟨j, hj, rfl⟩ := hasK_at hk
  exact h.fst j (by omega) hj
theorem Rnd.path {r k : Nat} (h : Rnd T U r k) (hr : T.n ≤ r) (q : Int) : U.path q = T.path q := h.sub.same (h.all hr) q
theorem Rnd.list {r k : Nat} (h : Rnd T U r k) (hr : T.n ≤ r) {l m : List Int} (hl : l.Pairwise (· < ·) ∧ ∀ k, k ∈ l ↔ T.has k = true) (hm : m.Pairwise (· < ·) ∧ ∀ k, k ∈ m ↔ U.has k = true) : m = l :=
  rise_uniq hm.1 hl.1 fun k => (hm.2 k).trans (Iff.trans ⟨h.sub.has k, h.all hr k⟩ (hl.2 k).symm)
theorem on_below {i k : Nat} {l : List Int} {on bl : Bool} (hi : i < T.n) (h1 : on = true ↔ T.x k ∈ T.path (T.x i)) (hl : ∀ q, q ∈ l ↔ (T.has q = true ∧ T.x k ∈ T.path q)) (h2 : bl = true ↔ T.x i ∈ l) : on = bl := by
  have : on = true ↔ bl = true := by
    rw [h1, h2, hl]
    exact ⟨fun h => ⟨TrM.has_x hi, h⟩, fun h => h.2⟩
  cases on <;> cases bl <;> simp_all
end
def Fnd (l : List Int) (v : Int) (n : Nat) (b : Bool) : Prop := b = true ↔ ∃ j, j < n ∧ j < l.length ∧ l.getD j 0 = v
theorem Fnd.zero (l : List Int) (v : Int) : Fnd l v 0 false := ⟨fun h => (nomatch h), fun ⟨j, h, _⟩ => absurd h (Nat.not_lt_zero _)⟩
theorem Fnd.keep {l : List Int} {v : Int} {n : Nat} (h : Fnd l v n true) : Fnd l v (n + 1) true := ⟨fun _ => by obtain ⟨j, h1, h2⟩ := h.1 rfl; exact ⟨j, by omega, h2⟩, fun _ => rfl⟩
theorem Fnd.yes {l : List Int} {v : Int} {n : Nat} (hn : n < l.length) (e : l.getD n 0 = v) : Fnd l v (n + 1) true := ⟨fun _ => ⟨n, by omega, hn, e⟩, fun _ => rfl⟩
theorem Fnd.no {l : List Int} {v : Int} {n : Nat} (h : Fnd l v n false) (e : ¬ l.getD n 0 = v) : Fnd l v (n + 1) false := ⟨fun h => (nomatch h), fun ⟨j, h1, h2, h3⟩ => by
  by_cases ej : j = n
  · subst ej; exact absurd h3 e
  · exact h.2 ⟨j, by omega, h2, h3⟩⟩
theorem Fnd.mem {l : List Int} {v : Int} {n : Nat} {b : Bool} (h : Fnd l v n b) (hn : l.length ≤ n) : b = true ↔ v ∈ l := by
  constructor
  · intro hb
    obtain ⟨j, _, h1, h2⟩ := h.1 hb
    exact getD_mem h1 h2
  intro hm
  obtain ⟨j, hj, e⟩ := List.getElem_of_mem hm
  refine h.2 ⟨j, by omega, hj, ?_⟩
  rw [List.getD_eq_getElem?_getD, List.getElem?_eq_getElem hj]; exact e
end Rt
end Go.Proofs.Ytahbiajdgealnaa
namespace Go.Proofs.Ytahbiajdgealnaa
open Go.RowKit Go
set_option linter.unusedVariables false
namespace Rt
def AtI (x : Nat → Int) (v : Int) (j aq : Nat) : Prop := (aq = 0 ∧ ∀ q, q < j → x q ≠ v) ∨ (0 < aq ∧ aq ≤ j ∧ x (aq - 1) = v)
section
variable {x : Nat → Int} {v : Int} {j aq : Nat}
theorem AtI.zero : AtI x v 0 0 := .inl ⟨rfl, fun _ h => absurd h (Nat.not_lt_zero _)⟩
theorem AtI.yes (e : x j = v) : AtI x v (j + 1) (j + 1) := .inr ⟨by omega, by omega, e⟩
theorem AtI.no (h : AtI x v j aq) (e : ¬ x j = v) : AtI x v (j + 1) aq := by
  rcases h with ⟨h1, h2⟩ | ⟨h1, h2, h3⟩
  · refine .inl ⟨h1, fun q hq => ?_⟩
    by_cases eq : q = j
    · subst eq; exact e
    exact h2 q (by omega)
  exact .inr ⟨h1, by omega, h3⟩
end
section
variable {x p : Nat → Int} {n : Nat}
theorem upK_facts : ∀ {d : Nat} {v : Int}, stopK x p n d v → ∀ k, k < (upK x p n d v).length → hasK x n ((upK x p n d v).getD k 0) = true ∧
    (k + 1 < (upK x p n d v).length → (upK x p n d v).getD (k + 1) 0 = parK x p n ((upK x p n d v).getD k 0)) ∧ (k + 1 = (upK x p n d v).length → hasK x n (parK x p n ((upK x p n d v).getD k 0)) = false)
  | 0, v, h, k, hk => absurd hk (Nat.not_lt_zero _)
  | d + 1, v, h, k, hk => by
    cases hv : hasK x n v with
    | false => rw [upK_no hv] at hk; exact absurd hk (Nat.not_lt_zero _)
    | true =>
      have e : upK x p n (d + 1) v = v :: upK x p n d (parK x p n v) := by show (if _ then _ else _) = _; rw [if_pos hv]
      have hs : stopK x p n d (parK x p n v) := h hv
      have ih := @upK_facts d (parK x p n v) hs
      have hd : 0 < (upK x p n d (parK x p n v)).length → (upK x p n d (parK x p n v)).getD 0 0 = parK x p n v := fun h0 => by
        cases d with
        | zero => exact absurd h0 (Nat.not_lt_zero _)
        | succ d =>
          unfold upK at h0 ⊢
          split at h0
          · rename_i hq; rw [if_pos hq]; rfl
          · exact absurd h0 (Nat.not_lt_zero _)
      rw [e] at hk ⊢
      rw [List.length_cons] at hk ⊢
      cases k with
      | zero =>
        rw [List.getD_cons_zero, List.getD_cons_succ]
        refine ⟨hv, fun h1 => hd (by omega), fun h1 => ?_⟩
        cases hq : hasK x n (parK x p n v) with
        | false => rfl
        | true =>
          obtain ⟨e2, _, _, h5⟩ := stopK_pos hs hq
          rw [h5, List.length_cons] at h1; omega
      | succ k =>
        rw [List.getD_cons_succ, List.getD_cons_succ]
        have := ih k (by omega)
        exact ⟨this.1, fun h1 => this.2.1 (by omega), fun h1 => this.2.2 (by omega)⟩
end
section
variable {T : TrM} {id pa k v : Int} {i j aq : Nat} {pl : List Int}
theorem AtI.get (h : AtI T.x v T.n aq) (hv : T.has v = true) : 0 < aq ∧ aq - 1 < T.n ∧ T.x (aq - 1) = v := by
  rcases h with ⟨h1, h2⟩ | ⟨h1, h2, h3⟩
  · obtain ⟨q, hq, e⟩ := hasK_at hv
    exact absurd e (h2 q hq)
  exact ⟨h1, by omega, h3⟩
theorem TrM.pl_has (h : T.ok) (e : pl = T.path v) {q : Nat} (hq : q < pl.length) : T.has (pl.getD q 0) = true := by
  subst e; exact (upK_facts (h.stop v) q hq).1
theorem TrM.pl_next (h : T.ok) (e : pl = T.path v) {q : Nat} (hq : q + 1 < pl.length) (ha : aq - 1 < T.n) (hx : T.x (aq - 1) = pl.getD q 0) : T.p (aq - 1) = pl.getD (q + 1) 0 := by
  subst e
  have := (upK_facts (h.stop v) q (Nat.lt_of_succ_lt hq)).2.1 hq
  have h2 := TrM.par_x h ha
  rw [hx] at h2
  exact h2.symm.trans this.symm
theorem TrM.pl_last (h : T.ok) (e : pl = T.path v) {q : Nat} (hq : q + 1 = pl.length) (ha : aq - 1 < T.n) (hx : T.x (aq - 1) = pl.getD q 0) : T.p (aq - 1) = 0 := by
  subst e
  have h3 := (upK_facts (h.stop v) q (Nat.lt_of_succ_le (Nat.le_of_eq hq))).2.2 hq
  have h2 := TrM.par_x h ha
  rw [hx] at h2
  rw [show parK T.x T.p T.n ((upK T.x T.p T.n 4 v).getD q 0) = T.p (aq - 1) from h2] at h3
  rcases h.par _ ha with h4 | ⟨i, hi, h4⟩
  · exact h4
  rw [← h4, hasK_yes (by omega) rfl] at h3; cases h3
theorem TrM.err_eq (hid : ¬ id = 0) (hp : pa = 0 ∨ T.has pa = true) : T.err id pa = if T.has id = true then 14 else if 32 ≤ T.n ∨ 4 ≤ (T.path pa).length then 6 else 0 := by
  show addC T.x T.p T.n id pa = _
  unfold addC
  rw [if_neg hid]
  have hc : ¬ (¬ pa = 0 ∧ hasK T.x T.n pa = false) := by
    rintro ⟨h1, h2⟩
    rcases hp with h3 | h3
    · exact h1 h3
    · rw [show hasK T.x T.n pa = T.has pa from rfl, h3] at h2; cases h2
  rw [if_neg hc]; rfl
theorem TrM.list_len (h : T.ok) {l : List Int} (hl : l.Pairwise (· < ·) ∧ ∀ k, k ∈ l ↔ T.has k = true) : l.length = T.n := by
  have hin : ∀ a b, a < l.length → b < l.length → l.getD a 0 = l.getD b 0 → a = b := fun a b ha hb e => by
    rw [List.getD_eq_getElem?_getD, List.getD_eq_getElem?_getD, List.getElem?_eq_getElem ha, List.getElem?_eq_getElem hb] at e
    have e : l[a] = l[b] := e
    rcases Nat.lt_trichotomy a b with h1 | h1 | h1
    · have := List.pairwise_iff_getElem.1 hl.1 a b ha hb h1; omega
    · exact h1
    · have := List.pairwise_iff_getElem.1 hl.1 b a hb ha h1; omega
  have each : ∀ q, ∃ r, q < l.length → r < T.n ∧ T.x r = l.getD q 0 := fun q => by
    by_cases hq : q < l.length
    · have hm : l.getD q 0 ∈ l := by rw [List.getD_eq_getElem?_getD, List.getElem?_eq_getElem hq]; exact List.getElem_mem hq
      obtain ⟨r, h1, h2⟩ := hasK_at ((hl.2 _).1 hm)
      exact ⟨r, fun _ => ⟨h1, h2⟩⟩
    · exact ⟨0, fun h => absurd h hq⟩
  have each2 : ∀ q, ∃ r, q < T.n → r < l.length ∧ l.getD r 0 = T.x q := fun q => by
    by_cases hq : q < T.n
    · obtain ⟨r, hr, e⟩ := List.getElem_of_mem ((hl.2 _).2 (TrM.has_x hq))
      exact ⟨r, fun _ => ⟨hr, by rw [List.getD_eq_getElem?_getD, List.getElem?_eq_getElem hr]; exact e⟩⟩
    · exact ⟨0, fun h => absurd h hq⟩
  obtain ⟨f, hf⟩ := Classical.axiomOfChoice each
  obtain ⟨g, hg⟩ := Classical.axiomOfChoice each2
  have h1 := pigeon T.n l.length f (fun q hq => (hf q hq).1) fun a b ha hb e => hin a b ha hb (by rw [← (hf a ha).2, ← (hf b hb).2, e])
  have h2 := pigeon l.length T.n g (fun q hq => (hg q hq).1) fun a b ha hb e => h.inj a b ha hb (by rw [← (hg a ha).2, ← (hg b hb).2, e])
  omega
end
def Apt (v1 v2 : Value) : Prop := ∀ g, v1.ownBlock = some g → v2.ownBlock ≠ some g
section
variable {w w' : World} {v v2 : Value} {B s n g m c : Nat} {E : TypeId} {x : Nat → Value}
theorem Apt.symm (h : Apt v v2) : Apt v2 v := fun g h1 h2 => h g h2 h1
theorem Apt.nil : Apt (.slice none 0 0) v := fun g h => nomatch h
theorem Apt.app (h : Apt v v2) (hO : Fx.Own w B E s v n x) (hv : v2.ownBlock = some g ∨ g = w.heap.size) : Apt v (.slice (some ⟨g, 0, none⟩) m c) := fun q hq e => by
  have e : some g = some q := e
  obtain rfl := Option.some.inj e
  rcases hv with h1 | h1
  · exact h _ hq h1
  · have := (hO.ge hq).2; omega
theorem own_apt (hO : Fx.Own w B E s v n x) (h : Apt v v2) (hg : w.grownBy w' v2.ownBlock) : Fx.Own w' B E s v n x := by
  refine World.ownsRow.kept hO hg ?_
  cases e : v.ownBlock with
  | none => exact .inl rfl
  | some q => exact .inr fun e2 => h q e e2.symm
end
theorem u_app {x : Nat → Int} {n : Nat} {v : Int} {z : Nat → Value} : ∀ j, j < (n + 1) * 1 → Fx.appX (fun q => .int .u64 (x q)) (n * 1) (Fx.ovr z (0 * 1) 1 (fun _ => .int .u64 v)) j = .int .u64 (Fx.putI x n v j) := fun j hj => by
  unfold Fx.appX Fx.ovr Fx.putI
  by_cases e : j < n * 1
  · rw [if_pos e, if_neg (by omega)]
  · rw [if_neg e, if_pos (by omega), if_pos (by omega)]
theorem remT {a : Int} (h : 0 ≤ a) (n : Int) : a.tmod n = a % n := Int.tmod_eq_emod_of_nonneg h
end Rt
end Go.Proofs.Ytahbiajdgealnaa
namespace Go.Proofs.Ytahbiajdgealnaa
open Go.RowKit
open Rt
set_option maxRecDepth 20000
theorem w_belowL (a : Option Addr) (n c : Nat) (pr : Nat → Int) (w : World) (hA : Fx.Arr w a n 1 (fun q => .int .u8 (pr q))) (hpr : ∀ i, i < n → 0 ≤ pr i ∧ pr i ≤ 255) :
    Calls Try.prog 4 #[.slice a (n) (c)] w fun e w' => e = .returned (.bool true) ∧ Below w.heap.size w w' := by
 refine Fx.enter Try.func4 rfl (n := 255) rfl (by rfl) ?_
 refine Fx.Ws (Fx.Wl (Fx.Lv (.bool false) (Fx.x_assign rfl rfl) (Fx.Ln (Fx.sN (Fx.Ws (Fx.Ws (Fx.Wl (Fx.Lv (.slice a (n) (c)) (Fx.x_move rfl rfl) (Fx.Lv (.int .i64 ((n : Int))) (Fx.x_len rfl rfl rfl (by kernel_rfl)) ?_)))))))))
 by_cases c26 : 60 < (n : Int)
 ·refine Fx.Lv (.bool true) (Fx.x_gtrT rfl rfl rfl c26) (Fx.Ln (Fx.sN (Fx.Wc (b := true) rfl (fun _ => Fx.Ws (Fx.Wl (Fx.L.call (by rfl) (Fx.rC (args := []) rfl rfl Try.func5 rfl rfl) rfl ((w_works _).mono ?_)))) (fun h => nomatch h))))
  rintro e w1 ⟨he, hb1⟩
  refine ⟨.bool true, by rw [he], ?_⟩
  clear he
  have s1 := Fx.Sb hb1
  have b1 := s1.below (Below.refl w.heap.size w) (Below.refl w.heap.size w).size (Below.refl w.heap.size w).size
  refine Fx.Lv (.bool true) (Fx.x_assign rfl rfl) (Fx.Ln (Fx.sN (Fx.Wr (Fx.sR (⟨.bool true, Fx.rV Try.results4 (by exact rfl), ?_⟩)))))
  exact ⟨rfl, b1⟩
 refine Fx.Lv (.bool false) (Fx.x_gtrF rfl rfl rfl c26) (Fx.Ln (Fx.sN (Fx.Wc (b := false) rfl (fun h => nomatch h) (fun _ => Fx.Wk (Fx.sN (Fx.Ws (Fx.Wl (Fx.L.call (by rfl) (Fx.rC (args := []) rfl rfl Try.func6 rfl rfl) rfl ((w_new _).mono ?_)))))))))
 rintro e9 w2 ⟨tp1, mb1, he, hg1, m1, hb2⟩
 refine ⟨_, he, ?_⟩
 clear he
 have s2 := Fx.Sb hb2
 have b2 := s2.below (Below.refl w.heap.size w) (Below.refl w.heap.size w).size (Below.refl w.heap.size w).size
 have m2 : TrW w2 (w.heap.size) tp1 mb1 TrM.zero := m1.weak (Below.refl w.heap.size w).size
 clear m1 hg1
 refine Fx.Lv ((pt tp1)) (Fx.x_assign rfl rfl) (Fx.Ln (Fx.sN (Fx.Ws (Fx.Wl (Fx.Lv (.slice none 0 0) (Fx.x_assign rfl rfl) (Fx.Ln (Fx.sN (Fx.Ws (Fx.Wl (Fx.Lv (.slice none 0 0) (Fx.x_assign rfl rfl) (Fx.Ln (Fx.sN (Fx.Ws (Fx.Ws (Fx.Wl (Fx.Lv (.int .i64 (0)) (Fx.x_assign rfl rfl) (Fx.Ln (Fx.sN (Fx.W.block ?_)))))))))))))))))))
 have m3 : Fx.Own w2 w.heap.size 28 1 (.slice none 0 0) 0 (fun q => .int .u64 (TrM.zero.x q)) := Fx.Own.nil _ _ _ _ _
 have m4 : Fx.Own w2 w.heap.size 28 1 (.slice none 0 0) 0 (fun q => .int .u64 (TrM.zero.p q)) := Fx.Own.nil _ _ _ _ _
 refine Fx.W.loop (fun f w_ => ∃ i : Nat, ∃ T : TrM, ∃ ia : Option Addr, ∃ ic : Nat, ∃ ua : Option Addr, ∃ uc : Nat, i ≤ n ∧ Apt (.slice ia T.n ic) (.slice ua T.n uc) ∧ f 0 = .slice a (n) (c) ∧ f 3 = (pt tp1) ∧ f 4 = .slice ia (T.n) (ic) ∧ f 5 = .slice ua (T.n) (uc) ∧ f 6 = .int .i64 ((i : Int)) ∧ TrW w_ (w.heap.size) tp1 mb1 T ∧ Fx.Own w_ w.heap.size 28 1 (.slice ia (T.n) (ic)) T.n (fun q => .int .u64 (T.x q)) ∧ Fx.Own w_ w.heap.size 28 1 (.slice ua (T.n) (uc)) T.n (fun q => .int .u64 (T.p q)) ∧ Below w.heap.size w w_) (fun f _ => ((n : Int) - intOf (f 6)).toNat) ⟨0, TrM.zero, none, 0, none, 0, (by omega), Apt.nil, (by rfl), (by rfl), (by rfl), (by rfl), Fx.ic, m2, m3, m4, b2⟩ ?_
 rintro f1 w3 ⟨i, T, ia, ic, ua, uc, hi, hne, h1, h2, h3, h4, h5, m5, m6, m7, b3⟩
 have hTok := m5.inv
 have hsm := hTok.small
 have hpb := hpr i
 obtain ⟨id, hid⟩ : ∃ id, id = 1000 + 7 * (i : Int) % 97 + (i : Int) := ⟨_, rfl⟩
 have hib : 1000 ≤ id ∧ id ≤ 2000 := by omega
 refine Fx.Ws (Fx.Ws (Fx.Wl (Fx.Lv (.int .i64 ((i : Int))) (Fx.x_move rfl h5) (Fx.Lv (.slice a (n) (c)) (Fx.x_move rfl h1) (Fx.Lv (.int .i64 ((n : Int))) (Fx.x_len rfl rfl rfl (by kernel_rfl)) ?_)))))
 by_cases c32 : (i : Int) < (n : Int)
 ·refine Fx.Lv (.bool true) (Fx.x_lssT rfl rfl rfl c32) (Fx.Ln (Fx.sN (Fx.Wc (b := true) rfl (fun _ => Fx.Wk (Fx.sN (Fx.Ws (Fx.W.block (Fx.Ws (Fx.Wl (Fx.Lv (.int .i64 ((i : Int))) (Fx.x_move rfl h5) ?_))))))) (fun h => nomatch h))))
  refine Fx.Lv (.int .i64 ((i : Int) * 7)) (Fx.x_mul rfl rfl rfl Fx.io) (Fx.Lv (.int .i64 (7 * (i : Int) % 97)) (Fx.x_rem rfl rfl rfl (by omega) (by rw [remT (by omega)]; omega)) (Fx.Lv (.int .i64 (1000 + (7 * (i : Int) % 97))) (Fx.x_add rfl rfl rfl Fx.io) (Fx.Lv (.int .i64 ((i : Int))) (Fx.x_move rfl h5) (Fx.Lv (.int .i64 ((1000 + (7 * (i : Int) % 97)) + (i : Int))) (Fx.x_add rfl rfl rfl Fx.io) (Fx.Lv (.int .u64 (id)) (Fx.x_conv rfl rfl (by kernel_rfl) Try.underlying28 (by rw [hid]; exact Fx.u64e (by omega) (by omega))) (Fx.Lv (.int .u64 (id)) (Fx.x_assign rfl rfl) (Fx.Ln (Fx.sN (Fx.Ws (Fx.Wl (Fx.Lv (.int .u64 (0)) (Fx.x_assign rfl rfl) (Fx.Ln (Fx.sN (Fx.W.seqJ (fun f w_ => ∃ p : Int, (p = 0 ∨ T.has p = true) ∧ f 0 = .slice a (n) (c) ∧ f 3 = (pt tp1) ∧ f 4 = .slice ia (T.n) (ic) ∧ f 5 = .slice ua (T.n) (uc) ∧ f 6 = .int .i64 ((i : Int)) ∧ f 7 = .int .u64 (id) ∧ f 8 = .int .u64 (p) ∧ TrW w_ (w.heap.size) tp1 mb1 T ∧ Fx.Own w_ w.heap.size 28 1 (.slice ia (T.n) (ic)) T.n (fun q => .int .u64 (T.x q)) ∧ Fx.Own w_ w.heap.size 28 1 (.slice ua (T.n) (uc)) T.n (fun q => .int .u64 (T.p q)) ∧ Below w.heap.size w w_) ?_ ?_))))))))))))))
  ·refine Fx.Ws (Fx.Wl (Fx.Lv (.slice ia (T.n) (ic)) (Fx.x_move rfl h3) (Fx.Lv (.int .i64 ((T.n : Int))) (Fx.x_len rfl rfl rfl (by kernel_rfl)) ?_)))
   by_cases c44 : 0 < (T.n : Int)
   ·refine Fx.Lv (.bool true) (Fx.x_gtrT rfl rfl rfl c44) (Fx.Lv (.bool true) (Fx.x_move rfl rfl) (Fx.Lv (.slice a (n) (c)) (Fx.x_move rfl h1) (Fx.Lv (.int .i64 ((i : Int))) (Fx.x_move rfl h5) ?_)))
    obtain ⟨bq1, oq1, eq1, m8z⟩ := hA (by omega)
    have lbq1z : bq1 < w.heap.size := m8z.lt (by omega)
    have m8 := m8z.below b3 lbq1z
    have lbq1 : bq1 < w3.heap.size := m8.lt (by omega)
    refine Fx.Lv ((pf bq1 (i + oq1))) (Fx.x_indexS rfl (rfl.trans (congrArg (fun q => Value.slice q (n) (c)) eq1)) rfl Try.underlying37 (s := 1) (by kernel_rfl) (by omega) (by omega) (by omega)) (Fx.Lv (.int .u8 (pr i)) (Fx.x_load1 (x := fun q => .int .u8 (pr q)) rfl rfl (by kernel_rfl) m8 (i := i) (by omega) (by omega) rfl) (Fx.Lv (.int .u8 ((pr i) % 4)) (Fx.x_rem rfl rfl rfl (by omega) (remT (by omega) _)) ?_))
    by_cases c51 : 0 < ((pr i) % 4)
    ·refine Fx.Lv (.bool true) (Fx.x_gtrT rfl rfl rfl c51) (Fx.Lv (.bool true) (Fx.x_pickT rfl rfl rfl) (Fx.Ln (Fx.sN (Fx.Wc (b := true) rfl (fun _ => ?_) (fun h => nomatch h)))))
     have hn0 : (0 : Int) < (T.n : Int) := by omega
     obtain ⟨qi, hqi, hqn⟩ : ∃ q : Nat, (q : Int) = pr i / 4 % (T.n : Int) ∧ q < T.n := ⟨(pr i / 4 % (T.n : Int)).toNat, Int.toNat_of_nonneg (Int.emod_nonneg _ (by omega)), by have := Int.emod_lt_of_pos (pr i / 4) hn0; have := Int.emod_nonneg (pr i / 4) (show (T.n : Int) ≠ 0 by omega); omega⟩
     refine Fx.Wl (Fx.Lv (.slice ia (T.n) (ic)) (Fx.x_move rfl h3) (Fx.Lv (.slice a (n) (c)) (Fx.x_move rfl h1) (Fx.Lv (.int .i64 ((i : Int))) (Fx.x_move rfl h5) (Fx.Lv ((pf bq1 (i + oq1))) (Fx.x_indexS rfl (rfl.trans (congrArg (fun q => Value.slice q (n) (c)) eq1)) rfl Try.underlying37 (s := 1) (by kernel_rfl) (by omega) (by omega) (by omega)) (Fx.Lv (.int .u8 (pr i)) (Fx.x_load1 (x := fun q => .int .u8 (pr q)) rfl rfl (by kernel_rfl) m8 (i := i) (by omega) (by omega) rfl) (Fx.Lv (.int .u8 ((pr i) / 4)) (Fx.x_quo rfl rfl rfl (by omega) (by rw [Int.tdiv_eq_ediv_of_nonneg (by omega)]; exact Fx.u8e (by omega) (by omega))) (Fx.Lv (.int .i64 ((pr i) / 4)) (Fx.x_conv rfl rfl (by kernel_rfl) Try.underlying3 (Fx.i64e (by omega) rfl)) (Fx.Lv (.slice ia (T.n) (ic)) (Fx.x_move rfl h3) (Fx.Lv (.int .i64 ((T.n : Int))) (Fx.x_len rfl rfl rfl (by kernel_rfl)) (Fx.Lv (.int .i64 ((qi : Int))) (Fx.x_rem rfl rfl rfl (by omega) ((remT (by omega) _).trans hqi.symm)) ?_))))))))))
     obtain ⟨gq1, eq2⟩ := m6.addr (by omega)
     have m9 : Fx.Own w3 w.heap.size 28 1 (.slice (some ⟨gq1, 0, none⟩) T.n ic) T.n (fun q => .int .u64 (T.x q)) := m6.congV (congrArg (fun q => Value.slice q T.n ic) eq2)
     refine Fx.Lv ((pf gq1 qi)) (Fx.x_indexS rfl (rfl.trans (congrArg (fun q => Value.slice q (T.n) (ic)) eq2)) rfl Try.underlying33 (s := 1) (by kernel_rfl) (by omega) (by omega) (by omega)) (Fx.Lv (.int .u64 (T.x qi)) (Fx.x_load1 (x := fun q => .int .u64 (T.x q)) rfl rfl (by kernel_rfl) m9.cel (i := qi) (by omega) (by omega) rfl) (Fx.Lv (.int .u64 (T.x qi)) (Fx.x_assign rfl rfl) (Fx.Ln ?_)))
     have m10 : Fx.Own w3 w.heap.size 28 1 (.slice ia (T.n) (ic)) T.n (fun q => .int .u64 (T.x q)) := m9.congV (congrArg (fun q => Value.slice q T.n ic) eq2.symm)
     exact Fx.jnN ⟨T.x qi, (.inr (TrM.has_x (by omega))), h1, h2, h3, h4, (h5.trans Fx.ic), Fx.ic, Fx.ic, m5, m10, m7, b3⟩
    refine Fx.Lv (.bool false) (Fx.x_gtrF rfl rfl rfl c51) (Fx.Lv (.bool false) (Fx.x_pickT rfl rfl rfl) (Fx.Ln (Fx.sN (Fx.Wc (b := false) rfl (fun h => nomatch h) (fun _ => Fx.Wk ?_)))))
    exact Fx.jnN ⟨0, (.inl rfl), h1, h2, h3, h4, (h5.trans Fx.ic), Fx.ic, Fx.ic, m5, m6, m7, b3⟩
   refine Fx.Lv (.bool false) (Fx.x_gtrF rfl rfl rfl c44) (Fx.Lv (.bool false) (Fx.x_move rfl rfl) (Fx.Lk (by rfl) rfl (Fx.Lk (by rfl) rfl (Fx.Lk (by rfl) rfl (Fx.Lk (by rfl) rfl (Fx.Lk (by rfl) rfl (Fx.Lk (by rfl) rfl (Fx.Lv (.bool false) (Fx.x_pickF rfl rfl rfl) (Fx.Ln (Fx.sN (Fx.Wc (b := false) rfl (fun h => nomatch h) (fun _ => Fx.Wk ?_))))))))))))
   exact Fx.jnN ⟨0, (.inl rfl), h1, h2, h3, h4, (h5.trans Fx.ic), Fx.ic, Fx.ic, m5, m6, m7, b3⟩
  rintro f2 w4 ⟨p, hp, h6, h7, h8, h9, h10, h11, h12, m11, m12, m13, b4⟩
  have hp0 : 0 ≤ p := by rcases hp with h | h; omega; obtain ⟨q, hq, e⟩ := hasK_at h; have := hTok.pos q hq; omega
  have hpl : (T.path p).length ≤ 4 := TrM.path_le
  refine Fx.Ws (Fx.Wl (Fx.Lv (.int .i64 (0)) (Fx.x_assign rfl rfl) (Fx.Ln (Fx.sN (Fx.W.seqJ (fun f w_ => f 0 = .slice a (n) (c) ∧ f 3 = (pt tp1) ∧ f 4 = .slice ia (T.n) (ic) ∧ f 5 = .slice ua (T.n) (uc) ∧ f 6 = .int .i64 ((i : Int)) ∧ f 7 = .int .u64 (id) ∧ f 8 = .int .u64 (p) ∧ f 9 = .int .i64 (((T.path p).length : Int)) ∧ TrW w_ (w.heap.size) tp1 mb1 T ∧ Fx.Own w_ w.heap.size 28 1 (.slice ia (T.n) (ic)) T.n (fun q => .int .u64 (T.x q)) ∧ Fx.Own w_ w.heap.size 28 1 (.slice ua (T.n) (uc)) T.n (fun q => .int .u64 (T.p q)) ∧ Below w.heap.size w w_) ?_ ?_)))))
  ·refine Fx.Ws (Fx.Wl (Fx.Lv (.int .u64 (p)) (Fx.x_move rfl h12) ?_))
   by_cases c66 : 0 < p
   ·refine Fx.Lv (.bool true) (Fx.x_gtrT rfl rfl rfl c66) (Fx.Ln (Fx.sN (Fx.Wc (b := true) rfl (fun _ => Fx.Wl (Fx.Lv ((pt tp1)) (Fx.x_move rfl h7) ?_)) (fun h => nomatch h))))
    refine Fx.Lv (.int .u64 (p)) (Fx.x_move rfl h12) (Fx.L.call (by rfl) (Fx.rC (args := [(pt tp1), .int .u64 (p)]) rfl rfl Try.func11 rfl rfl) rfl ((w_path p m11).mono ?_))
    rintro e9 w5 ⟨pa1, pc1, he, m14, hb3⟩
    refine ⟨_, he, ?_⟩
    clear he
    have s3 := Fx.Sb hb3
    have m15 := m11.up s3.old
    have m16 := m12.stp s3 (m12.notNew (Nat.le_refl _))
    have m17 := m13.stp s3 (m13.notNew (Nat.le_refl _))
    have b5 := s3.below b4 b4.size b4.size
    refine Fx.Lv (.int .i64 ((((TrM.path T p).length : Nat) : Int))) (Fx.x_len rfl rfl rfl (by kernel_rfl)) (Fx.Lv (.int .i64 ((((TrM.path T p).length : Nat) : Int))) (Fx.x_assign rfl rfl) (Fx.Ln ?_))
    exact Fx.jnN ⟨h6, h7, h8, h9, (h10.trans Fx.ic), (h11.trans Fx.ic), (h12.trans Fx.ic), (by rfl), m15, m16, m17, b5⟩
   refine Fx.Lv (.bool false) (Fx.x_gtrF rfl rfl rfl c66) (Fx.Ln (Fx.sN (Fx.Wc (b := false) rfl (fun h => nomatch h) (fun _ => Fx.Wk ?_))))
   exact Fx.jnN ⟨h6, h7, h8, h9, (h10.trans Fx.ic), (h11.trans Fx.ic), (h12.trans Fx.ic), (by show Value.int .i64 0 = _; rw [show p = 0 by omega, TrM.path_0 hTok]; rfl), m11, m12, m13, b4⟩
  rintro f3 w6 ⟨h13, h14, h15, h16, h17, h18, h19, h20, m18, m19, m20, b6⟩
  refine Fx.Ws (Fx.Wl (Fx.Lv (.bool false) (Fx.x_assign rfl rfl) (Fx.Ln (Fx.sN (Fx.Ws (Fx.Ws (Fx.Wl (Fx.Lv (.int .i64 (0)) (Fx.x_assign rfl rfl) (Fx.Ln (Fx.sN (Fx.W.block (Fx.W.loop (fun f w_ => ∃ k : Nat, k ≤ T.n ∧ f 0 = .slice a (n) (c) ∧ f 3 = (pt tp1) ∧ f 4 = .slice ia (T.n) (ic) ∧ f 5 = .slice ua (T.n) (uc) ∧ f 6 = .int .i64 ((i : Int)) ∧ f 7 = .int .u64 (id) ∧ f 8 = .int .u64 (p) ∧ f 9 = .int .i64 (((T.path p).length : Int)) ∧ f 10 = .bool (hasK T.x k id) ∧ f 11 = .int .i64 ((k : Int)) ∧ TrW w_ (w.heap.size) tp1 mb1 T ∧ Fx.Own w_ w.heap.size 28 1 (.slice ia (T.n) (ic)) T.n (fun q => .int .u64 (T.x q)) ∧ Fx.Own w_ w.heap.size 28 1 (.slice ua (T.n) (uc)) T.n (fun q => .int .u64 (T.p q)) ∧ Below w.heap.size w w_) (fun f _ => ((T.n : Int) - intOf (f 11)).toNat) ⟨0, (by omega), h13, h14, h15, h16, (h17.trans Fx.ic), (h18.trans Fx.ic), (h19.trans Fx.ic), (h20.trans Fx.ic), (by rfl), Fx.ic, m18, m19, m20, b6⟩ ?_))))))))))))
  rintro f4 w7 ⟨k, hk, h21, h22, h23, h24, h25, h26, h27, h28, h29, h30, m21, m22, m23, b7⟩
  refine Fx.Ws (Fx.Ws (Fx.Wl (Fx.Lv (.int .i64 ((k : Int))) (Fx.x_move rfl h30) (Fx.Lv (.slice ia (T.n) (ic)) (Fx.x_move rfl h23) (Fx.Lv (.int .i64 ((T.n : Int))) (Fx.x_len rfl rfl rfl (by kernel_rfl)) ?_)))))
  by_cases c74 : (k : Int) < (T.n : Int)
  ·refine Fx.Lv (.bool true) (Fx.x_lssT rfl rfl rfl c74) (Fx.Ln (Fx.sN (Fx.Wc (b := true) rfl (fun _ => Fx.Wk (Fx.sN (Fx.Ws (Fx.W.block (Fx.Wl (Fx.Lv (.bool (hasK T.x k id)) (Fx.x_move rfl h29) ?_)))))) (fun h => nomatch h))))
   by_cases c78 : (hasK T.x k id) = true
   ·refine Fx.Lv (.bool true) (Fx.x_move rfl (rfl.trans (congrArg Value.bool c78))) (Fx.Lk (by rfl) rfl (Fx.Lk (by rfl) rfl (Fx.Lk (by rfl) rfl (Fx.Lk (by rfl) rfl (Fx.Lk (by rfl) rfl (Fx.Lk (by rfl) rfl (Fx.Lv (.bool true) (Fx.x_pickT rfl rfl rfl) (Fx.Lv (.bool true) (Fx.x_assign rfl rfl) (Fx.Ln (Fx.blkN (Fx.sN (Fx.Wl (Fx.Lv (.int .i64 ((k : Int))) (Fx.x_move rfl h30) (Fx.Lv (.int .i64 ((k : Int) + 1)) (Fx.x_add rfl rfl rfl Fx.io) (Fx.Lv (.int .i64 ((k : Int) + 1)) (Fx.x_assign rfl rfl) (Fx.Ln (Fx.lpN ⟨k + 1, (by omega), h21, h22, h23, h24, (h25.trans Fx.ic), (h26.trans Fx.ic), (h27.trans Fx.ic), (h28.trans Fx.ic), (by show Value.bool true = Value.bool (hasK T.x k id || decide (T.x k = id)); rw [c78]; rfl), Fx.ic, m21, m22, m23, b7⟩ ?_)))))))))))))))))
    show ((T.n : Int) - intOf ((.int .i64 ((k : Int) + 1)))).toNat < _
    simp only [h30, intOf]; omega
   rw [Bool.not_eq_true] at c78
   refine Fx.Lv (.bool false) (Fx.x_move rfl (rfl.trans (congrArg Value.bool c78))) (Fx.Lv (.slice ia (T.n) (ic)) (Fx.x_move rfl h23) (Fx.Lv (.int .i64 ((k : Int))) (Fx.x_move rfl h30) ?_))
   obtain ⟨gq2, eq3⟩ := m22.addr (by omega)
   have m24 : Fx.Own w7 w.heap.size 28 1 (.slice (some ⟨gq2, 0, none⟩) T.n ic) T.n (fun q => .int .u64 (T.x q)) := m22.congV (congrArg (fun q => Value.slice q T.n ic) eq3)
   refine Fx.Lv ((pf gq2 k)) (Fx.x_indexS rfl (rfl.trans (congrArg (fun q => Value.slice q (T.n) (ic)) eq3)) rfl Try.underlying33 (s := 1) (by kernel_rfl) (by omega) (by omega) (by omega)) (Fx.Lv (.int .u64 (T.x k)) (Fx.x_load1 (x := fun q => .int .u64 (T.x q)) rfl rfl (by kernel_rfl) m24.cel (i := k) (by omega) (by omega) rfl) (Fx.Lv (.int .u64 (id)) (Fx.x_move rfl h26) (Fx.Lv (.bool (decide ((T.x k) = id))) (Fx.x_eql rfl rfl rfl) (Fx.Lv (.bool (decide ((T.x k) = id))) (Fx.x_pickF rfl rfl rfl) (Fx.Lv (.bool (decide ((T.x k) = id))) (Fx.x_assign rfl rfl) (Fx.Ln (Fx.blkN (Fx.sN (Fx.Wl (Fx.Lv (.int .i64 ((k : Int))) (Fx.x_move rfl h30) (Fx.Lv (.int .i64 ((k : Int) + 1)) (Fx.x_add rfl rfl rfl Fx.io) (Fx.Lv (.int .i64 ((k : Int) + 1)) (Fx.x_assign rfl rfl) (Fx.Ln ?_)))))))))))))
   have m25 : Fx.Own w7 w.heap.size 28 1 (.slice ia (T.n) (ic)) T.n (fun q => .int .u64 (T.x q)) := m24.congV (congrArg (fun q => Value.slice q T.n ic) eq3.symm)
   refine Fx.lpN ⟨k + 1, (by omega), h21, h22, h23, h24, (h25.trans Fx.ic), (h26.trans Fx.ic), (h27.trans Fx.ic), (h28.trans Fx.ic), (by show Value.bool (decide (T.x k = id)) = Value.bool (hasK T.x k id || decide (T.x k = id)); rw [c78]; rfl), Fx.ic, m21, m25, m23, b7⟩ ?_
   show ((T.n : Int) - intOf ((.int .i64 ((k : Int) + 1)))).toNat < _
   simp only [h30, intOf]; omega
  refine Fx.Lv (.bool false) (Fx.x_lssF rfl rfl rfl c74) (Fx.Ln (Fx.sN (Fx.Wc (b := false) rfl (fun h => nomatch h) (fun _ => Fx.W.exit (Fx.seqX (Fx.lpX (Fx.blkX (Fx.sN (Fx.Ws (Fx.Wl (Fx.Lv (.int .i64 (0)) (Fx.x_assign rfl rfl) (Fx.Ln (Fx.sN (Fx.W.seqJ (fun f w_ => ∃ want : Int, TrM.err T id p = want ∧ f 0 = .slice a (n) (c) ∧ f 3 = (pt tp1) ∧ f 4 = .slice ia (T.n) (ic) ∧ f 5 = .slice ua (T.n) (uc) ∧ f 6 = .int .i64 ((i : Int)) ∧ f 7 = .int .u64 (id) ∧ f 8 = .int .u64 (p) ∧ f 12 = .int .i64 (want) ∧ TrW w_ (w.heap.size) tp1 mb1 T ∧ Fx.Own w_ w.heap.size 28 1 (.slice ia (T.n) (ic)) T.n (fun q => .int .u64 (T.x q)) ∧ Fx.Own w_ w.heap.size 28 1 (.slice ua (T.n) (uc)) T.n (fun q => .int .u64 (T.p q)) ∧ Below w.heap.size w w_) ?_ ?_))))))))))))))
  ·refine Fx.Ws ?_
   have hkn : k = T.n := by omega
   have hkT : hasK T.x k id = T.has id := by rw [hkn]; rfl
   refine Fx.Wl ?_
   by_cases c86 : (hasK T.x k id) = true
   ·refine Fx.Lv (.bool true) (Fx.x_move rfl (h29.trans (congrArg Value.bool c86))) (Fx.Ln (Fx.sN (Fx.Wc (b := true) rfl (fun _ => Fx.Wl (Fx.Lv (.int .i64 (14)) (Fx.x_assign rfl rfl) ?_)) (fun h => nomatch h))))
    refine Fx.Ln ?_
    exact Fx.jnN ⟨14, (by rw [TrM.err_eq (by omega) hp, if_pos (hkT.symm.trans c86)]), h21, h22, h23, h24, (h25.trans Fx.ic), (h26.trans Fx.ic), (h27.trans Fx.ic), Fx.ic, m21, m22, m23, b7⟩
   rw [Bool.not_eq_true] at c86
   refine Fx.Lv (.bool false) (Fx.x_move rfl (h29.trans (congrArg Value.bool c86))) (Fx.Ln (Fx.sN (Fx.Wc (b := false) rfl (fun h => nomatch h) (fun _ => Fx.Ws (Fx.Wl (Fx.Lv (.slice ia (T.n) (ic)) (Fx.x_move rfl h23) (Fx.Lv (.int .i64 ((T.n : Int))) (Fx.x_len rfl rfl rfl (by kernel_rfl)) ?_)))))))
   by_cases c89 : 32 ≤ (T.n : Int)
   ·refine Fx.Lv (.bool true) (Fx.x_geqT rfl rfl rfl c89) (Fx.Lv (.bool true) (Fx.x_move rfl rfl) (Fx.Lk (by rfl) rfl (Fx.Lk (by rfl) rfl (Fx.Lv (.bool true) (Fx.x_pickT rfl rfl rfl) (Fx.Ln (Fx.sN (Fx.Wc (b := true) rfl (fun _ => Fx.Wl (Fx.Lv (.int .i64 (6)) (Fx.x_assign rfl rfl) ?_)) (fun h => nomatch h))))))))
    refine Fx.Ln ?_
    exact Fx.jnN ⟨6, (by rw [TrM.err_eq (by omega) hp, if_neg (by rw [← hkT, c86]; decide), if_pos (.inl (by omega))]), h21, h22, h23, h24, (h25.trans Fx.ic), (h26.trans Fx.ic), (h27.trans Fx.ic), Fx.ic, m21, m22, m23, b7⟩
   refine Fx.Lv (.bool false) (Fx.x_geqF rfl rfl rfl c89) (Fx.Lv (.bool false) (Fx.x_move rfl rfl) (Fx.Lv (.int .i64 (((T.path p).length : Int))) (Fx.x_move rfl h28) ?_))
   by_cases c92 : 4 ≤ ((T.path p).length : Int)
   ·refine Fx.Lv (.bool true) (Fx.x_geqT rfl rfl rfl c92) (Fx.Lv (.bool true) (Fx.x_pickF rfl rfl rfl) (Fx.Ln (Fx.sN (Fx.Wc (b := true) rfl (fun _ => Fx.Wl (Fx.Lv (.int .i64 (6)) (Fx.x_assign rfl rfl) ?_)) (fun h => nomatch h)))))
    refine Fx.Ln ?_
    exact Fx.jnN ⟨6, (by rw [TrM.err_eq (by omega) hp, if_neg (by rw [← hkT, c86]; decide), if_pos (.inr (by omega))]), h21, h22, h23, h24, (h25.trans Fx.ic), (h26.trans Fx.ic), (h27.trans Fx.ic), Fx.ic, m21, m22, m23, b7⟩
   refine Fx.Lv (.bool false) (Fx.x_geqF rfl rfl rfl c92) (Fx.Lv (.bool false) (Fx.x_pickF rfl rfl rfl) (Fx.Ln (Fx.sN (Fx.Wc (b := false) rfl (fun h => nomatch h) (fun _ => Fx.Wk ?_)))))
   exact Fx.jnN ⟨0, (by rw [TrM.err_eq (by omega) hp, if_neg (by rw [← hkT, c86]; decide), if_neg (by omega)]), h21, h22, h23, h24, (h25.trans Fx.ic), (h26.trans Fx.ic), (h27.trans Fx.ic), Fx.ic, m21, m22, m23, b7⟩
  rintro f5 w8 ⟨want, hwant, h31, h32, h33, h34, h35, h36, h37, h38, m26, m27, m28, b8⟩
  refine Fx.Ws (Fx.Ws (Fx.Wl (Fx.Lv ((pt tp1)) (Fx.x_move rfl h32) (Fx.Lv (.int .u64 (id)) (Fx.x_move rfl h36) (Fx.Lv (.int .u64 (p)) (Fx.x_move rfl h37) (Fx.L.call (by rfl) (Fx.rC (args := [(pt tp1), .int .u64 (id), .int .u64 (p)]) rfl rfl Try.func7 rfl rfl) rfl ((w_add id p m26 (by omega)).mono ?_)))))))
  rintro e9 w9 ⟨he, m29, s4⟩
  refine ⟨_, he, ?_⟩
  clear he
  have hcm1 := m26.chm s4
  have m30 := m27.chM hcm1
  have m31 := m28.chM hcm1
  have b9 := s4.below b8 b8.size m26.gm
  refine Fx.Lv (.int .i64 (want)) (Fx.x_move rfl h38) (Fx.Lv (.bool false) (Fx.x_neqF rfl rfl rfl hwant) (Fx.Ln (Fx.sN (Fx.Wc (b := false) rfl (fun h => nomatch h) (fun _ => Fx.Wk (Fx.sN (Fx.Ws (Fx.Wl (Fx.Lv (.int .i64 (want)) (Fx.x_move rfl h38) ?_)))))))))
  by_cases c101 : want = 0
  ·have hc0 : T.err id p = 0 := by rw [hwant]; exact c101
   have m32 : TrW w9 (w.heap.size) tp1 mb1 (TrM.put T id p) := by rw [← TrM.add_yes hc0]; exact m29
   refine Fx.Lv (.bool true) (Fx.x_eqlT rfl rfl rfl c101) (Fx.Ln (Fx.sN (Fx.Wc (b := true) rfl (fun _ => Fx.Ws (Fx.Wl (Fx.Lv (.slice ia (T.n) (ic)) (Fx.x_move rfl h33) ?_))) (fun h => nomatch h))))
   refine Fx.Lv (.int .u64 (id)) (Fx.x_move rfl h36) (Fx.L.bslice (vs := [(0, .int .u64 (id))]) (s := 1) (zc := Fx.rv .u64 (fun _ => 0)) (y := Fx.ovr (fun j => (Fx.rv .u64 (fun _ => 0)) (j % 1)) (0 * 1) 1 (fun _ => .int .u64 (id))) (by rfl) rfl rfl Try.underlying33 (by kernel_rfl) (by rfl) (by rfl) (by kernel_rfl) (by rw [Fx.fill_step (off := 0 * 1) (s := 1) (y := fun _ => .int .u64 (id)) rfl (Fx.cells_one (by rfl)) (by rfl)]; rfl) rfl fun g1 w10 eg1 m33 s5 z1 => ?_)
   have m34 := m30.stp s5 (m30.notNew (Nat.le_refl _))
   have m35 := m31.stp s5 (m31.notNew (Nat.le_refl _))
   have m36 := m32.up s5.old
   have b10 := s5.below b9 b9.size b9.size
   have lg1 : w.heap.size ≤ g1 := by rw [eg1]; exact b9.size
   have ng1m34 : (.slice ia (T.n) (ic) : Value).ownBlock ≠ some g1 := by rw [eg1]; exact m30.notNew (Nat.le_refl _)
   have ng1m35 : (.slice ua (T.n) (uc) : Value).ownBlock ≠ some g1 := by rw [eg1]; exact m31.notNew (Nat.le_refl _)
   have tg1 : g1 < w10.heap.size := m33.lt
   clear eg1
   refine Fx.L.app (B := w.heap.size) (s := 1) (bytes := 8) (k := T.n) (m := 1) (v := .slice ia (T.n) (ic)) (x := fun q => .int .u64 (T.x q)) (by rfl) rfl rfl rfl Try.underlying33 (by kernel_rfl) (by kernel_rfl) rfl rfl m34 m33.cel (fun j hj => by unfold Fx.ovr; split <;> rfl) (by omega) (by omega) (by omega) b10.size fun g2 cap1 w11 ho1 hg2 hgv1 hlt1 => ?_
   have hct1 := Fx.ChT.of_grown hg2 m34
   have ap1 : Apt (.slice ua (T.n) (uc)) (.slice (some ⟨g2, 0, none⟩) (T.n + 1) cap1) := Apt.app hne.symm m35 hgv1
   have m38 : Fx.Own w11 w.heap.size 28 1 (.slice ua (T.n) (uc)) T.n (fun q => .int .u64 (T.p q)) := own_apt m35 hne.symm hg2
   have m39 := m36.chT hct1 (by decide)
   have m37 : Fx.Own w11 w.heap.size 28 1 (.slice (some ⟨g2, 0, none⟩) (T.n + 1) cap1) (T.n + 1) (fun q => .int .u64 ((TrM.put T id p).x q)) := (ho1.congr u_app)
   have b11 : Below w.heap.size w w11 := Fx.Below.grow b10 hg2 b10.size (fun q hq => (m34.ge hq).1)
   refine Fx.Lv (.slice (some ⟨g2, 0, none⟩) (T.n + 1) (cap1)) (Fx.x_assign rfl rfl) (Fx.Ln (Fx.sN (Fx.Wl (Fx.Lv (.slice ua (T.n) (uc)) (Fx.x_move rfl h34) (Fx.Lv (.int .u64 (p)) (Fx.x_move rfl h37) (Fx.L.bslice (vs := [(0, .int .u64 (p))]) (s := 1) (zc := Fx.rv .u64 (fun _ => 0)) (y := Fx.ovr (fun j => (Fx.rv .u64 (fun _ => 0)) (j % 1)) (0 * 1) 1 (fun _ => .int .u64 (p))) (by rfl) rfl rfl Try.underlying33 (by kernel_rfl) (by rfl) (by rfl) (by kernel_rfl) (by rw [Fx.fill_step (off := 0 * 1) (s := 1) (y := fun _ => .int .u64 (p)) rfl (Fx.cells_one (by rfl)) (by rfl)]; rfl) rfl fun g3 w12 eg3 m40 s6 z2 => ?_))))))
   have m41 := m38.stp s6 (m38.notNew (Nat.le_refl _))
   have m42 := m39.up s6.old
   have m43 := m37.stpB s6 (Nat.ne_of_lt (m37.lt))
   have b12 := s6.below b11 b11.size b11.size
   have lg3 : w.heap.size ≤ g3 := by rw [eg3]; exact b11.size
   have ng3m41 : (.slice ua (T.n) (uc) : Value).ownBlock ≠ some g3 := by rw [eg3]; exact m38.notNew (Nat.le_refl _)
   have ng3m43 : g2 ≠ g3 := by rw [eg3]; exact Nat.ne_of_lt (m37.lt)
   have tg3 : g3 < w12.heap.size := m40.lt
   clear eg3
   refine Fx.L.app (B := w.heap.size) (s := 1) (bytes := 8) (k := T.n) (m := 1) (v := .slice ua (T.n) (uc)) (x := fun q => .int .u64 (T.p q)) (by rfl) rfl rfl rfl Try.underlying33 (by kernel_rfl) (by kernel_rfl) rfl rfl m41 m40.cel (fun j hj => by unfold Fx.ovr; split <;> rfl) (by omega) (by omega) (by omega) b12.size fun g4 cap2 w13 ho2 hg3 hgv2 hlt2 => ?_
   have hct2 := Fx.ChT.of_grown hg3 m41
   have m45 := m42.chT hct2 (by decide)
   have ap2 : Apt (.slice (some ⟨g2, 0, none⟩) (T.n + 1) cap1) (.slice (some ⟨g4, 0, none⟩) (T.n + 1) cap2) := Apt.app ap1.symm m43 hgv2
   have m46 : Fx.Own w13 w.heap.size 28 1 (.slice (some ⟨g2, 0, none⟩) (T.n + 1) cap1) (T.n + 1) (fun q => .int .u64 ((TrM.put T id p).x q)) := own_apt m43 ap1.symm hg3
   have m44 : Fx.Own w13 w.heap.size 28 1 (.slice (some ⟨g4, 0, none⟩) (T.n + 1) cap2) (T.n + 1) (fun q => .int .u64 ((TrM.put T id p).p q)) := (ho2.congr u_app)
   have b13 : Below w.heap.size w w13 := Fx.Below.grow b12 hg3 b12.size (fun q hq => (m41.ge hq).1)
   refine Fx.Lv (.slice (some ⟨g4, 0, none⟩) (T.n + 1) (cap2)) (Fx.x_assign rfl rfl) (Fx.Ln (Fx.blkN (Fx.sN (Fx.Wl (Fx.Lv (.int .i64 ((i : Int))) (Fx.x_move rfl h35) (Fx.Lv (.int .i64 ((i : Int) + 1)) (Fx.x_add rfl rfl rfl Fx.io) (Fx.Lv (.int .i64 ((i : Int) + 1)) (Fx.x_assign rfl rfl) (Fx.Ln ?_))))))))
   skip
   refine Fx.lpN ⟨i + 1, (TrM.put T id p), (some ⟨g2, 0, none⟩), cap1, (some ⟨g4, 0, none⟩), cap2, (by omega), ap2, h31, h32, (by rfl), (by rfl), Fx.ic, m45, m46, m44, b13⟩ ?_
   show ((n : Int) - intOf ((.int .i64 ((i : Int) + 1)))).toNat < _
   simp only [h5, intOf]; omega
  have hc0 : ¬ T.err id p = 0 := by rw [hwant]; exact c101
  have m47 : TrW w9 (w.heap.size) tp1 mb1 T := by rw [← TrM.add_no hc0]; exact m29
  refine Fx.Lv (.bool false) (Fx.x_eqlF rfl rfl rfl c101) (Fx.Ln (Fx.sN (Fx.Wc (b := false) rfl (fun h => nomatch h) (fun _ => Fx.Wk (Fx.blkN (Fx.sN (Fx.Wl (Fx.Lv (.int .i64 ((i : Int))) (Fx.x_move rfl h35) (Fx.Lv (.int .i64 ((i : Int) + 1)) (Fx.x_add rfl rfl rfl Fx.io) (Fx.Lv (.int .i64 ((i : Int) + 1)) (Fx.x_assign rfl rfl) (Fx.Ln ?_)))))))))))
  skip
  refine Fx.lpN ⟨i + 1, T, ia, ic, ua, uc, (by omega), hne, h31, h32, h33, h34, Fx.ic, m47, m30, m31, b9⟩ ?_
  show ((n : Int) - intOf ((.int .i64 ((i : Int) + 1)))).toNat < _
  simp only [h5, intOf]; omega
 refine Fx.Lv (.bool false) (Fx.x_lssF rfl rfl rfl c32) (Fx.Ln (Fx.sN (Fx.Wc (b := false) rfl (fun h => nomatch h) (fun _ => Fx.W.exit (Fx.seqX (Fx.lpX (Fx.blkX (Fx.sN (Fx.Ws (Fx.Ws ?_))))))))))
 have hTok := m5.inv
 have hsm := hTok.small
 refine Fx.Wl (Fx.Lv ((pt tp1)) (Fx.x_move rfl h2) (Fx.L.call (by rfl) (Fx.rC (args := [(pt tp1)]) rfl rfl Try.func10 rfl rfl) rfl ((w_list m5).mono ?_)))
 rintro e9 w14 ⟨la1, lc1, ll1, he, m48, hq1, khq1, hb4⟩
 refine ⟨_, he, ?_⟩
 clear he
 have s7 := Fx.Sb hb4
 have m49 := m5.up s7.old
 have m50 := m6.stp s7 (m6.notNew (Nat.le_refl _))
 have m51 := m7.stp s7 (m7.notNew (Nat.le_refl _))
 have b14 := s7.below b3 b3.size b3.size
 have hll := TrM.list_len hTok hq1
 refine Fx.Lv (.int .i64 ((ll1.length : Int))) (Fx.x_len rfl rfl rfl (by kernel_rfl)) (Fx.Lv (.slice ia (T.n) (ic)) (Fx.x_move rfl h3) (Fx.Lv (.int .i64 ((T.n : Int))) (Fx.x_len rfl rfl rfl (by kernel_rfl)) (Fx.Lv (.bool false) (Fx.x_neqF rfl rfl rfl (by rw [hll])) (Fx.Ln (Fx.sN (Fx.Wc (b := false) rfl (fun h => nomatch h) (fun _ => Fx.Wk (Fx.sN (Fx.Ws (Fx.Ws (Fx.Wl (Fx.Lv (.int .i64 (0)) (Fx.x_assign rfl rfl) (Fx.Ln (Fx.sN (Fx.W.block (Fx.W.loop (fun f w_ => ∃ i : Nat, i ≤ T.n ∧ f 3 = (pt tp1) ∧ f 4 = .slice ia (T.n) (ic) ∧ f 5 = .slice ua (T.n) (uc) ∧ f 13 = .int .i64 ((i : Int)) ∧ TrW w_ (w.heap.size) tp1 mb1 T ∧ Fx.Own w_ w.heap.size 28 1 (.slice ia (T.n) (ic)) T.n (fun q => .int .u64 (T.x q)) ∧ Fx.Own w_ w.heap.size 28 1 (.slice ua (T.n) (uc)) T.n (fun q => .int .u64 (T.p q)) ∧ Below w.heap.size w w_) (fun f _ => ((T.n : Int) - intOf (f 13)).toNat) ⟨0, (by omega), h2, h3, h4, Fx.ic, m49, m50, m51, b14⟩ ?_))))))))))))))))
 rintro f6 w15 ⟨i, hi, h39, h40, h41, h42, m52, m53, m54, b15⟩
 refine Fx.Ws (Fx.Ws (Fx.Wl (Fx.Lv (.int .i64 ((i : Int))) (Fx.x_move rfl h42) (Fx.Lv (.slice ia (T.n) (ic)) (Fx.x_move rfl h40) (Fx.Lv (.int .i64 ((T.n : Int))) (Fx.x_len rfl rfl rfl (by kernel_rfl)) ?_)))))
 by_cases c119 : (i : Int) < (T.n : Int)
 ·refine Fx.Lv (.bool true) (Fx.x_lssT rfl rfl rfl c119) (Fx.Ln (Fx.sN (Fx.Wc (b := true) rfl (fun _ => Fx.Wk (Fx.sN (Fx.Ws (Fx.W.block (Fx.Ws (Fx.Wl (Fx.Lv ((pt tp1)) (Fx.x_move rfl h39) ?_))))))) (fun h => nomatch h))))
  refine Fx.Lv (.slice ia (T.n) (ic)) (Fx.x_move rfl h40) (Fx.Lv (.int .i64 ((i : Int))) (Fx.x_move rfl h42) ?_)
  obtain ⟨gq3, eq4⟩ := m53.addr (by omega)
  have m55 : Fx.Own w15 w.heap.size 28 1 (.slice (some ⟨gq3, 0, none⟩) T.n ic) T.n (fun q => .int .u64 (T.x q)) := m53.congV (congrArg (fun q => Value.slice q T.n ic) eq4)
  refine Fx.Lv ((pf gq3 i)) (Fx.x_indexS rfl (rfl.trans (congrArg (fun q => Value.slice q (T.n) (ic)) eq4)) rfl Try.underlying33 (s := 1) (by kernel_rfl) (by omega) (by omega) (by omega)) (Fx.Lv (.int .u64 (T.x i)) (Fx.x_load1 (x := fun q => .int .u64 (T.x q)) rfl rfl (by kernel_rfl) m55.cel (i := i) (by omega) (by omega) rfl) (Fx.L.call (by rfl) (Fx.rC (args := [(pt tp1), .int .u64 (T.x i)]) rfl rfl Try.func11 rfl rfl) rfl ((w_path (T.x i) m52).mono ?_)))
  rintro e9 w16 ⟨pa2, pc2, he, m56, hb5⟩
  refine ⟨_, he, ?_⟩
  clear he
  have s8 := Fx.Sb hb5
  have m57 := m52.up s8.old
  have m58 := m54.stp s8 (m54.notNew (Nat.le_refl _))
  have m59 := m55.stpB s8 (Nat.ne_of_lt (m55.lt))
  have b16 := s8.below b15 b15.size b15.size
  obtain ⟨pl1, hpl1⟩ : ∃ q, q = TrM.path T (T.x i) := ⟨_, rfl⟩
  rw [← hpl1] at m56 ⊢
  have hp1 := hpl1.trans (TrM.step_x hTok (show i < T.n by omega))
  have hp4 : pl1.length ≤ 4 := by rw [hpl1]; exact TrM.path_le
  have hp5 : 1 ≤ pl1.length := by rw [hp1]; simp
  refine Fx.Lv (.slice pa2 (pl1.length) (pc2)) (Fx.x_assign rfl rfl) (Fx.Ln (Fx.sN (Fx.Ws (Fx.Ws ?_))))
  -- region 37 draws
  refine Fx.W.quiet (fun v1 => ∃ q, v1 = World.drewN w16 q) (by kernel_rfl) (by kernel_rfl) ⟨1, rfl⟩ ?_
  refine Fx.Qv (.slice pa2 (pl1.length) (pc2)) (fun v1 hv1 => Fx.x_move rfl rfl) (Fx.Qv (.int .i64 ((pl1.length : Int))) (fun v1 hv1 => Fx.x_len rfl rfl rfl (by kernel_rfl)) (Fx.Qv (.bool false) (fun v1 hv1 => Fx.x_lssF rfl rfl rfl (by omega)) (Fx.Qv (.bool false) (fun v1 hv1 => Fx.x_move rfl rfl) (Fx.Qv (.slice pa2 (pl1.length) (pc2)) (fun v1 hv1 => Fx.x_move rfl rfl) (Fx.Qv (.int .i64 ((pl1.length : Int))) (fun v1 hv1 => Fx.x_len rfl rfl rfl (by kernel_rfl)) (Fx.Qv (.bool false) (fun v1 hv1 => Fx.x_gtrF rfl rfl rfl (by omega)) (Fx.Qv (.bool false) (fun v1 hv1 => Fx.x_pickF rfl rfl rfl) (Fx.Qv (.bool false) (fun v1 hv1 => Fx.x_move rfl rfl) (Fx.Qv (.slice pa2 (pl1.length) (pc2)) (fun v1 hv1 => Fx.x_move rfl rfl) ?_)))))))))
  obtain ⟨gq4, eq5⟩ := m56.addr (by omega)
  have m60 : Fx.Own w16 w15.heap.size 28 1 (.slice (some ⟨gq4, 0, none⟩) pl1.length pc2) pl1.length (lsU pl1) := m56.congV (congrArg (fun q => Value.slice q pl1.length pc2) eq5)
  refine Fx.Qv ((pt gq4)) (fun v1 hv1 => Fx.x_indexS rfl (rfl.trans (congrArg (fun q => Value.slice q (pl1.length) (pc2)) eq5)) rfl Try.underlying33 (s := 1) (by kernel_rfl) (by omega) (by omega) (by omega)) (Fx.Qv (.int .u64 (pl1.getD 0 0)) (fun v1 hv1 => Fx.x_load1 (x := lsU pl1) rfl rfl (by kernel_rfl) (by obtain ⟨qd, rfl⟩ := hv1; exact m60.cel) (i := 0) (by omega) (by omega) rfl) (Fx.Qv (.slice ia (T.n) (ic)) (fun v1 hv1 => Fx.x_move rfl h40) (Fx.Qv (.int .i64 ((i : Int))) (fun v1 hv1 => Fx.x_move rfl h42) (Fx.Qv ((pf gq3 i)) (fun v1 hv1 => Fx.x_indexS rfl (rfl.trans (congrArg (fun q => Value.slice q (T.n) (ic)) eq4)) rfl Try.underlying33 (s := 1) (by kernel_rfl) (by omega) (by omega) (by omega)) (Fx.Qv (.int .u64 (T.x i)) (fun v1 hv1 => Fx.x_load1 (x := fun q => .int .u64 (T.x q)) rfl rfl (by kernel_rfl) (by obtain ⟨qd, rfl⟩ := hv1; exact m59.cel) (i := i) (by omega) (by omega) rfl) (Fx.Qv (.bool false) (fun v1 hv1 => Fx.x_neqF rfl rfl rfl (by rw [hp1]; rfl)) (Fx.Qv (.bool false) (fun v1 hv1 => Fx.x_pickF rfl rfl rfl) (Fx.Qt.nil ?_))))))))
  rintro _ ⟨qd, rfl⟩
  obtain ⟨wq1, ewq1⟩ : ∃ v1, v1 = World.drewN w16 qd := ⟨_, rfl⟩
  rw [← ewq1]
  have s9 : Fx.Stp w16.heap.size w16 wq1 := by rw [ewq1]; exact Fx.Sb (bdrN w16 qd)
  have m61 := m57.up s9.old
  have m62 := m58.stp s9 (m58.notNew (Nat.le_refl _))
  have m63 := m59.stpB s9 (Nat.ne_of_lt (m59.lt))
  have m64 := m60.stpB s9 (Nat.ne_of_lt (m60.lt))
  have b17 := s9.below b16 b16.size b16.size
  clear ewq1
  refine Fx.sN (Fx.Wc (b := false) rfl (fun h => nomatch h) (fun _ => Fx.Wk (Fx.sN (Fx.Ws (Fx.Ws (Fx.Wl (Fx.Lv (.int .i64 (0)) (Fx.x_assign rfl rfl) (Fx.Ln (Fx.sN (Fx.W.block ?_))))))))))
  have m65 : Fx.Own wq1 w.heap.size 28 1 (.slice ia (T.n) (ic)) T.n (fun q => .int .u64 (T.x q)) := m63.congV (congrArg (fun q => Value.slice q T.n ic) eq4.symm)
  have m66 : Fx.Own wq1 w15.heap.size 28 1 (.slice pa2 (pl1.length) (pc2)) pl1.length (lsU pl1) := m64.congV (congrArg (fun q => Value.slice q pl1.length pc2) eq5.symm)
  refine Fx.W.loop (fun f w_ => ∃ k : Nat, k ≤ pl1.length ∧ f 3 = (pt tp1) ∧ f 4 = .slice ia (T.n) (ic) ∧ f 5 = .slice ua (T.n) (uc) ∧ f 13 = .int .i64 ((i : Int)) ∧ f 14 = .slice pa2 (pl1.length) (pc2) ∧ f 15 = .int .i64 ((k : Int)) ∧ TrW w_ (w.heap.size) tp1 mb1 T ∧ Fx.Own w_ w.heap.size 28 1 (.slice ia (T.n) (ic)) T.n (fun q => .int .u64 (T.x q)) ∧ Fx.Own w_ w.heap.size 28 1 (.slice ua (T.n) (uc)) T.n (fun q => .int .u64 (T.p q)) ∧ Fx.Own w_ w15.heap.size 28 1 (.slice pa2 (pl1.length) (pc2)) pl1.length (lsU pl1) ∧ Below w.heap.size w w_) (fun f _ => ((pl1.length : Int) - intOf (f 15)).toNat) ⟨0, (by omega), h39, h40, h41, (h42.trans Fx.ic), (by rfl), Fx.ic, m61, m65, m62, m66, b17⟩ ?_
  rintro f7 w17 ⟨k, hk, h43, h44, h45, h46, h47, h48, m67, m68, m69, m70, b18⟩
  refine Fx.Ws (Fx.Ws (Fx.Wl (Fx.Lv (.int .i64 ((k : Int))) (Fx.x_move rfl h48) (Fx.Lv (.slice pa2 (pl1.length) (pc2)) (Fx.x_move rfl h47) (Fx.Lv (.int .i64 ((pl1.length : Int))) (Fx.x_len rfl rfl rfl (by kernel_rfl)) ?_)))))
  by_cases c149 : (k : Int) < (pl1.length : Int)
  ·refine Fx.Lv (.bool true) (Fx.x_lssT rfl rfl rfl c149) (Fx.Ln (Fx.sN (Fx.Wc (b := true) rfl (fun _ => Fx.Wk (Fx.sN (Fx.Ws (Fx.W.block (Fx.Ws (Fx.Wl (Fx.Lv (.int .i64 (-1)) (Fx.x_assign rfl rfl) ?_))))))) (fun h => nomatch h))))
   refine Fx.Ln (Fx.sN (Fx.Ws (Fx.Ws (Fx.Wl (Fx.Lv (.int .i64 (0)) (Fx.x_assign rfl rfl) (Fx.Ln (Fx.sN (Fx.W.block (Fx.W.loop (fun f w_ => ∃ j : Nat, ∃ aq : Nat, j ≤ T.n ∧ AtI T.x (pl1.getD k 0) j aq ∧ f 3 = (pt tp1) ∧ f 4 = .slice ia (T.n) (ic) ∧ f 5 = .slice ua (T.n) (uc) ∧ f 13 = .int .i64 ((i : Int)) ∧ f 14 = .slice pa2 (pl1.length) (pc2) ∧ f 15 = .int .i64 ((k : Int)) ∧ f 16 = .int .i64 ((aq : Int) - 1) ∧ f 17 = .int .i64 ((j : Int)) ∧ TrW w_ (w.heap.size) tp1 mb1 T ∧ Fx.Own w_ w.heap.size 28 1 (.slice ia (T.n) (ic)) T.n (fun q => .int .u64 (T.x q)) ∧ Fx.Own w_ w.heap.size 28 1 (.slice ua (T.n) (uc)) T.n (fun q => .int .u64 (T.p q)) ∧ Fx.Own w_ w15.heap.size 28 1 (.slice pa2 (pl1.length) (pc2)) pl1.length (lsU pl1) ∧ Below w.heap.size w w_) (fun f _ => ((T.n : Int) - intOf (f 17)).toNat) ⟨0, 0, (by omega), AtI.zero, h43, h44, h45, (h46.trans Fx.ic), h47, (h48.trans Fx.ic), Fx.ic, Fx.ic, m67, m68, m69, m70, b18⟩ ?_)))))))))
   rintro f8 w18 ⟨j, aq, hj, haq, h49, h50, h51, h52, h53, h54, h55, h56, m71, m72, m73, m74, b19⟩
   refine Fx.Ws (Fx.Ws (Fx.Wl (Fx.Lv (.int .i64 ((j : Int))) (Fx.x_move rfl h56) (Fx.Lv (.slice ia (T.n) (ic)) (Fx.x_move rfl h50) (Fx.Lv (.int .i64 ((T.n : Int))) (Fx.x_len rfl rfl rfl (by kernel_rfl)) ?_)))))
   by_cases c155 : (j : Int) < (T.n : Int)
   ·refine Fx.Lv (.bool true) (Fx.x_lssT rfl rfl rfl c155) (Fx.Ln (Fx.sN (Fx.Wc (b := true) rfl (fun _ => Fx.Wk (Fx.sN (Fx.Ws (Fx.W.block (Fx.Ws ?_))))) (fun h => nomatch h))))
    -- region 46 draws
    refine Fx.W.quiet (fun v1 => ∃ q, v1 = World.drewN w18 q) (by kernel_rfl) (by kernel_rfl) ⟨1, rfl⟩ ?_
    refine Fx.Qv (.slice ia (T.n) (ic)) (fun v1 hv1 => Fx.x_move rfl h50) (Fx.Qv (.int .i64 ((j : Int))) (fun v1 hv1 => Fx.x_move rfl h56) ?_)
    obtain ⟨gq5, eq6⟩ := m72.addr (by omega)
    have m75 : Fx.Own w18 w.heap.size 28 1 (.slice (some ⟨gq5, 0, none⟩) T.n ic) T.n (fun q => .int .u64 (T.x q)) := m72.congV (congrArg (fun q => Value.slice q T.n ic) eq6)
    refine Fx.Qv ((pf gq5 j)) (fun v1 hv1 => Fx.x_indexS rfl (rfl.trans (congrArg (fun q => Value.slice q (T.n) (ic)) eq6)) rfl Try.underlying33 (s := 1) (by kernel_rfl) (by omega) (by omega) (by omega)) (Fx.Qv (.int .u64 (T.x j)) (fun v1 hv1 => Fx.x_load1 (x := fun q => .int .u64 (T.x q)) rfl rfl (by kernel_rfl) (by obtain ⟨qd, rfl⟩ := hv1; exact m75.cel) (i := j) (by omega) (by omega) rfl) (Fx.Qv (.slice pa2 (pl1.length) (pc2)) (fun v1 hv1 => Fx.x_move rfl h53) (Fx.Qv (.int .i64 ((k : Int))) (fun v1 hv1 => Fx.x_move rfl h54) ?_)))
    obtain ⟨gq6, eq7⟩ := m74.addr (by omega)
    have m76 : Fx.Own w18 w15.heap.size 28 1 (.slice (some ⟨gq6, 0, none⟩) pl1.length pc2) pl1.length (lsU pl1) := m74.congV (congrArg (fun q => Value.slice q pl1.length pc2) eq7)
    refine Fx.Qv ((pf gq6 k)) (fun v1 hv1 => Fx.x_indexS rfl (rfl.trans (congrArg (fun q => Value.slice q (pl1.length) (pc2)) eq7)) rfl Try.underlying33 (s := 1) (by kernel_rfl) (by omega) (by omega) (by omega)) (Fx.Qv (.int .u64 (pl1.getD k 0)) (fun v1 hv1 => Fx.x_load1 (x := lsU pl1) rfl rfl (by kernel_rfl) (by obtain ⟨qd, rfl⟩ := hv1; exact m76.cel) (i := k) (by omega) (by omega) rfl) ?_)
    by_cases c166 : (T.x j) = (pl1.getD k 0)
    ·refine Fx.Qv (.bool true) (fun v1 hv1 => Fx.x_eqlT rfl rfl rfl c166) (Fx.Qt.nil ?_)
     rintro _ ⟨qd, rfl⟩
     obtain ⟨wq2, ewq2⟩ : ∃ v1, v1 = World.drewN w18 qd := ⟨_, rfl⟩
     rw [← ewq2]
     have s10 : Fx.Stp w18.heap.size w18 wq2 := by rw [ewq2]; exact Fx.Sb (bdrN w18 qd)
     have m77 := m71.up s10.old
     have m78 := m73.stp s10 (m73.notNew (Nat.le_refl _))
     have m79 := m75.stpB s10 (Nat.ne_of_lt (m75.lt))
     have m80 := m76.stpB s10 (Nat.ne_of_lt (m76.lt))
     have b20 := s10.below b19 b19.size b19.size
     clear ewq2
     refine Fx.sN (Fx.Wc (b := true) rfl (fun _ => Fx.Wl (Fx.Lv (.int .i64 ((j : Int))) (Fx.x_move rfl h56) ?_)) (fun h => nomatch h))
     refine Fx.Lv (.int .i64 ((j : Int))) (Fx.x_assign rfl rfl) (Fx.Ln (Fx.blkN (Fx.sN (Fx.Wl (Fx.Lv (.int .i64 ((j : Int))) (Fx.x_move rfl h56) (Fx.Lv (.int .i64 ((j : Int) + 1)) (Fx.x_add rfl rfl rfl Fx.io) (Fx.Lv (.int .i64 ((j : Int) + 1)) (Fx.x_assign rfl rfl) (Fx.Ln ?_))))))))
     have m81 : Fx.Own wq2 w.heap.size 28 1 (.slice ia (T.n) (ic)) T.n (fun q => .int .u64 (T.x q)) := m79.congV (congrArg (fun q => Value.slice q T.n ic) eq6.symm)
     have m82 : Fx.Own wq2 w15.heap.size 28 1 (.slice pa2 (pl1.length) (pc2)) pl1.length (lsU pl1) := m80.congV (congrArg (fun q => Value.slice q pl1.length pc2) eq7.symm)
     refine Fx.lpN ⟨j + 1, j + 1, (by omega), (AtI.yes c166), h49, h50, h51, (h52.trans Fx.ic), h53, (h54.trans Fx.ic), Fx.ic, Fx.ic, m77, m81, m78, m82, b20⟩ ?_
     show ((T.n : Int) - intOf ((.int .i64 ((j : Int) + 1)))).toNat < _
     simp only [h56, intOf]; omega
    refine Fx.Qv (.bool false) (fun v1 hv1 => Fx.x_eqlF rfl rfl rfl c166) (Fx.Qt.nil ?_)
    rintro _ ⟨qd, rfl⟩
    obtain ⟨wq3, ewq3⟩ : ∃ v1, v1 = World.drewN w18 qd := ⟨_, rfl⟩
    rw [← ewq3]
    have s11 : Fx.Stp w18.heap.size w18 wq3 := by rw [ewq3]; exact Fx.Sb (bdrN w18 qd)
    have m83 := m71.up s11.old
    have m84 := m73.stp s11 (m73.notNew (Nat.le_refl _))
    have m85 := m75.stpB s11 (Nat.ne_of_lt (m75.lt))
    have m86 := m76.stpB s11 (Nat.ne_of_lt (m76.lt))
    have b21 := s11.below b19 b19.size b19.size
    clear ewq3
    refine Fx.sN (Fx.Wc (b := false) rfl (fun h => nomatch h) (fun _ => Fx.Wk (Fx.blkN (Fx.sN (Fx.Wl (Fx.Lv (.int .i64 ((j : Int))) (Fx.x_move rfl h56) (Fx.Lv (.int .i64 ((j : Int) + 1)) (Fx.x_add rfl rfl rfl Fx.io) (Fx.Lv (.int .i64 ((j : Int) + 1)) (Fx.x_assign rfl rfl) (Fx.Ln ?_)))))))))
    have m87 : Fx.Own wq3 w.heap.size 28 1 (.slice ia (T.n) (ic)) T.n (fun q => .int .u64 (T.x q)) := m85.congV (congrArg (fun q => Value.slice q T.n ic) eq6.symm)
    have m88 : Fx.Own wq3 w15.heap.size 28 1 (.slice pa2 (pl1.length) (pc2)) pl1.length (lsU pl1) := m86.congV (congrArg (fun q => Value.slice q pl1.length pc2) eq7.symm)
    refine Fx.lpN ⟨j + 1, aq, (by omega), (AtI.no haq c166), h49, h50, h51, (h52.trans Fx.ic), h53, (h54.trans Fx.ic), (h55.trans Fx.ic), Fx.ic, m83, m87, m84, m88, b21⟩ ?_
    show ((T.n : Int) - intOf ((.int .i64 ((j : Int) + 1)))).toNat < _
    simp only [h56, intOf]; omega
   refine Fx.Lv (.bool false) (Fx.x_lssF rfl rfl rfl c155) (Fx.Ln (Fx.sN (Fx.Wc (b := false) rfl (fun h => nomatch h) (fun _ => Fx.W.exit (Fx.seqX (Fx.lpX (Fx.blkX (Fx.sN (Fx.Ws ?_)))))))))
   have hjn : j = T.n := by omega
   rw [hjn] at haq
   obtain ⟨ha1, ha2, ha3⟩ := haq.get (TrM.pl_has hTok hpl1 (show k < pl1.length by omega))
   -- region 48 draws
   refine Fx.W.quiet (fun v1 => ∃ q, v1 = World.drewN w18 q) (by kernel_rfl) (by kernel_rfl) ⟨1, rfl⟩ ?_
   refine Fx.Qv (.int .i64 ((aq : Int) - 1)) (fun v1 hv1 => Fx.x_move rfl h55) (Fx.Qv (.bool false) (fun v1 hv1 => Fx.x_lssF rfl rfl rfl (by omega)) (Fx.Qv (.bool false) (fun v1 hv1 => Fx.x_move rfl rfl) (Fx.Qv (.int .i64 ((k : Int))) (fun v1 hv1 => Fx.x_move rfl h54) (Fx.Qv (.int .i64 ((k : Int) + 1)) (fun v1 hv1 => Fx.x_add rfl rfl rfl Fx.io) (Fx.Qv (.slice pa2 (pl1.length) (pc2)) (fun v1 hv1 => Fx.x_move rfl h53) (Fx.Qv (.int .i64 ((pl1.length : Int))) (fun v1 hv1 => Fx.x_len rfl rfl rfl (by kernel_rfl)) ?_))))))
   by_cases c175 : ((k : Int) + 1) < (pl1.length : Int)
   ·refine Fx.Qv (.bool true) (fun v1 hv1 => Fx.x_lssT rfl rfl rfl c175) (Fx.Qv (.bool true) (fun v1 hv1 => Fx.x_move rfl rfl) (Fx.Qv (.slice ua (T.n) (uc)) (fun v1 hv1 => Fx.x_move rfl h51) (Fx.Qv (.int .i64 ((aq : Int) - 1)) (fun v1 hv1 => Fx.x_move rfl h55) ?_)))
    obtain ⟨gq7, eq8⟩ := m73.addr (by omega)
    have m89 : Fx.Own w18 w.heap.size 28 1 (.slice (some ⟨gq7, 0, none⟩) T.n uc) T.n (fun q => .int .u64 (T.p q)) := m73.congV (congrArg (fun q => Value.slice q T.n uc) eq8)
    refine Fx.Qv ((pf gq7 (aq - 1))) (fun v1 hv1 => Fx.x_indexS rfl (rfl.trans (congrArg (fun q => Value.slice q (T.n) (uc)) eq8)) rfl Try.underlying33 (s := 1) (by kernel_rfl) (by omega) (by omega) (by omega)) (Fx.Qv (.int .u64 (T.p (aq - 1))) (fun v1 hv1 => Fx.x_load1 (x := fun q => .int .u64 (T.p q)) rfl rfl (by kernel_rfl) (by obtain ⟨qd, rfl⟩ := hv1; exact m89.cel) (i := aq - 1) (by omega) (by omega) rfl) (Fx.Qv (.slice pa2 (pl1.length) (pc2)) (fun v1 hv1 => Fx.x_move rfl h53) (Fx.Qv (.int .i64 ((k : Int))) (fun v1 hv1 => Fx.x_move rfl h54) (Fx.Qv (.int .i64 ((k : Int) + 1)) (fun v1 hv1 => Fx.x_add rfl rfl rfl Fx.io) ?_))))
    obtain ⟨gq8, eq9⟩ := m74.addr (by omega)
    have m90 : Fx.Own w18 w15.heap.size 28 1 (.slice (some ⟨gq8, 0, none⟩) pl1.length pc2) pl1.length (lsU pl1) := m74.congV (congrArg (fun q => Value.slice q pl1.length pc2) eq9)
    refine Fx.Qv ((pf gq8 (k + 1))) (fun v1 hv1 => Fx.x_indexS rfl (rfl.trans (congrArg (fun q => Value.slice q (pl1.length) (pc2)) eq9)) rfl Try.underlying33 (s := 1) (by kernel_rfl) (by omega) (by omega) (by omega)) (Fx.Qv (.int .u64 (pl1.getD (k + 1) 0)) (fun v1 hv1 => Fx.x_load1 (x := lsU pl1) rfl rfl (by kernel_rfl) (by obtain ⟨qd, rfl⟩ := hv1; exact m90.cel) (i := k + 1) (by omega) (by omega) rfl) (Fx.Qv (.bool false) (fun v1 hv1 => Fx.x_neqF rfl rfl rfl (TrM.pl_next hTok hpl1 (by omega) ha2 ha3)) (Fx.Qv (.bool false) (fun v1 hv1 => Fx.x_pickT rfl rfl rfl) (Fx.Qv (.bool false) (fun v1 hv1 => Fx.x_pickF rfl rfl rfl) (Fx.Qv (.bool false) (fun v1 hv1 => Fx.x_move rfl rfl) (Fx.Qv (.int .i64 ((k : Int))) (fun v1 hv1 => Fx.x_move rfl h54) (Fx.Qv (.int .i64 ((k : Int) + 1)) (fun v1 hv1 => Fx.x_add rfl rfl rfl Fx.io) (Fx.Qv (.slice pa2 (pl1.length) (pc2)) (fun v1 hv1 => Fx.x_move rfl h53) (Fx.Qv (.int .i64 ((pl1.length : Int))) (fun v1 hv1 => Fx.x_len rfl rfl rfl (by kernel_rfl)) (Fx.Qv (.bool false) (fun v1 hv1 => Fx.x_eqlF rfl rfl rfl (by omega)) (Fx.Qv (.bool false) (fun v1 hv1 => Fx.x_move rfl rfl) (Fx.Qs (by rfl) rfl (Fx.Qs (by rfl) rfl (Fx.Qs (by rfl) rfl (Fx.Qs (by rfl) rfl (Fx.Qs (by rfl) rfl (Fx.Qv (.bool false) (fun v1 hv1 => Fx.x_pickF rfl rfl rfl) (Fx.Qv (.bool false) (fun v1 hv1 => Fx.x_pickF rfl rfl rfl) (Fx.Qt.nil ?_)))))))))))))))))))
    rintro _ ⟨qd, rfl⟩
    obtain ⟨wq4, ewq4⟩ : ∃ v1, v1 = World.drewN w18 qd := ⟨_, rfl⟩
    rw [← ewq4]
    have s12 : Fx.Stp w18.heap.size w18 wq4 := by rw [ewq4]; exact Fx.Sb (bdrN w18 qd)
    have m91 := m71.up s12.old
    have m92 := m72.stp s12 (m72.notNew (Nat.le_refl _))
    have m93 := m89.stpB s12 (Nat.ne_of_lt (m89.lt))
    have m94 := m90.stpB s12 (Nat.ne_of_lt (m90.lt))
    have b22 := s12.below b19 b19.size b19.size
    clear ewq4
    refine Fx.sN (Fx.Wc (b := false) rfl (fun h => nomatch h) (fun _ => Fx.Wk (Fx.blkN (Fx.sN (Fx.Wl (Fx.Lv (.int .i64 ((k : Int))) (Fx.x_move rfl h54) (Fx.Lv (.int .i64 ((k : Int) + 1)) (Fx.x_add rfl rfl rfl Fx.io) (Fx.Lv (.int .i64 ((k : Int) + 1)) (Fx.x_assign rfl rfl) (Fx.Ln ?_)))))))))
    have m95 : Fx.Own wq4 w.heap.size 28 1 (.slice ua (T.n) (uc)) T.n (fun q => .int .u64 (T.p q)) := m93.congV (congrArg (fun q => Value.slice q T.n uc) eq8.symm)
    have m96 : Fx.Own wq4 w15.heap.size 28 1 (.slice pa2 (pl1.length) (pc2)) pl1.length (lsU pl1) := m94.congV (congrArg (fun q => Value.slice q pl1.length pc2) eq9.symm)
    refine Fx.lpN ⟨k + 1, (by omega), h49, h50, h51, (h52.trans Fx.ic), h53, Fx.ic, m91, m92, m95, m96, b22⟩ ?_
    show ((pl1.length : Int) - intOf ((.int .i64 ((k : Int) + 1)))).toNat < _
    simp only [h48, intOf]; omega
   refine Fx.Qv (.bool false) (fun v1 hv1 => Fx.x_lssF rfl rfl rfl c175) (Fx.Qv (.bool false) (fun v1 hv1 => Fx.x_move rfl rfl) (Fx.Qs (by rfl) rfl (Fx.Qs (by rfl) rfl (Fx.Qs (by rfl) rfl (Fx.Qs (by rfl) rfl (Fx.Qs (by rfl) rfl (Fx.Qs (by rfl) rfl (Fx.Qs (by rfl) rfl (Fx.Qs (by rfl) rfl (Fx.Qs (by rfl) rfl (Fx.Qs (by rfl) rfl (Fx.Qv (.bool false) (fun v1 hv1 => Fx.x_pickF rfl rfl rfl) (Fx.Qv (.bool false) (fun v1 hv1 => Fx.x_pickF rfl rfl rfl) (Fx.Qv (.bool false) (fun v1 hv1 => Fx.x_move rfl rfl) (Fx.Qv (.int .i64 ((k : Int))) (fun v1 hv1 => Fx.x_move rfl h54) (Fx.Qv (.int .i64 ((k : Int) + 1)) (fun v1 hv1 => Fx.x_add rfl rfl rfl Fx.io) (Fx.Qv (.slice pa2 (pl1.length) (pc2)) (fun v1 hv1 => Fx.x_move rfl h53) (Fx.Qv (.int .i64 ((pl1.length : Int))) (fun v1 hv1 => Fx.x_len rfl rfl rfl (by kernel_rfl)) (Fx.Qv (.bool true) (fun v1 hv1 => Fx.x_eqlT rfl rfl rfl (by omega)) (Fx.Qv (.bool true) (fun v1 hv1 => Fx.x_move rfl rfl) (Fx.Qv (.slice ua (T.n) (uc)) (fun v1 hv1 => Fx.x_move rfl h51) (Fx.Qv (.int .i64 ((aq : Int) - 1)) (fun v1 hv1 => Fx.x_move rfl h55) ?_))))))))))))))))))))))
   obtain ⟨gq9, eq10⟩ := m73.addr (by omega)
   have m97 : Fx.Own w18 w.heap.size 28 1 (.slice (some ⟨gq9, 0, none⟩) T.n uc) T.n (fun q => .int .u64 (T.p q)) := m73.congV (congrArg (fun q => Value.slice q T.n uc) eq10)
   refine Fx.Qv ((pf gq9 (aq - 1))) (fun v1 hv1 => Fx.x_indexS rfl (rfl.trans (congrArg (fun q => Value.slice q (T.n) (uc)) eq10)) rfl Try.underlying33 (s := 1) (by kernel_rfl) (by omega) (by omega) (by omega)) (Fx.Qv (.int .u64 (T.p (aq - 1))) (fun v1 hv1 => Fx.x_load1 (x := fun q => .int .u64 (T.p q)) rfl rfl (by kernel_rfl) (by obtain ⟨qd, rfl⟩ := hv1; exact m97.cel) (i := aq - 1) (by omega) (by omega) rfl) (Fx.Qv (.bool false) (fun v1 hv1 => Fx.x_neqF rfl rfl rfl (TrM.pl_last hTok hpl1 (by omega) ha2 ha3)) (Fx.Qv (.bool false) (fun v1 hv1 => Fx.x_pickT rfl rfl rfl) (Fx.Qv (.bool false) (fun v1 hv1 => Fx.x_pickF rfl rfl rfl) (Fx.Qt.nil ?_)))))
   rintro _ ⟨qd, rfl⟩
   obtain ⟨wq5, ewq5⟩ : ∃ v1, v1 = World.drewN w18 qd := ⟨_, rfl⟩
   rw [← ewq5]
   have s13 : Fx.Stp w18.heap.size w18 wq5 := by rw [ewq5]; exact Fx.Sb (bdrN w18 qd)
   have m98 := m71.up s13.old
   have m99 := m72.stp s13 (m72.notNew (Nat.le_refl _))
   have m100 := m74.stp s13 (m74.notNew (Nat.le_refl _))
   have m101 := m97.stpB s13 (Nat.ne_of_lt (m97.lt))
   have b23 := s13.below b19 b19.size b19.size
   clear ewq5
   refine Fx.sN (Fx.Wc (b := false) rfl (fun h => nomatch h) (fun _ => Fx.Wk (Fx.blkN (Fx.sN (Fx.Wl (Fx.Lv (.int .i64 ((k : Int))) (Fx.x_move rfl h54) (Fx.Lv (.int .i64 ((k : Int) + 1)) (Fx.x_add rfl rfl rfl Fx.io) (Fx.Lv (.int .i64 ((k : Int) + 1)) (Fx.x_assign rfl rfl) (Fx.Ln ?_)))))))))
   have m102 : Fx.Own wq5 w.heap.size 28 1 (.slice ua (T.n) (uc)) T.n (fun q => .int .u64 (T.p q)) := m101.congV (congrArg (fun q => Value.slice q T.n uc) eq10.symm)
   refine Fx.lpN ⟨k + 1, (by omega), h49, h50, h51, (h52.trans Fx.ic), h53, Fx.ic, m98, m99, m102, m100, b23⟩ ?_
   show ((pl1.length : Int) - intOf ((.int .i64 ((k : Int) + 1)))).toNat < _
   simp only [h48, intOf]; omega
  refine Fx.Lv (.bool false) (Fx.x_lssF rfl rfl rfl c149) (Fx.Ln (Fx.sN (Fx.Wc (b := false) rfl (fun h => nomatch h) (fun _ => Fx.W.exit (Fx.seqX (Fx.lpX (Fx.blkX (Fx.sN (Fx.Ws (Fx.Wl (Fx.Lv (.int .i64 (0)) (Fx.x_assign rfl rfl) (Fx.Ln (Fx.sN (Fx.W.block (Fx.W.loop (fun f w_ => ∃ k : Nat, k ≤ T.n ∧ f 3 = (pt tp1) ∧ f 4 = .slice ia (T.n) (ic) ∧ f 5 = .slice ua (T.n) (uc) ∧ f 13 = .int .i64 ((i : Int)) ∧ f 14 = .slice pa2 (pl1.length) (pc2) ∧ f 18 = .int .i64 ((k : Int)) ∧ TrW w_ (w.heap.size) tp1 mb1 T ∧ Fx.Own w_ w.heap.size 28 1 (.slice ia (T.n) (ic)) T.n (fun q => .int .u64 (T.x q)) ∧ Fx.Own w_ w.heap.size 28 1 (.slice ua (T.n) (uc)) T.n (fun q => .int .u64 (T.p q)) ∧ Fx.Own w_ w15.heap.size 28 1 (.slice pa2 (pl1.length) (pc2)) pl1.length (lsU pl1) ∧ Below w.heap.size w w_) (fun f _ => ((T.n : Int) - intOf (f 18)).toNat) ⟨0, (by omega), h43, h44, h45, (h46.trans Fx.ic), h47, Fx.ic, m67, m68, m69, m70, b18⟩ ?_)))))))))))))))
  rintro f9 w19 ⟨k, hk, h57, h58, h59, h60, h61, h62, m103, m104, m105, m106, b24⟩
  refine Fx.Ws (Fx.Ws (Fx.Wl (Fx.Lv (.int .i64 ((k : Int))) (Fx.x_move rfl h62) (Fx.Lv (.slice ia (T.n) (ic)) (Fx.x_move rfl h58) (Fx.Lv (.int .i64 ((T.n : Int))) (Fx.x_len rfl rfl rfl (by kernel_rfl)) ?_)))))
  by_cases c206 : (k : Int) < (T.n : Int)
  ·refine Fx.Lv (.bool true) (Fx.x_lssT rfl rfl rfl c206) (Fx.Ln (Fx.sN (Fx.Wc (b := true) rfl (fun _ => Fx.Wk (Fx.sN (Fx.Ws (Fx.W.block (Fx.Ws (Fx.Wl (Fx.Lv (.bool false) (Fx.x_assign rfl rfl) ?_))))))) (fun h => nomatch h))))
   refine Fx.Ln (Fx.sN (Fx.Ws (Fx.Ws (Fx.Wl (Fx.Lv (.int .i64 (0)) (Fx.x_assign rfl rfl) (Fx.Ln (Fx.sN (Fx.W.block (Fx.W.loop (fun f w_ => ∃ jo : Nat, ∃ on : Bool, Fnd pl1 (T.x k) jo on ∧ jo ≤ pl1.length ∧ f 3 = (pt tp1) ∧ f 4 = .slice ia (T.n) (ic) ∧ f 5 = .slice ua (T.n) (uc) ∧ f 13 = .int .i64 ((i : Int)) ∧ f 14 = .slice pa2 (pl1.length) (pc2) ∧ f 18 = .int .i64 ((k : Int)) ∧ f 19 = .bool on ∧ f 20 = .int .i64 ((jo : Int)) ∧ TrW w_ (w.heap.size) tp1 mb1 T ∧ Fx.Own w_ w.heap.size 28 1 (.slice ia (T.n) (ic)) T.n (fun q => .int .u64 (T.x q)) ∧ Fx.Own w_ w.heap.size 28 1 (.slice ua (T.n) (uc)) T.n (fun q => .int .u64 (T.p q)) ∧ Fx.Own w_ w15.heap.size 28 1 (.slice pa2 (pl1.length) (pc2)) pl1.length (lsU pl1) ∧ Below w.heap.size w w_) (fun f _ => ((pl1.length : Int) - intOf (f 20)).toNat) ⟨0, false, (Fnd.zero _ _), (by omega), h57, h58, h59, (h60.trans Fx.ic), h61, (h62.trans Fx.ic), (by rfl), Fx.ic, m103, m104, m105, m106, b24⟩ ?_)))))))))
   rintro f10 w20 ⟨jo, on, hon, hjo, h63, h64, h65, h66, h67, h68, h69, h70, m107, m108, m109, m110, b25⟩
   refine Fx.Ws (Fx.Ws (Fx.Wl (Fx.Lv (.int .i64 ((jo : Int))) (Fx.x_move rfl h70) (Fx.Lv (.slice pa2 (pl1.length) (pc2)) (Fx.x_move rfl h67) (Fx.Lv (.int .i64 ((pl1.length : Int))) (Fx.x_len rfl rfl rfl (by kernel_rfl)) ?_)))))
   by_cases c212 : (jo : Int) < (pl1.length : Int)
   ·refine Fx.Lv (.bool true) (Fx.x_lssT rfl rfl rfl c212) (Fx.Ln (Fx.sN (Fx.Wc (b := true) rfl (fun _ => Fx.Wk (Fx.sN (Fx.Ws (Fx.W.block ?_)))) (fun h => nomatch h))))
    -- region 57 draws
    refine Fx.W.quiet (fun v1 => ∃ q, v1 = World.drewN w20 q) (by kernel_rfl) (by kernel_rfl) ⟨1, rfl⟩ ?_
    refine Fx.Qv (.bool on) (fun v1 hv1 => Fx.x_move rfl h69) ?_
    by_cases c216 : on = true
    ·refine Fx.Qv (.bool true) (fun v1 hv1 => Fx.x_move rfl (rfl.trans (congrArg Value.bool c216))) (Fx.Qs (by rfl) rfl (Fx.Qs (by rfl) rfl (Fx.Qs (by rfl) rfl (Fx.Qs (by rfl) rfl (Fx.Qs (by rfl) rfl (Fx.Qs (by rfl) rfl (Fx.Qs (by rfl) rfl (Fx.Qs (by rfl) rfl (Fx.Qs (by rfl) rfl (Fx.Qv (.bool true) (fun v1 hv1 => Fx.x_pickT rfl rfl rfl) (Fx.Qv (.bool true) (fun v1 hv1 => Fx.x_assign rfl rfl) (Fx.Qt.nil ?_))))))))))))
     rintro _ ⟨qd, rfl⟩
     obtain ⟨wq6, ewq6⟩ : ∃ v1, v1 = World.drewN w20 qd := ⟨_, rfl⟩
     rw [← ewq6]
     have s14 : Fx.Stp w20.heap.size w20 wq6 := by rw [ewq6]; exact Fx.Sb (bdrN w20 qd)
     have m111 := m107.up s14.old
     have m112 := m108.stp s14 (m108.notNew (Nat.le_refl _))
     have m113 := m109.stp s14 (m109.notNew (Nat.le_refl _))
     have m114 := m110.stp s14 (m110.notNew (Nat.le_refl _))
     have b26 := s14.below b25 b25.size b25.size
     clear ewq6
     refine Fx.blkN (Fx.sN (Fx.Wl (Fx.Lv (.int .i64 ((jo : Int))) (Fx.x_move rfl h70) (Fx.Lv (.int .i64 ((jo : Int) + 1)) (Fx.x_add rfl rfl rfl Fx.io) (Fx.Lv (.int .i64 ((jo : Int) + 1)) (Fx.x_assign rfl rfl) (Fx.Ln (Fx.lpN ⟨jo + 1, true, (by rw [c216] at hon; exact hon.keep), (by omega), h63, h64, h65, (h66.trans Fx.ic), h67, (h68.trans Fx.ic), (by rfl), Fx.ic, m111, m112, m113, m114, b26⟩ ?_)))))))
     show ((pl1.length : Int) - intOf ((.int .i64 ((jo : Int) + 1)))).toNat < _
     simp only [h70, intOf]; omega
    rw [Bool.not_eq_true] at c216
    refine Fx.Qv (.bool false) (fun v1 hv1 => Fx.x_move rfl (rfl.trans (congrArg Value.bool c216))) (Fx.Qv (.slice pa2 (pl1.length) (pc2)) (fun v1 hv1 => Fx.x_move rfl h67) (Fx.Qv (.int .i64 ((jo : Int))) (fun v1 hv1 => Fx.x_move rfl h70) ?_))
    obtain ⟨gq10, eq11⟩ := m110.addr (by omega)
    have m115 : Fx.Own w20 w15.heap.size 28 1 (.slice (some ⟨gq10, 0, none⟩) pl1.length pc2) pl1.length (lsU pl1) := m110.congV (congrArg (fun q => Value.slice q pl1.length pc2) eq11)
    refine Fx.Qv ((pf gq10 jo)) (fun v1 hv1 => Fx.x_indexS rfl (rfl.trans (congrArg (fun q => Value.slice q (pl1.length) (pc2)) eq11)) rfl Try.underlying33 (s := 1) (by kernel_rfl) (by omega) (by omega) (by omega)) (Fx.Qv (.int .u64 (pl1.getD jo 0)) (fun v1 hv1 => Fx.x_load1 (x := lsU pl1) rfl rfl (by kernel_rfl) (by obtain ⟨qd, rfl⟩ := hv1; exact m115.cel) (i := jo) (by omega) (by omega) rfl) (Fx.Qv (.slice ia (T.n) (ic)) (fun v1 hv1 => Fx.x_move rfl h64) (Fx.Qv (.int .i64 ((k : Int))) (fun v1 hv1 => Fx.x_move rfl h68) ?_)))
    obtain ⟨gq11, eq12⟩ := m108.addr (by omega)
    have m116 : Fx.Own w20 w.heap.size 28 1 (.slice (some ⟨gq11, 0, none⟩) T.n ic) T.n (fun q => .int .u64 (T.x q)) := m108.congV (congrArg (fun q => Value.slice q T.n ic) eq12)
    refine Fx.Qv ((pf gq11 k)) (fun v1 hv1 => Fx.x_indexS rfl (rfl.trans (congrArg (fun q => Value.slice q (T.n) (ic)) eq12)) rfl Try.underlying33 (s := 1) (by kernel_rfl) (by omega) (by omega) (by omega)) (Fx.Qv (.int .u64 (T.x k)) (fun v1 hv1 => Fx.x_load1 (x := fun q => .int .u64 (T.x q)) rfl rfl (by kernel_rfl) (by obtain ⟨qd, rfl⟩ := hv1; exact m116.cel) (i := k) (by omega) (by omega) rfl) ?_)
    by_cases c225 : (pl1.getD jo 0) = (T.x k)
    ·refine Fx.Qv (.bool true) (fun v1 hv1 => Fx.x_eqlT rfl rfl rfl c225) (Fx.Qv (.bool true) (fun v1 hv1 => Fx.x_pickF rfl rfl rfl) (Fx.Qv (.bool true) (fun v1 hv1 => Fx.x_assign rfl rfl) (Fx.Qt.nil ?_)))
     rintro _ ⟨qd, rfl⟩
     obtain ⟨wq7, ewq7⟩ : ∃ v1, v1 = World.drewN w20 qd := ⟨_, rfl⟩
     rw [← ewq7]
     have s15 : Fx.Stp w20.heap.size w20 wq7 := by rw [ewq7]; exact Fx.Sb (bdrN w20 qd)
     have m117 := m107.up s15.old
     have m118 := m109.stp s15 (m109.notNew (Nat.le_refl _))
     have m119 := m115.stpB s15 (Nat.ne_of_lt (m115.lt))
     have m120 := m116.stpB s15 (Nat.ne_of_lt (m116.lt))
     have b27 := s15.below b25 b25.size b25.size
     clear ewq7
     refine Fx.blkN (Fx.sN (Fx.Wl (Fx.Lv (.int .i64 ((jo : Int))) (Fx.x_move rfl h70) (Fx.Lv (.int .i64 ((jo : Int) + 1)) (Fx.x_add rfl rfl rfl Fx.io) (Fx.Lv (.int .i64 ((jo : Int) + 1)) (Fx.x_assign rfl rfl) (Fx.Ln ?_))))))
     have m121 : Fx.Own wq7 w15.heap.size 28 1 (.slice pa2 (pl1.length) (pc2)) pl1.length (lsU pl1) := m119.congV (congrArg (fun q => Value.slice q pl1.length pc2) eq11.symm)
     have m122 : Fx.Own wq7 w.heap.size 28 1 (.slice ia (T.n) (ic)) T.n (fun q => .int .u64 (T.x q)) := m120.congV (congrArg (fun q => Value.slice q T.n ic) eq12.symm)
     refine Fx.lpN ⟨jo + 1, true, (Fnd.yes (by omega) c225), (by omega), h63, h64, h65, (h66.trans Fx.ic), h67, (h68.trans Fx.ic), (by rfl), Fx.ic, m117, m122, m118, m121, b27⟩ ?_
     show ((pl1.length : Int) - intOf ((.int .i64 ((jo : Int) + 1)))).toNat < _
     simp only [h70, intOf]; omega
    refine Fx.Qv (.bool false) (fun v1 hv1 => Fx.x_eqlF rfl rfl rfl c225) (Fx.Qv (.bool false) (fun v1 hv1 => Fx.x_pickF rfl rfl rfl) (Fx.Qv (.bool false) (fun v1 hv1 => Fx.x_assign rfl rfl) (Fx.Qt.nil ?_)))
    rintro _ ⟨qd, rfl⟩
    obtain ⟨wq8, ewq8⟩ : ∃ v1, v1 = World.drewN w20 qd := ⟨_, rfl⟩
    rw [← ewq8]
    have s16 : Fx.Stp w20.heap.size w20 wq8 := by rw [ewq8]; exact Fx.Sb (bdrN w20 qd)
    have m123 := m107.up s16.old
    have m124 := m109.stp s16 (m109.notNew (Nat.le_refl _))
    have m125 := m115.stpB s16 (Nat.ne_of_lt (m115.lt))
    have m126 := m116.stpB s16 (Nat.ne_of_lt (m116.lt))
    have b28 := s16.below b25 b25.size b25.size
    clear ewq8
    refine Fx.blkN (Fx.sN (Fx.Wl (Fx.Lv (.int .i64 ((jo : Int))) (Fx.x_move rfl h70) (Fx.Lv (.int .i64 ((jo : Int) + 1)) (Fx.x_add rfl rfl rfl Fx.io) (Fx.Lv (.int .i64 ((jo : Int) + 1)) (Fx.x_assign rfl rfl) (Fx.Ln ?_))))))
    have m127 : Fx.Own wq8 w15.heap.size 28 1 (.slice pa2 (pl1.length) (pc2)) pl1.length (lsU pl1) := m125.congV (congrArg (fun q => Value.slice q pl1.length pc2) eq11.symm)
    have m128 : Fx.Own wq8 w.heap.size 28 1 (.slice ia (T.n) (ic)) T.n (fun q => .int .u64 (T.x q)) := m126.congV (congrArg (fun q => Value.slice q T.n ic) eq12.symm)
    refine Fx.lpN ⟨jo + 1, false, (by rw [c216] at hon; exact hon.no c225), (by omega), h63, h64, h65, (h66.trans Fx.ic), h67, (h68.trans Fx.ic), (by rfl), Fx.ic, m123, m128, m124, m127, b28⟩ ?_
    show ((pl1.length : Int) - intOf ((.int .i64 ((jo : Int) + 1)))).toNat < _
    simp only [h70, intOf]; omega
   refine Fx.Lv (.bool false) (Fx.x_lssF rfl rfl rfl c212) (Fx.Ln (Fx.sN (Fx.Wc (b := false) rfl (fun h => nomatch h) (fun _ => Fx.W.exit (Fx.seqX (Fx.lpX (Fx.blkX (Fx.sN (Fx.Ws (Fx.Wl (Fx.Lv ((pt tp1)) (Fx.x_move rfl h63) (Fx.Lv (.slice ia (T.n) (ic)) (Fx.x_move rfl h64) (Fx.Lv (.int .i64 ((k : Int))) (Fx.x_move rfl h68) ?_)))))))))))))
   obtain ⟨gq12, eq13⟩ := m108.addr (by omega)
   have m129 : Fx.Own w20 w.heap.size 28 1 (.slice (some ⟨gq12, 0, none⟩) T.n ic) T.n (fun q => .int .u64 (T.x q)) := m108.congV (congrArg (fun q => Value.slice q T.n ic) eq13)
   refine Fx.Lv ((pf gq12 k)) (Fx.x_indexS rfl (rfl.trans (congrArg (fun q => Value.slice q (T.n) (ic)) eq13)) rfl Try.underlying33 (s := 1) (by kernel_rfl) (by omega) (by omega) (by omega)) (Fx.Lv (.int .u64 (T.x k)) (Fx.x_load1 (x := fun q => .int .u64 (T.x q)) rfl rfl (by kernel_rfl) m129.cel (i := k) (by omega) (by omega) rfl) (Fx.L.call (by rfl) (Fx.rC (args := [(pt tp1), .int .u64 (T.x k)]) rfl rfl Try.func12 rfl rfl) rfl ((w_below (T.x k) m107).mono ?_)))
   rintro e9 w21 ⟨la2, lc2, ll2, he, m130, hq2, khq2, hb6⟩
   refine ⟨_, he, ?_⟩
   clear he
   have s17 := Fx.Sb hb6
   have m131 := m107.up s17.old
   have m132 := m109.stp s17 (m109.notNew (Nat.le_refl _))
   have m133 := m110.stp s17 (m110.notNew (Nat.le_refl _))
   have m134 := m129.stpB s17 (Nat.ne_of_lt (m129.lt))
   have b29 := s17.below b25 b25.size b25.size
   refine Fx.Lv (.slice la2 (ll2.length) (lc2)) (Fx.x_assign rfl rfl) (Fx.Ln (Fx.sN (Fx.Ws ?_)))
   have m135 : Fx.Own w21 w.heap.size 28 1 (.slice ia (T.n) (ic)) T.n (fun q => .int .u64 (T.x q)) := m134.congV (congrArg (fun q => Value.slice q T.n ic) eq13.symm)
   refine Fx.Wl (Fx.Lv (.bool false) (Fx.x_assign rfl rfl) (Fx.Ln (Fx.sN (Fx.Ws (Fx.Ws (Fx.Wl (Fx.Lv (.int .i64 (0)) (Fx.x_assign rfl rfl) (Fx.Ln (Fx.sN (Fx.W.block (Fx.W.loop (fun f w_ => ∃ jb : Nat, ∃ bl : Bool, Fnd ll2 (T.x i) jb bl ∧ jb ≤ ll2.length ∧ f 3 = (pt tp1) ∧ f 4 = .slice ia (T.n) (ic) ∧ f 5 = .slice ua (T.n) (uc) ∧ f 13 = .int .i64 ((i : Int)) ∧ f 14 = .slice pa2 (pl1.length) (pc2) ∧ f 18 = .int .i64 ((k : Int)) ∧ f 19 = .bool on ∧ f 21 = .slice la2 (ll2.length) (lc2) ∧ f 22 = .bool bl ∧ f 23 = .int .i64 ((jb : Int)) ∧ TrW w_ (w.heap.size) tp1 mb1 T ∧ Fx.Own w_ w.heap.size 28 1 (.slice ia (T.n) (ic)) T.n (fun q => .int .u64 (T.x q)) ∧ Fx.Own w_ w.heap.size 28 1 (.slice ua (T.n) (uc)) T.n (fun q => .int .u64 (T.p q)) ∧ Fx.Own w_ w15.heap.size 28 1 (.slice pa2 (pl1.length) (pc2)) pl1.length (lsU pl1) ∧ Fx.Own w_ w20.heap.size 28 1 (.slice la2 (ll2.length) (lc2)) ll2.length (lsU ll2) ∧ Below w.heap.size w w_) (fun f _ => ((ll2.length : Int) - intOf (f 23)).toNat) ⟨0, false, (Fnd.zero _ _), (by omega), h63, h64, h65, (h66.trans Fx.ic), h67, (h68.trans Fx.ic), h69, (by rfl), (by rfl), Fx.ic, m131, m135, m132, m133, m130, b29⟩ ?_)))))))))))
   rintro f11 w22 ⟨jb, bl, hbl, hjb, h71, h72, h73, h74, h75, h76, h77, h78, h79, h80, m136, m137, m138, m139, m140, b30⟩
   refine Fx.Ws (Fx.Ws (Fx.Wl (Fx.Lv (.int .i64 ((jb : Int))) (Fx.x_move rfl h80) (Fx.Lv (.slice la2 (ll2.length) (lc2)) (Fx.x_move rfl h78) (Fx.Lv (.int .i64 ((ll2.length : Int))) (Fx.x_len rfl rfl rfl (by kernel_rfl)) ?_)))))
   by_cases c236 : (jb : Int) < (ll2.length : Int)
   ·refine Fx.Lv (.bool true) (Fx.x_lssT rfl rfl rfl c236) (Fx.Ln (Fx.sN (Fx.Wc (b := true) rfl (fun _ => Fx.Wk (Fx.sN (Fx.Ws (Fx.W.block ?_)))) (fun h => nomatch h))))
    -- region 63 draws
    refine Fx.W.quiet (fun v1 => ∃ q, v1 = World.drewN w22 q) (by kernel_rfl) (by kernel_rfl) ⟨1, rfl⟩ ?_
    refine Fx.Qv (.bool bl) (fun v1 hv1 => Fx.x_move rfl h79) ?_
    by_cases c240 : bl = true
    ·refine Fx.Qv (.bool true) (fun v1 hv1 => Fx.x_move rfl (rfl.trans (congrArg Value.bool c240))) (Fx.Qs (by rfl) rfl (Fx.Qs (by rfl) rfl (Fx.Qs (by rfl) rfl (Fx.Qs (by rfl) rfl (Fx.Qs (by rfl) rfl (Fx.Qs (by rfl) rfl (Fx.Qs (by rfl) rfl (Fx.Qs (by rfl) rfl (Fx.Qs (by rfl) rfl (Fx.Qv (.bool true) (fun v1 hv1 => Fx.x_pickT rfl rfl rfl) (Fx.Qv (.bool true) (fun v1 hv1 => Fx.x_assign rfl rfl) (Fx.Qt.nil ?_))))))))))))
     rintro _ ⟨qd, rfl⟩
     obtain ⟨wq9, ewq9⟩ : ∃ v1, v1 = World.drewN w22 qd := ⟨_, rfl⟩
     rw [← ewq9]
     have s18 : Fx.Stp w22.heap.size w22 wq9 := by rw [ewq9]; exact Fx.Sb (bdrN w22 qd)
     have m141 := m136.up s18.old
     have m142 := m137.stp s18 (m137.notNew (Nat.le_refl _))
     have m143 := m138.stp s18 (m138.notNew (Nat.le_refl _))
     have m144 := m139.stp s18 (m139.notNew (Nat.le_refl _))
     have m145 := m140.stp s18 (m140.notNew (Nat.le_refl _))
     have b31 := s18.below b30 b30.size b30.size
     clear ewq9
     refine Fx.blkN (Fx.sN (Fx.Wl (Fx.Lv (.int .i64 ((jb : Int))) (Fx.x_move rfl h80) (Fx.Lv (.int .i64 ((jb : Int) + 1)) (Fx.x_add rfl rfl rfl Fx.io) (Fx.Lv (.int .i64 ((jb : Int) + 1)) (Fx.x_assign rfl rfl) (Fx.Ln (Fx.lpN ⟨jb + 1, true, (by rw [c240] at hbl; exact hbl.keep), (by omega), h71, h72, h73, (h74.trans Fx.ic), h75, (h76.trans Fx.ic), h77, h78, (by rfl), Fx.ic, m141, m142, m143, m144, m145, b31⟩ ?_)))))))
     show ((ll2.length : Int) - intOf ((.int .i64 ((jb : Int) + 1)))).toNat < _
     simp only [h80, intOf]; omega
    rw [Bool.not_eq_true] at c240
    refine Fx.Qv (.bool false) (fun v1 hv1 => Fx.x_move rfl (rfl.trans (congrArg Value.bool c240))) (Fx.Qv (.slice la2 (ll2.length) (lc2)) (fun v1 hv1 => Fx.x_move rfl h78) (Fx.Qv (.int .i64 ((jb : Int))) (fun v1 hv1 => Fx.x_move rfl h80) ?_))
    obtain ⟨gq13, eq14⟩ := m140.addr (by omega)
    have m146 : Fx.Own w22 w20.heap.size 28 1 (.slice (some ⟨gq13, 0, none⟩) ll2.length lc2) ll2.length (lsU ll2) := m140.congV (congrArg (fun q => Value.slice q ll2.length lc2) eq14)
    refine Fx.Qv ((pf gq13 jb)) (fun v1 hv1 => Fx.x_indexS rfl (rfl.trans (congrArg (fun q => Value.slice q (ll2.length) (lc2)) eq14)) rfl Try.underlying33 (s := 1) (by kernel_rfl) (by omega) (by omega) (by omega)) (Fx.Qv (.int .u64 (ll2.getD jb 0)) (fun v1 hv1 => Fx.x_load1 (x := lsU ll2) rfl rfl (by kernel_rfl) (by obtain ⟨qd, rfl⟩ := hv1; exact m146.cel) (i := jb) (by omega) (by omega) rfl) (Fx.Qv (.slice ia (T.n) (ic)) (fun v1 hv1 => Fx.x_move rfl h72) (Fx.Qv (.int .i64 ((i : Int))) (fun v1 hv1 => Fx.x_move rfl h74) ?_)))
    obtain ⟨gq14, eq15⟩ := m137.addr (by omega)
    have m147 : Fx.Own w22 w.heap.size 28 1 (.slice (some ⟨gq14, 0, none⟩) T.n ic) T.n (fun q => .int .u64 (T.x q)) := m137.congV (congrArg (fun q => Value.slice q T.n ic) eq15)
    refine Fx.Qv ((pf gq14 i)) (fun v1 hv1 => Fx.x_indexS rfl (rfl.trans (congrArg (fun q => Value.slice q (T.n) (ic)) eq15)) rfl Try.underlying33 (s := 1) (by kernel_rfl) (by omega) (by omega) (by omega)) (Fx.Qv (.int .u64 (T.x i)) (fun v1 hv1 => Fx.x_load1 (x := fun q => .int .u64 (T.x q)) rfl rfl (by kernel_rfl) (by obtain ⟨qd, rfl⟩ := hv1; exact m147.cel) (i := i) (by omega) (by omega) rfl) ?_)
    by_cases c249 : (ll2.getD jb 0) = (T.x i)
    ·refine Fx.Qv (.bool true) (fun v1 hv1 => Fx.x_eqlT rfl rfl rfl c249) (Fx.Qv (.bool true) (fun v1 hv1 => Fx.x_pickF rfl rfl rfl) (Fx.Qv (.bool true) (fun v1 hv1 => Fx.x_assign rfl rfl) (Fx.Qt.nil ?_)))
     rintro _ ⟨qd, rfl⟩
     obtain ⟨wq10, ewq10⟩ : ∃ v1, v1 = World.drewN w22 qd := ⟨_, rfl⟩
     rw [← ewq10]
     have s19 : Fx.Stp w22.heap.size w22 wq10 := by rw [ewq10]; exact Fx.Sb (bdrN w22 qd)
     have m148 := m136.up s19.old
     have m149 := m138.stp s19 (m138.notNew (Nat.le_refl _))
     have m150 := m139.stp s19 (m139.notNew (Nat.le_refl _))
     have m151 := m146.stpB s19 (Nat.ne_of_lt (m146.lt))
     have m152 := m147.stpB s19 (Nat.ne_of_lt (m147.lt))
     have b32 := s19.below b30 b30.size b30.size
     clear ewq10
     refine Fx.blkN (Fx.sN (Fx.Wl (Fx.Lv (.int .i64 ((jb : Int))) (Fx.x_move rfl h80) (Fx.Lv (.int .i64 ((jb : Int) + 1)) (Fx.x_add rfl rfl rfl Fx.io) (Fx.Lv (.int .i64 ((jb : Int) + 1)) (Fx.x_assign rfl rfl) (Fx.Ln ?_))))))
     have m153 : Fx.Own wq10 w20.heap.size 28 1 (.slice la2 (ll2.length) (lc2)) ll2.length (lsU ll2) := m151.congV (congrArg (fun q => Value.slice q ll2.length lc2) eq14.symm)
     have m154 : Fx.Own wq10 w.heap.size 28 1 (.slice ia (T.n) (ic)) T.n (fun q => .int .u64 (T.x q)) := m152.congV (congrArg (fun q => Value.slice q T.n ic) eq15.symm)
     refine Fx.lpN ⟨jb + 1, true, (Fnd.yes (by omega) c249), (by omega), h71, h72, h73, (h74.trans Fx.ic), h75, (h76.trans Fx.ic), h77, h78, (by rfl), Fx.ic, m148, m154, m149, m150, m153, b32⟩ ?_
     show ((ll2.length : Int) - intOf ((.int .i64 ((jb : Int) + 1)))).toNat < _
     simp only [h80, intOf]; omega
    refine Fx.Qv (.bool false) (fun v1 hv1 => Fx.x_eqlF rfl rfl rfl c249) (Fx.Qv (.bool false) (fun v1 hv1 => Fx.x_pickF rfl rfl rfl) (Fx.Qv (.bool false) (fun v1 hv1 => Fx.x_assign rfl rfl) (Fx.Qt.nil ?_)))
    rintro _ ⟨qd, rfl⟩
    obtain ⟨wq11, ewq11⟩ : ∃ v1, v1 = World.drewN w22 qd := ⟨_, rfl⟩
    rw [← ewq11]
    have s20 : Fx.Stp w22.heap.size w22 wq11 := by rw [ewq11]; exact Fx.Sb (bdrN w22 qd)
    have m155 := m136.up s20.old
    have m156 := m138.stp s20 (m138.notNew (Nat.le_refl _))
    have m157 := m139.stp s20 (m139.notNew (Nat.le_refl _))
    have m158 := m146.stpB s20 (Nat.ne_of_lt (m146.lt))
    have m159 := m147.stpB s20 (Nat.ne_of_lt (m147.lt))
    have b33 := s20.below b30 b30.size b30.size
    clear ewq11
    refine Fx.blkN (Fx.sN (Fx.Wl (Fx.Lv (.int .i64 ((jb : Int))) (Fx.x_move rfl h80) (Fx.Lv (.int .i64 ((jb : Int) + 1)) (Fx.x_add rfl rfl rfl Fx.io) (Fx.Lv (.int .i64 ((jb : Int) + 1)) (Fx.x_assign rfl rfl) (Fx.Ln ?_))))))
    have m160 : Fx.Own wq11 w20.heap.size 28 1 (.slice la2 (ll2.length) (lc2)) ll2.length (lsU ll2) := m158.congV (congrArg (fun q => Value.slice q ll2.length lc2) eq14.symm)
    have m161 : Fx.Own wq11 w.heap.size 28 1 (.slice ia (T.n) (ic)) T.n (fun q => .int .u64 (T.x q)) := m159.congV (congrArg (fun q => Value.slice q T.n ic) eq15.symm)
    refine Fx.lpN ⟨jb + 1, false, (by rw [c240] at hbl; exact hbl.no c249), (by omega), h71, h72, h73, (h74.trans Fx.ic), h75, (h76.trans Fx.ic), h77, h78, (by rfl), Fx.ic, m155, m161, m156, m157, m160, b33⟩ ?_
    show ((ll2.length : Int) - intOf ((.int .i64 ((jb : Int) + 1)))).toNat < _
    simp only [h80, intOf]; omega
   refine Fx.Lv (.bool false) (Fx.x_lssF rfl rfl rfl c236) (Fx.Ln (Fx.sN (Fx.Wc (b := false) rfl (fun h => nomatch h) (fun _ => Fx.W.exit (Fx.seqX (Fx.lpX (Fx.blkX (Fx.sN (Fx.Ws (Fx.Wl (Fx.Lv (.bool on) (Fx.x_move rfl h77) (Fx.Lv (.bool bl) (Fx.x_move rfl h79) (Fx.Lv (.bool false) (Fx.x_neqB rfl rfl rfl (by kernel_rfl) (by have e := on_below (on := on) (bl := bl) (show i < T.n by omega) (by rw [← hpl1]; exact hon.mem (by omega)) hq2.2 (hbl.mem (by omega)); rw [e]; simp)) (Fx.Ln (Fx.sN (Fx.Wc (b := false) rfl (fun h => nomatch h) (fun _ => Fx.Wk (Fx.blkN (Fx.sN (Fx.Wl (Fx.Lv (.int .i64 ((k : Int))) (Fx.x_move rfl h76) (Fx.Lv (.int .i64 ((k : Int) + 1)) (Fx.x_add rfl rfl rfl Fx.io) (Fx.Lv (.int .i64 ((k : Int) + 1)) (Fx.x_assign rfl rfl) (Fx.Ln (Fx.lpN ⟨k + 1, (by omega), h71, h72, h73, (h74.trans Fx.ic), h75, Fx.ic, m136, m137, m138, m139, b30⟩ ?_)))))))))))))))))))))))))
   show ((T.n : Int) - intOf ((.int .i64 ((k : Int) + 1)))).toNat < _
   simp only [h62, intOf]; omega
  refine Fx.Lv (.bool false) (Fx.x_lssF rfl rfl rfl c206) (Fx.Ln (Fx.sN (Fx.Wc (b := false) rfl (fun h => nomatch h) (fun _ => Fx.W.exit (Fx.seqX (Fx.lpX (Fx.blkX (Fx.blkN (Fx.sN (Fx.Wl (Fx.Lv (.int .i64 ((i : Int))) (Fx.x_move rfl h60) (Fx.Lv (.int .i64 ((i : Int) + 1)) (Fx.x_add rfl rfl rfl Fx.io) (Fx.Lv (.int .i64 ((i : Int) + 1)) (Fx.x_assign rfl rfl) (Fx.Ln (Fx.lpN ⟨i + 1, (by omega), h57, h58, h59, Fx.ic, m103, m104, m105, b24⟩ ?_)))))))))))))))
  show ((T.n : Int) - intOf ((.int .i64 ((i : Int) + 1)))).toNat < _
  simp only [h42, intOf]; omega
 refine Fx.Lv (.bool false) (Fx.x_lssF rfl rfl rfl c119) (Fx.Ln (Fx.sN (Fx.Wc (b := false) rfl (fun h => nomatch h) (fun _ => Fx.W.exit (Fx.seqX (Fx.lpX (Fx.blkX (Fx.sN (Fx.Ws (Fx.Wl (Fx.L.call (by rfl) (Fx.rC (args := []) rfl rfl Try.func5 rfl rfl) rfl ((w_works _).mono ?_))))))))))))
 rintro e w23 ⟨he, hb7⟩
 refine ⟨.bool true, by rw [he], ?_⟩
 clear he
 have s21 := Fx.Sb hb7
 have b34 := s21.below b15 b15.size b15.size
 refine Fx.Lv (.bool true) (Fx.x_assign rfl rfl) (Fx.Ln (Fx.sN (Fx.Wr (⟨.bool true, Fx.rV Try.results4 (by exact rfl), ?_⟩))))
 exact ⟨rfl, b34⟩
end Go.Proofs.Ytahbiajdgealnaa
namespace Go.Proofs.Ytahbiajdgealnaa
open Go.RowKit Go.WideShapes Go.ChangeShapes Go.Deep
theorem spotless1 {w : World} {x : Addr} {v : Value} (h : w.cell? x = some v) : ∃ b off, x = ⟨b, off, none⟩ := by
  obtain ⟨b, off, spot⟩ := x
  cases spot with
  | none => exact ⟨b, off, rfl⟩
  | some q =>
    unfold World.cell? at h
    simp at h
    split at h <;> cases h
def At4 (k0 k1 k2 k3 : IntKind) (w : World) (b off : Nat) (x0 x1 x2 x3 : Int) : Prop :=
  w.cell? ⟨b, off, none⟩ = some (.int k0 x0) ∧ w.cell? ⟨b, off + 1, none⟩ = some (.int k1 x1) ∧ w.cell? ⟨b, off + 2, none⟩ = some (.int k2 x2) ∧ w.cell? ⟨b, off + 3, none⟩ = some (.int k3 x3)
def Wf4 (k0 k1 k2 k3 : IntKind) (x0 x1 x2 x3 : Int) : Prop := (Lit.int k0 x0).wf = true ∧ (Lit.int k1 x1).wf = true ∧ (Lit.int k2 x2).wf = true ∧ (Lit.int k3 x3).wf = true
def Sl4 (k0 k1 k2 k3 : IntKind) (w : World) (a : Option Addr) (len : Nat) (X0 X1 X2 X3 : Nat → Int) : Prop :=
  ∀ i, i < len → (∃ b off, a = some ⟨b, off, none⟩ ∧ At4 k0 k1 k2 k3 w b (off + i * 4) (X0 i) (X1 i) (X2 i) (X3 i)) ∧ Wf4 k0 k1 k2 k3 (X0 i) (X1 i) (X2 i) (X3 i)
theorem Sl4.up {k0 k1 k2 k3 : IntKind} {w w' : World} {a : Option Addr} {len : Nat} {X0 X1 X2 X3 : Nat → Int} (h : Sl4 k0 k1 k2 k3 w a len X0 X1 X2 X3) (hb : Below w.heap.size w w') : Sl4 k0 k1 k2 k3 w' a len X0 X1 X2 X3 := by
  intro i hi
  obtain ⟨⟨b, off, e, q0, q1, q2, q3⟩, hw⟩ := h i hi
  have hlt := block_lt_of_cell q0
  dsimp only at hlt
  exact ⟨⟨b, off, e, (hb.cell (p := ⟨b, off + i * 4, none⟩) hlt).trans q0, (hb.cell (p := ⟨b, off + i * 4 + 1, none⟩) hlt).trans q1, (hb.cell (p := ⟨b, off + i * 4 + 2, none⟩) hlt).trans q2, (hb.cell (p := ⟨b, off + i * 4 + 3, none⟩) hlt).trans q3⟩, hw⟩
end Go.Proofs.Ytahbiajdgealnaa
namespace Go.Proofs.Ytahbiajdgealnaa
open Go.RowKit Go.WideShapes Go.ChangeShapes Go.Deep
def flatKs (P : Program) : Nat → TypeId → Option (List IntKind)
  | 0, _ => none
  | d + 1, t => match P.underlying t with
    | some (.int k) => some [k]
    | some (.array n e) => (flatKs P d e).bind fun ks => if P.cellsOf e = ks.length ∧ P.cellsOf t = n * ks.length then some (List.replicate n ks).flatten else none
    | some (.struct fs) => (fs.toList.foldlM (fun l f => (flatKs P d f.type).bind fun ks => if f.offset = l.length ∧ P.cellsOf f.type = ks.length then some (l ++ ks) else none) []).bind fun l => if P.cellsOf t = l.length then some l else none
    | _ => none
def FlatC (ks : List IntKind) (cs : List Value) : Prop := cs.length = ks.length ∧ ∀ (j : Nat) (k : IntKind), ks[j]? = some k → ∃ n, cs[j]? = some (Value.int k n) ∧ (Lit.int k n).wf = true
theorem flat_rep {ks : List IntKind} {k : IntKind} : ∀ (n j : Nat), (List.replicate n ks).flatten[j]? = some k → ks[j % ks.length]? = some k ∧ j / ks.length < n
  | 0, j, h => by simp at h
  | n + 1, j, h => by
    rw [List.replicate_succ, List.flatten_cons] at h
    by_cases hj : j < ks.length
    · rw [List.getElem?_append_left hj] at h
      rw [Nat.mod_eq_of_lt hj, Nat.div_eq_of_lt hj]; exact ⟨h, by omega⟩
    · rw [List.getElem?_append_right (by omega)] at h
      have hs : 0 < ks.length := by
        rcases Nat.eq_zero_or_pos ks.length with e | e
        · obtain ⟨h1, _⟩ := flat_rep n _ h
          have := (List.getElem?_eq_some_iff.1 h1).1; omega
        · exact e
      obtain ⟨h1, h2⟩ := flat_rep n _ h
      rw [Nat.mod_eq_sub_mod (by omega), Nat.div_eq_sub_div hs (by omega)]
      exact ⟨h1, by omega⟩
section
variable {H : Type} {enc : TypeId × Value → H} {P : Program} {w : World} {base : Nat} {spare : Nat → Bool} {held : Bool}
theorem flat_part {ks : List IntKind} {cs : List Value} {o s j : Nat} {k : IntKind} (h : FlatC ks ((cs.drop o).take s)) (hs : s = ks.length) (hk : ks[j]? = some k) : ∃ n, cs[o + j]? = some (Value.int k n) ∧ (Lit.int k n).wf = true := by
  obtain ⟨n, h1, h2⟩ := h.2 j k hk
  have hj := (List.getElem?_eq_some_iff.1 hk).1
  rw [List.getElem?_take_of_lt (by omega), List.getElem?_drop] at h1
  exact ⟨n, h1, h2⟩
theorem flatKs_ok : ∀ (d : Nat) (t : TypeId) (ks : List IntKind), flatKs P d t = some ks → ∀ (fuel : Nat) (cs : List Value) (x : DataW H × List MemPlace), DataW.trod enc P w base spare held fuel t cs = some x → FlatC ks cs
  | 0, _, _, h => by simp [flatKs] at h
  | d + 1, t, ks, h => by
    intro fuel cs x hx
    unfold flatKs at h
    split at h
    · rename_i k hu
      simp only [Option.some.injEq] at h; subst h
      obtain ⟨n, rfl, _, hw⟩ := DataW.trod_int hu hx
      refine ⟨rfl, fun j k' hk => ?_⟩
      match j, hk with
      | 0, hk => simp at hk; subst hk; exact ⟨n, rfl, hw⟩
      | j + 1, hk => simp at hk
    · rename_i n e hu
      obtain ⟨ks', hks, h⟩ := Option.bind_eq_some_iff.1 h
      split at h
      · rename_i hc
        simp only [Option.some.injEq] at h; subst h
        obtain ⟨xs, m, _, _, hl, hlen, hel⟩ := DataW.trod_array hu hx
        refine ⟨by rw [hl, hc.2]; simp, fun j k hk => ?_⟩
        obtain ⟨h1, h2⟩ := flat_rep n j hk
        have hi := hel (j / ks'.length) h2
        rw [List.getElem?_eq_getElem (by omega), hc.1] at hi
        have := flat_part (flatKs_ok d e ks' hks _ _ _ hi) rfl h1
        rw [Nat.mul_comm, Nat.div_add_mod] at this
        exact this
      · cases h
    · rename_i fs hu
      obtain ⟨l, hl, h⟩ := Option.bind_eq_some_iff.1 h
      split at h
      · rename_i hc
        simp only [Option.some.injEq] at h; subst h
        obtain ⟨xs, m, _, _, hlc, hlen, hf⟩ := DataW.trod_struct hu hx
        refine ⟨by rw [hlc, hc], ?_⟩
        have hf' : ∀ f, f ∈ fs.toList → ∃ y, DataW.trod enc P w base spare held m f.type ((cs.drop f.offset).take (P.cellsOf f.type)) = some y := by
          intro f hfm
          obtain ⟨i, hi, e⟩ := List.mem_iff_getElem.1 hfm
          have hi' : i < fs.size := by simpa using hi
          have h1 : fs[i]? = some f := by rw [Array.getElem?_eq_getElem hi']; simpa using e
          have := hf i f h1
          rw [List.getElem?_eq_getElem (by rw [hlen]; exact hi')] at this
          exact ⟨_, this⟩
        have key : ∀ (L : List Field) (acc : List IntKind), (∀ f, f ∈ L → ∃ y, DataW.trod enc P w base spare held m f.type ((cs.drop f.offset).take (P.cellsOf f.type)) = some y) → (∀ (j : Nat) (k : IntKind), acc[j]? = some k → ∃ n, cs[j]? = some (Value.int k n) ∧ (Lit.int k n).wf = true) → ∀ l, L.foldlM (fun l f => (flatKs P d f.type).bind fun ks => if f.offset = l.length ∧ P.cellsOf f.type = ks.length then some (l ++ ks) else none) acc = some l → ∀ (j : Nat) (k : IntKind), l[j]? = some k → ∃ n, cs[j]? = some (Value.int k n) ∧ (Lit.int k n).wf = true := by
          intro L
          induction L with
          | nil => intro acc _ ha l hl; simp at hl; subst hl; exact ha
          | cons f L ih =>
            intro acc hL ha l hl
            rw [List.foldlM_cons] at hl
            obtain ⟨l1, h1, h2⟩ := Option.bind_eq_some_iff.1 hl
            obtain ⟨kf, hkf, h3⟩ := Option.bind_eq_some_iff.1 h1
            split at h3
            · rename_i hcc
              simp only [Option.some.injEq] at h3; subst h3
              refine ih (acc ++ kf) (fun g hg => hL g (List.mem_cons_of_mem _ hg)) (fun j k hk => ?_) l h2
              by_cases hj : j < acc.length
              · rw [List.getElem?_append_left hj] at hk; exact ha j k hk
              · rw [List.getElem?_append_right (by omega)] at hk
                obtain ⟨y, hy⟩ := hL f (List.mem_cons_self ..)
                have := flat_part (flatKs_ok d f.type kf hkf _ _ _ hy) hcc.2 hk
                rw [hcc.1, show acc.length + (j - acc.length) = j by omega] at this
                exact this
            · cases h3
        exact key fs.toList [] hf' (fun j k hk => by simp at hk) l hl
      · cases h
    · cases h
end
def flatX (ks : List IntKind) (X : Nat → Nat → Int) : Nat → Value := fun p => .int (ks.getD (p % ks.length) .i64) (X (p / ks.length) (p % ks.length))
theorem open_flat {H : Type} {enc : TypeId × Value → H} {P : Program} {w : World} {t e : TypeId} {ks : List IntKind} {a : Option Addr} {len cap D : Nat} {d : DataW H} {ps : List MemPlace}
    (ht : P.underlying t = some (.slice e)) (hk : flatKs P D e = some ks) (ce : P.cellsOf e = ks.length) (hs : 0 < ks.length)
    (h : DataW.Trod enc P w 0 (fun _ => true) true t (.slice a len cap) d ps) : len ≤ maxLen ∧ len ≤ cap ∧ ∃ X : Nat → Nat → Int, (∀ i, i < len → ∀ (j : Nat) (k : IntKind), ks[j]? = some k → (Lit.int k (X i j)).wf = true) ∧ (0 < len → ∃ b off, a = some ⟨b, off, none⟩ ∧ Fx.Cel w b off (ks.length * len) (flatX ks X)) := by
  obtain ⟨fuel, hf⟩ := h
  rcases open_slice ht hf with ⟨hcs, _⟩ | ⟨a', l', c', m, n, D, Pl, hcs, _, hl, hm, hmm, _, hx⟩
  · simp [Value.cells] at hcs
    obtain ⟨rfl, rfl, rfl⟩ := hcs
    exact ⟨by unfold maxLen; omega, Nat.le_refl _, fun _ _ => 0, fun i hi => absurd hi (by omega), fun h => absurd h (by omega)⟩
  simp [Value.cells] at hcs
  obtain ⟨rfl, rfl, rfl⟩ := hcs
  have each : ∀ i j : Nat, ∃ q : Int, i < len → ∀ k, ks[j]? = some k → w.cell? (a'.add (i * ks.length + j)) = some (Value.int k q) ∧ (Lit.int k q).wf = true := by
    intro i j
    by_cases hi : i < len ∧ j < ks.length
    · obtain ⟨cs', g1, g2⟩ := hx i (by rw [hmm]; simp; omega)
      rw [ce] at g1
      obtain ⟨_, hlen, hcell⟩ := World.cells?_some g1
      obtain ⟨q, h1, h2⟩ := (flatKs_ok _ _ _ hk _ _ _ g2).2 j _ (List.getElem?_eq_getElem hi.2)
      refine ⟨q, fun _ k hkj => ?_⟩
      rw [List.getElem?_eq_getElem hi.2, Option.some.injEq] at hkj
      subst hkj
      have q0 := hcell j (by omega)
      rw [add_add] at q0
      exact ⟨by rw [← h1]; simpa using q0, h2⟩
    · refine ⟨0, fun h1 k h2 => absurd ⟨h1, (List.getElem?_eq_some_iff.1 h2).1⟩ hi⟩
  refine ⟨by omega, hl, fun i j => Classical.choose (each i j), fun i hi j k hkj => (Classical.choose_spec (each i j) hi k hkj).2, fun h0 => ?_⟩
  have e0 : a'.add (0 * ks.length + 0) = a' := by unfold Addr.add; simp
  obtain ⟨q00, h00⟩ := each 0 0
  have h00 := (h00 h0 _ (List.getElem?_eq_getElem hs)).1
  rw [e0] at h00
  obtain ⟨b, off, e1⟩ := spotless1 h00
  refine ⟨b, off, by rw [e1], fun p hp => ?_⟩
  have hj : p % ks.length < ks.length := Nat.mod_lt _ hs
  have hi : p / ks.length < len := Nat.div_lt_of_lt_mul hp
  have := (Classical.choose_spec (each (p / ks.length) (p % ks.length)) hi _ (List.getElem?_eq_getElem hj)).1
  have ea : a'.add (p / ks.length * ks.length + p % ks.length) = ⟨b, off + p, none⟩ := by rw [e1, addr_add, Nat.mul_comm, Nat.div_add_mod]
  refine (congrArg w.cell? ea).symm.trans (this.trans ?_)
  exact congrArg (fun kk => some (Value.int kk _)) (show ks[p % ks.length] = ks.getD (p % ks.length) .i64 by rw [List.getD_eq_getElem?_getD, List.getElem?_eq_getElem hj]; rfl)
end Go.Proofs.Ytahbiajdgealnaa
namespace Go.Proofs.Ytahbiajdgealnaa
open Go.RowKit Go
set_option linter.unusedVariables false
namespace Rt
theorem flat_u8 (X : Nat → Nat → Int) : flatX [.u8] X = fun q => .int .u8 (X q 0) := by
  funext p
  show Value.int (([.u8] : List IntKind).getD (p % 1) .i64) (X (p / 1) (p % 1)) = _
  rw [Nat.mod_one, Nat.div_one]; rfl
theorem u8_bdT {n : Int} (h : (Lit.int .u8 n).wf = true) : 0 ≤ n ∧ n ≤ 255 := by
  simp [Lit.wf, IntKind.min, IntKind.max, IntKind.bits, IntKind.signed] at h; omega
theorem below_flat (a0 : Option Addr) (l0 c0 : Nat) (X0 : Nat → Nat → Int) (W : World)
    (wf0 : ∀ i, i < l0 → ∀ (j : Nat) (k : IntKind), ([.u8] : List IntKind)[j]? = some k → (Lit.int k (X0 i j)).wf = true) (st0 : 0 < l0 → ∃ b off, a0 = some ⟨b, off, none⟩ ∧ Fx.Cel W b off (([.u8] : List IntKind).length * l0) (flatX [.u8] X0)) :
    Calls Try.prog 4 #[.slice a0 l0 c0] W fun e w' => e = .returned (.bool true) ∧ Below W.heap.size W w' := by
  refine w_belowL a0 l0 c0 (fun q => X0 q 0) W (fun h => ?_) (fun i hi => u8_bdT (wf0 i hi 0 .u8 rfl))
  obtain ⟨b, off, e, hc⟩ := st0 (by omega)
  rw [flat_u8] at hc
  exact ⟨b, off, e, by rw [show l0 * 1 = ([.u8] : List IntKind).length * l0 from Nat.mul_comm _ _]; exact hc⟩
end Rt
end Go.Proofs.Ytahbiajdgealnaa
