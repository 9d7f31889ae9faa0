/-
  What the proof of the law rests on, part 5: walks of functions, and plain laws; each says its conditions itself.
-/
import Derived.Deep.Slices
import Derived.Lib.SmallJoins
import Derived.ChangeArms
import Derived.Test.YtcbedgfikejkoaaZA4
namespace Go.Proofs.Ytcbedgfikejkoaa
open Go.RowKit Rt
open Fx (x_move x_assign x_field x_load1 x_pickF x_pickT x_nil x_conv x_indexS x_index x_leqF x_loadA x_len x_gtrF x_build x_eqlF x_eqlT Lv sN Ln Ws Qv Wl Rp Wc Qs Wr Sb Lk Wk rC rV sR)
set_option linter.unusedVariables false
set_option maxRecDepth 20000
namespace Rt
def N0 : NdM := ⟨5, 0, fun _ => 0⟩
def N1 : NdM := ⟨5, 0, fun p => if p = 0 then 10 else N0.R p⟩
def N2 : NdM := ⟨5, 0, fun p => if p = 0 then 12 else N1.R p⟩
def S10 : SnM := ⟨fun i => decide (i < 2), fun _ => false, fun i => if i = 0 then 1 else 0, [], []⟩
def S1 : SnM := ⟨fun i => decide (i < 2), fun _ => false, fun i => if i = 0 then 1 else 0, [N1], []⟩
def S1b : SnM := ⟨fun i => decide (i < 2), fun _ => false, fun i => if i = 0 then 1 else 0, [N2], []⟩
def S2 : SnM := ⟨fun i => decide (i < 2), fun _ => false, fun i => if i = 0 then 2 else 0, [N2], []⟩
def L1 : SnM := ⟨fun _ => false, fun i => decide (i = 0), fun _ => 0, [], []⟩
theorem n_set {x : NdM} {v : Int} : ∀ j, j < 56 → Fx.updV (ndZ x) 2 (.int .i64 v) j = ndZ ⟨x.id, x.par, fun p => if p = 0 then v else x.R p⟩ j := fun j hj => by
  match j, hj with
  | 0, _ => rfl
  | 1, _ => rfl
  | p + 2, hj =>
    rw [ndZ_R' _ rfl]
    unfold Fx.updV
    by_cases e : p = 0
    · subst e; rfl
    · rw [if_neg (by omega), ndZ_R' x rfl]; exact congrArg (Value.int .i64) (if_neg e).symm
theorem nz5 {z : Nat → Value} (h1 : z 1 = .int .u64 0) (h2 : ∀ p, z (p + 2) = .int .i64 0) : ∀ j, j < 56 → Fx.ovr z 0 1 (fun _ => .int .u64 5) j = ndZ N0 j := fun j hj => by
  match j, hj with
  | 0, _ => rfl
  | 1, _ => exact h1
  | p + 2, hj => rw [ndZ_R' N0 rfl]; unfold Fx.ovr; rw [if_neg (by omega), h2]; rfl
theorem N1_may : may N1.R = true := by decide
theorem N2_may : may N2.R = true := by decide
theorem may1 (K : Nat → Int) (N : NdM) (hK : ∀ i, i < 6 → K i ≤ 1099511627776) (hi : N.id = 5) (hp : N.par = 0) (hm : may N.R = true) : MayP ⟨fun i => decide (i < 2), fun _ => false, K, [N], []⟩ where
  kn := hK
  nn := by show 1 ≤ 32; decide
  gn := Nat.zero_le _
  nr := fun k hk => absurd hk (by show ¬ k + 1 < 1; omega)
  gr := fun k hk => absurd hk (Nat.not_lt_zero _)
  li := fun i _ h => by cases h
  nd := fun k hk => by
    have hk : k < 1 := hk
    have e : k = 0 := by omega
    subst e
    refine ⟨by show N.id ≠ 0; rw [hi]; decide, hm, ?_⟩
    show endsN [N] 33 N.id = true
    rw [hi]
    have h5 : nodeI [N] 5 = ((0 : Nat) : Int) := nodeI_at (l := [N]) (fun k hk => absurd hk (by show ¬ k + 1 < 1; omega)) (Nat.zero_lt_one) hi
    rw [ends_y (by decide) h5]
    show endsN [N] 32 N.par = true
    rw [hp]; exact ends_0 rfl
  gd := fun k hk => absurd hk (Nat.not_lt_zero _)
theorem S1_may : MayP S1 := may1 _ N1 (fun i _ => by show (if i = 0 then (1 : Int) else 0) ≤ _; split <;> decide) rfl rfl N1_may
theorem S2_may : MayP S2 := may1 _ N2 (fun i _ => by show (if i = 0 then (2 : Int) else 0) ≤ _; split <;> decide) rfl rfl N2_may
theorem sn0_may : MayP sn0 where
  kn := fun i _ => by show (0 : Int) ≤ _; decide
  nn := Nat.zero_le _
  gn := Nat.zero_le _
  nr := fun k hk => absurd hk (Nat.not_lt_zero _)
  gr := fun k hk => absurd hk (Nat.not_lt_zero _)
  li := fun i _ h => by cases h
  nd := fun k hk => absurd hk (Nat.not_lt_zero _)
  gd := fun k hk => absurd hk (Nat.not_lt_zero _)
theorem L1_may : mayS L1 = false := mayS_n fun h => by have := h.li 0 (by decide) rfl; cases this
theorem N_r (N : NdM) (hi : N.id = 5) (hp : N.par = 0) (hR : ∀ p, 0 ≤ N.R p ∧ N.R p ≤ 12) : NdR N := ⟨by rw [hi]; exact ⟨by decide, by decide⟩, by rw [hp]; exact ⟨by decide, by decide⟩, fun p _ => by have := hR p; exact ⟨by omega, by omega⟩⟩
theorem S1_r : SnR S1 := ⟨fun i _ => by show U64r (if i = 0 then (1 : Int) else 0); split <;> exact ⟨by decide, by decide⟩, fun x hx => by rw [List.mem_singleton.1 hx]; exact N_r N1 rfl rfl (fun p => by show 0 ≤ (if p = 0 then (10 : Int) else 0) ∧ (if p = 0 then (10 : Int) else 0) ≤ 12; split <;> decide), fun x hx => (nomatch hx)⟩
theorem S2_r : SnR S2 := ⟨fun i _ => by show U64r (if i = 0 then (2 : Int) else 0); split <;> exact ⟨by decide, by decide⟩, fun x hx => by rw [List.mem_singleton.1 hx]; exact N_r N2 rfl rfl (fun p => by show 0 ≤ (if p = 0 then (12 : Int) else if p = 0 then 10 else 0) ∧ (if p = 0 then (12 : Int) else if p = 0 then 10 else 0) ≤ 12; split <;> (try split) <;> decide), fun x hx => (nomatch hx)⟩
theorem m12 : mergeN S1.ns S2.ns = some [ndJ N1 N2] := by
  show mergeN [N1] [N2] = _
  rw [mN_yes (a := [N1]) (b := [N2]) (by decide) (by decide) (by decide) (by decide) rfl, mN_end (a := [N1].tail) (b := [N2].tail) (.inl rfl)]; rfl
theorem m21 : mergeN S2.ns S1.ns = some [ndJ N2 N1] := by
  show mergeN [N2] [N1] = _
  rw [mN_yes (a := [N2]) (b := [N1]) (by decide) (by decide) (by decide) (by decide) rfl, mN_end (a := [N2].tail) (b := [N1].tail) (.inl rfl)]; rfl
theorem mg0 : mergeG [] [] = some [] := mG_end (.inl rfl)
theorem nj1 (p : Nat) : mxI (N1.R p) (N2.R p) = N2.R p := by
  show mxI (if p = 0 then (10 : Int) else 0) (if p = 0 then (12 : Int) else if p = 0 then 10 else 0) = (if p = 0 then (12 : Int) else if p = 0 then 10 else 0)
  by_cases e : p = 0
  · simp only [if_pos e]; decide
  simp only [if_neg e]; decide
theorem nj2 (p : Nat) : mxI (N2.R p) (N1.R p) = N2.R p := by
  show mxI (if p = 0 then (12 : Int) else if p = 0 then 10 else 0) (if p = 0 then (10 : Int) else 0) = (if p = 0 then (12 : Int) else if p = 0 then 10 else 0)
  by_cases e : p = 0
  · simp only [if_pos e]; decide
  simp only [if_neg e]; decide
def U12 : SnM := joinR S1 S2 [ndJ N1 N2] []
def U21 : SnM := joinR S2 S1 [ndJ N2 N1] []
theorem one_k {P : Nat → Prop} (h : P 0) : ∀ k, k < 1 → P k := fun k hk => by rw [show k = 0 by omega]; exact h
theorem U12_same : SameSn U12 S2 := ⟨fun i _ => by show (decide (i < 2) || decide (i < 2)) = decide (i < 2); simp, fun i _ => rfl, fun i _ => by show mxI (if i = 0 then (1 : Int) else 0) (if i = 0 then (2 : Int) else 0) = (if i = 0 then (2 : Int) else 0); split <;> decide, rfl, rfl, one_k ⟨rfl, rfl, fun p _ => nj1 p⟩, fun k hk => absurd hk (Nat.not_lt_zero _)⟩
theorem U21_same : SameSn U21 S2 := ⟨fun i _ => by show (decide (i < 2) || decide (i < 2)) = decide (i < 2); simp, fun i _ => rfl, fun i _ => by show mxI (if i = 0 then (2 : Int) else 0) (if i = 0 then (1 : Int) else 0) = (if i = 0 then (2 : Int) else 0); split <;> decide, rfl, rfl, one_k ⟨rfl, rfl, fun p _ => nj2 p⟩, fun k hk => absurd hk (Nat.not_lt_zero _)⟩
theorem j12 : joinS S1 S2 = (U12, 0) := jS_y (mayS_y S1_may) (mayS_y S2_may) m12 mg0 (mayS_y (S2_may.cong U12_same.symm))
theorem j21 : joinS S2 S1 = (U21, 0) := jS_y (mayS_y S2_may) (mayS_y S1_may) m21 mg0 (mayS_y (S2_may.cong U21_same.symm))
theorem l12 : lessS S1 S2 = true := lessS_y j12 rfl U12_same
theorem l21 : lessS S2 S1 = false := lessS_n j21 fun h => by
  have h1 := h.2.known 0 (by decide)
  rw [U21_same.known 0 (by decide)] at h1
  exact absurd h1 (by decide)
theorem same_u12 : sameS U12 S2 = true := sameS_y U12_same
theorem same_v1 : sameS (getV (putB S1)) S1 = true := sameS_y (by rw [putB_y S1_may]; exact (get_put S1_may S1_r).2)
theorem ge_1 : getE (putB S1) = 0 := by rw [putB_y S1_may]; exact (get_y (get_put S1_may S1_r).1).2
theorem put0_len : (putB sn0).length = 66 := by rw [putB_y sn0_may, bytes_len]; rfl
theorem put0_4 : (putB sn0).take 4 = lsnp := by rw [putB_y sn0_may, bytes_split]; rfl
theorem sn0_w (w : World) : StW w sn0 none 0 none 0 := ⟨sn0_r, Nat.zero_le _, Nat.zero_le _, fun h => absurd h (by show ¬ 0 < 0 * 56; decide), fun h => absurd h (by show ¬ 0 < 0 * 5; decide), Nat.le_refl _, Nat.le_refl _⟩
theorem L1_w (w : World) : StW w L1 none 0 none 0 := ⟨⟨fun i _ => ⟨Int.le_refl 0, show (0 : Int) ≤ 18446744073709551615 by decide⟩, fun x hx => (nomatch hx), fun x hx => (nomatch hx)⟩, Nat.zero_le _, Nat.zero_le _, fun h => absurd h (by show ¬ 0 < 0 * 56; decide), fun h => absurd h (by show ¬ 0 < 0 * 5; decide), Nat.le_refl _, Nat.le_refl _⟩
theorem one_w {w : World} {m : SnM} {a : Option Addr} {c : Nat} (hr : SnR m) (hn : m.ns.length = 1) (hg : m.gs = []) (h : Fx.Arr w a 1 56 (ndsX m.ns)) (hc : 1 ≤ c) : StW w m a c none 0 := ⟨hr, by rw [hn]; decide, by rw [hg]; exact Nat.zero_le _, by rw [hn]; exact h, by rw [hg]; exact fun h => absurd h (by show ¬ 0 < 0 * 5; decide), by rw [hn]; exact hc, by rw [hg]; exact Nat.le_refl _⟩
end Rt
theorem s_put0 (z : Nat → Value) (hz : ∀ j, j < 20 → z j = stY (stS sn0 none 0 none 0) j) (w : World) : Calls Try.prog 14 #[.agg (Fx.varr 20 z)] w fun e w' => ∃ a c, e = .returned (.slice a 66 c) ∧ Fx.Own w' w.heap.size 5 1 (.slice a 66 c) 66 (Fx.byY (putB sn0)) ∧ Below w.heap.size w w' := by
  rw [Fx.varr_congr hz]
  have h := s_put sn0 none 0 none 0 w (sn0_w w)
  rw [put0_len] at h; exact h
theorem s_may0 (z : Nat → Value) (hz : ∀ j, j < 20 → z j = stY (stS L1 none 0 none 0) j) (w : World) : Calls Try.prog 12 #[.agg (Fx.varr 20 z)] w fun e w' => e = .returned (.bool false) ∧ Below w.heap.size w w' := by
  rw [Fx.varr_congr hz]
  have h := s_may L1 none 0 none 0 w (L1_w w).r.k (L1_w w).l1 (L1_w w).l2 (L1_w w).n (L1_w w).g
  rw [L1_may] at h; exact h
theorem s_getE (a : Option Addr) (n c : Nat) (l : List UInt8) (v : SnM) (ev : Int) (w : World) (hv : getV l = v) (he : getE l = ev) (hn : n = l.length) (hc : n ≤ c) (hl : n ≤ 100000000) (hb : Fx.Arr w a n 1 (Fx.byY l)) :
    Calls Try.prog 10 #[.slice a n c] w fun e w' => ∃ na nc ga gc, e = .returned (.tuple #[.agg (Fx.varr 20 (stY (stS v na nc ga gc))), .int .i64 ev]) ∧ Fx.Own w' w.heap.size 50 56 (.slice na v.ns.length nc) v.ns.length (ndsX v.ns) ∧ Fx.Own w' w.heap.size 59 5 (.slice ga v.gs.length gc) v.gs.length (grsX v.gs) ∧ Below w.heap.size w w' := by
  have h := s_get a n c l w hn hc hl hb
  rw [hv, he] at h; exact h
theorem get_w {l : List UInt8} {v : SnM} {w : World} {B : Nat} {na ga : Option Addr} {nc gc : Nat} (hv : getV l = v) (hn : Fx.Own w B 50 56 (.slice na v.ns.length nc) v.ns.length (ndsX v.ns)) (hg : Fx.Own w B 59 5 (.slice ga v.gs.length gc) v.gs.length (grsX v.gs)) : StW w v na nc ga gc := by
  obtain ⟨h1, h2, h3⟩ := getV_r l
  rw [hv] at h1 h2 h3
  exact ⟨h1, Nat.le_trans h2 (by decide), Nat.le_trans h3 (by decide), hn.arr, hg.arr, hn.le, hg.le⟩
theorem Rt.arr_take {w : World} {a : Option Addr} {l : List UInt8} {k : Nat} (h : Fx.Arr w a k 1 (Fx.byY l)) : Fx.Arr w a k 1 (Fx.byY (l.take k)) := h.to rfl fun j hj => by
  unfold Fx.byY; rw [List.getD_eq_getElem?_getD, List.getD_eq_getElem?_getD, List.getElem?_take, if_pos (by omega)]
theorem Fx.Blk.arr1 {w : World} {g : Nat} {z : Nat → Value} {T : TypeId} {x : NdM} (h : Fx.Blk w g 56 (Fx.ovr z (0 * 56) 56 (ndZ x)) T) : Fx.Arr w (some ⟨g, 0, none⟩) 1 56 (ndsX [x]) := fun _ => ⟨g, 0, rfl, fun j hj => by
  have := h.cel j hj
  rw [this]
  have h56 : j < 56 := by omega
  unfold Fx.ovr
  rw [if_pos ⟨by omega, by omega⟩]
  show _ = some (ndZ (ndA [x] (j / 56)) (j % 56))
  rw [Nat.div_eq_of_lt h56, Nat.mod_eq_of_lt h56, Nat.zero_mul, Nat.sub_zero]; rfl⟩
set_option maxRecDepth 20000 in
set_option maxHeartbeats 8000000 in
theorem s_works (w : World) :
    Calls Try.prog 7 #[] w fun e w' => e = .returned (.bool true) ∧ Below w.heap.size w w' := by
 refine Fx.enter Try.func7 rfl (n := 91) rfl (by rfl) ?_
 refine Ws (Wl (Lv (.bool false) (x_assign rfl rfl) (Ln (sN (Ws (Wl (Lv (.agg (Fx.varr 20 (fun zq => if zq < 12 then .bool false else if zq < 18 then .int .u64 (0) else .slice none 0 0))) (x_build (vs := []) (places := #[(0, 6), (6, 6), (12, 6), (18, 1), (19, 1)]) (m := 20) (x := fun zq => if zq < 12 then .bool false else if zq < 18 then .int .u64 (0) else .slice none 0 0) rfl rfl Try.underlying29 (by kernel_rfl) (by kernel_rfl) (by rfl)) (Fx.L.call (by rfl) (rC (args := [.agg (Fx.varr 20 (fun zq => if zq < 12 then .bool false else if zq < 18 then .int .u64 (0) else .slice none 0 0))]) rfl rfl Try.func14 rfl rfl) rfl ((s_put0 _ (fun j hj => match j, hj with | 0, _ => rfl | 1, _ => rfl | 2, _ => rfl | 3, _ => rfl | 4, _ => rfl | 5, _ => rfl | 6, _ => rfl | 7, _ => rfl | 8, _ => rfl | 9, _ => rfl | 10, _ => rfl | 11, _ => rfl | 12, _ => rfl | 13, _ => rfl | 14, _ => rfl | 15, _ => rfl | 16, _ => rfl | 17, _ => rfl | 18, _ => rfl | 19, _ => rfl | j + 20, h => absurd h (by omega)) _).mono ?_)))))))))
 rintro e9 w1 ⟨pa1, pc1, he, hm1, hb1⟩
 refine ⟨_, he, ?_⟩
 clear he
 have s1 := Sb hb1
 have b1 := s1.below (Below.refl w.heap.size w) (Below.refl w.heap.size w).size (Below.refl w.heap.size w).size
 have m1 : Fx.Own w1 w.heap.size 5 1 (.slice pa1 (66) (pc1)) 66 (Fx.byY (putB sn0)) := hm1.mono (Below.refl w.heap.size w).size
 refine Lv (.slice pa1 (66) (pc1)) (x_assign rfl rfl) (Ln (sN (Ws (Wl (Lv (.agg (Fx.varr 6 (Fx.ovr (Fx.ovr (fun _ => .bool false) 0 1 (fun _ => .bool true)) 1 1 (fun _ => .bool true)))) (Fx.x_buildArr (vs := [(0, .bool true), (1, .bool true)]) (s := 1) (m := 6) (x := fun _ => .bool false) rfl rfl Try.underlying22 (by kernel_rfl) (by kernel_rfl) (by rw [Fx.fill_step (off := 0) (s := 1) (y := fun _ => .bool true) (by kernel_rfl) (Fx.cells_one (by rfl)) (by rfl)]; rw [Fx.fill_step (off := 1) (s := 1) (y := fun _ => .bool true) (by kernel_rfl) (Fx.cells_one (by rfl)) (by rfl)]; rfl)) (Lv (.agg (Fx.varr 6 (Fx.ovr (Fx.rv .u64 (fun _ => 0)) 0 1 (fun _ => .int .u64 (1))))) (Fx.x_buildArr (vs := [(0, .int .u64 (1))]) (s := 1) (m := 6) (x := Fx.rv .u64 (fun _ => 0)) rfl rfl Try.underlying25 (by kernel_rfl) (by kernel_rfl) (by rw [Fx.fill_step (off := 0) (s := 1) (y := fun _ => .int .u64 (1)) (by kernel_rfl) (Fx.cells_one (by rfl)) (by rfl)]; rfl)) (Lv (.agg (Fx.varr 20 (Fx.ovr (Fx.ovr (fun zq => if zq < 12 then .bool false else if zq < 18 then .int .u64 (0) else .slice none 0 0) 0 6 (Fx.ovr (Fx.ovr (fun _ => .bool false) 0 1 (fun _ => .bool true)) 1 1 (fun _ => .bool true))) 12 6 (Fx.ovr (Fx.rv .u64 (fun _ => 0)) 0 1 (fun _ => .int .u64 (1)))))) (x_build (vs := [(0, .agg (Fx.varr 6 (Fx.ovr (Fx.ovr (fun _ => .bool false) 0 1 (fun _ => .bool true)) 1 1 (fun _ => .bool true)))), (2, .agg (Fx.varr 6 (Fx.ovr (Fx.rv .u64 (fun _ => 0)) 0 1 (fun _ => .int .u64 (1)))))]) (places := #[(0, 6), (6, 6), (12, 6), (18, 1), (19, 1)]) (m := 20) (x := fun zq => if zq < 12 then .bool false else if zq < 18 then .int .u64 (0) else .slice none 0 0) rfl rfl Try.underlying29 (by kernel_rfl) (by kernel_rfl) (by rw [Fx.fill_step (off := 0) (s := 6) (y := Fx.ovr (Fx.ovr (fun _ => .bool false) 0 1 (fun _ => .bool true)) 1 1 (fun _ => .bool true)) (by kernel_rfl) (Fx.cells_agg _ _) (by rfl)]; rw [Fx.fill_step (off := 12) (s := 6) (y := Fx.ovr (Fx.rv .u64 (fun _ => 0)) 0 1 (fun _ => .int .u64 (1))) (by kernel_rfl) (Fx.cells_agg _ _) (by rfl)]; rfl)) (Fx.L.new (m := 20) (y := fun zq => if zq < 12 then .bool false else if zq < 18 then .int .u64 (0) else .slice none 0 0) (by rfl) rfl (by kernel_rfl) rfl fun g1 w2 eg1 m2 s2 z1 => ?_))))))))
 have m3 := m1.stp s2 (m1.notNew (Nat.le_refl _))
 have b2 := s2.below b1 b1.size b1.size
 have lg1 : w.heap.size ≤ g1 := by rw [eg1]; exact b1.size
 have tg1 : g1 < w2.heap.size := m2.lt
 clear eg1
 refine Fx.L.storeA (x := fun zq => if zq < 12 then .bool false else if zq < 18 then .int .u64 (0) else .slice none 0 0) (y := Fx.ovr (Fx.ovr (fun zq => if zq < 12 then .bool false else if zq < 18 then .int .u64 (0) else .slice none 0 0) 0 6 (Fx.ovr (Fx.ovr (fun _ => .bool false) 0 1 (fun _ => .bool true)) 1 1 (fun _ => .bool true))) 12 6 (Fx.ovr (Fx.rv .u64 (fun _ => 0)) 0 1 (fun _ => .int .u64 (1)))) (by rfl) rfl rfl rfl rfl (Fx.ovr_ones (Fx.ovr_ones (fun jq _ => by show ((fun zq => if zq < 12 then .bool false else if zq < 18 then .int .u64 (0) else .slice none 0 0 : Nat → Value) jq).oneCell' = true; simp only []; repeat (first | rfl | split)) (Fx.ovr_ones (Fx.ovr_ones (fun jq _ => by show ((fun _ => .bool false : Nat → Value) jq).oneCell' = true; simp only []; repeat (first | rfl | split)) (fun _ _ => rfl)) (fun _ _ => rfl))) (Fx.ovr_ones (fun _ _ => rfl) (fun _ _ => rfl))) (by kernel_rfl) m2 (i := 0) (by omega) fun w3 m4 s3 z2 => ?_
 have m5 : Fx.Blk w3 g1 20 (Fx.ovr (Fx.ovr (fun zq => if zq < 12 then .bool false else if zq < 18 then .int .u64 (0) else .slice none 0 0) 0 6 (Fx.ovr (Fx.ovr (fun _ => .bool false) 0 1 (fun _ => .bool true)) 1 1 (fun _ => .bool true))) 12 6 (Fx.ovr (Fx.rv .u64 (fun _ => 0)) 0 1 (fun _ => .int .u64 (1)))) 29 := Fx.ovr_all m4
 have m6 : Fx.Blk w3 g1 20 (stY (stS S10 none 0 none 0)) 29 := m5.congr (fun j hj => match j, hj with | 0, _ => rfl | 1, _ => rfl | 2, _ => rfl | 3, _ => rfl | 4, _ => rfl | 5, _ => rfl | 6, _ => rfl | 7, _ => rfl | 8, _ => rfl | 9, _ => rfl | 10, _ => rfl | 11, _ => rfl | 12, _ => rfl | 13, _ => rfl | 14, _ => rfl | 15, _ => rfl | 16, _ => rfl | 17, _ => rfl | 18, _ => rfl | 19, _ => rfl | j + 20, h => absurd h (by omega))
 have hct1 := Fx.ChT.of_stp s3 m2.ty
 have m7 := m3.chT hct1 (by decide)
 have b3 := s3.below b2 b2.size (by omega)
 refine Ln (sN (Ws (Wl (Lv (.agg (Fx.varr 56 (Fx.ovr (fun zq => if zq < 2 then .int .u64 (0) else .int .i64 (0)) 0 1 (fun _ => .int .u64 (5))))) (x_build (vs := [(0, .int .u64 (5))]) (places := #[(0, 1), (1, 1), (2, 54)]) (m := 56) (x := fun zq => if zq < 2 then .int .u64 (0) else .int .i64 (0)) rfl rfl Try.underlying50 (by kernel_rfl) (by kernel_rfl) (by rw [Fx.fill_step (off := 0) (s := 1) (y := fun _ => .int .u64 (5)) (by kernel_rfl) (Fx.cells_one (by rfl)) (by rfl)]; rfl)) (Fx.L.new (m := 56) (y := fun zq => if zq < 2 then .int .u64 (0) else .int .i64 (0)) (by rfl) rfl (by kernel_rfl) rfl fun g2 w4 eg2 m8 s4 z3 => ?_)))))
 have m9 := m7.stp s4 (m7.notNew (Nat.le_refl _))
 have m10 := m6.stp s4 m6.ne
 have b4 := s4.below b3 b3.size b3.size
 have lg2 : w.heap.size ≤ g2 := by rw [eg2]; exact b3.size
 have ng2m10 : g1 ≠ g2 := by rw [eg2]; exact Nat.ne_of_lt (m6.lt)
 have tg2 : g2 < w4.heap.size := m8.lt
 clear eg2
 refine Fx.L.storeA (x := fun zq => if zq < 2 then .int .u64 (0) else .int .i64 (0)) (y := Fx.ovr (fun zq => if zq < 2 then .int .u64 (0) else .int .i64 (0)) 0 1 (fun _ => .int .u64 (5))) (by rfl) rfl rfl rfl rfl (Fx.ovr_ones (fun jq _ => by show ((fun zq => if zq < 2 then .int .u64 (0) else .int .i64 (0) : Nat → Value) jq).oneCell' = true; simp only []; repeat (first | rfl | split)) (fun _ _ => rfl)) (by kernel_rfl) m8 (i := 0) (by omega) fun w5 m11 s5 z4 => ?_
 have m12 : Fx.Blk w5 g2 56 (Fx.ovr (fun zq => if zq < 2 then .int .u64 (0) else .int .i64 (0)) 0 1 (fun _ => .int .u64 (5))) 50 := Fx.ovr_all m11
 have m13 : Fx.Blk w5 g2 56 (ndZ N0) 50 := m12.congr (nz5 (by rfl) (fun p => if_neg (by omega)))
 have hct2 := Fx.ChT.of_stp s5 m8.ty
 have m14 := m9.chT hct2 (by decide)
 have m15 := m10.chT hct2 (by decide)
 have b5 := s5.below b4 b4.size (by omega)
 refine Ln (sN (Ws (Wl (Lv ((pf g2 2)) (x_field rfl rfl Try.underlying50 rfl (s := 54) (by kernel_rfl) rfl (by show _ + 2 = _; omega)) (Lv ((pf g2 2)) (x_field rfl rfl Try.underlying48 rfl (s := 6) (by kernel_rfl) rfl rfl) (Lv ((pf g2 2)) (x_index rfl rfl rfl Try.underlying45 (s := 1) (by kernel_rfl) (by omega) (by omega) (by omega)) (Fx.L.store1 (x := ndZ N0) (u := .int .i64 (10)) (by rfl) rfl rfl rfl rfl (by rfl) (by kernel_rfl) m13 (i := 2) (by omega) fun w6 m16 s6 z5 => ?_)))))))
 have m17 : Fx.Blk w6 g2 56 (ndZ N1) 50 := m16.congr n_set
 have hct3 := Fx.ChT.of_stp s6 m13.ty
 have m18 := m14.chT hct3 (by decide)
 have m19 := m15.chT hct3 (by decide)
 have b6 := s6.below b5 b5.size (by omega)
 refine Ln (sN (Ws (Wl (Lv ((pf g1 18)) (x_field rfl rfl Try.underlying29 rfl (s := 1) (by kernel_rfl) rfl (by show _ + 18 = _; omega)) (Lv (.slice none 0 0) (x_load1 (x := stY (stS S10 none 0 none 0)) rfl rfl (by kernel_rfl) m19.cel (i := 18) (by omega) (by omega) rfl) (Lv (.agg (Fx.varr 56 (ndZ N1))) (x_loadA (x := ndZ N1) (y := ndZ N1) rfl rfl (by kernel_rfl) (by kernel_rfl) m17.cel (i := 0) (by omega) (by omega) (fun j _ => by rw [Nat.zero_add])) (Fx.L.bslice (vs := [(0, .agg (Fx.varr 56 (ndZ N1)))]) (s := 56) (zc := fun zq => if zq < 2 then .int .u64 (0) else .int .i64 (0)) (y := Fx.ovr (fun j => (fun zq => if zq < 2 then .int .u64 (0) else .int .i64 (0)) (j % 56)) (0 * 56) 56 (ndZ N1)) (by rfl) rfl rfl Try.underlying26 (by kernel_rfl) (by rfl) (by rfl) (by kernel_rfl) (by rw [Fx.fill_step (off := 0 * 56) (s := 56) (y := ndZ N1) rfl (Fx.cells_agg _ _) (by rfl)]; rfl) rfl fun g3 w7 eg3 m20 s7 z6 => ?_)))))))
 have m21 := m18.stp s7 (m18.notNew (Nat.le_refl _))
 have m22 := m19.stp s7 m19.ne
 have m23 := m17.stp s7 m17.ne
 have b7 := s7.below b6 b6.size b6.size
 have lg3 : w.heap.size ≤ g3 := by rw [eg3]; exact b6.size
 have ng3m22 : g1 ≠ g3 := by rw [eg3]; exact Nat.ne_of_lt (m19.lt)
 have ng3m23 : g2 ≠ g3 := by rw [eg3]; exact Nat.ne_of_lt (m17.lt)
 have tg3 : g3 < w7.heap.size := m20.lt
 clear eg3
 refine Fx.L.app (B := w.heap.size) (s := 56) (bytes := 448) (k := 0) (m := 1) (v := .slice none 0 0) (x := ndsX []) (by rfl) rfl rfl rfl Try.underlying26 (by kernel_rfl) (by kernel_rfl) rfl rfl (Fx.Own.nil w7 w.heap.size 50 56 (ndsX [])) m20.cel (fun j hj => by unfold Fx.ovr; rw [if_pos ⟨by omega, by omega⟩]; exact ndZ_one _ _) (by omega) (by omega) (by omega) b7.size fun g4 cap1 w8 ho1 hg1 hgv1 hlt1 => ?_
 have hct4 := Fx.ChT.of_grown hg1 (Fx.Own.nil w7 w.heap.size 50 56 (ndsX []))
 have m25 := m21.chT hct4 (by decide)
 have m26 := m22.chT hct4 (by decide)
 have hq1 : Below w7.heap.size w7 w8 := ⟨hg1.os, hg1.tape, hg1.output, hg1.size, fun q hq => hg1.block q hq (fun e => by cases e)⟩
 have m27 := m23.stp (Sb hq1) (Nat.ne_of_lt (m23.lt))
 have m24 : Fx.Own w8 w.heap.size 50 56 (.slice (some ⟨g4, 0, none⟩) 1 cap1) 1 (ndsX [N1]) := (ho1.congr (nds_app1 (l := []) (x := N1) rfl))
 have b8 : Below w.heap.size w w8 := Fx.Below.grow b7 hg1 b7.size (fun q hq => ((Fx.Own.nil w7 w.heap.size 50 56 (ndsX [])).ge hq).1)
 refine Lv ((pf g1 18)) (x_field rfl rfl Try.underlying29 rfl (s := 1) (by kernel_rfl) rfl (by show _ + 18 = _; omega)) (Fx.L.store1 (x := stY (stS S10 none 0 none 0)) (u := .slice (some ⟨g4, 0, none⟩) (1) (cap1)) (by rfl) rfl rfl rfl rfl (by rfl) (by kernel_rfl) m26 (i := 18) (by omega) fun w9 m28 s8 z7 => ?_)
 have m29 : Fx.Blk w9 g1 20 (stY (stS S1 (some ⟨g4, 0, none⟩) cap1 none 0)) 29 := m28.congr (fun j hj => match j, hj with | 0, _ => rfl | 1, _ => rfl | 2, _ => rfl | 3, _ => rfl | 4, _ => rfl | 5, _ => rfl | 6, _ => rfl | 7, _ => rfl | 8, _ => rfl | 9, _ => rfl | 10, _ => rfl | 11, _ => rfl | 12, _ => rfl | 13, _ => rfl | 14, _ => rfl | 15, _ => rfl | 16, _ => rfl | 17, _ => rfl | 18, _ => rfl | 19, _ => rfl | j + 20, h => absurd h (by omega))
 have hct5 := Fx.ChT.of_stp s8 m26.ty
 have m30 := m25.chT hct5 (by decide)
 have m31 := m27.chT hct5 (by decide)
 have m32 := m24.chT hct5 (by decide)
 have b9 := s8.below b8 b8.size (by omega)
 refine Ln (sN (Ws (Wl (Lv (.agg (Fx.varr 20 (stY (stS S1 (some ⟨g4, 0, none⟩) cap1 none 0)))) (x_loadA (x := stY (stS S1 (some ⟨g4, 0, none⟩) cap1 none 0)) (y := stY (stS S1 (some ⟨g4, 0, none⟩) cap1 none 0)) rfl rfl (by kernel_rfl) (by kernel_rfl) m29.cel (i := 0) (by omega) (by omega) (fun j _ => by rw [Nat.zero_add])) (Fx.L.new (m := 20) (y := fun zq => if zq < 12 then .bool false else if zq < 18 then .int .u64 (0) else .slice none 0 0) (by rfl) rfl (by kernel_rfl) rfl fun g5 w10 eg5 m33 s9 z8 => ?_)))))
 have m34 := m30.stp s9 (m30.notNew (Nat.le_refl _))
 have m35 := m31.stp s9 m31.ne
 have m36 := m32.stpB s9 (Nat.ne_of_lt (m32.lt))
 have m37 := m29.stp s9 m29.ne
 have b10 := s9.below b9 b9.size b9.size
 have lg5 : w.heap.size ≤ g5 := by rw [eg5]; exact b9.size
 have ng5m35 : g2 ≠ g5 := by rw [eg5]; exact Nat.ne_of_lt (m31.lt)
 have ng5m36 : g4 ≠ g5 := by rw [eg5]; exact Nat.ne_of_lt (m32.lt)
 have ng5m37 : g1 ≠ g5 := by rw [eg5]; exact Nat.ne_of_lt (m29.lt)
 have tg5 : g5 < w10.heap.size := m33.lt
 clear eg5
 refine Fx.L.storeA (x := fun zq => if zq < 12 then .bool false else if zq < 18 then .int .u64 (0) else .slice none 0 0) (y := stY (stS S1 (some ⟨g4, 0, none⟩) cap1 none 0)) (by rfl) rfl rfl rfl rfl (fun j _ => stY_one _ j) (by kernel_rfl) m33 (i := 0) (by omega) fun w11 m38 s10 z9 => ?_
 have m39 : Fx.Blk w11 g5 20 (stY (stS S1 (some ⟨g4, 0, none⟩) cap1 none 0)) 29 := Fx.ovr_all m38
 have hct6 := Fx.ChT.of_stp s10 m33.ty
 have m41 := m34.chT hct6 (by decide)
 have m42 := m35.chT hct6 (by decide)
 have m43 := m36.chT hct6 (by decide)
 have m44 := m37.stp s10 (by omega)
 have b11 := s10.below b10 b10.size (by omega)
 refine Ln (sN (Ws (Wl (Lv (.agg (Fx.varr 56 (ndZ N1))) (x_loadA (x := ndZ N1) (y := ndZ N1) rfl rfl (by kernel_rfl) (by kernel_rfl) m42.cel (i := 0) (by omega) (by omega) (fun j _ => by rw [Nat.zero_add])) (Fx.L.new (m := 56) (y := fun zq => if zq < 2 then .int .u64 (0) else .int .i64 (0)) (by rfl) rfl (by kernel_rfl) rfl fun g6 w12 eg6 m45 s11 z10 => ?_)))))
 have m46 := m41.stp s11 (m41.notNew (Nat.le_refl _))
 have m47 := m42.stp s11 m42.ne
 have m48 := m43.stpB s11 (Nat.ne_of_lt (m43.lt))
 have m49 := m44.stp s11 m44.ne
 have m50 := m39.stp s11 m39.ne
 have b12 := s11.below b11 b11.size b11.size
 have lg6 : w.heap.size ≤ g6 := by rw [eg6]; exact b11.size
 have ng6m47 : g2 ≠ g6 := by rw [eg6]; exact Nat.ne_of_lt (m42.lt)
 have ng6m48 : g4 ≠ g6 := by rw [eg6]; exact Nat.ne_of_lt (m43.lt)
 have ng6m49 : g1 ≠ g6 := by rw [eg6]; exact Nat.ne_of_lt (m44.lt)
 have ng6m50 : g5 ≠ g6 := by rw [eg6]; exact Nat.ne_of_lt (m39.lt)
 have tg6 : g6 < w12.heap.size := m45.lt
 clear eg6
 refine Fx.L.storeA (x := fun zq => if zq < 2 then .int .u64 (0) else .int .i64 (0)) (y := ndZ N1) (by rfl) rfl rfl rfl rfl (fun j _ => ndZ_one _ j) (by kernel_rfl) m45 (i := 0) (by omega) fun w13 m51 s12 z11 => ?_
 have m52 : Fx.Blk w13 g6 56 (ndZ N1) 50 := Fx.ovr_all m51
 have hct7 := Fx.ChT.of_stp s12 m45.ty
 have m54 := m46.chT hct7 (by decide)
 have m55 := m47.stp s12 (by omega)
 have m56 := m48.stpB s12 (by omega)
 have m57 := m49.chT hct7 (by decide)
 have m58 := m50.chT hct7 (by decide)
 have b13 := s12.below b12 b12.size (by omega)
 refine Ln (sN (Ws (Wl (Lv ((pf g6 2)) (x_field rfl rfl Try.underlying50 rfl (s := 54) (by kernel_rfl) rfl (by show _ + 2 = _; omega)) (Lv ((pf g6 2)) (x_field rfl rfl Try.underlying48 rfl (s := 6) (by kernel_rfl) rfl rfl) (Lv ((pf g6 2)) (x_index rfl rfl rfl Try.underlying45 (s := 1) (by kernel_rfl) (by omega) (by omega) (by omega)) (Fx.L.store1 (x := ndZ N1) (u := .int .i64 (12)) (by rfl) rfl rfl rfl rfl (by rfl) (by kernel_rfl) m52 (i := 2) (by omega) fun w14 m59 s13 z12 => ?_)))))))
 have m60 : Fx.Blk w14 g6 56 (ndZ N2) 50 := m59.congr n_set
 have hct8 := Fx.ChT.of_stp s13 m52.ty
 have m61 := m54.chT hct8 (by decide)
 have m62 := m55.stp s13 (by omega)
 have m63 := m56.stpB s13 (by omega)
 have m64 := m57.chT hct8 (by decide)
 have m65 := m58.chT hct8 (by decide)
 have b14 := s13.below b13 b13.size (by omega)
 refine Ln (sN (Ws (Wl (Lv (.agg (Fx.varr 56 (ndZ N2))) (x_loadA (x := ndZ N2) (y := ndZ N2) rfl rfl (by kernel_rfl) (by kernel_rfl) m60.cel (i := 0) (by omega) (by omega) (fun j _ => by rw [Nat.zero_add])) (Fx.L.bslice (vs := [(0, .agg (Fx.varr 56 (ndZ N2)))]) (s := 56) (zc := fun zq => if zq < 2 then .int .u64 (0) else .int .i64 (0)) (y := Fx.ovr (fun j => (fun zq => if zq < 2 then .int .u64 (0) else .int .i64 (0)) (j % 56)) (0 * 56) 56 (ndZ N2)) (by rfl) rfl rfl Try.underlying26 (by kernel_rfl) (by rfl) (by rfl) (by kernel_rfl) (by rw [Fx.fill_step (off := 0 * 56) (s := 56) (y := ndZ N2) rfl (Fx.cells_agg _ _) (by rfl)]; rfl) rfl fun g7 w15 eg7 m66 s14 z13 => ?_)))))
 have m67 := m61.stp s14 (m61.notNew (Nat.le_refl _))
 have m68 := m62.stp s14 m62.ne
 have m69 := m63.stpB s14 (Nat.ne_of_lt (m63.lt))
 have m70 := m64.stp s14 m64.ne
 have m71 := m65.stp s14 m65.ne
 have m72 := m60.stp s14 m60.ne
 have b15 := s14.below b14 b14.size b14.size
 have lg7 : w.heap.size ≤ g7 := by rw [eg7]; exact b14.size
 have ng7m68 : g2 ≠ g7 := by rw [eg7]; exact Nat.ne_of_lt (m62.lt)
 have ng7m69 : g4 ≠ g7 := by rw [eg7]; exact Nat.ne_of_lt (m63.lt)
 have ng7m70 : g1 ≠ g7 := by rw [eg7]; exact Nat.ne_of_lt (m64.lt)
 have ng7m71 : g5 ≠ g7 := by rw [eg7]; exact Nat.ne_of_lt (m65.lt)
 have ng7m72 : g6 ≠ g7 := by rw [eg7]; exact Nat.ne_of_lt (m60.lt)
 have tg7 : g7 < w15.heap.size := m66.lt
 clear eg7
 refine Lv ((pf g5 18)) (x_field rfl rfl Try.underlying29 rfl (s := 1) (by kernel_rfl) rfl (by show _ + 18 = _; omega)) (Fx.L.store1 (x := stY (stS S1 (some ⟨g4, 0, none⟩) cap1 none 0)) (u := .slice (some ⟨g7, 0, none⟩) (1) (1)) (by rfl) rfl rfl rfl rfl (by rfl) (by kernel_rfl) m71 (i := 18) (by omega) fun w16 m73 s15 z14 => ?_)
 have m74 : Fx.Blk w16 g5 20 (stY (stS S1b (some ⟨g7, 0, none⟩) 1 none 0)) 29 := m73.congr (fun j hj => match j, hj with | 0, _ => rfl | 1, _ => rfl | 2, _ => rfl | 3, _ => rfl | 4, _ => rfl | 5, _ => rfl | 6, _ => rfl | 7, _ => rfl | 8, _ => rfl | 9, _ => rfl | 10, _ => rfl | 11, _ => rfl | 12, _ => rfl | 13, _ => rfl | 14, _ => rfl | 15, _ => rfl | 16, _ => rfl | 17, _ => rfl | 18, _ => rfl | 19, _ => rfl | j + 20, h => absurd h (by omega))
 have hct9 := Fx.ChT.of_stp s15 m71.ty
 have m75 := m67.chT hct9 (by decide)
 have m76 := m68.chT hct9 (by decide)
 have m77 := m69.chT hct9 (by decide)
 have m78 := m70.stp s15 (by omega)
 have m79 := m72.chT hct9 (by decide)
 have m80 := m66.chT hct9 (by decide)
 have b16 := s15.below b15 b15.size (by omega)
 refine Ln (sN (Ws (Wl (Lv ((pf g5 12)) (x_field rfl rfl Try.underlying29 rfl (s := 6) (by kernel_rfl) rfl (by show _ + 12 = _; omega)) (Lv ((pf g5 12)) (x_index rfl rfl rfl Try.underlying25 (s := 1) (by kernel_rfl) (by omega) (by omega) (by omega)) (Fx.L.store1 (x := stY (stS S1b (some ⟨g7, 0, none⟩) 1 none 0)) (u := .int .u64 (2)) (by rfl) rfl rfl rfl rfl (by rfl) (by kernel_rfl) m74 (i := 12) (by omega) fun w17 m81 s16 z15 => ?_))))))
 have m82 : Fx.Blk w17 g5 20 (stY (stS S2 (some ⟨g7, 0, none⟩) 1 none 0)) 29 := m81.congr (fun j hj => match j, hj with | 0, _ => rfl | 1, _ => rfl | 2, _ => rfl | 3, _ => rfl | 4, _ => rfl | 5, _ => rfl | 6, _ => rfl | 7, _ => rfl | 8, _ => rfl | 9, _ => rfl | 10, _ => rfl | 11, _ => rfl | 12, _ => rfl | 13, _ => rfl | 14, _ => rfl | 15, _ => rfl | 16, _ => rfl | 17, _ => rfl | 18, _ => rfl | 19, _ => rfl | j + 20, h => absurd h (by omega))
 have hct10 := Fx.ChT.of_stp s16 m74.ty
 have m83 := m75.chT hct10 (by decide)
 have m84 := m76.chT hct10 (by decide)
 have m85 := m77.chT hct10 (by decide)
 have m86 := m78.stp s16 (by omega)
 have m87 := m79.chT hct10 (by decide)
 have m88 := m80.chT hct10 (by decide)
 have b17 := s16.below b16 b16.size (by omega)
 refine Ln (sN (Ws (Wl (Lv (.agg (Fx.varr 20 (stY (stS S1 (some ⟨g4, 0, none⟩) cap1 none 0)))) (x_loadA (x := stY (stS S1 (some ⟨g4, 0, none⟩) cap1 none 0)) (y := stY (stS S1 (some ⟨g4, 0, none⟩) cap1 none 0)) rfl rfl (by kernel_rfl) (by kernel_rfl) m86.cel (i := 0) (by omega) (by omega) (fun j _ => by rw [Nat.zero_add])) (Lv (.agg (Fx.varr 20 (stY (stS S2 (some ⟨g7, 0, none⟩) 1 none 0)))) (x_loadA (x := stY (stS S2 (some ⟨g7, 0, none⟩) 1 none 0)) (y := stY (stS S2 (some ⟨g7, 0, none⟩) 1 none 0)) rfl rfl (by kernel_rfl) (by kernel_rfl) m82.cel (i := 0) (by omega) (by omega) (fun j _ => by rw [Nat.zero_add])) (Fx.L.call (by rfl) (rC (args := [.agg (Fx.varr 20 (stY (stS S1 (some ⟨g4, 0, none⟩) cap1 none 0))), .agg (Fx.varr 20 (stY (stS S2 (some ⟨g7, 0, none⟩) 1 none 0)))]) rfl rfl Try.func8 rfl rfl) rfl ((s_joinE S1 S2 (some ⟨g4, 0, none⟩) cap1 none 0 (some ⟨g7, 0, none⟩) 1 none 0 U12 0 _ (one_w (m := S1) (a := (some ⟨g4, 0, none⟩)) (c := cap1) S1_r rfl rfl m85.arr m85.le) (one_w (m := S2) (a := (some ⟨g7, 0, none⟩)) (c := 1) S2_r rfl rfl (Fx.Blk.arr1 m88) (Nat.le_refl _)) j12).mono ?_)))))))
 rintro e9 w18 ⟨una, unc, uga, ugc, he, hon1, hog1, hb2⟩
 refine ⟨_, he, ?_⟩
 clear he
 have s17 := Sb hb2
 have m89 := m83.stp s17 (m83.notNew (Nat.le_refl _))
 have m90 := m84.stp s17 m84.ne
 have m91 := m85.stpB s17 (Nat.ne_of_lt (m85.lt))
 have m92 := m86.stp s17 m86.ne
 have m93 := m87.stp s17 m87.ne
 have m94 := m88.stp s17 m88.ne
 have m95 := m82.stp s17 m82.ne
 have b18 := s17.below b17 b17.size b17.size
 have m96 : Fx.Own w18 w.heap.size 50 56 (.slice una (U12.ns.length) (unc)) U12.ns.length (ndsX U12.ns) := hon1.mono b17.size
 have m97 : Fx.Own w18 w.heap.size 59 5 (.slice uga (U12.gs.length) (ugc)) U12.gs.length (grsX U12.gs) := hog1.mono b17.size
 refine Lv (.tuple #[.agg (Fx.varr 20 (stY (stS U12 una unc uga ugc))), .int .i64 (0)]) (x_move rfl rfl) (Lv (.agg (Fx.varr 20 (stY (stS U12 una unc uga ugc)))) (Fx.x_extract rfl rfl rfl) (Lv (.int .i64 (0)) (Fx.x_extract rfl rfl rfl) (Fx.L.new (m := 20) (y := fun zq => if zq < 12 then .bool false else if zq < 18 then .int .u64 (0) else .slice none 0 0) (by rfl) rfl (by kernel_rfl) rfl fun g8 w19 eg8 m98 s18 z16 => ?_)))
 have m99 := m89.stp s18 (m89.notNew (Nat.le_refl _))
 have m100 := m90.stp s18 m90.ne
 have m101 := m91.stpB s18 (Nat.ne_of_lt (m91.lt))
 have m102 := m92.stp s18 m92.ne
 have m103 := m93.stp s18 m93.ne
 have m104 := m94.stp s18 m94.ne
 have m105 := m95.stp s18 m95.ne
 have m106 := m96.stp s18 (m96.notNew (Nat.le_refl _))
 have m107 := m97.stp s18 (m97.notNew (Nat.le_refl _))
 have b19 := s18.below b18 b18.size b18.size
 have lg8 : w.heap.size ≤ g8 := by rw [eg8]; exact b18.size
 have ng8m100 : g2 ≠ g8 := by rw [eg8]; exact Nat.ne_of_lt (m90.lt)
 have ng8m101 : g4 ≠ g8 := by rw [eg8]; exact Nat.ne_of_lt (m91.lt)
 have ng8m102 : g1 ≠ g8 := by rw [eg8]; exact Nat.ne_of_lt (m92.lt)
 have ng8m103 : g6 ≠ g8 := by rw [eg8]; exact Nat.ne_of_lt (m93.lt)
 have ng8m104 : g7 ≠ g8 := by rw [eg8]; exact Nat.ne_of_lt (m94.lt)
 have ng8m105 : g5 ≠ g8 := by rw [eg8]; exact Nat.ne_of_lt (m95.lt)
 have tg8 : g8 < w19.heap.size := m98.lt
 clear eg8
 refine Fx.L.storeA (x := fun zq => if zq < 12 then .bool false else if zq < 18 then .int .u64 (0) else .slice none 0 0) (y := stY (stS U12 una unc uga ugc)) (by rfl) rfl rfl rfl rfl (fun j _ => stY_one _ j) (by kernel_rfl) m98 (i := 0) (by omega) fun w20 m108 s19 z17 => ?_
 have m109 : Fx.Blk w20 g8 20 (stY (stS U12 una unc uga ugc)) 29 := Fx.ovr_all m108
 have hct11 := Fx.ChT.of_stp s19 m98.ty
 have m111 := m99.chT hct11 (by decide)
 have m112 := m100.chT hct11 (by decide)
 have m113 := m101.chT hct11 (by decide)
 have m114 := m102.stp s19 (by omega)
 have m115 := m103.chT hct11 (by decide)
 have m116 := m104.chT hct11 (by decide)
 have m117 := m105.stp s19 (by omega)
 have m118 := m106.chT hct11 (by decide)
 have m119 := m107.chT hct11 (by decide)
 have b20 := s19.below b19 b19.size (by omega)
 refine Lv (.int .i64 (0)) (x_assign rfl rfl) (Ln (sN (Ws (Wl (Lv (.agg (Fx.varr 20 (stY (stS S1 (some ⟨g4, 0, none⟩) cap1 none 0)))) (x_loadA (x := stY (stS S1 (some ⟨g4, 0, none⟩) cap1 none 0)) (y := stY (stS S1 (some ⟨g4, 0, none⟩) cap1 none 0)) rfl rfl (by kernel_rfl) (by kernel_rfl) m114.cel (i := 0) (by omega) (by omega) (fun j _ => by rw [Nat.zero_add])) (Fx.L.call (by rfl) (rC (args := [.agg (Fx.varr 20 (stY (stS S1 (some ⟨g4, 0, none⟩) cap1 none 0)))]) rfl rfl Try.func14 rfl rfl) rfl ((s_put S1 (some ⟨g4, 0, none⟩) cap1 none 0 _ (one_w (m := S1) (a := (some ⟨g4, 0, none⟩)) (c := cap1) S1_r rfl rfl m113.arr m113.le)).mono ?_)))))))
 rintro e9 w21 ⟨pa2, pc2, he, hm2, hb3⟩
 refine ⟨_, he, ?_⟩
 clear he
 have s20 := Sb hb3
 have m121 := m111.stp s20 (m111.notNew (Nat.le_refl _))
 have m122 := m112.stp s20 m112.ne
 have m123 := m113.stpB s20 (Nat.ne_of_lt (m113.lt))
 have m124 := m114.stp s20 m114.ne
 have m125 := m115.stp s20 m115.ne
 have m126 := m116.stp s20 m116.ne
 have m127 := m117.stp s20 m117.ne
 have m128 := m118.stp s20 (m118.notNew (Nat.le_refl _))
 have m129 := m119.stp s20 (m119.notNew (Nat.le_refl _))
 have m130 := m109.stp s20 m109.ne
 have b21 := s20.below b20 b20.size b20.size
 have m120 : Fx.Own w21 w.heap.size 5 1 (.slice pa2 ((putB S1).length) (pc2)) ((putB S1).length) (Fx.byY (putB S1)) := hm2.mono b20.size
 refine Fx.L.call (by rfl) (rC (args := [.slice pa2 ((putB S1).length) (pc2)]) rfl rfl Try.func10 rfl rfl) rfl ((s_getE pa2 (putB S1).length pc2 (putB S1) (getV (putB S1)) 0 _ rfl ge_1 rfl m120.le (by rw [putB_y S1_may, bytes_len]; decide) m120.arr).mono ?_)
 rintro e9 w22 ⟨vna, vnc, vga, vgc, he, hon2, hog2, hb4⟩
 refine ⟨_, he, ?_⟩
 clear he
 have s21 := Sb hb4
 have m131 := m121.stp s21 (m121.notNew (Nat.le_refl _))
 have m132 := m122.stp s21 m122.ne
 have m133 := m123.stpB s21 (Nat.ne_of_lt (m123.lt))
 have m134 := m124.stp s21 m124.ne
 have m135 := m125.stp s21 m125.ne
 have m136 := m126.stp s21 m126.ne
 have m137 := m127.stp s21 m127.ne
 have m138 := m128.stp s21 (m128.notNew (Nat.le_refl _))
 have m139 := m129.stp s21 (m129.notNew (Nat.le_refl _))
 have m140 := m130.stp s21 m130.ne
 have b22 := s21.below b21 b21.size b21.size
 have m142 : Fx.Own w22 w.heap.size 50 56 (.slice vna ((getV (putB S1)).ns.length) (vnc)) ((getV (putB S1)).ns.length) (ndsX (getV (putB S1)).ns) := hon2.mono b21.size
 have m143 : Fx.Own w22 w.heap.size 59 5 (.slice vga ((getV (putB S1)).gs.length) (vgc)) ((getV (putB S1)).gs.length) (grsX (getV (putB S1)).gs) := hog2.mono b21.size
 refine Lv (.tuple #[.agg (Fx.varr 20 (stY (stS (getV (putB S1)) vna vnc vga vgc))), .int .i64 (0)]) (x_move rfl rfl) (Lv (.agg (Fx.varr 20 (stY (stS (getV (putB S1)) vna vnc vga vgc)))) (Fx.x_extract rfl rfl rfl) (Lv (.int .i64 (0)) (Fx.x_extract rfl rfl rfl) (Fx.L.new (m := 20) (y := fun zq => if zq < 12 then .bool false else if zq < 18 then .int .u64 (0) else .slice none 0 0) (by rfl) rfl (by kernel_rfl) rfl fun g9 w23 eg9 m144 s22 z18 => ?_)))
 have m145 := m131.stp s22 (m131.notNew (Nat.le_refl _))
 have m147 := m133.stpB s22 (Nat.ne_of_lt (m133.lt))
 have m148 := m134.stp s22 m134.ne
 have m150 := m136.stp s22 m136.ne
 have m151 := m137.stp s22 m137.ne
 have m152 := m138.stp s22 (m138.notNew (Nat.le_refl _))
 have m153 := m139.stp s22 (m139.notNew (Nat.le_refl _))
 have m154 := m140.stp s22 m140.ne
 have m156 := m142.stp s22 (m142.notNew (Nat.le_refl _))
 have m157 := m143.stp s22 (m143.notNew (Nat.le_refl _))
 have b23 := s22.below b22 b22.size b22.size
 have lg9 : w.heap.size ≤ g9 := by rw [eg9]; exact b22.size
 have ng9m146 : g2 ≠ g9 := by rw [eg9]; exact Nat.ne_of_lt (m132.lt)
 have ng9m147 : g4 ≠ g9 := by rw [eg9]; exact Nat.ne_of_lt (m133.lt)
 have ng9m148 : g1 ≠ g9 := by rw [eg9]; exact Nat.ne_of_lt (m134.lt)
 have ng9m149 : g6 ≠ g9 := by rw [eg9]; exact Nat.ne_of_lt (m135.lt)
 have ng9m150 : g7 ≠ g9 := by rw [eg9]; exact Nat.ne_of_lt (m136.lt)
 have ng9m151 : g5 ≠ g9 := by rw [eg9]; exact Nat.ne_of_lt (m137.lt)
 have ng9m154 : g8 ≠ g9 := by rw [eg9]; exact Nat.ne_of_lt (m140.lt)
 have tg9 : g9 < w23.heap.size := m144.lt
 clear eg9
 refine Fx.L.storeA (x := fun zq => if zq < 12 then .bool false else if zq < 18 then .int .u64 (0) else .slice none 0 0) (y := stY (stS (getV (putB S1)) vna vnc vga vgc)) (by rfl) rfl rfl rfl rfl (fun j _ => stY_one _ j) (by kernel_rfl) m144 (i := 0) (by omega) fun w24 m158 s23 z19 => ?_
 have m159 : Fx.Blk w24 g9 20 (stY (stS (getV (putB S1)) vna vnc vga vgc)) 29 := Fx.ovr_all m158
 have hct12 := Fx.ChT.of_stp s23 m144.ty
 have m161 := m145.chT hct12 (by decide)
 have m163 := m147.chT hct12 (by decide)
 have m164 := m148.stp s23 (by omega)
 have m166 := m150.chT hct12 (by decide)
 have m167 := m151.stp s23 (by omega)
 have m168 := m152.chT hct12 (by decide)
 have m169 := m153.chT hct12 (by decide)
 have m170 := m154.stp s23 (by omega)
 have m172 := m156.chT hct12 (by decide)
 have m173 := m157.chT hct12 (by decide)
 have b24 := s23.below b23 b23.size (by omega)
 refine Lv (.int .i64 (0)) (x_assign rfl rfl) (Ln (sN (Ws (Wl (Lv (.slice pa1 (66) (pc1)) (x_move rfl rfl) (Lv (.int .i64 (66)) (x_len rfl rfl rfl (by kernel_rfl)) (Lv (.bool true) (x_eqlT rfl rfl rfl (by omega)) (Lv (.bool true) (x_move rfl rfl) (Lv (.slice pa1 (66) (pc1)) (x_move rfl rfl) (Lv (.slice pa1 (4) (pc1)) (Fx.x_hi (j := 4) (s := 1) rfl rfl rfl Try.underlying30 (by kernel_rfl) (by omega) m161) (Lv (.string (Fx.strL lsnp)) (Fx.x_bstr (l := lsnp) rfl rfl Try.underlying30 Try.underlying5 Try.underlying9 rfl (by have q9 := arr_take (k := 4) (m161.arrLe (by omega)); rw [put0_4] at q9; exact q9)) (Lv (.bool true) ((show Fx.Runs _ _ _ _ (.bool true) from Fx.x_eqlS (l := lsnp) (l' := lsnp) rfl rfl rfl)) (Lv (.bool true) (x_pickT rfl rfl rfl) (Lv (.bool true) (x_move rfl rfl) (Lv (.int .i64 (0)) (x_move rfl rfl) (Lv (.bool true) (x_eqlT rfl rfl rfl (by omega)) (Lv (.bool true) (x_pickT rfl rfl rfl) (Lv (.bool true) (x_move rfl rfl) (Lv (.agg (Fx.varr 20 (stY (stS U12 una unc uga ugc)))) (x_loadA (x := stY (stS U12 una unc uga ugc)) (y := stY (stS U12 una unc uga ugc)) rfl rfl (by kernel_rfl) (by kernel_rfl) m170.cel (i := 0) (by omega) (by omega) (fun j _ => by rw [Nat.zero_add])) (Lv (.agg (Fx.varr 20 (stY (stS S2 (some ⟨g7, 0, none⟩) 1 none 0)))) (x_loadA (x := stY (stS S2 (some ⟨g7, 0, none⟩) 1 none 0)) (y := stY (stS S2 (some ⟨g7, 0, none⟩) 1 none 0)) rfl rfl (by kernel_rfl) (by kernel_rfl) m167.cel (i := 0) (by omega) (by omega) (fun j _ => by rw [Nat.zero_add])) (Fx.L.call (by rfl) (rC (args := [.agg (Fx.varr 20 (stY (stS U12 una unc uga ugc))), .agg (Fx.varr 20 (stY (stS S2 (some ⟨g7, 0, none⟩) 1 none 0)))]) rfl rfl Try.func16 rfl rfl) rfl (((s_same U12 S2 una unc uga ugc (some ⟨g7, 0, none⟩) 1 none 0 _ (joinE_w S1_r S2_r j12 m168 m169) (one_w (m := S2) (a := (some ⟨g7, 0, none⟩)) (c := 1) S2_r rfl rfl (Fx.Blk.arr1 m166) (Nat.le_refl _))).mono (fun e w2 h2 => (⟨by rw [h2.1, same_u12], h2.2⟩ : e = .returned (.bool true) ∧ Below _ _ w2))).mono ?_))))))))))))))))))))))
 rintro e w25 ⟨he, hb5⟩
 refine ⟨.bool true, by rw [he], ?_⟩
 clear he
 have s24 := Sb hb5
 have m176 := m163.stpB s24 (Nat.ne_of_lt (m163.lt))
 have m177 := m164.stp s24 m164.ne
 have m179 := m166.stp s24 m166.ne
 have m180 := m167.stp s24 m167.ne
 have m185 := m172.stp s24 (m172.notNew (Nat.le_refl _))
 have m186 := m173.stp s24 (m173.notNew (Nat.le_refl _))
 have m187 := m159.stp s24 m159.ne
 have b25 := s24.below b24 b24.size b24.size
 refine Lv (.bool true) (x_pickT rfl rfl rfl) (Lv (.bool true) (x_move rfl rfl) (Lv (.int .i64 (0)) (x_move rfl rfl) (Lv (.bool true) (x_eqlT rfl rfl rfl (by omega)) (Lv (.bool true) (x_pickT rfl rfl rfl) (Lv (.bool true) (x_move rfl rfl) (Lv (.agg (Fx.varr 20 (stY (stS (getV (putB S1)) vna vnc vga vgc)))) (x_loadA (x := stY (stS (getV (putB S1)) vna vnc vga vgc)) (y := stY (stS (getV (putB S1)) vna vnc vga vgc)) rfl rfl (by kernel_rfl) (by kernel_rfl) m187.cel (i := 0) (by omega) (by omega) (fun j _ => by rw [Nat.zero_add])) (Lv (.agg (Fx.varr 20 (stY (stS S1 (some ⟨g4, 0, none⟩) cap1 none 0)))) (x_loadA (x := stY (stS S1 (some ⟨g4, 0, none⟩) cap1 none 0)) (y := stY (stS S1 (some ⟨g4, 0, none⟩) cap1 none 0)) rfl rfl (by kernel_rfl) (by kernel_rfl) m177.cel (i := 0) (by omega) (by omega) (fun j _ => by rw [Nat.zero_add])) (Fx.L.call (by rfl) (rC (args := [.agg (Fx.varr 20 (stY (stS (getV (putB S1)) vna vnc vga vgc))), .agg (Fx.varr 20 (stY (stS S1 (some ⟨g4, 0, none⟩) cap1 none 0)))]) rfl rfl Try.func16 rfl rfl) rfl (((s_same (getV (putB S1)) S1 vna vnc vga vgc (some ⟨g4, 0, none⟩) cap1 none 0 _ (get_w (l := putB S1) rfl m185 m186) (one_w (m := S1) (a := (some ⟨g4, 0, none⟩)) (c := cap1) S1_r rfl rfl m176.arr m176.le)).mono (fun e w2 h2 => (⟨by rw [h2.1, same_v1], h2.2⟩ : e = .returned (.bool true) ∧ Below _ _ w2))).mono ?_)))))))))
 rintro e w26 ⟨he, hb6⟩
 refine ⟨.bool true, by rw [he], ?_⟩
 clear he
 have s25 := Sb hb6
 have m190 := m176.stpB s25 (Nat.ne_of_lt (m176.lt))
 have m191 := m177.stp s25 m177.ne
 have m193 := m179.stp s25 m179.ne
 have m194 := m180.stp s25 m180.ne
 have b26 := s25.below b25 b25.size b25.size
 refine Lv (.bool true) (x_pickT rfl rfl rfl) (Lv (.bool true) (x_move rfl rfl) (Lv (.agg (Fx.varr 20 (stY (stS S1 (some ⟨g4, 0, none⟩) cap1 none 0)))) (x_loadA (x := stY (stS S1 (some ⟨g4, 0, none⟩) cap1 none 0)) (y := stY (stS S1 (some ⟨g4, 0, none⟩) cap1 none 0)) rfl rfl (by kernel_rfl) (by kernel_rfl) m191.cel (i := 0) (by omega) (by omega) (fun j _ => by rw [Nat.zero_add])) (Lv (.agg (Fx.varr 20 (stY (stS S2 (some ⟨g7, 0, none⟩) 1 none 0)))) (x_loadA (x := stY (stS S2 (some ⟨g7, 0, none⟩) 1 none 0)) (y := stY (stS S2 (some ⟨g7, 0, none⟩) 1 none 0)) rfl rfl (by kernel_rfl) (by kernel_rfl) m194.cel (i := 0) (by omega) (by omega) (fun j _ => by rw [Nat.zero_add])) (Fx.L.call (by rfl) (rC (args := [.agg (Fx.varr 20 (stY (stS S1 (some ⟨g4, 0, none⟩) cap1 none 0))), .agg (Fx.varr 20 (stY (stS S2 (some ⟨g7, 0, none⟩) 1 none 0)))]) rfl rfl Try.func17 rfl rfl) rfl (((s_less S1 S2 (some ⟨g4, 0, none⟩) cap1 none 0 (some ⟨g7, 0, none⟩) 1 none 0 _ (one_w (m := S1) (a := (some ⟨g4, 0, none⟩)) (c := cap1) S1_r rfl rfl m190.arr m190.le) (one_w (m := S2) (a := (some ⟨g7, 0, none⟩)) (c := 1) S2_r rfl rfl (Fx.Blk.arr1 m193) (Nat.le_refl _))).mono (fun e w2 h2 => (⟨by rw [h2.1, l12], h2.2⟩ : e = .returned (.bool true) ∧ Below _ _ w2))).mono ?_)))))
 rintro e w27 ⟨he, hb7⟩
 refine ⟨.bool true, by rw [he], ?_⟩
 clear he
 have s26 := Sb hb7
 have m204 := m190.stpB s26 (Nat.ne_of_lt (m190.lt))
 have m205 := m191.stp s26 m191.ne
 have m207 := m193.stp s26 m193.ne
 have m208 := m194.stp s26 m194.ne
 have b27 := s26.below b26 b26.size b26.size
 refine Lv (.bool true) (x_pickT rfl rfl rfl) (Lv (.bool true) (x_move rfl rfl) (Lv (.agg (Fx.varr 20 (stY (stS S2 (some ⟨g7, 0, none⟩) 1 none 0)))) (x_loadA (x := stY (stS S2 (some ⟨g7, 0, none⟩) 1 none 0)) (y := stY (stS S2 (some ⟨g7, 0, none⟩) 1 none 0)) rfl rfl (by kernel_rfl) (by kernel_rfl) m208.cel (i := 0) (by omega) (by omega) (fun j _ => by rw [Nat.zero_add])) (Lv (.agg (Fx.varr 20 (stY (stS S1 (some ⟨g4, 0, none⟩) cap1 none 0)))) (x_loadA (x := stY (stS S1 (some ⟨g4, 0, none⟩) cap1 none 0)) (y := stY (stS S1 (some ⟨g4, 0, none⟩) cap1 none 0)) rfl rfl (by kernel_rfl) (by kernel_rfl) m205.cel (i := 0) (by omega) (by omega) (fun j _ => by rw [Nat.zero_add])) (Fx.L.call (by rfl) (rC (args := [.agg (Fx.varr 20 (stY (stS S2 (some ⟨g7, 0, none⟩) 1 none 0))), .agg (Fx.varr 20 (stY (stS S1 (some ⟨g4, 0, none⟩) cap1 none 0)))]) rfl rfl Try.func17 rfl rfl) rfl (((s_less S2 S1 (some ⟨g7, 0, none⟩) 1 none 0 (some ⟨g4, 0, none⟩) cap1 none 0 _ (one_w (m := S2) (a := (some ⟨g7, 0, none⟩)) (c := 1) S2_r rfl rfl (Fx.Blk.arr1 m207) (Nat.le_refl _)) (one_w (m := S1) (a := (some ⟨g4, 0, none⟩)) (c := cap1) S1_r rfl rfl m204.arr m204.le)).mono (fun e w2 h2 => (⟨by rw [h2.1, l21], h2.2⟩ : e = .returned (.bool false) ∧ Below _ _ w2))).mono ?_)))))
 rintro e w28 ⟨he, hb8⟩
 refine ⟨.bool false, by rw [he], ?_⟩
 clear he
 have s27 := Sb hb8
 have b28 := s27.below b27 b27.size b27.size
 refine Lv (.bool true) (Fx.x_notT rfl rfl) (Lv (.bool true) (x_pickT rfl rfl rfl) (Lv (.bool true) (x_move rfl rfl) (Lv (.agg (Fx.varr 6 (Fx.ovr (fun _ => .bool false) 0 1 (fun _ => .bool true)))) (Fx.x_buildArr (vs := [(0, .bool true)]) (s := 1) (m := 6) (x := fun _ => .bool false) rfl rfl Try.underlying22 (by kernel_rfl) (by kernel_rfl) (by rw [Fx.fill_step (off := 0) (s := 1) (y := fun _ => .bool true) (by kernel_rfl) (Fx.cells_one (by rfl)) (by rfl)]; rfl)) (Lv (.agg (Fx.varr 20 (Fx.ovr (fun zq => if zq < 12 then .bool false else if zq < 18 then .int .u64 (0) else .slice none 0 0) 6 6 (Fx.ovr (fun _ => .bool false) 0 1 (fun _ => .bool true))))) (x_build (vs := [(1, .agg (Fx.varr 6 (Fx.ovr (fun _ => .bool false) 0 1 (fun _ => .bool true))))]) (places := #[(0, 6), (6, 6), (12, 6), (18, 1), (19, 1)]) (m := 20) (x := fun zq => if zq < 12 then .bool false else if zq < 18 then .int .u64 (0) else .slice none 0 0) rfl rfl Try.underlying29 (by kernel_rfl) (by kernel_rfl) (by rw [Fx.fill_step (off := 6) (s := 6) (y := Fx.ovr (fun _ => .bool false) 0 1 (fun _ => .bool true)) (by kernel_rfl) (Fx.cells_agg _ _) (by rfl)]; rfl)) (Fx.L.call (by rfl) (rC (args := [.agg (Fx.varr 20 (Fx.ovr (fun zq => if zq < 12 then .bool false else if zq < 18 then .int .u64 (0) else .slice none 0 0) 6 6 (Fx.ovr (fun _ => .bool false) 0 1 (fun _ => .bool true))))]) rfl rfl Try.func12 rfl rfl) rfl ((s_may0 _ (fun j hj => match j, hj with | 0, _ => rfl | 1, _ => rfl | 2, _ => rfl | 3, _ => rfl | 4, _ => rfl | 5, _ => rfl | 6, _ => rfl | 7, _ => rfl | 8, _ => rfl | 9, _ => rfl | 10, _ => rfl | 11, _ => rfl | 12, _ => rfl | 13, _ => rfl | 14, _ => rfl | 15, _ => rfl | 16, _ => rfl | 17, _ => rfl | 18, _ => rfl | 19, _ => rfl | j + 20, h => absurd h (by omega)) _).mono ?_))))))
 rintro e w29 ⟨he, hb9⟩
 refine ⟨.bool false, by rw [he], ?_⟩
 clear he
 have s28 := Sb hb9
 have b29 := s28.below b28 b28.size b28.size
 refine Lv (.bool true) (Fx.x_notT rfl rfl) (Lv (.bool true) (x_pickT rfl rfl rfl) (Lv (.bool true) (x_assign rfl rfl) (Ln (sN (Wr (⟨.bool true, rV Try.results7 (by exact rfl), ?_⟩))))))
 exact ⟨rfl, b29⟩
set_option linter.unusedVariables false
set_option maxRecDepth 20000
namespace Rt
def few (m : SnM) : Bool := decide (m.ns.length ≤ 40 ∧ m.gs.length ≤ 60)
theorem few_p {m : SnM} (h : few m = true) : m.ns.length ≤ 40 ∧ m.gs.length ≤ 60 := of_decide_eq_true h
theorem xor8 (c d : UInt8) : bits .xor .u8 (c.toNat : Int) (d.toNat : Int) = ((c ^^^ d).toNat : Int) := by
  have hc := c.toNat_lt
  have hd := d.toNat_lt
  have he : c.toNat ^^^ d.toNat < 256 := by have := (c ^^^ d).toNat_lt; rwa [UInt8.toNat_xor] at this
  have e : ((BitVec.ofInt 8 (c.toNat : Int) ^^^ BitVec.ofInt 8 (d.toNat : Int)).toNat : Int) = ((c ^^^ d).toNat : Int) := by
    rw [BitVec.toNat_xor, BitVec.toNat_ofInt, BitVec.toNat_ofInt, UInt8.toNat_xor]
    rw [show ((c.toNat : Int) % ((2 ^ 8 : Nat) : Int)).toNat = c.toNat by omega, show ((d.toNat : Int) % ((2 ^ 8 : Nat) : Int)).toNat = d.toNat by omega]
  show IntKind.u8.wrap ((BitVec.ofInt 8 (c.toNat : Int) ^^^ BitVec.ofInt 8 (d.toNat : Int)).toNat : Int) = _
  rw [e]
  unfold IntKind.wrap
  simp only [IntKind.bits, IntKind.signed]
  simp
  omega
theorem xor_id {c d : UInt8} : c ^^^ d = c ↔ d = 0 := by
  constructor
  · intro h
    have : c ^^^ (c ^^^ d) = c ^^^ c := by rw [h]
    rwa [← UInt8.xor_assoc, UInt8.xor_self, UInt8.zero_xor] at this
  rintro rfl; exact UInt8.xor_zero
theorem byY_set {l : List UInt8} {j : Nat} {v : UInt8} (h : j < l.length) : ∀ q, q < l.length * 1 → Fx.updV (Fx.byY l) j (.int .u8 (v.toNat : Int)) q = Fx.byY (l.set j v) q := fun q hq => by
  unfold Fx.updV Fx.byY
  rw [List.getD_eq_getElem?_getD, List.getD_eq_getElem?_getD, List.getElem?_set]
  by_cases e : j = q
  · subst e; rw [if_pos rfl, if_pos rfl, if_pos h]; rfl
  · rw [if_neg (fun q => e q.symm), if_neg e]
theorem same_sn0 : sameS sn0 sn0 = true := sameS_y ⟨fun _ _ => rfl, fun _ _ => rfl, fun _ _ => rfl, rfl, rfl, fun k h => absurd h (Nat.not_lt_zero _), fun k h => absurd h (Nat.not_lt_zero _)⟩
theorem same_got {l : List UInt8} (h : getE l ≠ 0) : sameS (getV l) sn0 = true := by
  rcases get_e l with ⟨h1, _⟩ | ⟨_, h2⟩
  · exact absurd h1 h
  rw [(get_n h2).1]; exact same_sn0
theorem got_put {l : List UInt8} (h : getE l = 0) : putB (getV l) = l := by
  rcases get_e l with ⟨_, h2⟩ | ⟨h1, _⟩
  · rw [(get_y h2).1]; exact h2.2.2
  rw [h1] at h; exact absurd h (by decide)
theorem getE_5 {l : List UInt8} (h : getE l ≠ 0) : getE l = 5 := by
  rcases get_e l with ⟨h1, _⟩ | ⟨h1, _⟩
  · exact absurd h1 h
  exact h1
theorem same_put {m : SnM} (h : MayP m) (hr : SnR m) : sameS m (getV (putB m)) = true := sameS_y (by rw [putB_y h]; exact (get_put h hr).2.symm)
theorem put_e0 {m : SnM} (h : MayP m) (hr : SnR m) : getE (putB m) = 0 := by rw [putB_y h]; exact (get_y (get_put h hr).1).2
theorem put_e5 {m : SnM} (h : MayP m) : getE (putB m ++ [0]) = 5 := by rw [putB_y h]; exact get_more h 0
theorem put_cut {m : SnM} (h : MayP m) {j : Nat} (hj : j < (putB m).length) : getE ((putB m).take j) = 5 := by rw [putB_y h] at hj ⊢; exact get_cut h hj
theorem put_turn {m : SnM} (h : MayP m) (hr : SnR m) {j : Nat} (hj : j < (putB m).length) (d : UInt8) : getE ((putB m).set j ((putB m).getD j 0 ^^^ d)) = 0 ↔ (d.toNat : Int) = 0 := by
  rw [putB_y h] at hj ⊢
  rw [get_turned h hr hj, xor_id]
  constructor
  · rintro rfl; rfl
  intro h; exact UInt8.toNat_inj.1 (by show d.toNat = 0; omega)
end Rt
theorem Fx.apt_any {w : World} {B : Nat} {E : TypeId} {s n : Nat} {x : Nat → Value} {v' v u : Value} (h : v' = v ∨ v'.ownBlock = v.ownBlock ∨ v'.ownBlock = some w.heap.size) (hu : u.ownBlock = none ∨ u.ownBlock ≠ v.ownBlock) (hO : Fx.Own w B E s u n x) : u.ownBlock = none ∨ u.ownBlock ≠ v'.ownBlock := by
  rcases hu with hu | hu
  · exact .inl hu
  rcases h with h | h | h
  · rw [h]; exact .inr hu
  · rw [h]; exact .inr hu
  rw [h]; exact .inr (hO.notNew (Nat.le_refl _))
theorem Fx.runs_b {P : Program} {f : Nat → Value} {o : Oper} {w : World} {b c : Bool} (h : Fx.Runs P f o w (.bool b)) (e : b = c) : Fx.Runs P f o w (.bool c) := e ▸ h
theorem s_few (m : SnM) (na : Option Addr) (nc : Nat) (ga : Option Addr) (gc : Nat) (w : World) :
    Calls Try.prog 6 #[.agg (Fx.varr 20 (stY (stS m na nc ga gc)))] w fun e w' => e = .returned (.bool (few m)) ∧ Below w.heap.size w w' := by
 refine Fx.enter Try.func6 rfl (n := 13) rfl (by rfl) ?_
 refine Ws (Wl (Fx.L.box (m := 20) (y := stY (stS m na nc ga gc)) (by rfl) rfl rfl (Fx.cells_agg _ _) rfl fun g1 w1 eg1 m1 s1 z1 => ?_))
 have b1 := s1.below (Below.refl w.heap.size w) (Below.refl w.heap.size w).size (Below.refl w.heap.size w).size
 have lg1 : w.heap.size ≤ g1 := by rw [eg1]; exact (Below.refl w.heap.size w).size
 have tg1 : g1 < w1.heap.size := m1.lt
 clear eg1
 refine Lv (.bool false) (x_assign rfl rfl) (Ln (sN (Ws (Wl (Lv ((pf g1 18)) (x_field rfl rfl Try.underlying29 rfl (s := 1) (by kernel_rfl) rfl (by show _ + 18 = _; omega)) (Lv (.slice na (m.ns.length) (nc)) (x_load1 (x := stY (stS m na nc ga gc)) rfl rfl (by kernel_rfl) m1.cel (i := 18) (by omega) (by omega) rfl) (Lv (.int .i64 ((m.ns.length : Int))) (x_len rfl rfl rfl (by kernel_rfl)) ?_)))))))
 by_cases c6 : (m.ns.length : Int) ≤ 40
 ·refine Lv (.bool true) (Fx.x_leqT rfl rfl rfl c6) (Lv (.bool true) (x_move rfl rfl) (Lv ((pf g1 19)) (x_field rfl rfl Try.underlying29 rfl (s := 1) (by kernel_rfl) rfl (by show _ + 19 = _; omega)) (Lv (.slice ga (m.gs.length) (gc)) (x_load1 (x := stY (stS m na nc ga gc)) rfl rfl (by kernel_rfl) m1.cel (i := 19) (by omega) (by omega) rfl) (Lv (.int .i64 ((m.gs.length : Int))) (x_len rfl rfl rfl (by kernel_rfl)) ?_))))
  by_cases c11 : (m.gs.length : Int) ≤ 60
  ·refine Lv (.bool true) (Fx.x_leqT rfl rfl rfl c11) (Lv (.bool true) (x_pickT rfl rfl rfl) (Lv (.bool true) (x_assign rfl rfl) (Ln (sN (Wr (⟨.bool true, rV Try.results6 (by exact rfl), ?_⟩))))))
   exact ⟨congrArg (fun q => Ending.returned (Value.bool q)) (Eq.symm (decide_eq_true (by omega))), b1⟩
  refine Lv (.bool false) (x_leqF rfl rfl rfl c11) (Lv (.bool false) (x_pickT rfl rfl rfl) (Lv (.bool false) (x_assign rfl rfl) (Ln (sN (Wr (⟨.bool false, rV Try.results6 (by exact rfl), ?_⟩))))))
  exact ⟨congrArg (fun q => Ending.returned (Value.bool q)) (Eq.symm (decide_eq_false (by omega))), b1⟩
 refine Lv (.bool false) (x_leqF rfl rfl rfl c6) (Lv (.bool false) (x_move rfl rfl) (Lk (by rfl) rfl (Lk (by rfl) rfl (Lk (by rfl) rfl (Lk (by rfl) rfl (Lv (.bool false) (x_pickF rfl rfl rfl) (Lv (.bool false) (x_assign rfl rfl) (Ln (sN (Wr (⟨.bool false, rV Try.results6 (by exact rfl), ?_⟩)))))))))))
 exact ⟨congrArg (fun q => Ending.returned (Value.bool q)) (Eq.symm (decide_eq_false (by omega))), b1⟩
theorem s_same0 (u : SnM) (na : Option Addr) (nc : Nat) (ga : Option Addr) (gc : Nat) (z : Nat → Value) (hz : ∀ j, j < 20 → z j = stY (stS sn0 none 0 none 0) j) (w : World) (hw : StW w u na nc ga gc) (hu : sameS u sn0 = true) : Calls Try.prog 16 #[.agg (Fx.varr 20 (stY (stS u na nc ga gc))), .agg (Fx.varr 20 z)] w fun e w' => e = .returned (.bool true) ∧ Below w.heap.size w w' := by
  rw [Fx.varr_congr hz]
  have h := s_same u sn0 na nc ga gc none 0 none 0 w hw (sn0_w w)
  rw [hu] at h; exact h
set_option maxRecDepth 20000 in
set_option maxHeartbeats 8000000 in
theorem s_back (m : SnM) (na : Option Addr) (nc : Nat) (ga : Option Addr) (gc : Nat) (ra : Option Addr) (rn rc : Nat) (l : List UInt8) (at9 : Nat) (by9 : UInt8) (w : World) (hm0 : m.ns.length ≤ 40 → m.gs.length ≤ 60 → StW w m na nc ga gc) (hrn : rn = l.length) (hrc : rn ≤ rc) (hb : Fx.Arr w ra rn 1 (Fx.byY l)) (hat : at9 ≤ 65535) :
    Calls Try.prog 4 #[.agg (Fx.varr 20 (stY (stS m na nc ga gc))), .slice ra (rn) (rc), .int .u16 ((at9 : Int)), .int .u8 ((by9.toNat : Int))] w fun e w' => e = .returned (.bool true) ∧ Below w.heap.size w w' := by
 obtain ⟨eu, heu⟩ : ∃ q, q = getE l := ⟨_, rfl⟩
 refine Fx.enter Try.func4 rfl (n := 140) rfl (by rfl) ?_
 refine Ws (Wl (Fx.L.box (m := 20) (y := stY (stS m na nc ga gc)) (by rfl) rfl rfl (Fx.cells_agg _ _) rfl fun g1 w1 eg1 m1 s1 z1 => ?_))
 have b1 := s1.below (Below.refl w.heap.size w) (Below.refl w.heap.size w).size (Below.refl w.heap.size w).size
 have lg1 : w.heap.size ≤ g1 := by rw [eg1]; exact (Below.refl w.heap.size w).size
 have tg1 : g1 < w1.heap.size := m1.lt
 clear eg1
 refine Lv (.bool false) (x_assign rfl rfl) (Ln (sN (Ws (Ws (Wl (Lv (.agg (Fx.varr 20 (stY (stS m na nc ga gc)))) (x_loadA (x := stY (stS m na nc ga gc)) (y := stY (stS m na nc ga gc)) rfl rfl (by kernel_rfl) (by kernel_rfl) m1.cel (i := 0) (by omega) (by omega) (fun j _ => by rw [Nat.zero_add])) ?_))))))
 by_cases c22 : (few m) = true
 ·refine Fx.L.call (by rfl) (rC (args := [.agg (Fx.varr 20 (stY (stS m na nc ga gc)))]) rfl rfl Try.func6 rfl rfl) rfl ((s_few m na nc ga gc _).mono ?_)
  rintro e w2 ⟨he, hb1⟩
  refine ⟨.bool true, by rw [he, c22], ?_⟩
  clear he
  have s2 := Sb hb1
  have m2 := m1.stp s2 m1.ne
  have b2 := s2.below b1 b1.size b1.size
  refine Lv (.bool false) (Fx.x_notF rfl rfl) (Lv (.bool false) (x_move rfl rfl) (Lv (.slice ra (rn) (rc)) (x_move rfl rfl) (Lv (.int .i64 ((rn : Int))) (x_len rfl rfl rfl (by kernel_rfl)) ?_)))
  by_cases c27 : 8192 < (rn : Int)
  ·refine Lv (.bool true) (Fx.x_gtrT rfl rfl rfl c27) (Lv (.bool true) (x_pickF rfl rfl rfl) (Ln (sN (Wc (b := true) rfl (fun _ => Ws (Wl (Fx.L.call (by rfl) (rC (args := []) rfl rfl Try.func7 rfl rfl) rfl ((s_works _).mono ?_)))) (fun h => nomatch h)))))
   rintro e w3 ⟨he, hb2⟩
   refine ⟨.bool true, by rw [he], ?_⟩
   clear he
   have s3 := Sb hb2
   have b3 := s3.below b2 b2.size b2.size
   refine Lv (.bool true) (x_assign rfl rfl) (Ln (sN (Wr (sR (⟨.bool true, rV Try.results4 (by exact rfl), ?_⟩)))))
   exact ⟨rfl, b3⟩
  refine Lv (.bool false) (x_gtrF rfl rfl rfl c27) (Lv (.bool false) (x_pickF rfl rfl rfl) (Ln (sN (Wc (b := false) rfl (fun h => nomatch h) (fun _ => Wk (sN (Ws ?_)))))))
  have hf9 := few_p c22
  have hm := hm0 hf9.1 hf9.2
  refine Wl (Lv (.agg (Fx.varr 20 (stY (stS m na nc ga gc)))) (x_loadA (x := stY (stS m na nc ga gc)) (y := stY (stS m na nc ga gc)) rfl rfl (by kernel_rfl) (by kernel_rfl) m2.cel (i := 0) (by omega) (by omega) (fun j _ => by rw [Nat.zero_add])) (Fx.L.call (by rfl) (rC (args := [.agg (Fx.varr 20 (stY (stS m na nc ga gc)))]) rfl rfl Try.func14 rfl rfl) rfl ((s_put m na nc ga gc _ (hm.up b2)).mono ?_)))
  rintro e9 w4 ⟨pa1, pc1, he, hm1, hb3⟩
  refine ⟨_, he, ?_⟩
  clear he
  have s4 := Sb hb3
  have m5 := m2.stp s4 m2.ne
  have b4 := s4.below b2 b2.size b2.size
  have m4 : Fx.Own w4 w.heap.size 5 1 (.slice pa1 ((putB m).length) (pc1)) ((putB m).length) (Fx.byY (putB m)) := hm1.mono b2.size
  refine Lv (.slice pa1 ((putB m).length) (pc1)) (x_assign rfl rfl) (Ln (sN (Ws (Ws (Wl (Lv (.agg (Fx.varr 20 (stY (stS m na nc ga gc)))) (x_loadA (x := stY (stS m na nc ga gc)) (y := stY (stS m na nc ga gc)) rfl rfl (by kernel_rfl) (by kernel_rfl) m5.cel (i := 0) (by omega) (by omega) (fun j _ => by rw [Nat.zero_add])) ?_))))))
  by_cases c33 : (mayS m) = true
  ·refine Fx.L.call (by rfl) (rC (args := [.agg (Fx.varr 20 (stY (stS m na nc ga gc)))]) rfl rfl Try.func12 rfl rfl) rfl ((s_may m na nc ga gc _ hm.r.k hm.l1 hm.l2 (hm.up b4).n (hm.up b4).g).mono ?_)
   rintro e w5 ⟨he, hb4⟩
   refine ⟨.bool true, by rw [he, c33], ?_⟩
   clear he
   have s5 := Sb hb4
   have m6 := m5.stp s5 m5.ne
   have m7 := m4.stp s5 (m4.notNew (Nat.le_refl _))
   have b5 := s5.below b4 b4.size b4.size
   refine Lv (.slice pa1 ((putB m).length) (pc1)) (x_move rfl rfl) (Lv (.int .i64 ((((putB m).length : Nat) : Int))) (x_len rfl rfl rfl (by kernel_rfl)) (Lv (.bool true) (Fx.x_gtrT rfl rfl rfl (by have hM := mayS_iff.1 c33; rw [putB_y hM, bytes_len]; omega)) (Lv (.bool false) (Fx.x_neqB rfl rfl rfl (by kernel_rfl) rfl) (Ln (sN (Wc (b := false) rfl (fun h => nomatch h) (fun _ => Wk (sN (Ws (Ws (Wl (Lv (.slice pa1 ((putB m).length) (pc1)) (x_move rfl rfl) (Lv (.int .i64 ((((putB m).length : Nat) : Int))) (x_len rfl rfl rfl (by kernel_rfl)) (Lv (.bool true) (Fx.x_gtrT rfl rfl rfl (by have hM := mayS_iff.1 c33; rw [putB_y hM, bytes_len]; omega)) (Ln (sN (Wc (b := true) rfl (fun _ => Ws ?_) (fun h => nomatch h))))))))))))))))))
   have hM := mayS_iff.1 c33
   have hnn := hM.nn
   have hgn := hM.gn
   have hbl : (putB m).length = 66 + 448 * m.ns.length + 33 * m.gs.length := by rw [putB_y hM, bytes_len]
   obtain ⟨j, hj⟩ : ∃ j, j = at9 % (putB m).length := ⟨_, rfl⟩
   have hjl : j < (putB m).length := by rw [hj]; exact Nat.mod_lt _ (by omega)
   obtain ⟨e4, he4⟩ : ∃ q, q = getE ((putB m).set j ((putB m).getD j 0 ^^^ by9)) := ⟨_, rfl⟩
   have ht4 : e4 = 0 ↔ (by9.toNat : Int) = 0 := by rw [he4]; exact put_turn hM hm.r hjl by9
   refine Wl (Lv (.slice pa1 ((putB m).length) (pc1)) (x_move rfl rfl) (Fx.L.call (by rfl) (rC (args := [.slice pa1 ((putB m).length) (pc1)]) rfl rfl Try.func10 rfl rfl) rfl ((s_getE pa1 ((putB m).length) pc1 (putB m) (getV (putB m)) 0 _ rfl (put_e0 hM hm.r) rfl m7.le (by omega) m7.arr).mono ?_)))
   rintro e9 w6 ⟨vna, vnc, vga, vgc, he, hon1, hog1, hb5⟩
   refine ⟨_, he, ?_⟩
   clear he
   have s6 := Sb hb5
   have m8 := m6.stp s6 m6.ne
   have m9 := m7.stp s6 (m7.notNew (Nat.le_refl _))
   have b6 := s6.below b5 b5.size b5.size
   have m10 : Fx.Own w6 w.heap.size 50 56 (.slice vna ((getV (putB m)).ns.length) (vnc)) ((getV (putB m)).ns.length) (ndsX (getV (putB m)).ns) := hon1.mono b5.size
   have m11 : Fx.Own w6 w.heap.size 59 5 (.slice vga ((getV (putB m)).gs.length) (vgc)) ((getV (putB m)).gs.length) (grsX (getV (putB m)).gs) := hog1.mono b5.size
   refine Lv (.tuple #[.agg (Fx.varr 20 (stY (stS (getV (putB m)) vna vnc vga vgc))), .int .i64 (0)]) (x_move rfl rfl) (Lv (.agg (Fx.varr 20 (stY (stS (getV (putB m)) vna vnc vga vgc)))) (Fx.x_extract rfl rfl rfl) (Lv (.int .i64 (0)) (Fx.x_extract rfl rfl rfl) (Fx.L.new (m := 20) (y := fun zq => if zq < 12 then .bool false else if zq < 18 then .int .u64 (0) else .slice none 0 0) (by rfl) rfl (by kernel_rfl) rfl fun g2 w7 eg2 m12 s7 z2 => ?_)))
   have m13 := m8.stp s7 m8.ne
   have m14 := m9.stp s7 (m9.notNew (Nat.le_refl _))
   have m15 := m10.stp s7 (m10.notNew (Nat.le_refl _))
   have m16 := m11.stp s7 (m11.notNew (Nat.le_refl _))
   have b7 := s7.below b6 b6.size b6.size
   have lg2 : w.heap.size ≤ g2 := by rw [eg2]; exact b6.size
   have ng2m13 : g1 ≠ g2 := by rw [eg2]; exact Nat.ne_of_lt (m8.lt)
   have tg2 : g2 < w7.heap.size := m12.lt
   clear eg2
   refine Fx.L.storeA (x := fun zq => if zq < 12 then .bool false else if zq < 18 then .int .u64 (0) else .slice none 0 0) (y := stY (stS (getV (putB m)) vna vnc vga vgc)) (by rfl) rfl rfl rfl rfl (fun j _ => stY_one _ j) (by kernel_rfl) m12 (i := 0) (by omega) fun w8 m17 s8 z3 => ?_
   have m18 : Fx.Blk w8 g2 20 (stY (stS (getV (putB m)) vna vnc vga vgc)) 29 := Fx.ovr_all m17
   have m19 := m13.stp s8 (by omega)
   have hct1 := Fx.ChT.of_stp s8 m12.ty
   have m20 := m14.chT hct1 (by decide)
   have m21 := m15.chT hct1 (by decide)
   have m22 := m16.chT hct1 (by decide)
   have b8 := s8.below b7 b7.size (by omega)
   refine Lv (.int .i64 (0)) (x_assign rfl rfl) (Ln (sN (Ws (Wl (Fx.L.bslice0 (s := 1) (by rfl) rfl Try.underlying30 (by kernel_rfl) rfl fun g3 w9 eg3 hO1 s9 => ?_)))))
   have m23 : Fx.Own w9 w.heap.size 5 1 (.slice (some ⟨g3, 0, none⟩) 0 0) 0 (Fx.byY []) := hO1 _ _ (by rw [eg3]; exact b8.size)
   have m24 := m19.stp s9 m19.ne
   have m25 := m20.stp s9 (m20.notNew (Nat.le_refl _))
   have m26 := m21.stp s9 (m21.notNew (Nat.le_refl _))
   have m27 := m22.stp s9 (m22.notNew (Nat.le_refl _))
   have m28 := m18.stp s9 m18.ne
   have b9 := s9.below b8 b8.size b8.size
   have ng3m25 : (.slice pa1 ((putB m).length) (pc1) : Value).ownBlock ≠ some g3 := by rw [eg3]; exact m20.notNew (Nat.le_refl _)
   clear eg3
   refine Lv (.slice pa1 ((putB m).length) (pc1)) (x_move rfl rfl) (Fx.L.appAny (B := w.heap.size) (s := 1) (bytes := 1) (k := 0) (m := (putB m).length) (v := .slice (some ⟨g3, 0, none⟩) (0) (0)) (x := Fx.byY []) (by rfl) rfl rfl rfl Try.underlying30 (by kernel_rfl) (by kernel_rfl) rfl rfl m23 m25.arr (fun j _ => byY_one _ j) (by omega) (by omega) b9.size fun vv1 w10 ho1 hg1 hgv1 => ?_)
   rw [Nat.zero_add] at ho1
   obtain ⟨a1, cap1, rfl⟩ := ho1.val
   have hct2 := Fx.ChT.of_grown hg1 m23
   have m30 := m24.chT hct2 (by decide)
   have apt1 := Fx.apt_any hgv1 (u := .slice pa1 ((putB m).length) (pc1)) (.inr ng3m25) m25
   have m31 : Fx.Own w10 w.heap.size 5 1 (.slice pa1 ((putB m).length) (pc1)) ((putB m).length) (Fx.byY (putB m)) := World.ownsRow.kept m25 hg1 (.inr ng3m25)
   have m32 := m26.chT hct2 (by decide)
   have m33 := m27.chT hct2 (by decide)
   have m34 := m28.chT hct2 (by decide)
   have m29 : Fx.Own w10 w.heap.size 5 1 (.slice a1 ((putB m).length) (cap1)) ((putB m).length) (Fx.byY (putB m)) := (ho1.congr (fun j hj => by rw [Nat.zero_mul]; rfl))
   have b10 : Below w.heap.size w w10 := Fx.Below.grow b9 hg1 b9.size (fun q hq => (m23.ge hq).1)
   refine Fx.L.bslice (vs := [(0, .int .u8 (0))]) (s := 1) (zc := Fx.rv .u8 (fun _ => 0)) (y := Fx.ovr (fun j => (Fx.rv .u8 (fun _ => 0)) (j % 1)) (0 * 1) 1 (fun _ => .int .u8 (0))) (by rfl) rfl rfl Try.underlying30 (by kernel_rfl) (by rfl) (by rfl) (by kernel_rfl) (by rw [Fx.fill_step (off := 0 * 1) (s := 1) (y := fun _ => .int .u8 (0)) rfl (Fx.cells_one (by rfl)) (by rfl)]; rfl) rfl fun g4 w11 eg4 m35 s10 z4 => ?_
   have m36 := m30.stp s10 m30.ne
   have m37 := m31.stp s10 (m31.notNew (Nat.le_refl _))
   have m38 := m32.stp s10 (m32.notNew (Nat.le_refl _))
   have m39 := m33.stp s10 (m33.notNew (Nat.le_refl _))
   have m40 := m34.stp s10 m34.ne
   have m41 := m29.stp s10 (m29.notNew (Nat.le_refl _))
   have b11 := s10.below b10 b10.size b10.size
   have lg4 : w.heap.size ≤ g4 := by rw [eg4]; exact b10.size
   have ng4m36 : g1 ≠ g4 := by rw [eg4]; exact Nat.ne_of_lt (m30.lt)
   have ng4m37 : (.slice pa1 ((putB m).length) (pc1) : Value).ownBlock ≠ some g4 := by rw [eg4]; exact m31.notNew (Nat.le_refl _)
   have ng4m40 : g2 ≠ g4 := by rw [eg4]; exact Nat.ne_of_lt (m34.lt)
   have ng4m41 : (.slice a1 ((putB m).length) (cap1) : Value).ownBlock ≠ some g4 := by rw [eg4]; exact m29.notNew (Nat.le_refl _)
   have tg4 : g4 < w11.heap.size := m35.lt
   clear eg4
   refine Fx.L.app (B := w.heap.size) (s := 1) (bytes := 1) (k := (putB m).length) (m := 1) (v := .slice a1 ((putB m).length) (cap1)) (x := Fx.byY (putB m)) (by rfl) rfl rfl rfl Try.underlying30 (by kernel_rfl) (by kernel_rfl) rfl rfl m41 m35.cel (fun j hj => by unfold Fx.ovr; rw [if_pos ⟨by omega, by omega⟩]; rfl) (by omega) (by omega) (by omega) b11.size fun g5 cap2 w12 ho2 hg2 hgv2 hlt1 => ?_
   have hct3 := Fx.ChT.of_grown hg2 m41
   have m43 := m36.chT hct3 (by decide)
   have m44 : Fx.Own w12 w.heap.size 5 1 (.slice pa1 ((putB m).length) (pc1)) ((putB m).length) (Fx.byY (putB m)) := World.ownsRow.kept m37 hg2 apt1
   have m45 := m38.chT hct3 (by decide)
   have m46 := m39.chT hct3 (by decide)
   have m47 := m40.chT hct3 (by decide)
   have m42 : Fx.Own w12 w.heap.size 5 1 (.slice (some ⟨g5, 0, none⟩) ((putB m).length + 1) cap2) ((putB m).length + 1) (Fx.byY (putB m ++ [0])) := (ho2.congr (byY_app1 (b := 0) rfl))
   have b12 : Below w.heap.size w w12 := Fx.Below.grow b11 hg2 b11.size (fun q hq => (m41.ge hq).1)
   refine Fx.L.call (by rfl) (rC (args := [.slice (some ⟨g5, 0, none⟩) ((putB m).length + 1) (cap2)]) rfl rfl Try.func10 rfl rfl) rfl ((s_getE (some ⟨g5, 0, none⟩) ((putB m).length + 1) cap2 (putB m ++ [0]) (getV (putB m ++ [0])) 5 _ rfl (put_e5 hM) (by rw [List.length_append]; rfl) m42.le (by omega) m42.arr).mono ?_)
   rintro e9 w13 ⟨yna, ync, yga, ygc, he, hon2, hog2, hb6⟩
   refine ⟨_, he, ?_⟩
   clear he hon2 hog2
   have s11 := Sb hb6
   have m48 := m43.stp s11 m43.ne
   have m49 := m44.stp s11 (m44.notNew (Nat.le_refl _))
   have m50 := m45.stp s11 (m45.notNew (Nat.le_refl _))
   have m51 := m46.stp s11 (m46.notNew (Nat.le_refl _))
   have m52 := m47.stp s11 m47.ne
   have b13 := s11.below b12 b12.size b12.size
   refine Lv (.tuple #[.agg (Fx.varr 20 (stY (stS (getV (putB m ++ [0])) yna ync yga ygc))), .int .i64 (5)]) (x_move rfl rfl) (Lv (.agg (Fx.varr 20 (stY (stS (getV (putB m ++ [0])) yna ync yga ygc)))) (Fx.x_extract rfl rfl rfl) (Lv (.int .i64 (5)) (Fx.x_extract rfl rfl rfl) (Fx.L.new (m := 20) (y := fun zq => if zq < 12 then .bool false else if zq < 18 then .int .u64 (0) else .slice none 0 0) (by rfl) rfl (by kernel_rfl) rfl fun g6 w14 eg6 m53 s12 z5 => ?_)))
   have m54 := m48.stp s12 m48.ne
   have m55 := m49.stp s12 (m49.notNew (Nat.le_refl _))
   have m56 := m50.stp s12 (m50.notNew (Nat.le_refl _))
   have m57 := m51.stp s12 (m51.notNew (Nat.le_refl _))
   have m58 := m52.stp s12 m52.ne
   have b14 := s12.below b13 b13.size b13.size
   have lg6 : w.heap.size ≤ g6 := by rw [eg6]; exact b13.size
   have ng6m54 : g1 ≠ g6 := by rw [eg6]; exact Nat.ne_of_lt (m48.lt)
   have ng6m58 : g2 ≠ g6 := by rw [eg6]; exact Nat.ne_of_lt (m52.lt)
   have tg6 : g6 < w14.heap.size := m53.lt
   clear eg6
   refine Fx.L.storeA (x := fun zq => if zq < 12 then .bool false else if zq < 18 then .int .u64 (0) else .slice none 0 0) (y := stY (stS (getV (putB m ++ [0])) yna ync yga ygc)) (by rfl) rfl rfl rfl rfl (fun j _ => stY_one _ j) (by kernel_rfl) m53 (i := 0) (by omega) fun w15 m59 s13 z6 => ?_
   have m60 : Fx.Blk w15 g6 20 (stY (stS (getV (putB m ++ [0])) yna ync yga ygc)) 29 := Fx.ovr_all m59
   have m61 := m54.stp s13 (by omega)
   have hct4 := Fx.ChT.of_stp s13 m53.ty
   have m62 := m55.chT hct4 (by decide)
   have m63 := m56.chT hct4 (by decide)
   have m64 := m57.chT hct4 (by decide)
   have m65 := m58.stp s13 (by omega)
   have b15 := s13.below b14 b14.size (by omega)
   refine Lv (.int .i64 (5)) (x_assign rfl rfl) (Ln (sN (Ws (Wl (Lv (.slice pa1 ((putB m).length) (pc1)) (x_move rfl rfl) (Lv (.int .u16 ((at9 : Int))) (x_move rfl rfl) (Lv (.int .i64 ((at9 : Int))) (x_conv rfl rfl (by kernel_rfl) Try.underlying3 (Fx.i64e (by omega) rfl)) (Lv (.slice pa1 ((putB m).length) (pc1)) (x_move rfl rfl) (Lv (.int .i64 ((((putB m).length : Nat) : Int))) (x_len rfl rfl rfl (by kernel_rfl)) (Lv (.int .i64 ((j : Int))) (Fx.x_rem rfl rfl rfl (by omega) (by rw [hj]; rfl)) (Lv (.slice pa1 (j) (pc1)) (Fx.x_hi (j := j) (s := 1) rfl rfl rfl Try.underlying30 (by kernel_rfl) (by omega) m62) (Fx.L.call (by rfl) (rC (args := [.slice pa1 (j) (pc1)]) rfl rfl Try.func10 rfl rfl) rfl ((s_getE pa1 j pc1 ((putB m).take j) (getV ((putB m).take j)) 5 _ rfl (put_cut hM (by omega)) (by rw [List.length_take]; omega) (Nat.le_trans (by omega) m62.le) (by omega) (arr_take (k := j) (m62.arrLe (by omega)))).mono ?_)))))))))))))
   rintro e9 w16 ⟨xna, xnc, xga, xgc, he, hon3, hog3, hb7⟩
   refine ⟨_, he, ?_⟩
   clear he hon3 hog3
   have s14 := Sb hb7
   have m66 := m61.stp s14 m61.ne
   have m67 := m62.stp s14 (m62.notNew (Nat.le_refl _))
   have m68 := m63.stp s14 (m63.notNew (Nat.le_refl _))
   have m69 := m64.stp s14 (m64.notNew (Nat.le_refl _))
   have m70 := m65.stp s14 m65.ne
   have m71 := m60.stp s14 m60.ne
   have b16 := s14.below b15 b15.size b15.size
   refine Lv (.tuple #[.agg (Fx.varr 20 (stY (stS (getV ((putB m).take j)) xna xnc xga xgc))), .int .i64 (5)]) (x_move rfl rfl) (Lv (.agg (Fx.varr 20 (stY (stS (getV ((putB m).take j)) xna xnc xga xgc)))) (Fx.x_extract rfl rfl rfl) (Lv (.int .i64 (5)) (Fx.x_extract rfl rfl rfl) (Fx.L.new (m := 20) (y := fun zq => if zq < 12 then .bool false else if zq < 18 then .int .u64 (0) else .slice none 0 0) (by rfl) rfl (by kernel_rfl) rfl fun g7 w17 eg7 m72 s15 z7 => ?_)))
   have m73 := m66.stp s15 m66.ne
   have m74 := m67.stp s15 (m67.notNew (Nat.le_refl _))
   have m75 := m68.stp s15 (m68.notNew (Nat.le_refl _))
   have m76 := m69.stp s15 (m69.notNew (Nat.le_refl _))
   have m77 := m70.stp s15 m70.ne
   have m78 := m71.stp s15 m71.ne
   have b17 := s15.below b16 b16.size b16.size
   have lg7 : w.heap.size ≤ g7 := by rw [eg7]; exact b16.size
   have ng7m73 : g1 ≠ g7 := by rw [eg7]; exact Nat.ne_of_lt (m66.lt)
   have ng7m77 : g2 ≠ g7 := by rw [eg7]; exact Nat.ne_of_lt (m70.lt)
   have ng7m78 : g6 ≠ g7 := by rw [eg7]; exact Nat.ne_of_lt (m71.lt)
   have tg7 : g7 < w17.heap.size := m72.lt
   clear eg7
   refine Fx.L.storeA (x := fun zq => if zq < 12 then .bool false else if zq < 18 then .int .u64 (0) else .slice none 0 0) (y := stY (stS (getV ((putB m).take j)) xna xnc xga xgc)) (by rfl) rfl rfl rfl rfl (fun j _ => stY_one _ j) (by kernel_rfl) m72 (i := 0) (by omega) fun w18 m79 s16 z8 => ?_
   have m80 : Fx.Blk w18 g7 20 (stY (stS (getV ((putB m).take j)) xna xnc xga xgc)) 29 := Fx.ovr_all m79
   have m81 := m73.stp s16 (by omega)
   have hct5 := Fx.ChT.of_stp s16 m72.ty
   have m82 := m74.chT hct5 (by decide)
   have m83 := m75.chT hct5 (by decide)
   have m84 := m76.chT hct5 (by decide)
   have m85 := m77.stp s16 (by omega)
   have m86 := m78.stp s16 (by omega)
   have b18 := s16.below b17 b17.size (by omega)
   refine Lv (.int .i64 (5)) (x_assign rfl rfl) (Ln (sN (Ws (Wl (Fx.L.bslice0 (s := 1) (by rfl) rfl Try.underlying30 (by kernel_rfl) rfl fun g8 w19 eg8 hO2 s17 => ?_)))))
   have m87 : Fx.Own w19 w.heap.size 5 1 (.slice (some ⟨g8, 0, none⟩) 0 0) 0 (Fx.byY []) := hO2 _ _ (by rw [eg8]; exact b18.size)
   have m88 := m81.stp s17 m81.ne
   have m89 := m82.stp s17 (m82.notNew (Nat.le_refl _))
   have m90 := m83.stp s17 (m83.notNew (Nat.le_refl _))
   have m91 := m84.stp s17 (m84.notNew (Nat.le_refl _))
   have m92 := m85.stp s17 m85.ne
   have m93 := m86.stp s17 m86.ne
   have m94 := m80.stp s17 m80.ne
   have b19 := s17.below b18 b18.size b18.size
   have ng8m89 : (.slice pa1 ((putB m).length) (pc1) : Value).ownBlock ≠ some g8 := by rw [eg8]; exact m82.notNew (Nat.le_refl _)
   clear eg8
   refine Lv (.slice pa1 ((putB m).length) (pc1)) (x_move rfl rfl) (Fx.L.appAny (B := w.heap.size) (s := 1) (bytes := 1) (k := 0) (m := (putB m).length) (v := .slice (some ⟨g8, 0, none⟩) (0) (0)) (x := Fx.byY []) (by rfl) rfl rfl rfl Try.underlying30 (by kernel_rfl) (by kernel_rfl) rfl rfl m87 m89.arr (fun j _ => byY_one _ j) (by omega) (by omega) b19.size fun vv2 w20 ho3 hg3 hgv3 => ?_)
   rw [Nat.zero_add] at ho3
   obtain ⟨a2, cap3, rfl⟩ := ho3.val
   have hct6 := Fx.ChT.of_grown hg3 m87
   have m96 := m88.chT hct6 (by decide)
   have apt2 := Fx.apt_any hgv3 (u := .slice pa1 ((putB m).length) (pc1)) (.inr ng8m89) m89
   have m97 : Fx.Own w20 w.heap.size 5 1 (.slice pa1 ((putB m).length) (pc1)) ((putB m).length) (Fx.byY (putB m)) := World.ownsRow.kept m89 hg3 (.inr ng8m89)
   have m98 := m90.chT hct6 (by decide)
   have m99 := m91.chT hct6 (by decide)
   have m100 := m92.chT hct6 (by decide)
   have m101 := m93.chT hct6 (by decide)
   have m102 := m94.chT hct6 (by decide)
   have m95 : Fx.Own w20 w.heap.size 5 1 (.slice a2 ((putB m).length) (cap3)) ((putB m).length) (Fx.byY (putB m)) := (ho3.congr (fun j hj => by rw [Nat.zero_mul]; rfl))
   have b20 : Below w.heap.size w w20 := Fx.Below.grow b19 hg3 b19.size (fun q hq => (m87.ge hq).1)
   refine Lv (.slice a2 ((putB m).length) (cap3)) (x_assign rfl rfl) (Ln (sN (Ws ?_)))
   obtain ⟨gq1, eq1⟩ := m95.addr (by omega)
   have m103 : Fx.Own w20 w.heap.size 5 1 (.slice (some ⟨gq1, 0, none⟩) ((putB m).length) cap3) ((putB m).length) (Fx.byY (putB m)) := m95.congV (congrArg (fun q => Value.slice q ((putB m).length) cap3) eq1)
   have lqgq1 : w.heap.size ≤ gq1 := (m103.ge rfl).1
   -- region 11 draws
   refine Fx.W.reord [0, 1, 2, 3, 4, 5, 6, 7, 8, 9, 10, 11, 12, 14, 13, 15, 16, 17] [0, 0, 0, 0, 0, 0, 0, 0, 0, 0, 0, 0, 0, 4, 0, 0, 0, 3] Fx.Mk Fx.Mk.refl Fx.Mk.trans (certs := [(17, 13, [13])]) (by kernel_rfl) (by kernel_rfl) (by kernel_rfl) (by kernel_rfl) (by kernel_rfl) fun wt1 hbwt1 hzwt1 => ?_
   have s18 : Fx.Stp w20.heap.size w20 wt1 := Sb hbwt1
   have m104 := m96.stp s18 m96.ne
   have m105 := m98.stp s18 (m98.notNew (Nat.le_refl _))
   have m106 := m99.stp s18 (m99.notNew (Nat.le_refl _))
   have m107 := m100.stp s18 m100.ne
   have m108 := m101.stp s18 m101.ne
   have m109 := m102.stp s18 m102.ne
   have m110 := m103.stpB s18 (Nat.ne_of_lt (m103.lt))
   have b21 := s18.below b20 b20.size b20.size
   refine Rp (.slice a2 ((putB m).length) (cap3)) (fun v1 => x_move rfl rfl) (Rp (.int .u16 ((at9 : Int))) (fun v1 => x_move rfl rfl) (Rp (.int .i64 ((at9 : Int))) (fun v1 => x_conv rfl rfl (by kernel_rfl) Try.underlying3 (Fx.i64e (by omega) rfl)) (Rp (.slice pa1 ((putB m).length) (pc1)) (fun v1 => x_move rfl rfl) (Rp (.int .i64 ((((putB m).length : Nat) : Int))) (fun v1 => x_len rfl rfl rfl (by kernel_rfl)) (Rp (.int .i64 ((j : Int))) (fun v1 => Fx.x_rem rfl rfl rfl (by omega) (by rw [hj]; rfl)) (Rp (.slice a2 ((putB m).length) (cap3)) (fun v1 => x_move rfl rfl) (Rp (.int .u16 ((at9 : Int))) (fun v1 => x_move rfl rfl) (Rp (.int .i64 ((at9 : Int))) (fun v1 => x_conv rfl rfl (by kernel_rfl) Try.underlying3 (Fx.i64e (by omega) rfl)) (Rp (.slice pa1 ((putB m).length) (pc1)) (fun v1 => x_move rfl rfl) (Rp (.int .i64 ((((putB m).length : Nat) : Int))) (fun v1 => x_len rfl rfl rfl (by kernel_rfl)) (Rp (.int .i64 ((j : Int))) (fun v1 => Fx.x_rem rfl rfl rfl (by omega) (by rw [hj]; rfl)) (Rp ((pf gq1 j)) (fun v1 => x_indexS rfl (rfl.trans (congrArg (fun q => Value.slice q ((putB m).length) (cap3)) eq1)) rfl Try.underlying30 (s := 1) (by kernel_rfl) (by omega) (by omega) (by omega)) (Rp (.int .u8 ((by9.toNat : Int))) (fun v1 => x_move rfl rfl) (Fx.R.s (.int .u8 (((((putB m)).getD j 0).toNat : Int))) (x_load1 (x := Fx.byY (putB m)) rfl rfl (by kernel_rfl) m110.cel (i := j) (by omega) (by omega) rfl) ?_))))))))))))))
   refine Rp (.int .u8 ((((putB m).getD j 0 ^^^ by9).toNat : Int))) (fun v1 => Fx.x_xor rfl rfl rfl (xor8 _ _)) (Rp ((pf gq1 j)) (fun v1 => x_indexS rfl (rfl.trans (congrArg (fun q => Value.slice q ((putB m).length) (cap3)) eq1)) rfl Try.underlying30 (s := 1) (by kernel_rfl) (by omega) (by omega) (by omega)) (Fx.R.eff (by rfl) ?_))
   refine Fx.L.own1 (x := Fx.byY (putB m)) (u := .int .u8 ((((putB m).getD j 0 ^^^ by9).toNat : Int))) (by rfl) rfl rfl rfl rfl (by rfl) (by kernel_rfl) m110 (i := j) (by omega) fun w21 m111 s19 z9 => ?_
   have hct7 := Fx.ChT.of_stp s19 m110.tyB
   have m112 := m104.chT hct7 (by decide)
   have m113 := m105.chT hct7 (by decide)
   have m114 := m106.chT hct7 (by decide)
   have m115 := m107.chT hct7 (by decide)
   have m116 := m108.chT hct7 (by decide)
   have m117 := m109.chT hct7 (by decide)
   have b22 := s19.below b21 b21.size (by omega)
   have m118 : Fx.Own w21 w.heap.size 5 1 (.slice (some ⟨gq1, 0, none⟩) ((putB m).length) cap3) ((putB m).length) (Fx.byY ((putB m).set j ((putB m).getD j 0 ^^^ by9))) := m111.congr (byY_set hjl)
   refine Ln (Fx.R.nil (sN (Ws ?_)))
   have m119 : Fx.Own w21 w.heap.size 5 1 (.slice a2 ((putB m).length) (cap3)) ((putB m).length) (Fx.byY ((putB m).set j ((putB m).getD j 0 ^^^ by9))) := m118.congV (congrArg (fun q => Value.slice q ((putB m).length) cap3) eq1.symm)
   refine Wl (Lv (.slice a2 ((putB m).length) (cap3)) (x_move rfl rfl) (Fx.L.call (by rfl) (rC (args := [.slice a2 ((putB m).length) (cap3)]) rfl rfl Try.func10 rfl rfl) rfl ((s_getE a2 ((putB m).length) cap3 ((putB m).set j ((putB m).getD j 0 ^^^ by9)) (getV ((putB m).set j ((putB m).getD j 0 ^^^ by9))) e4 _ rfl he4.symm (by rw [List.length_set]) m119.le (by omega) m119.arr).mono ?_)))
   rintro e9 w22 ⟨zna, znc, zga, zgc, he, hon4, hog4, hb8⟩
   refine ⟨_, he, ?_⟩
   clear he hon4 hog4
   have s20 := Sb hb8
   have m120 := m112.stp s20 m112.ne
   have m121 := m113.stp s20 (m113.notNew (Nat.le_refl _))
   have m122 := m114.stp s20 (m114.notNew (Nat.le_refl _))
   have m123 := m115.stp s20 m115.ne
   have m124 := m116.stp s20 m116.ne
   have m125 := m117.stp s20 m117.ne
   have b23 := s20.below b22 b22.size b22.size
   refine Lv (.tuple #[.agg (Fx.varr 20 (stY (stS (getV ((putB m).set j ((putB m).getD j 0 ^^^ by9))) zna znc zga zgc))), .int .i64 (e4)]) (x_move rfl rfl) (Lv (.agg (Fx.varr 20 (stY (stS (getV ((putB m).set j ((putB m).getD j 0 ^^^ by9))) zna znc zga zgc)))) (Fx.x_extract rfl rfl rfl) (Lv (.int .i64 (e4)) (Fx.x_extract rfl rfl rfl) (Fx.L.new (m := 20) (y := fun zq => if zq < 12 then .bool false else if zq < 18 then .int .u64 (0) else .slice none 0 0) (by rfl) rfl (by kernel_rfl) rfl fun g9 w23 eg9 m126 s21 z10 => ?_)))
   have m127 := m120.stp s21 m120.ne
   have m128 := m121.stp s21 (m121.notNew (Nat.le_refl _))
   have m129 := m122.stp s21 (m122.notNew (Nat.le_refl _))
   have m130 := m123.stp s21 m123.ne
   have m131 := m124.stp s21 m124.ne
   have m132 := m125.stp s21 m125.ne
   have b24 := s21.below b23 b23.size b23.size
   have lg9 : w.heap.size ≤ g9 := by rw [eg9]; exact b23.size
   have ng9m127 : g1 ≠ g9 := by rw [eg9]; exact Nat.ne_of_lt (m120.lt)
   have ng9m130 : g2 ≠ g9 := by rw [eg9]; exact Nat.ne_of_lt (m123.lt)
   have ng9m131 : g6 ≠ g9 := by rw [eg9]; exact Nat.ne_of_lt (m124.lt)
   have ng9m132 : g7 ≠ g9 := by rw [eg9]; exact Nat.ne_of_lt (m125.lt)
   have tg9 : g9 < w23.heap.size := m126.lt
   clear eg9
   refine Fx.L.storeA (x := fun zq => if zq < 12 then .bool false else if zq < 18 then .int .u64 (0) else .slice none 0 0) (y := stY (stS (getV ((putB m).set j ((putB m).getD j 0 ^^^ by9))) zna znc zga zgc)) (by rfl) rfl rfl rfl rfl (fun j _ => stY_one _ j) (by kernel_rfl) m126 (i := 0) (by omega) fun w24 m133 s22 z11 => ?_
   have m134 : Fx.Blk w24 g9 20 (stY (stS (getV ((putB m).set j ((putB m).getD j 0 ^^^ by9))) zna znc zga zgc)) 29 := Fx.ovr_all m133
   have m135 := m127.stp s22 (by omega)
   have hct8 := Fx.ChT.of_stp s22 m126.ty
   have m136 := m128.chT hct8 (by decide)
   have m137 := m129.chT hct8 (by decide)
   have m138 := m130.stp s22 (by omega)
   have m139 := m131.stp s22 (by omega)
   have m140 := m132.stp s22 (by omega)
   have b25 := s22.below b24 b24.size (by omega)
   refine Lv (.int .i64 (e4)) (x_assign rfl rfl) (Ln (sN (Ws (Wl (Lv (.int .i64 (0)) (x_move rfl rfl) (Lv (.bool false) (Fx.x_neqF rfl rfl rfl (by omega)) (Lv (.bool false) (x_move rfl rfl) (Lv (.agg (Fx.varr 20 (stY (stS m na nc ga gc)))) (x_loadA (x := stY (stS m na nc ga gc)) (y := stY (stS m na nc ga gc)) rfl rfl (by kernel_rfl) (by kernel_rfl) m135.cel (i := 0) (by omega) (by omega) (fun j _ => by rw [Nat.zero_add])) (Lv (.agg (Fx.varr 20 (stY (stS (getV (putB m)) vna vnc vga vgc)))) (x_loadA (x := stY (stS (getV (putB m)) vna vnc vga vgc)) (y := stY (stS (getV (putB m)) vna vnc vga vgc)) rfl rfl (by kernel_rfl) (by kernel_rfl) m138.cel (i := 0) (by omega) (by omega) (fun j _ => by rw [Nat.zero_add])) (Fx.L.call (by rfl) (rC (args := [.agg (Fx.varr 20 (stY (stS m na nc ga gc))), .agg (Fx.varr 20 (stY (stS (getV (putB m)) vna vnc vga vgc)))]) rfl rfl Try.func16 rfl rfl) rfl (((s_same m (getV (putB m)) na nc ga gc vna vnc vga vgc _ (hm.up b25) (get_w (l := putB m) rfl m136 m137)).mono (fun e w2 h2 => (⟨by rw [h2.1, same_put hM hm.r], h2.2⟩ : e = .returned (.bool true) ∧ Below _ _ w2))).mono ?_)))))))))))
   rintro e w25 ⟨he, hb9⟩
   refine ⟨.bool true, by rw [he], ?_⟩
   clear he
   have s23 := Sb hb9
   have m141 := m135.stp s23 m135.ne
   have m144 := m138.stp s23 m138.ne
   have m145 := m139.stp s23 m139.ne
   have m146 := m140.stp s23 m140.ne
   have m147 := m134.stp s23 m134.ne
   have b26 := s23.below b25 b25.size b25.size
   refine Lv (.bool false) (Fx.x_notF rfl rfl) (Lv (.bool false) (x_pickF rfl rfl rfl) (Lv (.bool false) (x_move rfl rfl) (Lv (.int .i64 (5)) (x_move rfl rfl) (Lv (.bool false) (Fx.x_neqF rfl rfl rfl (by omega)) (Lv (.bool false) (x_pickF rfl rfl rfl) (Lv (.bool false) (x_move rfl rfl) (Lv (.int .i64 (5)) (x_move rfl rfl) (Lv (.bool false) (Fx.x_neqF rfl rfl rfl (by omega)) (Lv (.bool false) (x_pickF rfl rfl rfl) (Lv (.bool false) (x_move rfl rfl) (Lv (.int .i64 (e4)) (x_move rfl rfl) ?_)))))))))))
   by_cases c109 : e4 = 0
   ·refine Lv (.bool true) (x_eqlT rfl rfl rfl c109) (Lv (.int .u8 ((by9.toNat : Int))) (x_move rfl rfl) (Lv (.bool true) (x_eqlT rfl rfl rfl (ht4.1 c109)) (Lv (.bool false) (Fx.x_neqB rfl rfl rfl (by kernel_rfl) rfl) (Lv (.bool false) (x_pickF rfl rfl rfl) (Ln (sN (Wc (b := false) rfl (fun h => nomatch h) (fun _ => Wk (sN (Ws (Wl (Lv (.slice ra (rn) (rc)) (x_move rfl rfl) (Fx.L.call (by rfl) (rC (args := [.slice ra (rn) (rc)]) rfl rfl Try.func10 rfl rfl) rfl ((s_getE ra rn rc l (getV l) eu _ rfl heu.symm hrn hrc (by omega) (hb.up b26 rfl)).mono ?_))))))))))))))
    rintro e9 w26 ⟨una, unc, uga, ugc, he, hon5, hog5, hb10⟩
    refine ⟨_, he, ?_⟩
    clear he
    have s24 := Sb hb10
    have m148 := m141.stp s24 m141.ne
    have m151 := m144.stp s24 m144.ne
    have m152 := m145.stp s24 m145.ne
    have m153 := m146.stp s24 m146.ne
    have m154 := m147.stp s24 m147.ne
    have b27 := s24.below b26 b26.size b26.size
    have m155 : Fx.Own w26 w.heap.size 50 56 (.slice una ((getV l).ns.length) (unc)) ((getV l).ns.length) (ndsX (getV l).ns) := hon5.mono b26.size
    have m156 : Fx.Own w26 w.heap.size 59 5 (.slice uga ((getV l).gs.length) (ugc)) ((getV l).gs.length) (grsX (getV l).gs) := hog5.mono b26.size
    refine Lv (.tuple #[.agg (Fx.varr 20 (stY (stS (getV l) una unc uga ugc))), .int .i64 (eu)]) (x_move rfl rfl) (Lv (.agg (Fx.varr 20 (stY (stS (getV l) una unc uga ugc)))) (Fx.x_extract rfl rfl rfl) (Lv (.int .i64 (eu)) (Fx.x_extract rfl rfl rfl) (Fx.L.new (m := 20) (y := fun zq => if zq < 12 then .bool false else if zq < 18 then .int .u64 (0) else .slice none 0 0) (by rfl) rfl (by kernel_rfl) rfl fun g10 w27 eg10 m157 s25 z12 => ?_)))
    have m158 := m148.stp s25 m148.ne
    have m161 := m151.stp s25 m151.ne
    have m162 := m152.stp s25 m152.ne
    have m163 := m153.stp s25 m153.ne
    have m164 := m154.stp s25 m154.ne
    have m165 := m155.stp s25 (m155.notNew (Nat.le_refl _))
    have m166 := m156.stp s25 (m156.notNew (Nat.le_refl _))
    have b28 := s25.below b27 b27.size b27.size
    have lg10 : w.heap.size ≤ g10 := by rw [eg10]; exact b27.size
    have ng10m158 : g1 ≠ g10 := by rw [eg10]; exact Nat.ne_of_lt (m148.lt)
    have ng10m161 : g2 ≠ g10 := by rw [eg10]; exact Nat.ne_of_lt (m151.lt)
    have ng10m162 : g6 ≠ g10 := by rw [eg10]; exact Nat.ne_of_lt (m152.lt)
    have ng10m163 : g7 ≠ g10 := by rw [eg10]; exact Nat.ne_of_lt (m153.lt)
    have ng10m164 : g9 ≠ g10 := by rw [eg10]; exact Nat.ne_of_lt (m154.lt)
    have tg10 : g10 < w27.heap.size := m157.lt
    clear eg10
    refine Fx.L.storeA (x := fun zq => if zq < 12 then .bool false else if zq < 18 then .int .u64 (0) else .slice none 0 0) (y := stY (stS (getV l) una unc uga ugc)) (by rfl) rfl rfl rfl rfl (fun j _ => stY_one _ j) (by kernel_rfl) m157 (i := 0) (by omega) fun w28 m167 s26 z13 => ?_
    have m168 : Fx.Blk w28 g10 20 (stY (stS (getV l) una unc uga ugc)) 29 := Fx.ovr_all m167
    have m169 := m158.stp s26 (by omega)
    have hct9 := Fx.ChT.of_stp s26 m157.ty
    have m172 := m161.stp s26 (by omega)
    have m173 := m162.stp s26 (by omega)
    have m174 := m163.stp s26 (by omega)
    have m175 := m164.stp s26 (by omega)
    have m176 := m165.chT hct9 (by decide)
    have m177 := m166.chT hct9 (by decide)
    have b29 := s26.below b28 b28.size (by omega)
    refine Lv (.int .i64 (eu)) (x_assign rfl rfl) (Ln (sN (Ws (Ws (Wl (Lv (.int .i64 (eu)) (x_move rfl rfl) ?_))))))
    by_cases c120 : eu = 0
    ·refine Lv (.bool false) (Fx.x_neqF rfl rfl rfl c120) (Ln (sN (Wc (b := false) rfl (fun h => nomatch h) (fun _ => Wk (sN (Ws ?_))))))
     -- region 18 draws
     refine Fx.W.reord [3, 0, 4, 1, 2, 5, 6, 7, 8, 9] [4, 2, 4, 0, 1, 0, 0, 3, 0, 0] Fx.Mk Fx.Mk.refl Fx.Mk.trans (certs := [(1, 0, [0]), (7, 0, [6, 1, 0]), (7, 4, [6, 5, 4]), (2, 1, [1]), (5, 1, [2, 1]), (6, 1, [1]), (7, 1, [6, 1]), (8, 1, [6, 1]), (9, 1, [1]), (7, 2, [6, 5, 2]), (8, 7, [7]), (9, 7, [7])]) (by kernel_rfl) (by kernel_rfl) (by kernel_rfl) (by kernel_rfl) (by kernel_rfl) fun wt2 hbwt2 hzwt2 => ?_
     have s27 : Fx.Stp w28.heap.size w28 wt2 := Sb hbwt2
     have m185 := m176.stp s27 (m176.notNew (Nat.le_refl _))
     have m186 := m177.stp s27 (m177.notNew (Nat.le_refl _))
     have m187 := m168.stp s27 m168.ne
     have b30 := s27.below b29 b29.size b29.size
     refine Rp (.slice ra (rn) (rc)) (fun v1 => x_move rfl rfl) (Fx.R.s (.agg (Fx.varr 20 (stY (stS (getV l) una unc uga ugc)))) (x_loadA (x := stY (stS (getV l) una unc uga ugc)) (y := stY (stS (getV l) una unc uga ugc)) rfl rfl (by kernel_rfl) (by kernel_rfl) m187.cel (i := 0) (by omega) (by omega) (fun j _ => by rw [Nat.zero_add])) ?_)
     refine Fx.R.read (v := .string (Fx.strL l)) (by rfl) (by rfl) (Fx.Mk.refl _) (fun v1 hv1 => Fx.x_bstr (l := l) rfl rfl Try.underlying30 Try.underlying5 Try.underlying9 hrn ((hb.up b30 rfl).up hv1 rfl)) ?_
     refine Fx.R.make (by rfl) ?_
     refine Fx.L.call (by rfl) (rC (args := [.agg (Fx.varr 20 (stY (stS (getV l) una unc uga ugc)))]) rfl rfl Try.func14 rfl rfl) rfl ((s_put (getV l) una unc uga ugc _ (get_w (l := l) rfl m185 m186)).mono ?_)
     rintro e9 w29 ⟨pa2, pc2, he, hm2, hb11⟩
     refine ⟨_, he, ?_⟩
     clear he
     have s28 := Sb hb11
     have b31 := s28.below b30 b30.size b30.size
     have m188 : Fx.Own w29 w.heap.size 5 1 (.slice pa2 ((putB (getV l)).length) (pc2)) ((putB (getV l)).length) (Fx.byY (putB (getV l))) := hm2.mono b30.size
     refine Ln ⟨s28.old, ?_⟩
     refine Fx.R.s (.string (Fx.strL (putB (getV l)))) (Fx.x_bstr (l := putB (getV l)) rfl rfl Try.underlying30 Try.underlying5 Try.underlying9 rfl m188.arr) ?_
     refine Rp (.bool true) (fun v1 => Fx.runs_b (Fx.x_eqlS rfl rfl rfl) (decide_eq_true (got_put (by rw [← heu]; exact c120)))) (Rp (.bool true) (fun v1 => x_move rfl rfl) (Fx.R.eff (by rfl) ?_))
     refine Fx.L.call (by rfl) (rC (args := []) rfl rfl Try.func7 rfl rfl) rfl ((s_works _).mono ?_)
     rintro e w30 ⟨he, hb12⟩
     refine ⟨.bool true, by rw [he], ?_⟩
     clear he
     have s29 := Sb hb12
     have b32 := s29.below b31 b31.size b31.size
     refine Ln (Rp (.bool true) (fun v1 => x_pickT rfl rfl rfl) (Rp (.bool true) (fun v1 => x_assign rfl rfl) (Fx.R.nil (sN (Wr (⟨.bool true, rV Try.results4 (by exact rfl), ?_⟩))))))
     exact ⟨rfl, b32⟩
    refine Lv (.bool true) (Fx.x_neqT rfl rfl rfl c120) (Ln (sN (Wc (b := true) rfl (fun _ => Ws (Wl (Lv (.int .i64 (eu)) (x_move rfl rfl) ?_))) (fun h => nomatch h))))
    refine Lv (.bool true) (x_eqlT rfl rfl rfl (by rw [heu]; exact getE_5 (by rw [← heu]; exact c120))) (Lv (.bool true) (x_move rfl rfl) (Lv (.agg (Fx.varr 20 (stY (stS (getV l) una unc uga ugc)))) (x_loadA (x := stY (stS (getV l) una unc uga ugc)) (y := stY (stS (getV l) una unc uga ugc)) rfl rfl (by kernel_rfl) (by kernel_rfl) m168.cel (i := 0) (by omega) (by omega) (fun j _ => by rw [Nat.zero_add])) (Lv (.agg (Fx.varr 20 (fun zq => if zq < 12 then .bool false else if zq < 18 then .int .u64 (0) else .slice none 0 0))) (x_build (vs := []) (places := #[(0, 6), (6, 6), (12, 6), (18, 1), (19, 1)]) (m := 20) (x := fun zq => if zq < 12 then .bool false else if zq < 18 then .int .u64 (0) else .slice none 0 0) rfl rfl Try.underlying29 (by kernel_rfl) (by kernel_rfl) (by rfl)) (Fx.L.call (by rfl) (rC (args := [.agg (Fx.varr 20 (stY (stS (getV l) una unc uga ugc))), .agg (Fx.varr 20 (fun zq => if zq < 12 then .bool false else if zq < 18 then .int .u64 (0) else .slice none 0 0))]) rfl rfl Try.func16 rfl rfl) rfl ((s_same0 (getV l) una unc uga ugc _ (fun j hj => match j, hj with | 0, _ => rfl | 1, _ => rfl | 2, _ => rfl | 3, _ => rfl | 4, _ => rfl | 5, _ => rfl | 6, _ => rfl | 7, _ => rfl | 8, _ => rfl | 9, _ => rfl | 10, _ => rfl | 11, _ => rfl | 12, _ => rfl | 13, _ => rfl | 14, _ => rfl | 15, _ => rfl | 16, _ => rfl | 17, _ => rfl | 18, _ => rfl | 19, _ => rfl | j + 20, h => absurd h (by omega)) _ (get_w (l := l) rfl m176 m177) (same_got (by rw [← heu]; exact c120))).mono ?_)))))
    rintro e w31 ⟨he, hb13⟩
    refine ⟨.bool true, by rw [he], ?_⟩
    clear he
    have s30 := Sb hb13
    have b33 := s30.below b29 b29.size b29.size
    refine Lv (.bool true) (x_pickT rfl rfl rfl) (Lv (.bool true) (x_move rfl rfl) (Fx.L.call (by rfl) (rC (args := []) rfl rfl Try.func7 rfl rfl) rfl ((s_works _).mono ?_)))
    rintro e w32 ⟨he, hb14⟩
    refine ⟨.bool true, by rw [he], ?_⟩
    clear he
    have s31 := Sb hb14
    have b34 := s31.below b33 b33.size b33.size
    refine Lv (.bool true) (x_pickT rfl rfl rfl) (Lv (.bool true) (x_assign rfl rfl) (Ln (sN (Wr (sR (⟨.bool true, rV Try.results4 (by exact rfl), ?_⟩))))))
    exact ⟨rfl, b34⟩
   refine Lv (.bool false) (x_eqlF rfl rfl rfl c109) (Lv (.int .u8 ((by9.toNat : Int))) (x_move rfl rfl) (Lv (.bool false) (x_eqlF rfl rfl rfl (fun h => c109 (ht4.2 h))) (Lv (.bool false) (Fx.x_neqB rfl rfl rfl (by kernel_rfl) rfl) (Lv (.bool false) (x_pickF rfl rfl rfl) (Ln (sN (Wc (b := false) rfl (fun h => nomatch h) (fun _ => Wk (sN (Ws (Wl (Lv (.slice ra (rn) (rc)) (x_move rfl rfl) (Fx.L.call (by rfl) (rC (args := [.slice ra (rn) (rc)]) rfl rfl Try.func10 rfl rfl) rfl ((s_getE ra rn rc l (getV l) eu _ rfl heu.symm hrn hrc (by omega) (hb.up b26 rfl)).mono ?_))))))))))))))
   rintro e9 w33 ⟨una, unc, uga, ugc, he, hon6, hog6, hb15⟩
   refine ⟨_, he, ?_⟩
   clear he
   have s32 := Sb hb15
   have m230 := m141.stp s32 m141.ne
   have m233 := m144.stp s32 m144.ne
   have m234 := m145.stp s32 m145.ne
   have m235 := m146.stp s32 m146.ne
   have m236 := m147.stp s32 m147.ne
   have b35 := s32.below b26 b26.size b26.size
   have m237 : Fx.Own w33 w.heap.size 50 56 (.slice una ((getV l).ns.length) (unc)) ((getV l).ns.length) (ndsX (getV l).ns) := hon6.mono b26.size
   have m238 : Fx.Own w33 w.heap.size 59 5 (.slice uga ((getV l).gs.length) (ugc)) ((getV l).gs.length) (grsX (getV l).gs) := hog6.mono b26.size
   refine Lv (.tuple #[.agg (Fx.varr 20 (stY (stS (getV l) una unc uga ugc))), .int .i64 (eu)]) (x_move rfl rfl) (Lv (.agg (Fx.varr 20 (stY (stS (getV l) una unc uga ugc)))) (Fx.x_extract rfl rfl rfl) (Lv (.int .i64 (eu)) (Fx.x_extract rfl rfl rfl) (Fx.L.new (m := 20) (y := fun zq => if zq < 12 then .bool false else if zq < 18 then .int .u64 (0) else .slice none 0 0) (by rfl) rfl (by kernel_rfl) rfl fun g11 w34 eg11 m239 s33 z14 => ?_)))
   have m240 := m230.stp s33 m230.ne
   have m243 := m233.stp s33 m233.ne
   have m244 := m234.stp s33 m234.ne
   have m245 := m235.stp s33 m235.ne
   have m246 := m236.stp s33 m236.ne
   have m247 := m237.stp s33 (m237.notNew (Nat.le_refl _))
   have m248 := m238.stp s33 (m238.notNew (Nat.le_refl _))
   have b36 := s33.below b35 b35.size b35.size
   have lg11 : w.heap.size ≤ g11 := by rw [eg11]; exact b35.size
   have ng11m240 : g1 ≠ g11 := by rw [eg11]; exact Nat.ne_of_lt (m230.lt)
   have ng11m243 : g2 ≠ g11 := by rw [eg11]; exact Nat.ne_of_lt (m233.lt)
   have ng11m244 : g6 ≠ g11 := by rw [eg11]; exact Nat.ne_of_lt (m234.lt)
   have ng11m245 : g7 ≠ g11 := by rw [eg11]; exact Nat.ne_of_lt (m235.lt)
   have ng11m246 : g9 ≠ g11 := by rw [eg11]; exact Nat.ne_of_lt (m236.lt)
   have tg11 : g11 < w34.heap.size := m239.lt
   clear eg11
   refine Fx.L.storeA (x := fun zq => if zq < 12 then .bool false else if zq < 18 then .int .u64 (0) else .slice none 0 0) (y := stY (stS (getV l) una unc uga ugc)) (by rfl) rfl rfl rfl rfl (fun j _ => stY_one _ j) (by kernel_rfl) m239 (i := 0) (by omega) fun w35 m249 s34 z15 => ?_
   have m250 : Fx.Blk w35 g11 20 (stY (stS (getV l) una unc uga ugc)) 29 := Fx.ovr_all m249
   have m251 := m240.stp s34 (by omega)
   have hct10 := Fx.ChT.of_stp s34 m239.ty
   have m254 := m243.stp s34 (by omega)
   have m255 := m244.stp s34 (by omega)
   have m256 := m245.stp s34 (by omega)
   have m257 := m246.stp s34 (by omega)
   have m258 := m247.chT hct10 (by decide)
   have m259 := m248.chT hct10 (by decide)
   have b37 := s34.below b36 b36.size (by omega)
   refine Lv (.int .i64 (eu)) (x_assign rfl rfl) (Ln (sN (Ws (Ws (Wl (Lv (.int .i64 (eu)) (x_move rfl rfl) ?_))))))
   by_cases c120 : eu = 0
   ·refine Lv (.bool false) (Fx.x_neqF rfl rfl rfl c120) (Ln (sN (Wc (b := false) rfl (fun h => nomatch h) (fun _ => Wk (sN (Ws ?_))))))
    -- region 18 draws
    refine Fx.W.reord [3, 0, 4, 1, 2, 5, 6, 7, 8, 9] [4, 2, 4, 0, 1, 0, 0, 3, 0, 0] Fx.Mk Fx.Mk.refl Fx.Mk.trans (certs := [(1, 0, [0]), (7, 0, [6, 1, 0]), (7, 4, [6, 5, 4]), (2, 1, [1]), (5, 1, [2, 1]), (6, 1, [1]), (7, 1, [6, 1]), (8, 1, [6, 1]), (9, 1, [1]), (7, 2, [6, 5, 2]), (8, 7, [7]), (9, 7, [7])]) (by kernel_rfl) (by kernel_rfl) (by kernel_rfl) (by kernel_rfl) (by kernel_rfl) fun wt3 hbwt3 hzwt3 => ?_
    have s35 : Fx.Stp w35.heap.size w35 wt3 := Sb hbwt3
    have m267 := m258.stp s35 (m258.notNew (Nat.le_refl _))
    have m268 := m259.stp s35 (m259.notNew (Nat.le_refl _))
    have m269 := m250.stp s35 m250.ne
    have b38 := s35.below b37 b37.size b37.size
    refine Rp (.slice ra (rn) (rc)) (fun v1 => x_move rfl rfl) (Fx.R.s (.agg (Fx.varr 20 (stY (stS (getV l) una unc uga ugc)))) (x_loadA (x := stY (stS (getV l) una unc uga ugc)) (y := stY (stS (getV l) una unc uga ugc)) rfl rfl (by kernel_rfl) (by kernel_rfl) m269.cel (i := 0) (by omega) (by omega) (fun j _ => by rw [Nat.zero_add])) ?_)
    refine Fx.R.read (v := .string (Fx.strL l)) (by rfl) (by rfl) (Fx.Mk.refl _) (fun v1 hv1 => Fx.x_bstr (l := l) rfl rfl Try.underlying30 Try.underlying5 Try.underlying9 hrn ((hb.up b38 rfl).up hv1 rfl)) ?_
    refine Fx.R.make (by rfl) ?_
    refine Fx.L.call (by rfl) (rC (args := [.agg (Fx.varr 20 (stY (stS (getV l) una unc uga ugc)))]) rfl rfl Try.func14 rfl rfl) rfl ((s_put (getV l) una unc uga ugc _ (get_w (l := l) rfl m267 m268)).mono ?_)
    rintro e9 w36 ⟨pa3, pc3, he, hm3, hb16⟩
    refine ⟨_, he, ?_⟩
    clear he
    have s36 := Sb hb16
    have b39 := s36.below b38 b38.size b38.size
    have m270 : Fx.Own w36 w.heap.size 5 1 (.slice pa3 ((putB (getV l)).length) (pc3)) ((putB (getV l)).length) (Fx.byY (putB (getV l))) := hm3.mono b38.size
    refine Ln ⟨s36.old, ?_⟩
    refine Fx.R.s (.string (Fx.strL (putB (getV l)))) (Fx.x_bstr (l := putB (getV l)) rfl rfl Try.underlying30 Try.underlying5 Try.underlying9 rfl m270.arr) ?_
    refine Rp (.bool true) (fun v1 => Fx.runs_b (Fx.x_eqlS rfl rfl rfl) (decide_eq_true (got_put (by rw [← heu]; exact c120)))) (Rp (.bool true) (fun v1 => x_move rfl rfl) (Fx.R.eff (by rfl) ?_))
    refine Fx.L.call (by rfl) (rC (args := []) rfl rfl Try.func7 rfl rfl) rfl ((s_works _).mono ?_)
    rintro e w37 ⟨he, hb17⟩
    refine ⟨.bool true, by rw [he], ?_⟩
    clear he
    have s37 := Sb hb17
    have b40 := s37.below b39 b39.size b39.size
    refine Ln (Rp (.bool true) (fun v1 => x_pickT rfl rfl rfl) (Rp (.bool true) (fun v1 => x_assign rfl rfl) (Fx.R.nil (sN (Wr (⟨.bool true, rV Try.results4 (by exact rfl), ?_⟩))))))
    exact ⟨rfl, b40⟩
   refine Lv (.bool true) (Fx.x_neqT rfl rfl rfl c120) (Ln (sN (Wc (b := true) rfl (fun _ => Ws (Wl (Lv (.int .i64 (eu)) (x_move rfl rfl) ?_))) (fun h => nomatch h))))
   refine Lv (.bool true) (x_eqlT rfl rfl rfl (by rw [heu]; exact getE_5 (by rw [← heu]; exact c120))) (Lv (.bool true) (x_move rfl rfl) (Lv (.agg (Fx.varr 20 (stY (stS (getV l) una unc uga ugc)))) (x_loadA (x := stY (stS (getV l) una unc uga ugc)) (y := stY (stS (getV l) una unc uga ugc)) rfl rfl (by kernel_rfl) (by kernel_rfl) m250.cel (i := 0) (by omega) (by omega) (fun j _ => by rw [Nat.zero_add])) (Lv (.agg (Fx.varr 20 (fun zq => if zq < 12 then .bool false else if zq < 18 then .int .u64 (0) else .slice none 0 0))) (x_build (vs := []) (places := #[(0, 6), (6, 6), (12, 6), (18, 1), (19, 1)]) (m := 20) (x := fun zq => if zq < 12 then .bool false else if zq < 18 then .int .u64 (0) else .slice none 0 0) rfl rfl Try.underlying29 (by kernel_rfl) (by kernel_rfl) (by rfl)) (Fx.L.call (by rfl) (rC (args := [.agg (Fx.varr 20 (stY (stS (getV l) una unc uga ugc))), .agg (Fx.varr 20 (fun zq => if zq < 12 then .bool false else if zq < 18 then .int .u64 (0) else .slice none 0 0))]) rfl rfl Try.func16 rfl rfl) rfl ((s_same0 (getV l) una unc uga ugc _ (fun j hj => match j, hj with | 0, _ => rfl | 1, _ => rfl | 2, _ => rfl | 3, _ => rfl | 4, _ => rfl | 5, _ => rfl | 6, _ => rfl | 7, _ => rfl | 8, _ => rfl | 9, _ => rfl | 10, _ => rfl | 11, _ => rfl | 12, _ => rfl | 13, _ => rfl | 14, _ => rfl | 15, _ => rfl | 16, _ => rfl | 17, _ => rfl | 18, _ => rfl | 19, _ => rfl | j + 20, h => absurd h (by omega)) _ (get_w (l := l) rfl m258 m259) (same_got (by rw [← heu]; exact c120))).mono ?_)))))
   rintro e w38 ⟨he, hb18⟩
   refine ⟨.bool true, by rw [he], ?_⟩
   clear he
   have s38 := Sb hb18
   have b41 := s38.below b37 b37.size b37.size
   refine Lv (.bool true) (x_pickT rfl rfl rfl) (Lv (.bool true) (x_move rfl rfl) (Fx.L.call (by rfl) (rC (args := []) rfl rfl Try.func7 rfl rfl) rfl ((s_works _).mono ?_)))
   rintro e w39 ⟨he, hb19⟩
   refine ⟨.bool true, by rw [he], ?_⟩
   clear he
   have s39 := Sb hb19
   have b42 := s39.below b41 b41.size b41.size
   refine Lv (.bool true) (x_pickT rfl rfl rfl) (Lv (.bool true) (x_assign rfl rfl) (Ln (sN (Wr (sR (⟨.bool true, rV Try.results4 (by exact rfl), ?_⟩))))))
   exact ⟨rfl, b42⟩
  rw [Bool.not_eq_true] at c33
  refine Fx.L.call (by rfl) (rC (args := [.agg (Fx.varr 20 (stY (stS m na nc ga gc)))]) rfl rfl Try.func12 rfl rfl) rfl ((s_may m na nc ga gc _ hm.r.k hm.l1 hm.l2 (hm.up b4).n (hm.up b4).g).mono ?_)
  rintro e w40 ⟨he, hb20⟩
  refine ⟨.bool false, by rw [he, c33], ?_⟩
  clear he
  have s40 := Sb hb20
  have m312 := m5.stp s40 m5.ne
  have b43 := s40.below b4 b4.size b4.size
  refine Lv (.slice pa1 ((putB m).length) (pc1)) (x_move rfl rfl) (Lv (.int .i64 ((((putB m).length : Nat) : Int))) (x_len rfl rfl rfl (by kernel_rfl)) (Lv (.bool false) (x_gtrF rfl rfl rfl (by rw [putB_n c33]; simp)) (Lv (.bool false) (Fx.x_neqB rfl rfl rfl (by kernel_rfl) rfl) (Ln (sN (Wc (b := false) rfl (fun h => nomatch h) (fun _ => Wk (sN (Ws (Ws (Wl (Lv (.slice pa1 ((putB m).length) (pc1)) (x_move rfl rfl) (Lv (.int .i64 ((((putB m).length : Nat) : Int))) (x_len rfl rfl rfl (by kernel_rfl)) (Lv (.bool false) (x_gtrF rfl rfl rfl (by rw [putB_n c33]; simp)) (Ln (sN (Wc (b := false) rfl (fun h => nomatch h) (fun _ => Wk (sN (Ws (Wl (Lv (.slice ra (rn) (rc)) (x_move rfl rfl) (Fx.L.call (by rfl) (rC (args := [.slice ra (rn) (rc)]) rfl rfl Try.func10 rfl rfl) rfl ((s_getE ra rn rc l (getV l) eu _ rfl heu.symm hrn hrc (by omega) (hb.up b43 rfl)).mono ?_))))))))))))))))))))))))
  rintro e9 w41 ⟨una, unc, uga, ugc, he, hon7, hog7, hb21⟩
  refine ⟨_, he, ?_⟩
  clear he
  have s41 := Sb hb21
  have m314 := m312.stp s41 m312.ne
  have b44 := s41.below b43 b43.size b43.size
  have m316 : Fx.Own w41 w.heap.size 50 56 (.slice una ((getV l).ns.length) (unc)) ((getV l).ns.length) (ndsX (getV l).ns) := hon7.mono b43.size
  have m317 : Fx.Own w41 w.heap.size 59 5 (.slice uga ((getV l).gs.length) (ugc)) ((getV l).gs.length) (grsX (getV l).gs) := hog7.mono b43.size
  refine Lv (.tuple #[.agg (Fx.varr 20 (stY (stS (getV l) una unc uga ugc))), .int .i64 (eu)]) (x_move rfl rfl) (Lv (.agg (Fx.varr 20 (stY (stS (getV l) una unc uga ugc)))) (Fx.x_extract rfl rfl rfl) (Lv (.int .i64 (eu)) (Fx.x_extract rfl rfl rfl) (Fx.L.new (m := 20) (y := fun zq => if zq < 12 then .bool false else if zq < 18 then .int .u64 (0) else .slice none 0 0) (by rfl) rfl (by kernel_rfl) rfl fun g12 w42 eg12 m318 s42 z16 => ?_)))
  have m319 := m314.stp s42 m314.ne
  have m321 := m316.stp s42 (m316.notNew (Nat.le_refl _))
  have m322 := m317.stp s42 (m317.notNew (Nat.le_refl _))
  have b45 := s42.below b44 b44.size b44.size
  have lg12 : w.heap.size ≤ g12 := by rw [eg12]; exact b44.size
  have ng12m319 : g1 ≠ g12 := by rw [eg12]; exact Nat.ne_of_lt (m314.lt)
  have tg12 : g12 < w42.heap.size := m318.lt
  clear eg12
  refine Fx.L.storeA (x := fun zq => if zq < 12 then .bool false else if zq < 18 then .int .u64 (0) else .slice none 0 0) (y := stY (stS (getV l) una unc uga ugc)) (by rfl) rfl rfl rfl rfl (fun j _ => stY_one _ j) (by kernel_rfl) m318 (i := 0) (by omega) fun w43 m323 s43 z17 => ?_
  have m324 : Fx.Blk w43 g12 20 (stY (stS (getV l) una unc uga ugc)) 29 := Fx.ovr_all m323
  have m325 := m319.stp s43 (by omega)
  have hct11 := Fx.ChT.of_stp s43 m318.ty
  have m327 := m321.chT hct11 (by decide)
  have m328 := m322.chT hct11 (by decide)
  have b46 := s43.below b45 b45.size (by omega)
  refine Lv (.int .i64 (eu)) (x_assign rfl rfl) (Ln (sN (Ws (Ws (Wl (Lv (.int .i64 (eu)) (x_move rfl rfl) ?_))))))
  by_cases c120 : eu = 0
  ·refine Lv (.bool false) (Fx.x_neqF rfl rfl rfl c120) (Ln (sN (Wc (b := false) rfl (fun h => nomatch h) (fun _ => Wk (sN (Ws ?_))))))
   -- region 18 draws
   refine Fx.W.reord [3, 0, 4, 1, 2, 5, 6, 7, 8, 9] [4, 2, 4, 0, 1, 0, 0, 3, 0, 0] Fx.Mk Fx.Mk.refl Fx.Mk.trans (certs := [(1, 0, [0]), (7, 0, [6, 1, 0]), (7, 4, [6, 5, 4]), (2, 1, [1]), (5, 1, [2, 1]), (6, 1, [1]), (7, 1, [6, 1]), (8, 1, [6, 1]), (9, 1, [1]), (7, 2, [6, 5, 2]), (8, 7, [7]), (9, 7, [7])]) (by kernel_rfl) (by kernel_rfl) (by kernel_rfl) (by kernel_rfl) (by kernel_rfl) fun wt4 hbwt4 hzwt4 => ?_
   have s44 : Fx.Stp w43.heap.size w43 wt4 := Sb hbwt4
   have m331 := m327.stp s44 (m327.notNew (Nat.le_refl _))
   have m332 := m328.stp s44 (m328.notNew (Nat.le_refl _))
   have m333 := m324.stp s44 m324.ne
   have b47 := s44.below b46 b46.size b46.size
   refine Rp (.slice ra (rn) (rc)) (fun v1 => x_move rfl rfl) (Fx.R.s (.agg (Fx.varr 20 (stY (stS (getV l) una unc uga ugc)))) (x_loadA (x := stY (stS (getV l) una unc uga ugc)) (y := stY (stS (getV l) una unc uga ugc)) rfl rfl (by kernel_rfl) (by kernel_rfl) m333.cel (i := 0) (by omega) (by omega) (fun j _ => by rw [Nat.zero_add])) ?_)
   refine Fx.R.read (v := .string (Fx.strL l)) (by rfl) (by rfl) (Fx.Mk.refl _) (fun v1 hv1 => Fx.x_bstr (l := l) rfl rfl Try.underlying30 Try.underlying5 Try.underlying9 hrn ((hb.up b47 rfl).up hv1 rfl)) ?_
   refine Fx.R.make (by rfl) ?_
   refine Fx.L.call (by rfl) (rC (args := [.agg (Fx.varr 20 (stY (stS (getV l) una unc uga ugc)))]) rfl rfl Try.func14 rfl rfl) rfl ((s_put (getV l) una unc uga ugc _ (get_w (l := l) rfl m331 m332)).mono ?_)
   rintro e9 w44 ⟨pa4, pc4, he, hm4, hb22⟩
   refine ⟨_, he, ?_⟩
   clear he
   have s45 := Sb hb22
   have b48 := s45.below b47 b47.size b47.size
   have m334 : Fx.Own w44 w.heap.size 5 1 (.slice pa4 ((putB (getV l)).length) (pc4)) ((putB (getV l)).length) (Fx.byY (putB (getV l))) := hm4.mono b47.size
   refine Ln ⟨s45.old, ?_⟩
   refine Fx.R.s (.string (Fx.strL (putB (getV l)))) (Fx.x_bstr (l := putB (getV l)) rfl rfl Try.underlying30 Try.underlying5 Try.underlying9 rfl m334.arr) ?_
   refine Rp (.bool true) (fun v1 => Fx.runs_b (Fx.x_eqlS rfl rfl rfl) (decide_eq_true (got_put (by rw [← heu]; exact c120)))) (Rp (.bool true) (fun v1 => x_move rfl rfl) (Fx.R.eff (by rfl) ?_))
   refine Fx.L.call (by rfl) (rC (args := []) rfl rfl Try.func7 rfl rfl) rfl ((s_works _).mono ?_)
   rintro e w45 ⟨he, hb23⟩
   refine ⟨.bool true, by rw [he], ?_⟩
   clear he
   have s46 := Sb hb23
   have b49 := s46.below b48 b48.size b48.size
   refine Ln (Rp (.bool true) (fun v1 => x_pickT rfl rfl rfl) (Rp (.bool true) (fun v1 => x_assign rfl rfl) (Fx.R.nil (sN (Wr (⟨.bool true, rV Try.results4 (by exact rfl), ?_⟩))))))
   exact ⟨rfl, b49⟩
  refine Lv (.bool true) (Fx.x_neqT rfl rfl rfl c120) (Ln (sN (Wc (b := true) rfl (fun _ => Ws (Wl (Lv (.int .i64 (eu)) (x_move rfl rfl) ?_))) (fun h => nomatch h))))
  refine Lv (.bool true) (x_eqlT rfl rfl rfl (by rw [heu]; exact getE_5 (by rw [← heu]; exact c120))) (Lv (.bool true) (x_move rfl rfl) (Lv (.agg (Fx.varr 20 (stY (stS (getV l) una unc uga ugc)))) (x_loadA (x := stY (stS (getV l) una unc uga ugc)) (y := stY (stS (getV l) una unc uga ugc)) rfl rfl (by kernel_rfl) (by kernel_rfl) m324.cel (i := 0) (by omega) (by omega) (fun j _ => by rw [Nat.zero_add])) (Lv (.agg (Fx.varr 20 (fun zq => if zq < 12 then .bool false else if zq < 18 then .int .u64 (0) else .slice none 0 0))) (x_build (vs := []) (places := #[(0, 6), (6, 6), (12, 6), (18, 1), (19, 1)]) (m := 20) (x := fun zq => if zq < 12 then .bool false else if zq < 18 then .int .u64 (0) else .slice none 0 0) rfl rfl Try.underlying29 (by kernel_rfl) (by kernel_rfl) (by rfl)) (Fx.L.call (by rfl) (rC (args := [.agg (Fx.varr 20 (stY (stS (getV l) una unc uga ugc))), .agg (Fx.varr 20 (fun zq => if zq < 12 then .bool false else if zq < 18 then .int .u64 (0) else .slice none 0 0))]) rfl rfl Try.func16 rfl rfl) rfl ((s_same0 (getV l) una unc uga ugc _ (fun j hj => match j, hj with | 0, _ => rfl | 1, _ => rfl | 2, _ => rfl | 3, _ => rfl | 4, _ => rfl | 5, _ => rfl | 6, _ => rfl | 7, _ => rfl | 8, _ => rfl | 9, _ => rfl | 10, _ => rfl | 11, _ => rfl | 12, _ => rfl | 13, _ => rfl | 14, _ => rfl | 15, _ => rfl | 16, _ => rfl | 17, _ => rfl | 18, _ => rfl | 19, _ => rfl | j + 20, h => absurd h (by omega)) _ (get_w (l := l) rfl m327 m328) (same_got (by rw [← heu]; exact c120))).mono ?_)))))
  rintro e w46 ⟨he, hb24⟩
  refine ⟨.bool true, by rw [he], ?_⟩
  clear he
  have s47 := Sb hb24
  have b50 := s47.below b46 b46.size b46.size
  refine Lv (.bool true) (x_pickT rfl rfl rfl) (Lv (.bool true) (x_move rfl rfl) (Fx.L.call (by rfl) (rC (args := []) rfl rfl Try.func7 rfl rfl) rfl ((s_works _).mono ?_)))
  rintro e w47 ⟨he, hb25⟩
  refine ⟨.bool true, by rw [he], ?_⟩
  clear he
  have s48 := Sb hb25
  have b51 := s48.below b50 b50.size b50.size
  refine Lv (.bool true) (x_pickT rfl rfl rfl) (Lv (.bool true) (x_assign rfl rfl) (Ln (sN (Wr (sR (⟨.bool true, rV Try.results4 (by exact rfl), ?_⟩))))))
  exact ⟨rfl, b51⟩
 rw [Bool.not_eq_true] at c22
 refine Fx.L.call (by rfl) (rC (args := [.agg (Fx.varr 20 (stY (stS m na nc ga gc)))]) rfl rfl Try.func6 rfl rfl) rfl ((s_few m na nc ga gc _).mono ?_)
 rintro e w48 ⟨he, hb26⟩
 refine ⟨.bool false, by rw [he, c22], ?_⟩
 clear he
 have s49 := Sb hb26
 have b52 := s49.below b1 b1.size b1.size
 refine Lv (.bool true) (Fx.x_notT rfl rfl) (Lv (.bool true) (x_move rfl rfl) (Lk (by rfl) rfl (Lk (by rfl) rfl (Lk (by rfl) rfl (Lv (.bool true) (x_pickT rfl rfl rfl) (Ln (sN (Wc (b := true) rfl (fun _ => Ws (Wl (Fx.L.call (by rfl) (rC (args := []) rfl rfl Try.func7 rfl rfl) rfl ((s_works _).mono ?_)))) (fun h => nomatch h)))))))))
 rintro e w49 ⟨he, hb27⟩
 refine ⟨.bool true, by rw [he], ?_⟩
 clear he
 have s50 := Sb hb27
 have b53 := s50.below b52 b52.size b52.size
 refine Lv (.bool true) (x_assign rfl rfl) (Ln (sN (Wr (sR (⟨.bool true, rV Try.results4 (by exact rfl), ?_⟩)))))
 exact ⟨rfl, b53⟩
end Go.Proofs.Ytcbedgfikejkoaa
namespace Go.Proofs.Ytcbedgfikejkoaa
open Go.RowKit Go.WideShapes Go.ChangeShapes Go.Deep
theorem spotless1 {w : World} {x : Addr} {v : Value} (h : w.cell? x = some v) : ∃ b off, x = ⟨b, off, none⟩ := by
  obtain ⟨b, off, spot⟩ := x
  cases spot with
  | none => exact ⟨b, off, rfl⟩
  | some q =>
    unfold World.cell? at h
    simp at h
    split at h <;> cases h
def At4 (k0 k1 k2 k3 : IntKind) (w : World) (b off : Nat) (x0 x1 x2 x3 : Int) : Prop :=
  w.cell? ⟨b, off, none⟩ = some (.int k0 x0) ∧ w.cell? ⟨b, off + 1, none⟩ = some (.int k1 x1) ∧ w.cell? ⟨b, off + 2, none⟩ = some (.int k2 x2) ∧ w.cell? ⟨b, off + 3, none⟩ = some (.int k3 x3)
def Wf4 (k0 k1 k2 k3 : IntKind) (x0 x1 x2 x3 : Int) : Prop := (Lit.int k0 x0).wf = true ∧ (Lit.int k1 x1).wf = true ∧ (Lit.int k2 x2).wf = true ∧ (Lit.int k3 x3).wf = true
def Sl4 (k0 k1 k2 k3 : IntKind) (w : World) (a : Option Addr) (len : Nat) (X0 X1 X2 X3 : Nat → Int) : Prop :=
  ∀ i, i < len → (∃ b off, a = some ⟨b, off, none⟩ ∧ At4 k0 k1 k2 k3 w b (off + i * 4) (X0 i) (X1 i) (X2 i) (X3 i)) ∧ Wf4 k0 k1 k2 k3 (X0 i) (X1 i) (X2 i) (X3 i)
theorem Sl4.up {k0 k1 k2 k3 : IntKind} {w w' : World} {a : Option Addr} {len : Nat} {X0 X1 X2 X3 : Nat → Int} (h : Sl4 k0 k1 k2 k3 w a len X0 X1 X2 X3) (hb : Below w.heap.size w w') : Sl4 k0 k1 k2 k3 w' a len X0 X1 X2 X3 := by
  intro i hi
  obtain ⟨⟨b, off, e, q0, q1, q2, q3⟩, hw⟩ := h i hi
  have hlt := block_lt_of_cell q0
  dsimp only at hlt
  exact ⟨⟨b, off, e, (hb.cell (p := ⟨b, off + i * 4, none⟩) hlt).trans q0, (hb.cell (p := ⟨b, off + i * 4 + 1, none⟩) hlt).trans q1, (hb.cell (p := ⟨b, off + i * 4 + 2, none⟩) hlt).trans q2, (hb.cell (p := ⟨b, off + i * 4 + 3, none⟩) hlt).trans q3⟩, hw⟩
end Go.Proofs.Ytcbedgfikejkoaa
namespace Go.Proofs.Ytcbedgfikejkoaa
open Go.RowKit Go.WideShapes Go.ChangeShapes Go.Deep
def flatKb (P : Program) : Nat → TypeId → Option (List (Option IntKind))
  | 0, _ => none
  | d + 1, t => match P.underlying t with
    | some (.int k) => some [some k]
    | some .bool => some [none]
    | some (.array n e) => (flatKb P d e).bind fun ks => if P.cellsOf e = ks.length ∧ P.cellsOf t = n * ks.length then some (List.replicate n ks).flatten else none
    | some (.struct fs) => (fs.toList.foldlM (fun l f => (flatKb P d f.type).bind fun ks => if f.offset = l.length ∧ P.cellsOf f.type = ks.length then some (l ++ ks) else none) []).bind fun l => if P.cellsOf t = l.length then some l else none
    | _ => none
def OkV (k : Option IntKind) (v : Value) : Prop := match k with | some k => ∃ n, v = .int k n ∧ (Lit.int k n).wf = true | none => ∃ b, v = .bool b
def FlatV (ks : List (Option IntKind)) (cs : List Value) : Prop := cs.length = ks.length ∧ ∀ (j : Nat) (k : Option IntKind), ks[j]? = some k → ∃ v, cs[j]? = some v ∧ OkV k v
theorem flatb_rep {ks : List (Option IntKind)} {k : Option IntKind} : ∀ (n j : Nat), (List.replicate n ks).flatten[j]? = some k → ks[j % ks.length]? = some k ∧ j / ks.length < n
  | 0, j, h => by simp at h
  | n + 1, j, h => by
    rw [List.replicate_succ, List.flatten_cons] at h
    by_cases hj : j < ks.length
    · rw [List.getElem?_append_left hj] at h
      rw [Nat.mod_eq_of_lt hj, Nat.div_eq_of_lt hj]; exact ⟨h, by omega⟩
    · rw [List.getElem?_append_right (by omega)] at h
      have hs : 0 < ks.length := by
        rcases Nat.eq_zero_or_pos ks.length with e | e
        · obtain ⟨h1, _⟩ := flatb_rep n _ h
          have := (List.getElem?_eq_some_iff.1 h1).1; omega
        · exact e
      obtain ⟨h1, h2⟩ := flatb_rep n _ h
      rw [Nat.mod_eq_sub_mod (by omega), Nat.div_eq_sub_div hs (by omega)]
      exact ⟨h1, by omega⟩
section
variable {H : Type} {enc : TypeId × Value → H} {P : Program} {w : World} {base : Nat} {spare : Nat → Bool} {held : Bool}
theorem flatb_part {ks : List (Option IntKind)} {cs : List Value} {o s j : Nat} {k : Option IntKind} (h : FlatV ks ((cs.drop o).take s)) (hs : s = ks.length) (hk : ks[j]? = some k) : ∃ v, cs[o + j]? = some v ∧ OkV k v := by
  obtain ⟨n, h1, h2⟩ := h.2 j k hk
  have hj := (List.getElem?_eq_some_iff.1 hk).1
  rw [List.getElem?_take_of_lt (by omega), List.getElem?_drop] at h1
  exact ⟨n, h1, h2⟩
theorem flatKb_ok : ∀ (d : Nat) (t : TypeId) (ks : List (Option IntKind)), flatKb P d t = some ks → ∀ (fuel : Nat) (cs : List Value) (x : DataW H × List MemPlace), DataW.trod enc P w base spare held fuel t cs = some x → FlatV ks cs
  | 0, _, _, h => by simp [flatKb] at h
  | d + 1, t, ks, h => by
    intro fuel cs x hx
    unfold flatKb at h
    split at h
    · rename_i k hu
      simp only [Option.some.injEq] at h; subst h
      obtain ⟨n, rfl, _, hw⟩ := DataW.trod_int hu hx
      refine ⟨rfl, fun j k' hk => ?_⟩
      match j, hk with
      | 0, hk => simp at hk; subst hk; exact ⟨_, rfl, n, rfl, hw⟩
      | j + 1, hk => simp at hk
    · rename_i hu
      simp only [Option.some.injEq] at h; subst h
      obtain ⟨b, rfl, _⟩ := DataW.trod_bool hu hx
      refine ⟨rfl, fun j k' hk => ?_⟩
      match j, hk with
      | 0, hk => simp at hk; subst hk; exact ⟨_, rfl, b, rfl⟩
      | j + 1, hk => simp at hk
    · rename_i n e hu
      obtain ⟨ks', hks, h⟩ := Option.bind_eq_some_iff.1 h
      split at h
      · rename_i hc
        simp only [Option.some.injEq] at h; subst h
        obtain ⟨xs, m, _, _, hl, hlen, hel⟩ := DataW.trod_array hu hx
        refine ⟨by rw [hl, hc.2]; simp, fun j k hk => ?_⟩
        obtain ⟨h1, h2⟩ := flatb_rep n j hk
        have hi := hel (j / ks'.length) h2
        rw [List.getElem?_eq_getElem (by omega), hc.1] at hi
        have := flatb_part (flatKb_ok d e ks' hks _ _ _ hi) rfl h1
        rw [Nat.mul_comm, Nat.div_add_mod] at this
        exact this
      · cases h
    · rename_i fs hu
      obtain ⟨l, hl, h⟩ := Option.bind_eq_some_iff.1 h
      split at h
      · rename_i hc
        simp only [Option.some.injEq] at h; subst h
        obtain ⟨xs, m, _, _, hlc, hlen, hf⟩ := DataW.trod_struct hu hx
        refine ⟨by rw [hlc, hc], ?_⟩
        have hf' : ∀ f, f ∈ fs.toList → ∃ y, DataW.trod enc P w base spare held m f.type ((cs.drop f.offset).take (P.cellsOf f.type)) = some y := by
          intro f hfm
          obtain ⟨i, hi, e⟩ := List.mem_iff_getElem.1 hfm
          have hi' : i < fs.size := by simpa using hi
          have h1 : fs[i]? = some f := by rw [Array.getElem?_eq_getElem hi']; simpa using e
          have := hf i f h1
          rw [List.getElem?_eq_getElem (by rw [hlen]; exact hi')] at this
          exact ⟨_, this⟩
        have key : ∀ (L : List Field) (acc : List (Option IntKind)), (∀ f, f ∈ L → ∃ y, DataW.trod enc P w base spare held m f.type ((cs.drop f.offset).take (P.cellsOf f.type)) = some y) → (∀ (j : Nat) (k : Option IntKind), acc[j]? = some k → ∃ v, cs[j]? = some v ∧ OkV k v) → ∀ l, L.foldlM (fun l f => (flatKb P d f.type).bind fun ks => if f.offset = l.length ∧ P.cellsOf f.type = ks.length then some (l ++ ks) else none) acc = some l → ∀ (j : Nat) (k : Option IntKind), l[j]? = some k → ∃ v, cs[j]? = some v ∧ OkV k v := by
          intro L
          induction L with
          | nil => intro acc _ ha l hl; simp at hl; subst hl; exact ha
          | cons f L ih =>
            intro acc hL ha l hl
            rw [List.foldlM_cons] at hl
            obtain ⟨l1, h1, h2⟩ := Option.bind_eq_some_iff.1 hl
            obtain ⟨kf, hkf, h3⟩ := Option.bind_eq_some_iff.1 h1
            split at h3
            · rename_i hcc
              simp only [Option.some.injEq] at h3; subst h3
              refine ih (acc ++ kf) (fun g hg => hL g (List.mem_cons_of_mem _ hg)) (fun j k hk => ?_) l h2
              by_cases hj : j < acc.length
              · rw [List.getElem?_append_left hj] at hk; exact ha j k hk
              · rw [List.getElem?_append_right (by omega)] at hk
                obtain ⟨y, hy⟩ := hL f (List.mem_cons_self ..)
                have := flatb_part (flatKb_ok d f.type kf hkf _ _ _ hy) hcc.2 hk
                rw [hcc.1, show acc.length + (j - acc.length) = j by omega] at this
                exact this
            · cases h3
        exact key fs.toList [] hf' (fun j k hk => by simp at hk) l hl
      · cases h
    · cases h
end
section
variable {H : Type} {enc : TypeId × Value → H} {P : Program} {w : World} {base : Nat} {spare : Nat → Bool} {held : Bool}
theorem open_rows {t e : TypeId} {ks : List (Option IntKind)} {fuel D : Nat} {cs : List Value} {x : DataW H × List MemPlace} (ht : P.underlying t = some (.slice e)) (hk : flatKb P D e = some ks) (ce : P.cellsOf e = ks.length) (hs : 0 < ks.length)
    (h : DataW.trod enc P w base spare held fuel t cs = some x) : ∃ a len cap, cs = [.slice a len cap] ∧ len ≤ maxLen ∧ len ≤ cap ∧ ∃ X : Nat → Nat → Value, (∀ i, i < len → ∀ (j : Nat) (k : Option IntKind), ks[j]? = some k → OkV k (X i j)) ∧ Fx.Arr w a len ks.length (Fx.flat ks.length X) := by
  rcases open_slice ht h with ⟨rfl, _⟩ | ⟨a', len, cap, m, n, D', Pl, rfl, _, hl, hm, hmm, _, hx⟩
  · exact ⟨none, 0, 0, rfl, by unfold maxLen; omega, Nat.le_refl _, fun _ _ => undef, fun i hi => absurd hi (by omega), fun h => absurd h (by omega)⟩
  have hlm : len ≤ m := by rw [hmm]; split <;> omega
  have each : ∀ i j : Nat, ∃ q : Value, i < len → ∀ k, ks[j]? = some k → w.cell? (a'.add (i * ks.length + j)) = some q ∧ OkV k q := by
    intro i j
    by_cases hi : i < len ∧ j < ks.length
    · obtain ⟨cs', g1, g2⟩ := hx i (by omega)
      rw [ce] at g1
      obtain ⟨_, hlen, hcell⟩ := World.cells?_some g1
      obtain ⟨q, h1, h2⟩ := (flatKb_ok _ _ _ hk _ _ _ g2).2 j _ (List.getElem?_eq_getElem hi.2)
      refine ⟨q, fun _ k hkj => ?_⟩
      rw [List.getElem?_eq_getElem hi.2, Option.some.injEq] at hkj
      subst hkj
      have q0 := hcell j (by omega)
      rw [add_add] at q0
      exact ⟨by rw [← h1]; simpa using q0, h2⟩
    · refine ⟨undef, fun h1 k h2 => absurd ⟨h1, (List.getElem?_eq_some_iff.1 h2).1⟩ hi⟩
  refine ⟨some a', len, cap, rfl, by omega, hl, fun i j => Classical.choose (each i j), fun i hi j k hkj => (Classical.choose_spec (each i j) hi k hkj).2, fun h0 => ?_⟩
  have e0 : a'.add (0 * ks.length + 0) = a' := by unfold Addr.add; simp
  obtain ⟨q00, h00⟩ := each 0 0
  have hk0 := List.getElem?_eq_getElem hs
  have h00' := (h00 h0 _ hk0)
  have h01 := h00'.1
  rw [e0] at h01
  have e1 : ∃ b off, a' = ⟨b, off, none⟩ := by
    have h02 := h00'.2
    unfold OkV at h02
    split at h02
    · obtain ⟨nn, rfl, _⟩ := h02; exact spotless1 h01
    · obtain ⟨bb, rfl⟩ := h02
      unfold World.cell? at h01
      cases a' with
      | mk b off sp =>
        cases sp with
        | none => exact ⟨b, off, rfl⟩
        | some s => simp at h01; split at h01 <;> simp_all
  obtain ⟨b, off, e1⟩ := e1
  refine ⟨b, off, by rw [e1], fun p hp => ?_⟩
  have hj : p % ks.length < ks.length := Nat.mod_lt _ hs
  have hi : p / ks.length < len := Nat.div_lt_of_lt_mul (by rw [Nat.mul_comm]; exact hp)
  have := (Classical.choose_spec (each (p / ks.length) (p % ks.length)) hi _ (List.getElem?_eq_getElem hj)).1
  have ea : a'.add (p / ks.length * ks.length + p % ks.length) = ⟨b, off + p, none⟩ := by rw [e1, addr_add, Nat.mul_comm, Nat.div_add_mod]
  exact (congrArg w.cell? ea).symm.trans this
end
end Go.Proofs.Ytcbedgfikejkoaa
namespace Go.Proofs.Ytcbedgfikejkoaa
open Go.RowKit Go.WideShapes Go.ChangeShapes Go.Deep Rt
set_option linter.unusedVariables false
def boolOf : Value → Bool | .bool b => b | _ => false
theorem OkV.int {k : IntKind} {v : Value} (h : OkV (some k) v) : v = .int k (intOf v) ∧ (Lit.int k (intOf v)).wf = true := by
  obtain ⟨n, rfl, hw⟩ := h; exact ⟨rfl, hw⟩
theorem OkV.bool {v : Value} (h : OkV none v) : v = .bool (boolOf v) := by
  obtain ⟨b, rfl⟩ := h; rfl
theorem wf_u8 {n : Int} (h : (Lit.int .u8 n).wf = true) : 0 ≤ n ∧ n ≤ 255 := by simp [Lit.wf, IntKind.min, IntKind.max, IntKind.bits, IntKind.signed] at h; omega
theorem wf_u16 {n : Int} (h : (Lit.int .u16 n).wf = true) : 0 ≤ n ∧ n ≤ 65535 := by simp [Lit.wf, IntKind.min, IntKind.max, IntKind.bits, IntKind.signed] at h; omega
theorem wf_u64 {n : Int} (h : (Lit.int .u64 n).wf = true) : U64r n := by simp [Lit.wf, IntKind.min, IntKind.max, IntKind.bits, IntKind.signed] at h; unfold U64r; omega
theorem wf_64 {n : Int} (h : (Lit.int .i64 n).wf = true) : I64r n := by simp [Lit.wf, IntKind.min, IntKind.max, IntKind.bits, IntKind.signed] at h; unfold I64r; omega
theorem nat_u16 {n : Int} (h : (Lit.int .u16 n).wf = true) : ∃ m : Nat, n = (m : Int) ∧ m ≤ 65535 := by
  have := wf_u16 h; exact ⟨n.toNat, by omega, by omega⟩
theorem Fx.Arr.congr {w : World} {a : Option Addr} {n s : Nat} {x y : Nat → Value} (h : Fx.Arr w a n s x) (e : ∀ p, p < n * s → x p = y p) : Fx.Arr w a n s y := fun h0 => by
  obtain ⟨b, off, ea, hc⟩ := h h0
  exact ⟨b, off, ea, fun i hi => by rw [← e i hi]; exact hc i hi⟩
section
variable {H : Type} {enc : TypeId × Value → H} {P : Program} {w : World}
def ndKs : List (Option IntKind) := some .u64 :: some .u64 :: List.replicate 54 (some .i64)
def grKs : List (Option IntKind) := [some .i64, some .u64, some .u64, some .i64, some .u64]
theorem nd_ok {X : Nat → Value} (h : ∀ (j : Nat) (k : Option IntKind), ndKs[j]? = some k → OkV k (X j)) : (U64r (intOf (X 0)) ∧ U64r (intOf (X 1)) ∧ ∀ p, p < 54 → I64r (intOf (X (p + 2)))) ∧ ∀ j, j < 56 → X j = ndY (intOf (X 0)) (intOf (X 1)) (fun p => intOf (X (p + 2))) j := by
  have h0 := (h 0 (some .u64) rfl).int
  have h1 := (h 1 (some .u64) rfl).int
  have hp : ∀ p, p < 54 → X (p + 2) = .int .i64 (intOf (X (p + 2))) ∧ _ := fun p hp => (h (p + 2) (some .i64) (by show (List.replicate 54 (some IntKind.i64))[p]? = _; rw [List.getElem?_replicate, if_pos hp])).int
  refine ⟨⟨wf_u64 h0.2, wf_u64 h1.2, fun p h2 => wf_64 (hp p h2).2⟩, fun j hj => ?_⟩
  unfold ndY
  by_cases e0 : j = 0
  · subst e0; exact h0.1
  by_cases e1 : j = 1
  · subst e1; exact h1.1
  rw [if_neg e0, if_neg e1]
  have := (hp (j - 2) (by omega)).1
  rw [show j - 2 + 2 = j by omega] at this
  show X j = .int .i64 (intOf (X (j - 2 + 2)))
  rw [show j - 2 + 2 = j by omega]; exact this
theorem gr_ok {X : Nat → Value} (h : ∀ (j : Nat) (k : Option IntKind), grKs[j]? = some k → OkV k (X j)) : (I64r (intOf (X 0)) ∧ U64r (intOf (X 1)) ∧ U64r (intOf (X 2)) ∧ I64r (intOf (X 3)) ∧ U64r (intOf (X 4))) ∧ ∀ j, j < 5 → X j = grY (fun p => intOf (X p)) j := by
  have h0 := (h 0 (some .i64) rfl).int
  have h1 := (h 1 (some .u64) rfl).int
  have h2 := (h 2 (some .u64) rfl).int
  have h3 := (h 3 (some .i64) rfl).int
  have h4 := (h 4 (some .u64) rfl).int
  refine ⟨⟨wf_64 h0.2, wf_u64 h1.2, wf_u64 h2.2, wf_64 h3.2, wf_u64 h4.2⟩, fun j hj => ?_⟩
  rcases j with _|_|_|_|_|j
  · exact h0.1
  · exact h1.1
  · exact h2.1
  · exact h3.1
  · exact h4.1
  omega
structure StA (w : World) (s : StM) (id par : Nat → Int) (R g : Nat → Nat → Int) : Prop where
  an : Fx.Arr w s.na s.nn 56 (Fx.flat 56 fun k => ndY (id k) (par k) (R k))
  ag : Fx.Arr w s.ga s.gn 5 (Fx.flat 5 fun k => grY (g k))
  wn : ∀ k, k < s.nn → U64r (id k) ∧ U64r (par k) ∧ ∀ p, p < 54 → I64r (R k p)
  wg : ∀ k, k < s.gn → I64r (g k 0) ∧ U64r (g k 1) ∧ U64r (g k 2) ∧ I64r (g k 3) ∧ U64r (g k 4)
  wk : ∀ i, i < 6 → U64r (s.known i)
  bn : s.nn ≤ maxLen
  bg : s.gn ≤ maxLen
  cn : s.nn ≤ s.nc
  cg : s.gn ≤ s.gc
set_option maxHeartbeats 2000000 in
theorem open_state {r : Reach} {base : Nat} {t tb tv tn tg en eg : TypeId} {fs : Array Field} {v : Value} {D : Nat} {d : DataW H} {ps : List MemPlace} (ht : P.underlying t = some (.struct fs)) (h5 : fs.toList.map (fun f => (f.offset, f.type)) = [(0, tb), (6, tb), (12, tv), (18, tn), (19, tg)]) (ct : P.cellsOf t = 20)
    (cb : P.cellsOf tb = 6) (cv : P.cellsOf tv = 6) (cn : P.cellsOf tn = 1) (cg : P.cellsOf tg = 1) (kb : flatKb P D tb = some (List.replicate 6 none)) (kv : flatKb P D tv = some (List.replicate 6 (some .u64))) (sn : P.underlying tn = some (.slice en)) (sg : P.underlying tg = some (.slice eg))
    (kn : flatKb P D en = some ndKs) (kg : flatKb P D eg = some grKs) (cen : P.cellsOf en = 56) (ceg : P.cellsOf eg = 5) (hw : Value.okWide P w r base t v)
    (h : DataW.Trod enc P w 0 (fun _ => true) true t v d ps) : ∃ s id par R g, v = .agg (Fx.varr 20 (stY s)) ∧ StA w s id par R g := by
  unfold Value.okWide at hw
  rw [ht] at hw
  obtain ⟨cs, rfl, hsz, _⟩ := hw
  rw [ct] at hsz
  obtain ⟨fuel, hf⟩ := h
  have hf : DataW.trod enc P w 0 (fun _ => true) true fuel t cs.toList = some (d, ps) := hf
  obtain ⟨xs, n, _, _, hlen, hxl, hel⟩ := DataW.trod_struct ht hf
  have fld : ∀ (i off : Nat) (ft : TypeId), (fs.toList.map (fun f => (f.offset, f.type)))[i]? = some (off, ft) → ∃ y, DataW.trod enc P w 0 (fun _ => true) true n ft ((cs.toList.drop off).take (P.cellsOf ft)) = some y := fun i off ft hi => by
    rw [List.getElem?_map] at hi
    obtain ⟨f, hf1, hf2⟩ := Option.map_eq_some_iff.1 hi
    simp only [Prod.mk.injEq] at hf2
    obtain ⟨rfl, rfl⟩ := hf2
    rw [Array.getElem?_toList] at hf1
    have h1 := hel i f hf1
    have hi2 := (Array.getElem?_eq_some_iff.1 hf1).1
    rw [List.getElem?_eq_getElem (by omega)] at h1
    exact ⟨_, h1⟩
  rw [h5] at fld
  obtain ⟨y0, f0⟩ := fld 0 0 tb rfl
  obtain ⟨y1, f1⟩ := fld 1 6 tb rfl
  obtain ⟨y2, f2⟩ := fld 2 12 tv rfl
  obtain ⟨y3, f3⟩ := fld 3 18 tn rfl
  obtain ⟨y4, f4⟩ := fld 4 19 tg rfl
  have b0 := flatKb_ok _ _ _ kb _ _ _ f0
  have b1 := flatKb_ok _ _ _ kb _ _ _ f1
  have b2 := flatKb_ok _ _ _ kv _ _ _ f2
  obtain ⟨na, nn, nc, e3, bn, cnn, X, hX, hA⟩ := open_rows sn kn cen (by decide) f3
  obtain ⟨ga, gn, gc, e4, bg, cgg, Y, hY, hB⟩ := open_rows sg kg ceg (by decide) f4
  have cell : ∀ (off m j : Nat) (v : Value), j < m → ((cs.toList.drop off).take m)[j]? = some v → cs[off + j]? = some v := fun off m j v hj hv => by
    rw [List.getElem?_take_of_lt hj, List.getElem?_drop, Array.getElem?_toList] at hv; exact hv
  have c0 : ∀ j, j < 6 → ∃ b, cs[j]? = some (.bool b) := fun j hj => by
    obtain ⟨v, hv, b, rfl⟩ := b0.2 j none (by rw [List.getElem?_replicate, if_pos hj])
    exact ⟨b, by have := cell 0 _ j _ (by rw [cb]; exact hj) hv; rwa [Nat.zero_add] at this⟩
  have c1 : ∀ j, j < 6 → ∃ b, cs[j + 6]? = some (.bool b) := fun j hj => by
    obtain ⟨v, hv, b, rfl⟩ := b1.2 j none (by rw [List.getElem?_replicate, if_pos hj])
    exact ⟨b, by have := cell 6 _ j _ (by rw [cb]; exact hj) hv; rwa [Nat.add_comm] at this⟩
  have c2 : ∀ j, j < 6 → ∃ n, cs[j + 12]? = some (.int .u64 n) ∧ U64r n := fun j hj => by
    obtain ⟨v, hv, q, rfl, hw⟩ := b2.2 j (some .u64) (by rw [List.getElem?_replicate, if_pos hj])
    exact ⟨q, by have := cell 12 _ j _ (by rw [cv]; exact hj) hv; rwa [Nat.add_comm] at this, wf_u64 hw⟩
  have c3 : cs[18]? = some (.slice na nn nc) := cell 18 (P.cellsOf tn) 0 _ (by rw [cn]; decide) (by rw [e3]; rfl)
  have c4 : cs[19]? = some (.slice ga gn gc) := cell 19 (P.cellsOf tg) 0 _ (by rw [cg]; decide) (by rw [e4]; rfl)
  let s : StM := ⟨fun i => boolOf (cs.getD i undef), fun i => boolOf (cs.getD (i + 6) undef), fun i => intOf (cs.getD (i + 12) undef), na, nn, nc, ga, gn, gc⟩
  have gd : ∀ i v, cs[i]? = some v → cs.getD i undef = v := fun i v hv => by rw [Array.getD_eq_getD_getElem?, hv]; rfl
  have hX' := fun k (hk : k < nn) => nd_ok (hX k hk)
  have hY' := fun k (hk : k < gn) => gr_ok (hY k hk)
  refine ⟨s, fun k => intOf (X k 0), fun k => intOf (X k 1), fun k p => intOf (X k (p + 2)), fun k p => intOf (Y k p), ?_, {
    an := hA.congr (Fx.flat_cong fun k hk j hj => (hX' k hk).2 j hj)
    ag := hB.congr (Fx.flat_cong fun k hk j hj => (hY' k hk).2 j hj)
    wn := fun k hk => (hX' k hk).1
    wg := fun k hk => (hY' k hk).1
    wk := fun i hi => by
      obtain ⟨q, hq, hu⟩ := c2 i hi
      show U64r (intOf (cs.getD (i + 12) undef))
      rw [gd _ _ hq]; exact hu
    bn := bn
    bg := bg
    cn := cnn
    cg := cgg }⟩
  congr 1
  refine Fx.varr_ext hsz fun i hi => ?_
  unfold stY
  by_cases h1 : i < 6
  · obtain ⟨b, hb⟩ := c0 i h1
    rw [if_pos h1, hb]
    show _ = some (Value.bool (boolOf (cs.getD i undef)))
    rw [gd _ _ hb]; rfl
  rw [if_neg h1]
  by_cases h2 : i < 12
  · obtain ⟨b, hb⟩ := c1 (i - 6) (by omega)
    rw [show i - 6 + 6 = i by omega] at hb
    rw [if_pos h2, hb]
    show _ = some (Value.bool (boolOf (cs.getD (i - 6 + 6) undef)))
    rw [show i - 6 + 6 = i by omega, gd _ _ hb]; rfl
  rw [if_neg h2]
  by_cases h3 : i < 18
  · obtain ⟨q, hq, _⟩ := c2 (i - 12) (by omega)
    rw [show i - 12 + 12 = i by omega] at hq
    rw [if_pos h3, hq]
    show _ = some (Value.int .u64 (intOf (cs.getD (i - 12 + 12) undef)))
    rw [show i - 12 + 12 = i by omega, gd _ _ hq]; rfl
  rw [if_neg h3]
  by_cases h4 : i = 18
  · subst h4; rw [if_pos rfl, c3]
  rw [if_neg h4, show i = 19 by omega, c4]
theorem StA.toW {s : StM} {id par : Nat → Int} {R g : Nat → Nat → Int} (h : StA w s id par R g) : ∃ m : SnM, s = stS m s.na s.nc s.ga s.gc ∧ (m.ns.length ≤ 1000000 → m.gs.length ≤ 1000000 → StW w m s.na s.nc s.ga s.gc) := by
  obtain ⟨ns, hns⟩ : ∃ l, l = (List.range s.nn).map fun k => (⟨id k, par k, R k⟩ : NdM) := ⟨_, rfl⟩
  obtain ⟨gs, hgs⟩ : ∃ l, l = (List.range s.gn).map fun k => (⟨g k 0, g k 1, g k 2, g k 3, g k 4⟩ : GrM) := ⟨_, rfl⟩
  have l1 : ns.length = s.nn := by rw [hns]; simp
  have l2 : gs.length = s.gn := by rw [hgs]; simp
  have e1 : ∀ k, k < s.nn → ndA ns k = ⟨id k, par k, R k⟩ := fun k hk => by
    unfold ndA; rw [hns, List.getD_eq_getElem?_getD, List.getElem?_map, List.getElem?_range hk]; rfl
  have e2 : ∀ k, k < s.gn → grA gs k = ⟨g k 0, g k 1, g k 2, g k 3, g k 4⟩ := fun k hk => by
    unfold grA; rw [hgs, List.getD_eq_getElem?_getD, List.getElem?_map, List.getElem?_range hk]; rfl
  refine ⟨⟨s.inn, s.left, s.known, ns, gs⟩, ?_, fun b1 b2 => ⟨⟨fun i hi => h.wk i hi, fun x hx => ?_, fun x hx => ?_⟩, b1, b2, ?_, ?_, ?_, ?_⟩⟩
  · show s = ⟨s.inn, s.left, s.known, s.na, ns.length, s.nc, s.ga, gs.length, s.gc⟩
    rw [l1, l2]
  · have hx : x ∈ ns := hx
    rw [hns] at hx
    obtain ⟨k, hk, rfl⟩ := List.mem_map.1 hx
    obtain ⟨a1, a2, a3⟩ := h.wn k (List.mem_range.1 hk)
    exact ⟨a1, a2, a3⟩
  · have hx : x ∈ gs := hx
    rw [hgs] at hx
    obtain ⟨k, hk, rfl⟩ := List.mem_map.1 hx
    obtain ⟨a1, a2, a3, a4, a5⟩ := h.wg k (List.mem_range.1 hk)
    exact ⟨a1, a2, a3, a4, a5⟩
  · show Fx.Arr w s.na ns.length 56 (ndsX ns)
    rw [l1]
    exact h.an.congr (Fx.flat_cong fun k hk j hj => by rw [e1 k hk]; rfl)
  · show Fx.Arr w s.ga gs.length 5 (grsX gs)
    rw [l2]
    exact h.ag.congr (Fx.flat_cong fun k hk j hj => by rw [e2 k hk]; rcases j with _|_|_|_|_|j <;> first | rfl | omega)
  · show ns.length ≤ s.nc; rw [l1]; exact h.cn
  show gs.length ≤ s.gc; rw [l2]; exact h.cg
theorem open_bytes {t e : TypeId} {a : Option Addr} {len cap D : Nat} {d : DataW H} {ps : List MemPlace} (ht : P.underlying t = some (.slice e)) (hk : flatKb P D e = some [some .u8]) (ce : P.cellsOf e = 1)
    (h : DataW.Trod enc P w 0 (fun _ => true) true t (.slice a len cap) d ps) : ∃ l : List UInt8, len = l.length ∧ len ≤ cap ∧ Fx.Arr w a len 1 (Fx.byY l) := by
  obtain ⟨fuel, hf⟩ := h
  obtain ⟨a', l', c', hcs, _, hc, X, hX, hA⟩ := open_rows ht hk ce (by decide) hf
  simp [Value.cells] at hcs
  obtain ⟨rfl, rfl, rfl⟩ := hcs
  refine ⟨(List.range len).map fun k => UInt8.ofNat (intOf (X k 0)).toNat, by simp, hc, hA.congr fun p hp => ?_⟩
  have hp : p < len := by have q9 : p < len * 1 := hp; omega
  obtain ⟨e1, hw⟩ := (hX p hp 0 (some .u8) rfl).int
  have hb := wf_u8 hw
  show X (p / 1) (p % 1) = _
  rw [Nat.div_one, Nat.mod_one, e1]
  unfold Fx.byY
  rw [List.getD_eq_getElem?_getD, List.getElem?_map, List.getElem?_range hp]
  show Value.int .u8 (intOf (X p 0)) = .int .u8 (((UInt8.ofNat (intOf (X p 0)).toNat).toNat : Nat) : Int)
  rw [UInt8.toNat_ofNat']
  congr 1
  omega
theorem nat_by {n : Int} (h : (Lit.int .u8 n).wf = true) : ∃ b : UInt8, n = (b.toNat : Int) := by
  have := wf_u8 h
  refine ⟨UInt8.ofNat n.toNat, ?_⟩
  rw [UInt8.toNat_ofNat']; omega
end
end Go.Proofs.Ytcbedgfikejkoaa
