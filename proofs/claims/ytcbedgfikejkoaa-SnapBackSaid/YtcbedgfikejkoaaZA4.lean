/-
  What the proof of the law rests on, part 4: walks of functions, and plain laws; each says its conditions itself.
-/
import Derived.Test.YtcbedgfikejkoaaZA3
namespace Go.Proofs.Ytcbedgfikejkoaa
open Go.RowKit Rt
open Fx (x_move x_assign x_field x_load1 x_pickF x_pickT x_nil x_conv x_indexS x_index x_leqF x_loadA x_len x_gtrF x_build x_eqlF x_eqlT Lv sN Ln Ws Qv Wl Rp Wc Qs Wr Sb Lk Wk rC rV sR)
set_option linter.unusedVariables false
namespace Fx
theorem Blk.arrAt {w : World} {g n off k : Nat} {x y : Nat → Value} {T : TypeId} (h : Blk w g n x T) (hk : off + k ≤ n) (e : ∀ j, j < k → x (off + j) = y j) : Arr w (some ⟨g, off, none⟩) k 1 y := fun _ => ⟨g, off, rfl, fun j hj => by
  have := h.cel (off + j) (by omega)
  rw [e j (by omega), Nat.zero_add] at this; exact this⟩
end Fx
namespace Rt
def two (a b : Int) : Nat → Int := fun i => if i = 0 then a else b
def four (a b c d : Int) : Nat → Int := fun i => if i = 0 then a else if i = 1 then b else if i = 2 then c else d
def lsnp : List UInt8 := [76, 83, 78, 80]
def P1 (m : SnM) (i : Nat) : List UInt8 := lsnp ++ (flagsB m).take i
def hdB (m : SnM) : List UInt8 := lsnp ++ flagsB m ++ rowB m.known 6 ++ be 2 m.ns.length
def P2 (m : SnM) (k : Nat) : List UInt8 := hdB m ++ (m.ns.take k).flatMap ndB
def P3 (m : SnM) (k q : Nat) : List UInt8 := P2 m k ++ (rowB (two (ndA m.ns k).id (ndA m.ns k).par) 2 ++ rowB (ndA m.ns k).R (6 * q))
def P4 (m : SnM) (k : Nat) : List UInt8 := hdB m ++ m.ns.flatMap ndB ++ be 2 m.gs.length ++ (m.gs.take k).flatMap grB
theorem flags_len (m : SnM) : (flagsB m).length = 6 := by unfold flagsB; simp
theorem flags_get (m : SnM) {i : Nat} (h : i < 6) : (flagsB m)[i]? = some (flag (m.inn i) (m.left i)) := by unfold flagsB; rw [List.getElem?_map, List.getElem?_range h]; rfl
theorem P1_0 (m : SnM) : P1 m 0 = lsnp := by unfold P1; rw [List.take_zero, List.append_nil]
theorem P1_s (m : SnM) {i : Nat} (h : i < 6) : P1 m (i + 1) = P1 m i ++ [flag (m.inn i) (m.left i)] := by unfold P1; rw [List.take_add_one, flags_get m h, List.append_assoc]; rfl
theorem P1_len (m : SnM) {i : Nat} (h : i ≤ 6) : (P1 m i).length = i + 4 := by unfold P1; rw [List.length_append, List.length_take, flags_len]; show 4 + min i 6 = _; omega
theorem P1_6 (m : SnM) : P1 m 6 = lsnp ++ flagsB m := by unfold P1; rw [List.take_of_length_le (by rw [flags_len]; exact Nat.le_refl _)]
theorem fl_app {m : SnM} {i : Nat} {v : Int} {z : Nat → Value} (hi : i < 6) (hv : v = ((flag (m.inn i) (m.left i)).toNat : Int)) : ∀ q, q < (i + 4 + 1) * 1 → Fx.appX (Fx.byY (P1 m i)) ((i + 4) * 1) (Fx.ovr z (0 * 1) 1 (fun _ => .int .u8 v)) q = Fx.byY (P1 m (i + 1)) q := by
  subst hv; rw [P1_s m hi]; exact byY_app1 (P1_len m (by omega)).symm
theorem rowB_cut (x : Nat → Int) (a : Nat) : ∀ b, rowB x (a + b) = rowB x a ++ rowB (fun j => x (a + j)) b
  | 0 => by rw [Nat.add_zero]; exact (List.append_nil _).symm
  | b + 1 => by rw [← Nat.add_assoc, rowB_succ, rowB_succ, rowB_cut x a b, List.append_assoc]
theorem P2_0 (m : SnM) : P1 m 6 ++ rowB m.known 6 ++ be 2 m.ns.length = P2 m 0 := by unfold P2 hdB; rw [P1_6, List.take_zero]; exact (List.append_nil _).symm
theorem P3_0 (m : SnM) (k : Nat) : P2 m k ++ rowB (two (ndA m.ns k).id (ndA m.ns k).par) 2 = P3 m k 0 := by unfold P3; rw [Nat.mul_zero]; exact congrArg _ (List.append_nil _).symm
theorem P3_s (m : SnM) (k q : Nat) : P3 m k q ++ rowB (fun j => (ndA m.ns k).R (6 * q + j)) 6 = P3 m k (q + 1) := by unfold P3; rw [Nat.mul_succ, rowB_cut, List.append_assoc, List.append_assoc]
theorem two_row (a b : Int) : rowB (two a b) 2 = be 8 a ++ be 8 b := rowB_succ _ _ ▸ rfl
theorem nd_row (x : NdM) : rowB (two x.id x.par) 2 ++ rowB x.R 54 = ndB x := by rw [two_row]; rfl
theorem take_nd {l : List NdM} {k : Nat} (h : k < l.length) : l.take (k + 1) = l.take k ++ [ndA l k] := by
  unfold ndA; rw [List.take_add_one, List.getElem?_eq_getElem h, List.getD_eq_getElem?_getD, List.getElem?_eq_getElem h]; rfl
theorem take_gr {l : List GrM} {k : Nat} (h : k < l.length) : l.take (k + 1) = l.take k ++ [grA l k] := by
  unfold grA; rw [List.take_add_one, List.getElem?_eq_getElem h, List.getD_eq_getElem?_getD, List.getElem?_eq_getElem h]; rfl
theorem P3_9 (m : SnM) {k : Nat} (h : k < m.ns.length) : P3 m k 9 = P2 m (k + 1) := by
  unfold P3 P2; rw [take_nd h, List.flatMap_append, nd_row]; simp
theorem ndB_len (x : NdM) : (ndB x).length = 448 := by rw [← nd_row, List.length_append, rowB_len, rowB_len]
theorem four_row (a b c d : Int) : rowB (four a b c d) 4 = be 8 a ++ be 8 b ++ be 8 c ++ be 8 d := by rw [rowB_succ, rowB_succ, rowB_succ, rowB_succ]; rfl
theorem grB_len (g : GrM) : (grB g).length = 33 := by unfold grB; simp [be_len]
theorem fm_len {α : Type} {f : α → List UInt8} {c : Nat} (h : ∀ x, (f x).length = c) : ∀ (l : List α), (l.flatMap f).length = c * l.length
  | [] => by simp
  | x :: l => by rw [List.flatMap_cons, List.length_append, h, fm_len h l, List.length_cons, Nat.mul_succ]; omega
theorem hd_len (m : SnM) : (hdB m).length = 60 := by unfold hdB; rw [List.length_append, List.length_append, List.length_append, flags_len, rowB_len, be_len]; rfl
theorem P2_len (m : SnM) {k : Nat} (h : k ≤ m.ns.length) : (P2 m k).length = 60 + 448 * k := by unfold P2; rw [List.length_append, hd_len, fm_len ndB_len, List.length_take]; omega
theorem P3_len (m : SnM) {k q : Nat} (h : k ≤ m.ns.length) : (P3 m k q).length = 76 + 448 * k + 48 * q := by unfold P3; rw [List.length_append, P2_len m h, List.length_append, rowB_len, rowB_len]; omega
theorem P4_0 (m : SnM) : P2 m m.ns.length ++ be 2 m.gs.length = P4 m 0 := by unfold P2 P4; rw [List.take_length, List.take_zero]; exact (List.append_nil _).symm
theorem P4_len (m : SnM) {k : Nat} (h : k ≤ m.gs.length) : (P4 m k).length = 62 + 448 * m.ns.length + 33 * k := by unfold P4; rw [List.length_append, List.length_append, List.length_append, hd_len, fm_len ndB_len, be_len, fm_len grB_len, List.length_take]; omega
theorem P4_s (m : SnM) {k : Nat} (h : k < m.gs.length) : P4 m k ++ [byI (grA m.gs k).o] ++ rowB (four (grA m.gs k).r (grA m.gs k).n (grA m.gs k).a (grA m.gs k).b) 4 = P4 m (k + 1) := by
  unfold P4; rw [take_gr h, List.flatMap_append, four_row]; simp [grB]
theorem P4_e (m : SnM) : P4 m m.gs.length = bodyB m := by unfold P4; rw [List.take_length]; rfl
theorem two_u {a b : Int} (ha : U64r a) (hb : U64r b) : ∀ i, i < 2 → 0 ≤ two a b i ∧ two a b i ≤ 18446744073709551615 := fun i _ => by unfold two; split <;> assumption
theorem four_u {a b c d : Int} (ha : U64r a) (hb : U64r b) (hc : U64r c) (hd : U64r d) : ∀ i, i < 4 → 0 ≤ four a b c d i ∧ four a b c d i ≤ 18446744073709551615 := fun i _ => by
  unfold four
  repeat' split
  all_goals assumption
theorem by_o {x : Int} (h : 0 ≤ x) : IntKind.u8.wrap x = ((byI x).toNat : Int) := by have := by8 (x := x) (i := 0) (sh := 0) h rfl; simpa using this
theorem putB_n {m : SnM} (h : mayS m = false) : putB m = [] := by unfold putB; rw [if_neg (fun q => by rw [mayS_y q] at h; cases h)]
theorem putB_y {m : SnM} (h : MayP m) : putB m = bytesB m := by unfold putB; rw [if_pos h]
theorem body_len (m : SnM) : (bodyB m).length = 62 + 448 * m.ns.length + 33 * m.gs.length := by rw [← P4_e, P4_len m (Nat.le_refl _)]
theorem crc_u (x : Crc.W32) : 0 ≤ Crc.I x ∧ Crc.I x < 256 ^ 4 := by
  unfold Crc.I
  have := x.isLt
  exact ⟨by omega, by rw [show (256 : Int) ^ 4 = 4294967296 by decide]; omega⟩
end Rt
set_option maxRecDepth 20000 in
theorem s_put (m : SnM) (na : Option Addr) (nc : Nat) (ga : Option Addr) (gc : Nat) (w : World) (hm : StW w m na nc ga gc) :
    Calls Try.prog 14 #[.agg (Fx.varr 20 (stY (stS m na nc ga gc)))] w fun e w' => ∃ a c, e = .returned (.slice a (putB m).length c) ∧ Fx.Own w' w.heap.size 5 1 (.slice a (putB m).length c) (putB m).length (Fx.byY (putB m)) ∧ Below w.heap.size w w' := by
 have hn := hm.n
 have hg := hm.g
 have hl1 := hm.l1
 have hl2 := hm.l2
 refine Fx.enter Try.func14 rfl (n := 105) rfl (by rfl) ?_
 refine Ws (Wl (Fx.L.box (m := 20) (y := stY (stS m na nc ga gc)) (by rfl) rfl rfl (Fx.cells_agg _ _) rfl fun g1 w1 eg1 m1 s1 z1 => ?_))
 have b1 := s1.below (Below.refl w.heap.size w) (Below.refl w.heap.size w).size (Below.refl w.heap.size w).size
 have lg1 : w.heap.size ≤ g1 := by rw [eg1]; exact (Below.refl w.heap.size w).size
 have tg1 : g1 < w1.heap.size := m1.lt
 clear eg1
 refine Lv (.slice none 0 0) (x_assign rfl rfl) (Ln (sN (Ws (Ws (Wl (Lv (.agg (Fx.varr 20 (stY (stS m na nc ga gc)))) (x_loadA (x := stY (stS m na nc ga gc)) (y := stY (stS m na nc ga gc)) rfl rfl (by kernel_rfl) (by kernel_rfl) m1.cel (i := 0) (by omega) (by omega) (fun j _ => by rw [Nat.zero_add])) ?_))))))
 by_cases c13 : (mayS m) = true
 ·refine Fx.L.call (by rfl) (rC (args := [.agg (Fx.varr 20 (stY (stS m na nc ga gc)))]) rfl rfl Try.func12 rfl rfl) rfl ((s_may m na nc ga gc _ hm.r.k hm.l1 hm.l2 (hm.up b1).n (hm.up b1).g).mono ?_)
  rintro e w2 ⟨he, hb1⟩
  refine ⟨.bool true, by rw [he, c13], ?_⟩
  clear he
  have s2 := Sb hb1
  have m2 := m1.stp s2 (Nat.ne_of_lt (m1.lt))
  have b2 := s2.below b1 b1.size b1.size
  refine Lv (.bool false) (Fx.x_notF rfl rfl) (Ln (sN (Wc (b := false) rfl (fun h => nomatch h) (fun _ => Wk (sN (Ws ?_))))))
  have hM := mayS_iff.1 c13
  have hnn := hM.nn
  have hgn := hM.gn
  refine Wl (Fx.L.bslice (vs := [(0, .int .u8 (76)), (1, .int .u8 (83)), (2, .int .u8 (78)), (3, .int .u8 (80))]) (s := 1) (zc := Fx.rv .u8 (fun _ => 0)) (y := Fx.ovr (Fx.ovr (Fx.ovr (Fx.ovr (fun j => (Fx.rv .u8 (fun _ => 0)) (j % 1)) (0 * 1) 1 (fun _ => .int .u8 (76))) (1 * 1) 1 (fun _ => .int .u8 (83))) (2 * 1) 1 (fun _ => .int .u8 (78))) (3 * 1) 1 (fun _ => .int .u8 (80))) (by rfl) rfl rfl Try.underlying30 (by kernel_rfl) (by rfl) (by rfl) (by kernel_rfl) (by rw [Fx.fill_step (off := 0 * 1) (s := 1) (y := fun _ => .int .u8 (76)) rfl (Fx.cells_one (by rfl)) (by rfl)]; rw [Fx.fill_step (off := 1 * 1) (s := 1) (y := fun _ => .int .u8 (83)) rfl (Fx.cells_one (by rfl)) (by rfl)]; rw [Fx.fill_step (off := 2 * 1) (s := 1) (y := fun _ => .int .u8 (78)) rfl (Fx.cells_one (by rfl)) (by rfl)]; rw [Fx.fill_step (off := 3 * 1) (s := 1) (y := fun _ => .int .u8 (80)) rfl (Fx.cells_one (by rfl)) (by rfl)]; rfl) rfl fun g2 w3 eg2 m3 s3 z2 => ?_)
  have m4 := m2.stp s3 (Nat.ne_of_lt (m2.lt))
  have b3 := s3.below b2 b2.size b2.size
  have lg2 : w.heap.size ≤ g2 := by rw [eg2]; exact b2.size
  have ng2m4 : g1 ≠ g2 := by rw [eg2]; exact Nat.ne_of_lt (m2.lt)
  have tg2 : g2 < w3.heap.size := m3.lt
  clear eg2
  refine Fx.L.mark (g := g2) (m := 4) (q := 4) (c := 4) (y := Fx.ovr (Fx.ovr (Fx.ovr (Fx.ovr (fun j => (Fx.rv .u8 (fun _ => 0)) (j % 1)) (0 * 1) 1 (fun _ => .int .u8 (76))) (1 * 1) 1 (fun _ => .int .u8 (83))) (2 * 1) 1 (fun _ => .int .u8 (78))) (3 * 1) 1 (fun _ => .int .u8 (80))) (by rfl) (by rfl) rfl rfl Try.underlying30 Try.underlying5 m3 fun w4 hmk1 s4 => ?_
  have hct1 := Fx.ChT.of_stp s4 m3.ty
  have m5 := m4.chT hct1 (by decide)
  have b4 := s4.below b3 b3.size (by omega)
  have m6 : Fx.Apd w4 w.heap.size 5 (some ⟨g2, 0, none⟩) 4 4 (Fx.byY (P1 m 0)) := .inr ⟨rfl, rfl, g2, rfl, lg2, hmk1.to (fun j hj => by rw [P1_0]; exact (match j, hj with | 0, _ => rfl | 1, _ => rfl | 2, _ => rfl | 3, _ => rfl | j + 4, h => absurd h (by omega)))⟩
  refine Lv (.slice (some ⟨g2, 0, none⟩) (4) (4)) (x_assign rfl rfl) (Ln (sN (Ws (Ws (Wl (Lv (.int .i64 (0)) (x_move rfl rfl) (Ln (sN (Fx.W.block (Fx.W.loop (fun f w_ => ∃ i : Nat, ∃ ao : Option Addr, ∃ co : Nat, i ≤ 6 ∧ f 1 = .pointer (some ⟨g1, 0, none⟩) ∧ f 3 = .slice ao (i + 4) (co) ∧ f 17 = .int .i64 ((i : Int)) ∧ Fx.Blk w_ g1 20 (stY (stS m na nc ga gc)) 29 ∧ Fx.Apd w_ w.heap.size 5 ao (i + 4) co (Fx.byY (P1 m i)) ∧ Below w.heap.size w w_) (fun f _ => (6 - (intOf (f 17)).toNat)) ⟨0, (some ⟨g2, 0, none⟩), 4, by omega, (by rfl), (by rfl), (by first | rfl | exact congrArg (Value.int .i64) (by omega)), m5, m6, b4⟩ ?_))))))))))
  rintro f1 w5 ⟨i, ao, co, hi, h1, h2, h3, m7, m8, b5⟩
  refine Ws (Wl ?_)
  by_cases c18 : (i : Int) < 6
  ·refine Lv (.bool true) (Fx.x_lssT rfl h3 rfl c18) (Ln (sN (Ws (Wc (b := true) rfl (fun _ => Wk (sN (Ws (Fx.W.block (Ws (Wl (Lv (.int .i64 ((i : Int))) (x_move rfl h3) ?_))))))) (fun h => nomatch h)))))
   refine Lv (.int .i64 ((i : Int))) (x_assign rfl rfl) (Ln (sN (Ws (Wl (Lv (.int .u8 (0)) (x_assign rfl rfl) (Ln (sN (Ws (Ws (Wl (Lv (.int .i64 ((i : Int))) (x_move rfl rfl) (Lv (.pointer (some ⟨g1, 0, none⟩)) (x_field rfl h1 Try.underlying29 rfl (s := 6) (by kernel_rfl) rfl rfl) (Lv (.pointer (some ⟨g1, i, none⟩)) (x_index rfl rfl rfl Try.underlying22 (s := 1) (by kernel_rfl) (by omega) (by omega) (by omega)) ?_)))))))))))))
   by_cases c23 : (m.inn i) = true
   ·refine Lv (.bool true) (x_load1 (x := stY (stS m na nc ga gc)) rfl rfl (by kernel_rfl) m7.cel (i := i) (by omega) (by omega) ((stY_in _ (by omega)).trans (congrArg Value.bool c23))) (Ln (sN (Wc (b := true) rfl (fun _ => Wl (Lv (.int .u8 (0)) (x_move rfl rfl) ?_)) (fun h => nomatch h))))
    refine Lv (.int .u8 (1)) (Fx.x_or rfl rfl rfl (by rfl)) (Lv (.int .u8 (1)) (x_assign rfl rfl) (Ln (sN (Ws (Ws (Wl (Lv (.int .i64 ((i : Int))) (x_move rfl rfl) (Lv (.pointer (some ⟨g1, 6, none⟩)) (x_field rfl h1 Try.underlying29 rfl (s := 6) (by kernel_rfl) rfl (by show _ + 6 = _; omega)) (Lv (.pointer (some ⟨g1, i + 6, none⟩)) (x_index rfl rfl rfl Try.underlying22 (s := 1) (by kernel_rfl) (by omega) (by omega) (by omega)) ?_)))))))))
    by_cases c29 : (m.left i) = true
    ·refine Lv (.bool true) (x_load1 (x := stY (stS m na nc ga gc)) rfl rfl (by kernel_rfl) m7.cel (i := i + 6) (by omega) (by omega) ((stY_left _ (by omega) (by omega)).trans (congrArg Value.bool c29))) (Ln (sN (Wc (b := true) rfl (fun _ => Wl (Lv (.int .u8 (1)) (x_move rfl rfl) ?_)) (fun h => nomatch h))))
     refine Lv (.int .u8 (3)) (Fx.x_or rfl rfl rfl (by rfl)) (Lv (.int .u8 (3)) (x_assign rfl rfl) (Ln (sN (Wl (Lv (.slice ao (i + 4) (co)) (x_move rfl h2) (Lv (.int .u8 (3)) (x_move rfl rfl) (Fx.L.bslice (vs := [(0, .int .u8 (3))]) (s := 1) (zc := Fx.rv .u8 (fun _ => 0)) (y := Fx.ovr (fun j => (Fx.rv .u8 (fun _ => 0)) (j % 1)) (0 * 1) 1 (fun _ => .int .u8 (3))) (by rfl) rfl rfl Try.underlying30 (by kernel_rfl) (by rfl) (by rfl) (by kernel_rfl) (by rw [Fx.fill_step (off := 0 * 1) (s := 1) (y := fun _ => .int .u8 (3)) rfl (Fx.cells_one (by rfl)) (by rfl)]; rfl) rfl fun g3 w6 eg3 m9 s5 z3 => ?_)))))))
     have m10 := m7.stp s5 (Nat.ne_of_lt (m7.lt))
     have m11 := m8.up s5.old
     have b6 := s5.below b5 b5.size b5.size
     have lg3 : w.heap.size ≤ g3 := by rw [eg3]; exact b5.size
     have ng3m10 : g1 ≠ g3 := by rw [eg3]; exact Nat.ne_of_lt (m7.lt)
     have tg3 : g3 < w6.heap.size := m9.lt
     clear eg3
     refine Fx.L.appD (B := w.heap.size) (k := i + 4) (x := Fx.byY (P1 m i)) (by rfl) rfl rfl rfl Try.underlying30 (by kernel_rfl) (by kernel_rfl) rfl m11 m9.cel (fun j hj => by unfold Fx.ovr; rw [if_pos ⟨by omega, by omega⟩]; rfl) (by omega) b6.size b6 fun a1 cap1 w7 ho1 hct2 b7 => ?_
     have m12 := m10.chT hct2 (by decide)
     have m13 : Fx.Apd w7 w.heap.size 5 a1 (i + 4 + 1) cap1 (Fx.byY (P1 m (i + 1))) := .inl (ho1.congr (fl_app (by omega) (by rw [c23, c29]; rfl)))
     refine Lv (.slice a1 (i + 4 + 1) (cap1)) (x_assign rfl rfl) (Ln (Fx.blkN (sN (Wl (Lv (.int .i64 ((i : Int) + 1)) (Fx.x_add rfl h3 rfl (Fx.i64e (by omega) (by omega))) (Lv (.int .i64 ((i : Int) + 1)) (x_move rfl rfl) (Ln (Fx.lpN ⟨i + 1, a1, cap1, by omega, h1, (by rfl), (by first | rfl | exact congrArg (Value.int .i64) (by omega)), m12, m13, b7⟩ ?_))))))))
     show (6 - (intOf ((.int .i64 ((i : Int) + 1)))).toNat) < _
     simp only [h3, intOf]; omega
    rw [Bool.not_eq_true] at c29
    refine Lv (.bool false) (x_load1 (x := stY (stS m na nc ga gc)) rfl rfl (by kernel_rfl) m7.cel (i := i + 6) (by omega) (by omega) ((stY_left _ (by omega) (by omega)).trans (congrArg Value.bool c29))) (Ln (sN (Wc (b := false) rfl (fun h => nomatch h) (fun _ => Wk (sN (Wl (Lv (.slice ao (i + 4) (co)) (x_move rfl h2) (Lv (.int .u8 (1)) (x_move rfl rfl) (Fx.L.bslice (vs := [(0, .int .u8 (1))]) (s := 1) (zc := Fx.rv .u8 (fun _ => 0)) (y := Fx.ovr (fun j => (Fx.rv .u8 (fun _ => 0)) (j % 1)) (0 * 1) 1 (fun _ => .int .u8 (1))) (by rfl) rfl rfl Try.underlying30 (by kernel_rfl) (by rfl) (by rfl) (by kernel_rfl) (by rw [Fx.fill_step (off := 0 * 1) (s := 1) (y := fun _ => .int .u8 (1)) rfl (Fx.cells_one (by rfl)) (by rfl)]; rfl) rfl fun g4 w8 eg4 m14 s6 z4 => ?_)))))))))
    have m15 := m7.stp s6 (Nat.ne_of_lt (m7.lt))
    have m16 := m8.up s6.old
    have b8 := s6.below b5 b5.size b5.size
    have lg4 : w.heap.size ≤ g4 := by rw [eg4]; exact b5.size
    have ng4m15 : g1 ≠ g4 := by rw [eg4]; exact Nat.ne_of_lt (m7.lt)
    have tg4 : g4 < w8.heap.size := m14.lt
    clear eg4
    refine Fx.L.appD (B := w.heap.size) (k := i + 4) (x := Fx.byY (P1 m i)) (by rfl) rfl rfl rfl Try.underlying30 (by kernel_rfl) (by kernel_rfl) rfl m16 m14.cel (fun j hj => by unfold Fx.ovr; rw [if_pos ⟨by omega, by omega⟩]; rfl) (by omega) b8.size b8 fun a2 cap2 w9 ho2 hct3 b9 => ?_
    have m17 := m15.chT hct3 (by decide)
    have m18 : Fx.Apd w9 w.heap.size 5 a2 (i + 4 + 1) cap2 (Fx.byY (P1 m (i + 1))) := .inl (ho2.congr (fl_app (by omega) (by rw [c23, c29]; rfl)))
    refine Lv (.slice a2 (i + 4 + 1) (cap2)) (x_assign rfl rfl) (Ln (Fx.blkN (sN (Wl (Lv (.int .i64 ((i : Int) + 1)) (Fx.x_add rfl h3 rfl (Fx.i64e (by omega) (by omega))) (Lv (.int .i64 ((i : Int) + 1)) (x_move rfl rfl) (Ln (Fx.lpN ⟨i + 1, a2, cap2, by omega, h1, (by rfl), (by first | rfl | exact congrArg (Value.int .i64) (by omega)), m17, m18, b9⟩ ?_))))))))
    show (6 - (intOf ((.int .i64 ((i : Int) + 1)))).toNat) < _
    simp only [h3, intOf]; omega
   rw [Bool.not_eq_true] at c23
   refine Lv (.bool false) (x_load1 (x := stY (stS m na nc ga gc)) rfl rfl (by kernel_rfl) m7.cel (i := i) (by omega) (by omega) ((stY_in _ (by omega)).trans (congrArg Value.bool c23))) (Ln (sN (Wc (b := false) rfl (fun h => nomatch h) (fun _ => Wk (sN (Ws (Ws (Wl (Lv (.int .i64 ((i : Int))) (x_move rfl rfl) (Lv (.pointer (some ⟨g1, 6, none⟩)) (x_field rfl h1 Try.underlying29 rfl (s := 6) (by kernel_rfl) rfl (by show _ + 6 = _; omega)) (Lv (.pointer (some ⟨g1, i + 6, none⟩)) (x_index rfl rfl rfl Try.underlying22 (s := 1) (by kernel_rfl) (by omega) (by omega) (by omega)) ?_)))))))))))
   by_cases c29 : (m.left i) = true
   ·refine Lv (.bool true) (x_load1 (x := stY (stS m na nc ga gc)) rfl rfl (by kernel_rfl) m7.cel (i := i + 6) (by omega) (by omega) ((stY_left _ (by omega) (by omega)).trans (congrArg Value.bool c29))) (Ln (sN (Wc (b := true) rfl (fun _ => Wl (Lv (.int .u8 (0)) (x_move rfl rfl) ?_)) (fun h => nomatch h))))
    refine Lv (.int .u8 (2)) (Fx.x_or rfl rfl rfl (by rfl)) (Lv (.int .u8 (2)) (x_assign rfl rfl) (Ln (sN (Wl (Lv (.slice ao (i + 4) (co)) (x_move rfl h2) (Lv (.int .u8 (2)) (x_move rfl rfl) (Fx.L.bslice (vs := [(0, .int .u8 (2))]) (s := 1) (zc := Fx.rv .u8 (fun _ => 0)) (y := Fx.ovr (fun j => (Fx.rv .u8 (fun _ => 0)) (j % 1)) (0 * 1) 1 (fun _ => .int .u8 (2))) (by rfl) rfl rfl Try.underlying30 (by kernel_rfl) (by rfl) (by rfl) (by kernel_rfl) (by rw [Fx.fill_step (off := 0 * 1) (s := 1) (y := fun _ => .int .u8 (2)) rfl (Fx.cells_one (by rfl)) (by rfl)]; rfl) rfl fun g5 w10 eg5 m19 s7 z5 => ?_)))))))
    have m20 := m7.stp s7 (Nat.ne_of_lt (m7.lt))
    have m21 := m8.up s7.old
    have b10 := s7.below b5 b5.size b5.size
    have lg5 : w.heap.size ≤ g5 := by rw [eg5]; exact b5.size
    have ng5m20 : g1 ≠ g5 := by rw [eg5]; exact Nat.ne_of_lt (m7.lt)
    have tg5 : g5 < w10.heap.size := m19.lt
    clear eg5
    refine Fx.L.appD (B := w.heap.size) (k := i + 4) (x := Fx.byY (P1 m i)) (by rfl) rfl rfl rfl Try.underlying30 (by kernel_rfl) (by kernel_rfl) rfl m21 m19.cel (fun j hj => by unfold Fx.ovr; rw [if_pos ⟨by omega, by omega⟩]; rfl) (by omega) b10.size b10 fun a3 cap3 w11 ho3 hct4 b11 => ?_
    have m22 := m20.chT hct4 (by decide)
    have m23 : Fx.Apd w11 w.heap.size 5 a3 (i + 4 + 1) cap3 (Fx.byY (P1 m (i + 1))) := .inl (ho3.congr (fl_app (by omega) (by rw [c23, c29]; rfl)))
    refine Lv (.slice a3 (i + 4 + 1) (cap3)) (x_assign rfl rfl) (Ln (Fx.blkN (sN (Wl (Lv (.int .i64 ((i : Int) + 1)) (Fx.x_add rfl h3 rfl (Fx.i64e (by omega) (by omega))) (Lv (.int .i64 ((i : Int) + 1)) (x_move rfl rfl) (Ln (Fx.lpN ⟨i + 1, a3, cap3, by omega, h1, (by rfl), (by first | rfl | exact congrArg (Value.int .i64) (by omega)), m22, m23, b11⟩ ?_))))))))
    show (6 - (intOf ((.int .i64 ((i : Int) + 1)))).toNat) < _
    simp only [h3, intOf]; omega
   rw [Bool.not_eq_true] at c29
   refine Lv (.bool false) (x_load1 (x := stY (stS m na nc ga gc)) rfl rfl (by kernel_rfl) m7.cel (i := i + 6) (by omega) (by omega) ((stY_left _ (by omega) (by omega)).trans (congrArg Value.bool c29))) (Ln (sN (Wc (b := false) rfl (fun h => nomatch h) (fun _ => Wk (sN (Wl (Lv (.slice ao (i + 4) (co)) (x_move rfl h2) (Lv (.int .u8 (0)) (x_move rfl rfl) (Fx.L.bslice (vs := [(0, .int .u8 (0))]) (s := 1) (zc := Fx.rv .u8 (fun _ => 0)) (y := Fx.ovr (fun j => (Fx.rv .u8 (fun _ => 0)) (j % 1)) (0 * 1) 1 (fun _ => .int .u8 (0))) (by rfl) rfl rfl Try.underlying30 (by kernel_rfl) (by rfl) (by rfl) (by kernel_rfl) (by rw [Fx.fill_step (off := 0 * 1) (s := 1) (y := fun _ => .int .u8 (0)) rfl (Fx.cells_one (by rfl)) (by rfl)]; rfl) rfl fun g6 w12 eg6 m24 s8 z6 => ?_)))))))))
   have m25 := m7.stp s8 (Nat.ne_of_lt (m7.lt))
   have m26 := m8.up s8.old
   have b12 := s8.below b5 b5.size b5.size
   have lg6 : w.heap.size ≤ g6 := by rw [eg6]; exact b5.size
   have ng6m25 : g1 ≠ g6 := by rw [eg6]; exact Nat.ne_of_lt (m7.lt)
   have tg6 : g6 < w12.heap.size := m24.lt
   clear eg6
   refine Fx.L.appD (B := w.heap.size) (k := i + 4) (x := Fx.byY (P1 m i)) (by rfl) rfl rfl rfl Try.underlying30 (by kernel_rfl) (by kernel_rfl) rfl m26 m24.cel (fun j hj => by unfold Fx.ovr; rw [if_pos ⟨by omega, by omega⟩]; rfl) (by omega) b12.size b12 fun a4 cap4 w13 ho4 hct5 b13 => ?_
   have m27 := m25.chT hct5 (by decide)
   have m28 : Fx.Apd w13 w.heap.size 5 a4 (i + 4 + 1) cap4 (Fx.byY (P1 m (i + 1))) := .inl (ho4.congr (fl_app (by omega) (by rw [c23, c29]; rfl)))
   refine Lv (.slice a4 (i + 4 + 1) (cap4)) (x_assign rfl rfl) (Ln (Fx.blkN (sN (Wl (Lv (.int .i64 ((i : Int) + 1)) (Fx.x_add rfl h3 rfl (Fx.i64e (by omega) (by omega))) (Lv (.int .i64 ((i : Int) + 1)) (x_move rfl rfl) (Ln (Fx.lpN ⟨i + 1, a4, cap4, by omega, h1, (by rfl), (by first | rfl | exact congrArg (Value.int .i64) (by omega)), m27, m28, b13⟩ ?_))))))))
   show (6 - (intOf ((.int .i64 ((i : Int) + 1)))).toNat) < _
   simp only [h3, intOf]; omega
  refine Lv (.bool false) (Fx.x_lssF rfl h3 rfl c18) (Ln (sN (Ws (Wc (b := false) rfl (fun h => nomatch h) (fun _ => Fx.W.exit (Fx.seqX (Fx.lpX (Fx.blkX (sN (Ws ?_))))))))))
  have m29 : Fx.Own w5 w.heap.size 5 1 (.slice ao (10) (co)) 10 (Fx.byY (P1 m 6)) := by have q9 := m8; rw [show i = 6 by omega] at q9; exact q9.own (by decide)
  -- region 14 draws
  refine Fx.W.reordR [0, 1, 2, 4, 5, 6, 3, 7, 8] [0, 0, 0, 2, 0, 1, 0, 2, 0] Fx.Mk Fx.Mk.refl Fx.Mk.trans (certs := [(7, 3, [3]), (8, 3, [3]), (8, 7, [7])]) (by kernel_rfl) (by kernel_rfl) (by kernel_rfl) (by kernel_rfl) (by kernel_rfl) fun wt1 hbwt1 hzwt1 => ?_
  have s9 : Fx.Stp w5.heap.size w5 wt1 := Sb hbwt1
  have m30 := m7.stp s9 (Nat.ne_of_lt (m7.lt))
  have m31 := m29.stp s9 (m29.notNew (Nat.le_refl _))
  have b14 := s9.below b5 b5.size b5.size
  refine Rp (.slice ao (10) (co)) (fun v1 => x_move rfl (h2.trans (congrArg (fun q => Value.slice ao q co) (show i + 4 = 10 by omega)))) (Rp (.pointer (some ⟨g1, 12, none⟩)) (fun v1 => x_field rfl h1 Try.underlying29 rfl (s := 6) (by kernel_rfl) rfl (by show _ + 12 = _; omega)) (Rp (.slice (some ⟨g1, 12, none⟩) (6) (6)) (fun v1 => Fx.x_sliceArr rfl rfl Try.underlying25 (s := 1) (by kernel_rfl)) (Rp (.pointer (some ⟨g1, 18, none⟩)) (fun v1 => x_field rfl h1 Try.underlying29 rfl (s := 1) (by kernel_rfl) rfl (by show _ + 18 = _; omega)) (Fx.R.read (v := .slice na (m.ns.length) (nc)) (by rfl) (by rfl) (Fx.Mk.refl _) (fun v1 hv1 => x_load1 (x := stY (stS m na nc ga gc)) rfl rfl (by kernel_rfl) (m30.cel.below hv1 (by have := m30.lt; omega)) (i := 18) (by omega) (by omega) rfl) ?_))))
  refine Rp (.int .i64 ((m.ns.length : Int))) (fun v1 => x_len rfl rfl rfl (by kernel_rfl)) (Fx.R.make (by rfl) ?_)
  refine Fx.L.call (by rfl) (rC (args := [.slice ao (10) (co), .slice (some ⟨g1, 12, none⟩) (6) (6)]) rfl rfl Try.func50 rfl rfl) rfl ((p_allu ao 10 co (P1 m 6) (some ⟨g1, 12, none⟩) 6 6 m.known _ (fun i hi => hm.r.k i hi) (by decide) (P1_len m (Nat.le_refl _)).symm (by omega) m31.arr (Fx.Blk.arrAt (off := 12) m30 (by decide) (fun j hj => stY_known (p := j) _ hj (by omega)))).mono ?_)
  rintro e9 w14 ⟨ab1, cb1, he, hm1, hb2⟩
  refine ⟨_, he, ?_⟩
  clear he
  have s10 := Sb hb2
  have m33 := m30.stp s10 (Nat.ne_of_lt (m30.lt))
  have b15 := s10.below b14 b14.size b14.size
  have m32 : Fx.Own w14 w.heap.size 5 1 (.slice ab1 (58) (cb1)) 58 (Fx.byY (P1 m 6 ++ rowB m.known 6)) := hm1.mono b14.size
  refine Ln ⟨s10.old, ?_⟩
  refine Fx.R.make (by rfl) ?_
  refine Fx.L.call (by rfl) (rC (args := [.slice ab1 (58) (cb1), .int .i64 ((m.ns.length : Int)), .int .i64 (2)]) rfl rfl Try.func49 rfl rfl) rfl ((p_int ab1 58 cb1 (P1 m 6 ++ rowB m.known 6) (m.ns.length : Int) 2 _ (by decide) ⟨by omega, by rw [show (256 : Int) ^ 2 = 65536 by decide]; omega⟩ (by rw [List.length_append, P1_len m (Nat.le_refl _), rowB_len]) (by omega) m32.arr).mono ?_)
  rintro e9 w15 ⟨ab2, cb2, he, hm2, hb3⟩
  refine ⟨_, he, ?_⟩
  clear he
  have s11 := Sb hb3
  have m35 := m33.stp s11 (Nat.ne_of_lt (m33.lt))
  have b16 := s11.below b15 b15.size b15.size
  have m34 : Fx.Own w15 w.heap.size 5 1 (.slice ab2 (60) (cb2)) 60 (Fx.byY (P2 m 0)) := by have q9 := hm2.mono b15.size; rw [P2_0] at q9; exact q9
  refine Ln ⟨s11.old, ?_⟩
  refine Rp (.slice ab2 (60) (cb2)) (fun v1 => x_assign rfl rfl) (Fx.R.nil (sN (Ws (Ws (Wl (Lv (.pointer (some ⟨g1, 18, none⟩)) (x_field rfl h1 Try.underlying29 rfl (s := 1) (by kernel_rfl) rfl (by show _ + 18 = _; omega)) ?_))))))
  refine Lv (.slice na (m.ns.length) (nc)) (x_load1 (x := stY (stS m na nc ga gc)) rfl rfl (by kernel_rfl) m35.cel (i := 18) (by omega) (by omega) rfl) (Lv (.int .i64 ((m.ns.length : Int))) (x_len rfl rfl rfl (by kernel_rfl)) (Lv (.int .i64 (0)) (x_move rfl rfl) (Ln (sN (Fx.W.block (Fx.W.loop (fun f w_ => ∃ k : Nat, ∃ n : Nat, ∃ ao : Option Addr, ∃ co : Nat, k ≤ m.ns.length ∧ n = 60 + 448 * k ∧ f 1 = .pointer (some ⟨g1, 0, none⟩) ∧ f 46 = .slice na (m.ns.length) (nc) ∧ f 47 = .int .i64 ((m.ns.length : Int)) ∧ f 3 = .slice ao (n) (co) ∧ f 48 = .int .i64 ((k : Int)) ∧ Fx.Blk w_ g1 20 (stY (stS m na nc ga gc)) 29 ∧ Fx.Own w_ w.heap.size 5 1 (.slice ao (n) (co)) n (Fx.byY (P2 m k)) ∧ Below w.heap.size w w_) (fun f _ => (m.ns.length - (intOf (f 48)).toNat)) ⟨0, 60, ab2, cb2, Nat.zero_le _, by omega, h1, (by rfl), (by first | rfl | exact congrArg (Value.int .i64) (by omega)), (by rfl), (by first | rfl | exact congrArg (Value.int .i64) (by omega)), m35, m34, b16⟩ ?_))))))
  rintro f2 w16 ⟨k, n, ao, co, hk, hn9, h4, h5, h6, h7, h8, m36, m37, b17⟩
  refine Ws (Wl ?_)
  by_cases c49 : (k : Int) < (m.ns.length : Int)
  ·refine Lv (.bool true) (Fx.x_lssT rfl h8 h6 c49) (Ln (sN (Ws (Wc (b := true) rfl (fun _ => Wk (sN (Ws (Fx.W.block (Ws (Wl ?_)))))) (fun h => nomatch h)))))
   obtain ⟨bq1, oq1, eq1, m38z⟩ := hn (by omega)
   have lbq1z : bq1 < w.heap.size := m38z.lt (by omega)
   have m38 := m38z.below b17 lbq1z
   have lbq1 : bq1 < w16.heap.size := m38.lt (by omega)
   refine Lv (.pointer (some ⟨bq1, 56 * k + oq1, none⟩)) (x_indexS rfl (h5.trans (congrArg (fun q => Value.slice q (m.ns.length) (nc)) eq1)) h8 Try.underlying26 (s := 56) (by kernel_rfl) (by omega) (by omega) (by omega)) (Lv (.agg (Fx.varr 56 (ndZ (ndA m.ns k)))) (x_loadA (x := ndsX m.ns) (y := ndZ (ndA m.ns k)) rfl rfl (by kernel_rfl) (by kernel_rfl) m38 (i := 56 * k) (by omega) (by omega) (fun jq hjq => Fx.flat_at (k := k) (by omega) hjq)) (Fx.L.new (m := 56) (y := fun i => (#[.int .u64 (0), .int .u64 (0), .int .i64 (0), .int .i64 (0), .int .i64 (0), .int .i64 (0), .int .i64 (0), .int .i64 (0), .int .i64 (0), .int .i64 (0), .int .i64 (0), .int .i64 (0), .int .i64 (0), .int .i64 (0), .int .i64 (0), .int .i64 (0), .int .i64 (0), .int .i64 (0), .int .i64 (0), .int .i64 (0), .int .i64 (0), .int .i64 (0), .int .i64 (0), .int .i64 (0), .int .i64 (0), .int .i64 (0), .int .i64 (0), .int .i64 (0), .int .i64 (0), .int .i64 (0), .int .i64 (0), .int .i64 (0), .int .i64 (0), .int .i64 (0), .int .i64 (0), .int .i64 (0), .int .i64 (0), .int .i64 (0), .int .i64 (0), .int .i64 (0), .int .i64 (0), .int .i64 (0), .int .i64 (0), .int .i64 (0), .int .i64 (0), .int .i64 (0), .int .i64 (0), .int .i64 (0), .int .i64 (0), .int .i64 (0), .int .i64 (0), .int .i64 (0), .int .i64 (0), .int .i64 (0), .int .i64 (0), .int .i64 (0)] : Array Value).getD i undef) (by rfl) rfl (by kernel_rfl) rfl fun g7 w17 eg7 m39 s12 z7 => ?_))
   have m40 := m36.stp s12 (Nat.ne_of_lt (m36.lt))
   have m41 := m37.stp s12 (m37.notNew (Nat.le_refl _))
   have m42 := m38.stp s12 (Nat.ne_of_lt (m38.lt (by omega)))
   have b18 := s12.below b17 b17.size b17.size
   have lg7 : w.heap.size ≤ g7 := by rw [eg7]; exact b17.size
   have ng7m40 : g1 ≠ g7 := by rw [eg7]; exact Nat.ne_of_lt (m36.lt)
   have ng7m42 : bq1 ≠ g7 := by rw [eg7]; exact Nat.ne_of_lt (m38.lt (by omega))
   have tg7 : g7 < w17.heap.size := m39.lt
   clear eg7
   refine Fx.L.storeA (x := fun i => (#[.int .u64 (0), .int .u64 (0), .int .i64 (0), .int .i64 (0), .int .i64 (0), .int .i64 (0), .int .i64 (0), .int .i64 (0), .int .i64 (0), .int .i64 (0), .int .i64 (0), .int .i64 (0), .int .i64 (0), .int .i64 (0), .int .i64 (0), .int .i64 (0), .int .i64 (0), .int .i64 (0), .int .i64 (0), .int .i64 (0), .int .i64 (0), .int .i64 (0), .int .i64 (0), .int .i64 (0), .int .i64 (0), .int .i64 (0), .int .i64 (0), .int .i64 (0), .int .i64 (0), .int .i64 (0), .int .i64 (0), .int .i64 (0), .int .i64 (0), .int .i64 (0), .int .i64 (0), .int .i64 (0), .int .i64 (0), .int .i64 (0), .int .i64 (0), .int .i64 (0), .int .i64 (0), .int .i64 (0), .int .i64 (0), .int .i64 (0), .int .i64 (0), .int .i64 (0), .int .i64 (0), .int .i64 (0), .int .i64 (0), .int .i64 (0), .int .i64 (0), .int .i64 (0), .int .i64 (0), .int .i64 (0), .int .i64 (0), .int .i64 (0)] : Array Value).getD i undef) (y := ndZ (ndA m.ns k)) (by rfl) rfl rfl rfl rfl (fun j _ => ndZ_one _ j) (by kernel_rfl) m39 (i := 0) (by omega) fun w18 m43 s13 z8 => ?_
   have m44 : Fx.Blk w18 g7 56 (ndZ (ndA m.ns k)) 50 := Fx.ovr_all m43
   have hct6 := Fx.ChT.of_stp s13 m39.ty
   have m45 := m40.chT hct6 (by decide)
   have m46 := m41.chT hct6 (by decide)
   have m47 := m42.stp s13 (by omega)
   have b19 := s13.below b18 b18.size (by omega)
   refine Ln (sN (Ws (Wl (Lv (.slice ao (n) (co)) (x_move rfl h7) (Lv (.pointer (some ⟨g7, 0, none⟩)) (x_field rfl rfl Try.underlying50 rfl (s := 1) (by kernel_rfl) rfl rfl) (Lv (.int .u64 ((ndA m.ns k).id)) (x_load1 (x := ndZ (ndA m.ns k)) rfl rfl (by kernel_rfl) m44.cel (i := 0) (by omega) (by omega) rfl) (Lv (.pointer (some ⟨g7, 1, none⟩)) (x_field rfl rfl Try.underlying50 rfl (s := 1) (by kernel_rfl) rfl (by show _ + 1 = _; omega)) (Lv (.int .u64 ((ndA m.ns k).par)) (x_load1 (x := ndZ (ndA m.ns k)) rfl rfl (by kernel_rfl) m44.cel (i := 1) (by omega) (by omega) rfl) (Fx.L.bslice (vs := [(0, .int .u64 ((ndA m.ns k).id)), (1, .int .u64 ((ndA m.ns k).par))]) (s := 1) (zc := Fx.rv .u64 (fun _ => 0)) (y := Fx.ovr (Fx.ovr (fun j => (Fx.rv .u64 (fun _ => 0)) (j % 1)) (0 * 1) 1 (fun _ => .int .u64 ((ndA m.ns k).id))) (1 * 1) 1 (fun _ => .int .u64 ((ndA m.ns k).par))) (by rfl) rfl rfl Try.underlying69 (by kernel_rfl) (by rfl) (by rfl) (by kernel_rfl) (by rw [Fx.fill_step (off := 0 * 1) (s := 1) (y := fun _ => .int .u64 ((ndA m.ns k).id)) rfl (Fx.cells_one (by rfl)) (by rfl)]; rw [Fx.fill_step (off := 1 * 1) (s := 1) (y := fun _ => .int .u64 ((ndA m.ns k).par)) rfl (Fx.cells_one (by rfl)) (by rfl)]; rfl) rfl fun g8 w19 eg8 m48 s14 z9 => ?_)))))))))
   have m49 := m45.stp s14 (Nat.ne_of_lt (m45.lt))
   have m50 := m46.stp s14 (m46.notNew (Nat.le_refl _))
   have m52 := m44.stp s14 (Nat.ne_of_lt (m44.lt))
   have b20 := s14.below b19 b19.size b19.size
   have lg8 : w.heap.size ≤ g8 := by rw [eg8]; exact b19.size
   have ng8m49 : g1 ≠ g8 := by rw [eg8]; exact Nat.ne_of_lt (m45.lt)
   have ng8m51 : bq1 ≠ g8 := by rw [eg8]; exact Nat.ne_of_lt (m47.lt (by omega))
   have ng8m52 : g7 ≠ g8 := by rw [eg8]; exact Nat.ne_of_lt (m44.lt)
   have tg8 : g8 < w19.heap.size := m48.lt
   clear eg8
   refine Fx.L.call (by rfl) (rC (args := [.slice ao (n) (co), .slice (some ⟨g8, 0, none⟩) (2) (2)]) rfl rfl Try.func50 rfl rfl) rfl ((p_allu ao n co (P2 m k) (some ⟨g8, 0, none⟩) 2 2 (two (ndA m.ns k).id (ndA m.ns k).par) _ (two_u (hm.r.n _ (ndA_mem (by omega))).id (hm.r.n _ (ndA_mem (by omega))).par) (by decide) (by rw [P2_len m (by omega)]; omega) (by omega) m50.arr (Fx.Blk.arrAt (off := 0) m48 (by decide) (fun j hj => match j, hj with | 0, _ => rfl | 1, _ => rfl | j + 2, h => absurd h (by omega)))).mono ?_)
   rintro e9 w20 ⟨ab3, cb3, he, hm3, hb4⟩
   refine ⟨_, he, ?_⟩
   clear he
   have s15 := Sb hb4
   have m54 := m49.stp s15 (Nat.ne_of_lt (m49.lt))
   have m56 := m52.stp s15 (Nat.ne_of_lt (m52.lt))
   have b21 := s15.below b20 b20.size b20.size
   have m53 : Fx.Own w20 w.heap.size 5 1 (.slice ab3 (n + 16) (cb3)) (n + 16) (Fx.byY (P3 m k 0)) := by have q9 := hm3.mono b20.size; rw [P3_0] at q9; exact q9
   refine Lv (.slice ab3 (n + 16) (cb3)) (x_assign rfl rfl) (Ln (sN (Ws (Wl (Lv (.pointer (some ⟨g7, 2, none⟩)) (x_field rfl rfl Try.underlying50 rfl (s := 54) (by kernel_rfl) rfl (by show _ + 2 = _; omega)) (Fx.L.call (by rfl) (rC (args := [.pointer (some ⟨g7, 2, none⟩)]) rfl rfl Try.func31 rfl rfl) rfl ((s_rows g7 2 _).mono ?_)))))))
   rintro e9 w21 ⟨ra1, rc1, he, hm4, hb5⟩
   refine ⟨_, he, ?_⟩
   clear he
   have s16 := Sb hb5
   have m59 := m54.stp s16 (Nat.ne_of_lt (m54.lt))
   have m61 := m56.stp s16 (Nat.ne_of_lt (m56.lt))
   have m63 := m53.stp s16 (m53.notNew (Nat.le_refl _))
   have b22 := s16.below b21 b21.size b21.size
   have m58 : Fx.Own w21 w.heap.size 73 1 (.slice ra1 (9) (rc1)) 9 (rowsX g7 2) := hm4.mono b21.size
   refine Lv (.int .i64 (9)) (x_len rfl rfl rfl (by kernel_rfl)) (Lv (.int .i64 (0)) (x_move rfl rfl) (Ln (sN (Fx.W.block (Fx.W.loop (fun f w_ => ∃ q : Nat, ∃ n2 : Nat, ∃ ao2 : Option Addr, ∃ co2 : Nat, q ≤ 9 ∧ n2 = 76 + 448 * k + 48 * q ∧ f 1 = .pointer (some ⟨g1, 0, none⟩) ∧ f 7 = .pointer (some ⟨g7, 0, none⟩) ∧ f 46 = .slice na (m.ns.length) (nc) ∧ f 47 = .int .i64 ((m.ns.length : Int)) ∧ f 48 = .int .i64 ((k : Int)) ∧ f 60 = .slice ra1 (9) (rc1) ∧ f 61 = .int .i64 (9) ∧ f 3 = .slice ao2 (n2) (co2) ∧ f 62 = .int .i64 ((q : Int)) ∧ Fx.Blk w_ g1 20 (stY (stS m na nc ga gc)) 29 ∧ Fx.Blk w_ g7 56 (ndZ (ndA m.ns k)) 50 ∧ Fx.Own w_ w.heap.size 5 1 (.slice ao2 (n2) (co2)) n2 (Fx.byY (P3 m k q)) ∧ Fx.Own w_ w.heap.size 73 1 (.slice ra1 (9) (rc1)) 9 (rowsX g7 2) ∧ Below w.heap.size w w_) (fun f _ => (9 - (intOf (f 62)).toNat)) ⟨0, n + 16, ab3, cb3, by omega, by omega, h4, (by rfl), h5, (h6.trans (by first | rfl | exact congrArg (Value.int .i64) (by omega))), (h8.trans (by first | rfl | exact congrArg (Value.int .i64) (by omega))), (by rfl), (by first | rfl | exact congrArg (Value.int .i64) (by omega)), (by rfl), (by first | rfl | exact congrArg (Value.int .i64) (by omega)), m59, m61, m63, m58, b22⟩ ?_)))))
   rintro f3 w22 ⟨q, n2, ao2, co2, hq, hn2, h9, h10, h11, h12, h13, h14, h15, h16, h17, m64, m65, m66, m67, b23⟩
   refine Ws (Wl ?_)
   by_cases c63 : (q : Int) < 9
   ·refine Lv (.bool true) (Fx.x_lssT rfl h17 h15 c63) (Ln (sN (Ws (Wc (b := true) rfl (fun _ => Wk (sN (Ws (Fx.W.block (Ws (Wl ?_)))))) (fun h => nomatch h)))))
    obtain ⟨gq1, eq2⟩ := m67.addr (by omega)
    have m68 : Fx.Own w22 w.heap.size 73 1 (.slice (some ⟨gq1, 0, none⟩) 9 rc1) 9 (rowsX g7 2) := m67.congV (congrArg (fun q => Value.slice q 9 rc1) eq2)
    refine Lv (.pointer (some ⟨gq1, q, none⟩)) (x_indexS rfl (h14.trans (congrArg (fun q => Value.slice q (9) (rc1)) eq2)) h17 Try.underlying70 (s := 1) (by kernel_rfl) (by omega) (by omega) (by omega)) (Lv (.slice (some ⟨g7, 2 + 6 * q, none⟩) (6) (6)) (x_load1 (x := rowsX g7 2) rfl rfl (by kernel_rfl) m68.cel (i := q) (by omega) (by omega) rfl) (Lv (.slice (some ⟨g7, 2 + 6 * q, none⟩) (6) (6)) (x_assign rfl rfl) (Ln (sN (Wl (Lv (.slice ao2 (n2) (co2)) (x_move rfl h16) (Lv (.slice (some ⟨g7, 2 + 6 * q, none⟩) (6) (6)) (x_move rfl rfl) (Fx.L.call (by rfl) (rC (args := [.slice ao2 (n2) (co2), .slice (some ⟨g7, 2 + 6 * q, none⟩) (6) (6)]) rfl rfl Try.func51 rfl rfl) rfl ((p_alli ao2 n2 co2 (P3 m k q) (some ⟨g7, 2 + 6 * q, none⟩) 6 6 (fun j => (ndA m.ns k).R (6 * q + j)) _ (fun j hj => by have q9 := may_ent (hM.nd k (by omega)).2.1 (6 * q + j) (by omega); show 0 ≤ (ndA m.ns k).R (6 * q + j) ∧ (ndA m.ns k).R (6 * q + j) ≤ 18446744073709551615; omega) (by decide) (by rw [P3_len m (by omega)]; omega) (by omega) m66.arr (Fx.Blk.arrAt (off := 2 + 6 * q) m65 (by omega) (fun j hj => by rw [show 2 + 6 * q + j = 6 * q + j + 2 by omega]; exact ndZ_R _ _))).mono ?_)))))))))
    rintro e9 w23 ⟨ab4, cb4, he, hm5, hb6⟩
    refine ⟨_, he, ?_⟩
    clear he
    have s17 := Sb hb6
    have m70 := m64.stp s17 (Nat.ne_of_lt (m64.lt))
    have m71 := m65.stp s17 (Nat.ne_of_lt (m65.lt))
    have m72 := m68.stpB s17 (Nat.ne_of_lt (m68.lt))
    have b24 := s17.below b23 b23.size b23.size
    have m69 : Fx.Own w23 w.heap.size 5 1 (.slice ab4 (n2 + 48) (cb4)) (n2 + 48) (Fx.byY (P3 m k (q + 1))) := by have q9 := hm5.mono b23.size; rw [P3_s] at q9; exact q9
    refine Lv (.slice ab4 (n2 + 48) (cb4)) (x_assign rfl rfl) (Ln (Fx.blkN (sN (Wl (Lv (.int .i64 ((q : Int) + 1)) (Fx.x_add rfl h17 rfl (Fx.i64e (by omega) (by omega))) (Lv (.int .i64 ((q : Int) + 1)) (x_move rfl rfl) (Ln ?_)))))))
    have m73 : Fx.Own w23 w.heap.size 73 1 (.slice ra1 (9) (rc1)) 9 (rowsX g7 2) := m72.congV (congrArg (fun q => Value.slice q 9 rc1) eq2.symm)
    refine Fx.lpN ⟨q + 1, n2 + 48, ab4, cb4, by omega, by omega, h9, h10, h11, (h12.trans (by first | rfl | exact congrArg (Value.int .i64) (by omega))), (h13.trans (by first | rfl | exact congrArg (Value.int .i64) (by omega))), h14, (h15.trans (by first | rfl | exact congrArg (Value.int .i64) (by omega))), (by rfl), (by first | rfl | exact congrArg (Value.int .i64) (by omega)), m70, m71, m69, m73, b24⟩ ?_
    show (9 - (intOf ((.int .i64 ((q : Int) + 1)))).toNat) < _
    simp only [h17, intOf]; omega
   refine Lv (.bool false) (Fx.x_lssF rfl h17 h15 c63) (Ln (sN (Ws (Wc (b := false) rfl (fun h => nomatch h) (fun _ => Fx.W.exit (Fx.seqX (Fx.lpX (Fx.blkX (Fx.blkN (sN ?_))))))))))
   have m74 : Fx.Own w22 w.heap.size 5 1 (.slice ao2 (n2) (co2)) n2 (Fx.byY (P2 m (k + 1))) := by have q9 := m66; rw [show q = 9 by omega, P3_9 m (by omega)] at q9; exact q9
   refine Wl (Lv (.int .i64 ((k : Int) + 1)) (Fx.x_add rfl h13 rfl (Fx.i64e (by omega) (by omega))) (Lv (.int .i64 ((k : Int) + 1)) (x_move rfl rfl) (Ln (Fx.lpN ⟨k + 1, n2, ao2, co2, by omega, by omega, h9, h11, (h12.trans (by first | rfl | exact congrArg (Value.int .i64) (by omega))), h16, (by first | rfl | exact congrArg (Value.int .i64) (by omega)), m64, m74, b23⟩ ?_))))
   show (m.ns.length - (intOf ((.int .i64 ((k : Int) + 1)))).toNat) < _
   simp only [h8, intOf]; omega
  refine Lv (.bool false) (Fx.x_lssF rfl h8 h6 c49) (Ln (sN (Ws (Wc (b := false) rfl (fun h => nomatch h) (fun _ => Fx.W.exit (Fx.seqX (Fx.lpX (Fx.blkX (sN (Ws ?_))))))))))
  have m75 : Fx.Own w16 w.heap.size 5 1 (.slice ao (n) (co)) n (Fx.byY (P2 m m.ns.length)) := by have q9 := m37; rw [show k = m.ns.length by omega] at q9; exact q9
  refine Wl (Lv (.slice ao (n) (co)) (x_move rfl h7) (Lv (.pointer (some ⟨g1, 19, none⟩)) (x_field rfl h4 Try.underlying29 rfl (s := 1) (by kernel_rfl) rfl (by show _ + 19 = _; omega)) (Lv (.slice ga (m.gs.length) (gc)) (x_load1 (x := stY (stS m na nc ga gc)) rfl rfl (by kernel_rfl) m36.cel (i := 19) (by omega) (by omega) rfl) (Lv (.int .i64 ((m.gs.length : Int))) (x_len rfl rfl rfl (by kernel_rfl)) (Fx.L.call (by rfl) (rC (args := [.slice ao (n) (co), .int .i64 ((m.gs.length : Int)), .int .i64 (2)]) rfl rfl Try.func49 rfl rfl) rfl ((p_int ao n co (P2 m m.ns.length) (m.gs.length : Int) 2 _ (by decide) ⟨by omega, by rw [show (256 : Int) ^ 2 = 65536 by decide]; omega⟩ (by rw [P2_len m (by omega)]; omega) (by omega) m75.arr).mono ?_))))))
  rintro e9 w24 ⟨ab5, cb5, he, hm6, hb7⟩
  refine ⟨_, he, ?_⟩
  clear he
  have s18 := Sb hb7
  have m77 := m36.stp s18 (Nat.ne_of_lt (m36.lt))
  have b25 := s18.below b17 b17.size b17.size
  have m76 : Fx.Own w24 w.heap.size 5 1 (.slice ab5 (n + 2) (cb5)) (n + 2) (Fx.byY (P4 m 0)) := by have q9 := hm6.mono b17.size; rw [P4_0] at q9; exact q9
  refine Lv (.slice ab5 (n + 2) (cb5)) (x_assign rfl rfl) (Ln (sN (Ws (Ws (Wl (Lv (.pointer (some ⟨g1, 19, none⟩)) (x_field rfl h4 Try.underlying29 rfl (s := 1) (by kernel_rfl) rfl (by show _ + 19 = _; omega)) (Lv (.slice ga (m.gs.length) (gc)) (x_load1 (x := stY (stS m na nc ga gc)) rfl rfl (by kernel_rfl) m77.cel (i := 19) (by omega) (by omega) rfl) (Lv (.int .i64 ((m.gs.length : Int))) (x_len rfl rfl rfl (by kernel_rfl)) (Lv (.int .i64 (0)) (x_move rfl rfl) (Ln (sN (Fx.W.block (Fx.W.loop (fun f w_ => ∃ k : Nat, ∃ n : Nat, ∃ ao : Option Addr, ∃ co : Nat, k ≤ m.gs.length ∧ n = 62 + 448 * m.ns.length + 33 * k ∧ f 1 = .pointer (some ⟨g1, 0, none⟩) ∧ f 77 = .slice ga (m.gs.length) (gc) ∧ f 78 = .int .i64 ((m.gs.length : Int)) ∧ f 3 = .slice ao (n) (co) ∧ f 79 = .int .i64 ((k : Int)) ∧ Fx.Blk w_ g1 20 (stY (stS m na nc ga gc)) 29 ∧ Fx.Own w_ w.heap.size 5 1 (.slice ao (n) (co)) n (Fx.byY (P4 m k)) ∧ Below w.heap.size w w_) (fun f _ => (m.gs.length - (intOf (f 79)).toNat)) ⟨0, n + 2, ab5, cb5, Nat.zero_le _, by omega, h4, (by rfl), (by first | rfl | exact congrArg (Value.int .i64) (by omega)), (by rfl), (by first | rfl | exact congrArg (Value.int .i64) (by omega)), m77, m76, b25⟩ ?_)))))))))))))
  rintro f4 w25 ⟨k, n, ao, co, hk, hn9, h18, h19, h20, h21, h22, m78, m79, b26⟩
  refine Ws (Wl ?_)
  by_cases c80 : (k : Int) < (m.gs.length : Int)
  ·refine Lv (.bool true) (Fx.x_lssT rfl h22 h20 c80) (Ln (sN (Ws (Wc (b := true) rfl (fun _ => Wk (sN (Ws (Fx.W.block (Ws (Wl ?_)))))) (fun h => nomatch h)))))
   obtain ⟨bq2, oq2, eq3, m80z⟩ := hg (by omega)
   have lbq2z : bq2 < w.heap.size := m80z.lt (by omega)
   have m80 := m80z.below b26 lbq2z
   have lbq2 : bq2 < w25.heap.size := m80.lt (by omega)
   refine Lv (.pointer (some ⟨bq2, 5 * k + oq2, none⟩)) (x_indexS rfl (h19.trans (congrArg (fun q => Value.slice q (m.gs.length) (gc)) eq3)) h22 Try.underlying27 (s := 5) (by kernel_rfl) (by omega) (by omega) (by omega)) (Lv (.agg (Fx.varr 5 (grZ (grA m.gs k)))) (x_loadA (x := grsX m.gs) (y := grZ (grA m.gs k)) rfl rfl (by kernel_rfl) (by kernel_rfl) m80 (i := 5 * k) (by omega) (by omega) (fun jq hjq => Fx.flat_at (k := k) (by omega) hjq)) (Fx.L.new (m := 5) (y := fun i => (#[.int .i64 (0), .int .u64 (0), .int .u64 (0), .int .i64 (0), .int .u64 (0)] : Array Value).getD i undef) (by rfl) rfl (by kernel_rfl) rfl fun g9 w26 eg9 m81 s19 z10 => ?_))
   have m82 := m78.stp s19 (Nat.ne_of_lt (m78.lt))
   have m83 := m79.stp s19 (m79.notNew (Nat.le_refl _))
   have m84 := m80.stp s19 (Nat.ne_of_lt (m80.lt (by omega)))
   have b27 := s19.below b26 b26.size b26.size
   have lg9 : w.heap.size ≤ g9 := by rw [eg9]; exact b26.size
   have ng9m82 : g1 ≠ g9 := by rw [eg9]; exact Nat.ne_of_lt (m78.lt)
   have ng9m84 : bq2 ≠ g9 := by rw [eg9]; exact Nat.ne_of_lt (m80.lt (by omega))
   have tg9 : g9 < w26.heap.size := m81.lt
   clear eg9
   refine Fx.L.storeA (x := fun i => (#[.int .i64 (0), .int .u64 (0), .int .u64 (0), .int .i64 (0), .int .u64 (0)] : Array Value).getD i undef) (y := grZ (grA m.gs k)) (by rfl) rfl rfl rfl rfl (fun j _ => grZ_one _ j) (by kernel_rfl) m81 (i := 0) (by omega) fun w27 m85 s20 z11 => ?_
   have m86 : Fx.Blk w27 g9 5 (grZ (grA m.gs k)) 59 := Fx.ovr_all m85
   have hct7 := Fx.ChT.of_stp s20 m81.ty
   have m87 := m82.chT hct7 (by decide)
   have m88 := m83.chT hct7 (by decide)
   have m89 := m84.stp s20 (by omega)
   have b28 := s20.below b27 b27.size (by omega)
   refine Ln (sN ?_)
   obtain ⟨go1, go2, go3, go4, go5, go6, go7⟩ := hM.gd k (by omega)
   -- region 29 draws
   refine Fx.W.reordA [0, 1, 6, 8, 10, 13, 2, 3, 7, 9, 11, 12, 14] [4, 5, 15, 16, 17] [0, 0, 1, 0, 2, 2, 0, 1, 0, 1, 0, 1, 0, 0, 1, 2, 2, 0] (Fx.ChT [5]) Fx.ChT.refl Fx.ChT.trans (certs := [(5, 4, [4]), (16, 4, [5, 4]), (17, 4, [4]), (16, 5, [5]), (17, 5, [5]), (16, 15, [15]), (17, 15, [15]), (17, 16, [16])]) (by kernel_rfl) (by kernel_rfl) (by kernel_rfl) (by kernel_rfl) (by kernel_rfl) (by kernel_rfl) fun wt2 hbwt2 hzwt2 => ?_
   have s21 : Fx.Stp w27.heap.size w27 wt2 := Sb hbwt2
   have m90 := m87.stp s21 (Nat.ne_of_lt (m87.lt))
   have m91 := m88.stp s21 (m88.notNew (Nat.le_refl _))
   have m92 := m89.stp s21 (Nat.ne_of_lt (m89.lt (by omega)))
   have m93 := m86.stp s21 (Nat.ne_of_lt (m86.lt))
   have b29 := s21.below b28 b28.size b28.size
   refine Rp (.slice ao (n) (co)) (fun v1 => x_move rfl h21) (Rp (.pointer (some ⟨g9, 0, none⟩)) (fun v1 => x_field rfl rfl Try.underlying59 rfl (s := 1) (by kernel_rfl) rfl rfl) (Rp (.pointer (some ⟨g9, 1, none⟩)) (fun v1 => x_field rfl rfl Try.underlying59 rfl (s := 1) (by kernel_rfl) rfl (by show _ + 1 = _; omega)) (Rp (.pointer (some ⟨g9, 2, none⟩)) (fun v1 => x_field rfl rfl Try.underlying59 rfl (s := 1) (by kernel_rfl) rfl (by show _ + 2 = _; omega)) (Rp (.pointer (some ⟨g9, 3, none⟩)) (fun v1 => x_field rfl rfl Try.underlying59 rfl (s := 1) (by kernel_rfl) rfl (by show _ + 3 = _; omega)) (Rp (.pointer (some ⟨g9, 4, none⟩)) (fun v1 => x_field rfl rfl Try.underlying59 rfl (s := 1) (by kernel_rfl) rfl (by show _ + 4 = _; omega)) (Fx.R.read (v := .int .i64 ((grA m.gs k).o)) (by rfl) (by rfl) (Fx.ChT.refl _) (fun v1 hv1 => x_load1 (x := grZ (grA m.gs k)) rfl rfl (by kernel_rfl) (m93.chT hv1 (by decide)).cel (i := 0) (by omega) (by omega) rfl) ?_))))))
   refine Rp (.int .u8 (((byI (grA m.gs k).o).toNat : Int))) (fun v1 => x_conv rfl rfl (by kernel_rfl) Try.underlying5 (by_o (by omega))) (Fx.R.read (v := .int .u64 ((grA m.gs k).r)) (by rfl) (by rfl) (Fx.ChT.refl _) (fun v1 hv1 => x_load1 (x := grZ (grA m.gs k)) rfl rfl (by kernel_rfl) (m93.chT hv1 (by decide)).cel (i := 1) (by omega) (by omega) rfl) ?_)
   refine Fx.R.read (v := .int .u64 ((grA m.gs k).n)) (by rfl) (by rfl) (Fx.ChT.refl _) (fun v1 hv1 => x_load1 (x := grZ (grA m.gs k)) rfl rfl (by kernel_rfl) (m93.chT hv1 (by decide)).cel (i := 2) (by omega) (by omega) rfl) ?_
   refine Fx.R.read (v := .int .i64 ((grA m.gs k).a)) (by rfl) (by rfl) (Fx.ChT.refl _) (fun v1 hv1 => x_load1 (x := grZ (grA m.gs k)) rfl rfl (by kernel_rfl) (m93.chT hv1 (by decide)).cel (i := 3) (by omega) (by omega) rfl) ?_
   refine Rp (.int .u64 ((grA m.gs k).a)) (fun v1 => x_conv rfl rfl (by kernel_rfl) Try.underlying23 (Fx.u64e (by omega) rfl)) (Fx.R.read (v := .int .u64 ((grA m.gs k).b)) (by rfl) (by rfl) (Fx.ChT.refl _) (fun v1 hv1 => x_load1 (x := grZ (grA m.gs k)) rfl rfl (by kernel_rfl) (m93.chT hv1 (by decide)).cel (i := 4) (by omega) (by omega) rfl) ?_)
   refine Fx.R.nil (Fx.RA.two 4 15 [5, 15, 16, 17] [4, 5, 16, 17] (by rfl) (by kernel_rfl) (by kernel_rfl) (by kernel_rfl) ?_ ?_)
   ·refine Fx.R.make (by rfl) ?_
    refine Fx.L.bslice (vs := [(0, .int .u8 (((byI (grA m.gs k).o).toNat : Int)))]) (s := 1) (zc := Fx.rv .u8 (fun _ => 0)) (y := Fx.ovr (fun j => (Fx.rv .u8 (fun _ => 0)) (j % 1)) (0 * 1) 1 (fun _ => .int .u8 (((byI (grA m.gs k).o).toNat : Int)))) (by rfl) rfl rfl Try.underlying30 (by kernel_rfl) (by rfl) (by rfl) (by kernel_rfl) (by rw [Fx.fill_step (off := 0 * 1) (s := 1) (y := fun _ => .int .u8 (((byI (grA m.gs k).o).toNat : Int))) rfl (Fx.cells_one (by rfl)) (by rfl)]; rfl) rfl fun g10 w28 eg10 m94 s22 z12 => ?_
    have m95 := m90.stp s22 (Nat.ne_of_lt (m90.lt))
    have m96 := m91.stp s22 (m91.notNew (Nat.le_refl _))
    have m97 := m92.stp s22 (Nat.ne_of_lt (m92.lt (by omega)))
    have m98 := m93.stp s22 (Nat.ne_of_lt (m93.lt))
    have b30 := s22.below b29 b29.size b29.size
    have lg10 : w.heap.size ≤ g10 := by rw [eg10]; exact b29.size
    have ng10m95 : g1 ≠ g10 := by rw [eg10]; exact Nat.ne_of_lt (m90.lt)
    have ng10m96 : (.slice ao (n) (co) : Value).ownBlock ≠ some g10 := by rw [eg10]; exact m91.notNew (Nat.le_refl _)
    have ng10m97 : bq2 ≠ g10 := by rw [eg10]; exact Nat.ne_of_lt (m92.lt (by omega))
    have ng10m98 : g9 ≠ g10 := by rw [eg10]; exact Nat.ne_of_lt (m93.lt)
    have tg10 : g10 < w28.heap.size := m94.lt
    clear eg10
    refine Ln ⟨Fx.ChT.of_below s22.old, ?_⟩
    refine Fx.R.nil (Fx.RA.two 5 15 [15, 16, 17] [5, 16, 17] (by rfl) (by kernel_rfl) (by kernel_rfl) (by kernel_rfl) ?_ ?_)
    ·refine Fx.R.make (by rfl) ?_
     refine Fx.L.app (B := w.heap.size) (s := 1) (bytes := 1) (k := n) (m := 1) (v := .slice ao (n) (co)) (x := Fx.byY (P4 m k)) (by rfl) rfl rfl rfl Try.underlying30 (by kernel_rfl) (by kernel_rfl) rfl rfl m96 m94.cel (fun j hj => by unfold Fx.ovr; rw [if_pos ⟨by omega, by omega⟩]; rfl) (by omega) (by omega) (by omega) b30.size fun g11 cap5 w29 ho5 hg1 hgv1 hlt1 => ?_
     have hct8 := Fx.ChT.of_grown hg1 m96
     have m100 := m95.chT hct8 (by decide)
     have m101 := m97.grown hg1 (m96.not (by omega))
     have m102 := m98.chT hct8 (by decide)
     have m99 : Fx.Own w29 w.heap.size 5 1 (.slice (some ⟨g11, 0, none⟩) (n + 1) cap5) (n + 1) (Fx.byY (P4 m k ++ [byI (grA m.gs k).o])) := (ho5.congr (byY_app1 (by rw [P4_len m (by omega)]; omega)))
     have b31 : Below w.heap.size w w29 := Fx.Below.grow b30 hg1 b30.size (fun q hq => (m96.ge hq).1)
     refine Ln ⟨hct8, ?_⟩
     refine Fx.R.nil (Fx.RA.one 15 [16, 17] (by rfl) (by kernel_rfl) (by kernel_rfl) ?_)
     refine Fx.R.make (by rfl) ?_
     refine Fx.L.bslice (vs := [(0, .int .u64 ((grA m.gs k).r)), (1, .int .u64 ((grA m.gs k).n)), (2, .int .u64 ((grA m.gs k).a)), (3, .int .u64 ((grA m.gs k).b))]) (s := 1) (zc := Fx.rv .u64 (fun _ => 0)) (y := Fx.ovr (Fx.ovr (Fx.ovr (Fx.ovr (fun j => (Fx.rv .u64 (fun _ => 0)) (j % 1)) (0 * 1) 1 (fun _ => .int .u64 ((grA m.gs k).r))) (1 * 1) 1 (fun _ => .int .u64 ((grA m.gs k).n))) (2 * 1) 1 (fun _ => .int .u64 ((grA m.gs k).a))) (3 * 1) 1 (fun _ => .int .u64 ((grA m.gs k).b))) (by rfl) rfl rfl Try.underlying69 (by kernel_rfl) (by rfl) (by rfl) (by kernel_rfl) (by rw [Fx.fill_step (off := 0 * 1) (s := 1) (y := fun _ => .int .u64 ((grA m.gs k).r)) rfl (Fx.cells_one (by rfl)) (by rfl)]; rw [Fx.fill_step (off := 1 * 1) (s := 1) (y := fun _ => .int .u64 ((grA m.gs k).n)) rfl (Fx.cells_one (by rfl)) (by rfl)]; rw [Fx.fill_step (off := 2 * 1) (s := 1) (y := fun _ => .int .u64 ((grA m.gs k).a)) rfl (Fx.cells_one (by rfl)) (by rfl)]; rw [Fx.fill_step (off := 3 * 1) (s := 1) (y := fun _ => .int .u64 ((grA m.gs k).b)) rfl (Fx.cells_one (by rfl)) (by rfl)]; rfl) rfl fun g12 w30 eg12 m103 s23 z13 => ?_
     have m104 := m100.stp s23 (Nat.ne_of_lt (m100.lt))
     have m107 := m99.stpB s23 (Nat.ne_of_lt (m99.lt))
     have b32 := s23.below b31 b31.size b31.size
     have lg12 : w.heap.size ≤ g12 := by rw [eg12]; exact b31.size
     have ng12m104 : g1 ≠ g12 := by rw [eg12]; exact Nat.ne_of_lt (m100.lt)
     have ng12m105 : bq2 ≠ g12 := by rw [eg12]; exact Nat.ne_of_lt (m101.lt (by omega))
     have ng12m106 : g9 ≠ g12 := by rw [eg12]; exact Nat.ne_of_lt (m102.lt)
     have ng12m107 : g11 ≠ g12 := by rw [eg12]; exact Nat.ne_of_lt (m99.lt)
     have tg12 : g12 < w30.heap.size := m103.lt
     clear eg12
     refine Ln ⟨Fx.ChT.of_below s23.old, ?_⟩
     refine Fx.R.nil (Fx.RA.one 16 [17] (by rfl) (by kernel_rfl) (by kernel_rfl) ?_)
     refine Fx.R.make (by rfl) ?_
     refine Fx.L.call (by rfl) (rC (args := [.slice (some ⟨g11, 0, none⟩) (n + 1) (cap5), .slice (some ⟨g12, 0, none⟩) (4) (4)]) rfl rfl Try.func50 rfl rfl) rfl ((p_allu (some ⟨g11, 0, none⟩) (n + 1) cap5 (P4 m k ++ [byI (grA m.gs k).o]) (some ⟨g12, 0, none⟩) 4 4 (four (grA m.gs k).r (grA m.gs k).n (grA m.gs k).a (grA m.gs k).b) _ (four_u (hm.r.g _ (grA_mem (by omega))).r (hm.r.g _ (grA_mem (by omega))).n ⟨by omega, by omega⟩ (hm.r.g _ (grA_mem (by omega))).b) (by decide) (by rw [List.length_append, P4_len m (by omega)]; simp only [List.length_cons, List.length_nil]; omega) (by omega) m107.arr (Fx.Blk.arrAt (off := 0) m103 (by decide) (fun j hj => match j, hj with | 0, _ => rfl | 1, _ => rfl | 2, _ => rfl | 3, _ => rfl | j + 4, h => absurd h (by omega)))).mono ?_)
     rintro e9 w31 ⟨ab6, cb6, he, hm7, hb8⟩
     refine ⟨_, he, ?_⟩
     clear he
     have s24 := Sb hb8
     have m109 := m104.stp s24 (Nat.ne_of_lt (m104.lt))
     have b33 := s24.below b32 b32.size b32.size
     have m108 : Fx.Own w31 w.heap.size 5 1 (.slice ab6 (n + 33) (cb6)) (n + 33) (Fx.byY (P4 m (k + 1))) := by have q9 := hm7.mono b32.size; rw [P4_s m (by omega)] at q9; exact q9
     refine Ln ⟨Fx.ChT.of_below s24.old, ?_⟩
     refine Fx.R.nil (Fx.RA.still (by rfl) ?_)
     refine Rp (.slice ab6 (n + 33) (cb6)) (fun v1 => x_assign rfl rfl) (Fx.R.nil (Fx.RA.nil ?_))
     refine Fx.blkN (sN (Wl (Lv (.int .i64 ((k : Int) + 1)) (Fx.x_add rfl h22 rfl (Fx.i64e (by omega) (by omega))) (Lv (.int .i64 ((k : Int) + 1)) (x_move rfl rfl) (Ln (Fx.lpN ⟨k + 1, n + 33, ab6, cb6, by omega, by omega, h18, h19, (h20.trans (by first | rfl | exact congrArg (Value.int .i64) (by omega))), (by rfl), (by first | rfl | exact congrArg (Value.int .i64) (by omega)), m109, m108, b33⟩ ?_))))))
     show (m.gs.length - (intOf ((.int .i64 ((k : Int) + 1)))).toNat) < _
     simp only [h22, intOf]; omega
    refine Fx.R.make (by rfl) ?_
    refine Fx.L.bslice (vs := [(0, .int .u64 ((grA m.gs k).r)), (1, .int .u64 ((grA m.gs k).n)), (2, .int .u64 ((grA m.gs k).a)), (3, .int .u64 ((grA m.gs k).b))]) (s := 1) (zc := Fx.rv .u64 (fun _ => 0)) (y := Fx.ovr (Fx.ovr (Fx.ovr (Fx.ovr (fun j => (Fx.rv .u64 (fun _ => 0)) (j % 1)) (0 * 1) 1 (fun _ => .int .u64 ((grA m.gs k).r))) (1 * 1) 1 (fun _ => .int .u64 ((grA m.gs k).n))) (2 * 1) 1 (fun _ => .int .u64 ((grA m.gs k).a))) (3 * 1) 1 (fun _ => .int .u64 ((grA m.gs k).b))) (by rfl) rfl rfl Try.underlying69 (by kernel_rfl) (by rfl) (by rfl) (by kernel_rfl) (by rw [Fx.fill_step (off := 0 * 1) (s := 1) (y := fun _ => .int .u64 ((grA m.gs k).r)) rfl (Fx.cells_one (by rfl)) (by rfl)]; rw [Fx.fill_step (off := 1 * 1) (s := 1) (y := fun _ => .int .u64 ((grA m.gs k).n)) rfl (Fx.cells_one (by rfl)) (by rfl)]; rw [Fx.fill_step (off := 2 * 1) (s := 1) (y := fun _ => .int .u64 ((grA m.gs k).a)) rfl (Fx.cells_one (by rfl)) (by rfl)]; rw [Fx.fill_step (off := 3 * 1) (s := 1) (y := fun _ => .int .u64 ((grA m.gs k).b)) rfl (Fx.cells_one (by rfl)) (by rfl)]; rfl) rfl fun g13 w32 eg13 m113 s25 z14 => ?_
    have m114 := m95.stp s25 (Nat.ne_of_lt (m95.lt))
    have m115 := m96.stp s25 (m96.notNew (Nat.le_refl _))
    have m118 := m94.stp s25 (Nat.ne_of_lt (m94.lt))
    have b34 := s25.below b30 b30.size b30.size
    have lg13 : w.heap.size ≤ g13 := by rw [eg13]; exact b30.size
    have ng13m114 : g1 ≠ g13 := by rw [eg13]; exact Nat.ne_of_lt (m95.lt)
    have ng13m116 : bq2 ≠ g13 := by rw [eg13]; exact Nat.ne_of_lt (m97.lt (by omega))
    have ng13m117 : g9 ≠ g13 := by rw [eg13]; exact Nat.ne_of_lt (m98.lt)
    have ng13m118 : g10 ≠ g13 := by rw [eg13]; exact Nat.ne_of_lt (m94.lt)
    have tg13 : g13 < w32.heap.size := m113.lt
    clear eg13
    refine Ln ⟨Fx.ChT.of_below s25.old, ?_⟩
    refine Fx.R.nil (Fx.RA.one 5 [16, 17] (by rfl) (by kernel_rfl) (by kernel_rfl) ?_)
    refine Fx.R.make (by rfl) ?_
    refine Fx.L.app (B := w.heap.size) (s := 1) (bytes := 1) (k := n) (m := 1) (v := .slice ao (n) (co)) (x := Fx.byY (P4 m k)) (by rfl) rfl rfl rfl Try.underlying30 (by kernel_rfl) (by kernel_rfl) rfl rfl m115 m118.cel (fun j hj => by unfold Fx.ovr; rw [if_pos ⟨by omega, by omega⟩]; rfl) (by omega) (by omega) (by omega) b34.size fun g14 cap6 w33 ho6 hg2 hgv2 hlt2 => ?_
    have hct9 := Fx.ChT.of_grown hg2 m115
    have m120 := m114.chT hct9 (by decide)
    have m123 := m113.chT hct9 (by decide)
    have m119 : Fx.Own w33 w.heap.size 5 1 (.slice (some ⟨g14, 0, none⟩) (n + 1) cap6) (n + 1) (Fx.byY (P4 m k ++ [byI (grA m.gs k).o])) := (ho6.congr (byY_app1 (by rw [P4_len m (by omega)]; omega)))
    have b35 : Below w.heap.size w w33 := Fx.Below.grow b34 hg2 b34.size (fun q hq => (m115.ge hq).1)
    refine Ln ⟨hct9, ?_⟩
    refine Fx.R.nil (Fx.RA.one 16 [17] (by rfl) (by kernel_rfl) (by kernel_rfl) ?_)
    refine Fx.R.make (by rfl) ?_
    refine Fx.L.call (by rfl) (rC (args := [.slice (some ⟨g14, 0, none⟩) (n + 1) (cap6), .slice (some ⟨g13, 0, none⟩) (4) (4)]) rfl rfl Try.func50 rfl rfl) rfl ((p_allu (some ⟨g14, 0, none⟩) (n + 1) cap6 (P4 m k ++ [byI (grA m.gs k).o]) (some ⟨g13, 0, none⟩) 4 4 (four (grA m.gs k).r (grA m.gs k).n (grA m.gs k).a (grA m.gs k).b) _ (four_u (hm.r.g _ (grA_mem (by omega))).r (hm.r.g _ (grA_mem (by omega))).n ⟨by omega, by omega⟩ (hm.r.g _ (grA_mem (by omega))).b) (by decide) (by rw [List.length_append, P4_len m (by omega)]; simp only [List.length_cons, List.length_nil]; omega) (by omega) m119.arr (Fx.Blk.arrAt (off := 0) m123 (by decide) (fun j hj => match j, hj with | 0, _ => rfl | 1, _ => rfl | 2, _ => rfl | 3, _ => rfl | j + 4, h => absurd h (by omega)))).mono ?_)
    rintro e9 w34 ⟨ab7, cb7, he, hm8, hb9⟩
    refine ⟨_, he, ?_⟩
    clear he
    have s26 := Sb hb9
    have m125 := m120.stp s26 (Nat.ne_of_lt (m120.lt))
    have b36 := s26.below b35 b35.size b35.size
    have m124 : Fx.Own w34 w.heap.size 5 1 (.slice ab7 (n + 33) (cb7)) (n + 33) (Fx.byY (P4 m (k + 1))) := by have q9 := hm8.mono b35.size; rw [P4_s m (by omega)] at q9; exact q9
    refine Ln ⟨Fx.ChT.of_below s26.old, ?_⟩
    refine Fx.R.nil (Fx.RA.still (by rfl) ?_)
    refine Rp (.slice ab7 (n + 33) (cb7)) (fun v1 => x_assign rfl rfl) (Fx.R.nil (Fx.RA.nil ?_))
    refine Fx.blkN (sN (Wl (Lv (.int .i64 ((k : Int) + 1)) (Fx.x_add rfl h22 rfl (Fx.i64e (by omega) (by omega))) (Lv (.int .i64 ((k : Int) + 1)) (x_move rfl rfl) (Ln (Fx.lpN ⟨k + 1, n + 33, ab7, cb7, by omega, by omega, h18, h19, (h20.trans (by first | rfl | exact congrArg (Value.int .i64) (by omega))), (by rfl), (by first | rfl | exact congrArg (Value.int .i64) (by omega)), m125, m124, b36⟩ ?_))))))
    show (m.gs.length - (intOf ((.int .i64 ((k : Int) + 1)))).toNat) < _
    simp only [h22, intOf]; omega
   refine Fx.R.make (by rfl) ?_
   refine Fx.L.bslice (vs := [(0, .int .u64 ((grA m.gs k).r)), (1, .int .u64 ((grA m.gs k).n)), (2, .int .u64 ((grA m.gs k).a)), (3, .int .u64 ((grA m.gs k).b))]) (s := 1) (zc := Fx.rv .u64 (fun _ => 0)) (y := Fx.ovr (Fx.ovr (Fx.ovr (Fx.ovr (fun j => (Fx.rv .u64 (fun _ => 0)) (j % 1)) (0 * 1) 1 (fun _ => .int .u64 ((grA m.gs k).r))) (1 * 1) 1 (fun _ => .int .u64 ((grA m.gs k).n))) (2 * 1) 1 (fun _ => .int .u64 ((grA m.gs k).a))) (3 * 1) 1 (fun _ => .int .u64 ((grA m.gs k).b))) (by rfl) rfl rfl Try.underlying69 (by kernel_rfl) (by rfl) (by rfl) (by kernel_rfl) (by rw [Fx.fill_step (off := 0 * 1) (s := 1) (y := fun _ => .int .u64 ((grA m.gs k).r)) rfl (Fx.cells_one (by rfl)) (by rfl)]; rw [Fx.fill_step (off := 1 * 1) (s := 1) (y := fun _ => .int .u64 ((grA m.gs k).n)) rfl (Fx.cells_one (by rfl)) (by rfl)]; rw [Fx.fill_step (off := 2 * 1) (s := 1) (y := fun _ => .int .u64 ((grA m.gs k).a)) rfl (Fx.cells_one (by rfl)) (by rfl)]; rw [Fx.fill_step (off := 3 * 1) (s := 1) (y := fun _ => .int .u64 ((grA m.gs k).b)) rfl (Fx.cells_one (by rfl)) (by rfl)]; rfl) rfl fun g15 w35 eg15 m129 s27 z15 => ?_
   have m130 := m90.stp s27 (Nat.ne_of_lt (m90.lt))
   have m131 := m91.stp s27 (m91.notNew (Nat.le_refl _))
   have m132 := m92.stp s27 (Nat.ne_of_lt (m92.lt (by omega)))
   have m133 := m93.stp s27 (Nat.ne_of_lt (m93.lt))
   have b37 := s27.below b29 b29.size b29.size
   have lg15 : w.heap.size ≤ g15 := by rw [eg15]; exact b29.size
   have ng15m130 : g1 ≠ g15 := by rw [eg15]; exact Nat.ne_of_lt (m90.lt)
   have ng15m132 : bq2 ≠ g15 := by rw [eg15]; exact Nat.ne_of_lt (m92.lt (by omega))
   have ng15m133 : g9 ≠ g15 := by rw [eg15]; exact Nat.ne_of_lt (m93.lt)
   have tg15 : g15 < w35.heap.size := m129.lt
   clear eg15
   refine Ln ⟨Fx.ChT.of_below s27.old, ?_⟩
   refine Fx.R.nil (Fx.RA.one 4 [5, 16, 17] (by rfl) (by kernel_rfl) (by kernel_rfl) ?_)
   refine Fx.R.make (by rfl) ?_
   refine Fx.L.bslice (vs := [(0, .int .u8 (((byI (grA m.gs k).o).toNat : Int)))]) (s := 1) (zc := Fx.rv .u8 (fun _ => 0)) (y := Fx.ovr (fun j => (Fx.rv .u8 (fun _ => 0)) (j % 1)) (0 * 1) 1 (fun _ => .int .u8 (((byI (grA m.gs k).o).toNat : Int)))) (by rfl) rfl rfl Try.underlying30 (by kernel_rfl) (by rfl) (by rfl) (by kernel_rfl) (by rw [Fx.fill_step (off := 0 * 1) (s := 1) (y := fun _ => .int .u8 (((byI (grA m.gs k).o).toNat : Int))) rfl (Fx.cells_one (by rfl)) (by rfl)]; rfl) rfl fun g16 w36 eg16 m134 s28 z16 => ?_
   have m135 := m130.stp s28 (Nat.ne_of_lt (m130.lt))
   have m136 := m131.stp s28 (m131.notNew (Nat.le_refl _))
   have m139 := m129.stp s28 (Nat.ne_of_lt (m129.lt))
   have b38 := s28.below b37 b37.size b37.size
   have lg16 : w.heap.size ≤ g16 := by rw [eg16]; exact b37.size
   have ng16m135 : g1 ≠ g16 := by rw [eg16]; exact Nat.ne_of_lt (m130.lt)
   have ng16m136 : (.slice ao (n) (co) : Value).ownBlock ≠ some g16 := by rw [eg16]; exact m131.notNew (Nat.le_refl _)
   have ng16m137 : bq2 ≠ g16 := by rw [eg16]; exact Nat.ne_of_lt (m132.lt (by omega))
   have ng16m138 : g9 ≠ g16 := by rw [eg16]; exact Nat.ne_of_lt (m133.lt)
   have ng16m139 : g15 ≠ g16 := by rw [eg16]; exact Nat.ne_of_lt (m129.lt)
   have tg16 : g16 < w36.heap.size := m134.lt
   clear eg16
   refine Ln ⟨Fx.ChT.of_below s28.old, ?_⟩
   refine Fx.R.nil (Fx.RA.one 5 [16, 17] (by rfl) (by kernel_rfl) (by kernel_rfl) ?_)
   refine Fx.R.make (by rfl) ?_
   refine Fx.L.app (B := w.heap.size) (s := 1) (bytes := 1) (k := n) (m := 1) (v := .slice ao (n) (co)) (x := Fx.byY (P4 m k)) (by rfl) rfl rfl rfl Try.underlying30 (by kernel_rfl) (by kernel_rfl) rfl rfl m136 m134.cel (fun j hj => by unfold Fx.ovr; rw [if_pos ⟨by omega, by omega⟩]; rfl) (by omega) (by omega) (by omega) b38.size fun g17 cap7 w37 ho7 hg3 hgv3 hlt3 => ?_
   have hct10 := Fx.ChT.of_grown hg3 m136
   have m141 := m135.chT hct10 (by decide)
   have m144 := m139.chT hct10 (by decide)
   have m140 : Fx.Own w37 w.heap.size 5 1 (.slice (some ⟨g17, 0, none⟩) (n + 1) cap7) (n + 1) (Fx.byY (P4 m k ++ [byI (grA m.gs k).o])) := (ho7.congr (byY_app1 (by rw [P4_len m (by omega)]; omega)))
   have b39 : Below w.heap.size w w37 := Fx.Below.grow b38 hg3 b38.size (fun q hq => (m136.ge hq).1)
   refine Ln ⟨hct10, ?_⟩
   refine Fx.R.nil (Fx.RA.one 16 [17] (by rfl) (by kernel_rfl) (by kernel_rfl) ?_)
   refine Fx.R.make (by rfl) ?_
   refine Fx.L.call (by rfl) (rC (args := [.slice (some ⟨g17, 0, none⟩) (n + 1) (cap7), .slice (some ⟨g15, 0, none⟩) (4) (4)]) rfl rfl Try.func50 rfl rfl) rfl ((p_allu (some ⟨g17, 0, none⟩) (n + 1) cap7 (P4 m k ++ [byI (grA m.gs k).o]) (some ⟨g15, 0, none⟩) 4 4 (four (grA m.gs k).r (grA m.gs k).n (grA m.gs k).a (grA m.gs k).b) _ (four_u (hm.r.g _ (grA_mem (by omega))).r (hm.r.g _ (grA_mem (by omega))).n ⟨by omega, by omega⟩ (hm.r.g _ (grA_mem (by omega))).b) (by decide) (by rw [List.length_append, P4_len m (by omega)]; simp only [List.length_cons, List.length_nil]; omega) (by omega) m140.arr (Fx.Blk.arrAt (off := 0) m144 (by decide) (fun j hj => match j, hj with | 0, _ => rfl | 1, _ => rfl | 2, _ => rfl | 3, _ => rfl | j + 4, h => absurd h (by omega)))).mono ?_)
   rintro e9 w38 ⟨ab8, cb8, he, hm9, hb10⟩
   refine ⟨_, he, ?_⟩
   clear he
   have s29 := Sb hb10
   have m146 := m141.stp s29 (Nat.ne_of_lt (m141.lt))
   have b40 := s29.below b39 b39.size b39.size
   have m145 : Fx.Own w38 w.heap.size 5 1 (.slice ab8 (n + 33) (cb8)) (n + 33) (Fx.byY (P4 m (k + 1))) := by have q9 := hm9.mono b39.size; rw [P4_s m (by omega)] at q9; exact q9
   refine Ln ⟨Fx.ChT.of_below s29.old, ?_⟩
   refine Fx.R.nil (Fx.RA.still (by rfl) ?_)
   refine Rp (.slice ab8 (n + 33) (cb8)) (fun v1 => x_assign rfl rfl) (Fx.R.nil (Fx.RA.nil ?_))
   refine Fx.blkN (sN (Wl (Lv (.int .i64 ((k : Int) + 1)) (Fx.x_add rfl h22 rfl (Fx.i64e (by omega) (by omega))) (Lv (.int .i64 ((k : Int) + 1)) (x_move rfl rfl) (Ln (Fx.lpN ⟨k + 1, n + 33, ab8, cb8, by omega, by omega, h18, h19, (h20.trans (by first | rfl | exact congrArg (Value.int .i64) (by omega))), (by rfl), (by first | rfl | exact congrArg (Value.int .i64) (by omega)), m146, m145, b40⟩ ?_))))))
   show (m.gs.length - (intOf ((.int .i64 ((k : Int) + 1)))).toNat) < _
   simp only [h22, intOf]; omega
  refine Lv (.bool false) (Fx.x_lssF rfl h22 h20 c80) (Ln (sN (Ws (Wc (b := false) rfl (fun h => nomatch h) (fun _ => Fx.W.exit (Fx.seqX (Fx.lpX (Fx.blkX (sN (Ws ?_))))))))))
  have m150 : Fx.Own w25 w.heap.size 5 1 (.slice ao (n) (co)) n (Fx.byY (bodyB m)) := by have q9 := m79; rw [show k = m.gs.length by omega, P4_e] at q9; exact q9
  refine Wl (Lv (.slice ao (n) (co)) (x_move rfl h21) (Lv (.slice ao (n) (co)) (x_move rfl h21) (Fx.L.call (by rfl) (rC (args := [.slice ao (n) (co)]) rfl rfl Try.func53 rfl rfl) rfl ((c_sum (a := ao) (n := n) (c := co) (by rw [body_len]; omega) (by omega) m150.arr).mono ?_))))
  rintro e w39 ⟨he, hb11⟩
  refine ⟨.int .u32 (Crc.I (Crc.sum (bodyB m))), by rw [he], ?_⟩
  clear he
  have s30 := Sb hb11
  have m152 := m150.stp s30 (m150.notNew (Nat.le_refl _))
  have b41 := s30.below b26 b26.size b26.size
  refine Fx.L.call (by rfl) (rC (args := [.slice ao (n) (co), .int .u32 (Crc.I (Crc.sum (bodyB m))), .int .i64 (4)]) rfl rfl Try.func52 rfl rfl) rfl ((p_u32 ao n co (bodyB m) (Crc.I (Crc.sum (bodyB m))) 4 _ (by decide) (crc_u _) (by rw [body_len]; omega) (by omega) m152.arr).mono ?_)
  rintro e9 w40 ⟨ab9, cb9, he, hm10, hb12⟩
  refine ⟨_, he, ?_⟩
  clear he
  have s31 := Sb hb12
  have b42 := s31.below b41 b41.size b41.size
  have m153 : Fx.Own w40 w.heap.size 5 1 (.slice ab9 (n + 4) (cb9)) (n + 4) (Fx.byY (bodyB m ++ be 4 (Crc.I (Crc.sum (bodyB m))))) := hm10.mono b41.size
  refine Lv (.slice ab9 (n + 4) (cb9)) (x_assign rfl rfl) (Ln (sN (Wr (⟨.slice ab9 (n + 4) (cb9), rV Try.results14 (by exact rfl), ?_⟩))))
  rw [putB_y hM]; have l9 : (bytesB m).length = n + 4 := by unfold bytesB; rw [List.length_append, body_len, be_len]; omega
  exact ⟨ab9, cb9, by rw [l9], by rw [l9]; exact m153, b42⟩
 rw [Bool.not_eq_true] at c13
 refine Fx.L.call (by rfl) (rC (args := [.agg (Fx.varr 20 (stY (stS m na nc ga gc)))]) rfl rfl Try.func12 rfl rfl) rfl ((s_may m na nc ga gc _ hm.r.k hm.l1 hm.l2 (hm.up b1).n (hm.up b1).g).mono ?_)
 rintro e w41 ⟨he, hb13⟩
 refine ⟨.bool false, by rw [he, c13], ?_⟩
 clear he
 have s32 := Sb hb13
 have b43 := s32.below b1 b1.size b1.size
 refine Lv (.bool true) (Fx.x_notT rfl rfl) (Ln (sN (Wc (b := true) rfl (fun _ => Ws (Wl (Lv (.slice none 0 0) (x_assign rfl rfl) ?_))) (fun h => nomatch h))))
 refine Ln (sN (Wr (sR (⟨.slice none 0 0, rV Try.results14 (by exact rfl), ?_⟩))))
 rw [putB_n c13]; exact ⟨none, 0, rfl, Fx.Own.nil _ _ _ _ _, b43⟩
end Go.Proofs.Ytcbedgfikejkoaa
namespace Go.Proofs.Ytcbedgfikejkoaa
open Go.RowKit Go
set_option linter.unusedVariables false
namespace Rt
theorem u8_bd (x : UInt8) : 0 ≤ (x.toNat : Int) ∧ (x.toNat : Int) ≤ 255 := by have := x.toNat_lt; omega
theorem val_app (l : List UInt8) (c : UInt8) : valB (l ++ [c]) = valB l * 256 + (c.toNat : Int) := by
  unfold valB; rw [List.foldl_append]; rfl
theorem val_bd (l : List UInt8) : 0 ≤ valB l ∧ valB l < 256 ^ l.length := by
  have h : ∀ (k : Nat) (l : List UInt8), l.length = k → 0 ≤ valB l ∧ valB l < 256 ^ k := by
    intro k
    induction k with
    | zero =>
      intro l hl
      rw [List.length_eq_zero_iff.1 hl]
      exact ⟨Int.le_refl _, by decide⟩
    | succ k ih =>
      intro l hl
      have hne : l ≠ [] := fun e => by rw [e] at hl; simp at hl
      obtain ⟨r, c, rfl⟩ : ∃ r c, l = r ++ [c] := ⟨l.dropLast, l.getLast hne, (List.dropLast_concat_getLast hne).symm⟩
      rw [List.length_append] at hl
      have hk : r.length = k := by simpa using hl
      obtain ⟨h1, h2⟩ := ih r hk
      have hc := u8_bd c
      rw [val_app]
      have e : (256 : Int) ^ (k + 1) = 256 ^ k * 256 := Int.pow_succ ..
      rw [e]
      omega
  exact h l.length l rfl
theorem val_take {l : List UInt8} {i : Nat} (h : i < 8) : 0 ≤ valB (l.take i) ∧ valB (l.take i) ≤ 72057594037927935 := by
  obtain ⟨h1, h2⟩ := val_bd (l.take i)
  refine ⟨h1, ?_⟩
  have hle : (l.take i).length ≤ 7 := by rw [List.length_take]; omega
  have : ∀ n, n ≤ 7 → (256 : Int) ^ n ≤ 72057594037927936 := by decide
  have := this _ hle
  omega
theorem val_step {l : List UInt8} {i : Nat} (h : i < l.length) : valB (l.take (i + 1)) = 256 * valB (l.take i) + ((l.getD i 0).toNat : Int) := by
  rw [List.take_add_one, List.getElem?_eq_getElem h, List.getD_eq_getElem?_getD, List.getElem?_eq_getElem h]
  show valB (l.take i ++ [l[i]]) = _
  rw [val_app]
  simp
  omega
theorem or256 {a b : Int} (h0 : 0 ≤ a ∧ a ≤ 72057594037927935) (hb : 0 ≤ b ∧ b ≤ 255) : bits .or .u64 (256 * a) b = 256 * a + b := by
  obtain ⟨n, rfl⟩ := Int.eq_ofNat_of_zero_le h0.1
  obtain ⟨m, rfl⟩ := Int.eq_ofNat_of_zero_le hb.1
  have e : ((BitVec.ofInt 64 (256 * (n : Int)) ||| BitVec.ofInt 64 (m : Int)).toNat : Int) = 256 * (n : Int) + m := by
    rw [BitVec.toNat_or, BitVec.toNat_ofInt, BitVec.toNat_ofInt]
    rw [show ((256 * (n : Int)) % ((2 ^ 64 : Nat) : Int)).toNat = 256 * n by omega, show ((m : Int) % ((2 ^ 64 : Nat) : Int)).toNat = m by omega]
    have h := Nat.shiftLeft_add_eq_or_of_lt (i := 8) (b := m) (by omega) n
    rw [Nat.shiftLeft_eq] at h
    rw [show 256 * n = n * 2 ^ 8 by omega, ← h]
    omega
  show IntKind.u64.wrap ((BitVec.ofInt 64 (256 * (n : Int)) ||| BitVec.ofInt 64 (m : Int)).toNat : Int) = _
  rw [e]; exact Fx.u64e (by omega) rfl
theorem or_step {l : List UInt8} {i : Nat} (h : i < l.length) (h8 : i < 8) : bits .or .u64 (256 * valB (l.take i)) ((l.getD i 0).toNat : Int) = valB (l.take (i + 1)) := by
  rw [or256 (val_take h8) (u8_bd _), val_step h]
theorem val_top {l : List UInt8} (h : l.length ≤ 8) : 0 ≤ valB l ∧ valB l ≤ 18446744073709551615 := by
  obtain ⟨h1, h2⟩ := val_bd l
  have : ∀ n, n ≤ 8 → (256 : Int) ^ n ≤ 18446744073709551616 := by decide
  have := this _ h
  omega
theorem by_part {l : List UInt8} {p k : Nat} : ∀ q, q < k * 1 → (fun q => Fx.byY l (p * 1 + q)) q = Fx.byY ((l.drop p).take k) q := fun q hq => by
  show Fx.byY l (p * 1 + q) = _
  unfold Fx.byY
  rw [List.getD_eq_getElem?_getD, List.getD_eq_getElem?_getD, List.getElem?_take, if_pos (by omega), List.getElem?_drop, Nat.mul_one]
theorem part_len {l : List UInt8} {p k : Nat} (h : p + k ≤ l.length) : ((l.drop p).take k).length = k := by
  rw [List.length_take, List.length_drop]; omega
theorem arr_part {w : World} {a : Option Addr} {l : List UInt8} {p k n : Nat} (h : Fx.Arr w a n 1 (fun q => Fx.byY l (p * 1 + q))) (e : n = k) : Fx.Arr w a k 1 (Fx.byY ((l.drop p).take k)) := fun h0 => by
  subst e
  obtain ⟨b, off, ea, hc⟩ := h h0
  exact ⟨b, off, ea, fun i hi => (hc i hi).trans (congrArg some (by_part i hi))⟩
end Rt
end Go.Proofs.Ytcbedgfikejkoaa
namespace Go.Proofs.Ytcbedgfikejkoaa
open Go.RowKit Rt
open Fx (x_move x_assign x_field x_load1 x_pickF x_pickT x_nil x_conv x_indexS x_index x_leqF x_loadA x_len x_gtrF x_build x_eqlF x_eqlT Lv sN Ln Ws Qv Wl Rp Wc Qs Wr Sb Lk Wk rC rV sR)
theorem o_takeN (a : Option Addr) (n c : Nat) (l : List UInt8) (p k : Nat) (w : World) (hk : k = 1 ∨ k = 2 ∨ k = 4 ∨ k = 8) (hp : p ≤ n) (hn : n = l.length) (hc : n ≤ c) (hl : n ≤ 100000000) (hb : Fx.Arr w a n 1 (Fx.byY l)) (hs : n < p + k) :
    Calls Try.prog 65 #[.slice a (n) (c), .int .i64 ((p : Int)), .int .i64 ((k : Int))] w fun e w' => e = .returned (.tuple #[.int .u64 0, .int .i64 0, .int .i64 5]) ∧ Below w.heap.size w w' := by
 refine Fx.enter Try.func65 rfl (n := 48) rfl (by rfl) ?_
 refine Ws (Wl (Lv (.int .u64 (0)) (x_assign rfl rfl) (Lv (.int .i64 (0)) (x_assign rfl rfl) (Lv (.int .i64 (0)) (x_assign rfl rfl) (Ln (sN (Ws (Fx.W.block (Ws (Ws (Wl (Lv (.int .i64 ((k : Int))) (x_move rfl rfl) (Fx.L.call (by rfl) (rC (args := [.int .i64 ((k : Int))]) rfl rfl Try.func82 rfl rfl) rfl ((o_width k (8 * k) hk rfl _).mono ?_))))))))))))))
 rintro e v1 ⟨he, hv1⟩
 subst v1
 refine ⟨.int .i64 (((8 * k : Nat) : Int)), by rw [he], ?_⟩
 clear he
 refine Lv (.bool false) (x_eqlF rfl rfl rfl (by omega)) (Lv (.bool false) (x_assign rfl rfl) (Ln (sN (Wc (b := false) rfl (fun h => nomatch h) (fun _ => Ws (Wl (Lv (.int .i64 ((p : Int))) (x_move rfl rfl) (Lv (.bool false) (Fx.x_lssF rfl rfl rfl (by omega)) (Lv (.bool false) (x_assign rfl rfl) (Ln (sN (Wc (b := false) rfl (fun h => nomatch h) (fun _ => Wl (Lv (.int .i64 ((p : Int))) (x_move rfl rfl) (Lv (.slice a (n) (c)) (x_move rfl rfl) (Lv (.int .i64 ((n : Int))) (x_len rfl rfl rfl (by kernel_rfl)) (Lv (.bool false) (x_gtrF rfl rfl rfl (by omega)) (Lv (.bool false) (x_assign rfl rfl) (Ln (sN (Wc (b := false) rfl (fun h => nomatch h) (fun _ => Ws (Wl (Lv (.slice a (n) (c)) (x_move rfl rfl) (Lv (.int .i64 ((n : Int))) (x_len rfl rfl rfl (by kernel_rfl)) (Lv (.int .i64 ((p : Int))) (x_move rfl rfl) (Lv (.int .i64 ((n : Int) - (p : Int))) (Fx.x_sub rfl rfl rfl Fx.io) (Lv (.int .i64 ((k : Int))) (x_move rfl rfl) (Lv (.bool true) (Fx.x_lssT rfl rfl rfl (by omega)) (Lv (.bool true) (x_assign rfl rfl) (Ln (sN (Wc (b := true) rfl (fun _ => Ws (Wl (Lv (.int .u64 (0)) (x_assign rfl rfl) ?_))) (fun h => nomatch h))))))))))))))))))))))))))))))))))
 refine Lv (.int .i64 (0)) (x_assign rfl rfl) (Lv (.int .i64 (5)) (x_assign rfl rfl) (Ln (sN (Wr (Fx.blkR (sR (⟨.tuple #[.int .u64 (0), .int .i64 (0), .int .i64 (5)], Fx.retV3 Try.results65 (by exact rfl) (by exact rfl) (by exact rfl), ?_⟩)))))))
 exact ⟨rfl, (Below.refl w.heap.size w)⟩
theorem o_takeY (a : Option Addr) (n c : Nat) (l : List UInt8) (p k : Nat) (w : World) (hk : k = 1 ∨ k = 2 ∨ k = 4 ∨ k = 8) (hp : p ≤ n) (hn : n = l.length) (hc : n ≤ c) (hl : n ≤ 100000000) (hb : Fx.Arr w a n 1 (Fx.byY l)) (hs : p + k ≤ n) :
    Calls Try.prog 65 #[.slice a (n) (c), .int .i64 ((p : Int)), .int .i64 ((k : Int))] w fun e w' => e = .returned (.tuple #[.int .u64 (valB ((l.drop p).take k)), .int .i64 ((p + k : Nat) : Int), .int .i64 0]) ∧ Below w.heap.size w w' := by
 refine Fx.enter Try.func65 rfl (n := 48) rfl (by rfl) ?_
 refine Ws (Wl (Lv (.int .u64 (0)) (x_assign rfl rfl) (Lv (.int .i64 (0)) (x_assign rfl rfl) (Lv (.int .i64 (0)) (x_assign rfl rfl) (Ln (sN (Ws (Fx.W.block (Ws (Ws (Wl (Lv (.int .i64 ((k : Int))) (x_move rfl rfl) (Fx.L.call (by rfl) (rC (args := [.int .i64 ((k : Int))]) rfl rfl Try.func82 rfl rfl) rfl ((o_width k (8 * k) hk rfl _).mono ?_))))))))))))))
 rintro e v1 ⟨he, hv1⟩
 subst v1
 refine ⟨.int .i64 (((8 * k : Nat) : Int)), by rw [he], ?_⟩
 clear he
 refine Lv (.bool false) (x_eqlF rfl rfl rfl (by omega)) (Lv (.bool false) (x_assign rfl rfl) (Ln (sN (Wc (b := false) rfl (fun h => nomatch h) (fun _ => Ws (Wl (Lv (.int .i64 ((p : Int))) (x_move rfl rfl) (Lv (.bool false) (Fx.x_lssF rfl rfl rfl (by omega)) (Lv (.bool false) (x_assign rfl rfl) (Ln (sN (Wc (b := false) rfl (fun h => nomatch h) (fun _ => Wl (Lv (.int .i64 ((p : Int))) (x_move rfl rfl) (Lv (.slice a (n) (c)) (x_move rfl rfl) (Lv (.int .i64 ((n : Int))) (x_len rfl rfl rfl (by kernel_rfl)) (Lv (.bool false) (x_gtrF rfl rfl rfl (by omega)) (Lv (.bool false) (x_assign rfl rfl) (Ln (sN (Wc (b := false) rfl (fun h => nomatch h) (fun _ => Ws (Wl (Lv (.slice a (n) (c)) (x_move rfl rfl) (Lv (.int .i64 ((n : Int))) (x_len rfl rfl rfl (by kernel_rfl)) (Lv (.int .i64 ((p : Int))) (x_move rfl rfl) (Lv (.int .i64 ((n : Int) - (p : Int))) (Fx.x_sub rfl rfl rfl Fx.io) (Lv (.int .i64 ((k : Int))) (x_move rfl rfl) (Lv (.bool false) (Fx.x_lssF rfl rfl rfl (by omega)) (Lv (.bool false) (x_assign rfl rfl) (Ln (sN (Wc (b := false) rfl (fun h => nomatch h) (fun _ => Wk (Fx.blkN (sN (Ws (Wl (Lv (.int .i64 ((p : Int))) (x_move rfl rfl) (Lv (.int .i64 ((k : Int))) (x_move rfl rfl) (Lv (.int .i64 (((p + k : Nat) : Int))) (Fx.x_add rfl rfl rfl Fx.io) (Lv (.int .i64 (((p + k : Nat) : Int))) (x_assign rfl rfl) (Ln (sN (Ws (Ws (Wl (Lv (.slice a (n) (c)) (x_move rfl rfl) (Lv (.int .i64 ((p : Int))) (x_move rfl rfl) (Lv (.int .i64 (((p + k : Nat) : Int))) (x_move rfl rfl) (Fx.L.sl (j := p) (h := p + k) (s := 1) (y := Fx.byY l) (by rfl) (by rfl) rfl rfl (by rw [if_neg (by rintro ⟨_, h⟩; cases h)]; exact congrArg some rfl) (by rw [if_neg (by rintro ⟨_, h⟩; cases h)]; exact congrArg some rfl) Try.underlying30 (by kernel_rfl) (by omega) (by omega) hc (hb.up (Below.refl w.heap.size w) rfl) fun as1 has1 => ?_)))))))))))))))))))))))))))))))))))))))))))))))))))
 obtain ⟨pt, ept⟩ : ∃ q, q = (l.drop p).take k := ⟨_, rfl⟩
 have hpl : pt.length = k := by rw [ept]; exact part_len (by omega)
 have hpt : Fx.Arr w as1 k 1 (Fx.byY pt) := by rw [ept]; exact arr_part has1 (by omega)
 refine Lv (.int .i64 ((k : Int))) (x_len rfl rfl (congrArg (fun q => Value.slice as1 q (c - p)) (show (p + k - p) = k by omega)) (by kernel_rfl)) (Lv (.int .i64 (0)) (x_move rfl rfl) (Ln (sN (Fx.W.block (Fx.W.loop (fun f w_ => ∃ i : Nat, i ≤ k ∧ f 6 = .int .u64 (valB (pt.take i)) ∧ f 7 = .int .i64 (((p + k : Nat) : Int)) ∧ f 34 = .slice as1 (k) ((c - p)) ∧ f 35 = .int .i64 ((k : Int)) ∧ f 36 = .int .i64 ((i : Int)) ∧ Below w.heap.size w w_) (fun f _ => (k - (intOf (f 36)).toNat)) ⟨0, by omega, (congrArg (Value.int .u64) (show (0 : Int) = valB (pt.take 0) from rfl)), Fx.ic, (congrArg (fun q => Value.slice as1 q (c - p)) (show (p + k - p) = k by omega)), Fx.ic, Fx.ic, (Below.refl w.heap.size w)⟩ ?_)))))
 rintro f1 w1 ⟨i, hi, h1, h2, h3, h4, h5, b1⟩
 refine Ws (Wl ?_)
 by_cases c37 : (i : Int) < (k : Int)
 ·refine Lv (.bool true) (Fx.x_lssT rfl h5 h4 c37) (Ln (sN (Ws (Wc (b := true) rfl (fun _ => Wk (sN (Ws (Fx.W.block (Ws ?_))))) (fun h => nomatch h)))))
  have hv8 := val_take (l := pt) (show i < 8 by omega)
  have hcb := u8_bd (pt.getD i 0)
  refine Wl ?_
  obtain ⟨bq1, oq1, eq1, m1⟩ := (hpt.up b1 rfl) (by omega)
  have lbq1 : bq1 < w1.heap.size := m1.lt (by omega)
  refine Lv ((pf bq1 (i + oq1))) (x_indexS rfl (h3.trans (congrArg (fun q => Value.slice q (k) ((c - p))) eq1)) h5 Try.underlying30 (s := 1) (by kernel_rfl) (by omega) (by omega) (by omega)) (Lv (.int .u8 ((((pt).getD i 0).toNat : Int))) (x_load1 (x := Fx.byY pt) rfl rfl (by kernel_rfl) m1 (i := i) (by omega) (by omega) rfl) (Lv (.int .u8 ((((pt).getD i 0).toNat : Int))) (x_assign rfl rfl) (Ln (sN (Wl (Lv (.int .u64 (valB (pt.take i))) (x_move rfl h1) (Lv (.int .u64 (256 * valB (pt.take i))) (Fx.x_shl (b := 8) rfl rfl rfl (by decide) (Fx.u64e (by omega) (by omega))) (Lv (.int .u8 ((((pt).getD i 0).toNat : Int))) (x_move rfl rfl) (Lv (.int .u64 ((((pt).getD i 0).toNat : Int))) (x_conv rfl rfl (by kernel_rfl) Try.underlying23 (Fx.u64e (by omega) rfl)) (Lv (.int .u64 (valB (pt.take (i + 1)))) (Fx.x_or rfl rfl rfl (or_step (by omega) (by omega))) (Lv (.int .u64 (valB (pt.take (i + 1)))) (x_assign rfl rfl) (Ln (Fx.blkN (sN (Wl (Lv (.int .i64 ((i : Int) + 1)) (Fx.x_add rfl h5 rfl Fx.io) (Lv (.int .i64 ((i : Int) + 1)) (x_move rfl rfl) (Ln (Fx.lpN ⟨i + 1, by omega, (by rfl), (h2.trans Fx.ic), h3, (h4.trans Fx.ic), Fx.ic, b1⟩ ?_)))))))))))))))))))
  show (k - (intOf ((.int .i64 ((i : Int) + 1)))).toNat) < _
  simp only [h5, intOf]; omega
 refine Lv (.bool false) (Fx.x_lssF rfl h5 h4 c37) (Ln (sN (Ws (Wc (b := false) rfl (fun h => nomatch h) (fun _ => Fx.W.exit (Fx.seqX (Fx.lpX (Fx.blkX (sN (Ws (Wl (Lv (.int .u64 (valB (pt.take i))) (x_move rfl h1) (Lv (.int .i64 (((p + k : Nat) : Int))) (x_move rfl h2) (Lv (.int .u64 (valB (pt.take i))) (x_assign rfl rfl) (Lv (.int .i64 (((p + k : Nat) : Int))) (x_assign rfl rfl) (Lv (.int .i64 (0)) (x_assign rfl rfl) (Ln (sN (Wr (⟨.tuple #[.int .u64 (valB (pt.take i)), .int .i64 (((p + k : Nat) : Int)), .int .i64 (0)], Fx.retV3 Try.results65 (by exact rfl) (by exact rfl) (by exact rfl), ?_⟩))))))))))))))))))))
 have e9 := List.take_of_length_le (show pt.length ≤ i by omega)
 exact ⟨by rw [← ept, e9], b1⟩
section
namespace Rt
def ctY (a : Option Addr) (n c : Nat) (s : Ct) : Nat → Value := fun j => if j = 0 then .slice a n c else if j = 1 then .int .i64 (s.1 : Int) else .bool s.2
section
variable {l : List UInt8} {s : Ct} {k n i : Nat}
theorem cut_y (h : s.2 = true ∨ l.length < s.1 + k) (hs : s.1 ≤ l.length) : cutS l s k = (s.1, true) ∧ cutV l s k = 0 := by
  have h : s.2 = true ∨ l.length - s.1 < k := h.imp id (fun h => by omega)
  unfold cutS cutV; rw [if_pos h, if_pos h]; exact ⟨rfl, rfl⟩
theorem cut_n (h : s.2 = false) (h2 : ¬ l.length < s.1 + k) (hs : s.1 ≤ l.length) : cutS l s k = (s.1 + k, false) ∧ cutV l s k = valB ((l.drop s.1).take k) := by
  have h : ¬ (s.2 = true ∨ l.length - s.1 < k) := fun q => q.elim (fun q => by rw [h] at q; cases q) (fun q => by omega)
  unfold cutS cutV; rw [if_neg h, if_neg h]; exact ⟨rfl, rfl⟩
theorem cut_le (hs : s.1 ≤ l.length) : (cutS l s k).1 ≤ l.length := by
  by_cases h : s.2 = true ∨ l.length < s.1 + k
  · rw [(cut_y h hs).1]; exact hs
  have h1 : s.2 = false := by cases e : s.2; rfl; exact absurd (.inl e) h
  rw [(cut_n h1 (fun q => h (.inr q)) hs).1]; show s.1 + k ≤ _; have := fun q => h (.inr q); omega
theorem cutN_le (hs : s.1 ≤ l.length) : ∀ n, (cutN l k n s).1 ≤ l.length
  | 0 => hs
  | n + 1 => cut_le (cutN_le hs n)
theorem cutV_bd (hk : k ≤ 8) : 0 ≤ cutV l s k ∧ cutV l s k ≤ 18446744073709551615 := by
  unfold cutV
  split
  · exact ⟨Int.le_refl _, by decide⟩
  exact val_top (by rw [List.length_take]; omega)
end
theorem o_take {a : Option Addr} {n c : Nat} {l : List UInt8} {p k : Nat} {w : World} (hk : k = 1 ∨ k = 2 ∨ k = 4 ∨ k = 8) (hp : p ≤ n) (hn : n = l.length) (hc : n ≤ c) (hl : n ≤ 100000000) (hb : Fx.Arr w a n 1 (Fx.byY l)) :
    Calls Try.prog 65 #[.slice a n c, .int .i64 (p : Int), .int .i64 (k : Int)] w fun e w' => e = .returned (.tuple #[.int .u64 (if l.length < p + k then 0 else valB ((l.drop p).take k)), .int .i64 (if l.length < p + k then 0 else ((p + k : Nat) : Int)), .int .i64 (if l.length < p + k then 5 else 0)]) ∧ Below w.heap.size w w' := by
  by_cases h : l.length < p + k
  · rw [if_pos h, if_pos h, if_pos h]; exact o_takeN a n c l p k w hk hp hn hc hl hb (by omega)
  rw [if_neg h, if_neg h, if_neg h]; exact o_takeY a n c l p k w hk hp hn hc hl hb (by omega)
end Rt
theorem c_number (gc : Nat) (a : Option Addr) (n c : Nat) (l : List UInt8) (s : Ct) (k : Nat) (w : World) (hk : k = 1 ∨ k = 2 ∨ k = 4 ∨ k = 8) (hs : s.1 ≤ n) (hn : n = l.length) (hc : n ≤ c) (hl : n ≤ 100000000) (hb : Fx.Arr w a n 1 (Fx.byY l)) (hg : Fx.Blk w gc 3 (ctY a n c s) 66) :
    Calls Try.prog 29 #[(pt gc), .int .i64 ((k : Int))] w fun e w' => e = .returned (.int .u64 (cutV l s k)) ∧ Fx.Blk w' gc 3 (ctY a n c (cutS l s k)) 66 ∧ Fx.Stp gc w w' := by
 refine Fx.enter Try.func29 rfl (n := 42) rfl (by rfl) ?_
 refine Ws (Wl (Lv (.int .u64 (0)) (x_assign rfl rfl) (Ln (sN (Ws ?_)))))
 -- region 1 draws
 refine Fx.W.quiet (fun v1 => Below w.heap.size w v1) (by kernel_rfl) (by kernel_rfl) (Below.refl _ _).drew ?_
 refine Qv ((pt gc)) (fun v1 hv1 => x_move rfl rfl) (Qv ((pt gc)) (fun v1 hv1 => x_nil rfl rfl) (Qv ((pt gc)) (fun v1 hv1 => x_field rfl rfl Try.underlying66 rfl (s := 1) (by kernel_rfl) rfl rfl) (Qv (.slice a (n) (c)) (fun v1 hv1 => x_load1 (x := ctY a n c s) rfl rfl (by kernel_rfl) (hg.cel.below hv1 (by have := hg.lt; omega)) (i := 0) (by omega) (by omega) rfl) (Qv ((pt gc)) (fun v1 hv1 => x_move rfl rfl) (Qv ((pt gc)) (fun v1 hv1 => x_nil rfl rfl) (Qv ((pf gc 1)) (fun v1 hv1 => x_field rfl rfl Try.underlying66 rfl (s := 1) (by kernel_rfl) rfl (by show _ + 1 = _; omega)) (Qv (.int .i64 ((s.1 : Int))) (fun v1 hv1 => x_load1 (x := ctY a n c s) rfl rfl (by kernel_rfl) (hg.cel.below hv1 (by have := hg.lt; omega)) (i := 1) (by omega) (by omega) rfl) (Qv (.int .i64 ((k : Int))) (fun v1 hv1 => x_move rfl rfl) (Fx.Qt.call (v := .tuple #[.int .u64 ((if l.length < s.1 + k then 0 else valB ((l.drop s.1).take k))), .int .i64 ((if l.length < s.1 + k then 0 else ((s.1 + k : Nat) : Int))), .int .i64 ((if l.length < s.1 + k then (5 : Int) else 0))]) (by rfl) (fun v1 hv1 => rC (args := [.slice a (n) (c), .int .i64 ((s.1 : Int)), .int .i64 ((k : Int))]) rfl rfl Try.func65 rfl rfl) rfl (fun v1 hv1 => (o_take hk hs hn hc hl (hb.up hv1 rfl)).mono fun e v2 h => ⟨h.1, bch hv1 h.2⟩) ?_)))))))))
 refine Qv (.tuple #[.int .u64 ((if l.length < s.1 + k then 0 else valB ((l.drop s.1).take k))), .int .i64 ((if l.length < s.1 + k then 0 else ((s.1 + k : Nat) : Int))), .int .i64 ((if l.length < s.1 + k then (5 : Int) else 0))]) (fun v1 hv1 => x_move rfl rfl) (Qv (.int .u64 ((if l.length < s.1 + k then 0 else valB ((l.drop s.1).take k)))) (fun v1 hv1 => Fx.x_extract rfl rfl rfl) (Qv (.int .i64 ((if l.length < s.1 + k then 0 else ((s.1 + k : Nat) : Int)))) (fun v1 hv1 => Fx.x_extract rfl rfl rfl) (Qv (.int .i64 ((if l.length < s.1 + k then (5 : Int) else 0))) (fun v1 hv1 => Fx.x_extract rfl rfl rfl) (Qv (.int .u64 ((if l.length < s.1 + k then 0 else valB ((l.drop s.1).take k)))) (fun v1 hv1 => x_assign rfl rfl) (Qv (.int .i64 ((if l.length < s.1 + k then 0 else ((s.1 + k : Nat) : Int)))) (fun v1 hv1 => x_assign rfl rfl) (Qv (.int .i64 ((if l.length < s.1 + k then (5 : Int) else 0))) (fun v1 hv1 => x_assign rfl rfl) (Fx.Qt.nil ?_)))))))
 intro wb1 hbwb1
 have s1 : Fx.Stp w.heap.size w wb1 := Sb hbwb1
 have m1 := hg.stp s1 hg.ne
 have b1 := (Fx.Stp.refl gc w).then s1 (.inr (Fx.Stp.refl gc w).size)
 refine sN (Ws (Ws (Wl (Lv ((pt gc)) (x_move rfl rfl) (Lv ((pt gc)) (x_move rfl rfl) (Lv ((pt gc)) (x_nil rfl rfl) (Lv ((pf gc 2)) (x_field rfl rfl Try.underlying66 rfl (s := 1) (by kernel_rfl) rfl (by show _ + 2 = _; omega)) ?_)))))))
 by_cases c26 : s.2 = true
 ·refine Lv (.bool true) (x_load1 (x := ctY a n c s) rfl rfl (by kernel_rfl) m1.cel (i := 2) (by omega) (by omega) ((show _ = Value.bool s.2 from rfl).trans (congrArg Value.bool c26))) (Lv (.bool true) (x_move rfl rfl) (Lk (by rfl) rfl (Lk (by rfl) rfl (Lv (.bool true) (x_pickT rfl rfl rfl) (Lv ((pt gc)) (x_nil rfl rfl) (Lv ((pf gc 2)) (x_field rfl rfl Try.underlying66 rfl (s := 1) (by kernel_rfl) rfl (by show _ + 2 = _; omega)) (Fx.L.store1 (x := ctY a n c s) (u := .bool true) (by rfl) rfl rfl rfl rfl (by rfl) (by kernel_rfl) m1 (i := 2) (by omega) fun w1 m2 s2 z1 => ?_)))))))
  have b2 := b1.then s2 (by omega)
  refine Ln (sN (Ws (Wl (Lv ((pt gc)) (x_move rfl rfl) (Lv ((pt gc)) (x_nil rfl rfl) (Lv ((pf gc 2)) (x_field rfl rfl Try.underlying66 rfl (s := 1) (by kernel_rfl) rfl (by show _ + 2 = _; omega)) (Lv (.bool true) (x_load1 (x := Fx.updV (ctY a n c s) 2 (.bool true)) rfl rfl (by kernel_rfl) m2.cel (i := 2) (by omega) (by omega) (Fx.updV_eq (by omega))) (Ln (sN (Wc (b := true) rfl (fun _ => Ws (Wl (Lv (.int .u64 (0)) (x_assign rfl rfl) ?_))) (fun h => nomatch h)))))))))))
  refine Ln (sN (Wr (sR (⟨.int .u64 (0), rV Try.results29 (by exact rfl), ?_⟩))))
  have hcy := cut_y (l := l) (s := s) (k := k) (.inl c26) (by omega)
  refine ⟨by rw [hcy.2], ?_, b2⟩
  rw [hcy.1]; exact m2.congr (fun j hj => by rcases j with _|_|_|j <;> first | rfl | omega)
 rw [Bool.not_eq_true] at c26
 refine Lv (.bool false) (x_load1 (x := ctY a n c s) rfl rfl (by kernel_rfl) m1.cel (i := 2) (by omega) (by omega) ((show _ = Value.bool s.2 from rfl).trans (congrArg Value.bool c26))) (Lv (.bool false) (x_move rfl rfl) (Lv (.int .i64 ((if l.length < s.1 + k then (5 : Int) else 0))) (x_move rfl rfl) ?_))
 by_cases c29 : (if l.length < s.1 + k then (5 : Int) else 0) = 0
 ·refine Lv (.bool false) (Fx.x_neqF rfl rfl rfl c29) (Lv (.bool false) (x_pickF rfl rfl rfl) (Lv ((pt gc)) (x_nil rfl rfl) (Lv ((pf gc 2)) (x_field rfl rfl Try.underlying66 rfl (s := 1) (by kernel_rfl) rfl (by show _ + 2 = _; omega)) (Fx.L.store1 (x := ctY a n c s) (u := .bool false) (by rfl) rfl rfl rfl rfl (by rfl) (by kernel_rfl) m1 (i := 2) (by omega) fun w2 m3 s3 z2 => ?_))))
  have b3 := b1.then s3 (by omega)
  refine Ln (sN (Ws (Wl (Lv ((pt gc)) (x_move rfl rfl) (Lv ((pt gc)) (x_nil rfl rfl) (Lv ((pf gc 2)) (x_field rfl rfl Try.underlying66 rfl (s := 1) (by kernel_rfl) rfl (by show _ + 2 = _; omega)) (Lv (.bool false) (x_load1 (x := Fx.updV (ctY a n c s) 2 (.bool false)) rfl rfl (by kernel_rfl) m3.cel (i := 2) (by omega) (by omega) (Fx.updV_eq (by omega))) (Ln (sN (Wc (b := false) rfl (fun h => nomatch h) (fun _ => Wk (sN (Ws (Wl (Lv ((pt gc)) (x_move rfl rfl) (Lv (.int .i64 ((if l.length < s.1 + k then 0 else ((s.1 + k : Nat) : Int)))) (x_move rfl rfl) (Lv ((pt gc)) (x_nil rfl rfl) (Lv ((pf gc 1)) (x_field rfl rfl Try.underlying66 rfl (s := 1) (by kernel_rfl) rfl (by show _ + 1 = _; omega)) (Fx.L.store1 (x := Fx.updV (ctY a n c s) 2 (.bool false)) (u := .int .i64 ((if l.length < s.1 + k then 0 else ((s.1 + k : Nat) : Int)))) (by rfl) rfl rfl rfl rfl (by rfl) (by kernel_rfl) m3 (i := 1) (by omega) fun w3 m4 s4 z3 => ?_)))))))))))))))))))
  have b4 := b3.then s4 (by omega)
  refine Ln (sN (Ws (Wl (Lv (.int .u64 ((if l.length < s.1 + k then 0 else valB ((l.drop s.1).take k)))) (x_move rfl rfl) (Lv (.int .u64 ((if l.length < s.1 + k then 0 else valB ((l.drop s.1).take k)))) (x_assign rfl rfl) (Ln (sN (Wr (⟨.int .u64 ((if l.length < s.1 + k then 0 else valB ((l.drop s.1).take k))), rV Try.results29 (by exact rfl), ?_⟩)))))))))
  have hq : ¬ l.length < s.1 + k := fun q => by rw [if_pos q] at c29; exact absurd c29 (by decide)
  have hcy := cut_n (l := l) (s := s) (k := k) c26 hq (by omega)
  refine ⟨by rw [hcy.2, if_neg hq], ?_, b4⟩
  rw [hcy.1]; exact m4.congr (fun j hj => by rw [if_neg hq]; rcases j with _|_|_|j <;> first | rfl | omega)
 refine Lv (.bool true) (Fx.x_neqT rfl rfl rfl c29) (Lv (.bool true) (x_pickF rfl rfl rfl) (Lv ((pt gc)) (x_nil rfl rfl) (Lv ((pf gc 2)) (x_field rfl rfl Try.underlying66 rfl (s := 1) (by kernel_rfl) rfl (by show _ + 2 = _; omega)) (Fx.L.store1 (x := ctY a n c s) (u := .bool true) (by rfl) rfl rfl rfl rfl (by rfl) (by kernel_rfl) m1 (i := 2) (by omega) fun w4 m5 s5 z4 => ?_))))
 have b5 := b1.then s5 (by omega)
 refine Ln (sN (Ws (Wl (Lv ((pt gc)) (x_move rfl rfl) (Lv ((pt gc)) (x_nil rfl rfl) (Lv ((pf gc 2)) (x_field rfl rfl Try.underlying66 rfl (s := 1) (by kernel_rfl) rfl (by show _ + 2 = _; omega)) (Lv (.bool true) (x_load1 (x := Fx.updV (ctY a n c s) 2 (.bool true)) rfl rfl (by kernel_rfl) m5.cel (i := 2) (by omega) (by omega) (Fx.updV_eq (by omega))) (Ln (sN (Wc (b := true) rfl (fun _ => Ws (Wl (Lv (.int .u64 (0)) (x_assign rfl rfl) ?_))) (fun h => nomatch h)))))))))))
 refine Ln (sN (Wr (sR (⟨.int .u64 (0), rV Try.results29 (by exact rfl), ?_⟩))))
 have hcy := cut_y (l := l) (s := s) (k := k) (.inr (Classical.byContradiction fun q => c29 (if_neg q))) (by omega)
 refine ⟨by rw [hcy.2], ?_, b5⟩
 rw [hcy.1]; exact m5.congr (fun j hj => by rcases j with _|_|_|j <;> first | rfl | omega)
end
namespace Rt
theorem ovr_row (Y : Nat → Value) (off i : Nat) (kx : Nat → Value) {N : Nat} {v : Value} (hv : v = kx i) : ∀ j, j < N → Fx.updV (Fx.ovr Y off i kx) (i + off) v j = Fx.ovr Y off (i + 1) kx j := fun j _ => by
  subst hv
  unfold Fx.updV Fx.ovr
  by_cases c : j = i + off
  · rw [if_pos c, if_pos (by omega), c, Nat.add_sub_cancel]
  · rw [if_neg c]
    by_cases c2 : off ≤ j ∧ j < off + i
    · rw [if_pos c2, if_pos (by omega)]
    · rw [if_neg c2, if_neg (by omega)]
end Rt
theorem c_manyu (gc gt : Nat) (a : Option Addr) (n c : Nat) (l : List UInt8) (s : Ct) (off m rc : Nat) (Y : Nat → Value) (w : World) (hs : s.1 ≤ n) (hn : n = l.length) (hc : n ≤ c) (hl : n ≤ 100000000) (hm : off + m ≤ 20) (hA : ∀ w', Fx.Chg (fun q => q = gc ∨ q = gt) w w' → Fx.Arr w' a n 1 (Fx.byY l)) (hg : Fx.Blk w gc 3 (ctY a n c s) 66) (ht : Fx.Blk w gt 20 Y 29) :
    Calls Try.prog 30 #[(pt gc), .slice (some ⟨gt, off, none⟩) (m) (rc)] w fun e w' => e = .returned (.tuple #[]) ∧ Fx.Blk w' gc 3 (ctY a n c (cutN l 8 m s)) 66 ∧ Fx.Blk w' gt 20 (Fx.ovr Y off m (Fx.rv .u64 (rowV l s 8))) 29 ∧ Fx.Chg (fun q => q = gc ∨ q = gt) w w' := by
 have lgc := hg.lt
 have lgt := ht.lt
 have ne9 : gc ≠ gt := fun e => absurd (Fx.Ty.only (e ▸ hg.ty) ht.ty) (by decide)
 refine Fx.enter Try.func30 rfl (n := 16) rfl (by rfl) ?_
 refine Ws ?_
 have m1 : Fx.Blk w gt 20 (Fx.ovr Y off 0 (Fx.rv .u64 (rowV l s 8))) 29 := ht.congr (fun j _ => (by unfold Fx.ovr; rw [if_neg (by omega)]))
 refine Wl (Lv (.slice (some ⟨gt, off, none⟩) (m) (rc)) (x_move rfl rfl) (Lv (.int .i64 ((m : Int))) (x_len rfl rfl rfl (by kernel_rfl)) (Lv (.int .i64 (0)) (x_move rfl rfl) (Ln (sN (Fx.W.block (Fx.W.loop (fun f w_ => ∃ i : Nat, i ≤ m ∧ f 0 = (pt gc) ∧ f 1 = .slice (some ⟨gt, off, none⟩) (m) (rc) ∧ f 5 = .slice (some ⟨gt, off, none⟩) (m) (rc) ∧ f 6 = .int .i64 ((m : Int)) ∧ f 7 = .int .i64 ((i : Int)) ∧ Fx.Blk w_ gc 3 (ctY a n c (cutN l 8 i s)) 66 ∧ Fx.Blk w_ gt 20 (Fx.ovr Y off i (Fx.rv .u64 (rowV l s 8))) 29 ∧ Fx.Chg (fun q => q = gc ∨ q = gt) w w_) (fun f _ => (m - (intOf (f 7)).toNat)) ⟨0, by omega, (by rfl), (by rfl), (by rfl), Fx.ic, Fx.ic, hg, m1, (Fx.Chg.refl _ w)⟩ ?_)))))))
 rintro f1 w1 ⟨i, hi, h1, h2, h3, h4, h5, m2, m3, b1⟩
 refine Ws (Wl ?_)
 by_cases c8 : (i : Int) < (m : Int)
 ·refine Lv (.bool true) (Fx.x_lssT rfl h5 h4 c8) (Ln (sN (Ws (Wc (b := true) rfl (fun _ => Wk (sN (Ws (Fx.W.block (Ws (Wl (Lv (.int .i64 ((i : Int))) (x_move rfl h5) ?_))))))) (fun h => nomatch h)))))
  refine Lv (.int .i64 ((i : Int))) (x_assign rfl rfl) (Ln (sN (Wl (Lv (.slice (some ⟨gt, off, none⟩) (m) (rc)) (x_move rfl h2) (Lv (.int .i64 ((i : Int))) (x_move rfl rfl) (Lv ((pt gc)) (x_move rfl h1) (Fx.L.call (by rfl) (rC (args := [(pt gc), .int .i64 (8)]) rfl rfl Try.func29 rfl rfl) rfl ((c_number gc a n c l (cutN l 8 i s) 8 _ (by omega) (by rw [hn]; exact cutN_le (by omega) i) hn hc hl (hA _ b1) m2).mono ?_))))))))
  rintro e9 w2 ⟨he, hq1, s1⟩
  refine ⟨_, he, ?_⟩
  clear he
  have hct1 := Fx.ChT.of_stp s1 m2.ty
  have m4 := m3.chT hct1 (by decide)
  have b2 := b1.then s1 (.inl (.inl rfl))
  refine Lv ((pf gt (i + off))) (x_indexS rfl rfl rfl Try.underlying69 (s := 1) (by kernel_rfl) (by omega) (by omega) (by omega)) (Fx.L.store1 (x := Fx.ovr Y off i (Fx.rv .u64 (rowV l s 8))) (u := .int .u64 (rowV l s 8 i)) (by rfl) rfl rfl rfl rfl (by rfl) (by kernel_rfl) m4 (i := i + off) (by omega) fun w3 m5 s2 z1 => ?_)
  have m6 : Fx.Blk w3 gt 20 (Fx.ovr Y off (i + 1) (Fx.rv .u64 (rowV l s 8))) 29 := m5.congr (ovr_row _ _ _ _ rfl)
  have hct2 := Fx.ChT.of_stp s2 m4.ty
  have m7 := hq1.chT hct2 (by decide)
  have b3 := b2.then s2 (.inl (.inr rfl))
  refine Ln (Fx.blkN (sN (Wl (Lv (.int .i64 ((i : Int) + 1)) (Fx.x_add rfl h5 rfl Fx.io) (Lv (.int .i64 ((i : Int) + 1)) (x_move rfl rfl) (Ln (Fx.lpN ⟨i + 1, by omega, h1, h2, h3, (h4.trans Fx.ic), Fx.ic, m7, m6, b3⟩ ?_)))))))
  show (m - (intOf ((.int .i64 ((i : Int) + 1)))).toNat) < _
  simp only [h5, intOf]; omega
 refine Lv (.bool false) (Fx.x_lssF rfl h5 h4 c8) (Ln (sN (Ws (Wc (b := false) rfl (fun h => nomatch h) (fun _ => Fx.W.exit (Fx.seqX (Fx.lpX (Fx.blkX (⟨.tuple #[], Fx.ret0 Try.results30, ?_⟩)))))))))
 have ei : i = m := by omega
 exact ⟨rfl, by rw [← ei]; exact m2, by rw [← ei]; exact m3, b1⟩
theorem c_manyi (gc gt : Nat) (a : Option Addr) (n c : Nat) (l : List UInt8) (s : Ct) (off m rc : Nat) (Y : Nat → Value) (w : World) (hs : s.1 ≤ n) (hn : n = l.length) (hc : n ≤ c) (hl : n ≤ 100000000) (hm : off + m ≤ 56) (hA : ∀ w', Fx.Chg (fun q => q = gc ∨ q = gt) w w' → Fx.Arr w' a n 1 (Fx.byY l)) (hg : Fx.Blk w gc 3 (ctY a n c s) 66) (ht : Fx.Blk w gt 56 Y 50) :
    Calls Try.prog 32 #[(pt gc), .slice (some ⟨gt, off, none⟩) (m) (rc)] w fun e w' => e = .returned (.tuple #[]) ∧ Fx.Blk w' gc 3 (ctY a n c (cutN l 8 m s)) 66 ∧ Fx.Blk w' gt 56 (Fx.ovr Y off m (Fx.rv .i64 (fun q => i64w (rowV l s 8 q)))) 50 ∧ Fx.Chg (fun q => q = gc ∨ q = gt) w w' := by
 have lgc := hg.lt
 have lgt := ht.lt
 have ne9 : gc ≠ gt := fun e => absurd (Fx.Ty.only (e ▸ hg.ty) ht.ty) (by decide)
 refine Fx.enter Try.func32 rfl (n := 17) rfl (by rfl) ?_
 refine Ws ?_
 have m1 : Fx.Blk w gt 56 (Fx.ovr Y off 0 (Fx.rv .i64 (fun q => i64w (rowV l s 8 q)))) 50 := ht.congr (fun j _ => (by unfold Fx.ovr; rw [if_neg (by omega)]))
 refine Wl (Lv (.slice (some ⟨gt, off, none⟩) (m) (rc)) (x_move rfl rfl) (Lv (.int .i64 ((m : Int))) (x_len rfl rfl rfl (by kernel_rfl)) (Lv (.int .i64 (0)) (x_move rfl rfl) (Ln (sN (Fx.W.block (Fx.W.loop (fun f w_ => ∃ i : Nat, i ≤ m ∧ f 0 = (pt gc) ∧ f 1 = .slice (some ⟨gt, off, none⟩) (m) (rc) ∧ f 5 = .slice (some ⟨gt, off, none⟩) (m) (rc) ∧ f 6 = .int .i64 ((m : Int)) ∧ f 7 = .int .i64 ((i : Int)) ∧ Fx.Blk w_ gc 3 (ctY a n c (cutN l 8 i s)) 66 ∧ Fx.Blk w_ gt 56 (Fx.ovr Y off i (Fx.rv .i64 (fun q => i64w (rowV l s 8 q)))) 50 ∧ Fx.Chg (fun q => q = gc ∨ q = gt) w w_) (fun f _ => (m - (intOf (f 7)).toNat)) ⟨0, by omega, (by rfl), (by rfl), (by rfl), Fx.ic, Fx.ic, hg, m1, (Fx.Chg.refl _ w)⟩ ?_)))))))
 rintro f1 w1 ⟨i, hi, h1, h2, h3, h4, h5, m2, m3, b1⟩
 refine Ws (Wl ?_)
 by_cases c8 : (i : Int) < (m : Int)
 ·refine Lv (.bool true) (Fx.x_lssT rfl h5 h4 c8) (Ln (sN (Ws (Wc (b := true) rfl (fun _ => Wk (sN (Ws (Fx.W.block (Ws (Wl (Lv (.int .i64 ((i : Int))) (x_move rfl h5) ?_))))))) (fun h => nomatch h)))))
  refine Lv (.int .i64 ((i : Int))) (x_assign rfl rfl) (Ln (sN (Wl (Lv (.slice (some ⟨gt, off, none⟩) (m) (rc)) (x_move rfl h2) (Lv (.int .i64 ((i : Int))) (x_move rfl rfl) (Lv ((pt gc)) (x_move rfl h1) (Fx.L.call (by rfl) (rC (args := [(pt gc), .int .i64 (8)]) rfl rfl Try.func29 rfl rfl) rfl ((c_number gc a n c l (cutN l 8 i s) 8 _ (by omega) (by rw [hn]; exact cutN_le (by omega) i) hn hc hl (hA _ b1) m2).mono ?_))))))))
  rintro e9 w2 ⟨he, hq1, s1⟩
  refine ⟨_, he, ?_⟩
  clear he
  have hct1 := Fx.ChT.of_stp s1 m2.ty
  have m4 := m3.chT hct1 (by decide)
  have b2 := b1.then s1 (.inl (.inl rfl))
  refine Lv (.int .i64 (i64w (rowV l s 8 i))) (x_conv rfl rfl (by kernel_rfl) Try.underlying2 rfl) (Lv ((pf gt (i + off))) (x_indexS rfl rfl rfl Try.underlying73 (s := 1) (by kernel_rfl) (by omega) (by omega) (by omega)) (Fx.L.store1 (x := Fx.ovr Y off i (Fx.rv .i64 (fun q => i64w (rowV l s 8 q)))) (u := .int .i64 (i64w (rowV l s 8 i))) (by rfl) rfl rfl rfl rfl (by rfl) (by kernel_rfl) m4 (i := i + off) (by omega) fun w3 m5 s2 z1 => ?_))
  have m6 : Fx.Blk w3 gt 56 (Fx.ovr Y off (i + 1) (Fx.rv .i64 (fun q => i64w (rowV l s 8 q)))) 50 := m5.congr (ovr_row _ _ _ _ rfl)
  have hct2 := Fx.ChT.of_stp s2 m4.ty
  have m7 := hq1.chT hct2 (by decide)
  have b3 := b2.then s2 (.inl (.inr rfl))
  refine Ln (Fx.blkN (sN (Wl (Lv (.int .i64 ((i : Int) + 1)) (Fx.x_add rfl h5 rfl Fx.io) (Lv (.int .i64 ((i : Int) + 1)) (x_move rfl rfl) (Ln (Fx.lpN ⟨i + 1, by omega, h1, h2, h3, (h4.trans Fx.ic), Fx.ic, m7, m6, b3⟩ ?_)))))))
  show (m - (intOf ((.int .i64 ((i : Int) + 1)))).toNat) < _
  simp only [h5, intOf]; omega
 refine Lv (.bool false) (Fx.x_lssF rfl h5 h4 c8) (Ln (sN (Ws (Wc (b := false) rfl (fun h => nomatch h) (fun _ => Fx.W.exit (Fx.seqX (Fx.lpX (Fx.blkX (⟨.tuple #[], Fx.ret0 Try.results32, ?_⟩)))))))))
 have ei : i = m := by omega
 exact ⟨rfl, by rw [← ei]; exact m2, by rw [← ei]; exact m3, b1⟩
section
set_option linter.unusedVariables false
namespace Rt
theorem and1 {x : Int} (h : 0 ≤ x ∧ x ≤ 18446744073709551615) : bits .and .u64 x 1 = x % 2 := by
  obtain ⟨n, rfl⟩ := Int.eq_ofNat_of_zero_le h.1
  have e : ((BitVec.ofInt 64 (n : Int) &&& BitVec.ofInt 64 (1 : Int)).toNat : Int) = (n : Int) % 2 := by
    rw [BitVec.toNat_and, BitVec.toNat_ofInt, BitVec.toNat_ofInt]
    rw [show ((n : Int) % ((2 ^ 64 : Nat) : Int)).toNat = n by omega, show ((1 : Int) % ((2 ^ 64 : Nat) : Int)).toNat = 1 by decide, Nat.and_one_is_mod]
    omega
  show IntKind.u64.wrap ((BitVec.ofInt 64 (n : Int) &&& BitVec.ofInt 64 (1 : Int)).toNat : Int) = _
  rw [e]; exact Fx.u64e (by omega) rfl
theorem nat_and2 (n : Nat) : n &&& 2 = 2 * (n / 2 % 2) := by
  have h1 : (n &&& 2) / 2 = n / 2 % 2 := by rw [Nat.and_div_two]; exact Nat.and_one_is_mod _
  have h2 : (n &&& 2) % 2 = 0 := by rw [Nat.and_mod_two_pow (n := 1)]; simp
  omega
theorem and2 {x : Int} (h : 0 ≤ x ∧ x ≤ 18446744073709551615) : bits .and .u64 x 2 = 2 * (x / 2 % 2) := by
  obtain ⟨n, rfl⟩ := Int.eq_ofNat_of_zero_le h.1
  have e : ((BitVec.ofInt 64 (n : Int) &&& BitVec.ofInt 64 (2 : Int)).toNat : Int) = 2 * ((n : Int) / 2 % 2) := by
    rw [BitVec.toNat_and, BitVec.toNat_ofInt, BitVec.toNat_ofInt]
    rw [show ((n : Int) % ((2 ^ 64 : Nat) : Int)).toNat = n by omega, show ((2 : Int) % ((2 ^ 64 : Nat) : Int)).toNat = 2 by decide, nat_and2]
    omega
  show IntKind.u64.wrap ((BitVec.ofInt 64 (n : Int) &&& BitVec.ofInt 64 (2 : Int)).toNat : Int) = _
  rw [e]; exact Fx.u64e (by omega) rfl
section
variable {l : List UInt8} {s : Ct}
theorem cutN_add (l : List UInt8) (k a : Nat) (s : Ct) : ∀ b, cutN l k b (cutN l k a s) = cutN l k (a + b) s
  | 0 => rfl
  | b + 1 => by show cutS l (cutN l k b (cutN l k a s)) k = cutS l (cutN l k (a + b) s) k; rw [cutN_add l k a s b]
theorem rowV_add (l : List UInt8) (k a b : Nat) (s : Ct) : rowV l (cutN l k a s) k b = rowV l s k (a + b) := by unfold rowV; rw [cutN_add]
theorem row_u (k i : Nat) (hk : k ≤ 8) : U64r (rowV l s k i) := cutV_bd hk
theorem i64w_r (x : Int) : I64r (i64w x) := by
  unfold i64w IntKind.wrap I64r
  simp only [IntKind.bits, IntKind.signed]
  simp
  split <;> omega
theorem cut1 : 0 ≤ cutV l s 1 ∧ cutV l s 1 ≤ 255 := by
  unfold cutV
  split
  · exact ⟨Int.le_refl _, by decide⟩
  obtain ⟨h1, h2⟩ := val_bd ((l.drop s.1).take 1)
  have h3 : ((l.drop s.1).take 1).length ≤ 1 := by rw [List.length_take]; omega
  have : ∀ n, n ≤ 1 → (256 : Int) ^ n ≤ 256 := by decide
  have := this _ h3
  omega
theorem cut2 : 0 ≤ cutV l s 2 ∧ cutV l s 2 ≤ 65535 := by
  unfold cutV
  split
  · exact ⟨Int.le_refl _, by decide⟩
  obtain ⟨h1, h2⟩ := val_bd ((l.drop s.1).take 2)
  have h3 : ((l.drop s.1).take 2).length ≤ 2 := by rw [List.length_take]; omega
  have : ∀ n, n ≤ 2 → (256 : Int) ^ n ≤ 65536 := by decide
  have := this _ h3
  omega
def GM (l : List UInt8) (i j : Nat) : StM := ⟨fun q => if q < i then decide (rowV l (s4 l) 1 q % 2 = 1) else false, fun q => if q < j then decide (rowV l (s4 l) 1 q / 2 % 2 = 1) else false, fun _ => 0, none, 0, 0, none, 0, 0⟩
theorem GM_0 (l : List UInt8) : ∀ j, j < 20 → stY mz j = stY (GM l 0 0) j := stY_cong (m := mz) (k := GM l 0 0) (fun q _ => by show false = (if q < 0 then decide (rowV l (s4 l) 1 q % 2 = 1) else false); rw [if_neg (Nat.not_lt_zero q)]) (fun q _ => by show false = (if q < 0 then decide (rowV l (s4 l) 1 q / 2 % 2 = 1) else false); rw [if_neg (Nat.not_lt_zero q)]) (fun _ _ => rfl) rfl rfl
theorem set_lt {P : Nat → Bool} {i q : Nat} {v : Bool} (hv : v = P i) : (if q = i then v else if q < i then P q else false) = (if q < i + 1 then P q else false) := by
  by_cases e : q = i
  · rw [if_pos e, if_pos (by omega), e, hv]
  rw [if_neg e]
  by_cases c : q < i
  · rw [if_pos c, if_pos (by omega)]
  rw [if_neg c, if_neg (by omega)]
theorem stY_setIn (M : StM) {i : Nat} {v : Bool} (hi : i < 6) : ∀ j, j < 20 → Fx.updV (stY M) i (.bool v) j = stY { M with inn := fun q => if q = i then v else M.inn q } j := fun j hj => by
  unfold Fx.updV
  by_cases c1 : j < 6
  · rw [stY_in _ c1, stY_in _ c1]; show _ = Value.bool (if j = i then v else M.inn j); split <;> rfl
  · rw [if_neg (by omega)]; unfold stY; rw [if_neg c1, if_neg c1]
theorem stY_setLeft (M : StM) {i p : Nat} {v : Bool} (hi : i < 6) (hp : p = 6 + i) : ∀ j, j < 20 → Fx.updV (stY M) p (.bool v) j = stY { M with left := fun q => if q = i then v else M.left q } j := fun j hj => by
  subst hp
  unfold Fx.updV
  by_cases c1 : j < 6
  · rw [if_neg (by omega), stY_in _ c1, stY_in _ c1]
  · by_cases c2 : j < 12
    · rw [stY_left (p := j - 6) M (by omega) (by omega), stY_left (p := j - 6) _ (by omega) (by omega)]
      show _ = Value.bool (if j - 6 = i then v else M.left (j - 6))
      by_cases e : j = 6 + i
      · rw [if_pos e, if_pos (by omega)]
      · rw [if_neg e, if_neg (by omega)]
    · rw [if_neg (by omega)]; unfold stY; rw [if_neg c1, if_neg c1, if_neg c2, if_neg c2]
theorem G_in {i : Nat} {v : Bool} (hi : i < 6) (hv : v = decide (rowV l (s4 l) 1 i % 2 = 1)) : ∀ j, j < 20 → Fx.updV (stY (GM l i i)) i (.bool v) j = stY (GM l (i + 1) i) j := fun j hj => by
  rw [stY_setIn _ hi j hj]
  exact stY_cong (m := { GM l i i with inn := fun q => if q = i then v else (GM l i i).inn q }) (k := GM l (i + 1) i) (fun q _ => set_lt (P := fun q => decide (rowV l (s4 l) 1 q % 2 = 1)) hv) (fun _ _ => rfl) (fun _ _ => rfl) rfl rfl j hj
theorem G_left {i p : Nat} {v : Bool} (hi : i < 6) (hp : p = 6 + i) (hv : v = decide (rowV l (s4 l) 1 i / 2 % 2 = 1)) : ∀ j, j < 20 → Fx.updV (stY (GM l (i + 1) i)) p (.bool v) j = stY (GM l (i + 1) (i + 1)) j := fun j hj => by
  rw [stY_setLeft _ hi hp j hj]
  exact stY_cong (m := { GM l (i + 1) i with left := fun q => if q = i then v else (GM l (i + 1) i).left q }) (k := GM l (i + 1) (i + 1)) (fun _ _ => rfl) (fun q _ => set_lt (P := fun q => decide (rowV l (s4 l) 1 q / 2 % 2 = 1)) hv) (fun _ _ => rfl) rfl rfl j hj
def GN (l : List UInt8) (na : Option Addr) (nn nc : Nat) (ga : Option Addr) (gn gc : Nat) : StM := ⟨fun i => decide (rowV l (s4 l) 1 i % 2 = 1), fun i => decide (rowV l (s4 l) 1 i / 2 % 2 = 1), fun i => rowV l (s10 l) 8 i, na, nn, nc, ga, gn, gc⟩
theorem G_known (l : List UInt8) : ∀ j, j < 20 → Fx.ovr (stY (GM l 6 6)) 12 6 (Fx.rv .u64 (rowV l (s10 l) 8)) j = stY (GN l none 0 0 none 0 0) j := fun j hj => by
  unfold Fx.ovr
  by_cases c : 12 ≤ j ∧ j < 12 + 6
  · rw [if_pos c]; exact (stY_known (p := j - 12) (q := j) (GN l none 0 0 none 0 0) (by omega) (by omega)).symm
  · rw [if_neg c]
    by_cases c1 : j < 6
    · rw [stY_in _ c1, stY_in _ c1]; exact congrArg Value.bool (if_pos c1)
    · by_cases c2 : j < 12
      · rw [stY_left (p := j - 6) _ (by omega) (by omega), stY_left (p := j - 6) _ (by omega) (by omega)]; exact congrArg Value.bool (if_pos (by omega))
      · have h18 : ¬ j < 18 := by omega
        unfold stY; rw [if_neg c1, if_neg c1, if_neg c2, if_neg c2, if_neg h18, if_neg h18]; rfl
theorem stY_18 (M : StM) : stY M 18 = .slice M.na M.nn M.nc := rfl
theorem stY_19 (M : StM) : stY M 19 = .slice M.ga M.gn M.gc := rfl
theorem G_ns {na na' ga : Option Addr} {nn nc nn' nc' gn gc : Nat} : ∀ j, j < 20 → Fx.updV (stY (GN l na nn nc ga gn gc)) 18 (.slice na' nn' nc') j = stY (GN l na' nn' nc' ga gn gc) j := fun j hj => by
  unfold Fx.updV
  by_cases e : j = 18
  · subst e; rw [if_pos rfl, stY_18]; rfl
  · rw [if_neg e]
    by_cases c1 : j < 6
    · rw [stY_in _ c1, stY_in _ c1]; rfl
    · by_cases c2 : j < 12
      · rw [stY_left (p := j - 6) _ (by omega) (by omega), stY_left (p := j - 6) _ (by omega) (by omega)]; rfl
      · by_cases c3 : j < 18
        · rw [stY_known (p := j - 12) _ (by omega) (by omega), stY_known (p := j - 12) _ (by omega) (by omega)]; rfl
        · have : j = 19 := by omega
          subst this; rw [stY_19, stY_19]; rfl
theorem G_gs {na ga ga' : Option Addr} {nn nc gn gc gn' gc' : Nat} : ∀ j, j < 20 → Fx.updV (stY (GN l na nn nc ga gn gc)) 19 (.slice ga' gn' gc') j = stY (GN l na nn nc ga' gn' gc') j := fun j hj => by
  unfold Fx.updV
  by_cases e : j = 19
  · subst e; rw [if_pos rfl, stY_19]; rfl
  · rw [if_neg e]
    by_cases c1 : j < 6
    · rw [stY_in _ c1, stY_in _ c1]; rfl
    · by_cases c2 : j < 12
      · rw [stY_left (p := j - 6) _ (by omega) (by omega), stY_left (p := j - 6) _ (by omega) (by omega)]; rfl
      · by_cases c3 : j < 18
        · rw [stY_known (p := j - 12) _ (by omega) (by omega), stY_known (p := j - 12) _ (by omega) (by omega)]; rfl
        · have : j = 18 := by omega
          subst this; rw [stY_18, stY_18]; rfl
theorem G_end {na ga : Option Addr} {nc gc : Nat} : stY (GN l na (nsV l).1.length nc ga (gsV l).1.length gc) = stY (stS (rawV l) na nc ga gc) := by unfold GN stS rawV; rfl
def ndQ (l : List UInt8) (s : Ct) (q : Nat) : NdM := ⟨rowV l s 8 0, rowV l s 8 1, fun p => if p < 6 * q then i64w (rowV l s 8 (2 + p)) else 0⟩
theorem ndZ_R' (x : NdM) {j p : Nat} (h : j = p + 2) : ndZ x j = .int .i64 (x.R p) := by subst h; unfold ndZ ndY; rw [if_neg (by omega), if_neg (by omega)]; rfl
theorem nq_step {q : Nat} (hq : q < 9) : ∀ j, j < 56 → Fx.ovr (ndZ (ndQ l s q)) (2 + 6 * q) 6 (Fx.rv .i64 (fun i => i64w (rowV l (cutN l 8 (2 + 6 * q) s) 8 i))) j = ndZ (ndQ l s (q + 1)) j := fun j hj => by
  unfold Fx.ovr
  by_cases c0 : j = 0
  · subst c0; rw [if_neg (by omega)]; rfl
  · by_cases c1 : j = 1
    · subst c1; rw [if_neg (by omega)]; rfl
    · obtain ⟨p, rfl⟩ : ∃ p, j = p + 2 := ⟨j - 2, by omega⟩
      rw [ndZ_R' (ndQ l s (q + 1)) rfl]
      show _ = Value.int .i64 (if p < 6 * (q + 1) then i64w (rowV l s 8 (2 + p)) else 0)
      by_cases c : 2 + 6 * q ≤ p + 2 ∧ p + 2 < 2 + 6 * q + 6
      · rw [if_pos c, if_pos (by omega)]
        show Value.int .i64 (i64w (rowV l (cutN l 8 (2 + 6 * q) s) 8 (p + 2 - (2 + 6 * q)))) = _
        rw [rowV_add, show 2 + 6 * q + (p + 2 - (2 + 6 * q)) = 2 + p by omega]
      · rw [if_neg c, ndZ_R' (ndQ l s q) rfl]
        show Value.int .i64 (if p < 6 * q then i64w (rowV l s 8 (2 + p)) else 0) = _
        by_cases c3 : p < 6 * q
        · rw [if_pos c3, if_pos (by omega)]
        · rw [if_neg c3, if_neg (by omega)]
theorem nq_end : ∀ j, j < 56 → ndZ (ndQ l s 9) j = ndZ (ndV l s) j := fun j hj => by
  match j, hj with
  | 0, _ => rfl
  | 1, _ => rfl
  | p + 2, hj => rw [ndZ_R' (ndQ l s 9) rfl, ndZ_R' (ndV l s) rfl]; exact congrArg (Value.int .i64) (if_pos (by omega))
theorem nds_step {r : Nat} (h : 0 < r) (hs : s.2 = false) : ndsV l r s = (ndV l s :: (ndsV l (r - 1) (ndS l s)).1, (ndsV l (r - 1) (ndS l s)).2) := by
  cases r with
  | zero => cases h
  | succ r =>
    show (if s.2 = true then ([], s) else (ndV l s :: (ndsV l r (ndS l s)).1, (ndsV l r (ndS l s)).2)) = _
    exact if_neg (by rw [hs]; decide)
theorem nds_end {r : Nat} (h : r = 0 ∨ s.2 = true) : ndsV l r s = ([], s) := by
  cases r with
  | zero => rfl
  | succ r =>
    show (if s.2 = true then ([], s) else (ndV l s :: (ndsV l r (ndS l s)).1, (ndsV l r (ndS l s)).2)) = _
    exact if_pos (h.resolve_left (by omega))
theorem grs_step {r : Nat} (h : 0 < r) (hs : s.2 = false) : grsV l r s = (grV l s :: (grsV l (r - 1) (grS l s)).1, (grsV l (r - 1) (grS l s)).2) := by
  cases r with
  | zero => cases h
  | succ r =>
    show (if s.2 = true then ([], s) else (grV l s :: (grsV l r (grS l s)).1, (grsV l r (grS l s)).2)) = _
    exact if_neg (by rw [hs]; decide)
theorem grs_end {r : Nat} (h : r = 0 ∨ s.2 = true) : grsV l r s = ([], s) := by
  cases r with
  | zero => rfl
  | succ r =>
    show (if s.2 = true then ([], s) else (grV l s :: (grsV l r (grS l s)).1, (grsV l r (grS l s)).2)) = _
    exact if_pos (h.resolve_left (by omega))
theorem ol_step {α : Type} {ol a : List α} {x : α} {t : List α} {S : Ct} {p : List α × Ct} (h : ol ++ p.1 = a) (e : p = (x :: t, S)) : (ol ++ [x]) ++ t = a := by rw [← h, e]; simp
theorem ndsV_r : ∀ (n : Nat) (s : Ct), (∀ x ∈ (ndsV l n s).1, NdR x) ∧ (ndsV l n s).1.length ≤ n
  | 0, s => ⟨fun x hx => (nomatch hx), Nat.le_refl _⟩
  | n + 1, s => by
    unfold ndsV
    split
    · exact ⟨fun x hx => (nomatch hx), Nat.zero_le _⟩
    · obtain ⟨h1, h2⟩ := ndsV_r n (ndS l s)
      refine ⟨fun x hx => ?_, Nat.succ_le_succ h2⟩
      rcases List.mem_cons.1 hx with rfl | hx
      · exact ⟨row_u _ _ (by decide), row_u _ _ (by decide), fun p _ => i64w_r _⟩
      · exact h1 x hx
theorem grsV_r : ∀ (n : Nat) (s : Ct), (∀ x ∈ (grsV l n s).1, GrR x) ∧ (grsV l n s).1.length ≤ n
  | 0, s => ⟨fun x hx => (nomatch hx), Nat.le_refl _⟩
  | n + 1, s => by
    unfold grsV
    split
    · exact ⟨fun x hx => (nomatch hx), Nat.zero_le _⟩
    · obtain ⟨h1, h2⟩ := grsV_r n (grS l s)
      refine ⟨fun x hx => ?_, Nat.succ_le_succ h2⟩
      rcases List.mem_cons.1 hx with rfl | hx
      · have := @cut1 l s
        exact ⟨⟨by show -9223372036854775808 ≤ cutV l s 1; omega, by show cutV l s 1 ≤ 9223372036854775807; omega⟩, row_u _ _ (by decide), row_u _ _ (by decide), i64w_r _, row_u _ _ (by decide)⟩
      · exact h1 x hx
theorem nn_le : nnV l ≤ 65535 := by unfold nnV; have := @cut2 l (s58 l); omega
theorem gn_le : gnV l ≤ 65535 := by unfold gnV; have := @cut2 l (nsV l).2; omega
theorem raw_r : SnR (rawV l) := ⟨fun i _ => row_u _ _ (by decide), (ndsV_r _ _).1, (grsV_r _ _).1⟩
theorem raw_len : (rawV l).ns.length ≤ 65535 ∧ (rawV l).gs.length ≤ 65535 := ⟨Nat.le_trans (ndsV_r _ _).2 nn_le, Nat.le_trans (grsV_r _ _).2 gn_le⟩
end
open Classical in
theorem get_y {l : List UInt8} (h : GetP l) : getV l = rawV l ∧ getE l = 0 := ⟨if_pos h, if_pos h⟩
open Classical in
theorem get_n {l : List UInt8} (h : ¬ GetP l) : getV l = sn0 ∧ getE l = 5 := ⟨if_neg h, if_neg h⟩
open Classical in
theorem getV_r (l : List UInt8) : SnR (getV l) ∧ (getV l).ns.length ≤ 65535 ∧ (getV l).gs.length ≤ 65535 := by
  unfold getV; split
  · exact ⟨raw_r, raw_len⟩
  exact ⟨sn0_r, Nat.zero_le _, Nat.zero_le _⟩
end Rt
end
set_option linter.unusedVariables false
theorem Rt.nq_zero {l : List UInt8} {s : Ct} {z : Nat → Value} (hz : ∀ p, z (p + 2) = .int .i64 0) : ∀ j, j < 56 → Fx.ovr (Fx.ovr z 0 1 (fun _ => .int .u64 (rowV l s 8 0))) 1 1 (fun _ => .int .u64 (rowV l s 8 1)) j = ndZ (ndQ l s 0) j := fun j hj => by
  match j, hj with
  | 0, _ => rfl
  | 1, _ => rfl
  | p + 2, hj =>
    unfold Fx.ovr
    rw [if_neg (by omega), if_neg (by omega), hz, ndZ_R' (ndQ l s 0) rfl]
    show Value.int .i64 0 = Value.int .i64 (if p < 6 * 0 then i64w (rowV l s 8 (2 + p)) else 0)
    rw [if_neg (by omega)]
theorem b_equal (aa ba : Option Addr) (na ca nb cb : Nat) (la lb : List UInt8) (w : World) (hla : na = la.length) (hlb : nb = lb.length) (ha : Fx.Arr w aa na 1 (Fx.byY la)) (hb : Fx.Arr w ba nb 1 (Fx.byY lb)) :
    Calls Try.prog 33 #[.slice aa (na) (ca), .slice ba (nb) (cb)] w fun e w' => e = .returned (.bool (decide (la = lb))) ∧ w' = w := by
 refine Fx.enter Try.func33 rfl (n := 10) rfl (by rfl) ?_
 refine Ws (Wl (Lv (.bool false) (x_assign rfl rfl) (Ln (sN (Ws (Wl (Lv (.slice aa (na) (ca)) (x_move rfl rfl) (Lv (.string (Fx.strL la)) (Fx.x_bstr (l := la) rfl rfl Try.underlying30 Try.underlying5 Try.underlying9 hla ha) (Lv (.slice ba (nb) (cb)) (x_move rfl rfl) (Lv (.string (Fx.strL lb)) (Fx.x_bstr (l := lb) rfl rfl Try.underlying30 Try.underlying5 Try.underlying9 hlb hb) (Lv (.bool (decide (la = lb))) (Fx.x_eqlS rfl rfl rfl) (Lv (.bool (decide (la = lb))) (x_assign rfl rfl) (Ln (sN (Wr (⟨.bool (decide (la = lb)), rV Try.results33 (by exact rfl), ?_⟩))))))))))))))))
 exact ⟨rfl, rfl⟩
set_option maxRecDepth 20000 in
set_option maxHeartbeats 8000000 in
theorem s_get (a : Option Addr) (n c : Nat) (l : List UInt8) (w : World) (hn : n = l.length) (hc : n ≤ c) (hl : n ≤ 100000000) (hb : Fx.Arr w a n 1 (Fx.byY l)) :
    Calls Try.prog 10 #[.slice a (n) (c)] w fun e w' => ∃ na nc ga gc, e = .returned (.tuple #[.agg (Fx.varr 20 (stY (stS (getV l) na nc ga gc))), .int .i64 (getE l)]) ∧ Fx.Own w' w.heap.size 50 56 (.slice na (getV l).ns.length nc) (getV l).ns.length (ndsX (getV l).ns) ∧ Fx.Own w' w.heap.size 59 5 (.slice ga (getV l).gs.length gc) (getV l).gs.length (grsX (getV l).gs) ∧ Below w.heap.size w w' := by
 refine Fx.enter Try.func10 rfl (n := 128) rfl (by rfl) ?_
 refine Ws (Wl (Fx.L.new (m := 20) (y := fun zq => if zq < 12 then .bool false else if zq < 18 then .int .u64 (0) else .slice none 0 0) (by rfl) rfl (by kernel_rfl) rfl fun g1 w1 eg1 m1 s1 z1 => ?_))
 have b1 := s1.below (Below.refl w.heap.size w) (Below.refl w.heap.size w).size (Below.refl w.heap.size w).size
 have lg1 : w.heap.size ≤ g1 := by rw [eg1]; exact (Below.refl w.heap.size w).size
 have tg1 : g1 < w1.heap.size := m1.lt
 clear eg1
 refine Lv (.int .i64 (0)) (x_assign rfl rfl) (Ln (sN (Ws (Wl (Lv (.slice a (n) (c)) (x_move rfl rfl) (Lv (.agg (Fx.varr 3 (Fx.ovr (fun zq => if zq < 1 then .slice none 0 0 else if zq < 2 then .int .i64 (0) else .bool false) 0 1 (fun _ => .slice a (n) (c))))) (x_build (vs := [(0, .slice a (n) (c))]) (places := #[(0, 1), (1, 1), (2, 1)]) (m := 3) (x := fun zq => if zq < 1 then .slice none 0 0 else if zq < 2 then .int .i64 (0) else .bool false) rfl rfl Try.underlying66 (by kernel_rfl) (by kernel_rfl) (by rw [Fx.fill_step (off := 0) (s := 1) (y := fun _ => .slice a (n) (c)) (by kernel_rfl) (Fx.cells_one (by rfl)) (by rfl)]; rfl)) (Fx.L.box (m := 3) (y := Fx.ovr (fun zq => if zq < 1 then .slice none 0 0 else if zq < 2 then .int .i64 (0) else .bool false) 0 1 (fun _ => .slice a (n) (c))) (by rfl) rfl rfl (Fx.cells_agg _ _) rfl fun g2 w2 eg2 m2 s2 z2 => ?_)))))))
 have m3 := m1.stp s2 m1.ne
 have b2 := s2.below b1 b1.size b1.size
 have lg2 : w.heap.size ≤ g2 := by rw [eg2]; exact b1.size
 have ng2m3 : g1 ≠ g2 := by rw [eg2]; exact Nat.ne_of_lt (m1.lt)
 have tg2 : g2 < w2.heap.size := m2.lt
 clear eg2
 refine Lv ((pt g2)) (x_assign rfl rfl) (Ln (sN (Ws ?_)))
 have m4 : Fx.Blk w2 g2 3 (ctY a n c (0, false)) 66 := m2.congr (fun j hj => match j, hj with | 0, _ => rfl | 1, _ => rfl | 2, _ => rfl | j + 3, h => absurd h (by omega))
 refine Wl (Lv ((pt g2)) (x_move rfl rfl) (Fx.L.call (by rfl) (rC (args := [(pt g2), .int .i64 (4)]) rfl rfl Try.func29 rfl rfl) rfl ((c_number g2 a n c l (0, false) 4 _ (by decide) (by rw [hn]; exact Nat.zero_le _) hn hc hl (hb.up b2 rfl) m4).mono ?_)))
 rintro e9 w3 ⟨he, hq1, s3⟩
 refine ⟨_, he, ?_⟩
 clear he
 have hct1 := Fx.ChT.of_stp s3 m4.ty
 have m6 := m3.chT hct1 (by decide)
 have b3 := s3.below b2 b2.size (by omega)
 have m5 : Fx.Blk w3 g2 3 (ctY a n c (Rt.s4 l)) 66 := hq1
 refine Ln (sN (Ws (Wl (Fx.L.new (m := 20) (y := fun zq => if zq < 12 then .bool false else if zq < 18 then .int .u64 (0) else .slice none 0 0) (by rfl) rfl (by kernel_rfl) rfl fun g3 w4 eg3 m7 s4 z3 => ?_))))
 have m8 := m6.stp s4 m6.ne
 have m9 := m5.stp s4 m5.ne
 have b4 := s4.below b3 b3.size b3.size
 have lg3 : w.heap.size ≤ g3 := by rw [eg3]; exact b3.size
 have ng3m8 : g1 ≠ g3 := by rw [eg3]; exact Nat.ne_of_lt (m6.lt)
 have ng3m9 : g2 ≠ g3 := by rw [eg3]; exact Nat.ne_of_lt (m5.lt)
 have tg3 : g3 < w4.heap.size := m7.lt
 clear eg3
 refine Ln (sN (Ws (Ws ?_)))
 have m10 : Fx.Blk w4 g3 20 (stY mz) 29 := m7.congr (fun j hj => match j, hj with | 0, _ => rfl | 1, _ => rfl | 2, _ => rfl | 3, _ => rfl | 4, _ => rfl | 5, _ => rfl | 6, _ => rfl | 7, _ => rfl | 8, _ => rfl | 9, _ => rfl | 10, _ => rfl | 11, _ => rfl | 12, _ => rfl | 13, _ => rfl | 14, _ => rfl | 15, _ => rfl | 16, _ => rfl | 17, _ => rfl | 18, _ => rfl | 19, _ => rfl | j + 20, h => absurd h (by omega))
 have m11 : Fx.Blk w4 g3 20 (stY (GM l 0 0)) 29 := m10.congr (GM_0 l)
 refine Wl (Lv (.int .i64 (0)) (x_move rfl rfl) (Ln (sN (Fx.W.block (Fx.W.loop (fun f w_ => ∃ i : Nat, i ≤ 6 ∧ f 0 = .slice a (n) (c) ∧ f 2 = (pt g1) ∧ f 4 = (pt g2) ∧ f 5 = (pt g3) ∧ f 19 = .int .i64 ((i : Int)) ∧ Fx.Blk w_ g1 20 (fun zq => if zq < 12 then .bool false else if zq < 18 then .int .u64 (0) else .slice none 0 0) 29 ∧ Fx.Blk w_ g2 3 (ctY a n c (cutN l 1 i (Rt.s4 l))) 66 ∧ Fx.Blk w_ g3 20 (stY (GM l i i)) 29 ∧ Below w.heap.size w w_) (fun f _ => (6 - (intOf (f 19)).toNat)) ⟨0, by omega, (by rfl), (by rfl), (by rfl), (by rfl), Fx.ic, m8, m9, m11, b4⟩ ?_)))))
 rintro f1 w5 ⟨i, hi, h1, h2, h3, h4, h5, m12, m13, m14, b5⟩
 refine Ws (Wl ?_)
 by_cases c20 : (i : Int) < 6
 ·refine Lv (.bool true) (Fx.x_lssT rfl h5 rfl c20) (Ln (sN (Ws (Wc (b := true) rfl (fun _ => Wk (sN (Ws (Fx.W.block (Ws (Wl (Lv (.int .i64 ((i : Int))) (x_move rfl h5) ?_))))))) (fun h => nomatch h)))))
  refine Lv (.int .i64 ((i : Int))) (x_assign rfl rfl) (Ln (sN (Ws (Wl (Lv ((pt g2)) (x_move rfl h3) (Fx.L.call (by rfl) (rC (args := [(pt g2), .int .i64 (1)]) rfl rfl Try.func29 rfl rfl) rfl ((c_number g2 a n c l (cutN l 1 i (Rt.s4 l)) 1 _ (by decide) (by rw [hn]; exact cutN_le (cut_le (Nat.zero_le _)) i) hn hc hl (hb.up b5 rfl) m13).mono ?_)))))))
  rintro e9 w6 ⟨he, hq2, s5⟩
  refine ⟨_, he, ?_⟩
  clear he
  have hct2 := Fx.ChT.of_stp s5 m13.ty
  have m16 := m12.chT hct2 (by decide)
  have m17 := m14.chT hct2 (by decide)
  have b6 := s5.below b5 b5.size (by omega)
  have m15 : Fx.Blk w6 g2 3 (ctY a n c (cutN l 1 (i + 1) (Rt.s4 l))) 66 := hq2
  refine Lv (.int .u64 (rowV l (Rt.s4 l) 1 i)) (x_assign rfl rfl) (Ln (sN (Wl (Lv (.int .i64 ((i : Int))) (x_move rfl rfl) (Lv (.int .i64 ((i : Int))) (x_move rfl rfl) (Lv (.int .u64 (rowV l (Rt.s4 l) 1 i)) (x_move rfl rfl) (Lv (.int .u64 (rowV l (Rt.s4 l) 1 i % 2)) (Fx.x_and rfl rfl rfl (and1 (row_u _ _ (by decide)))) ?_)))))))
  by_cases c28 : (rowV l (Rt.s4 l) 1 i % 2) = 0
  ·refine Lv (.bool false) (Fx.x_neqF rfl rfl rfl c28) (Lv (.int .u64 (rowV l (Rt.s4 l) 1 i)) (x_move rfl rfl) (Lv (.int .u64 (2 * (rowV l (Rt.s4 l) 1 i / 2 % 2))) (Fx.x_and rfl rfl rfl (and2 (row_u _ _ (by decide)))) ?_))
   by_cases c31 : (2 * (rowV l (Rt.s4 l) 1 i / 2 % 2)) = 0
   ·refine Lv (.bool false) (Fx.x_neqF rfl rfl rfl c31) (Lv ((pt g3)) (x_field rfl h4 Try.underlying29 rfl (s := 6) (by kernel_rfl) rfl rfl) (Lv ((pf g3 i)) (x_index rfl rfl rfl Try.underlying22 (s := 1) (by kernel_rfl) (by omega) (by omega) (by omega)) (Fx.L.store1 (x := stY (GM l i i)) (u := .bool false) (by rfl) rfl rfl rfl rfl (by rfl) (by kernel_rfl) m17 (i := i) (by omega) fun w7 m18 s6 z4 => ?_)))
    have m19 : Fx.Blk w7 g3 20 (stY (GM l (i + 1) i)) 29 := m18.congr (G_in (by omega) (by rw [decide_eq_false (by omega)]))
    have m20 := m16.stp s6 (by omega)
    have hct3 := Fx.ChT.of_stp s6 m17.ty
    have m21 := m15.chT hct3 (by decide)
    have b7 := s6.below b6 b6.size (by omega)
    refine Lv ((pf g3 6)) (x_field rfl h4 Try.underlying29 rfl (s := 6) (by kernel_rfl) rfl (by show _ + 6 = _; omega)) (Lv ((pf g3 (i + 6))) (x_index rfl rfl rfl Try.underlying22 (s := 1) (by kernel_rfl) (by omega) (by omega) (by omega)) (Fx.L.store1 (x := stY (GM l (i + 1) i)) (u := .bool false) (by rfl) rfl rfl rfl rfl (by rfl) (by kernel_rfl) m19 (i := i + 6) (by omega) fun w8 m22 s7 z5 => ?_))
    have m23 : Fx.Blk w8 g3 20 (stY (GM l (i + 1) (i + 1))) 29 := m22.congr (G_left (by omega) (by omega) (by rw [decide_eq_false (by omega)]))
    have m24 := m20.stp s7 (by omega)
    have hct4 := Fx.ChT.of_stp s7 m19.ty
    have m25 := m21.chT hct4 (by decide)
    have b8 := s7.below b7 b7.size (by omega)
    refine Ln (Fx.blkN (sN (Wl (Lv (.int .i64 ((i : Int) + 1)) (Fx.x_add rfl h5 rfl Fx.io) (Lv (.int .i64 ((i : Int) + 1)) (x_move rfl rfl) (Ln (Fx.lpN ⟨i + 1, by omega, h1, h2, h3, h4, Fx.ic, m24, m25, m23, b8⟩ ?_)))))))
    show (6 - (intOf ((.int .i64 ((i : Int) + 1)))).toNat) < _
    simp only [h5, intOf]; omega
   refine Lv (.bool true) (Fx.x_neqT rfl rfl rfl c31) (Lv ((pt g3)) (x_field rfl h4 Try.underlying29 rfl (s := 6) (by kernel_rfl) rfl rfl) (Lv ((pf g3 i)) (x_index rfl rfl rfl Try.underlying22 (s := 1) (by kernel_rfl) (by omega) (by omega) (by omega)) (Fx.L.store1 (x := stY (GM l i i)) (u := .bool false) (by rfl) rfl rfl rfl rfl (by rfl) (by kernel_rfl) m17 (i := i) (by omega) fun w9 m26 s8 z6 => ?_)))
   have m27 : Fx.Blk w9 g3 20 (stY (GM l (i + 1) i)) 29 := m26.congr (G_in (by omega) (by rw [decide_eq_false (by omega)]))
   have m28 := m16.stp s8 (by omega)
   have hct5 := Fx.ChT.of_stp s8 m17.ty
   have m29 := m15.chT hct5 (by decide)
   have b9 := s8.below b6 b6.size (by omega)
   refine Lv ((pf g3 6)) (x_field rfl h4 Try.underlying29 rfl (s := 6) (by kernel_rfl) rfl (by show _ + 6 = _; omega)) (Lv ((pf g3 (i + 6))) (x_index rfl rfl rfl Try.underlying22 (s := 1) (by kernel_rfl) (by omega) (by omega) (by omega)) (Fx.L.store1 (x := stY (GM l (i + 1) i)) (u := .bool true) (by rfl) rfl rfl rfl rfl (by rfl) (by kernel_rfl) m27 (i := i + 6) (by omega) fun w10 m30 s9 z7 => ?_))
   have m31 : Fx.Blk w10 g3 20 (stY (GM l (i + 1) (i + 1))) 29 := m30.congr (G_left (by omega) (by omega) (by exact (decide_eq_true (show rowV l (Rt.s4 l) 1 i / 2 % 2 = 1 by omega)).symm))
   have m32 := m28.stp s9 (by omega)
   have hct6 := Fx.ChT.of_stp s9 m27.ty
   have m33 := m29.chT hct6 (by decide)
   have b10 := s9.below b9 b9.size (by omega)
   refine Ln (Fx.blkN (sN (Wl (Lv (.int .i64 ((i : Int) + 1)) (Fx.x_add rfl h5 rfl Fx.io) (Lv (.int .i64 ((i : Int) + 1)) (x_move rfl rfl) (Ln (Fx.lpN ⟨i + 1, by omega, h1, h2, h3, h4, Fx.ic, m32, m33, m31, b10⟩ ?_)))))))
   show (6 - (intOf ((.int .i64 ((i : Int) + 1)))).toNat) < _
   simp only [h5, intOf]; omega
  refine Lv (.bool true) (Fx.x_neqT rfl rfl rfl c28) (Lv (.int .u64 (rowV l (Rt.s4 l) 1 i)) (x_move rfl rfl) (Lv (.int .u64 (2 * (rowV l (Rt.s4 l) 1 i / 2 % 2))) (Fx.x_and rfl rfl rfl (and2 (row_u _ _ (by decide)))) ?_))
  by_cases c31 : (2 * (rowV l (Rt.s4 l) 1 i / 2 % 2)) = 0
  ·refine Lv (.bool false) (Fx.x_neqF rfl rfl rfl c31) (Lv ((pt g3)) (x_field rfl h4 Try.underlying29 rfl (s := 6) (by kernel_rfl) rfl rfl) (Lv ((pf g3 i)) (x_index rfl rfl rfl Try.underlying22 (s := 1) (by kernel_rfl) (by omega) (by omega) (by omega)) (Fx.L.store1 (x := stY (GM l i i)) (u := .bool true) (by rfl) rfl rfl rfl rfl (by rfl) (by kernel_rfl) m17 (i := i) (by omega) fun w11 m34 s10 z8 => ?_)))
   have m35 : Fx.Blk w11 g3 20 (stY (GM l (i + 1) i)) 29 := m34.congr (G_in (by omega) (by exact (decide_eq_true (show rowV l (Rt.s4 l) 1 i % 2 = 1 by omega)).symm))
   have m36 := m16.stp s10 (by omega)
   have hct7 := Fx.ChT.of_stp s10 m17.ty
   have m37 := m15.chT hct7 (by decide)
   have b11 := s10.below b6 b6.size (by omega)
   refine Lv ((pf g3 6)) (x_field rfl h4 Try.underlying29 rfl (s := 6) (by kernel_rfl) rfl (by show _ + 6 = _; omega)) (Lv ((pf g3 (i + 6))) (x_index rfl rfl rfl Try.underlying22 (s := 1) (by kernel_rfl) (by omega) (by omega) (by omega)) (Fx.L.store1 (x := stY (GM l (i + 1) i)) (u := .bool false) (by rfl) rfl rfl rfl rfl (by rfl) (by kernel_rfl) m35 (i := i + 6) (by omega) fun w12 m38 s11 z9 => ?_))
   have m39 : Fx.Blk w12 g3 20 (stY (GM l (i + 1) (i + 1))) 29 := m38.congr (G_left (by omega) (by omega) (by rw [decide_eq_false (by omega)]))
   have m40 := m36.stp s11 (by omega)
   have hct8 := Fx.ChT.of_stp s11 m35.ty
   have m41 := m37.chT hct8 (by decide)
   have b12 := s11.below b11 b11.size (by omega)
   refine Ln (Fx.blkN (sN (Wl (Lv (.int .i64 ((i : Int) + 1)) (Fx.x_add rfl h5 rfl Fx.io) (Lv (.int .i64 ((i : Int) + 1)) (x_move rfl rfl) (Ln (Fx.lpN ⟨i + 1, by omega, h1, h2, h3, h4, Fx.ic, m40, m41, m39, b12⟩ ?_)))))))
   show (6 - (intOf ((.int .i64 ((i : Int) + 1)))).toNat) < _
   simp only [h5, intOf]; omega
  refine Lv (.bool true) (Fx.x_neqT rfl rfl rfl c31) (Lv ((pt g3)) (x_field rfl h4 Try.underlying29 rfl (s := 6) (by kernel_rfl) rfl rfl) (Lv ((pf g3 i)) (x_index rfl rfl rfl Try.underlying22 (s := 1) (by kernel_rfl) (by omega) (by omega) (by omega)) (Fx.L.store1 (x := stY (GM l i i)) (u := .bool true) (by rfl) rfl rfl rfl rfl (by rfl) (by kernel_rfl) m17 (i := i) (by omega) fun w13 m42 s12 z10 => ?_)))
  have m43 : Fx.Blk w13 g3 20 (stY (GM l (i + 1) i)) 29 := m42.congr (G_in (by omega) (by exact (decide_eq_true (show rowV l (Rt.s4 l) 1 i % 2 = 1 by omega)).symm))
  have m44 := m16.stp s12 (by omega)
  have hct9 := Fx.ChT.of_stp s12 m17.ty
  have m45 := m15.chT hct9 (by decide)
  have b13 := s12.below b6 b6.size (by omega)
  refine Lv ((pf g3 6)) (x_field rfl h4 Try.underlying29 rfl (s := 6) (by kernel_rfl) rfl (by show _ + 6 = _; omega)) (Lv ((pf g3 (i + 6))) (x_index rfl rfl rfl Try.underlying22 (s := 1) (by kernel_rfl) (by omega) (by omega) (by omega)) (Fx.L.store1 (x := stY (GM l (i + 1) i)) (u := .bool true) (by rfl) rfl rfl rfl rfl (by rfl) (by kernel_rfl) m43 (i := i + 6) (by omega) fun w14 m46 s13 z11 => ?_))
  have m47 : Fx.Blk w14 g3 20 (stY (GM l (i + 1) (i + 1))) 29 := m46.congr (G_left (by omega) (by omega) (by exact (decide_eq_true (show rowV l (Rt.s4 l) 1 i / 2 % 2 = 1 by omega)).symm))
  have m48 := m44.stp s13 (by omega)
  have hct10 := Fx.ChT.of_stp s13 m43.ty
  have m49 := m45.chT hct10 (by decide)
  have b14 := s13.below b13 b13.size (by omega)
  refine Ln (Fx.blkN (sN (Wl (Lv (.int .i64 ((i : Int) + 1)) (Fx.x_add rfl h5 rfl Fx.io) (Lv (.int .i64 ((i : Int) + 1)) (x_move rfl rfl) (Ln (Fx.lpN ⟨i + 1, by omega, h1, h2, h3, h4, Fx.ic, m48, m49, m47, b14⟩ ?_)))))))
  show (6 - (intOf ((.int .i64 ((i : Int) + 1)))).toNat) < _
  simp only [h5, intOf]; omega
 refine Lv (.bool false) (Fx.x_lssF rfl h5 rfl c20) (Ln (sN (Ws (Wc (b := false) rfl (fun h => nomatch h) (fun _ => Fx.W.exit (Fx.seqX (Fx.lpX (Fx.blkX (sN (Ws ?_))))))))))
 have ei6 : i = 6 := by omega
 have m50 : Fx.Blk w5 g3 20 (stY (GM l 6 6)) 29 := by have q9 := m14; rw [ei6] at q9; exact q9
 have m51 : Fx.Blk w5 g2 3 (ctY a n c (Rt.s10 l)) 66 := by have q9 := m13; rw [ei6] at q9; exact q9
 refine Wl (Lv ((pt g2)) (x_move rfl h3) (Lv ((pf g3 12)) (x_field rfl h4 Try.underlying29 rfl (s := 6) (by kernel_rfl) rfl (by show _ + 12 = _; omega)) (Lv (.slice (some ⟨g3, 12, none⟩) (6) (6)) (Fx.x_sliceArr rfl rfl Try.underlying25 (s := 1) (by kernel_rfl)) (Fx.L.call (by rfl) (rC (args := [(pt g2), .slice (some ⟨g3, 12, none⟩) (6) (6)]) rfl rfl Try.func30 rfl rfl) rfl ((c_manyu g2 g3 a n c l (Rt.s10 l) 12 6 6 (stY (GM l 6 6)) _ (by rw [hn]; exact cutN_le (cut_le (Nat.zero_le _)) 6) hn hc hl (by decide) (fun w9 h9 => hb.up (h9.below b5 (by rintro k9 (h8 | h8) <;> omega) b5.size) rfl) m51 m50).mono ?_)))))
 rintro e9 w15 ⟨he, hq3, hqt1, hcg1⟩
 refine ⟨_, he, ?_⟩
 clear he
 have m54 := m12.chg hcg1 (show ¬ (g1 = g2 ∨ g1 = g3) by omega)
 have b15 := hcg1.below b5 (by rintro k9 (h9 | h9) <;> omega) b5.size
 have m52 : Fx.Blk w15 g2 3 (ctY a n c (Rt.s58 l)) 66 := hq3
 have m53 : Fx.Blk w15 g3 20 (stY (GN l none 0 0 none 0 0)) 29 := hqt1.congr (G_known l)
 refine Ln (sN (Ws (Ws (Wl (Lv ((pt g2)) (x_move rfl h3) (Fx.L.call (by rfl) (rC (args := [(pt g2), .int .i64 (2)]) rfl rfl Try.func29 rfl rfl) rfl ((c_number g2 a n c l (Rt.s58 l) 2 _ (by decide) (by rw [hn]; exact cutN_le (cutN_le (cut_le (Nat.zero_le _)) 6) 6) hn hc hl (hb.up b15 rfl) m52).mono ?_)))))))
 rintro e9 w16 ⟨he, hq4, s14⟩
 refine ⟨_, he, ?_⟩
 clear he
 have hct11 := Fx.ChT.of_stp s14 m52.ty
 have m56 := m54.chT hct11 (by decide)
 have m57 := m53.chT hct11 (by decide)
 have b16 := s14.below b15 b15.size (by omega)
 have m55 : Fx.Blk w16 g2 3 (ctY a n c (Rt.s60 l)) 66 := hq4
 refine Lv (.int .u64 (cutV l (Rt.s58 l) 2)) (x_assign rfl rfl) (Ln (sN (Fx.W.block ?_)))
 have m58 : Fx.Own w16 w.heap.size 50 56 (.slice none (0) (0)) 0 (ndsX ([])) := Fx.Own.nil _ _ _ _ _
 obtain ⟨k9N, hk9N⟩ : ∃ q, q = nnV l := ⟨_, rfl⟩
 refine Fx.W.loopE (fun kE f w_ => ∃ r : Nat, ∃ s : Ct, ∃ ol : List NdM, ∃ n9 : Nat, ∃ ao : Option Addr, ∃ co : Nat, kE = r ∧ s.1 ≤ l.length ∧ ol ++ (ndsV l r s).1 = (nsV l).1 ∧ (ndsV l r s).2 = (nsV l).2 ∧ n9 = ol.length ∧ n9 + r ≤ 65535 ∧ f 0 = .slice a (n) (c) ∧ f 2 = (pt g1) ∧ f 4 = (pt g2) ∧ f 5 = (pt g3) ∧ f 8 = .int .u64 ((r : Int)) ∧ Fx.Blk w_ g1 20 (fun zq => if zq < 12 then .bool false else if zq < 18 then .int .u64 (0) else .slice none 0 0) 29 ∧ Fx.Blk w_ g2 3 (ctY a n c s) 66 ∧ Fx.Blk w_ g3 20 (stY (GN l ao n9 co none 0 0)) 29 ∧ Fx.Own w_ w.heap.size 50 56 (.slice ao (n9) (co)) n9 (ndsX ol) ∧ Below w.heap.size w w_) (k9N) ⟨k9N, Rt.s60 l, [], 0, none, 0, rfl, (cut_le (cutN_le (cutN_le (cut_le (Nat.zero_le _)) 6) 6)), (by rw [hk9N]; rfl), (by rw [hk9N]; rfl), rfl, (by have := @nn_le l; omega), h1, h2, h3, h4, (congrArg (Value.int .u64) (by rw [hk9N]; exact (Int.toNat_of_nonneg (cutV_bd (by decide)).1).symm)), m56, m55, m57, m58, b16⟩ ?_
 rintro kE f2 w17 ⟨r, s, ol, n9, ao, co, hkE, hs, hol, hst, hnl, hr, h6, h7, h8, h9, h10, m59, m60, m61, m62, b17⟩
 refine Ws (Ws (Wl (Lv (.int .u64 ((r : Int))) (x_move rfl h10) ?_)))
 by_cases c44 : 0 < (r : Int)
 ·refine Lv (.bool true) (Fx.x_gtrT rfl rfl rfl c44) (Lv (.bool true) (x_move rfl rfl) (Lv ((pt g2)) (x_move rfl h8) (Lv ((pt g2)) (x_nil rfl rfl) (Lv ((pf g2 2)) (x_field rfl rfl Try.underlying66 rfl (s := 1) (by kernel_rfl) rfl (by show _ + 2 = _; omega)) ?_))))
  by_cases c49 : s.2 = true
  ·refine Lv (.bool true) (x_load1 (x := ctY a n c s) rfl rfl (by kernel_rfl) m60.cel (i := 2) (by omega) (by omega) ((show _ = Value.bool s.2 from rfl).trans (congrArg Value.bool c49))) (Lv (.bool false) (Fx.x_notF rfl rfl) (Lv (.bool false) (x_pickT rfl rfl rfl) (Ln (sN (Wc (b := false) rfl (fun h => nomatch h) (fun _ => Fx.W.exit (Fx.seqX (Fx.lpX (Fx.blkX (sN (Ws (Ws ?_))))))))))))
   have he9N := nds_end (l := l) (r := r) (s := s) (.inr c49)
   have eoN : ol = (nsV l).1 := by have q9 := hol; rw [he9N] at q9; simpa using q9
   have esN : s = (nsV l).2 := by have q9 := hst; rw [he9N] at q9; exact q9
   have m63 : Fx.Blk w17 g2 3 (ctY a n c ((nsV l).2)) 66 := by have q9 := m60; rw [esN] at q9; exact q9
   have hsN : (nsV l).2.1 ≤ l.length := by rw [← esN]; exact hs
   have hnN : n9 = (nsV l).1.length := by rw [← eoN]; exact hnl
   have m64 : Fx.Own w17 w.heap.size 50 56 (.slice ao (n9) (co)) n9 (ndsX (nsV l).1) := by have q9 := m62; rw [eoN] at q9; exact q9
   refine Wl (Lv ((pt g2)) (x_move rfl h8) (Fx.L.call (by rfl) (rC (args := [(pt g2), .int .i64 (2)]) rfl rfl Try.func29 rfl rfl) rfl ((c_number g2 a n c l ((nsV l).2) 2 _ (by decide) (by rw [hn]; exact hsN) hn hc hl (hb.up b17 rfl) m63).mono ?_)))
   rintro e9 w18 ⟨he, hq5, s15⟩
   refine ⟨_, he, ?_⟩
   clear he
   have hct12 := Fx.ChT.of_stp s15 m63.ty
   have m66 := m59.chT hct12 (by decide)
   have m67 := m61.chT hct12 (by decide)
   have m68 := m64.chT hct12 (by decide)
   have b18 := s15.below b17 b17.size (by omega)
   have m65 : Fx.Blk w18 g2 3 (ctY a n c (cutS l (nsV l).2 2)) 66 := hq5
   refine Lv (.int .u64 (cutV l (nsV l).2 2)) (x_assign rfl rfl) (Ln (sN (Fx.W.block ?_)))
   have m69 : Fx.Own w18 w.heap.size 59 5 (.slice none (0) (0)) 0 (grsX ([])) := Fx.Own.nil _ _ _ _ _
   obtain ⟨k9G, hk9G⟩ : ∃ q, q = gnV l := ⟨_, rfl⟩
   refine Fx.W.loopE (fun kE f w_ => ∃ r : Nat, ∃ s : Ct, ∃ gl : List GrM, ∃ n8 : Nat, ∃ bo : Option Addr, ∃ do9 : Nat, kE = r ∧ s.1 ≤ l.length ∧ gl ++ (grsV l r s).1 = (gsV l).1 ∧ (grsV l r s).2 = (gsV l).2 ∧ n8 = gl.length ∧ n8 + r ≤ 65535 ∧ f 0 = .slice a (n) (c) ∧ f 2 = (pt g1) ∧ f 4 = (pt g2) ∧ f 5 = (pt g3) ∧ f 12 = .int .u64 ((r : Int)) ∧ Fx.Blk w_ g1 20 (fun zq => if zq < 12 then .bool false else if zq < 18 then .int .u64 (0) else .slice none 0 0) 29 ∧ Fx.Blk w_ g2 3 (ctY a n c s) 66 ∧ Fx.Blk w_ g3 20 (stY (GN l ao n9 co bo n8 do9)) 29 ∧ Fx.Own w_ w.heap.size 59 5 (.slice bo (n8) (do9)) n8 (grsX gl) ∧ Fx.Own w_ w.heap.size 50 56 (.slice ao (n9) (co)) n9 (ndsX (nsV l).1) ∧ Below w.heap.size w w_) (k9G) ⟨k9G, cutS l (nsV l).2 2, [], 0, none, 0, rfl, (cut_le hsN), (by rw [hk9G]; rfl), (by rw [hk9G]; rfl), rfl, (by have := @gn_le l; omega), h6, h7, h8, h9, (congrArg (Value.int .u64) (by rw [hk9G]; exact (Int.toNat_of_nonneg (cutV_bd (by decide)).1).symm)), m66, m65, m67, m69, m68, b18⟩ ?_
   rintro kE f3 w19 ⟨r, s, gl, n8, bo, do9, hkE, hs, hol, hst, hnl, hr, h11, h12, h13, h14, h15, m70, m71, m72, m73, m74, b19⟩
   refine Ws (Ws (Wl (Lv (.int .u64 ((r : Int))) (x_move rfl h15) ?_)))
   by_cases c79 : 0 < (r : Int)
   ·refine Lv (.bool true) (Fx.x_gtrT rfl rfl rfl c79) (Lv (.bool true) (x_move rfl rfl) (Lv ((pt g2)) (x_move rfl h13) (Lv ((pt g2)) (x_nil rfl rfl) (Lv ((pf g2 2)) (x_field rfl rfl Try.underlying66 rfl (s := 1) (by kernel_rfl) rfl (by show _ + 2 = _; omega)) ?_))))
    by_cases c84 : s.2 = true
    ·refine Lv (.bool true) (x_load1 (x := ctY a n c s) rfl rfl (by kernel_rfl) m71.cel (i := 2) (by omega) (by omega) ((show _ = Value.bool s.2 from rfl).trans (congrArg Value.bool c84))) (Lv (.bool false) (Fx.x_notF rfl rfl) (Lv (.bool false) (x_pickT rfl rfl rfl) (Ln (sN (Wc (b := false) rfl (fun h => nomatch h) (fun _ => Fx.W.exit (Fx.seqX (Fx.lpX (Fx.blkX (sN (Ws (Ws ?_))))))))))))
     have he9G := grs_end (l := l) (r := r) (s := s) (.inr c84)
     have eoG : gl = (gsV l).1 := by have q9 := hol; rw [he9G] at q9; simpa using q9
     have esG : s = (gsV l).2 := by have q9 := hst; rw [he9G] at q9; exact q9
     have m75 : Fx.Blk w19 g2 3 (ctY a n c ((gsV l).2)) 66 := by have q9 := m71; rw [esG] at q9; exact q9
     have hnG : n8 = (gsV l).1.length := by rw [← eoG]; exact hnl
     have m76 : Fx.Own w19 w.heap.size 59 5 (.slice bo (n8) (do9)) n8 (grsX (gsV l).1) := by have q9 := m73; rw [eoG] at q9; exact q9
     have m77 : Fx.Blk w19 g3 20 (stY (stS (rawV l) ao co bo do9)) 29 := by have q9 := m72; rw [hnN, hnG, G_end] at q9; exact q9
     have m78 : Fx.Own w19 w.heap.size 50 56 (.slice ao ((rawV l).ns.length) (co)) ((rawV l).ns.length) (ndsX (rawV l).ns) := by have q9 := m74; rw [hnN] at q9; exact q9
     have m79 : Fx.Own w19 w.heap.size 59 5 (.slice bo ((rawV l).gs.length) (do9)) ((rawV l).gs.length) (grsX (rawV l).gs) := by have q9 := m76; rw [hnG] at q9; exact q9
     refine Wl (Lv ((pt g2)) (x_move rfl h13) (Lv ((pt g2)) (x_nil rfl rfl) (Lv ((pf g2 2)) (x_field rfl rfl Try.underlying66 rfl (s := 1) (by kernel_rfl) rfl (by show _ + 2 = _; omega)) ?_)))
     by_cases c113 : (((gsV l).2).2) = true
     ·refine Lv (.bool true) (x_load1 (x := ctY a n c ((gsV l).2)) rfl rfl (by kernel_rfl) m75.cel (i := 2) (by omega) (by omega) ((show _ = Value.bool (((gsV l).2).2) from rfl).trans (congrArg Value.bool c113))) (Lv (.bool true) (x_move rfl rfl) (Lk (by rfl) rfl (Lk (by rfl) rfl (Lk (by rfl) rfl (Lv (.bool true) (x_pickT rfl rfl rfl) (Lv (.bool true) (x_move rfl rfl) (Lk (by rfl) rfl (Lk (by rfl) rfl (Lk (by rfl) rfl (Lk (by rfl) rfl (Lk (by rfl) rfl (Lv (.bool true) (x_pickT rfl rfl rfl) (Ln (sN (Wc (b := true) rfl (fun _ => Ws (Wl (Lv (.agg (Fx.varr 20 (fun zq => if zq < 12 then .bool false else if zq < 18 then .int .u64 (0) else .slice none 0 0))) (x_build (vs := []) (places := #[(0, 6), (6, 6), (12, 6), (18, 1), (19, 1)]) (m := 20) (x := fun zq => if zq < 12 then .bool false else if zq < 18 then .int .u64 (0) else .slice none 0 0) rfl rfl Try.underlying29 (by kernel_rfl) (by kernel_rfl) (by rfl)) ?_))) (fun h => nomatch h))))))))))))))))
      refine Fx.L.storeA (x := fun zq => if zq < 12 then .bool false else if zq < 18 then .int .u64 (0) else .slice none 0 0) (y := fun zq => if zq < 12 then .bool false else if zq < 18 then .int .u64 (0) else .slice none 0 0) (by rfl) rfl rfl h12 rfl (fun jq _ => by show ((fun zq => if zq < 12 then .bool false else if zq < 18 then .int .u64 (0) else .slice none 0 0 : Nat → Value) jq).oneCell' = true; simp only []; repeat (first | rfl | split)) (by kernel_rfl) m70 (i := 0) (by omega) fun w20 m80 s16 z12 => ?_
      have m81 : Fx.Blk w20 g1 20 (fun zq => if zq < 12 then .bool false else if zq < 18 then .int .u64 (0) else .slice none 0 0) 29 := Fx.ovr_all m80
      have m82 : Fx.Blk w20 g1 20 (stY mz) 29 := m81.congr (fun j hj => match j, hj with | 0, _ => rfl | 1, _ => rfl | 2, _ => rfl | 3, _ => rfl | 4, _ => rfl | 5, _ => rfl | 6, _ => rfl | 7, _ => rfl | 8, _ => rfl | 9, _ => rfl | 10, _ => rfl | 11, _ => rfl | 12, _ => rfl | 13, _ => rfl | 14, _ => rfl | 15, _ => rfl | 16, _ => rfl | 17, _ => rfl | 18, _ => rfl | 19, _ => rfl | j + 20, h => absurd h (by omega))
      have m84 := m77.stp s16 (by omega)
      have b20 := s16.below b19 b19.size (by omega)
      refine Lv (.int .i64 (5)) (x_assign rfl rfl) (Ln (sN (Wr (sR (⟨.tuple #[.agg (Fx.varr 20 (stY mz)), .int .i64 (5)], Fx.retV2 Try.results10 ⟨_, h12, Fx.run_loadV m82.cel (by kernel_rfl) (by kernel_rfl)⟩ (by exact rfl), ?_⟩)))))
      have hg9 := get_n (l := l) (fun h => by have q9 := h.1; rw [c113] at q9; cases q9)
      rw [hg9.1, hg9.2]
      exact ⟨none, 0, none, 0, rfl, Fx.Own.nil _ _ _ _ _, Fx.Own.nil _ _ _ _ _, b20⟩
     rw [Bool.not_eq_true] at c113
     refine Lv (.bool false) (x_load1 (x := ctY a n c ((gsV l).2)) rfl rfl (by kernel_rfl) m75.cel (i := 2) (by omega) (by omega) ((show _ = Value.bool (((gsV l).2).2) from rfl).trans (congrArg Value.bool c113))) (Lv (.bool false) (x_move rfl rfl) (Lv (.slice a (n) (c)) (x_move rfl h11) (Lv (.int .i64 ((n : Int))) (x_len rfl rfl rfl (by kernel_rfl)) ?_)))
     by_cases c117 : (n : Int) = 0
     ·refine Lv (.bool true) (x_eqlT rfl rfl rfl c117) (Lv (.bool true) (x_pickF rfl rfl rfl) (Lv (.bool true) (x_move rfl rfl) (Lk (by rfl) rfl (Lk (by rfl) rfl (Lk (by rfl) rfl (Lk (by rfl) rfl (Lk (by rfl) rfl (Lv (.bool true) (x_pickT rfl rfl rfl) (Ln (sN (Wc (b := true) rfl (fun _ => Ws (Wl (Lv (.agg (Fx.varr 20 (fun zq => if zq < 12 then .bool false else if zq < 18 then .int .u64 (0) else .slice none 0 0))) (x_build (vs := []) (places := #[(0, 6), (6, 6), (12, 6), (18, 1), (19, 1)]) (m := 20) (x := fun zq => if zq < 12 then .bool false else if zq < 18 then .int .u64 (0) else .slice none 0 0) rfl rfl Try.underlying29 (by kernel_rfl) (by kernel_rfl) (by rfl)) ?_))) (fun h => nomatch h))))))))))))
      refine Fx.L.storeA (x := fun zq => if zq < 12 then .bool false else if zq < 18 then .int .u64 (0) else .slice none 0 0) (y := fun zq => if zq < 12 then .bool false else if zq < 18 then .int .u64 (0) else .slice none 0 0) (by rfl) rfl rfl h12 rfl (fun jq _ => by show ((fun zq => if zq < 12 then .bool false else if zq < 18 then .int .u64 (0) else .slice none 0 0 : Nat → Value) jq).oneCell' = true; simp only []; repeat (first | rfl | split)) (by kernel_rfl) m70 (i := 0) (by omega) fun w21 m87 s17 z13 => ?_
      have m88 : Fx.Blk w21 g1 20 (fun zq => if zq < 12 then .bool false else if zq < 18 then .int .u64 (0) else .slice none 0 0) 29 := Fx.ovr_all m87
      have m89 : Fx.Blk w21 g1 20 (stY mz) 29 := m88.congr (fun j hj => match j, hj with | 0, _ => rfl | 1, _ => rfl | 2, _ => rfl | 3, _ => rfl | 4, _ => rfl | 5, _ => rfl | 6, _ => rfl | 7, _ => rfl | 8, _ => rfl | 9, _ => rfl | 10, _ => rfl | 11, _ => rfl | 12, _ => rfl | 13, _ => rfl | 14, _ => rfl | 15, _ => rfl | 16, _ => rfl | 17, _ => rfl | 18, _ => rfl | 19, _ => rfl | j + 20, h => absurd h (by omega))
      have m91 := m77.stp s17 (by omega)
      have b21 := s17.below b19 b19.size (by omega)
      refine Lv (.int .i64 (5)) (x_assign rfl rfl) (Ln (sN (Wr (sR (⟨.tuple #[.agg (Fx.varr 20 (stY mz)), .int .i64 (5)], Fx.retV2 Try.results10 ⟨_, h12, Fx.run_loadV m89.cel (by kernel_rfl) (by kernel_rfl)⟩ (by exact rfl), ?_⟩)))))
      have hg9 := get_n (l := l) (fun h => h.2.1 (List.eq_nil_of_length_eq_zero (by omega)))
      rw [hg9.1, hg9.2]
      exact ⟨none, 0, none, 0, rfl, Fx.Own.nil _ _ _ _ _, Fx.Own.nil _ _ _ _ _, b21⟩
     refine Lv (.bool false) (x_eqlF rfl rfl rfl c117) (Lv (.bool false) (x_pickF rfl rfl rfl) (Lv (.bool false) (x_move rfl rfl) (Lv (.agg (Fx.varr 20 (stY (stS (rawV l) ao co bo do9)))) (x_loadA (x := stY (stS (rawV l) ao co bo do9)) (y := stY (stS (rawV l) ao co bo do9)) rfl h14 (by kernel_rfl) (by kernel_rfl) m77.cel (i := 0) (by omega) (by omega) (fun j _ => by rw [Nat.zero_add])) (Fx.L.call (by rfl) (rC (args := [.agg (Fx.varr 20 (stY (stS (rawV l) ao co bo do9)))]) rfl rfl Try.func14 rfl rfl) rfl ((s_put (rawV l) ao co bo do9 _ ⟨raw_r, Nat.le_trans raw_len.1 (by decide), Nat.le_trans raw_len.2 (by decide), m78.arr, m79.arr, m78.le, m79.le⟩).mono ?_)))))
     rintro e9 w22 ⟨pa1, pc1, he, hm1, hb1⟩
     refine ⟨_, he, ?_⟩
     clear he
     have s18 := Sb hb1
     have m95 := m70.stp s18 m70.ne
     have m97 := m77.stp s18 m77.ne
     have m98 := m78.stp s18 (m78.notNew (Nat.le_refl _))
     have m99 := m79.stp s18 (m79.notNew (Nat.le_refl _))
     have b22 := s18.below b19 b19.size b19.size
     have m94 : Fx.Own w22 w.heap.size 5 1 (.slice pa1 ((putB (rawV l)).length) (pc1)) ((putB (rawV l)).length) (Fx.byY (putB (rawV l))) := hm1.mono b19.size
     refine Lv (.slice a (n) (c)) (x_move rfl h11) ?_
     by_cases c123 : (decide (putB (rawV l) = l)) = true
     ·refine Fx.L.call (by rfl) (rC (args := [.slice pa1 ((putB (rawV l)).length) (pc1), .slice a (n) (c)]) rfl rfl Try.func33 rfl rfl) rfl ((b_equal pa1 a ((putB (rawV l)).length) pc1 n c (putB (rawV l)) l _ rfl hn m94.arr (hb.up b22 rfl)).mono ?_)
      rintro e v1 ⟨he, hv1⟩
      subst v1
      refine ⟨.bool true, by rw [he, c123], ?_⟩
      clear he
      refine Lv (.bool false) (Fx.x_notF rfl rfl) (Lv (.bool false) (x_pickF rfl rfl rfl) (Ln (sN (Wc (b := false) rfl (fun h => nomatch h) (fun _ => Wk (sN (Ws (Wl (Lv (.agg (Fx.varr 20 (stY (stS (rawV l) ao co bo do9)))) (x_loadA (x := stY (stS (rawV l) ao co bo do9)) (y := stY (stS (rawV l) ao co bo do9)) rfl h14 (by kernel_rfl) (by kernel_rfl) m97.cel (i := 0) (by omega) (by omega) (fun j _ => by rw [Nat.zero_add])) (Fx.L.storeA (x := fun zq => if zq < 12 then .bool false else if zq < 18 then .int .u64 (0) else .slice none 0 0) (y := stY (stS (rawV l) ao co bo do9)) (by rfl) rfl rfl h12 rfl (fun j _ => stY_one _ j) (by kernel_rfl) m95 (i := 0) (by omega) fun w23 m100 s19 z14 => ?_))))))))))
      have m101 : Fx.Blk w23 g1 20 (stY (stS (rawV l) ao co bo do9)) 29 := Fx.ovr_all m100
      have hct15 := Fx.ChT.of_stp s19 m95.ty
      have m104 := m97.stp s19 (by omega)
      have m105 := m98.chT hct15 (by decide)
      have m106 := m99.chT hct15 (by decide)
      have b23 := s19.below b22 b22.size (by omega)
      refine Lv (.int .i64 (0)) (x_assign rfl rfl) (Ln (sN (Wr (⟨.tuple #[.agg (Fx.varr 20 (stY (stS (rawV l) ao co bo do9))), .int .i64 (0)], Fx.retV2 Try.results10 ⟨_, h12, Fx.run_loadV m101.cel (by kernel_rfl) (by kernel_rfl)⟩ (by exact rfl), ?_⟩))))
      have hg9 := get_y (l := l) ⟨c113, (fun h => by rw [h] at hn; exact absurd hn (by rw [List.length_nil]; omega)), of_decide_eq_true c123⟩
      rw [hg9.1, hg9.2]
      exact ⟨ao, co, bo, do9, rfl, m105, m106, b23⟩
     rw [Bool.not_eq_true] at c123
     refine Fx.L.call (by rfl) (rC (args := [.slice pa1 ((putB (rawV l)).length) (pc1), .slice a (n) (c)]) rfl rfl Try.func33 rfl rfl) rfl ((b_equal pa1 a ((putB (rawV l)).length) pc1 n c (putB (rawV l)) l _ rfl hn m94.arr (hb.up b22 rfl)).mono ?_)
     rintro e v1 ⟨he, hv1⟩
     subst v1
     refine ⟨.bool false, by rw [he, c123], ?_⟩
     clear he
     refine Lv (.bool true) (Fx.x_notT rfl rfl) (Lv (.bool true) (x_pickF rfl rfl rfl) (Ln (sN (Wc (b := true) rfl (fun _ => Ws (Wl (Lv (.agg (Fx.varr 20 (fun zq => if zq < 12 then .bool false else if zq < 18 then .int .u64 (0) else .slice none 0 0))) (x_build (vs := []) (places := #[(0, 6), (6, 6), (12, 6), (18, 1), (19, 1)]) (m := 20) (x := fun zq => if zq < 12 then .bool false else if zq < 18 then .int .u64 (0) else .slice none 0 0) rfl rfl Try.underlying29 (by kernel_rfl) (by kernel_rfl) (by rfl)) ?_))) (fun h => nomatch h)))))
     refine Fx.L.storeA (x := fun zq => if zq < 12 then .bool false else if zq < 18 then .int .u64 (0) else .slice none 0 0) (y := fun zq => if zq < 12 then .bool false else if zq < 18 then .int .u64 (0) else .slice none 0 0) (by rfl) rfl rfl h12 rfl (fun jq _ => by show ((fun zq => if zq < 12 then .bool false else if zq < 18 then .int .u64 (0) else .slice none 0 0 : Nat → Value) jq).oneCell' = true; simp only []; repeat (first | rfl | split)) (by kernel_rfl) m95 (i := 0) (by omega) fun w24 m108 s20 z15 => ?_
     have m109 : Fx.Blk w24 g1 20 (fun zq => if zq < 12 then .bool false else if zq < 18 then .int .u64 (0) else .slice none 0 0) 29 := Fx.ovr_all m108
     have m110 : Fx.Blk w24 g1 20 (stY mz) 29 := m109.congr (fun j hj => match j, hj with | 0, _ => rfl | 1, _ => rfl | 2, _ => rfl | 3, _ => rfl | 4, _ => rfl | 5, _ => rfl | 6, _ => rfl | 7, _ => rfl | 8, _ => rfl | 9, _ => rfl | 10, _ => rfl | 11, _ => rfl | 12, _ => rfl | 13, _ => rfl | 14, _ => rfl | 15, _ => rfl | 16, _ => rfl | 17, _ => rfl | 18, _ => rfl | 19, _ => rfl | j + 20, h => absurd h (by omega))
     have m112 := m97.stp s20 (by omega)
     have b24 := s20.below b22 b22.size (by omega)
     refine Lv (.int .i64 (5)) (x_assign rfl rfl) (Ln (sN (Wr (sR (⟨.tuple #[.agg (Fx.varr 20 (stY mz)), .int .i64 (5)], Fx.retV2 Try.results10 ⟨_, h12, Fx.run_loadV m110.cel (by kernel_rfl) (by kernel_rfl)⟩ (by exact rfl), ?_⟩)))))
     have hg9 := get_n (l := l) (fun h => (of_decide_eq_false c123) h.2.2)
     rw [hg9.1, hg9.2]
     exact ⟨none, 0, none, 0, rfl, Fx.Own.nil _ _ _ _ _, Fx.Own.nil _ _ _ _ _, b24⟩
    rw [Bool.not_eq_true] at c84
    refine Lv (.bool false) (x_load1 (x := ctY a n c s) rfl rfl (by kernel_rfl) m71.cel (i := 2) (by omega) (by omega) ((show _ = Value.bool s.2 from rfl).trans (congrArg Value.bool c84))) (Lv (.bool true) (Fx.x_notT rfl rfl) (Lv (.bool true) (x_pickT rfl rfl rfl) (Ln (sN (Wc (b := true) rfl (fun _ => Wk (sN (Ws (Fx.W.block (Ws ?_))))) (fun h => nomatch h))))))
    have hbad : s.2 = false := c84
    have hc1 := @cut1 l s
    refine Wl (Lv ((pt g2)) (x_move rfl h13) (Fx.L.call (by rfl) (rC (args := [(pt g2), .int .i64 (1)]) rfl rfl Try.func29 rfl rfl) rfl ((c_number g2 a n c l s 1 _ (by decide) (by rw [hn]; exact hs) hn hc hl (hb.up b19 rfl) m71).mono ?_)))
    rintro e9 w25 ⟨he, hq6, s21⟩
    refine ⟨_, he, ?_⟩
    clear he
    have hct17 := Fx.ChT.of_stp s21 m71.ty
    have m117 := m70.chT hct17 (by decide)
    have m118 := m72.chT hct17 (by decide)
    have m119 := m73.chT hct17 (by decide)
    have m120 := m74.chT hct17 (by decide)
    have b25 := s21.below b19 b19.size (by omega)
    have m116 : Fx.Blk w25 g2 3 (ctY a n c (cutS l s 1)) 66 := hq6
    refine Lv (.int .i64 (cutV l s 1)) (x_conv rfl rfl (by kernel_rfl) Try.underlying3 (Fx.i64e (by omega) rfl)) (Lv ((pt g2)) (x_move rfl h13) (Fx.L.call (by rfl) (rC (args := [(pt g2), .int .i64 (8)]) rfl rfl Try.func29 rfl rfl) rfl ((c_number g2 a n c l (cutS l s 1) 8 _ (by decide) (by rw [hn]; exact cut_le hs) hn hc hl (hb.up b25 rfl) m116).mono ?_)))
    rintro e9 w26 ⟨he, hq7, s22⟩
    refine ⟨_, he, ?_⟩
    clear he
    have hct18 := Fx.ChT.of_stp s22 m116.ty
    have m122 := m117.chT hct18 (by decide)
    have m123 := m118.chT hct18 (by decide)
    have m124 := m119.chT hct18 (by decide)
    have m125 := m120.chT hct18 (by decide)
    have b26 := s22.below b25 b25.size (by omega)
    have m121 : Fx.Blk w26 g2 3 (ctY a n c (cutN l 8 1 (cutS l s 1))) 66 := hq7
    refine Lv ((pt g2)) (x_move rfl h13) (Fx.L.call (by rfl) (rC (args := [(pt g2), .int .i64 (8)]) rfl rfl Try.func29 rfl rfl) rfl ((c_number g2 a n c l (cutN l 8 1 (cutS l s 1)) 8 _ (by decide) (by rw [hn]; exact cutN_le (cut_le hs) 1) hn hc hl (hb.up b26 rfl) m121).mono ?_))
    rintro e9 w27 ⟨he, hq8, s23⟩
    refine ⟨_, he, ?_⟩
    clear he
    have hct19 := Fx.ChT.of_stp s23 m121.ty
    have m127 := m122.chT hct19 (by decide)
    have m128 := m123.chT hct19 (by decide)
    have m129 := m124.chT hct19 (by decide)
    have m130 := m125.chT hct19 (by decide)
    have b27 := s23.below b26 b26.size (by omega)
    have m126 : Fx.Blk w27 g2 3 (ctY a n c (cutN l 8 2 (cutS l s 1))) 66 := hq8
    refine Lv (.agg (Fx.varr 5 (Fx.ovr (Fx.ovr (Fx.ovr (fun zq => if zq < 1 then .int .i64 (0) else if zq < 3 then .int .u64 (0) else if zq < 4 then .int .i64 (0) else .int .u64 (0)) 0 1 (fun _ => .int .i64 (cutV l s 1))) 1 1 (fun _ => .int .u64 (rowV l (cutS l s 1) 8 0))) 2 1 (fun _ => .int .u64 (rowV l (cutS l s 1) 8 1))))) (x_build (vs := [(0, .int .i64 (cutV l s 1)), (1, .int .u64 (rowV l (cutS l s 1) 8 0)), (2, .int .u64 (rowV l (cutS l s 1) 8 1))]) (places := #[(0, 1), (1, 1), (2, 1), (3, 1), (4, 1)]) (m := 5) (x := fun zq => if zq < 1 then .int .i64 (0) else if zq < 3 then .int .u64 (0) else if zq < 4 then .int .i64 (0) else .int .u64 (0)) rfl rfl Try.underlying59 (by kernel_rfl) (by kernel_rfl) (by rw [Fx.fill_step (off := 0) (s := 1) (y := fun _ => .int .i64 (cutV l s 1)) (by kernel_rfl) (Fx.cells_one (by rfl)) (by rfl)]; rw [Fx.fill_step (off := 1) (s := 1) (y := fun _ => .int .u64 (rowV l (cutS l s 1) 8 0)) (by kernel_rfl) (Fx.cells_one (by rfl)) (by rfl)]; rw [Fx.fill_step (off := 2) (s := 1) (y := fun _ => .int .u64 (rowV l (cutS l s 1) 8 1)) (by kernel_rfl) (Fx.cells_one (by rfl)) (by rfl)]; rfl)) (Fx.L.new (m := 5) (y := fun zq => if zq < 1 then .int .i64 (0) else if zq < 3 then .int .u64 (0) else if zq < 4 then .int .i64 (0) else .int .u64 (0)) (by rfl) rfl (by kernel_rfl) rfl fun g4 w28 eg4 m131 s24 z16 => ?_)
    have m132 := m127.stp s24 m127.ne
    have m133 := m128.stp s24 m128.ne
    have m134 := m129.stp s24 (m129.notNew (Nat.le_refl _))
    have m135 := m130.stp s24 (m130.notNew (Nat.le_refl _))
    have m136 := m126.stp s24 m126.ne
    have b28 := s24.below b27 b27.size b27.size
    have lg4 : w.heap.size ≤ g4 := by rw [eg4]; exact b27.size
    have ng4m132 : g1 ≠ g4 := by rw [eg4]; exact Nat.ne_of_lt (m127.lt)
    have ng4m133 : g3 ≠ g4 := by rw [eg4]; exact Nat.ne_of_lt (m128.lt)
    have ng4m134 : (.slice bo (n8) (do9) : Value).ownBlock ≠ some g4 := by rw [eg4]; exact m129.notNew (Nat.le_refl _)
    have ng4m136 : g2 ≠ g4 := by rw [eg4]; exact Nat.ne_of_lt (m126.lt)
    have tg4 : g4 < w28.heap.size := m131.lt
    clear eg4
    refine Fx.L.storeA (x := fun zq => if zq < 1 then .int .i64 (0) else if zq < 3 then .int .u64 (0) else if zq < 4 then .int .i64 (0) else .int .u64 (0)) (y := Fx.ovr (Fx.ovr (Fx.ovr (fun zq => if zq < 1 then .int .i64 (0) else if zq < 3 then .int .u64 (0) else if zq < 4 then .int .i64 (0) else .int .u64 (0)) 0 1 (fun _ => .int .i64 (cutV l s 1))) 1 1 (fun _ => .int .u64 (rowV l (cutS l s 1) 8 0))) 2 1 (fun _ => .int .u64 (rowV l (cutS l s 1) 8 1))) (by rfl) rfl rfl rfl rfl (Fx.ovr_ones (Fx.ovr_ones (Fx.ovr_ones (fun jq _ => by show ((fun zq => if zq < 1 then .int .i64 (0) else if zq < 3 then .int .u64 (0) else if zq < 4 then .int .i64 (0) else .int .u64 (0) : Nat → Value) jq).oneCell' = true; simp only []; repeat (first | rfl | split)) (fun _ _ => rfl)) (fun _ _ => rfl)) (fun _ _ => rfl)) (by kernel_rfl) m131 (i := 0) (by omega) fun w29 m137 s25 z17 => ?_
    have m138 : Fx.Blk w29 g4 5 (Fx.ovr (Fx.ovr (Fx.ovr (fun zq => if zq < 1 then .int .i64 (0) else if zq < 3 then .int .u64 (0) else if zq < 4 then .int .i64 (0) else .int .u64 (0)) 0 1 (fun _ => .int .i64 (cutV l s 1))) 1 1 (fun _ => .int .u64 (rowV l (cutS l s 1) 8 0))) 2 1 (fun _ => .int .u64 (rowV l (cutS l s 1) 8 1))) 59 := Fx.ovr_all m137
    have m139 : Fx.Blk w29 g4 5 (grZ ⟨cutV l s 1, rowV l (cutS l s 1) 8 0, rowV l (cutS l s 1) 8 1, 0, 0⟩) 59 := m138.congr (fun j hj => match j, hj with | 0, _ => rfl | 1, _ => rfl | 2, _ => rfl | 3, _ => rfl | 4, _ => rfl | j + 5, h => absurd h (by omega))
    have hct20 := Fx.ChT.of_stp s25 m131.ty
    have m140 := m132.chT hct20 (by decide)
    have m141 := m133.chT hct20 (by decide)
    have m142 := m134.stp s25 ng4m134
    have m143 := m135.chT hct20 (by decide)
    have m144 := m136.chT hct20 (by decide)
    have b29 := s25.below b28 b28.size (by omega)
    refine Ln (sN (Ws (Wl (Lv ((pt g2)) (x_move rfl h13) (Fx.L.call (by rfl) (rC (args := [(pt g2), .int .i64 (8)]) rfl rfl Try.func29 rfl rfl) rfl ((c_number g2 a n c l (cutN l 8 2 (cutS l s 1)) 8 _ (by decide) (by rw [hn]; exact cutN_le (cut_le hs) 2) hn hc hl (hb.up b29 rfl) m144).mono ?_))))))
    rintro e9 w30 ⟨he, hq9, s26⟩
    refine ⟨_, he, ?_⟩
    clear he
    have hct21 := Fx.ChT.of_stp s26 m144.ty
    have m146 := m140.chT hct21 (by decide)
    have m147 := m141.chT hct21 (by decide)
    have m148 := m142.chT hct21 (by decide)
    have m149 := m143.chT hct21 (by decide)
    have m150 := m139.chT hct21 (by decide)
    have b30 := s26.below b29 b29.size (by omega)
    have m145 : Fx.Blk w30 g2 3 (ctY a n c (cutN l 8 3 (cutS l s 1))) 66 := hq9
    refine Lv (.int .i64 (i64w (rowV l (cutS l s 1) 8 2))) (x_conv rfl rfl (by kernel_rfl) Try.underlying2 rfl) (Lv ((pt g2)) (x_move rfl h13) (Fx.L.call (by rfl) (rC (args := [(pt g2), .int .i64 (8)]) rfl rfl Try.func29 rfl rfl) rfl ((c_number g2 a n c l (cutN l 8 3 (cutS l s 1)) 8 _ (by decide) (by rw [hn]; exact cutN_le (cut_le hs) 3) hn hc hl (hb.up b30 rfl) m145).mono ?_)))
    rintro e9 w31 ⟨he, hq10, s27⟩
    refine ⟨_, he, ?_⟩
    clear he
    have hct22 := Fx.ChT.of_stp s27 m145.ty
    have m152 := m146.chT hct22 (by decide)
    have m153 := m147.chT hct22 (by decide)
    have m154 := m148.chT hct22 (by decide)
    have m155 := m149.chT hct22 (by decide)
    have m156 := m150.chT hct22 (by decide)
    have b31 := s27.below b30 b30.size (by omega)
    have m151 : Fx.Blk w31 g2 3 (ctY a n c (grS l s)) 66 := hq10
    refine Lv ((pf g4 3)) (x_field rfl rfl Try.underlying59 rfl (s := 1) (by kernel_rfl) rfl (by show _ + 3 = _; omega)) (Fx.L.store1 (x := grZ ⟨cutV l s 1, rowV l (cutS l s 1) 8 0, rowV l (cutS l s 1) 8 1, 0, 0⟩) (u := .int .i64 (i64w (rowV l (cutS l s 1) 8 2))) (by rfl) rfl rfl rfl rfl (by rfl) (by kernel_rfl) m156 (i := 3) (by omega) fun w32 m157 s28 z18 => ?_)
    have m158 : Fx.Blk w32 g4 5 (grZ ⟨cutV l s 1, rowV l (cutS l s 1) 8 0, rowV l (cutS l s 1) 8 1, i64w (rowV l (cutS l s 1) 8 2), 0⟩) 59 := m157.congr (fun j hj => by rcases j with _|_|_|_|_|j <;> first | rfl | omega)
    have hct23 := Fx.ChT.of_stp s28 m156.ty
    have m159 := m152.chT hct23 (by decide)
    have m160 := m153.chT hct23 (by decide)
    have m161 := m154.stp s28 ng4m134
    have m162 := m155.chT hct23 (by decide)
    have m163 := m151.chT hct23 (by decide)
    have b32 := s28.below b31 b31.size (by omega)
    refine Lv ((pf g4 4)) (x_field rfl rfl Try.underlying59 rfl (s := 1) (by kernel_rfl) rfl (by show _ + 4 = _; omega)) (Fx.L.store1 (x := grZ ⟨cutV l s 1, rowV l (cutS l s 1) 8 0, rowV l (cutS l s 1) 8 1, i64w (rowV l (cutS l s 1) 8 2), 0⟩) (u := .int .u64 (rowV l (cutS l s 1) 8 3)) (by rfl) rfl rfl rfl rfl (by rfl) (by kernel_rfl) m158 (i := 4) (by omega) fun w33 m164 s29 z19 => ?_)
    have m165 : Fx.Blk w33 g4 5 (grZ (grV l s)) 59 := m164.congr (fun j hj => by rcases j with _|_|_|_|_|j <;> first | rfl | omega)
    have hct24 := Fx.ChT.of_stp s29 m158.ty
    have m166 := m159.chT hct24 (by decide)
    have m167 := m160.chT hct24 (by decide)
    have m168 := m161.stp s29 ng4m134
    have m169 := m162.chT hct24 (by decide)
    have m170 := m163.chT hct24 (by decide)
    have b33 := s29.below b32 b32.size (by omega)
    refine Ln (sN (Wl (Lv ((pf g3 19)) (x_field rfl h14 Try.underlying29 rfl (s := 1) (by kernel_rfl) rfl (by show _ + 19 = _; omega)) (Lv (.slice bo (n8) (do9)) (x_load1 (x := stY (GN l ao n9 co bo n8 do9)) rfl rfl (by kernel_rfl) m167.cel (i := 19) (by omega) (by omega) rfl) (Lv (.agg (Fx.varr 5 (grZ (grV l s)))) (x_loadA (x := grZ (grV l s)) (y := grZ (grV l s)) rfl rfl (by kernel_rfl) (by kernel_rfl) m165.cel (i := 0) (by omega) (by omega) (fun j _ => by rw [Nat.zero_add])) (Fx.L.bslice (vs := [(0, .agg (Fx.varr 5 (grZ (grV l s))))]) (s := 5) (zc := fun zq => if zq < 1 then .int .i64 (0) else if zq < 3 then .int .u64 (0) else if zq < 4 then .int .i64 (0) else .int .u64 (0)) (y := Fx.ovr (fun j => (fun zq => if zq < 1 then .int .i64 (0) else if zq < 3 then .int .u64 (0) else if zq < 4 then .int .i64 (0) else .int .u64 (0)) (j % 5)) (0 * 5) 5 (grZ (grV l s))) (by rfl) rfl rfl Try.underlying27 (by kernel_rfl) (by rfl) (by rfl) (by kernel_rfl) (by rw [Fx.fill_step (off := 0 * 5) (s := 5) (y := grZ (grV l s)) rfl (Fx.cells_agg _ _) (by rfl)]; rfl) rfl fun g5 w34 eg5 m171 s30 z20 => ?_))))))
    have m172 := m166.stp s30 m166.ne
    have m173 := m167.stp s30 m167.ne
    have m174 := m168.stp s30 (m168.notNew (Nat.le_refl _))
    have m175 := m169.stp s30 (m169.notNew (Nat.le_refl _))
    have m176 := m170.stp s30 m170.ne
    have m177 := m165.stp s30 m165.ne
    have b34 := s30.below b33 b33.size b33.size
    have lg5 : w.heap.size ≤ g5 := by rw [eg5]; exact b33.size
    have ng5m172 : g1 ≠ g5 := by rw [eg5]; exact Nat.ne_of_lt (m166.lt)
    have ng5m173 : g3 ≠ g5 := by rw [eg5]; exact Nat.ne_of_lt (m167.lt)
    have ng5m174 : (.slice bo (n8) (do9) : Value).ownBlock ≠ some g5 := by rw [eg5]; exact m168.notNew (Nat.le_refl _)
    have ng5m176 : g2 ≠ g5 := by rw [eg5]; exact Nat.ne_of_lt (m170.lt)
    have ng5m177 : g4 ≠ g5 := by rw [eg5]; exact Nat.ne_of_lt (m165.lt)
    have tg5 : g5 < w34.heap.size := m171.lt
    clear eg5
    refine Fx.L.app (B := w.heap.size) (s := 5) (bytes := 40) (k := n8) (m := 1) (v := .slice bo (n8) (do9)) (x := grsX gl) (by rfl) rfl rfl rfl Try.underlying27 (by kernel_rfl) (by kernel_rfl) rfl rfl m174 m171.cel (fun j hj => by unfold Fx.ovr; rw [if_pos ⟨by omega, by omega⟩]; exact grZ_one _ _) (by omega) (by omega) (by omega) b34.size fun g6 cap1 w35 ho1 hg1 hgv1 hlt1 => ?_
    have hct25 := Fx.ChT.of_grown hg1 m174
    have m179 := m172.chT hct25 (by decide)
    have m180 := m173.chT hct25 (by decide)
    have m181 := m175.chT hct25 (by decide)
    have m182 := m176.chT hct25 (by decide)
    have ng6m183 : g4 ≠ g6 := fun e => hgv1.elim (fun e2 => ng4m134 (by rw [e]; exact e2)) (fun e2 => by have := m177.lt; omega)
    have m178 : Fx.Own w35 w.heap.size 59 5 (.slice (some ⟨g6, 0, none⟩) (n8 + 1) cap1) (n8 + 1) (grsX (gl ++ [(grV l s)])) := (ho1.congr (grs_app1 (l := gl) (x := (grV l s)) hnl))
    have b35 : Below w.heap.size w w35 := Fx.Below.grow b34 hg1 b34.size (fun q hq => (m174.ge hq).1)
    refine Lv ((pf g3 19)) (x_field rfl h14 Try.underlying29 rfl (s := 1) (by kernel_rfl) rfl (by show _ + 19 = _; omega)) (Fx.L.store1 (x := stY (GN l ao n9 co bo n8 do9)) (u := .slice (some ⟨g6, 0, none⟩) (n8 + 1) (cap1)) (by rfl) rfl rfl rfl rfl (by rfl) (by kernel_rfl) m180 (i := 19) (by omega) fun w36 m184 s31 z21 => ?_)
    have m185 : Fx.Blk w36 g3 20 (stY (GN l ao n9 co (some ⟨g6, 0, none⟩) (n8 + 1) cap1)) 29 := m184.congr G_gs
    have m186 := m179.stp s31 (by omega)
    have hct26 := Fx.ChT.of_stp s31 m180.ty
    have m187 := m181.chT hct26 (by decide)
    have m188 := m182.chT hct26 (by decide)
    have m190 := m178.chT hct26 (by decide)
    have b36 := s31.below b35 b35.size (by omega)
    refine Ln (Fx.blkN (sN (Wl (Lv (.int .u64 ((r : Int))) (x_move rfl h15) (Lv (.int .u64 ((r : Int) - 1)) (Fx.x_sub rfl rfl rfl (Fx.u64e (by omega) (by omega))) (Lv (.int .u64 ((r : Int) - 1)) (x_assign rfl rfl) (Ln ?_)))))))
    skip
    refine Fx.lpN ⟨kE - 1, (by omega), r - 1, grS l s, gl ++ [(grV l s)], n8 + 1, (some ⟨g6, 0, none⟩), cap1, (by omega), (cutN_le (cut_le hs) 4), (ol_step (p := grsV l r s) (S := (grsV l (r - 1) (grS l s)).2) hol (grs_step (by omega) hbad)), (by rw [← hst, grs_step (by omega) hbad]), (by rw [List.length_append]; exact congrArg (· + 1) hnl), (by omega), h11, h12, h13, h14, Fx.ic, m186, m188, m185, m190, m187, b36⟩ (by decide)
   refine Lv (.bool false) (x_gtrF rfl rfl rfl c79) (Lv (.bool false) (x_move rfl rfl) (Lk (by rfl) rfl (Lk (by rfl) rfl (Lk (by rfl) rfl (Lk (by rfl) rfl (Lk (by rfl) rfl (Lv (.bool false) (x_pickF rfl rfl rfl) (Ln (sN (Wc (b := false) rfl (fun h => nomatch h) (fun _ => Fx.W.exit (Fx.seqX (Fx.lpX (Fx.blkX (sN (Ws (Ws ?_)))))))))))))))))
   have he9G := grs_end (l := l) (r := r) (s := s) (.inl (by omega))
   have eoG : gl = (gsV l).1 := by have q9 := hol; rw [he9G] at q9; simpa using q9
   have esG : s = (gsV l).2 := by have q9 := hst; rw [he9G] at q9; exact q9
   have m191 : Fx.Blk w19 g2 3 (ctY a n c ((gsV l).2)) 66 := by have q9 := m71; rw [esG] at q9; exact q9
   have hnG : n8 = (gsV l).1.length := by rw [← eoG]; exact hnl
   have m192 : Fx.Own w19 w.heap.size 59 5 (.slice bo (n8) (do9)) n8 (grsX (gsV l).1) := by have q9 := m73; rw [eoG] at q9; exact q9
   have m193 : Fx.Blk w19 g3 20 (stY (stS (rawV l) ao co bo do9)) 29 := by have q9 := m72; rw [hnN, hnG, G_end] at q9; exact q9
   have m194 : Fx.Own w19 w.heap.size 50 56 (.slice ao ((rawV l).ns.length) (co)) ((rawV l).ns.length) (ndsX (rawV l).ns) := by have q9 := m74; rw [hnN] at q9; exact q9
   have m195 : Fx.Own w19 w.heap.size 59 5 (.slice bo ((rawV l).gs.length) (do9)) ((rawV l).gs.length) (grsX (rawV l).gs) := by have q9 := m192; rw [hnG] at q9; exact q9
   refine Wl (Lv ((pt g2)) (x_move rfl h13) (Lv ((pt g2)) (x_nil rfl rfl) (Lv ((pf g2 2)) (x_field rfl rfl Try.underlying66 rfl (s := 1) (by kernel_rfl) rfl (by show _ + 2 = _; omega)) ?_)))
   by_cases c113 : (((gsV l).2).2) = true
   ·refine Lv (.bool true) (x_load1 (x := ctY a n c ((gsV l).2)) rfl rfl (by kernel_rfl) m191.cel (i := 2) (by omega) (by omega) ((show _ = Value.bool (((gsV l).2).2) from rfl).trans (congrArg Value.bool c113))) (Lv (.bool true) (x_move rfl rfl) (Lk (by rfl) rfl (Lk (by rfl) rfl (Lk (by rfl) rfl (Lv (.bool true) (x_pickT rfl rfl rfl) (Lv (.bool true) (x_move rfl rfl) (Lk (by rfl) rfl (Lk (by rfl) rfl (Lk (by rfl) rfl (Lk (by rfl) rfl (Lk (by rfl) rfl (Lv (.bool true) (x_pickT rfl rfl rfl) (Ln (sN (Wc (b := true) rfl (fun _ => Ws (Wl (Lv (.agg (Fx.varr 20 (fun zq => if zq < 12 then .bool false else if zq < 18 then .int .u64 (0) else .slice none 0 0))) (x_build (vs := []) (places := #[(0, 6), (6, 6), (12, 6), (18, 1), (19, 1)]) (m := 20) (x := fun zq => if zq < 12 then .bool false else if zq < 18 then .int .u64 (0) else .slice none 0 0) rfl rfl Try.underlying29 (by kernel_rfl) (by kernel_rfl) (by rfl)) ?_))) (fun h => nomatch h))))))))))))))))
    refine Fx.L.storeA (x := fun zq => if zq < 12 then .bool false else if zq < 18 then .int .u64 (0) else .slice none 0 0) (y := fun zq => if zq < 12 then .bool false else if zq < 18 then .int .u64 (0) else .slice none 0 0) (by rfl) rfl rfl h12 rfl (fun jq _ => by show ((fun zq => if zq < 12 then .bool false else if zq < 18 then .int .u64 (0) else .slice none 0 0 : Nat → Value) jq).oneCell' = true; simp only []; repeat (first | rfl | split)) (by kernel_rfl) m70 (i := 0) (by omega) fun w37 m196 s32 z22 => ?_
    have m197 : Fx.Blk w37 g1 20 (fun zq => if zq < 12 then .bool false else if zq < 18 then .int .u64 (0) else .slice none 0 0) 29 := Fx.ovr_all m196
    have m198 : Fx.Blk w37 g1 20 (stY mz) 29 := m197.congr (fun j hj => match j, hj with | 0, _ => rfl | 1, _ => rfl | 2, _ => rfl | 3, _ => rfl | 4, _ => rfl | 5, _ => rfl | 6, _ => rfl | 7, _ => rfl | 8, _ => rfl | 9, _ => rfl | 10, _ => rfl | 11, _ => rfl | 12, _ => rfl | 13, _ => rfl | 14, _ => rfl | 15, _ => rfl | 16, _ => rfl | 17, _ => rfl | 18, _ => rfl | 19, _ => rfl | j + 20, h => absurd h (by omega))
    have m200 := m193.stp s32 (by omega)
    have b37 := s32.below b19 b19.size (by omega)
    refine Lv (.int .i64 (5)) (x_assign rfl rfl) (Ln (sN (Wr (sR (⟨.tuple #[.agg (Fx.varr 20 (stY mz)), .int .i64 (5)], Fx.retV2 Try.results10 ⟨_, h12, Fx.run_loadV m198.cel (by kernel_rfl) (by kernel_rfl)⟩ (by exact rfl), ?_⟩)))))
    have hg9 := get_n (l := l) (fun h => by have q9 := h.1; rw [c113] at q9; cases q9)
    rw [hg9.1, hg9.2]
    exact ⟨none, 0, none, 0, rfl, Fx.Own.nil _ _ _ _ _, Fx.Own.nil _ _ _ _ _, b37⟩
   rw [Bool.not_eq_true] at c113
   refine Lv (.bool false) (x_load1 (x := ctY a n c ((gsV l).2)) rfl rfl (by kernel_rfl) m191.cel (i := 2) (by omega) (by omega) ((show _ = Value.bool (((gsV l).2).2) from rfl).trans (congrArg Value.bool c113))) (Lv (.bool false) (x_move rfl rfl) (Lv (.slice a (n) (c)) (x_move rfl h11) (Lv (.int .i64 ((n : Int))) (x_len rfl rfl rfl (by kernel_rfl)) ?_)))
   by_cases c117 : (n : Int) = 0
   ·refine Lv (.bool true) (x_eqlT rfl rfl rfl c117) (Lv (.bool true) (x_pickF rfl rfl rfl) (Lv (.bool true) (x_move rfl rfl) (Lk (by rfl) rfl (Lk (by rfl) rfl (Lk (by rfl) rfl (Lk (by rfl) rfl (Lk (by rfl) rfl (Lv (.bool true) (x_pickT rfl rfl rfl) (Ln (sN (Wc (b := true) rfl (fun _ => Ws (Wl (Lv (.agg (Fx.varr 20 (fun zq => if zq < 12 then .bool false else if zq < 18 then .int .u64 (0) else .slice none 0 0))) (x_build (vs := []) (places := #[(0, 6), (6, 6), (12, 6), (18, 1), (19, 1)]) (m := 20) (x := fun zq => if zq < 12 then .bool false else if zq < 18 then .int .u64 (0) else .slice none 0 0) rfl rfl Try.underlying29 (by kernel_rfl) (by kernel_rfl) (by rfl)) ?_))) (fun h => nomatch h))))))))))))
    refine Fx.L.storeA (x := fun zq => if zq < 12 then .bool false else if zq < 18 then .int .u64 (0) else .slice none 0 0) (y := fun zq => if zq < 12 then .bool false else if zq < 18 then .int .u64 (0) else .slice none 0 0) (by rfl) rfl rfl h12 rfl (fun jq _ => by show ((fun zq => if zq < 12 then .bool false else if zq < 18 then .int .u64 (0) else .slice none 0 0 : Nat → Value) jq).oneCell' = true; simp only []; repeat (first | rfl | split)) (by kernel_rfl) m70 (i := 0) (by omega) fun w38 m203 s33 z23 => ?_
    have m204 : Fx.Blk w38 g1 20 (fun zq => if zq < 12 then .bool false else if zq < 18 then .int .u64 (0) else .slice none 0 0) 29 := Fx.ovr_all m203
    have m205 : Fx.Blk w38 g1 20 (stY mz) 29 := m204.congr (fun j hj => match j, hj with | 0, _ => rfl | 1, _ => rfl | 2, _ => rfl | 3, _ => rfl | 4, _ => rfl | 5, _ => rfl | 6, _ => rfl | 7, _ => rfl | 8, _ => rfl | 9, _ => rfl | 10, _ => rfl | 11, _ => rfl | 12, _ => rfl | 13, _ => rfl | 14, _ => rfl | 15, _ => rfl | 16, _ => rfl | 17, _ => rfl | 18, _ => rfl | 19, _ => rfl | j + 20, h => absurd h (by omega))
    have m207 := m193.stp s33 (by omega)
    have b38 := s33.below b19 b19.size (by omega)
    refine Lv (.int .i64 (5)) (x_assign rfl rfl) (Ln (sN (Wr (sR (⟨.tuple #[.agg (Fx.varr 20 (stY mz)), .int .i64 (5)], Fx.retV2 Try.results10 ⟨_, h12, Fx.run_loadV m205.cel (by kernel_rfl) (by kernel_rfl)⟩ (by exact rfl), ?_⟩)))))
    have hg9 := get_n (l := l) (fun h => h.2.1 (List.eq_nil_of_length_eq_zero (by omega)))
    rw [hg9.1, hg9.2]
    exact ⟨none, 0, none, 0, rfl, Fx.Own.nil _ _ _ _ _, Fx.Own.nil _ _ _ _ _, b38⟩
   refine Lv (.bool false) (x_eqlF rfl rfl rfl c117) (Lv (.bool false) (x_pickF rfl rfl rfl) (Lv (.bool false) (x_move rfl rfl) (Lv (.agg (Fx.varr 20 (stY (stS (rawV l) ao co bo do9)))) (x_loadA (x := stY (stS (rawV l) ao co bo do9)) (y := stY (stS (rawV l) ao co bo do9)) rfl h14 (by kernel_rfl) (by kernel_rfl) m193.cel (i := 0) (by omega) (by omega) (fun j _ => by rw [Nat.zero_add])) (Fx.L.call (by rfl) (rC (args := [.agg (Fx.varr 20 (stY (stS (rawV l) ao co bo do9)))]) rfl rfl Try.func14 rfl rfl) rfl ((s_put (rawV l) ao co bo do9 _ ⟨raw_r, Nat.le_trans raw_len.1 (by decide), Nat.le_trans raw_len.2 (by decide), m194.arr, m195.arr, m194.le, m195.le⟩).mono ?_)))))
   rintro e9 w39 ⟨pa2, pc2, he, hm2, hb2⟩
   refine ⟨_, he, ?_⟩
   clear he
   have s34 := Sb hb2
   have m211 := m70.stp s34 m70.ne
   have m213 := m193.stp s34 m193.ne
   have m214 := m194.stp s34 (m194.notNew (Nat.le_refl _))
   have m215 := m195.stp s34 (m195.notNew (Nat.le_refl _))
   have b39 := s34.below b19 b19.size b19.size
   have m210 : Fx.Own w39 w.heap.size 5 1 (.slice pa2 ((putB (rawV l)).length) (pc2)) ((putB (rawV l)).length) (Fx.byY (putB (rawV l))) := hm2.mono b19.size
   refine Lv (.slice a (n) (c)) (x_move rfl h11) ?_
   by_cases c123 : (decide (putB (rawV l) = l)) = true
   ·refine Fx.L.call (by rfl) (rC (args := [.slice pa2 ((putB (rawV l)).length) (pc2), .slice a (n) (c)]) rfl rfl Try.func33 rfl rfl) rfl ((b_equal pa2 a ((putB (rawV l)).length) pc2 n c (putB (rawV l)) l _ rfl hn m210.arr (hb.up b39 rfl)).mono ?_)
    rintro e v1 ⟨he, hv1⟩
    subst v1
    refine ⟨.bool true, by rw [he, c123], ?_⟩
    clear he
    refine Lv (.bool false) (Fx.x_notF rfl rfl) (Lv (.bool false) (x_pickF rfl rfl rfl) (Ln (sN (Wc (b := false) rfl (fun h => nomatch h) (fun _ => Wk (sN (Ws (Wl (Lv (.agg (Fx.varr 20 (stY (stS (rawV l) ao co bo do9)))) (x_loadA (x := stY (stS (rawV l) ao co bo do9)) (y := stY (stS (rawV l) ao co bo do9)) rfl h14 (by kernel_rfl) (by kernel_rfl) m213.cel (i := 0) (by omega) (by omega) (fun j _ => by rw [Nat.zero_add])) (Fx.L.storeA (x := fun zq => if zq < 12 then .bool false else if zq < 18 then .int .u64 (0) else .slice none 0 0) (y := stY (stS (rawV l) ao co bo do9)) (by rfl) rfl rfl h12 rfl (fun j _ => stY_one _ j) (by kernel_rfl) m211 (i := 0) (by omega) fun w40 m216 s35 z24 => ?_))))))))))
    have m217 : Fx.Blk w40 g1 20 (stY (stS (rawV l) ao co bo do9)) 29 := Fx.ovr_all m216
    have hct29 := Fx.ChT.of_stp s35 m211.ty
    have m220 := m213.stp s35 (by omega)
    have m221 := m214.chT hct29 (by decide)
    have m222 := m215.chT hct29 (by decide)
    have b40 := s35.below b39 b39.size (by omega)
    refine Lv (.int .i64 (0)) (x_assign rfl rfl) (Ln (sN (Wr (⟨.tuple #[.agg (Fx.varr 20 (stY (stS (rawV l) ao co bo do9))), .int .i64 (0)], Fx.retV2 Try.results10 ⟨_, h12, Fx.run_loadV m217.cel (by kernel_rfl) (by kernel_rfl)⟩ (by exact rfl), ?_⟩))))
    have hg9 := get_y (l := l) ⟨c113, (fun h => by rw [h] at hn; exact absurd hn (by rw [List.length_nil]; omega)), of_decide_eq_true c123⟩
    rw [hg9.1, hg9.2]
    exact ⟨ao, co, bo, do9, rfl, m221, m222, b40⟩
   rw [Bool.not_eq_true] at c123
   refine Fx.L.call (by rfl) (rC (args := [.slice pa2 ((putB (rawV l)).length) (pc2), .slice a (n) (c)]) rfl rfl Try.func33 rfl rfl) rfl ((b_equal pa2 a ((putB (rawV l)).length) pc2 n c (putB (rawV l)) l _ rfl hn m210.arr (hb.up b39 rfl)).mono ?_)
   rintro e v1 ⟨he, hv1⟩
   subst v1
   refine ⟨.bool false, by rw [he, c123], ?_⟩
   clear he
   refine Lv (.bool true) (Fx.x_notT rfl rfl) (Lv (.bool true) (x_pickF rfl rfl rfl) (Ln (sN (Wc (b := true) rfl (fun _ => Ws (Wl (Lv (.agg (Fx.varr 20 (fun zq => if zq < 12 then .bool false else if zq < 18 then .int .u64 (0) else .slice none 0 0))) (x_build (vs := []) (places := #[(0, 6), (6, 6), (12, 6), (18, 1), (19, 1)]) (m := 20) (x := fun zq => if zq < 12 then .bool false else if zq < 18 then .int .u64 (0) else .slice none 0 0) rfl rfl Try.underlying29 (by kernel_rfl) (by kernel_rfl) (by rfl)) ?_))) (fun h => nomatch h)))))
   refine Fx.L.storeA (x := fun zq => if zq < 12 then .bool false else if zq < 18 then .int .u64 (0) else .slice none 0 0) (y := fun zq => if zq < 12 then .bool false else if zq < 18 then .int .u64 (0) else .slice none 0 0) (by rfl) rfl rfl h12 rfl (fun jq _ => by show ((fun zq => if zq < 12 then .bool false else if zq < 18 then .int .u64 (0) else .slice none 0 0 : Nat → Value) jq).oneCell' = true; simp only []; repeat (first | rfl | split)) (by kernel_rfl) m211 (i := 0) (by omega) fun w41 m224 s36 z25 => ?_
   have m225 : Fx.Blk w41 g1 20 (fun zq => if zq < 12 then .bool false else if zq < 18 then .int .u64 (0) else .slice none 0 0) 29 := Fx.ovr_all m224
   have m226 : Fx.Blk w41 g1 20 (stY mz) 29 := m225.congr (fun j hj => match j, hj with | 0, _ => rfl | 1, _ => rfl | 2, _ => rfl | 3, _ => rfl | 4, _ => rfl | 5, _ => rfl | 6, _ => rfl | 7, _ => rfl | 8, _ => rfl | 9, _ => rfl | 10, _ => rfl | 11, _ => rfl | 12, _ => rfl | 13, _ => rfl | 14, _ => rfl | 15, _ => rfl | 16, _ => rfl | 17, _ => rfl | 18, _ => rfl | 19, _ => rfl | j + 20, h => absurd h (by omega))
   have m228 := m213.stp s36 (by omega)
   have b41 := s36.below b39 b39.size (by omega)
   refine Lv (.int .i64 (5)) (x_assign rfl rfl) (Ln (sN (Wr (sR (⟨.tuple #[.agg (Fx.varr 20 (stY mz)), .int .i64 (5)], Fx.retV2 Try.results10 ⟨_, h12, Fx.run_loadV m226.cel (by kernel_rfl) (by kernel_rfl)⟩ (by exact rfl), ?_⟩)))))
   have hg9 := get_n (l := l) (fun h => (of_decide_eq_false c123) h.2.2)
   rw [hg9.1, hg9.2]
   exact ⟨none, 0, none, 0, rfl, Fx.Own.nil _ _ _ _ _, Fx.Own.nil _ _ _ _ _, b41⟩
  rw [Bool.not_eq_true] at c49
  refine Lv (.bool false) (x_load1 (x := ctY a n c s) rfl rfl (by kernel_rfl) m60.cel (i := 2) (by omega) (by omega) ((show _ = Value.bool s.2 from rfl).trans (congrArg Value.bool c49))) (Lv (.bool true) (Fx.x_notT rfl rfl) (Lv (.bool true) (x_pickT rfl rfl rfl) (Ln (sN (Wc (b := true) rfl (fun _ => Wk (sN (Ws (Fx.W.block (Ws ?_))))) (fun h => nomatch h))))))
  have hbad : s.2 = false := c49
  refine Wl (Lv ((pt g2)) (x_move rfl h8) (Fx.L.call (by rfl) (rC (args := [(pt g2), .int .i64 (8)]) rfl rfl Try.func29 rfl rfl) rfl ((c_number g2 a n c l s 8 _ (by decide) (by rw [hn]; exact hs) hn hc hl (hb.up b17 rfl) m60).mono ?_)))
  rintro e9 w42 ⟨he, hq11, s37⟩
  refine ⟨_, he, ?_⟩
  clear he
  have hct31 := Fx.ChT.of_stp s37 m60.ty
  have m233 := m59.chT hct31 (by decide)
  have m234 := m61.chT hct31 (by decide)
  have m235 := m62.chT hct31 (by decide)
  have b42 := s37.below b17 b17.size (by omega)
  have m232 : Fx.Blk w42 g2 3 (ctY a n c (cutN l 8 1 s)) 66 := hq11
  refine Lv ((pt g2)) (x_move rfl h8) (Fx.L.call (by rfl) (rC (args := [(pt g2), .int .i64 (8)]) rfl rfl Try.func29 rfl rfl) rfl ((c_number g2 a n c l (cutN l 8 1 s) 8 _ (by decide) (by rw [hn]; exact cutN_le hs 1) hn hc hl (hb.up b42 rfl) m232).mono ?_))
  rintro e9 w43 ⟨he, hq12, s38⟩
  refine ⟨_, he, ?_⟩
  clear he
  have hct32 := Fx.ChT.of_stp s38 m232.ty
  have m237 := m233.chT hct32 (by decide)
  have m238 := m234.chT hct32 (by decide)
  have m239 := m235.chT hct32 (by decide)
  have b43 := s38.below b42 b42.size (by omega)
  have m236 : Fx.Blk w43 g2 3 (ctY a n c (cutN l 8 2 s)) 66 := hq12
  refine Lv (.agg (Fx.varr 56 (Fx.ovr (Fx.ovr (fun zq => if zq < 2 then .int .u64 (0) else .int .i64 (0)) 0 1 (fun _ => .int .u64 (rowV l s 8 0))) 1 1 (fun _ => .int .u64 (rowV l s 8 1))))) (x_build (vs := [(0, .int .u64 (rowV l s 8 0)), (1, .int .u64 (rowV l s 8 1))]) (places := #[(0, 1), (1, 1), (2, 54)]) (m := 56) (x := fun zq => if zq < 2 then .int .u64 (0) else .int .i64 (0)) rfl rfl Try.underlying50 (by kernel_rfl) (by kernel_rfl) (by rw [Fx.fill_step (off := 0) (s := 1) (y := fun _ => .int .u64 (rowV l s 8 0)) (by kernel_rfl) (Fx.cells_one (by rfl)) (by rfl)]; rw [Fx.fill_step (off := 1) (s := 1) (y := fun _ => .int .u64 (rowV l s 8 1)) (by kernel_rfl) (Fx.cells_one (by rfl)) (by rfl)]; rfl)) (Fx.L.new (m := 56) (y := fun zq => if zq < 2 then .int .u64 (0) else .int .i64 (0)) (by rfl) rfl (by kernel_rfl) rfl fun g7 w44 eg7 m240 s39 z26 => ?_)
  have m241 := m237.stp s39 m237.ne
  have m242 := m238.stp s39 m238.ne
  have m243 := m239.stp s39 (m239.notNew (Nat.le_refl _))
  have m244 := m236.stp s39 m236.ne
  have b44 := s39.below b43 b43.size b43.size
  have lg7 : w.heap.size ≤ g7 := by rw [eg7]; exact b43.size
  have ng7m241 : g1 ≠ g7 := by rw [eg7]; exact Nat.ne_of_lt (m237.lt)
  have ng7m242 : g3 ≠ g7 := by rw [eg7]; exact Nat.ne_of_lt (m238.lt)
  have ng7m243 : (.slice ao (n9) (co) : Value).ownBlock ≠ some g7 := by rw [eg7]; exact m239.notNew (Nat.le_refl _)
  have ng7m244 : g2 ≠ g7 := by rw [eg7]; exact Nat.ne_of_lt (m236.lt)
  have tg7 : g7 < w44.heap.size := m240.lt
  clear eg7
  refine Fx.L.storeA (x := fun zq => if zq < 2 then .int .u64 (0) else .int .i64 (0)) (y := Fx.ovr (Fx.ovr (fun zq => if zq < 2 then .int .u64 (0) else .int .i64 (0)) 0 1 (fun _ => .int .u64 (rowV l s 8 0))) 1 1 (fun _ => .int .u64 (rowV l s 8 1))) (by rfl) rfl rfl rfl rfl (Fx.ovr_ones (Fx.ovr_ones (fun jq _ => by show ((fun zq => if zq < 2 then .int .u64 (0) else .int .i64 (0) : Nat → Value) jq).oneCell' = true; simp only []; repeat (first | rfl | split)) (fun _ _ => rfl)) (fun _ _ => rfl)) (by kernel_rfl) m240 (i := 0) (by omega) fun w45 m245 s40 z27 => ?_
  have m246 : Fx.Blk w45 g7 56 (Fx.ovr (Fx.ovr (fun zq => if zq < 2 then .int .u64 (0) else .int .i64 (0)) 0 1 (fun _ => .int .u64 (rowV l s 8 0))) 1 1 (fun _ => .int .u64 (rowV l s 8 1))) 50 := Fx.ovr_all m245
  have m247 : Fx.Blk w45 g7 56 (ndZ (ndQ l s 0)) 50 := m246.congr (nq_zero (fun p => if_neg (by omega)))
  have hct33 := Fx.ChT.of_stp s40 m240.ty
  have m248 := m241.chT hct33 (by decide)
  have m249 := m242.chT hct33 (by decide)
  have m250 := m243.stp s40 ng7m243
  have m251 := m244.chT hct33 (by decide)
  have b45 := s40.below b44 b44.size (by omega)
  refine Ln (sN (Ws (Ws (Wl (Lv ((pf g7 2)) (x_field rfl rfl Try.underlying50 rfl (s := 54) (by kernel_rfl) rfl (by show _ + 2 = _; omega)) (Fx.L.call (by rfl) (rC (args := [(pf g7 2)]) rfl rfl Try.func31 rfl rfl) rfl ((s_rows g7 2 _).mono ?_)))))))
  rintro e9 w46 ⟨ra1, rc1, he, hm3, hb3⟩
  refine ⟨_, he, ?_⟩
  clear he
  have s41 := Sb hb3
  have m253 := m248.stp s41 m248.ne
  have m254 := m249.stp s41 m249.ne
  have m255 := m250.stp s41 (m250.notNew (Nat.le_refl _))
  have m256 := m251.stp s41 m251.ne
  have m257 := m247.stp s41 m247.ne
  have b46 := s41.below b45 b45.size b45.size
  have m252 : Fx.Own w46 w.heap.size 73 1 (.slice ra1 (9) (rc1)) 9 (rowsX g7 2) := hm3.mono b45.size
  refine Lv (.int .i64 (9)) (x_len rfl rfl rfl (by kernel_rfl)) (Lv (.int .i64 (0)) (x_move rfl rfl) (Ln (sN (Fx.W.block (Fx.W.loop (fun f w_ => ∃ q : Nat, q ≤ 9 ∧ f 0 = .slice a (n) (c) ∧ f 2 = (pt g1) ∧ f 4 = (pt g2) ∧ f 5 = (pt g3) ∧ f 8 = .int .u64 ((r : Int)) ∧ f 9 = (pt g7) ∧ f 60 = .slice ra1 (9) (rc1) ∧ f 61 = .int .i64 (9) ∧ f 62 = .int .i64 ((q : Int)) ∧ Fx.Blk w_ g1 20 (fun zq => if zq < 12 then .bool false else if zq < 18 then .int .u64 (0) else .slice none 0 0) 29 ∧ Fx.Blk w_ g3 20 (stY (GN l ao n9 co none 0 0)) 29 ∧ Fx.Blk w_ g2 3 (ctY a n c (cutN l 8 (2 + 6 * q) s)) 66 ∧ Fx.Blk w_ g7 56 (ndZ (ndQ l s q)) 50 ∧ Fx.Own w_ w.heap.size 50 56 (.slice ao (n9) (co)) n9 (ndsX ol) ∧ Fx.Own w_ w.heap.size 73 1 (.slice ra1 (9) (rc1)) 9 (rowsX g7 2) ∧ Below w.heap.size w w_) (fun f _ => (9 - (intOf (f 62)).toNat)) ⟨0, by omega, h6, h7, h8, h9, (h10.trans Fx.ic), (by rfl), (by rfl), Fx.ic, Fx.ic, m253, m254, m256, m257, m255, m252, b46⟩ ?_)))))
  rintro f4 w47 ⟨q, hq, h16, h17, h18, h19, h20, h21, h22, h23, h24, m258, m259, m260, m261, m262, m263, b47⟩
  refine Ws (Wl ?_)
  by_cases c63 : (q : Int) < 9
  ·refine Lv (.bool true) (Fx.x_lssT rfl h24 h23 c63) (Ln (sN (Ws (Wc (b := true) rfl (fun _ => Wk (sN (Ws (Fx.W.block (Ws (Wl ?_)))))) (fun h => nomatch h)))))
   obtain ⟨gq1, eq1⟩ := m263.addr (by omega)
   have m264 : Fx.Own w47 w.heap.size 73 1 (.slice (some ⟨gq1, 0, none⟩) 9 rc1) 9 (rowsX g7 2) := m263.congV (congrArg (fun q => Value.slice q 9 rc1) eq1)
   refine Lv ((pf gq1 q)) (x_indexS rfl (h22.trans (congrArg (fun q => Value.slice q (9) (rc1)) eq1)) h24 Try.underlying70 (s := 1) (by kernel_rfl) (by omega) (by omega) (by omega)) (Lv (.slice (some ⟨g7, 2 + 6 * q, none⟩) (6) (6)) (x_load1 (x := rowsX g7 2) rfl rfl (by kernel_rfl) m264.cel (i := q) (by omega) (by omega) rfl) (Lv (.slice (some ⟨g7, 2 + 6 * q, none⟩) (6) (6)) (x_assign rfl rfl) (Ln (sN (Wl (Lv ((pt g2)) (x_move rfl h18) (Lv (.slice (some ⟨g7, 2 + 6 * q, none⟩) (6) (6)) (x_move rfl rfl) (Fx.L.call (by rfl) (rC (args := [(pt g2), .slice (some ⟨g7, 2 + 6 * q, none⟩) (6) (6)]) rfl rfl Try.func32 rfl rfl) rfl ((c_manyi g2 g7 a n c l (cutN l 8 (2 + 6 * q) s) (2 + 6 * q) 6 6 (ndZ (ndQ l s q)) _ (by rw [hn]; exact cutN_le hs _) hn hc hl (by omega) (fun w9 h9 => hb.up (h9.below b47 (by rintro k9 (h8 | h8) <;> omega) b47.size) rfl) m260 m261).mono ?_)))))))))
   rintro e9 w48 ⟨he, hq13, hqt2, hcg2⟩
   refine ⟨_, he, ?_⟩
   clear he
   have m267 := m258.chg hcg2 (show ¬ (g1 = g2 ∨ g1 = g7) by omega)
   have m268 := m259.chg hcg2 (show ¬ (g3 = g2 ∨ g3 = g7) by omega)
   have m269 := m262.chg hcg2 (fun g9 hg9 h9 => h9.elim (fun h9 => absurd (Fx.Ty.only (h9 ▸ m262.ty hg9) m260.ty) (by decide)) (fun h9 => ng7m243 (h9 ▸ hg9)))
   have m270 := m264.chg hcg2 (fun g9 hg9 h9 => h9.elim (fun h9 => absurd (Fx.Ty.only (h9 ▸ m264.ty hg9) m260.ty) (by decide)) (fun h9 => absurd (Fx.Ty.only (h9 ▸ m264.ty hg9) m261.ty) (by decide)))
   have b48 := hcg2.below b47 (by rintro k9 (h9 | h9) <;> omega) b47.size
   have m265 : Fx.Blk w48 g2 3 (ctY a n c (cutN l 8 (2 + 6 * (q + 1)) s)) 66 := by have q9 := hq13; rw [cutN_add, show 2 + 6 * q + 6 = 2 + 6 * (q + 1) by omega] at q9; exact q9
   have m266 : Fx.Blk w48 g7 56 (ndZ (ndQ l s (q + 1))) 50 := hqt2.congr (nq_step (by omega))
   refine Ln (Fx.blkN (sN (Wl (Lv (.int .i64 ((q : Int) + 1)) (Fx.x_add rfl h24 rfl Fx.io) (Lv (.int .i64 ((q : Int) + 1)) (x_move rfl rfl) (Ln ?_))))))
   have m271 : Fx.Own w48 w.heap.size 73 1 (.slice ra1 (9) (rc1)) 9 (rowsX g7 2) := m270.congV (congrArg (fun q => Value.slice q 9 rc1) eq1.symm)
   refine Fx.lpN ⟨q + 1, by omega, h16, h17, h18, h19, (h20.trans Fx.ic), h21, h22, (h23.trans Fx.ic), Fx.ic, m267, m268, m265, m266, m269, m271, b48⟩ ?_
   show (9 - (intOf ((.int .i64 ((q : Int) + 1)))).toNat) < _
   simp only [h24, intOf]; omega
  refine Lv (.bool false) (Fx.x_lssF rfl h24 h23 c63) (Ln (sN (Ws (Wc (b := false) rfl (fun h => nomatch h) (fun _ => Fx.W.exit (Fx.seqX (Fx.lpX (Fx.blkX (sN ?_)))))))))
  have eq9 : q = 9 := by omega
  have m272 : Fx.Blk w47 g7 56 (ndZ (ndV l s)) 50 := (m261.congr (fun j hj => by rw [eq9]; exact nq_end j hj))
  have m273 : Fx.Blk w47 g2 3 (ctY a n c (ndS l s)) 66 := by have q9 := m260; rw [eq9] at q9; exact q9
  refine Wl (Lv ((pf g3 18)) (x_field rfl h19 Try.underlying29 rfl (s := 1) (by kernel_rfl) rfl (by show _ + 18 = _; omega)) (Lv (.slice ao (n9) (co)) (x_load1 (x := stY (GN l ao n9 co none 0 0)) rfl rfl (by kernel_rfl) m259.cel (i := 18) (by omega) (by omega) rfl) (Lv (.agg (Fx.varr 56 (ndZ (ndV l s)))) (x_loadA (x := ndZ (ndV l s)) (y := ndZ (ndV l s)) rfl h21 (by kernel_rfl) (by kernel_rfl) m272.cel (i := 0) (by omega) (by omega) (fun j _ => by rw [Nat.zero_add])) (Fx.L.bslice (vs := [(0, .agg (Fx.varr 56 (ndZ (ndV l s))))]) (s := 56) (zc := fun zq => if zq < 2 then .int .u64 (0) else .int .i64 (0)) (y := Fx.ovr (fun j => (fun zq => if zq < 2 then .int .u64 (0) else .int .i64 (0)) (j % 56)) (0 * 56) 56 (ndZ (ndV l s))) (by rfl) rfl rfl Try.underlying26 (by kernel_rfl) (by rfl) (by rfl) (by kernel_rfl) (by rw [Fx.fill_step (off := 0 * 56) (s := 56) (y := ndZ (ndV l s)) rfl (Fx.cells_agg _ _) (by rfl)]; rfl) rfl fun g8 w49 eg8 m274 s42 z28 => ?_))))
  have m275 := m258.stp s42 m258.ne
  have m276 := m259.stp s42 m259.ne
  have m277 := m262.stp s42 (m262.notNew (Nat.le_refl _))
  have m279 := m272.stp s42 m272.ne
  have m280 := m273.stp s42 m273.ne
  have b49 := s42.below b47 b47.size b47.size
  have lg8 : w.heap.size ≤ g8 := by rw [eg8]; exact b47.size
  have ng8m275 : g1 ≠ g8 := by rw [eg8]; exact Nat.ne_of_lt (m258.lt)
  have ng8m276 : g3 ≠ g8 := by rw [eg8]; exact Nat.ne_of_lt (m259.lt)
  have ng8m277 : (.slice ao (n9) (co) : Value).ownBlock ≠ some g8 := by rw [eg8]; exact m262.notNew (Nat.le_refl _)
  have ng8m279 : g7 ≠ g8 := by rw [eg8]; exact Nat.ne_of_lt (m272.lt)
  have ng8m280 : g2 ≠ g8 := by rw [eg8]; exact Nat.ne_of_lt (m273.lt)
  have tg8 : g8 < w49.heap.size := m274.lt
  clear eg8
  refine Fx.L.app (B := w.heap.size) (s := 56) (bytes := 448) (k := n9) (m := 1) (v := .slice ao (n9) (co)) (x := ndsX ol) (by rfl) rfl rfl rfl Try.underlying26 (by kernel_rfl) (by kernel_rfl) rfl rfl m277 m274.cel (fun j hj => by unfold Fx.ovr; rw [if_pos ⟨by omega, by omega⟩]; exact ndZ_one _ _) (by omega) (by omega) (by omega) b49.size fun g9 cap2 w50 ho2 hg2 hgv2 hlt2 => ?_
  have hct34 := Fx.ChT.of_grown hg2 m277
  have m282 := m275.chT hct34 (by decide)
  have m283 := m276.chT hct34 (by decide)
  have ng9m285 : g7 ≠ g9 := fun e => hgv2.elim (fun e2 => ng7m243 (by rw [e]; exact e2)) (fun e2 => by have := m279.lt; omega)
  have m286 := m280.chT hct34 (by decide)
  have m281 : Fx.Own w50 w.heap.size 50 56 (.slice (some ⟨g9, 0, none⟩) (n9 + 1) cap2) (n9 + 1) (ndsX (ol ++ [(ndV l s)])) := (ho2.congr (nds_app1 (l := ol) (x := (ndV l s)) hnl))
  have b50 : Below w.heap.size w w50 := Fx.Below.grow b49 hg2 b49.size (fun q hq => (m277.ge hq).1)
  refine Lv ((pf g3 18)) (x_field rfl h19 Try.underlying29 rfl (s := 1) (by kernel_rfl) rfl (by show _ + 18 = _; omega)) (Fx.L.store1 (x := stY (GN l ao n9 co none 0 0)) (u := .slice (some ⟨g9, 0, none⟩) (n9 + 1) (cap2)) (by rfl) rfl rfl rfl rfl (by rfl) (by kernel_rfl) m283 (i := 18) (by omega) fun w51 m287 s43 z29 => ?_)
  have m288 : Fx.Blk w51 g3 20 (stY (GN l (some ⟨g9, 0, none⟩) (n9 + 1) cap2 none 0 0)) 29 := m287.congr G_ns
  have m289 := m282.stp s43 (by omega)
  have hct35 := Fx.ChT.of_stp s43 m283.ty
  have m292 := m286.chT hct35 (by decide)
  have m293 := m281.chT hct35 (by decide)
  have b51 := s43.below b50 b50.size (by omega)
  refine Ln (Fx.blkN (sN (Wl (Lv (.int .u64 ((r : Int))) (x_move rfl h20) (Lv (.int .u64 ((r : Int) - 1)) (Fx.x_sub rfl rfl rfl (Fx.u64e (by omega) (by omega))) (Lv (.int .u64 ((r : Int) - 1)) (x_assign rfl rfl) (Ln ?_)))))))
  skip
  refine Fx.lpN ⟨kE - 1, (by omega), r - 1, ndS l s, ol ++ [(ndV l s)], n9 + 1, (some ⟨g9, 0, none⟩), cap2, (by omega), (cutN_le hs 56), (ol_step (p := ndsV l r s) (S := (ndsV l (r - 1) (ndS l s)).2) hol (nds_step (by omega) hbad)), (by rw [← hst, nds_step (by omega) hbad]), (by rw [List.length_append]; exact congrArg (· + 1) hnl), (by omega), h16, h17, h18, h19, Fx.ic, m289, m292, m288, m293, b51⟩ (by decide)
 refine Lv (.bool false) (x_gtrF rfl rfl rfl c44) (Lv (.bool false) (x_move rfl rfl) (Lk (by rfl) rfl (Lk (by rfl) rfl (Lk (by rfl) rfl (Lk (by rfl) rfl (Lk (by rfl) rfl (Lv (.bool false) (x_pickF rfl rfl rfl) (Ln (sN (Wc (b := false) rfl (fun h => nomatch h) (fun _ => Fx.W.exit (Fx.seqX (Fx.lpX (Fx.blkX (sN (Ws (Ws ?_)))))))))))))))))
 have he9N := nds_end (l := l) (r := r) (s := s) (.inl (by omega))
 have eoN : ol = (nsV l).1 := by have q9 := hol; rw [he9N] at q9; simpa using q9
 have esN : s = (nsV l).2 := by have q9 := hst; rw [he9N] at q9; exact q9
 have m294 : Fx.Blk w17 g2 3 (ctY a n c ((nsV l).2)) 66 := by have q9 := m60; rw [esN] at q9; exact q9
 have hsN : (nsV l).2.1 ≤ l.length := by rw [← esN]; exact hs
 have hnN : n9 = (nsV l).1.length := by rw [← eoN]; exact hnl
 have m295 : Fx.Own w17 w.heap.size 50 56 (.slice ao (n9) (co)) n9 (ndsX (nsV l).1) := by have q9 := m62; rw [eoN] at q9; exact q9
 refine Wl (Lv ((pt g2)) (x_move rfl h8) (Fx.L.call (by rfl) (rC (args := [(pt g2), .int .i64 (2)]) rfl rfl Try.func29 rfl rfl) rfl ((c_number g2 a n c l ((nsV l).2) 2 _ (by decide) (by rw [hn]; exact hsN) hn hc hl (hb.up b17 rfl) m294).mono ?_)))
 rintro e9 w52 ⟨he, hq14, s44⟩
 refine ⟨_, he, ?_⟩
 clear he
 have hct36 := Fx.ChT.of_stp s44 m294.ty
 have m297 := m59.chT hct36 (by decide)
 have m298 := m61.chT hct36 (by decide)
 have m299 := m295.chT hct36 (by decide)
 have b52 := s44.below b17 b17.size (by omega)
 have m296 : Fx.Blk w52 g2 3 (ctY a n c (cutS l (nsV l).2 2)) 66 := hq14
 refine Lv (.int .u64 (cutV l (nsV l).2 2)) (x_assign rfl rfl) (Ln (sN (Fx.W.block ?_)))
 have m300 : Fx.Own w52 w.heap.size 59 5 (.slice none (0) (0)) 0 (grsX ([])) := Fx.Own.nil _ _ _ _ _
 obtain ⟨k9G, hk9G⟩ : ∃ q, q = gnV l := ⟨_, rfl⟩
 refine Fx.W.loopE (fun kE f w_ => ∃ r : Nat, ∃ s : Ct, ∃ gl : List GrM, ∃ n8 : Nat, ∃ bo : Option Addr, ∃ do9 : Nat, kE = r ∧ s.1 ≤ l.length ∧ gl ++ (grsV l r s).1 = (gsV l).1 ∧ (grsV l r s).2 = (gsV l).2 ∧ n8 = gl.length ∧ n8 + r ≤ 65535 ∧ f 0 = .slice a (n) (c) ∧ f 2 = (pt g1) ∧ f 4 = (pt g2) ∧ f 5 = (pt g3) ∧ f 12 = .int .u64 ((r : Int)) ∧ Fx.Blk w_ g1 20 (fun zq => if zq < 12 then .bool false else if zq < 18 then .int .u64 (0) else .slice none 0 0) 29 ∧ Fx.Blk w_ g2 3 (ctY a n c s) 66 ∧ Fx.Blk w_ g3 20 (stY (GN l ao n9 co bo n8 do9)) 29 ∧ Fx.Own w_ w.heap.size 59 5 (.slice bo (n8) (do9)) n8 (grsX gl) ∧ Fx.Own w_ w.heap.size 50 56 (.slice ao (n9) (co)) n9 (ndsX (nsV l).1) ∧ Below w.heap.size w w_) (k9G) ⟨k9G, cutS l (nsV l).2 2, [], 0, none, 0, rfl, (cut_le hsN), (by rw [hk9G]; rfl), (by rw [hk9G]; rfl), rfl, (by have := @gn_le l; omega), h6, h7, h8, h9, (congrArg (Value.int .u64) (by rw [hk9G]; exact (Int.toNat_of_nonneg (cutV_bd (by decide)).1).symm)), m297, m296, m298, m300, m299, b52⟩ ?_
 rintro kE f5 w53 ⟨r, s, gl, n8, bo, do9, hkE, hs, hol, hst, hnl, hr, h25, h26, h27, h28, h29, m301, m302, m303, m304, m305, b53⟩
 refine Ws (Ws (Wl (Lv (.int .u64 ((r : Int))) (x_move rfl h29) ?_)))
 by_cases c79 : 0 < (r : Int)
 ·refine Lv (.bool true) (Fx.x_gtrT rfl rfl rfl c79) (Lv (.bool true) (x_move rfl rfl) (Lv ((pt g2)) (x_move rfl h27) (Lv ((pt g2)) (x_nil rfl rfl) (Lv ((pf g2 2)) (x_field rfl rfl Try.underlying66 rfl (s := 1) (by kernel_rfl) rfl (by show _ + 2 = _; omega)) ?_))))
  by_cases c84 : s.2 = true
  ·refine Lv (.bool true) (x_load1 (x := ctY a n c s) rfl rfl (by kernel_rfl) m302.cel (i := 2) (by omega) (by omega) ((show _ = Value.bool s.2 from rfl).trans (congrArg Value.bool c84))) (Lv (.bool false) (Fx.x_notF rfl rfl) (Lv (.bool false) (x_pickT rfl rfl rfl) (Ln (sN (Wc (b := false) rfl (fun h => nomatch h) (fun _ => Fx.W.exit (Fx.seqX (Fx.lpX (Fx.blkX (sN (Ws (Ws ?_))))))))))))
   have he9G := grs_end (l := l) (r := r) (s := s) (.inr c84)
   have eoG : gl = (gsV l).1 := by have q9 := hol; rw [he9G] at q9; simpa using q9
   have esG : s = (gsV l).2 := by have q9 := hst; rw [he9G] at q9; exact q9
   have m306 : Fx.Blk w53 g2 3 (ctY a n c ((gsV l).2)) 66 := by have q9 := m302; rw [esG] at q9; exact q9
   have hnG : n8 = (gsV l).1.length := by rw [← eoG]; exact hnl
   have m307 : Fx.Own w53 w.heap.size 59 5 (.slice bo (n8) (do9)) n8 (grsX (gsV l).1) := by have q9 := m304; rw [eoG] at q9; exact q9
   have m308 : Fx.Blk w53 g3 20 (stY (stS (rawV l) ao co bo do9)) 29 := by have q9 := m303; rw [hnN, hnG, G_end] at q9; exact q9
   have m309 : Fx.Own w53 w.heap.size 50 56 (.slice ao ((rawV l).ns.length) (co)) ((rawV l).ns.length) (ndsX (rawV l).ns) := by have q9 := m305; rw [hnN] at q9; exact q9
   have m310 : Fx.Own w53 w.heap.size 59 5 (.slice bo ((rawV l).gs.length) (do9)) ((rawV l).gs.length) (grsX (rawV l).gs) := by have q9 := m307; rw [hnG] at q9; exact q9
   refine Wl (Lv ((pt g2)) (x_move rfl h27) (Lv ((pt g2)) (x_nil rfl rfl) (Lv ((pf g2 2)) (x_field rfl rfl Try.underlying66 rfl (s := 1) (by kernel_rfl) rfl (by show _ + 2 = _; omega)) ?_)))
   by_cases c113 : (((gsV l).2).2) = true
   ·refine Lv (.bool true) (x_load1 (x := ctY a n c ((gsV l).2)) rfl rfl (by kernel_rfl) m306.cel (i := 2) (by omega) (by omega) ((show _ = Value.bool (((gsV l).2).2) from rfl).trans (congrArg Value.bool c113))) (Lv (.bool true) (x_move rfl rfl) (Lk (by rfl) rfl (Lk (by rfl) rfl (Lk (by rfl) rfl (Lv (.bool true) (x_pickT rfl rfl rfl) (Lv (.bool true) (x_move rfl rfl) (Lk (by rfl) rfl (Lk (by rfl) rfl (Lk (by rfl) rfl (Lk (by rfl) rfl (Lk (by rfl) rfl (Lv (.bool true) (x_pickT rfl rfl rfl) (Ln (sN (Wc (b := true) rfl (fun _ => Ws (Wl (Lv (.agg (Fx.varr 20 (fun zq => if zq < 12 then .bool false else if zq < 18 then .int .u64 (0) else .slice none 0 0))) (x_build (vs := []) (places := #[(0, 6), (6, 6), (12, 6), (18, 1), (19, 1)]) (m := 20) (x := fun zq => if zq < 12 then .bool false else if zq < 18 then .int .u64 (0) else .slice none 0 0) rfl rfl Try.underlying29 (by kernel_rfl) (by kernel_rfl) (by rfl)) ?_))) (fun h => nomatch h))))))))))))))))
    refine Fx.L.storeA (x := fun zq => if zq < 12 then .bool false else if zq < 18 then .int .u64 (0) else .slice none 0 0) (y := fun zq => if zq < 12 then .bool false else if zq < 18 then .int .u64 (0) else .slice none 0 0) (by rfl) rfl rfl h26 rfl (fun jq _ => by show ((fun zq => if zq < 12 then .bool false else if zq < 18 then .int .u64 (0) else .slice none 0 0 : Nat → Value) jq).oneCell' = true; simp only []; repeat (first | rfl | split)) (by kernel_rfl) m301 (i := 0) (by omega) fun w54 m311 s45 z30 => ?_
    have m312 : Fx.Blk w54 g1 20 (fun zq => if zq < 12 then .bool false else if zq < 18 then .int .u64 (0) else .slice none 0 0) 29 := Fx.ovr_all m311
    have m313 : Fx.Blk w54 g1 20 (stY mz) 29 := m312.congr (fun j hj => match j, hj with | 0, _ => rfl | 1, _ => rfl | 2, _ => rfl | 3, _ => rfl | 4, _ => rfl | 5, _ => rfl | 6, _ => rfl | 7, _ => rfl | 8, _ => rfl | 9, _ => rfl | 10, _ => rfl | 11, _ => rfl | 12, _ => rfl | 13, _ => rfl | 14, _ => rfl | 15, _ => rfl | 16, _ => rfl | 17, _ => rfl | 18, _ => rfl | 19, _ => rfl | j + 20, h => absurd h (by omega))
    have m315 := m308.stp s45 (by omega)
    have b54 := s45.below b53 b53.size (by omega)
    refine Lv (.int .i64 (5)) (x_assign rfl rfl) (Ln (sN (Wr (sR (⟨.tuple #[.agg (Fx.varr 20 (stY mz)), .int .i64 (5)], Fx.retV2 Try.results10 ⟨_, h26, Fx.run_loadV m313.cel (by kernel_rfl) (by kernel_rfl)⟩ (by exact rfl), ?_⟩)))))
    have hg9 := get_n (l := l) (fun h => by have q9 := h.1; rw [c113] at q9; cases q9)
    rw [hg9.1, hg9.2]
    exact ⟨none, 0, none, 0, rfl, Fx.Own.nil _ _ _ _ _, Fx.Own.nil _ _ _ _ _, b54⟩
   rw [Bool.not_eq_true] at c113
   refine Lv (.bool false) (x_load1 (x := ctY a n c ((gsV l).2)) rfl rfl (by kernel_rfl) m306.cel (i := 2) (by omega) (by omega) ((show _ = Value.bool (((gsV l).2).2) from rfl).trans (congrArg Value.bool c113))) (Lv (.bool false) (x_move rfl rfl) (Lv (.slice a (n) (c)) (x_move rfl h25) (Lv (.int .i64 ((n : Int))) (x_len rfl rfl rfl (by kernel_rfl)) ?_)))
   by_cases c117 : (n : Int) = 0
   ·refine Lv (.bool true) (x_eqlT rfl rfl rfl c117) (Lv (.bool true) (x_pickF rfl rfl rfl) (Lv (.bool true) (x_move rfl rfl) (Lk (by rfl) rfl (Lk (by rfl) rfl (Lk (by rfl) rfl (Lk (by rfl) rfl (Lk (by rfl) rfl (Lv (.bool true) (x_pickT rfl rfl rfl) (Ln (sN (Wc (b := true) rfl (fun _ => Ws (Wl (Lv (.agg (Fx.varr 20 (fun zq => if zq < 12 then .bool false else if zq < 18 then .int .u64 (0) else .slice none 0 0))) (x_build (vs := []) (places := #[(0, 6), (6, 6), (12, 6), (18, 1), (19, 1)]) (m := 20) (x := fun zq => if zq < 12 then .bool false else if zq < 18 then .int .u64 (0) else .slice none 0 0) rfl rfl Try.underlying29 (by kernel_rfl) (by kernel_rfl) (by rfl)) ?_))) (fun h => nomatch h))))))))))))
    refine Fx.L.storeA (x := fun zq => if zq < 12 then .bool false else if zq < 18 then .int .u64 (0) else .slice none 0 0) (y := fun zq => if zq < 12 then .bool false else if zq < 18 then .int .u64 (0) else .slice none 0 0) (by rfl) rfl rfl h26 rfl (fun jq _ => by show ((fun zq => if zq < 12 then .bool false else if zq < 18 then .int .u64 (0) else .slice none 0 0 : Nat → Value) jq).oneCell' = true; simp only []; repeat (first | rfl | split)) (by kernel_rfl) m301 (i := 0) (by omega) fun w55 m318 s46 z31 => ?_
    have m319 : Fx.Blk w55 g1 20 (fun zq => if zq < 12 then .bool false else if zq < 18 then .int .u64 (0) else .slice none 0 0) 29 := Fx.ovr_all m318
    have m320 : Fx.Blk w55 g1 20 (stY mz) 29 := m319.congr (fun j hj => match j, hj with | 0, _ => rfl | 1, _ => rfl | 2, _ => rfl | 3, _ => rfl | 4, _ => rfl | 5, _ => rfl | 6, _ => rfl | 7, _ => rfl | 8, _ => rfl | 9, _ => rfl | 10, _ => rfl | 11, _ => rfl | 12, _ => rfl | 13, _ => rfl | 14, _ => rfl | 15, _ => rfl | 16, _ => rfl | 17, _ => rfl | 18, _ => rfl | 19, _ => rfl | j + 20, h => absurd h (by omega))
    have m322 := m308.stp s46 (by omega)
    have b55 := s46.below b53 b53.size (by omega)
    refine Lv (.int .i64 (5)) (x_assign rfl rfl) (Ln (sN (Wr (sR (⟨.tuple #[.agg (Fx.varr 20 (stY mz)), .int .i64 (5)], Fx.retV2 Try.results10 ⟨_, h26, Fx.run_loadV m320.cel (by kernel_rfl) (by kernel_rfl)⟩ (by exact rfl), ?_⟩)))))
    have hg9 := get_n (l := l) (fun h => h.2.1 (List.eq_nil_of_length_eq_zero (by omega)))
    rw [hg9.1, hg9.2]
    exact ⟨none, 0, none, 0, rfl, Fx.Own.nil _ _ _ _ _, Fx.Own.nil _ _ _ _ _, b55⟩
   refine Lv (.bool false) (x_eqlF rfl rfl rfl c117) (Lv (.bool false) (x_pickF rfl rfl rfl) (Lv (.bool false) (x_move rfl rfl) (Lv (.agg (Fx.varr 20 (stY (stS (rawV l) ao co bo do9)))) (x_loadA (x := stY (stS (rawV l) ao co bo do9)) (y := stY (stS (rawV l) ao co bo do9)) rfl h28 (by kernel_rfl) (by kernel_rfl) m308.cel (i := 0) (by omega) (by omega) (fun j _ => by rw [Nat.zero_add])) (Fx.L.call (by rfl) (rC (args := [.agg (Fx.varr 20 (stY (stS (rawV l) ao co bo do9)))]) rfl rfl Try.func14 rfl rfl) rfl ((s_put (rawV l) ao co bo do9 _ ⟨raw_r, Nat.le_trans raw_len.1 (by decide), Nat.le_trans raw_len.2 (by decide), m309.arr, m310.arr, m309.le, m310.le⟩).mono ?_)))))
   rintro e9 w56 ⟨pa3, pc3, he, hm4, hb4⟩
   refine ⟨_, he, ?_⟩
   clear he
   have s47 := Sb hb4
   have m326 := m301.stp s47 m301.ne
   have m328 := m308.stp s47 m308.ne
   have m329 := m309.stp s47 (m309.notNew (Nat.le_refl _))
   have m330 := m310.stp s47 (m310.notNew (Nat.le_refl _))
   have b56 := s47.below b53 b53.size b53.size
   have m325 : Fx.Own w56 w.heap.size 5 1 (.slice pa3 ((putB (rawV l)).length) (pc3)) ((putB (rawV l)).length) (Fx.byY (putB (rawV l))) := hm4.mono b53.size
   refine Lv (.slice a (n) (c)) (x_move rfl h25) ?_
   by_cases c123 : (decide (putB (rawV l) = l)) = true
   ·refine Fx.L.call (by rfl) (rC (args := [.slice pa3 ((putB (rawV l)).length) (pc3), .slice a (n) (c)]) rfl rfl Try.func33 rfl rfl) rfl ((b_equal pa3 a ((putB (rawV l)).length) pc3 n c (putB (rawV l)) l _ rfl hn m325.arr (hb.up b56 rfl)).mono ?_)
    rintro e v1 ⟨he, hv1⟩
    subst v1
    refine ⟨.bool true, by rw [he, c123], ?_⟩
    clear he
    refine Lv (.bool false) (Fx.x_notF rfl rfl) (Lv (.bool false) (x_pickF rfl rfl rfl) (Ln (sN (Wc (b := false) rfl (fun h => nomatch h) (fun _ => Wk (sN (Ws (Wl (Lv (.agg (Fx.varr 20 (stY (stS (rawV l) ao co bo do9)))) (x_loadA (x := stY (stS (rawV l) ao co bo do9)) (y := stY (stS (rawV l) ao co bo do9)) rfl h28 (by kernel_rfl) (by kernel_rfl) m328.cel (i := 0) (by omega) (by omega) (fun j _ => by rw [Nat.zero_add])) (Fx.L.storeA (x := fun zq => if zq < 12 then .bool false else if zq < 18 then .int .u64 (0) else .slice none 0 0) (y := stY (stS (rawV l) ao co bo do9)) (by rfl) rfl rfl h26 rfl (fun j _ => stY_one _ j) (by kernel_rfl) m326 (i := 0) (by omega) fun w57 m331 s48 z32 => ?_))))))))))
    have m332 : Fx.Blk w57 g1 20 (stY (stS (rawV l) ao co bo do9)) 29 := Fx.ovr_all m331
    have hct39 := Fx.ChT.of_stp s48 m326.ty
    have m335 := m328.stp s48 (by omega)
    have m336 := m329.chT hct39 (by decide)
    have m337 := m330.chT hct39 (by decide)
    have b57 := s48.below b56 b56.size (by omega)
    refine Lv (.int .i64 (0)) (x_assign rfl rfl) (Ln (sN (Wr (⟨.tuple #[.agg (Fx.varr 20 (stY (stS (rawV l) ao co bo do9))), .int .i64 (0)], Fx.retV2 Try.results10 ⟨_, h26, Fx.run_loadV m332.cel (by kernel_rfl) (by kernel_rfl)⟩ (by exact rfl), ?_⟩))))
    have hg9 := get_y (l := l) ⟨c113, (fun h => by rw [h] at hn; exact absurd hn (by rw [List.length_nil]; omega)), of_decide_eq_true c123⟩
    rw [hg9.1, hg9.2]
    exact ⟨ao, co, bo, do9, rfl, m336, m337, b57⟩
   rw [Bool.not_eq_true] at c123
   refine Fx.L.call (by rfl) (rC (args := [.slice pa3 ((putB (rawV l)).length) (pc3), .slice a (n) (c)]) rfl rfl Try.func33 rfl rfl) rfl ((b_equal pa3 a ((putB (rawV l)).length) pc3 n c (putB (rawV l)) l _ rfl hn m325.arr (hb.up b56 rfl)).mono ?_)
   rintro e v1 ⟨he, hv1⟩
   subst v1
   refine ⟨.bool false, by rw [he, c123], ?_⟩
   clear he
   refine Lv (.bool true) (Fx.x_notT rfl rfl) (Lv (.bool true) (x_pickF rfl rfl rfl) (Ln (sN (Wc (b := true) rfl (fun _ => Ws (Wl (Lv (.agg (Fx.varr 20 (fun zq => if zq < 12 then .bool false else if zq < 18 then .int .u64 (0) else .slice none 0 0))) (x_build (vs := []) (places := #[(0, 6), (6, 6), (12, 6), (18, 1), (19, 1)]) (m := 20) (x := fun zq => if zq < 12 then .bool false else if zq < 18 then .int .u64 (0) else .slice none 0 0) rfl rfl Try.underlying29 (by kernel_rfl) (by kernel_rfl) (by rfl)) ?_))) (fun h => nomatch h)))))
   refine Fx.L.storeA (x := fun zq => if zq < 12 then .bool false else if zq < 18 then .int .u64 (0) else .slice none 0 0) (y := fun zq => if zq < 12 then .bool false else if zq < 18 then .int .u64 (0) else .slice none 0 0) (by rfl) rfl rfl h26 rfl (fun jq _ => by show ((fun zq => if zq < 12 then .bool false else if zq < 18 then .int .u64 (0) else .slice none 0 0 : Nat → Value) jq).oneCell' = true; simp only []; repeat (first | rfl | split)) (by kernel_rfl) m326 (i := 0) (by omega) fun w58 m339 s49 z33 => ?_
   have m340 : Fx.Blk w58 g1 20 (fun zq => if zq < 12 then .bool false else if zq < 18 then .int .u64 (0) else .slice none 0 0) 29 := Fx.ovr_all m339
   have m341 : Fx.Blk w58 g1 20 (stY mz) 29 := m340.congr (fun j hj => match j, hj with | 0, _ => rfl | 1, _ => rfl | 2, _ => rfl | 3, _ => rfl | 4, _ => rfl | 5, _ => rfl | 6, _ => rfl | 7, _ => rfl | 8, _ => rfl | 9, _ => rfl | 10, _ => rfl | 11, _ => rfl | 12, _ => rfl | 13, _ => rfl | 14, _ => rfl | 15, _ => rfl | 16, _ => rfl | 17, _ => rfl | 18, _ => rfl | 19, _ => rfl | j + 20, h => absurd h (by omega))
   have m343 := m328.stp s49 (by omega)
   have b58 := s49.below b56 b56.size (by omega)
   refine Lv (.int .i64 (5)) (x_assign rfl rfl) (Ln (sN (Wr (sR (⟨.tuple #[.agg (Fx.varr 20 (stY mz)), .int .i64 (5)], Fx.retV2 Try.results10 ⟨_, h26, Fx.run_loadV m341.cel (by kernel_rfl) (by kernel_rfl)⟩ (by exact rfl), ?_⟩)))))
   have hg9 := get_n (l := l) (fun h => (of_decide_eq_false c123) h.2.2)
   rw [hg9.1, hg9.2]
   exact ⟨none, 0, none, 0, rfl, Fx.Own.nil _ _ _ _ _, Fx.Own.nil _ _ _ _ _, b58⟩
  rw [Bool.not_eq_true] at c84
  refine Lv (.bool false) (x_load1 (x := ctY a n c s) rfl rfl (by kernel_rfl) m302.cel (i := 2) (by omega) (by omega) ((show _ = Value.bool s.2 from rfl).trans (congrArg Value.bool c84))) (Lv (.bool true) (Fx.x_notT rfl rfl) (Lv (.bool true) (x_pickT rfl rfl rfl) (Ln (sN (Wc (b := true) rfl (fun _ => Wk (sN (Ws (Fx.W.block (Ws ?_))))) (fun h => nomatch h))))))
  have hbad : s.2 = false := c84
  have hc1 := @cut1 l s
  refine Wl (Lv ((pt g2)) (x_move rfl h27) (Fx.L.call (by rfl) (rC (args := [(pt g2), .int .i64 (1)]) rfl rfl Try.func29 rfl rfl) rfl ((c_number g2 a n c l s 1 _ (by decide) (by rw [hn]; exact hs) hn hc hl (hb.up b53 rfl) m302).mono ?_)))
  rintro e9 w59 ⟨he, hq15, s50⟩
  refine ⟨_, he, ?_⟩
  clear he
  have hct41 := Fx.ChT.of_stp s50 m302.ty
  have m348 := m301.chT hct41 (by decide)
  have m349 := m303.chT hct41 (by decide)
  have m350 := m304.chT hct41 (by decide)
  have m351 := m305.chT hct41 (by decide)
  have b59 := s50.below b53 b53.size (by omega)
  have m347 : Fx.Blk w59 g2 3 (ctY a n c (cutS l s 1)) 66 := hq15
  refine Lv (.int .i64 (cutV l s 1)) (x_conv rfl rfl (by kernel_rfl) Try.underlying3 (Fx.i64e (by omega) rfl)) (Lv ((pt g2)) (x_move rfl h27) (Fx.L.call (by rfl) (rC (args := [(pt g2), .int .i64 (8)]) rfl rfl Try.func29 rfl rfl) rfl ((c_number g2 a n c l (cutS l s 1) 8 _ (by decide) (by rw [hn]; exact cut_le hs) hn hc hl (hb.up b59 rfl) m347).mono ?_)))
  rintro e9 w60 ⟨he, hq16, s51⟩
  refine ⟨_, he, ?_⟩
  clear he
  have hct42 := Fx.ChT.of_stp s51 m347.ty
  have m353 := m348.chT hct42 (by decide)
  have m354 := m349.chT hct42 (by decide)
  have m355 := m350.chT hct42 (by decide)
  have m356 := m351.chT hct42 (by decide)
  have b60 := s51.below b59 b59.size (by omega)
  have m352 : Fx.Blk w60 g2 3 (ctY a n c (cutN l 8 1 (cutS l s 1))) 66 := hq16
  refine Lv ((pt g2)) (x_move rfl h27) (Fx.L.call (by rfl) (rC (args := [(pt g2), .int .i64 (8)]) rfl rfl Try.func29 rfl rfl) rfl ((c_number g2 a n c l (cutN l 8 1 (cutS l s 1)) 8 _ (by decide) (by rw [hn]; exact cutN_le (cut_le hs) 1) hn hc hl (hb.up b60 rfl) m352).mono ?_))
  rintro e9 w61 ⟨he, hq17, s52⟩
  refine ⟨_, he, ?_⟩
  clear he
  have hct43 := Fx.ChT.of_stp s52 m352.ty
  have m358 := m353.chT hct43 (by decide)
  have m359 := m354.chT hct43 (by decide)
  have m360 := m355.chT hct43 (by decide)
  have m361 := m356.chT hct43 (by decide)
  have b61 := s52.below b60 b60.size (by omega)
  have m357 : Fx.Blk w61 g2 3 (ctY a n c (cutN l 8 2 (cutS l s 1))) 66 := hq17
  refine Lv (.agg (Fx.varr 5 (Fx.ovr (Fx.ovr (Fx.ovr (fun zq => if zq < 1 then .int .i64 (0) else if zq < 3 then .int .u64 (0) else if zq < 4 then .int .i64 (0) else .int .u64 (0)) 0 1 (fun _ => .int .i64 (cutV l s 1))) 1 1 (fun _ => .int .u64 (rowV l (cutS l s 1) 8 0))) 2 1 (fun _ => .int .u64 (rowV l (cutS l s 1) 8 1))))) (x_build (vs := [(0, .int .i64 (cutV l s 1)), (1, .int .u64 (rowV l (cutS l s 1) 8 0)), (2, .int .u64 (rowV l (cutS l s 1) 8 1))]) (places := #[(0, 1), (1, 1), (2, 1), (3, 1), (4, 1)]) (m := 5) (x := fun zq => if zq < 1 then .int .i64 (0) else if zq < 3 then .int .u64 (0) else if zq < 4 then .int .i64 (0) else .int .u64 (0)) rfl rfl Try.underlying59 (by kernel_rfl) (by kernel_rfl) (by rw [Fx.fill_step (off := 0) (s := 1) (y := fun _ => .int .i64 (cutV l s 1)) (by kernel_rfl) (Fx.cells_one (by rfl)) (by rfl)]; rw [Fx.fill_step (off := 1) (s := 1) (y := fun _ => .int .u64 (rowV l (cutS l s 1) 8 0)) (by kernel_rfl) (Fx.cells_one (by rfl)) (by rfl)]; rw [Fx.fill_step (off := 2) (s := 1) (y := fun _ => .int .u64 (rowV l (cutS l s 1) 8 1)) (by kernel_rfl) (Fx.cells_one (by rfl)) (by rfl)]; rfl)) (Fx.L.new (m := 5) (y := fun zq => if zq < 1 then .int .i64 (0) else if zq < 3 then .int .u64 (0) else if zq < 4 then .int .i64 (0) else .int .u64 (0)) (by rfl) rfl (by kernel_rfl) rfl fun g10 w62 eg10 m362 s53 z34 => ?_)
  have m363 := m358.stp s53 m358.ne
  have m364 := m359.stp s53 m359.ne
  have m365 := m360.stp s53 (m360.notNew (Nat.le_refl _))
  have m366 := m361.stp s53 (m361.notNew (Nat.le_refl _))
  have m367 := m357.stp s53 m357.ne
  have b62 := s53.below b61 b61.size b61.size
  have lg10 : w.heap.size ≤ g10 := by rw [eg10]; exact b61.size
  have ng10m363 : g1 ≠ g10 := by rw [eg10]; exact Nat.ne_of_lt (m358.lt)
  have ng10m364 : g3 ≠ g10 := by rw [eg10]; exact Nat.ne_of_lt (m359.lt)
  have ng10m365 : (.slice bo (n8) (do9) : Value).ownBlock ≠ some g10 := by rw [eg10]; exact m360.notNew (Nat.le_refl _)
  have ng10m367 : g2 ≠ g10 := by rw [eg10]; exact Nat.ne_of_lt (m357.lt)
  have tg10 : g10 < w62.heap.size := m362.lt
  clear eg10
  refine Fx.L.storeA (x := fun zq => if zq < 1 then .int .i64 (0) else if zq < 3 then .int .u64 (0) else if zq < 4 then .int .i64 (0) else .int .u64 (0)) (y := Fx.ovr (Fx.ovr (Fx.ovr (fun zq => if zq < 1 then .int .i64 (0) else if zq < 3 then .int .u64 (0) else if zq < 4 then .int .i64 (0) else .int .u64 (0)) 0 1 (fun _ => .int .i64 (cutV l s 1))) 1 1 (fun _ => .int .u64 (rowV l (cutS l s 1) 8 0))) 2 1 (fun _ => .int .u64 (rowV l (cutS l s 1) 8 1))) (by rfl) rfl rfl rfl rfl (Fx.ovr_ones (Fx.ovr_ones (Fx.ovr_ones (fun jq _ => by show ((fun zq => if zq < 1 then .int .i64 (0) else if zq < 3 then .int .u64 (0) else if zq < 4 then .int .i64 (0) else .int .u64 (0) : Nat → Value) jq).oneCell' = true; simp only []; repeat (first | rfl | split)) (fun _ _ => rfl)) (fun _ _ => rfl)) (fun _ _ => rfl)) (by kernel_rfl) m362 (i := 0) (by omega) fun w63 m368 s54 z35 => ?_
  have m369 : Fx.Blk w63 g10 5 (Fx.ovr (Fx.ovr (Fx.ovr (fun zq => if zq < 1 then .int .i64 (0) else if zq < 3 then .int .u64 (0) else if zq < 4 then .int .i64 (0) else .int .u64 (0)) 0 1 (fun _ => .int .i64 (cutV l s 1))) 1 1 (fun _ => .int .u64 (rowV l (cutS l s 1) 8 0))) 2 1 (fun _ => .int .u64 (rowV l (cutS l s 1) 8 1))) 59 := Fx.ovr_all m368
  have m370 : Fx.Blk w63 g10 5 (grZ ⟨cutV l s 1, rowV l (cutS l s 1) 8 0, rowV l (cutS l s 1) 8 1, 0, 0⟩) 59 := m369.congr (fun j hj => match j, hj with | 0, _ => rfl | 1, _ => rfl | 2, _ => rfl | 3, _ => rfl | 4, _ => rfl | j + 5, h => absurd h (by omega))
  have hct44 := Fx.ChT.of_stp s54 m362.ty
  have m371 := m363.chT hct44 (by decide)
  have m372 := m364.chT hct44 (by decide)
  have m373 := m365.stp s54 ng10m365
  have m374 := m366.chT hct44 (by decide)
  have m375 := m367.chT hct44 (by decide)
  have b63 := s54.below b62 b62.size (by omega)
  refine Ln (sN (Ws (Wl (Lv ((pt g2)) (x_move rfl h27) (Fx.L.call (by rfl) (rC (args := [(pt g2), .int .i64 (8)]) rfl rfl Try.func29 rfl rfl) rfl ((c_number g2 a n c l (cutN l 8 2 (cutS l s 1)) 8 _ (by decide) (by rw [hn]; exact cutN_le (cut_le hs) 2) hn hc hl (hb.up b63 rfl) m375).mono ?_))))))
  rintro e9 w64 ⟨he, hq18, s55⟩
  refine ⟨_, he, ?_⟩
  clear he
  have hct45 := Fx.ChT.of_stp s55 m375.ty
  have m377 := m371.chT hct45 (by decide)
  have m378 := m372.chT hct45 (by decide)
  have m379 := m373.chT hct45 (by decide)
  have m380 := m374.chT hct45 (by decide)
  have m381 := m370.chT hct45 (by decide)
  have b64 := s55.below b63 b63.size (by omega)
  have m376 : Fx.Blk w64 g2 3 (ctY a n c (cutN l 8 3 (cutS l s 1))) 66 := hq18
  refine Lv (.int .i64 (i64w (rowV l (cutS l s 1) 8 2))) (x_conv rfl rfl (by kernel_rfl) Try.underlying2 rfl) (Lv ((pt g2)) (x_move rfl h27) (Fx.L.call (by rfl) (rC (args := [(pt g2), .int .i64 (8)]) rfl rfl Try.func29 rfl rfl) rfl ((c_number g2 a n c l (cutN l 8 3 (cutS l s 1)) 8 _ (by decide) (by rw [hn]; exact cutN_le (cut_le hs) 3) hn hc hl (hb.up b64 rfl) m376).mono ?_)))
  rintro e9 w65 ⟨he, hq19, s56⟩
  refine ⟨_, he, ?_⟩
  clear he
  have hct46 := Fx.ChT.of_stp s56 m376.ty
  have m383 := m377.chT hct46 (by decide)
  have m384 := m378.chT hct46 (by decide)
  have m385 := m379.chT hct46 (by decide)
  have m386 := m380.chT hct46 (by decide)
  have m387 := m381.chT hct46 (by decide)
  have b65 := s56.below b64 b64.size (by omega)
  have m382 : Fx.Blk w65 g2 3 (ctY a n c (grS l s)) 66 := hq19
  refine Lv ((pf g10 3)) (x_field rfl rfl Try.underlying59 rfl (s := 1) (by kernel_rfl) rfl (by show _ + 3 = _; omega)) (Fx.L.store1 (x := grZ ⟨cutV l s 1, rowV l (cutS l s 1) 8 0, rowV l (cutS l s 1) 8 1, 0, 0⟩) (u := .int .i64 (i64w (rowV l (cutS l s 1) 8 2))) (by rfl) rfl rfl rfl rfl (by rfl) (by kernel_rfl) m387 (i := 3) (by omega) fun w66 m388 s57 z36 => ?_)
  have m389 : Fx.Blk w66 g10 5 (grZ ⟨cutV l s 1, rowV l (cutS l s 1) 8 0, rowV l (cutS l s 1) 8 1, i64w (rowV l (cutS l s 1) 8 2), 0⟩) 59 := m388.congr (fun j hj => by rcases j with _|_|_|_|_|j <;> first | rfl | omega)
  have hct47 := Fx.ChT.of_stp s57 m387.ty
  have m390 := m383.chT hct47 (by decide)
  have m391 := m384.chT hct47 (by decide)
  have m392 := m385.stp s57 ng10m365
  have m393 := m386.chT hct47 (by decide)
  have m394 := m382.chT hct47 (by decide)
  have b66 := s57.below b65 b65.size (by omega)
  refine Lv ((pf g10 4)) (x_field rfl rfl Try.underlying59 rfl (s := 1) (by kernel_rfl) rfl (by show _ + 4 = _; omega)) (Fx.L.store1 (x := grZ ⟨cutV l s 1, rowV l (cutS l s 1) 8 0, rowV l (cutS l s 1) 8 1, i64w (rowV l (cutS l s 1) 8 2), 0⟩) (u := .int .u64 (rowV l (cutS l s 1) 8 3)) (by rfl) rfl rfl rfl rfl (by rfl) (by kernel_rfl) m389 (i := 4) (by omega) fun w67 m395 s58 z37 => ?_)
  have m396 : Fx.Blk w67 g10 5 (grZ (grV l s)) 59 := m395.congr (fun j hj => by rcases j with _|_|_|_|_|j <;> first | rfl | omega)
  have hct48 := Fx.ChT.of_stp s58 m389.ty
  have m397 := m390.chT hct48 (by decide)
  have m398 := m391.chT hct48 (by decide)
  have m399 := m392.stp s58 ng10m365
  have m400 := m393.chT hct48 (by decide)
  have m401 := m394.chT hct48 (by decide)
  have b67 := s58.below b66 b66.size (by omega)
  refine Ln (sN (Wl (Lv ((pf g3 19)) (x_field rfl h28 Try.underlying29 rfl (s := 1) (by kernel_rfl) rfl (by show _ + 19 = _; omega)) (Lv (.slice bo (n8) (do9)) (x_load1 (x := stY (GN l ao n9 co bo n8 do9)) rfl rfl (by kernel_rfl) m398.cel (i := 19) (by omega) (by omega) rfl) (Lv (.agg (Fx.varr 5 (grZ (grV l s)))) (x_loadA (x := grZ (grV l s)) (y := grZ (grV l s)) rfl rfl (by kernel_rfl) (by kernel_rfl) m396.cel (i := 0) (by omega) (by omega) (fun j _ => by rw [Nat.zero_add])) (Fx.L.bslice (vs := [(0, .agg (Fx.varr 5 (grZ (grV l s))))]) (s := 5) (zc := fun zq => if zq < 1 then .int .i64 (0) else if zq < 3 then .int .u64 (0) else if zq < 4 then .int .i64 (0) else .int .u64 (0)) (y := Fx.ovr (fun j => (fun zq => if zq < 1 then .int .i64 (0) else if zq < 3 then .int .u64 (0) else if zq < 4 then .int .i64 (0) else .int .u64 (0)) (j % 5)) (0 * 5) 5 (grZ (grV l s))) (by rfl) rfl rfl Try.underlying27 (by kernel_rfl) (by rfl) (by rfl) (by kernel_rfl) (by rw [Fx.fill_step (off := 0 * 5) (s := 5) (y := grZ (grV l s)) rfl (Fx.cells_agg _ _) (by rfl)]; rfl) rfl fun g11 w68 eg11 m402 s59 z38 => ?_))))))
  have m403 := m397.stp s59 m397.ne
  have m404 := m398.stp s59 m398.ne
  have m405 := m399.stp s59 (m399.notNew (Nat.le_refl _))
  have m406 := m400.stp s59 (m400.notNew (Nat.le_refl _))
  have m407 := m401.stp s59 m401.ne
  have m408 := m396.stp s59 m396.ne
  have b68 := s59.below b67 b67.size b67.size
  have lg11 : w.heap.size ≤ g11 := by rw [eg11]; exact b67.size
  have ng11m403 : g1 ≠ g11 := by rw [eg11]; exact Nat.ne_of_lt (m397.lt)
  have ng11m404 : g3 ≠ g11 := by rw [eg11]; exact Nat.ne_of_lt (m398.lt)
  have ng11m405 : (.slice bo (n8) (do9) : Value).ownBlock ≠ some g11 := by rw [eg11]; exact m399.notNew (Nat.le_refl _)
  have ng11m407 : g2 ≠ g11 := by rw [eg11]; exact Nat.ne_of_lt (m401.lt)
  have ng11m408 : g10 ≠ g11 := by rw [eg11]; exact Nat.ne_of_lt (m396.lt)
  have tg11 : g11 < w68.heap.size := m402.lt
  clear eg11
  refine Fx.L.app (B := w.heap.size) (s := 5) (bytes := 40) (k := n8) (m := 1) (v := .slice bo (n8) (do9)) (x := grsX gl) (by rfl) rfl rfl rfl Try.underlying27 (by kernel_rfl) (by kernel_rfl) rfl rfl m405 m402.cel (fun j hj => by unfold Fx.ovr; rw [if_pos ⟨by omega, by omega⟩]; exact grZ_one _ _) (by omega) (by omega) (by omega) b68.size fun g12 cap3 w69 ho3 hg3 hgv3 hlt3 => ?_
  have hct49 := Fx.ChT.of_grown hg3 m405
  have m410 := m403.chT hct49 (by decide)
  have m411 := m404.chT hct49 (by decide)
  have m412 := m406.chT hct49 (by decide)
  have m413 := m407.chT hct49 (by decide)
  have ng12m414 : g10 ≠ g12 := fun e => hgv3.elim (fun e2 => ng10m365 (by rw [e]; exact e2)) (fun e2 => by have := m408.lt; omega)
  have m409 : Fx.Own w69 w.heap.size 59 5 (.slice (some ⟨g12, 0, none⟩) (n8 + 1) cap3) (n8 + 1) (grsX (gl ++ [(grV l s)])) := (ho3.congr (grs_app1 (l := gl) (x := (grV l s)) hnl))
  have b69 : Below w.heap.size w w69 := Fx.Below.grow b68 hg3 b68.size (fun q hq => (m405.ge hq).1)
  refine Lv ((pf g3 19)) (x_field rfl h28 Try.underlying29 rfl (s := 1) (by kernel_rfl) rfl (by show _ + 19 = _; omega)) (Fx.L.store1 (x := stY (GN l ao n9 co bo n8 do9)) (u := .slice (some ⟨g12, 0, none⟩) (n8 + 1) (cap3)) (by rfl) rfl rfl rfl rfl (by rfl) (by kernel_rfl) m411 (i := 19) (by omega) fun w70 m415 s60 z39 => ?_)
  have m416 : Fx.Blk w70 g3 20 (stY (GN l ao n9 co (some ⟨g12, 0, none⟩) (n8 + 1) cap3)) 29 := m415.congr G_gs
  have m417 := m410.stp s60 (by omega)
  have hct50 := Fx.ChT.of_stp s60 m411.ty
  have m418 := m412.chT hct50 (by decide)
  have m419 := m413.chT hct50 (by decide)
  have m421 := m409.chT hct50 (by decide)
  have b70 := s60.below b69 b69.size (by omega)
  refine Ln (Fx.blkN (sN (Wl (Lv (.int .u64 ((r : Int))) (x_move rfl h29) (Lv (.int .u64 ((r : Int) - 1)) (Fx.x_sub rfl rfl rfl (Fx.u64e (by omega) (by omega))) (Lv (.int .u64 ((r : Int) - 1)) (x_assign rfl rfl) (Ln ?_)))))))
  skip
  refine Fx.lpN ⟨kE - 1, (by omega), r - 1, grS l s, gl ++ [(grV l s)], n8 + 1, (some ⟨g12, 0, none⟩), cap3, (by omega), (cutN_le (cut_le hs) 4), (ol_step (p := grsV l r s) (S := (grsV l (r - 1) (grS l s)).2) hol (grs_step (by omega) hbad)), (by rw [← hst, grs_step (by omega) hbad]), (by rw [List.length_append]; exact congrArg (· + 1) hnl), (by omega), h25, h26, h27, h28, Fx.ic, m417, m419, m416, m421, m418, b70⟩ (by decide)
 refine Lv (.bool false) (x_gtrF rfl rfl rfl c79) (Lv (.bool false) (x_move rfl rfl) (Lk (by rfl) rfl (Lk (by rfl) rfl (Lk (by rfl) rfl (Lk (by rfl) rfl (Lk (by rfl) rfl (Lv (.bool false) (x_pickF rfl rfl rfl) (Ln (sN (Wc (b := false) rfl (fun h => nomatch h) (fun _ => Fx.W.exit (Fx.seqX (Fx.lpX (Fx.blkX (sN (Ws (Ws ?_)))))))))))))))))
 have he9G := grs_end (l := l) (r := r) (s := s) (.inl (by omega))
 have eoG : gl = (gsV l).1 := by have q9 := hol; rw [he9G] at q9; simpa using q9
 have esG : s = (gsV l).2 := by have q9 := hst; rw [he9G] at q9; exact q9
 have m422 : Fx.Blk w53 g2 3 (ctY a n c ((gsV l).2)) 66 := by have q9 := m302; rw [esG] at q9; exact q9
 have hnG : n8 = (gsV l).1.length := by rw [← eoG]; exact hnl
 have m423 : Fx.Own w53 w.heap.size 59 5 (.slice bo (n8) (do9)) n8 (grsX (gsV l).1) := by have q9 := m304; rw [eoG] at q9; exact q9
 have m424 : Fx.Blk w53 g3 20 (stY (stS (rawV l) ao co bo do9)) 29 := by have q9 := m303; rw [hnN, hnG, G_end] at q9; exact q9
 have m425 : Fx.Own w53 w.heap.size 50 56 (.slice ao ((rawV l).ns.length) (co)) ((rawV l).ns.length) (ndsX (rawV l).ns) := by have q9 := m305; rw [hnN] at q9; exact q9
 have m426 : Fx.Own w53 w.heap.size 59 5 (.slice bo ((rawV l).gs.length) (do9)) ((rawV l).gs.length) (grsX (rawV l).gs) := by have q9 := m423; rw [hnG] at q9; exact q9
 refine Wl (Lv ((pt g2)) (x_move rfl h27) (Lv ((pt g2)) (x_nil rfl rfl) (Lv ((pf g2 2)) (x_field rfl rfl Try.underlying66 rfl (s := 1) (by kernel_rfl) rfl (by show _ + 2 = _; omega)) ?_)))
 by_cases c113 : (((gsV l).2).2) = true
 ·refine Lv (.bool true) (x_load1 (x := ctY a n c ((gsV l).2)) rfl rfl (by kernel_rfl) m422.cel (i := 2) (by omega) (by omega) ((show _ = Value.bool (((gsV l).2).2) from rfl).trans (congrArg Value.bool c113))) (Lv (.bool true) (x_move rfl rfl) (Lk (by rfl) rfl (Lk (by rfl) rfl (Lk (by rfl) rfl (Lv (.bool true) (x_pickT rfl rfl rfl) (Lv (.bool true) (x_move rfl rfl) (Lk (by rfl) rfl (Lk (by rfl) rfl (Lk (by rfl) rfl (Lk (by rfl) rfl (Lk (by rfl) rfl (Lv (.bool true) (x_pickT rfl rfl rfl) (Ln (sN (Wc (b := true) rfl (fun _ => Ws (Wl (Lv (.agg (Fx.varr 20 (fun zq => if zq < 12 then .bool false else if zq < 18 then .int .u64 (0) else .slice none 0 0))) (x_build (vs := []) (places := #[(0, 6), (6, 6), (12, 6), (18, 1), (19, 1)]) (m := 20) (x := fun zq => if zq < 12 then .bool false else if zq < 18 then .int .u64 (0) else .slice none 0 0) rfl rfl Try.underlying29 (by kernel_rfl) (by kernel_rfl) (by rfl)) ?_))) (fun h => nomatch h))))))))))))))))
  refine Fx.L.storeA (x := fun zq => if zq < 12 then .bool false else if zq < 18 then .int .u64 (0) else .slice none 0 0) (y := fun zq => if zq < 12 then .bool false else if zq < 18 then .int .u64 (0) else .slice none 0 0) (by rfl) rfl rfl h26 rfl (fun jq _ => by show ((fun zq => if zq < 12 then .bool false else if zq < 18 then .int .u64 (0) else .slice none 0 0 : Nat → Value) jq).oneCell' = true; simp only []; repeat (first | rfl | split)) (by kernel_rfl) m301 (i := 0) (by omega) fun w71 m427 s61 z40 => ?_
  have m428 : Fx.Blk w71 g1 20 (fun zq => if zq < 12 then .bool false else if zq < 18 then .int .u64 (0) else .slice none 0 0) 29 := Fx.ovr_all m427
  have m429 : Fx.Blk w71 g1 20 (stY mz) 29 := m428.congr (fun j hj => match j, hj with | 0, _ => rfl | 1, _ => rfl | 2, _ => rfl | 3, _ => rfl | 4, _ => rfl | 5, _ => rfl | 6, _ => rfl | 7, _ => rfl | 8, _ => rfl | 9, _ => rfl | 10, _ => rfl | 11, _ => rfl | 12, _ => rfl | 13, _ => rfl | 14, _ => rfl | 15, _ => rfl | 16, _ => rfl | 17, _ => rfl | 18, _ => rfl | 19, _ => rfl | j + 20, h => absurd h (by omega))
  have m431 := m424.stp s61 (by omega)
  have b71 := s61.below b53 b53.size (by omega)
  refine Lv (.int .i64 (5)) (x_assign rfl rfl) (Ln (sN (Wr (sR (⟨.tuple #[.agg (Fx.varr 20 (stY mz)), .int .i64 (5)], Fx.retV2 Try.results10 ⟨_, h26, Fx.run_loadV m429.cel (by kernel_rfl) (by kernel_rfl)⟩ (by exact rfl), ?_⟩)))))
  have hg9 := get_n (l := l) (fun h => by have q9 := h.1; rw [c113] at q9; cases q9)
  rw [hg9.1, hg9.2]
  exact ⟨none, 0, none, 0, rfl, Fx.Own.nil _ _ _ _ _, Fx.Own.nil _ _ _ _ _, b71⟩
 rw [Bool.not_eq_true] at c113
 refine Lv (.bool false) (x_load1 (x := ctY a n c ((gsV l).2)) rfl rfl (by kernel_rfl) m422.cel (i := 2) (by omega) (by omega) ((show _ = Value.bool (((gsV l).2).2) from rfl).trans (congrArg Value.bool c113))) (Lv (.bool false) (x_move rfl rfl) (Lv (.slice a (n) (c)) (x_move rfl h25) (Lv (.int .i64 ((n : Int))) (x_len rfl rfl rfl (by kernel_rfl)) ?_)))
 by_cases c117 : (n : Int) = 0
 ·refine Lv (.bool true) (x_eqlT rfl rfl rfl c117) (Lv (.bool true) (x_pickF rfl rfl rfl) (Lv (.bool true) (x_move rfl rfl) (Lk (by rfl) rfl (Lk (by rfl) rfl (Lk (by rfl) rfl (Lk (by rfl) rfl (Lk (by rfl) rfl (Lv (.bool true) (x_pickT rfl rfl rfl) (Ln (sN (Wc (b := true) rfl (fun _ => Ws (Wl (Lv (.agg (Fx.varr 20 (fun zq => if zq < 12 then .bool false else if zq < 18 then .int .u64 (0) else .slice none 0 0))) (x_build (vs := []) (places := #[(0, 6), (6, 6), (12, 6), (18, 1), (19, 1)]) (m := 20) (x := fun zq => if zq < 12 then .bool false else if zq < 18 then .int .u64 (0) else .slice none 0 0) rfl rfl Try.underlying29 (by kernel_rfl) (by kernel_rfl) (by rfl)) ?_))) (fun h => nomatch h))))))))))))
  refine Fx.L.storeA (x := fun zq => if zq < 12 then .bool false else if zq < 18 then .int .u64 (0) else .slice none 0 0) (y := fun zq => if zq < 12 then .bool false else if zq < 18 then .int .u64 (0) else .slice none 0 0) (by rfl) rfl rfl h26 rfl (fun jq _ => by show ((fun zq => if zq < 12 then .bool false else if zq < 18 then .int .u64 (0) else .slice none 0 0 : Nat → Value) jq).oneCell' = true; simp only []; repeat (first | rfl | split)) (by kernel_rfl) m301 (i := 0) (by omega) fun w72 m434 s62 z41 => ?_
  have m435 : Fx.Blk w72 g1 20 (fun zq => if zq < 12 then .bool false else if zq < 18 then .int .u64 (0) else .slice none 0 0) 29 := Fx.ovr_all m434
  have m436 : Fx.Blk w72 g1 20 (stY mz) 29 := m435.congr (fun j hj => match j, hj with | 0, _ => rfl | 1, _ => rfl | 2, _ => rfl | 3, _ => rfl | 4, _ => rfl | 5, _ => rfl | 6, _ => rfl | 7, _ => rfl | 8, _ => rfl | 9, _ => rfl | 10, _ => rfl | 11, _ => rfl | 12, _ => rfl | 13, _ => rfl | 14, _ => rfl | 15, _ => rfl | 16, _ => rfl | 17, _ => rfl | 18, _ => rfl | 19, _ => rfl | j + 20, h => absurd h (by omega))
  have m438 := m424.stp s62 (by omega)
  have b72 := s62.below b53 b53.size (by omega)
  refine Lv (.int .i64 (5)) (x_assign rfl rfl) (Ln (sN (Wr (sR (⟨.tuple #[.agg (Fx.varr 20 (stY mz)), .int .i64 (5)], Fx.retV2 Try.results10 ⟨_, h26, Fx.run_loadV m436.cel (by kernel_rfl) (by kernel_rfl)⟩ (by exact rfl), ?_⟩)))))
  have hg9 := get_n (l := l) (fun h => h.2.1 (List.eq_nil_of_length_eq_zero (by omega)))
  rw [hg9.1, hg9.2]
  exact ⟨none, 0, none, 0, rfl, Fx.Own.nil _ _ _ _ _, Fx.Own.nil _ _ _ _ _, b72⟩
 refine Lv (.bool false) (x_eqlF rfl rfl rfl c117) (Lv (.bool false) (x_pickF rfl rfl rfl) (Lv (.bool false) (x_move rfl rfl) (Lv (.agg (Fx.varr 20 (stY (stS (rawV l) ao co bo do9)))) (x_loadA (x := stY (stS (rawV l) ao co bo do9)) (y := stY (stS (rawV l) ao co bo do9)) rfl h28 (by kernel_rfl) (by kernel_rfl) m424.cel (i := 0) (by omega) (by omega) (fun j _ => by rw [Nat.zero_add])) (Fx.L.call (by rfl) (rC (args := [.agg (Fx.varr 20 (stY (stS (rawV l) ao co bo do9)))]) rfl rfl Try.func14 rfl rfl) rfl ((s_put (rawV l) ao co bo do9 _ ⟨raw_r, Nat.le_trans raw_len.1 (by decide), Nat.le_trans raw_len.2 (by decide), m425.arr, m426.arr, m425.le, m426.le⟩).mono ?_)))))
 rintro e9 w73 ⟨pa4, pc4, he, hm5, hb5⟩
 refine ⟨_, he, ?_⟩
 clear he
 have s63 := Sb hb5
 have m442 := m301.stp s63 m301.ne
 have m444 := m424.stp s63 m424.ne
 have m445 := m425.stp s63 (m425.notNew (Nat.le_refl _))
 have m446 := m426.stp s63 (m426.notNew (Nat.le_refl _))
 have b73 := s63.below b53 b53.size b53.size
 have m441 : Fx.Own w73 w.heap.size 5 1 (.slice pa4 ((putB (rawV l)).length) (pc4)) ((putB (rawV l)).length) (Fx.byY (putB (rawV l))) := hm5.mono b53.size
 refine Lv (.slice a (n) (c)) (x_move rfl h25) ?_
 by_cases c123 : (decide (putB (rawV l) = l)) = true
 ·refine Fx.L.call (by rfl) (rC (args := [.slice pa4 ((putB (rawV l)).length) (pc4), .slice a (n) (c)]) rfl rfl Try.func33 rfl rfl) rfl ((b_equal pa4 a ((putB (rawV l)).length) pc4 n c (putB (rawV l)) l _ rfl hn m441.arr (hb.up b73 rfl)).mono ?_)
  rintro e v1 ⟨he, hv1⟩
  subst v1
  refine ⟨.bool true, by rw [he, c123], ?_⟩
  clear he
  refine Lv (.bool false) (Fx.x_notF rfl rfl) (Lv (.bool false) (x_pickF rfl rfl rfl) (Ln (sN (Wc (b := false) rfl (fun h => nomatch h) (fun _ => Wk (sN (Ws (Wl (Lv (.agg (Fx.varr 20 (stY (stS (rawV l) ao co bo do9)))) (x_loadA (x := stY (stS (rawV l) ao co bo do9)) (y := stY (stS (rawV l) ao co bo do9)) rfl h28 (by kernel_rfl) (by kernel_rfl) m444.cel (i := 0) (by omega) (by omega) (fun j _ => by rw [Nat.zero_add])) (Fx.L.storeA (x := fun zq => if zq < 12 then .bool false else if zq < 18 then .int .u64 (0) else .slice none 0 0) (y := stY (stS (rawV l) ao co bo do9)) (by rfl) rfl rfl h26 rfl (fun j _ => stY_one _ j) (by kernel_rfl) m442 (i := 0) (by omega) fun w74 m447 s64 z42 => ?_))))))))))
  have m448 : Fx.Blk w74 g1 20 (stY (stS (rawV l) ao co bo do9)) 29 := Fx.ovr_all m447
  have hct53 := Fx.ChT.of_stp s64 m442.ty
  have m451 := m444.stp s64 (by omega)
  have m452 := m445.chT hct53 (by decide)
  have m453 := m446.chT hct53 (by decide)
  have b74 := s64.below b73 b73.size (by omega)
  refine Lv (.int .i64 (0)) (x_assign rfl rfl) (Ln (sN (Wr (⟨.tuple #[.agg (Fx.varr 20 (stY (stS (rawV l) ao co bo do9))), .int .i64 (0)], Fx.retV2 Try.results10 ⟨_, h26, Fx.run_loadV m448.cel (by kernel_rfl) (by kernel_rfl)⟩ (by exact rfl), ?_⟩))))
  have hg9 := get_y (l := l) ⟨c113, (fun h => by rw [h] at hn; exact absurd hn (by rw [List.length_nil]; omega)), of_decide_eq_true c123⟩
  rw [hg9.1, hg9.2]
  exact ⟨ao, co, bo, do9, rfl, m452, m453, b74⟩
 rw [Bool.not_eq_true] at c123
 refine Fx.L.call (by rfl) (rC (args := [.slice pa4 ((putB (rawV l)).length) (pc4), .slice a (n) (c)]) rfl rfl Try.func33 rfl rfl) rfl ((b_equal pa4 a ((putB (rawV l)).length) pc4 n c (putB (rawV l)) l _ rfl hn m441.arr (hb.up b73 rfl)).mono ?_)
 rintro e v1 ⟨he, hv1⟩
 subst v1
 refine ⟨.bool false, by rw [he, c123], ?_⟩
 clear he
 refine Lv (.bool true) (Fx.x_notT rfl rfl) (Lv (.bool true) (x_pickF rfl rfl rfl) (Ln (sN (Wc (b := true) rfl (fun _ => Ws (Wl (Lv (.agg (Fx.varr 20 (fun zq => if zq < 12 then .bool false else if zq < 18 then .int .u64 (0) else .slice none 0 0))) (x_build (vs := []) (places := #[(0, 6), (6, 6), (12, 6), (18, 1), (19, 1)]) (m := 20) (x := fun zq => if zq < 12 then .bool false else if zq < 18 then .int .u64 (0) else .slice none 0 0) rfl rfl Try.underlying29 (by kernel_rfl) (by kernel_rfl) (by rfl)) ?_))) (fun h => nomatch h)))))
 refine Fx.L.storeA (x := fun zq => if zq < 12 then .bool false else if zq < 18 then .int .u64 (0) else .slice none 0 0) (y := fun zq => if zq < 12 then .bool false else if zq < 18 then .int .u64 (0) else .slice none 0 0) (by rfl) rfl rfl h26 rfl (fun jq _ => by show ((fun zq => if zq < 12 then .bool false else if zq < 18 then .int .u64 (0) else .slice none 0 0 : Nat → Value) jq).oneCell' = true; simp only []; repeat (first | rfl | split)) (by kernel_rfl) m442 (i := 0) (by omega) fun w75 m455 s65 z43 => ?_
 have m456 : Fx.Blk w75 g1 20 (fun zq => if zq < 12 then .bool false else if zq < 18 then .int .u64 (0) else .slice none 0 0) 29 := Fx.ovr_all m455
 have m457 : Fx.Blk w75 g1 20 (stY mz) 29 := m456.congr (fun j hj => match j, hj with | 0, _ => rfl | 1, _ => rfl | 2, _ => rfl | 3, _ => rfl | 4, _ => rfl | 5, _ => rfl | 6, _ => rfl | 7, _ => rfl | 8, _ => rfl | 9, _ => rfl | 10, _ => rfl | 11, _ => rfl | 12, _ => rfl | 13, _ => rfl | 14, _ => rfl | 15, _ => rfl | 16, _ => rfl | 17, _ => rfl | 18, _ => rfl | 19, _ => rfl | j + 20, h => absurd h (by omega))
 have m459 := m444.stp s65 (by omega)
 have b75 := s65.below b73 b73.size (by omega)
 refine Lv (.int .i64 (5)) (x_assign rfl rfl) (Ln (sN (Wr (sR (⟨.tuple #[.agg (Fx.varr 20 (stY mz)), .int .i64 (5)], Fx.retV2 Try.results10 ⟨_, h26, Fx.run_loadV m457.cel (by kernel_rfl) (by kernel_rfl)⟩ (by exact rfl), ?_⟩)))))
 have hg9 := get_n (l := l) (fun h => (of_decide_eq_false c123) h.2.2)
 rw [hg9.1, hg9.2]
 exact ⟨none, 0, none, 0, rfl, Fx.Own.nil _ _ _ _ _, Fx.Own.nil _ _ _ _ _, b75⟩
end Go.Proofs.Ytcbedgfikejkoaa
namespace Go.Proofs.Ytcbedgfikejkoaa
namespace Crc
theorem stp_inj0 (s : W32) (h : stp s = 0#32) : s = 0#32 := by
  rw [stp_bit] at h
  by_cases hb : s.getLsbD 0 = true
  · rw [if_pos hb] at h
    exfalso
    have : ((s >>> 1) ^^^ pat).getLsbD 31 = (0#32).getLsbD 31 := by rw [h]
    rw [BitVec.getLsbD_xor, show pat.getLsbD 31 = true from rfl] at this
    simp at this
  rw [if_neg hb, BitVec.xor_zero] at h
  apply BitVec.eq_of_getLsbD_eq
  intro i hi
  cases i with
  | zero => simpa using hb
  | succ i =>
    have : (s >>> 1).getLsbD i = (0#32).getLsbD i := by rw [h]
    simpa [Nat.add_comm] using this
theorem stpN_inj0 : ∀ (n : Nat) (s : W32), stpN n s = 0#32 → s = 0#32
  | 0, _, h => h
  | n + 1, s, h => stpN_inj0 n s (stp_inj0 _ h)
theorem xor_eq_zero {a b : W32} (h : a ^^^ b = 0#32) : a = b := by
  calc a = a ^^^ (b ^^^ b) := by rw [BitVec.xor_self, BitVec.xor_zero]
    _ = (a ^^^ b) ^^^ b := by rw [BitVec.xor_assoc]
    _ = b := by rw [h, BitVec.zero_xor]
theorem stpN_inj (n : Nat) (a b : W32) (h : stpN n a = stpN n b) : a = b := by
  apply xor_eq_zero
  apply stpN_inj0 n
  rw [stpN_xor, h, BitVec.xor_self]
def bw (x : Bool) : W32 := if x then 1#32 else 0#32
def S (t : W32) (x : Nat → Bool) : Nat → W32
  | 0 => t
  | n + 1 => stp (S t x n ^^^ bw (x n))
end Crc
end Go.Proofs.Ytcbedgfikejkoaa
namespace Go.Proofs.Ytcbedgfikejkoaa
open Go.RowKit Rt
open Fx (x_move x_assign x_field x_load1 x_pickF x_pickT x_nil x_conv x_indexS x_index x_leqF x_loadA x_len x_gtrF x_build x_eqlF x_eqlT Lv sN Ln Ws Qv Wl Rp Wc Qs Wr Sb Lk Wk rC rV sR)
section
set_option linter.unusedVariables false
namespace Rt
theorem bstep_inj {a b : Crc.W32} {c : UInt8} (h : Crc.byteStep a c = Crc.byteStep b c) : a = b := by
  have := Crc.stpN_inj 8 _ _ h
  have h2 : (a ^^^ Crc.B c) ^^^ Crc.B c = (b ^^^ Crc.B c) ^^^ Crc.B c := by rw [this]
  rwa [BitVec.xor_assoc, BitVec.xor_assoc, BitVec.xor_self, BitVec.xor_zero, BitVec.xor_zero] at h2
theorem fold_inj : ∀ {l : List UInt8} {a b : Crc.W32}, l.foldl Crc.byteStep a = l.foldl Crc.byteStep b → a = b
  | [], _, _, h => h
  | _ :: _, _, _, h => bstep_inj (fold_inj h)
theorem B_inj {c d : UInt8} (h : Crc.B c = Crc.B d) : c = d := by
  unfold Crc.B at h
  have h2 := congrArg BitVec.toNat h
  rw [BitVec.toNat_ofNat, BitVec.toNat_ofNat] at h2
  have := c.toNat_lt
  have := d.toNat_lt
  exact UInt8.toNat_inj.1 (by omega)
theorem sum_turned {p q : List UInt8} {c d : UInt8} (h : Crc.sum (p ++ c :: q) = Crc.sum (p ++ d :: q)) : c = d := by
  unfold Crc.sum Crc.more at h
  have h := congrArg (fun x => ~~~ x) h
  simp only [BitVec.not_not, List.foldl_append, List.foldl_cons] at h
  have h := Crc.stpN_inj 8 _ _ (fold_inj h)
  generalize p.foldl Crc.byteStep (~~~ 0#32) = s at h
  have h2 : s ^^^ (s ^^^ Crc.B c) = s ^^^ (s ^^^ Crc.B d) := by rw [h]
  rw [← BitVec.xor_assoc, ← BitVec.xor_assoc, BitVec.xor_self, BitVec.zero_xor, BitVec.zero_xor] at h2
  exact B_inj h2
theorem emod_mul (x d : Int) (hd : 0 < d) : x % (d * 256) = (x / d % 256) * d + x % d := by
  have h1 := Int.mul_ediv_add_emod x d
  have h2 := Int.mul_ediv_add_emod (x / d) 256
  have r1 := Int.emod_nonneg x (Int.ne_of_gt hd)
  have r2 := Int.emod_lt_of_pos x hd
  have r3 := Int.emod_nonneg (x / d) (show (256 : Int) ≠ 0 by decide)
  have r4 := Int.emod_lt_of_pos (x / d) (show (0 : Int) < 256 by decide)
  generalize x / d % 256 = b at *
  generalize x / d / 256 = q at *
  generalize x % d = r at *
  generalize x / d = y at *
  have e : x = (b * d + r) + d * 256 * q := by rw [← h1, ← h2, Int.mul_add, Int.mul_assoc, Int.mul_comm d b]; omega
  rw [e, Int.add_mul_emod_self_left]
  have h5 : b * d ≤ 255 * d := Int.mul_le_mul_of_nonneg_right (by omega) (by omega)
  have h6 : 0 ≤ b * d := Int.mul_nonneg r3 (by omega)
  exact Int.emod_eq_of_lt (by omega) (by omega)
theorem byI_val {x : Int} : ((byI x).toNat : Int) = x % 256 := by
  unfold byI
  have h1 := Int.emod_nonneg x (show (256 : Int) ≠ 0 by decide)
  have h2 := Int.emod_lt_of_pos x (show (0 : Int) < 256 by decide)
  rw [UInt8.toNat_ofNat']
  omega
theorem fold_be : ∀ (k : Nat) (n x : Int), (be k x).foldl (fun n c => n * 256 + Crc.J c) n = n * 256 ^ k + x % 256 ^ k
  | 0, n, x => by show n = n * 1 + x % 1; omega
  | k + 1, n, x => by
    show (be k x).foldl (fun n c => n * 256 + Crc.J c) (n * 256 + ((byI (x / 256 ^ k)).toNat : Int)) = _
    rw [fold_be k, byI_val, Int.pow_succ, emod_mul x (256 ^ k) (Int.pow_pos (by decide)), Int.add_mul, Int.mul_assoc, Int.mul_comm 256 (256 ^ k)]
    omega
theorem val_be {k : Nat} {x : Int} (h : 0 ≤ x ∧ x < 256 ^ k) : valB (be k x) = x := by
  unfold valB; rw [fold_be, Int.zero_mul, Int.zero_add]; exact Int.emod_eq_of_lt h.1 h.2
theorem u64_256 {x : Int} (h : U64r x) : 0 ≤ x ∧ x < 256 ^ 8 := ⟨h.1, by have := h.2; rw [show (256 : Int) ^ 8 = 18446744073709551616 by decide]; omega⟩
section
variable {l A R : List UInt8}
theorem cut_at {k : Nat} {x : List UInt8} (hl : l = A ++ (x ++ R)) (hk : x.length = k) : cutV l (A.length, false) k = valB x ∧ cutS l (A.length, false) k = (A.length + k, false) := by
  subst hk
  have h1 : ¬ ((A.length, false).2 = true ∨ l.length - (A.length, false).1 < x.length) := by
    rw [hl]; rintro (h | h)
    · cases h
    · simp only [List.length_append] at h; omega
  unfold cutV cutS
  rw [if_neg h1, if_neg h1]
  refine ⟨?_, rfl⟩
  show valB ((l.drop A.length).take x.length) = _
  rw [hl, List.drop_left, List.take_left]
theorem row_at (x : Nat → Int) : ∀ (n : Nat) (R : List UInt8), (∀ i, i < n → U64r (x i)) → l = A ++ (rowB x n ++ R) → cutN l 8 n (A.length, false) = (A.length + 8 * n, false) ∧ ∀ i, i < n → rowV l (A.length, false) 8 i = x i
  | 0, R, _, _ => ⟨rfl, fun i h => absurd h (Nat.not_lt_zero _)⟩
  | n + 1, R, hx, hl => by
    have hl2 : l = A ++ (rowB x n ++ (be 8 (x n) ++ R)) := by rw [hl, rowB_succ, List.append_assoc]
    obtain ⟨h1, h2⟩ := row_at x n _ (fun i hi => hx i (by omega)) hl2
    have hl3 : l = (A ++ rowB x n) ++ (be 8 (x n) ++ R) := by rw [hl2, List.append_assoc]
    have hA : (A ++ rowB x n).length = A.length + 8 * n := by rw [List.length_append, rowB_len]
    obtain ⟨h3, h4⟩ := cut_at hl3 (be_len 8 (x n))
    rw [hA] at h3 h4
    refine ⟨?_, fun i hi => ?_⟩
    · show cutS l (cutN l 8 n (A.length, false)) 8 = _
      rw [h1, h4, Nat.mul_succ, Nat.add_assoc]
    · by_cases e : i = n
      · subst e
        show cutV l (cutN l 8 i (A.length, false)) 8 = _
        rw [h1, h3, val_be (u64_256 (hx i (by omega)))]
      · exact h2 i (by omega)
theorem row2_at {a b : Int} (ha : U64r a) (hb : U64r b) (x : Nat → Int) (n : Nat) (hx : ∀ i, i < n → U64r (x i)) (hl : l = A ++ ((be 8 a ++ be 8 b ++ rowB x n) ++ R)) : cutN l 8 (2 + n) (A.length, false) = (A.length + 8 * (2 + n), false) ∧ rowV l (A.length, false) 8 0 = a ∧ rowV l (A.length, false) 8 1 = b ∧ ∀ i, i < n → rowV l (A.length, false) 8 (2 + i) = x i := by
  have e : be 8 a ++ be 8 b ++ rowB x n = rowB (fun i => if i = 0 then a else if i = 1 then b else x (i - 2)) (2 + n) := by
    rw [rowB_cut, show (fun j => (fun i => if i = 0 then a else if i = 1 then b else x (i - 2)) (2 + j)) = x from funext fun j => by show (if 2 + j = 0 then a else if 2 + j = 1 then b else x (2 + j - 2)) = x j; rw [if_neg (by omega), if_neg (by omega), Nat.add_sub_cancel_left]]
    congr 1
  rw [e] at hl
  obtain ⟨h1, h2⟩ := row_at _ (2 + n) R (fun i hi => by
    show U64r (if i = 0 then a else if i = 1 then b else x (i - 2))
    split
    · exact ha
    · split
      · exact hb
      · exact hx _ (by omega)) hl
  refine ⟨h1, h2 0 (by omega), h2 1 (by omega), fun i hi => ?_⟩
  rw [h2 (2 + i) (by omega)]
  show (if 2 + i = 0 then a else if 2 + i = 1 then b else x (2 + i - 2)) = x i
  rw [if_neg (by omega), if_neg (by omega), Nat.add_sub_cancel_left]
theorem i64w_id {x : Int} (h : 0 ≤ x ∧ x ≤ 1125899906842624) : i64w x = x := by
  unfold i64w IntKind.wrap
  simp only [IntKind.bits, IntKind.signed]
  simp
  split <;> omega
theorem ndB_eq (x : NdM) : ndB x = be 8 x.id ++ be 8 x.par ++ rowB x.R 54 := ndB.eq_1 x
theorem nds_at : ∀ (ns : List NdM) (A R : List UInt8), (∀ x ∈ ns, NdR x ∧ ∀ p, p < 54 → 0 ≤ x.R p ∧ x.R p ≤ 1125899906842624) → l = A ++ (ns.flatMap ndB ++ R) →
    (ndsV l ns.length (A.length, false)).2 = (A.length + 448 * ns.length, false) ∧ (ndsV l ns.length (A.length, false)).1.length = ns.length ∧ ∀ k, k < ns.length → SameNd (ndA (ndsV l ns.length (A.length, false)).1 k) (ndA ns k)
  | [], A, R, _, _ => ⟨rfl, rfl, fun k h => absurd h (Nat.not_lt_zero _)⟩
  | x :: ns, A, R, hx, hl => by
    obtain ⟨hr, h50⟩ := hx x (List.mem_cons_self ..)
    have hl1 : l = A ++ ((be 8 x.id ++ be 8 x.par ++ rowB x.R 54) ++ (ns.flatMap ndB ++ R)) := by rw [hl, List.flatMap_cons, List.append_assoc, ndB_eq]
    obtain ⟨h1, h2, h3, h4⟩ := row2_at hr.id hr.par x.R 54 (fun i hi => ⟨(h50 i hi).1, by have := (h50 i hi).2; omega⟩) hl1
    have hl2 : l = (A ++ ndB x) ++ (ns.flatMap ndB ++ R) := by rw [hl, List.flatMap_cons, List.append_assoc, List.append_assoc]
    have hA : (A ++ ndB x).length = A.length + 448 := by rw [List.length_append, ndB_len]
    obtain ⟨g1, g2, g3⟩ := nds_at ns (A ++ ndB x) R (fun y hy => hx y (List.mem_cons_of_mem _ hy)) hl2
    rw [hA] at g1 g2 g3
    have hs : ndS l (A.length, false) = (A.length + 448, false) := h1
    have e : ndsV l (x :: ns).length (A.length, false) = (ndV l (A.length, false) :: (ndsV l ns.length (A.length + 448, false)).1, (ndsV l ns.length (A.length + 448, false)).2) := by
      rw [List.length_cons, nds_step (Nat.succ_pos _) rfl, hs]; rfl
    rw [e]
    refine ⟨by rw [List.length_cons]; show (ndsV l ns.length (A.length + 448, false)).2 = _; rw [g1, show A.length + 448 + 448 * ns.length = A.length + 448 * (ns.length + 1) by omega], by simp only [List.length_cons]; rw [g2], fun k hk => ?_⟩
    cases k with
    | zero => exact ⟨h2, h3, fun p hp => by show i64w (rowV l (A.length, false) 8 (2 + p)) = x.R p; rw [h4 p hp, i64w_id (h50 p hp)]⟩
    | succ k => exact g3 k (by simpa using hk)
theorem grs_at : ∀ (gs : List GrM) (A R : List UInt8), (∀ x ∈ gs, GrR x ∧ 0 ≤ x.o ∧ x.o ≤ 255 ∧ 0 ≤ x.a ∧ x.a ≤ 1125899906842624) → l = A ++ (gs.flatMap grB ++ R) →
    (grsV l gs.length (A.length, false)).2 = (A.length + 33 * gs.length, false) ∧ (grsV l gs.length (A.length, false)).1 = gs
  | [], A, R, _, _ => ⟨rfl, rfl⟩
  | x :: gs, A, R, hx, hl => by
    obtain ⟨hr, ho1, ho2, ha1, ha2⟩ := hx x (List.mem_cons_self ..)
    have hl1 : l = A ++ (be 1 x.o ++ (rowB (four x.r x.n x.a x.b) 4 ++ (gs.flatMap grB ++ R))) := by rw [hl, List.flatMap_cons, four_row]; simp [grB, be]
    obtain ⟨c1, c2⟩ := cut_at hl1 (be_len 1 x.o)
    have hl2 : l = (A ++ be 1 x.o) ++ (rowB (four x.r x.n x.a x.b) 4 ++ (gs.flatMap grB ++ R)) := by rw [hl1, List.append_assoc]
    obtain ⟨h1, h2⟩ := row_at (four x.r x.n x.a x.b) 4 _ (four_u hr.r hr.n ⟨ha1, by omega⟩ hr.b) hl2
    rw [List.length_append, be_len] at h1 h2
    have hl3 : l = (A ++ grB x) ++ (gs.flatMap grB ++ R) := by rw [hl, List.flatMap_cons, List.append_assoc, List.append_assoc]
    have hA : (A ++ grB x).length = A.length + 33 := by rw [List.length_append, grB_len]
    obtain ⟨g1, g2⟩ := grs_at gs (A ++ grB x) R (fun y hy => hx y (List.mem_cons_of_mem _ hy)) hl3
    rw [hA] at g1 g2
    have hs : grS l (A.length, false) = (A.length + 33, false) := by
      show cutN l 8 4 (cutS l (A.length, false) 1) = _; rw [c2, h1]
    have ev : grV l (A.length, false) = x := by
      unfold grV
      rw [c1, c2, h2 0 (by decide), h2 1 (by decide), h2 2 (by decide), h2 3 (by decide), val_be ⟨ho1, by rw [show (256 : Int) ^ 1 = 256 by decide]; omega⟩]
      show (⟨x.o, x.r, x.n, i64w x.a, x.b⟩ : GrM) = x
      rw [i64w_id ⟨ha1, ha2⟩]
    have e : grsV l (x :: gs).length (A.length, false) = (grV l (A.length, false) :: (grsV l gs.length (A.length + 33, false)).1, (grsV l gs.length (A.length + 33, false)).2) := by
      rw [List.length_cons, grs_step (Nat.succ_pos _) rfl, hs]; rfl
    rw [e, ev]
    refine ⟨by rw [List.length_cons]; show (grsV l gs.length (A.length + 33, false)).2 = _; rw [g1, show A.length + 33 + 33 * gs.length = A.length + 33 * (gs.length + 1) by omega], ?_⟩
    show x :: (grsV l gs.length (A.length + 33, false)).1 = x :: gs
    rw [g2]
theorem fl_val : ∀ (b c : Bool), decide (((flag b c).toNat : Int) % 2 = 1) = b ∧ decide (((flag b c).toNat : Int) / 2 % 2 = 1) = c := by decide
theorem flags_at (m : SnM) (hl : l = A ++ (flagsB m ++ R)) : ∀ n, n ≤ 6 → cutN l 1 n (A.length, false) = (A.length + n, false) ∧ ∀ i, i < n → rowV l (A.length, false) 1 i = ((flag (m.inn i) (m.left i)).toNat : Int)
  | 0, _ => ⟨rfl, fun i h => absurd h (Nat.not_lt_zero _)⟩
  | n + 1, hn => by
    obtain ⟨h1, h2⟩ := flags_at m hl n (by omega)
    have hs : flagsB m = (flagsB m).take n ++ ([flag (m.inn n) (m.left n)] ++ (flagsB m).drop (n + 1)) := by
      have h := flags_get m (i := n) (by omega)
      obtain ⟨hlt, he⟩ := List.getElem?_eq_some_iff.1 h
      rw [← he]; simp
    have hl3 : l = (A ++ (flagsB m).take n) ++ ([flag (m.inn n) (m.left n)] ++ ((flagsB m).drop (n + 1) ++ R)) := by
      rw [hl]; conv => lhs; rw [hs]
      simp
    have hA : (A ++ (flagsB m).take n).length = A.length + n := by rw [List.length_append, List.length_take, flags_len]; omega
    obtain ⟨h3, h4⟩ := cut_at (k := 1) hl3 rfl
    rw [hA] at h3 h4
    refine ⟨?_, fun i hi => ?_⟩
    · show cutS l (cutN l 1 n (A.length, false)) 1 = _
      rw [h1, h4, Nat.add_assoc]
    · by_cases e : i = n
      · subst e
        show cutV l (cutN l 1 i (A.length, false)) 1 = _
        rw [h1, h3]; unfold valB; simp [Crc.J]
      · exact h2 i (by omega)
end
theorem bytes_split (m : SnM) : bytesB m = lsnp ++ (flagsB m ++ (rowB m.known 6 ++ (be 2 m.ns.length ++ (m.ns.flatMap ndB ++ (be 2 m.gs.length ++ (m.gs.flatMap grB ++ be 4 (Crc.I (Crc.sum (bodyB m))))))))) := by
  unfold bytesB bodyB; simp only [List.append_assoc]; rfl
theorem MayP.ndr {m : SnM} (h : MayP m) (hr : SnR m) : ∀ x ∈ m.ns, NdR x ∧ ∀ p, p < 54 → 0 ≤ x.R p ∧ x.R p ≤ 1125899906842624 := fun x hx => by
  obtain ⟨k, hk, e⟩ := List.mem_iff_getElem.1 hx
  have e2 : ndA m.ns k = x := by unfold ndA; rw [List.getD_eq_getElem?_getD, List.getElem?_eq_getElem hk]; exact e
  have := may_ent (h.nd k hk).2.1
  rw [e2] at this
  exact ⟨hr.n x hx, this⟩
theorem MayP.grr {m : SnM} (h : MayP m) (hr : SnR m) : ∀ x ∈ m.gs, GrR x ∧ 0 ≤ x.o ∧ x.o ≤ 255 ∧ 0 ≤ x.a ∧ x.a ≤ 1125899906842624 := fun x hx => by
  obtain ⟨k, hk, e⟩ := List.mem_iff_getElem.1 hx
  have e2 : grA m.gs k = x := by unfold grA; rw [List.getD_eq_getElem?_getD, List.getElem?_eq_getElem hk]; exact e
  obtain ⟨a1, a2, _, _, a5, a6, _⟩ := h.gd k hk
  rw [e2] at a1 a2 a5 a6
  exact ⟨hr.g x hx, by omega, by omega, by omega, a6⟩
theorem raw_put {m : SnM} (h : MayP m) (hr : SnR m) : SameSn (rawV (bytesB m)) m ∧ (gsV (bytesB m)).2.2 = false := by
  obtain ⟨l, hl⟩ : ∃ l, l = bytesB m := ⟨_, rfl⟩
  have hb := bytes_split m
  rw [← hl] at hb ⊢
  have c4 : s4 l = (4, false) := (cut_at (A := []) (x := lsnp) (k := 4) hb rfl).2
  obtain ⟨f1, f2⟩ := flags_at (A := lsnp) m hb 6 (Nat.le_refl _)
  have f2 : ∀ i, i < 6 → rowV l (4, false) 1 i = ((flag (m.inn i) (m.left i)).toNat : Int) := f2
  have c10 : s10 l = (10, false) := by unfold s10; rw [c4]; exact f1
  have hb2 : l = (lsnp ++ flagsB m) ++ (rowB m.known 6 ++ (be 2 m.ns.length ++ (m.ns.flatMap ndB ++ (be 2 m.gs.length ++ (m.gs.flatMap grB ++ be 4 (Crc.I (Crc.sum (bodyB m)))))))) := by rw [hb]; simp only [List.append_assoc]
  have a2 : (lsnp ++ flagsB m).length = 10 := by rw [List.length_append, flags_len]; rfl
  obtain ⟨k1, k2⟩ := row_at m.known 6 _ hr.k hb2
  rw [a2] at k1 k2
  have c58 : s58 l = (58, false) := by unfold s58; rw [c10]; exact k1
  have hb3 : l = (lsnp ++ flagsB m ++ rowB m.known 6) ++ (be 2 m.ns.length ++ (m.ns.flatMap ndB ++ (be 2 m.gs.length ++ (m.gs.flatMap grB ++ be 4 (Crc.I (Crc.sum (bodyB m))))))) := by rw [hb]; simp only [List.append_assoc]
  have a3 : (lsnp ++ flagsB m ++ rowB m.known 6).length = 58 := by rw [List.length_append, a2, rowB_len]
  obtain ⟨n1, n2⟩ := cut_at hb3 (be_len 2 _)
  rw [a3] at n1 n2
  have hnn := h.nn
  have hgn := h.gn
  rw [val_be ⟨by omega, by rw [show (256 : Int) ^ 2 = 65536 by decide]; omega⟩] at n1
  have e1 : nnV l = m.ns.length := by unfold nnV; rw [c58, n1]; rfl
  have c60 : s60 l = (60, false) := by unfold s60; rw [c58]; exact n2
  have hb4 : l = hdB m ++ (m.ns.flatMap ndB ++ (be 2 m.gs.length ++ (m.gs.flatMap grB ++ be 4 (Crc.I (Crc.sum (bodyB m)))))) := by rw [hb]; unfold hdB; simp only [List.append_assoc]
  obtain ⟨d1, d2, d3⟩ := nds_at m.ns (hdB m) _ (h.ndr hr) hb4
  rw [hd_len] at d1 d2 d3
  have eN : nsV l = ndsV l m.ns.length (60, false) := by unfold nsV; rw [e1, c60]
  have hb5 : l = (hdB m ++ m.ns.flatMap ndB) ++ (be 2 m.gs.length ++ (m.gs.flatMap grB ++ be 4 (Crc.I (Crc.sum (bodyB m))))) := by rw [hb4]; simp only [List.append_assoc]
  have a5 : (hdB m ++ m.ns.flatMap ndB).length = 60 + 448 * m.ns.length := by rw [List.length_append, hd_len, fm_len ndB_len]
  obtain ⟨g1, g2⟩ := cut_at hb5 (be_len 2 _)
  rw [a5] at g1 g2
  rw [val_be ⟨by omega, by rw [show (256 : Int) ^ 2 = 65536 by decide]; omega⟩] at g1
  have e2 : gnV l = m.gs.length := by unfold gnV; rw [eN, d1, g1]; rfl
  have hb6 : l = (hdB m ++ m.ns.flatMap ndB ++ be 2 m.gs.length) ++ (m.gs.flatMap grB ++ be 4 (Crc.I (Crc.sum (bodyB m)))) := by rw [hb4]; simp only [List.append_assoc]
  have a6 : (hdB m ++ m.ns.flatMap ndB ++ be 2 m.gs.length).length = 60 + 448 * m.ns.length + 2 := by rw [List.length_append, a5, be_len]
  obtain ⟨q1, q2⟩ := grs_at m.gs _ _ (h.grr hr) hb6
  rw [a6] at q1 q2
  have eG : gsV l = grsV l m.gs.length (60 + 448 * m.ns.length + 2, false) := by unfold gsV; rw [e2, eN, d1, g2]
  refine ⟨⟨fun i hi => ?_, fun i hi => ?_, fun i hi => ?_, ?_, ?_, fun k hk => ?_, fun k hk => ?_⟩, by rw [eG, q1]⟩
  · show decide (rowV l (s4 l) 1 i % 2 = 1) = _
    rw [c4, f2 i hi]; exact (fl_val _ _).1
  · show decide (rowV l (s4 l) 1 i / 2 % 2 = 1) = _
    rw [c4, f2 i hi]; exact (fl_val _ _).2
  · show rowV l (s10 l) 8 i = _
    rw [c10, k2 i hi]
  · show (nsV l).1.length = _; rw [eN, d2]
  · show (gsV l).1.length = _; rw [eG, q2]
  · have hk2 : k < m.ns.length := by rw [show (rawV l).ns = (nsV l).1 from rfl, eN, d2] at hk; exact hk
    show SameNd (ndA (nsV l).1 k) _; rw [eN]; exact d3 k hk2
  show grA (gsV l).1 k = _; rw [eG, q2]
end Rt
end
set_option linter.unusedVariables false
namespace Rt
theorem L_cong {x y : Nat → Int} (e : ∀ p, p < 54 → x p = y p) {k : Nat} (hk : k < 6) : Rt.L x k = Rt.L y k := by
  unfold Rt.L Rt.G Rt.F Rt.C Rt.R
  rw [e k (by omega), e (12 + k) (by omega), e (18 + 0 * 6 + k) (by omega), e (18 + 1 * 6 + k) (by omega), e (18 + 2 * 6 + k) (by omega), e (18 + 3 * 6 + k) (by omega), e (18 + 4 * 6 + k) (by omega), e (18 + 5 * 6 + k) (by omega), e (6 + k) (by omega), e (18 + k * 6 + 0) (by omega), e (18 + k * 6 + 1) (by omega), e (18 + k * 6 + 2) (by omega), e (18 + k * 6 + 3) (by omega), e (18 + k * 6 + 4) (by omega), e (18 + k * 6 + 5) (by omega)]
theorem may_cong {x y : Nat → Int} (e : ∀ p, p < 54 → x p = y p) (h : may x = true) : may y = true := by
  obtain ⟨h1, h2, h3⟩ := (may_iff x).1 h
  refine (may_iff y).2 ⟨fun p hp => by rw [← e p hp]; exact h1 p hp, fun k hk => ?_, ?_⟩
  · obtain ⟨a1, a2, a3⟩ := h2 k hk
    refine ⟨by rw [← L_cong e hk]; exact a1, ?_, ?_⟩
    · unfold Rt.F Rt.C at *; rw [← e (12 + k) (by omega), ← e (6 + k) (by omega)]; exact a2
    unfold Rt.R at *; rw [← e (18 + k * 6 + k) (by omega)]; exact a3
  unfold gSum Rt.G at *
  rw [← e 0 (by omega), ← e 1 (by omega), ← e 2 (by omega), ← e 3 (by omega), ← e 4 (by omega), ← e 5 (by omega)]; exact h3
theorem firstI_cong {p q : Nat → Bool} : ∀ n, (∀ i, i < n → p i = q i) → firstI p n = firstI q n
  | 0, _ => rfl
  | n + 1, h => by
    show (if 0 ≤ firstI p n then firstI p n else if p n then (n : Int) else -1) = (if 0 ≤ firstI q n then firstI q n else if q n then (n : Int) else -1)
    rw [firstI_cong n (fun i hi => h i (by omega)), h n (by omega)]
structure SameI (a b : List NdM) : Prop where
  n : a.length = b.length
  i : ∀ k, k < a.length → (ndA a k).id = (ndA b k).id
  p : ∀ k, k < a.length → (ndA a k).par = (ndA b k).par
theorem SameI.node {a b : List NdM} (h : SameI a b) (x : Int) : nodeI a x = nodeI b x := by
  unfold nodeI; rw [← h.n]; exact firstI_cong _ fun i hi => by rw [h.i i hi]
theorem SameI.ends {a b : List NdM} (h : SameI a b) : ∀ (f : Nat) (x : Int), endsN a f x = endsN b f x
  | 0, _ => rfl
  | f + 1, x => by
    show (if x = 0 then true else if nodeI a x < 0 then false else endsN a f (ndA a (nodeI a x).toNat).par) = (if x = 0 then true else if nodeI b x < 0 then false else endsN b f (ndA b (nodeI b x).toNat).par)
    rw [← h.node x]
    split
    · rfl
    · split
      · rfl
      · rename_i h1 h2
        obtain ⟨j, hj, e, _⟩ := nodeI_ge (l := a) (x := x) (by omega)
        rw [e, Int.toNat_natCast, h.p j hj]; exact SameI.ends h f _
theorem SameSn.i {a b : SnM} (h : SameSn a b) : SameI a.ns b.ns := ⟨h.nn, fun k hk => (h.n k hk).1, fun k hk => (h.n k hk).2.1⟩
theorem GrOk.cong {a b : List NdM} (h : SameI a b) {g : GrM} (hg : GrOk a g) : GrOk b g := by
  obtain ⟨a1, a2, a3, a4, a5, a6, a7⟩ := hg
  exact ⟨a1, a2, a3, by rw [← h.node]; exact a4, a5, a6, a7⟩
theorem MayP.cong {a b : SnM} (h : SameSn a b) (ha : MayP a) : MayP b where
  kn := fun i hi => by rw [← h.known i hi]; exact ha.kn i hi
  nn := by rw [← h.nn]; exact ha.nn
  gn := by rw [← h.gn]; exact ha.gn
  nr := fun k hk => by
    rw [← h.nn] at hk
    rw [← (h.n k (by omega)).1, ← (h.n (k + 1) hk).1]; exact ha.nr k hk
  gr := fun k hk => by
    rw [← h.gn] at hk
    rw [← h.g k (by omega), ← h.g (k + 1) hk]; exact ha.gr k hk
  li := fun i hi hl => by rw [← h.inn i hi]; rw [← h.left i hi] at hl; exact ha.li i hi hl
  nd := fun k hk => by
    rw [← h.nn] at hk
    obtain ⟨a1, a2, a3⟩ := ha.nd k hk
    obtain ⟨e1, e2, e3⟩ := h.n k hk
    exact ⟨by rw [← e1]; exact a1, may_cong e3 a2, by rw [← e1, ← h.i.ends]; exact a3⟩
  gd := fun k hk => by
    rw [← h.gn] at hk
    rw [← h.g k hk]; exact GrOk.cong h.i (ha.gd k hk)
theorem SameSn.symm {a b : SnM} (h : SameSn a b) : SameSn b a := ⟨fun i hi => (h.inn i hi).symm, fun i hi => (h.left i hi).symm, fun i hi => (h.known i hi).symm, h.nn.symm, h.gn.symm, fun k hk => by rw [← h.nn] at hk; obtain ⟨a1, a2, a3⟩ := h.n k hk; exact ⟨a1.symm, a2.symm, fun p hp => (a3 p hp).symm⟩, fun k hk => by rw [← h.gn] at hk; exact (h.g k hk).symm⟩
theorem rowB_cong {x y : Nat → Int} : ∀ n, (∀ i, i < n → x i = y i) → rowB x n = rowB y n
  | 0, _ => rfl
  | n + 1, h => by rw [rowB_succ, rowB_succ, rowB_cong n (fun i hi => h i (by omega)), h n (by omega)]
theorem grs_ext {a b : List GrM} (hl : a.length = b.length) (h : ∀ k, k < a.length → grA a k = grA b k) : a = b := by
  refine List.ext_getElem hl fun k h1 h2 => ?_
  have := h k h1
  unfold grA at this
  rwa [List.getD_eq_getElem?_getD, List.getD_eq_getElem?_getD, List.getElem?_eq_getElem h1, List.getElem?_eq_getElem h2] at this
theorem body_cong {a b : SnM} (h : SameSn a b) : bodyB a = bodyB b := by
  have h1 : flagsB a = flagsB b := by
    unfold flagsB
    refine List.map_congr_left fun i hi => ?_
    have hi : i < 6 := List.mem_range.1 hi
    rw [h.inn i hi, h.left i hi]
  have h2 : a.ns.flatMap ndB = b.ns.flatMap ndB := by
    rw [List.flatMap_def, List.flatMap_def]
    congr 1
    refine List.ext_getElem (by rw [List.length_map, List.length_map, h.nn]) fun k q1 q2 => ?_
    rw [List.length_map] at q1 q2
    have := h.n k q1
    unfold ndA at this
    rw [List.getD_eq_getElem?_getD, List.getD_eq_getElem?_getD, List.getElem?_eq_getElem q1, List.getElem?_eq_getElem q2] at this
    obtain ⟨a1, a2, a3⟩ := this
    rw [List.getElem_map, List.getElem_map, ndB_eq, ndB_eq]
    simp only [Option.getD_some] at a1 a2 a3
    rw [a1, a2, rowB_cong 54 a3]
  have h3 : a.gs = b.gs := grs_ext h.gn h.g
  unfold bodyB
  rw [h1, h2, h3, rowB_cong 6 h.known, h.nn]
theorem bytes_cong {a b : SnM} (h : SameSn a b) : bytesB a = bytesB b := by unfold bytesB; rw [body_cong h]
theorem bytes_len (m : SnM) : (bytesB m).length = 66 + 448 * m.ns.length + 33 * m.gs.length := by unfold bytesB; rw [List.length_append, body_len, be_len]; omega
theorem get_put {m : SnM} (h : MayP m) (hr : SnR m) : GetP (bytesB m) ∧ SameSn (getV (bytesB m)) m := by
  obtain ⟨h1, h2⟩ := raw_put h hr
  have hg : GetP (bytesB m) := ⟨h2, fun e => by have := bytes_len m; rw [e] at this; simp at this; omega, by rw [putB_y (h.cong h1.symm), bytes_cong h1]⟩
  exact ⟨hg, by rw [(get_y hg).1]; exact h1⟩
theorem get_e (l : List UInt8) : (getE l = 0 ∧ GetP l) ∨ (getE l = 5 ∧ ¬ GetP l) := by
  by_cases h : GetP l
  · exact .inl ⟨(get_y h).2, h⟩
  exact .inr ⟨(get_n h).2, h⟩
theorem get_is {l : List UInt8} (h : GetP l) : ∃ m, MayP m ∧ SnR m ∧ l = bytesB m := by
  obtain ⟨h1, h2, h3⟩ := h
  have hM : MayP (rawV l) := Classical.byContradiction fun q => by
    unfold putB at h3; rw [if_neg q] at h3; exact h2 h3.symm
  exact ⟨rawV l, hM, raw_r, by rw [← putB_y hM, h3]⟩
theorem be_inj {k : Nat} {x y : Int} (hx : 0 ≤ x ∧ x < 256 ^ k) (hy : 0 ≤ y ∧ y < 256 ^ k) (h : be k x = be k y) : x = y := by rw [← val_be hx, ← val_be hy, h]
theorem two16 {n : Nat} (h : n ≤ 4096) : 0 ≤ (n : Int) ∧ (n : Int) < 256 ^ 2 := ⟨by omega, by rw [show (256 : Int) ^ 2 = 65536 by decide]; omega⟩
theorem at_part {l A X R : List UInt8} {p k : Nat} (h : l = A ++ (X ++ R)) (hA : A.length = p) (hX : X.length = k) : (l.drop p).take k = X := by subst hA hX; rw [h, List.drop_left, List.take_left]
theorem bytes_at58 (m : SnM) (r : List UInt8) : ((bytesB m ++ r).drop 58).take 2 = be 2 m.ns.length := by
  refine at_part (A := lsnp ++ flagsB m ++ rowB m.known 6) (R := m.ns.flatMap ndB ++ (be 2 m.gs.length ++ (m.gs.flatMap grB ++ be 4 (Crc.I (Crc.sum (bodyB m))))) ++ r) ?_ ?_ (be_len 2 _)
  · rw [bytes_split]; simp only [List.append_assoc]
  rw [List.length_append, List.length_append, flags_len, rowB_len]; rfl
theorem bytes_at60 (m : SnM) (r : List UInt8) : ((bytesB m ++ r).drop (60 + 448 * m.ns.length)).take 2 = be 2 m.gs.length := by
  refine at_part (A := hdB m ++ m.ns.flatMap ndB) (R := m.gs.flatMap grB ++ be 4 (Crc.I (Crc.sum (bodyB m))) ++ r) ?_ ?_ (be_len 2 _)
  · rw [bytes_split]; unfold hdB; simp only [List.append_assoc]
  rw [List.length_append, hd_len, fm_len ndB_len]
theorem bytes_pre {a b : SnM} (ha : MayP a) (hb : MayP b) {r : List UInt8} (h : bytesB a = bytesB b ++ r) : r = [] := by
  have h1 : a.ns.length = b.ns.length := by
    have e1 := bytes_at58 a []
    have e2 := bytes_at58 b r
    rw [List.append_nil, h, e2] at e1
    have := be_inj (two16 (Nat.le_trans hb.nn (by decide))) (two16 (Nat.le_trans ha.nn (by decide))) e1
    omega
  have h2 : a.gs.length = b.gs.length := by
    have e1 := bytes_at60 a []
    have e2 := bytes_at60 b r
    rw [List.append_nil, h, h1, e2] at e1
    have := be_inj (two16 hb.gn) (two16 ha.gn) e1
    omega
  have := congrArg List.length h
  rw [List.length_append, bytes_len, bytes_len, h1, h2] at this
  exact List.eq_nil_of_length_eq_zero (by omega)
theorem get_more {m : SnM} (h : MayP m) (c : UInt8) : getE (bytesB m ++ [c]) = 5 := by
  rcases get_e (bytesB m ++ [c]) with ⟨_, h2⟩ | ⟨h1, _⟩
  · obtain ⟨m', hM, _, e⟩ := get_is h2
    exact absurd (bytes_pre hM h e.symm) (by simp)
  exact h1
theorem get_cut {m : SnM} (h : MayP m) {k : Nat} (hk : k < (bytesB m).length) : getE ((bytesB m).take k) = 5 := by
  rcases get_e ((bytesB m).take k) with ⟨_, h2⟩ | ⟨h1, _⟩
  · obtain ⟨m', hM, _, e⟩ := get_is h2
    have e2 : bytesB m = bytesB m' ++ (bytesB m).drop k := by rw [← e, List.take_append_drop]
    have := bytes_pre h hM e2
    have := congrArg List.length this
    rw [List.length_drop] at this
    simp at this; omega
  exact h1
theorem take_mid {c : UInt8} {q : List UInt8} {j : Nat} : ∀ {p : List UInt8}, (p ++ c :: q).take (p.length + (j + 1)) = p ++ c :: q.take j
  | [] => by rw [List.nil_append, List.nil_append, List.length_nil, Nat.zero_add]; rfl
  | x :: p => by rw [List.cons_append, List.length_cons, show p.length + 1 + (j + 1) = (p.length + (j + 1)) + 1 by omega, List.take_succ_cons, take_mid]; rfl
theorem drop_mid {c : UInt8} {q : List UInt8} {j : Nat} : ∀ {p : List UInt8}, (p ++ c :: q).drop (p.length + (j + 1)) = q.drop j
  | [] => by rw [List.nil_append, List.length_nil, Nat.zero_add]; rfl
  | x :: p => by rw [List.cons_append, List.length_cons, show p.length + 1 + (j + 1) = (p.length + (j + 1)) + 1 by omega, List.drop_succ_cons, drop_mid]
theorem I_inj {x y : Crc.W32} (h : Crc.I x = Crc.I y) : x = y := by unfold Crc.I at h; exact BitVec.eq_of_toNat_eq (by omega)
theorem bytes_turned {a b : SnM} {p q : List UInt8} {c d : UInt8} (h1 : bytesB a = p ++ c :: q) (h2 : bytesB b = p ++ d :: q) : c = d := by
  have hl : (bodyB a).length = (bodyB b).length := by
    have e1 := congrArg List.length h1
    have e2 := congrArg List.length h2
    unfold bytesB at e1 e2
    rw [List.length_append, be_len] at e1 e2
    simp only [List.length_append, List.length_cons] at e1 e2; omega
  have e1 : bodyB a = (p ++ c :: q).take (bodyB a).length := by rw [← h1]; unfold bytesB; rw [List.take_left]
  have e2 : bodyB b = (p ++ d :: q).take (bodyB a).length := by rw [← h2, hl]; unfold bytesB; rw [List.take_left]
  have f1 : be 4 (Crc.I (Crc.sum (bodyB a))) = (p ++ c :: q).drop (bodyB a).length := by rw [← h1]; unfold bytesB; rw [List.drop_left]
  have f2 : be 4 (Crc.I (Crc.sum (bodyB b))) = (p ++ d :: q).drop (bodyB a).length := by rw [← h2, hl]; unfold bytesB; rw [List.drop_left]
  generalize hn : (bodyB a).length = n at *
  by_cases hp : p.length < n
  · obtain ⟨j, hj⟩ : ∃ j, n = p.length + (j + 1) := ⟨n - p.length - 1, by omega⟩
    rw [hj, take_mid] at e1 e2
    rw [hj, drop_mid] at f1 f2
    have e4 := I_inj (be_inj (crc_u _) (crc_u _) (f1.trans f2.symm))
    rw [e1, e2] at e4
    exact sum_turned e4
  have e3 : bodyB a = bodyB b := by rw [e1, e2, List.take_append_of_le_length (by omega), List.take_append_of_le_length (by omega)]
  have : bytesB a = bytesB b := by unfold bytesB; rw [e3]
  rw [h1, h2] at this
  have := List.append_cancel_left this
  exact (List.cons.inj this).1
theorem set_mid {l : List UInt8} {p : Nat} {v : UInt8} (h : p < l.length) : l.set p v = l.take p ++ v :: l.drop (p + 1) := by
  rw [List.set_eq_take_append_cons_drop, if_pos h]
theorem get_turned {m : SnM} (h : MayP m) (hr : SnR m) {p : Nat} {v : UInt8} (hp : p < (bytesB m).length) : getE ((bytesB m).set p v) = 0 ↔ v = (bytesB m).getD p 0 := by
  have e0 : bytesB m = (bytesB m).take p ++ (bytesB m).getD p 0 :: (bytesB m).drop (p + 1) := by
    rw [List.getD_eq_getElem?_getD, List.getElem?_eq_getElem hp, Option.getD_some, ← List.drop_eq_getElem_cons hp, List.take_append_drop]
  constructor
  · intro he
    rcases get_e ((bytesB m).set p v) with ⟨_, h2⟩ | ⟨h1, _⟩
    · obtain ⟨m', hM, _, e⟩ := get_is h2
      rw [set_mid hp] at e
      exact bytes_turned e.symm e0
    rw [h1] at he; exact absurd he (by decide)
  rintro rfl
  rw [set_mid hp, ← e0]
  exact (get_y (get_put h hr).1).2
end Rt
end Go.Proofs.Ytcbedgfikejkoaa
