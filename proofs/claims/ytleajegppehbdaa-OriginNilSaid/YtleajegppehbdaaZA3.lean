/-
  What the proof of the law rests on, part 3: walks of functions, and plain laws; each says its conditions itself.
-/
import Derived.OpenShut
import Derived.Deep.Slices
import Derived.Lib.SmallJoins
import Derived.ChangeArms
import Derived.Test.YtleajegppehbdaaZA2
namespace Go.Proofs.Ytleajegppehbdaa
open Go.RowKit Rt
theorem callsA {P : Program} {g : Nat} {a a' : Array Value} {w : World} {R : Ending → World → Prop} (h : Calls P g a' w R) (e : a = a') : Calls P g a w R := e ▸ h
namespace Rt
def oneE : EvM := ⟨1, 1, fun _ => 0, 1, 0, 0, 0, 0, 0⟩
def twoV (i : Nat) : Int := if i = 0 then 1 else 0
def twoE : EvM := ⟨2, 1, twoV, 1, 0, 0, 0, 0, 0⟩
theorem wf_small (o seq k : Int) (d : Nat → Int) (h : (o = 1 ∨ o = 2) ∧ seq = 1 ∧ k = 1) (hd : ∀ i, i < 6 → U64r (d i)) : EvWf ⟨o, seq, d, k, 0, 0, 0, 0, 0⟩ := by
  have z : U64r 0 := ⟨by decide, by decide⟩
  have y : I64r 0 := ⟨by decide, by decide⟩
  refine ⟨?_, ?_, hd, ?_, z, y, y, z, z⟩
  · show I64r o; unfold I64r; omega
  · show U64r seq; unfold U64r; omega
  · show 0 ≤ k ∧ k ≤ 255; omega
theorem oneE_wf : EvWf oneE := wf_small _ _ _ _ ⟨.inl rfl, rfl, rfl⟩ fun _ _ => ⟨by decide, by decide⟩
theorem twoE_wf : EvWf twoE := wf_small _ _ _ _ ⟨.inr rfl, rfl, rfl⟩ fun i _ => by unfold twoV; split <;> exact ⟨by decide, by decide⟩
theorem LgO.weak {w : World} {B B' p T : Nat} {m : LgM} (h : LgO w B p m T) (hB : B' ≤ B) : LgO w B' p m T := { h with ls := ⟨fun i hi => (h.ls.1 i hi).mono hB, h.ls.2⟩, gp := Nat.le_trans hB h.gp }
theorem works_a : addG newL twoE = 13 := by decide +kernel
theorem works_b : addG newL oneE = 0 := by decide +kernel
theorem works_c {m : LgM} (h : AddR newL m oneE) : addG m twoE = 0 := by
  rw [addG_K, h.1]; decide +kernel
theorem works_x {m : LgM} {n : Nat} {l : List ItM} {c1 c2 : Int} (hG : Gs m ([] ++ [⟨oneE, c1⟩] ++ [⟨twoE, c2⟩])) (hs : SinceR m (fun _ => 0) 1 n l) : n = 1 ∧ (l.getD 0 it0).e = oneE := by
  obtain ⟨h1, h2⟩ := hG.since hs
  have e : ([] ++ [⟨oneE, c1⟩] ++ [⟨twoE, c2⟩] : List ItM).filter (keepB fun _ => 0) = [⟨oneE, c1⟩, ⟨twoE, c2⟩] := rfl
  rw [e] at h1 h2
  subst h1; subst h2
  exact ⟨rfl, rfl⟩
theorem works_y {m : LgM} {n : Nat} {l : List ItM} {c1 c2 : Int} (hG : Gs m ([] ++ [⟨oneE, c1⟩] ++ [⟨twoE, c2⟩])) (hs : SinceR m twoV 9 n l) : n = 1 ∧ (l.getD 0 it0).e = twoE := by
  obtain ⟨h1, h2⟩ := hG.since hs
  have e : ([] ++ [⟨oneE, c1⟩] ++ [⟨twoE, c2⟩] : List ItM).filter (keepB twoV) = [⟨twoE, c2⟩] := rfl
  rw [e] at h1 h2
  subst h1; subst h2
  exact ⟨rfl, rfl⟩
end Rt
theorem g_len {w : World} {B p T : Nat} {m : LgM} {G : List ItM} (h : LgO w B p m T) (hT : T ≤ 1000000) (hG : Gs m G) :
    Calls Try.prog 30 #[.pointer (some ⟨p, 0, none⟩)] w fun e w' => e = .returned (.int .i64 ((G.length : Nat) : Int)) ∧ Below w.heap.size w w' :=
  (o_len m B p T w h hT).mono fun e w' h => ⟨by rw [h.1, hG.len], h.2⟩
set_option maxRecDepth 10000 in
set_option maxHeartbeats 1000000 in
theorem works16_any (w : World) :
    Calls Try.prog 26 #[] w fun e w' => e = .returned (.bool true) ∧ Below w.heap.size w w' := by
 refine Fx.enter Try.func26 rfl (n := 67) rfl (by rfl) ?_
 refine Fx.W.seq (Fx.W.list (Fx.L.v (.bool false) (Fx.x_assign rfl rfl) ?_))
 refine Fx.L.nil (Fx.seqN (Fx.W.seq (Fx.W.list (Fx.L.call (by rfl) (Fx.r_call (args := []) rfl rfl Try.func17 rfl rfl) rfl ((o_new 0 _).mono ?_)))))
 rintro e9 w1 ⟨p, he, hl1, hb1⟩
 refine ⟨_, he, ?_⟩
 clear he
 have s1 := Fx.Stp.of_below hb1
 have hl2 := hl1.weak (Below.refl w.heap.size w).size
 have b1 := s1.below (Below.refl w.heap.size w) (Below.refl w.heap.size w).size (Below.refl w.heap.size w).size
 refine Fx.L.v (.pointer (some ⟨p, 0, none⟩)) (Fx.x_assign rfl rfl) ?_
 refine Fx.L.nil (Fx.seqN (Fx.W.seq (Fx.W.list (Fx.L.v (.agg (Fx.varr 14 (Fx.ovr (Fx.ovr (Fx.ovr (fun zq => if zq < 1 then .int .i64 (0) else if zq < 8 then .int .u64 (0) else if zq < 9 then .int .u8 (0) else if zq < 10 then .int .u64 (0) else if zq < 12 then .int .i64 (0) else .int .u64 (0)) 0 1 (fun _ => .int .i64 (1))) 1 1 (fun _ => .int .u64 (1))) 8 1 (fun _ => .int .u8 (1))))) (Fx.x_build (vs := [(0, .int .i64 (1)), (1, .int .u64 (1)), (3, .int .u8 (1))]) (places := #[(0, 1), (1, 1), (2, 6), (8, 1), (9, 1), (10, 1), (11, 1), (12, 1), (13, 1)]) (m := 14) (x := fun zq => if zq < 1 then .int .i64 (0) else if zq < 8 then .int .u64 (0) else if zq < 9 then .int .u8 (0) else if zq < 10 then .int .u64 (0) else if zq < 12 then .int .i64 (0) else .int .u64 (0)) rfl rfl Try.underlying50 (by kernel_rfl) (by kernel_rfl) (by rw [Fx.fill_step (off := 0) (s := 1) (y := fun _ => .int .i64 (1)) (by kernel_rfl) (Fx.cells_one (by rfl)) (by rfl)]; rw [Fx.fill_step (off := 1) (s := 1) (y := fun _ => .int .u64 (1)) (by kernel_rfl) (Fx.cells_one (by rfl)) (by rfl)]; rw [Fx.fill_step (off := 8) (s := 1) (y := fun _ => .int .u8 (1)) (by kernel_rfl) (Fx.cells_one (by rfl)) (by rfl)]; rfl)) ?_))))
 refine Fx.L.new (m := 14) (y := fun zq => if zq < 1 then .int .i64 (0) else if zq < 8 then .int .u64 (0) else if zq < 9 then .int .u8 (0) else if zq < 10 then .int .u64 (0) else if zq < 12 then .int .i64 (0) else .int .u64 (0)) (by rfl) rfl (by kernel_rfl) rfl fun g1 w2 eg1 m1 s2 z1 => ?_
 have m2 := hl2.up s2.old
 have b2 := s2.below b1 b1.size b1.size
 have lg1 : w.heap.size ≤ g1 := by rw [eg1]; exact b1.size
 have tg1 : g1 < w2.heap.size := m1.lt
 clear eg1
 refine Fx.L.storeA (x := fun zq => if zq < 1 then .int .i64 (0) else if zq < 8 then .int .u64 (0) else if zq < 9 then .int .u8 (0) else if zq < 10 then .int .u64 (0) else if zq < 12 then .int .i64 (0) else .int .u64 (0)) (y := Fx.ovr (Fx.ovr (Fx.ovr (fun zq => if zq < 1 then .int .i64 (0) else if zq < 8 then .int .u64 (0) else if zq < 9 then .int .u8 (0) else if zq < 10 then .int .u64 (0) else if zq < 12 then .int .i64 (0) else .int .u64 (0)) 0 1 (fun _ => .int .i64 (1))) 1 1 (fun _ => .int .u64 (1))) 8 1 (fun _ => .int .u8 (1))) (by rfl) rfl rfl rfl rfl (Fx.ovr_ones (Fx.ovr_ones (Fx.ovr_ones (fun jq _ => by show ((fun zq => if zq < 1 then .int .i64 (0) else if zq < 8 then .int .u64 (0) else if zq < 9 then .int .u8 (0) else if zq < 10 then .int .u64 (0) else if zq < 12 then .int .i64 (0) else .int .u64 (0) : Nat → Value) jq).oneCell' = true; simp only []; repeat (first | rfl | split)) (fun _ _ => rfl)) (fun _ _ => rfl)) (fun _ _ => rfl)) (by kernel_rfl) m1 (i := 0) (by omega) fun w3 m3 s3 z2 => ?_
 have m4 : Fx.Blk w3 g1 14 (Fx.ovr (Fx.ovr (Fx.ovr (fun zq => if zq < 1 then .int .i64 (0) else if zq < 8 then .int .u64 (0) else if zq < 9 then .int .u8 (0) else if zq < 10 then .int .u64 (0) else if zq < 12 then .int .i64 (0) else .int .u64 (0)) 0 1 (fun _ => .int .i64 (1))) 1 1 (fun _ => .int .u64 (1))) 8 1 (fun _ => .int .u8 (1))) 50 := Fx.ovr_all m3
 have hct1 := Fx.ChT.of_stp s3 m1.ty
 have m5 := m2.chT hct1 (by decide)
 have b3 := s3.below b2 b2.size (by omega)
 refine Fx.L.nil (Fx.seqN (Fx.W.seq ?_))
 have m6 : Fx.Blk w3 g1 14 (evY oneE) 50 := m4.congr (fun j hj => by rcases j with _|_|_|_|_|_|_|_|_|_|_|_|_|_|j <;> first | rfl | omega)
 refine Fx.W.list (Fx.L.v (.agg (Fx.varr 6 (Fx.ovr (Fx.rv .u64 (fun _ => 0)) 0 1 (fun _ => .int .u64 (1))))) (Fx.x_buildArr (vs := [(0, .int .u64 (1))]) (s := 1) (m := 6) (x := Fx.rv .u64 (fun _ => 0)) rfl rfl Try.underlying32 (by kernel_rfl) (by kernel_rfl) (by rw [Fx.fill_step (off := 0) (s := 1) (y := fun _ => .int .u64 (1)) (by kernel_rfl) (Fx.cells_one (by rfl)) (by rfl)]; rfl)) ?_)
 refine Fx.L.v (.agg (Fx.varr 14 (Fx.ovr (Fx.ovr (Fx.ovr (Fx.ovr (fun zq => if zq < 1 then .int .i64 (0) else if zq < 8 then .int .u64 (0) else if zq < 9 then .int .u8 (0) else if zq < 10 then .int .u64 (0) else if zq < 12 then .int .i64 (0) else .int .u64 (0)) 0 1 (fun _ => .int .i64 (2))) 1 1 (fun _ => .int .u64 (1))) 2 6 (Fx.ovr (Fx.rv .u64 (fun _ => 0)) 0 1 (fun _ => .int .u64 (1)))) 8 1 (fun _ => .int .u8 (1))))) (Fx.x_build (vs := [(0, .int .i64 (2)), (1, .int .u64 (1)), (2, .agg (Fx.varr 6 (Fx.ovr (Fx.rv .u64 (fun _ => 0)) 0 1 (fun _ => .int .u64 (1))))), (3, .int .u8 (1))]) (places := #[(0, 1), (1, 1), (2, 6), (8, 1), (9, 1), (10, 1), (11, 1), (12, 1), (13, 1)]) (m := 14) (x := fun zq => if zq < 1 then .int .i64 (0) else if zq < 8 then .int .u64 (0) else if zq < 9 then .int .u8 (0) else if zq < 10 then .int .u64 (0) else if zq < 12 then .int .i64 (0) else .int .u64 (0)) rfl rfl Try.underlying50 (by kernel_rfl) (by kernel_rfl) (by rw [Fx.fill_step (off := 0) (s := 1) (y := fun _ => .int .i64 (2)) (by kernel_rfl) (Fx.cells_one (by rfl)) (by rfl)]; rw [Fx.fill_step (off := 1) (s := 1) (y := fun _ => .int .u64 (1)) (by kernel_rfl) (Fx.cells_one (by rfl)) (by rfl)]; rw [Fx.fill_step (off := 2) (s := 6) (y := Fx.ovr (Fx.rv .u64 (fun _ => 0)) 0 1 (fun _ => .int .u64 (1))) (by kernel_rfl) (Fx.cells_agg _ _) (by rfl)]; rw [Fx.fill_step (off := 8) (s := 1) (y := fun _ => .int .u8 (1)) (by kernel_rfl) (Fx.cells_one (by rfl)) (by rfl)]; rfl)) ?_
 refine Fx.L.new (m := 14) (y := fun zq => if zq < 1 then .int .i64 (0) else if zq < 8 then .int .u64 (0) else if zq < 9 then .int .u8 (0) else if zq < 10 then .int .u64 (0) else if zq < 12 then .int .i64 (0) else .int .u64 (0)) (by rfl) rfl (by kernel_rfl) rfl fun g2 w4 eg2 m7 s4 z3 => ?_
 have m8 := m5.up s4.old
 have m9 := m6.stp s4 (Nat.ne_of_lt (m6.lt))
 have b4 := s4.below b3 b3.size b3.size
 have lg2 : w.heap.size ≤ g2 := by rw [eg2]; exact b3.size
 have ng2m9 : g1 ≠ g2 := by rw [eg2]; exact Nat.ne_of_lt (m6.lt)
 have tg2 : g2 < w4.heap.size := m7.lt
 clear eg2
 refine Fx.L.storeA (x := fun zq => if zq < 1 then .int .i64 (0) else if zq < 8 then .int .u64 (0) else if zq < 9 then .int .u8 (0) else if zq < 10 then .int .u64 (0) else if zq < 12 then .int .i64 (0) else .int .u64 (0)) (y := Fx.ovr (Fx.ovr (Fx.ovr (Fx.ovr (fun zq => if zq < 1 then .int .i64 (0) else if zq < 8 then .int .u64 (0) else if zq < 9 then .int .u8 (0) else if zq < 10 then .int .u64 (0) else if zq < 12 then .int .i64 (0) else .int .u64 (0)) 0 1 (fun _ => .int .i64 (2))) 1 1 (fun _ => .int .u64 (1))) 2 6 (Fx.ovr (Fx.rv .u64 (fun _ => 0)) 0 1 (fun _ => .int .u64 (1)))) 8 1 (fun _ => .int .u8 (1))) (by rfl) rfl rfl rfl rfl (Fx.ovr_ones (Fx.ovr_ones (Fx.ovr_ones (Fx.ovr_ones (fun jq _ => by show ((fun zq => if zq < 1 then .int .i64 (0) else if zq < 8 then .int .u64 (0) else if zq < 9 then .int .u8 (0) else if zq < 10 then .int .u64 (0) else if zq < 12 then .int .i64 (0) else .int .u64 (0) : Nat → Value) jq).oneCell' = true; simp only []; repeat (first | rfl | split)) (fun _ _ => rfl)) (fun _ _ => rfl)) (Fx.ovr_ones (fun _ _ => rfl) (fun _ _ => rfl))) (fun _ _ => rfl)) (by kernel_rfl) m7 (i := 0) (by omega) fun w5 m10 s5 z4 => ?_
 have m11 : Fx.Blk w5 g2 14 (Fx.ovr (Fx.ovr (Fx.ovr (Fx.ovr (fun zq => if zq < 1 then .int .i64 (0) else if zq < 8 then .int .u64 (0) else if zq < 9 then .int .u8 (0) else if zq < 10 then .int .u64 (0) else if zq < 12 then .int .i64 (0) else .int .u64 (0)) 0 1 (fun _ => .int .i64 (2))) 1 1 (fun _ => .int .u64 (1))) 2 6 (Fx.ovr (Fx.rv .u64 (fun _ => 0)) 0 1 (fun _ => .int .u64 (1)))) 8 1 (fun _ => .int .u8 (1))) 50 := Fx.ovr_all m10
 have hct2 := Fx.ChT.of_stp s5 m7.ty
 have m12 := m8.chT hct2 (by decide)
 have m13 := m9.stp s5 (by omega)
 have b5 := s5.below b4 b4.size (by omega)
 refine Fx.L.nil (Fx.seqN (Fx.W.seq ?_))
 have m14 : Fx.Blk w5 g2 14 (evY twoE) 50 := m11.congr (fun j hj => by rcases j with _|_|_|_|_|_|_|_|_|_|_|_|_|_|j <;> first | rfl | omega)
 refine Fx.W.list (Fx.L.v (.pointer (some ⟨p, 0, none⟩)) (Fx.x_move rfl rfl) ?_)
 refine Fx.L.v (.agg (Fx.varr 14 (evY twoE))) (Fx.x_loadA (x := evY twoE) (y := evY twoE) rfl rfl (by kernel_rfl) (by kernel_rfl) m14.cel (i := 0) (by omega) (by omega) (fun j _ => by rw [Nat.zero_add])) ?_
 refine Fx.L.call (by rfl) (Fx.r_call (args := [.pointer (some ⟨p, 0, none⟩), .agg (Fx.varr 14 (evY twoE))]) rfl rfl Try.func19 rfl rfl) rfl ((o_add twoE newL _ _ 0 _ m12 b5.size (by omega) twoE_wf).mono ?_)
 rintro e9 w6 ⟨he, hc1, hok1, hno1⟩
 have ee1 : addG newL twoE = 13 := works_a
 refine ⟨.int .i64 13, by rw [he, ee1], ?_⟩
 clear he
 have ct1 := m12.chm hc1
 have hl3 := hno1 (by rw [ee1]; decide)
 have m15 := m13.chT ct1 (by decide)
 have m16 := m14.chT ct1 (by decide)
 have b6 := b5.trans (m12.below b5.size hc1)
 refine Fx.L.v (.int .i64 (13)) (Fx.x_assign rfl rfl) ?_
 refine Fx.L.nil (Fx.seqN (Fx.W.seq (Fx.W.list (Fx.L.v (.pointer (some ⟨p, 0, none⟩)) (Fx.x_move rfl rfl) ?_))))
 refine Fx.L.v (.agg (Fx.varr 14 (evY oneE))) (Fx.x_loadA (x := evY oneE) (y := evY oneE) rfl rfl (by kernel_rfl) (by kernel_rfl) m15.cel (i := 0) (by omega) (by omega) (fun j _ => by rw [Nat.zero_add])) ?_
 refine Fx.L.call (by rfl) (Fx.r_call (args := [.pointer (some ⟨p, 0, none⟩), .agg (Fx.varr 14 (evY oneE))]) rfl rfl Try.func19 rfl rfl) rfl ((o_add oneE newL _ _ 0 _ hl3 b6.size (by omega) oneE_wf).mono ?_)
 rintro e9 w7 ⟨he, hc2, hok2, hno2⟩
 have ee2 : addG newL oneE = 0 := works_b
 refine ⟨.int .i64 0, by rw [he, ee2], ?_⟩
 clear he
 have ct2 := hl3.chm hc2
 obtain ⟨ml1, hl4, hr1, _⟩ := hok2 ee2
 have hG1 := Gs.new.add ee2 hr1 oneE_wf
 have m17 := m15.chT ct2 (by decide)
 have m18 := m16.chT ct2 (by decide)
 have b7 := b6.trans (hl3.below b6.size hc2)
 refine Fx.L.v (.int .i64 (0)) (Fx.x_assign rfl rfl) ?_
 refine Fx.L.nil (Fx.seqN (Fx.W.seq (Fx.W.list (Fx.L.v (.pointer (some ⟨p, 0, none⟩)) (Fx.x_move rfl rfl) ?_))))
 refine Fx.L.v (.agg (Fx.varr 14 (evY twoE))) (Fx.x_loadA (x := evY twoE) (y := evY twoE) rfl rfl (by kernel_rfl) (by kernel_rfl) m18.cel (i := 0) (by omega) (by omega) (fun j _ => by rw [Nat.zero_add])) ?_
 refine Fx.L.call (by rfl) (Fx.r_call (args := [.pointer (some ⟨p, 0, none⟩), .agg (Fx.varr 14 (evY twoE))]) rfl rfl Try.func19 rfl rfl) rfl ((o_add twoE ml1 _ _ (0 + 1) _ hl4 b7.size (by omega) twoE_wf).mono ?_)
 rintro e9 w8 ⟨he, hc3, hok3, hno3⟩
 have ee3 : addG ml1 twoE = 0 := works_c hr1
 refine ⟨.int .i64 0, by rw [he, ee3], ?_⟩
 clear he
 have ct3 := hl4.chm hc3
 obtain ⟨ml2, hl5, hr2, _⟩ := hok3 ee3
 have hG2 := hG1.add ee3 hr2 twoE_wf
 have m19 := m17.chT ct3 (by decide)
 have m20 := m18.chT ct3 (by decide)
 have b8 := b7.trans (hl4.below b7.size hc3)
 refine Fx.L.v (.int .i64 (0)) (Fx.x_assign rfl rfl) ?_
 refine Fx.L.nil (Fx.seqN (Fx.W.seq (Fx.W.list (Fx.L.v (.pointer (some ⟨p, 0, none⟩)) (Fx.x_move rfl rfl) ?_))))
 refine Fx.L.v (.agg (Fx.varr 6 (Fx.rv .u64 (fun _ => 0)))) (Fx.x_buildArr (vs := []) (s := 1) (m := 6) (x := Fx.rv .u64 (fun _ => 0)) rfl rfl Try.underlying32 (by kernel_rfl) (by kernel_rfl) (by rfl)) ?_
 refine Fx.L.call (by rfl) (Fx.r_call (args := [.pointer (some ⟨p, 0, none⟩), .agg (Fx.varr 6 (Fx.rv .u64 (fun _ => 0))), .int .i64 (1)]) rfl rfl Try.func29 rfl rfl) rfl ((o_since (fun _ => 0) 1 ml2 _ _ (0 + 1 + 1) _ hl5 (by omega) hG2.seqUp).mono ?_)
 rintro e9 w9 ⟨a1, nn1, c1, l1, he, ho1, hsr1, hb2⟩
 obtain ⟨rfl, hy1⟩ := works_x hG2 hsr1
 refine ⟨_, he, ?_⟩
 clear he
 have s6 := Fx.Stp.of_below hb2
 have m21 := m19.stp s6 (Nat.ne_of_lt (m19.lt))
 have m22 := m20.stp s6 (Nat.ne_of_lt (m20.lt))
 have m23 := hl5.up s6.old
 have b9 := s6.below b8 b8.size b8.size
 refine Fx.L.v (.slice a1 (1) (c1)) (Fx.x_assign rfl rfl) ?_
 refine Fx.L.nil (Fx.seqN (Fx.W.seq (Fx.W.list (Fx.L.v (.pointer (some ⟨p, 0, none⟩)) (Fx.x_move rfl rfl) ?_))))
 refine Fx.L.v (.agg (Fx.varr 6 (Fx.ovr (Fx.rv .u64 (fun _ => 0)) 0 1 (fun _ => .int .u64 (1))))) (Fx.x_buildArr (vs := [(0, .int .u64 (1))]) (s := 1) (m := 6) (x := Fx.rv .u64 (fun _ => 0)) rfl rfl Try.underlying32 (by kernel_rfl) (by kernel_rfl) (by rw [Fx.fill_step (off := 0) (s := 1) (y := fun _ => .int .u64 (1)) (by kernel_rfl) (Fx.cells_one (by rfl)) (by rfl)]; rfl)) ?_
 refine Fx.L.call (by rfl) (Fx.r_call (args := [.pointer (some ⟨p, 0, none⟩), .agg (Fx.varr 6 (Fx.ovr (Fx.rv .u64 (fun _ => 0)) 0 1 (fun _ => .int .u64 (1)))), .int .i64 (9)]) rfl rfl Try.func29 rfl rfl) rfl ((callsA (o_since twoV 9 ml2 _ _ (0 + 1 + 1) _ m23 (by omega) hG2.seqUp) (congrArg (fun z => (#[.pointer (some ⟨p, 0, none⟩), .agg z, .int .i64 (9)] : Array Value)) (Fx.varr_congr (fun j hj => by rcases j with _|_|_|_|_|_|j <;> first | rfl | omega)))).mono ?_)
 rintro e9 w10 ⟨a2, nn2, c2, l2, he, ho2, hsr2, hb3⟩
 obtain ⟨rfl, hy2⟩ := works_y hG2 hsr2
 refine ⟨_, he, ?_⟩
 clear he
 have s7 := Fx.Stp.of_below hb3
 have m24 := m21.stp s7 (Nat.ne_of_lt (m21.lt))
 have m25 := m22.stp s7 (Nat.ne_of_lt (m22.lt))
 have m26 := m23.up s7.old
 have m27 := ho1.stp s7 (ho1.notNew (Nat.le_refl _))
 have b10 := s7.below b9 b9.size b9.size
 refine Fx.L.v (.slice a2 (1) (c2)) (Fx.x_assign rfl rfl) ?_
 refine Fx.L.nil (Fx.seqN (Fx.W.seq ?_))
 -- region 9 draws
 refine Fx.W.quiet (fun v1 => Below w10.heap.size w10 v1) (by kernel_rfl) (by kernel_rfl) (Below.refl _ _).drew ?_
 refine Fx.Qt.v (.int .i64 (13)) (fun v1 hv1 => Fx.x_move rfl rfl) ?_
 refine Fx.Qt.v (.bool true) (fun v1 hv1 => Fx.x_eqlT rfl rfl rfl (by omega)) ?_
 refine Fx.Qt.v (.bool true) (fun v1 hv1 => Fx.x_move rfl rfl) ?_
 refine Fx.Qt.v (.int .i64 (0)) (fun v1 hv1 => Fx.x_move rfl rfl) ?_
 refine Fx.Qt.v (.bool true) (fun v1 hv1 => Fx.x_eqlT rfl rfl rfl (by omega)) ?_
 refine Fx.Qt.v (.bool true) (fun v1 hv1 => Fx.x_pickT rfl rfl rfl) ?_
 refine Fx.Qt.v (.bool true) (fun v1 hv1 => Fx.x_move rfl rfl) ?_
 refine Fx.Qt.v (.int .i64 (0)) (fun v1 hv1 => Fx.x_move rfl rfl) ?_
 refine Fx.Qt.v (.bool true) (fun v1 hv1 => Fx.x_eqlT rfl rfl rfl (by omega)) ?_
 refine Fx.Qt.v (.bool true) (fun v1 hv1 => Fx.x_pickT rfl rfl rfl) ?_
 refine Fx.Qt.v (.bool true) (fun v1 hv1 => Fx.x_move rfl rfl) ?_
 refine Fx.Qt.v (.slice a1 (1) (c1)) (fun v1 hv1 => Fx.x_move rfl rfl) ?_
 refine Fx.Qt.v (.int .i64 (1)) (fun v1 hv1 => Fx.x_len rfl rfl rfl (by kernel_rfl)) ?_
 refine Fx.Qt.v (.bool true) (fun v1 hv1 => Fx.x_eqlT rfl rfl rfl (by omega)) ?_
 refine Fx.Qt.v (.bool true) (fun v1 hv1 => Fx.x_pickT rfl rfl rfl) ?_
 refine Fx.Qt.v (.bool true) (fun v1 hv1 => Fx.x_move rfl rfl) ?_
 refine Fx.Qt.v (.slice a1 (1) (c1)) (fun v1 hv1 => Fx.x_move rfl rfl) ?_
 obtain ⟨gq1, eq1⟩ := m27.addr (by omega)
 have m28 : Fx.Own w10 w8.heap.size 50 14 (.slice (some ⟨gq1, 0, none⟩) 1 c1) 1 (evX (fun q => (l1.getD q it0).e)) := m27.congV (congrArg (fun q => Value.slice q 1 c1) eq1)
 refine Fx.Qt.v (.pointer (some ⟨gq1, 0, none⟩)) (fun v1 hv1 => Fx.x_indexS rfl (rfl.trans (congrArg (fun q => Value.slice q (1) (c1)) eq1)) rfl Try.underlying46 (s := 14) (by kernel_rfl) (by omega) (by omega) (by omega)) ?_
 refine Fx.Qt.v (.agg (Fx.varr 14 (evY ((fun q => (l1.getD q it0).e) 0)))) (fun v1 hv1 => Fx.x_loadA (x := evX (fun q => (l1.getD q it0).e)) (y := evY ((fun q => (l1.getD q it0).e) 0)) rfl rfl (by kernel_rfl) (by kernel_rfl) (m28.cel.below hv1 (by have := m28.lt; omega)) (i := 0) (by omega) (by omega) (fun jq hjq => Fx.flat_at (k := 0) (by omega) hjq)) ?_
 refine Fx.Qt.v (.agg (Fx.varr 14 (evY oneE))) (fun v1 hv1 => Fx.x_loadA (x := evY oneE) (y := evY oneE) rfl rfl (by kernel_rfl) (by kernel_rfl) (m24.cel.below hv1 (by have := m24.lt; omega)) (i := 0) (by omega) (by omega) (fun j _ => by rw [Nat.zero_add])) ?_
 refine Fx.Qt.v (.bool true) (fun v1 hv1 => Fx.x_eqlA (n := 14) (ks := [(some .i64), (some .u64), (some .u64), (some .u64), (some .u64), (some .u64), (some .u64), (some .u64), (some .u8), (some .u64), (some .i64), (some .i64), (some .u64), (some .u64)]) (X := evY ((fun q => (l1.getD q it0).e) 0)) (Y := evY oneE) 12 true rfl rfl rfl (Fx.yesb (fun j _ => congrArg (fun v => evY v j) hy1)) (Kd_cong (kd_ev oneE_wf) (fun j _ => congrArg (fun v => evY v j) hy1)) (kd_ev oneE_wf) rfl (by kernel_rfl) (by kernel_rfl) (by kernel_rfl) (by kernel_rfl) (by kernel_rfl)) ?_
 refine Fx.Qt.v (.bool true) (fun v1 hv1 => Fx.x_pickT rfl rfl rfl) ?_
 refine Fx.Qt.v (.bool true) (fun v1 hv1 => Fx.x_move rfl rfl) ?_
 refine Fx.Qt.v (.slice a2 (1) (c2)) (fun v1 hv1 => Fx.x_move rfl rfl) ?_
 refine Fx.Qt.v (.int .i64 (1)) (fun v1 hv1 => Fx.x_len rfl rfl rfl (by kernel_rfl)) ?_
 refine Fx.Qt.v (.bool true) (fun v1 hv1 => Fx.x_eqlT rfl rfl rfl (by omega)) ?_
 refine Fx.Qt.v (.bool true) (fun v1 hv1 => Fx.x_pickT rfl rfl rfl) ?_
 refine Fx.Qt.v (.bool true) (fun v1 hv1 => Fx.x_move rfl rfl) ?_
 refine Fx.Qt.v (.slice a2 (1) (c2)) (fun v1 hv1 => Fx.x_move rfl rfl) ?_
 obtain ⟨gq2, eq2⟩ := ho2.addr (by omega)
 have m29 : Fx.Own w10 w9.heap.size 50 14 (.slice (some ⟨gq2, 0, none⟩) 1 c2) 1 (evX (fun q => (l2.getD q it0).e)) := ho2.congV (congrArg (fun q => Value.slice q 1 c2) eq2)
 refine Fx.Qt.v (.pointer (some ⟨gq2, 0, none⟩)) (fun v1 hv1 => Fx.x_indexS rfl (rfl.trans (congrArg (fun q => Value.slice q (1) (c2)) eq2)) rfl Try.underlying46 (s := 14) (by kernel_rfl) (by omega) (by omega) (by omega)) ?_
 refine Fx.Qt.v (.agg (Fx.varr 14 (evY ((fun q => (l2.getD q it0).e) 0)))) (fun v1 hv1 => Fx.x_loadA (x := evX (fun q => (l2.getD q it0).e)) (y := evY ((fun q => (l2.getD q it0).e) 0)) rfl rfl (by kernel_rfl) (by kernel_rfl) (m29.cel.below hv1 (by have := m29.lt; omega)) (i := 0) (by omega) (by omega) (fun jq hjq => Fx.flat_at (k := 0) (by omega) hjq)) ?_
 refine Fx.Qt.v (.agg (Fx.varr 14 (evY twoE))) (fun v1 hv1 => Fx.x_loadA (x := evY twoE) (y := evY twoE) rfl rfl (by kernel_rfl) (by kernel_rfl) (m25.cel.below hv1 (by have := m25.lt; omega)) (i := 0) (by omega) (by omega) (fun j _ => by rw [Nat.zero_add])) ?_
 refine Fx.Qt.v (.bool true) (fun v1 hv1 => Fx.x_eqlA (n := 14) (ks := [(some .i64), (some .u64), (some .u64), (some .u64), (some .u64), (some .u64), (some .u64), (some .u64), (some .u8), (some .u64), (some .i64), (some .i64), (some .u64), (some .u64)]) (X := evY ((fun q => (l2.getD q it0).e) 0)) (Y := evY twoE) 12 true rfl rfl rfl (Fx.yesb (fun j _ => congrArg (fun v => evY v j) hy2)) (Kd_cong (kd_ev twoE_wf) (fun j _ => congrArg (fun v => evY v j) hy2)) (kd_ev twoE_wf) rfl (by kernel_rfl) (by kernel_rfl) (by kernel_rfl) (by kernel_rfl) (by kernel_rfl)) ?_
 refine Fx.Qt.v (.bool true) (fun v1 hv1 => Fx.x_pickT rfl rfl rfl) ?_
 refine Fx.Qt.v (.bool true) (fun v1 hv1 => Fx.x_move rfl rfl) ?_
 refine Fx.Qt.v (.pointer (some ⟨p, 0, none⟩)) (fun v1 hv1 => Fx.x_move rfl rfl) ?_
 refine Fx.Qt.call (v := .int .i64 ((((((([] : List ItM) ++ [(⟨oneE, newL.cnt⟩ : ItM)]) ++ [(⟨twoE, ml1.cnt⟩ : ItM)])).length : Nat) : Int))) (by rfl) (fun v1 hv1 => Fx.r_call (args := [.pointer (some ⟨p, 0, none⟩)]) rfl rfl Try.func30 rfl rfl) rfl (fun v1 hv1 => (g_len (m26.up hv1) (by omega) hG2).mono fun e v2 h => ⟨h.1, bch hv1 h.2⟩) ?_
 refine Fx.Qt.v (.bool true) (fun v1 hv1 => Fx.x_eqlT rfl rfl rfl rfl) ?_
 refine Fx.Qt.v (.bool true) (fun v1 hv1 => Fx.x_pickT rfl rfl rfl) ?_
 refine Fx.Qt.v (.bool true) (fun v1 hv1 => Fx.x_assign rfl rfl) ?_
 refine Fx.Qt.nil ?_
 intro wb1 hbwb1
 have s8 : Fx.Stp w10.heap.size w10 wb1 := Fx.Stp.of_below hbwb1
 have m30 := m24.stp s8 (Nat.ne_of_lt (m24.lt))
 have m31 := m25.stp s8 (Nat.ne_of_lt (m25.lt))
 have m32 := m26.up s8.old
 have m33 := m28.stpB s8 (Nat.ne_of_lt (m28.lt))
 have m34 := m29.stpB s8 (Nat.ne_of_lt (m29.lt))
 have b11 := s8.below b10 b10.size b10.size
 refine Fx.seqN (Fx.W.ret (⟨.bool true, Fx.retV1 Try.results26 (by exact rfl), ?_⟩))
 exact ⟨rfl, b11⟩
end Go.Proofs.Ytleajegppehbdaa
namespace Go.Proofs.Ytleajegppehbdaa
open Go.RowKit Rt
set_option maxRecDepth 10000 in
theorem onil_any (v : EvM) (V : Nat → Int) (most : Int) (w : World) :
    Calls Try.prog 7 #[.agg (Fx.varr 14 (evY v)), .agg (Fx.varr 6 (Fx.rv .u64 V)), .int .i64 (most)] w fun e w' => e = .returned (.bool true) ∧ Below w.heap.size w w' := by
 refine Fx.enter Try.func7 rfl (n := 55) rfl (by rfl) ?_
 refine Fx.W.seq (Fx.W.list (Fx.L.box (m := 14) (y := evY v) (by rfl) rfl rfl (Fx.cells_agg _ _) rfl fun g1 w1 eg1 m1 s1 z1 => ?_))
 have b1 := s1.below (Below.refl w.heap.size w) (Below.refl w.heap.size w).size (Below.refl w.heap.size w).size
 have lg1 : w.heap.size ≤ g1 := by rw [eg1]; exact (Below.refl w.heap.size w).size
 have tg1 : g1 < w1.heap.size := m1.lt
 clear eg1
 refine Fx.L.box (m := 6) (y := Fx.rv .u64 V) (by rfl) rfl rfl (Fx.cells_agg _ _) rfl fun g2 w2 eg2 m2 s2 z2 => ?_
 have m3 := m1.stp s2 (Nat.ne_of_lt (m1.lt))
 have b2 := s2.below b1 b1.size b1.size
 have lg2 : w.heap.size ≤ g2 := by rw [eg2]; exact b1.size
 have ng2m3 : g1 ≠ g2 := by rw [eg2]; exact Nat.ne_of_lt (m1.lt)
 have tg2 : g2 < w2.heap.size := m2.lt
 clear eg2
 refine Fx.L.v (.bool false) (Fx.x_assign rfl rfl) ?_
 refine Fx.L.nil (Fx.seqN (Fx.W.seq (Fx.W.list (Fx.L.v (.pointer none) (Fx.x_assign rfl rfl) ?_))))
 refine Fx.L.nil (Fx.seqN (Fx.W.seq (Fx.W.list (Fx.L.v (.pointer none) (Fx.x_move rfl rfl) ?_))))
 refine Fx.L.v (.pointer (some ⟨g1, 0, none⟩)) (Fx.x_field rfl rfl Try.underlying50 rfl (s := 1) (by kernel_rfl) rfl rfl) ?_
 refine Fx.L.v (.int .i64 (v.o)) (Fx.x_load1 (x := evY v) rfl rfl (by kernel_rfl) m3.cel (i := 0) (by omega) (by omega) rfl) ?_
 refine Fx.L.v (.pointer (some ⟨g1, 1, none⟩)) (Fx.x_field rfl rfl Try.underlying50 rfl (s := 1) (by kernel_rfl) rfl (by show _ + 1 = _; omega)) ?_
 refine Fx.L.v (.int .u64 (v.seq)) (Fx.x_load1 (x := evY v) rfl rfl (by kernel_rfl) m3.cel (i := 1) (by omega) (by omega) rfl) ?_
 refine Fx.L.call (by rfl) (Fx.r_call (args := [.pointer none, .int .i64 (v.o), .int .u64 (v.seq)]) rfl rfl Try.func32 rfl rfl) rfl ((o_get0 v.o v.seq _).mono ?_)
 rintro e w3 ⟨he, hb1⟩
 refine ⟨.tuple #[.agg (Fx.varr 14 (evY zeroE)), .bool false], by rw [he], ?_⟩
 clear he
 have s3 := Fx.Stp.of_below hb1
 have m4 := m3.stp s3 (Nat.ne_of_lt (m3.lt))
 have m5 := m2.stp s3 (Nat.ne_of_lt (m2.lt))
 have b3 := s3.below b2 b2.size b2.size
 refine Fx.L.v (.tuple #[.agg (Fx.varr 14 (evY zeroE)), .bool false]) (Fx.x_move rfl rfl) ?_
 refine Fx.L.v (.agg (Fx.varr 14 (evY zeroE))) (Fx.x_extract rfl rfl rfl) ?_
 refine Fx.L.v (.bool false) (Fx.x_extract rfl rfl rfl) ?_
 refine Fx.L.new (m := 14) (y := fun zq => if zq < 1 then .int .i64 (0) else if zq < 8 then .int .u64 (0) else if zq < 9 then .int .u8 (0) else if zq < 10 then .int .u64 (0) else if zq < 12 then .int .i64 (0) else .int .u64 (0)) (by rfl) rfl (by kernel_rfl) rfl fun g3 w4 eg3 m6 s4 z3 => ?_
 have m7 := m4.stp s4 (Nat.ne_of_lt (m4.lt))
 have m8 := m5.stp s4 (Nat.ne_of_lt (m5.lt))
 have b4 := s4.below b3 b3.size b3.size
 have lg3 : w.heap.size ≤ g3 := by rw [eg3]; exact b3.size
 have ng3m7 : g1 ≠ g3 := by rw [eg3]; exact Nat.ne_of_lt (m4.lt)
 have ng3m8 : g2 ≠ g3 := by rw [eg3]; exact Nat.ne_of_lt (m5.lt)
 have tg3 : g3 < w4.heap.size := m6.lt
 clear eg3
 refine Fx.L.storeA (x := fun zq => if zq < 1 then .int .i64 (0) else if zq < 8 then .int .u64 (0) else if zq < 9 then .int .u8 (0) else if zq < 10 then .int .u64 (0) else if zq < 12 then .int .i64 (0) else .int .u64 (0)) (y := evY zeroE) (by rfl) rfl rfl rfl rfl (evY_one _) (by kernel_rfl) m6 (i := 0) (by omega) fun w5 m9 s5 z4 => ?_
 have m10 : Fx.Blk w5 g3 14 (evY zeroE) 50 := Fx.ovr_all m9
 have m11 := m7.stp s5 (by omega)
 have m12 := m8.stp s5 (by omega)
 have b5 := s5.below b4 b4.size (by omega)
 refine Fx.L.v (.bool false) (Fx.x_assign rfl rfl) ?_
 refine Fx.L.nil (Fx.seqN (Fx.W.seq (Fx.W.list (Fx.L.v (.pointer none) (Fx.x_move rfl rfl) ?_))))
 refine Fx.L.v (.agg (Fx.varr 14 (evY v))) (Fx.x_loadA (x := evY v) (y := evY v) rfl rfl (by kernel_rfl) (by kernel_rfl) m11.cel (i := 0) (by omega) (by omega) (fun j _ => by rw [Nat.zero_add])) ?_
 refine Fx.L.call (by rfl) (Fx.r_call (args := [.pointer none, .agg (Fx.varr 14 (evY v))]) rfl rfl Try.func19 rfl rfl) rfl ((o_add0 v _).mono ?_)
 rintro e w6 ⟨he, hb2⟩
 refine ⟨.int .i64 (2), by rw [he], ?_⟩
 clear he
 have s6 := Fx.Stp.of_below hb2
 have m13 := m11.stp s6 (Nat.ne_of_lt (m11.lt))
 have m14 := m12.stp s6 (Nat.ne_of_lt (m12.lt))
 have m15 := m10.stp s6 (Nat.ne_of_lt (m10.lt))
 have b6 := s6.below b5 b5.size b5.size
 refine Fx.L.v (.bool true) (Fx.x_eqlT rfl rfl rfl rfl) ?_
 refine Fx.L.v (.bool true) (Fx.x_move rfl rfl) ?_
 refine Fx.L.v (.bool false) (Fx.x_move rfl rfl) ?_
 refine Fx.L.v (.bool true) (Fx.x_notT rfl rfl) ?_
 refine Fx.L.v (.bool true) (Fx.x_pickT rfl rfl rfl) ?_
 refine Fx.L.v (.bool true) (Fx.x_move rfl rfl) ?_
 refine Fx.L.v (.pointer none) (Fx.x_move rfl rfl) ?_
 refine Fx.L.call (by rfl) (Fx.r_call (args := [.pointer none]) rfl rfl Try.func27 rfl rfl) rfl ((o_known0 _).mono ?_)
 rintro e w7 ⟨he, hb3⟩
 refine ⟨.agg (Fx.varr 6 (Fx.rv .u64 (fun _ => 0))), by rw [he], ?_⟩
 clear he
 have s7 := Fx.Stp.of_below hb3
 have m16 := m13.stp s7 (Nat.ne_of_lt (m13.lt))
 have m17 := m14.stp s7 (Nat.ne_of_lt (m14.lt))
 have m18 := m15.stp s7 (Nat.ne_of_lt (m15.lt))
 have b7 := s7.below b6 b6.size b6.size
 refine Fx.L.v (.agg (Fx.varr 6 (Fx.rv .u64 (fun _ => 0)))) (Fx.x_buildArr (vs := []) (s := 1) (m := 6) (x := Fx.rv .u64 (fun _ => 0)) rfl rfl Try.underlying32 (by kernel_rfl) (by kernel_rfl) (by rfl)) ?_
 refine Fx.L.v (.bool true) (Fx.x_eqlA (n := 6) (ks := List.replicate 6 (some .u64)) (X := Fx.rv .u64 (fun _ => 0)) (Y := Fx.rv .u64 (fun _ => 0)) 12 true rfl rfl rfl (Fx.yesb (fun _ _ => rfl)) (Fx.kd_rv fun _ _ => Fx.wfu64 ⟨by decide, by decide⟩) (Fx.kd_rv fun _ _ => Fx.wfu64 ⟨by decide, by decide⟩) rfl (by kernel_rfl) (by kernel_rfl) (by kernel_rfl) (by kernel_rfl) (by kernel_rfl)) ?_
 refine Fx.L.v (.bool true) (Fx.x_pickT rfl rfl rfl) ?_
 refine Fx.L.v (.bool true) (Fx.x_move rfl rfl) ?_
 refine Fx.L.v (.pointer none) (Fx.x_move rfl rfl) ?_
 refine Fx.L.v (.agg (Fx.varr 6 (Fx.rv .u64 V))) (Fx.x_loadA (x := Fx.rv .u64 V) (y := Fx.rv .u64 V) rfl rfl (by kernel_rfl) (by kernel_rfl) m17.cel (i := 0) (by omega) (by omega) (fun j _ => by rw [Nat.zero_add])) ?_
 refine Fx.L.v (.int .i64 (most)) (Fx.x_move rfl rfl) ?_
 refine Fx.L.call (by rfl) (Fx.r_call (args := [.pointer none, .agg (Fx.varr 6 (Fx.rv .u64 V)), .int .i64 (most)]) rfl rfl Try.func29 rfl rfl) rfl ((o_since0 V most _).mono ?_)
 rintro e w8 ⟨he, hb4⟩
 refine ⟨.slice none 0 0, by rw [he], ?_⟩
 clear he
 have s8 := Fx.Stp.of_below hb4
 have m19 := m16.stp s8 (Nat.ne_of_lt (m16.lt))
 have m20 := m17.stp s8 (Nat.ne_of_lt (m17.lt))
 have m21 := m18.stp s8 (Nat.ne_of_lt (m18.lt))
 have b8 := s8.below b7 b7.size b7.size
 refine Fx.L.v (.int .i64 (0)) (Fx.x_len rfl rfl rfl (by kernel_rfl)) ?_
 refine Fx.L.v (.bool true) (Fx.x_eqlT rfl rfl rfl rfl) ?_
 refine Fx.L.v (.bool true) (Fx.x_pickT rfl rfl rfl) ?_
 refine Fx.L.v (.bool true) (Fx.x_move rfl rfl) ?_
 refine Fx.L.v (.pointer none) (Fx.x_move rfl rfl) ?_
 refine Fx.L.v (.agg (Fx.varr 6 (Fx.rv .u64 V))) (Fx.x_loadA (x := Fx.rv .u64 V) (y := Fx.rv .u64 V) rfl rfl (by kernel_rfl) (by kernel_rfl) m20.cel (i := 0) (by omega) (by omega) (fun j _ => by rw [Nat.zero_add])) ?_
 refine Fx.L.call (by rfl) (Fx.r_call (args := [.pointer none, .agg (Fx.varr 6 (Fx.rv .u64 V))]) rfl rfl Try.func28 rfl rfl) rfl ((o_prune0 V _).mono ?_)
 rintro e w9 ⟨he, hb5⟩
 refine ⟨.int .i64 (0), by rw [he], ?_⟩
 clear he
 have s9 := Fx.Stp.of_below hb5
 have m22 := m19.stp s9 (Nat.ne_of_lt (m19.lt))
 have m23 := m20.stp s9 (Nat.ne_of_lt (m20.lt))
 have m24 := m21.stp s9 (Nat.ne_of_lt (m21.lt))
 have b9 := s9.below b8 b8.size b8.size
 refine Fx.L.v (.bool true) (Fx.x_eqlT rfl rfl rfl rfl) ?_
 refine Fx.L.v (.bool true) (Fx.x_pickT rfl rfl rfl) ?_
 refine Fx.L.v (.bool true) (Fx.x_move rfl rfl) ?_
 refine Fx.L.v (.pointer none) (Fx.x_move rfl rfl) ?_
 refine Fx.L.call (by rfl) (Fx.r_call (args := [.pointer none]) rfl rfl Try.func30 rfl rfl) rfl ((o_len0 _).mono ?_)
 rintro e w10 ⟨he, hb6⟩
 refine ⟨.int .i64 (0), by rw [he], ?_⟩
 clear he
 have s10 := Fx.Stp.of_below hb6
 have m25 := m22.stp s10 (Nat.ne_of_lt (m22.lt))
 have m26 := m23.stp s10 (Nat.ne_of_lt (m23.lt))
 have m27 := m24.stp s10 (Nat.ne_of_lt (m24.lt))
 have b10 := s10.below b9 b9.size b9.size
 refine Fx.L.v (.bool true) (Fx.x_eqlT rfl rfl rfl rfl) ?_
 refine Fx.L.v (.bool true) (Fx.x_pickT rfl rfl rfl) ?_
 refine Fx.L.v (.bool true) (Fx.x_move rfl rfl) ?_
 refine Fx.L.call (by rfl) (Fx.r_call (args := []) rfl rfl Try.func26 rfl rfl) rfl ((works16_any _).mono ?_)
 rintro e w11 ⟨he, hb7⟩
 refine ⟨.bool true, by rw [he], ?_⟩
 clear he
 have s11 := Fx.Stp.of_below hb7
 have m28 := m25.stp s11 (Nat.ne_of_lt (m25.lt))
 have m29 := m26.stp s11 (Nat.ne_of_lt (m26.lt))
 have m30 := m27.stp s11 (Nat.ne_of_lt (m27.lt))
 have b11 := s11.below b10 b10.size b10.size
 refine Fx.L.v (.bool true) (Fx.x_pickT rfl rfl rfl) ?_
 refine Fx.L.v (.bool true) (Fx.x_assign rfl rfl) ?_
 refine Fx.L.nil (Fx.seqN (Fx.W.ret (⟨.bool true, Fx.retV1 Try.results7 (by exact rfl), ?_⟩)))
 exact ⟨rfl, b11⟩
end Go.Proofs.Ytleajegppehbdaa
namespace Go.Proofs.Ytleajegppehbdaa
open Go.RowKit Go.WideShapes
theorem cell_int {P : Program} {w : World} {r : Reach} {base : Nat} {u : TypeId} {k : IntKind} {v : Value} (hu : P.underlying u = some (.int k)) (h : Cell.okWide P w r base u v) : ∃ n, v = .int k n ∧ k.has n := by
  simp only [hu, Cell.okWide] at h
  cases v <;> simp_all [Cell.ok]
end Go.Proofs.Ytleajegppehbdaa
namespace Go.Proofs.Ytleajegppehbdaa
open Go.RowKit Go.WideShapes Go.ChangeShapes Go.Deep
def At4 (k0 k1 k2 k3 : IntKind) (w : World) (b off : Nat) (x0 x1 x2 x3 : Int) : Prop :=
  w.cell? ⟨b, off, none⟩ = some (.int k0 x0) ∧ w.cell? ⟨b, off + 1, none⟩ = some (.int k1 x1) ∧ w.cell? ⟨b, off + 2, none⟩ = some (.int k2 x2) ∧ w.cell? ⟨b, off + 3, none⟩ = some (.int k3 x3)
def Wf4 (k0 k1 k2 k3 : IntKind) (x0 x1 x2 x3 : Int) : Prop := (Lit.int k0 x0).wf = true ∧ (Lit.int k1 x1).wf = true ∧ (Lit.int k2 x2).wf = true ∧ (Lit.int k3 x3).wf = true
def Sl4 (k0 k1 k2 k3 : IntKind) (w : World) (a : Option Addr) (len : Nat) (X0 X1 X2 X3 : Nat → Int) : Prop :=
  ∀ i, i < len → (∃ b off, a = some ⟨b, off, none⟩ ∧ At4 k0 k1 k2 k3 w b (off + i * 4) (X0 i) (X1 i) (X2 i) (X3 i)) ∧ Wf4 k0 k1 k2 k3 (X0 i) (X1 i) (X2 i) (X3 i)
theorem Sl4.up {k0 k1 k2 k3 : IntKind} {w w' : World} {a : Option Addr} {len : Nat} {X0 X1 X2 X3 : Nat → Int} (h : Sl4 k0 k1 k2 k3 w a len X0 X1 X2 X3) (hb : Below w.heap.size w w') : Sl4 k0 k1 k2 k3 w' a len X0 X1 X2 X3 := by
  intro i hi
  obtain ⟨⟨b, off, e, q0, q1, q2, q3⟩, hw⟩ := h i hi
  have hlt := block_lt_of_cell q0
  dsimp only at hlt
  exact ⟨⟨b, off, e, (hb.cell (p := ⟨b, off + i * 4, none⟩) hlt).trans q0, (hb.cell (p := ⟨b, off + i * 4 + 1, none⟩) hlt).trans q1, (hb.cell (p := ⟨b, off + i * 4 + 2, none⟩) hlt).trans q2, (hb.cell (p := ⟨b, off + i * 4 + 3, none⟩) hlt).trans q3⟩, hw⟩
end Go.Proofs.Ytleajegppehbdaa
namespace Go.Proofs.Ytleajegppehbdaa
open Go.RowKit Go.WideShapes Go.ChangeShapes Go.Deep
theorem okWide_flatA {P : Program} {w : World} {r : Reach} {base : Nat} {t u e : TypeId} {k : IntKind} {n len : Nat} {v : Value} (ht : P.underlying t = some (.array len e)) (hct : P.cellTypes P.depth t = some (List.replicate n u)) (hn : P.cellsOf t = n)
    (hu : P.underlying u = some (.int k)) (h : Value.okWide P w r base t v) : ∃ x : Nat → Int, v = .agg (Fx.varr n (Fx.rv k x)) ∧ ∀ p, p < n → k.has (x p) := by
  unfold Value.okWide at h
  rw [ht] at h
  obtain ⟨cs, rfl, hs, ts, hts, _, hc⟩ := h
  rw [hct] at hts
  obtain rfl := Option.some.inj hts
  rw [hn] at hs
  have each : ∀ p, ∃ m : Int, p < n → cs[p]? = some (.int k m) ∧ k.has m := by
    intro p
    by_cases hp : p < n
    · obtain ⟨u', hu', hk⟩ := hc p cs[p] (by simp [hs, hp])
      rw [List.length_replicate, Nat.mod_eq_of_lt hp, List.getElem?_replicate, if_pos hp] at hu'
      obtain rfl := Option.some.inj hu'
      obtain ⟨m, hm, hh⟩ := cell_int hu hk
      exact ⟨m, fun _ => ⟨by rw [Array.getElem?_eq_getElem (by omega), hm], hh⟩⟩
    · exact ⟨0, fun h => absurd h hp⟩
  refine ⟨fun p => Classical.choose (each p), ?_, fun p hp => (Classical.choose_spec (each p) hp).2⟩
  congr 1
  apply Array.ext_getElem?
  intro p
  by_cases hp : p < n
  · rw [Fx.varr_get _ hp]; exact (Classical.choose_spec (each p) hp).1
  · rw [Array.getElem?_eq_none (by omega), Array.getElem?_eq_none (by rw [Fx.varr_size]; omega)]
end Go.Proofs.Ytleajegppehbdaa
namespace Go.Proofs.Ytleajegppehbdaa
open Go.RowKit Go.WideShapes Go.ChangeShapes Go.Deep
def flatKb (P : Program) : Nat → TypeId → Option (List (Option IntKind))
  | 0, _ => none
  | d + 1, t => match P.underlying t with
    | some (.int k) => some [some k]
    | some .bool => some [none]
    | some (.array n e) => (flatKb P d e).bind fun ks => if P.cellsOf e = ks.length ∧ P.cellsOf t = n * ks.length then some (List.replicate n ks).flatten else none
    | some (.struct fs) => (fs.toList.foldlM (fun l f => (flatKb P d f.type).bind fun ks => if f.offset = l.length ∧ P.cellsOf f.type = ks.length then some (l ++ ks) else none) []).bind fun l => if P.cellsOf t = l.length then some l else none
    | _ => none
def OkV (k : Option IntKind) (v : Value) : Prop := match k with | some k => ∃ n, v = .int k n ∧ (Lit.int k n).wf = true | none => ∃ b, v = .bool b
def FlatV (ks : List (Option IntKind)) (cs : List Value) : Prop := cs.length = ks.length ∧ ∀ (j : Nat) (k : Option IntKind), ks[j]? = some k → ∃ v, cs[j]? = some v ∧ OkV k v
theorem flatb_rep {ks : List (Option IntKind)} {k : Option IntKind} : ∀ (n j : Nat), (List.replicate n ks).flatten[j]? = some k → ks[j % ks.length]? = some k ∧ j / ks.length < n
  | 0, j, h => by simp at h
  | n + 1, j, h => by
    rw [List.replicate_succ, List.flatten_cons] at h
    by_cases hj : j < ks.length
    · rw [List.getElem?_append_left hj] at h
      rw [Nat.mod_eq_of_lt hj, Nat.div_eq_of_lt hj]; exact ⟨h, by omega⟩
    · rw [List.getElem?_append_right (by omega)] at h
      have hs : 0 < ks.length := by
        rcases Nat.eq_zero_or_pos ks.length with e | e
        · obtain ⟨h1, _⟩ := flatb_rep n _ h
          have := (List.getElem?_eq_some_iff.1 h1).1; omega
        · exact e
      obtain ⟨h1, h2⟩ := flatb_rep n _ h
      rw [Nat.mod_eq_sub_mod (by omega), Nat.div_eq_sub_div hs (by omega)]
      exact ⟨h1, by omega⟩
section
variable {H : Type} {enc : TypeId × Value → H} {P : Program} {w : World} {base : Nat} {spare : Nat → Bool} {held : Bool}
theorem flatb_part {ks : List (Option IntKind)} {cs : List Value} {o s j : Nat} {k : Option IntKind} (h : FlatV ks ((cs.drop o).take s)) (hs : s = ks.length) (hk : ks[j]? = some k) : ∃ v, cs[o + j]? = some v ∧ OkV k v := by
  obtain ⟨n, h1, h2⟩ := h.2 j k hk
  have hj := (List.getElem?_eq_some_iff.1 hk).1
  rw [List.getElem?_take_of_lt (by omega), List.getElem?_drop] at h1
  exact ⟨n, h1, h2⟩
theorem flatKb_ok : ∀ (d : Nat) (t : TypeId) (ks : List (Option IntKind)), flatKb P d t = some ks → ∀ (fuel : Nat) (cs : List Value) (x : DataW H × List MemPlace), DataW.trod enc P w base spare held fuel t cs = some x → FlatV ks cs
  | 0, _, _, h => by simp [flatKb] at h
  | d + 1, t, ks, h => by
    intro fuel cs x hx
    unfold flatKb at h
    split at h
    · rename_i k hu
      simp only [Option.some.injEq] at h; subst h
      obtain ⟨n, rfl, _, hw⟩ := DataW.trod_int hu hx
      refine ⟨rfl, fun j k' hk => ?_⟩
      match j, hk with
      | 0, hk => simp at hk; subst hk; exact ⟨_, rfl, n, rfl, hw⟩
      | j + 1, hk => simp at hk
    · rename_i hu
      simp only [Option.some.injEq] at h; subst h
      obtain ⟨b, rfl, _⟩ := DataW.trod_bool hu hx
      refine ⟨rfl, fun j k' hk => ?_⟩
      match j, hk with
      | 0, hk => simp at hk; subst hk; exact ⟨_, rfl, b, rfl⟩
      | j + 1, hk => simp at hk
    · rename_i n e hu
      obtain ⟨ks', hks, h⟩ := Option.bind_eq_some_iff.1 h
      split at h
      · rename_i hc
        simp only [Option.some.injEq] at h; subst h
        obtain ⟨xs, m, _, _, hl, hlen, hel⟩ := DataW.trod_array hu hx
        refine ⟨by rw [hl, hc.2]; simp, fun j k hk => ?_⟩
        obtain ⟨h1, h2⟩ := flatb_rep n j hk
        have hi := hel (j / ks'.length) h2
        rw [List.getElem?_eq_getElem (by omega), hc.1] at hi
        have := flatb_part (flatKb_ok d e ks' hks _ _ _ hi) rfl h1
        rw [Nat.mul_comm, Nat.div_add_mod] at this
        exact this
      · cases h
    · rename_i fs hu
      obtain ⟨l, hl, h⟩ := Option.bind_eq_some_iff.1 h
      split at h
      · rename_i hc
        simp only [Option.some.injEq] at h; subst h
        obtain ⟨xs, m, _, _, hlc, hlen, hf⟩ := DataW.trod_struct hu hx
        refine ⟨by rw [hlc, hc], ?_⟩
        have hf' : ∀ f, f ∈ fs.toList → ∃ y, DataW.trod enc P w base spare held m f.type ((cs.drop f.offset).take (P.cellsOf f.type)) = some y := by
          intro f hfm
          obtain ⟨i, hi, e⟩ := List.mem_iff_getElem.1 hfm
          have hi' : i < fs.size := by simpa using hi
          have h1 : fs[i]? = some f := by rw [Array.getElem?_eq_getElem hi']; simpa using e
          have := hf i f h1
          rw [List.getElem?_eq_getElem (by rw [hlen]; exact hi')] at this
          exact ⟨_, this⟩
        have key : ∀ (L : List Field) (acc : List (Option IntKind)), (∀ f, f ∈ L → ∃ y, DataW.trod enc P w base spare held m f.type ((cs.drop f.offset).take (P.cellsOf f.type)) = some y) → (∀ (j : Nat) (k : Option IntKind), acc[j]? = some k → ∃ v, cs[j]? = some v ∧ OkV k v) → ∀ l, L.foldlM (fun l f => (flatKb P d f.type).bind fun ks => if f.offset = l.length ∧ P.cellsOf f.type = ks.length then some (l ++ ks) else none) acc = some l → ∀ (j : Nat) (k : Option IntKind), l[j]? = some k → ∃ v, cs[j]? = some v ∧ OkV k v := by
          intro L
          induction L with
          | nil => intro acc _ ha l hl; simp at hl; subst hl; exact ha
          | cons f L ih =>
            intro acc hL ha l hl
            rw [List.foldlM_cons] at hl
            obtain ⟨l1, h1, h2⟩ := Option.bind_eq_some_iff.1 hl
            obtain ⟨kf, hkf, h3⟩ := Option.bind_eq_some_iff.1 h1
            split at h3
            · rename_i hcc
              simp only [Option.some.injEq] at h3; subst h3
              refine ih (acc ++ kf) (fun g hg => hL g (List.mem_cons_of_mem _ hg)) (fun j k hk => ?_) l h2
              by_cases hj : j < acc.length
              · rw [List.getElem?_append_left hj] at hk; exact ha j k hk
              · rw [List.getElem?_append_right (by omega)] at hk
                obtain ⟨y, hy⟩ := hL f (List.mem_cons_self ..)
                have := flatb_part (flatKb_ok d f.type kf hkf _ _ _ hy) hcc.2 hk
                rw [hcc.1, show acc.length + (j - acc.length) = j by omega] at this
                exact this
            · cases h3
        exact key fs.toList [] hf' (fun j k hk => by simp at hk) l hl
      · cases h
    · cases h
end
def numOf : Value → Int | .int _ n => n | _ => 0
theorem OkV.num {k : IntKind} {v : Value} (h : OkV (some k) v) : v = .int k (numOf v) ∧ (Lit.int k (numOf v)).wf = true := by
  obtain ⟨n, rfl, hw⟩ := h; exact ⟨rfl, hw⟩
theorem bd_u8 {n : Int} (h : (Lit.int .u8 n).wf = true) : 0 ≤ n ∧ n ≤ 255 := by simp [Lit.wf, IntKind.min, IntKind.max, IntKind.bits, IntKind.signed] at h; omega
theorem bd_u64 {n : Int} (h : (Lit.int .u64 n).wf = true) : 0 ≤ n ∧ n < 18446744073709551616 := by simp [Lit.wf, IntKind.min, IntKind.max, IntKind.bits, IntKind.signed] at h; omega
theorem bd_i64 {n : Int} (h : (Lit.int .i64 n).wf = true) : -9223372036854775808 ≤ n ∧ n ≤ 9223372036854775807 := by simp [Lit.wf, IntKind.min, IntKind.max, IntKind.bits, IntKind.signed] at h; omega
end Go.Proofs.Ytleajegppehbdaa
namespace Go.Proofs.Ytleajegppehbdaa
open Go.RowKit Go.WideShapes Go.ChangeShapes Go.Deep Rt
def KEV : List (Option IntKind) := [some .i64, some .u64, some .u64, some .u64, some .u64, some .u64, some .u64, some .u64, some .u8, some .u64, some .i64, some .i64, some .u64, some .u64]
def evOf (x : Nat → Value) : EvM := ⟨numOf (x 0), numOf (x 1), fun i => numOf (x (i + 2)), numOf (x 8), numOf (x 9), numOf (x 10), numOf (x 11), numOf (x 12), numOf (x 13)⟩
theorem bdU {n : Int} (h : (Lit.int .u64 n).wf = true) : U64r n := by have := bd_u64 h; unfold U64r; omega
theorem bdI {n : Int} (h : (Lit.int .i64 n).wf = true) : I64r n := by have := bd_i64 h; unfold I64r; omega
theorem evOf_ok {x : Nat → Value} (h : ∀ (j : Nat) (k : Option IntKind), KEV[j]? = some k → OkV k (x j)) : (∀ j, j < 14 → x j = evY (evOf x) j) ∧ EvWf (evOf x) := by
  have o : ∀ (j : Nat) (k : IntKind), KEV[j]? = some (some k) → x j = .int k (numOf (x j)) ∧ (Lit.int k (numOf (x j))).wf = true := fun j k e => (h j (some k) e).num
  refine ⟨fun j hj => ?_, ?_⟩
  · rcases j with _|_|_|_|_|_|_|_|_|_|_|_|_|_|j
    · exact (o 0 .i64 rfl).1
    · exact (o 1 .u64 rfl).1
    · exact (o 2 .u64 rfl).1
    · exact (o 3 .u64 rfl).1
    · exact (o 4 .u64 rfl).1
    · exact (o 5 .u64 rfl).1
    · exact (o 6 .u64 rfl).1
    · exact (o 7 .u64 rfl).1
    · exact (o 8 .u8 rfl).1
    · exact (o 9 .u64 rfl).1
    · exact (o 10 .i64 rfl).1
    · exact (o 11 .i64 rfl).1
    · exact (o 12 .u64 rfl).1
    · exact (o 13 .u64 rfl).1
    · omega
  · refine ⟨bdI (o 0 .i64 rfl).2, bdU (o 1 .u64 rfl).2, fun i hi => ?_, bd_u8 (o 8 .u8 rfl).2, bdU (o 9 .u64 rfl).2, bdI (o 10 .i64 rfl).2, bdI (o 11 .i64 rfl).2, bdU (o 12 .u64 rfl).2, bdU (o 13 .u64 rfl).2⟩
    show U64r (numOf (x (i + 2)))
    rcases i with _|_|_|_|_|_|i
    · exact bdU (o 2 .u64 rfl).2
    · exact bdU (o 3 .u64 rfl).2
    · exact bdU (o 4 .u64 rfl).2
    · exact bdU (o 5 .u64 rfl).2
    · exact bdU (o 6 .u64 rfl).2
    · exact bdU (o 7 .u64 rfl).2
    · omega
theorem open_evP {P : Program} {fs : Array Field} {T : TypeId} {H : Type} {enc : TypeId × Value → H} {w W : World} {r : Reach} {base D : Nat} {v : Value} {d : DataW H} {ps : List MemPlace} (hu : P.underlying T = some (.struct fs)) (hk : flatKb P D T = some KEV) (hv : Value.okWide P W r base T v) (h : DataW.Trod enc P w 0 (fun _ => true) true T v d ps) : ∃ V : EvM, v = .agg (Fx.varr 14 (evY V)) ∧ EvWf V := by
  unfold Value.okWide at hv
  rw [hu] at hv
  obtain ⟨cs, rfl, _⟩ := hv
  obtain ⟨fuel, hf⟩ := h
  have hF := flatKb_ok _ _ _ hk _ _ _ hf
  have hl : cs.size = 14 := by have := hF.1; simpa [Value.cells, KEV] using this
  have hx : ∀ (j : Nat) (k : Option IntKind), KEV[j]? = some k → OkV k ((fun j => cs[j]?.getD undef) j) := fun j k e => by
    obtain ⟨v, h1, h2⟩ := hF.2 j k e
    have h3 : cs[j]? = some v := by simpa [Value.cells] using h1
    show OkV k (cs[j]?.getD undef)
    rw [h3]; exact h2
  obtain ⟨h1, h2⟩ := evOf_ok hx
  refine ⟨_, congrArg Value.agg ?_, h2⟩
  apply Array.ext_getElem?
  intro j
  by_cases hj : j < 14
  · rw [Fx.varr_get _ hj, ← h1 j hj]
    show cs[j]? = some (cs[j]?.getD undef)
    rw [Array.getElem?_eq_getElem (by omega)]; rfl
  · rw [Array.getElem?_eq_none (by omega), Array.getElem?_eq_none (by rw [Fx.varr_size]; omega)]
set_option maxRecDepth 100000 in
theorem open_ev {H : Type} {enc : TypeId × Value → H} {w W : World} {r : Reach} {base : Nat} {v : Value} {d : DataW H} {ps : List MemPlace} (hv : Value.okWide Try.prog W r base 50 v) (h : DataW.Trod enc Try.prog w 0 (fun _ => true) true 50 v d ps) : ∃ V : EvM, v = .agg (Fx.varr 14 (evY V)) ∧ EvWf V :=
  open_evP (D := 8) Try.underlying50 (by kernel_rfl) hv h
end Go.Proofs.Ytleajegppehbdaa
