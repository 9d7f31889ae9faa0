/-
  What the proof of the law rests on, part 5: walks of functions, and plain laws; each says its conditions itself.
-/
import Derived.Deep.Slices
import Derived.Lib.SmallJoins
import Derived.ChangeArms
import Derived.Test.YtolmkjepieoloaaZE4
namespace Go.Proofs.Ytolmkjepieoloaa
open Go.RowKit Rt
open Fx (x_move x_assign x_field x_load1 x_pickF x_pickT x_nil x_conv x_indexS x_index x_leqF x_loadA x_len x_gtrF x_build x_eqlF x_eqlT)
namespace Rt
structure ActM where
  who : Nat
  meet : Bool
  other : Nat
  kind : Nat
  node : Nat
  dst : Nat
  amt : Nat
  req : Nat
  of : Nat
structure ActOk (x : ActM) : Prop where
  who : x.who ≤ 255
  other : x.other ≤ 255
  kind : x.kind ≤ 255
  node : x.node ≤ 255
  dst : x.dst ≤ 255
  amt : x.amt ≤ 65535
  req : x.req ≤ 255
  of : x.of ≤ 255
def actY (x : ActM) : Nat → Value := fun p => if p = 0 then .int .u8 (x.who : Int) else if p = 1 then .bool x.meet else if p = 2 then .int .u8 (x.other : Int) else if p = 3 then .int .u8 (x.kind : Int) else if p = 4 then .int .u8 (x.node : Int) else if p = 5 then .int .u8 (x.dst : Int) else if p = 6 then .int .u16 (x.amt : Int) else if p = 7 then .int .u8 (x.req : Int) else .int .u8 (x.of : Int)
theorem remL {k n r : Nat} (e : r = k % n) : Int.tmod (k : Int) (n : Int) = (r : Int) := by
  rw [Int.tmod_eq_emod_of_nonneg (by omega), e]
  exact (Int.natCast_emod k n).symm
theorem ev_node (V : EvM) (x : Int) : ∀ j, j < 14 → Fx.updV (evY V) 9 (.int .u64 x) j = evY { V with node := x } j := fun j hj => by
  rcases j with _|_|_|_|_|_|_|_|_|_|_|_|_|_|j <;> first | rfl | omega
theorem ev_dst (V : EvM) (x : Int) : ∀ j, j < 14 → Fx.updV (evY V) 10 (.int .i64 x) j = evY ⟨V.o, V.seq, V.deps, V.kind, V.node, x, V.amt, V.req, V.of⟩ j := fun j hj => by
  rcases j with _|_|_|_|_|_|_|_|_|_|_|_|_|_|j <;> first | rfl | omega
theorem ev_amt (V : EvM) (x : Int) : ∀ j, j < 14 → Fx.updV (evY V) 11 (.int .i64 x) j = evY { V with amt := x } j := fun j hj => by
  rcases j with _|_|_|_|_|_|_|_|_|_|_|_|_|_|j <;> first | rfl | omega
theorem ev_req (V : EvM) (x : Int) : ∀ j, j < 14 → Fx.updV (evY V) 12 (.int .u64 x) j = evY { V with req := x } j := fun j hj => by
  rcases j with _|_|_|_|_|_|_|_|_|_|_|_|_|_|j <;> first | rfl | omega
theorem ev_of (V : EvM) (x : Int) : ∀ j, j < 14 → Fx.updV (evY V) 13 (.int .u64 x) j = evY { V with of := x } j := fun j hj => by
  rcases j with _|_|_|_|_|_|_|_|_|_|_|_|_|_|j <;> first | rfl | omega
end Rt
set_option maxRecDepth 20000 in
set_option maxHeartbeats 2000000 in
theorem l_event (M : WM) (B p T : Nat) (x : ActM) (w : World) (hW : WldO w B p M T) (hx : ActOk x) :
    Calls Try.prog 70 #[.pointer (some ⟨p, 0, none⟩), .agg (Fx.varr 9 (actY x))] w fun e w' => ∃ V, EvWf V ∧ EvSm V ∧ e = .returned (.agg (Fx.varr 14 (evY V))) ∧ Below w.heap.size w w' := by
 have hWc := hW.c
 have hWl := hW.l
 have hWa := hW.a
 have hWg := hW.g
 have hn1 := hW.n1
 have hn6 := hW.n6
 have hpB := hW.pB
 have lpp : p < w.heap.size := hWc.lt
 have hxw := hx.who
 have hxo := hx.other
 have hxk := hx.kind
 have hxn := hx.node
 have hxt := hx.dst
 have hxa := hx.amt
 have hxr := hx.req
 have hxf := hx.of
 refine Fx.enter Try.func70 rfl (n := 143) rfl (by rfl) ?_
 refine Fx.W.seq (Fx.W.list (Fx.L.box (m := 9) (y := actY x) (by rfl) rfl rfl (Fx.cells_agg _ _) rfl fun g1 w1 eg1 m1 s1 z1 => ?_))
 have m2 := hWc.stp s1 (Nat.ne_of_lt (hWc.lt))
 have m3 := hWl.stp s1 (hWl.notNew (Nat.le_refl _))
 have m4 := hWa.stp s1 (hWa.notNew (Nat.le_refl _))
 have m5 := hWg.up s1.old
 have b1 := s1.below (Below.refl w.heap.size w) (Below.refl w.heap.size w).size (Below.refl w.heap.size w).size
 have lg1 : w.heap.size ≤ g1 := by rw [eg1]; exact (Below.refl w.heap.size w).size
 have ng1m2 : p ≠ g1 := by rw [eg1]; exact Nat.ne_of_lt (hWc.lt)
 have tg1 : g1 < w1.heap.size := m1.lt
 clear eg1
 refine Fx.L.new (m := 14) (y := fun zq => if zq < 1 then .int .i64 (0) else if zq < 8 then .int .u64 (0) else if zq < 9 then .int .u8 (0) else if zq < 10 then .int .u64 (0) else if zq < 12 then .int .i64 (0) else .int .u64 (0)) (by rfl) rfl (by kernel_rfl) rfl fun g2 w2 eg2 m6 s2 z2 => ?_
 have m7 := m2.stp s2 (Nat.ne_of_lt (m2.lt))
 have m8 := m3.stp s2 (m3.notNew (Nat.le_refl _))
 have m9 := m4.stp s2 (m4.notNew (Nat.le_refl _))
 have m10 := m5.up s2.old
 have m11 := m1.stp s2 (Nat.ne_of_lt (m1.lt))
 have b2 := s2.below b1 b1.size b1.size
 have lg2 : w.heap.size ≤ g2 := by rw [eg2]; exact b1.size
 have ng2m7 : p ≠ g2 := by rw [eg2]; exact Nat.ne_of_lt (m2.lt)
 have ng2m9 : (.slice M.aa (M.an) (M.ac) : Value).ownBlock ≠ some g2 := by rw [eg2]; exact m4.notNew (Nat.le_refl _)
 have ng2m11 : g1 ≠ g2 := by rw [eg2]; exact Nat.ne_of_lt (m1.lt)
 have tg2 : g2 < w2.heap.size := m6.lt
 clear eg2
 refine Fx.L.nil (Fx.seqN (Fx.W.seq ?_))
 obtain ⟨o, eo⟩ : ∃ r, r = x.who % M.n := ⟨_, rfl⟩
 have ho : o < M.n := by rw [eo]; exact Nat.mod_lt _ (by omega)
 -- region 1 draws
 refine Fx.W.quiet (fun v1 => ∃ q, v1 = World.drewN w2 q) (by kernel_rfl) (by kernel_rfl) ⟨1, rfl⟩ ?_
 refine Fx.Qt.v (.pointer (some ⟨g1, 0, none⟩)) (fun v1 hv1 => x_field rfl rfl Try.underlying58 rfl (s := 1) (by kernel_rfl) rfl rfl) (Fx.Qt.v (.int .u8 ((x.who : Int))) (fun v1 hv1 => x_load1 (x := actY x) rfl rfl (by kernel_rfl) (by obtain ⟨qd, rfl⟩ := hv1; exact m11.cel) (i := 0) (by omega) (by omega) rfl) (Fx.Qt.v (.int .i64 ((x.who : Int))) (fun v1 hv1 => x_conv rfl rfl (by kernel_rfl) Try.underlying3 (Fx.i64e (by omega) rfl)) (Fx.Qt.v (.pointer (some ⟨p, 0, none⟩)) (fun v1 hv1 => x_move rfl rfl) (Fx.Qt.v (.pointer (some ⟨p, 0, none⟩)) (fun v1 hv1 => x_nil rfl rfl) (Fx.Qt.v (.pointer (some ⟨p, 0, none⟩)) (fun v1 hv1 => x_field rfl rfl Try.underlying63 rfl (s := 1) (by kernel_rfl) rfl rfl) (Fx.Qt.v (.slice M.la (M.n) (M.lc)) (fun v1 hv1 => x_load1 (x := wdY (.slice M.la (M.n) (M.lc)) (.slice M.aa (M.an) (M.ac))) rfl rfl (by kernel_rfl) (by obtain ⟨qd, rfl⟩ := hv1; exact m7.cel) (i := 0) (by omega) (by omega) rfl) (Fx.Qt.v (.int .i64 ((M.n : Int))) (fun v1 hv1 => x_len rfl rfl rfl (by kernel_rfl)) (Fx.Qt.v (.int .i64 ((o : Int))) (fun v1 hv1 => Fx.x_rem rfl rfl rfl (by omega) (remL eo)) (Fx.Qt.v (.int .i64 ((o : Int))) (fun v1 hv1 => x_assign rfl rfl) (Fx.Qt.nil ?_))))))))))
 rintro _ ⟨qd, rfl⟩
 obtain ⟨wq1, ewq1⟩ : ∃ v1, v1 = World.drewN w2 qd := ⟨_, rfl⟩
 rw [← ewq1]
 have s3 : Fx.Stp w2.heap.size w2 wq1 := by rw [ewq1]; exact Fx.Stp.of_below (bdrN w2 qd)
 have m12 := m7.stp s3 (Nat.ne_of_lt (m7.lt))
 have m13 := m8.stp s3 (m8.notNew (Nat.le_refl _))
 have m14 := m9.stp s3 (m9.notNew (Nat.le_refl _))
 have m15 := m10.up s3.old
 have m16 := m11.stp s3 (Nat.ne_of_lt (m11.lt))
 have m17 := m6.stp s3 (Nat.ne_of_lt (m6.lt))
 have b3 := s3.below b2 b2.size b2.size
 clear ewq1
 refine Fx.seqN (Fx.W.seq (Fx.W.list (Fx.L.v (.pointer (some ⟨p, 0, none⟩)) (x_move rfl rfl) (Fx.L.v (.pointer (some ⟨p, 0, none⟩)) (x_nil rfl rfl) (Fx.L.v (.pointer (some ⟨p, 0, none⟩)) (x_field rfl rfl Try.underlying63 rfl (s := 1) (by kernel_rfl) rfl rfl) (Fx.L.v (.slice M.la (M.n) (M.lc)) (x_load1 (x := wdY (.slice M.la (M.n) (M.lc)) (.slice M.aa (M.an) (M.ac))) rfl rfl (by kernel_rfl) m12.cel (i := 0) (by omega) (by omega) rfl) (Fx.L.v (.int .i64 ((o : Int))) (x_move rfl rfl) ?_)))))))
 obtain ⟨gq1, eq1⟩ := m13.addr (by omega)
 have m18 : Fx.Own wq1 B 59 1 (.slice (some ⟨gq1, 0, none⟩) M.n M.lc) M.n (ptX M.pl) := m13.congV (congrArg (fun q => Value.slice q M.n M.lc) eq1)
 refine Fx.L.v (.pointer (some ⟨gq1, o, none⟩)) (x_indexS rfl (rfl.trans (congrArg (fun q => Value.slice q (M.n) (M.lc)) eq1)) rfl Try.underlying60 (s := 1) (by kernel_rfl) (by omega) (by omega) (by omega)) (Fx.L.v (.pointer (some ⟨(M.pl o), 0, none⟩)) (x_load1 (x := ptX M.pl) rfl rfl (by kernel_rfl) m18.cel (i := o) (by omega) (by omega) rfl) (Fx.L.v (.pointer (some ⟨(M.pl o), 0, none⟩)) (x_assign rfl rfl) (Fx.L.nil (Fx.seqN (Fx.W.seq ?_)))))
 obtain ⟨r42, er42⟩ : ∃ r, r = x.kind % 7 := ⟨_, rfl⟩
 have hr42 : r42 < 7 := by rw [er42]; exact Nat.mod_lt _ (by omega)
 have hLo1 := m15 o (by omega)
 have hLo1c := hLo1.c
 have hLo1n := hLo1.n
 have hkn := (hW.inv o (by omega)).kn
 have hko := hkn o (by omega)
 have hko : 0 ≤ (M.ml o).s.known o ∧ (M.ml o).s.known o < 1099511627776 := hko
 have hU : ∀ k, k < (M.ml o).s.nn → U64r ((M.ml o).id k) := fun k hk => by have h1 := (hW.inv o (by omega)).pos k hk; have h2 := (hW.inv o (by omega)).top k hk; exact ⟨by show (0 : Int) ≤ (M.ml o).core.id k; omega, by show (M.ml o).core.id k ≤ _; omega⟩
 have hbn := (hW.g o (by omega)).bn
 -- region 3 draws
 refine Fx.W.one (T := 54) (T' := 54) (a := .tmp 7) (v := .tmp 44) (m := 14) (z := fun zq => if zq < 1 then .int .i64 (0) else if zq < 8 then .int .u64 (0) else if zq < 9 then .int .u8 (0) else if zq < 10 then .int .u64 (0) else if zq < 12 then .int .i64 (0) else .int .u64 (0)) (y := Fx.ovr (Fx.ovr (Fx.ovr (Fx.ovr (fun zq => if zq < 1 then .int .i64 (0) else if zq < 8 then .int .u64 (0) else if zq < 9 then .int .u8 (0) else if zq < 10 then .int .u64 (0) else if zq < 12 then .int .i64 (0) else .int .u64 (0)) 0 1 (fun _ => .int .i64 ((o : Int) + 1))) 1 1 (fun _ => .int .u64 ((M.ml o).s.known o + 1))) 2 6 (Fx.rv .u64 ((M.ml o).s.known))) 8 1 (fun _ => .int .u8 ((r42 : Int) + 1))) (u := .agg (Fx.varr 14 (Fx.ovr (Fx.ovr (Fx.ovr (Fx.ovr (fun zq => if zq < 1 then .int .i64 (0) else if zq < 8 then .int .u64 (0) else if zq < 9 then .int .u8 (0) else if zq < 10 then .int .u64 (0) else if zq < 12 then .int .i64 (0) else .int .u64 (0)) 0 1 (fun _ => .int .i64 ((o : Int) + 1))) 1 1 (fun _ => .int .u64 ((M.ml o).s.known o + 1))) 2 6 (Fx.rv .u64 ((M.ml o).s.known))) 8 1 (fun _ => .int .u8 ((r42 : Int) + 1))))) 20 21 (List.replicate 22 (0, 2, [], [])) #[.int .i64 ((o : Int)), .int .i64 ((o : Int) + 1), .pointer (some ⟨(M.pl o), 0, none⟩), .int .i64 ((o : Int)), .pointer (some ⟨(M.pl o), 0, none⟩), .pointer (some ⟨(M.pl o), 0, none⟩), .pointer (some ⟨(M.pl o), 12, none⟩), .pointer (some ⟨(M.pl o), o + 12, none⟩), .int .u64 ((M.ml o).s.known o), .int .u64 ((M.ml o).s.known o + 1), .pointer (some ⟨(M.pl o), 0, none⟩), .pointer (some ⟨(M.pl o), 0, none⟩), .pointer (some ⟨(M.pl o), 0, none⟩), .pointer (some ⟨(M.pl o), 12, none⟩), .agg (Fx.varr 6 (Fx.rv .u64 ((M.ml o).s.known))), .pointer (some ⟨g1, 3, none⟩), .int .u8 ((x.kind : Int)), .int .u8 ((r42 : Int)), .int .u8 ((r42 : Int) + 1), .agg (Fx.varr 14 (Fx.ovr (Fx.ovr (Fx.ovr (Fx.ovr (fun zq => if zq < 1 then .int .i64 (0) else if zq < 8 then .int .u64 (0) else if zq < 9 then .int .u8 (0) else if zq < 10 then .int .u64 (0) else if zq < 12 then .int .i64 (0) else .int .u64 (0)) 0 1 (fun _ => .int .i64 ((o : Int) + 1))) 1 1 (fun _ => .int .u64 ((M.ml o).s.known o + 1))) 2 6 (Fx.rv .u64 ((M.ml o).s.known))) 8 1 (fun _ => .int .u8 ((r42 : Int) + 1)))), undef, undef] (by kernel_rfl) (by kernel_rfl) (by kernel_rfl) (by kernel_rfl) (by kernel_rfl) (by kernel_rfl) rfl (by kernel_rfl) rfl rfl (by kernel_rfl) (fun g3 => (show Fx.ev _ (.tmp 7) = .pointer (some ⟨g3, 0, none⟩) from by kernel_rfl)) (fun g3 => (show Fx.ev _ (.tmp 44) = .agg (Fx.varr 14 (Fx.ovr (Fx.ovr (Fx.ovr (Fx.ovr (fun zq => if zq < 1 then .int .i64 (0) else if zq < 8 then .int .u64 (0) else if zq < 9 then .int .u8 (0) else if zq < 10 then .int .u64 (0) else if zq < 12 then .int .i64 (0) else .int .u64 (0)) 0 1 (fun _ => .int .i64 ((o : Int) + 1))) 1 1 (fun _ => .int .u64 ((M.ml o).s.known o + 1))) 2 6 (Fx.rv .u64 ((M.ml o).s.known))) 8 1 (fun _ => .int .u8 ((r42 : Int) + 1)))) from by kernel_rfl)) (Fx.cells_agg _ _) (Fx.ovr_ones (Fx.ovr_ones (Fx.ovr_ones (Fx.ovr_ones (fun jq _ => by show ((fun zq => if zq < 1 then .int .i64 (0) else if zq < 8 then .int .u64 (0) else if zq < 9 then .int .u8 (0) else if zq < 10 then .int .u64 (0) else if zq < 12 then .int .i64 (0) else .int .u64 (0) : Nat → Value) jq).oneCell' = true; simp only []; repeat (first | rfl | split)) (fun _ _ => rfl)) (fun _ _ => rfl)) (fun _ _ => rfl)) (fun _ _ => rfl)) (by kernel_rfl) (fun g3 => ?_) ?_
 ·refine ⟨?_, ?_, ?_, ?_, ?_, ?_, ?_, ?_, ?_, ?_, ?_, ?_, ?_, ?_, ?_, ?_, ?_, ?_, ?_, ?_, ?_, ?_, trivial⟩
  ·exact .inr (.inr (Fx.qb_yes (v := .int .i64 ((o : Int))) (by kernel_rfl) (by kernel_rfl) (Fx.qbV fun v1 hv1 => x_move rfl (show Fx.ev _ (.tmp 5) = .int .i64 ((o : Int)) from by kernel_rfl))))
  ·exact .inr (.inr (Fx.qb_yes (v := .int .i64 ((o : Int) + 1)) (by kernel_rfl) (by kernel_rfl) (Fx.qbV fun v1 hv1 => Fx.x_add rfl (show Fx.ev _ (.tmp 25) = .int .i64 ((o : Int)) from by kernel_rfl) (show Fx.ev _ (.const (.int .i64 (1))) = .int .i64 (1) from by kernel_rfl) (Fx.i64e (by omega) (by omega)))))
  ·exact .inr (.inr (Fx.qb_yes (v := .pointer (some ⟨(M.pl o), 0, none⟩)) (by kernel_rfl) (by kernel_rfl) (Fx.qbV fun v1 hv1 => x_move rfl (show Fx.ev _ (.tmp 6) = .pointer (some ⟨(M.pl o), 0, none⟩) from by kernel_rfl))))
  ·exact .inr (.inr (Fx.qb_yes (v := .int .i64 ((o : Int))) (by kernel_rfl) (by kernel_rfl) (Fx.qbV fun v1 hv1 => x_move rfl (show Fx.ev _ (.tmp 5) = .int .i64 ((o : Int)) from by kernel_rfl))))
  ·exact .inr (.inr (Fx.qb_yes (v := .pointer (some ⟨(M.pl o), 0, none⟩)) (by kernel_rfl) (by kernel_rfl) (Fx.qbV fun v1 hv1 => x_nil rfl (show Fx.ev _ (.tmp 27) = .pointer (some ⟨(M.pl o), 0, none⟩) from by kernel_rfl))))
  ·exact .inr (.inr (Fx.qb_yes (v := .pointer (some ⟨(M.pl o), 0, none⟩)) (by kernel_rfl) (by kernel_rfl) (Fx.qbV fun v1 hv1 => x_field rfl (show Fx.ev _ (.tmp 29) = .pointer (some ⟨(M.pl o), 0, none⟩) from by kernel_rfl) Try.underlying71 rfl (s := 20) (by kernel_rfl) rfl rfl)))
  ·exact .inr (.inr (Fx.qb_yes (v := .pointer (some ⟨(M.pl o), 12, none⟩)) (by kernel_rfl) (by kernel_rfl) (Fx.qbV fun v1 hv1 => x_field rfl (show Fx.ev _ (.tmp 30) = .pointer (some ⟨(M.pl o), 0, none⟩) from by kernel_rfl) Try.underlying43 rfl (s := 6) (by kernel_rfl) rfl (by show _ + 12 = _; omega))))
  ·exact .inr (.inr (Fx.qb_yes (v := .pointer (some ⟨(M.pl o), o + 12, none⟩)) (by kernel_rfl) (by kernel_rfl) (Fx.qbV fun v1 hv1 => x_index rfl (show Fx.ev _ (.tmp 31) = .pointer (some ⟨(M.pl o), 12, none⟩) from by kernel_rfl) (show Fx.ev _ (.tmp 28) = .int .i64 ((o : Int)) from by kernel_rfl) Try.underlying29 (s := 1) (by kernel_rfl) (by omega) (by omega) (by omega))))
  ·exact .inr (.inr (Fx.qb_yes (v := .int .u64 ((M.ml o).s.known o)) (by kernel_rfl) (by kernel_rfl) (Fx.qbV fun v1 hv1 => x_load1 (x := ldY (M.ml o)) rfl (show Fx.ev _ (.tmp 32) = .pointer (some ⟨(M.pl o), o + 12, none⟩) from by kernel_rfl) (by kernel_rfl) (hLo1c.cel.below hv1 (by have := hLo1c.lt; omega)) (i := o + 12) (by omega) (by omega) (ldY_st _ (by omega) (stY_known _ (by omega) (by omega))))))
  ·exact .inr (.inr (Fx.qb_yes (v := .int .u64 ((M.ml o).s.known o + 1)) (by kernel_rfl) (by kernel_rfl) (Fx.qbV fun v1 hv1 => Fx.x_add rfl (show Fx.ev _ (.tmp 33) = .int .u64 ((M.ml o).s.known o) from by kernel_rfl) (show Fx.ev _ (.const (.int .u64 (1))) = .int .u64 (1) from by kernel_rfl) (Fx.u64e (by omega) (by omega)))))
  ·exact .inr (.inr (Fx.qb_yes (v := .pointer (some ⟨(M.pl o), 0, none⟩)) (by kernel_rfl) (by kernel_rfl) (Fx.qbV fun v1 hv1 => x_move rfl (show Fx.ev _ (.tmp 6) = .pointer (some ⟨(M.pl o), 0, none⟩) from by kernel_rfl))))
  ·exact .inr (.inr (Fx.qb_yes (v := .pointer (some ⟨(M.pl o), 0, none⟩)) (by kernel_rfl) (by kernel_rfl) (Fx.qbV fun v1 hv1 => x_nil rfl (show Fx.ev _ (.tmp 35) = .pointer (some ⟨(M.pl o), 0, none⟩) from by kernel_rfl))))
  ·exact .inr (.inr (Fx.qb_yes (v := .pointer (some ⟨(M.pl o), 0, none⟩)) (by kernel_rfl) (by kernel_rfl) (Fx.qbV fun v1 hv1 => x_field rfl (show Fx.ev _ (.tmp 36) = .pointer (some ⟨(M.pl o), 0, none⟩) from by kernel_rfl) Try.underlying71 rfl (s := 20) (by kernel_rfl) rfl rfl)))
  ·exact .inr (.inr (Fx.qb_yes (v := .pointer (some ⟨(M.pl o), 12, none⟩)) (by kernel_rfl) (by kernel_rfl) (Fx.qbV fun v1 hv1 => x_field rfl (show Fx.ev _ (.tmp 37) = .pointer (some ⟨(M.pl o), 0, none⟩) from by kernel_rfl) Try.underlying43 rfl (s := 6) (by kernel_rfl) rfl (by show _ + 12 = _; omega))))
  ·exact .inr (.inr (Fx.qb_yes (v := .agg (Fx.varr 6 (Fx.rv .u64 ((M.ml o).s.known)))) (by kernel_rfl) (by kernel_rfl) (Fx.qbV fun v1 hv1 => x_loadA (x := ldY (M.ml o)) (y := Fx.rv .u64 ((M.ml o).s.known)) rfl (show Fx.ev _ (.tmp 38) = .pointer (some ⟨(M.pl o), 12, none⟩) from by kernel_rfl) (by kernel_rfl) (by kernel_rfl) (hLo1c.cel.below hv1 (by have := hLo1c.lt; omega)) (i := 12) (by omega) (by omega) (fun j hj => ldY_st _ (by omega) (stY_known _ hj (by omega))))))
  ·exact .inr (.inr (Fx.qb_yes (v := .pointer (some ⟨g1, 3, none⟩)) (by kernel_rfl) (by kernel_rfl) (Fx.qbV fun v1 hv1 => x_field rfl (show Fx.ev _ (.tmp 3) = .pointer (some ⟨g1, 0, none⟩) from by kernel_rfl) Try.underlying58 rfl (s := 1) (by kernel_rfl) rfl (by show _ + 3 = _; omega))))
  ·exact .inr (.inr (Fx.qb_yes (v := .int .u8 ((x.kind : Int))) (by kernel_rfl) (by kernel_rfl) (Fx.qbV fun v1 hv1 => x_load1 (x := actY x) rfl (show Fx.ev _ (.tmp 40) = .pointer (some ⟨g1, 3, none⟩) from by kernel_rfl) (by kernel_rfl) (m16.cel.below hv1 (by have := m16.lt; omega)) (i := 3) (by omega) (by omega) rfl)))
  ·exact .inr (.inr (Fx.qb_yes (v := .int .u8 ((r42 : Int))) (by kernel_rfl) (by kernel_rfl) (Fx.qbV fun v1 hv1 => Fx.x_rem rfl (show Fx.ev _ (.tmp 41) = .int .u8 ((x.kind : Int)) from by kernel_rfl) (show Fx.ev _ (.const (.int .u8 (7))) = .int .u8 (7) from by kernel_rfl) (by omega) (remL er42))))
  ·exact .inr (.inr (Fx.qb_yes (v := .int .u8 ((r42 : Int) + 1)) (by kernel_rfl) (by kernel_rfl) (Fx.qbV fun v1 hv1 => Fx.x_add rfl (show Fx.ev _ (.const (.int .u8 (1))) = .int .u8 (1) from by kernel_rfl) (show Fx.ev _ (.tmp 42) = .int .u8 ((r42 : Int)) from by kernel_rfl) (Fx.u8e (by omega) (by omega)))))
  ·exact .inr (.inr (Fx.qb_yes (v := .agg (Fx.varr 14 (Fx.ovr (Fx.ovr (Fx.ovr (Fx.ovr (fun zq => if zq < 1 then .int .i64 (0) else if zq < 8 then .int .u64 (0) else if zq < 9 then .int .u8 (0) else if zq < 10 then .int .u64 (0) else if zq < 12 then .int .i64 (0) else .int .u64 (0)) 0 1 (fun _ => .int .i64 ((o : Int) + 1))) 1 1 (fun _ => .int .u64 ((M.ml o).s.known o + 1))) 2 6 (Fx.rv .u64 ((M.ml o).s.known))) 8 1 (fun _ => .int .u8 ((r42 : Int) + 1))))) (by kernel_rfl) (by kernel_rfl) (Fx.qbV fun v1 hv1 => x_build (vs := [(0, .int .i64 ((o : Int) + 1)), (1, .int .u64 ((M.ml o).s.known o + 1)), (2, .agg (Fx.varr 6 (Fx.rv .u64 ((M.ml o).s.known)))), (3, .int .u8 ((r42 : Int) + 1))]) (places := #[(0, 1), (1, 1), (2, 6), (8, 1), (9, 1), (10, 1), (11, 1), (12, 1), (13, 1)]) (m := 14) (x := fun zq => if zq < 1 then .int .i64 (0) else if zq < 8 then .int .u64 (0) else if zq < 9 then .int .u8 (0) else if zq < 10 then .int .u64 (0) else if zq < 12 then .int .i64 (0) else .int .u64 (0)) rfl (Fx.parts4 (show Fx.ev _ (.tmp 26) = .int .i64 ((o : Int) + 1) from by kernel_rfl) (show Fx.ev _ (.tmp 34) = .int .u64 ((M.ml o).s.known o + 1) from by kernel_rfl) (show Fx.ev _ (.tmp 39) = .agg (Fx.varr 6 (Fx.rv .u64 ((M.ml o).s.known))) from by kernel_rfl) (show Fx.ev _ (.tmp 43) = .int .u8 ((r42 : Int) + 1) from by kernel_rfl)) Try.underlying54 (by kernel_rfl) (by kernel_rfl) (by rw [Fx.fill_step (off := 0) (s := 1) (y := fun _ => .int .i64 ((o : Int) + 1)) (by kernel_rfl) (Fx.cells_one (by rfl)) (by rfl)]; rw [Fx.fill_step (off := 1) (s := 1) (y := fun _ => .int .u64 ((M.ml o).s.known o + 1)) (by kernel_rfl) (Fx.cells_one (by rfl)) (by rfl)]; rw [Fx.fill_step (off := 2) (s := 6) (y := Fx.rv .u64 ((M.ml o).s.known)) (by kernel_rfl) (Fx.cells_agg _ _) (by rfl)]; rw [Fx.fill_step (off := 8) (s := 1) (y := fun _ => .int .u8 ((r42 : Int) + 1)) (by kernel_rfl) (Fx.cells_one (by rfl)) (by rfl)]; rfl))))
  ·exact .inl rfl
  ·exact .inr (.inl rfl)
 ·rintro g3 w3 f1 hf1 lg3 m19 hb1
  have s4 := Fx.Stp.of_below hb1
  have ng3m12 : p ≠ g3 := Nat.ne_of_lt (Nat.lt_of_lt_of_le (m12.lt) lg3)
  have ng3m16 : g1 ≠ g3 := Nat.ne_of_lt (Nat.lt_of_lt_of_le (m16.lt) lg3)
  have ng3m17 : g2 ≠ g3 := Nat.ne_of_lt (Nat.lt_of_lt_of_le (m17.lt) lg3)
  have ng3m18 : gq1 ≠ g3 := Nat.ne_of_lt (Nat.lt_of_lt_of_le (m18.lt) lg3)
  have ng3hLo1c : (M.pl o) ≠ g3 := Nat.ne_of_lt (Nat.lt_of_lt_of_le (hLo1c.lt) lg3)
  have ng3m14 : (.slice M.aa (M.an) (M.ac) : Value).ownBlock ≠ some g3 := fun e => by have := (m14.ge e).2; omega
  have m22 := m15.up s4.old
  have m23 := m16.stp s4 (Nat.ne_of_lt (m16.lt))
  have m24 := m17.stp s4 (Nat.ne_of_lt (m17.lt))
  have m25 := m18.stpB s4 (Nat.ne_of_lt (m18.lt))
  have m27 := hLo1n.stp s4 (hLo1n.notNew (Nat.le_refl _))
  have b4 := s4.below b3 b3.size b3.size
  have lg3 : w.heap.size ≤ g3 := Nat.le_trans b3.size lg3
  have tg3 : g3 < w3.heap.size := m19.lt
  have q1 : f1 3 = .pointer (some ⟨g1, 0, none⟩) := by rw [hf1]; kernel_rfl
  have q2 : f1 4 = .pointer (some ⟨g2, 0, none⟩) := by rw [hf1]; kernel_rfl
  have q3 : f1 6 = .pointer (some ⟨(M.pl o), 0, none⟩) := by rw [hf1]; kernel_rfl
  have q4 : f1 7 = .pointer (some ⟨g3, 0, none⟩) := by rw [hf1]; kernel_rfl
  clear hf1
  refine Fx.seqN (Fx.W.seq ?_)
  obtain ⟨V0, eV0⟩ : ∃ V : EvM, V = (⟨(o : Int) + 1, (M.ml o).s.known o + 1, (M.ml o).s.known, (r42 : Int) + 1, 0, 0, 0, 0, 0⟩ : EvM) := ⟨_, rfl⟩
  have hz1 : U64r 0 := ⟨by decide, by decide⟩
  have hz2 : I64r 0 := ⟨by decide, by decide⟩
  have wf0 : EvWf V0 := by rw [eV0]; exact ⟨⟨by show (_ : Int) ≤ (o : Int) + 1; omega, by show (o : Int) + 1 ≤ _; omega⟩, ⟨by show (0 : Int) ≤ (M.ml o).s.known o + 1; omega, by show (M.ml o).s.known o + 1 ≤ _; omega⟩, fun i hi => ⟨(hkn i hi).1, by have q : (M.ml o).s.known i < 1099511627776 := (hkn i hi).2; show (M.ml o).s.known i ≤ _; omega⟩, ⟨by show (0 : Int) ≤ (r42 : Int) + 1; omega, by show (r42 : Int) + 1 ≤ 255; omega⟩, hz1, hz2, hz2, hz1, hz1⟩
  have m28 : Fx.Blk w3 g3 14 (evY V0) 54 := m19.congr (fun j hj => by rw [eV0]; rcases j with _|_|_|_|_|_|_|_|_|_|_|_|_|_|j <;> first | rfl | omega | exact congrArg (Value.int .u8) (by omega))
  have sm0 : EvSm V0 := by rw [eV0]; exact ⟨by show (0 : Int) ≤ _; decide, by show (0 : Int) ≤ _; decide⟩
  have ek0 : V0.kind = (r42 : Int) + 1 := by rw [eV0]
  refine Fx.W.list (Fx.L.v (.int .u64 (0)) (x_assign rfl rfl) (Fx.L.nil (Fx.seqN ?_)))
  have m29 : Fx.Own w3 B 59 1 (.slice M.la (M.n) (M.lc)) M.n (ptX M.pl) := m25.congV (congrArg (fun q => Value.slice q M.n M.lc) eq1.symm)
  refine Fx.W.seqJ (fun f w_ => ∃ nd : Int, U64r nd ∧ f 3 = .pointer (some ⟨g1, 0, none⟩) ∧ f 4 = .pointer (some ⟨g2, 0, none⟩) ∧ f 7 = .pointer (some ⟨g3, 0, none⟩) ∧ f 8 = .int .u64 (nd) ∧ Fx.Blk w_ g1 9 (actY x) 58 ∧ Fx.Blk w_ g2 14 (fun zq => if zq < 1 then .int .i64 (0) else if zq < 8 then .int .u64 (0) else if zq < 9 then .int .u8 (0) else if zq < 10 then .int .u64 (0) else if zq < 12 then .int .i64 (0) else .int .u64 (0)) 54 ∧ Fx.Blk w_ g3 14 (evY V0) 54 ∧ Below w.heap.size w w_) ?_ ?_
  ·refine Fx.W.seq ?_
   have hLo2 := m22 o (by omega)
   have hLo2c := hLo2.c
   have hLo2n := hLo2.n
   refine Fx.W.list (Fx.L.v (.pointer (some ⟨(M.pl o), 0, none⟩)) (x_move rfl q3) (Fx.L.v (.pointer (some ⟨(M.pl o), 0, none⟩)) (x_nil rfl rfl) (Fx.L.v (.pointer (some ⟨(M.pl o), 0, none⟩)) (x_field rfl rfl Try.underlying71 rfl (s := 20) (by kernel_rfl) rfl rfl) (Fx.L.v (.pointer (some ⟨(M.pl o), 18, none⟩)) (x_field rfl rfl Try.underlying43 rfl (s := 1) (by kernel_rfl) rfl (by show _ + 18 = _; omega)) (Fx.L.v (.slice (M.ml o).s.na ((M.ml o).s.nn) ((M.ml o).s.nc)) (x_load1 (x := ldY (M.ml o)) rfl rfl (by kernel_rfl) hLo2c.cel (i := 18) (by omega) (by omega) rfl) (Fx.L.v (.int .i64 ((((M.ml o).s.nn : Nat) : Int))) (x_len rfl rfl rfl (by kernel_rfl)) (Fx.L.v (.bool (decide (0 < (((M.ml o).s.nn : Nat) : Int)))) (Fx.x_gtr rfl rfl rfl) (Fx.L.nil (Fx.seqN (Fx.W.cond (b := decide (0 < (((M.ml o).s.nn : Nat) : Int))) rfl (fun c51 => ?_) (fun c51 => ?_)))))))))))
   ·have c51 := of_decide_eq_true c51
    obtain ⟨r66, er66⟩ : ∃ r, r = x.node % (M.ml o).s.nn := ⟨_, rfl⟩
    have hr66 : r66 < (M.ml o).s.nn := by rw [er66]; exact Nat.mod_lt _ (by omega)
    -- region 6 draws
    refine Fx.W.quiet (fun v1 => ∃ q, v1 = World.drewN w3 q) (by kernel_rfl) (by kernel_rfl) ⟨1, rfl⟩ ?_
    refine Fx.Qt.v (.pointer (some ⟨(M.pl o), 0, none⟩)) (fun v1 hv1 => x_move rfl q3) (Fx.Qt.v (.pointer (some ⟨(M.pl o), 0, none⟩)) (fun v1 hv1 => x_nil rfl rfl) (Fx.Qt.v (.pointer (some ⟨(M.pl o), 0, none⟩)) (fun v1 hv1 => x_field rfl rfl Try.underlying71 rfl (s := 20) (by kernel_rfl) rfl rfl) (Fx.Qt.v (.pointer (some ⟨(M.pl o), 18, none⟩)) (fun v1 hv1 => x_field rfl rfl Try.underlying43 rfl (s := 1) (by kernel_rfl) rfl (by show _ + 18 = _; omega)) (Fx.Qt.v (.slice (M.ml o).s.na ((M.ml o).s.nn) ((M.ml o).s.nc)) (fun v1 hv1 => x_load1 (x := ldY (M.ml o)) rfl rfl (by kernel_rfl) (by obtain ⟨qd, rfl⟩ := hv1; exact hLo2c.cel) (i := 18) (by omega) (by omega) rfl) (Fx.Qt.v (.pointer (some ⟨g1, 4, none⟩)) (fun v1 hv1 => x_field rfl q1 Try.underlying58 rfl (s := 1) (by kernel_rfl) rfl (by show _ + 4 = _; omega)) (Fx.Qt.v (.int .u8 ((x.node : Int))) (fun v1 hv1 => x_load1 (x := actY x) rfl rfl (by kernel_rfl) (by obtain ⟨qd, rfl⟩ := hv1; exact m23.cel) (i := 4) (by omega) (by omega) rfl) (Fx.Qt.v (.int .i64 ((x.node : Int))) (fun v1 hv1 => x_conv rfl rfl (by kernel_rfl) Try.underlying3 (Fx.i64e (by omega) rfl)) (Fx.Qt.v (.pointer (some ⟨(M.pl o), 0, none⟩)) (fun v1 hv1 => x_move rfl q3) (Fx.Qt.v (.pointer (some ⟨(M.pl o), 0, none⟩)) (fun v1 hv1 => x_nil rfl rfl) (Fx.Qt.v (.pointer (some ⟨(M.pl o), 0, none⟩)) (fun v1 hv1 => x_field rfl rfl Try.underlying71 rfl (s := 20) (by kernel_rfl) rfl rfl) (Fx.Qt.v (.pointer (some ⟨(M.pl o), 18, none⟩)) (fun v1 hv1 => x_field rfl rfl Try.underlying43 rfl (s := 1) (by kernel_rfl) rfl (by show _ + 18 = _; omega)) (Fx.Qt.v (.slice (M.ml o).s.na ((M.ml o).s.nn) ((M.ml o).s.nc)) (fun v1 hv1 => x_load1 (x := ldY (M.ml o)) rfl rfl (by kernel_rfl) (by obtain ⟨qd, rfl⟩ := hv1; exact hLo2c.cel) (i := 18) (by omega) (by omega) rfl) (Fx.Qt.v (.int .i64 ((((M.ml o).s.nn : Nat) : Int))) (fun v1 hv1 => x_len rfl rfl rfl (by kernel_rfl)) (Fx.Qt.v (.int .i64 ((r66 : Int))) (fun v1 hv1 => Fx.x_rem rfl rfl rfl (by omega) (remL er66)) ?_))))))))))))))
    obtain ⟨gq2, eq2⟩ := m27.addr (by omega)
    have m30 : Fx.Own w3 B 50 56 (.slice (some ⟨gq2, 0, none⟩) ((M.ml o).s.nn) ((M.ml o).s.nc)) ((M.ml o).s.nn) (ndX (M.ml o)) := m27.congV (congrArg (fun q => Value.slice q ((M.ml o).s.nn) ((M.ml o).s.nc)) eq2)
    refine Fx.Qt.v (.pointer (some ⟨gq2, 56 * r66, none⟩)) (fun v1 hv1 => x_indexS rfl (rfl.trans (congrArg (fun q => Value.slice q ((M.ml o).s.nn) ((M.ml o).s.nc)) eq2)) rfl Try.underlying40 (s := 56) (by kernel_rfl) (by omega) (by omega) (by omega)) (Fx.Qt.v (.pointer (some ⟨gq2, 56 * r66, none⟩)) (fun v1 hv1 => x_field rfl rfl Try.underlying50 rfl (s := 1) (by kernel_rfl) rfl rfl) (Fx.Qt.v (.int .u64 ((M.ml o).id r66)) (fun v1 hv1 => x_load1 (x := ndX (M.ml o)) rfl rfl (by kernel_rfl) (by obtain ⟨qd, rfl⟩ := hv1; exact m30.cel) (i := 56 * r66) (by omega) (by omega) (Fx.flat_cell (k := r66) (j := 0) (by omega) (by omega) rfl)) (Fx.Qt.v (.int .u64 ((M.ml o).id r66)) (fun v1 hv1 => x_assign rfl rfl) (Fx.Qt.nil ?_))))
    rintro _ ⟨qd, rfl⟩
    obtain ⟨wq2, ewq2⟩ : ∃ v1, v1 = World.drewN w3 qd := ⟨_, rfl⟩
    rw [← ewq2]
    have s5 : Fx.Stp w3.heap.size w3 wq2 := by rw [ewq2]; exact Fx.Stp.of_below (bdrN w3 qd)
    have m34 := m23.stp s5 (Nat.ne_of_lt (m23.lt))
    have m35 := m24.stp s5 (Nat.ne_of_lt (m24.lt))
    have m37 := m28.stp s5 (Nat.ne_of_lt (m28.lt))
    have m40 := m30.stpB s5 (Nat.ne_of_lt (m30.lt))
    have b5 := s5.below b4 b4.size b4.size
    clear ewq2
    have m41 : Fx.Own wq2 B 50 56 (.slice (M.ml o).s.na ((M.ml o).s.nn) ((M.ml o).s.nc)) ((M.ml o).s.nn) (ndX (M.ml o)) := m40.congV (congrArg (fun q => Value.slice q ((M.ml o).s.nn) ((M.ml o).s.nc)) eq2.symm)
    exact Fx.jnN ⟨((M.ml o).id r66), (hU r66 hr66), q1, q2, q4, (by first | rfl | exact congrArg (Value.int .u64) (by omega)), m34, m35, m37, b5⟩
   ·have c51 := of_decide_eq_false c51
    refine Fx.W.skip ?_
    exact Fx.jnN ⟨0, ⟨by decide, by decide⟩, q1, q2, q4, (by first | rfl | exact congrArg (Value.int .u64) (by omega)), m23, m24, m28, b4⟩
  ·rintro f2 w4 ⟨nd, hnode, h1, h2, h3, h4, m42, m43, m44, b6⟩
   refine Fx.W.seq (Fx.W.seq (Fx.W.list (Fx.L.v (.pointer (some ⟨g3, 8, none⟩)) (x_field rfl h3 Try.underlying54 rfl (s := 1) (by kernel_rfl) rfl (by show _ + 8 = _; omega)) (Fx.L.v (.int .u8 (V0.kind)) (x_load1 (x := evY V0) rfl rfl (by kernel_rfl) m44.cel (i := 8) (by omega) (by omega) rfl) (Fx.L.nil (Fx.seqN (Fx.W.block (Fx.W.seq (Fx.W.list ?_)))))))))
   by_cases c73 : V0.kind = 1
   ·refine Fx.L.v (.bool true) (x_eqlT rfl rfl rfl c73) (Fx.L.v (.bool true) (x_assign rfl rfl) (Fx.L.nil (Fx.seqN (Fx.W.cond (b := true) rfl (fun _ => Fx.W.seq (Fx.W.seq ?_)) (fun h => nomatch h)))))
    obtain ⟨r76, er76⟩ : ∃ r, r = x.node % 2 := ⟨_, rfl⟩
    have hr76 : r76 < 2 := by rw [er76]; exact Nat.mod_lt _ (by omega)
    refine Fx.W.list (Fx.L.v (.pointer (some ⟨g1, 4, none⟩)) (x_field rfl h1 Try.underlying58 rfl (s := 1) (by kernel_rfl) rfl (by show _ + 4 = _; omega)) (Fx.L.v (.int .u8 ((x.node : Int))) (x_load1 (x := actY x) rfl rfl (by kernel_rfl) m42.cel (i := 4) (by omega) (by omega) rfl) (Fx.L.v (.int .u8 ((r76 : Int))) (Fx.x_rem rfl rfl rfl (by omega) (remL er76)) ?_)))
    by_cases c77 : (r76 : Int) = 1
    ·refine Fx.L.v (.bool true) (x_eqlT rfl rfl rfl c77) (Fx.L.nil (Fx.seqN (Fx.W.cond (b := true) rfl (fun _ => Fx.W.list (Fx.L.v (.int .u64 (nd)) (x_move rfl h4) ?_)) (fun h => nomatch h))))
     refine Fx.L.v (.pointer (some ⟨g3, 9, none⟩)) (x_field rfl h3 Try.underlying54 rfl (s := 1) (by kernel_rfl) rfl (by show _ + 9 = _; omega)) (Fx.L.store1 (x := evY V0) (u := .int .u64 (nd)) (by rfl) rfl rfl rfl rfl (by rfl) (by kernel_rfl) m44 (i := 9) (by omega) fun w5 m45 s6 z3 => ?_)
     obtain ⟨V1, eV1⟩ : ∃ V : EvM, V = ⟨V0.o, V0.seq, V0.deps, V0.kind, nd, V0.dst, V0.amt, V0.req, V0.of⟩ := ⟨_, rfl⟩
     have wfV1 : EvWf V1 := by rw [eV1]; exact ⟨wf0.o, wf0.seq, wf0.deps, wf0.kind, hnode, wf0.dst, wf0.amt, wf0.req, wf0.of⟩
     have smV1 : EvSm V1 := by rw [eV1]; exact ⟨sm0.amt, sm0.req⟩
     have m46 : Fx.Blk w5 g3 14 (evY V1) 54 := m45.congr (fun j hj => by rw [eV1]; exact ev_node _ _ j hj)
     have hct1 := Fx.ChT.of_stp s6 m44.ty
     have m47 := m42.chT hct1 (by decide)
     have m48 := m43.stp s6 (by omega)
     have b7 := s6.below b6 b6.size (by omega)
     refine Fx.L.nil (Fx.seqN (Fx.W.list (Fx.L.v (.pointer (some ⟨g1, 6, none⟩)) (x_field rfl h1 Try.underlying58 rfl (s := 1) (by kernel_rfl) rfl (by show _ + 6 = _; omega)) (Fx.L.v (.int .u16 ((x.amt : Int))) (x_load1 (x := actY x) rfl rfl (by kernel_rfl) m47.cel (i := 6) (by omega) (by omega) rfl) (Fx.L.v (.int .i64 ((x.amt : Int))) (x_conv rfl rfl (by kernel_rfl) Try.underlying2 (Fx.i64e (by omega) rfl)) (Fx.L.v (.pointer (some ⟨g3, 11, none⟩)) (x_field rfl h3 Try.underlying54 rfl (s := 1) (by kernel_rfl) rfl (by show _ + 11 = _; omega)) (Fx.L.store1 (x := evY V1) (u := .int .i64 ((x.amt : Int))) (by rfl) rfl rfl rfl rfl (by rfl) (by kernel_rfl) m46 (i := 11) (by omega) fun w6 m49 s7 z4 => ?_)))))))
     obtain ⟨V2, eV2⟩ : ∃ V : EvM, V = ⟨V1.o, V1.seq, V1.deps, V1.kind, V1.node, V1.dst, (x.amt : Int), V1.req, V1.of⟩ := ⟨_, rfl⟩
     have wfV2 : EvWf V2 := by rw [eV2]; exact ⟨wfV1.o, wfV1.seq, wfV1.deps, wfV1.kind, wfV1.node, wfV1.dst, (show I64r ((x.amt : Int)) from ⟨by omega, by omega⟩), wfV1.req, wfV1.of⟩
     have smV2 : EvSm V2 := by rw [eV2]; exact ⟨by show (x.amt : Int) ≤ 65536; omega, smV1.req⟩
     have m50 : Fx.Blk w6 g3 14 (evY V2) 54 := m49.congr (fun j hj => by rw [eV2]; exact ev_amt _ _ j hj)
     have m52 := m48.stp s7 (by omega)
     have b8 := s7.below b7 b7.size (by omega)
     refine Fx.L.nil (Fx.blkN (Fx.seqN (Fx.W.seq (Fx.W.list (Fx.L.v (.agg (Fx.varr 14 (evY V2))) (x_loadA (x := evY V2) (y := evY V2) rfl h3 (by kernel_rfl) (by kernel_rfl) m50.cel (i := 0) (by omega) (by omega) (fun j _ => by rw [Nat.zero_add])) (Fx.L.storeA (x := fun zq => if zq < 1 then .int .i64 (0) else if zq < 8 then .int .u64 (0) else if zq < 9 then .int .u8 (0) else if zq < 10 then .int .u64 (0) else if zq < 12 then .int .i64 (0) else .int .u64 (0)) (y := evY V2) (by rfl) rfl rfl h2 rfl (evY_one _) (by kernel_rfl) m52 (i := 0) (by omega) fun w7 m53 s8 z5 => ?_))))))
     have m54 : Fx.Blk w7 g2 14 (evY V2) 54 := Fx.ovr_all m53
     have m56 := m50.stp s8 (by omega)
     have b9 := s8.below b8 b8.size (by omega)
     refine Fx.L.nil (Fx.seqN (Fx.W.ret (⟨.agg (Fx.varr 14 (evY V2)), Fx.retV1 Try.results70 ⟨_, h2, Fx.run_loadV m54.cel (by kernel_rfl) (by kernel_rfl)⟩, ?_⟩)))
     exact ⟨V2, wfV2, smV2, rfl, b9⟩
    ·refine Fx.L.v (.bool false) (x_eqlF rfl rfl rfl c77) (Fx.L.nil (Fx.seqN (Fx.W.cond (b := false) rfl (fun h => nomatch h) (fun _ => Fx.W.skip (Fx.seqN (Fx.W.list (Fx.L.v (.pointer (some ⟨g1, 6, none⟩)) (x_field rfl h1 Try.underlying58 rfl (s := 1) (by kernel_rfl) rfl (by show _ + 6 = _; omega)) (Fx.L.v (.int .u16 ((x.amt : Int))) (x_load1 (x := actY x) rfl rfl (by kernel_rfl) m42.cel (i := 6) (by omega) (by omega) rfl) (Fx.L.v (.int .i64 ((x.amt : Int))) (x_conv rfl rfl (by kernel_rfl) Try.underlying2 (Fx.i64e (by omega) rfl)) (Fx.L.v (.pointer (some ⟨g3, 11, none⟩)) (x_field rfl h3 Try.underlying54 rfl (s := 1) (by kernel_rfl) rfl (by show _ + 11 = _; omega)) (Fx.L.store1 (x := evY V0) (u := .int .i64 ((x.amt : Int))) (by rfl) rfl rfl rfl rfl (by rfl) (by kernel_rfl) m44 (i := 11) (by omega) fun w8 m57 s9 z6 => ?_)))))))))))
     obtain ⟨V3, eV3⟩ : ∃ V : EvM, V = ⟨V0.o, V0.seq, V0.deps, V0.kind, V0.node, V0.dst, (x.amt : Int), V0.req, V0.of⟩ := ⟨_, rfl⟩
     have wfV3 : EvWf V3 := by rw [eV3]; exact ⟨wf0.o, wf0.seq, wf0.deps, wf0.kind, wf0.node, wf0.dst, (show I64r ((x.amt : Int)) from ⟨by omega, by omega⟩), wf0.req, wf0.of⟩
     have smV3 : EvSm V3 := by rw [eV3]; exact ⟨by show (x.amt : Int) ≤ 65536; omega, sm0.req⟩
     have m58 : Fx.Blk w8 g3 14 (evY V3) 54 := m57.congr (fun j hj => by rw [eV3]; exact ev_amt _ _ j hj)
     have m60 := m43.stp s9 (by omega)
     have b10 := s9.below b6 b6.size (by omega)
     refine Fx.L.nil (Fx.blkN (Fx.seqN (Fx.W.seq (Fx.W.list (Fx.L.v (.agg (Fx.varr 14 (evY V3))) (x_loadA (x := evY V3) (y := evY V3) rfl h3 (by kernel_rfl) (by kernel_rfl) m58.cel (i := 0) (by omega) (by omega) (fun j _ => by rw [Nat.zero_add])) (Fx.L.storeA (x := fun zq => if zq < 1 then .int .i64 (0) else if zq < 8 then .int .u64 (0) else if zq < 9 then .int .u8 (0) else if zq < 10 then .int .u64 (0) else if zq < 12 then .int .i64 (0) else .int .u64 (0)) (y := evY V3) (by rfl) rfl rfl h2 rfl (evY_one _) (by kernel_rfl) m60 (i := 0) (by omega) fun w9 m61 s10 z7 => ?_))))))
     have m62 : Fx.Blk w9 g2 14 (evY V3) 54 := Fx.ovr_all m61
     have m64 := m58.stp s10 (by omega)
     have b11 := s10.below b10 b10.size (by omega)
     refine Fx.L.nil (Fx.seqN (Fx.W.ret (⟨.agg (Fx.varr 14 (evY V3)), Fx.retV1 Try.results70 ⟨_, h2, Fx.run_loadV m62.cel (by kernel_rfl) (by kernel_rfl)⟩, ?_⟩)))
     exact ⟨V3, wfV3, smV3, rfl, b11⟩
   ·refine Fx.L.v (.bool false) (x_eqlF rfl rfl rfl c73) (Fx.L.v (.bool false) (x_assign rfl rfl) (Fx.L.nil (Fx.seqN (Fx.W.cond (b := false) rfl (fun h => nomatch h) (fun _ => Fx.W.seq (Fx.W.list ?_))))))
    by_cases c85 : V0.kind = 2
    ·refine Fx.L.v (.bool true) (x_eqlT rfl rfl rfl c85) (Fx.L.v (.bool true) (x_assign rfl rfl) (Fx.L.nil (Fx.seqN (Fx.W.cond (b := true) rfl (fun _ => Fx.W.seq (Fx.W.list (Fx.L.v (.int .u64 (nd)) (x_move rfl h4) ?_))) (fun h => nomatch h)))))
     refine Fx.L.v (.pointer (some ⟨g3, 9, none⟩)) (x_field rfl h3 Try.underlying54 rfl (s := 1) (by kernel_rfl) rfl (by show _ + 9 = _; omega)) (Fx.L.store1 (x := evY V0) (u := .int .u64 (nd)) (by rfl) rfl rfl rfl rfl (by rfl) (by kernel_rfl) m44 (i := 9) (by omega) fun w10 m65 s11 z8 => ?_)
     obtain ⟨V4, eV4⟩ : ∃ V : EvM, V = ⟨V0.o, V0.seq, V0.deps, V0.kind, nd, V0.dst, V0.amt, V0.req, V0.of⟩ := ⟨_, rfl⟩
     have wfV4 : EvWf V4 := by rw [eV4]; exact ⟨wf0.o, wf0.seq, wf0.deps, wf0.kind, hnode, wf0.dst, wf0.amt, wf0.req, wf0.of⟩
     have smV4 : EvSm V4 := by rw [eV4]; exact ⟨sm0.amt, sm0.req⟩
     have m66 : Fx.Blk w10 g3 14 (evY V4) 54 := m65.congr (fun j hj => by rw [eV4]; exact ev_node _ _ j hj)
     have hct6 := Fx.ChT.of_stp s11 m44.ty
     have m67 := m42.chT hct6 (by decide)
     have m68 := m43.stp s11 (by omega)
     have b12 := s11.below b6 b6.size (by omega)
     refine Fx.L.nil (Fx.seqN (Fx.W.list (Fx.L.v (.pointer (some ⟨g1, 6, none⟩)) (x_field rfl h1 Try.underlying58 rfl (s := 1) (by kernel_rfl) rfl (by show _ + 6 = _; omega)) (Fx.L.v (.int .u16 ((x.amt : Int))) (x_load1 (x := actY x) rfl rfl (by kernel_rfl) m67.cel (i := 6) (by omega) (by omega) rfl) (Fx.L.v (.int .i64 ((x.amt : Int))) (x_conv rfl rfl (by kernel_rfl) Try.underlying2 (Fx.i64e (by omega) rfl)) (Fx.L.v (.int .i64 ((x.amt : Int) + 1)) (Fx.x_add rfl rfl rfl (Fx.i64e (by omega) (by omega))) (Fx.L.v (.pointer (some ⟨g3, 11, none⟩)) (x_field rfl h3 Try.underlying54 rfl (s := 1) (by kernel_rfl) rfl (by show _ + 11 = _; omega)) (Fx.L.store1 (x := evY V4) (u := .int .i64 ((x.amt : Int) + 1)) (by rfl) rfl rfl rfl rfl (by rfl) (by kernel_rfl) m66 (i := 11) (by omega) fun w11 m69 s12 z9 => ?_))))))))
     obtain ⟨V5, eV5⟩ : ∃ V : EvM, V = ⟨V4.o, V4.seq, V4.deps, V4.kind, V4.node, V4.dst, (x.amt : Int) + 1, V4.req, V4.of⟩ := ⟨_, rfl⟩
     have wfV5 : EvWf V5 := by rw [eV5]; exact ⟨wfV4.o, wfV4.seq, wfV4.deps, wfV4.kind, wfV4.node, wfV4.dst, (show I64r ((x.amt : Int) + 1) from ⟨by omega, by omega⟩), wfV4.req, wfV4.of⟩
     have smV5 : EvSm V5 := by rw [eV5]; exact ⟨by show (x.amt : Int) + 1 ≤ 65536; omega, smV4.req⟩
     have m70 : Fx.Blk w11 g3 14 (evY V5) 54 := m69.congr (fun j hj => by rw [eV5]; exact ev_amt _ _ j hj)
     have m72 := m68.stp s12 (by omega)
     have b13 := s12.below b12 b12.size (by omega)
     refine Fx.L.nil (Fx.blkN (Fx.seqN (Fx.W.seq (Fx.W.list (Fx.L.v (.agg (Fx.varr 14 (evY V5))) (x_loadA (x := evY V5) (y := evY V5) rfl h3 (by kernel_rfl) (by kernel_rfl) m70.cel (i := 0) (by omega) (by omega) (fun j _ => by rw [Nat.zero_add])) (Fx.L.storeA (x := fun zq => if zq < 1 then .int .i64 (0) else if zq < 8 then .int .u64 (0) else if zq < 9 then .int .u8 (0) else if zq < 10 then .int .u64 (0) else if zq < 12 then .int .i64 (0) else .int .u64 (0)) (y := evY V5) (by rfl) rfl rfl h2 rfl (evY_one _) (by kernel_rfl) m72 (i := 0) (by omega) fun w12 m73 s13 z10 => ?_))))))
     have m74 : Fx.Blk w12 g2 14 (evY V5) 54 := Fx.ovr_all m73
     have m76 := m70.stp s13 (by omega)
     have b14 := s13.below b13 b13.size (by omega)
     refine Fx.L.nil (Fx.seqN (Fx.W.ret (⟨.agg (Fx.varr 14 (evY V5)), Fx.retV1 Try.results70 ⟨_, h2, Fx.run_loadV m74.cel (by kernel_rfl) (by kernel_rfl)⟩, ?_⟩)))
     exact ⟨V5, wfV5, smV5, rfl, b14⟩
    ·refine Fx.L.v (.bool false) (x_eqlF rfl rfl rfl c85) (Fx.L.v (.bool false) (x_assign rfl rfl) (Fx.L.nil (Fx.seqN (Fx.W.cond (b := false) rfl (fun h => nomatch h) (fun _ => Fx.W.seq (Fx.W.list ?_))))))
     by_cases c94 : V0.kind = 3
     ·refine Fx.L.v (.bool true) (x_eqlT rfl rfl rfl c94) (Fx.L.v (.bool true) (x_assign rfl rfl) (Fx.L.nil (Fx.seqN (Fx.W.cond (b := true) rfl (fun _ => Fx.W.seq (Fx.W.list (Fx.L.v (.int .u64 (nd)) (x_move rfl h4) ?_))) (fun h => nomatch h)))))
      refine Fx.L.v (.pointer (some ⟨g3, 9, none⟩)) (x_field rfl h3 Try.underlying54 rfl (s := 1) (by kernel_rfl) rfl (by show _ + 9 = _; omega)) (Fx.L.store1 (x := evY V0) (u := .int .u64 (nd)) (by rfl) rfl rfl rfl rfl (by rfl) (by kernel_rfl) m44 (i := 9) (by omega) fun w13 m77 s14 z11 => ?_)
      obtain ⟨V6, eV6⟩ : ∃ V : EvM, V = ⟨V0.o, V0.seq, V0.deps, V0.kind, nd, V0.dst, V0.amt, V0.req, V0.of⟩ := ⟨_, rfl⟩
      have wfV6 : EvWf V6 := by rw [eV6]; exact ⟨wf0.o, wf0.seq, wf0.deps, wf0.kind, hnode, wf0.dst, wf0.amt, wf0.req, wf0.of⟩
      have smV6 : EvSm V6 := by rw [eV6]; exact ⟨sm0.amt, sm0.req⟩
      have m78 : Fx.Blk w13 g3 14 (evY V6) 54 := m77.congr (fun j hj => by rw [eV6]; exact ev_node _ _ j hj)
      have hct9 := Fx.ChT.of_stp s14 m44.ty
      have m79 := m42.chT hct9 (by decide)
      have m80 := m43.stp s14 (by omega)
      have b15 := s14.below b6 b6.size (by omega)
      refine Fx.L.nil (Fx.seqN (Fx.W.seq (Fx.W.list (Fx.L.v (.pointer (some ⟨g1, 6, none⟩)) (x_field rfl h1 Try.underlying58 rfl (s := 1) (by kernel_rfl) rfl (by show _ + 6 = _; omega)) (Fx.L.v (.int .u16 ((x.amt : Int))) (x_load1 (x := actY x) rfl rfl (by kernel_rfl) m79.cel (i := 6) (by omega) (by omega) rfl) (Fx.L.v (.int .i64 ((x.amt : Int))) (x_conv rfl rfl (by kernel_rfl) Try.underlying2 (Fx.i64e (by omega) rfl)) (Fx.L.v (.int .i64 ((x.amt : Int) + 1)) (Fx.x_add rfl rfl rfl (Fx.i64e (by omega) (by omega))) (Fx.L.v (.pointer (some ⟨g3, 11, none⟩)) (x_field rfl h3 Try.underlying54 rfl (s := 1) (by kernel_rfl) rfl (by show _ + 11 = _; omega)) (Fx.L.store1 (x := evY V6) (u := .int .i64 ((x.amt : Int) + 1)) (by rfl) rfl rfl rfl rfl (by rfl) (by kernel_rfl) m78 (i := 11) (by omega) fun w14 m81 s15 z12 => ?_)))))))))
      obtain ⟨V7, eV7⟩ : ∃ V : EvM, V = ⟨V6.o, V6.seq, V6.deps, V6.kind, V6.node, V6.dst, (x.amt : Int) + 1, V6.req, V6.of⟩ := ⟨_, rfl⟩
      have wfV7 : EvWf V7 := by rw [eV7]; exact ⟨wfV6.o, wfV6.seq, wfV6.deps, wfV6.kind, wfV6.node, wfV6.dst, (show I64r ((x.amt : Int) + 1) from ⟨by omega, by omega⟩), wfV6.req, wfV6.of⟩
      have smV7 : EvSm V7 := by rw [eV7]; exact ⟨by show (x.amt : Int) + 1 ≤ 65536; omega, smV6.req⟩
      have m82 : Fx.Blk w14 g3 14 (evY V7) 54 := m81.congr (fun j hj => by rw [eV7]; exact ev_amt _ _ j hj)
      have hct10 := Fx.ChT.of_stp s15 m78.ty
      have m83 := m79.chT hct10 (by decide)
      have m84 := m80.stp s15 (by omega)
      have b16 := s15.below b15 b15.size (by omega)
      refine Fx.L.nil (Fx.seqN (Fx.W.list (Fx.L.v (.pointer (some ⟨g1, 7, none⟩)) (x_field rfl h1 Try.underlying58 rfl (s := 1) (by kernel_rfl) rfl (by show _ + 7 = _; omega)) (Fx.L.v (.int .u8 ((x.req : Int))) (x_load1 (x := actY x) rfl rfl (by kernel_rfl) m83.cel (i := 7) (by omega) (by omega) rfl) (Fx.L.v (.int .u64 ((x.req : Int))) (x_conv rfl rfl (by kernel_rfl) Try.underlying27 (Fx.u64e (by omega) rfl)) (Fx.L.v (.int .u64 ((x.req : Int) + 1)) (Fx.x_add rfl rfl rfl (Fx.u64e (by omega) (by omega))) (Fx.L.v (.pointer (some ⟨g3, 12, none⟩)) (x_field rfl h3 Try.underlying54 rfl (s := 1) (by kernel_rfl) rfl (by show _ + 12 = _; omega)) (Fx.L.store1 (x := evY V7) (u := .int .u64 ((x.req : Int) + 1)) (by rfl) rfl rfl rfl rfl (by rfl) (by kernel_rfl) m82 (i := 12) (by omega) fun w15 m85 s16 z13 => ?_))))))))
      obtain ⟨V8, eV8⟩ : ∃ V : EvM, V = ⟨V7.o, V7.seq, V7.deps, V7.kind, V7.node, V7.dst, V7.amt, (x.req : Int) + 1, V7.of⟩ := ⟨_, rfl⟩
      have wfV8 : EvWf V8 := by rw [eV8]; exact ⟨wfV7.o, wfV7.seq, wfV7.deps, wfV7.kind, wfV7.node, wfV7.dst, wfV7.amt, (show U64r ((x.req : Int) + 1) from ⟨by omega, by omega⟩), wfV7.of⟩
      have smV8 : EvSm V8 := by rw [eV8]; exact ⟨smV7.amt, by show (x.req : Int) + 1 ≤ 256; omega⟩
      have m86 : Fx.Blk w15 g3 14 (evY V8) 54 := m85.congr (fun j hj => by rw [eV8]; exact ev_req _ _ j hj)
      have m88 := m84.stp s16 (by omega)
      have b17 := s16.below b16 b16.size (by omega)
      refine Fx.L.nil (Fx.blkN (Fx.seqN (Fx.W.seq (Fx.W.list (Fx.L.v (.agg (Fx.varr 14 (evY V8))) (x_loadA (x := evY V8) (y := evY V8) rfl h3 (by kernel_rfl) (by kernel_rfl) m86.cel (i := 0) (by omega) (by omega) (fun j _ => by rw [Nat.zero_add])) (Fx.L.storeA (x := fun zq => if zq < 1 then .int .i64 (0) else if zq < 8 then .int .u64 (0) else if zq < 9 then .int .u8 (0) else if zq < 10 then .int .u64 (0) else if zq < 12 then .int .i64 (0) else .int .u64 (0)) (y := evY V8) (by rfl) rfl rfl h2 rfl (evY_one _) (by kernel_rfl) m88 (i := 0) (by omega) fun w16 m89 s17 z14 => ?_))))))
      have m90 : Fx.Blk w16 g2 14 (evY V8) 54 := Fx.ovr_all m89
      have m92 := m86.stp s17 (by omega)
      have b18 := s17.below b17 b17.size (by omega)
      refine Fx.L.nil (Fx.seqN (Fx.W.ret (⟨.agg (Fx.varr 14 (evY V8)), Fx.retV1 Try.results70 ⟨_, h2, Fx.run_loadV m90.cel (by kernel_rfl) (by kernel_rfl)⟩, ?_⟩)))
      exact ⟨V8, wfV8, smV8, rfl, b18⟩
     ·refine Fx.L.v (.bool false) (x_eqlF rfl rfl rfl c94) (Fx.L.v (.bool false) (x_assign rfl rfl) (Fx.L.nil (Fx.seqN (Fx.W.cond (b := false) rfl (fun h => nomatch h) (fun _ => Fx.W.seq (Fx.W.list ?_))))))
      by_cases c108 : V0.kind = 4
      ·refine Fx.L.v (.bool true) (x_eqlT rfl rfl rfl c108) (Fx.L.v (.bool true) (x_assign rfl rfl) (Fx.L.nil (Fx.seqN (Fx.W.cond (b := true) rfl (fun _ => Fx.W.seq (Fx.W.list (Fx.L.v (.pointer (some ⟨g1, 7, none⟩)) (x_field rfl h1 Try.underlying58 rfl (s := 1) (by kernel_rfl) rfl (by show _ + 7 = _; omega)) ?_))) (fun h => nomatch h)))))
       refine Fx.L.v (.int .u8 ((x.req : Int))) (x_load1 (x := actY x) rfl rfl (by kernel_rfl) m42.cel (i := 7) (by omega) (by omega) rfl) (Fx.L.v (.int .u64 ((x.req : Int))) (x_conv rfl rfl (by kernel_rfl) Try.underlying27 (Fx.u64e (by omega) rfl)) (Fx.L.v (.int .u64 ((x.req : Int) + 1)) (Fx.x_add rfl rfl rfl (Fx.u64e (by omega) (by omega))) (Fx.L.v (.pointer (some ⟨g3, 12, none⟩)) (x_field rfl h3 Try.underlying54 rfl (s := 1) (by kernel_rfl) rfl (by show _ + 12 = _; omega)) (Fx.L.store1 (x := evY V0) (u := .int .u64 ((x.req : Int) + 1)) (by rfl) rfl rfl rfl rfl (by rfl) (by kernel_rfl) m44 (i := 12) (by omega) fun w17 m93 s18 z15 => ?_))))
       obtain ⟨V9, eV9⟩ : ∃ V : EvM, V = ⟨V0.o, V0.seq, V0.deps, V0.kind, V0.node, V0.dst, V0.amt, (x.req : Int) + 1, V0.of⟩ := ⟨_, rfl⟩
       have wfV9 : EvWf V9 := by rw [eV9]; exact ⟨wf0.o, wf0.seq, wf0.deps, wf0.kind, wf0.node, wf0.dst, wf0.amt, (show U64r ((x.req : Int) + 1) from ⟨by omega, by omega⟩), wf0.of⟩
       have smV9 : EvSm V9 := by rw [eV9]; exact ⟨sm0.amt, by show (x.req : Int) + 1 ≤ 256; omega⟩
       have m94 : Fx.Blk w17 g3 14 (evY V9) 54 := m93.congr (fun j hj => by rw [eV9]; exact ev_req _ _ j hj)
       have hct13 := Fx.ChT.of_stp s18 m44.ty
       have m95 := m42.chT hct13 (by decide)
       have m96 := m43.stp s18 (by omega)
       have b19 := s18.below b6 b6.size (by omega)
       refine Fx.L.nil (Fx.seqN (Fx.W.list (Fx.L.v (.pointer (some ⟨g1, 8, none⟩)) (x_field rfl h1 Try.underlying58 rfl (s := 1) (by kernel_rfl) rfl (by show _ + 8 = _; omega)) (Fx.L.v (.int .u8 ((x.of : Int))) (x_load1 (x := actY x) rfl rfl (by kernel_rfl) m95.cel (i := 8) (by omega) (by omega) rfl) (Fx.L.v (.int .u64 ((x.of : Int))) (x_conv rfl rfl (by kernel_rfl) Try.underlying27 (Fx.u64e (by omega) rfl)) (Fx.L.v (.int .u64 ((x.of : Int) + 1)) (Fx.x_add rfl rfl rfl (Fx.u64e (by omega) (by omega))) (Fx.L.v (.pointer (some ⟨g3, 13, none⟩)) (x_field rfl h3 Try.underlying54 rfl (s := 1) (by kernel_rfl) rfl (by show _ + 13 = _; omega)) (Fx.L.store1 (x := evY V9) (u := .int .u64 ((x.of : Int) + 1)) (by rfl) rfl rfl rfl rfl (by rfl) (by kernel_rfl) m94 (i := 13) (by omega) fun w18 m97 s19 z16 => ?_))))))))
       obtain ⟨V10, eV10⟩ : ∃ V : EvM, V = ⟨V9.o, V9.seq, V9.deps, V9.kind, V9.node, V9.dst, V9.amt, V9.req, (x.of : Int) + 1⟩ := ⟨_, rfl⟩
       have wfV10 : EvWf V10 := by rw [eV10]; exact ⟨wfV9.o, wfV9.seq, wfV9.deps, wfV9.kind, wfV9.node, wfV9.dst, wfV9.amt, wfV9.req, (show U64r ((x.of : Int) + 1) from ⟨by omega, by omega⟩)⟩
       have smV10 : EvSm V10 := by rw [eV10]; exact ⟨smV9.amt, smV9.req⟩
       have m98 : Fx.Blk w18 g3 14 (evY V10) 54 := m97.congr (fun j hj => by rw [eV10]; exact ev_of _ _ j hj)
       have m100 := m96.stp s19 (by omega)
       have b20 := s19.below b19 b19.size (by omega)
       refine Fx.L.nil (Fx.blkN (Fx.seqN (Fx.W.seq (Fx.W.list (Fx.L.v (.agg (Fx.varr 14 (evY V10))) (x_loadA (x := evY V10) (y := evY V10) rfl h3 (by kernel_rfl) (by kernel_rfl) m98.cel (i := 0) (by omega) (by omega) (fun j _ => by rw [Nat.zero_add])) (Fx.L.storeA (x := fun zq => if zq < 1 then .int .i64 (0) else if zq < 8 then .int .u64 (0) else if zq < 9 then .int .u8 (0) else if zq < 10 then .int .u64 (0) else if zq < 12 then .int .i64 (0) else .int .u64 (0)) (y := evY V10) (by rfl) rfl rfl h2 rfl (evY_one _) (by kernel_rfl) m100 (i := 0) (by omega) fun w19 m101 s20 z17 => ?_))))))
       have m102 : Fx.Blk w19 g2 14 (evY V10) 54 := Fx.ovr_all m101
       have m104 := m98.stp s20 (by omega)
       have b21 := s20.below b20 b20.size (by omega)
       refine Fx.L.nil (Fx.seqN (Fx.W.ret (⟨.agg (Fx.varr 14 (evY V10)), Fx.retV1 Try.results70 ⟨_, h2, Fx.run_loadV m102.cel (by kernel_rfl) (by kernel_rfl)⟩, ?_⟩)))
       exact ⟨V10, wfV10, smV10, rfl, b21⟩
      ·refine Fx.L.v (.bool false) (x_eqlF rfl rfl rfl c108) (Fx.L.v (.bool false) (x_assign rfl rfl) (Fx.L.nil (Fx.seqN (Fx.W.cond (b := false) rfl (fun h => nomatch h) (fun _ => Fx.W.seq (Fx.W.list ?_))))))
       by_cases c120 : V0.kind = 5
       ·refine Fx.L.v (.bool true) (x_eqlT rfl rfl rfl c120) (Fx.L.v (.bool true) (x_assign rfl rfl) (Fx.L.nil (Fx.seqN (Fx.W.cond (b := true) rfl (fun _ => Fx.W.seq (Fx.W.list (Fx.L.v (.int .u64 (nd)) (x_move rfl h4) ?_))) (fun h => nomatch h)))))
        refine Fx.L.v (.pointer (some ⟨g3, 9, none⟩)) (x_field rfl h3 Try.underlying54 rfl (s := 1) (by kernel_rfl) rfl (by show _ + 9 = _; omega)) (Fx.L.store1 (x := evY V0) (u := .int .u64 (nd)) (by rfl) rfl rfl rfl rfl (by rfl) (by kernel_rfl) m44 (i := 9) (by omega) fun w20 m105 s21 z18 => ?_)
        obtain ⟨V11, eV11⟩ : ∃ V : EvM, V = ⟨V0.o, V0.seq, V0.deps, V0.kind, nd, V0.dst, V0.amt, V0.req, V0.of⟩ := ⟨_, rfl⟩
        have wfV11 : EvWf V11 := by rw [eV11]; exact ⟨wf0.o, wf0.seq, wf0.deps, wf0.kind, hnode, wf0.dst, wf0.amt, wf0.req, wf0.of⟩
        have smV11 : EvSm V11 := by rw [eV11]; exact ⟨sm0.amt, sm0.req⟩
        have m106 : Fx.Blk w20 g3 14 (evY V11) 54 := m105.congr (fun j hj => by rw [eV11]; exact ev_node _ _ j hj)
        have hct16 := Fx.ChT.of_stp s21 m44.ty
        have m107 := m42.chT hct16 (by decide)
        have m108 := m43.stp s21 (by omega)
        have b22 := s21.below b6 b6.size (by omega)
        refine Fx.L.nil (Fx.seqN (Fx.W.seq (Fx.W.list (Fx.L.v (.pointer (some ⟨g1, 6, none⟩)) (x_field rfl h1 Try.underlying58 rfl (s := 1) (by kernel_rfl) rfl (by show _ + 6 = _; omega)) (Fx.L.v (.int .u16 ((x.amt : Int))) (x_load1 (x := actY x) rfl rfl (by kernel_rfl) m107.cel (i := 6) (by omega) (by omega) rfl) (Fx.L.v (.int .i64 ((x.amt : Int))) (x_conv rfl rfl (by kernel_rfl) Try.underlying2 (Fx.i64e (by omega) rfl)) (Fx.L.v (.int .i64 ((x.amt : Int) + 1)) (Fx.x_add rfl rfl rfl (Fx.i64e (by omega) (by omega))) (Fx.L.v (.pointer (some ⟨g3, 11, none⟩)) (x_field rfl h3 Try.underlying54 rfl (s := 1) (by kernel_rfl) rfl (by show _ + 11 = _; omega)) (Fx.L.store1 (x := evY V11) (u := .int .i64 ((x.amt : Int) + 1)) (by rfl) rfl rfl rfl rfl (by rfl) (by kernel_rfl) m106 (i := 11) (by omega) fun w21 m109 s22 z19 => ?_)))))))))
        obtain ⟨V12, eV12⟩ : ∃ V : EvM, V = ⟨V11.o, V11.seq, V11.deps, V11.kind, V11.node, V11.dst, (x.amt : Int) + 1, V11.req, V11.of⟩ := ⟨_, rfl⟩
        have wfV12 : EvWf V12 := by rw [eV12]; exact ⟨wfV11.o, wfV11.seq, wfV11.deps, wfV11.kind, wfV11.node, wfV11.dst, (show I64r ((x.amt : Int) + 1) from ⟨by omega, by omega⟩), wfV11.req, wfV11.of⟩
        have smV12 : EvSm V12 := by rw [eV12]; exact ⟨by show (x.amt : Int) + 1 ≤ 65536; omega, smV11.req⟩
        have m110 : Fx.Blk w21 g3 14 (evY V12) 54 := m109.congr (fun j hj => by rw [eV12]; exact ev_amt _ _ j hj)
        have hct17 := Fx.ChT.of_stp s22 m106.ty
        have m111 := m107.chT hct17 (by decide)
        have m112 := m108.stp s22 (by omega)
        have b23 := s22.below b22 b22.size (by omega)
        refine Fx.L.nil (Fx.seqN ?_)
        obtain ⟨r6, er6⟩ : ∃ r, r = x.dst % 6 := ⟨_, rfl⟩
        have hr6 : r6 < 6 := by rw [er6]; exact Nat.mod_lt _ (by omega)
        refine Fx.W.list (Fx.L.v (.pointer (some ⟨g1, 5, none⟩)) (x_field rfl h1 Try.underlying58 rfl (s := 1) (by kernel_rfl) rfl (by show _ + 5 = _; omega)) (Fx.L.v (.int .u8 ((x.dst : Int))) (x_load1 (x := actY x) rfl rfl (by kernel_rfl) m111.cel (i := 5) (by omega) (by omega) rfl) (Fx.L.v (.int .i64 ((x.dst : Int))) (x_conv rfl rfl (by kernel_rfl) Try.underlying3 (Fx.i64e (by omega) rfl)) (Fx.L.v (.int .i64 ((r6 : Int))) (Fx.x_rem rfl rfl rfl (by omega) (remL er6)) (Fx.L.v (.int .i64 ((r6 : Int) + 1)) (Fx.x_add rfl rfl rfl (Fx.i64e (by omega) (by omega))) (Fx.L.v (.pointer (some ⟨g3, 10, none⟩)) (x_field rfl h3 Try.underlying54 rfl (s := 1) (by kernel_rfl) rfl (by show _ + 10 = _; omega)) (Fx.L.store1 (x := evY V12) (u := .int .i64 ((r6 : Int) + 1)) (by rfl) rfl rfl rfl rfl (by rfl) (by kernel_rfl) m110 (i := 10) (by omega) fun w22 m113 s23 z20 => ?_)))))))
        obtain ⟨V13, eV13⟩ : ∃ V : EvM, V = ⟨V12.o, V12.seq, V12.deps, V12.kind, V12.node, (r6 : Int) + 1, V12.amt, V12.req, V12.of⟩ := ⟨_, rfl⟩
        have wfV13 : EvWf V13 := by rw [eV13]; exact ⟨wfV12.o, wfV12.seq, wfV12.deps, wfV12.kind, wfV12.node, (show I64r ((r6 : Int) + 1) from ⟨by omega, by omega⟩), wfV12.amt, wfV12.req, wfV12.of⟩
        have smV13 : EvSm V13 := by rw [eV13]; exact ⟨smV12.amt, smV12.req⟩
        have m114 : Fx.Blk w22 g3 14 (evY V13) 54 := m113.congr (fun j hj => by rw [eV13]; exact ev_dst _ _ j hj)
        have m116 := m112.stp s23 (by omega)
        have b24 := s23.below b23 b23.size (by omega)
        refine Fx.L.nil (Fx.blkN (Fx.seqN (Fx.W.seq (Fx.W.list (Fx.L.v (.agg (Fx.varr 14 (evY V13))) (x_loadA (x := evY V13) (y := evY V13) rfl h3 (by kernel_rfl) (by kernel_rfl) m114.cel (i := 0) (by omega) (by omega) (fun j _ => by rw [Nat.zero_add])) (Fx.L.storeA (x := fun zq => if zq < 1 then .int .i64 (0) else if zq < 8 then .int .u64 (0) else if zq < 9 then .int .u8 (0) else if zq < 10 then .int .u64 (0) else if zq < 12 then .int .i64 (0) else .int .u64 (0)) (y := evY V13) (by rfl) rfl rfl h2 rfl (evY_one _) (by kernel_rfl) m116 (i := 0) (by omega) fun w23 m117 s24 z21 => ?_))))))
        have m118 : Fx.Blk w23 g2 14 (evY V13) 54 := Fx.ovr_all m117
        have m120 := m114.stp s24 (by omega)
        have b25 := s24.below b24 b24.size (by omega)
        refine Fx.L.nil (Fx.seqN (Fx.W.ret (⟨.agg (Fx.varr 14 (evY V13)), Fx.retV1 Try.results70 ⟨_, h2, Fx.run_loadV m118.cel (by kernel_rfl) (by kernel_rfl)⟩, ?_⟩)))
        exact ⟨V13, wfV13, smV13, rfl, b25⟩
       ·refine Fx.L.v (.bool false) (x_eqlF rfl rfl rfl c120) (Fx.L.v (.bool false) (x_assign rfl rfl) (Fx.L.nil (Fx.seqN (Fx.W.cond (b := false) rfl (fun h => nomatch h) (fun _ => Fx.W.seq (Fx.W.list ?_))))))
        by_cases c135 : V0.kind = 6
        ·refine Fx.L.v (.bool true) (x_eqlT rfl rfl rfl c135) (Fx.L.v (.bool true) (x_assign rfl rfl) (Fx.L.nil (Fx.seqN (Fx.W.cond (b := true) rfl (fun _ => ?_) (fun h => nomatch h)))))
         obtain ⟨r6, er6⟩ : ∃ r, r = x.dst % 6 := ⟨_, rfl⟩
         have hr6 : r6 < 6 := by rw [er6]; exact Nat.mod_lt _ (by omega)
         refine Fx.W.list (Fx.L.v (.pointer (some ⟨g1, 5, none⟩)) (x_field rfl h1 Try.underlying58 rfl (s := 1) (by kernel_rfl) rfl (by show _ + 5 = _; omega)) (Fx.L.v (.int .u8 ((x.dst : Int))) (x_load1 (x := actY x) rfl rfl (by kernel_rfl) m42.cel (i := 5) (by omega) (by omega) rfl) (Fx.L.v (.int .i64 ((x.dst : Int))) (x_conv rfl rfl (by kernel_rfl) Try.underlying3 (Fx.i64e (by omega) rfl)) (Fx.L.v (.int .i64 ((r6 : Int))) (Fx.x_rem rfl rfl rfl (by omega) (remL er6)) (Fx.L.v (.int .i64 ((r6 : Int) + 1)) (Fx.x_add rfl rfl rfl (Fx.i64e (by omega) (by omega))) (Fx.L.v (.pointer (some ⟨g3, 10, none⟩)) (x_field rfl h3 Try.underlying54 rfl (s := 1) (by kernel_rfl) rfl (by show _ + 10 = _; omega)) (Fx.L.store1 (x := evY V0) (u := .int .i64 ((r6 : Int) + 1)) (by rfl) rfl rfl rfl rfl (by rfl) (by kernel_rfl) m44 (i := 10) (by omega) fun w24 m121 s25 z22 => ?_)))))))
         obtain ⟨V14, eV14⟩ : ∃ V : EvM, V = ⟨V0.o, V0.seq, V0.deps, V0.kind, V0.node, (r6 : Int) + 1, V0.amt, V0.req, V0.of⟩ := ⟨_, rfl⟩
         have wfV14 : EvWf V14 := by rw [eV14]; exact ⟨wf0.o, wf0.seq, wf0.deps, wf0.kind, wf0.node, (show I64r ((r6 : Int) + 1) from ⟨by omega, by omega⟩), wf0.amt, wf0.req, wf0.of⟩
         have smV14 : EvSm V14 := by rw [eV14]; exact ⟨sm0.amt, sm0.req⟩
         have m122 : Fx.Blk w24 g3 14 (evY V14) 54 := m121.congr (fun j hj => by rw [eV14]; exact ev_dst _ _ j hj)
         have m124 := m43.stp s25 (by omega)
         have b26 := s25.below b6 b6.size (by omega)
         refine Fx.L.nil (Fx.blkN (Fx.seqN (Fx.W.seq (Fx.W.list (Fx.L.v (.agg (Fx.varr 14 (evY V14))) (x_loadA (x := evY V14) (y := evY V14) rfl h3 (by kernel_rfl) (by kernel_rfl) m122.cel (i := 0) (by omega) (by omega) (fun j _ => by rw [Nat.zero_add])) (Fx.L.storeA (x := fun zq => if zq < 1 then .int .i64 (0) else if zq < 8 then .int .u64 (0) else if zq < 9 then .int .u8 (0) else if zq < 10 then .int .u64 (0) else if zq < 12 then .int .i64 (0) else .int .u64 (0)) (y := evY V14) (by rfl) rfl rfl h2 rfl (evY_one _) (by kernel_rfl) m124 (i := 0) (by omega) fun w25 m125 s26 z23 => ?_))))))
         have m126 : Fx.Blk w25 g2 14 (evY V14) 54 := Fx.ovr_all m125
         have m128 := m122.stp s26 (by omega)
         have b27 := s26.below b26 b26.size (by omega)
         refine Fx.L.nil (Fx.seqN (Fx.W.ret (⟨.agg (Fx.varr 14 (evY V14)), Fx.retV1 Try.results70 ⟨_, h2, Fx.run_loadV m126.cel (by kernel_rfl) (by kernel_rfl)⟩, ?_⟩)))
         exact ⟨V14, wfV14, smV14, rfl, b27⟩
        ·refine Fx.L.v (.bool false) (x_eqlF rfl rfl rfl c135) (Fx.L.v (.bool false) (x_assign rfl rfl) (Fx.L.nil (Fx.seqN (Fx.W.cond (b := false) rfl (fun h => nomatch h) (fun _ => Fx.W.skip (Fx.blkN (Fx.seqN (Fx.W.seq (Fx.W.list (Fx.L.v (.agg (Fx.varr 14 (evY V0))) (x_loadA (x := evY V0) (y := evY V0) rfl h3 (by kernel_rfl) (by kernel_rfl) m44.cel (i := 0) (by omega) (by omega) (fun j _ => by rw [Nat.zero_add])) (Fx.L.storeA (x := fun zq => if zq < 1 then .int .i64 (0) else if zq < 8 then .int .u64 (0) else if zq < 9 then .int .u8 (0) else if zq < 10 then .int .u64 (0) else if zq < 12 then .int .i64 (0) else .int .u64 (0)) (y := evY V0) (by rfl) rfl rfl h2 rfl (evY_one _) (by kernel_rfl) m43 (i := 0) (by omega) fun w26 m129 s27 z24 => ?_)))))))))))
         have m130 : Fx.Blk w26 g2 14 (evY V0) 54 := Fx.ovr_all m129
         have m132 := m44.stp s27 (by omega)
         have b28 := s27.below b6 b6.size (by omega)
         refine Fx.L.nil (Fx.seqN (Fx.W.ret (⟨.agg (Fx.varr 14 (evY V0)), Fx.retV1 Try.results70 ⟨_, h2, Fx.run_loadV m130.cel (by kernel_rfl) (by kernel_rfl)⟩, ?_⟩)))
         exact ⟨V0, wf0, sm0, rfl, b28⟩
theorem Rt.apply_may {L : LdC} {v : EvM} (h : applyE L v = 0) : mayE v = true := by
  unfold applyE at h
  split at h; · cases h
  rename_i h1; simpa using h1
theorem WldO.mono {w : World} {B p T T' : Nat} {M : WM} (h : WldO w B p M T) (hT : T ≤ T') : WldO w B p M T' := { h with inv := fun i hi => (h.inv i hi).mono hT }
set_option maxRecDepth 20000 in
set_option maxHeartbeats 2000000 in
theorem l_doM (M : WM) (B p T : Nat) (x : ActM) (w : World) (hW : WldO w B p M T) (hB : B ≤ w.heap.size) (hx : ActOk x) (han : M.an ≤ 60) (hT : T ≤ 890000) :
    Calls Try.prog 23 #[.pointer (some ⟨p, 0, none⟩), .agg (Fx.varr 9 (actY x))] w fun e w' => (∃ v, e = .returned v) ∧ ∃ M', WldO w' B p M' (T + 3660) ∧ M'.n = M.n ∧ M'.an ≤ M.an + 1 ∧ (x.meet = true → M'.an = M.an) ∧ Below B w w' := by
 have hWc := hW.c
 have hWl := hW.l
 have hWa := hW.a
 have hWg := hW.g
 have hn1 := hW.n1
 have hn6 := hW.n6
 have hpB := hW.pB
 have lpp : p < w.heap.size := hWc.lt
 have hxw := hx.who
 have hxo := hx.other
 have hxk := hx.kind
 have hxn := hx.node
 have hxt := hx.dst
 have hxa := hx.amt
 have hxr := hx.req
 have hxf := hx.of
 refine Fx.enter Try.func23 rfl (n := 94) rfl (by rfl) ?_
 refine Fx.W.seq (Fx.W.list (Fx.L.box (m := 9) (y := actY x) (by rfl) rfl rfl (Fx.cells_agg _ _) rfl fun g1 w1 eg1 m1 s1 z1 => ?_))
 have m2 := hWc.stp s1 (Nat.ne_of_lt (hWc.lt))
 have m3 := hWl.stp s1 (hWl.notNew (Nat.le_refl _))
 have m4 := hWa.stp s1 (hWa.notNew (Nat.le_refl _))
 have m5 := hWg.up s1.old
 have m6 := hW.up s1.old
 have b1 := s1.below (Below.refl B w) (Nat.le_trans hB (Below.refl B w).size) (Nat.le_trans hB (Below.refl B w).size)
 have lg1 : w.heap.size ≤ g1 := by rw [eg1]; exact (Below.refl B w).size
 have ng1m2 : p ≠ g1 := by rw [eg1]; exact Nat.ne_of_lt (hWc.lt)
 have tg1 : g1 < w1.heap.size := m1.lt
 clear eg1
 refine Fx.L.new (m := 14) (y := fun zq => if zq < 1 then .int .i64 (0) else if zq < 8 then .int .u64 (0) else if zq < 9 then .int .u8 (0) else if zq < 10 then .int .u64 (0) else if zq < 12 then .int .i64 (0) else .int .u64 (0)) (by rfl) rfl (by kernel_rfl) rfl fun g2 w2 eg2 m7 s2 z2 => ?_
 have m8 := m2.stp s2 (Nat.ne_of_lt (m2.lt))
 have m9 := m3.stp s2 (m3.notNew (Nat.le_refl _))
 have m10 := m4.stp s2 (m4.notNew (Nat.le_refl _))
 have m11 := m5.up s2.old
 have m12 := m6.up s2.old
 have m13 := m1.stp s2 (Nat.ne_of_lt (m1.lt))
 have b2 := s2.below b1 (Nat.le_trans hB b1.size) (Nat.le_trans hB b1.size)
 have lg2 : w.heap.size ≤ g2 := by rw [eg2]; exact b1.size
 have ng2m8 : p ≠ g2 := by rw [eg2]; exact Nat.ne_of_lt (m2.lt)
 have ng2m10 : (.slice M.aa (M.an) (M.ac) : Value).ownBlock ≠ some g2 := by rw [eg2]; exact m4.notNew (Nat.le_refl _)
 have ng2m13 : g1 ≠ g2 := by rw [eg2]; exact Nat.ne_of_lt (m1.lt)
 have tg2 : g2 < w2.heap.size := m7.lt
 clear eg2
 refine Fx.L.nil (Fx.seqN (Fx.W.seq ?_))
 obtain ⟨o, eo⟩ : ∃ r, r = x.who % M.n := ⟨_, rfl⟩
 have ho : o < M.n := by rw [eo]; exact Nat.mod_lt _ (by omega)
 -- region 1 draws
 refine Fx.W.quiet (fun v1 => ∃ q, v1 = World.drewN w2 q) (by kernel_rfl) (by kernel_rfl) ⟨1, rfl⟩ ?_
 refine Fx.Qt.v (.pointer (some ⟨g1, 0, none⟩)) (fun v1 hv1 => x_field rfl rfl Try.underlying58 rfl (s := 1) (by kernel_rfl) rfl rfl) (Fx.Qt.v (.int .u8 ((x.who : Int))) (fun v1 hv1 => x_load1 (x := actY x) rfl rfl (by kernel_rfl) (by obtain ⟨qd, rfl⟩ := hv1; exact m13.cel) (i := 0) (by omega) (by omega) rfl) (Fx.Qt.v (.int .i64 ((x.who : Int))) (fun v1 hv1 => x_conv rfl rfl (by kernel_rfl) Try.underlying3 (Fx.i64e (by omega) rfl)) (Fx.Qt.v (.pointer (some ⟨p, 0, none⟩)) (fun v1 hv1 => x_move rfl rfl) (Fx.Qt.v (.pointer (some ⟨p, 0, none⟩)) (fun v1 hv1 => x_nil rfl rfl) (Fx.Qt.v (.pointer (some ⟨p, 0, none⟩)) (fun v1 hv1 => x_field rfl rfl Try.underlying63 rfl (s := 1) (by kernel_rfl) rfl rfl) (Fx.Qt.v (.slice M.la (M.n) (M.lc)) (fun v1 hv1 => x_load1 (x := wdY (.slice M.la (M.n) (M.lc)) (.slice M.aa (M.an) (M.ac))) rfl rfl (by kernel_rfl) (by obtain ⟨qd, rfl⟩ := hv1; exact m8.cel) (i := 0) (by omega) (by omega) rfl) (Fx.Qt.v (.int .i64 ((M.n : Int))) (fun v1 hv1 => x_len rfl rfl rfl (by kernel_rfl)) (Fx.Qt.v (.int .i64 ((o : Int))) (fun v1 hv1 => Fx.x_rem rfl rfl rfl (by omega) (remL eo)) (Fx.Qt.v (.int .i64 ((o : Int))) (fun v1 hv1 => x_assign rfl rfl) (Fx.Qt.nil ?_))))))))))
 rintro _ ⟨qd, rfl⟩
 obtain ⟨wq1, ewq1⟩ : ∃ v1, v1 = World.drewN w2 qd := ⟨_, rfl⟩
 rw [← ewq1]
 have s3 : Fx.Stp w2.heap.size w2 wq1 := by rw [ewq1]; exact Fx.Stp.of_below (bdrN w2 qd)
 have m14 := m8.stp s3 (Nat.ne_of_lt (m8.lt))
 have m15 := m9.stp s3 (m9.notNew (Nat.le_refl _))
 have m16 := m10.stp s3 (m10.notNew (Nat.le_refl _))
 have m17 := m11.up s3.old
 have m18 := m12.up s3.old
 have m19 := m13.stp s3 (Nat.ne_of_lt (m13.lt))
 have m20 := m7.stp s3 (Nat.ne_of_lt (m7.lt))
 have b3 := s3.below b2 (Nat.le_trans hB b2.size) (Nat.le_trans hB b2.size)
 clear ewq1
 refine Fx.seqN (Fx.W.seq (Fx.W.seq (Fx.W.list (Fx.L.v (.pointer (some ⟨g1, 1, none⟩)) (x_field rfl rfl Try.underlying58 rfl (s := 1) (by kernel_rfl) rfl (by show _ + 1 = _; omega)) ?_))))
 by_cases c19 : x.meet = true
 ·refine Fx.L.v (.bool true) (x_load1 (x := actY x) rfl rfl (by kernel_rfl) m19.cel (i := 1) (by omega) (by omega) ((show _ = Value.bool x.meet from rfl).trans (congrArg Value.bool c19))) (Fx.L.nil (Fx.seqN (Fx.W.cond (b := true) rfl (fun _ => Fx.W.seq ?_) (fun h => nomatch h))))
  obtain ⟨r48, er48⟩ : ∃ r, r = x.other % M.n := ⟨_, rfl⟩
  have hr48 : r48 < M.n := by rw [er48]; exact Nat.mod_lt _ (by omega)
  have hLo1 := m17 r48 (by omega)
  have hLo1c := hLo1.c
  have hLo2 := m17 o (by omega)
  -- region 3 draws
  refine Fx.W.reord [0, 1, 2, 4, 5, 6, 7, 9, 12, 13, 14, 16, 17, 18, 20, 23, 24, 25, 3, 8, 10, 11, 15, 19, 21, 22, 26, 27, 28, 29, 30, 31, 32, 33, 34, 35, 36, 37] [0, 0, 0, 1, 0, 0, 0, 0, 4, 0, 0, 4, 0, 0, 0, 4, 0, 0, 0, 4, 0, 4, 0, 0, 0, 0, 4, 0, 0, 0, 4, 0, 0, 0, 4, 2, 0, 3] Fx.Mk Fx.Mk.refl Fx.Mk.trans (certs := [(37, 3, [3]), (35, 8, [11, 10, 8]), (37, 8, [8]), (35, 11, [11]), (37, 11, [11]), (35, 15, [15]), (37, 15, [15]), (35, 19, [34, 33, 32, 31, 30, 29, 19]), (37, 19, [19]), (35, 21, [34, 33, 32, 31, 30, 29, 28, 22, 21]), (37, 21, [21]), (35, 26, [34, 33, 32, 31, 30, 29, 28, 27, 26]), (37, 26, [26]), (35, 30, [34, 33, 32, 31, 30]), (37, 30, [30]), (35, 34, [34]), (37, 34, [34]), (36, 35, [35]), (37, 35, [35])]) (by kernel_rfl) (by kernel_rfl) (by kernel_rfl) (by kernel_rfl) (by kernel_rfl) fun wt1 hbwt1 hzwt1 => ?_
  have s4 : Fx.Stp wq1.heap.size wq1 wt1 := Fx.Stp.of_below hbwt1
  have m21 := m14.stp s4 (Nat.ne_of_lt (m14.lt))
  have m22 := m15.stp s4 (m15.notNew (Nat.le_refl _))
  have m23 := m16.stp s4 (m16.notNew (Nat.le_refl _))
  have m24 := m17.up s4.old
  have m25 := m19.stp s4 (Nat.ne_of_lt (m19.lt))
  have m26 := m20.stp s4 (Nat.ne_of_lt (m20.lt))
  have m27 := hLo1c.stp s4 (Nat.ne_of_lt (hLo1c.lt))
  have m28 := hLo2.up s4.old
  have b4 := s4.below b3 (Nat.le_trans hB b3.size) (Nat.le_trans hB b3.size)
  refine Fx.R.p (.pointer (some ⟨p, 0, none⟩)) (fun v1 => x_move rfl rfl) (Fx.R.p (.pointer (some ⟨p, 0, none⟩)) (fun v1 => x_nil rfl rfl) (Fx.R.p (.pointer (some ⟨p, 0, none⟩)) (fun v1 => x_field rfl rfl Try.underlying63 rfl (s := 1) (by kernel_rfl) rfl rfl) (Fx.R.p (.int .i64 ((o : Int))) (fun v1 => x_move rfl rfl) (Fx.R.p (.pointer (some ⟨p, 0, none⟩)) (fun v1 => x_move rfl rfl) (Fx.R.p (.pointer (some ⟨p, 0, none⟩)) (fun v1 => x_nil rfl rfl) (Fx.R.p (.pointer (some ⟨p, 0, none⟩)) (fun v1 => x_field rfl rfl Try.underlying63 rfl (s := 1) (by kernel_rfl) rfl rfl) (Fx.R.p (.int .i64 ((o : Int))) (fun v1 => x_move rfl rfl) (Fx.R.p (.pointer (some ⟨p, 0, none⟩)) (fun v1 => x_move rfl rfl) (Fx.R.p (.pointer (some ⟨p, 0, none⟩)) (fun v1 => x_nil rfl rfl) (Fx.R.p (.pointer (some ⟨p, 1, none⟩)) (fun v1 => x_field rfl rfl Try.underlying63 rfl (s := 1) (by kernel_rfl) rfl (by show _ + 1 = _; omega)) (Fx.R.p (.pointer (some ⟨p, 0, none⟩)) (fun v1 => x_move rfl rfl) (Fx.R.p (.pointer (some ⟨p, 0, none⟩)) (fun v1 => x_nil rfl rfl) (Fx.R.p (.pointer (some ⟨p, 0, none⟩)) (fun v1 => x_field rfl rfl Try.underlying63 rfl (s := 1) (by kernel_rfl) rfl rfl) (Fx.R.p (.pointer (some ⟨g1, 2, none⟩)) (fun v1 => x_field rfl rfl Try.underlying58 rfl (s := 1) (by kernel_rfl) rfl (by show _ + 2 = _; omega)) (Fx.R.p (.pointer (some ⟨p, 0, none⟩)) (fun v1 => x_move rfl rfl) (Fx.R.p (.pointer (some ⟨p, 0, none⟩)) (fun v1 => x_nil rfl rfl) (Fx.R.p (.pointer (some ⟨p, 0, none⟩)) (fun v1 => x_field rfl rfl Try.underlying63 rfl (s := 1) (by kernel_rfl) rfl rfl) (Fx.R.read (v := .slice M.la (M.n) (M.lc)) (by rfl) (by rfl) (Fx.Mk.refl _) (fun v1 hv1 => x_load1 (x := wdY (.slice M.la (M.n) (M.lc)) (.slice M.aa (M.an) (M.ac))) rfl rfl (by kernel_rfl) (m21.cel.below hv1 (by have := m21.lt; omega)) (i := 0) (by omega) (by omega) rfl) ?_))))))))))))))))))
  refine Fx.R.s (.slice M.la (M.n) (M.lc)) (x_load1 (x := wdY (.slice M.la (M.n) (M.lc)) (.slice M.aa (M.an) (M.ac))) rfl rfl (by kernel_rfl) m21.cel (i := 0) (by omega) (by omega) rfl) ?_
  obtain ⟨gq1, eq1⟩ := m22.addr (by omega)
  have m29 : Fx.Own wt1 B 59 1 (.slice (some ⟨gq1, 0, none⟩) M.n M.lc) M.n (ptX M.pl) := m22.congV (congrArg (fun q => Value.slice q M.n M.lc) eq1)
  refine Fx.R.p (.pointer (some ⟨gq1, o, none⟩)) (fun v1 => x_indexS rfl (rfl.trans (congrArg (fun q => Value.slice q (M.n) (M.lc)) eq1)) rfl Try.underlying60 (s := 1) (by kernel_rfl) (by omega) (by omega) (by omega)) (Fx.R.s (.pointer (some ⟨(M.pl o), 0, none⟩)) (x_load1 (x := ptX M.pl) rfl rfl (by kernel_rfl) m29.cel (i := o) (by omega) (by omega) rfl) ?_)
  refine Fx.R.s (.slice M.aa (M.an) (M.ac)) (x_load1 (x := wdY (.slice M.la (M.n) (M.lc)) (.slice M.aa (M.an) (M.ac))) rfl rfl (by kernel_rfl) m21.cel (i := 1) (by omega) (by omega) rfl) ?_
  refine Fx.R.s (.slice M.la (M.n) (M.lc)) (x_load1 (x := wdY (.slice M.la (M.n) (M.lc)) (.slice M.aa (M.an) (M.ac))) rfl rfl (by kernel_rfl) m21.cel (i := 0) (by omega) (by omega) rfl) ?_
  refine Fx.R.s (.int .u8 ((x.other : Int))) (x_load1 (x := actY x) rfl rfl (by kernel_rfl) m25.cel (i := 2) (by omega) (by omega) rfl) ?_
  refine Fx.R.p (.int .i64 ((x.other : Int))) (fun v1 => x_conv rfl rfl (by kernel_rfl) Try.underlying3 (Fx.i64e (by omega) rfl)) (Fx.R.s (.slice M.la (M.n) (M.lc)) (x_load1 (x := wdY (.slice M.la (M.n) (M.lc)) (.slice M.aa (M.an) (M.ac))) rfl rfl (by kernel_rfl) m21.cel (i := 0) (by omega) (by omega) rfl) ?_)
  refine Fx.R.p (.int .i64 ((M.n : Int))) (fun v1 => x_len rfl rfl rfl (by kernel_rfl)) (Fx.R.p (.int .i64 ((r48 : Int))) (fun v1 => Fx.x_rem rfl rfl rfl (by omega) (remL er48)) (Fx.R.p (.pointer (some ⟨gq1, r48, none⟩)) (fun v1 => x_indexS rfl (rfl.trans (congrArg (fun q => Value.slice q (M.n) (M.lc)) eq1)) rfl Try.underlying60 (s := 1) (by kernel_rfl) (by omega) (by omega) (by omega)) (Fx.R.s (.pointer (some ⟨(M.pl r48), 0, none⟩)) (x_load1 (x := ptX M.pl) rfl rfl (by kernel_rfl) m29.cel (i := r48) (by omega) (by omega) rfl) ?_)))
  refine Fx.R.p (.pointer (some ⟨(M.pl r48), 0, none⟩)) (fun v1 => x_nil rfl rfl) (Fx.R.p (.pointer (some ⟨(M.pl r48), 0, none⟩)) (fun v1 => x_field rfl rfl Try.underlying71 rfl (s := 20) (by kernel_rfl) rfl rfl) (Fx.R.p (.pointer (some ⟨(M.pl r48), 12, none⟩)) (fun v1 => x_field rfl rfl Try.underlying43 rfl (s := 6) (by kernel_rfl) rfl (by show _ + 12 = _; omega)) (Fx.R.s (.agg (Fx.varr 6 (Fx.rv .u64 ((M.ml r48).s.known)))) (x_loadA (x := ldY (M.ml r48)) (y := Fx.rv .u64 ((M.ml r48).s.known)) rfl rfl (by kernel_rfl) (by kernel_rfl) m27.cel (i := 12) (by omega) (by omega) (fun j hj => ldY_st _ (by omega) (stY_known _ hj (by omega)))) ?_)))
  refine Fx.R.make (by rfl) ?_
  refine Fx.L.call (by rfl) (Fx.r_call (args := [.pointer (some ⟨(M.pl o), 0, none⟩), .slice M.aa (M.an) (M.ac), .agg (Fx.varr 6 (Fx.rv .u64 ((M.ml r48).s.known)))]) rfl rfl Try.func69 rfl rfl) rfl ((l_learn (M.ml o) B (M.pl o) T M.aa M.an M.ac M.ev ((M.ml r48).s.known) _ m28 (hW.inv o (by omega)) m23.arr hW.wf hW.may hW.sm han hT).mono ?_)
  rintro e9 w3 ⟨p3, m3, he, _, hI3, hL1, hb1⟩
  refine ⟨.pointer (some ⟨p3, 0, none⟩), he, ?_⟩
  clear he
  have s5 := Fx.Stp.of_below hb1
  have m30 := m21.stp s5 (Nat.ne_of_lt (m21.lt))
  have m31 := m23.stp s5 (m23.notNew (Nat.le_refl _))
  have m32 := m24.up s5.old
  have m34 := m26.stp s5 (Nat.ne_of_lt (m26.lt))
  have m36 := m29.stpB s5 (Nat.ne_of_lt (m29.lt))
  have b5 := s5.below b4 (Nat.le_trans hB b4.size) (Nat.le_trans hB b4.size)
  refine Fx.L.nil ⟨s5.old, ?_⟩
  refine Fx.R.p (.pointer (some ⟨gq1, o, none⟩)) (fun v1 => x_indexS rfl (rfl.trans (congrArg (fun q => Value.slice q (M.n) (M.lc)) eq1)) rfl Try.underlying60 (s := 1) (by kernel_rfl) (by omega) (by omega) (by omega)) (Fx.R.eff (by rfl) ?_)
  refine Fx.L.own1 (x := ptX M.pl) (u := .pointer (some ⟨p3, 0, none⟩)) (by rfl) rfl rfl rfl rfl (by rfl) (by kernel_rfl) m36 (i := o) (by omega) fun w4 m37 s6 z3 => ?_
  have hct1 := Fx.ChT.of_stp s6 m36.tyB
  have m38 := m30.chT hct1 (by decide)
  have m39 := m31.chT hct1 (by decide)
  have m40 := m32.chT hct1 (by decide)
  have m42 := m34.chT hct1 (by decide)
  have m44 := hL1.chT hct1 (by decide)
  have b6 := s6.below b5 (Nat.le_trans hB b5.size) m36.blk.1
  have m45 : Fx.Own w4 B 59 1 (.slice (some ⟨gq1, 0, none⟩) M.n M.lc) M.n (ptX (updA M.pl o p3)) := m37.congr (fun jq _ => congrFun pt_put jq)
  refine Fx.L.nil (Fx.R.nil (Fx.seqN (Fx.W.seq (Fx.W.list (Fx.L.v (.agg (Fx.varr 14 (fun zq => if zq < 1 then .int .i64 (0) else if zq < 8 then .int .u64 (0) else if zq < 9 then .int .u8 (0) else if zq < 10 then .int .u64 (0) else if zq < 12 then .int .i64 (0) else .int .u64 (0)))) (x_build (vs := []) (places := #[(0, 1), (1, 1), (2, 6), (8, 1), (9, 1), (10, 1), (11, 1), (12, 1), (13, 1)]) (m := 14) (x := fun zq => if zq < 1 then .int .i64 (0) else if zq < 8 then .int .u64 (0) else if zq < 9 then .int .u8 (0) else if zq < 10 then .int .u64 (0) else if zq < 12 then .int .i64 (0) else .int .u64 (0)) rfl rfl Try.underlying54 (by kernel_rfl) (by kernel_rfl) (by rfl)) (Fx.L.storeA (x := fun zq => if zq < 1 then .int .i64 (0) else if zq < 8 then .int .u64 (0) else if zq < 9 then .int .u8 (0) else if zq < 10 then .int .u64 (0) else if zq < 12 then .int .i64 (0) else .int .u64 (0)) (y := fun zq => if zq < 1 then .int .i64 (0) else if zq < 8 then .int .u64 (0) else if zq < 9 then .int .u8 (0) else if zq < 10 then .int .u64 (0) else if zq < 12 then .int .i64 (0) else .int .u64 (0)) (by rfl) rfl rfl rfl rfl (fun jq _ => by show ((fun zq => if zq < 1 then .int .i64 (0) else if zq < 8 then .int .u64 (0) else if zq < 9 then .int .u8 (0) else if zq < 10 then .int .u64 (0) else if zq < 12 then .int .i64 (0) else .int .u64 (0) : Nat → Value) jq).oneCell' = true; simp only []; repeat (first | rfl | split)) (by kernel_rfl) m42 (i := 0) (by omega) fun w5 m46 s7 z4 => ?_))))))
  have m47 : Fx.Blk w5 g2 14 (fun zq => if zq < 1 then .int .i64 (0) else if zq < 8 then .int .u64 (0) else if zq < 9 then .int .u8 (0) else if zq < 10 then .int .u64 (0) else if zq < 12 then .int .i64 (0) else .int .u64 (0)) 54 := Fx.ovr_all m46
  have hct2 := Fx.ChT.of_stp s7 m42.ty
  have m48 := m38.chT hct2 (by decide)
  have m49 := m39.stp s7 ng2m10
  have m50 := m40.chT hct2 (by decide)
  have m53 := m44.chT hct2 (by decide)
  have m54 := m45.chT hct2 (by decide)
  have b7 := s7.below b6 (Nat.le_trans hB b6.size) (by omega)
  refine Fx.L.nil (Fx.seqN (Fx.W.ret (Fx.seqR (⟨.agg (Fx.varr 14 (fun zq => if zq < 1 then .int .i64 (0) else if zq < 8 then .int .u64 (0) else if zq < 9 then .int .u8 (0) else if zq < 10 then .int .u64 (0) else if zq < 12 then .int .i64 (0) else .int .u64 (0))), Fx.retV1 Try.results23 ⟨_, rfl, Fx.run_loadV m47.cel (by kernel_rfl) (by kernel_rfl)⟩, ?_⟩))))
  have m55 : Fx.Own w5 B 59 1 (.slice M.la (M.n) (M.lc)) M.n (ptX (updA M.pl o p3)) := m54.congV (congrArg (fun q => Value.slice q M.n M.lc) eq1.symm)
  exact ⟨⟨_, rfl⟩, { M with pl := updA M.pl o p3, ml := updA M.ml o m3 }, { c := m48, l := m55, a := m49, g := m50.put m53, inv := (fun i hi => by show Inv (updA M.ml o m3 i).core _; unfold updA; split; exact hI3; exact (hW.inv i hi).mono (by omega)), wf := hW.wf, may := hW.may, sm := hW.sm, pB := hpB, n1 := hn1, n6 := hn6 }, rfl, (by show M.an ≤ M.an + 1; omega), (fun _ => rfl), b7⟩
 ·rw [Bool.not_eq_true] at c19
  refine Fx.L.v (.bool false) (x_load1 (x := actY x) rfl rfl (by kernel_rfl) m19.cel (i := 1) (by omega) (by omega) ((show _ = Value.bool x.meet from rfl).trans (congrArg Value.bool c19))) (Fx.L.nil (Fx.seqN (Fx.W.cond (b := false) rfl (fun h => nomatch h) (fun _ => Fx.W.skip (Fx.seqN (Fx.W.seq (Fx.W.list (Fx.L.v (.pointer (some ⟨p, 0, none⟩)) (x_move rfl rfl) (Fx.L.v (.agg (Fx.varr 9 (actY x))) (x_loadA (x := actY x) (y := actY x) rfl rfl (by kernel_rfl) (by kernel_rfl) m19.cel (i := 0) (by omega) (by omega) (fun j _ => by rw [Nat.zero_add])) (Fx.L.call (by rfl) (Fx.r_call (args := [.pointer (some ⟨p, 0, none⟩), .agg (Fx.varr 9 (actY x))]) rfl rfl Try.func70 rfl rfl) rfl ((l_event M B p T x _ m18 hx).mono ?_)))))))))))
  rintro e9 w6 ⟨V, hV, hVs, he, hb2⟩
  refine ⟨_, he, ?_⟩
  clear he
  have s8 := Fx.Stp.of_below hb2
  have m56 := m14.stp s8 (Nat.ne_of_lt (m14.lt))
  have m57 := m15.stp s8 (m15.notNew (Nat.le_refl _))
  have m58 := m16.stp s8 (m16.notNew (Nat.le_refl _))
  have m59 := m17.up s8.old
  have m61 := m19.stp s8 (Nat.ne_of_lt (m19.lt))
  have m62 := m20.stp s8 (Nat.ne_of_lt (m20.lt))
  have b8 := s8.below b3 (Nat.le_trans hB b3.size) (Nat.le_trans hB b3.size)
  refine Fx.L.new (m := 14) (y := fun zq => if zq < 1 then .int .i64 (0) else if zq < 8 then .int .u64 (0) else if zq < 9 then .int .u8 (0) else if zq < 10 then .int .u64 (0) else if zq < 12 then .int .i64 (0) else .int .u64 (0)) (by rfl) rfl (by kernel_rfl) rfl fun g3 w7 eg3 m63 s9 z5 => ?_
  have m64 := m56.stp s9 (Nat.ne_of_lt (m56.lt))
  have m65 := m57.stp s9 (m57.notNew (Nat.le_refl _))
  have m66 := m58.stp s9 (m58.notNew (Nat.le_refl _))
  have m67 := m59.up s9.old
  have m68 := m61.stp s9 (Nat.ne_of_lt (m61.lt))
  have m69 := m62.stp s9 (Nat.ne_of_lt (m62.lt))
  have b9 := s9.below b8 (Nat.le_trans hB b8.size) (Nat.le_trans hB b8.size)
  have lg3 : w.heap.size ≤ g3 := by rw [eg3]; exact b8.size
  have ng3m64 : p ≠ g3 := by rw [eg3]; exact Nat.ne_of_lt (m56.lt)
  have ng3m66 : (.slice M.aa (M.an) (M.ac) : Value).ownBlock ≠ some g3 := by rw [eg3]; exact m58.notNew (Nat.le_refl _)
  have ng3m68 : g1 ≠ g3 := by rw [eg3]; exact Nat.ne_of_lt (m61.lt)
  have ng3m69 : g2 ≠ g3 := by rw [eg3]; exact Nat.ne_of_lt (m62.lt)
  have tg3 : g3 < w7.heap.size := m63.lt
  clear eg3
  refine Fx.L.storeA (x := fun zq => if zq < 1 then .int .i64 (0) else if zq < 8 then .int .u64 (0) else if zq < 9 then .int .u8 (0) else if zq < 10 then .int .u64 (0) else if zq < 12 then .int .i64 (0) else .int .u64 (0)) (y := evY V) (by rfl) rfl rfl rfl rfl (evY_one _) (by kernel_rfl) m63 (i := 0) (by omega) fun w8 m70 s10 z6 => ?_
  have m71 : Fx.Blk w8 g3 14 (evY V) 54 := Fx.ovr_all m70
  have hct3 := Fx.ChT.of_stp s10 m63.ty
  have m72 := m64.chT hct3 (by decide)
  have m73 := m65.chT hct3 (by decide)
  have m74 := m66.stp s10 ng3m66
  have m75 := m67.chT hct3 (by decide)
  have m76 := m68.chT hct3 (by decide)
  have m77 := m69.stp s10 (by omega)
  have b10 := s10.below b9 (Nat.le_trans hB b9.size) (by omega)
  refine Fx.L.nil (Fx.seqN (Fx.W.seq ?_))
  have hLo3 := m75 o (by omega)
  -- region 6 draws
  refine Fx.W.reord [0, 1, 2, 4, 3, 5, 6, 7, 8, 9, 10, 11, 12, 13] [0, 0, 0, 4, 0, 0, 4, 4, 3, 0, 0, 0, 0, 0] Fx.Mk Fx.Mk.refl Fx.Mk.trans (certs := [(8, 3, [6, 5, 3]), (8, 6, [6]), (8, 7, [7]), (9, 8, [8]), (10, 8, [9, 8]), (11, 8, [9, 8]), (12, 8, [8]), (13, 8, [8])]) (by kernel_rfl) (by kernel_rfl) (by kernel_rfl) (by kernel_rfl) (by kernel_rfl) fun wt2 hbwt2 hzwt2 => ?_
  have s11 : Fx.Stp w8.heap.size w8 wt2 := Fx.Stp.of_below hbwt2
  have m78 := m72.stp s11 (Nat.ne_of_lt (m72.lt))
  have m79 := m73.stp s11 (m73.notNew (Nat.le_refl _))
  have m80 := m74.stp s11 (m74.notNew (Nat.le_refl _))
  have m81 := m75.up s11.old
  have m82 := m76.stp s11 (Nat.ne_of_lt (m76.lt))
  have m83 := m77.stp s11 (Nat.ne_of_lt (m77.lt))
  have m84 := m71.stp s11 (Nat.ne_of_lt (m71.lt))
  have m85 := hLo3.up s11.old
  have b11 := s11.below b10 (Nat.le_trans hB b10.size) (Nat.le_trans hB b10.size)
  refine Fx.R.p (.pointer (some ⟨p, 0, none⟩)) (fun v1 => x_move rfl rfl) (Fx.R.p (.pointer (some ⟨p, 0, none⟩)) (fun v1 => x_nil rfl rfl) (Fx.R.p (.pointer (some ⟨p, 0, none⟩)) (fun v1 => x_field rfl rfl Try.underlying63 rfl (s := 1) (by kernel_rfl) rfl rfl) (Fx.R.p (.int .i64 ((o : Int))) (fun v1 => x_move rfl rfl) (Fx.R.s (.slice M.la (M.n) (M.lc)) (x_load1 (x := wdY (.slice M.la (M.n) (M.lc)) (.slice M.aa (M.an) (M.ac))) rfl rfl (by kernel_rfl) m78.cel (i := 0) (by omega) (by omega) rfl) ?_))))
  obtain ⟨gq2, eq2⟩ := m79.addr (by omega)
  have m86 : Fx.Own wt2 B 59 1 (.slice (some ⟨gq2, 0, none⟩) M.n M.lc) M.n (ptX M.pl) := m79.congV (congrArg (fun q => Value.slice q M.n M.lc) eq2)
  refine Fx.R.p (.pointer (some ⟨gq2, o, none⟩)) (fun v1 => x_indexS rfl (rfl.trans (congrArg (fun q => Value.slice q (M.n) (M.lc)) eq2)) rfl Try.underlying60 (s := 1) (by kernel_rfl) (by omega) (by omega) (by omega)) (Fx.R.s (.pointer (some ⟨(M.pl o), 0, none⟩)) (x_load1 (x := ptX M.pl) rfl rfl (by kernel_rfl) m86.cel (i := o) (by omega) (by omega) rfl) ?_)
  refine Fx.R.s (.agg (Fx.varr 14 (evY V))) (x_loadA (x := evY V) (y := evY V) rfl rfl (by kernel_rfl) (by kernel_rfl) m84.cel (i := 0) (by omega) (by omega) (fun j _ => by rw [Nat.zero_add])) ?_
  refine Fx.R.eff (by rfl) ?_
  refine Fx.L.call (by rfl) (Fx.r_call (args := [.pointer (some ⟨(M.pl o), 0, none⟩), .agg (Fx.varr 14 (evY V))]) rfl rfl Try.func57 rfl rfl) rfl ((l_apply (M.ml o) B (M.pl o) T V _ m85 hV (hW.inv o (by omega)).w (by omega)).mono ?_)
  rintro e9 w9 ⟨p3, m3, he, hc3, hL2, hb3⟩
  refine ⟨.tuple #[.pointer (some ⟨p3, 0, none⟩), .int .i64 (applyE (M.ml o).core V)], he, ?_⟩
  clear he
  have s12 := Fx.Stp.of_below hb3
  have m87 := m78.stp s12 (Nat.ne_of_lt (m78.lt))
  have m88 := m80.stp s12 (m80.notNew (Nat.le_refl _))
  have m89 := m81.up s12.old
  have m90 := m82.stp s12 (Nat.ne_of_lt (m82.lt))
  have m91 := m83.stp s12 (Nat.ne_of_lt (m83.lt))
  have m92 := m84.stp s12 (Nat.ne_of_lt (m84.lt))
  have m93 := m86.stpB s12 (Nat.ne_of_lt (m86.lt))
  have b12 := s12.below b11 (Nat.le_trans hB b11.size) (Nat.le_trans hB b11.size)
  refine Fx.L.nil (Fx.R.p (.tuple #[.pointer (some ⟨p3, 0, none⟩), .int .i64 (applyE (M.ml o).core V)]) (fun v1 => x_move rfl rfl) (Fx.R.p (.pointer (some ⟨p3, 0, none⟩)) (fun v1 => Fx.x_extract rfl rfl rfl) (Fx.R.p (.int .i64 (applyE (M.ml o).core V)) (fun v1 => Fx.x_extract rfl rfl rfl) (Fx.R.p (.pointer (some ⟨p3, 0, none⟩)) (fun v1 => x_assign rfl rfl) (Fx.R.p (.int .i64 (applyE (M.ml o).core V)) (fun v1 => x_assign rfl rfl) (Fx.R.nil (Fx.seqN (Fx.W.seq (Fx.W.seq (Fx.W.list (Fx.L.v (.int .i64 (applyE (M.ml o).core V)) (x_move rfl rfl) ?_)))))))))))
  by_cases c74 : (applyE (M.ml o).core V) = 0
  ·refine Fx.L.v (.bool false) (Fx.x_neqF rfl rfl rfl c74) (Fx.L.nil (Fx.seqN (Fx.W.cond (b := false) rfl (fun h => nomatch h) (fun _ => Fx.W.skip (Fx.seqN (Fx.W.seq (Fx.W.list (Fx.L.v (.pointer (some ⟨p, 0, none⟩)) (x_move rfl rfl) (Fx.L.v (.pointer (some ⟨p, 0, none⟩)) (x_nil rfl rfl) (Fx.L.v (.pointer (some ⟨p, 0, none⟩)) (x_field rfl rfl Try.underlying63 rfl (s := 1) (by kernel_rfl) rfl rfl) (Fx.L.v (.slice M.la (M.n) (M.lc)) (x_load1 (x := wdY (.slice M.la (M.n) (M.lc)) (.slice M.aa (M.an) (M.ac))) rfl rfl (by kernel_rfl) m87.cel (i := 0) (by omega) (by omega) rfl) (Fx.L.v (.int .i64 ((o : Int))) (x_move rfl rfl) (Fx.L.v (.pointer (some ⟨p3, 0, none⟩)) (x_move rfl rfl) (Fx.L.v (.pointer (some ⟨gq2, o, none⟩)) (x_indexS rfl (rfl.trans (congrArg (fun q => Value.slice q (M.n) (M.lc)) eq2)) rfl Try.underlying60 (s := 1) (by kernel_rfl) (by omega) (by omega) (by omega)) (Fx.L.own1 (x := ptX M.pl) (u := .pointer (some ⟨p3, 0, none⟩)) (by rfl) rfl rfl rfl rfl (by rfl) (by kernel_rfl) m93 (i := o) (by omega) fun w10 m94 s13 z7 => ?_)))))))))))))))
   have hct4 := Fx.ChT.of_stp s13 m93.tyB
   have m95 := m87.chT hct4 (by decide)
   have m96 := m88.chT hct4 (by decide)
   have m97 := m89.chT hct4 (by decide)
   have m98 := m90.chT hct4 (by decide)
   have m99 := m91.chT hct4 (by decide)
   have m100 := m92.chT hct4 (by decide)
   have m101 := hL2.chT hct4 (by decide)
   have b13 := s13.below b12 (Nat.le_trans hB b12.size) m93.blk.1
   have m102 : Fx.Own w10 B 59 1 (.slice (some ⟨gq2, 0, none⟩) M.n M.lc) M.n (ptX (updA M.pl o p3)) := m94.congr (fun jq _ => congrFun pt_put jq)
   refine Fx.L.nil (Fx.seqN (Fx.W.seq ?_))
   have m103 : Fx.Own w10 B 59 1 (.slice M.la (M.n) (M.lc)) M.n (ptX (updA M.pl o p3)) := m102.congV (congrArg (fun q => Value.slice q M.n M.lc) eq2.symm)
   -- region 10 draws
   refine Fx.W.reord [0, 1, 2, 3, 4, 5, 6, 7, 8, 9, 10] [0, 0, 0, 0, 1, 4, 2, 2, 0, 0, 3] (Fx.ChT [54]) Fx.ChT.refl Fx.ChT.trans (certs := [(10, 4, [4]), (6, 5, [5]), (7, 5, [6, 5]), (10, 5, [5]), (7, 6, [6]), (8, 6, [6]), (9, 6, [6]), (10, 6, [6]), (8, 7, [7]), (9, 7, [7]), (10, 7, [7])]) (by kernel_rfl) (by kernel_rfl) (by kernel_rfl) (by kernel_rfl) (by kernel_rfl) fun wt3 hbwt3 hzwt3 => ?_
   have s14 : Fx.Stp w10.heap.size w10 wt3 := Fx.Stp.of_below hbwt3
   have m104 := m95.stp s14 (Nat.ne_of_lt (m95.lt))
   have m105 := m96.stp s14 (m96.notNew (Nat.le_refl _))
   have m106 := m97.up s14.old
   have m107 := m98.stp s14 (Nat.ne_of_lt (m98.lt))
   have m108 := m99.stp s14 (Nat.ne_of_lt (m99.lt))
   have m109 := m100.stp s14 (Nat.ne_of_lt (m100.lt))
   have m110 := m101.up s14.old
   have m111 := m103.stp s14 (m103.notNew (Nat.le_refl _))
   have b14 := s14.below b13 (Nat.le_trans hB b13.size) (Nat.le_trans hB b13.size)
   refine Fx.R.p (.pointer (some ⟨p, 0, none⟩)) (fun v1 => x_move rfl rfl) (Fx.R.p (.pointer (some ⟨p, 0, none⟩)) (fun v1 => x_move rfl rfl) (Fx.R.p (.pointer (some ⟨p, 0, none⟩)) (fun v1 => x_nil rfl rfl) (Fx.R.p (.pointer (some ⟨p, 1, none⟩)) (fun v1 => x_field rfl rfl Try.underlying63 rfl (s := 1) (by kernel_rfl) rfl (by show _ + 1 = _; omega)) (Fx.R.read (v := .slice M.aa (M.an) (M.ac)) (by rfl) (by rfl) (Fx.ChT.refl _) (fun v1 hv1 => x_load1 (x := wdY (.slice M.la (M.n) (M.lc)) (.slice M.aa (M.an) (M.ac))) rfl rfl (by kernel_rfl) (m104.chT hv1 (by decide)).cel (i := 1) (by omega) (by omega) rfl) ?_))))
   refine Fx.R.s (.agg (Fx.varr 14 (evY V))) (x_loadA (x := evY V) (y := evY V) rfl rfl (by kernel_rfl) (by kernel_rfl) m109.cel (i := 0) (by omega) (by omega) (fun j _ => by rw [Nat.zero_add])) ?_
   refine Fx.R.make (by rfl) ?_
   refine Fx.L.bslice (vs := [(0, .agg (Fx.varr 14 (evY V)))]) (s := 14) (zc := fun zq => if zq < 1 then .int .i64 (0) else if zq < 8 then .int .u64 (0) else if zq < 9 then .int .u8 (0) else if zq < 10 then .int .u64 (0) else if zq < 12 then .int .i64 (0) else .int .u64 (0)) (y := Fx.ovr (fun j => (fun zq => if zq < 1 then .int .i64 (0) else if zq < 8 then .int .u64 (0) else if zq < 9 then .int .u8 (0) else if zq < 10 then .int .u64 (0) else if zq < 12 then .int .i64 (0) else .int .u64 (0)) (j % 14)) (0 * 14) 14 (evY V)) (by rfl) rfl rfl Try.underlying61 (by kernel_rfl) (by rfl) (by rfl) (by kernel_rfl) (by rw [Fx.fill_step (off := 0 * 14) (s := 14) (y := evY V) rfl (Fx.cells_agg _ _) (by rfl)]; rfl) rfl fun g4 w11 eg4 m112 s15 z8 => ?_
   have m113 := m104.stp s15 (Nat.ne_of_lt (m104.lt))
   have m114 := m105.stp s15 (m105.notNew (Nat.le_refl _))
   have m115 := m106.up s15.old
   have m117 := m108.stp s15 (Nat.ne_of_lt (m108.lt))
   have m118 := m109.stp s15 (Nat.ne_of_lt (m109.lt))
   have m119 := m110.up s15.old
   have m120 := m111.stp s15 (m111.notNew (Nat.le_refl _))
   have b15 := s15.below b14 (Nat.le_trans hB b14.size) (Nat.le_trans hB b14.size)
   have lg4 : w.heap.size ≤ g4 := by rw [eg4]; exact b14.size
   have ng4m113 : p ≠ g4 := by rw [eg4]; exact Nat.ne_of_lt (m104.lt)
   have ng4m114 : (.slice M.aa (M.an) (M.ac) : Value).ownBlock ≠ some g4 := by rw [eg4]; exact m105.notNew (Nat.le_refl _)
   have ng4m116 : g1 ≠ g4 := by rw [eg4]; exact Nat.ne_of_lt (m107.lt)
   have ng4m117 : g2 ≠ g4 := by rw [eg4]; exact Nat.ne_of_lt (m108.lt)
   have ng4m118 : g3 ≠ g4 := by rw [eg4]; exact Nat.ne_of_lt (m109.lt)
   have tg4 : g4 < w11.heap.size := m112.lt
   clear eg4
   refine Fx.L.nil ⟨Fx.ChT.of_below s15.old, ?_⟩
   refine Fx.R.make (by rfl) ?_
   refine Fx.L.app (B := B) (s := 14) (bytes := 112) (k := M.an) (m := 1) (v := .slice M.aa (M.an) (M.ac)) (x := evX M.ev) (by rfl) rfl rfl rfl Try.underlying61 (by kernel_rfl) (by kernel_rfl) rfl rfl m114 m112.cel (ovr_one (fun j => (show (evY V j).oneCell' = true by unfold evY; repeat (first | rfl | split)))) (by omega) (by omega) (by omega) (Nat.le_trans hB b15.size) fun g5 cap1 w12 ho1 hg1 hgv1 hlt1 => ?_
   have hct5 := Fx.ChT.of_grown hg1 m114
   have m122 := m113.chT hct5 (by decide)
   have m123 := m115.chT hct5 (by decide)
   have m125 := m117.grown hg1 ng2m10
   have ng5m125 : g2 ≠ g5 := fun e => hgv1.elim (fun e2 => ng2m10 (by rw [e]; exact e2)) (fun e2 => by have := m117.lt; omega)
   have m126 := m118.grown hg1 ng3m66
   have ng5m126 : g3 ≠ g5 := fun e => hgv1.elim (fun e2 => ng3m66 (by rw [e]; exact e2)) (fun e2 => by have := m118.lt; omega)
   have m127 := m119.chT hct5 (by decide)
   have m128 := m120.chT hct5 (by decide)
   have m121 : Fx.Own w12 B 54 14 (.slice (some ⟨g5, 0, none⟩) (M.an + 1) cap1) (M.an + 1) (evX (updA M.ev M.an V)) := (ho1.congr (fun j hj => ev_app j hj))
   have b16 : Below B w w12 := Fx.Below.grow b15 hg1 (Nat.le_trans hB b15.size) (fun q hq => (m114.ge hq).1)
   refine Fx.L.nil ⟨hct5, ?_⟩
   refine Fx.R.p (.pointer (some ⟨p, 0, none⟩)) (fun v1 => x_nil rfl rfl) (Fx.R.p (.pointer (some ⟨p, 1, none⟩)) (fun v1 => x_field rfl rfl Try.underlying63 rfl (s := 1) (by kernel_rfl) rfl (by show _ + 1 = _; omega)) (Fx.R.eff (by rfl) ?_))
   refine Fx.L.store1 (x := wdY (.slice M.la (M.n) (M.lc)) (.slice M.aa (M.an) (M.ac))) (u := .slice (some ⟨g5, 0, none⟩) (M.an + 1) (cap1)) (by rfl) rfl rfl rfl rfl (by rfl) (by kernel_rfl) m122 (i := 1) (by omega) fun w13 m129 s16 z9 => ?_
   have m130 : Fx.Blk w13 p 2 (wdY (.slice M.la (M.n) (M.lc)) (.slice (some ⟨g5, 0, none⟩) (M.an + 1) (cap1))) 63 := m129.congr (wdY_1 _ _ _)
   have hct6 := Fx.ChT.of_stp s16 m122.ty
   have m131 := m123.chT hct6 (by decide)
   have m133 := m125.chT hct6 (by decide)
   have m134 := m126.chT hct6 (by decide)
   have m135 := m127.chT hct6 (by decide)
   have m136 := m128.chT hct6 (by decide)
   have m137 := m121.chT hct6 (by decide)
   have b17 := s16.below b16 (Nat.le_trans hB b16.size) (by omega)
   refine Fx.L.nil (Fx.R.nil (Fx.seqN (Fx.W.seq (Fx.W.list (Fx.L.v (.agg (Fx.varr 14 (evY V))) (x_loadA (x := evY V) (y := evY V) rfl rfl (by kernel_rfl) (by kernel_rfl) m134.cel (i := 0) (by omega) (by omega) (fun j _ => by rw [Nat.zero_add])) (Fx.L.storeA (x := fun zq => if zq < 1 then .int .i64 (0) else if zq < 8 then .int .u64 (0) else if zq < 9 then .int .u8 (0) else if zq < 10 then .int .u64 (0) else if zq < 12 then .int .i64 (0) else .int .u64 (0)) (y := evY V) (by rfl) rfl rfl rfl rfl (evY_one _) (by kernel_rfl) m133 (i := 0) (by omega) fun w14 m138 s17 z10 => ?_))))))
   have m139 : Fx.Blk w14 g2 14 (evY V) 54 := Fx.ovr_all m138
   have hct7 := Fx.ChT.of_stp s17 m133.ty
   have m140 := m131.chT hct7 (by decide)
   have m142 := m134.stp s17 (by omega)
   have m143 := m135.chT hct7 (by decide)
   have m144 := m136.chT hct7 (by decide)
   have m145 := m137.stpB s17 (by omega)
   have m146 := m130.chT hct7 (by decide)
   have b18 := s17.below b17 (Nat.le_trans hB b17.size) (by omega)
   refine Fx.L.nil (Fx.seqN (Fx.W.ret (⟨.agg (Fx.varr 14 (evY V)), Fx.retV1 Try.results23 ⟨_, rfl, Fx.run_loadV m139.cel (by kernel_rfl) (by kernel_rfl)⟩, ?_⟩)))
   have hinv : Inv m3.core (T + 3660) := by rw [hc3]; exact (inv_apply hVs (hW.inv o (by omega))).mono (by omega)
   exact ⟨⟨_, rfl⟩, { M with pl := updA M.pl o p3, ml := updA M.ml o m3, an := M.an + 1, aa := some ⟨g5, 0, none⟩, ac := cap1, ev := updA M.ev M.an V }, { c := m146, l := m144, a := m145, g := m140.put m143, inv := (fun i hi => by show Inv (updA M.ml o m3 i).core _; unfold updA; split; exact hinv; exact (hW.inv i hi).mono (by omega)), wf := (fun k hk => by have hk2 : k < M.an + 1 := hk; show EvWf (updA M.ev M.an V k); unfold updA; split; exact hV; exact hW.wf k (by omega)), may := (fun k hk => by have hk2 : k < M.an + 1 := hk; show mayE (updA M.ev M.an V k) = true; unfold updA; split; exact apply_may c74; exact hW.may k (by omega)), sm := (fun k hk => by have hk2 : k < M.an + 1 := hk; show EvSm (updA M.ev M.an V k); unfold updA; split; exact hVs; exact hW.sm k (by omega)), pB := hpB, n1 := hn1, n6 := hn6 }, rfl, Nat.le_refl _, (fun hq => by rw [c19] at hq; cases hq), b18⟩
  ·refine Fx.L.v (.bool true) (Fx.x_neqT rfl rfl rfl c74) (Fx.L.nil (Fx.seqN (Fx.W.cond (b := true) rfl (fun _ => Fx.W.seq (Fx.W.list (Fx.L.v (.agg (Fx.varr 14 (fun zq => if zq < 1 then .int .i64 (0) else if zq < 8 then .int .u64 (0) else if zq < 9 then .int .u8 (0) else if zq < 10 then .int .u64 (0) else if zq < 12 then .int .i64 (0) else .int .u64 (0)))) (x_build (vs := []) (places := #[(0, 1), (1, 1), (2, 6), (8, 1), (9, 1), (10, 1), (11, 1), (12, 1), (13, 1)]) (m := 14) (x := fun zq => if zq < 1 then .int .i64 (0) else if zq < 8 then .int .u64 (0) else if zq < 9 then .int .u8 (0) else if zq < 10 then .int .u64 (0) else if zq < 12 then .int .i64 (0) else .int .u64 (0)) rfl rfl Try.underlying54 (by kernel_rfl) (by kernel_rfl) (by rfl)) ?_))) (fun h => nomatch h))))
   refine Fx.L.storeA (x := fun zq => if zq < 1 then .int .i64 (0) else if zq < 8 then .int .u64 (0) else if zq < 9 then .int .u8 (0) else if zq < 10 then .int .u64 (0) else if zq < 12 then .int .i64 (0) else .int .u64 (0)) (y := fun zq => if zq < 1 then .int .i64 (0) else if zq < 8 then .int .u64 (0) else if zq < 9 then .int .u8 (0) else if zq < 10 then .int .u64 (0) else if zq < 12 then .int .i64 (0) else .int .u64 (0)) (by rfl) rfl rfl rfl rfl (fun jq _ => by show ((fun zq => if zq < 1 then .int .i64 (0) else if zq < 8 then .int .u64 (0) else if zq < 9 then .int .u8 (0) else if zq < 10 then .int .u64 (0) else if zq < 12 then .int .i64 (0) else .int .u64 (0) : Nat → Value) jq).oneCell' = true; simp only []; repeat (first | rfl | split)) (by kernel_rfl) m91 (i := 0) (by omega) fun w15 m147 s18 z11 => ?_
   have m148 : Fx.Blk w15 g2 14 (fun zq => if zq < 1 then .int .i64 (0) else if zq < 8 then .int .u64 (0) else if zq < 9 then .int .u8 (0) else if zq < 10 then .int .u64 (0) else if zq < 12 then .int .i64 (0) else .int .u64 (0)) 54 := Fx.ovr_all m147
   have hct8 := Fx.ChT.of_stp s18 m91.ty
   have m149 := m87.chT hct8 (by decide)
   have m150 := m88.stp s18 ng2m10
   have m151 := m89.chT hct8 (by decide)
   have m153 := m92.stp s18 (by omega)
   have m154 := m93.chT hct8 (by decide)
   have b19 := s18.below b12 (Nat.le_trans hB b12.size) (by omega)
   refine Fx.L.nil (Fx.seqN (Fx.W.ret (Fx.seqR (⟨.agg (Fx.varr 14 (fun zq => if zq < 1 then .int .i64 (0) else if zq < 8 then .int .u64 (0) else if zq < 9 then .int .u8 (0) else if zq < 10 then .int .u64 (0) else if zq < 12 then .int .i64 (0) else .int .u64 (0))), Fx.retV1 Try.results23 ⟨_, rfl, Fx.run_loadV m148.cel (by kernel_rfl) (by kernel_rfl)⟩, ?_⟩))))
   have m156 : Fx.Own w15 B 59 1 (.slice M.la (M.n) (M.lc)) M.n (ptX M.pl) := m154.congV (congrArg (fun q => Value.slice q M.n M.lc) eq2.symm)
   exact ⟨⟨_, rfl⟩, M, { c := m149, l := m156, a := m150, g := m151, inv := fun i hi => (hW.inv i hi).mono (by omega), wf := hW.wf, may := hW.may, sm := hW.sm, pB := hpB, n1 := hn1, n6 := hn6 }, rfl, by omega, (fun _ => rfl), b19⟩
theorem l_do (M : WM) (B p T : Nat) (x : ActM) (w : World) (hW : WldO w B p M T) (hB : B ≤ w.heap.size) (hx : ActOk x) (han : M.an ≤ 60) (hT : T ≤ 890000) :
    Calls Try.prog 23 #[.pointer (some ⟨p, 0, none⟩), .agg (Fx.varr 9 (actY x))] w fun e w' => (∃ v, e = .returned v) ∧ ∃ M', WldO w' B p M' (T + 3660) ∧ M'.n = M.n ∧ M'.an ≤ M.an + 1 ∧ Below B w w' :=
  (l_doM M B p T x w hW hB hx han hT).mono fun _ _ ⟨h1, M', h2, h3, h4, _, h5⟩ => ⟨h1, M', h2, h3, h4, h5⟩
end Go.Proofs.Ytolmkjepieoloaa
namespace Go.Proofs.Ytolmkjepieoloaa
open Go.RowKit Go.WideShapes Go.ChangeShapes Go.Deep
theorem spotless1 {w : World} {x : Addr} {v : Value} (h : w.cell? x = some v) : ∃ b off, x = ⟨b, off, none⟩ := by
  obtain ⟨b, off, spot⟩ := x
  cases spot with
  | none => exact ⟨b, off, rfl⟩
  | some q =>
    unfold World.cell? at h
    simp at h
    split at h <;> cases h
def At4 (k0 k1 k2 k3 : IntKind) (w : World) (b off : Nat) (x0 x1 x2 x3 : Int) : Prop :=
  w.cell? ⟨b, off, none⟩ = some (.int k0 x0) ∧ w.cell? ⟨b, off + 1, none⟩ = some (.int k1 x1) ∧ w.cell? ⟨b, off + 2, none⟩ = some (.int k2 x2) ∧ w.cell? ⟨b, off + 3, none⟩ = some (.int k3 x3)
def Wf4 (k0 k1 k2 k3 : IntKind) (x0 x1 x2 x3 : Int) : Prop := (Lit.int k0 x0).wf = true ∧ (Lit.int k1 x1).wf = true ∧ (Lit.int k2 x2).wf = true ∧ (Lit.int k3 x3).wf = true
def Sl4 (k0 k1 k2 k3 : IntKind) (w : World) (a : Option Addr) (len : Nat) (X0 X1 X2 X3 : Nat → Int) : Prop :=
  ∀ i, i < len → (∃ b off, a = some ⟨b, off, none⟩ ∧ At4 k0 k1 k2 k3 w b (off + i * 4) (X0 i) (X1 i) (X2 i) (X3 i)) ∧ Wf4 k0 k1 k2 k3 (X0 i) (X1 i) (X2 i) (X3 i)
theorem Sl4.up {k0 k1 k2 k3 : IntKind} {w w' : World} {a : Option Addr} {len : Nat} {X0 X1 X2 X3 : Nat → Int} (h : Sl4 k0 k1 k2 k3 w a len X0 X1 X2 X3) (hb : Below w.heap.size w w') : Sl4 k0 k1 k2 k3 w' a len X0 X1 X2 X3 := by
  intro i hi
  obtain ⟨⟨b, off, e, q0, q1, q2, q3⟩, hw⟩ := h i hi
  have hlt := block_lt_of_cell q0
  dsimp only at hlt
  exact ⟨⟨b, off, e, (hb.cell (p := ⟨b, off + i * 4, none⟩) hlt).trans q0, (hb.cell (p := ⟨b, off + i * 4 + 1, none⟩) hlt).trans q1, (hb.cell (p := ⟨b, off + i * 4 + 2, none⟩) hlt).trans q2, (hb.cell (p := ⟨b, off + i * 4 + 3, none⟩) hlt).trans q3⟩, hw⟩
end Go.Proofs.Ytolmkjepieoloaa
namespace Go.Proofs.Ytolmkjepieoloaa
open Go.RowKit Go.WideShapes Go.ChangeShapes Go.Deep
def flatKb (P : Program) : Nat → TypeId → Option (List (Option IntKind))
  | 0, _ => none
  | d + 1, t => match P.underlying t with
    | some (.int k) => some [some k]
    | some .bool => some [none]
    | some (.array n e) => (flatKb P d e).bind fun ks => if P.cellsOf e = ks.length ∧ P.cellsOf t = n * ks.length then some (List.replicate n ks).flatten else none
    | some (.struct fs) => (fs.toList.foldlM (fun l f => (flatKb P d f.type).bind fun ks => if f.offset = l.length ∧ P.cellsOf f.type = ks.length then some (l ++ ks) else none) []).bind fun l => if P.cellsOf t = l.length then some l else none
    | _ => none
def OkV (k : Option IntKind) (v : Value) : Prop := match k with | some k => ∃ n, v = .int k n ∧ (Lit.int k n).wf = true | none => ∃ b, v = .bool b
def FlatV (ks : List (Option IntKind)) (cs : List Value) : Prop := cs.length = ks.length ∧ ∀ (j : Nat) (k : Option IntKind), ks[j]? = some k → ∃ v, cs[j]? = some v ∧ OkV k v
theorem flatb_rep {ks : List (Option IntKind)} {k : Option IntKind} : ∀ (n j : Nat), (List.replicate n ks).flatten[j]? = some k → ks[j % ks.length]? = some k ∧ j / ks.length < n
  | 0, j, h => by simp at h
  | n + 1, j, h => by
    rw [List.replicate_succ, List.flatten_cons] at h
    by_cases hj : j < ks.length
    · rw [List.getElem?_append_left hj] at h
      rw [Nat.mod_eq_of_lt hj, Nat.div_eq_of_lt hj]; exact ⟨h, by omega⟩
    · rw [List.getElem?_append_right (by omega)] at h
      have hs : 0 < ks.length := by
        rcases Nat.eq_zero_or_pos ks.length with e | e
        · obtain ⟨h1, _⟩ := flatb_rep n _ h
          have := (List.getElem?_eq_some_iff.1 h1).1; omega
        · exact e
      obtain ⟨h1, h2⟩ := flatb_rep n _ h
      rw [Nat.mod_eq_sub_mod (by omega), Nat.div_eq_sub_div hs (by omega)]
      exact ⟨h1, by omega⟩
section
variable {H : Type} {enc : TypeId × Value → H} {P : Program} {w : World} {base : Nat} {spare : Nat → Bool} {held : Bool}
theorem flatb_part {ks : List (Option IntKind)} {cs : List Value} {o s j : Nat} {k : Option IntKind} (h : FlatV ks ((cs.drop o).take s)) (hs : s = ks.length) (hk : ks[j]? = some k) : ∃ v, cs[o + j]? = some v ∧ OkV k v := by
  obtain ⟨n, h1, h2⟩ := h.2 j k hk
  have hj := (List.getElem?_eq_some_iff.1 hk).1
  rw [List.getElem?_take_of_lt (by omega), List.getElem?_drop] at h1
  exact ⟨n, h1, h2⟩
theorem flatKb_ok : ∀ (d : Nat) (t : TypeId) (ks : List (Option IntKind)), flatKb P d t = some ks → ∀ (fuel : Nat) (cs : List Value) (x : DataW H × List MemPlace), DataW.trod enc P w base spare held fuel t cs = some x → FlatV ks cs
  | 0, _, _, h => by simp [flatKb] at h
  | d + 1, t, ks, h => by
    intro fuel cs x hx
    unfold flatKb at h
    split at h
    · rename_i k hu
      simp only [Option.some.injEq] at h; subst h
      obtain ⟨n, rfl, _, hw⟩ := DataW.trod_int hu hx
      refine ⟨rfl, fun j k' hk => ?_⟩
      match j, hk with
      | 0, hk => simp at hk; subst hk; exact ⟨_, rfl, n, rfl, hw⟩
      | j + 1, hk => simp at hk
    · rename_i hu
      simp only [Option.some.injEq] at h; subst h
      obtain ⟨b, rfl, _⟩ := DataW.trod_bool hu hx
      refine ⟨rfl, fun j k' hk => ?_⟩
      match j, hk with
      | 0, hk => simp at hk; subst hk; exact ⟨_, rfl, b, rfl⟩
      | j + 1, hk => simp at hk
    · rename_i n e hu
      obtain ⟨ks', hks, h⟩ := Option.bind_eq_some_iff.1 h
      split at h
      · rename_i hc
        simp only [Option.some.injEq] at h; subst h
        obtain ⟨xs, m, _, _, hl, hlen, hel⟩ := DataW.trod_array hu hx
        refine ⟨by rw [hl, hc.2]; simp, fun j k hk => ?_⟩
        obtain ⟨h1, h2⟩ := flatb_rep n j hk
        have hi := hel (j / ks'.length) h2
        rw [List.getElem?_eq_getElem (by omega), hc.1] at hi
        have := flatb_part (flatKb_ok d e ks' hks _ _ _ hi) rfl h1
        rw [Nat.mul_comm, Nat.div_add_mod] at this
        exact this
      · cases h
    · rename_i fs hu
      obtain ⟨l, hl, h⟩ := Option.bind_eq_some_iff.1 h
      split at h
      · rename_i hc
        simp only [Option.some.injEq] at h; subst h
        obtain ⟨xs, m, _, _, hlc, hlen, hf⟩ := DataW.trod_struct hu hx
        refine ⟨by rw [hlc, hc], ?_⟩
        have hf' : ∀ f, f ∈ fs.toList → ∃ y, DataW.trod enc P w base spare held m f.type ((cs.drop f.offset).take (P.cellsOf f.type)) = some y := by
          intro f hfm
          obtain ⟨i, hi, e⟩ := List.mem_iff_getElem.1 hfm
          have hi' : i < fs.size := by simpa using hi
          have h1 : fs[i]? = some f := by rw [Array.getElem?_eq_getElem hi']; simpa using e
          have := hf i f h1
          rw [List.getElem?_eq_getElem (by rw [hlen]; exact hi')] at this
          exact ⟨_, this⟩
        have key : ∀ (L : List Field) (acc : List (Option IntKind)), (∀ f, f ∈ L → ∃ y, DataW.trod enc P w base spare held m f.type ((cs.drop f.offset).take (P.cellsOf f.type)) = some y) → (∀ (j : Nat) (k : Option IntKind), acc[j]? = some k → ∃ v, cs[j]? = some v ∧ OkV k v) → ∀ l, L.foldlM (fun l f => (flatKb P d f.type).bind fun ks => if f.offset = l.length ∧ P.cellsOf f.type = ks.length then some (l ++ ks) else none) acc = some l → ∀ (j : Nat) (k : Option IntKind), l[j]? = some k → ∃ v, cs[j]? = some v ∧ OkV k v := by
          intro L
          induction L with
          | nil => intro acc _ ha l hl; simp at hl; subst hl; exact ha
          | cons f L ih =>
            intro acc hL ha l hl
            rw [List.foldlM_cons] at hl
            obtain ⟨l1, h1, h2⟩ := Option.bind_eq_some_iff.1 hl
            obtain ⟨kf, hkf, h3⟩ := Option.bind_eq_some_iff.1 h1
            split at h3
            · rename_i hcc
              simp only [Option.some.injEq] at h3; subst h3
              refine ih (acc ++ kf) (fun g hg => hL g (List.mem_cons_of_mem _ hg)) (fun j k hk => ?_) l h2
              by_cases hj : j < acc.length
              · rw [List.getElem?_append_left hj] at hk; exact ha j k hk
              · rw [List.getElem?_append_right (by omega)] at hk
                obtain ⟨y, hy⟩ := hL f (List.mem_cons_self ..)
                have := flatb_part (flatKb_ok d f.type kf hkf _ _ _ hy) hcc.2 hk
                rw [hcc.1, show acc.length + (j - acc.length) = j by omega] at this
                exact this
            · cases h3
        exact key fs.toList [] hf' (fun j k hk => by simp at hk) l hl
      · cases h
    · cases h
end
section
variable {H : Type} {enc : TypeId × Value → H} {P : Program} {w : World} {base : Nat} {spare : Nat → Bool} {held : Bool}
theorem open_rows {t e : TypeId} {ks : List (Option IntKind)} {fuel D : Nat} {cs : List Value} {x : DataW H × List MemPlace} (ht : P.underlying t = some (.slice e)) (hk : flatKb P D e = some ks) (ce : P.cellsOf e = ks.length) (hs : 0 < ks.length)
    (h : DataW.trod enc P w base spare held fuel t cs = some x) : ∃ a len cap, cs = [.slice a len cap] ∧ len ≤ maxLen ∧ len ≤ cap ∧ ∃ X : Nat → Nat → Value, (∀ i, i < len → ∀ (j : Nat) (k : Option IntKind), ks[j]? = some k → OkV k (X i j)) ∧ Fx.Arr w a len ks.length (Fx.flat ks.length X) := by
  rcases open_slice ht h with ⟨rfl, _⟩ | ⟨a', len, cap, m, n, D', Pl, rfl, _, hl, hm, hmm, _, hx⟩
  · exact ⟨none, 0, 0, rfl, by unfold maxLen; omega, Nat.le_refl _, fun _ _ => undef, fun i hi => absurd hi (by omega), fun h => absurd h (by omega)⟩
  · have hlm : len ≤ m := by rw [hmm]; split <;> omega
    have each : ∀ i j : Nat, ∃ q : Value, i < len → ∀ k, ks[j]? = some k → w.cell? (a'.add (i * ks.length + j)) = some q ∧ OkV k q := by
      intro i j
      by_cases hi : i < len ∧ j < ks.length
      · obtain ⟨cs', g1, g2⟩ := hx i (by omega)
        rw [ce] at g1
        obtain ⟨_, hlen, hcell⟩ := World.cells?_some g1
        obtain ⟨q, h1, h2⟩ := (flatKb_ok _ _ _ hk _ _ _ g2).2 j _ (List.getElem?_eq_getElem hi.2)
        refine ⟨q, fun _ k hkj => ?_⟩
        rw [List.getElem?_eq_getElem hi.2, Option.some.injEq] at hkj
        subst hkj
        have q0 := hcell j (by omega)
        rw [add_add] at q0
        exact ⟨by rw [← h1]; simpa using q0, h2⟩
      · refine ⟨undef, fun h1 k h2 => absurd ⟨h1, (List.getElem?_eq_some_iff.1 h2).1⟩ hi⟩
    refine ⟨some a', len, cap, rfl, by omega, hl, fun i j => Classical.choose (each i j), fun i hi j k hkj => (Classical.choose_spec (each i j) hi k hkj).2, fun h0 => ?_⟩
    have e0 : a'.add (0 * ks.length + 0) = a' := by unfold Addr.add; simp
    obtain ⟨q00, h00⟩ := each 0 0
    have hk0 := List.getElem?_eq_getElem hs
    have h00' := (h00 h0 _ hk0)
    have h01 := h00'.1
    rw [e0] at h01
    have e1 : ∃ b off, a' = ⟨b, off, none⟩ := by
      have h02 := h00'.2
      unfold OkV at h02
      split at h02
      · obtain ⟨nn, rfl, _⟩ := h02; exact spotless1 h01
      · obtain ⟨bb, rfl⟩ := h02
        unfold World.cell? at h01
        cases a' with
        | mk b off sp =>
          cases sp with
          | none => exact ⟨b, off, rfl⟩
          | some s => simp at h01; split at h01 <;> simp_all
    obtain ⟨b, off, e1⟩ := e1
    refine ⟨b, off, by rw [e1], fun p hp => ?_⟩
    have hj : p % ks.length < ks.length := Nat.mod_lt _ hs
    have hi : p / ks.length < len := Nat.div_lt_of_lt_mul (by rw [Nat.mul_comm]; exact hp)
    have := (Classical.choose_spec (each (p / ks.length) (p % ks.length)) hi _ (List.getElem?_eq_getElem hj)).1
    have ea : a'.add (p / ks.length * ks.length + p % ks.length) = ⟨b, off + p, none⟩ := by rw [e1, addr_add, Nat.mul_comm, Nat.div_add_mod]
    exact (congrArg w.cell? ea).symm.trans this
end
end Go.Proofs.Ytolmkjepieoloaa
namespace Go.Proofs.Ytolmkjepieoloaa
open Go.RowKit Go.WideShapes Go.ChangeShapes Go.Deep Rt
def boolOf : Value → Bool | .bool b => b | _ => false
theorem OkV.int {k : IntKind} {v : Value} (h : OkV (some k) v) : v = .int k (intOf v) ∧ (Lit.int k (intOf v)).wf = true := by
  obtain ⟨n, rfl, hw⟩ := h; exact ⟨rfl, hw⟩
theorem OkV.bool {v : Value} (h : OkV none v) : v = .bool (boolOf v) := by
  obtain ⟨b, rfl⟩ := h; rfl
theorem wf_u8 {n : Int} (h : (Lit.int .u8 n).wf = true) : 0 ≤ n ∧ n ≤ 255 := by simp [Lit.wf, IntKind.min, IntKind.max, IntKind.bits, IntKind.signed] at h; omega
theorem wf_u16 {n : Int} (h : (Lit.int .u16 n).wf = true) : 0 ≤ n ∧ n ≤ 65535 := by simp [Lit.wf, IntKind.min, IntKind.max, IntKind.bits, IntKind.signed] at h; omega
theorem nat_u8 {n : Int} (h : (Lit.int .u8 n).wf = true) : ∃ m : Nat, n = (m : Int) ∧ m ≤ 255 := by
  have := wf_u8 h; exact ⟨n.toNat, by omega, by omega⟩
theorem nat_u16 {n : Int} (h : (Lit.int .u16 n).wf = true) : ∃ m : Nat, n = (m : Int) ∧ m ≤ 65535 := by
  have := wf_u16 h; exact ⟨n.toNat, by omega, by omega⟩
theorem Fx.Arr.congr {w : World} {a : Option Addr} {n s : Nat} {x y : Nat → Value} (h : Fx.Arr w a n s x) (e : ∀ p, p < n * s → x p = y p) : Fx.Arr w a n s y := fun h0 => by
  obtain ⟨b, off, ea, hc⟩ := h h0
  exact ⟨b, off, ea, fun i hi => by rw [← e i hi]; exact hc i hi⟩
def actKs : List (Option IntKind) := [some .u8, none, some .u8, some .u8, some .u8, some .u8, some .u16, some .u8, some .u8]
def actOf (X : Nat → Value) : ActM := ⟨(intOf (X 0)).toNat, boolOf (X 1), (intOf (X 2)).toNat, (intOf (X 3)).toNat, (intOf (X 4)).toNat, (intOf (X 5)).toNat, (intOf (X 6)).toNat, (intOf (X 7)).toNat, (intOf (X 8)).toNat⟩
theorem actOf_ok {X : Nat → Value} (h : ∀ (j : Nat) (k : Option IntKind), actKs[j]? = some k → OkV k (X j)) : ActOk (actOf X) ∧ ∀ j, j < 9 → X j = actY (actOf X) j := by
  have u8 : ∀ j, actKs[j]? = some (some .u8) → X j = .int .u8 ((intOf (X j)).toNat : Int) ∧ (intOf (X j)).toNat ≤ 255 := fun j hj => by
    obtain ⟨e, hw⟩ := (h j _ hj).int
    have := wf_u8 hw
    exact ⟨by rw [Int.toNat_of_nonneg this.1]; exact e, by omega⟩
  have h6 : X 6 = .int .u16 ((intOf (X 6)).toNat : Int) ∧ (intOf (X 6)).toNat ≤ 65535 := by
    obtain ⟨e, hw⟩ := (h 6 (some .u16) rfl).int
    have := wf_u16 hw
    exact ⟨by rw [Int.toNat_of_nonneg this.1]; exact e, by omega⟩
  refine ⟨⟨(u8 0 rfl).2, (u8 2 rfl).2, (u8 3 rfl).2, (u8 4 rfl).2, (u8 5 rfl).2, h6.2, (u8 7 rfl).2, (u8 8 rfl).2⟩, fun j hj => ?_⟩
  rcases j with _|_|_|_|_|_|_|_|_|j
  · exact (u8 0 rfl).1
  · exact (h 1 none rfl).bool
  · exact (u8 2 rfl).1
  · exact (u8 3 rfl).1
  · exact (u8 4 rfl).1
  · exact (u8 5 rfl).1
  · exact h6.1
  · exact (u8 7 rfl).1
  · exact (u8 8 rfl).1
  · omega
section
variable {H : Type} {enc : TypeId × Value → H} {P : Program} {w : World}
theorem open_acts {t e : TypeId} {a : Option Addr} {len cap D : Nat} {d : DataW H} {ps : List MemPlace} (ht : P.underlying t = some (.slice e)) (hk : flatKb P D e = some actKs) (ce : P.cellsOf e = 9)
    (h : DataW.Trod enc P w 0 (fun _ => true) true t (.slice a len cap) d ps) : ∃ xa : Nat → ActM, (∀ i, i < len → ActOk (xa i)) ∧ Fx.Arr w a len 9 (Fx.flat 9 fun k => actY (xa k)) := by
  obtain ⟨fuel, hf⟩ := h
  obtain ⟨a', l', c', hcs, _, _, X, hX, hA⟩ := open_rows ht hk ce (by decide) hf
  simp [Value.cells] at hcs
  obtain ⟨rfl, rfl, rfl⟩ := hcs
  exact ⟨fun i => actOf (X i), fun i hi => (actOf_ok (hX i hi)).1, hA.congr (Fx.flat_cong fun k hk j hj => (actOf_ok (hX k hk)).2 j hj)⟩
end
end Go.Proofs.Ytolmkjepieoloaa
namespace Go.Proofs.Ytolmkjepieoloaa
open Go.RowKit Rt
open Fx (x_move x_assign x_field x_load1 x_pickF x_pickT x_nil x_conv x_indexS x_index x_leqF x_loadA x_len x_gtrF x_build x_eqlF x_eqlT)
namespace Rt
def isLive (s : StM) (k : Nat) : Bool := s.inn k && !s.left k
def liveN (s : StM) : Nat → List Int
  | 0 => []
  | k + 1 => if isLive s k then liveN s k ++ [(k : Int) + 1] else liveN s k
def lsX (l : List Int) : Nat → Value := fun p => .int .i64 (l.getD p 0)
theorem live_yes {s : StM} {k : Nat} (h : isLive s k = true) : liveN s (k + 1) = liveN s k ++ [(k : Int) + 1] := by
  show (if isLive s k then _ else _) = _; rw [if_pos h]
theorem live_no {s : StM} {k : Nat} (h : isLive s k = false) : liveN s (k + 1) = liveN s k := by
  show (if isLive s k then _ else _) = _; rw [if_neg (by rw [h]; decide)]
theorem live_len (s : StM) : ∀ k, (liveN s k).length ≤ k
  | 0 => Nat.le_refl _
  | k + 1 => by
    have := live_len s k
    show (if isLive s k then _ else _ : List Int).length ≤ k + 1
    split
    · simp; omega
    · omega
theorem ls_app {l : List Int} {n : Nat} {z : Nat → Value} {v : Int} (hn : n = l.length) : ∀ j, j < (n + 1) * 1 → Fx.appX (lsX l) (n * 1) (Fx.ovr z (0 * 1) 1 (fun _ => .int .i64 v)) j = lsX (l ++ [v]) j := fun j hj => by
  subst hn
  unfold Fx.appX lsX
  by_cases h : j < l.length * 1
  · rw [if_pos h]; congr 1
    rw [List.getD_eq_getElem?_getD, List.getD_eq_getElem?_getD, List.getElem?_append_left (by omega)]
  · rw [if_neg h]
    unfold Fx.ovr
    rw [if_pos (by omega), List.getD_eq_getElem?_getD, List.getElem?_append_right (by omega), show j - l.length = 0 by omega]; rfl
def liveI (s : StM) (i : Int) : Bool := decide (1 ≤ i) && decide (i ≤ 6) && isLive s (i - 1).toNat
theorem mem_live {s : StM} {i : Int} : ∀ n, i ∈ liveN s n ↔ (1 ≤ i ∧ i ≤ (n : Int) ∧ isLive s (i - 1).toNat = true)
  | 0 => by
    constructor
    · intro h; cases h
    · rintro ⟨h1, h2, _⟩; omega
  | n + 1 => by
    have ih := mem_live (s := s) (i := i) n
    cases hl : isLive s n with
    | true =>
      rw [live_yes hl, List.mem_append, ih]
      constructor
      · rintro (⟨h1, h2, h3⟩ | h)
        · exact ⟨h1, by omega, h3⟩
        · have h' : i = (n : Int) + 1 := by simpa using h
          subst h'
          exact ⟨by omega, by omega, by rw [show ((n : Int) + 1 - 1).toNat = n by omega]; exact hl⟩
      · rintro ⟨h1, h2, h3⟩
        by_cases e : i = (n : Int) + 1
        · right; rw [e]; exact List.mem_singleton.2 rfl
        · left; exact ⟨h1, by omega, h3⟩
    | false =>
      rw [live_no hl, ih]
      constructor
      · rintro ⟨h1, h2, h3⟩; exact ⟨h1, by omega, h3⟩
      · rintro ⟨h1, h2, h3⟩
        by_cases e : i = (n : Int) + 1
        · subst e; rw [show ((n : Int) + 1 - 1).toNat = n by omega, hl] at h3; cases h3
        · exact ⟨h1, by omega, h3⟩
theorem ls_at {l : List Int} {k : Nat} (h : k < l.length) : l.getD k 0 ∈ l := by
  rw [List.getD_eq_getElem?_getD, List.getElem?_eq_getElem h]; exact List.getElem_mem h
theorem ls_mem {l : List Int} {i : Int} : 0 ≤ firstI (fun k => decide (i = l.getD k 0)) l.length ↔ i ∈ l := by
  rcases firstI_spec (fun k => decide (i = l.getD k 0)) l.length with ⟨k, hk, e, hp⟩ | ⟨e, h⟩
  · rw [e]
    have := of_decide_eq_true hp
    exact ⟨fun _ => by rw [this]; exact ls_at hk, fun _ => by omega⟩
  · rw [e]
    refine ⟨fun h => absurd h (by decide), fun hm => ?_⟩
    obtain ⟨k, hk, e2⟩ := List.getElem_of_mem hm
    have := h k hk
    rw [List.getD_eq_getElem?_getD, List.getElem?_eq_getElem hk, e2] at this
    exact absurd rfl (of_decide_eq_false this)
theorem live_has (s : StM) (i : Int) : decide (0 ≤ firstI (fun k => decide (i = (liveN s 6).getD k 0)) (liveN s 6).length) = liveI s i := by
  rw [Bool.eq_iff_iff, decide_eq_true_iff, ls_mem, mem_live]
  unfold liveI
  simp only [Bool.and_eq_true, decide_eq_true_eq]
  exact ⟨fun ⟨a, b, c⟩ => ⟨⟨a, by omega⟩, c⟩, fun ⟨⟨a, b⟩, c⟩ => ⟨a, by omega, c⟩⟩
end Rt
set_option maxRecDepth 10000 in
theorem m_live (s : StM) (w : World) :
    Calls Try.prog 30 #[.agg (Fx.varr 20 (stY s))] w fun e w' => ∃ v n, e = .returned v ∧ n = (liveN s 6).length ∧ Fx.Own w' w.heap.size 3 1 v n (lsX (liveN s 6)) ∧ Below w.heap.size w w' := by
 refine Fx.enter Try.func30 rfl (n := 26) rfl (by rfl) ?_
 refine Fx.W.seq (Fx.W.list (Fx.L.box (m := 20) (y := stY s) (by rfl) rfl rfl (Fx.cells_agg _ _) rfl fun g1 w1 eg1 m1 s1 z1 => ?_))
 have b1 := s1.below (Below.refl w.heap.size w) (Below.refl w.heap.size w).size (Below.refl w.heap.size w).size
 have lg1 : w.heap.size ≤ g1 := by rw [eg1]; exact (Below.refl w.heap.size w).size
 have tg1 : g1 < w1.heap.size := m1.lt
 clear eg1
 refine Fx.L.v (.slice none 0 0) (x_assign rfl rfl) (Fx.L.nil (Fx.seqN (Fx.W.seq (Fx.W.seq (Fx.W.list (Fx.L.v (.pointer (some ⟨g1, 0, none⟩)) (x_field rfl rfl Try.underlying43 rfl (s := 6) (by kernel_rfl) rfl rfl) (Fx.L.v (.agg (Fx.varr 6 (fun q => .bool (s.inn q)))) (x_loadA (x := stY s) (y := fun q => .bool (s.inn q)) rfl rfl (by kernel_rfl) (by kernel_rfl) m1.cel (i := 0) (by omega) (by omega) (fun jq hjq => by rw [Nat.zero_add]; exact stY_in _ hjq)) (Fx.L.v (.int .i64 (0)) (x_move rfl rfl) (Fx.L.nil (Fx.seqN (Fx.W.block ?_)))))))))))
 have m2 : Fx.Own w1 w.heap.size 3 1 (.slice none 0 0) 0 (lsX (liveN s 0)) := Fx.Own.nil _ _ _ _ _
 refine Fx.W.loop (fun f w_ => ∃ k : Nat, ∃ n : Nat, ∃ a : Option Addr, ∃ cap : Nat, k ≤ 6 ∧ n = (liveN s k).length ∧ f 1 = .pointer (some ⟨g1, 0, none⟩) ∧ f 6 = .agg (Fx.varr 6 (fun q => .bool (s.inn q))) ∧ f 2 = .slice a (n) (cap) ∧ f 7 = .int .i64 ((k : Int)) ∧ Fx.Blk w_ g1 20 (stY s) 43 ∧ Fx.Own w_ w.heap.size 3 1 (.slice a (n) (cap)) n (lsX (liveN s k)) ∧ Below w.heap.size w w_) (fun f _ => (6 - (intOf (f 7)).toNat)) ⟨0, 0, none, 0, by omega, rfl, (by rfl), (by rfl), (by rfl), (by first | rfl | exact congrArg (Value.int .i64) (by omega)), m1, m2, b1⟩ ?_
 rintro f1 w2 ⟨k, n, a, cap, hk, hn, h1, h2, h3, h4, m3, m4, b2⟩
 have hnl := live_len s k
 refine Fx.W.seq (Fx.W.list ?_)
 by_cases c8 : (k : Int) < 6
 ·refine Fx.L.v (.bool true) (Fx.x_lssT rfl h4 rfl c8) (Fx.L.nil (Fx.seqN (Fx.W.seq (Fx.W.cond (b := true) rfl (fun _ => Fx.W.skip (Fx.seqN (Fx.W.seq (Fx.W.block (Fx.W.seq (Fx.W.list (Fx.L.v (.int .i64 ((k : Int))) (x_move rfl h4) ?_))))))) (fun h => nomatch h)))))
  by_cases c10 : (s.inn k) = true
  ·refine Fx.L.v (.bool true) (Fx.x_indexV (j := k) (y := fun q => .bool (s.inn q)) rfl h2 h4 Try.underlying39 (by kernel_rfl) (by kernel_rfl) (by omega) ((show _ = Value.bool (s.inn k) from rfl).trans (congrArg Value.bool c10))) (Fx.L.v (.int .i64 ((k : Int))) (x_assign rfl rfl) (Fx.L.v (.bool true) (x_assign rfl rfl) (Fx.L.nil (Fx.seqN (Fx.W.seq (Fx.W.list (Fx.L.v (.bool true) (x_move rfl rfl) (Fx.L.v (.bool true) (x_move rfl rfl) (Fx.L.v (.int .i64 ((k : Int))) (x_move rfl rfl) (Fx.L.v (.pointer (some ⟨g1, 6, none⟩)) (x_field rfl h1 Try.underlying43 rfl (s := 6) (by kernel_rfl) rfl (by show _ + 6 = _; omega)) (Fx.L.v (.pointer (some ⟨g1, k + 6, none⟩)) (x_index rfl rfl rfl Try.underlying39 (s := 1) (by kernel_rfl) (by omega) (by omega) (by omega)) ?_)))))))))))
   by_cases c16 : (s.left k) = true
   ·refine Fx.L.v (.bool true) (x_load1 (x := stY s) rfl rfl (by kernel_rfl) m3.cel (i := k + 6) (by omega) (by omega) ((stY_left _ (by omega) (by omega)).trans (congrArg Value.bool c16))) (Fx.L.v (.bool false) (Fx.x_notF rfl rfl) (Fx.L.v (.bool false) (x_pickT rfl rfl rfl) (Fx.L.nil (Fx.seqN (Fx.W.cond (b := false) rfl (fun h => nomatch h) (fun _ => Fx.W.skip (Fx.blkN (Fx.seqN ?_))))))))
    have hl : isLive s k = false := by unfold isLive; rw [c16, Bool.not_true, Bool.and_false]
    refine Fx.W.list (Fx.L.v (.int .i64 ((k : Int) + 1)) (Fx.x_add rfl h4 rfl (Fx.i64e (by omega) (by omega))) (Fx.L.v (.int .i64 ((k : Int) + 1)) (x_move rfl rfl) (Fx.L.nil ?_)))
    have m5 := m4.congr (y := lsX (liveN s (k + 1))) (fun j _ => by rw [live_no hl])
    skip
    refine Fx.lpN ⟨k + 1, n, a, cap, by omega, (by rw [live_no hl]; exact hn), h1, h2, h3, (by first | rfl | exact congrArg (Value.int .i64) (by omega)), m3, m5, b2⟩ ?_
    show (6 - (intOf ((.int .i64 ((k : Int) + 1)))).toNat) < _
    simp only [h4, intOf]; omega
   ·rw [Bool.not_eq_true] at c16
    refine Fx.L.v (.bool false) (x_load1 (x := stY s) rfl rfl (by kernel_rfl) m3.cel (i := k + 6) (by omega) (by omega) ((stY_left _ (by omega) (by omega)).trans (congrArg Value.bool c16))) (Fx.L.v (.bool true) (Fx.x_notT rfl rfl) (Fx.L.v (.bool true) (x_pickT rfl rfl rfl) (Fx.L.nil (Fx.seqN (Fx.W.cond (b := true) rfl (fun _ => ?_) (fun h => nomatch h))))))
    have hl : isLive s k = true := by unfold isLive; rw [c10, c16]; rfl
    refine Fx.W.list (Fx.L.v (.slice a (n) (cap)) (x_move rfl h3) (Fx.L.v (.int .i64 ((k : Int))) (x_move rfl rfl) (Fx.L.v (.int .i64 ((k : Int) + 1)) (Fx.x_add rfl rfl rfl (Fx.i64e (by omega) (by omega))) (Fx.L.bslice (vs := [(0, .int .i64 ((k : Int) + 1))]) (s := 1) (zc := Fx.rv .i64 (fun _ => 0)) (y := Fx.ovr (fun j => (Fx.rv .i64 (fun _ => 0)) (j % 1)) (0 * 1) 1 (fun _ => .int .i64 ((k : Int) + 1))) (by rfl) rfl rfl Try.underlying23 (by kernel_rfl) (by rfl) (by rfl) (by kernel_rfl) (by rw [Fx.fill_step (off := 0 * 1) (s := 1) (y := fun _ => .int .i64 ((k : Int) + 1)) rfl (Fx.cells_one (by rfl)) (by rfl)]; rfl) rfl fun g2 w3 eg2 m6 s2 z2 => ?_))))
    have m7 := m3.stp s2 (Nat.ne_of_lt (m3.lt))
    have m8 := m4.stp s2 (m4.notNew (Nat.le_refl _))
    have b3 := s2.below b2 b2.size b2.size
    have lg2 : w.heap.size ≤ g2 := by rw [eg2]; exact b2.size
    have ng2m7 : g1 ≠ g2 := by rw [eg2]; exact Nat.ne_of_lt (m3.lt)
    have ng2m8 : (.slice a (n) (cap) : Value).ownBlock ≠ some g2 := by rw [eg2]; exact m4.notNew (Nat.le_refl _)
    have tg2 : g2 < w3.heap.size := m6.lt
    clear eg2
    refine Fx.L.app (B := w.heap.size) (s := 1) (bytes := 8) (k := n) (m := 1) (v := .slice a (n) (cap)) (x := lsX (liveN s k)) (by rfl) rfl rfl rfl Try.underlying23 (by kernel_rfl) (by kernel_rfl) rfl rfl m8 m6.cel (ovr_one (fun _ => rfl)) (by omega) (by omega) (by omega) b3.size fun g3 cap1 w4 ho1 hg1 hgv1 hlt1 => ?_
    have hct1 := Fx.ChT.of_grown hg1 m8
    have m10 := m7.chT hct1 (by decide)
    have m9 : Fx.Own w4 w.heap.size 3 1 (.slice (some ⟨g3, 0, none⟩) (n + 1) cap1) (n + 1) (lsX (liveN s (k + 1))) := (ho1.congr (fun j hj => by rw [live_yes hl]; exact ls_app hn j hj))
    have b4 : Below w.heap.size w w4 := Fx.Below.grow b3 hg1 b3.size (fun q hq => (m8.ge hq).1)
    refine Fx.L.v (.slice (some ⟨g3, 0, none⟩) (n + 1) (cap1)) (x_assign rfl rfl) (Fx.L.nil (Fx.blkN (Fx.seqN (Fx.W.list (Fx.L.v (.int .i64 ((k : Int) + 1)) (Fx.x_add rfl h4 rfl (Fx.i64e (by omega) (by omega))) (Fx.L.v (.int .i64 ((k : Int) + 1)) (x_move rfl rfl) (Fx.L.nil ?_)))))))
    skip
    refine Fx.lpN ⟨k + 1, n + 1, (some ⟨g3, 0, none⟩), cap1, by omega, (by rw [live_yes hl, List.length_append, ← hn]; rfl), h1, h2, (by rfl), (by first | rfl | exact congrArg (Value.int .i64) (by omega)), m10, m9, b4⟩ ?_
    show (6 - (intOf ((.int .i64 ((k : Int) + 1)))).toNat) < _
    simp only [h4, intOf]; omega
  ·rw [Bool.not_eq_true] at c10
   refine Fx.L.v (.bool false) (Fx.x_indexV (j := k) (y := fun q => .bool (s.inn q)) rfl h2 h4 Try.underlying39 (by kernel_rfl) (by kernel_rfl) (by omega) ((show _ = Value.bool (s.inn k) from rfl).trans (congrArg Value.bool c10))) (Fx.L.v (.int .i64 ((k : Int))) (x_assign rfl rfl) (Fx.L.v (.bool false) (x_assign rfl rfl) (Fx.L.nil (Fx.seqN (Fx.W.seq (Fx.W.list (Fx.L.v (.bool false) (x_move rfl rfl) (Fx.L.v (.bool false) (x_move rfl rfl) (Fx.L.skip (by rfl) rfl (Fx.L.skip (by rfl) rfl (Fx.L.skip (by rfl) rfl (Fx.L.skip (by rfl) rfl (Fx.L.skip (by rfl) rfl (Fx.L.v (.bool false) (x_pickF rfl rfl rfl) (Fx.L.nil (Fx.seqN (Fx.W.cond (b := false) rfl (fun h => nomatch h) (fun _ => Fx.W.skip (Fx.blkN (Fx.seqN ?_))))))))))))))))))))
   have hl : isLive s k = false := by unfold isLive; rw [c10]; rfl
   refine Fx.W.list (Fx.L.v (.int .i64 ((k : Int) + 1)) (Fx.x_add rfl h4 rfl (Fx.i64e (by omega) (by omega))) (Fx.L.v (.int .i64 ((k : Int) + 1)) (x_move rfl rfl) (Fx.L.nil ?_)))
   have m11 := m4.congr (y := lsX (liveN s (k + 1))) (fun j _ => by rw [live_no hl])
   skip
   refine Fx.lpN ⟨k + 1, n, a, cap, by omega, (by rw [live_no hl]; exact hn), h1, h2, h3, (by first | rfl | exact congrArg (Value.int .i64) (by omega)), m3, m11, b2⟩ ?_
   show (6 - (intOf ((.int .i64 ((k : Int) + 1)))).toNat) < _
   simp only [h4, intOf]; omega
 ·refine Fx.L.v (.bool false) (Fx.x_lssF rfl h4 rfl c8) (Fx.L.nil (Fx.seqN (Fx.W.seq (Fx.W.cond (b := false) rfl (fun h => nomatch h) (fun _ => Fx.W.exit (Fx.seqX (Fx.lpX (Fx.blkX (Fx.seqN (Fx.W.seq (Fx.W.list (Fx.L.v (.slice a (n) (cap)) (x_move rfl h3) (Fx.L.v (.slice a (n) (cap)) (x_assign rfl rfl) (Fx.L.nil (Fx.seqN (Fx.W.ret (⟨.slice a (n) (cap), Fx.retV1 Try.results30 (by exact rfl), ?_⟩)))))))))))))))))
  obtain rfl : k = 6 := by omega
  exact ⟨_, n, rfl, hn, m4, b2⟩
theorem r_live1 (s : StM) (i : Int) (w : World) :
    Calls Try.prog 74 #[.agg (Fx.varr 20 (stY s)), .int .i64 (i)] w fun e w' => e = .returned (.bool (liveI s i)) ∧ Below w.heap.size w w' := by
 refine Fx.enter Try.func74 rfl (n := 26) rfl (by rfl) ?_
 refine Fx.W.seq (Fx.W.list (Fx.L.box (m := 20) (y := stY s) (by rfl) rfl rfl (Fx.cells_agg _ _) rfl fun g1 w1 eg1 m1 s1 z1 => ?_))
 have b1 := s1.below (Below.refl w.heap.size w) (Below.refl w.heap.size w).size (Below.refl w.heap.size w).size
 have lg1 : w.heap.size ≤ g1 := by rw [eg1]; exact (Below.refl w.heap.size w).size
 have tg1 : g1 < w1.heap.size := m1.lt
 clear eg1
 refine Fx.L.v (.bool false) (x_assign rfl rfl) (Fx.L.nil (Fx.seqN (Fx.W.seq (Fx.W.list (Fx.L.v (.int .i64 (i)) (x_move rfl rfl) ?_)))))
 by_cases c6 : 1 ≤ i
 ·refine Fx.L.v (.bool true) (Fx.x_geqT rfl rfl rfl c6) (Fx.L.v (.bool true) (x_move rfl rfl) (Fx.L.v (.int .i64 (i)) (x_move rfl rfl) ?_))
  by_cases c9 : i ≤ 6
  ·obtain ⟨a, ha, ea⟩ : ∃ a : Nat, a < 6 ∧ i = (a : Int) + 1 := ⟨(i - 1).toNat, by omega, by omega⟩
   refine Fx.L.v (.bool true) (Fx.x_leqT rfl rfl rfl c9) (Fx.L.v (.bool true) (x_pickT rfl rfl rfl) (Fx.L.v (.bool true) (x_move rfl rfl) (Fx.L.v (.int .i64 (i)) (x_move rfl rfl) (Fx.L.v (.int .i64 ((a : Int))) (Fx.x_sub rfl rfl rfl (Fx.i64e (by omega) (by omega))) (Fx.L.v (.pointer (some ⟨g1, 0, none⟩)) (x_field rfl rfl Try.underlying43 rfl (s := 6) (by kernel_rfl) rfl rfl) (Fx.L.v (.pointer (some ⟨g1, a, none⟩)) (x_index rfl rfl rfl Try.underlying39 (s := 1) (by kernel_rfl) (by omega) (by omega) (by omega)) ?_))))))
   by_cases c16 : (s.inn a) = true
   ·refine Fx.L.v (.bool true) (x_load1 (x := stY s) rfl rfl (by kernel_rfl) m1.cel (i := a) (by omega) (by omega) ((stY_in _ (by omega)).trans (congrArg Value.bool c16))) (Fx.L.v (.bool true) (x_pickT rfl rfl rfl) (Fx.L.v (.bool true) (x_move rfl rfl) (Fx.L.v (.int .i64 (i)) (x_move rfl rfl) (Fx.L.v (.int .i64 ((a : Int))) (Fx.x_sub rfl rfl rfl (Fx.i64e (by omega) (by omega))) (Fx.L.v (.pointer (some ⟨g1, 6, none⟩)) (x_field rfl rfl Try.underlying43 rfl (s := 6) (by kernel_rfl) rfl (by show _ + 6 = _; omega)) (Fx.L.v (.pointer (some ⟨g1, a + 6, none⟩)) (x_index rfl rfl rfl Try.underlying39 (s := 1) (by kernel_rfl) (by omega) (by omega) (by omega)) ?_))))))
    by_cases c23 : (s.left a) = true
    ·refine Fx.L.v (.bool true) (x_load1 (x := stY s) rfl rfl (by kernel_rfl) m1.cel (i := a + 6) (by omega) (by omega) ((stY_left _ (by omega) (by omega)).trans (congrArg Value.bool c23))) (Fx.L.v (.bool false) (Fx.x_notF rfl rfl) (Fx.L.v (.bool false) (x_pickT rfl rfl rfl) (Fx.L.v (.bool false) (x_assign rfl rfl) (Fx.L.nil (Fx.seqN (Fx.W.ret (⟨.bool false, Fx.retV1 Try.results74 (by exact rfl), ?_⟩)))))))
     exact ⟨congrArg (fun q => Ending.returned (Value.bool q)) (Eq.symm (by unfold liveI; rw [decide_eq_true c6, decide_eq_true c9, show (i - 1).toNat = a by omega]; unfold isLive; rw [c16, c23]; rfl)), b1⟩
    ·rw [Bool.not_eq_true] at c23
     refine Fx.L.v (.bool false) (x_load1 (x := stY s) rfl rfl (by kernel_rfl) m1.cel (i := a + 6) (by omega) (by omega) ((stY_left _ (by omega) (by omega)).trans (congrArg Value.bool c23))) (Fx.L.v (.bool true) (Fx.x_notT rfl rfl) (Fx.L.v (.bool true) (x_pickT rfl rfl rfl) (Fx.L.v (.bool true) (x_assign rfl rfl) (Fx.L.nil (Fx.seqN (Fx.W.ret (⟨.bool true, Fx.retV1 Try.results74 (by exact rfl), ?_⟩)))))))
     exact ⟨congrArg (fun q => Ending.returned (Value.bool q)) (Eq.symm (by unfold liveI; rw [decide_eq_true c6, decide_eq_true c9, show (i - 1).toNat = a by omega]; unfold isLive; rw [c16, c23]; rfl)), b1⟩
   ·rw [Bool.not_eq_true] at c16
    refine Fx.L.v (.bool false) (x_load1 (x := stY s) rfl rfl (by kernel_rfl) m1.cel (i := a) (by omega) (by omega) ((stY_in _ (by omega)).trans (congrArg Value.bool c16))) (Fx.L.v (.bool false) (x_pickT rfl rfl rfl) (Fx.L.v (.bool false) (x_move rfl rfl) (Fx.L.skip (by rfl) rfl (Fx.L.skip (by rfl) rfl (Fx.L.skip (by rfl) rfl (Fx.L.skip (by rfl) rfl (Fx.L.skip (by rfl) rfl (Fx.L.skip (by rfl) rfl (Fx.L.v (.bool false) (x_pickF rfl rfl rfl) (Fx.L.v (.bool false) (x_assign rfl rfl) (Fx.L.nil (Fx.seqN (Fx.W.ret (⟨.bool false, Fx.retV1 Try.results74 (by exact rfl), ?_⟩))))))))))))))
    exact ⟨congrArg (fun q => Ending.returned (Value.bool q)) (Eq.symm (by unfold liveI; rw [decide_eq_true c6, decide_eq_true c9, show (i - 1).toNat = a by omega]; unfold isLive; rw [c16]; rfl)), b1⟩
  ·refine Fx.L.v (.bool false) (x_leqF rfl rfl rfl c9) (Fx.L.v (.bool false) (x_pickT rfl rfl rfl) (Fx.L.v (.bool false) (x_move rfl rfl) (Fx.L.skip (by rfl) rfl (Fx.L.skip (by rfl) rfl (Fx.L.skip (by rfl) rfl (Fx.L.skip (by rfl) rfl (Fx.L.skip (by rfl) rfl (Fx.L.v (.bool false) (x_pickF rfl rfl rfl) (Fx.L.v (.bool false) (x_move rfl rfl) (Fx.L.skip (by rfl) rfl (Fx.L.skip (by rfl) rfl (Fx.L.skip (by rfl) rfl (Fx.L.skip (by rfl) rfl (Fx.L.skip (by rfl) rfl (Fx.L.skip (by rfl) rfl (Fx.L.v (.bool false) (x_pickF rfl rfl rfl) (Fx.L.v (.bool false) (x_assign rfl rfl) (Fx.L.nil (Fx.seqN (Fx.W.ret (⟨.bool false, Fx.retV1 Try.results74 (by exact rfl), ?_⟩)))))))))))))))))))))
   exact ⟨congrArg (fun q => Ending.returned (Value.bool q)) (Eq.symm (by unfold liveI; rw [decide_eq_false c9, Bool.and_false]; rfl)), b1⟩
 ·refine Fx.L.v (.bool false) (Fx.x_geqF rfl rfl rfl c6) (Fx.L.v (.bool false) (x_move rfl rfl) (Fx.L.skip (by rfl) rfl (Fx.L.skip (by rfl) rfl (Fx.L.v (.bool false) (x_pickF rfl rfl rfl) (Fx.L.v (.bool false) (x_move rfl rfl) (Fx.L.skip (by rfl) rfl (Fx.L.skip (by rfl) rfl (Fx.L.skip (by rfl) rfl (Fx.L.skip (by rfl) rfl (Fx.L.skip (by rfl) rfl (Fx.L.v (.bool false) (x_pickF rfl rfl rfl) (Fx.L.v (.bool false) (x_move rfl rfl) (Fx.L.skip (by rfl) rfl (Fx.L.skip (by rfl) rfl (Fx.L.skip (by rfl) rfl (Fx.L.skip (by rfl) rfl (Fx.L.skip (by rfl) rfl (Fx.L.skip (by rfl) rfl (Fx.L.v (.bool false) (x_pickF rfl rfl rfl) (Fx.L.v (.bool false) (x_assign rfl rfl) (Fx.L.nil (Fx.seqN (Fx.W.ret (⟨.bool false, Fx.retV1 Try.results74 (by exact rfl), ?_⟩))))))))))))))))))))))))
  exact ⟨congrArg (fun q => Ending.returned (Value.bool q)) (Eq.symm (by unfold liveI; rw [decide_eq_false c6]; rfl)), b1⟩
theorem Rt.liveI_k {s : StM} {k : Nat} (h : (k : Int) < 6) {b : Bool} (e : liveI s ((k : Int) + 1) = b) : isLive s k = b := by
  unfold liveI at e; rw [decide_eq_true (by omega), decide_eq_true (by omega), show ((k : Int) + 1 - 1).toNat = k by omega] at e; exact e
set_option maxRecDepth 10000 in
theorem r_live (s : StM) (w : World) :
    Calls Try.prog 31 #[.agg (Fx.varr 20 (stY s))] w fun e w' => ∃ v n, e = .returned v ∧ n = (liveN s 6).length ∧ Fx.Own w' w.heap.size 3 1 v n (lsX (liveN s 6)) ∧ Below w.heap.size w w' := by
 refine Fx.enter Try.func31 rfl (n := 17) rfl (by rfl) ?_
 refine Fx.W.seq (Fx.W.list (Fx.L.box (m := 20) (y := stY s) (by rfl) rfl rfl (Fx.cells_agg _ _) rfl fun g1 w1 eg1 m1 s1 z1 => ?_))
 have b1 := s1.below (Below.refl w.heap.size w) (Below.refl w.heap.size w).size (Below.refl w.heap.size w).size
 have lg1 : w.heap.size ≤ g1 := by rw [eg1]; exact (Below.refl w.heap.size w).size
 have tg1 : g1 < w1.heap.size := m1.lt
 clear eg1
 refine Fx.L.v (.slice none 0 0) (x_assign rfl rfl) (Fx.L.nil (Fx.seqN (Fx.W.seq (Fx.W.list (Fx.L.v (.slice none 0 0) (x_assign rfl rfl) (Fx.L.nil (Fx.seqN (Fx.W.seq (Fx.W.seq (Fx.W.list (Fx.L.v (.int .i64 (1)) (x_assign rfl rfl) (Fx.L.nil (Fx.seqN (Fx.W.block ?_))))))))))))))
 have m2 : Fx.Own w1 w.heap.size 3 1 (.slice none 0 0) 0 (lsX (liveN s 0)) := Fx.Own.nil _ _ _ _ _
 refine Fx.W.loop (fun f w_ => ∃ k : Nat, ∃ n : Nat, ∃ a : Option Addr, ∃ cap : Nat, k ≤ 6 ∧ n = (liveN s k).length ∧ f 1 = .pointer (some ⟨g1, 0, none⟩) ∧ f 3 = .slice a (n) (cap) ∧ f 4 = .int .i64 ((k : Int) + 1) ∧ Fx.Blk w_ g1 20 (stY s) 43 ∧ Fx.Own w_ w.heap.size 3 1 (.slice a (n) (cap)) n (lsX (liveN s k)) ∧ Below w.heap.size w w_) (fun f _ => (7 - (intOf (f 4)).toNat)) ⟨0, 0, none, 0, by omega, rfl, (by rfl), (by rfl), (by first | rfl | exact congrArg (Value.int .i64) (by omega)), m1, m2, b1⟩ ?_
 rintro f1 w2 ⟨k, n, a, cap, hk, hn, h1, h2, h3, m3, m4, b2⟩
 have hnl := live_len s k
 refine Fx.W.seq (Fx.W.seq (Fx.W.list (Fx.L.v (.int .i64 ((k : Int) + 1)) (x_move rfl h3) ?_)))
 by_cases c6 : ((k : Int) + 1) ≤ 6
 ·refine Fx.L.v (.bool true) (Fx.x_leqT rfl rfl rfl c6) (Fx.L.nil (Fx.seqN (Fx.W.cond (b := true) rfl (fun _ => Fx.W.skip (Fx.seqN (Fx.W.seq (Fx.W.block (Fx.W.seq (Fx.W.list (Fx.L.v (.agg (Fx.varr 20 (stY s))) (x_loadA (x := stY s) (y := stY s) rfl h1 (by kernel_rfl) (by kernel_rfl) m3.cel (i := 0) (by omega) (by omega) (fun j _ => by rw [Nat.zero_add])) ?_))))))) (fun h => nomatch h))))
  refine Fx.L.v (.int .i64 ((k : Int) + 1)) (x_move rfl h3) ?_
  by_cases c11 : (liveI s ((k : Int) + 1)) = true
  ·refine Fx.L.call (by rfl) (Fx.r_call (args := [.agg (Fx.varr 20 (stY s)), .int .i64 ((k : Int) + 1)]) rfl rfl Try.func74 rfl rfl) rfl ((r_live1 s ((k : Int) + 1) _).mono ?_)
   rintro e w3 ⟨he, hb1⟩
   refine ⟨.bool true, by rw [he, c11], ?_⟩
   clear he
   have s2 := Fx.Stp.of_below hb1
   have m5 := m3.stp s2 (Nat.ne_of_lt (m3.lt))
   have m6 := m4.stp s2 (m4.notNew (Nat.le_refl _))
   have b3 := s2.below b2 b2.size b2.size
   refine Fx.L.nil (Fx.seqN (Fx.W.cond (b := true) rfl (fun _ => ?_) (fun h => nomatch h)))
   have hl := liveI_k (by omega) c11
   refine Fx.W.list (Fx.L.v (.slice a (n) (cap)) (x_move rfl h2) (Fx.L.v (.int .i64 ((k : Int) + 1)) (x_move rfl h3) (Fx.L.bslice (vs := [(0, .int .i64 ((k : Int) + 1))]) (s := 1) (zc := Fx.rv .i64 (fun _ => 0)) (y := Fx.ovr (fun j => (Fx.rv .i64 (fun _ => 0)) (j % 1)) (0 * 1) 1 (fun _ => .int .i64 ((k : Int) + 1))) (by rfl) rfl rfl Try.underlying23 (by kernel_rfl) (by rfl) (by rfl) (by kernel_rfl) (by rw [Fx.fill_step (off := 0 * 1) (s := 1) (y := fun _ => .int .i64 ((k : Int) + 1)) rfl (Fx.cells_one (by rfl)) (by rfl)]; rfl) rfl fun g2 w4 eg2 m7 s3 z2 => ?_)))
   have m8 := m5.stp s3 (Nat.ne_of_lt (m5.lt))
   have m9 := m6.stp s3 (m6.notNew (Nat.le_refl _))
   have b4 := s3.below b3 b3.size b3.size
   have lg2 : w.heap.size ≤ g2 := by rw [eg2]; exact b3.size
   have ng2m8 : g1 ≠ g2 := by rw [eg2]; exact Nat.ne_of_lt (m5.lt)
   have ng2m9 : (.slice a (n) (cap) : Value).ownBlock ≠ some g2 := by rw [eg2]; exact m6.notNew (Nat.le_refl _)
   have tg2 : g2 < w4.heap.size := m7.lt
   clear eg2
   refine Fx.L.app (B := w.heap.size) (s := 1) (bytes := 8) (k := n) (m := 1) (v := .slice a (n) (cap)) (x := lsX (liveN s k)) (by rfl) rfl rfl rfl Try.underlying23 (by kernel_rfl) (by kernel_rfl) rfl rfl m9 m7.cel (ovr_one (fun _ => rfl)) (by omega) (by omega) (by omega) b4.size fun g3 cap1 w5 ho1 hg1 hgv1 hlt1 => ?_
   have hct1 := Fx.ChT.of_grown hg1 m9
   have m11 := m8.chT hct1 (by decide)
   have m10 : Fx.Own w5 w.heap.size 3 1 (.slice (some ⟨g3, 0, none⟩) (n + 1) cap1) (n + 1) (lsX (liveN s (k + 1))) := (ho1.congr (fun j hj => by rw [live_yes hl]; exact ls_app hn j hj))
   have b5 : Below w.heap.size w w5 := Fx.Below.grow b4 hg1 b4.size (fun q hq => (m9.ge hq).1)
   refine Fx.L.v (.slice (some ⟨g3, 0, none⟩) (n + 1) (cap1)) (x_assign rfl rfl) (Fx.L.nil (Fx.blkN (Fx.seqN (Fx.W.list (Fx.L.v (.int .i64 ((k : Int) + 1)) (x_move rfl h3) (Fx.L.v (.int .i64 ((k : Int) + 2)) (Fx.x_add rfl rfl rfl (Fx.i64e (by omega) (by omega))) (Fx.L.v (.int .i64 ((k : Int) + 2)) (x_assign rfl rfl) (Fx.L.nil ?_))))))))
   skip
   refine Fx.lpN ⟨k + 1, n + 1, (some ⟨g3, 0, none⟩), cap1, by omega, (by rw [live_yes hl, List.length_append, ← hn]; rfl), h1, (by rfl), (by first | rfl | exact congrArg (Value.int .i64) (by omega)), m11, m10, b5⟩ ?_
   show (7 - (intOf ((.int .i64 ((k : Int) + 2)))).toNat) < _
   simp only [h3, intOf]; omega
  ·rw [Bool.not_eq_true] at c11
   refine Fx.L.call (by rfl) (Fx.r_call (args := [.agg (Fx.varr 20 (stY s)), .int .i64 ((k : Int) + 1)]) rfl rfl Try.func74 rfl rfl) rfl ((r_live1 s ((k : Int) + 1) _).mono ?_)
   rintro e w6 ⟨he, hb2⟩
   refine ⟨.bool false, by rw [he, c11], ?_⟩
   clear he
   have s4 := Fx.Stp.of_below hb2
   have m12 := m3.stp s4 (Nat.ne_of_lt (m3.lt))
   have m13 := m4.stp s4 (m4.notNew (Nat.le_refl _))
   have b6 := s4.below b2 b2.size b2.size
   refine Fx.L.nil (Fx.seqN (Fx.W.cond (b := false) rfl (fun h => nomatch h) (fun _ => Fx.W.skip (Fx.blkN (Fx.seqN ?_)))))
   have hl := liveI_k (by omega) c11
   refine Fx.W.list (Fx.L.v (.int .i64 ((k : Int) + 1)) (x_move rfl h3) (Fx.L.v (.int .i64 ((k : Int) + 2)) (Fx.x_add rfl rfl rfl (Fx.i64e (by omega) (by omega))) (Fx.L.v (.int .i64 ((k : Int) + 2)) (x_assign rfl rfl) (Fx.L.nil ?_))))
   have m14 := m13.congr (y := lsX (liveN s (k + 1))) (fun j _ => by rw [live_no hl])
   skip
   refine Fx.lpN ⟨k + 1, n, a, cap, by omega, (by rw [live_no hl]; exact hn), h1, h2, (by first | rfl | exact congrArg (Value.int .i64) (by omega)), m12, m14, b6⟩ ?_
   show (7 - (intOf ((.int .i64 ((k : Int) + 2)))).toNat) < _
   simp only [h3, intOf]; omega
 ·refine Fx.L.v (.bool false) (x_leqF rfl rfl rfl c6) (Fx.L.nil (Fx.seqN (Fx.W.cond (b := false) rfl (fun h => nomatch h) (fun _ => Fx.W.exit (Fx.seqX (Fx.lpX (Fx.blkX (Fx.seqN (Fx.W.seq (Fx.W.list (Fx.L.v (.slice a (n) (cap)) (x_move rfl h2) (Fx.L.v (.slice a (n) (cap)) (x_assign rfl rfl) (Fx.L.nil (Fx.seqN (Fx.W.ret (⟨.slice a (n) (cap), Fx.retV1 Try.results31 (by exact rfl), ?_⟩))))))))))))))))
  obtain rfl : k = 6 := by omega
  exact ⟨_, n, rfl, hn, m4, b2⟩
theorem g_index (a : Option Addr) (n cap : Nat) (l : List Int) (x : Int) (w : World) (hl : Fx.Arr w a n 1 (lsX l)) (hn : n ≤ 1000000) :
    Calls Try.prog 111 #[.slice a (n) (cap), .int .i64 (x)] w fun e w' => e = .returned (.int .i64 (firstI (fun k => decide (x = l.getD k 0)) n)) ∧ Below w.heap.size w w' := by
 refine Fx.enter Try.func111 rfl (n := 19) rfl (by rfl) ?_
 refine Fx.W.seq (Fx.W.list (Fx.L.v (.int .i64 (0)) (x_assign rfl rfl) (Fx.L.nil (Fx.seqN (Fx.W.seq (Fx.W.seq (Fx.W.list (Fx.L.v (.slice a (n) (cap)) (x_move rfl rfl) (Fx.L.v (.int .i64 ((n : Int))) (x_len rfl rfl rfl (by kernel_rfl)) (Fx.L.v (.int .i64 (0)) (x_move rfl rfl) (Fx.L.nil (Fx.seqN (Fx.W.block (Fx.W.loop (fun f w_ => ∃ k : Nat, k ≤ n ∧ (∀ i, i < k → (fun k => decide (x = l.getD k 0)) i = false) ∧ f 0 = .slice a (n) (cap) ∧ f 1 = .int .i64 (x) ∧ f 7 = .int .i64 ((n : Int)) ∧ f 8 = .int .i64 ((k : Int)) ∧ Below w.heap.size w w_) (fun f _ => (n - (intOf (f 8)).toNat)) ⟨0, by omega, (fun i h => absurd h (by omega)), (by rfl), (by first | rfl | exact congrArg (Value.int .i64) (by omega)), (by first | rfl | exact congrArg (Value.int .i64) (by omega)), (by first | rfl | exact congrArg (Value.int .i64) (by omega)), (Below.refl w.heap.size w)⟩ ?_))))))))))))))
 rintro f1 w1 ⟨k, hk, hall, h1, h2, h3, h4, b1⟩
 refine Fx.W.seq (Fx.W.list ?_)
 by_cases c9 : (k : Int) < (n : Int)
 ·refine Fx.L.v (.bool true) (Fx.x_lssT rfl h4 h3 c9) (Fx.L.nil (Fx.seqN (Fx.W.seq (Fx.W.cond (b := true) rfl (fun _ => Fx.W.skip (Fx.seqN (Fx.W.seq (Fx.W.block (Fx.W.seq (Fx.W.list (Fx.L.v (.int .i64 ((k : Int))) (x_move rfl h4) ?_))))))) (fun h => nomatch h)))))
  refine Fx.L.v (.int .i64 ((k : Int))) (x_assign rfl rfl) (Fx.L.nil (Fx.seqN (Fx.W.seq (Fx.W.list (Fx.L.v (.int .i64 (x)) (x_move rfl h2) (Fx.L.v (.slice a (n) (cap)) (x_move rfl h1) (Fx.L.v (.int .i64 ((k : Int))) (x_move rfl rfl) ?_)))))))
  obtain ⟨bq1, oq1, eq1, m1⟩ := (hl.up b1 rfl) (by omega)
  have lbq1 : bq1 < w1.heap.size := m1.lt (by omega)
  refine Fx.L.v (.pointer (some ⟨bq1, k + oq1, none⟩)) (x_indexS rfl (rfl.trans (congrArg (fun q => Value.slice q (n) (cap)) eq1)) rfl Try.underlying23 (s := 1) (by kernel_rfl) (by omega) (by omega) (by omega)) (Fx.L.v (.int .i64 (l.getD k 0)) (x_load1 (x := lsX l) rfl rfl (by kernel_rfl) m1 (i := k) (by omega) (by omega) rfl) ?_)
  by_cases c16 : x = (l.getD k 0)
  ·refine Fx.L.v (.bool true) (x_eqlT rfl rfl rfl c16) (Fx.L.nil (Fx.seqN (Fx.W.cond (b := true) rfl (fun _ => Fx.W.seq (Fx.W.list (Fx.L.v (.int .i64 ((k : Int))) (x_move rfl rfl) ?_))) (fun h => nomatch h))))
   refine Fx.L.v (.int .i64 ((k : Int))) (x_assign rfl rfl) (Fx.L.nil (Fx.seqN (Fx.W.ret (Fx.blkR (Fx.seqR (Fx.lpR (Fx.blkR (Fx.seqR (⟨.int .i64 ((k : Int)), Fx.retV1 Try.results111 (by exact rfl), ?_⟩)))))))))
   exact ⟨congrArg (fun q => Ending.returned (Value.int .i64 q)) (Eq.symm (firstI_hit hall (decide_eq_true c16) (by omega))), b1⟩
  ·refine Fx.L.v (.bool false) (x_eqlF rfl rfl rfl c16) (Fx.L.nil (Fx.seqN (Fx.W.cond (b := false) rfl (fun h => nomatch h) (fun _ => Fx.W.skip (Fx.blkN (Fx.seqN (Fx.W.list (Fx.L.v (.int .i64 ((k : Int) + 1)) (Fx.x_add rfl h4 rfl (Fx.i64e (by omega) (by omega))) (Fx.L.v (.int .i64 ((k : Int) + 1)) (x_move rfl rfl) (Fx.L.nil (Fx.lpN ⟨k + 1, by omega, (none_step hall (decide_eq_false c16)), h1, (h2.trans (by first | rfl | exact congrArg (Value.int .i64) (by omega))), (h3.trans (by first | rfl | exact congrArg (Value.int .i64) (by omega))), (by first | rfl | exact congrArg (Value.int .i64) (by omega)), b1⟩ ?_)))))))))))
   show (n - (intOf ((.int .i64 ((k : Int) + 1)))).toNat) < _
   simp only [h4, intOf]; omega
 ·refine Fx.L.v (.bool false) (Fx.x_lssF rfl h4 h3 c9) (Fx.L.nil (Fx.seqN (Fx.W.seq (Fx.W.cond (b := false) rfl (fun h => nomatch h) (fun _ => Fx.W.exit (Fx.seqX (Fx.lpX (Fx.blkX (Fx.seqN (Fx.W.seq (Fx.W.list (Fx.L.v (.int .i64 (-1)) (x_assign rfl rfl) (Fx.L.nil (Fx.seqN (Fx.W.ret (⟨.int .i64 (-1), Fx.retV1 Try.results111 (by exact rfl), ?_⟩))))))))))))))))
  exact ⟨congrArg (fun q => Ending.returned (Value.int .i64 q)) (Eq.symm (firstI_none (fun i hi => hall i (by omega)))), b1⟩
theorem g_contains (a : Option Addr) (n cap : Nat) (l : List Int) (x : Int) (w : World) (hl : Fx.Arr w a n 1 (lsX l)) (hn : n ≤ 1000000) :
    Calls Try.prog 75 #[.slice a (n) (cap), .int .i64 (x)] w fun e w' => e = .returned (.bool (decide (0 ≤ firstI (fun k => decide (x = l.getD k 0)) n))) ∧ Below w.heap.size w w' := by
 refine Fx.enter Try.func75 rfl (n := 9) rfl (by rfl) ?_
 refine Fx.W.seq (Fx.W.list (Fx.L.v (.bool false) (x_assign rfl rfl) (Fx.L.nil (Fx.seqN (Fx.W.seq (Fx.W.list (Fx.L.v (.slice a (n) (cap)) (x_move rfl rfl) (Fx.L.v (.int .i64 (x)) (x_move rfl rfl) (Fx.L.call (by rfl) (Fx.r_call (args := [.slice a (n) (cap), .int .i64 (x)]) rfl rfl Try.func111 rfl rfl) rfl ((g_index a n cap l x _ (hl.up (Below.refl w.heap.size w) rfl) hn).mono ?_))))))))))
 rintro e w1 ⟨he, hb1⟩
 refine ⟨.int .i64 (firstI (fun k => decide (x = l.getD k 0)) n), by rw [he], ?_⟩
 clear he
 have s1 := Fx.Stp.of_below hb1
 have b1 := s1.below (Below.refl w.heap.size w) (Below.refl w.heap.size w).size (Below.refl w.heap.size w).size
 by_cases c8 : 0 ≤ (firstI (fun k => decide (x = l.getD k 0)) n)
 ·refine Fx.L.v (.bool true) (Fx.x_geqT rfl rfl rfl c8) (Fx.L.v (.bool true) (x_assign rfl rfl) (Fx.L.nil (Fx.seqN (Fx.W.ret (⟨.bool true, Fx.retV1 Try.results75 (by exact rfl), ?_⟩)))))
  exact ⟨congrArg (fun q => Ending.returned (Value.bool q)) (Eq.symm (decide_eq_true c8)), b1⟩
 ·refine Fx.L.v (.bool false) (Fx.x_geqF rfl rfl rfl c8) (Fx.L.v (.bool false) (x_assign rfl rfl) (Fx.L.nil (Fx.seqN (Fx.W.ret (⟨.bool false, Fx.retV1 Try.results75 (by exact rfl), ?_⟩)))))
  exact ⟨congrArg (fun q => Ending.returned (Value.bool q)) (Eq.symm (decide_eq_false c8)), b1⟩
namespace Rt
def firstS (id : Nat → Int) (n : Nat) (x : Int) : Int := firstI (fun i => decide (id i = x)) n
def iterS (id par : Nat → Int) (n : Nat) : Nat → Int → Int
  | 0, x => x
  | k + 1, x => par (firstS id n (iterS id par n k x)).toNat
def pathS (id par : Nat → Int) (n : Nat) (x : Int) : Nat := lead (fun i => decide (0 ≤ firstS id n (iterS id par n i x))) 32
def ptU (id par : Nat → Int) (n : Nat) (x : Int) : Nat → Value := fun q => .int .u64 (iterS id par n q x)
theorem path_end {id par : Nat → Int} {n k : Nat} {x : Int} (h : ∀ i, i < k → 0 ≤ firstS id n (iterS id par n i x)) (h2 : firstS id n (iterS id par n k x) < 0) (hk : k ≤ 32) : k = pathS id par n x :=
  (lead_eq (fun i hi => decide_eq_true (h i hi)) (decide_eq_false (by omega)) hk).symm
theorem path_all {id par : Nat → Int} {n : Nat} {x : Int} (h : ∀ i, i < 32 → 0 ≤ firstS id n (iterS id par n i x)) : 32 = pathS id par n x := (lead_all fun i hi => decide_eq_true (h i hi)).symm
theorem path_le {id par : Nat → Int} {n : Nat} {x : Int} : pathS id par n x ≤ 32 := lead_le _ _
end Rt
theorem q_find1 (idv parv : Int) (Rv : Nat → Int) (gx : Nat) (x : Int) (w : World) (hgx : Fx.Blk w gx 1 (fun _ => .int .u64 (x)) 27) :
    Calls Try.prog 113 #[.agg (Fx.varr 56 (ndY (idv) (parv) (Rv))), .pointer (some ⟨gx, 0, none⟩)] w fun e w' => e = .returned (.bool (decide (idv = x))) ∧ Below w.heap.size w w' := by
 have lgx := hgx.lt
 refine Fx.enter Try.func113 rfl (n := 8) rfl (by rfl) ?_
 refine Fx.W.seq (Fx.W.list (Fx.L.box (m := 56) (y := ndY (idv) (parv) (Rv)) (by rfl) rfl rfl (Fx.cells_agg _ _) rfl fun g1 w1 eg1 m1 s1 z1 => ?_))
 have m2 := hgx.stp s1 (Nat.ne_of_lt (hgx.lt))
 have b1 := s1.below (Below.refl w.heap.size w) (Below.refl w.heap.size w).size (Below.refl w.heap.size w).size
 have lg1 : w.heap.size ≤ g1 := by rw [eg1]; exact (Below.refl w.heap.size w).size
 have ng1m2 : gx ≠ g1 := by rw [eg1]; exact Nat.ne_of_lt (hgx.lt)
 have tg1 : g1 < w1.heap.size := m1.lt
 clear eg1
 refine Fx.L.v (.bool false) (x_assign rfl rfl) (Fx.L.nil (Fx.seqN (Fx.W.seq (Fx.W.list (Fx.L.v (.pointer (some ⟨g1, 0, none⟩)) (x_field rfl rfl Try.underlying50 rfl (s := 1) (by kernel_rfl) rfl rfl) (Fx.L.v (.int .u64 (idv)) (x_load1 (x := ndY (idv) (parv) (Rv)) rfl rfl (by kernel_rfl) m1.cel (i := 0) (by omega) (by omega) rfl) (Fx.L.v (.int .u64 (x)) (x_load1 (x := fun _ => .int .u64 (x)) rfl rfl (by kernel_rfl) m2.cel (i := 0) (by omega) (by omega) rfl) ?_)))))))
 by_cases c7 : idv = x
 ·refine Fx.L.v (.bool true) (x_eqlT rfl rfl rfl c7) (Fx.L.v (.bool true) (x_assign rfl rfl) (Fx.L.nil (Fx.seqN (Fx.W.ret (⟨.bool true, Fx.retV1 Try.results113 (by exact rfl), ?_⟩)))))
  exact ⟨by rw [decide_eq_true c7], b1⟩
 ·refine Fx.L.v (.bool false) (x_eqlF rfl rfl rfl c7) (Fx.L.v (.bool false) (x_assign rfl rfl) (Fx.L.nil (Fx.seqN (Fx.W.ret (⟨.bool false, Fx.retV1 Try.results113 (by exact rfl), ?_⟩)))))
  exact ⟨by rw [decide_eq_false c7], b1⟩
theorem q_index (a : Option Addr) (n cap : Nat) (id par : Nat → Int) (R : Nat → Nat → Int) (gx : Nat) (x : Int) (w : World) (hnd : Fx.Arr w a n 56 (Fx.flat 56 fun k => ndY (id k) (par k) (R k))) (hgx : Fx.Blk w gx 1 (fun _ => .int .u64 (x)) 27) (hn : n ≤ 1000000) :
    Calls Try.prog 112 #[.slice a (n) (cap), .func (.func 113) #[] #[.pointer (some ⟨gx, 0, none⟩)]] w fun e w' => e = .returned (.int .i64 (firstS id n x)) ∧ Below w.heap.size w w' := by
 have lgx := hgx.lt
 refine Fx.enter Try.func112 rfl (n := 19) rfl (by rfl) ?_
 refine Fx.W.seq (Fx.W.list (Fx.L.v (.int .i64 (0)) (x_assign rfl rfl) (Fx.L.nil (Fx.seqN (Fx.W.seq (Fx.W.seq (Fx.W.list (Fx.L.v (.slice a (n) (cap)) (x_move rfl rfl) (Fx.L.v (.int .i64 ((n : Int))) (x_len rfl rfl rfl (by kernel_rfl)) (Fx.L.v (.int .i64 (0)) (x_move rfl rfl) (Fx.L.nil (Fx.seqN (Fx.W.block (Fx.W.loop (fun f w_ => ∃ k : Nat, k ≤ n ∧ (∀ i, i < k → (fun i => decide (id i = x)) i = false) ∧ f 0 = .slice a (n) (cap) ∧ f 1 = .func (.func 113) #[] #[.pointer (some ⟨gx, 0, none⟩)] ∧ f 7 = .int .i64 ((n : Int)) ∧ f 8 = .int .i64 ((k : Int)) ∧ Fx.Blk w_ gx 1 (fun _ => .int .u64 (x)) 27 ∧ Below w.heap.size w w_) (fun f _ => (n - (intOf (f 8)).toNat)) ⟨0, by omega, (fun i h => absurd h (by omega)), (by rfl), (by rfl), (by first | rfl | exact congrArg (Value.int .i64) (by omega)), (by first | rfl | exact congrArg (Value.int .i64) (by omega)), hgx, (Below.refl w.heap.size w)⟩ ?_))))))))))))))
 rintro f1 w1 ⟨k, hk, hall, h1, h2, h3, h4, m1, b1⟩
 refine Fx.W.seq (Fx.W.list ?_)
 by_cases c9 : (k : Int) < (n : Int)
 ·refine Fx.L.v (.bool true) (Fx.x_lssT rfl h4 h3 c9) (Fx.L.nil (Fx.seqN (Fx.W.seq (Fx.W.cond (b := true) rfl (fun _ => Fx.W.skip (Fx.seqN (Fx.W.seq (Fx.W.block (Fx.W.seq (Fx.W.list (Fx.L.v (.int .i64 ((k : Int))) (x_move rfl h4) ?_))))))) (fun h => nomatch h)))))
  refine Fx.L.v (.int .i64 ((k : Int))) (x_assign rfl rfl) (Fx.L.nil (Fx.seqN (Fx.W.seq (Fx.W.list (Fx.L.v (.func (.func 113) #[] #[.pointer (some ⟨gx, 0, none⟩)]) (x_move rfl h2) (Fx.L.v (.slice a (n) (cap)) (x_move rfl h1) (Fx.L.v (.int .i64 ((k : Int))) (x_move rfl rfl) ?_)))))))
  obtain ⟨bq1, oq1, eq1, m2⟩ := (hnd.up b1 rfl) (by omega)
  have lbq1 : bq1 < w1.heap.size := m2.lt (by omega)
  refine Fx.L.v (.pointer (some ⟨bq1, 56 * k + oq1, none⟩)) (x_indexS rfl (rfl.trans (congrArg (fun q => Value.slice q (n) (cap)) eq1)) rfl Try.underlying40 (s := 56) (by kernel_rfl) (by omega) (by omega) (by omega)) (Fx.L.v (.agg (Fx.varr 56 (ndY (id k) (par k) (R k)))) (x_loadA (x := Fx.flat 56 (fun kq => ndY (id kq) (par kq) (R kq))) (y := ndY (id k) (par k) (R k)) rfl rfl (by kernel_rfl) (by kernel_rfl) m2 (i := 56 * k) (by omega) (by omega) (fun jq hjq => Fx.flat_at (k := k) (by omega) hjq)) ?_)
  by_cases c16 : (decide (id k = x)) = true
  ·refine Fx.L.call (by rfl) (Fx.r_clo (args := [.agg (Fx.varr 56 (ndY (id k) (par k) (R k)))]) rfl rfl rfl (all := #[.agg (Fx.varr 56 (ndY (id k) (par k) (R k))), .pointer (some ⟨gx, 0, none⟩)]) rfl Try.func113 rfl rfl) rfl ((q_find1 (id k) (par k) (R k) gx x _ m1).mono ?_)
   rintro e w2 ⟨he, hb1⟩
   refine ⟨.bool true, by rw [he, c16], ?_⟩
   clear he
   have s1 := Fx.Stp.of_below hb1
   have b2 := s1.below b1 b1.size b1.size
   refine Fx.L.nil (Fx.seqN (Fx.W.cond (b := true) rfl (fun _ => Fx.W.seq (Fx.W.list (Fx.L.v (.int .i64 ((k : Int))) (x_move rfl rfl) ?_))) (fun h => nomatch h)))
   refine Fx.L.v (.int .i64 ((k : Int))) (x_assign rfl rfl) (Fx.L.nil (Fx.seqN (Fx.W.ret (Fx.blkR (Fx.seqR (Fx.lpR (Fx.blkR (Fx.seqR (⟨.int .i64 ((k : Int)), Fx.retV1 Try.results112 (by exact rfl), ?_⟩)))))))))
   exact ⟨congrArg (fun q => Ending.returned (Value.int .i64 q)) (Eq.symm (firstI_hit hall c16 (by omega))), b2⟩
  ·rw [Bool.not_eq_true] at c16
   refine Fx.L.call (by rfl) (Fx.r_clo (args := [.agg (Fx.varr 56 (ndY (id k) (par k) (R k)))]) rfl rfl rfl (all := #[.agg (Fx.varr 56 (ndY (id k) (par k) (R k))), .pointer (some ⟨gx, 0, none⟩)]) rfl Try.func113 rfl rfl) rfl ((q_find1 (id k) (par k) (R k) gx x _ m1).mono ?_)
   rintro e w3 ⟨he, hb2⟩
   refine ⟨.bool false, by rw [he, c16], ?_⟩
   clear he
   have s2 := Fx.Stp.of_below hb2
   have m5 := m1.stp s2 (Nat.ne_of_lt (m1.lt))
   have b3 := s2.below b1 b1.size b1.size
   refine Fx.L.nil (Fx.seqN (Fx.W.cond (b := false) rfl (fun h => nomatch h) (fun _ => Fx.W.skip (Fx.blkN (Fx.seqN (Fx.W.list (Fx.L.v (.int .i64 ((k : Int) + 1)) (Fx.x_add rfl h4 rfl (Fx.i64e (by omega) (by omega))) (Fx.L.v (.int .i64 ((k : Int) + 1)) (x_move rfl rfl) (Fx.L.nil (Fx.lpN ⟨k + 1, by omega, (none_step hall c16), h1, h2, (h3.trans (by first | rfl | exact congrArg (Value.int .i64) (by omega))), (by first | rfl | exact congrArg (Value.int .i64) (by omega)), m5, b3⟩ ?_))))))))))
   show (n - (intOf ((.int .i64 ((k : Int) + 1)))).toNat) < _
   simp only [h4, intOf]; omega
 ·refine Fx.L.v (.bool false) (Fx.x_lssF rfl h4 h3 c9) (Fx.L.nil (Fx.seqN (Fx.W.seq (Fx.W.cond (b := false) rfl (fun h => nomatch h) (fun _ => Fx.W.exit (Fx.seqX (Fx.lpX (Fx.blkX (Fx.seqN (Fx.W.seq (Fx.W.list (Fx.L.v (.int .i64 (-1)) (x_assign rfl rfl) (Fx.L.nil (Fx.seqN (Fx.W.ret (⟨.int .i64 (-1), Fx.retV1 Try.results112 (by exact rfl), ?_⟩))))))))))))))))
  exact ⟨congrArg (fun q => Ending.returned (Value.int .i64 q)) (Eq.symm (firstI_none (fun i hi => hall i (by omega)))), b1⟩
theorem q_find (s : StM) (id par : Nat → Int) (R : Nat → Nat → Int) (x : Int) (w : World) (hnd : Fx.Arr w s.na s.nn 56 (Fx.flat 56 fun k => ndY (id k) (par k) (R k))) (hnn : s.nn ≤ 1000000) :
    Calls Try.prog 77 #[.agg (Fx.varr 20 (stY s)), .int .u64 (x)] w fun e w' => e = .returned (.int .i64 (firstS id s.nn x)) ∧ Below w.heap.size w w' := by
 refine Fx.enter Try.func77 rfl (n := 9) rfl (by rfl) ?_
 refine Fx.W.seq (Fx.W.list (Fx.L.box (m := 20) (y := stY s) (by rfl) rfl rfl (Fx.cells_agg _ _) rfl fun g1 w1 eg1 m1 s1 z1 => ?_))
 have b1 := s1.below (Below.refl w.heap.size w) (Below.refl w.heap.size w).size (Below.refl w.heap.size w).size
 have lg1 : w.heap.size ≤ g1 := by rw [eg1]; exact (Below.refl w.heap.size w).size
 have tg1 : g1 < w1.heap.size := m1.lt
 clear eg1
 refine Fx.L.box (m := 1) (y := fun _ => .int .u64 (x)) (by rfl) rfl rfl (Fx.cells_one (by rfl)) rfl fun g2 w2 eg2 m2 s2 z2 => ?_
 have m3 := m1.stp s2 (Nat.ne_of_lt (m1.lt))
 have b2 := s2.below b1 b1.size b1.size
 have lg2 : w.heap.size ≤ g2 := by rw [eg2]; exact b1.size
 have ng2m3 : g1 ≠ g2 := by rw [eg2]; exact Nat.ne_of_lt (m1.lt)
 have tg2 : g2 < w2.heap.size := m2.lt
 clear eg2
 refine Fx.L.v (.int .i64 (0)) (x_assign rfl rfl) (Fx.L.nil (Fx.seqN (Fx.W.seq (Fx.W.list (Fx.L.v (.pointer (some ⟨g1, 18, none⟩)) (x_field rfl rfl Try.underlying43 rfl (s := 1) (by kernel_rfl) rfl (by show _ + 18 = _; omega)) (Fx.L.v (.slice s.na (s.nn) (s.nc)) (x_load1 (x := stY s) rfl rfl (by kernel_rfl) m3.cel (i := 18) (by omega) (by omega) rfl) (Fx.L.v (.func (.func 113) #[] #[.pointer (some ⟨g2, 0, none⟩)]) (Fx.x_func (us := []) (vs := [.pointer (some ⟨g2, 0, none⟩)]) rfl rfl rfl) (Fx.L.call (by rfl) (Fx.r_call (args := [.slice s.na (s.nn) (s.nc), .func (.func 113) #[] #[.pointer (some ⟨g2, 0, none⟩)]]) rfl rfl Try.func112 rfl rfl) rfl ((q_index s.na s.nn s.nc id par R g2 x _ (hnd.up b2 rfl) m2 hnn).mono ?_)))))))))
 rintro e w3 ⟨he, hb1⟩
 refine ⟨.int .i64 (firstS id s.nn x), by rw [he], ?_⟩
 clear he
 have s3 := Fx.Stp.of_below hb1
 have b3 := s3.below b2 b2.size b2.size
 refine Fx.L.v (.int .i64 (firstS id s.nn x)) (x_assign rfl rfl) (Fx.L.nil (Fx.seqN (Fx.W.ret (⟨.int .i64 (firstS id s.nn x), Fx.retV1 Try.results77 (by exact rfl), ?_⟩))))
 exact ⟨rfl, b3⟩
theorem Rt.pu_app {id par : Nat → Int} {n k : Nat} {x : Int} {z : Nat → Value} : ∀ j, j < (k + 1) * 1 → Fx.appX (ptU id par n x) (k * 1) (Fx.ovr z (0 * 1) 1 (fun _ => .int .u64 (iterS id par n k x))) j = ptU id par n x j := fun j hj => by
  unfold Fx.appX
  by_cases h : j < k * 1
  · rw [if_pos h]
  · rw [if_neg h]
    unfold Fx.ovr
    rw [if_pos (by omega)]
    show Value.int .u64 (iterS id par n k x) = Value.int .u64 (iterS id par n j x)
    rw [show j = k by omega]
theorem Rt.first_ge {id : Nat → Int} {n : Nat} {x : Int} (h : 0 ≤ firstS id n x) : ∃ j : Nat, j < n ∧ firstS id n x = (j : Int) ∧ id j = x := by
  rcases firstI_spec (fun i => decide (id i = x)) n with ⟨k, hk, e, hp⟩ | ⟨e, _⟩
  · exact ⟨k, hk, e, of_decide_eq_true hp⟩
  · unfold firstS at h; rw [e] at h; omega
theorem Rt.path_step {id par : Nat → Int} {n k : Nat} {x : Int} (h : ∀ i, i < k → 0 ≤ firstS id n (iterS id par n i x)) (h2 : 0 ≤ firstS id n (iterS id par n k x)) : ∀ i, i < k + 1 → 0 ≤ firstS id n (iterS id par n i x) := fun i hi => by
  by_cases e : i = k
  · rw [e]; exact h2
  · exact h i (by omega)
set_option maxRecDepth 10000 in
theorem q_path (s : StM) (id par : Nat → Int) (R : Nat → Nat → Int) (x : Int) (w : World) (hnd : Fx.Arr w s.na s.nn 56 (Fx.flat 56 fun k => ndY (id k) (par k) (R k))) (hnn : s.nn ≤ 1000000) :
    Calls Try.prog 38 #[.agg (Fx.varr 20 (stY s)), .int .u64 (x)] w fun e w' => ∃ v n, e = .returned v ∧ n = pathS id par s.nn x ∧ Fx.Own w' w.heap.size 27 1 v n (ptU id par s.nn x) ∧ Below w.heap.size w w' := by
 refine Fx.enter Try.func38 rfl (n := 30) rfl (by rfl) ?_
 refine Fx.W.seq (Fx.W.list (Fx.L.box (m := 20) (y := stY s) (by rfl) rfl rfl (Fx.cells_agg _ _) rfl fun g1 w1 eg1 m1 s1 z1 => ?_))
 have b1 := s1.below (Below.refl w.heap.size w) (Below.refl w.heap.size w).size (Below.refl w.heap.size w).size
 have lg1 : w.heap.size ≤ g1 := by rw [eg1]; exact (Below.refl w.heap.size w).size
 have tg1 : g1 < w1.heap.size := m1.lt
 clear eg1
 refine Fx.L.v (.slice none 0 0) (x_assign rfl rfl) (Fx.L.nil (Fx.seqN (Fx.W.seq (Fx.W.seq (Fx.W.list (Fx.L.v (.agg (Fx.varr 20 (stY s))) (x_loadA (x := stY s) (y := stY s) rfl rfl (by kernel_rfl) (by kernel_rfl) m1.cel (i := 0) (by omega) (by omega) (fun j _ => by rw [Nat.zero_add])) (Fx.L.v (.int .u64 (x)) (x_move rfl rfl) (Fx.L.call (by rfl) (Fx.r_call (args := [.agg (Fx.varr 20 (stY s)), .int .u64 (x)]) rfl rfl Try.func77 rfl rfl) rfl ((q_find s id par R x _ (hnd.up b1 rfl) hnn).mono ?_)))))))))
 rintro e w2 ⟨he, hb1⟩
 refine ⟨.int .i64 (firstS id s.nn x), by rw [he], ?_⟩
 clear he
 have s2 := Fx.Stp.of_below hb1
 have m2 := m1.stp s2 (Nat.ne_of_lt (m1.lt))
 have b2 := s2.below b1 b1.size b1.size
 refine Fx.L.v (.int .i64 (firstS id s.nn x)) (x_assign rfl rfl) (Fx.L.nil (Fx.seqN (Fx.W.block ?_)))
 have m3 : Fx.Own w2 w.heap.size 27 1 (.slice none 0 0) 0 (ptU id par s.nn x) := Fx.Own.nil _ _ _ _ _
 refine Fx.W.loop (fun f w_ => ∃ k : Nat, ∃ a : Option Addr, ∃ cap : Nat, k ≤ 32 ∧ (∀ i, i < k → 0 ≤ firstS id s.nn (iterS id par s.nn i x)) ∧ f 1 = .int .u64 (iterS id par s.nn k x) ∧ f 2 = .pointer (some ⟨g1, 0, none⟩) ∧ f 4 = .slice a (k) (cap) ∧ f 5 = .int .i64 (firstS id s.nn (iterS id par s.nn k x)) ∧ Fx.Blk w_ g1 20 (stY s) 43 ∧ Fx.Own w_ w.heap.size 27 1 (.slice a (k) (cap)) k (ptU id par s.nn x) ∧ Below w.heap.size w w_) (fun f _ => (32 - lenV (f 4))) ⟨0, none, 0, by omega, (fun i h => absurd h (by omega)), (by first | rfl | exact congrArg (Value.int .u64) (by omega)), (by rfl), (by rfl), (by first | rfl | exact congrArg (Value.int .i64) (by omega)), m2, m3, b2⟩ ?_
 rintro f1 w3 ⟨k, a, cap, hk, hall, h1, h2, h3, h4, m4, m5, b3⟩
 refine Fx.W.seq (Fx.W.seq (Fx.W.list (Fx.L.v (.int .i64 (firstS id s.nn (iterS id par s.nn k x))) (x_move rfl h4) ?_)))
 by_cases c10 : 0 ≤ (firstS id s.nn (iterS id par s.nn k x))
 ·refine Fx.L.v (.bool true) (Fx.x_geqT rfl rfl rfl c10) (Fx.L.v (.bool true) (x_move rfl rfl) (Fx.L.v (.slice a (k) (cap)) (x_move rfl h3) (Fx.L.v (.int .i64 ((k : Int))) (x_len rfl rfl rfl (by kernel_rfl)) ?_)))
  by_cases c14 : (k : Int) < 32
  ·refine Fx.L.v (.bool true) (Fx.x_lssT rfl rfl rfl c14) (Fx.L.v (.bool true) (x_pickT rfl rfl rfl) (Fx.L.nil (Fx.seqN (Fx.W.cond (b := true) rfl (fun _ => Fx.W.skip (Fx.seqN (Fx.W.seq (Fx.W.block (Fx.W.seq (Fx.W.list (Fx.L.v (.slice a (k) (cap)) (x_move rfl h3) ?_))))))) (fun h => nomatch h)))))
   refine Fx.L.v (.int .u64 (iterS id par s.nn k x)) (x_move rfl h1) (Fx.L.bslice (vs := [(0, .int .u64 (iterS id par s.nn k x))]) (s := 1) (zc := Fx.rv .u64 (fun _ => 0)) (y := Fx.ovr (fun j => (Fx.rv .u64 (fun _ => 0)) (j % 1)) (0 * 1) 1 (fun _ => .int .u64 (iterS id par s.nn k x))) (by rfl) rfl rfl Try.underlying68 (by kernel_rfl) (by rfl) (by rfl) (by kernel_rfl) (by rw [Fx.fill_step (off := 0 * 1) (s := 1) (y := fun _ => .int .u64 (iterS id par s.nn k x)) rfl (Fx.cells_one (by rfl)) (by rfl)]; rfl) rfl fun g2 w4 eg2 m6 s3 z2 => ?_)
   have m7 := m4.stp s3 (Nat.ne_of_lt (m4.lt))
   have m8 := m5.stp s3 (m5.notNew (Nat.le_refl _))
   have b4 := s3.below b3 b3.size b3.size
   have lg2 : w.heap.size ≤ g2 := by rw [eg2]; exact b3.size
   have ng2m7 : g1 ≠ g2 := by rw [eg2]; exact Nat.ne_of_lt (m4.lt)
   have ng2m8 : (.slice a (k) (cap) : Value).ownBlock ≠ some g2 := by rw [eg2]; exact m5.notNew (Nat.le_refl _)
   have tg2 : g2 < w4.heap.size := m6.lt
   clear eg2
   refine Fx.L.app (B := w.heap.size) (s := 1) (bytes := 8) (k := k) (m := 1) (v := .slice a (k) (cap)) (x := ptU id par s.nn x) (by rfl) rfl rfl rfl Try.underlying68 (by kernel_rfl) (by kernel_rfl) rfl rfl m8 m6.cel (ovr_one (fun _ => rfl)) (by omega) (by omega) (by omega) b4.size fun g3 cap1 w5 ho1 hg1 hgv1 hlt1 => ?_
   have hct1 := Fx.ChT.of_grown hg1 m8
   have m10 := m7.chT hct1 (by decide)
   have m9 : Fx.Own w5 w.heap.size 27 1 (.slice (some ⟨g3, 0, none⟩) (k + 1) cap1) (k + 1) (ptU id par s.nn x) := (ho1.congr (fun j hj => pu_app j hj))
   have b5 : Below w.heap.size w w5 := Fx.Below.grow b4 hg1 b4.size (fun q hq => (m8.ge hq).1)
   refine Fx.L.v (.slice (some ⟨g3, 0, none⟩) (k + 1) (cap1)) (x_assign rfl rfl) (Fx.L.nil (Fx.seqN ?_))
   obtain ⟨j, hj, ej, _⟩ := first_ge c10
   have ei : iterS id par s.nn (k + 1) x = par j := by show par (firstS id s.nn (iterS id par s.nn k x)).toNat = _; rw [ej]; rfl
   refine Fx.W.list (Fx.L.v (.pointer (some ⟨g1, 18, none⟩)) (x_field rfl h2 Try.underlying43 rfl (s := 1) (by kernel_rfl) rfl (by show _ + 18 = _; omega)) (Fx.L.v (.slice s.na (s.nn) (s.nc)) (x_load1 (x := stY s) rfl rfl (by kernel_rfl) m10.cel (i := 18) (by omega) (by omega) rfl) (Fx.L.v (.int .i64 ((j : Int))) (x_move rfl (h4.trans (congrArg (Value.int .i64) ej))) ?_)))
   obtain ⟨bq1, oq1, eq1, m11⟩ := (hnd.up b5 rfl) (by omega)
   have lbq1 : bq1 < w5.heap.size := m11.lt (by omega)
   refine Fx.L.v (.pointer (some ⟨bq1, 56 * j + oq1, none⟩)) (x_indexS rfl (rfl.trans (congrArg (fun q => Value.slice q (s.nn) (s.nc)) eq1)) rfl Try.underlying40 (s := 56) (by kernel_rfl) (by omega) (by omega) (by omega)) (Fx.L.v (.pointer (some ⟨bq1, 56 * j + oq1 + 1, none⟩)) (x_field rfl rfl Try.underlying50 rfl (s := 1) (by kernel_rfl) rfl (by show _ + 1 = _; omega)) (Fx.L.v (.int .u64 (par j)) (x_load1 (x := Fx.flat 56 (fun kq => ndY (id kq) (par kq) (R kq))) rfl rfl (by kernel_rfl) m11 (i := 56 * j + 1) (by omega) (by omega) (Fx.flat_cell (k := j) (j := 1) (by omega) (by omega) rfl)) (Fx.L.v (.int .u64 (par j)) (x_assign rfl rfl) (Fx.L.nil (Fx.blkN (Fx.seqN (Fx.W.list (Fx.L.v (.agg (Fx.varr 20 (stY s))) (x_loadA (x := stY s) (y := stY s) rfl h2 (by kernel_rfl) (by kernel_rfl) m10.cel (i := 0) (by omega) (by omega) (fun j _ => by rw [Nat.zero_add])) (Fx.L.v (.int .u64 (iterS id par s.nn (k + 1) x)) (x_move rfl (rfl.trans (congrArg (Value.int .u64) ei.symm))) (Fx.L.call (by rfl) (Fx.r_call (args := [.agg (Fx.varr 20 (stY s)), .int .u64 (iterS id par s.nn (k + 1) x)]) rfl rfl Try.func77 rfl rfl) rfl ((q_find s id par R (iterS id par s.nn (k + 1) x) _ (hnd.up b5 rfl) hnn).mono ?_)))))))))))
   rintro e w6 ⟨he, hb2⟩
   refine ⟨.int .i64 (firstS id s.nn (iterS id par s.nn (k + 1) x)), by rw [he], ?_⟩
   clear he
   have s4 := Fx.Stp.of_below hb2
   have m12 := m10.stp s4 (Nat.ne_of_lt (m10.lt))
   have m13 := m9.stpB s4 (Nat.ne_of_lt (m9.lt))
   have b6 := s4.below b5 b5.size b5.size
   refine Fx.L.v (.int .i64 (firstS id s.nn (iterS id par s.nn (k + 1) x))) (x_assign rfl rfl) (Fx.L.nil ?_)
   skip
   refine Fx.lpN ⟨k + 1, (some ⟨g3, 0, none⟩), cap1, by omega, (path_step hall c10), ((rfl.trans (congrArg (Value.int .u64) ei.symm)).trans (by first | rfl | exact congrArg (Value.int .u64) (by omega))), h2, (by rfl), (by first | rfl | exact congrArg (Value.int .i64) (by omega)), m12, m13, b6⟩ ?_
   show (32 - lenV ((.slice (some ⟨g3, 0, none⟩) (k + 1) (cap1)))) < _
   simp only [h3, intOf, lenV]; omega
  ·refine Fx.L.v (.bool false) (Fx.x_lssF rfl rfl rfl c14) (Fx.L.v (.bool false) (x_pickT rfl rfl rfl) (Fx.L.nil (Fx.seqN (Fx.W.cond (b := false) rfl (fun h => nomatch h) (fun _ => Fx.W.exit (Fx.seqX (Fx.lpX (Fx.blkX (Fx.seqN (Fx.W.seq (Fx.W.list (Fx.L.v (.slice a (k) (cap)) (x_move rfl h3) (Fx.L.v (.slice a (k) (cap)) (x_assign rfl rfl) (Fx.L.nil (Fx.seqN (Fx.W.ret (⟨.slice a (k) (cap), Fx.retV1 Try.results38 (by exact rfl), ?_⟩)))))))))))))))))
   obtain rfl : k = 32 := by omega
   have hpe : 32 = pathS id par s.nn x := path_all hall
   exact ⟨_, _, rfl, hpe, m5, b3⟩
 ·refine Fx.L.v (.bool false) (Fx.x_geqF rfl rfl rfl c10) (Fx.L.v (.bool false) (x_move rfl rfl) (Fx.L.skip (by rfl) rfl (Fx.L.skip (by rfl) rfl (Fx.L.skip (by rfl) rfl (Fx.L.v (.bool false) (x_pickF rfl rfl rfl) (Fx.L.nil (Fx.seqN (Fx.W.cond (b := false) rfl (fun h => nomatch h) (fun _ => Fx.W.exit (Fx.seqX (Fx.lpX (Fx.blkX (Fx.seqN (Fx.W.seq (Fx.W.list (Fx.L.v (.slice a (k) (cap)) (x_move rfl h3) (Fx.L.v (.slice a (k) (cap)) (x_assign rfl rfl) (Fx.L.nil (Fx.seqN (Fx.W.ret (⟨.slice a (k) (cap), Fx.retV1 Try.results38 (by exact rfl), ?_⟩)))))))))))))))))))))
  have hpe : k = pathS id par s.nn x := path_end hall (by omega) hk
  exact ⟨_, _, rfl, hpe, m5, b3⟩
namespace Rt
def quN (r : Nat → Int) (k : Nat) : Nat → Value := fun p => if p = 0 then .int .i64 (sums r).1 else if p = 1 then .int .i64 (sums r).2 else .int .i64 (if p - 2 < k then localV r ((p : Int) - 1) else 0)
def quZ : Nat → Value := fun _ => .int .i64 (0)
def quF (id : Nat → Int) (n : Nat) (R : Nat → Nat → Int) (x : Int) : Nat → Value := if firstS id n x < 0 then quZ else quN (R (firstS id n x).toNat) 6
def quE (id : Nat → Int) (n : Nat) (x : Int) : Int := if firstS id n x < 0 then 9 else 0
theorem qu_one (r : Nat → Int) (k j : Nat) : (quN r k j).oneCell' = true := by unfold quN; repeat (first | rfl | split)
theorem qu_next {r : Nat → Int} {k q : Nat} (hq : q = k + 2) {v : Int} (hv : v = localV r ((k : Int) + 1)) : ∀ j, j < 8 → Fx.updV (quN r k) q (.int .i64 v) j = quN r (k + 1) j := fun j _ => by
  subst hq hv
  unfold Fx.updV quN
  by_cases h : j = k + 2
  · subst h; rw [if_pos rfl, if_neg (by omega), if_neg (by omega), if_pos (by omega)]; congr 2; omega
  · rw [if_neg h]
    by_cases h0 : j = 0
    · rw [if_pos h0, if_pos h0]
    · by_cases h1 : j = 1
      · rw [if_neg h0, if_pos h1, if_neg h0, if_pos h1]
      · rw [if_neg h0, if_neg h1, if_neg h0, if_neg h1]
        by_cases h2 : j - 2 < k
        · rw [if_pos h2, if_pos (by omega)]
        · rw [if_neg h2, if_neg (by omega)]
end Rt
set_option maxRecDepth 10000 in
theorem q_of (s : StM) (id par : Nat → Int) (R : Nat → Nat → Int) (x : Int) (w : World) (hnd : Fx.Arr w s.na s.nn 56 (Fx.flat 56 fun k => ndY (id k) (par k) (R k))) (hnn : s.nn ≤ 1000000) :
    Calls Try.prog 36 #[.agg (Fx.varr 20 (stY s)), .int .u64 (x)] w fun e w' => e = .returned (.tuple #[.agg (Fx.varr 8 (quF id s.nn R x)), .int .i64 (quE id s.nn x)]) ∧ Below w.heap.size w w' := by
 refine Fx.enter Try.func36 rfl (n := 40) rfl (by rfl) ?_
 refine Fx.W.seq (Fx.W.list (Fx.L.box (m := 20) (y := stY s) (by rfl) rfl rfl (Fx.cells_agg _ _) rfl fun g1 w1 eg1 m1 s1 z1 => ?_))
 have b1 := s1.below (Below.refl w.heap.size w) (Below.refl w.heap.size w).size (Below.refl w.heap.size w).size
 have lg1 : w.heap.size ≤ g1 := by rw [eg1]; exact (Below.refl w.heap.size w).size
 have tg1 : g1 < w1.heap.size := m1.lt
 clear eg1
 refine Fx.L.new (m := 8) (y := Fx.rv .i64 (fun _ => 0)) (by rfl) rfl (by kernel_rfl) rfl fun g2 w2 eg2 m2 s2 z2 => ?_
 have m3 := m1.stp s2 (Nat.ne_of_lt (m1.lt))
 have b2 := s2.below b1 b1.size b1.size
 have lg2 : w.heap.size ≤ g2 := by rw [eg2]; exact b1.size
 have ng2m3 : g1 ≠ g2 := by rw [eg2]; exact Nat.ne_of_lt (m1.lt)
 have tg2 : g2 < w2.heap.size := m2.lt
 clear eg2
 refine Fx.L.v (.int .i64 (0)) (x_assign rfl rfl) (Fx.L.nil (Fx.seqN (Fx.W.seq (Fx.W.list (Fx.L.v (.agg (Fx.varr 20 (stY s))) (x_loadA (x := stY s) (y := stY s) rfl rfl (by kernel_rfl) (by kernel_rfl) m3.cel (i := 0) (by omega) (by omega) (fun j _ => by rw [Nat.zero_add])) (Fx.L.v (.int .u64 (x)) (x_move rfl rfl) (Fx.L.call (by rfl) (Fx.r_call (args := [.agg (Fx.varr 20 (stY s)), .int .u64 (x)]) rfl rfl Try.func77 rfl rfl) rfl ((q_find s id par R x _ (hnd.up b2 rfl) hnn).mono ?_))))))))
 rintro e w3 ⟨he, hb1⟩
 refine ⟨.int .i64 (firstS id s.nn x), by rw [he], ?_⟩
 clear he
 have s3 := Fx.Stp.of_below hb1
 have m4 := m3.stp s3 (Nat.ne_of_lt (m3.lt))
 have m5 := m2.stp s3 (Nat.ne_of_lt (m2.lt))
 have b3 := s3.below b2 b2.size b2.size
 refine Fx.L.v (.int .i64 (firstS id s.nn x)) (x_assign rfl rfl) (Fx.L.nil (Fx.seqN (Fx.W.seq (Fx.W.seq (Fx.W.list (Fx.L.v (.int .i64 (firstS id s.nn x)) (x_move rfl rfl) ?_))))))
 by_cases c13 : (firstS id s.nn x) < 0
 ·refine Fx.L.v (.bool true) (Fx.x_lssT rfl rfl rfl c13) (Fx.L.nil (Fx.seqN (Fx.W.cond (b := true) rfl (fun _ => Fx.W.seq (Fx.W.list (Fx.L.v (.agg (Fx.varr 8 (Fx.rv .i64 (fun _ => 0)))) (x_loadA (x := Fx.rv .i64 (fun _ => 0)) (y := Fx.rv .i64 (fun _ => 0)) rfl rfl (by kernel_rfl) (by kernel_rfl) m5.cel (i := 0) (by omega) (by omega) (fun j _ => by rw [Nat.zero_add])) ?_))) (fun h => nomatch h))))
  refine Fx.L.storeA (x := Fx.rv .i64 (fun _ => 0)) (y := Fx.rv .i64 (fun _ => 0)) (by rfl) rfl rfl rfl rfl (fun _ _ => rfl) (by kernel_rfl) m5 (i := 0) (by omega) fun w4 m6 s4 z3 => ?_
  have m7 : Fx.Blk w4 g2 8 (Fx.rv .i64 (fun _ => 0)) 82 := Fx.ovr_all m6
  have b4 := s4.below b3 b3.size (by omega)
  refine Fx.L.v (.int .i64 (9)) (x_assign rfl rfl) (Fx.L.nil (Fx.seqN (Fx.W.ret (Fx.seqR (⟨.tuple #[.agg (Fx.varr 8 (Fx.rv .i64 (fun _ => 0))), .int .i64 (9)], Fx.retV2 Try.results36 ⟨_, rfl, Fx.run_loadV m7.cel (by kernel_rfl) (by kernel_rfl)⟩ (by exact rfl), ?_⟩)))))
  exact ⟨by unfold quF quE; rw [if_pos c13, if_pos c13]; rfl, b4⟩
 ·refine Fx.L.v (.bool false) (Fx.x_lssF rfl rfl rfl c13) (Fx.L.nil (Fx.seqN (Fx.W.cond (b := false) rfl (fun h => nomatch h) (fun _ => Fx.W.skip (Fx.seqN (Fx.W.seq ?_))))))
  obtain ⟨j, hj, ej, _⟩ := first_ge (show 0 ≤ firstS id s.nn x by omega)
  refine Fx.W.list (Fx.L.v (.pointer (some ⟨g1, 18, none⟩)) (x_field rfl rfl Try.underlying43 rfl (s := 1) (by kernel_rfl) rfl (by show _ + 18 = _; omega)) (Fx.L.v (.slice s.na (s.nn) (s.nc)) (x_load1 (x := stY s) rfl rfl (by kernel_rfl) m4.cel (i := 18) (by omega) (by omega) rfl) (Fx.L.v (.int .i64 ((j : Int))) (x_move rfl (congrArg (Value.int .i64) ej)) ?_)))
  obtain ⟨bq1, oq1, eq1, m9⟩ := (hnd.up b3 rfl) (by omega)
  have lbq1 : bq1 < w3.heap.size := m9.lt (by omega)
  refine Fx.L.v (.pointer (some ⟨bq1, 56 * j + oq1, none⟩)) (x_indexS rfl (rfl.trans (congrArg (fun q => Value.slice q (s.nn) (s.nc)) eq1)) rfl Try.underlying40 (s := 56) (by kernel_rfl) (by omega) (by omega) (by omega)) (Fx.L.v (.pointer (some ⟨bq1, 56 * j + oq1 + 2, none⟩)) (x_field rfl rfl Try.underlying50 rfl (s := 54) (by kernel_rfl) rfl (by show _ + 2 = _; omega)) (Fx.L.v (.agg (Fx.varr 54 (Fx.rv .i64 (R j)))) (x_loadA (x := Fx.flat 56 (fun kq => ndY (id kq) (par kq) (R kq))) (y := Fx.rv .i64 (R j)) rfl rfl (by kernel_rfl) (by kernel_rfl) m9 (i := 56 * j + 2) (by omega) (by omega) (fun jq hjq => (Fx.flat_at (k := j) (j := 2 + jq) (by omega) (by omega)).trans ((fun jq _ => ndY_row _ _ _ jq) jq hjq))) (Fx.L.new (m := 54) (y := Fx.rv .i64 (fun _ => 0)) (by rfl) rfl (by kernel_rfl) rfl fun g3 w5 eg3 m10 s5 z4 => ?_)))
  have m11 := m4.stp s5 (Nat.ne_of_lt (m4.lt))
  have m12 := m5.stp s5 (Nat.ne_of_lt (m5.lt))
  have m13 := m9.stp s5 (Nat.ne_of_lt (m9.lt (by omega)))
  have b5 := s5.below b3 b3.size b3.size
  have lg3 : w.heap.size ≤ g3 := by rw [eg3]; exact b3.size
  have ng3m11 : g1 ≠ g3 := by rw [eg3]; exact Nat.ne_of_lt (m4.lt)
  have ng3m12 : g2 ≠ g3 := by rw [eg3]; exact Nat.ne_of_lt (m5.lt)
  have ng3m13 : bq1 ≠ g3 := by rw [eg3]; exact Nat.ne_of_lt (m9.lt (by omega))
  have tg3 : g3 < w5.heap.size := m10.lt
  clear eg3
  refine Fx.L.storeA (x := Fx.rv .i64 (fun _ => 0)) (y := Fx.rv .i64 (R j)) (by rfl) rfl rfl rfl rfl (fun _ _ => rfl) (by kernel_rfl) m10 (i := 0) (by omega) fun w6 m14 s6 z5 => ?_
  have m15 : Fx.Blk w6 g3 54 (Fx.rv .i64 (R j)) 48 := Fx.ovr_all m14
  have hct2 := Fx.ChT.of_stp s6 m10.ty
  have m16 := m11.chT hct2 (by decide)
  have m17 := m12.chT hct2 (by decide)
  have m18 := m13.stp s6 (by omega)
  have b6 := s6.below b5 b5.size (by omega)
  refine Fx.L.nil (Fx.seqN (Fx.W.seq (Fx.W.list (Fx.L.v (.agg (Fx.varr 54 (Fx.rv .i64 (R j)))) (x_loadA (x := Fx.rv .i64 (R j)) (y := Fx.rv .i64 (R j)) rfl rfl (by kernel_rfl) (by kernel_rfl) m15.cel (i := 0) (by omega) (by omega) (fun j _ => by rw [Nat.zero_add])) (Fx.L.call (by rfl) (Fx.r_call (args := [.agg (Fx.varr 54 (Fx.rv .i64 (R j)))]) rfl rfl Try.func41 rfl rfl) rfl ((sums_any (R j) _).mono ?_))))))
  rintro e w7 ⟨he, hb2⟩
  refine ⟨.tuple #[.int .i64 ((sums (R j)).1), .int .i64 ((sums (R j)).2)], by rw [he], ?_⟩
  clear he
  have s7 := Fx.Stp.of_below hb2
  have m19 := m16.stp s7 (Nat.ne_of_lt (m16.lt))
  have m20 := m17.stp s7 (Nat.ne_of_lt (m17.lt))
  have m21 := m15.stp s7 (Nat.ne_of_lt (m15.lt))
  have b7 := s7.below b6 b6.size b6.size
  refine Fx.L.v (.tuple #[.int .i64 ((sums (R j)).1), .int .i64 ((sums (R j)).2)]) (x_move rfl rfl) (Fx.L.v (.int .i64 ((sums (R j)).1)) (Fx.x_extract rfl rfl rfl) (Fx.L.v (.int .i64 ((sums (R j)).2)) (Fx.x_extract rfl rfl rfl) (Fx.L.v (.pointer (some ⟨g2, 0, none⟩)) (x_field rfl rfl Try.underlying82 rfl (s := 1) (by kernel_rfl) rfl rfl) (Fx.L.store1 (x := Fx.rv .i64 (fun _ => 0)) (u := .int .i64 ((sums (R j)).1)) (by rfl) rfl rfl rfl rfl (by rfl) (by kernel_rfl) m20 (i := 0) (by omega) fun w8 m22 s8 z6 => ?_))))
  have m23 : Fx.Blk w8 g2 8 (Fx.rv .i64 (upd (fun _ => 0) 0 ((sums (R j)).1))) 82 := m22.to (Fx.updV_rv _ _ _ _)
  have hct3 := Fx.ChT.of_stp s8 m20.ty
  have m24 := m19.chT hct3 (by decide)
  have m25 := m21.chT hct3 (by decide)
  have b8 := s8.below b7 b7.size (by omega)
  refine Fx.L.v (.pointer (some ⟨g2, 1, none⟩)) (x_field rfl rfl Try.underlying82 rfl (s := 1) (by kernel_rfl) rfl (by show _ + 1 = _; omega)) (Fx.L.store1 (x := Fx.rv .i64 (upd (fun _ => 0) 0 ((sums (R j)).1))) (u := .int .i64 ((sums (R j)).2)) (by rfl) rfl rfl rfl rfl (by rfl) (by kernel_rfl) m23 (i := 1) (by omega) fun w9 m26 s9 z7 => ?_)
  have m27 : Fx.Blk w9 g2 8 (Fx.rv .i64 (upd (upd (fun _ => 0) 0 ((sums (R j)).1)) 1 ((sums (R j)).2))) 82 := m26.to (Fx.updV_rv _ _ _ _)
  have hct4 := Fx.ChT.of_stp s9 m23.ty
  have m28 := m24.chT hct4 (by decide)
  have m29 := m25.chT hct4 (by decide)
  have b9 := s9.below b8 b8.size (by omega)
  refine Fx.L.nil (Fx.seqN (Fx.W.seq (Fx.W.seq ?_)))
  have m30 : Fx.Blk w9 g2 8 (quN (R j) 0) 82 := m27.congr (fun j hj => by rcases j with _|_|_|_|_|_|_|_|j <;> first | rfl | omega)
  refine Fx.W.list (Fx.L.v (.int .i64 (0)) (x_move rfl rfl) (Fx.L.nil (Fx.seqN (Fx.W.block (Fx.W.loop (fun f w_ => ∃ k : Nat, k ≤ 6 ∧ f 4 = .pointer (some ⟨g2, 0, none⟩) ∧ f 7 = .pointer (some ⟨g3, 0, none⟩) ∧ f 28 = .int .i64 ((k : Int)) ∧ Fx.Blk w_ g1 20 (stY s) 43 ∧ Fx.Blk w_ g3 54 (Fx.rv .i64 (R j)) 48 ∧ Fx.Blk w_ g2 8 (quN (R j) k) 82 ∧ Below w.heap.size w w_) (fun f _ => (6 - (intOf (f 28)).toNat)) ⟨0, by omega, (by rfl), (by rfl), (by first | rfl | exact congrArg (Value.int .i64) (by omega)), m28, m29, m30, b9⟩ ?_)))))
  rintro f1 w10 ⟨k, hk, h1, h2, h3, m31, m32, m33, b10⟩
  refine Fx.W.seq (Fx.W.list ?_)
  by_cases c29 : (k : Int) < 6
  ·refine Fx.L.v (.bool true) (Fx.x_lssT rfl h3 rfl c29) (Fx.L.nil (Fx.seqN (Fx.W.seq (Fx.W.cond (b := true) rfl (fun _ => Fx.W.skip (Fx.seqN (Fx.W.seq (Fx.W.block (Fx.W.seq (Fx.W.list (Fx.L.v (.int .i64 ((k : Int))) (x_move rfl h3) ?_))))))) (fun h => nomatch h)))))
   refine Fx.L.v (.int .i64 ((k : Int))) (x_assign rfl rfl) (Fx.L.nil (Fx.seqN (Fx.W.list (Fx.L.v (.int .i64 ((k : Int))) (x_move rfl rfl) (Fx.L.v (.agg (Fx.varr 54 (Fx.rv .i64 (R j)))) (x_loadA (x := Fx.rv .i64 (R j)) (y := Fx.rv .i64 (R j)) rfl h2 (by kernel_rfl) (by kernel_rfl) m32.cel (i := 0) (by omega) (by omega) (fun j _ => by rw [Nat.zero_add])) (Fx.L.v (.int .i64 ((k : Int))) (x_move rfl rfl) (Fx.L.v (.int .i64 ((k : Int) + 1)) (Fx.x_add rfl rfl rfl (Fx.i64e (by omega) (by omega))) (Fx.L.call (by rfl) (Fx.r_call (args := [.agg (Fx.varr 54 (Fx.rv .i64 (R j))), .int .i64 ((k : Int) + 1)]) rfl rfl Try.func43 rfl rfl) rfl ((localV_any (R j) ((k : Int) + 1) _ (by omega)).mono ?_)))))))))
   rintro e w11 ⟨he, hb3⟩
   refine ⟨.int .i64 (localV (R j) ((k : Int) + 1)), by rw [he], ?_⟩
   clear he
   have s10 := Fx.Stp.of_below hb3
   have m34 := m31.stp s10 (Nat.ne_of_lt (m31.lt))
   have m35 := m32.stp s10 (Nat.ne_of_lt (m32.lt))
   have m36 := m33.stp s10 (Nat.ne_of_lt (m33.lt))
   have b11 := s10.below b10 b10.size b10.size
   refine Fx.L.v (.pointer (some ⟨g2, 2, none⟩)) (x_field rfl h1 Try.underlying82 rfl (s := 6) (by kernel_rfl) rfl (by show _ + 2 = _; omega)) (Fx.L.v (.pointer (some ⟨g2, k + 2, none⟩)) (x_index rfl rfl rfl Try.underlying45 (s := 1) (by kernel_rfl) (by omega) (by omega) (by omega)) (Fx.L.store1 (x := quN (R j) k) (u := .int .i64 (localV (R j) ((k : Int) + 1))) (by rfl) rfl rfl rfl rfl (by rfl) (by kernel_rfl) m36 (i := k + 2) (by omega) fun w12 m37 s11 z8 => ?_))
   have hct5 := Fx.ChT.of_stp s11 m36.ty
   have m38 := m34.chT hct5 (by decide)
   have m39 := m35.chT hct5 (by decide)
   have b12 := s11.below b11 b11.size (by omega)
   refine Fx.L.nil (Fx.blkN (Fx.seqN ?_))
   have m40 : Fx.Blk w12 g2 8 (quN (R j) (k + 1)) 82 := m37.congr (qu_next (by omega) rfl)
   refine Fx.W.list (Fx.L.v (.int .i64 ((k : Int) + 1)) (Fx.x_add rfl h3 rfl (Fx.i64e (by omega) (by omega))) (Fx.L.v (.int .i64 ((k : Int) + 1)) (x_move rfl rfl) (Fx.L.nil (Fx.lpN ⟨k + 1, by omega, h1, h2, (by first | rfl | exact congrArg (Value.int .i64) (by omega)), m38, m39, m40, b12⟩ ?_))))
   show (6 - (intOf ((.int .i64 ((k : Int) + 1)))).toNat) < _
   simp only [h3, intOf]; omega
  ·refine Fx.L.v (.bool false) (Fx.x_lssF rfl h3 rfl c29) (Fx.L.nil (Fx.seqN (Fx.W.seq (Fx.W.cond (b := false) rfl (fun h => nomatch h) (fun _ => Fx.W.exit (Fx.seqX (Fx.lpX (Fx.blkX (Fx.seqN (Fx.W.seq (Fx.W.list (Fx.L.v (.agg (Fx.varr 8 (quN (R j) k))) (x_loadA (x := quN (R j) k) (y := quN (R j) k) rfl h1 (by kernel_rfl) (by kernel_rfl) m33.cel (i := 0) (by omega) (by omega) (fun j _ => by rw [Nat.zero_add])) (Fx.L.storeA (x := quN (R j) k) (y := quN (R j) k) (by rfl) rfl rfl h1 rfl (fun j _ => qu_one _ _ j) (by kernel_rfl) m33 (i := 0) (by omega) fun w13 m41 s12 z9 => ?_)))))))))))))
   have m42 : Fx.Blk w13 g2 8 (quN (R j) k) 82 := Fx.ovr_all m41
   have b13 := s12.below b10 b10.size (by omega)
   refine Fx.L.v (.int .i64 (0)) (x_assign rfl rfl) (Fx.L.nil (Fx.seqN (Fx.W.ret (⟨.tuple #[.agg (Fx.varr 8 (quN (R j) k)), .int .i64 (0)], Fx.retV2 Try.results36 ⟨_, h1, Fx.run_loadV m42.cel (by kernel_rfl) (by kernel_rfl)⟩ (by exact rfl), ?_⟩))))
   obtain rfl : k = 6 := by omega
   exact ⟨by unfold quF quE; rw [if_neg c13, if_neg c13, ej]; rfl, b13⟩
section
namespace Rt
def lsumV (r : Nat → Int) : Nat → Int
  | 0 => 0
  | k + 1 => lsumV r k + localV r ((k : Int) + 1)
section
variable {id par : Nat → Int} {n gn : Nat} {g : Nat → Nat → Int} {x y : Int} {L : LdC} {T : Nat}
theorem iter_eq (h : Inv0 L T) (h0 : 0 < L.nn) : ∀ k, iterS L.id L.par L.nn k x = iterT L.t L.tn k x
  | 0 => rfl
  | k + 1 => by
    show L.par (firstS L.id L.nn (iterS L.id L.par L.nn k x)).toNat = L.t (findT L.t L.tn (iterT L.t L.tn k x)).toNat 1
    rw [iter_eq h h0 k]
    have e : firstS L.id L.nn (iterT L.t L.tn k x) = findT L.t L.tn (iterT L.t L.tn k x) := h.node _
    rw [e]
    refine ((h.tid _ ?_).2).symm
    rcases ilt (findT L.t L.tn (iterT L.t L.tn k x)) with h1 | h1
    · rw [Int.toNat_of_nonpos (by omega)]; exact h0
    · obtain ⟨j, hj, e2, _⟩ := find_nat h1
      rw [e2, ← h.tnn]; exact hj
end
theorem lsumV_eq {r : Nat → Int} (h : may r = true) : uSum r + lsumV r 6 = gSum r := by
  have e : lsumV r 6 = L r 0 + L r 1 + L r 2 + L r 3 + L r 4 + L r 5 := by
    have e : ∀ k, k < 6 → lsumV r (k + 1) = lsumV r k + L r k := fun k hk => by rw [← localV_L h k hk]; rfl
    rw [e 5 (by omega), e 4 (by omega), e 3 (by omega), e 2 (by omega), e 1 (by omega), e 0 (by omega)]
    show 0 + _ + _ + _ + _ + _ + _ = _
    omega
  rw [e]; simp only [L, uSum, gSum]; omega
end Rt
end
namespace Rt
theorem qu_at {r : Nat → Int} {i p : Nat} (hp : p = i + 2) (hi : i < 6) : quN r 6 p = .int .i64 (localV r ((i : Int) + 1)) := by
  subst hp
  unfold quN
  rw [if_neg (by omega), if_neg (by omega), if_pos (by omega)]
  congr 2; omega
end Rt
namespace Rt
def locI (id : Nat → Int) (n : Nat) (R : Nat → Nat → Int) (x : Int) : Nat → Int := fun q => localV (R (firstS id n x).toNat) ((q : Int) + 1)
theorem qu_row {r : Nat → Int} (q : Nat) (hq : q < 6) : quN r 6 (2 + q) = Fx.rv .i64 (fun q => localV r ((q : Int) + 1)) q := qu_at (by omega) hq
end Rt
theorem q_of1 (s : StM) (id par : Nat → Int) (R : Nat → Nat → Int) (x : Int) (w : World) (hnd : Fx.Arr w s.na s.nn 56 (Fx.flat 56 fun k => ndY (id k) (par k) (R k))) (hnn : s.nn ≤ 1000000) (hf : 0 ≤ firstS id s.nn x) :
    Calls Try.prog 36 #[.agg (Fx.varr 20 (stY s)), .int .u64 (x)] w fun e w' => e = .returned (.tuple #[.agg (Fx.varr 8 (quN (R (firstS id s.nn x).toNat) 6)), .int .i64 (0)]) ∧ Below w.heap.size w w' := by
  have := q_of s id par R x w hnd hnn
  rw [show quF id s.nn R x = quN (R (firstS id s.nn x).toNat) 6 by unfold quF; rw [if_neg (by omega)], show quE id s.nn x = 0 by unfold quE; rw [if_neg (by omega)]] at this
  exact this
set_option maxRecDepth 10000 in
theorem ro_local (s : StM) (id par : Nat → Int) (R : Nat → Nat → Int) (x : Int) (w : World) (hnd : Fx.Arr w s.na s.nn 56 (Fx.flat 56 fun k => ndY (id k) (par k) (R k))) (hnn : s.nn ≤ 1000000) (hf : 0 ≤ firstS id s.nn x) :
    Calls Try.prog 105 #[.agg (Fx.varr 20 (stY s)), .int .u64 (x)] w fun e w' => e = .returned (.agg (Fx.varr 6 (Fx.rv .i64 (locI id s.nn R x)))) ∧ Below w.heap.size w w' := by
 refine Fx.enter Try.func105 rfl (n := 18) rfl (by rfl) ?_
 refine Fx.W.seq (Fx.W.list (Fx.L.box (m := 20) (y := stY s) (by rfl) rfl rfl (Fx.cells_agg _ _) rfl fun g1 w1 eg1 m1 s1 z1 => ?_))
 have b1 := s1.below (Below.refl w.heap.size w) (Below.refl w.heap.size w).size (Below.refl w.heap.size w).size
 have lg1 : w.heap.size ≤ g1 := by rw [eg1]; exact (Below.refl w.heap.size w).size
 have tg1 : g1 < w1.heap.size := m1.lt
 clear eg1
 refine Fx.L.new (m := 6) (y := Fx.rv .i64 (fun _ => 0)) (by rfl) rfl (by kernel_rfl) rfl fun g2 w2 eg2 m2 s2 z2 => ?_
 have m3 := m1.stp s2 (Nat.ne_of_lt (m1.lt))
 have b2 := s2.below b1 b1.size b1.size
 have lg2 : w.heap.size ≤ g2 := by rw [eg2]; exact b1.size
 have ng2m3 : g1 ≠ g2 := by rw [eg2]; exact Nat.ne_of_lt (m1.lt)
 have tg2 : g2 < w2.heap.size := m2.lt
 clear eg2
 refine Fx.L.nil (Fx.seqN (Fx.W.seq (Fx.W.list (Fx.L.v (.agg (Fx.varr 20 (stY s))) (x_loadA (x := stY s) (y := stY s) rfl rfl (by kernel_rfl) (by kernel_rfl) m3.cel (i := 0) (by omega) (by omega) (fun j _ => by rw [Nat.zero_add])) (Fx.L.v (.int .u64 (x)) (x_move rfl rfl) (Fx.L.call (by rfl) (Fx.r_call (args := [.agg (Fx.varr 20 (stY s)), .int .u64 (x)]) rfl rfl Try.func36 rfl rfl) rfl ((q_of1 s id par R x _ (hnd.up b2 rfl) hnn hf).mono ?_)))))))
 rintro e w3 ⟨he, hb1⟩
 refine ⟨.tuple #[.agg (Fx.varr 8 (quN (R (firstS id s.nn x).toNat) 6)), .int .i64 (0)], by rw [he], ?_⟩
 clear he
 have s3 := Fx.Stp.of_below hb1
 have m4 := m3.stp s3 (Nat.ne_of_lt (m3.lt))
 have m5 := m2.stp s3 (Nat.ne_of_lt (m2.lt))
 have b3 := s3.below b2 b2.size b2.size
 refine Fx.L.v (.tuple #[.agg (Fx.varr 8 (quN (R (firstS id s.nn x).toNat) 6)), .int .i64 (0)]) (x_move rfl rfl) (Fx.L.v (.agg (Fx.varr 8 (quN (R (firstS id s.nn x).toNat) 6))) (Fx.x_extract rfl rfl rfl) (Fx.L.v (.int .i64 (0)) (Fx.x_extract rfl rfl rfl) (Fx.L.new (m := 8) (y := Fx.rv .i64 (fun _ => 0)) (by rfl) rfl (by kernel_rfl) rfl fun g3 w4 eg3 m6 s4 z3 => ?_)))
 have m8 := m5.stp s4 (Nat.ne_of_lt (m5.lt))
 have b4 := s4.below b3 b3.size b3.size
 have lg3 : w.heap.size ≤ g3 := by rw [eg3]; exact b3.size
 have ng3m7 : g1 ≠ g3 := by rw [eg3]; exact Nat.ne_of_lt (m4.lt)
 have ng3m8 : g2 ≠ g3 := by rw [eg3]; exact Nat.ne_of_lt (m5.lt)
 have tg3 : g3 < w4.heap.size := m6.lt
 clear eg3
 refine Fx.L.storeA (x := Fx.rv .i64 (fun _ => 0)) (y := quN (R (firstS id s.nn x).toNat) 6) (by rfl) rfl rfl rfl rfl (fun j _ => qu_one _ _ j) (by kernel_rfl) m6 (i := 0) (by omega) fun w5 m9 s5 z4 => ?_
 have m10 : Fx.Blk w5 g3 8 (quN (R (firstS id s.nn x).toNat) 6) 82 := Fx.ovr_all m9
 have hct1 := Fx.ChT.of_stp s5 m6.ty
 have m12 := m8.chT hct1 (by decide)
 have b5 := s5.below b4 b4.size (by omega)
 refine Fx.L.v (.int .i64 (0)) (x_assign rfl rfl) (Fx.L.nil (Fx.seqN (Fx.W.seq (Fx.W.seq (Fx.W.list (Fx.L.v (.int .i64 (0)) (x_move rfl rfl) (Fx.L.v (.bool false) (Fx.x_neqF rfl rfl rfl rfl) (Fx.L.nil (Fx.seqN (Fx.W.cond (b := false) rfl (fun h => nomatch h) (fun _ => Fx.W.skip (Fx.seqN (Fx.W.seq (Fx.W.list (Fx.L.v (.pointer (some ⟨g3, 2, none⟩)) (x_field rfl rfl Try.underlying82 rfl (s := 6) (by kernel_rfl) rfl (by show _ + 2 = _; omega)) (Fx.L.v (.agg (Fx.varr 6 (Fx.rv .i64 (fun q => localV (R (firstS id s.nn x).toNat) ((q : Int) + 1))))) (x_loadA (x := quN (R (firstS id s.nn x).toNat) 6) (y := Fx.rv .i64 (fun q => localV (R (firstS id s.nn x).toNat) ((q : Int) + 1))) rfl rfl (by kernel_rfl) (by kernel_rfl) m10.cel (i := 2) (by omega) (by omega) (fun q hq => qu_row q hq)) (Fx.L.storeA (x := Fx.rv .i64 (fun _ => 0)) (y := Fx.rv .i64 (fun q => localV (R (firstS id s.nn x).toNat) ((q : Int) + 1))) (by rfl) rfl rfl rfl rfl (fun _ _ => rfl) (by kernel_rfl) m12 (i := 0) (by omega) fun w6 m13 s6 z5 => ?_)))))))))))))))))
 have m14 : Fx.Blk w6 g2 6 (Fx.rv .i64 (fun q => localV (R (firstS id s.nn x).toNat) ((q : Int) + 1))) 45 := Fx.ovr_all m13
 have b6 := s6.below b5 b5.size (by omega)
 refine Fx.L.nil (Fx.seqN (Fx.W.ret (⟨.agg (Fx.varr 6 (Fx.rv .i64 (fun q => localV (R (firstS id s.nn x).toNat) ((q : Int) + 1)))), Fx.retV1 Try.results105 ⟨_, rfl, Fx.run_loadV m14.cel (by kernel_rfl) (by kernel_rfl)⟩, ?_⟩)))
 exact ⟨rfl, b6⟩
namespace Rt
def sumL (l : Nat → Int) (live : List Int) : Nat → Int
  | 0 => 0
  | k + 1 => sumL l live k + l (live.getD k 0 - 1).toNat
def LvOk (live : List Int) (n : Nat) : Prop := n ≤ 6 ∧ ∀ k, k < n → 1 ≤ live.getD k 0 ∧ live.getD k 0 ≤ 6
def LoOk (l : Nat → Int) : Prop := ∀ j, j < 6 → 0 ≤ l j ∧ l j ≤ 9007199254740992
theorem sumL_bd {l : Nat → Int} {live : List Int} {n : Nat} (h : LvOk live n) (hl : LoOk l) : ∀ k, k ≤ n → 0 ≤ sumL l live k ∧ sumL l live k ≤ 9007199254740992 * (k : Int)
  | 0, _ => ⟨Int.le_refl _, Int.le_refl _⟩
  | k + 1, hk => by
    have ih := sumL_bd h hl k (by omega)
    have h1 := h.2 k (by omega)
    have h2 := hl (live.getD k 0 - 1).toNat (by omega)
    show 0 ≤ sumL l live k + _ ∧ sumL l live k + _ ≤ _
    omega
end Rt
theorem ro_own1 (l : Nat → Int) (a gi : Nat) (w : World) (ha : a < 6) (hgi : Fx.Blk w gi 1 (fun _ => .int .i64 ((a : Int) + 1)) 3) :
    Calls Try.prog 99 #[.agg (Fx.varr 6 (Fx.rv .i64 l)), .pointer (some ⟨gi, 0, none⟩)] w fun e w' => e = .returned (.int .i64 (l a)) ∧ Below w.heap.size w w' := by
 have lgi := hgi.lt
 refine Fx.enter Try.func99 rfl (n := 8) rfl (by rfl) ?_
 refine Fx.W.seq (Fx.W.list (Fx.L.box (m := 6) (y := Fx.rv .i64 l) (by rfl) rfl rfl (Fx.cells_agg _ _) rfl fun g1 w1 eg1 m1 s1 z1 => ?_))
 have m2 := hgi.stp s1 (Nat.ne_of_lt (hgi.lt))
 have b1 := s1.below (Below.refl w.heap.size w) (Below.refl w.heap.size w).size (Below.refl w.heap.size w).size
 have lg1 : w.heap.size ≤ g1 := by rw [eg1]; exact (Below.refl w.heap.size w).size
 have ng1m2 : gi ≠ g1 := by rw [eg1]; exact Nat.ne_of_lt (hgi.lt)
 have tg1 : g1 < w1.heap.size := m1.lt
 clear eg1
 refine Fx.L.v (.int .i64 (0)) (x_assign rfl rfl) (Fx.L.nil (Fx.seqN (Fx.W.seq (Fx.W.list (Fx.L.v (.int .i64 ((a : Int) + 1)) (x_load1 (x := fun _ => .int .i64 ((a : Int) + 1)) rfl rfl (by kernel_rfl) m2.cel (i := 0) (by omega) (by omega) rfl) (Fx.L.v (.int .i64 ((a : Int))) (Fx.x_sub rfl rfl rfl (Fx.i64e (by omega) (by omega))) (Fx.L.v (.pointer (some ⟨g1, a, none⟩)) (x_index rfl rfl rfl Try.underlying45 (s := 1) (by kernel_rfl) (by omega) (by omega) (by omega)) (Fx.L.v (.int .i64 (l a)) (x_load1 (x := Fx.rv .i64 l) rfl rfl (by kernel_rfl) m1.cel (i := a) (by omega) (by omega) rfl) (Fx.L.v (.int .i64 (l a)) (x_assign rfl rfl) (Fx.L.nil (Fx.seqN (Fx.W.ret (⟨.int .i64 (l a), Fx.retV1 Try.results99 (by exact rfl), ?_⟩)))))))))))))
 exact ⟨rfl, b1⟩
theorem ro_all1 (l : Nat → Int) (live : List Int) (al : Option Addr) (n cl gl : Nat) (w : World) (hlv : LvOk live n) (hlo : LoOk l) (hl : Fx.Arr w al n 1 (lsX live)) (hgl : Fx.Blk w gl 1 (fun _ => .slice al (n) (cl)) 23) :
    Calls Try.prog 98 #[.agg (Fx.varr 6 (Fx.rv .i64 l)), .pointer (some ⟨gl, 0, none⟩)] w fun e w' => e = .returned (.int .i64 (sumL l live n)) ∧ Below w.heap.size w w' := by
 have lgl := hgl.lt
 have hn6 := hlv.1
 refine Fx.enter Try.func98 rfl (n := 20) rfl (by rfl) ?_
 refine Fx.W.seq (Fx.W.list (Fx.L.box (m := 6) (y := Fx.rv .i64 l) (by rfl) rfl rfl (Fx.cells_agg _ _) rfl fun g1 w1 eg1 m1 s1 z1 => ?_))
 have m2 := hgl.stp s1 (Nat.ne_of_lt (hgl.lt))
 have b1 := s1.below (Below.refl w.heap.size w) (Below.refl w.heap.size w).size (Below.refl w.heap.size w).size
 have lg1 : w.heap.size ≤ g1 := by rw [eg1]; exact (Below.refl w.heap.size w).size
 have ng1m2 : gl ≠ g1 := by rw [eg1]; exact Nat.ne_of_lt (hgl.lt)
 have tg1 : g1 < w1.heap.size := m1.lt
 clear eg1
 refine Fx.L.v (.int .i64 (0)) (x_assign rfl rfl) (Fx.L.nil (Fx.seqN (Fx.W.seq (Fx.W.seq (Fx.W.list (Fx.L.v (.slice al (n) (cl)) (x_load1 (x := fun _ => .slice al (n) (cl)) rfl rfl (by kernel_rfl) m2.cel (i := 0) (by omega) (by omega) rfl) (Fx.L.v (.int .i64 ((n : Int))) (x_len rfl rfl rfl (by kernel_rfl)) (Fx.L.v (.int .i64 (0)) (x_move rfl rfl) (Fx.L.nil (Fx.seqN (Fx.W.block (Fx.W.loop (fun f w_ => ∃ k : Nat, k ≤ n ∧ f 2 = .pointer (some ⟨g1, 0, none⟩) ∧ f 3 = .int .i64 (sumL l live k) ∧ f 6 = .slice al (n) (cl) ∧ f 7 = .int .i64 ((n : Int)) ∧ f 8 = .int .i64 ((k : Int)) ∧ Fx.Blk w_ gl 1 (fun _ => .slice al (n) (cl)) 23 ∧ Fx.Blk w_ g1 6 (Fx.rv .i64 l) 45 ∧ Below w.heap.size w w_) (fun f _ => (n - (intOf (f 8)).toNat)) ⟨0, by omega, (by rfl), (by first | rfl | exact congrArg (Value.int .i64) (by omega)), (by rfl), (by first | rfl | exact congrArg (Value.int .i64) (by omega)), (by first | rfl | exact congrArg (Value.int .i64) (by omega)), m2, m1, b1⟩ ?_))))))))))))
 rintro f1 w2 ⟨k, hk, h1, h2, h3, h4, h5, m3, m4, b2⟩
 refine Fx.W.seq (Fx.W.list ?_)
 by_cases c9 : (k : Int) < (n : Int)
 ·refine Fx.L.v (.bool true) (Fx.x_lssT rfl h5 h4 c9) (Fx.L.nil (Fx.seqN (Fx.W.seq (Fx.W.cond (b := true) rfl (fun _ => Fx.W.skip (Fx.seqN (Fx.W.seq (Fx.W.block (Fx.W.seq ?_))))) (fun h => nomatch h)))))
  have hlk := hlv.2 k (by omega)
  have hsb := sumL_bd hlv hlo k (by omega)
  have hlb := hlo (live.getD k 0 - 1).toNat (by omega)
  refine Fx.W.list ?_
  obtain ⟨bq1, oq1, eq1, m5⟩ := (hl.up b2 rfl) (by omega)
  have lbq1 : bq1 < w2.heap.size := m5.lt (by omega)
  refine Fx.L.v (.pointer (some ⟨bq1, k + oq1, none⟩)) (x_indexS rfl (h3.trans (congrArg (fun q => Value.slice q (n) (cl)) eq1)) h5 Try.underlying23 (s := 1) (by kernel_rfl) (by omega) (by omega) (by omega)) (Fx.L.v (.int .i64 (live.getD k 0)) (x_load1 (x := lsX live) rfl rfl (by kernel_rfl) m5 (i := k) (by omega) (by omega) rfl) (Fx.L.v (.int .i64 (live.getD k 0)) (x_assign rfl rfl) (Fx.L.nil (Fx.seqN (Fx.W.list (Fx.L.v (.int .i64 (sumL l live k)) (x_move rfl h2) (Fx.L.v (.int .i64 (live.getD k 0)) (x_move rfl rfl) (Fx.L.v (.int .i64 ((live.getD k 0) - 1)) (Fx.x_sub rfl rfl rfl (Fx.i64e (by omega) (by omega))) (Fx.L.v (.pointer (some ⟨g1, ((live.getD k 0) - 1).toNat, none⟩)) (x_index rfl h1 rfl Try.underlying45 (s := 1) (by kernel_rfl) (by omega) (by omega) (by omega)) (Fx.L.v (.int .i64 (l (((live.getD k 0) - 1).toNat))) (x_load1 (x := Fx.rv .i64 l) rfl rfl (by kernel_rfl) m4.cel (i := ((live.getD k 0) - 1).toNat) (by omega) (by omega) rfl) (Fx.L.v (.int .i64 ((sumL l live k) + (l (((live.getD k 0) - 1).toNat)))) (Fx.x_add rfl rfl rfl (Fx.i64e (by omega) (by omega))) (Fx.L.v (.int .i64 ((sumL l live k) + (l (((live.getD k 0) - 1).toNat)))) (x_assign rfl rfl) (Fx.L.nil (Fx.blkN (Fx.seqN (Fx.W.list (Fx.L.v (.int .i64 ((k : Int) + 1)) (Fx.x_add rfl h5 rfl (Fx.i64e (by omega) (by omega))) (Fx.L.v (.int .i64 ((k : Int) + 1)) (x_move rfl rfl) (Fx.L.nil (Fx.lpN ⟨k + 1, by omega, h1, (by first | rfl | exact congrArg (Value.int .i64) (by omega)), h3, (h4.trans (by first | rfl | exact congrArg (Value.int .i64) (by omega))), (by first | rfl | exact congrArg (Value.int .i64) (by omega)), m3, m4, b2⟩ ?_))))))))))))))))))))
  show (n - (intOf ((.int .i64 ((k : Int) + 1)))).toNat) < _
  simp only [h5, intOf]; omega
 ·refine Fx.L.v (.bool false) (Fx.x_lssF rfl h5 h4 c9) (Fx.L.nil (Fx.seqN (Fx.W.seq (Fx.W.cond (b := false) rfl (fun h => nomatch h) (fun _ => Fx.W.exit (Fx.seqX (Fx.lpX (Fx.blkX (Fx.seqN (Fx.W.seq (Fx.W.list (Fx.L.v (.int .i64 (sumL l live k)) (x_move rfl h2) (Fx.L.v (.int .i64 (sumL l live k)) (x_assign rfl rfl) (Fx.L.nil (Fx.seqN (Fx.W.ret (⟨.int .i64 (sumL l live k), Fx.retV1 Try.results98 (by exact rfl), ?_⟩)))))))))))))))))
  obtain rfl : k = n := by omega
  exact ⟨rfl, b2⟩
namespace Rt
def leastI (f : Nat → Int) : Nat → Int
  | 0 => 1125899906842624
  | k + 1 => if f k < leastI f k then f k else leastI f k
def leastV (f : Nat → Int) (P : Nat) : Int := if P = 0 then 0 else if 0 > leastI f P then 0 else leastI f P
theorem pathS_lt {id par : Nat → Int} {n i : Nat} {x : Int} (h : i < pathS id par n x) : 0 ≤ firstS id n (iterS id par n i x) := of_decide_eq_true (lead_lt (P := fun i => decide (0 ≤ firstS id n (iterS id par n i x))) h)
end Rt
set_option maxRecDepth 10000 in
theorem ro_leastO (s : StM) (id par : Nat → Int) (R : Nat → Nat → Int) (x : Int) (w : World) (hnd : Fx.Arr w s.na s.nn 56 (Fx.flat 56 fun k => ndY (id k) (par k) (R k))) (hnn : s.nn ≤ 1000000) (a gi : Nat) (ha : a < 6) (hgi : Fx.Blk w gi 1 (fun _ => .int .i64 ((a : Int) + 1)) 3) :
    Calls Try.prog 97 #[.agg (Fx.varr 20 (stY s)), .int .u64 (x), .func (.func 99) #[] #[.pointer (some ⟨gi, 0, none⟩)]] w fun e w' => e = .returned (.int .i64 (leastV (fun k => locI id s.nn R (iterS id par s.nn k x) a) (pathS id par s.nn x))) ∧ Below w.heap.size w w' := by
 have lgi := hgi.lt
 refine Fx.enter Try.func97 rfl (n := 33) rfl (by rfl) ?_
 refine Fx.W.seq (Fx.W.list (Fx.L.box (m := 20) (y := stY s) (by rfl) rfl rfl (Fx.cells_agg _ _) rfl fun g1 w1 eg1 m1 s1 z1 => ?_))
 have m2 := hgi.stp s1 (Nat.ne_of_lt (hgi.lt))
 have b1 := s1.below (Below.refl w.heap.size w) (Below.refl w.heap.size w).size (Below.refl w.heap.size w).size
 have lg1 : w.heap.size ≤ g1 := by rw [eg1]; exact (Below.refl w.heap.size w).size
 have ng1m2 : gi ≠ g1 := by rw [eg1]; exact Nat.ne_of_lt (hgi.lt)
 have tg1 : g1 < w1.heap.size := m1.lt
 clear eg1
 refine Fx.L.v (.int .i64 (0)) (x_assign rfl rfl) (Fx.L.nil (Fx.seqN (Fx.W.seq (Fx.W.list (Fx.L.v (.agg (Fx.varr 20 (stY s))) (x_loadA (x := stY s) (y := stY s) rfl rfl (by kernel_rfl) (by kernel_rfl) m1.cel (i := 0) (by omega) (by omega) (fun j _ => by rw [Nat.zero_add])) (Fx.L.v (.int .u64 (x)) (x_move rfl rfl) (Fx.L.call (by rfl) (Fx.r_call (args := [.agg (Fx.varr 20 (stY s)), .int .u64 (x)]) rfl rfl Try.func38 rfl rfl) rfl ((q_path s id par R x _ (hnd.up b1 rfl) hnn).mono ?_))))))))
 rintro e9 w2 ⟨vq1, P, he, hP, hOq1, hbq1⟩
 obtain ⟨aq1, capq1, rfl⟩ := hOq1.val
 refine ⟨_, he, ?_⟩
 clear he
 have s2 := Fx.Stp.of_below hbq1
 have m3 := m2.stp s2 (Nat.ne_of_lt (m2.lt))
 have m4 := m1.stp s2 (Nat.ne_of_lt (m1.lt))
 have b2 := s2.below b1 b1.size b1.size
 have hP32 : P ≤ 32 := by rw [hP]; exact path_le
 refine Fx.L.v (.slice aq1 (P) (capq1)) (x_assign rfl rfl) (Fx.L.nil (Fx.seqN (Fx.W.seq (Fx.W.seq (Fx.W.list (Fx.L.v (.slice aq1 (P) (capq1)) (x_move rfl rfl) (Fx.L.v (.int .i64 ((P : Int))) (x_len rfl rfl rfl (by kernel_rfl)) ?_)))))))
 by_cases c16 : (P : Int) = 0
 ·refine Fx.L.v (.bool true) (x_eqlT rfl rfl rfl c16) (Fx.L.nil (Fx.seqN (Fx.W.cond (b := true) rfl (fun _ => Fx.W.seq (Fx.W.list (Fx.L.v (.int .i64 (0)) (x_assign rfl rfl) ?_))) (fun h => nomatch h))))
  refine Fx.L.nil (Fx.seqN (Fx.W.ret (Fx.seqR (⟨.int .i64 (0), Fx.retV1 Try.results97 (by exact rfl), ?_⟩))))
  exact ⟨congrArg (fun q => Ending.returned (Value.int .i64 q)) (Eq.symm (by unfold leastV; rw [← hP, if_pos (by omega)])), b2⟩
 ·refine Fx.L.v (.bool false) (x_eqlF rfl rfl rfl c16) (Fx.L.nil (Fx.seqN (Fx.W.cond (b := false) rfl (fun h => nomatch h) (fun _ => Fx.W.skip (Fx.seqN (Fx.W.seq (Fx.W.list (Fx.L.v (.int .i64 (1125899906842624)) (x_assign rfl rfl) (Fx.L.nil (Fx.seqN (Fx.W.seq (Fx.W.seq (Fx.W.list (Fx.L.v (.slice aq1 (P) (capq1)) (x_move rfl rfl) (Fx.L.v (.int .i64 ((P : Int))) (x_len rfl rfl rfl (by kernel_rfl)) (Fx.L.v (.int .i64 (0)) (x_move rfl rfl) (Fx.L.nil (Fx.seqN (Fx.W.block (Fx.W.loop (fun f w_ => ∃ k : Nat, k ≤ P ∧ f 1 = .int .u64 (x) ∧ f 2 = .func (.func 99) #[] #[.pointer (some ⟨gi, 0, none⟩)] ∧ f 3 = .pointer (some ⟨g1, 0, none⟩) ∧ f 17 = .slice aq1 (P) (capq1) ∧ f 18 = .int .i64 ((P : Int)) ∧ f 8 = .int .i64 (leastI (fun k => locI id s.nn R (iterS id par s.nn k x) a) k) ∧ f 19 = .int .i64 ((k : Int)) ∧ Fx.Blk w_ gi 1 (fun _ => .int .i64 ((a : Int) + 1)) 3 ∧ Fx.Blk w_ g1 20 (stY s) 43 ∧ Fx.Own w_ w1.heap.size 27 1 (.slice aq1 (P) (capq1)) P (ptU id par s.nn x) ∧ Below w.heap.size w w_) (fun f _ => (P - (intOf (f 19)).toNat)) ⟨0, by omega, (by first | rfl | exact congrArg (Value.int .u64) (by omega)), (by rfl), (by rfl), (by rfl), (by first | rfl | exact congrArg (Value.int .i64) (by omega)), (by first | rfl | exact congrArg (Value.int .i64) (by omega)), (by first | rfl | exact congrArg (Value.int .i64) (by omega)), m3, m4, hOq1, b2⟩ ?_))))))))))))))))))))
  rintro f1 w3 ⟨k, hk, h1, h2, h3, h4, h5, h6, h7, m5, m6, m7, b3⟩
  refine Fx.W.seq (Fx.W.list ?_)
  by_cases c20 : (k : Int) < (P : Int)
  ·refine Fx.L.v (.bool true) (Fx.x_lssT rfl h7 h5 c20) (Fx.L.nil (Fx.seqN (Fx.W.seq (Fx.W.cond (b := true) rfl (fun _ => Fx.W.skip (Fx.seqN (Fx.W.seq (Fx.W.block (Fx.W.seq (Fx.W.list ?_)))))) (fun h => nomatch h)))))
   obtain ⟨gq1, eq1⟩ := m7.addr (by omega)
   have m8 : Fx.Own w3 w1.heap.size 27 1 (.slice (some ⟨gq1, 0, none⟩) P capq1) P (ptU id par s.nn x) := m7.congV (congrArg (fun q => Value.slice q P capq1) eq1)
   refine Fx.L.v (.pointer (some ⟨gq1, k, none⟩)) (x_indexS rfl (h4.trans (congrArg (fun q => Value.slice q (P) (capq1)) eq1)) h7 Try.underlying68 (s := 1) (by kernel_rfl) (by omega) (by omega) (by omega)) (Fx.L.v (.int .u64 (iterS id par s.nn k x)) (x_load1 (x := ptU id par s.nn x) rfl rfl (by kernel_rfl) m8.cel (i := k) (by omega) (by omega) rfl) (Fx.L.v (.int .u64 (iterS id par s.nn k x)) (x_assign rfl rfl) (Fx.L.nil (Fx.seqN (Fx.W.list (Fx.L.v (.int .i64 (leastI (fun k => locI id s.nn R (iterS id par s.nn k x) a) k)) (x_move rfl h6) (Fx.L.v (.func (.func 99) #[] #[.pointer (some ⟨gi, 0, none⟩)]) (x_move rfl h2) (Fx.L.v (.agg (Fx.varr 20 (stY s))) (x_loadA (x := stY s) (y := stY s) rfl h3 (by kernel_rfl) (by kernel_rfl) m6.cel (i := 0) (by omega) (by omega) (fun j _ => by rw [Nat.zero_add])) (Fx.L.v (.int .u64 (iterS id par s.nn k x)) (x_move rfl rfl) (Fx.L.call (by rfl) (Fx.r_call (args := [.agg (Fx.varr 20 (stY s)), .int .u64 (iterS id par s.nn k x)]) rfl rfl Try.func105 rfl rfl) rfl ((ro_local s id par R (iterS id par s.nn k x) _ (hnd.up b3 rfl) hnn (pathS_lt (by omega))).mono ?_)))))))))))
   rintro e w4 ⟨he, hb1⟩
   refine ⟨.agg (Fx.varr 6 (Fx.rv .i64 (locI id s.nn R (iterS id par s.nn k x)))), by rw [he], ?_⟩
   clear he
   have s3 := Fx.Stp.of_below hb1
   have m9 := m5.stp s3 (Nat.ne_of_lt (m5.lt))
   have m10 := m6.stp s3 (Nat.ne_of_lt (m6.lt))
   have m11 := m8.stpB s3 (Nat.ne_of_lt (m8.lt))
   have b4 := s3.below b3 b3.size b3.size
   refine Fx.L.call (by rfl) (Fx.r_clo (args := [.agg (Fx.varr 6 (Fx.rv .i64 (locI id s.nn R (iterS id par s.nn k x))))]) rfl rfl rfl (all := #[.agg (Fx.varr 6 (Fx.rv .i64 (locI id s.nn R (iterS id par s.nn k x)))), .pointer (some ⟨gi, 0, none⟩)]) rfl Try.func99 rfl rfl) rfl ((ro_own1 (locI id s.nn R (iterS id par s.nn k x)) a gi _ ha m9).mono ?_)
   rintro e w5 ⟨he, hb2⟩
   refine ⟨.int .i64 (locI id s.nn R (iterS id par s.nn k x) a), by rw [he], ?_⟩
   clear he
   have s4 := Fx.Stp.of_below hb2
   have m12 := m9.stp s4 (Nat.ne_of_lt (m9.lt))
   have m13 := m10.stp s4 (Nat.ne_of_lt (m10.lt))
   have m14 := m11.stpB s4 (Nat.ne_of_lt (m11.lt))
   have b5 := s4.below b4 b4.size b4.size
   refine Fx.L.v (.int .i64 (leastI (fun k => locI id s.nn R (iterS id par s.nn k x) a) (k + 1))) (Fx.x_min rfl rfl rfl) (Fx.L.v (.int .i64 (leastI (fun k => locI id s.nn R (iterS id par s.nn k x) a) (k + 1))) (x_assign rfl rfl) (Fx.L.nil (Fx.blkN (Fx.seqN (Fx.W.list (Fx.L.v (.int .i64 ((k : Int) + 1)) (Fx.x_add rfl h7 rfl (Fx.i64e (by omega) (by omega))) (Fx.L.v (.int .i64 ((k : Int) + 1)) (x_move rfl rfl) (Fx.L.nil ?_))))))))
   have m15 : Fx.Own w5 w1.heap.size 27 1 (.slice aq1 (P) (capq1)) P (ptU id par s.nn x) := m14.congV (congrArg (fun q => Value.slice q P capq1) eq1.symm)
   refine Fx.lpN ⟨k + 1, by omega, (h1.trans (by first | rfl | exact congrArg (Value.int .u64) (by omega))), h2, h3, h4, (h5.trans (by first | rfl | exact congrArg (Value.int .i64) (by omega))), (by first | rfl | exact congrArg (Value.int .i64) (by omega)), (by first | rfl | exact congrArg (Value.int .i64) (by omega)), m12, m13, m15, b5⟩ ?_
   show (P - (intOf ((.int .i64 ((k : Int) + 1)))).toNat) < _
   simp only [h7, intOf]; omega
  ·refine Fx.L.v (.bool false) (Fx.x_lssF rfl h7 h5 c20) (Fx.L.nil (Fx.seqN (Fx.W.seq (Fx.W.cond (b := false) rfl (fun h => nomatch h) (fun _ => Fx.W.exit (Fx.seqX (Fx.lpX (Fx.blkX (Fx.seqN (Fx.W.seq (Fx.W.list (Fx.L.v (.int .i64 (leastI (fun k => locI id s.nn R (iterS id par s.nn k x) a) k)) (x_move rfl h6) (Fx.L.v (.int .i64 (if 0 > (leastI (fun k => locI id s.nn R (iterS id par s.nn k x) a) k) then 0 else leastI (fun k => locI id s.nn R (iterS id par s.nn k x) a) k)) (Fx.x_max rfl rfl rfl) (Fx.L.v (.int .i64 (if 0 > (leastI (fun k => locI id s.nn R (iterS id par s.nn k x) a) k) then 0 else leastI (fun k => locI id s.nn R (iterS id par s.nn k x) a) k)) (x_assign rfl rfl) (Fx.L.nil (Fx.seqN (Fx.W.ret (⟨.int .i64 (if 0 > (leastI (fun k => locI id s.nn R (iterS id par s.nn k x) a) k) then 0 else leastI (fun k => locI id s.nn R (iterS id par s.nn k x) a) k), Fx.retV1 Try.results97 (by exact rfl), ?_⟩))))))))))))))))))
   obtain rfl : k = P := by omega
   exact ⟨congrArg (fun q => Ending.returned (Value.int .i64 q)) (Eq.symm (by unfold leastV; rw [← hP, if_neg (by omega)])), b3⟩
set_option maxRecDepth 10000 in
theorem ro_leastA (s : StM) (id par : Nat → Int) (R : Nat → Nat → Int) (x : Int) (w : World) (hnd : Fx.Arr w s.na s.nn 56 (Fx.flat 56 fun k => ndY (id k) (par k) (R k))) (hnn : s.nn ≤ 1000000) (hlo : ∀ x, 0 ≤ firstS id s.nn x → LoOk (locI id s.nn R x)) (live : List Int) (al : Option Addr) (n cl gl : Nat) (hlv : LvOk live n) (hl : Fx.Arr w al n 1 (lsX live)) (hgl : Fx.Blk w gl 1 (fun _ => .slice al (n) (cl)) 23) :
    Calls Try.prog 97 #[.agg (Fx.varr 20 (stY s)), .int .u64 (x), .func (.func 98) #[] #[.pointer (some ⟨gl, 0, none⟩)]] w fun e w' => e = .returned (.int .i64 (leastV (fun k => sumL (locI id s.nn R (iterS id par s.nn k x)) live n) (pathS id par s.nn x))) ∧ Below w.heap.size w w' := by
 have lgl := hgl.lt
 refine Fx.enter Try.func97 rfl (n := 33) rfl (by rfl) ?_
 refine Fx.W.seq (Fx.W.list (Fx.L.box (m := 20) (y := stY s) (by rfl) rfl rfl (Fx.cells_agg _ _) rfl fun g1 w1 eg1 m1 s1 z1 => ?_))
 have m2 := hgl.stp s1 (Nat.ne_of_lt (hgl.lt))
 have b1 := s1.below (Below.refl w.heap.size w) (Below.refl w.heap.size w).size (Below.refl w.heap.size w).size
 have lg1 : w.heap.size ≤ g1 := by rw [eg1]; exact (Below.refl w.heap.size w).size
 have ng1m2 : gl ≠ g1 := by rw [eg1]; exact Nat.ne_of_lt (hgl.lt)
 have tg1 : g1 < w1.heap.size := m1.lt
 clear eg1
 refine Fx.L.v (.int .i64 (0)) (x_assign rfl rfl) (Fx.L.nil (Fx.seqN (Fx.W.seq (Fx.W.list (Fx.L.v (.agg (Fx.varr 20 (stY s))) (x_loadA (x := stY s) (y := stY s) rfl rfl (by kernel_rfl) (by kernel_rfl) m1.cel (i := 0) (by omega) (by omega) (fun j _ => by rw [Nat.zero_add])) (Fx.L.v (.int .u64 (x)) (x_move rfl rfl) (Fx.L.call (by rfl) (Fx.r_call (args := [.agg (Fx.varr 20 (stY s)), .int .u64 (x)]) rfl rfl Try.func38 rfl rfl) rfl ((q_path s id par R x _ (hnd.up b1 rfl) hnn).mono ?_))))))))
 rintro e9 w2 ⟨vq1, P, he, hP, hOq1, hbq1⟩
 obtain ⟨aq1, capq1, rfl⟩ := hOq1.val
 refine ⟨_, he, ?_⟩
 clear he
 have s2 := Fx.Stp.of_below hbq1
 have m3 := m2.stp s2 (Nat.ne_of_lt (m2.lt))
 have m4 := m1.stp s2 (Nat.ne_of_lt (m1.lt))
 have b2 := s2.below b1 b1.size b1.size
 have hP32 : P ≤ 32 := by rw [hP]; exact path_le
 refine Fx.L.v (.slice aq1 (P) (capq1)) (x_assign rfl rfl) (Fx.L.nil (Fx.seqN (Fx.W.seq (Fx.W.seq (Fx.W.list (Fx.L.v (.slice aq1 (P) (capq1)) (x_move rfl rfl) (Fx.L.v (.int .i64 ((P : Int))) (x_len rfl rfl rfl (by kernel_rfl)) ?_)))))))
 by_cases c16 : (P : Int) = 0
 ·refine Fx.L.v (.bool true) (x_eqlT rfl rfl rfl c16) (Fx.L.nil (Fx.seqN (Fx.W.cond (b := true) rfl (fun _ => Fx.W.seq (Fx.W.list (Fx.L.v (.int .i64 (0)) (x_assign rfl rfl) ?_))) (fun h => nomatch h))))
  refine Fx.L.nil (Fx.seqN (Fx.W.ret (Fx.seqR (⟨.int .i64 (0), Fx.retV1 Try.results97 (by exact rfl), ?_⟩))))
  exact ⟨congrArg (fun q => Ending.returned (Value.int .i64 q)) (Eq.symm (by unfold leastV; rw [← hP, if_pos (by omega)])), b2⟩
 ·refine Fx.L.v (.bool false) (x_eqlF rfl rfl rfl c16) (Fx.L.nil (Fx.seqN (Fx.W.cond (b := false) rfl (fun h => nomatch h) (fun _ => Fx.W.skip (Fx.seqN (Fx.W.seq (Fx.W.list (Fx.L.v (.int .i64 (1125899906842624)) (x_assign rfl rfl) (Fx.L.nil (Fx.seqN (Fx.W.seq (Fx.W.seq (Fx.W.list (Fx.L.v (.slice aq1 (P) (capq1)) (x_move rfl rfl) (Fx.L.v (.int .i64 ((P : Int))) (x_len rfl rfl rfl (by kernel_rfl)) (Fx.L.v (.int .i64 (0)) (x_move rfl rfl) (Fx.L.nil (Fx.seqN (Fx.W.block (Fx.W.loop (fun f w_ => ∃ k : Nat, k ≤ P ∧ f 1 = .int .u64 (x) ∧ f 2 = .func (.func 98) #[] #[.pointer (some ⟨gl, 0, none⟩)] ∧ f 3 = .pointer (some ⟨g1, 0, none⟩) ∧ f 17 = .slice aq1 (P) (capq1) ∧ f 18 = .int .i64 ((P : Int)) ∧ f 8 = .int .i64 (leastI (fun k => sumL (locI id s.nn R (iterS id par s.nn k x)) live n) k) ∧ f 19 = .int .i64 ((k : Int)) ∧ Fx.Blk w_ gl 1 (fun _ => .slice al (n) (cl)) 23 ∧ Fx.Blk w_ g1 20 (stY s) 43 ∧ Fx.Own w_ w1.heap.size 27 1 (.slice aq1 (P) (capq1)) P (ptU id par s.nn x) ∧ Below w.heap.size w w_) (fun f _ => (P - (intOf (f 19)).toNat)) ⟨0, by omega, (by first | rfl | exact congrArg (Value.int .u64) (by omega)), (by rfl), (by rfl), (by rfl), (by first | rfl | exact congrArg (Value.int .i64) (by omega)), (by first | rfl | exact congrArg (Value.int .i64) (by omega)), (by first | rfl | exact congrArg (Value.int .i64) (by omega)), m3, m4, hOq1, b2⟩ ?_))))))))))))))))))))
  rintro f1 w3 ⟨k, hk, h1, h2, h3, h4, h5, h6, h7, m5, m6, m7, b3⟩
  refine Fx.W.seq (Fx.W.list ?_)
  by_cases c20 : (k : Int) < (P : Int)
  ·refine Fx.L.v (.bool true) (Fx.x_lssT rfl h7 h5 c20) (Fx.L.nil (Fx.seqN (Fx.W.seq (Fx.W.cond (b := true) rfl (fun _ => Fx.W.skip (Fx.seqN (Fx.W.seq (Fx.W.block (Fx.W.seq (Fx.W.list ?_)))))) (fun h => nomatch h)))))
   obtain ⟨gq1, eq1⟩ := m7.addr (by omega)
   have m8 : Fx.Own w3 w1.heap.size 27 1 (.slice (some ⟨gq1, 0, none⟩) P capq1) P (ptU id par s.nn x) := m7.congV (congrArg (fun q => Value.slice q P capq1) eq1)
   refine Fx.L.v (.pointer (some ⟨gq1, k, none⟩)) (x_indexS rfl (h4.trans (congrArg (fun q => Value.slice q (P) (capq1)) eq1)) h7 Try.underlying68 (s := 1) (by kernel_rfl) (by omega) (by omega) (by omega)) (Fx.L.v (.int .u64 (iterS id par s.nn k x)) (x_load1 (x := ptU id par s.nn x) rfl rfl (by kernel_rfl) m8.cel (i := k) (by omega) (by omega) rfl) (Fx.L.v (.int .u64 (iterS id par s.nn k x)) (x_assign rfl rfl) (Fx.L.nil (Fx.seqN (Fx.W.list (Fx.L.v (.int .i64 (leastI (fun k => sumL (locI id s.nn R (iterS id par s.nn k x)) live n) k)) (x_move rfl h6) (Fx.L.v (.func (.func 98) #[] #[.pointer (some ⟨gl, 0, none⟩)]) (x_move rfl h2) (Fx.L.v (.agg (Fx.varr 20 (stY s))) (x_loadA (x := stY s) (y := stY s) rfl h3 (by kernel_rfl) (by kernel_rfl) m6.cel (i := 0) (by omega) (by omega) (fun j _ => by rw [Nat.zero_add])) (Fx.L.v (.int .u64 (iterS id par s.nn k x)) (x_move rfl rfl) (Fx.L.call (by rfl) (Fx.r_call (args := [.agg (Fx.varr 20 (stY s)), .int .u64 (iterS id par s.nn k x)]) rfl rfl Try.func105 rfl rfl) rfl ((ro_local s id par R (iterS id par s.nn k x) _ (hnd.up b3 rfl) hnn (pathS_lt (by omega))).mono ?_)))))))))))
   rintro e w4 ⟨he, hb1⟩
   refine ⟨.agg (Fx.varr 6 (Fx.rv .i64 (locI id s.nn R (iterS id par s.nn k x)))), by rw [he], ?_⟩
   clear he
   have s3 := Fx.Stp.of_below hb1
   have m9 := m5.stp s3 (Nat.ne_of_lt (m5.lt))
   have m10 := m6.stp s3 (Nat.ne_of_lt (m6.lt))
   have m11 := m8.stpB s3 (Nat.ne_of_lt (m8.lt))
   have b4 := s3.below b3 b3.size b3.size
   refine Fx.L.call (by rfl) (Fx.r_clo (args := [.agg (Fx.varr 6 (Fx.rv .i64 (locI id s.nn R (iterS id par s.nn k x))))]) rfl rfl rfl (all := #[.agg (Fx.varr 6 (Fx.rv .i64 (locI id s.nn R (iterS id par s.nn k x)))), .pointer (some ⟨gl, 0, none⟩)]) rfl Try.func98 rfl rfl) rfl ((ro_all1 (locI id s.nn R (iterS id par s.nn k x)) live al n cl gl _ hlv (hlo _ (pathS_lt (by omega))) (hl.up b4 rfl) m9).mono ?_)
   rintro e w5 ⟨he, hb2⟩
   refine ⟨.int .i64 (sumL (locI id s.nn R (iterS id par s.nn k x)) live n), by rw [he], ?_⟩
   clear he
   have s4 := Fx.Stp.of_below hb2
   have m12 := m9.stp s4 (Nat.ne_of_lt (m9.lt))
   have m13 := m10.stp s4 (Nat.ne_of_lt (m10.lt))
   have m14 := m11.stpB s4 (Nat.ne_of_lt (m11.lt))
   have b5 := s4.below b4 b4.size b4.size
   refine Fx.L.v (.int .i64 (leastI (fun k => sumL (locI id s.nn R (iterS id par s.nn k x)) live n) (k + 1))) (Fx.x_min rfl rfl rfl) (Fx.L.v (.int .i64 (leastI (fun k => sumL (locI id s.nn R (iterS id par s.nn k x)) live n) (k + 1))) (x_assign rfl rfl) (Fx.L.nil (Fx.blkN (Fx.seqN (Fx.W.list (Fx.L.v (.int .i64 ((k : Int) + 1)) (Fx.x_add rfl h7 rfl (Fx.i64e (by omega) (by omega))) (Fx.L.v (.int .i64 ((k : Int) + 1)) (x_move rfl rfl) (Fx.L.nil ?_))))))))
   have m15 : Fx.Own w5 w1.heap.size 27 1 (.slice aq1 (P) (capq1)) P (ptU id par s.nn x) := m14.congV (congrArg (fun q => Value.slice q P capq1) eq1.symm)
   refine Fx.lpN ⟨k + 1, by omega, (h1.trans (by first | rfl | exact congrArg (Value.int .u64) (by omega))), h2, h3, h4, (h5.trans (by first | rfl | exact congrArg (Value.int .i64) (by omega))), (by first | rfl | exact congrArg (Value.int .i64) (by omega)), (by first | rfl | exact congrArg (Value.int .i64) (by omega)), m12, m13, m15, b5⟩ ?_
   show (P - (intOf ((.int .i64 ((k : Int) + 1)))).toNat) < _
   simp only [h7, intOf]; omega
  ·refine Fx.L.v (.bool false) (Fx.x_lssF rfl h7 h5 c20) (Fx.L.nil (Fx.seqN (Fx.W.seq (Fx.W.cond (b := false) rfl (fun h => nomatch h) (fun _ => Fx.W.exit (Fx.seqX (Fx.lpX (Fx.blkX (Fx.seqN (Fx.W.seq (Fx.W.list (Fx.L.v (.int .i64 (leastI (fun k => sumL (locI id s.nn R (iterS id par s.nn k x)) live n) k)) (x_move rfl h6) (Fx.L.v (.int .i64 (if 0 > (leastI (fun k => sumL (locI id s.nn R (iterS id par s.nn k x)) live n) k) then 0 else leastI (fun k => sumL (locI id s.nn R (iterS id par s.nn k x)) live n) k)) (Fx.x_max rfl rfl rfl) (Fx.L.v (.int .i64 (if 0 > (leastI (fun k => sumL (locI id s.nn R (iterS id par s.nn k x)) live n) k) then 0 else leastI (fun k => sumL (locI id s.nn R (iterS id par s.nn k x)) live n) k)) (x_assign rfl rfl) (Fx.L.nil (Fx.seqN (Fx.W.ret (⟨.int .i64 (if 0 > (leastI (fun k => sumL (locI id s.nn R (iterS id par s.nn k x)) live n) k) then 0 else leastI (fun k => sumL (locI id s.nn R (iterS id par s.nn k x)) live n) k), Fx.retV1 Try.results97 (by exact rfl), ?_⟩))))))))))))))))))
   obtain rfl : k = P := by omega
   exact ⟨congrArg (fun q => Ending.returned (Value.int .i64 q)) (Eq.symm (by unfold leastV; rw [← hP, if_neg (by omega)])), b3⟩
namespace Rt
theorem live_ok (s : StM) {n : Nat} (h : n = (liveN s 6).length) : LvOk (liveN s 6) n := by
  subst h
  refine ⟨live_len s 6, fun k hk => ?_⟩
  have := (mem_live (s := s) 6).1 (ls_at hk)
  exact ⟨this.1, this.2.1⟩
def allI (s : StM) (l : Nat → Int) : Int := sumL l (liveN s 6) (liveN s 6).length
end Rt
set_option maxRecDepth 10000 in
theorem ro_own (s : StM) (id par : Nat → Int) (R : Nat → Nat → Int) (x : Int) (w : World) (hnd : Fx.Arr w s.na s.nn 56 (Fx.flat 56 fun k => ndY (id k) (par k) (R k))) (hnn : s.nn ≤ 1000000) (a : Nat) (ha : a < 6) (hli : liveI s ((a : Int) + 1) = true) :
    Calls Try.prog 56 #[.agg (Fx.varr 20 (stY s)), .int .i64 ((a : Int) + 1), .int .u64 (x)] w fun e w' => e = .returned (.int .i64 (leastV (fun k => locI id s.nn R (iterS id par s.nn k x) a) (pathS id par s.nn x))) ∧ Below w.heap.size w w' := by
 refine Fx.enter Try.func56 rfl (n := 16) rfl (by rfl) ?_
 refine Fx.W.seq (Fx.W.list (Fx.L.box (m := 20) (y := stY s) (by rfl) rfl rfl (Fx.cells_agg _ _) rfl fun g1 w1 eg1 m1 s1 z1 => ?_))
 have b1 := s1.below (Below.refl w.heap.size w) (Below.refl w.heap.size w).size (Below.refl w.heap.size w).size
 have lg1 : w.heap.size ≤ g1 := by rw [eg1]; exact (Below.refl w.heap.size w).size
 have tg1 : g1 < w1.heap.size := m1.lt
 clear eg1
 refine Fx.L.box (m := 1) (y := fun _ => .int .i64 ((a : Int) + 1)) (by rfl) rfl rfl (Fx.cells_one (by rfl)) rfl fun g2 w2 eg2 m2 s2 z2 => ?_
 have m3 := m1.stp s2 (Nat.ne_of_lt (m1.lt))
 have b2 := s2.below b1 b1.size b1.size
 have lg2 : w.heap.size ≤ g2 := by rw [eg2]; exact b1.size
 have ng2m3 : g1 ≠ g2 := by rw [eg2]; exact Nat.ne_of_lt (m1.lt)
 have tg2 : g2 < w2.heap.size := m2.lt
 clear eg2
 refine Fx.L.v (.int .i64 (0)) (x_assign rfl rfl) (Fx.L.nil (Fx.seqN (Fx.W.seq (Fx.W.seq ?_))))
 -- region 1 draws
 refine Fx.W.reord [0, 2, 1, 3, 4] [4, 2, 1, 2, 0] Fx.Mk Fx.Mk.refl Fx.Mk.trans (certs := [(1, 0, [0]), (3, 0, [1, 0]), (3, 1, [1]), (4, 1, [3, 1]), (4, 3, [3])]) (by kernel_rfl) (by kernel_rfl) (by kernel_rfl) (by kernel_rfl) (by kernel_rfl) fun wt1 hbwt1 hzwt1 => ?_
 have s3 : Fx.Stp w2.heap.size w2 wt1 := Fx.Stp.of_below hbwt1
 have m4 := m3.stp s3 (Nat.ne_of_lt (m3.lt))
 have m5 := m2.stp s3 (Nat.ne_of_lt (m2.lt))
 have b3 := s3.below b2 b2.size b2.size
 refine Fx.R.s (.agg (Fx.varr 20 (stY s))) (x_loadA (x := stY s) (y := stY s) rfl rfl (by kernel_rfl) (by kernel_rfl) m4.cel (i := 0) (by omega) (by omega) (fun j _ => by rw [Nat.zero_add])) ?_
 refine Fx.R.read (v := .int .i64 ((a : Int) + 1)) (by rfl) (by rfl) (Fx.Mk.refl _) (fun v1 hv1 => x_load1 (x := fun _ => .int .i64 ((a : Int) + 1)) rfl rfl (by kernel_rfl) (m5.cel.below hv1 (by have := m5.lt; omega)) (i := 0) (by omega) (by omega) rfl) ?_
 refine Fx.R.make (by rfl) ?_
 refine Fx.L.call (by rfl) (Fx.r_call (args := [.agg (Fx.varr 20 (stY s))]) rfl rfl Try.func30 rfl rfl) rfl ((m_live s _).mono ?_)
 rintro e9 w3 ⟨v9, n9, he, hn9, hO9, hb9⟩
 obtain ⟨a9, cap9, rfl⟩ := hO9.val
 refine ⟨.slice a9 n9 cap9, he, ?_⟩
 clear he
 have s4 := Fx.Stp.of_below hb9
 have m6 := m4.stp s4 (Nat.ne_of_lt (m4.lt))
 have m7 := m5.stp s4 (Nat.ne_of_lt (m5.lt))
 have b4 := s4.below b3 b3.size b3.size
 have hn9l : n9 ≤ 6 := by rw [hn9]; exact live_len s 6
 refine Fx.L.nil ⟨s4.old, ?_⟩
 refine Fx.R.make (by rfl) ?_
 refine Fx.L.call (by rfl) (Fx.r_call (args := [.slice a9 (n9) (cap9), .int .i64 ((a : Int) + 1)]) rfl rfl Try.func75 rfl rfl) rfl (((g_contains a9 n9 cap9 (liveN s 6) ((a : Int) + 1) _ hO9.arr (by omega)).mono (fun e w2 h2 => (⟨h2.1.trans (by rw [hn9, live_has]), h2.2⟩ : e = .returned (.bool (liveI s ((a : Int) + 1))) ∧ _))).mono ?_)
 rintro e w4 ⟨he, hb1⟩
 refine ⟨.bool true, by rw [he, hli], ?_⟩
 clear he
 have s5 := Fx.Stp.of_below hb1
 have m8 := m6.stp s5 (Nat.ne_of_lt (m6.lt))
 have m9 := m7.stp s5 (Nat.ne_of_lt (m7.lt))
 have b5 := s5.below b4 b4.size b4.size
 refine Fx.L.nil ⟨s5.old, ?_⟩
 refine Fx.R.p (.bool false) (fun v1 => Fx.x_notF rfl rfl) (Fx.R.nil (Fx.seqN (Fx.W.cond (b := false) rfl (fun h => nomatch h) (fun _ => Fx.W.skip (Fx.seqN (Fx.W.seq (Fx.W.list (Fx.L.v (.agg (Fx.varr 20 (stY s))) (x_loadA (x := stY s) (y := stY s) rfl rfl (by kernel_rfl) (by kernel_rfl) m8.cel (i := 0) (by omega) (by omega) (fun j _ => by rw [Nat.zero_add])) ?_))))))))
 refine Fx.L.v (.int .u64 (x)) (x_move rfl rfl) (Fx.L.v (.func (.func 99) #[] #[.pointer (some ⟨g2, 0, none⟩)]) (Fx.x_func (us := []) (vs := [.pointer (some ⟨g2, 0, none⟩)]) rfl rfl rfl) (Fx.L.call (by rfl) (Fx.r_call (args := [.agg (Fx.varr 20 (stY s)), .int .u64 (x), .func (.func 99) #[] #[.pointer (some ⟨g2, 0, none⟩)]]) rfl rfl Try.func97 rfl rfl) rfl ((ro_leastO s id par R x _ (hnd.up b5 rfl) hnn a g2 ha m9).mono ?_)))
 rintro e w5 ⟨he, hb2⟩
 refine ⟨.int .i64 (leastV (fun k => locI id s.nn R (iterS id par s.nn k x) a) (pathS id par s.nn x)), by rw [he], ?_⟩
 clear he
 have s6 := Fx.Stp.of_below hb2
 have b6 := s6.below b5 b5.size b5.size
 refine Fx.L.v (.int .i64 (leastV (fun k => locI id s.nn R (iterS id par s.nn k x) a) (pathS id par s.nn x))) (x_assign rfl rfl) (Fx.L.nil (Fx.seqN (Fx.W.ret (⟨.int .i64 (leastV (fun k => locI id s.nn R (iterS id par s.nn k x) a) (pathS id par s.nn x)), Fx.retV1 Try.results56 (by exact rfl), ?_⟩))))
 exact ⟨rfl, b6⟩
set_option maxRecDepth 10000 in
theorem ro_all (s : StM) (id par : Nat → Int) (R : Nat → Nat → Int) (x : Int) (w : World) (hnd : Fx.Arr w s.na s.nn 56 (Fx.flat 56 fun k => ndY (id k) (par k) (R k))) (hnn : s.nn ≤ 1000000) (hlo : ∀ x, 0 ≤ firstS id s.nn x → LoOk (locI id s.nn R x)) :
    Calls Try.prog 55 #[.agg (Fx.varr 20 (stY s)), .int .u64 (x)] w fun e w' => e = .returned (.int .i64 (leastV (fun k => allI s (locI id s.nn R (iterS id par s.nn k x))) (pathS id par s.nn x))) ∧ Below w.heap.size w w' := by
 refine Fx.enter Try.func55 rfl (n := 12) rfl (by rfl) ?_
 refine Fx.W.seq (Fx.W.list (Fx.L.box (m := 20) (y := stY s) (by rfl) rfl rfl (Fx.cells_agg _ _) rfl fun g1 w1 eg1 m1 s1 z1 => ?_))
 have b1 := s1.below (Below.refl w.heap.size w) (Below.refl w.heap.size w).size (Below.refl w.heap.size w).size
 have lg1 : w.heap.size ≤ g1 := by rw [eg1]; exact (Below.refl w.heap.size w).size
 have tg1 : g1 < w1.heap.size := m1.lt
 clear eg1
 refine Fx.L.v (.int .i64 (0)) (x_assign rfl rfl) (Fx.L.nil (Fx.seqN (Fx.W.seq (Fx.W.list (Fx.L.v (.agg (Fx.varr 20 (stY s))) (x_loadA (x := stY s) (y := stY s) rfl rfl (by kernel_rfl) (by kernel_rfl) m1.cel (i := 0) (by omega) (by omega) (fun j _ => by rw [Nat.zero_add])) (Fx.L.call (by rfl) (Fx.r_call (args := [.agg (Fx.varr 20 (stY s))]) rfl rfl Try.func30 rfl rfl) rfl ((m_live s _).mono ?_)))))))
 rintro e9 w2 ⟨v9, n9, he, hn9, hO9, hb9⟩
 obtain ⟨a9, cap9, rfl⟩ := hO9.val
 refine ⟨.slice a9 n9 cap9, he, ?_⟩
 clear he
 have s2 := Fx.Stp.of_below hb9
 have m2 := m1.stp s2 (Nat.ne_of_lt (m1.lt))
 have b2 := s2.below b1 b1.size b1.size
 have hn9l : n9 ≤ 6 := by rw [hn9]; exact live_len s 6
 refine Fx.L.new (m := 1) (y := fun _ => .slice none 0 0) (by rfl) rfl (by kernel_rfl) rfl fun g2 w3 eg2 m3 s3 z2 => ?_
 have m4 := m2.stp s3 (Nat.ne_of_lt (m2.lt))
 have m5 := hO9.stp s3 (hO9.notNew (Nat.le_refl _))
 have b3 := s3.below b2 b2.size b2.size
 have lg2 : w.heap.size ≤ g2 := by rw [eg2]; exact b2.size
 have ng2m4 : g1 ≠ g2 := by rw [eg2]; exact Nat.ne_of_lt (m2.lt)
 have tg2 : g2 < w3.heap.size := m3.lt
 clear eg2
 refine Fx.L.store1 (x := fun _ => .slice none 0 0) (u := .slice a9 (n9) (cap9)) (by rfl) rfl rfl rfl rfl (by rfl) (by kernel_rfl) m3 (i := 0) (by omega) fun w4 m6 s4 z3 => ?_
 have m7 : Fx.Blk w4 g2 1 (fun _ => .slice a9 (n9) (cap9)) 23 := Fx.upd_all m6
 have hct1 := Fx.ChT.of_stp s4 m3.ty
 have m8 := m4.chT hct1 (by decide)
 have m9 := m5.chT hct1 (by decide)
 have b4 := s4.below b3 b3.size (by omega)
 refine Fx.L.nil (Fx.seqN (Fx.W.seq (Fx.W.list (Fx.L.v (.agg (Fx.varr 20 (stY s))) (x_loadA (x := stY s) (y := stY s) rfl rfl (by kernel_rfl) (by kernel_rfl) m8.cel (i := 0) (by omega) (by omega) (fun j _ => by rw [Nat.zero_add])) (Fx.L.v (.int .u64 (x)) (x_move rfl rfl) (Fx.L.v (.func (.func 98) #[] #[.pointer (some ⟨g2, 0, none⟩)]) (Fx.x_func (us := []) (vs := [.pointer (some ⟨g2, 0, none⟩)]) rfl rfl rfl) (Fx.L.call (by rfl) (Fx.r_call (args := [.agg (Fx.varr 20 (stY s)), .int .u64 (x), .func (.func 98) #[] #[.pointer (some ⟨g2, 0, none⟩)]]) rfl rfl Try.func97 rfl rfl) rfl ((ro_leastA s id par R x _ (hnd.up b4 rfl) hnn hlo (liveN s 6) a9 n9 cap9 g2 (live_ok s hn9) m9.arr m7).mono ?_))))))))
 rintro e w5 ⟨he, hb1⟩
 refine ⟨.int .i64 (leastV (fun k => sumL (locI id s.nn R (iterS id par s.nn k x)) (liveN s 6) n9) (pathS id par s.nn x)), by rw [he], ?_⟩
 clear he
 have s5 := Fx.Stp.of_below hb1
 have b5 := s5.below b4 b4.size b4.size
 refine Fx.L.v (.int .i64 (leastV (fun k => sumL (locI id s.nn R (iterS id par s.nn k x)) (liveN s 6) n9) (pathS id par s.nn x))) (x_assign rfl rfl) (Fx.L.nil (Fx.seqN (Fx.W.ret (⟨.int .i64 (leastV (fun k => sumL (locI id s.nn R (iterS id par s.nn k x)) (liveN s 6) n9) (pathS id par s.nn x)), Fx.retV1 Try.results55 (by exact rfl), ?_⟩))))
 exact ⟨congrArg (fun q => Ending.returned (Value.int .i64 q)) (by unfold allI; rw [hn9]), b5⟩
namespace Rt
def betB (l : Nat → Int) (but best j : Int) : Bool := !decide (j = but) && (decide (0 < l (j - 1).toNat) && (decide (best = 0) || decide (l (best - 1).toNat < l (j - 1).toNat)))
def gvN (live : List Int) (l : Nat → Int) (but : Int) : Nat → Int
  | 0 => 0
  | k + 1 => if betB l but (gvN live l but k) (live.getD k 0) = true then live.getD k 0 else gvN live l but k
theorem gv_bd {live : List Int} {l : Nat → Int} {but : Int} {n : Nat} (h : LvOk live n) : ∀ k, k ≤ n → 0 ≤ gvN live l but k ∧ gvN live l but k ≤ 6
  | 0, _ => ⟨Int.le_refl _, by show (0 : Int) ≤ 6; decide⟩
  | k + 1, hk => by
    have ih := gv_bd (l := l) (but := but) h k (by omega)
    have h1 := h.2 k (by omega)
    unfold gvN
    split <;> omega
theorem gv_yes {live : List Int} {l : Nat → Int} {but : Int} {k : Nat} (h : betB l but (gvN live l but k) (live.getD k 0) = true) : gvN live l but (k + 1) = live.getD k 0 := if_pos h
theorem gv_no {live : List Int} {l : Nat → Int} {but : Int} {k : Nat} (h : betB l but (gvN live l but k) (live.getD k 0) = false) : gvN live l but (k + 1) = gvN live l but k := if_neg (by rw [h]; decide)
end Rt
theorem ro_better (l : Nat → Int) (but best j : Int) (go gk gh : Nat) (w : World) (hb : 0 ≤ best ∧ best ≤ 6) (hj : 1 ≤ j ∧ j ≤ 6) (hgo : Fx.Blk w go 1 (fun _ => .int .i64 (but)) 3) (hgk : Fx.Blk w gk 6 (Fx.rv .i64 l) 45) (hgh : Fx.Blk w gh 1 (fun _ => .int .i64 (best)) 3) :
    Calls Try.prog 124 #[.int .i64 (j), .pointer (some ⟨go, 0, none⟩), .pointer (some ⟨gk, 0, none⟩), .pointer (some ⟨gh, 0, none⟩)] w fun e w' => e = .returned (.bool (betB l but best j)) ∧ Below w.heap.size w w' := by
 have lgo := hgo.lt
 have lgk := hgk.lt
 have lgh := hgh.lt
 refine Fx.enter Try.func124 rfl (n := 31) rfl (by rfl) ?_
 refine Fx.W.seq (Fx.W.list (Fx.L.v (.bool false) (x_assign rfl rfl) (Fx.L.nil (Fx.seqN (Fx.W.seq ?_)))))
 -- region 1 draws
 refine Fx.W.quiet (fun v1 => ∃ q, v1 = World.drewN w q) (by kernel_rfl) (by kernel_rfl) ⟨1, rfl⟩ ?_
 refine Fx.Qt.v (.int .i64 (j)) (fun v1 hv1 => x_move rfl rfl) (Fx.Qt.v (.int .i64 (but)) (fun v1 hv1 => x_load1 (x := fun _ => .int .i64 (but)) rfl rfl (by kernel_rfl) (by obtain ⟨qd, rfl⟩ := hv1; exact hgo.cel) (i := 0) (by omega) (by omega) rfl) ?_)
 by_cases c8 : j = but
 ·refine Fx.Qt.v (.bool false) (fun v1 hv1 => Fx.x_neqF rfl rfl rfl c8) (Fx.Qt.v (.bool false) (fun v1 hv1 => x_move rfl rfl) (Fx.Qt.skip (by rfl) rfl (Fx.Qt.skip (by rfl) rfl (Fx.Qt.skip (by rfl) rfl (Fx.Qt.skip (by rfl) rfl (Fx.Qt.skip (by rfl) rfl (Fx.Qt.v (.bool false) (fun v1 hv1 => x_pickF rfl rfl rfl) (Fx.Qt.v (.bool false) (fun v1 hv1 => x_move rfl rfl) (Fx.Qt.skip (by rfl) rfl (Fx.Qt.skip (by rfl) rfl (Fx.Qt.skip (by rfl) rfl (Fx.Qt.skip (by rfl) rfl (Fx.Qt.skip (by rfl) rfl (Fx.Qt.skip (by rfl) rfl (Fx.Qt.skip (by rfl) rfl (Fx.Qt.skip (by rfl) rfl (Fx.Qt.skip (by rfl) rfl (Fx.Qt.skip (by rfl) rfl (Fx.Qt.skip (by rfl) rfl (Fx.Qt.skip (by rfl) rfl (Fx.Qt.skip (by rfl) rfl (Fx.Qt.v (.bool false) (fun v1 hv1 => x_pickF rfl rfl rfl) (Fx.Qt.v (.bool false) (fun v1 hv1 => x_assign rfl rfl) (Fx.Qt.nil ?_))))))))))))))))))))))))
  rintro _ ⟨qd, rfl⟩
  obtain ⟨wq1, ewq1⟩ : ∃ v1, v1 = World.drewN w qd := ⟨_, rfl⟩
  rw [← ewq1]
  have s1 : Fx.Stp w.heap.size w wq1 := by rw [ewq1]; exact Fx.Stp.of_below (bdrN w qd)
  have b1 := s1.below (Below.refl w.heap.size w) (Below.refl w.heap.size w).size (Below.refl w.heap.size w).size
  clear ewq1
  refine Fx.seqN (Fx.W.ret (⟨.bool false, Fx.retV1 Try.results124 (by exact rfl), ?_⟩))
  exact ⟨congrArg (fun q => Ending.returned (Value.bool q)) (Eq.symm (by unfold betB; rw [decide_eq_true (show j = but from c8)]; rfl)), b1⟩
 ·refine Fx.Qt.v (.bool true) (fun v1 hv1 => Fx.x_neqT rfl rfl rfl c8) (Fx.Qt.v (.bool true) (fun v1 hv1 => x_move rfl rfl) (Fx.Qt.v (.int .i64 (j)) (fun v1 hv1 => x_move rfl rfl) (Fx.Qt.v (.int .i64 (j - 1)) (fun v1 hv1 => Fx.x_sub rfl rfl rfl (Fx.i64e (by omega) (by omega))) (Fx.Qt.v (.pointer (some ⟨gk, (j - 1).toNat, none⟩)) (fun v1 hv1 => x_index rfl rfl rfl Try.underlying45 (s := 1) (by kernel_rfl) (by omega) (by omega) (by omega)) (Fx.Qt.v (.int .i64 (l ((j - 1).toNat))) (fun v1 hv1 => x_load1 (x := Fx.rv .i64 l) rfl rfl (by kernel_rfl) (by obtain ⟨qd, rfl⟩ := hv1; exact hgk.cel) (i := (j - 1).toNat) (by omega) (by omega) rfl) ?_)))))
  by_cases c14 : 0 < (l ((j - 1).toNat))
  ·refine Fx.Qt.v (.bool true) (fun v1 hv1 => Fx.x_gtrT rfl rfl rfl c14) (Fx.Qt.v (.bool true) (fun v1 hv1 => x_pickT rfl rfl rfl) (Fx.Qt.v (.bool true) (fun v1 hv1 => x_move rfl rfl) (Fx.Qt.v (.int .i64 (best)) (fun v1 hv1 => x_load1 (x := fun _ => .int .i64 (best)) rfl rfl (by kernel_rfl) (by obtain ⟨qd, rfl⟩ := hv1; exact hgh.cel) (i := 0) (by omega) (by omega) rfl) ?_)))
   by_cases c18 : best = 0
   ·refine Fx.Qt.v (.bool true) (fun v1 hv1 => x_eqlT rfl rfl rfl c18) (Fx.Qt.v (.bool true) (fun v1 hv1 => x_move rfl rfl) (Fx.Qt.skip (by rfl) rfl (Fx.Qt.skip (by rfl) rfl (Fx.Qt.skip (by rfl) rfl (Fx.Qt.skip (by rfl) rfl (Fx.Qt.skip (by rfl) rfl (Fx.Qt.skip (by rfl) rfl (Fx.Qt.skip (by rfl) rfl (Fx.Qt.skip (by rfl) rfl (Fx.Qt.skip (by rfl) rfl (Fx.Qt.v (.bool true) (fun v1 hv1 => x_pickT rfl rfl rfl) (Fx.Qt.v (.bool true) (fun v1 hv1 => x_pickT rfl rfl rfl) (Fx.Qt.v (.bool true) (fun v1 hv1 => x_assign rfl rfl) (Fx.Qt.nil ?_))))))))))))))
    rintro _ ⟨qd, rfl⟩
    obtain ⟨wq2, ewq2⟩ : ∃ v1, v1 = World.drewN w qd := ⟨_, rfl⟩
    rw [← ewq2]
    have s2 : Fx.Stp w.heap.size w wq2 := by rw [ewq2]; exact Fx.Stp.of_below (bdrN w qd)
    have b2 := s2.below (Below.refl w.heap.size w) (Below.refl w.heap.size w).size (Below.refl w.heap.size w).size
    clear ewq2
    refine Fx.seqN (Fx.W.ret (⟨.bool true, Fx.retV1 Try.results124 (by exact rfl), ?_⟩))
    exact ⟨congrArg (fun q => Ending.returned (Value.bool q)) (Eq.symm (by unfold betB; rw [decide_eq_false (show ¬ j = but from c8)]; rw [decide_eq_true c14]; rw [decide_eq_true c18]; rfl)), b2⟩
   ·refine Fx.Qt.v (.bool false) (fun v1 hv1 => x_eqlF rfl rfl rfl c18) (Fx.Qt.v (.bool false) (fun v1 hv1 => x_move rfl rfl) (Fx.Qt.v (.int .i64 (j)) (fun v1 hv1 => x_move rfl rfl) (Fx.Qt.v (.int .i64 (j - 1)) (fun v1 hv1 => Fx.x_sub rfl rfl rfl (Fx.i64e (by omega) (by omega))) (Fx.Qt.v (.pointer (some ⟨gk, (j - 1).toNat, none⟩)) (fun v1 hv1 => x_index rfl rfl rfl Try.underlying45 (s := 1) (by kernel_rfl) (by omega) (by omega) (by omega)) (Fx.Qt.v (.int .i64 (l ((j - 1).toNat))) (fun v1 hv1 => x_load1 (x := Fx.rv .i64 l) rfl rfl (by kernel_rfl) (by obtain ⟨qd, rfl⟩ := hv1; exact hgk.cel) (i := (j - 1).toNat) (by omega) (by omega) rfl) (Fx.Qt.v (.int .i64 (best)) (fun v1 hv1 => x_load1 (x := fun _ => .int .i64 (best)) rfl rfl (by kernel_rfl) (by obtain ⟨qd, rfl⟩ := hv1; exact hgh.cel) (i := 0) (by omega) (by omega) rfl) (Fx.Qt.v (.int .i64 (best - 1)) (fun v1 hv1 => Fx.x_sub rfl rfl rfl (Fx.i64e (by omega) (by omega))) (Fx.Qt.v (.pointer (some ⟨gk, (best - 1).toNat, none⟩)) (fun v1 hv1 => x_index rfl rfl rfl Try.underlying45 (s := 1) (by kernel_rfl) (by omega) (by omega) (by omega)) (Fx.Qt.v (.int .i64 (l ((best - 1).toNat))) (fun v1 hv1 => x_load1 (x := Fx.rv .i64 l) rfl rfl (by kernel_rfl) (by obtain ⟨qd, rfl⟩ := hv1; exact hgk.cel) (i := (best - 1).toNat) (by omega) (by omega) rfl) ?_)))))))))
    by_cases c28 : (l ((best - 1).toNat)) < (l ((j - 1).toNat))
    ·refine Fx.Qt.v (.bool true) (fun v1 hv1 => Fx.x_gtrT rfl rfl rfl c28) (Fx.Qt.v (.bool true) (fun v1 hv1 => x_pickF rfl rfl rfl) (Fx.Qt.v (.bool true) (fun v1 hv1 => x_pickT rfl rfl rfl) (Fx.Qt.v (.bool true) (fun v1 hv1 => x_assign rfl rfl) (Fx.Qt.nil ?_))))
     rintro _ ⟨qd, rfl⟩
     obtain ⟨wq3, ewq3⟩ : ∃ v1, v1 = World.drewN w qd := ⟨_, rfl⟩
     rw [← ewq3]
     have s3 : Fx.Stp w.heap.size w wq3 := by rw [ewq3]; exact Fx.Stp.of_below (bdrN w qd)
     have b3 := s3.below (Below.refl w.heap.size w) (Below.refl w.heap.size w).size (Below.refl w.heap.size w).size
     clear ewq3
     refine Fx.seqN (Fx.W.ret (⟨.bool true, Fx.retV1 Try.results124 (by exact rfl), ?_⟩))
     exact ⟨congrArg (fun q => Ending.returned (Value.bool q)) (Eq.symm (by unfold betB; rw [decide_eq_false (show ¬ j = but from c8)]; rw [decide_eq_true c14]; rw [decide_eq_false c18]; rw [decide_eq_true c28]; rfl)), b3⟩
    ·refine Fx.Qt.v (.bool false) (fun v1 hv1 => x_gtrF rfl rfl rfl c28) (Fx.Qt.v (.bool false) (fun v1 hv1 => x_pickF rfl rfl rfl) (Fx.Qt.v (.bool false) (fun v1 hv1 => x_pickT rfl rfl rfl) (Fx.Qt.v (.bool false) (fun v1 hv1 => x_assign rfl rfl) (Fx.Qt.nil ?_))))
     rintro _ ⟨qd, rfl⟩
     obtain ⟨wq4, ewq4⟩ : ∃ v1, v1 = World.drewN w qd := ⟨_, rfl⟩
     rw [← ewq4]
     have s4 : Fx.Stp w.heap.size w wq4 := by rw [ewq4]; exact Fx.Stp.of_below (bdrN w qd)
     have b4 := s4.below (Below.refl w.heap.size w) (Below.refl w.heap.size w).size (Below.refl w.heap.size w).size
     clear ewq4
     refine Fx.seqN (Fx.W.ret (⟨.bool false, Fx.retV1 Try.results124 (by exact rfl), ?_⟩))
     exact ⟨congrArg (fun q => Ending.returned (Value.bool q)) (Eq.symm (by unfold betB; rw [decide_eq_false (show ¬ j = but from c8)]; rw [decide_eq_true c14]; rw [decide_eq_false c18]; rw [decide_eq_false c28]; rfl)), b4⟩
  ·refine Fx.Qt.v (.bool false) (fun v1 hv1 => x_gtrF rfl rfl rfl c14) (Fx.Qt.v (.bool false) (fun v1 hv1 => x_pickT rfl rfl rfl) (Fx.Qt.v (.bool false) (fun v1 hv1 => x_move rfl rfl) (Fx.Qt.skip (by rfl) rfl (Fx.Qt.skip (by rfl) rfl (Fx.Qt.skip (by rfl) rfl (Fx.Qt.skip (by rfl) rfl (Fx.Qt.skip (by rfl) rfl (Fx.Qt.skip (by rfl) rfl (Fx.Qt.skip (by rfl) rfl (Fx.Qt.skip (by rfl) rfl (Fx.Qt.skip (by rfl) rfl (Fx.Qt.skip (by rfl) rfl (Fx.Qt.skip (by rfl) rfl (Fx.Qt.skip (by rfl) rfl (Fx.Qt.skip (by rfl) rfl (Fx.Qt.v (.bool false) (fun v1 hv1 => x_pickF rfl rfl rfl) (Fx.Qt.v (.bool false) (fun v1 hv1 => x_assign rfl rfl) (Fx.Qt.nil ?_))))))))))))))))))
   rintro _ ⟨qd, rfl⟩
   obtain ⟨wq5, ewq5⟩ : ∃ v1, v1 = World.drewN w qd := ⟨_, rfl⟩
   rw [← ewq5]
   have s5 : Fx.Stp w.heap.size w wq5 := by rw [ewq5]; exact Fx.Stp.of_below (bdrN w qd)
   have b5 := s5.below (Below.refl w.heap.size w) (Below.refl w.heap.size w).size (Below.refl w.heap.size w).size
   clear ewq5
   refine Fx.seqN (Fx.W.ret (⟨.bool false, Fx.retV1 Try.results124 (by exact rfl), ?_⟩))
   exact ⟨congrArg (fun q => Ending.returned (Value.bool q)) (Eq.symm (by unfold betB; rw [decide_eq_false (show ¬ j = but from c8)]; rw [decide_eq_false c14]; rfl)), b5⟩
theorem ro_giver (live : List Int) (l : Nat → Int) (but : Int) (al : Option Addr) (n cl : Nat) (w : World) (hlv : LvOk live n) (hl : Fx.Arr w al n 1 (lsX live)) :
    Calls Try.prog 106 #[.slice al (n) (cl), .agg (Fx.varr 6 (Fx.rv .i64 l)), .int .i64 (but)] w fun e w' => e = .returned (.int .i64 (gvN live l but n)) ∧ Below w.heap.size w w' := by
 have hn6 := hlv.1
 refine Fx.enter Try.func106 rfl (n := 24) rfl (by rfl) ?_
 refine Fx.W.seq (Fx.W.list (Fx.L.box (m := 6) (y := Fx.rv .i64 l) (by rfl) rfl rfl (Fx.cells_agg _ _) rfl fun g1 w1 eg1 m1 s1 z1 => ?_))
 have b1 := s1.below (Below.refl w.heap.size w) (Below.refl w.heap.size w).size (Below.refl w.heap.size w).size
 have lg1 : w.heap.size ≤ g1 := by rw [eg1]; exact (Below.refl w.heap.size w).size
 have tg1 : g1 < w1.heap.size := m1.lt
 clear eg1
 refine Fx.L.box (m := 1) (y := fun _ => .int .i64 (but)) (by rfl) rfl rfl (Fx.cells_one (by rfl)) rfl fun g2 w2 eg2 m2 s2 z2 => ?_
 have m3 := m1.stp s2 (Nat.ne_of_lt (m1.lt))
 have b2 := s2.below b1 b1.size b1.size
 have lg2 : w.heap.size ≤ g2 := by rw [eg2]; exact b1.size
 have ng2m3 : g1 ≠ g2 := by rw [eg2]; exact Nat.ne_of_lt (m1.lt)
 have tg2 : g2 < w2.heap.size := m2.lt
 clear eg2
 refine Fx.L.v (.int .i64 (0)) (x_assign rfl rfl) (Fx.L.nil (Fx.seqN (Fx.W.seq (Fx.W.list (Fx.L.new (m := 1) (y := Fx.rv .i64 (fun _ => 0)) (by rfl) rfl (by kernel_rfl) rfl fun g3 w3 eg3 m4 s3 z3 => ?_)))))
 have m5 := m3.stp s3 (Nat.ne_of_lt (m3.lt))
 have m6 := m2.stp s3 (Nat.ne_of_lt (m2.lt))
 have b3 := s3.below b2 b2.size b2.size
 have lg3 : w.heap.size ≤ g3 := by rw [eg3]; exact b2.size
 have ng3m5 : g1 ≠ g3 := by rw [eg3]; exact Nat.ne_of_lt (m3.lt)
 have ng3m6 : g2 ≠ g3 := by rw [eg3]; exact Nat.ne_of_lt (m2.lt)
 have tg3 : g3 < w3.heap.size := m4.lt
 clear eg3
 refine Fx.L.store1 (x := Fx.rv .i64 (fun _ => 0)) (u := .int .i64 (0)) (by rfl) rfl rfl rfl rfl (by rfl) (by kernel_rfl) m4 (i := 0) (by omega) fun w4 m7 s4 z4 => ?_
 have m8 : Fx.Blk w4 g3 1 (fun _ => .int .i64 (0)) 3 := Fx.upd_all m7
 have hct1 := Fx.ChT.of_stp s4 m4.ty
 have m9 := m5.chT hct1 (by decide)
 have m10 := m6.stp s4 (by omega)
 have b4 := s4.below b3 b3.size (by omega)
 refine Fx.L.nil (Fx.seqN (Fx.W.seq (Fx.W.list (Fx.L.v (.func (.func 124) #[] #[.pointer (some ⟨g2, 0, none⟩), .pointer (some ⟨g1, 0, none⟩), .pointer (some ⟨g3, 0, none⟩)]) (Fx.x_func (us := []) (vs := [.pointer (some ⟨g2, 0, none⟩), .pointer (some ⟨g1, 0, none⟩), .pointer (some ⟨g3, 0, none⟩)]) rfl rfl rfl) (Fx.L.v (.func (.func 124) #[] #[.pointer (some ⟨g2, 0, none⟩), .pointer (some ⟨g1, 0, none⟩), .pointer (some ⟨g3, 0, none⟩)]) (x_assign rfl rfl) (Fx.L.nil (Fx.seqN (Fx.W.seq (Fx.W.seq (Fx.W.list (Fx.L.v (.slice al (n) (cl)) (x_move rfl rfl) (Fx.L.v (.int .i64 ((n : Int))) (x_len rfl rfl rfl (by kernel_rfl)) (Fx.L.v (.int .i64 (0)) (x_move rfl rfl) (Fx.L.nil (Fx.seqN (Fx.W.block (Fx.W.loop (fun f w_ => ∃ k : Nat, k ≤ n ∧ f 4 = .pointer (some ⟨g1, 0, none⟩) ∧ f 5 = .pointer (some ⟨g2, 0, none⟩) ∧ f 7 = .pointer (some ⟨g3, 0, none⟩) ∧ f 8 = .func (.func 124) #[] #[.pointer (some ⟨g2, 0, none⟩), .pointer (some ⟨g1, 0, none⟩), .pointer (some ⟨g3, 0, none⟩)] ∧ f 12 = .slice al (n) (cl) ∧ f 13 = .int .i64 ((n : Int)) ∧ f 14 = .int .i64 ((k : Int)) ∧ Fx.Blk w_ g1 6 (Fx.rv .i64 l) 45 ∧ Fx.Blk w_ g2 1 (fun _ => .int .i64 (but)) 3 ∧ Fx.Blk w_ g3 1 (fun _ => .int .i64 (gvN live l but k)) 3 ∧ Below w.heap.size w w_) (fun f _ => (n - (intOf (f 14)).toNat)) ⟨0, by omega, (by rfl), (by rfl), (by rfl), (by rfl), (by rfl), (by first | rfl | exact congrArg (Value.int .i64) (by omega)), (by first | rfl | exact congrArg (Value.int .i64) (by omega)), m9, m10, m8, b4⟩ ?_)))))))))))))))))
 rintro f1 w5 ⟨k, hk, h1, h2, h3, h4, h5, h6, h7, m11, m12, m13, b5⟩
 refine Fx.W.seq (Fx.W.list ?_)
 by_cases c15 : (k : Int) < (n : Int)
 ·refine Fx.L.v (.bool true) (Fx.x_lssT rfl h7 h6 c15) (Fx.L.nil (Fx.seqN (Fx.W.seq (Fx.W.cond (b := true) rfl (fun _ => Fx.W.skip (Fx.seqN (Fx.W.seq (Fx.W.block (Fx.W.seq ?_))))) (fun h => nomatch h)))))
  have hjb := hlv.2 k (by omega)
  have hgb := gv_bd (l := l) (but := but) hlv k (by omega)
  refine Fx.W.list ?_
  obtain ⟨bq1, oq1, eq1, m14⟩ := (hl.up b5 rfl) (by omega)
  have lbq1 : bq1 < w5.heap.size := m14.lt (by omega)
  refine Fx.L.v (.pointer (some ⟨bq1, k + oq1, none⟩)) (x_indexS rfl (h5.trans (congrArg (fun q => Value.slice q (n) (cl)) eq1)) h7 Try.underlying23 (s := 1) (by kernel_rfl) (by omega) (by omega) (by omega)) (Fx.L.v (.int .i64 (live.getD k 0)) (x_load1 (x := lsX live) rfl rfl (by kernel_rfl) m14 (i := k) (by omega) (by omega) rfl) (Fx.L.v (.int .i64 (live.getD k 0)) (x_assign rfl rfl) (Fx.L.nil (Fx.seqN (Fx.W.seq (Fx.W.list (Fx.L.v (.func (.func 124) #[] #[.pointer (some ⟨g2, 0, none⟩), .pointer (some ⟨g1, 0, none⟩), .pointer (some ⟨g3, 0, none⟩)]) (x_move rfl h4) (Fx.L.v (.int .i64 (live.getD k 0)) (x_move rfl rfl) ?_))))))))
  by_cases c20 : (betB l but (gvN live l but k) (live.getD k 0)) = true
  ·refine Fx.L.call (by rfl) (Fx.r_clo (args := [.int .i64 (live.getD k 0)]) rfl rfl rfl (all := #[.int .i64 (live.getD k 0), .pointer (some ⟨g2, 0, none⟩), .pointer (some ⟨g1, 0, none⟩), .pointer (some ⟨g3, 0, none⟩)]) rfl Try.func124 rfl rfl) rfl ((ro_better l but (gvN live l but k) (live.getD k 0) g2 g1 g3 _ hgb hjb m12 m11 m13).mono ?_)
   rintro e w6 ⟨he, hb1⟩
   refine ⟨.bool true, by rw [he, c20], ?_⟩
   clear he
   have s5 := Fx.Stp.of_below hb1
   have m15 := m11.stp s5 (Nat.ne_of_lt (m11.lt))
   have m16 := m12.stp s5 (Nat.ne_of_lt (m12.lt))
   have m17 := m13.stp s5 (Nat.ne_of_lt (m13.lt))
   have b6 := s5.below b5 b5.size b5.size
   refine Fx.L.nil (Fx.seqN (Fx.W.cond (b := true) rfl (fun _ => Fx.W.list (Fx.L.v (.int .i64 (live.getD k 0)) (x_move rfl rfl) ?_)) (fun h => nomatch h)))
   refine Fx.L.store1 (x := fun _ => .int .i64 (gvN live l but k)) (u := .int .i64 (live.getD k 0)) (by rfl) rfl rfl h3 rfl (by rfl) (by kernel_rfl) m17 (i := 0) (by omega) fun w7 m19 s6 z5 => ?_
   have m20 : Fx.Blk w7 g3 1 (fun _ => .int .i64 (live.getD k 0)) 3 := Fx.upd_all m19
   have m21 : Fx.Blk w7 g3 1 (fun _ => .int .i64 (gvN live l but (k + 1))) 3 := m20.to (by funext j; exact congrArg (Value.int .i64) (gv_yes c20).symm)
   have hct2 := Fx.ChT.of_stp s6 m17.ty
   have m22 := m15.chT hct2 (by decide)
   have m23 := m16.stp s6 (by omega)
   have b7 := s6.below b6 b6.size (by omega)
   refine Fx.L.nil (Fx.blkN (Fx.seqN (Fx.W.list (Fx.L.v (.int .i64 ((k : Int) + 1)) (Fx.x_add rfl h7 rfl (Fx.i64e (by omega) (by omega))) (Fx.L.v (.int .i64 ((k : Int) + 1)) (x_move rfl rfl) (Fx.L.nil (Fx.lpN ⟨k + 1, by omega, h1, h2, h3, h4, h5, (h6.trans (by first | rfl | exact congrArg (Value.int .i64) (by omega))), (by first | rfl | exact congrArg (Value.int .i64) (by omega)), m22, m23, m21, b7⟩ ?_)))))))
   show (n - (intOf ((.int .i64 ((k : Int) + 1)))).toNat) < _
   simp only [h7, intOf]; omega
  ·rw [Bool.not_eq_true] at c20
   refine Fx.L.call (by rfl) (Fx.r_clo (args := [.int .i64 (live.getD k 0)]) rfl rfl rfl (all := #[.int .i64 (live.getD k 0), .pointer (some ⟨g2, 0, none⟩), .pointer (some ⟨g1, 0, none⟩), .pointer (some ⟨g3, 0, none⟩)]) rfl Try.func124 rfl rfl) rfl ((ro_better l but (gvN live l but k) (live.getD k 0) g2 g1 g3 _ hgb hjb m12 m11 m13).mono ?_)
   rintro e w8 ⟨he, hb2⟩
   refine ⟨.bool false, by rw [he, c20], ?_⟩
   clear he
   have s7 := Fx.Stp.of_below hb2
   have m24 := m11.stp s7 (Nat.ne_of_lt (m11.lt))
   have m25 := m12.stp s7 (Nat.ne_of_lt (m12.lt))
   have m26 := m13.stp s7 (Nat.ne_of_lt (m13.lt))
   have b8 := s7.below b5 b5.size b5.size
   refine Fx.L.nil (Fx.seqN (Fx.W.cond (b := false) rfl (fun h => nomatch h) (fun _ => Fx.W.skip (Fx.blkN (Fx.seqN ?_)))))
   have m28 : Fx.Blk w8 g3 1 (fun _ => .int .i64 (gvN live l but (k + 1))) 3 := m26.to (by funext j; exact congrArg (Value.int .i64) (gv_no c20).symm)
   refine Fx.W.list (Fx.L.v (.int .i64 ((k : Int) + 1)) (Fx.x_add rfl h7 rfl (Fx.i64e (by omega) (by omega))) (Fx.L.v (.int .i64 ((k : Int) + 1)) (x_move rfl rfl) (Fx.L.nil (Fx.lpN ⟨k + 1, by omega, h1, h2, h3, h4, h5, (h6.trans (by first | rfl | exact congrArg (Value.int .i64) (by omega))), (by first | rfl | exact congrArg (Value.int .i64) (by omega)), m24, m25, m28, b8⟩ ?_))))
   show (n - (intOf ((.int .i64 ((k : Int) + 1)))).toNat) < _
   simp only [h7, intOf]; omega
 ·refine Fx.L.v (.bool false) (Fx.x_lssF rfl h7 h6 c15) (Fx.L.nil (Fx.seqN (Fx.W.seq (Fx.W.cond (b := false) rfl (fun h => nomatch h) (fun _ => Fx.W.exit (Fx.seqX (Fx.lpX (Fx.blkX (Fx.seqN (Fx.W.seq (Fx.W.list (Fx.L.v (.int .i64 (gvN live l but k)) (x_load1 (x := fun _ => .int .i64 (gvN live l but k)) rfl h3 (by kernel_rfl) m13.cel (i := 0) (by omega) (by omega) rfl) (Fx.L.v (.int .i64 (gvN live l but k)) (x_assign rfl rfl) (Fx.L.nil (Fx.seqN (Fx.W.ret (⟨.int .i64 (gvN live l but k), Fx.retV1 Try.results106 (by exact rfl), ?_⟩)))))))))))))))))
  obtain rfl : k = n := by omega
  exact ⟨rfl, b5⟩
section
namespace Rt
structure GiftM where
  fr : Int
  node : Int
  amt : Int
def gf0 : GiftM := ⟨0, 0, 0⟩
def gfY (g : GiftM) : Nat → Value := fun p => if p = 0 then .int .i64 g.fr else if p = 1 then .int .u64 g.node else .int .i64 g.amt
def gfX (l : List GiftM) : Nat → Value := Fx.flat 3 fun k => gfY (l.getD k gf0)
theorem gfY_one (x : GiftM) (j : Nat) : (gfY x j).oneCell' = true := by unfold gfY; repeat (first | rfl | split)
theorem gf_app {l : List GiftM} {n : Nat} {y z : Nat → Value} {x : GiftM} (hn : n = l.length) (hy : ∀ j, j < 3 → y j = gfY x j) : ∀ j, j < (n + 1) * 3 → Fx.appX (gfX l) (n * 3) (Fx.ovr z (0 * 3) 3 y) j = gfX (l ++ [x]) j := fun j hj =>
  (Fx.app_flat j hj).trans (Fx.flat_cong (fun i hi q hq => by
    subst hn
    unfold Fx.updF
    by_cases h : i = l.length
    · subst h; rw [if_pos rfl, List.getD_eq_getElem?_getD, List.getElem?_append_right (by omega), Nat.sub_self]; exact hy q hq
    · rw [if_neg h]; show gfY (l.getD i gf0) q = _; rw [List.getD_eq_getElem?_getD, List.getD_eq_getElem?_getD, List.getElem?_append_left (by omega)]) j hj)
def gAmt (l : Nat → Int) (b a : Nat) (y : Int) : Int := if y - l a < l b then y - l a else l b
def mvG (l : Nat → Int) (b a : Nat) (am : Int) : Nat → Int := upd (upd l b (l b - am)) a (upd l b (l b - am) a + am)
def frG (live : List Int) (n a : Nat) (l : Nat → Int) : Int := gvN live l ((a : Int) + 1) n
def stG (live : List Int) (n : Nat) (y : Int) (a : Nat) (l : Nat → Int) : Nat → Int := mvG l (frG live n a l - 1).toNat a (gAmt l (frG live n a l - 1).toNat a y)
def itG (live : List Int) (n : Nat) (y : Int) (a : Nat) (l : Nat → Int) : Nat → Nat → Int
  | 0 => l
  | m + 1 => stG live n y a (itG live n y a l m)
def oneG (live : List Int) (n : Nat) (y : Int) (a : Nat) (node : Int) (l : Nat → Int) : GiftM := ⟨frG live n a l, node, gAmt l (frG live n a l - 1).toNat a y⟩
def gfN (live : List Int) (n : Nat) (y : Int) (a : Nat) (l : Nat → Int) (node : Int) : Nat → List GiftM
  | 0 => []
  | m + 1 => gfN live n y a l node m ++ [oneG live n y a node (itG live n y a l m)]
def goG (live : List Int) (n : Nat) (y : Int) (a : Nat) (l : Nat → Int) (m : Nat) : Bool := decide (itG live n y a l m a < y) && !decide (frG live n a (itG live n y a l m) = 0)
def cntG (live : List Int) (n : Nat) (y : Int) (a : Nat) (l : Nat → Int) : Nat := lead (goG live n y a l) 6
def okG (live : List Int) (n : Nat) (y : Int) (a : Nat) (l : Nat → Int) : Bool := decide (y ≤ itG live n y a l (cntG live n y a l) a)
def nodeG (live : List Int) (n : Nat) (y : Int) (a : Nat) (l : Nat → Int) (node : Int) : List GiftM := gfN live n y a l node (cntG live n y a l)
def allG (live : List Int) (n : Nat) (y : Int) (a : Nat) (lo : Nat → Nat → Int) (nd : Nat → Int) : Nat → List GiftM
  | 0 => []
  | p + 1 => allG live n y a lo nd p ++ nodeG live n y a (lo p) (nd p)
section
variable {live : List Int} {n a b m : Nat} {y : Int} {l : Nat → Int} {node : Int}
theorem gfN_len : ∀ m, (gfN live n y a l node m).length = m
  | 0 => rfl
  | m + 1 => by unfold gfN; rw [List.length_append, gfN_len m]; rfl
theorem gv_spec {but : Int} : ∀ k, (gvN live l but k = 0 ∨ (∃ q, q < k ∧ gvN live l but k = live.getD q 0 ∧ gvN live l but k ≠ but ∧ 0 < l (gvN live l but k - 1).toNat))
  | 0 => .inl rfl
  | k + 1 => by
    have ih := gv_spec (but := but) k
    cases hb : betB l but (gvN live l but k) (live.getD k 0) with
    | true =>
      rw [gv_yes hb]
      unfold betB at hb
      simp only [Bool.and_eq_true, Bool.not_eq_true', decide_eq_false_iff_not, decide_eq_true_eq] at hb
      exact .inr ⟨k, Nat.lt_succ_self k, rfl, hb.1, hb.2.1⟩
    | false =>
      rw [gv_no hb]
      rcases ih with h | ⟨q, h1, h2⟩
      · exact .inl h
      · exact .inr ⟨q, by omega, h2⟩
theorem gv_max {but : Int} (h : LvOk live n) : ∀ k, k ≤ n → ∀ q, q < k → live.getD q 0 ≠ but → (gvN live l but k = 0 → l (live.getD q 0 - 1).toNat ≤ 0) ∧ (gvN live l but k ≠ 0 → l (live.getD q 0 - 1).toNat ≤ l (gvN live l but k - 1).toNat)
  | 0, _, q, hq, _ => absurd hq (Nat.not_lt_zero q)
  | k + 1, hk, q, hq, hne => by
    have ih := gv_max (but := but) h k (by omega)
    have hs := gv_spec (live := live) (l := l) (but := but) k
    cases hb : betB l but (gvN live l but k) (live.getD k 0) with
    | true =>
      rw [gv_yes hb]
      unfold betB at hb
      simp only [Bool.and_eq_true, Bool.not_eq_true', Bool.or_eq_true, decide_eq_false_iff_not, decide_eq_true_eq] at hb
      obtain ⟨h1, h2, h3⟩ := hb
      have hr := h.2 k (by omega)
      refine ⟨fun e => by omega, fun _ => ?_⟩
      by_cases e : q = k
      · rw [e]; exact Int.le_refl _
      · have i1 := ih q (by omega) hne
        rcases h3 with h3 | h3
        · have := i1.1 h3; omega
        · by_cases e2 : gvN live l but k = 0
          · have := i1.1 e2; omega
          · have := i1.2 e2; omega
    | false =>
      rw [gv_no hb]
      by_cases e : q = k
      · subst e
        unfold betB at hb
        have hb' : ¬ (0 < l (live.getD q 0 - 1).toNat ∧ (gvN live l but q = 0 ∨ l (gvN live l but q - 1).toNat < l (live.getD q 0 - 1).toNat)) := by
          intro hc
          rw [decide_eq_false hne, decide_eq_true hc.1] at hb
          rcases hc.2 with h2 | h2 <;> rw [decide_eq_true h2] at hb <;> simp at hb
        refine ⟨fun e0 => ?_, fun e0 => ?_⟩
        · rcases Int.lt_or_le 0 (l (live.getD q 0 - 1).toNat) with h1 | h1
          · exact absurd ⟨h1, .inl e0⟩ hb'
          · exact h1
        · rcases Int.lt_or_le (l (gvN live l but q - 1).toNat) (l (live.getD q 0 - 1).toNat) with h1 | h1
          · rcases Int.lt_or_le 0 (l (live.getD q 0 - 1).toNat) with h2 | h2
            · exact absurd ⟨h2, .inr h1⟩ hb'
            · rcases hs with h3 | ⟨_, _, _, _, h3⟩
              · exact absurd h3 e0
              · omega
          · exact h1
      · exact ih q (by omega) hne
theorem fr_some (h : LvOk live n) (hf : frG live n a l ≠ 0) : ∃ b : Nat, b < 6 ∧ frG live n a l = (b : Int) + 1 ∧ b ≠ a ∧ 0 < l b ∧ ∃ q, q < n ∧ live.getD q 0 = (b : Int) + 1 := by
  rcases gv_spec (live := live) (l := l) (but := (a : Int) + 1) n with h0 | ⟨q, hq, e, hne, hp⟩
  · exact absurd h0 hf
  · have hr := h.2 q hq
    unfold frG
    rw [e] at hne hp ⊢
    obtain ⟨b, hb⟩ : ∃ b : Nat, live.getD q 0 = (b : Int) + 1 := ⟨(live.getD q 0 - 1).toNat, by omega⟩
    rw [hb] at hne hp hr ⊢
    refine ⟨b, by omega, rfl, by omega, ?_, q, hq, hb⟩
    rw [show ((b : Int) + 1 - 1).toNat = b by omega] at hp
    exact hp
theorem gAmt_bd (h1 : l a < y) (h2 : 0 < l b) : 1 ≤ gAmt l b a y ∧ gAmt l b a y ≤ l b ∧ gAmt l b a y ≤ y - l a := by
  unfold gAmt; split <;> omega
theorem mvG_at (hab : b ≠ a) (am : Int) (j : Nat) : mvG l b a am j = if j = a then l a + am else if j = b then l b - am else l j := by
  have e : upd l b (l b - am) a = l a := upd_other _ _ _ _ (fun h => hab h.symm)
  unfold mvG
  rw [e]; rfl
theorem mv_ok {am : Int} (hl : LoOk l) (hab : b ≠ a) (h0 : 0 ≤ am) (h1 : am ≤ l b) (h2 : l a + am ≤ 9007199254740992) : LoOk (mvG l b a am) := fun j hj => by
  rw [mvG_at hab]
  have h3 := hl j hj
  split
  · rename_i e; subst e; omega
  · split
    · rename_i e; subst e; omega
    · exact h3
theorem it_ok (h : LvOk live n) (ha : a < 6) (hl : LoOk l) (hy : y ≤ 1125899906842624) : ∀ m, (∀ q, q < m → goG live n y a l q = true) → LoOk (itG live n y a l m)
  | 0, _ => hl
  | m + 1, hg => by
    have ih := it_ok h ha hl hy m fun q hq => hg q (by omega)
    have hm := hg m (Nat.lt_succ_self m)
    unfold goG at hm
    simp only [Bool.and_eq_true, Bool.not_eq_true', decide_eq_false_iff_not, decide_eq_true_eq] at hm
    show LoOk (stG live n y a (itG live n y a l m))
    generalize itG live n y a l m = lm at ih hm ⊢
    obtain ⟨b, hb, e, hne, hp, _⟩ := fr_some h hm.2
    unfold stG
    rw [e, show ((b : Int) + 1 - 1).toNat = b by omega]
    have hg2 := gAmt_bd hm.1 hp
    exact mv_ok ih hne (by omega) hg2.2.1 (by omega)
def posN (l : Nat → Int) (a : Nat) : Nat → Nat
  | 0 => 0
  | j + 1 => posN l a j + if j ≠ a ∧ 0 < l j then 1 else 0
theorem pos_le (l : Nat → Int) (a : Nat) : ∀ j, posN l a j ≤ j
  | 0 => Nat.le_refl _
  | j + 1 => by have := pos_le l a j; unfold posN; split <;> omega
theorem pos_le5 (ha : a < 6) (l : Nat → Int) : posN l a 6 ≤ 5 := by
  have : ∀ j, a < j → posN l a j ≤ j - 1 := fun j => by
    induction j with
    | zero => omega
    | succ j ih =>
      intro h
      unfold posN
      by_cases e : j = a
      · subst e; rw [if_neg (fun h => h.1 rfl)]; have := pos_le l j j; omega
      · have := ih (by omega); split <;> omega
  exact this 6 ha
theorem pos_gone {l' : Nat → Int} (hb : b ≠ a) (h0 : 0 < l b) (h1 : l' b ≤ 0) (ho : ∀ j, j ≠ a → j ≠ b → l' j = l j) : ∀ j, b < j → posN l' a j + 1 = posN l a j
  | 0, h => absurd h (Nat.not_lt_zero _)
  | j + 1, h => by
    have same : ∀ i, i ≤ b → posN l' a i = posN l a i := fun i => by
      induction i with
      | zero => intro _; rfl
      | succ i ih =>
        intro hi
        unfold posN
        rw [ih (by omega)]
        by_cases e : i = a
        · subst e; rw [if_neg (fun h => h.1 rfl), if_neg (fun h => h.1 rfl)]
        · rw [ho i e (by omega)]
    unfold posN
    by_cases e : j = b
    · subst e
      rw [same j (Nat.le_refl _), if_neg (fun h => by omega), if_pos ⟨hb, h0⟩]
    · have ih := pos_gone hb h0 h1 ho j (by omega)
      by_cases e2 : j = a
      · subst e2; rw [if_neg (fun h => h.1 rfl), if_neg (fun h => h.1 rfl)]; omega
      · rw [ho j e2 e]; omega
theorem pos_one (hb : b ≠ a) (h0 : 0 < l b) : ∀ j, b < j → 1 ≤ posN l a j
  | 0, h => absurd h (Nat.not_lt_zero _)
  | j + 1, h => by
    unfold posN
    by_cases e : j = b
    · subst e; rw [if_pos ⟨hb, h0⟩]; omega
    · have := pos_one hb h0 j (by omega); omega
theorem it_pos (h : LvOk live n) (ha : a < 6) : ∀ m, (∀ q, q < m → goG live n y a l q = true) → itG live n y a l m a = y ∨ posN (itG live n y a l m) a 6 + m ≤ 5
  | 0, _ => .inr (pos_le5 ha _)
  | m + 1, hg => by
    have ih := it_pos h ha m fun q hq => hg q (by omega)
    have hm := hg m (Nat.lt_succ_self m)
    unfold goG at hm
    simp only [Bool.and_eq_true, Bool.not_eq_true', decide_eq_false_iff_not, decide_eq_true_eq] at hm
    show stG live n y a (itG live n y a l m) a = y ∨ posN (stG live n y a (itG live n y a l m)) a 6 + (m + 1) ≤ 5
    generalize itG live n y a l m = lm at ih hm ⊢
    obtain ⟨b, hb, e, hne, hp, _⟩ := fr_some h hm.2
    unfold stG
    rw [e, show ((b : Int) + 1 - 1).toNat = b by omega]
    have hi : posN lm a 6 + m ≤ 5 := by rcases ih with h1 | h1 <;> omega
    by_cases hc : y - lm a < lm b
    · left
      rw [mvG_at hne, if_pos rfl]
      unfold gAmt; rw [if_pos hc]; omega
    · right
      have ea : gAmt lm b a y = lm b := if_neg hc
      rw [ea]
      have := pos_gone (l := lm) (l' := mvG lm b a (lm b)) hne hp (by rw [mvG_at hne, if_neg hne, if_pos rfl]; omega) (fun j h1 h2 => by rw [mvG_at hne, if_neg h1, if_neg h2]) 6 (by omega)
      omega
theorem go_lt (h : LvOk live n) (ha : a < 6) (hg : ∀ q, q < m → goG live n y a l q = true) (h2 : goG live n y a l m = true) : m < 5 := by
  have ih := it_pos h ha m hg
  unfold goG at h2
  simp only [Bool.and_eq_true, Bool.not_eq_true', decide_eq_false_iff_not, decide_eq_true_eq] at h2
  obtain ⟨b, hb, e, hne, hp, _⟩ := fr_some h h2.2
  have := pos_one hne hp 6 hb
  rcases ih with h1 | h1 <;> omega
theorem go_step (hg : ∀ q, q < m → goG live n y a l q = true) (h2 : goG live n y a l m = true) : ∀ q, q < m + 1 → goG live n y a l q = true := fun q hq => by
  by_cases e : q = m
  · rw [e]; exact h2
  · exact hg q (by omega)
theorem cnt_is (hm : m ≤ 5) (hg : ∀ q, q < m → goG live n y a l q = true) (h2 : goG live n y a l m = false) : cntG live n y a l = m := lead_eq hg h2 (by omega)
theorem cnt_go (h : LvOk live n) (ha : a < 6) : cntG live n y a l ≤ 5 ∧ (∀ q, q < cntG live n y a l → goG live n y a l q = true) ∧ goG live n y a l (cntG live n y a l) = false := by
  have hg : ∀ q, q < cntG live n y a l → goG live n y a l q = true := fun q hq => lead_lt hq
  have h5 : cntG live n y a l ≤ 5 := by
    rcases Nat.lt_or_ge 5 (cntG live n y a l) with h1 | h1
    · have := go_lt (m := 5) h ha (fun q hq => hg q (by omega)) (hg 5 h1); omega
    · exact h1
  refine ⟨h5, hg, ?_⟩
  cases e : goG live n y a l (cntG live n y a l) with
  | false => rfl
  | true =>
    exfalso
    have h6 : ∀ q, q < cntG live n y a l + 1 → goG live n y a l q = true := go_step hg e
    have : ∀ k, k ≤ 6 → (∀ q, q < k → goG live n y a l q = true) → k ≤ cntG live n y a l := fun k hk hq => by
      rcases Nat.lt_or_ge (cntG live n y a l) k with h1 | h1
      · exfalso
        have hk2 : lead (goG live n y a l) 6 = cntG live n y a l := rfl
        have hle := go_lt h ha hg e
        -- lead stops at the first place where it does not go
        have hl : ∀ N k, k ≤ N → (∀ q, q < k → goG live n y a l q = true) → k ≤ lead (goG live n y a l) N := fun N => by
          induction N with
          | zero => intro k hk _; omega
          | succ N ih =>
            intro k hk hq
            unfold lead
            by_cases e1 : k = N + 1
            · have i1 := ih N (Nat.le_refl _) fun q hq' => hq q (by omega)
              have i2 := lead_le (goG live n y a l) N
              rw [if_pos ⟨by omega, hq N (by omega)⟩]; omega
            · have i1 := ih k (by omega) hq
              split <;> omega
        have := hl 6 k hk hq
        omega
      · exact h1
    have := this _ (by omega) h6
    omega
theorem nodeG_len (h : LvOk live n) (ha : a < 6) : (nodeG live n y a l node).length ≤ 5 := by
  unfold nodeG; rw [gfN_len]; exact (cnt_go h ha).1
theorem allG_len {lo : Nat → Nat → Int} {nd : Nat → Int} (h : LvOk live n) (ha : a < 6) : ∀ p, (allG live n y a lo nd p).length ≤ 5 * p
  | 0 => Nat.le_refl _
  | p + 1 => by
    have := allG_len (lo := lo) (nd := nd) h ha p
    have h2 := nodeG_len (y := y) (l := lo p) (node := nd p) h ha
    unfold allG; rw [List.length_append]; omega
end
end Rt
end
end Go.Proofs.Ytolmkjepieoloaa
