/-
  What the proof of the law rests on, part 6: walks of functions, and plain laws; each says its conditions itself.
-/
import Derived.Deep.Slices
import Derived.Lib.SmallJoins
import Derived.ChangeArms
import Derived.Test.YtleajegppehbdaaZE5
namespace Go.Proofs.Ytleajegppehbdaa
open Go.RowKit Rt
open Fx (x_move x_assign x_field x_load1 x_pickF x_pickT x_nil x_conv x_indexS x_index x_leqF x_loadA x_len x_gtrF x_build x_eqlF x_eqlT Lv sN Ln Ws Qv Wl Rp Wc Qs Wr Sb Lk Wk rC rV sR)
namespace Rt
structure ActM where
  who : Nat
  meet : Bool
  other : Nat
  kind : Nat
  node : Nat
  dst : Nat
  amt : Nat
  req : Nat
  of : Nat
structure ActOk (x : ActM) : Prop where
  who : x.who ≤ 255
  other : x.other ≤ 255
  kind : x.kind ≤ 255
  node : x.node ≤ 255
  dst : x.dst ≤ 255
  amt : x.amt ≤ 65535
  req : x.req ≤ 255
  of : x.of ≤ 255
def actY (x : ActM) : Nat → Value := fun p => if p = 0 then .int .u8 (x.who : Int) else if p = 1 then .bool x.meet else if p = 2 then .int .u8 (x.other : Int) else if p = 3 then .int .u8 (x.kind : Int) else if p = 4 then .int .u8 (x.node : Int) else if p = 5 then .int .u8 (x.dst : Int) else if p = 6 then .int .u16 (x.amt : Int) else if p = 7 then .int .u8 (x.req : Int) else .int .u8 (x.of : Int)
theorem remL {k n r : Nat} (e : r = k % n) : Int.tmod (k : Int) (n : Int) = (r : Int) := by
  rw [Int.tmod_eq_emod_of_nonneg (by omega), e]
  exact (Int.natCast_emod k n).symm
theorem ev_node (V : EvM) (x : Int) : ∀ j, j < 14 → Fx.updV (evY V) 9 (.int .u64 x) j = evY { V with node := x } j := fun j hj => by
  rcases j with _|_|_|_|_|_|_|_|_|_|_|_|_|_|j <;> first | rfl | omega
theorem ev_dst (V : EvM) (x : Int) : ∀ j, j < 14 → Fx.updV (evY V) 10 (.int .i64 x) j = evY ⟨V.o, V.seq, V.deps, V.kind, V.node, x, V.amt, V.req, V.of⟩ j := fun j hj => by
  rcases j with _|_|_|_|_|_|_|_|_|_|_|_|_|_|j <;> first | rfl | omega
theorem ev_amt (V : EvM) (x : Int) : ∀ j, j < 14 → Fx.updV (evY V) 11 (.int .i64 x) j = evY { V with amt := x } j := fun j hj => by
  rcases j with _|_|_|_|_|_|_|_|_|_|_|_|_|_|j <;> first | rfl | omega
theorem ev_req (V : EvM) (x : Int) : ∀ j, j < 14 → Fx.updV (evY V) 12 (.int .u64 x) j = evY { V with req := x } j := fun j hj => by
  rcases j with _|_|_|_|_|_|_|_|_|_|_|_|_|_|j <;> first | rfl | omega
theorem ev_of (V : EvM) (x : Int) : ∀ j, j < 14 → Fx.updV (evY V) 13 (.int .u64 x) j = evY { V with of := x } j := fun j hj => by
  rcases j with _|_|_|_|_|_|_|_|_|_|_|_|_|_|j <;> first | rfl | omega
end Rt
set_option maxRecDepth 20000 in
set_option maxHeartbeats 2000000 in
theorem l_event (M : WM) (B p T : Nat) (x : ActM) (w : World) (hW : WldO w B p M T) (hx : ActOk x) :
    Calls Try.prog 40 #[.pointer (some ⟨p, 0, none⟩), .agg (Fx.varr 9 (actY x))] w fun e w' => ∃ V, EvWf V ∧ EvSm V ∧ (V.o = ((x.who % M.n : Nat) : Int) + 1 ∧ V.seq = (M.ml (x.who % M.n)).s.known (x.who % M.n) + 1 ∧ V.deps = (M.ml (x.who % M.n)).s.known) ∧ e = .returned (.agg (Fx.varr 14 (evY V))) ∧ Below w.heap.size w w' := by
 have hWc := hW.c
 have hWl := hW.l
 have hWa := hW.a
 have hWg := hW.g
 have hn1 := hW.n1
 have hn6 := hW.n6
 have hpB := hW.pB
 have lpp : p < w.heap.size := hWc.lt
 have hxw := hx.who
 have hxo := hx.other
 have hxk := hx.kind
 have hxn := hx.node
 have hxt := hx.dst
 have hxa := hx.amt
 have hxr := hx.req
 have hxf := hx.of
 refine Fx.enter Try.func40 rfl (n := 143) rfl (by rfl) ?_
 refine Ws (Wl (Fx.L.box (m := 9) (y := actY x) (by rfl) rfl rfl (Fx.cells_agg _ _) rfl fun g1 w1 eg1 m1 s1 z1 => ?_))
 have m2 := hWc.stp s1 (Nat.ne_of_lt (hWc.lt))
 have m3 := hWl.stp s1 (hWl.notNew (Nat.le_refl _))
 have m4 := hWa.stp s1 (hWa.notNew (Nat.le_refl _))
 have m5 := hWg.up s1.old
 have b1 := s1.below (Below.refl w.heap.size w) (Below.refl w.heap.size w).size (Below.refl w.heap.size w).size
 have lg1 : w.heap.size ≤ g1 := by rw [eg1]; exact (Below.refl w.heap.size w).size
 have ng1m2 : p ≠ g1 := by rw [eg1]; exact Nat.ne_of_lt (hWc.lt)
 have tg1 : g1 < w1.heap.size := m1.lt
 clear eg1
 refine Fx.L.new (m := 14) (y := fun zq => if zq < 1 then .int .i64 (0) else if zq < 8 then .int .u64 (0) else if zq < 9 then .int .u8 (0) else if zq < 10 then .int .u64 (0) else if zq < 12 then .int .i64 (0) else .int .u64 (0)) (by rfl) rfl (by kernel_rfl) rfl fun g2 w2 eg2 m6 s2 z2 => ?_
 have m7 := m2.stp s2 (Nat.ne_of_lt (m2.lt))
 have m8 := m3.stp s2 (m3.notNew (Nat.le_refl _))
 have m9 := m4.stp s2 (m4.notNew (Nat.le_refl _))
 have m10 := m5.up s2.old
 have m11 := m1.stp s2 (Nat.ne_of_lt (m1.lt))
 have b2 := s2.below b1 b1.size b1.size
 have lg2 : w.heap.size ≤ g2 := by rw [eg2]; exact b1.size
 have ng2m7 : p ≠ g2 := by rw [eg2]; exact Nat.ne_of_lt (m2.lt)
 have ng2m9 : (.slice M.aa (M.an) (M.ac) : Value).ownBlock ≠ some g2 := by rw [eg2]; exact m4.notNew (Nat.le_refl _)
 have ng2m11 : g1 ≠ g2 := by rw [eg2]; exact Nat.ne_of_lt (m1.lt)
 have tg2 : g2 < w2.heap.size := m6.lt
 clear eg2
 refine Ln (sN (Ws ?_))
 obtain ⟨o, eo⟩ : ∃ r, r = x.who % M.n := ⟨_, rfl⟩
 have ho : o < M.n := by rw [eo]; exact Nat.mod_lt _ (by omega)
 -- region 1 draws
 refine Fx.W.quiet (fun v1 => ∃ q, v1 = World.drewN w2 q) (by kernel_rfl) (by kernel_rfl) ⟨1, rfl⟩ ?_
 refine Qv (.pointer (some ⟨g1, 0, none⟩)) (fun v1 hv1 => x_field rfl rfl Try.underlying54 rfl (s := 1) (by kernel_rfl) rfl rfl) (Qv (.int .u8 ((x.who : Int))) (fun v1 hv1 => x_load1 (x := actY x) rfl rfl (by kernel_rfl) (by obtain ⟨qd, rfl⟩ := hv1; exact m11.cel) (i := 0) (by omega) (by omega) rfl) (Qv (.int .i64 ((x.who : Int))) (fun v1 hv1 => x_conv rfl rfl (by kernel_rfl) Try.underlying3 (Fx.i64e (by omega) rfl)) (Qv (.pointer (some ⟨p, 0, none⟩)) (fun v1 hv1 => x_move rfl rfl) (Qv (.pointer (some ⟨p, 0, none⟩)) (fun v1 hv1 => x_nil rfl rfl) (Qv (.pointer (some ⟨p, 0, none⟩)) (fun v1 hv1 => x_field rfl rfl Try.underlying74 rfl (s := 1) (by kernel_rfl) rfl rfl) (Qv (.slice M.la (M.n) (M.lc)) (fun v1 hv1 => x_load1 (x := wdY (.slice M.la (M.n) (M.lc)) (.slice M.aa (M.an) (M.ac))) rfl rfl (by kernel_rfl) (by obtain ⟨qd, rfl⟩ := hv1; exact m7.cel) (i := 0) (by omega) (by omega) rfl) (Qv (.int .i64 ((M.n : Int))) (fun v1 hv1 => x_len rfl rfl rfl (by kernel_rfl)) (Qv (.int .i64 ((o : Int))) (fun v1 hv1 => Fx.x_rem rfl rfl rfl (by omega) (remL eo)) (Qv (.int .i64 ((o : Int))) (fun v1 hv1 => x_assign rfl rfl) (Fx.Qt.nil ?_))))))))))
 rintro _ ⟨qd, rfl⟩
 obtain ⟨wq1, ewq1⟩ : ∃ v1, v1 = World.drewN w2 qd := ⟨_, rfl⟩
 rw [← ewq1]
 have s3 : Fx.Stp w2.heap.size w2 wq1 := by rw [ewq1]; exact Sb (bdrN w2 qd)
 have m12 := m7.stp s3 (Nat.ne_of_lt (m7.lt))
 have m13 := m8.stp s3 (m8.notNew (Nat.le_refl _))
 have m14 := m9.stp s3 (m9.notNew (Nat.le_refl _))
 have m15 := m10.up s3.old
 have m16 := m11.stp s3 (Nat.ne_of_lt (m11.lt))
 have m17 := m6.stp s3 (Nat.ne_of_lt (m6.lt))
 have b3 := s3.below b2 b2.size b2.size
 clear ewq1
 refine sN (Ws (Wl (Lv (.pointer (some ⟨p, 0, none⟩)) (x_move rfl rfl) (Lv (.pointer (some ⟨p, 0, none⟩)) (x_nil rfl rfl) (Lv (.pointer (some ⟨p, 0, none⟩)) (x_field rfl rfl Try.underlying74 rfl (s := 1) (by kernel_rfl) rfl rfl) (Lv (.slice M.la (M.n) (M.lc)) (x_load1 (x := wdY (.slice M.la (M.n) (M.lc)) (.slice M.aa (M.an) (M.ac))) rfl rfl (by kernel_rfl) m12.cel (i := 0) (by omega) (by omega) rfl) (Lv (.int .i64 ((o : Int))) (x_move rfl rfl) ?_)))))))
 obtain ⟨gq1, eq1⟩ := m13.addr (by omega)
 have m18 : Fx.Own wq1 B 71 1 (.slice (some ⟨gq1, 0, none⟩) M.n M.lc) M.n (ptX M.pl) := m13.congV (congrArg (fun q => Value.slice q M.n M.lc) eq1)
 refine Lv (.pointer (some ⟨gq1, o, none⟩)) (x_indexS rfl (rfl.trans (congrArg (fun q => Value.slice q (M.n) (M.lc)) eq1)) rfl Try.underlying72 (s := 1) (by kernel_rfl) (by omega) (by omega) (by omega)) (Lv (.pointer (some ⟨(M.pl o), 0, none⟩)) (x_load1 (x := ptX M.pl) rfl rfl (by kernel_rfl) m18.cel (i := o) (by omega) (by omega) rfl) (Lv (.pointer (some ⟨(M.pl o), 0, none⟩)) (x_assign rfl rfl) (Ln (sN (Ws ?_)))))
 obtain ⟨r42, er42⟩ : ∃ r, r = x.kind % 7 := ⟨_, rfl⟩
 have hr42 : r42 < 7 := by rw [er42]; exact Nat.mod_lt _ (by omega)
 have hLo1 := m15 o (by omega)
 have hLo1c := hLo1.c
 have hLo1n := hLo1.n
 have hkn := (hW.inv o (by omega)).kn
 have hko := hkn o (by omega)
 have hko : 0 ≤ (M.ml o).s.known o ∧ (M.ml o).s.known o < 1099511627776 := hko
 have hU : ∀ k, k < (M.ml o).s.nn → U64r ((M.ml o).id k) := fun k hk => by have h1 := (hW.inv o (by omega)).pos k hk; have h2 := (hW.inv o (by omega)).top k hk; exact ⟨by show (0 : Int) ≤ (M.ml o).core.id k; omega, by show (M.ml o).core.id k ≤ _; omega⟩
 have hbn := (hW.g o (by omega)).bn
 -- region 3 draws
 refine Fx.W.one (T := 50) (T' := 50) (a := .tmp 7) (v := .tmp 44) (m := 14) (z := fun zq => if zq < 1 then .int .i64 (0) else if zq < 8 then .int .u64 (0) else if zq < 9 then .int .u8 (0) else if zq < 10 then .int .u64 (0) else if zq < 12 then .int .i64 (0) else .int .u64 (0)) (y := Fx.ovr (Fx.ovr (Fx.ovr (Fx.ovr (fun zq => if zq < 1 then .int .i64 (0) else if zq < 8 then .int .u64 (0) else if zq < 9 then .int .u8 (0) else if zq < 10 then .int .u64 (0) else if zq < 12 then .int .i64 (0) else .int .u64 (0)) 0 1 (fun _ => .int .i64 ((o : Int) + 1))) 1 1 (fun _ => .int .u64 ((M.ml o).s.known o + 1))) 2 6 (Fx.rv .u64 ((M.ml o).s.known))) 8 1 (fun _ => .int .u8 ((r42 : Int) + 1))) (u := .agg (Fx.varr 14 (Fx.ovr (Fx.ovr (Fx.ovr (Fx.ovr (fun zq => if zq < 1 then .int .i64 (0) else if zq < 8 then .int .u64 (0) else if zq < 9 then .int .u8 (0) else if zq < 10 then .int .u64 (0) else if zq < 12 then .int .i64 (0) else .int .u64 (0)) 0 1 (fun _ => .int .i64 ((o : Int) + 1))) 1 1 (fun _ => .int .u64 ((M.ml o).s.known o + 1))) 2 6 (Fx.rv .u64 ((M.ml o).s.known))) 8 1 (fun _ => .int .u8 ((r42 : Int) + 1))))) 20 21 (List.replicate 22 (0, 2, [], [])) #[.int .i64 ((o : Int)), .int .i64 ((o : Int) + 1), .pointer (some ⟨(M.pl o), 0, none⟩), .int .i64 ((o : Int)), .pointer (some ⟨(M.pl o), 0, none⟩), .pointer (some ⟨(M.pl o), 0, none⟩), .pointer (some ⟨(M.pl o), 12, none⟩), .pointer (some ⟨(M.pl o), o + 12, none⟩), .int .u64 ((M.ml o).s.known o), .int .u64 ((M.ml o).s.known o + 1), .pointer (some ⟨(M.pl o), 0, none⟩), .pointer (some ⟨(M.pl o), 0, none⟩), .pointer (some ⟨(M.pl o), 0, none⟩), .pointer (some ⟨(M.pl o), 12, none⟩), .agg (Fx.varr 6 (Fx.rv .u64 ((M.ml o).s.known))), .pointer (some ⟨g1, 3, none⟩), .int .u8 ((x.kind : Int)), .int .u8 ((r42 : Int)), .int .u8 ((r42 : Int) + 1), .agg (Fx.varr 14 (Fx.ovr (Fx.ovr (Fx.ovr (Fx.ovr (fun zq => if zq < 1 then .int .i64 (0) else if zq < 8 then .int .u64 (0) else if zq < 9 then .int .u8 (0) else if zq < 10 then .int .u64 (0) else if zq < 12 then .int .i64 (0) else .int .u64 (0)) 0 1 (fun _ => .int .i64 ((o : Int) + 1))) 1 1 (fun _ => .int .u64 ((M.ml o).s.known o + 1))) 2 6 (Fx.rv .u64 ((M.ml o).s.known))) 8 1 (fun _ => .int .u8 ((r42 : Int) + 1)))), undef, undef] (by kernel_rfl) (by kernel_rfl) (by kernel_rfl) (by kernel_rfl) (by kernel_rfl) (by kernel_rfl) rfl (by kernel_rfl) rfl rfl (by kernel_rfl) (fun g3 => (show Fx.ev _ (.tmp 7) = .pointer (some ⟨g3, 0, none⟩) from by kernel_rfl)) (fun g3 => (show Fx.ev _ (.tmp 44) = .agg (Fx.varr 14 (Fx.ovr (Fx.ovr (Fx.ovr (Fx.ovr (fun zq => if zq < 1 then .int .i64 (0) else if zq < 8 then .int .u64 (0) else if zq < 9 then .int .u8 (0) else if zq < 10 then .int .u64 (0) else if zq < 12 then .int .i64 (0) else .int .u64 (0)) 0 1 (fun _ => .int .i64 ((o : Int) + 1))) 1 1 (fun _ => .int .u64 ((M.ml o).s.known o + 1))) 2 6 (Fx.rv .u64 ((M.ml o).s.known))) 8 1 (fun _ => .int .u8 ((r42 : Int) + 1)))) from by kernel_rfl)) (Fx.cells_agg _ _) (Fx.ovr_ones (Fx.ovr_ones (Fx.ovr_ones (Fx.ovr_ones (fun jq _ => by show ((fun zq => if zq < 1 then .int .i64 (0) else if zq < 8 then .int .u64 (0) else if zq < 9 then .int .u8 (0) else if zq < 10 then .int .u64 (0) else if zq < 12 then .int .i64 (0) else .int .u64 (0) : Nat → Value) jq).oneCell' = true; simp only []; repeat (first | rfl | split)) (fun _ _ => rfl)) (fun _ _ => rfl)) (fun _ _ => rfl)) (fun _ _ => rfl)) (by kernel_rfl) (fun g3 => ?_) ?_
 ·refine ⟨?_, ?_, ?_, ?_, ?_, ?_, ?_, ?_, ?_, ?_, ?_, ?_, ?_, ?_, ?_, ?_, ?_, ?_, ?_, ?_, ?_, ?_, trivial⟩
  ·exact .inr (.inr (Fx.qb_yes (v := .int .i64 ((o : Int))) (by kernel_rfl) (by kernel_rfl) (Fx.qbV fun v1 hv1 => x_move rfl (show Fx.ev _ (.tmp 5) = .int .i64 ((o : Int)) from by kernel_rfl))))
  ·exact .inr (.inr (Fx.qb_yes (v := .int .i64 ((o : Int) + 1)) (by kernel_rfl) (by kernel_rfl) (Fx.qbV fun v1 hv1 => Fx.x_add rfl (show Fx.ev _ (.tmp 25) = .int .i64 ((o : Int)) from by kernel_rfl) (show Fx.ev _ (.const (.int .i64 (1))) = .int .i64 (1) from by kernel_rfl) (Fx.i64e (by omega) (by omega)))))
  ·exact .inr (.inr (Fx.qb_yes (v := .pointer (some ⟨(M.pl o), 0, none⟩)) (by kernel_rfl) (by kernel_rfl) (Fx.qbV fun v1 hv1 => x_move rfl (show Fx.ev _ (.tmp 6) = .pointer (some ⟨(M.pl o), 0, none⟩) from by kernel_rfl))))
  ·exact .inr (.inr (Fx.qb_yes (v := .int .i64 ((o : Int))) (by kernel_rfl) (by kernel_rfl) (Fx.qbV fun v1 hv1 => x_move rfl (show Fx.ev _ (.tmp 5) = .int .i64 ((o : Int)) from by kernel_rfl))))
  ·exact .inr (.inr (Fx.qb_yes (v := .pointer (some ⟨(M.pl o), 0, none⟩)) (by kernel_rfl) (by kernel_rfl) (Fx.qbV fun v1 hv1 => x_nil rfl (show Fx.ev _ (.tmp 27) = .pointer (some ⟨(M.pl o), 0, none⟩) from by kernel_rfl))))
  ·exact .inr (.inr (Fx.qb_yes (v := .pointer (some ⟨(M.pl o), 0, none⟩)) (by kernel_rfl) (by kernel_rfl) (Fx.qbV fun v1 hv1 => x_field rfl (show Fx.ev _ (.tmp 29) = .pointer (some ⟨(M.pl o), 0, none⟩) from by kernel_rfl) Try.underlying70 rfl (s := 20) (by kernel_rfl) rfl rfl)))
  ·exact .inr (.inr (Fx.qb_yes (v := .pointer (some ⟨(M.pl o), 12, none⟩)) (by kernel_rfl) (by kernel_rfl) (Fx.qbV fun v1 hv1 => x_field rfl (show Fx.ev _ (.tmp 30) = .pointer (some ⟨(M.pl o), 0, none⟩) from by kernel_rfl) Try.underlying65 rfl (s := 6) (by kernel_rfl) rfl (by show _ + 12 = _; omega))))
  ·exact .inr (.inr (Fx.qb_yes (v := .pointer (some ⟨(M.pl o), o + 12, none⟩)) (by kernel_rfl) (by kernel_rfl) (Fx.qbV fun v1 hv1 => x_index rfl (show Fx.ev _ (.tmp 31) = .pointer (some ⟨(M.pl o), 12, none⟩) from by kernel_rfl) (show Fx.ev _ (.tmp 28) = .int .i64 ((o : Int)) from by kernel_rfl) Try.underlying32 (s := 1) (by kernel_rfl) (by omega) (by omega) (by omega))))
  ·exact .inr (.inr (Fx.qb_yes (v := .int .u64 ((M.ml o).s.known o)) (by kernel_rfl) (by kernel_rfl) (Fx.qbV fun v1 hv1 => x_load1 (x := ldY (M.ml o)) rfl (show Fx.ev _ (.tmp 32) = .pointer (some ⟨(M.pl o), o + 12, none⟩) from by kernel_rfl) (by kernel_rfl) (hLo1c.cel.below hv1 (by have := hLo1c.lt; omega)) (i := o + 12) (by omega) (by omega) (ldY_st _ (by omega) (stY_known _ (by omega) (by omega))))))
  ·exact .inr (.inr (Fx.qb_yes (v := .int .u64 ((M.ml o).s.known o + 1)) (by kernel_rfl) (by kernel_rfl) (Fx.qbV fun v1 hv1 => Fx.x_add rfl (show Fx.ev _ (.tmp 33) = .int .u64 ((M.ml o).s.known o) from by kernel_rfl) (show Fx.ev _ (.const (.int .u64 (1))) = .int .u64 (1) from by kernel_rfl) (Fx.u64e (by omega) (by omega)))))
  ·exact .inr (.inr (Fx.qb_yes (v := .pointer (some ⟨(M.pl o), 0, none⟩)) (by kernel_rfl) (by kernel_rfl) (Fx.qbV fun v1 hv1 => x_move rfl (show Fx.ev _ (.tmp 6) = .pointer (some ⟨(M.pl o), 0, none⟩) from by kernel_rfl))))
  ·exact .inr (.inr (Fx.qb_yes (v := .pointer (some ⟨(M.pl o), 0, none⟩)) (by kernel_rfl) (by kernel_rfl) (Fx.qbV fun v1 hv1 => x_nil rfl (show Fx.ev _ (.tmp 35) = .pointer (some ⟨(M.pl o), 0, none⟩) from by kernel_rfl))))
  ·exact .inr (.inr (Fx.qb_yes (v := .pointer (some ⟨(M.pl o), 0, none⟩)) (by kernel_rfl) (by kernel_rfl) (Fx.qbV fun v1 hv1 => x_field rfl (show Fx.ev _ (.tmp 36) = .pointer (some ⟨(M.pl o), 0, none⟩) from by kernel_rfl) Try.underlying70 rfl (s := 20) (by kernel_rfl) rfl rfl)))
  ·exact .inr (.inr (Fx.qb_yes (v := .pointer (some ⟨(M.pl o), 12, none⟩)) (by kernel_rfl) (by kernel_rfl) (Fx.qbV fun v1 hv1 => x_field rfl (show Fx.ev _ (.tmp 37) = .pointer (some ⟨(M.pl o), 0, none⟩) from by kernel_rfl) Try.underlying65 rfl (s := 6) (by kernel_rfl) rfl (by show _ + 12 = _; omega))))
  ·exact .inr (.inr (Fx.qb_yes (v := .agg (Fx.varr 6 (Fx.rv .u64 ((M.ml o).s.known)))) (by kernel_rfl) (by kernel_rfl) (Fx.qbV fun v1 hv1 => x_loadA (x := ldY (M.ml o)) (y := Fx.rv .u64 ((M.ml o).s.known)) rfl (show Fx.ev _ (.tmp 38) = .pointer (some ⟨(M.pl o), 12, none⟩) from by kernel_rfl) (by kernel_rfl) (by kernel_rfl) (hLo1c.cel.below hv1 (by have := hLo1c.lt; omega)) (i := 12) (by omega) (by omega) (fun j hj => ldY_st _ (by omega) (stY_known _ hj (by omega))))))
  ·exact .inr (.inr (Fx.qb_yes (v := .pointer (some ⟨g1, 3, none⟩)) (by kernel_rfl) (by kernel_rfl) (Fx.qbV fun v1 hv1 => x_field rfl (show Fx.ev _ (.tmp 3) = .pointer (some ⟨g1, 0, none⟩) from by kernel_rfl) Try.underlying54 rfl (s := 1) (by kernel_rfl) rfl (by show _ + 3 = _; omega))))
  ·exact .inr (.inr (Fx.qb_yes (v := .int .u8 ((x.kind : Int))) (by kernel_rfl) (by kernel_rfl) (Fx.qbV fun v1 hv1 => x_load1 (x := actY x) rfl (show Fx.ev _ (.tmp 40) = .pointer (some ⟨g1, 3, none⟩) from by kernel_rfl) (by kernel_rfl) (m16.cel.below hv1 (by have := m16.lt; omega)) (i := 3) (by omega) (by omega) rfl)))
  ·exact .inr (.inr (Fx.qb_yes (v := .int .u8 ((r42 : Int))) (by kernel_rfl) (by kernel_rfl) (Fx.qbV fun v1 hv1 => Fx.x_rem rfl (show Fx.ev _ (.tmp 41) = .int .u8 ((x.kind : Int)) from by kernel_rfl) (show Fx.ev _ (.const (.int .u8 (7))) = .int .u8 (7) from by kernel_rfl) (by omega) (remL er42))))
  ·exact .inr (.inr (Fx.qb_yes (v := .int .u8 ((r42 : Int) + 1)) (by kernel_rfl) (by kernel_rfl) (Fx.qbV fun v1 hv1 => Fx.x_add rfl (show Fx.ev _ (.const (.int .u8 (1))) = .int .u8 (1) from by kernel_rfl) (show Fx.ev _ (.tmp 42) = .int .u8 ((r42 : Int)) from by kernel_rfl) (Fx.u8e (by omega) (by omega)))))
  ·exact .inr (.inr (Fx.qb_yes (v := .agg (Fx.varr 14 (Fx.ovr (Fx.ovr (Fx.ovr (Fx.ovr (fun zq => if zq < 1 then .int .i64 (0) else if zq < 8 then .int .u64 (0) else if zq < 9 then .int .u8 (0) else if zq < 10 then .int .u64 (0) else if zq < 12 then .int .i64 (0) else .int .u64 (0)) 0 1 (fun _ => .int .i64 ((o : Int) + 1))) 1 1 (fun _ => .int .u64 ((M.ml o).s.known o + 1))) 2 6 (Fx.rv .u64 ((M.ml o).s.known))) 8 1 (fun _ => .int .u8 ((r42 : Int) + 1))))) (by kernel_rfl) (by kernel_rfl) (Fx.qbV fun v1 hv1 => x_build (vs := [(0, .int .i64 ((o : Int) + 1)), (1, .int .u64 ((M.ml o).s.known o + 1)), (2, .agg (Fx.varr 6 (Fx.rv .u64 ((M.ml o).s.known)))), (3, .int .u8 ((r42 : Int) + 1))]) (places := #[(0, 1), (1, 1), (2, 6), (8, 1), (9, 1), (10, 1), (11, 1), (12, 1), (13, 1)]) (m := 14) (x := fun zq => if zq < 1 then .int .i64 (0) else if zq < 8 then .int .u64 (0) else if zq < 9 then .int .u8 (0) else if zq < 10 then .int .u64 (0) else if zq < 12 then .int .i64 (0) else .int .u64 (0)) rfl (Fx.parts4 (show Fx.ev _ (.tmp 26) = .int .i64 ((o : Int) + 1) from by kernel_rfl) (show Fx.ev _ (.tmp 34) = .int .u64 ((M.ml o).s.known o + 1) from by kernel_rfl) (show Fx.ev _ (.tmp 39) = .agg (Fx.varr 6 (Fx.rv .u64 ((M.ml o).s.known))) from by kernel_rfl) (show Fx.ev _ (.tmp 43) = .int .u8 ((r42 : Int) + 1) from by kernel_rfl)) Try.underlying50 (by kernel_rfl) (by kernel_rfl) (by rw [Fx.fill_step (off := 0) (s := 1) (y := fun _ => .int .i64 ((o : Int) + 1)) (by kernel_rfl) (Fx.cells_one (by rfl)) (by rfl)]; rw [Fx.fill_step (off := 1) (s := 1) (y := fun _ => .int .u64 ((M.ml o).s.known o + 1)) (by kernel_rfl) (Fx.cells_one (by rfl)) (by rfl)]; rw [Fx.fill_step (off := 2) (s := 6) (y := Fx.rv .u64 ((M.ml o).s.known)) (by kernel_rfl) (Fx.cells_agg _ _) (by rfl)]; rw [Fx.fill_step (off := 8) (s := 1) (y := fun _ => .int .u8 ((r42 : Int) + 1)) (by kernel_rfl) (Fx.cells_one (by rfl)) (by rfl)]; rfl))))
  ·exact .inl rfl
  exact .inr (.inl rfl)
 rintro g3 w3 f1 hf1 lg3 m19 hb1
 have s4 := Sb hb1
 have ng3m12 : p ≠ g3 := Nat.ne_of_lt (Nat.lt_of_lt_of_le (m12.lt) lg3)
 have ng3m16 : g1 ≠ g3 := Nat.ne_of_lt (Nat.lt_of_lt_of_le (m16.lt) lg3)
 have ng3m17 : g2 ≠ g3 := Nat.ne_of_lt (Nat.lt_of_lt_of_le (m17.lt) lg3)
 have ng3m18 : gq1 ≠ g3 := Nat.ne_of_lt (Nat.lt_of_lt_of_le (m18.lt) lg3)
 have ng3hLo1c : (M.pl o) ≠ g3 := Nat.ne_of_lt (Nat.lt_of_lt_of_le (hLo1c.lt) lg3)
 have ng3m14 : (.slice M.aa (M.an) (M.ac) : Value).ownBlock ≠ some g3 := fun e => by have := (m14.ge e).2; omega
 have m22 := m15.up s4.old
 have m23 := m16.stp s4 (Nat.ne_of_lt (m16.lt))
 have m24 := m17.stp s4 (Nat.ne_of_lt (m17.lt))
 have m25 := m18.stpB s4 (Nat.ne_of_lt (m18.lt))
 have m27 := hLo1n.stp s4 (hLo1n.notNew (Nat.le_refl _))
 have b4 := s4.below b3 b3.size b3.size
 have lg3 : w.heap.size ≤ g3 := Nat.le_trans b3.size lg3
 have tg3 : g3 < w3.heap.size := m19.lt
 have q1 : f1 3 = .pointer (some ⟨g1, 0, none⟩) := by rw [hf1]; kernel_rfl
 have q2 : f1 4 = .pointer (some ⟨g2, 0, none⟩) := by rw [hf1]; kernel_rfl
 have q3 : f1 6 = .pointer (some ⟨(M.pl o), 0, none⟩) := by rw [hf1]; kernel_rfl
 have q4 : f1 7 = .pointer (some ⟨g3, 0, none⟩) := by rw [hf1]; kernel_rfl
 clear hf1
 refine sN (Ws ?_)
 obtain ⟨V0, eV0⟩ : ∃ V : EvM, V = (⟨(o : Int) + 1, (M.ml o).s.known o + 1, (M.ml o).s.known, (r42 : Int) + 1, 0, 0, 0, 0, 0⟩ : EvM) := ⟨_, rfl⟩
 have hz1 : U64r 0 := ⟨by decide, by decide⟩
 have hz2 : I64r 0 := ⟨by decide, by decide⟩
 have wf0 : EvWf V0 := by rw [eV0]; exact ⟨⟨by show (_ : Int) ≤ (o : Int) + 1; omega, by show (o : Int) + 1 ≤ _; omega⟩, ⟨by show (0 : Int) ≤ (M.ml o).s.known o + 1; omega, by show (M.ml o).s.known o + 1 ≤ _; omega⟩, fun i hi => ⟨(hkn i hi).1, by have q : (M.ml o).s.known i < 1099511627776 := (hkn i hi).2; show (M.ml o).s.known i ≤ _; omega⟩, ⟨by show (0 : Int) ≤ (r42 : Int) + 1; omega, by show (r42 : Int) + 1 ≤ 255; omega⟩, hz1, hz2, hz2, hz1, hz1⟩
 have m28 : Fx.Blk w3 g3 14 (evY V0) 50 := m19.congr (fun j hj => by rw [eV0]; rcases j with _|_|_|_|_|_|_|_|_|_|_|_|_|_|j <;> first | rfl | omega | exact congrArg (Value.int .u8) (by omega))
 have sm0 : EvSm V0 := by rw [eV0]; exact ⟨by show (0 : Int) ≤ _; decide, by show (0 : Int) ≤ _; decide⟩
 have hd0 : V0.o = (o : Int) + 1 ∧ V0.seq = (M.ml o).s.known o + 1 ∧ V0.deps = (M.ml o).s.known := by rw [eV0]; exact ⟨rfl, rfl, rfl⟩
 have ek0 : V0.kind = (r42 : Int) + 1 := by rw [eV0]
 refine Wl (Lv (.int .u64 (0)) (x_assign rfl rfl) (Ln (sN ?_)))
 have m29 : Fx.Own w3 B 71 1 (.slice M.la (M.n) (M.lc)) M.n (ptX M.pl) := m25.congV (congrArg (fun q => Value.slice q M.n M.lc) eq1.symm)
 refine Fx.W.seqJ (fun f w_ => ∃ nd : Int, U64r nd ∧ f 3 = .pointer (some ⟨g1, 0, none⟩) ∧ f 4 = .pointer (some ⟨g2, 0, none⟩) ∧ f 7 = .pointer (some ⟨g3, 0, none⟩) ∧ f 8 = .int .u64 (nd) ∧ Fx.Blk w_ g1 9 (actY x) 54 ∧ Fx.Blk w_ g2 14 (fun zq => if zq < 1 then .int .i64 (0) else if zq < 8 then .int .u64 (0) else if zq < 9 then .int .u8 (0) else if zq < 10 then .int .u64 (0) else if zq < 12 then .int .i64 (0) else .int .u64 (0)) 50 ∧ Fx.Blk w_ g3 14 (evY V0) 50 ∧ Below w.heap.size w w_) ?_ ?_
 ·refine Ws ?_
  have hLo2 := m22 o (by omega)
  have hLo2c := hLo2.c
  have hLo2n := hLo2.n
  refine Wl (Lv (.pointer (some ⟨(M.pl o), 0, none⟩)) (x_move rfl q3) (Lv (.pointer (some ⟨(M.pl o), 0, none⟩)) (x_nil rfl rfl) (Lv (.pointer (some ⟨(M.pl o), 0, none⟩)) (x_field rfl rfl Try.underlying70 rfl (s := 20) (by kernel_rfl) rfl rfl) (Lv (.pointer (some ⟨(M.pl o), 18, none⟩)) (x_field rfl rfl Try.underlying65 rfl (s := 1) (by kernel_rfl) rfl (by show _ + 18 = _; omega)) (Lv (.slice (M.ml o).s.na ((M.ml o).s.nn) ((M.ml o).s.nc)) (x_load1 (x := ldY (M.ml o)) rfl rfl (by kernel_rfl) hLo2c.cel (i := 18) (by omega) (by omega) rfl) (Lv (.int .i64 ((((M.ml o).s.nn : Nat) : Int))) (x_len rfl rfl rfl (by kernel_rfl)) (Lv (.bool (decide (0 < (((M.ml o).s.nn : Nat) : Int)))) (Fx.x_gtr rfl rfl rfl) (Ln (sN (Wc (b := decide (0 < (((M.ml o).s.nn : Nat) : Int))) rfl (fun c51 => ?_) (fun c51 => ?_)))))))))))
  ·have c51 := of_decide_eq_true c51
   obtain ⟨r66, er66⟩ : ∃ r, r = x.node % (M.ml o).s.nn := ⟨_, rfl⟩
   have hr66 : r66 < (M.ml o).s.nn := by rw [er66]; exact Nat.mod_lt _ (by omega)
   -- region 6 draws
   refine Fx.W.quiet (fun v1 => ∃ q, v1 = World.drewN w3 q) (by kernel_rfl) (by kernel_rfl) ⟨1, rfl⟩ ?_
   refine Qv (.pointer (some ⟨(M.pl o), 0, none⟩)) (fun v1 hv1 => x_move rfl q3) (Qv (.pointer (some ⟨(M.pl o), 0, none⟩)) (fun v1 hv1 => x_nil rfl rfl) (Qv (.pointer (some ⟨(M.pl o), 0, none⟩)) (fun v1 hv1 => x_field rfl rfl Try.underlying70 rfl (s := 20) (by kernel_rfl) rfl rfl) (Qv (.pointer (some ⟨(M.pl o), 18, none⟩)) (fun v1 hv1 => x_field rfl rfl Try.underlying65 rfl (s := 1) (by kernel_rfl) rfl (by show _ + 18 = _; omega)) (Qv (.slice (M.ml o).s.na ((M.ml o).s.nn) ((M.ml o).s.nc)) (fun v1 hv1 => x_load1 (x := ldY (M.ml o)) rfl rfl (by kernel_rfl) (by obtain ⟨qd, rfl⟩ := hv1; exact hLo2c.cel) (i := 18) (by omega) (by omega) rfl) (Qv (.pointer (some ⟨g1, 4, none⟩)) (fun v1 hv1 => x_field rfl q1 Try.underlying54 rfl (s := 1) (by kernel_rfl) rfl (by show _ + 4 = _; omega)) (Qv (.int .u8 ((x.node : Int))) (fun v1 hv1 => x_load1 (x := actY x) rfl rfl (by kernel_rfl) (by obtain ⟨qd, rfl⟩ := hv1; exact m23.cel) (i := 4) (by omega) (by omega) rfl) (Qv (.int .i64 ((x.node : Int))) (fun v1 hv1 => x_conv rfl rfl (by kernel_rfl) Try.underlying3 (Fx.i64e (by omega) rfl)) (Qv (.pointer (some ⟨(M.pl o), 0, none⟩)) (fun v1 hv1 => x_move rfl q3) (Qv (.pointer (some ⟨(M.pl o), 0, none⟩)) (fun v1 hv1 => x_nil rfl rfl) (Qv (.pointer (some ⟨(M.pl o), 0, none⟩)) (fun v1 hv1 => x_field rfl rfl Try.underlying70 rfl (s := 20) (by kernel_rfl) rfl rfl) (Qv (.pointer (some ⟨(M.pl o), 18, none⟩)) (fun v1 hv1 => x_field rfl rfl Try.underlying65 rfl (s := 1) (by kernel_rfl) rfl (by show _ + 18 = _; omega)) (Qv (.slice (M.ml o).s.na ((M.ml o).s.nn) ((M.ml o).s.nc)) (fun v1 hv1 => x_load1 (x := ldY (M.ml o)) rfl rfl (by kernel_rfl) (by obtain ⟨qd, rfl⟩ := hv1; exact hLo2c.cel) (i := 18) (by omega) (by omega) rfl) (Qv (.int .i64 ((((M.ml o).s.nn : Nat) : Int))) (fun v1 hv1 => x_len rfl rfl rfl (by kernel_rfl)) (Qv (.int .i64 ((r66 : Int))) (fun v1 hv1 => Fx.x_rem rfl rfl rfl (by omega) (remL er66)) ?_))))))))))))))
   obtain ⟨gq2, eq2⟩ := m27.addr (by omega)
   have m30 : Fx.Own w3 B 123 56 (.slice (some ⟨gq2, 0, none⟩) ((M.ml o).s.nn) ((M.ml o).s.nc)) ((M.ml o).s.nn) (ndX (M.ml o)) := m27.congV (congrArg (fun q => Value.slice q ((M.ml o).s.nn) ((M.ml o).s.nc)) eq2)
   refine Qv (.pointer (some ⟨gq2, 56 * r66, none⟩)) (fun v1 hv1 => x_indexS rfl (rfl.trans (congrArg (fun q => Value.slice q ((M.ml o).s.nn) ((M.ml o).s.nc)) eq2)) rfl Try.underlying62 (s := 56) (by kernel_rfl) (by omega) (by omega) (by omega)) (Qv (.pointer (some ⟨gq2, 56 * r66, none⟩)) (fun v1 hv1 => x_field rfl rfl Try.underlying123 rfl (s := 1) (by kernel_rfl) rfl rfl) (Qv (.int .u64 ((M.ml o).id r66)) (fun v1 hv1 => x_load1 (x := ndX (M.ml o)) rfl rfl (by kernel_rfl) (by obtain ⟨qd, rfl⟩ := hv1; exact m30.cel) (i := 56 * r66) (by omega) (by omega) (Fx.flat_cell (k := r66) (j := 0) (by omega) (by omega) rfl)) (Qv (.int .u64 ((M.ml o).id r66)) (fun v1 hv1 => x_assign rfl rfl) (Fx.Qt.nil ?_))))
   rintro _ ⟨qd, rfl⟩
   obtain ⟨wq2, ewq2⟩ : ∃ v1, v1 = World.drewN w3 qd := ⟨_, rfl⟩
   rw [← ewq2]
   have s5 : Fx.Stp w3.heap.size w3 wq2 := by rw [ewq2]; exact Sb (bdrN w3 qd)
   have m34 := m23.stp s5 (Nat.ne_of_lt (m23.lt))
   have m35 := m24.stp s5 (Nat.ne_of_lt (m24.lt))
   have m37 := m28.stp s5 (Nat.ne_of_lt (m28.lt))
   have m40 := m30.stpB s5 (Nat.ne_of_lt (m30.lt))
   have b5 := s5.below b4 b4.size b4.size
   clear ewq2
   have m41 : Fx.Own wq2 B 123 56 (.slice (M.ml o).s.na ((M.ml o).s.nn) ((M.ml o).s.nc)) ((M.ml o).s.nn) (ndX (M.ml o)) := m40.congV (congrArg (fun q => Value.slice q ((M.ml o).s.nn) ((M.ml o).s.nc)) eq2.symm)
   exact Fx.jnN ⟨((M.ml o).id r66), (hU r66 hr66), q1, q2, q4, (by first | rfl | exact congrArg (Value.int .u64) (by omega)), m34, m35, m37, b5⟩
  have c51 := of_decide_eq_false c51
  refine Wk ?_
  exact Fx.jnN ⟨0, ⟨by decide, by decide⟩, q1, q2, q4, (by first | rfl | exact congrArg (Value.int .u64) (by omega)), m23, m24, m28, b4⟩
 rintro f2 w4 ⟨nd, hnode, h1, h2, h3, h4, m42, m43, m44, b6⟩
 refine Ws (Ws (Wl (Lv (.pointer (some ⟨g3, 8, none⟩)) (x_field rfl h3 Try.underlying50 rfl (s := 1) (by kernel_rfl) rfl (by show _ + 8 = _; omega)) (Lv (.int .u8 (V0.kind)) (x_load1 (x := evY V0) rfl rfl (by kernel_rfl) m44.cel (i := 8) (by omega) (by omega) rfl) (Ln (sN (Fx.W.block (Ws (Wl ?_)))))))))
 by_cases c73 : V0.kind = 1
 ·refine Lv (.bool true) (x_eqlT rfl rfl rfl c73) (Lv (.bool true) (x_assign rfl rfl) (Ln (sN (Wc (b := true) rfl (fun _ => Ws (Ws ?_)) (fun h => nomatch h)))))
  obtain ⟨r76, er76⟩ : ∃ r, r = x.node % 2 := ⟨_, rfl⟩
  have hr76 : r76 < 2 := by rw [er76]; exact Nat.mod_lt _ (by omega)
  refine Wl (Lv (.pointer (some ⟨g1, 4, none⟩)) (x_field rfl h1 Try.underlying54 rfl (s := 1) (by kernel_rfl) rfl (by show _ + 4 = _; omega)) (Lv (.int .u8 ((x.node : Int))) (x_load1 (x := actY x) rfl rfl (by kernel_rfl) m42.cel (i := 4) (by omega) (by omega) rfl) (Lv (.int .u8 ((r76 : Int))) (Fx.x_rem rfl rfl rfl (by omega) (remL er76)) ?_)))
  by_cases c77 : (r76 : Int) = 1
  ·refine Lv (.bool true) (x_eqlT rfl rfl rfl c77) (Ln (sN (Wc (b := true) rfl (fun _ => Wl (Lv (.int .u64 (nd)) (x_move rfl h4) ?_)) (fun h => nomatch h))))
   refine Lv (.pointer (some ⟨g3, 9, none⟩)) (x_field rfl h3 Try.underlying50 rfl (s := 1) (by kernel_rfl) rfl (by show _ + 9 = _; omega)) (Fx.L.store1 (x := evY V0) (u := .int .u64 (nd)) (by rfl) rfl rfl rfl rfl (by rfl) (by kernel_rfl) m44 (i := 9) (by omega) fun w5 m45 s6 z3 => ?_)
   obtain ⟨V1, eV1⟩ : ∃ V : EvM, V = ⟨V0.o, V0.seq, V0.deps, V0.kind, nd, V0.dst, V0.amt, V0.req, V0.of⟩ := ⟨_, rfl⟩
   have wfV1 : EvWf V1 := by rw [eV1]; exact ⟨wf0.o, wf0.seq, wf0.deps, wf0.kind, hnode, wf0.dst, wf0.amt, wf0.req, wf0.of⟩
   have hdV1 : V1.o = (o : Int) + 1 ∧ V1.seq = (M.ml o).s.known o + 1 ∧ V1.deps = (M.ml o).s.known := by rw [eV1]; exact hd0
   have smV1 : EvSm V1 := by rw [eV1]; exact ⟨sm0.amt, sm0.req⟩
   have m46 : Fx.Blk w5 g3 14 (evY V1) 50 := m45.congr (fun j hj => by rw [eV1]; exact ev_node _ _ j hj)
   have hct1 := Fx.ChT.of_stp s6 m44.ty
   have m47 := m42.chT hct1 (by decide)
   have m48 := m43.stp s6 (by omega)
   have b7 := s6.below b6 b6.size (by omega)
   refine Ln (sN (Wl (Lv (.pointer (some ⟨g1, 6, none⟩)) (x_field rfl h1 Try.underlying54 rfl (s := 1) (by kernel_rfl) rfl (by show _ + 6 = _; omega)) (Lv (.int .u16 ((x.amt : Int))) (x_load1 (x := actY x) rfl rfl (by kernel_rfl) m47.cel (i := 6) (by omega) (by omega) rfl) (Lv (.int .i64 ((x.amt : Int))) (x_conv rfl rfl (by kernel_rfl) Try.underlying2 (Fx.i64e (by omega) rfl)) (Lv (.pointer (some ⟨g3, 11, none⟩)) (x_field rfl h3 Try.underlying50 rfl (s := 1) (by kernel_rfl) rfl (by show _ + 11 = _; omega)) (Fx.L.store1 (x := evY V1) (u := .int .i64 ((x.amt : Int))) (by rfl) rfl rfl rfl rfl (by rfl) (by kernel_rfl) m46 (i := 11) (by omega) fun w6 m49 s7 z4 => ?_)))))))
   obtain ⟨V2, eV2⟩ : ∃ V : EvM, V = ⟨V1.o, V1.seq, V1.deps, V1.kind, V1.node, V1.dst, (x.amt : Int), V1.req, V1.of⟩ := ⟨_, rfl⟩
   have wfV2 : EvWf V2 := by rw [eV2]; exact ⟨wfV1.o, wfV1.seq, wfV1.deps, wfV1.kind, wfV1.node, wfV1.dst, (show I64r ((x.amt : Int)) from ⟨by omega, by omega⟩), wfV1.req, wfV1.of⟩
   have hdV2 : V2.o = (o : Int) + 1 ∧ V2.seq = (M.ml o).s.known o + 1 ∧ V2.deps = (M.ml o).s.known := by rw [eV2]; exact hdV1
   have smV2 : EvSm V2 := by rw [eV2]; exact ⟨by show (x.amt : Int) ≤ 65536; omega, smV1.req⟩
   have m50 : Fx.Blk w6 g3 14 (evY V2) 50 := m49.congr (fun j hj => by rw [eV2]; exact ev_amt _ _ j hj)
   have m52 := m48.stp s7 (by omega)
   have b8 := s7.below b7 b7.size (by omega)
   refine Ln (Fx.blkN (sN (Ws (Wl (Lv (.agg (Fx.varr 14 (evY V2))) (x_loadA (x := evY V2) (y := evY V2) rfl h3 (by kernel_rfl) (by kernel_rfl) m50.cel (i := 0) (by omega) (by omega) (fun j _ => by rw [Nat.zero_add])) (Fx.L.storeA (x := fun zq => if zq < 1 then .int .i64 (0) else if zq < 8 then .int .u64 (0) else if zq < 9 then .int .u8 (0) else if zq < 10 then .int .u64 (0) else if zq < 12 then .int .i64 (0) else .int .u64 (0)) (y := evY V2) (by rfl) rfl rfl h2 rfl (evY_one _) (by kernel_rfl) m52 (i := 0) (by omega) fun w7 m53 s8 z5 => ?_))))))
   have m54 : Fx.Blk w7 g2 14 (evY V2) 50 := Fx.ovr_all m53
   have m56 := m50.stp s8 (by omega)
   have b9 := s8.below b8 b8.size (by omega)
   refine Ln (sN (Wr (⟨.agg (Fx.varr 14 (evY V2)), rV Try.results40 ⟨_, h2, Fx.run_loadV m54.cel (by kernel_rfl) (by kernel_rfl)⟩, ?_⟩)))
   exact ⟨V2, wfV2, smV2, by rw [← eo]; exact hdV2, rfl, b9⟩
  refine Lv (.bool false) (x_eqlF rfl rfl rfl c77) (Ln (sN (Wc (b := false) rfl (fun h => nomatch h) (fun _ => Wk (sN (Wl (Lv (.pointer (some ⟨g1, 6, none⟩)) (x_field rfl h1 Try.underlying54 rfl (s := 1) (by kernel_rfl) rfl (by show _ + 6 = _; omega)) (Lv (.int .u16 ((x.amt : Int))) (x_load1 (x := actY x) rfl rfl (by kernel_rfl) m42.cel (i := 6) (by omega) (by omega) rfl) (Lv (.int .i64 ((x.amt : Int))) (x_conv rfl rfl (by kernel_rfl) Try.underlying2 (Fx.i64e (by omega) rfl)) (Lv (.pointer (some ⟨g3, 11, none⟩)) (x_field rfl h3 Try.underlying50 rfl (s := 1) (by kernel_rfl) rfl (by show _ + 11 = _; omega)) (Fx.L.store1 (x := evY V0) (u := .int .i64 ((x.amt : Int))) (by rfl) rfl rfl rfl rfl (by rfl) (by kernel_rfl) m44 (i := 11) (by omega) fun w8 m57 s9 z6 => ?_)))))))))))
  obtain ⟨V3, eV3⟩ : ∃ V : EvM, V = ⟨V0.o, V0.seq, V0.deps, V0.kind, V0.node, V0.dst, (x.amt : Int), V0.req, V0.of⟩ := ⟨_, rfl⟩
  have wfV3 : EvWf V3 := by rw [eV3]; exact ⟨wf0.o, wf0.seq, wf0.deps, wf0.kind, wf0.node, wf0.dst, (show I64r ((x.amt : Int)) from ⟨by omega, by omega⟩), wf0.req, wf0.of⟩
  have hdV3 : V3.o = (o : Int) + 1 ∧ V3.seq = (M.ml o).s.known o + 1 ∧ V3.deps = (M.ml o).s.known := by rw [eV3]; exact hd0
  have smV3 : EvSm V3 := by rw [eV3]; exact ⟨by show (x.amt : Int) ≤ 65536; omega, sm0.req⟩
  have m58 : Fx.Blk w8 g3 14 (evY V3) 50 := m57.congr (fun j hj => by rw [eV3]; exact ev_amt _ _ j hj)
  have m60 := m43.stp s9 (by omega)
  have b10 := s9.below b6 b6.size (by omega)
  refine Ln (Fx.blkN (sN (Ws (Wl (Lv (.agg (Fx.varr 14 (evY V3))) (x_loadA (x := evY V3) (y := evY V3) rfl h3 (by kernel_rfl) (by kernel_rfl) m58.cel (i := 0) (by omega) (by omega) (fun j _ => by rw [Nat.zero_add])) (Fx.L.storeA (x := fun zq => if zq < 1 then .int .i64 (0) else if zq < 8 then .int .u64 (0) else if zq < 9 then .int .u8 (0) else if zq < 10 then .int .u64 (0) else if zq < 12 then .int .i64 (0) else .int .u64 (0)) (y := evY V3) (by rfl) rfl rfl h2 rfl (evY_one _) (by kernel_rfl) m60 (i := 0) (by omega) fun w9 m61 s10 z7 => ?_))))))
  have m62 : Fx.Blk w9 g2 14 (evY V3) 50 := Fx.ovr_all m61
  have m64 := m58.stp s10 (by omega)
  have b11 := s10.below b10 b10.size (by omega)
  refine Ln (sN (Wr (⟨.agg (Fx.varr 14 (evY V3)), rV Try.results40 ⟨_, h2, Fx.run_loadV m62.cel (by kernel_rfl) (by kernel_rfl)⟩, ?_⟩)))
  exact ⟨V3, wfV3, smV3, by rw [← eo]; exact hdV3, rfl, b11⟩
 refine Lv (.bool false) (x_eqlF rfl rfl rfl c73) (Lv (.bool false) (x_assign rfl rfl) (Ln (sN (Wc (b := false) rfl (fun h => nomatch h) (fun _ => Ws (Wl ?_))))))
 by_cases c85 : V0.kind = 2
 ·refine Lv (.bool true) (x_eqlT rfl rfl rfl c85) (Lv (.bool true) (x_assign rfl rfl) (Ln (sN (Wc (b := true) rfl (fun _ => Ws (Wl (Lv (.int .u64 (nd)) (x_move rfl h4) ?_))) (fun h => nomatch h)))))
  refine Lv (.pointer (some ⟨g3, 9, none⟩)) (x_field rfl h3 Try.underlying50 rfl (s := 1) (by kernel_rfl) rfl (by show _ + 9 = _; omega)) (Fx.L.store1 (x := evY V0) (u := .int .u64 (nd)) (by rfl) rfl rfl rfl rfl (by rfl) (by kernel_rfl) m44 (i := 9) (by omega) fun w10 m65 s11 z8 => ?_)
  obtain ⟨V4, eV4⟩ : ∃ V : EvM, V = ⟨V0.o, V0.seq, V0.deps, V0.kind, nd, V0.dst, V0.amt, V0.req, V0.of⟩ := ⟨_, rfl⟩
  have wfV4 : EvWf V4 := by rw [eV4]; exact ⟨wf0.o, wf0.seq, wf0.deps, wf0.kind, hnode, wf0.dst, wf0.amt, wf0.req, wf0.of⟩
  have hdV4 : V4.o = (o : Int) + 1 ∧ V4.seq = (M.ml o).s.known o + 1 ∧ V4.deps = (M.ml o).s.known := by rw [eV4]; exact hd0
  have smV4 : EvSm V4 := by rw [eV4]; exact ⟨sm0.amt, sm0.req⟩
  have m66 : Fx.Blk w10 g3 14 (evY V4) 50 := m65.congr (fun j hj => by rw [eV4]; exact ev_node _ _ j hj)
  have hct6 := Fx.ChT.of_stp s11 m44.ty
  have m67 := m42.chT hct6 (by decide)
  have m68 := m43.stp s11 (by omega)
  have b12 := s11.below b6 b6.size (by omega)
  refine Ln (sN (Wl (Lv (.pointer (some ⟨g1, 6, none⟩)) (x_field rfl h1 Try.underlying54 rfl (s := 1) (by kernel_rfl) rfl (by show _ + 6 = _; omega)) (Lv (.int .u16 ((x.amt : Int))) (x_load1 (x := actY x) rfl rfl (by kernel_rfl) m67.cel (i := 6) (by omega) (by omega) rfl) (Lv (.int .i64 ((x.amt : Int))) (x_conv rfl rfl (by kernel_rfl) Try.underlying2 (Fx.i64e (by omega) rfl)) (Lv (.int .i64 ((x.amt : Int) + 1)) (Fx.x_add rfl rfl rfl (Fx.i64e (by omega) (by omega))) (Lv (.pointer (some ⟨g3, 11, none⟩)) (x_field rfl h3 Try.underlying50 rfl (s := 1) (by kernel_rfl) rfl (by show _ + 11 = _; omega)) (Fx.L.store1 (x := evY V4) (u := .int .i64 ((x.amt : Int) + 1)) (by rfl) rfl rfl rfl rfl (by rfl) (by kernel_rfl) m66 (i := 11) (by omega) fun w11 m69 s12 z9 => ?_))))))))
  obtain ⟨V5, eV5⟩ : ∃ V : EvM, V = ⟨V4.o, V4.seq, V4.deps, V4.kind, V4.node, V4.dst, (x.amt : Int) + 1, V4.req, V4.of⟩ := ⟨_, rfl⟩
  have wfV5 : EvWf V5 := by rw [eV5]; exact ⟨wfV4.o, wfV4.seq, wfV4.deps, wfV4.kind, wfV4.node, wfV4.dst, (show I64r ((x.amt : Int) + 1) from ⟨by omega, by omega⟩), wfV4.req, wfV4.of⟩
  have hdV5 : V5.o = (o : Int) + 1 ∧ V5.seq = (M.ml o).s.known o + 1 ∧ V5.deps = (M.ml o).s.known := by rw [eV5]; exact hdV4
  have smV5 : EvSm V5 := by rw [eV5]; exact ⟨by show (x.amt : Int) + 1 ≤ 65536; omega, smV4.req⟩
  have m70 : Fx.Blk w11 g3 14 (evY V5) 50 := m69.congr (fun j hj => by rw [eV5]; exact ev_amt _ _ j hj)
  have m72 := m68.stp s12 (by omega)
  have b13 := s12.below b12 b12.size (by omega)
  refine Ln (Fx.blkN (sN (Ws (Wl (Lv (.agg (Fx.varr 14 (evY V5))) (x_loadA (x := evY V5) (y := evY V5) rfl h3 (by kernel_rfl) (by kernel_rfl) m70.cel (i := 0) (by omega) (by omega) (fun j _ => by rw [Nat.zero_add])) (Fx.L.storeA (x := fun zq => if zq < 1 then .int .i64 (0) else if zq < 8 then .int .u64 (0) else if zq < 9 then .int .u8 (0) else if zq < 10 then .int .u64 (0) else if zq < 12 then .int .i64 (0) else .int .u64 (0)) (y := evY V5) (by rfl) rfl rfl h2 rfl (evY_one _) (by kernel_rfl) m72 (i := 0) (by omega) fun w12 m73 s13 z10 => ?_))))))
  have m74 : Fx.Blk w12 g2 14 (evY V5) 50 := Fx.ovr_all m73
  have m76 := m70.stp s13 (by omega)
  have b14 := s13.below b13 b13.size (by omega)
  refine Ln (sN (Wr (⟨.agg (Fx.varr 14 (evY V5)), rV Try.results40 ⟨_, h2, Fx.run_loadV m74.cel (by kernel_rfl) (by kernel_rfl)⟩, ?_⟩)))
  exact ⟨V5, wfV5, smV5, by rw [← eo]; exact hdV5, rfl, b14⟩
 refine Lv (.bool false) (x_eqlF rfl rfl rfl c85) (Lv (.bool false) (x_assign rfl rfl) (Ln (sN (Wc (b := false) rfl (fun h => nomatch h) (fun _ => Ws (Wl ?_))))))
 by_cases c94 : V0.kind = 3
 ·refine Lv (.bool true) (x_eqlT rfl rfl rfl c94) (Lv (.bool true) (x_assign rfl rfl) (Ln (sN (Wc (b := true) rfl (fun _ => Ws (Wl (Lv (.int .u64 (nd)) (x_move rfl h4) ?_))) (fun h => nomatch h)))))
  refine Lv (.pointer (some ⟨g3, 9, none⟩)) (x_field rfl h3 Try.underlying50 rfl (s := 1) (by kernel_rfl) rfl (by show _ + 9 = _; omega)) (Fx.L.store1 (x := evY V0) (u := .int .u64 (nd)) (by rfl) rfl rfl rfl rfl (by rfl) (by kernel_rfl) m44 (i := 9) (by omega) fun w13 m77 s14 z11 => ?_)
  obtain ⟨V6, eV6⟩ : ∃ V : EvM, V = ⟨V0.o, V0.seq, V0.deps, V0.kind, nd, V0.dst, V0.amt, V0.req, V0.of⟩ := ⟨_, rfl⟩
  have wfV6 : EvWf V6 := by rw [eV6]; exact ⟨wf0.o, wf0.seq, wf0.deps, wf0.kind, hnode, wf0.dst, wf0.amt, wf0.req, wf0.of⟩
  have hdV6 : V6.o = (o : Int) + 1 ∧ V6.seq = (M.ml o).s.known o + 1 ∧ V6.deps = (M.ml o).s.known := by rw [eV6]; exact hd0
  have smV6 : EvSm V6 := by rw [eV6]; exact ⟨sm0.amt, sm0.req⟩
  have m78 : Fx.Blk w13 g3 14 (evY V6) 50 := m77.congr (fun j hj => by rw [eV6]; exact ev_node _ _ j hj)
  have hct9 := Fx.ChT.of_stp s14 m44.ty
  have m79 := m42.chT hct9 (by decide)
  have m80 := m43.stp s14 (by omega)
  have b15 := s14.below b6 b6.size (by omega)
  refine Ln (sN (Ws (Wl (Lv (.pointer (some ⟨g1, 6, none⟩)) (x_field rfl h1 Try.underlying54 rfl (s := 1) (by kernel_rfl) rfl (by show _ + 6 = _; omega)) (Lv (.int .u16 ((x.amt : Int))) (x_load1 (x := actY x) rfl rfl (by kernel_rfl) m79.cel (i := 6) (by omega) (by omega) rfl) (Lv (.int .i64 ((x.amt : Int))) (x_conv rfl rfl (by kernel_rfl) Try.underlying2 (Fx.i64e (by omega) rfl)) (Lv (.int .i64 ((x.amt : Int) + 1)) (Fx.x_add rfl rfl rfl (Fx.i64e (by omega) (by omega))) (Lv (.pointer (some ⟨g3, 11, none⟩)) (x_field rfl h3 Try.underlying50 rfl (s := 1) (by kernel_rfl) rfl (by show _ + 11 = _; omega)) (Fx.L.store1 (x := evY V6) (u := .int .i64 ((x.amt : Int) + 1)) (by rfl) rfl rfl rfl rfl (by rfl) (by kernel_rfl) m78 (i := 11) (by omega) fun w14 m81 s15 z12 => ?_)))))))))
  obtain ⟨V7, eV7⟩ : ∃ V : EvM, V = ⟨V6.o, V6.seq, V6.deps, V6.kind, V6.node, V6.dst, (x.amt : Int) + 1, V6.req, V6.of⟩ := ⟨_, rfl⟩
  have wfV7 : EvWf V7 := by rw [eV7]; exact ⟨wfV6.o, wfV6.seq, wfV6.deps, wfV6.kind, wfV6.node, wfV6.dst, (show I64r ((x.amt : Int) + 1) from ⟨by omega, by omega⟩), wfV6.req, wfV6.of⟩
  have hdV7 : V7.o = (o : Int) + 1 ∧ V7.seq = (M.ml o).s.known o + 1 ∧ V7.deps = (M.ml o).s.known := by rw [eV7]; exact hdV6
  have smV7 : EvSm V7 := by rw [eV7]; exact ⟨by show (x.amt : Int) + 1 ≤ 65536; omega, smV6.req⟩
  have m82 : Fx.Blk w14 g3 14 (evY V7) 50 := m81.congr (fun j hj => by rw [eV7]; exact ev_amt _ _ j hj)
  have hct10 := Fx.ChT.of_stp s15 m78.ty
  have m83 := m79.chT hct10 (by decide)
  have m84 := m80.stp s15 (by omega)
  have b16 := s15.below b15 b15.size (by omega)
  refine Ln (sN (Wl (Lv (.pointer (some ⟨g1, 7, none⟩)) (x_field rfl h1 Try.underlying54 rfl (s := 1) (by kernel_rfl) rfl (by show _ + 7 = _; omega)) (Lv (.int .u8 ((x.req : Int))) (x_load1 (x := actY x) rfl rfl (by kernel_rfl) m83.cel (i := 7) (by omega) (by omega) rfl) (Lv (.int .u64 ((x.req : Int))) (x_conv rfl rfl (by kernel_rfl) Try.underlying30 (Fx.u64e (by omega) rfl)) (Lv (.int .u64 ((x.req : Int) + 1)) (Fx.x_add rfl rfl rfl (Fx.u64e (by omega) (by omega))) (Lv (.pointer (some ⟨g3, 12, none⟩)) (x_field rfl h3 Try.underlying50 rfl (s := 1) (by kernel_rfl) rfl (by show _ + 12 = _; omega)) (Fx.L.store1 (x := evY V7) (u := .int .u64 ((x.req : Int) + 1)) (by rfl) rfl rfl rfl rfl (by rfl) (by kernel_rfl) m82 (i := 12) (by omega) fun w15 m85 s16 z13 => ?_))))))))
  obtain ⟨V8, eV8⟩ : ∃ V : EvM, V = ⟨V7.o, V7.seq, V7.deps, V7.kind, V7.node, V7.dst, V7.amt, (x.req : Int) + 1, V7.of⟩ := ⟨_, rfl⟩
  have wfV8 : EvWf V8 := by rw [eV8]; exact ⟨wfV7.o, wfV7.seq, wfV7.deps, wfV7.kind, wfV7.node, wfV7.dst, wfV7.amt, (show U64r ((x.req : Int) + 1) from ⟨by omega, by omega⟩), wfV7.of⟩
  have hdV8 : V8.o = (o : Int) + 1 ∧ V8.seq = (M.ml o).s.known o + 1 ∧ V8.deps = (M.ml o).s.known := by rw [eV8]; exact hdV7
  have smV8 : EvSm V8 := by rw [eV8]; exact ⟨smV7.amt, by show (x.req : Int) + 1 ≤ 256; omega⟩
  have m86 : Fx.Blk w15 g3 14 (evY V8) 50 := m85.congr (fun j hj => by rw [eV8]; exact ev_req _ _ j hj)
  have m88 := m84.stp s16 (by omega)
  have b17 := s16.below b16 b16.size (by omega)
  refine Ln (Fx.blkN (sN (Ws (Wl (Lv (.agg (Fx.varr 14 (evY V8))) (x_loadA (x := evY V8) (y := evY V8) rfl h3 (by kernel_rfl) (by kernel_rfl) m86.cel (i := 0) (by omega) (by omega) (fun j _ => by rw [Nat.zero_add])) (Fx.L.storeA (x := fun zq => if zq < 1 then .int .i64 (0) else if zq < 8 then .int .u64 (0) else if zq < 9 then .int .u8 (0) else if zq < 10 then .int .u64 (0) else if zq < 12 then .int .i64 (0) else .int .u64 (0)) (y := evY V8) (by rfl) rfl rfl h2 rfl (evY_one _) (by kernel_rfl) m88 (i := 0) (by omega) fun w16 m89 s17 z14 => ?_))))))
  have m90 : Fx.Blk w16 g2 14 (evY V8) 50 := Fx.ovr_all m89
  have m92 := m86.stp s17 (by omega)
  have b18 := s17.below b17 b17.size (by omega)
  refine Ln (sN (Wr (⟨.agg (Fx.varr 14 (evY V8)), rV Try.results40 ⟨_, h2, Fx.run_loadV m90.cel (by kernel_rfl) (by kernel_rfl)⟩, ?_⟩)))
  exact ⟨V8, wfV8, smV8, by rw [← eo]; exact hdV8, rfl, b18⟩
 refine Lv (.bool false) (x_eqlF rfl rfl rfl c94) (Lv (.bool false) (x_assign rfl rfl) (Ln (sN (Wc (b := false) rfl (fun h => nomatch h) (fun _ => Ws (Wl ?_))))))
 by_cases c108 : V0.kind = 4
 ·refine Lv (.bool true) (x_eqlT rfl rfl rfl c108) (Lv (.bool true) (x_assign rfl rfl) (Ln (sN (Wc (b := true) rfl (fun _ => Ws (Wl (Lv (.pointer (some ⟨g1, 7, none⟩)) (x_field rfl h1 Try.underlying54 rfl (s := 1) (by kernel_rfl) rfl (by show _ + 7 = _; omega)) ?_))) (fun h => nomatch h)))))
  refine Lv (.int .u8 ((x.req : Int))) (x_load1 (x := actY x) rfl rfl (by kernel_rfl) m42.cel (i := 7) (by omega) (by omega) rfl) (Lv (.int .u64 ((x.req : Int))) (x_conv rfl rfl (by kernel_rfl) Try.underlying30 (Fx.u64e (by omega) rfl)) (Lv (.int .u64 ((x.req : Int) + 1)) (Fx.x_add rfl rfl rfl (Fx.u64e (by omega) (by omega))) (Lv (.pointer (some ⟨g3, 12, none⟩)) (x_field rfl h3 Try.underlying50 rfl (s := 1) (by kernel_rfl) rfl (by show _ + 12 = _; omega)) (Fx.L.store1 (x := evY V0) (u := .int .u64 ((x.req : Int) + 1)) (by rfl) rfl rfl rfl rfl (by rfl) (by kernel_rfl) m44 (i := 12) (by omega) fun w17 m93 s18 z15 => ?_))))
  obtain ⟨V9, eV9⟩ : ∃ V : EvM, V = ⟨V0.o, V0.seq, V0.deps, V0.kind, V0.node, V0.dst, V0.amt, (x.req : Int) + 1, V0.of⟩ := ⟨_, rfl⟩
  have wfV9 : EvWf V9 := by rw [eV9]; exact ⟨wf0.o, wf0.seq, wf0.deps, wf0.kind, wf0.node, wf0.dst, wf0.amt, (show U64r ((x.req : Int) + 1) from ⟨by omega, by omega⟩), wf0.of⟩
  have hdV9 : V9.o = (o : Int) + 1 ∧ V9.seq = (M.ml o).s.known o + 1 ∧ V9.deps = (M.ml o).s.known := by rw [eV9]; exact hd0
  have smV9 : EvSm V9 := by rw [eV9]; exact ⟨sm0.amt, by show (x.req : Int) + 1 ≤ 256; omega⟩
  have m94 : Fx.Blk w17 g3 14 (evY V9) 50 := m93.congr (fun j hj => by rw [eV9]; exact ev_req _ _ j hj)
  have hct13 := Fx.ChT.of_stp s18 m44.ty
  have m95 := m42.chT hct13 (by decide)
  have m96 := m43.stp s18 (by omega)
  have b19 := s18.below b6 b6.size (by omega)
  refine Ln (sN (Wl (Lv (.pointer (some ⟨g1, 8, none⟩)) (x_field rfl h1 Try.underlying54 rfl (s := 1) (by kernel_rfl) rfl (by show _ + 8 = _; omega)) (Lv (.int .u8 ((x.of : Int))) (x_load1 (x := actY x) rfl rfl (by kernel_rfl) m95.cel (i := 8) (by omega) (by omega) rfl) (Lv (.int .u64 ((x.of : Int))) (x_conv rfl rfl (by kernel_rfl) Try.underlying30 (Fx.u64e (by omega) rfl)) (Lv (.int .u64 ((x.of : Int) + 1)) (Fx.x_add rfl rfl rfl (Fx.u64e (by omega) (by omega))) (Lv (.pointer (some ⟨g3, 13, none⟩)) (x_field rfl h3 Try.underlying50 rfl (s := 1) (by kernel_rfl) rfl (by show _ + 13 = _; omega)) (Fx.L.store1 (x := evY V9) (u := .int .u64 ((x.of : Int) + 1)) (by rfl) rfl rfl rfl rfl (by rfl) (by kernel_rfl) m94 (i := 13) (by omega) fun w18 m97 s19 z16 => ?_))))))))
  obtain ⟨V10, eV10⟩ : ∃ V : EvM, V = ⟨V9.o, V9.seq, V9.deps, V9.kind, V9.node, V9.dst, V9.amt, V9.req, (x.of : Int) + 1⟩ := ⟨_, rfl⟩
  have wfV10 : EvWf V10 := by rw [eV10]; exact ⟨wfV9.o, wfV9.seq, wfV9.deps, wfV9.kind, wfV9.node, wfV9.dst, wfV9.amt, wfV9.req, (show U64r ((x.of : Int) + 1) from ⟨by omega, by omega⟩)⟩
  have hdV10 : V10.o = (o : Int) + 1 ∧ V10.seq = (M.ml o).s.known o + 1 ∧ V10.deps = (M.ml o).s.known := by rw [eV10]; exact hdV9
  have smV10 : EvSm V10 := by rw [eV10]; exact ⟨smV9.amt, smV9.req⟩
  have m98 : Fx.Blk w18 g3 14 (evY V10) 50 := m97.congr (fun j hj => by rw [eV10]; exact ev_of _ _ j hj)
  have m100 := m96.stp s19 (by omega)
  have b20 := s19.below b19 b19.size (by omega)
  refine Ln (Fx.blkN (sN (Ws (Wl (Lv (.agg (Fx.varr 14 (evY V10))) (x_loadA (x := evY V10) (y := evY V10) rfl h3 (by kernel_rfl) (by kernel_rfl) m98.cel (i := 0) (by omega) (by omega) (fun j _ => by rw [Nat.zero_add])) (Fx.L.storeA (x := fun zq => if zq < 1 then .int .i64 (0) else if zq < 8 then .int .u64 (0) else if zq < 9 then .int .u8 (0) else if zq < 10 then .int .u64 (0) else if zq < 12 then .int .i64 (0) else .int .u64 (0)) (y := evY V10) (by rfl) rfl rfl h2 rfl (evY_one _) (by kernel_rfl) m100 (i := 0) (by omega) fun w19 m101 s20 z17 => ?_))))))
  have m102 : Fx.Blk w19 g2 14 (evY V10) 50 := Fx.ovr_all m101
  have m104 := m98.stp s20 (by omega)
  have b21 := s20.below b20 b20.size (by omega)
  refine Ln (sN (Wr (⟨.agg (Fx.varr 14 (evY V10)), rV Try.results40 ⟨_, h2, Fx.run_loadV m102.cel (by kernel_rfl) (by kernel_rfl)⟩, ?_⟩)))
  exact ⟨V10, wfV10, smV10, by rw [← eo]; exact hdV10, rfl, b21⟩
 refine Lv (.bool false) (x_eqlF rfl rfl rfl c108) (Lv (.bool false) (x_assign rfl rfl) (Ln (sN (Wc (b := false) rfl (fun h => nomatch h) (fun _ => Ws (Wl ?_))))))
 by_cases c120 : V0.kind = 5
 ·refine Lv (.bool true) (x_eqlT rfl rfl rfl c120) (Lv (.bool true) (x_assign rfl rfl) (Ln (sN (Wc (b := true) rfl (fun _ => Ws (Wl (Lv (.int .u64 (nd)) (x_move rfl h4) ?_))) (fun h => nomatch h)))))
  refine Lv (.pointer (some ⟨g3, 9, none⟩)) (x_field rfl h3 Try.underlying50 rfl (s := 1) (by kernel_rfl) rfl (by show _ + 9 = _; omega)) (Fx.L.store1 (x := evY V0) (u := .int .u64 (nd)) (by rfl) rfl rfl rfl rfl (by rfl) (by kernel_rfl) m44 (i := 9) (by omega) fun w20 m105 s21 z18 => ?_)
  obtain ⟨V11, eV11⟩ : ∃ V : EvM, V = ⟨V0.o, V0.seq, V0.deps, V0.kind, nd, V0.dst, V0.amt, V0.req, V0.of⟩ := ⟨_, rfl⟩
  have wfV11 : EvWf V11 := by rw [eV11]; exact ⟨wf0.o, wf0.seq, wf0.deps, wf0.kind, hnode, wf0.dst, wf0.amt, wf0.req, wf0.of⟩
  have hdV11 : V11.o = (o : Int) + 1 ∧ V11.seq = (M.ml o).s.known o + 1 ∧ V11.deps = (M.ml o).s.known := by rw [eV11]; exact hd0
  have smV11 : EvSm V11 := by rw [eV11]; exact ⟨sm0.amt, sm0.req⟩
  have m106 : Fx.Blk w20 g3 14 (evY V11) 50 := m105.congr (fun j hj => by rw [eV11]; exact ev_node _ _ j hj)
  have hct16 := Fx.ChT.of_stp s21 m44.ty
  have m107 := m42.chT hct16 (by decide)
  have m108 := m43.stp s21 (by omega)
  have b22 := s21.below b6 b6.size (by omega)
  refine Ln (sN (Ws (Wl (Lv (.pointer (some ⟨g1, 6, none⟩)) (x_field rfl h1 Try.underlying54 rfl (s := 1) (by kernel_rfl) rfl (by show _ + 6 = _; omega)) (Lv (.int .u16 ((x.amt : Int))) (x_load1 (x := actY x) rfl rfl (by kernel_rfl) m107.cel (i := 6) (by omega) (by omega) rfl) (Lv (.int .i64 ((x.amt : Int))) (x_conv rfl rfl (by kernel_rfl) Try.underlying2 (Fx.i64e (by omega) rfl)) (Lv (.int .i64 ((x.amt : Int) + 1)) (Fx.x_add rfl rfl rfl (Fx.i64e (by omega) (by omega))) (Lv (.pointer (some ⟨g3, 11, none⟩)) (x_field rfl h3 Try.underlying50 rfl (s := 1) (by kernel_rfl) rfl (by show _ + 11 = _; omega)) (Fx.L.store1 (x := evY V11) (u := .int .i64 ((x.amt : Int) + 1)) (by rfl) rfl rfl rfl rfl (by rfl) (by kernel_rfl) m106 (i := 11) (by omega) fun w21 m109 s22 z19 => ?_)))))))))
  obtain ⟨V12, eV12⟩ : ∃ V : EvM, V = ⟨V11.o, V11.seq, V11.deps, V11.kind, V11.node, V11.dst, (x.amt : Int) + 1, V11.req, V11.of⟩ := ⟨_, rfl⟩
  have wfV12 : EvWf V12 := by rw [eV12]; exact ⟨wfV11.o, wfV11.seq, wfV11.deps, wfV11.kind, wfV11.node, wfV11.dst, (show I64r ((x.amt : Int) + 1) from ⟨by omega, by omega⟩), wfV11.req, wfV11.of⟩
  have hdV12 : V12.o = (o : Int) + 1 ∧ V12.seq = (M.ml o).s.known o + 1 ∧ V12.deps = (M.ml o).s.known := by rw [eV12]; exact hdV11
  have smV12 : EvSm V12 := by rw [eV12]; exact ⟨by show (x.amt : Int) + 1 ≤ 65536; omega, smV11.req⟩
  have m110 : Fx.Blk w21 g3 14 (evY V12) 50 := m109.congr (fun j hj => by rw [eV12]; exact ev_amt _ _ j hj)
  have hct17 := Fx.ChT.of_stp s22 m106.ty
  have m111 := m107.chT hct17 (by decide)
  have m112 := m108.stp s22 (by omega)
  have b23 := s22.below b22 b22.size (by omega)
  refine Ln (sN ?_)
  obtain ⟨r6, er6⟩ : ∃ r, r = x.dst % 6 := ⟨_, rfl⟩
  have hr6 : r6 < 6 := by rw [er6]; exact Nat.mod_lt _ (by omega)
  refine Wl (Lv (.pointer (some ⟨g1, 5, none⟩)) (x_field rfl h1 Try.underlying54 rfl (s := 1) (by kernel_rfl) rfl (by show _ + 5 = _; omega)) (Lv (.int .u8 ((x.dst : Int))) (x_load1 (x := actY x) rfl rfl (by kernel_rfl) m111.cel (i := 5) (by omega) (by omega) rfl) (Lv (.int .i64 ((x.dst : Int))) (x_conv rfl rfl (by kernel_rfl) Try.underlying3 (Fx.i64e (by omega) rfl)) (Lv (.int .i64 ((r6 : Int))) (Fx.x_rem rfl rfl rfl (by omega) (remL er6)) (Lv (.int .i64 ((r6 : Int) + 1)) (Fx.x_add rfl rfl rfl (Fx.i64e (by omega) (by omega))) (Lv (.pointer (some ⟨g3, 10, none⟩)) (x_field rfl h3 Try.underlying50 rfl (s := 1) (by kernel_rfl) rfl (by show _ + 10 = _; omega)) (Fx.L.store1 (x := evY V12) (u := .int .i64 ((r6 : Int) + 1)) (by rfl) rfl rfl rfl rfl (by rfl) (by kernel_rfl) m110 (i := 10) (by omega) fun w22 m113 s23 z20 => ?_)))))))
  obtain ⟨V13, eV13⟩ : ∃ V : EvM, V = ⟨V12.o, V12.seq, V12.deps, V12.kind, V12.node, (r6 : Int) + 1, V12.amt, V12.req, V12.of⟩ := ⟨_, rfl⟩
  have wfV13 : EvWf V13 := by rw [eV13]; exact ⟨wfV12.o, wfV12.seq, wfV12.deps, wfV12.kind, wfV12.node, (show I64r ((r6 : Int) + 1) from ⟨by omega, by omega⟩), wfV12.amt, wfV12.req, wfV12.of⟩
  have hdV13 : V13.o = (o : Int) + 1 ∧ V13.seq = (M.ml o).s.known o + 1 ∧ V13.deps = (M.ml o).s.known := by rw [eV13]; exact hdV12
  have smV13 : EvSm V13 := by rw [eV13]; exact ⟨smV12.amt, smV12.req⟩
  have m114 : Fx.Blk w22 g3 14 (evY V13) 50 := m113.congr (fun j hj => by rw [eV13]; exact ev_dst _ _ j hj)
  have m116 := m112.stp s23 (by omega)
  have b24 := s23.below b23 b23.size (by omega)
  refine Ln (Fx.blkN (sN (Ws (Wl (Lv (.agg (Fx.varr 14 (evY V13))) (x_loadA (x := evY V13) (y := evY V13) rfl h3 (by kernel_rfl) (by kernel_rfl) m114.cel (i := 0) (by omega) (by omega) (fun j _ => by rw [Nat.zero_add])) (Fx.L.storeA (x := fun zq => if zq < 1 then .int .i64 (0) else if zq < 8 then .int .u64 (0) else if zq < 9 then .int .u8 (0) else if zq < 10 then .int .u64 (0) else if zq < 12 then .int .i64 (0) else .int .u64 (0)) (y := evY V13) (by rfl) rfl rfl h2 rfl (evY_one _) (by kernel_rfl) m116 (i := 0) (by omega) fun w23 m117 s24 z21 => ?_))))))
  have m118 : Fx.Blk w23 g2 14 (evY V13) 50 := Fx.ovr_all m117
  have m120 := m114.stp s24 (by omega)
  have b25 := s24.below b24 b24.size (by omega)
  refine Ln (sN (Wr (⟨.agg (Fx.varr 14 (evY V13)), rV Try.results40 ⟨_, h2, Fx.run_loadV m118.cel (by kernel_rfl) (by kernel_rfl)⟩, ?_⟩)))
  exact ⟨V13, wfV13, smV13, by rw [← eo]; exact hdV13, rfl, b25⟩
 refine Lv (.bool false) (x_eqlF rfl rfl rfl c120) (Lv (.bool false) (x_assign rfl rfl) (Ln (sN (Wc (b := false) rfl (fun h => nomatch h) (fun _ => Ws (Wl ?_))))))
 by_cases c135 : V0.kind = 6
 ·refine Lv (.bool true) (x_eqlT rfl rfl rfl c135) (Lv (.bool true) (x_assign rfl rfl) (Ln (sN (Wc (b := true) rfl (fun _ => ?_) (fun h => nomatch h)))))
  obtain ⟨r6, er6⟩ : ∃ r, r = x.dst % 6 := ⟨_, rfl⟩
  have hr6 : r6 < 6 := by rw [er6]; exact Nat.mod_lt _ (by omega)
  refine Wl (Lv (.pointer (some ⟨g1, 5, none⟩)) (x_field rfl h1 Try.underlying54 rfl (s := 1) (by kernel_rfl) rfl (by show _ + 5 = _; omega)) (Lv (.int .u8 ((x.dst : Int))) (x_load1 (x := actY x) rfl rfl (by kernel_rfl) m42.cel (i := 5) (by omega) (by omega) rfl) (Lv (.int .i64 ((x.dst : Int))) (x_conv rfl rfl (by kernel_rfl) Try.underlying3 (Fx.i64e (by omega) rfl)) (Lv (.int .i64 ((r6 : Int))) (Fx.x_rem rfl rfl rfl (by omega) (remL er6)) (Lv (.int .i64 ((r6 : Int) + 1)) (Fx.x_add rfl rfl rfl (Fx.i64e (by omega) (by omega))) (Lv (.pointer (some ⟨g3, 10, none⟩)) (x_field rfl h3 Try.underlying50 rfl (s := 1) (by kernel_rfl) rfl (by show _ + 10 = _; omega)) (Fx.L.store1 (x := evY V0) (u := .int .i64 ((r6 : Int) + 1)) (by rfl) rfl rfl rfl rfl (by rfl) (by kernel_rfl) m44 (i := 10) (by omega) fun w24 m121 s25 z22 => ?_)))))))
  obtain ⟨V14, eV14⟩ : ∃ V : EvM, V = ⟨V0.o, V0.seq, V0.deps, V0.kind, V0.node, (r6 : Int) + 1, V0.amt, V0.req, V0.of⟩ := ⟨_, rfl⟩
  have wfV14 : EvWf V14 := by rw [eV14]; exact ⟨wf0.o, wf0.seq, wf0.deps, wf0.kind, wf0.node, (show I64r ((r6 : Int) + 1) from ⟨by omega, by omega⟩), wf0.amt, wf0.req, wf0.of⟩
  have hdV14 : V14.o = (o : Int) + 1 ∧ V14.seq = (M.ml o).s.known o + 1 ∧ V14.deps = (M.ml o).s.known := by rw [eV14]; exact hd0
  have smV14 : EvSm V14 := by rw [eV14]; exact ⟨sm0.amt, sm0.req⟩
  have m122 : Fx.Blk w24 g3 14 (evY V14) 50 := m121.congr (fun j hj => by rw [eV14]; exact ev_dst _ _ j hj)
  have m124 := m43.stp s25 (by omega)
  have b26 := s25.below b6 b6.size (by omega)
  refine Ln (Fx.blkN (sN (Ws (Wl (Lv (.agg (Fx.varr 14 (evY V14))) (x_loadA (x := evY V14) (y := evY V14) rfl h3 (by kernel_rfl) (by kernel_rfl) m122.cel (i := 0) (by omega) (by omega) (fun j _ => by rw [Nat.zero_add])) (Fx.L.storeA (x := fun zq => if zq < 1 then .int .i64 (0) else if zq < 8 then .int .u64 (0) else if zq < 9 then .int .u8 (0) else if zq < 10 then .int .u64 (0) else if zq < 12 then .int .i64 (0) else .int .u64 (0)) (y := evY V14) (by rfl) rfl rfl h2 rfl (evY_one _) (by kernel_rfl) m124 (i := 0) (by omega) fun w25 m125 s26 z23 => ?_))))))
  have m126 : Fx.Blk w25 g2 14 (evY V14) 50 := Fx.ovr_all m125
  have m128 := m122.stp s26 (by omega)
  have b27 := s26.below b26 b26.size (by omega)
  refine Ln (sN (Wr (⟨.agg (Fx.varr 14 (evY V14)), rV Try.results40 ⟨_, h2, Fx.run_loadV m126.cel (by kernel_rfl) (by kernel_rfl)⟩, ?_⟩)))
  exact ⟨V14, wfV14, smV14, by rw [← eo]; exact hdV14, rfl, b27⟩
 refine Lv (.bool false) (x_eqlF rfl rfl rfl c135) (Lv (.bool false) (x_assign rfl rfl) (Ln (sN (Wc (b := false) rfl (fun h => nomatch h) (fun _ => Wk (Fx.blkN (sN (Ws (Wl (Lv (.agg (Fx.varr 14 (evY V0))) (x_loadA (x := evY V0) (y := evY V0) rfl h3 (by kernel_rfl) (by kernel_rfl) m44.cel (i := 0) (by omega) (by omega) (fun j _ => by rw [Nat.zero_add])) (Fx.L.storeA (x := fun zq => if zq < 1 then .int .i64 (0) else if zq < 8 then .int .u64 (0) else if zq < 9 then .int .u8 (0) else if zq < 10 then .int .u64 (0) else if zq < 12 then .int .i64 (0) else .int .u64 (0)) (y := evY V0) (by rfl) rfl rfl h2 rfl (evY_one _) (by kernel_rfl) m43 (i := 0) (by omega) fun w26 m129 s27 z24 => ?_)))))))))))
 have m130 : Fx.Blk w26 g2 14 (evY V0) 50 := Fx.ovr_all m129
 have m132 := m44.stp s27 (by omega)
 have b28 := s27.below b6 b6.size (by omega)
 refine Ln (sN (Wr (⟨.agg (Fx.varr 14 (evY V0)), rV Try.results40 ⟨_, h2, Fx.run_loadV m130.cel (by kernel_rfl) (by kernel_rfl)⟩, ?_⟩)))
 exact ⟨V0, wf0, sm0, by rw [← eo]; exact hd0, rfl, b28⟩
theorem Rt.apply_may {L : LdC} {v : EvM} (h : applyE L v = 0) : mayE v = true := by
  unfold applyE at h
  split at h; · cases h
  rename_i h1; simpa using h1
structure Rt.DoR (o : Nat) (x : ActM) (M M' : WM) (v : EvM) : Prop where
  n : M'.n = M.n
  oth : ∀ q, q ≠ o → M'.ml q = M.ml q
  c : (v = zeroE ∧ M'.an = M.an ∧ M'.ev = M.ev ∧ ((M'.ml o).core = (M.ml o).core ∨ x.meet = true ∧ (M'.ml o).core = learnC M.ev M.an (M.ml (x.other % M.n)).s.known (M.ml o).core)) ∨ (x.meet = false ∧ M'.an = M.an + 1 ∧ M'.ev = updA M.ev M.an v ∧ applyE (M.ml o).core v = 0 ∧ (M'.ml o).core = applyC (M.ml o).core v ∧ v.o = (o : Int) + 1 ∧ v.seq = (M.ml o).s.known o + 1 ∧ v.deps = (M.ml o).s.known)
theorem Rt.applyC_kn {L : LdC} {v : EvM} (h : applyE L v = 0) : (applyC L v).known = updA L.known (regN v) (L.known (regN v) + 1) := by
  rcases applyC_known L v with ⟨_, h2⟩ | ⟨h1, _⟩
  · exact h2
  exact absurd h h1
theorem Rt.zeroE_wf : EvWf zeroE := by
  have z : U64r 0 := ⟨by decide, by decide⟩
  have y : I64r 0 := ⟨by decide, by decide⟩
  exact ⟨y, z, fun _ _ => z, ⟨by decide, by decide⟩, z, y, y, z, z⟩
def wdS (p : Nat) (M : WM) (k : Nat) : Prop := k = p ∨ (Value.slice M.la M.n M.lc).ownBlock = some k ∨ (Value.slice M.aa M.an M.ac).ownBlock = some k
def SepW (w : World) (p : Nat) (M M' : WM) : Prop := ∀ k, wdS p M' k → wdS p M k ∨ w.heap.size ≤ k
theorem WldO.ge {w : World} {B p T : Nat} {M : WM} (h : WldO w B p M T) : ∀ k, wdS p M k → B ≤ k ∧ k < w.heap.size := fun k hk => by
  rcases hk with rfl | e | e
  · exact ⟨h.pB, h.c.lt⟩
  · exact h.l.ge e
  · exact h.a.ge e
theorem WldO.belowS {w w' : World} {B p T : Nat} {M : WM} (h : WldO w B p M T) (hB : B ≤ w.heap.size) (hs : Fx.Chg (wdS p M) w w') : Below B w w' := Fx.Chg.below (Below.refl B w) hs (fun k hk => (h.ge k hk).1) hB
theorem WldO.chm {w w' : World} {B p T : Nat} {M : WM} (h : WldO w B p M T) (hs : Fx.Chg (wdS p M) w w') : Fx.ChT [74, 71, 50] w w' := Fx.ChT.of_chg hs fun k hk => by
  rcases hk with rfl | e | e
  · exact ⟨_, h.c.ty, by decide⟩
  · exact ⟨_, h.l.ty e, by decide⟩
  · exact ⟨_, h.a.ty e, by decide⟩
theorem SepW.app {w w3 : World} {p g : Nat} {M M' : WM} (hgv : (Value.slice M.aa M.an M.ac).ownBlock = some g ∨ g = w3.heap.size) (hs : w.heap.size ≤ w3.heap.size) (h1 : M'.la = M.la := by rfl) (h2 : M'.n = M.n := by rfl) (h3 : M'.lc = M.lc := by rfl) (h4 : (Value.slice M'.aa M'.an M'.ac).ownBlock = some g := by rfl) : SepW w p M M' := fun k hk => by
  rcases hk with h | h | h
  · exact .inl (.inl h)
  · rw [h1, h2, h3] at h; exact .inl (.inr (.inl h))
  · have e : g = k := Option.some.inj (h4.symm.trans h)
    rcases hgv with h5 | h5
    · exact .inl (.inr (.inr (e ▸ h5)))
    · exact .inr (by omega)
theorem WldO.mono {w : World} {B p T T' : Nat} {M : WM} (h : WldO w B p M T) (hT : T ≤ T') : WldO w B p M T' := { h with inv := fun i hi => (h.inv i hi).mono hT }
set_option maxRecDepth 20000 in
set_option maxHeartbeats 2000000 in
theorem l_doC (M : WM) (B p T : Nat) (x : ActM) (w : World) (hW : WldO w B p M T) (hB : B ≤ w.heap.size) (hx : ActOk x) (han : M.an ≤ 60) (hT : T ≤ 890000) :
    Calls Try.prog 18 #[.pointer (some ⟨p, 0, none⟩), .agg (Fx.varr 9 (actY x))] w fun e w' => ∃ v, e = .returned (.agg (Fx.varr 14 (evY v))) ∧ EvWf v ∧ ∃ M', WldO w' B p M' (T + 3660) ∧ DoR (x.who % M.n) x M M' v ∧ M'.an ≤ M.an + 1 ∧ (x.meet = true → M'.an = M.an) ∧ Fx.Chg (wdS p M) w w' ∧ SepW w p M M' := by
 have hWc := hW.c
 have hWl := hW.l
 have hWa := hW.a
 have hWg := hW.g
 have hn1 := hW.n1
 have hn6 := hW.n6
 have hpB := hW.pB
 have lpp : p < w.heap.size := hWc.lt
 have hxw := hx.who
 have hxo := hx.other
 have hxk := hx.kind
 have hxn := hx.node
 have hxt := hx.dst
 have hxa := hx.amt
 have hxr := hx.req
 have hxf := hx.of
 refine Fx.enter Try.func18 rfl (n := 94) rfl (by rfl) ?_
 refine Ws (Wl (Fx.L.box (m := 9) (y := actY x) (by rfl) rfl rfl (Fx.cells_agg _ _) rfl fun g1 w1 eg1 m1 s1 z1 => ?_))
 have m2 := hWc.stp s1 (Nat.ne_of_lt (hWc.lt))
 have m3 := hWl.stp s1 (hWl.notNew (Nat.le_refl _))
 have m4 := hWa.stp s1 (hWa.notNew (Nat.le_refl _))
 have m5 := hWg.up s1.old
 have m6 := hW.up s1.old
 have b1 := (Fx.Chg.refl (wdS p M) w).then s1 (.inr (Fx.Chg.refl (wdS p M) w).size)
 have lg1 : w.heap.size ≤ g1 := by rw [eg1]; exact (Fx.Chg.refl (wdS p M) w).size
 have ng1m2 : p ≠ g1 := by rw [eg1]; exact Nat.ne_of_lt (hWc.lt)
 have tg1 : g1 < w1.heap.size := m1.lt
 clear eg1
 refine Fx.L.new (m := 14) (y := fun zq => if zq < 1 then .int .i64 (0) else if zq < 8 then .int .u64 (0) else if zq < 9 then .int .u8 (0) else if zq < 10 then .int .u64 (0) else if zq < 12 then .int .i64 (0) else .int .u64 (0)) (by rfl) rfl (by kernel_rfl) rfl fun g2 w2 eg2 m7 s2 z2 => ?_
 have m8 := m2.stp s2 (Nat.ne_of_lt (m2.lt))
 have m9 := m3.stp s2 (m3.notNew (Nat.le_refl _))
 have m10 := m4.stp s2 (m4.notNew (Nat.le_refl _))
 have m11 := m5.up s2.old
 have m12 := m6.up s2.old
 have m13 := m1.stp s2 (Nat.ne_of_lt (m1.lt))
 have b2 := b1.then s2 (.inr b1.size)
 have lg2 : w.heap.size ≤ g2 := by rw [eg2]; exact b1.size
 have ng2m8 : p ≠ g2 := by rw [eg2]; exact Nat.ne_of_lt (m2.lt)
 have ng2m10 : (.slice M.aa (M.an) (M.ac) : Value).ownBlock ≠ some g2 := by rw [eg2]; exact m4.notNew (Nat.le_refl _)
 have ng2m13 : g1 ≠ g2 := by rw [eg2]; exact Nat.ne_of_lt (m1.lt)
 have tg2 : g2 < w2.heap.size := m7.lt
 clear eg2
 refine Ln (sN (Ws ?_))
 obtain ⟨o, eo⟩ : ∃ r, r = x.who % M.n := ⟨_, rfl⟩
 have ho : o < M.n := by rw [eo]; exact Nat.mod_lt _ (by omega)
 -- region 1 draws
 refine Fx.W.quiet (fun v1 => ∃ q, v1 = World.drewN w2 q) (by kernel_rfl) (by kernel_rfl) ⟨1, rfl⟩ ?_
 refine Qv (.pointer (some ⟨g1, 0, none⟩)) (fun v1 hv1 => x_field rfl rfl Try.underlying54 rfl (s := 1) (by kernel_rfl) rfl rfl) (Qv (.int .u8 ((x.who : Int))) (fun v1 hv1 => x_load1 (x := actY x) rfl rfl (by kernel_rfl) (by obtain ⟨qd, rfl⟩ := hv1; exact m13.cel) (i := 0) (by omega) (by omega) rfl) (Qv (.int .i64 ((x.who : Int))) (fun v1 hv1 => x_conv rfl rfl (by kernel_rfl) Try.underlying3 (Fx.i64e (by omega) rfl)) (Qv (.pointer (some ⟨p, 0, none⟩)) (fun v1 hv1 => x_move rfl rfl) (Qv (.pointer (some ⟨p, 0, none⟩)) (fun v1 hv1 => x_nil rfl rfl) (Qv (.pointer (some ⟨p, 0, none⟩)) (fun v1 hv1 => x_field rfl rfl Try.underlying74 rfl (s := 1) (by kernel_rfl) rfl rfl) (Qv (.slice M.la (M.n) (M.lc)) (fun v1 hv1 => x_load1 (x := wdY (.slice M.la (M.n) (M.lc)) (.slice M.aa (M.an) (M.ac))) rfl rfl (by kernel_rfl) (by obtain ⟨qd, rfl⟩ := hv1; exact m8.cel) (i := 0) (by omega) (by omega) rfl) (Qv (.int .i64 ((M.n : Int))) (fun v1 hv1 => x_len rfl rfl rfl (by kernel_rfl)) (Qv (.int .i64 ((o : Int))) (fun v1 hv1 => Fx.x_rem rfl rfl rfl (by omega) (remL eo)) (Qv (.int .i64 ((o : Int))) (fun v1 hv1 => x_assign rfl rfl) (Fx.Qt.nil ?_))))))))))
 rintro _ ⟨qd, rfl⟩
 obtain ⟨wq1, ewq1⟩ : ∃ v1, v1 = World.drewN w2 qd := ⟨_, rfl⟩
 rw [← ewq1]
 have s3 : Fx.Stp w2.heap.size w2 wq1 := by rw [ewq1]; exact Sb (bdrN w2 qd)
 have m14 := m8.stp s3 (Nat.ne_of_lt (m8.lt))
 have m15 := m9.stp s3 (m9.notNew (Nat.le_refl _))
 have m16 := m10.stp s3 (m10.notNew (Nat.le_refl _))
 have m17 := m11.up s3.old
 have m18 := m12.up s3.old
 have m19 := m13.stp s3 (Nat.ne_of_lt (m13.lt))
 have m20 := m7.stp s3 (Nat.ne_of_lt (m7.lt))
 have b3 := b2.then s3 (.inr b2.size)
 clear ewq1
 refine sN (Ws (Ws (Wl (Lv (.pointer (some ⟨g1, 1, none⟩)) (x_field rfl rfl Try.underlying54 rfl (s := 1) (by kernel_rfl) rfl (by show _ + 1 = _; omega)) ?_))))
 by_cases c19 : x.meet = true
 ·refine Lv (.bool true) (x_load1 (x := actY x) rfl rfl (by kernel_rfl) m19.cel (i := 1) (by omega) (by omega) ((show _ = Value.bool x.meet from rfl).trans (congrArg Value.bool c19))) (Ln (sN (Wc (b := true) rfl (fun _ => Ws ?_) (fun h => nomatch h))))
  obtain ⟨r48, er48⟩ : ∃ r, r = x.other % M.n := ⟨_, rfl⟩
  have hr48 : r48 < M.n := by rw [er48]; exact Nat.mod_lt _ (by omega)
  have hLo1 := m17 r48 (by omega)
  have hLo1c := hLo1.c
  have hLo2 := m17 o (by omega)
  -- region 3 draws
  refine Fx.W.reord [0, 1, 2, 4, 5, 6, 7, 9, 12, 13, 14, 16, 17, 18, 20, 23, 24, 25, 3, 8, 10, 11, 15, 19, 21, 22, 26, 27, 28, 29, 30, 31, 32, 33, 34, 35, 36, 37] [0, 0, 0, 1, 0, 0, 0, 0, 4, 0, 0, 4, 0, 0, 0, 4, 0, 0, 0, 4, 0, 4, 0, 0, 0, 0, 4, 0, 0, 0, 4, 0, 0, 0, 4, 2, 0, 3] Fx.Mk Fx.Mk.refl Fx.Mk.trans (certs := [(37, 3, [3]), (35, 8, [11, 10, 8]), (37, 8, [8]), (35, 11, [11]), (37, 11, [11]), (35, 15, [15]), (37, 15, [15]), (35, 19, [34, 33, 32, 31, 30, 29, 19]), (37, 19, [19]), (35, 21, [34, 33, 32, 31, 30, 29, 28, 22, 21]), (37, 21, [21]), (35, 26, [34, 33, 32, 31, 30, 29, 28, 27, 26]), (37, 26, [26]), (35, 30, [34, 33, 32, 31, 30]), (37, 30, [30]), (35, 34, [34]), (37, 34, [34]), (36, 35, [35]), (37, 35, [35])]) (by kernel_rfl) (by kernel_rfl) (by kernel_rfl) (by kernel_rfl) (by kernel_rfl) fun wt1 hbwt1 hzwt1 => ?_
  have s4 : Fx.Stp wq1.heap.size wq1 wt1 := Sb hbwt1
  have m21 := m14.stp s4 (Nat.ne_of_lt (m14.lt))
  have m22 := m15.stp s4 (m15.notNew (Nat.le_refl _))
  have m23 := m16.stp s4 (m16.notNew (Nat.le_refl _))
  have m24 := m17.up s4.old
  have m25 := m19.stp s4 (Nat.ne_of_lt (m19.lt))
  have m26 := m20.stp s4 (Nat.ne_of_lt (m20.lt))
  have m27 := hLo1c.stp s4 (Nat.ne_of_lt (hLo1c.lt))
  have m28 := hLo2.up s4.old
  have b4 := b3.then s4 (.inr b3.size)
  refine Rp (.pointer (some ⟨p, 0, none⟩)) (fun v1 => x_move rfl rfl) (Rp (.pointer (some ⟨p, 0, none⟩)) (fun v1 => x_nil rfl rfl) (Rp (.pointer (some ⟨p, 0, none⟩)) (fun v1 => x_field rfl rfl Try.underlying74 rfl (s := 1) (by kernel_rfl) rfl rfl) (Rp (.int .i64 ((o : Int))) (fun v1 => x_move rfl rfl) (Rp (.pointer (some ⟨p, 0, none⟩)) (fun v1 => x_move rfl rfl) (Rp (.pointer (some ⟨p, 0, none⟩)) (fun v1 => x_nil rfl rfl) (Rp (.pointer (some ⟨p, 0, none⟩)) (fun v1 => x_field rfl rfl Try.underlying74 rfl (s := 1) (by kernel_rfl) rfl rfl) (Rp (.int .i64 ((o : Int))) (fun v1 => x_move rfl rfl) (Rp (.pointer (some ⟨p, 0, none⟩)) (fun v1 => x_move rfl rfl) (Rp (.pointer (some ⟨p, 0, none⟩)) (fun v1 => x_nil rfl rfl) (Rp (.pointer (some ⟨p, 1, none⟩)) (fun v1 => x_field rfl rfl Try.underlying74 rfl (s := 1) (by kernel_rfl) rfl (by show _ + 1 = _; omega)) (Rp (.pointer (some ⟨p, 0, none⟩)) (fun v1 => x_move rfl rfl) (Rp (.pointer (some ⟨p, 0, none⟩)) (fun v1 => x_nil rfl rfl) (Rp (.pointer (some ⟨p, 0, none⟩)) (fun v1 => x_field rfl rfl Try.underlying74 rfl (s := 1) (by kernel_rfl) rfl rfl) (Rp (.pointer (some ⟨g1, 2, none⟩)) (fun v1 => x_field rfl rfl Try.underlying54 rfl (s := 1) (by kernel_rfl) rfl (by show _ + 2 = _; omega)) (Rp (.pointer (some ⟨p, 0, none⟩)) (fun v1 => x_move rfl rfl) (Rp (.pointer (some ⟨p, 0, none⟩)) (fun v1 => x_nil rfl rfl) (Rp (.pointer (some ⟨p, 0, none⟩)) (fun v1 => x_field rfl rfl Try.underlying74 rfl (s := 1) (by kernel_rfl) rfl rfl) (Fx.R.read (v := .slice M.la (M.n) (M.lc)) (by rfl) (by rfl) (Fx.Mk.refl _) (fun v1 hv1 => x_load1 (x := wdY (.slice M.la (M.n) (M.lc)) (.slice M.aa (M.an) (M.ac))) rfl rfl (by kernel_rfl) (m21.cel.below hv1 (by have := m21.lt; omega)) (i := 0) (by omega) (by omega) rfl) ?_))))))))))))))))))
  refine Fx.R.s (.slice M.la (M.n) (M.lc)) (x_load1 (x := wdY (.slice M.la (M.n) (M.lc)) (.slice M.aa (M.an) (M.ac))) rfl rfl (by kernel_rfl) m21.cel (i := 0) (by omega) (by omega) rfl) ?_
  obtain ⟨gq1, eq1⟩ := m22.addr (by omega)
  have m29 : Fx.Own wt1 B 71 1 (.slice (some ⟨gq1, 0, none⟩) M.n M.lc) M.n (ptX M.pl) := m22.congV (congrArg (fun q => Value.slice q M.n M.lc) eq1)
  refine Rp (.pointer (some ⟨gq1, o, none⟩)) (fun v1 => x_indexS rfl (rfl.trans (congrArg (fun q => Value.slice q (M.n) (M.lc)) eq1)) rfl Try.underlying72 (s := 1) (by kernel_rfl) (by omega) (by omega) (by omega)) (Fx.R.s (.pointer (some ⟨(M.pl o), 0, none⟩)) (x_load1 (x := ptX M.pl) rfl rfl (by kernel_rfl) m29.cel (i := o) (by omega) (by omega) rfl) ?_)
  refine Fx.R.s (.slice M.aa (M.an) (M.ac)) (x_load1 (x := wdY (.slice M.la (M.n) (M.lc)) (.slice M.aa (M.an) (M.ac))) rfl rfl (by kernel_rfl) m21.cel (i := 1) (by omega) (by omega) rfl) ?_
  refine Fx.R.s (.slice M.la (M.n) (M.lc)) (x_load1 (x := wdY (.slice M.la (M.n) (M.lc)) (.slice M.aa (M.an) (M.ac))) rfl rfl (by kernel_rfl) m21.cel (i := 0) (by omega) (by omega) rfl) ?_
  refine Fx.R.s (.int .u8 ((x.other : Int))) (x_load1 (x := actY x) rfl rfl (by kernel_rfl) m25.cel (i := 2) (by omega) (by omega) rfl) ?_
  refine Rp (.int .i64 ((x.other : Int))) (fun v1 => x_conv rfl rfl (by kernel_rfl) Try.underlying3 (Fx.i64e (by omega) rfl)) (Fx.R.s (.slice M.la (M.n) (M.lc)) (x_load1 (x := wdY (.slice M.la (M.n) (M.lc)) (.slice M.aa (M.an) (M.ac))) rfl rfl (by kernel_rfl) m21.cel (i := 0) (by omega) (by omega) rfl) ?_)
  refine Rp (.int .i64 ((M.n : Int))) (fun v1 => x_len rfl rfl rfl (by kernel_rfl)) (Rp (.int .i64 ((r48 : Int))) (fun v1 => Fx.x_rem rfl rfl rfl (by omega) (remL er48)) (Rp (.pointer (some ⟨gq1, r48, none⟩)) (fun v1 => x_indexS rfl (rfl.trans (congrArg (fun q => Value.slice q (M.n) (M.lc)) eq1)) rfl Try.underlying72 (s := 1) (by kernel_rfl) (by omega) (by omega) (by omega)) (Fx.R.s (.pointer (some ⟨(M.pl r48), 0, none⟩)) (x_load1 (x := ptX M.pl) rfl rfl (by kernel_rfl) m29.cel (i := r48) (by omega) (by omega) rfl) ?_)))
  refine Rp (.pointer (some ⟨(M.pl r48), 0, none⟩)) (fun v1 => x_nil rfl rfl) (Rp (.pointer (some ⟨(M.pl r48), 0, none⟩)) (fun v1 => x_field rfl rfl Try.underlying70 rfl (s := 20) (by kernel_rfl) rfl rfl) (Rp (.pointer (some ⟨(M.pl r48), 12, none⟩)) (fun v1 => x_field rfl rfl Try.underlying65 rfl (s := 6) (by kernel_rfl) rfl (by show _ + 12 = _; omega)) (Fx.R.s (.agg (Fx.varr 6 (Fx.rv .u64 ((M.ml r48).s.known)))) (x_loadA (x := ldY (M.ml r48)) (y := Fx.rv .u64 ((M.ml r48).s.known)) rfl rfl (by kernel_rfl) (by kernel_rfl) m27.cel (i := 12) (by omega) (by omega) (fun j hj => ldY_st _ (by omega) (stY_known _ hj (by omega)))) ?_)))
  refine Fx.R.make (by rfl) ?_
  refine Fx.L.call (by rfl) (rC (args := [.pointer (some ⟨(M.pl o), 0, none⟩), .slice M.aa (M.an) (M.ac), .agg (Fx.varr 6 (Fx.rv .u64 ((M.ml r48).s.known)))]) rfl rfl Try.func39 rfl rfl) rfl ((l_learn (M.ml o) B (M.pl o) T M.aa M.an M.ac M.ev ((M.ml r48).s.known) _ m28 (hW.inv o (by omega)) m23.arr hW.wf hW.may hW.sm han hT).mono ?_)
  rintro e9 w3 ⟨p3, m3, he, hlc, hI3, hL1, hb1⟩
  refine ⟨.pointer (some ⟨p3, 0, none⟩), he, ?_⟩
  clear he
  have s5 := Sb hb1
  have m30 := m21.stp s5 (Nat.ne_of_lt (m21.lt))
  have m31 := m23.stp s5 (m23.notNew (Nat.le_refl _))
  have m32 := m24.up s5.old
  have m34 := m26.stp s5 (Nat.ne_of_lt (m26.lt))
  have m36 := m29.stpB s5 (Nat.ne_of_lt (m29.lt))
  have b5 := b4.then s5 (.inr b4.size)
  refine Ln ⟨s5.old, ?_⟩
  refine Rp (.pointer (some ⟨gq1, o, none⟩)) (fun v1 => x_indexS rfl (rfl.trans (congrArg (fun q => Value.slice q (M.n) (M.lc)) eq1)) rfl Try.underlying72 (s := 1) (by kernel_rfl) (by omega) (by omega) (by omega)) (Fx.R.eff (by rfl) ?_)
  refine Fx.L.own1 (x := ptX M.pl) (u := .pointer (some ⟨p3, 0, none⟩)) (by rfl) rfl rfl rfl rfl (by rfl) (by kernel_rfl) m36 (i := o) (by omega) fun w4 m37 s6 z3 => ?_
  have hct1 := Fx.ChT.of_stp s6 m36.tyB
  have m38 := m30.chT hct1 (by decide)
  have m39 := m31.chT hct1 (by decide)
  have m40 := m32.chT hct1 (by decide)
  have m42 := m34.chT hct1 (by decide)
  have m44 := hL1.chT hct1 (by decide)
  have b6 := b5.then s6 (.inl (.inr (.inl (by rw [eq1]; rfl))) )
  have m45 : Fx.Own w4 B 71 1 (.slice (some ⟨gq1, 0, none⟩) M.n M.lc) M.n (ptX (updA M.pl o p3)) := m37.congr (fun jq _ => congrFun pt_put jq)
  refine Ln (Fx.R.nil (sN (Ws (Wl (Lv (.agg (Fx.varr 14 (fun zq => if zq < 1 then .int .i64 (0) else if zq < 8 then .int .u64 (0) else if zq < 9 then .int .u8 (0) else if zq < 10 then .int .u64 (0) else if zq < 12 then .int .i64 (0) else .int .u64 (0)))) (x_build (vs := []) (places := #[(0, 1), (1, 1), (2, 6), (8, 1), (9, 1), (10, 1), (11, 1), (12, 1), (13, 1)]) (m := 14) (x := fun zq => if zq < 1 then .int .i64 (0) else if zq < 8 then .int .u64 (0) else if zq < 9 then .int .u8 (0) else if zq < 10 then .int .u64 (0) else if zq < 12 then .int .i64 (0) else .int .u64 (0)) rfl rfl Try.underlying50 (by kernel_rfl) (by kernel_rfl) (by rfl)) (Fx.L.storeA (x := fun zq => if zq < 1 then .int .i64 (0) else if zq < 8 then .int .u64 (0) else if zq < 9 then .int .u8 (0) else if zq < 10 then .int .u64 (0) else if zq < 12 then .int .i64 (0) else .int .u64 (0)) (y := fun zq => if zq < 1 then .int .i64 (0) else if zq < 8 then .int .u64 (0) else if zq < 9 then .int .u8 (0) else if zq < 10 then .int .u64 (0) else if zq < 12 then .int .i64 (0) else .int .u64 (0)) (by rfl) rfl rfl rfl rfl (fun jq _ => by show ((fun zq => if zq < 1 then .int .i64 (0) else if zq < 8 then .int .u64 (0) else if zq < 9 then .int .u8 (0) else if zq < 10 then .int .u64 (0) else if zq < 12 then .int .i64 (0) else .int .u64 (0) : Nat → Value) jq).oneCell' = true; simp only []; repeat (first | rfl | split)) (by kernel_rfl) m42 (i := 0) (by omega) fun w5 m46 s7 z4 => ?_))))))
  have m47 : Fx.Blk w5 g2 14 (fun zq => if zq < 1 then .int .i64 (0) else if zq < 8 then .int .u64 (0) else if zq < 9 then .int .u8 (0) else if zq < 10 then .int .u64 (0) else if zq < 12 then .int .i64 (0) else .int .u64 (0)) 50 := Fx.ovr_all m46
  have hct2 := Fx.ChT.of_stp s7 m42.ty
  have m48 := m38.chT hct2 (by decide)
  have m49 := m39.stp s7 ng2m10
  have m50 := m40.chT hct2 (by decide)
  have m53 := m44.chT hct2 (by decide)
  have m54 := m45.chT hct2 (by decide)
  have b7 := b6.then s7 (.inr lg2)
  refine Ln (sN (Wr (sR (⟨.agg (Fx.varr 14 (fun zq => if zq < 1 then .int .i64 (0) else if zq < 8 then .int .u64 (0) else if zq < 9 then .int .u8 (0) else if zq < 10 then .int .u64 (0) else if zq < 12 then .int .i64 (0) else .int .u64 (0))), rV Try.results18 ⟨_, rfl, Fx.run_loadV m47.cel (by kernel_rfl) (by kernel_rfl)⟩, ?_⟩))))
  have m55 : Fx.Own w5 B 71 1 (.slice M.la (M.n) (M.lc)) M.n (ptX (updA M.pl o p3)) := m54.congV (congrArg (fun q => Value.slice q M.n M.lc) eq1.symm)
  exact ⟨zeroE, congrArg (fun z => Ending.returned (Value.agg z)) (Fx.varr_congr (y := evY zeroE) fun j hj => by rcases j with _|_|_|_|_|_|_|_|_|_|_|_|_|_|j <;> first | rfl | omega), zeroE_wf, { M with pl := updA M.pl o p3, ml := updA M.ml o m3 }, { c := m48, l := m55, a := m49, g := m50.put m53, inv := (fun i hi => by show Inv (updA M.ml o m3 i).core _; unfold updA; split; exact hI3; exact (hW.inv i hi).mono (by omega)), wf := hW.wf, may := hW.may, sm := hW.sm, cz := hW.cz.learn (o := o) (by omega) (L := (M.ml o).core) rfl (fun q hq => by show (updA M.ml o m3 q).s.known = _; unfold updA; rw [if_neg hq]) (by show (updA M.ml o m3 o).s.known = _; unfold updA; rw [if_pos rfl]; exact congrArg LdC.known hlc), pB := hpB, n1 := hn1, n6 := hn6 }, (by rw [← eo]; exact ⟨rfl, fun q hq => by show updA M.ml o m3 q = _; unfold updA; rw [if_neg hq], .inl ⟨rfl, rfl, rfl, .inr ⟨c19, by rw [← er48]; show (updA M.ml o m3 o).core = _; unfold updA; rw [if_pos rfl]; exact hlc⟩⟩⟩), (by show M.an ≤ M.an + 1; omega), (fun _ => rfl), b7, fun _ h => .inl h⟩
 rw [Bool.not_eq_true] at c19
 refine Lv (.bool false) (x_load1 (x := actY x) rfl rfl (by kernel_rfl) m19.cel (i := 1) (by omega) (by omega) ((show _ = Value.bool x.meet from rfl).trans (congrArg Value.bool c19))) (Ln (sN (Wc (b := false) rfl (fun h => nomatch h) (fun _ => Wk (sN (Ws (Wl (Lv (.pointer (some ⟨p, 0, none⟩)) (x_move rfl rfl) (Lv (.agg (Fx.varr 9 (actY x))) (x_loadA (x := actY x) (y := actY x) rfl rfl (by kernel_rfl) (by kernel_rfl) m19.cel (i := 0) (by omega) (by omega) (fun j _ => by rw [Nat.zero_add])) (Fx.L.call (by rfl) (rC (args := [.pointer (some ⟨p, 0, none⟩), .agg (Fx.varr 9 (actY x))]) rfl rfl Try.func40 rfl rfl) rfl ((l_event M B p T x _ m18 hx).mono ?_)))))))))))
 rintro e9 w6 ⟨V, hV, hVs, hVd, he, hb2⟩
 refine ⟨_, he, ?_⟩
 clear he
 rw [← eo] at hVd
 have s8 := Sb hb2
 have m56 := m14.stp s8 (Nat.ne_of_lt (m14.lt))
 have m57 := m15.stp s8 (m15.notNew (Nat.le_refl _))
 have m58 := m16.stp s8 (m16.notNew (Nat.le_refl _))
 have m59 := m17.up s8.old
 have m61 := m19.stp s8 (Nat.ne_of_lt (m19.lt))
 have m62 := m20.stp s8 (Nat.ne_of_lt (m20.lt))
 have b8 := b3.then s8 (.inr b3.size)
 refine Fx.L.new (m := 14) (y := fun zq => if zq < 1 then .int .i64 (0) else if zq < 8 then .int .u64 (0) else if zq < 9 then .int .u8 (0) else if zq < 10 then .int .u64 (0) else if zq < 12 then .int .i64 (0) else .int .u64 (0)) (by rfl) rfl (by kernel_rfl) rfl fun g3 w7 eg3 m63 s9 z5 => ?_
 have m64 := m56.stp s9 (Nat.ne_of_lt (m56.lt))
 have m65 := m57.stp s9 (m57.notNew (Nat.le_refl _))
 have m66 := m58.stp s9 (m58.notNew (Nat.le_refl _))
 have m67 := m59.up s9.old
 have m68 := m61.stp s9 (Nat.ne_of_lt (m61.lt))
 have m69 := m62.stp s9 (Nat.ne_of_lt (m62.lt))
 have b9 := b8.then s9 (.inr b8.size)
 have lg3 : w.heap.size ≤ g3 := by rw [eg3]; exact b8.size
 have ng3m64 : p ≠ g3 := by rw [eg3]; exact Nat.ne_of_lt (m56.lt)
 have ng3m66 : (.slice M.aa (M.an) (M.ac) : Value).ownBlock ≠ some g3 := by rw [eg3]; exact m58.notNew (Nat.le_refl _)
 have ng3m68 : g1 ≠ g3 := by rw [eg3]; exact Nat.ne_of_lt (m61.lt)
 have ng3m69 : g2 ≠ g3 := by rw [eg3]; exact Nat.ne_of_lt (m62.lt)
 have tg3 : g3 < w7.heap.size := m63.lt
 clear eg3
 refine Fx.L.storeA (x := fun zq => if zq < 1 then .int .i64 (0) else if zq < 8 then .int .u64 (0) else if zq < 9 then .int .u8 (0) else if zq < 10 then .int .u64 (0) else if zq < 12 then .int .i64 (0) else .int .u64 (0)) (y := evY V) (by rfl) rfl rfl rfl rfl (evY_one _) (by kernel_rfl) m63 (i := 0) (by omega) fun w8 m70 s10 z6 => ?_
 have m71 : Fx.Blk w8 g3 14 (evY V) 50 := Fx.ovr_all m70
 have hct3 := Fx.ChT.of_stp s10 m63.ty
 have m72 := m64.chT hct3 (by decide)
 have m73 := m65.chT hct3 (by decide)
 have m74 := m66.stp s10 ng3m66
 have m75 := m67.chT hct3 (by decide)
 have m76 := m68.chT hct3 (by decide)
 have m77 := m69.stp s10 (by omega)
 have b10 := b9.then s10 (.inr lg3)
 refine Ln (sN (Ws ?_))
 have hLo3 := m75 o (by omega)
 -- region 6 draws
 refine Fx.W.reord [0, 1, 2, 4, 3, 5, 6, 7, 8, 9, 10, 11, 12, 13] [0, 0, 0, 4, 0, 0, 4, 4, 3, 0, 0, 0, 0, 0] Fx.Mk Fx.Mk.refl Fx.Mk.trans (certs := [(8, 3, [6, 5, 3]), (8, 6, [6]), (8, 7, [7]), (9, 8, [8]), (10, 8, [9, 8]), (11, 8, [9, 8]), (12, 8, [8]), (13, 8, [8])]) (by kernel_rfl) (by kernel_rfl) (by kernel_rfl) (by kernel_rfl) (by kernel_rfl) fun wt2 hbwt2 hzwt2 => ?_
 have s11 : Fx.Stp w8.heap.size w8 wt2 := Sb hbwt2
 have m78 := m72.stp s11 (Nat.ne_of_lt (m72.lt))
 have m79 := m73.stp s11 (m73.notNew (Nat.le_refl _))
 have m80 := m74.stp s11 (m74.notNew (Nat.le_refl _))
 have m81 := m75.up s11.old
 have m82 := m76.stp s11 (Nat.ne_of_lt (m76.lt))
 have m83 := m77.stp s11 (Nat.ne_of_lt (m77.lt))
 have m84 := m71.stp s11 (Nat.ne_of_lt (m71.lt))
 have m85 := hLo3.up s11.old
 have b11 := b10.then s11 (.inr b10.size)
 refine Rp (.pointer (some ⟨p, 0, none⟩)) (fun v1 => x_move rfl rfl) (Rp (.pointer (some ⟨p, 0, none⟩)) (fun v1 => x_nil rfl rfl) (Rp (.pointer (some ⟨p, 0, none⟩)) (fun v1 => x_field rfl rfl Try.underlying74 rfl (s := 1) (by kernel_rfl) rfl rfl) (Rp (.int .i64 ((o : Int))) (fun v1 => x_move rfl rfl) (Fx.R.s (.slice M.la (M.n) (M.lc)) (x_load1 (x := wdY (.slice M.la (M.n) (M.lc)) (.slice M.aa (M.an) (M.ac))) rfl rfl (by kernel_rfl) m78.cel (i := 0) (by omega) (by omega) rfl) ?_))))
 obtain ⟨gq2, eq2⟩ := m79.addr (by omega)
 have m86 : Fx.Own wt2 B 71 1 (.slice (some ⟨gq2, 0, none⟩) M.n M.lc) M.n (ptX M.pl) := m79.congV (congrArg (fun q => Value.slice q M.n M.lc) eq2)
 refine Rp (.pointer (some ⟨gq2, o, none⟩)) (fun v1 => x_indexS rfl (rfl.trans (congrArg (fun q => Value.slice q (M.n) (M.lc)) eq2)) rfl Try.underlying72 (s := 1) (by kernel_rfl) (by omega) (by omega) (by omega)) (Fx.R.s (.pointer (some ⟨(M.pl o), 0, none⟩)) (x_load1 (x := ptX M.pl) rfl rfl (by kernel_rfl) m86.cel (i := o) (by omega) (by omega) rfl) ?_)
 refine Fx.R.s (.agg (Fx.varr 14 (evY V))) (x_loadA (x := evY V) (y := evY V) rfl rfl (by kernel_rfl) (by kernel_rfl) m84.cel (i := 0) (by omega) (by omega) (fun j _ => by rw [Nat.zero_add])) ?_
 refine Fx.R.eff (by rfl) ?_
 refine Fx.L.call (by rfl) (rC (args := [.pointer (some ⟨(M.pl o), 0, none⟩), .agg (Fx.varr 14 (evY V))]) rfl rfl Try.func41 rfl rfl) rfl ((l_apply (M.ml o) B (M.pl o) T V _ m85 hV (hW.inv o (by omega)).w (by omega)).mono ?_)
 rintro e9 w9 ⟨p3, m3, he, hc3, hL2, hb3⟩
 refine ⟨.tuple #[.pointer (some ⟨p3, 0, none⟩), .int .i64 (applyE (M.ml o).core V)], he, ?_⟩
 clear he
 have s12 := Sb hb3
 have m87 := m78.stp s12 (Nat.ne_of_lt (m78.lt))
 have m88 := m80.stp s12 (m80.notNew (Nat.le_refl _))
 have m89 := m81.up s12.old
 have m90 := m82.stp s12 (Nat.ne_of_lt (m82.lt))
 have m91 := m83.stp s12 (Nat.ne_of_lt (m83.lt))
 have m92 := m84.stp s12 (Nat.ne_of_lt (m84.lt))
 have m93 := m86.stpB s12 (Nat.ne_of_lt (m86.lt))
 have b12 := b11.then s12 (.inr b11.size)
 refine Ln (Rp (.tuple #[.pointer (some ⟨p3, 0, none⟩), .int .i64 (applyE (M.ml o).core V)]) (fun v1 => x_move rfl rfl) (Rp (.pointer (some ⟨p3, 0, none⟩)) (fun v1 => Fx.x_extract rfl rfl rfl) (Rp (.int .i64 (applyE (M.ml o).core V)) (fun v1 => Fx.x_extract rfl rfl rfl) (Rp (.pointer (some ⟨p3, 0, none⟩)) (fun v1 => x_assign rfl rfl) (Rp (.int .i64 (applyE (M.ml o).core V)) (fun v1 => x_assign rfl rfl) (Fx.R.nil (sN (Ws (Ws (Wl (Lv (.int .i64 (applyE (M.ml o).core V)) (x_move rfl rfl) ?_)))))))))))
 by_cases c74 : (applyE (M.ml o).core V) = 0
 ·refine Lv (.bool false) (Fx.x_neqF rfl rfl rfl c74) (Ln (sN (Wc (b := false) rfl (fun h => nomatch h) (fun _ => Wk (sN (Ws (Wl (Lv (.pointer (some ⟨p, 0, none⟩)) (x_move rfl rfl) (Lv (.pointer (some ⟨p, 0, none⟩)) (x_nil rfl rfl) (Lv (.pointer (some ⟨p, 0, none⟩)) (x_field rfl rfl Try.underlying74 rfl (s := 1) (by kernel_rfl) rfl rfl) (Lv (.slice M.la (M.n) (M.lc)) (x_load1 (x := wdY (.slice M.la (M.n) (M.lc)) (.slice M.aa (M.an) (M.ac))) rfl rfl (by kernel_rfl) m87.cel (i := 0) (by omega) (by omega) rfl) (Lv (.int .i64 ((o : Int))) (x_move rfl rfl) (Lv (.pointer (some ⟨p3, 0, none⟩)) (x_move rfl rfl) (Lv (.pointer (some ⟨gq2, o, none⟩)) (x_indexS rfl (rfl.trans (congrArg (fun q => Value.slice q (M.n) (M.lc)) eq2)) rfl Try.underlying72 (s := 1) (by kernel_rfl) (by omega) (by omega) (by omega)) (Fx.L.own1 (x := ptX M.pl) (u := .pointer (some ⟨p3, 0, none⟩)) (by rfl) rfl rfl rfl rfl (by rfl) (by kernel_rfl) m93 (i := o) (by omega) fun w10 m94 s13 z7 => ?_)))))))))))))))
  have hct4 := Fx.ChT.of_stp s13 m93.tyB
  have m95 := m87.chT hct4 (by decide)
  have m96 := m88.chT hct4 (by decide)
  have m97 := m89.chT hct4 (by decide)
  have m98 := m90.chT hct4 (by decide)
  have m99 := m91.chT hct4 (by decide)
  have m100 := m92.chT hct4 (by decide)
  have m101 := hL2.chT hct4 (by decide)
  have b13 := b12.then s13 (.inl (.inr (.inl (by rw [eq2]; rfl))) )
  have m102 : Fx.Own w10 B 71 1 (.slice (some ⟨gq2, 0, none⟩) M.n M.lc) M.n (ptX (updA M.pl o p3)) := m94.congr (fun jq _ => congrFun pt_put jq)
  refine Ln (sN (Ws ?_))
  have m103 : Fx.Own w10 B 71 1 (.slice M.la (M.n) (M.lc)) M.n (ptX (updA M.pl o p3)) := m102.congV (congrArg (fun q => Value.slice q M.n M.lc) eq2.symm)
  -- region 10 draws
  refine Fx.W.reord [0, 1, 2, 3, 4, 5, 6, 7, 8, 9, 10] [0, 0, 0, 0, 1, 4, 2, 2, 0, 0, 3] (Fx.ChT [50]) Fx.ChT.refl Fx.ChT.trans (certs := [(10, 4, [4]), (6, 5, [5]), (7, 5, [6, 5]), (10, 5, [5]), (7, 6, [6]), (8, 6, [6]), (9, 6, [6]), (10, 6, [6]), (8, 7, [7]), (9, 7, [7]), (10, 7, [7])]) (by kernel_rfl) (by kernel_rfl) (by kernel_rfl) (by kernel_rfl) (by kernel_rfl) fun wt3 hbwt3 hzwt3 => ?_
  have s14 : Fx.Stp w10.heap.size w10 wt3 := Sb hbwt3
  have m104 := m95.stp s14 (Nat.ne_of_lt (m95.lt))
  have m105 := m96.stp s14 (m96.notNew (Nat.le_refl _))
  have m106 := m97.up s14.old
  have m107 := m98.stp s14 (Nat.ne_of_lt (m98.lt))
  have m108 := m99.stp s14 (Nat.ne_of_lt (m99.lt))
  have m109 := m100.stp s14 (Nat.ne_of_lt (m100.lt))
  have m110 := m101.up s14.old
  have m111 := m103.stp s14 (m103.notNew (Nat.le_refl _))
  have b14 := b13.then s14 (.inr b13.size)
  refine Rp (.pointer (some ⟨p, 0, none⟩)) (fun v1 => x_move rfl rfl) (Rp (.pointer (some ⟨p, 0, none⟩)) (fun v1 => x_move rfl rfl) (Rp (.pointer (some ⟨p, 0, none⟩)) (fun v1 => x_nil rfl rfl) (Rp (.pointer (some ⟨p, 1, none⟩)) (fun v1 => x_field rfl rfl Try.underlying74 rfl (s := 1) (by kernel_rfl) rfl (by show _ + 1 = _; omega)) (Fx.R.read (v := .slice M.aa (M.an) (M.ac)) (by rfl) (by rfl) (Fx.ChT.refl _) (fun v1 hv1 => x_load1 (x := wdY (.slice M.la (M.n) (M.lc)) (.slice M.aa (M.an) (M.ac))) rfl rfl (by kernel_rfl) (m104.chT hv1 (by decide)).cel (i := 1) (by omega) (by omega) rfl) ?_))))
  refine Fx.R.s (.agg (Fx.varr 14 (evY V))) (x_loadA (x := evY V) (y := evY V) rfl rfl (by kernel_rfl) (by kernel_rfl) m109.cel (i := 0) (by omega) (by omega) (fun j _ => by rw [Nat.zero_add])) ?_
  refine Fx.R.make (by rfl) ?_
  refine Fx.L.bslice (vs := [(0, .agg (Fx.varr 14 (evY V)))]) (s := 14) (zc := fun zq => if zq < 1 then .int .i64 (0) else if zq < 8 then .int .u64 (0) else if zq < 9 then .int .u8 (0) else if zq < 10 then .int .u64 (0) else if zq < 12 then .int .i64 (0) else .int .u64 (0)) (y := Fx.ovr (fun j => (fun zq => if zq < 1 then .int .i64 (0) else if zq < 8 then .int .u64 (0) else if zq < 9 then .int .u8 (0) else if zq < 10 then .int .u64 (0) else if zq < 12 then .int .i64 (0) else .int .u64 (0)) (j % 14)) (0 * 14) 14 (evY V)) (by rfl) rfl rfl Try.underlying46 (by kernel_rfl) (by rfl) (by rfl) (by kernel_rfl) (by rw [Fx.fill_step (off := 0 * 14) (s := 14) (y := evY V) rfl (Fx.cells_agg _ _) (by rfl)]; rfl) rfl fun g4 w11 eg4 m112 s15 z8 => ?_
  have m113 := m104.stp s15 (Nat.ne_of_lt (m104.lt))
  have m114 := m105.stp s15 (m105.notNew (Nat.le_refl _))
  have m115 := m106.up s15.old
  have m117 := m108.stp s15 (Nat.ne_of_lt (m108.lt))
  have m118 := m109.stp s15 (Nat.ne_of_lt (m109.lt))
  have m119 := m110.up s15.old
  have m120 := m111.stp s15 (m111.notNew (Nat.le_refl _))
  have b15 := b14.then s15 (.inr b14.size)
  have lg4 : w.heap.size ≤ g4 := by rw [eg4]; exact b14.size
  have ng4m113 : p ≠ g4 := by rw [eg4]; exact Nat.ne_of_lt (m104.lt)
  have ng4m114 : (.slice M.aa (M.an) (M.ac) : Value).ownBlock ≠ some g4 := by rw [eg4]; exact m105.notNew (Nat.le_refl _)
  have ng4m116 : g1 ≠ g4 := by rw [eg4]; exact Nat.ne_of_lt (m107.lt)
  have ng4m117 : g2 ≠ g4 := by rw [eg4]; exact Nat.ne_of_lt (m108.lt)
  have ng4m118 : g3 ≠ g4 := by rw [eg4]; exact Nat.ne_of_lt (m109.lt)
  have tg4 : g4 < w11.heap.size := m112.lt
  clear eg4
  refine Ln ⟨Fx.ChT.of_below s15.old, ?_⟩
  refine Fx.R.make (by rfl) ?_
  refine Fx.L.app (B := B) (s := 14) (bytes := 112) (k := M.an) (m := 1) (v := .slice M.aa (M.an) (M.ac)) (x := evX M.ev) (by rfl) rfl rfl rfl Try.underlying46 (by kernel_rfl) (by kernel_rfl) rfl rfl m114 m112.cel (ovr_one (fun j => (show (evY V j).oneCell' = true by unfold evY; repeat (first | rfl | split)))) (by omega) (by omega) (by omega) (Nat.le_trans hB b15.size) fun g5 cap1 w12 ho1 hg1 hgv1 hlt1 => ?_
  have hct5 := Fx.ChT.of_grown hg1 m114
  have m122 := m113.chT hct5 (by decide)
  have m123 := m115.chT hct5 (by decide)
  have m125 := m117.grown hg1 ng2m10
  have ng5m125 : g2 ≠ g5 := fun e => hgv1.elim (fun e2 => ng2m10 (by rw [e]; exact e2)) (fun e2 => by have := m117.lt; omega)
  have m126 := m118.grown hg1 ng3m66
  have ng5m126 : g3 ≠ g5 := fun e => hgv1.elim (fun e2 => ng3m66 (by rw [e]; exact e2)) (fun e2 => by have := m118.lt; omega)
  have m127 := m119.chT hct5 (by decide)
  have m128 := m120.chT hct5 (by decide)
  have m121 : Fx.Own w12 B 50 14 (.slice (some ⟨g5, 0, none⟩) (M.an + 1) cap1) (M.an + 1) (evX (updA M.ev M.an V)) := (ho1.congr (fun j hj => ev_app j hj))
  have b16 : Fx.Chg (wdS p M) w w12 := Fx.Chg.grow b15 hg1 (fun q hq => .inl (.inr (.inr hq)))
  refine Ln ⟨hct5, ?_⟩
  refine Rp (.pointer (some ⟨p, 0, none⟩)) (fun v1 => x_nil rfl rfl) (Rp (.pointer (some ⟨p, 1, none⟩)) (fun v1 => x_field rfl rfl Try.underlying74 rfl (s := 1) (by kernel_rfl) rfl (by show _ + 1 = _; omega)) (Fx.R.eff (by rfl) ?_))
  refine Fx.L.store1 (x := wdY (.slice M.la (M.n) (M.lc)) (.slice M.aa (M.an) (M.ac))) (u := .slice (some ⟨g5, 0, none⟩) (M.an + 1) (cap1)) (by rfl) rfl rfl rfl rfl (by rfl) (by kernel_rfl) m122 (i := 1) (by omega) fun w13 m129 s16 z9 => ?_
  have m130 : Fx.Blk w13 p 2 (wdY (.slice M.la (M.n) (M.lc)) (.slice (some ⟨g5, 0, none⟩) (M.an + 1) (cap1))) 74 := m129.congr (wdY_1 _ _ _)
  have hct6 := Fx.ChT.of_stp s16 m122.ty
  have m131 := m123.chT hct6 (by decide)
  have m133 := m125.chT hct6 (by decide)
  have m134 := m126.chT hct6 (by decide)
  have m135 := m127.chT hct6 (by decide)
  have m136 := m128.chT hct6 (by decide)
  have m137 := m121.chT hct6 (by decide)
  have b17 := b16.then s16 (.inl (.inl rfl))
  refine Ln (Fx.R.nil (sN (Ws (Wl (Lv (.agg (Fx.varr 14 (evY V))) (x_loadA (x := evY V) (y := evY V) rfl rfl (by kernel_rfl) (by kernel_rfl) m134.cel (i := 0) (by omega) (by omega) (fun j _ => by rw [Nat.zero_add])) (Fx.L.storeA (x := fun zq => if zq < 1 then .int .i64 (0) else if zq < 8 then .int .u64 (0) else if zq < 9 then .int .u8 (0) else if zq < 10 then .int .u64 (0) else if zq < 12 then .int .i64 (0) else .int .u64 (0)) (y := evY V) (by rfl) rfl rfl rfl rfl (evY_one _) (by kernel_rfl) m133 (i := 0) (by omega) fun w14 m138 s17 z10 => ?_))))))
  have m139 : Fx.Blk w14 g2 14 (evY V) 50 := Fx.ovr_all m138
  have hct7 := Fx.ChT.of_stp s17 m133.ty
  have m140 := m131.chT hct7 (by decide)
  have m142 := m134.stp s17 (by omega)
  have m143 := m135.chT hct7 (by decide)
  have m144 := m136.chT hct7 (by decide)
  have m145 := m137.stpB s17 (by omega)
  have m146 := m130.chT hct7 (by decide)
  have b18 := b17.then s17 (.inr lg2)
  refine Ln (sN (Wr (⟨.agg (Fx.varr 14 (evY V)), rV Try.results18 ⟨_, rfl, Fx.run_loadV m139.cel (by kernel_rfl) (by kernel_rfl)⟩, ?_⟩)))
  have hinv : Inv m3.core (T + 3660) := by rw [hc3]; exact (inv_apply hVs (hW.inv o (by omega))).mono (by omega)
  have eRo : regN V = o := by unfold regN; omega
  have hk3 : m3.s.known = updA (M.ml o).s.known o ((M.ml o).s.known o + 1) := (congrArg LdC.known hc3).trans (by rw [applyC_kn c74, eRo]; rfl)
  exact ⟨V, rfl, hV, { M with pl := updA M.pl o p3, ml := updA M.ml o m3, an := M.an + 1, aa := some ⟨g5, 0, none⟩, ac := cap1, ev := updA M.ev M.an V }, { c := m146, l := m144, a := m145, g := m140.put m143, inv := (fun i hi => by show Inv (updA M.ml o m3 i).core _; unfold updA; split; exact hinv; exact (hW.inv i hi).mono (by omega)), wf := (fun k hk => by have hk2 : k < M.an + 1 := hk; show EvWf (updA M.ev M.an V k); unfold updA; split; exact hV; exact hW.wf k (by omega)), may := (fun k hk => by have hk2 : k < M.an + 1 := hk; show mayE (updA M.ev M.an V k) = true; unfold updA; split; exact apply_may c74; exact hW.may k (by omega)), sm := (fun k hk => by have hk2 : k < M.an + 1 := hk; show EvSm (updA M.ev M.an V k); unfold updA; split; exact hVs; exact hW.sm k (by omega)), cz := hW.cz.event (o := o) (by omega) (apply_ready c74) eRo hVd.2.2 (fun q hq => by show (updA M.ml o m3 q).s.known = _; unfold updA; rw [if_neg hq]) (by show (updA M.ml o m3 o).s.known = _; unfold updA; rw [if_pos rfl]; exact hk3), pB := hpB, n1 := hn1, n6 := hn6 }, (by rw [← eo]; exact ⟨rfl, fun q hq => by show updA M.ml o m3 q = _; unfold updA; rw [if_neg hq], .inr ⟨c19, rfl, rfl, c74, by show (updA M.ml o m3 o).core = _; unfold updA; rw [if_pos rfl]; exact hc3, hVd⟩⟩), Nat.le_refl _, (fun hq => by rw [c19] at hq; cases hq), b18, SepW.app hgv1 b15.size⟩
 refine Lv (.bool true) (Fx.x_neqT rfl rfl rfl c74) (Ln (sN (Wc (b := true) rfl (fun _ => Ws (Wl (Lv (.agg (Fx.varr 14 (fun zq => if zq < 1 then .int .i64 (0) else if zq < 8 then .int .u64 (0) else if zq < 9 then .int .u8 (0) else if zq < 10 then .int .u64 (0) else if zq < 12 then .int .i64 (0) else .int .u64 (0)))) (x_build (vs := []) (places := #[(0, 1), (1, 1), (2, 6), (8, 1), (9, 1), (10, 1), (11, 1), (12, 1), (13, 1)]) (m := 14) (x := fun zq => if zq < 1 then .int .i64 (0) else if zq < 8 then .int .u64 (0) else if zq < 9 then .int .u8 (0) else if zq < 10 then .int .u64 (0) else if zq < 12 then .int .i64 (0) else .int .u64 (0)) rfl rfl Try.underlying50 (by kernel_rfl) (by kernel_rfl) (by rfl)) ?_))) (fun h => nomatch h))))
 refine Fx.L.storeA (x := fun zq => if zq < 1 then .int .i64 (0) else if zq < 8 then .int .u64 (0) else if zq < 9 then .int .u8 (0) else if zq < 10 then .int .u64 (0) else if zq < 12 then .int .i64 (0) else .int .u64 (0)) (y := fun zq => if zq < 1 then .int .i64 (0) else if zq < 8 then .int .u64 (0) else if zq < 9 then .int .u8 (0) else if zq < 10 then .int .u64 (0) else if zq < 12 then .int .i64 (0) else .int .u64 (0)) (by rfl) rfl rfl rfl rfl (fun jq _ => by show ((fun zq => if zq < 1 then .int .i64 (0) else if zq < 8 then .int .u64 (0) else if zq < 9 then .int .u8 (0) else if zq < 10 then .int .u64 (0) else if zq < 12 then .int .i64 (0) else .int .u64 (0) : Nat → Value) jq).oneCell' = true; simp only []; repeat (first | rfl | split)) (by kernel_rfl) m91 (i := 0) (by omega) fun w15 m147 s18 z11 => ?_
 have m148 : Fx.Blk w15 g2 14 (fun zq => if zq < 1 then .int .i64 (0) else if zq < 8 then .int .u64 (0) else if zq < 9 then .int .u8 (0) else if zq < 10 then .int .u64 (0) else if zq < 12 then .int .i64 (0) else .int .u64 (0)) 50 := Fx.ovr_all m147
 have hct8 := Fx.ChT.of_stp s18 m91.ty
 have m149 := m87.chT hct8 (by decide)
 have m150 := m88.stp s18 ng2m10
 have m151 := m89.chT hct8 (by decide)
 have m153 := m92.stp s18 (by omega)
 have m154 := m93.chT hct8 (by decide)
 have b19 := b12.then s18 (.inr lg2)
 refine Ln (sN (Wr (sR (⟨.agg (Fx.varr 14 (fun zq => if zq < 1 then .int .i64 (0) else if zq < 8 then .int .u64 (0) else if zq < 9 then .int .u8 (0) else if zq < 10 then .int .u64 (0) else if zq < 12 then .int .i64 (0) else .int .u64 (0))), rV Try.results18 ⟨_, rfl, Fx.run_loadV m148.cel (by kernel_rfl) (by kernel_rfl)⟩, ?_⟩))))
 have m156 : Fx.Own w15 B 71 1 (.slice M.la (M.n) (M.lc)) M.n (ptX M.pl) := m154.congV (congrArg (fun q => Value.slice q M.n M.lc) eq2.symm)
 exact ⟨zeroE, congrArg (fun z => Ending.returned (Value.agg z)) (Fx.varr_congr (y := evY zeroE) fun j hj => by rcases j with _|_|_|_|_|_|_|_|_|_|_|_|_|_|j <;> first | rfl | omega), zeroE_wf, M, { c := m149, l := m156, a := m150, g := m151, inv := fun i hi => (hW.inv i hi).mono (by omega), wf := hW.wf, may := hW.may, sm := hW.sm, cz := hW.cz, pB := hpB, n1 := hn1, n6 := hn6 }, ⟨rfl, fun _ _ => rfl, .inl ⟨rfl, rfl, rfl, .inl rfl⟩⟩, by omega, (fun _ => rfl), b19, fun _ h => .inl h⟩
end Go.Proofs.Ytleajegppehbdaa
namespace Go.Proofs.Ytleajegppehbdaa
open Go.RowKit
namespace Fx
section
variable {S S' : Nat → Prop}
theorem Chg.trans (w w' w2 : World) (h : Chg S w w') (k : Chg S w' w2) : Chg S w w2 := ⟨k.os.trans h.os, k.tape.trans h.tape, k.output.trans h.output, Nat.le_trans h.size k.size, fun i hi hS => (k.block i (Nat.lt_of_lt_of_le hi h.size) hS).trans (h.block i hi hS)⟩
theorem Chg.mono {w w' : World} (h : Chg S w w') (hS : ∀ k, S k → S' k) : Chg S' w w' := ⟨h.os, h.tape, h.output, h.size, fun i hi hn => h.block i hi fun hs => hn (hS i hs)⟩
theorem Chg.of_stp {g : Nat} {w w' : World} (h : Stp g w w') : Chg (fun k => k = g) w w' := (Chg.refl _ w).then h (.inl rfl)
end
end Fx
end Go.Proofs.Ytleajegppehbdaa
namespace Go.Proofs.Ytleajegppehbdaa
open Go.RowKit Rt
open Fx (x_move x_assign x_field x_load1 x_pickF x_pickT x_nil x_conv x_indexS x_index x_leqF x_loadA x_len x_gtrF x_build x_eqlF x_eqlT Lv sN Ln Ws Qv Wl Rp Wc Qs Wr Sb Lk Wk rC rV sR)
section
theorem l_newWorld2 (n : Nat) (m : Int) (w : World) (hm : m = (n : Int)) (hn1 : 1 ≤ n) (hn6 : n ≤ 6) :
    Calls Try.prog 16 #[.int .i64 m] w fun e w' => ∃ p M, e = .returned (.pointer (some ⟨p, 0, none⟩)) ∧ M.n = n ∧ M.an = 0 ∧ WldO w' w.heap.size p M 0 ∧ Below w.heap.size w w' := by
  subst hm; exact (l_newWorld n w hn1 hn6).mono fun _ _ ⟨p, M, h1, h2, h3, _, h4, h5⟩ => ⟨p, M, h1, h2, h3, h4, h5⟩
theorem bchB {B : Nat} {w0 w1 w2 : World} (h : Below w0.heap.size w0 w1) (hb : Below B w1 w2) (hB : w0.heap.size ≤ B) : Below w0.heap.size w0 w2 := h.trans (hb.mono hB)
namespace Rt
structure LTw (m : LgM) (r : RlM) (G : List ItM) : Prop where
  g : Gs m G
  R : r.R = G.map ItM.e
  K : r.K = m.K
def r0 : RlM := ⟨none, 0, [], fun _ => 0⟩
theorem LTw.new : LTw newL r0 [] := ⟨Gs.new, rfl, rfl⟩
section
variable {m m' : LgM} {r r' : RlM} {G : List ItM} {v : EvM} {V : Nat → Int}
theorem LTw.add (h : LTw m r G) (ha : addG m v = 0) (hr : AddR m m' v) (hv : EvWf v) (h1 : r'.R = r.R ++ [v]) (h2 : r'.K = upd r.K (regN v) v.seq) : LTw m' r' (G ++ [⟨v, m.cnt⟩]) :=
  ⟨h.g.add ha hr hv, by rw [h1, h.R, List.map_append]; rfl, by rw [h2, hr.1, h.K]⟩
theorem RlO.chg {w w' : World} {B q T : Nat} {S : Nat → Prop} (h : RlO w B q r T) (hs : Fx.Chg S w w') (ne : ∀ k, rlS q r k → ¬ S k) : RlO w' B q r T := { h with blk := h.blk.chg hs (ne q (.inl rfl)), own := h.own.chg hs fun g hg => ne g (.inr hg) }
theorem keep_map (V : Nat → Int) (G : List ItM) : (G.filter (keepB V)).map ItM.e = (G.map ItM.e).filter (keepE V) := by
  rw [List.filter_map]; rfl
theorem LTw.len (h : LTw m r G) : ((lenN m 6 : Nat) : Int) = ((r.R.length : Nat) : Int) := by rw [h.g.len, h.R, List.length_map]
theorem LTw.get (h : LTw m r G) {i q : Int} {v v' : EvM} {b b' : Bool} (hg : GetR m i q v b) (hr : RGetR r.R i q v' b') : v = v' ∧ b = b' := by
  rcases h.g.get hg with ⟨rfl, x, hx, rfl, h1, h2⟩ | ⟨rfl, rfl, h3⟩ <;> rcases hr with ⟨rfl, hv, h4, h5⟩ | ⟨rfl, rfl, h6⟩
  · refine ⟨?_, rfl⟩
    rw [h.R] at hv
    obtain ⟨y, hy, rfl⟩ := List.mem_map.1 hv
    rw [h.g.uniq hx hy (h1.trans h4.symm) (h2.trans h5.symm)]
  · exact absurd ⟨h1, h2⟩ (h6 x.e (by rw [h.R]; exact List.mem_map_of_mem hx))
  · rw [h.R] at hv
    obtain ⟨y, hy, rfl⟩ := List.mem_map.1 hv
    exact absurd ⟨h4, h5⟩ (h3 y hy)
  exact ⟨rfl, rfl⟩
theorem LTw.addE (h : LTw m r G) : addK r.K v = addG m v := by rw [addG_K, h.K]
def sinR (r : RlM) (V : Nat → Int) (most : Int) : List EvM := (r.R.filter (keepE V)).take most.toNat
theorem LTw.sinW (h : LTw m r G) {most : Int} : ∀ i, i < (sinR r V most).length → EvWf ((sinR r V most).getD i zeroE) := fun i hi => by
  have h1 := getD_mem hi
  have h2 := (List.mem_filter.1 (List.mem_of_mem_take h1)).1
  rw [h.R] at h2
  obtain ⟨y, hy, e⟩ := List.mem_map.1 h2
  rw [← e]; exact h.g.wf y hy
theorem sinR_len {most : Int} : (sinR r V most).length ≤ r.R.length := Nat.le_trans (by unfold sinR; rw [List.length_take]; exact Nat.min_le_right _ _) (List.length_filter_le _ _)
theorem take_get {l : List ItM} {n k : Nat} (h : k < n) (hn : n ≤ l.length) : (l.getD k it0).e = ((l.map ItM.e).take n).getD k zeroE := by
  rw [List.getD_eq_getElem?_getD, List.getD_eq_getElem?_getD, List.getElem?_take, if_pos h, List.getElem?_map, List.getElem?_eq_getElem (by omega)]; rfl
end
end Rt
open Rt
theorem t_since (V : Nat → Int) (most : Int) {m : LgM} {B p T : Nat} {w : World} {r : RlM} {G : List ItM} (h : LgO w B p m T) (hT : T ≤ 100000) (tw : LTw m r G) :
    Calls Try.prog 29 #[.pointer (some ⟨p, 0, none⟩), .agg (Fx.varr 6 (Fx.rv .u64 V)), .int .i64 (most)] w fun e w' => ∃ a c, e = .returned (.slice a (sinR r V most).length c) ∧ Fx.Own w' w.heap.size 50 14 (.slice a (sinR r V most).length c) (sinR r V most).length (evL (sinR r V most)) ∧ Below w.heap.size w w' :=
  (o_since V most m B p T w h hT tw.g.seqUp).mono fun e w' ⟨a, n, c, l, he, ho, hs, hb⟩ => by
    obtain ⟨e1, e2⟩ := tw.g.since hs
    have e3 : n = (sinR r V most).length := by unfold sinR; rw [e2, tw.R, ← keep_map, List.length_take, List.length_map]
    have e4 : n ≤ (G.filter (keepB V)).length := by rw [e2]; exact Nat.min_le_right _ _
    have e5 : sinR r V most = ((G.filter (keepB V)).map ItM.e).take most.toNat := by unfold sinR; rw [tw.R, ← keep_map]
    rw [← e3]
    refine ⟨a, c, he, ho.congr (Fx.flat_cong fun k hk j hj => ?_), hb⟩
    have e6 : (l.getD k it0).e = (sinR r V most).getD k zeroE := by
      rw [e1, take_get hk e4, e5, List.getD_eq_getElem?_getD, List.getD_eq_getElem?_getD, List.getElem?_take, List.getElem?_take, if_pos hk, if_pos (by omega)]
    exact congrArg (fun z => evY z j) e6
end
section
set_option linter.unusedVariables false
namespace Rt
def bump (K : Nat → Int) (r : Nat) : Nat → Int := updA K r (K r + 1)
def Chain : (Nat → Int) → List EvM → Prop
  | _, [] => True
  | K, e :: l => readyE K e = true ∧ Chain (bump K (regN e)) l
def endK : (Nat → Int) → List EvM → (Nat → Int)
  | K, [] => K
  | K, e :: l => endK (bump K (regN e)) l
section
variable {K K' u : Nat → Int} {e : EvM} {l A : List EvM} {t : Nat}
theorem bump_ge (r j : Nat) : K j ≤ bump K r j := by unfold bump updA; split <;> (try subst_vars) <;> omega
theorem bump_at (r : Nat) : bump K r r = K r + 1 := by unfold bump updA; rw [if_pos rfl]
theorem endK_ge : ∀ (l : List EvM) (K : Nat → Int) (j : Nat), K j ≤ endK K l j
  | [], _, _ => Int.le_refl _
  | e :: l, K, j => Int.le_trans (bump_ge (regN e) j) (endK_ge l _ j)
theorem Chain.snoc : ∀ (l : List EvM) (K : Nat → Int) (e : EvM), Chain K l → readyE (endK K l) e = true → Chain K (l ++ [e])
  | [], _, _, _, h => ⟨h, trivial⟩
  | x :: l, K, e, h, h2 => ⟨h.1, Chain.snoc l (bump K (regN x)) e h.2 h2⟩
theorem Chain.app : ∀ (l l2 : List EvM) (K : Nat → Int), Chain K l → Chain (endK K l) l2 → Chain K (l ++ l2)
  | [], _, _, _, h => h
  | x :: l, l2, K, h, h2 => ⟨h.1, Chain.app l l2 (bump K (regN x)) h.2 h2⟩
theorem Chain.take : ∀ (l : List EvM) (K : Nat → Int) (t : Nat), Chain K l → Chain K (l.take t)
  | [], _, t, _ => by rw [List.take_nil]; trivial
  | x :: l, K, 0, _ => trivial
  | x :: l, K, t + 1, h => ⟨h.1, Chain.take l _ t h.2⟩
theorem Chain.gt : ∀ (l : List EvM) (K : Nat → Int), Chain K l → ∀ x ∈ l, K (regN x) < x.seq
  | [], _, _, _, h => by cases h
  | e :: l, K, h, x, hx => by
    rcases List.mem_cons.1 hx with rfl | hx
    · have := (rdy h.1).2.1; omega
    · exact Int.lt_of_le_of_lt (bump_ge (regN e) (regN x)) (Chain.gt l _ h.2 x hx)
theorem Chain.get : ∀ (l : List EvM) (K : Nat → Int) (t : Nat), Chain K l → t < l.length → readyE (endK K (l.take t)) (l.getD t zeroE) = true
  | [], _, _, _, h => absurd h (Nat.not_lt_zero _)
  | e :: l, K, 0, h, _ => h.1
  | e :: l, K, t + 1, h, ht => Chain.get l _ t h.2 (Nat.lt_of_succ_lt_succ ht)
theorem Chain.drop : ∀ (l : List EvM) (K : Nat → Int) (t : Nat), Chain K l → l.filter (keepE (endK K (l.take t))) = l.drop t
  | [], _, t, _ => by rw [List.drop_nil]; rfl
  | e :: l, K, 0, h => List.filter_eq_self.2 fun x hx => decide_eq_true (Chain.gt (e :: l) K h x hx)
  | e :: l, K, t + 1, h => by
    show (e :: l).filter (keepE (endK (bump K (regN e)) (l.take t))) = l.drop t
    rw [List.filter_cons, if_neg, Chain.drop l _ t h.2]
    have h1 := (rdy h.1).2.1
    have h2 := endK_ge (l.take t) (bump K (regN e)) (regN e)
    rw [bump_at] at h2
    unfold keepE
    rw [decide_eq_true_eq]
    omega
end
def LgE (m : LgM) (E : List EvM) : Prop := ∃ G, Gs m G ∧ G.map ItM.e = E
section
variable {m m' : LgM} {E : List EvM} {v : EvM} {V : Nat → Int}
theorem LgE.new : LgE newL [] := ⟨[], Gs.new, rfl⟩
theorem LgE.add (h : LgE m E) (ha : addG m v = 0) (hr : AddR m m' v) (hv : EvWf v) : LgE m' (E ++ [v]) ∧ m'.K = bump m.K (regN v) := by
  obtain ⟨G, h1, rfl⟩ := h
  refine ⟨⟨_, h1.add ha hr hv, by rw [List.map_append]; rfl⟩, ?_⟩
  rw [hr.1, (ready_seq (addG_ok ha).2).1]; rfl
theorem LgE.up (h : LgE m E) : ∀ i, i < 6 → SeqUp (m.L i) := let ⟨_, h1, _⟩ := h; h1.seqUp
theorem LgE.len (h : LgE m E) : ((lenN m 6 : Nat) : Int) = ((E.length : Nat) : Int) := by obtain ⟨G, h1, rfl⟩ := h; rw [h1.len, List.length_map]
theorem LgE.wf (h : LgE m E) : ∀ x ∈ E, EvWf x := by
  obtain ⟨G, h1, rfl⟩ := h
  intro x hx; obtain ⟨y, hy, rfl⟩ := List.mem_map.1 hx; exact h1.wf y hy
end
end Rt
open Rt
theorem e_since (V : Nat → Int) (most : Int) {m : LgM} {B p T : Nat} {w : World} {E X : List EvM} (h : LgO w B p m T) (hT : T ≤ 100000) (hE : LgE m E) (hX : (E.filter (keepE V)).take most.toNat = X) :
    Calls Try.prog 29 #[.pointer (some ⟨p, 0, none⟩), .agg (Fx.varr 6 (Fx.rv .u64 V)), .int .i64 (most)] w fun e w' => ∃ a c, e = .returned (.slice a X.length c) ∧ Fx.Own w' w.heap.size 50 14 (.slice a X.length c) X.length (evL X) ∧ Below w.heap.size w w' := by
  obtain ⟨G, hG, rfl⟩ := hE
  subst hX
  exact t_since V most h hT (r := ⟨none, 0, G.map ItM.e, m.K⟩) ⟨hG, rfl, rfl⟩
end
namespace Rt
def toldP (K : Nat → Int) (a : Nat) (v : Nat → Int) (i : Nat) : Nat → Int := fun p => if 6 * a ≤ p ∧ p < 6 * a + i then mx6 (K p) (v (p - 6 * a)) else K p
theorem toldP_0 (K : Nat → Int) (a : Nat) (v : Nat → Int) : toldP K a v 0 = K := by funext p; unfold toldP; rw [if_neg (by omega)]
theorem toldP_at (K : Nat → Int) (a : Nat) (v : Nat → Int) (i : Nat) : toldP K a v i (6 * a + i) = K (6 * a + i) := by unfold toldP; rw [if_neg (by omega)]
theorem toldP_s {K : Nat → Int} {a : Nat} {v : Nat → Int} {i q : Nat} (hq : q = 6 * a + i) : upd (toldP K a v i) q (mx6 (toldP K a v i q) (v i)) = toldP K a v (i + 1) := by
  subst hq
  rw [toldP_at]
  funext p
  unfold upd toldP
  by_cases e : p = 6 * a + i
  · subst e; rw [if_pos rfl, if_pos (by omega), show 6 * a + i - 6 * a = i by omega]
  rw [if_neg e]
  by_cases h : 6 * a ≤ p ∧ p < 6 * a + i
  · rw [if_pos h, if_pos (by omega)]
  rw [if_neg h, if_neg (by omega)]
theorem toldP_6 {K : Nat → Int} {i : Int} {a : Nat} {v : Nat → Int} (h : regG i = true) (ea : i = (a : Int) + 1) : toldP K a v 6 = toldK K i v := by
  unfold toldK; rw [if_pos h, show (i - 1).toNat = a by omega]
  funext p
  unfold toldP Fx.ovrI
  by_cases h : 6 * a ≤ p ∧ p < 6 * a + 6
  · rw [if_pos h, if_pos h]; show _ = mx6 (K (6 * a + (p - 6 * a))) (v (p - 6 * a)); rw [show 6 * a + (p - 6 * a) = p by omega]
  rw [if_neg h, if_neg h]
def lsP (F : Nat → Nat → Int) (i j : Nat) : Nat → Int := fun p => if p < j then foldV mn6 F (i + 1) p else foldV mn6 F i p
theorem lsP_0 (F : Nat → Nat → Int) (i : Nat) : lsP F i 0 = foldV mn6 F i := by funext p; unfold lsP; rw [if_neg (by omega)]
theorem lsP_6 (F : Nat → Nat → Int) (i : Nat) : ∀ p, p < 6 → Fx.rv .u64 (lsP F i 6) p = Fx.rv .u64 (foldV mn6 F (i + 1)) p := fun p hp => congrArg (Value.int .u64) (by unfold lsP; rw [if_pos hp])
theorem mn6_self (x : Int) : mn6 x x = x := by unfold mn6; split <;> rfl
theorem lsP_s0 {F : Nat → Nat → Int} {i j : Nat} {x : Int} (hi : i = 0) (hx : x = F i j) : upd (upd (lsP F i j) j x) j (mn6 (upd (lsP F i j) j x j) x) = lsP F i (j + 1) := by
  rw [show upd (lsP F i j) j x j = x by unfold upd; rw [if_pos rfl]]
  subst hi
  funext p
  unfold upd lsP
  by_cases e : p = j
  · subst e; rw [if_pos rfl, if_pos (by omega), mn6_self, hx]; rfl
  rw [if_neg e, if_neg e]
  by_cases h : p < j
  · rw [if_pos h, if_pos (by omega)]
  rw [if_neg h, if_neg (by omega)]
theorem lsP_s {F : Nat → Nat → Int} {i j : Nat} {x : Int} (hi : ¬ (i : Int) = 0) (hx : x = F i j) : upd (lsP F i j) j (mn6 (lsP F i j j) x) = lsP F i (j + 1) := by
  obtain ⟨q, rfl⟩ : ∃ q, i = q + 1 := ⟨i - 1, by omega⟩
  funext p
  unfold upd lsP
  by_cases e : p = j
  · subst e; rw [if_pos rfl, if_neg (Nat.lt_irrefl _), if_pos (by omega), hx]; rfl
  rw [if_neg e]
  by_cases h : p < j
  · rw [if_pos h, if_pos (by omega)]
  rw [if_neg h, if_neg (by omega)]
theorem ok_step {X : Nat → Int} {k : Nat} (h : ∀ q, q < k → regG (X q) = true) (hk : regG (X k) = true) : ∀ q, q < k + 1 → regG (X q) = true := fun q hq => by
  by_cases e : q = k
  · subst e; exact hk
  · exact h q (by omega)
def allG (X : Nat → Int) : Nat → Bool
  | 0 => true
  | k + 1 => allG X k && regG (X k)
def refLst (K X : Nat → Int) (n : Nat) : Nat → Int := if allG X n = true then foldV mn6 (fun i => ofV K (X i)) n else fun _ => 0
theorem allG_all {X : Nat → Int} : ∀ {n : Nat}, allG X n = true → ∀ k, k < n → regG (X k) = true
  | n + 1, h, k, hk => by
    unfold allG at h
    rw [Bool.and_eq_true] at h
    by_cases e : k = n
    · subst e; exact h.2
    · exact allG_all h.1 k (by omega)
theorem allG_mk {X : Nat → Int} : ∀ {n : Nat}, (∀ k, k < n → regG (X k) = true) → allG X n = true
  | 0, _ => rfl
  | n + 1, h => by unfold allG; rw [allG_mk fun k hk => h k (by omega), h n (by omega)]; rfl
theorem refLst_no {K X : Nat → Int} {n k : Nat} (hk : k < n) (h : regG (X k) = false) : (fun _ => 0) = refLst K X n := by
  unfold refLst; rw [if_neg]
  intro e; have := allG_all e k hk; rw [h] at this; cases this
theorem mn6_nn {a b : Int} (h : 0 ≤ a) (k : 0 ≤ b) : 0 ≤ mn6 a b := by unfold mn6; split <;> omega
theorem mn6_z {a b : Int} (h : 0 ≤ a) (k : 0 ≤ b) (e : a = 0 ∨ b = 0) : mn6 a b = 0 := by unfold mn6; split <;> omega
theorem foldS_nn {F : Nat → Nat → Int} (h : ∀ i p, 0 ≤ F i p) (p : Nat) : ∀ n, 0 ≤ foldS mn6 F n p
  | 0 => h 0 p
  | n + 1 => by have h1 := foldS_nn h p n; have h2 := h (n + 1) p; show 0 ≤ mn6 (foldS mn6 F n p) (F (n + 1) p); exact mn6_nn h1 h2
theorem foldS_z {F : Nat → Nat → Int} (h : ∀ i p, 0 ≤ F i p) (p : Nat) : ∀ n k, k ≤ n → F k p = 0 → foldS mn6 F n p = 0
  | 0, k, hk, e => by obtain rfl : k = 0 := by omega
                      exact e
  | n + 1, k, hk, e => by
    have h1 := foldS_nn h p n
    by_cases c : k = n + 1
    · subst c; show mn6 (foldS mn6 F n p) (F (n + 1) p) = 0; exact mn6_z h1 (by omega) (.inr e)
    · have h2 := foldS_z h p n k (by omega) e
      have h3 := h (n + 1) p
      show mn6 (foldS mn6 F n p) (F (n + 1) p) = 0; exact mn6_z h1 h3 (.inl h2)
theorem least_eq {K X : Nat → Int} (hK : ∀ p, 0 ≤ K p) : ∀ n, leastV K X n = refLst K X n := fun n => by
  have hF : ∀ i p, 0 ≤ ofV K (X i) p := fun i p => by unfold ofV; split; exact hK _; exact Int.le_refl _
  unfold refLst
  split
  · rfl
  · rename_i hn
    obtain ⟨k, hk, e⟩ : ∃ k, k < n ∧ regG (X k) = false := by
      apply Classical.byContradiction
      intro hc
      exact hn (allG_mk fun k hk => by
        cases e : regG (X k) with
        | true => rfl
        | false => exact absurd ⟨k, hk, e⟩ hc)
    obtain ⟨q, rfl⟩ : ∃ q, n = q + 1 := ⟨n - 1, by omega⟩
    funext p
    exact foldS_z hF p q k (by omega) (by unfold ofV; rw [if_neg (by rw [e]; decide)])
end Rt
theorem r17_reg (n : Int) (w : World) :
    Calls Try.prog 37 #[.int .i64 (n)] w fun e w' => e = .returned (.bool (regG n)) ∧ w' = w := by
 refine Fx.enter Try.func37 rfl (n := 9) rfl (by rfl) ?_
 refine Ws (Wl (Lv (.bool false) (x_assign rfl rfl) (Ln (sN (Ws (Wl (Lv (.int .i64 (n)) (x_move rfl rfl) ?_)))))))
 by_cases c4 : 1 ≤ n
 ·refine Lv (.bool true) (Fx.x_geqT rfl rfl rfl c4) (Lv (.bool true) (x_move rfl rfl) (Lv (.int .i64 (n)) (x_move rfl rfl) ?_))
  by_cases c7 : n ≤ 6
  ·refine Lv (.bool true) (Fx.x_leqT rfl rfl rfl c7) (Lv (.bool true) (x_pickT rfl rfl rfl) (Lv (.bool true) (x_assign rfl rfl) (Ln (sN (Wr (⟨.bool true, rV Try.results37 (by exact rfl), ?_⟩))))))
   exact ⟨congrArg (fun q => Ending.returned (Value.bool q)) (by simp only [regG]; first | (symm; simp; omega) | (symm; simp; done)), rfl⟩
  refine Lv (.bool false) (x_leqF rfl rfl rfl c7) (Lv (.bool false) (x_pickT rfl rfl rfl) (Lv (.bool false) (x_assign rfl rfl) (Ln (sN (Wr (⟨.bool false, rV Try.results37 (by exact rfl), ?_⟩))))))
  exact ⟨congrArg (fun q => Ending.returned (Value.bool q)) (by simp only [regG]; first | (symm; simp; omega) | (symm; simp; done)), rfl⟩
 refine Lv (.bool false) (Fx.x_geqF rfl rfl rfl c4) (Lv (.bool false) (x_move rfl rfl) (Lk (by rfl) rfl (Lk (by rfl) rfl (Lv (.bool false) (x_pickF rfl rfl rfl) (Lv (.bool false) (x_assign rfl rfl) (Ln (sN (Wr (⟨.bool false, rV Try.results37 (by exact rfl), ?_⟩)))))))))
 exact ⟨congrArg (fun q => Ending.returned (Value.bool q)) (by simp only [regG]; first | (symm; simp; omega) | (symm; simp; done)), rfl⟩
theorem r17_of (K : Nat → Int) (gp : Nat) (n : Int) (w : World) (hp : Fx.Blk w gp 36 (Fx.rv .u64 K) 35) :
    Calls Try.prog 15 #[.pointer (some ⟨gp, 0, none⟩), .int .i64 (n)] w fun e w' => e = .returned (.agg (Fx.varr 6 (Fx.rv .u64 (ofV K n)))) ∧ Below w.heap.size w w' := by
 have lgp := hp.lt
 refine Fx.enter Try.func15 rfl (n := 16) rfl (by rfl) ?_
 refine Ws (Wl (Fx.L.new (m := 6) (y := Fx.rv .u64 (fun _ => 0)) (by rfl) rfl (by kernel_rfl) rfl fun g1 w1 eg1 m1 s1 z1 => ?_))
 have m2 := hp.stp s1 (Nat.ne_of_lt (hp.lt))
 have b1 := s1.below (Below.refl w.heap.size w) (Below.refl w.heap.size w).size (Below.refl w.heap.size w).size
 have lg1 : w.heap.size ≤ g1 := by rw [eg1]; exact (Below.refl w.heap.size w).size
 have ng1m2 : gp ≠ g1 := by rw [eg1]; exact Nat.ne_of_lt (hp.lt)
 have tg1 : g1 < w1.heap.size := m1.lt
 clear eg1
 refine Ln (sN (Ws (Ws (Wl (Lv (.int .i64 (n)) (x_move rfl rfl) ?_)))))
 by_cases c6 : (regG n) = true
 ·refine Fx.L.call (by rfl) (rC (args := [.int .i64 (n)]) rfl rfl Try.func37 rfl rfl) rfl ((r17_reg n _).mono ?_)
  rintro e v1 ⟨he, hv1⟩
  subst v1
  refine ⟨.bool true, by rw [he, c6], ?_⟩
  clear he
  refine Lv (.bool false) (Fx.x_notF rfl rfl) (Ln (sN (Wc (b := false) rfl (fun h => nomatch h) (fun _ => Wk (sN (Ws ?_))))))
  obtain ⟨a, ha, ea⟩ := regG_nat c6
  refine Wl (Lv (.pointer (some ⟨gp, 0, none⟩)) (x_move rfl rfl) (Lv (.int .i64 (n)) (x_move rfl rfl) (Lv (.int .i64 ((a : Int))) (Fx.x_sub rfl rfl rfl (Fx.i64e (by omega) (by omega))) (Lv (.pointer (some ⟨gp, 0, none⟩)) (x_nil rfl rfl) (Lv (.pointer (some ⟨gp, 0, none⟩)) (x_field rfl rfl Try.underlying35 rfl (s := 36) (by kernel_rfl) rfl rfl) (Lv (.pointer (some ⟨gp, 6 * a, none⟩)) (x_index rfl rfl rfl Try.underlying33 (s := 6) (by kernel_rfl) (by omega) (by omega) (by omega)) (Lv (.agg (Fx.varr 6 (Fx.rv .u64 (fun j => K (6 * a + j))))) (x_loadA (x := Fx.rv .u64 K) (y := Fx.rv .u64 (fun j => K (6 * a + j))) rfl rfl (by kernel_rfl) (by kernel_rfl) m2.cel (i := 6 * a) (by omega) (by omega) (fun j _ => congrArg (fun qz => Fx.rv .u64 K qz) (by omega))) (Fx.L.storeA (x := Fx.rv .u64 (fun _ => 0)) (y := Fx.rv .u64 (fun j => K (6 * a + j))) (by rfl) rfl rfl rfl rfl (fun _ _ => rfl) (by kernel_rfl) m1 (i := 0) (by omega) fun w2 m3 s2 z2 => ?_))))))))
  have m4 : Fx.Blk w2 g1 6 (Fx.rv .u64 (fun j => K (6 * a + j))) 32 := Fx.ovr_all m3
  have m5 := m2.stp s2 (by omega)
  have b2 := s2.below b1 b1.size (by omega)
  refine Ln (sN (Wr (⟨.agg (Fx.varr 6 (Fx.rv .u64 (fun j => K (6 * a + j)))), rV Try.results15 ⟨_, rfl, Fx.run_loadV m4.cel (by kernel_rfl) (by kernel_rfl)⟩, ?_⟩)))
  exact ⟨congrArg (fun q => Ending.returned (Value.agg (Fx.varr 6 (Fx.rv .u64 q)))) (ofV_yes c6 ea), b2⟩
 rw [Bool.not_eq_true] at c6
 refine Fx.L.call (by rfl) (rC (args := [.int .i64 (n)]) rfl rfl Try.func37 rfl rfl) rfl ((r17_reg n _).mono ?_)
 rintro e v1 ⟨he, hv1⟩
 subst v1
 refine ⟨.bool false, by rw [he, c6], ?_⟩
 clear he
 refine Lv (.bool true) (Fx.x_notT rfl rfl) (Ln (sN (Wc (b := true) rfl (fun _ => Ws (Wl (Lv (.agg (Fx.varr 6 (Fx.rv .u64 (fun _ => 0)))) (Fx.x_buildArr (vs := []) (s := 1) (m := 6) (x := Fx.rv .u64 (fun _ => 0)) rfl rfl Try.underlying32 (by kernel_rfl) (by kernel_rfl) (by rfl)) ?_))) (fun h => nomatch h))))
 refine Fx.L.storeA (x := Fx.rv .u64 (fun _ => 0)) (y := Fx.rv .u64 (fun _ => 0)) (by rfl) rfl rfl rfl rfl (fun _ _ => rfl) (by kernel_rfl) m1 (i := 0) (by omega) fun w3 m6 s3 z3 => ?_
 have m7 : Fx.Blk w3 g1 6 (Fx.rv .u64 (fun _ => 0)) 32 := Fx.ovr_all m6
 have m8 := m2.stp s3 (by omega)
 have b3 := s3.below b1 b1.size (by omega)
 refine Ln (sN (Wr (sR (⟨.agg (Fx.varr 6 (Fx.rv .u64 (fun _ => 0))), rV Try.results15 ⟨_, rfl, Fx.run_loadV m7.cel (by kernel_rfl) (by kernel_rfl)⟩, ?_⟩))))
 exact ⟨congrArg (fun q => Ending.returned (Value.agg (Fx.varr 6 (Fx.rv .u64 q)))) (ofV_no c6), b3⟩
set_option maxRecDepth 10000 in
theorem r17_told (K v : Nat → Int) (gp : Nat) (n : Int) (w : World) (hp : Fx.Blk w gp 36 (Fx.rv .u64 K) 35) :
    Calls Try.prog 13 #[.pointer (some ⟨gp, 0, none⟩), .int .i64 (n), .agg (Fx.varr 6 (Fx.rv .u64 v))] w fun e w' => e = .returned (.int .i64 (tE n)) ∧ Fx.Blk w' gp 36 (Fx.rv .u64 (toldK K n v)) 35 ∧ Fx.Stp gp w w' := by
 have lgp := hp.lt
 refine Fx.enter Try.func13 rfl (n := 36) rfl (by rfl) ?_
 refine Ws (Wl (Fx.L.box (m := 6) (y := Fx.rv .u64 v) (by rfl) rfl rfl (Fx.cells_agg _ _) rfl fun g1 w1 eg1 m1 s1 z1 => ?_))
 have m2 := hp.stp s1 (Nat.ne_of_lt (hp.lt))
 have b1 := (Fx.Stp.refl gp w).then s1 (.inr (Fx.Stp.refl gp w).size)
 have lg1 : w.heap.size ≤ g1 := by rw [eg1]; exact (Fx.Stp.refl gp w).size
 have ng1m2 : gp ≠ g1 := by rw [eg1]; exact Nat.ne_of_lt (hp.lt)
 have tg1 : g1 < w1.heap.size := m1.lt
 clear eg1
 refine Lv (.int .i64 (0)) (x_assign rfl rfl) (Ln (sN (Ws (Ws (Wl (Lv (.int .i64 (n)) (x_move rfl rfl) ?_))))))
 by_cases c9 : (regG n) = true
 ·refine Fx.L.call (by rfl) (rC (args := [.int .i64 (n)]) rfl rfl Try.func37 rfl rfl) rfl ((r17_reg n _).mono ?_)
  rintro e v1 ⟨he, hv1⟩
  subst v1
  refine ⟨.bool true, by rw [he, c9], ?_⟩
  clear he
  refine Lv (.bool false) (Fx.x_notF rfl rfl) (Ln (sN (Wc (b := false) rfl (fun h => nomatch h) (fun _ => Wk (sN (Ws (Ws ?_)))))))
  obtain ⟨a, ha, ea⟩ := regG_nat c9
  refine Wl (Lv (.int .i64 (0)) (x_assign rfl rfl) (Ln (sN (Fx.W.block ?_))))
  have m3 : Fx.Blk w1 gp 36 (Fx.rv .u64 (toldP K a v 0)) 35 := m2.to (congrArg (Fx.rv .u64) (toldP_0 K a v).symm)
  refine Fx.W.loop (fun f w_ => ∃ k : Nat, k ≤ 6 ∧ f 0 = .pointer (some ⟨gp, 0, none⟩) ∧ f 1 = .int .i64 (n) ∧ f 5 = .pointer (some ⟨g1, 0, none⟩) ∧ f 7 = .int .i64 ((k : Int)) ∧ Fx.Blk w_ g1 6 (Fx.rv .u64 v) 32 ∧ Fx.Blk w_ gp 36 (Fx.rv .u64 (toldP K a v k)) 35 ∧ Fx.Stp gp w w_) (fun f _ => (6 - (intOf (f 7)).toNat)) ⟨0, by omega, (by rfl), (by first | rfl | exact congrArg (Value.int .i64) (by omega)), (by rfl), (by first | rfl | exact congrArg (Value.int .i64) (by omega)), m1, m3, b1⟩ ?_
  rintro f1 w2 ⟨k, hk, h1, h2, h3, h4, m4, m5, b2⟩
  refine Ws (Ws (Wl (Lv (.int .i64 ((k : Int))) (x_move rfl h4) ?_)))
  by_cases c12 : (k : Int) < 6
  ·refine Lv (.bool true) (Fx.x_lssT rfl rfl rfl c12) (Ln (sN (Wc (b := true) rfl (fun _ => Wk (sN (Ws (Fx.W.block ?_)))) (fun h => nomatch h))))
   -- region 6 draws
   refine Fx.W.reord [0, 1, 2, 3, 4, 5, 6, 7, 8, 9, 10, 11, 13, 14, 17, 18, 19, 12, 15, 16, 20, 21] [0, 0, 0, 0, 0, 0, 0, 0, 0, 0, 0, 0, 4, 0, 0, 4, 0, 0, 0, 0, 0, 3] Fx.Mk Fx.Mk.refl Fx.Mk.trans (certs := [(21, 12, [12]), (21, 15, [15])]) (by kernel_rfl) (by kernel_rfl) (by kernel_rfl) (by kernel_rfl) (by kernel_rfl) fun wt1 hbwt1 hzwt1 => ?_
   have s2 : Fx.Stp w2.heap.size w2 wt1 := Sb hbwt1
   have m6 := m4.stp s2 (Nat.ne_of_lt (m4.lt))
   have m7 := m5.stp s2 (Nat.ne_of_lt (m5.lt))
   have b3 := b2.then s2 (.inr b2.size)
   refine Rp (.pointer (some ⟨gp, 0, none⟩)) (fun v1 => x_move rfl h1) (Rp (.int .i64 (n)) (fun v1 => x_move rfl h2) (Rp (.int .i64 ((a : Int))) (fun v1 => Fx.x_sub rfl rfl rfl (Fx.i64e (by omega) (by omega))) (Rp (.int .i64 ((k : Int))) (fun v1 => x_move rfl h4) (Rp (.pointer (some ⟨gp, 0, none⟩)) (fun v1 => x_move rfl h1) (Rp (.int .i64 (n)) (fun v1 => x_move rfl h2) (Rp (.int .i64 ((a : Int))) (fun v1 => Fx.x_sub rfl rfl rfl (Fx.i64e (by omega) (by omega))) (Rp (.int .i64 ((k : Int))) (fun v1 => x_move rfl h4) (Rp (.pointer (some ⟨gp, 0, none⟩)) (fun v1 => x_nil rfl rfl) (Rp (.pointer (some ⟨gp, 0, none⟩)) (fun v1 => x_field rfl rfl Try.underlying35 rfl (s := 36) (by kernel_rfl) rfl rfl) (Rp (.pointer (some ⟨gp, 6 * a, none⟩)) (fun v1 => x_index rfl rfl rfl Try.underlying33 (s := 6) (by kernel_rfl) (by omega) (by omega) (by omega)) (Rp (.pointer (some ⟨gp, 6 * a + k, none⟩)) (fun v1 => x_index rfl rfl rfl Try.underlying32 (s := 1) (by kernel_rfl) (by omega) (by omega) (by omega)) (Rp (.int .i64 ((k : Int))) (fun v1 => x_move rfl h4) (Rp (.pointer (some ⟨g1, k, none⟩)) (fun v1 => x_index rfl h3 rfl Try.underlying32 (s := 1) (by kernel_rfl) (by omega) (by omega) (by omega)) (Rp (.pointer (some ⟨gp, 0, none⟩)) (fun v1 => x_nil rfl rfl) (Rp (.pointer (some ⟨gp, 0, none⟩)) (fun v1 => x_field rfl rfl Try.underlying35 rfl (s := 36) (by kernel_rfl) rfl rfl) (Rp (.pointer (some ⟨gp, 6 * a, none⟩)) (fun v1 => x_index rfl rfl rfl Try.underlying33 (s := 6) (by kernel_rfl) (by omega) (by omega) (by omega)) (Fx.R.s (.int .u64 ((toldP K a v k) (6 * a + k))) (x_load1 (x := Fx.rv .u64 (toldP K a v k)) rfl rfl (by kernel_rfl) m7.cel (i := 6 * a + k) (by omega) (by omega) rfl) ?_)))))))))))))))))
   refine Fx.R.s (.int .u64 (v k)) (x_load1 (x := Fx.rv .u64 v) rfl rfl (by kernel_rfl) m6.cel (i := k) (by omega) (by omega) rfl) ?_
   refine Rp (.int .u64 (mx6 ((toldP K a v k) (6 * a + k)) (v k))) (fun v1 => Fx.x_max rfl rfl rfl) (Rp (.pointer (some ⟨gp, 6 * a + k, none⟩)) (fun v1 => x_index rfl rfl rfl Try.underlying32 (s := 1) (by kernel_rfl) (by omega) (by omega) (by omega)) (Fx.R.eff (by rfl) ?_))
   refine Fx.L.store1 (x := Fx.rv .u64 (toldP K a v k)) (u := .int .u64 (mx6 ((toldP K a v k) (6 * a + k)) (v k))) (by rfl) rfl rfl rfl rfl (by rfl) (by kernel_rfl) m7 (i := 6 * a + k) (by omega) fun w3 m8 s3 z2 => ?_
   have m9 : Fx.Blk w3 gp 36 (Fx.rv .u64 (upd (toldP K a v k) (6 * a + k) (mx6 ((toldP K a v k) (6 * a + k)) (v k)))) 35 := m8.to (Fx.updV_rv _ _ _ _)
   have hct1 := Fx.ChT.of_stp s3 m7.ty
   have m10 := m6.chT hct1 (by decide)
   have b4 := b3.then s3 (by omega)
   refine Ln (Fx.R.nil (Fx.blkN (sN (Wl (Lv (.int .i64 ((k : Int))) (x_move rfl h4) (Lv (.int .i64 ((k : Int) + 1)) (Fx.x_add rfl rfl rfl (Fx.i64e (by omega) (by omega))) (Lv (.int .i64 ((k : Int) + 1)) (x_assign rfl rfl) (Ln ?_))))))))
   have m11 := m9.to (congrArg (Fx.rv .u64) (toldP_s (by omega)))
   refine Fx.lpN ⟨k + 1, by omega, h1, (h2.trans (by first | rfl | exact congrArg (Value.int .i64) (by omega))), h3, (by first | rfl | exact congrArg (Value.int .i64) (by omega)), m10, m11, b4⟩ ?_
   show (6 - (intOf ((.int .i64 ((k : Int) + 1)))).toNat) < _
   simp only [h4, intOf]; omega
  refine Lv (.bool false) (Fx.x_lssF rfl rfl rfl c12) (Ln (sN (Wc (b := false) rfl (fun h => nomatch h) (fun _ => Fx.W.exit (Fx.seqX (Fx.lpX (Fx.blkX (sN (Ws (Wl (Lv (.int .i64 (0)) (x_assign rfl rfl) (Ln (sN (Wr (⟨.int .i64 (0), rV Try.results13 (by exact rfl), ?_⟩)))))))))))))))
  have e6 : k = 6 := by omega
  subst e6
  exact ⟨congrArg (fun q => Ending.returned (Value.int .i64 q)) (by unfold tE; rw [if_pos c9]), m5.to (congrArg (Fx.rv .u64) (toldP_6 c9 ea)), b2⟩
 rw [Bool.not_eq_true] at c9
 refine Fx.L.call (by rfl) (rC (args := [.int .i64 (n)]) rfl rfl Try.func37 rfl rfl) rfl ((r17_reg n _).mono ?_)
 rintro e v1 ⟨he, hv1⟩
 subst v1
 refine ⟨.bool false, by rw [he, c9], ?_⟩
 clear he
 refine Lv (.bool true) (Fx.x_notT rfl rfl) (Ln (sN (Wc (b := true) rfl (fun _ => Ws (Wl (Lv (.int .i64 (10)) (x_assign rfl rfl) ?_))) (fun h => nomatch h))))
 refine Ln (sN (Wr (sR (⟨.int .i64 (10), rV Try.results13 (by exact rfl), ?_⟩))))
 exact ⟨congrArg (fun q => Ending.returned (Value.int .i64 q)) (by unfold tE; rw [if_neg (by rw [c9]; decide)]), m2.to (congrArg (Fx.rv .u64) (toldK_no c9)), b1⟩
set_option maxRecDepth 10000 in
theorem r17_least (K X : Nat → Int) (gp : Nat) (sa : Option Addr) (n cap : Nat) (w : World) (hn : n ≤ 1000) (hl : Fx.Arr w sa n 1 (Fx.rv .i64 X)) (hp : Fx.Blk w gp 36 (Fx.rv .u64 K) 35) :
    Calls Try.prog 22 #[.pointer (some ⟨gp, 0, none⟩), .slice sa (n) (cap)] w fun e w' => e = .returned (.agg (Fx.varr 6 (Fx.rv .u64 (refLst K X n)))) ∧ Below w.heap.size w w' := by
 have lgp := hp.lt
 refine Fx.enter Try.func22 rfl (n := 60) rfl (by rfl) ?_
 refine Ws (Wl (Fx.L.new (m := 6) (y := Fx.rv .u64 (fun _ => 0)) (by rfl) rfl (by kernel_rfl) rfl fun g1 w1 eg1 m1 s1 z1 => ?_))
 have m2 := hp.stp s1 (Nat.ne_of_lt (hp.lt))
 have b1 := s1.below (Below.refl w.heap.size w) (Below.refl w.heap.size w).size (Below.refl w.heap.size w).size
 have lg1 : w.heap.size ≤ g1 := by rw [eg1]; exact (Below.refl w.heap.size w).size
 have ng1m2 : gp ≠ g1 := by rw [eg1]; exact Nat.ne_of_lt (hp.lt)
 have tg1 : g1 < w1.heap.size := m1.lt
 clear eg1
 refine Ln (sN (Ws (Wl (Fx.L.new (m := 6) (y := Fx.rv .u64 (fun _ => 0)) (by rfl) rfl (by kernel_rfl) rfl fun g2 w2 eg2 m3 s2 z2 => ?_))))
 have m4 := m2.stp s2 (Nat.ne_of_lt (m2.lt))
 have m5 := m1.stp s2 (Nat.ne_of_lt (m1.lt))
 have b2 := s2.below b1 b1.size b1.size
 have lg2 : w.heap.size ≤ g2 := by rw [eg2]; exact b1.size
 have ng2m4 : gp ≠ g2 := by rw [eg2]; exact Nat.ne_of_lt (m2.lt)
 have ng2m5 : g1 ≠ g2 := by rw [eg2]; exact Nat.ne_of_lt (m1.lt)
 have tg2 : g2 < w2.heap.size := m3.lt
 clear eg2
 refine Ln (sN (Ws (Ws (Wl (Lv (.int .i64 (0)) (x_assign rfl rfl) (Ln (sN (Fx.W.block ?_))))))))
 have m6 : Fx.Blk w2 g2 6 (Fx.rv .u64 (foldV mn6 (fun q => ofV K (X q)) 0)) 32 := m3
 refine Fx.W.loop (fun f w_ => ∃ k : Nat, k ≤ n ∧ (∀ q, q < k → regG (X q) = true) ∧ f 0 = .pointer (some ⟨gp, 0, none⟩) ∧ f 1 = .slice sa (n) (cap) ∧ f 4 = .pointer (some ⟨g1, 0, none⟩) ∧ f 5 = .pointer (some ⟨g2, 0, none⟩) ∧ f 6 = .int .i64 ((k : Int)) ∧ Fx.Blk w_ gp 36 (Fx.rv .u64 K) 35 ∧ Fx.Blk w_ g1 6 (Fx.rv .u64 (fun _ => 0)) 32 ∧ Fx.Blk w_ g2 6 (Fx.rv .u64 (foldV mn6 (fun q => ofV K (X q)) k)) 32 ∧ Below w.heap.size w w_) (fun f _ => (n - (intOf (f 6)).toNat)) ⟨0, by omega, (fun _ h => absurd h (Nat.not_lt_zero _)), (by rfl), (by rfl), (by rfl), (by rfl), (by first | rfl | exact congrArg (Value.int .i64) (by omega)), m4, m5, m6, b2⟩ ?_
 rintro f1 w3 ⟨k, hk, hok, h1, h2, h3, h4, h5, m7, m8, m9, b3⟩
 refine Ws (Ws (Wl (Lv (.int .i64 ((k : Int))) (x_move rfl h5) (Lv (.slice sa (n) (cap)) (x_move rfl h2) (Lv (.int .i64 ((n : Int))) (x_len rfl rfl rfl (by kernel_rfl)) ?_)))))
 by_cases c11 : (k : Int) < (n : Int)
 ·refine Lv (.bool true) (Fx.x_lssT rfl rfl rfl c11) (Ln (sN (Wc (b := true) rfl (fun _ => Wk (sN (Ws (Fx.W.block (Ws (Ws (Wl (Lv (.slice sa (n) (cap)) (x_move rfl h2) ?_)))))))) (fun h => nomatch h))))
  refine Lv (.int .i64 ((k : Int))) (x_move rfl h5) ?_
  obtain ⟨bq1, oq1, eq1, m10z⟩ := hl (by omega)
  have lbq1z : bq1 < w.heap.size := m10z.lt (by omega)
  have m10 := m10z.below b3 lbq1z
  have lbq1 : bq1 < w3.heap.size := m10.lt (by omega)
  refine Lv (.pointer (some ⟨bq1, k + oq1, none⟩)) (x_indexS rfl (rfl.trans (congrArg (fun q => Value.slice q (n) (cap)) eq1)) rfl Try.underlying23 (s := 1) (by kernel_rfl) (by omega) (by omega) (by omega)) (Lv (.int .i64 (X k)) (x_load1 (x := Fx.rv .i64 X) rfl rfl (by kernel_rfl) m10 (i := k) (by omega) (by omega) rfl) ?_)
  by_cases c18 : (regG (X k)) = true
  ·refine Fx.L.call (by rfl) (rC (args := [.int .i64 (X k)]) rfl rfl Try.func37 rfl rfl) rfl ((r17_reg (X k) _).mono ?_)
   rintro e v1 ⟨he, hv1⟩
   subst v1
   refine ⟨.bool true, by rw [he, c18], ?_⟩
   clear he
   refine Lv (.bool false) (Fx.x_notF rfl rfl) (Ln (sN (Wc (b := false) rfl (fun h => nomatch h) (fun _ => Wk (sN (Ws ?_))))))
   obtain ⟨a, ha, ea⟩ := regG_nat c18
   refine Wl (Lv (.int .i64 (0)) (x_assign rfl rfl) (Ln (sN (Fx.W.block ?_))))
   have m11 : Fx.Blk w3 g2 6 (Fx.rv .u64 (lsP (fun q => ofV K (X q)) k 0)) 32 := m9.to (congrArg (Fx.rv .u64) (lsP_0 (fun q => ofV K (X q)) k).symm)
   refine Fx.W.loop (fun f w_ => ∃ j : Nat, j ≤ 6 ∧ f 0 = .pointer (some ⟨gp, 0, none⟩) ∧ f 1 = .slice sa (n) (cap) ∧ f 4 = .pointer (some ⟨g1, 0, none⟩) ∧ f 5 = .pointer (some ⟨g2, 0, none⟩) ∧ f 6 = .int .i64 ((k : Int)) ∧ f 7 = .int .i64 ((j : Int)) ∧ Fx.Blk w_ gp 36 (Fx.rv .u64 K) 35 ∧ Fx.Blk w_ g1 6 (Fx.rv .u64 (fun _ => 0)) 32 ∧ Fx.Blk w_ g2 6 (Fx.rv .u64 (lsP (fun q => ofV K (X q)) k j)) 32 ∧ Below w.heap.size w w_) (fun f _ => (6 - (intOf (f 7)).toNat)) ⟨0, by omega, h1, h2, h3, h4, (h5.trans (by first | rfl | exact congrArg (Value.int .i64) (by omega))), (by first | rfl | exact congrArg (Value.int .i64) (by omega)), m7, m8, m11, b3⟩ ?_
   rintro f2 w4 ⟨j, hj, h6, h7, h8, h9, h10, h11, m12, m13, m14, b4⟩
   refine Ws (Ws (Wl (Lv (.int .i64 ((j : Int))) (x_move rfl h11) ?_)))
   by_cases c22 : (j : Int) < 6
   ·refine Lv (.bool true) (Fx.x_lssT rfl rfl rfl c22) (Ln (sN (Wc (b := true) rfl (fun _ => Wk (sN (Ws (Fx.W.block (Ws (Ws ?_)))))) (fun h => nomatch h))))
    have hFj : K (6 * a + j) = ofV K (X k) j := congrFun (ofV_yes (K := K) c18 ea) j
    refine Wl (Lv (.int .i64 ((k : Int))) (x_move rfl h10) ?_)
    by_cases c26 : (k : Int) = 0
    ·refine Lv (.bool true) (x_eqlT rfl rfl rfl c26) (Ln (sN (Wc (b := true) rfl (fun _ => ?_) (fun h => nomatch h))))
     -- region 11 draws
     refine Fx.W.reord [0, 1, 2, 3, 4, 7, 8, 9, 5, 6, 10, 11, 12, 13, 14] [0, 0, 0, 0, 0, 4, 0, 0, 0, 0, 0, 0, 4, 0, 3] Fx.Mk Fx.Mk.refl Fx.Mk.trans (certs := [(14, 5, [5]), (14, 12, [12])]) (by kernel_rfl) (by kernel_rfl) (by kernel_rfl) (by kernel_rfl) (by kernel_rfl) fun wt1 hbwt1 hzwt1 => ?_
     have s3 : Fx.Stp w4.heap.size w4 wt1 := Sb hbwt1
     have m15 := m12.stp s3 (Nat.ne_of_lt (m12.lt))
     have m16 := m13.stp s3 (Nat.ne_of_lt (m13.lt))
     have m17 := m14.stp s3 (Nat.ne_of_lt (m14.lt))
     have b5 := s3.below b4 b4.size b4.size
     refine Rp (.int .i64 ((j : Int))) (fun v1 => x_move rfl h11) (Rp (.pointer (some ⟨gp, 0, none⟩)) (fun v1 => x_move rfl h6) (Rp (.slice sa (n) (cap)) (fun v1 => x_move rfl h7) (Rp (.int .i64 ((k : Int))) (fun v1 => x_move rfl h10) ?_)))
     obtain ⟨bq2, oq2, eq2, m18z⟩ := hl (by omega)
     have lbq2z : bq2 < w.heap.size := m18z.lt (by omega)
     have m18 := m18z.below b5 lbq2z
     have lbq2 : bq2 < wt1.heap.size := m18.lt (by omega)
     refine Rp (.pointer (some ⟨bq2, k + oq2, none⟩)) (fun v1 => x_indexS rfl (rfl.trans (congrArg (fun q => Value.slice q (n) (cap)) eq2)) rfl Try.underlying23 (s := 1) (by kernel_rfl) (by omega) (by omega) (by omega)) (Rp (.int .i64 ((j : Int))) (fun v1 => x_move rfl h11) (Rp (.pointer (some ⟨gp, 0, none⟩)) (fun v1 => x_nil rfl rfl) (Rp (.pointer (some ⟨gp, 0, none⟩)) (fun v1 => x_field rfl rfl Try.underlying35 rfl (s := 36) (by kernel_rfl) rfl rfl) (Fx.R.s (.int .i64 (X k)) (x_load1 (x := Fx.rv .i64 X) rfl rfl (by kernel_rfl) m18 (i := k) (by omega) (by omega) rfl) ?_))))
     refine Rp (.int .i64 ((a : Int))) (fun v1 => Fx.x_sub rfl rfl rfl (Fx.i64e (by omega) (by omega))) (Rp (.pointer (some ⟨gp, 6 * a, none⟩)) (fun v1 => x_index rfl rfl rfl Try.underlying33 (s := 6) (by kernel_rfl) (by omega) (by omega) (by omega)) (Rp (.pointer (some ⟨gp, 6 * a + j, none⟩)) (fun v1 => x_index rfl rfl rfl Try.underlying32 (s := 1) (by kernel_rfl) (by omega) (by omega) (by omega)) (Fx.R.s (.int .u64 (K (6 * a + j))) (x_load1 (x := Fx.rv .u64 K) rfl rfl (by kernel_rfl) m15.cel (i := 6 * a + j) (by omega) (by omega) rfl) ?_)))
     refine Rp (.pointer (some ⟨g2, j, none⟩)) (fun v1 => x_index rfl h9 rfl Try.underlying32 (s := 1) (by kernel_rfl) (by omega) (by omega) (by omega)) (Fx.R.eff (by rfl) ?_)
     refine Fx.L.store1 (x := Fx.rv .u64 (lsP (fun q => ofV K (X q)) k j)) (u := .int .u64 (K (6 * a + j))) (by rfl) rfl rfl rfl rfl (by rfl) (by kernel_rfl) m17 (i := j) (by omega) fun w5 m19 s4 z3 => ?_
     have m20 : Fx.Blk w5 g2 6 (Fx.rv .u64 (upd (lsP (fun q => ofV K (X q)) k j) j (K (6 * a + j)))) 32 := m19.to (Fx.updV_rv _ _ _ _)
     have hct1 := Fx.ChT.of_stp s4 m17.ty
     have m21 := m15.chT hct1 (by decide)
     have m22 := m16.stp s4 (by omega)
     have m23 := m18.stp s4 (by omega)
     have b6 := s4.below b5 b5.size (by omega)
     refine Ln (Fx.R.nil (sN ?_))
     -- region 12 draws
     refine Fx.W.reord [0, 1, 2, 4, 5, 6, 7, 10, 11, 12, 3, 8, 9, 13, 14, 15, 16, 17, 18] [0, 0, 0, 4, 0, 0, 0, 0, 4, 0, 0, 0, 0, 0, 0, 4, 0, 0, 3] Fx.Mk Fx.Mk.refl Fx.Mk.trans (certs := [(18, 3, [3]), (18, 8, [8]), (18, 15, [15])]) (by kernel_rfl) (by kernel_rfl) (by kernel_rfl) (by kernel_rfl) (by kernel_rfl) fun wt2 hbwt2 hzwt2 => ?_
     have s5 : Fx.Stp w5.heap.size w5 wt2 := Sb hbwt2
     have m24 := m21.stp s5 (Nat.ne_of_lt (m21.lt))
     have m25 := m22.stp s5 (Nat.ne_of_lt (m22.lt))
     have m26 := m23.stp s5 (Nat.ne_of_lt (m23.lt (by omega)))
     have m27 := m20.stp s5 (Nat.ne_of_lt (m20.lt))
     have b7 := s5.below b6 b6.size b6.size
     refine Rp (.int .i64 ((j : Int))) (fun v1 => x_move rfl h11) (Rp (.int .i64 ((j : Int))) (fun v1 => x_move rfl h11) (Rp (.pointer (some ⟨g2, j, none⟩)) (fun v1 => x_index rfl h9 rfl Try.underlying32 (s := 1) (by kernel_rfl) (by omega) (by omega) (by omega)) (Rp (.pointer (some ⟨gp, 0, none⟩)) (fun v1 => x_move rfl h6) (Rp (.slice sa (n) (cap)) (fun v1 => x_move rfl h7) (Rp (.int .i64 ((k : Int))) (fun v1 => x_move rfl h10) (Rp (.pointer (some ⟨bq2, k + oq2, none⟩)) (fun v1 => x_indexS rfl (rfl.trans (congrArg (fun q => Value.slice q (n) (cap)) eq2)) rfl Try.underlying23 (s := 1) (by kernel_rfl) (by omega) (by omega) (by omega)) (Rp (.int .i64 ((j : Int))) (fun v1 => x_move rfl h11) (Rp (.pointer (some ⟨gp, 0, none⟩)) (fun v1 => x_nil rfl rfl) (Rp (.pointer (some ⟨gp, 0, none⟩)) (fun v1 => x_field rfl rfl Try.underlying35 rfl (s := 36) (by kernel_rfl) rfl rfl) (Fx.R.s (.int .u64 ((upd (lsP (fun q => ofV K (X q)) k j) j (K (6 * a + j))) j)) (x_load1 (x := Fx.rv .u64 (upd (lsP (fun q => ofV K (X q)) k j) j (K (6 * a + j)))) rfl rfl (by kernel_rfl) m27.cel (i := j) (by omega) (by omega) rfl) ?_))))))))))
     refine Fx.R.s (.int .i64 (X k)) (x_load1 (x := Fx.rv .i64 X) rfl rfl (by kernel_rfl) m26 (i := k) (by omega) (by omega) rfl) ?_
     refine Rp (.int .i64 ((a : Int))) (fun v1 => Fx.x_sub rfl rfl rfl (Fx.i64e (by omega) (by omega))) (Rp (.pointer (some ⟨gp, 6 * a, none⟩)) (fun v1 => x_index rfl rfl rfl Try.underlying33 (s := 6) (by kernel_rfl) (by omega) (by omega) (by omega)) (Rp (.pointer (some ⟨gp, 6 * a + j, none⟩)) (fun v1 => x_index rfl rfl rfl Try.underlying32 (s := 1) (by kernel_rfl) (by omega) (by omega) (by omega)) (Fx.R.s (.int .u64 (K (6 * a + j))) (x_load1 (x := Fx.rv .u64 K) rfl rfl (by kernel_rfl) m24.cel (i := 6 * a + j) (by omega) (by omega) rfl) ?_)))
     refine Rp (.int .u64 (mn6 ((upd (lsP (fun q => ofV K (X q)) k j) j (K (6 * a + j))) j) (K (6 * a + j)))) (fun v1 => Fx.x_min rfl rfl rfl) (Rp (.pointer (some ⟨g2, j, none⟩)) (fun v1 => x_index rfl h9 rfl Try.underlying32 (s := 1) (by kernel_rfl) (by omega) (by omega) (by omega)) (Fx.R.eff (by rfl) ?_))
     refine Fx.L.store1 (x := Fx.rv .u64 (upd (lsP (fun q => ofV K (X q)) k j) j (K (6 * a + j)))) (u := .int .u64 (mn6 ((upd (lsP (fun q => ofV K (X q)) k j) j (K (6 * a + j))) j) (K (6 * a + j)))) (by rfl) rfl rfl rfl rfl (by rfl) (by kernel_rfl) m27 (i := j) (by omega) fun w6 m28 s6 z4 => ?_
     have m29 : Fx.Blk w6 g2 6 (Fx.rv .u64 (upd (upd (lsP (fun q => ofV K (X q)) k j) j (K (6 * a + j))) j (mn6 ((upd (lsP (fun q => ofV K (X q)) k j) j (K (6 * a + j))) j) (K (6 * a + j))))) 32 := m28.to (Fx.updV_rv _ _ _ _)
     have hct2 := Fx.ChT.of_stp s6 m27.ty
     have m30 := m24.chT hct2 (by decide)
     have m31 := m25.stp s6 (by omega)
     have m32 := m26.stp s6 (by omega)
     have b8 := s6.below b7 b7.size (by omega)
     refine Ln (Fx.R.nil (Fx.blkN (sN (Wl (Lv (.int .i64 ((j : Int))) (x_move rfl h11) (Lv (.int .i64 ((j : Int) + 1)) (Fx.x_add rfl rfl rfl (Fx.i64e (by omega) (by omega))) (Lv (.int .i64 ((j : Int) + 1)) (x_assign rfl rfl) (Ln ?_))))))))
     have m33 := m29.to (congrArg (Fx.rv .u64) (lsP_s0 (F := (fun q => ofV K (X q))) (i := k) (j := j) (by omega) hFj))
     refine Fx.lpN ⟨j + 1, by omega, h6, h7, h8, h9, (h10.trans (by first | rfl | exact congrArg (Value.int .i64) (by omega))), (by first | rfl | exact congrArg (Value.int .i64) (by omega)), m30, m31, m33, b8⟩ ?_
     show (6 - (intOf ((.int .i64 ((j : Int) + 1)))).toNat) < _
     simp only [h11, intOf]; omega
    refine Lv (.bool false) (x_eqlF rfl rfl rfl c26) (Ln (sN (Wc (b := false) rfl (fun h => nomatch h) (fun _ => Wk (sN ?_)))))
    -- region 12 draws
    refine Fx.W.reord [0, 1, 2, 4, 5, 6, 7, 10, 11, 12, 3, 8, 9, 13, 14, 15, 16, 17, 18] [0, 0, 0, 4, 0, 0, 0, 0, 4, 0, 0, 0, 0, 0, 0, 4, 0, 0, 3] Fx.Mk Fx.Mk.refl Fx.Mk.trans (certs := [(18, 3, [3]), (18, 8, [8]), (18, 15, [15])]) (by kernel_rfl) (by kernel_rfl) (by kernel_rfl) (by kernel_rfl) (by kernel_rfl) fun wt3 hbwt3 hzwt3 => ?_
    have s7 : Fx.Stp w4.heap.size w4 wt3 := Sb hbwt3
    have m34 := m12.stp s7 (Nat.ne_of_lt (m12.lt))
    have m35 := m13.stp s7 (Nat.ne_of_lt (m13.lt))
    have m36 := m14.stp s7 (Nat.ne_of_lt (m14.lt))
    have b9 := s7.below b4 b4.size b4.size
    refine Rp (.int .i64 ((j : Int))) (fun v1 => x_move rfl h11) (Rp (.int .i64 ((j : Int))) (fun v1 => x_move rfl h11) (Rp (.pointer (some ⟨g2, j, none⟩)) (fun v1 => x_index rfl h9 rfl Try.underlying32 (s := 1) (by kernel_rfl) (by omega) (by omega) (by omega)) (Rp (.pointer (some ⟨gp, 0, none⟩)) (fun v1 => x_move rfl h6) (Rp (.slice sa (n) (cap)) (fun v1 => x_move rfl h7) (Rp (.int .i64 ((k : Int))) (fun v1 => x_move rfl h10) ?_)))))
    obtain ⟨bq3, oq3, eq3, m37z⟩ := hl (by omega)
    have lbq3z : bq3 < w.heap.size := m37z.lt (by omega)
    have m37 := m37z.below b9 lbq3z
    have lbq3 : bq3 < wt3.heap.size := m37.lt (by omega)
    refine Rp (.pointer (some ⟨bq3, k + oq3, none⟩)) (fun v1 => x_indexS rfl (rfl.trans (congrArg (fun q => Value.slice q (n) (cap)) eq3)) rfl Try.underlying23 (s := 1) (by kernel_rfl) (by omega) (by omega) (by omega)) (Rp (.int .i64 ((j : Int))) (fun v1 => x_move rfl h11) (Rp (.pointer (some ⟨gp, 0, none⟩)) (fun v1 => x_nil rfl rfl) (Rp (.pointer (some ⟨gp, 0, none⟩)) (fun v1 => x_field rfl rfl Try.underlying35 rfl (s := 36) (by kernel_rfl) rfl rfl) (Fx.R.s (.int .u64 ((lsP (fun q => ofV K (X q)) k j) j)) (x_load1 (x := Fx.rv .u64 (lsP (fun q => ofV K (X q)) k j)) rfl rfl (by kernel_rfl) m36.cel (i := j) (by omega) (by omega) rfl) ?_))))
    refine Fx.R.s (.int .i64 (X k)) (x_load1 (x := Fx.rv .i64 X) rfl rfl (by kernel_rfl) m37 (i := k) (by omega) (by omega) rfl) ?_
    refine Rp (.int .i64 ((a : Int))) (fun v1 => Fx.x_sub rfl rfl rfl (Fx.i64e (by omega) (by omega))) (Rp (.pointer (some ⟨gp, 6 * a, none⟩)) (fun v1 => x_index rfl rfl rfl Try.underlying33 (s := 6) (by kernel_rfl) (by omega) (by omega) (by omega)) (Rp (.pointer (some ⟨gp, 6 * a + j, none⟩)) (fun v1 => x_index rfl rfl rfl Try.underlying32 (s := 1) (by kernel_rfl) (by omega) (by omega) (by omega)) (Fx.R.s (.int .u64 (K (6 * a + j))) (x_load1 (x := Fx.rv .u64 K) rfl rfl (by kernel_rfl) m34.cel (i := 6 * a + j) (by omega) (by omega) rfl) ?_)))
    refine Rp (.int .u64 (mn6 ((lsP (fun q => ofV K (X q)) k j) j) (K (6 * a + j)))) (fun v1 => Fx.x_min rfl rfl rfl) (Rp (.pointer (some ⟨g2, j, none⟩)) (fun v1 => x_index rfl h9 rfl Try.underlying32 (s := 1) (by kernel_rfl) (by omega) (by omega) (by omega)) (Fx.R.eff (by rfl) ?_))
    refine Fx.L.store1 (x := Fx.rv .u64 (lsP (fun q => ofV K (X q)) k j)) (u := .int .u64 (mn6 ((lsP (fun q => ofV K (X q)) k j) j) (K (6 * a + j)))) (by rfl) rfl rfl rfl rfl (by rfl) (by kernel_rfl) m36 (i := j) (by omega) fun w7 m38 s8 z5 => ?_
    have m39 : Fx.Blk w7 g2 6 (Fx.rv .u64 (upd (lsP (fun q => ofV K (X q)) k j) j (mn6 ((lsP (fun q => ofV K (X q)) k j) j) (K (6 * a + j))))) 32 := m38.to (Fx.updV_rv _ _ _ _)
    have hct3 := Fx.ChT.of_stp s8 m36.ty
    have m40 := m34.chT hct3 (by decide)
    have m41 := m35.stp s8 (by omega)
    have m42 := m37.stp s8 (by omega)
    have b10 := s8.below b9 b9.size (by omega)
    refine Ln (Fx.R.nil (Fx.blkN (sN (Wl (Lv (.int .i64 ((j : Int))) (x_move rfl h11) (Lv (.int .i64 ((j : Int) + 1)) (Fx.x_add rfl rfl rfl (Fx.i64e (by omega) (by omega))) (Lv (.int .i64 ((j : Int) + 1)) (x_assign rfl rfl) (Ln ?_))))))))
    have m43 := m39.to (congrArg (Fx.rv .u64) (lsP_s (F := (fun q => ofV K (X q))) (i := k) (j := j) c26 hFj))
    refine Fx.lpN ⟨j + 1, by omega, h6, h7, h8, h9, (h10.trans (by first | rfl | exact congrArg (Value.int .i64) (by omega))), (by first | rfl | exact congrArg (Value.int .i64) (by omega)), m40, m41, m43, b10⟩ ?_
    show (6 - (intOf ((.int .i64 ((j : Int) + 1)))).toNat) < _
    simp only [h11, intOf]; omega
   refine Lv (.bool false) (Fx.x_lssF rfl rfl rfl c22) (Ln (sN (Wc (b := false) rfl (fun h => nomatch h) (fun _ => Fx.W.exit (Fx.seqX (Fx.lpX (Fx.blkX (Fx.blkN (sN (Wl (Lv (.int .i64 ((k : Int))) (x_move rfl h10) (Lv (.int .i64 ((k : Int) + 1)) (Fx.x_add rfl rfl rfl (Fx.i64e (by omega) (by omega))) (Lv (.int .i64 ((k : Int) + 1)) (x_assign rfl rfl) (Ln ?_))))))))))))))
   have j6 : j = 6 := by omega
   subst j6
   have m44 := m14.congr (lsP_6 (fun q => ofV K (X q)) k)
   refine Fx.lpN ⟨k + 1, by omega, (ok_step hok c18), h6, h7, h8, h9, (by first | rfl | exact congrArg (Value.int .i64) (by omega)), m12, m13, m44, b4⟩ ?_
   show (n - (intOf ((.int .i64 ((k : Int) + 1)))).toNat) < _
   simp only [h5, intOf]; omega
  rw [Bool.not_eq_true] at c18
  refine Fx.L.call (by rfl) (rC (args := [.int .i64 (X k)]) rfl rfl Try.func37 rfl rfl) rfl ((r17_reg (X k) _).mono ?_)
  rintro e v1 ⟨he, hv1⟩
  subst v1
  refine ⟨.bool false, by rw [he, c18], ?_⟩
  clear he
  refine Lv (.bool true) (Fx.x_notT rfl rfl) (Ln (sN (Wc (b := true) rfl (fun _ => Ws (Wl (Lv (.agg (Fx.varr 6 (Fx.rv .u64 (fun _ => 0)))) (Fx.x_buildArr (vs := []) (s := 1) (m := 6) (x := Fx.rv .u64 (fun _ => 0)) rfl rfl Try.underlying32 (by kernel_rfl) (by kernel_rfl) (by rfl)) ?_))) (fun h => nomatch h))))
  refine Fx.L.storeA (x := Fx.rv .u64 (fun _ => 0)) (y := Fx.rv .u64 (fun _ => 0)) (by rfl) rfl rfl h3 rfl (fun _ _ => rfl) (by kernel_rfl) m8 (i := 0) (by omega) fun w8 m45 s9 z6 => ?_
  have m46 : Fx.Blk w8 g1 6 (Fx.rv .u64 (fun _ => 0)) 32 := Fx.ovr_all m45
  have m48 := m9.stp s9 (by omega)
  have m49 := m10.stp s9 (by omega)
  have b11 := s9.below b3 b3.size (by omega)
  refine Ln (sN (Wr (sR (Fx.blkR (sR (Fx.lpR (Fx.blkR (sR (⟨.agg (Fx.varr 6 (Fx.rv .u64 (fun _ => 0))), rV Try.results22 ⟨_, h3, Fx.run_loadV m46.cel (by kernel_rfl) (by kernel_rfl)⟩, ?_⟩)))))))))
  exact ⟨congrArg (fun q => Ending.returned (Value.agg (Fx.varr 6 (Fx.rv .u64 q)))) (refLst_no (k := k) (by omega) c18), b11⟩
 refine Lv (.bool false) (Fx.x_lssF rfl rfl rfl c11) (Ln (sN (Wc (b := false) rfl (fun h => nomatch h) (fun _ => Fx.W.exit (Fx.seqX (Fx.lpX (Fx.blkX (sN (Ws (Wl (Lv (.agg (Fx.varr 6 (Fx.rv .u64 (foldV mn6 (fun q => ofV K (X q)) k)))) (x_loadA (x := Fx.rv .u64 (foldV mn6 (fun q => ofV K (X q)) k)) (y := Fx.rv .u64 (foldV mn6 (fun q => ofV K (X q)) k)) rfl h4 (by kernel_rfl) (by kernel_rfl) m9.cel (i := 0) (by omega) (by omega) (fun j _ => by rw [Nat.zero_add])) (Fx.L.storeA (x := Fx.rv .u64 (fun _ => 0)) (y := Fx.rv .u64 (foldV mn6 (fun q => ofV K (X q)) k)) (by rfl) rfl rfl h3 rfl (fun _ _ => rfl) (by kernel_rfl) m8 (i := 0) (by omega) fun w9 m50 s10 z7 => ?_))))))))))))
 have m51 : Fx.Blk w9 g1 6 (Fx.rv .u64 (foldV mn6 (fun q => ofV K (X q)) k)) 32 := Fx.ovr_all m50
 have m53 := m9.stp s10 (by omega)
 have b12 := s10.below b3 b3.size (by omega)
 refine Ln (sN (Wr (⟨.agg (Fx.varr 6 (Fx.rv .u64 (foldV mn6 (fun q => ofV K (X q)) k))), rV Try.results22 ⟨_, h3, Fx.run_loadV m51.cel (by kernel_rfl) (by kernel_rfl)⟩, ?_⟩)))
 have ek : k = n := by omega
 subst ek
 exact ⟨congrArg (fun q => Ending.returned (Value.agg (Fx.varr 6 (Fx.rv .u64 q)))) (by unfold refLst; rw [if_pos (allG_mk hok)]), b12⟩
namespace Rt
theorem add_m {w : World} {B p T : Nat} {m : LgM} {v : EvM} {S : LgM → Prop} (h1 : addG m v = 0 → ∃ m', LgO w B p m' (T + 1) ∧ AddR m m' v ∧ S m') (h2 : addG m v ≠ 0 → LgO w B p m T) :
    ∃ m', LgO w B p m' (T + 1) ∧ (addG m v = 0 ∧ AddR m m' v ∨ addG m v ≠ 0 ∧ m' = m) := by
  by_cases h : addG m v = 0
  · obtain ⟨m', q1, q2, _⟩ := h1 h; exact ⟨m', q1, .inl ⟨h, q2⟩⟩
  exact ⟨m, (h2 h).mono (Nat.le_succ _), .inr ⟨h, rfl⟩⟩
theorem add_r {w : World} {B q T : Nat} {r : RlM} {v : EvM} {S : RlM → Prop} (h1 : addK r.K v = 0 → ∃ r', RlO w B q r' (T + 1) ∧ r'.R = r.R ++ [v] ∧ r'.K = upd r.K (regN v) v.seq ∧ S r') (h2 : addK r.K v ≠ 0 → RlO w B q r T) (h0 : S r) :
    ∃ r', RlO w B q r' (T + 1) ∧ (addK r.K v = 0 ∧ r'.R = r.R ++ [v] ∧ r'.K = upd r.K (regN v) v.seq ∨ addK r.K v ≠ 0 ∧ r' = r) ∧ S r' := by
  by_cases h : addK r.K v = 0
  · obtain ⟨r', q1, q2, q3, q4⟩ := h1 h; exact ⟨r', q1, .inl ⟨h, q2, q3⟩, q4⟩
  exact ⟨r, (h2 h).mono (Nat.le_succ _), .inr ⟨h, rfl⟩, h0⟩
open Classical in
noncomputable def addL (m : LgM) (v : EvM) (G : List ItM) : List ItM := if addG m v = 0 then G ++ [⟨v, m.cnt⟩] else G
theorem LTw.add2 {m m' : LgM} {r r' : RlM} {G : List ItM} {v : EvM} (h : LTw m r G) (h1 : addG m v = 0 ∧ AddR m m' v ∨ addG m v ≠ 0 ∧ m' = m) (h2 : addK r.K v = 0 ∧ r'.R = r.R ++ [v] ∧ r'.K = upd r.K (regN v) v.seq ∨ addK r.K v ≠ 0 ∧ r' = r) (hv : EvWf v) : LTw m' r' (addL m v G) := by
  rw [h.addE] at h2
  unfold addL
  rcases h1 with ⟨e, h1⟩ | ⟨e, rfl⟩ <;> rcases h2 with ⟨e2, h2, h3⟩ | ⟨e2, rfl⟩
  · rw [if_pos e]; exact h.add e h1 hv h2 h3
  · exact absurd e e2
  · exact absurd e2 e
  rw [if_neg e]; exact h
end Rt
section
namespace Rt
structure GsM where
  J : Int
  V : Nat → Int
def gsY (x : GsM) : Nat → Value := fun p => if p = 0 then .int .i64 x.J else .int .u64 (x.V (p - 1))
theorem gsY_V (x : GsM) {p k : Nat} (e : p = k + 1) : gsY x p = .int .u64 (x.V k) := by subst e; unfold gsY; rw [if_neg (by omega), Nat.add_sub_cancel]
theorem told_u {K v : Nat → Int} {i : Int} (hK : ∀ p, U64r (K p)) (hv : ∀ j, j < 6 → U64r (v j)) : ∀ p, U64r (toldK K i v p) := fun p => by
  unfold toldK
  split
  · unfold Fx.ovrI
    split
    · rename_i h
      show U64r (mx6 (K _) (v _))
      unfold mx6; split
      · exact hv _ (by omega)
      · exact hK _
    · exact hK p
  · exact hK p
theorem u64_zero : U64r 0 := ⟨by decide, by decide⟩
theorem zero_u : ∀ p : Nat, U64r ((fun _ => 0 : Nat → Int) p) := fun _ => u64_zero
theorem of_u {K : Nat → Int} {i : Int} (hK : ∀ p, U64r (K p)) : ∀ p, U64r (ofV K i p) := fun p => by
  unfold ofV; split
  · exact hK _
  · exact u64_zero
theorem foldS_u {F : Nat → Nat → Int} (h : ∀ i p, U64r (F i p)) (p : Nat) : ∀ n, U64r (foldS mn6 F n p)
  | 0 => h 0 p
  | n + 1 => by
    have h1 := foldS_u h p n; have h2 := h (n + 1) p
    show U64r (mn6 (foldS mn6 F n p) (F (n + 1) p))
    unfold mn6; split <;> assumption
theorem least_u {K X : Nat → Int} (hK : ∀ p, U64r (K p)) (n : Nat) : ∀ p, U64r (leastV K X n p) := fun p => by
  unfold leastV
  cases n with
  | zero => exact ⟨by show (0 : Int) ≤ 0; decide, by show (0 : Int) ≤ _; decide⟩
  | succ n => exact foldS_u (fun i p => of_u hK p) p n
theorem kd_u {x : Nat → Int} (h : ∀ p, U64r (x p)) : Fx.Kd (List.replicate 6 (some .u64)) (Fx.rv .u64 x) := Fx.kd_rv fun i _ => Fx.wfu64 (h i)
theorem arr_its {w : World} {a : Option Addr} {n : Nat} {X : Nat → Int} (h : Fx.Arr w a n 1 (Fx.rv .i64 X)) : Its w a n X := fun h0 => by
  obtain ⟨b, off, e, c⟩ := h h0
  exact ⟨b, off, e, by rw [Nat.mul_one] at c; exact c⟩
def SepRW (q : Nat) (r : RlM) (p : Nat) (M : WM) : Prop := ∀ k, rlS q r k → ¬ wdS p M k
section
variable {w w' : World} {B B2 q p T T2 : Nat} {r r' : RlM} {M M' : WM} {S : Nat → Prop}
theorem SepRW.new (h : ¬ wdS p M q) : SepRW q r0 p M := fun k h1 h2 => h1.elim (fun e => h (e ▸ h2)) (fun e => by cases e)
theorem SepRW.doW (h : SepRW q r p M) (hS : SepW w p M M') (hr : RlO w B q r T) : SepRW q r p M' := fun k h1 h2 => by
  rcases hS k h2 with h3 | h3
  · exact h k h1 h3
  · have := (hr.ge k h1).2; omega
theorem SepRW.add (h : SepRW q r p M) (hS : SepR w q r r') (hW : WldO w B p M T) : SepRW q r' p M := fun k h1 h2 => by
  rcases hS k h1 with h3 | h3
  · exact h k h3 h2
  · have := (hW.ge k h2).2; omega
theorem WldO.ofR (h : WldO w B p M T) (hc : Fx.Chg S w w') (ht : Fx.ChT [50, 48] w w') (ne : ∀ k, wdS p M k → ¬ S k) : WldO w' B p M T :=
  { h with c := h.c.chT ht (by decide), l := h.l.chT ht (by decide), a := h.a.chg hc (fun g hg => ne g (.inr (.inr hg))), g := h.g.chT ht (by decide) }
end
end Rt
open Rt
theorem g_lacks (K : Nat → Int) (gp : Nat) (n most : Int) {m : LgM} {B p T : Nat} {E X : List EvM} (w : World) (hp : Fx.Blk w gp 36 (Fx.rv .u64 K) 92) (h : LgO w B p m T) (hT : T ≤ 100000) (hE : LgE m E) (hX : (E.filter (keepE (ofV K n))).take most.toNat = X) :
    Calls Try.prog 24 #[.pointer (some ⟨gp, 0, none⟩), .int .i64 (n), .pointer (some ⟨p, 0, none⟩), .int .i64 (most)] w fun e w' => ∃ a c, e = .returned (.slice a X.length c) ∧ Fx.Own w' w.heap.size 50 14 (.slice a X.length c) X.length (evL X) ∧ Below w.heap.size w w' := by
 have lgp := hp.lt
 have lpp := h.blk.lt
 refine Fx.enter Try.func24 rfl (n := 17) rfl (by rfl) ?_
 refine Ws (Wl (Lv (.slice none 0 0) (x_assign rfl rfl) (Ln (sN (Ws (Ws (Wl (Lv (.pointer (some ⟨gp, 0, none⟩)) (x_move rfl rfl) (Lv (.bool false) (Fx.x_eqNil rfl rfl rfl (by kernel_rfl)) (Ln (sN (Wc (b := false) rfl (fun h => nomatch h) (fun _ => Wk (sN (Ws (Wl (Lv (.pointer (some ⟨p, 0, none⟩)) (x_move rfl rfl) (Lv (.pointer (some ⟨gp, 0, none⟩)) (x_move rfl rfl) (Lv (.int .i64 (n)) (x_move rfl rfl) (Fx.L.call (by rfl) (rC (args := [.pointer (some ⟨gp, 0, none⟩), .int .i64 (n)]) rfl rfl Try.func14 rfl rfl) rfl ((g_of K gp n _ hp).mono ?_)))))))))))))))))))))
 rintro e w1 ⟨he, hb1⟩
 refine ⟨.agg (Fx.varr 6 (Fx.rv .u64 (ofV K n))), by rw [he], ?_⟩
 clear he
 have s1 := Sb hb1
 have m2 := h.up s1.old
 have b1 := s1.below (Below.refl w.heap.size w) (Below.refl w.heap.size w).size (Below.refl w.heap.size w).size
 refine Lv (.int .i64 (most)) (x_move rfl rfl) (Fx.L.call (by rfl) (rC (args := [.pointer (some ⟨p, 0, none⟩), .agg (Fx.varr 6 (Fx.rv .u64 (ofV K n))), .int .i64 (most)]) rfl rfl Try.func29 rfl rfl) rfl ((e_since (ofV K n) most (X := X) m2 hT hE hX).mono ?_))
 rintro e9 w2 ⟨a1, c1, he, ho1, hb2⟩
 refine ⟨_, he, ?_⟩
 clear he
 have s2 := Sb hb2
 have b2 := s2.below b1 b1.size b1.size
 refine Lv (.slice a1 (X.length) (c1)) (x_assign rfl rfl) (Ln (sN (Wr (⟨.slice a1 (X.length) (c1), rV Try.results24 (by exact rfl), ?_⟩))))
 exact ⟨_, _, rfl, ho1.mono (by first | exact Nat.le_refl _ | exact b1.size), b2⟩
set_option maxRecDepth 20000 in
set_option maxHeartbeats 2000000 in
theorem plays17_any (la : Option Addr) (nl lc : Nat) (xg : Nat → GsM) (sa : Option Addr) (ns sc : Nat) (X : Nat → Int) (rb : Nat) (aa0 : Option Addr) (na ca : Nat) (xa : Nat → ActM) (jj most : Int) (w : World) (hrb : rb ≤ 255) (hxa : ∀ k, k < na → ActOk (xa k)) (hacts : Fx.Arr w aa0 na 9 (Fx.flat 9 fun k => actY (xa k))) (hgs : Fx.Arr w la nl 7 (Fx.flat 7 fun k => gsY (xg k))) (hgV : ∀ k, k < nl → ∀ j, j < 6 → U64r ((xg k).V j)) (hso : Fx.Arr w sa ns 1 (Fx.rv .i64 X)) :
    Calls Try.prog 3 #[.slice la (nl) (lc), .slice sa (ns) (sc), .int .u8 ((rb : Int)), .slice aa0 (na) (ca), .int .i64 (jj), .int .i64 (most)] w fun e w' => e = .returned (.bool true) ∧ Below w.heap.size w w' := by
 refine Fx.enter Try.func3 rfl (n := 143) rfl (by rfl) ?_
 refine Ws (Wl (Lv (.bool false) (x_assign rfl rfl) (Ln (sN (Ws (Ws (Wl (Lv (.slice la (nl) (lc)) (x_move rfl rfl) (Lv (.int .i64 ((nl : Int))) (x_len rfl rfl rfl (by kernel_rfl)) ?_)))))))))
 by_cases c24 : 100 < (nl : Int)
 ·refine Lv (.bool true) (Fx.x_gtrT rfl rfl rfl c24) (Lv (.bool true) (x_move rfl rfl) (Lk (by rfl) rfl (Lk (by rfl) rfl (Lk (by rfl) rfl (Lv (.bool true) (x_pickT rfl rfl rfl) (Lv (.bool true) (x_move rfl rfl) (Lk (by rfl) rfl (Lk (by rfl) rfl (Lk (by rfl) rfl (Lv (.bool true) (x_pickT rfl rfl rfl) (Ln (sN (Wc (b := true) rfl (fun _ => Ws (Wl (Fx.L.call (by rfl) (rC (args := []) rfl rfl Try.func10 rfl rfl) rfl ((works17_any _).mono ?_)))) (fun h => nomatch h))))))))))))))
  rintro e w1 ⟨he, hb1⟩
  refine ⟨.bool true, by rw [he], ?_⟩
  clear he
  have s1 := Sb hb1
  have b1 := s1.below (Below.refl w.heap.size w) (Below.refl w.heap.size w).size (Below.refl w.heap.size w).size
  refine Lv (.bool true) (x_assign rfl rfl) (Ln (sN (Wr (sR (⟨.bool true, rV Try.results3 (by exact rfl), ?_⟩)))))
  exact ⟨rfl, b1⟩
 refine Lv (.bool false) (x_gtrF rfl rfl rfl c24) (Lv (.bool false) (x_move rfl rfl) (Lv (.slice sa (ns) (sc)) (x_move rfl rfl) (Lv (.int .i64 ((ns : Int))) (x_len rfl rfl rfl (by kernel_rfl)) ?_)))
 by_cases c28 : 20 < (ns : Int)
 ·refine Lv (.bool true) (Fx.x_gtrT rfl rfl rfl c28) (Lv (.bool true) (x_pickF rfl rfl rfl) (Lv (.bool true) (x_move rfl rfl) (Lk (by rfl) rfl (Lk (by rfl) rfl (Lk (by rfl) rfl (Lv (.bool true) (x_pickT rfl rfl rfl) (Ln (sN (Wc (b := true) rfl (fun _ => Ws (Wl (Fx.L.call (by rfl) (rC (args := []) rfl rfl Try.func10 rfl rfl) rfl ((works17_any _).mono ?_)))) (fun h => nomatch h))))))))))
  rintro e w2 ⟨he, hb2⟩
  refine ⟨.bool true, by rw [he], ?_⟩
  clear he
  have s2 := Sb hb2
  have b2 := s2.below (Below.refl w.heap.size w) (Below.refl w.heap.size w).size (Below.refl w.heap.size w).size
  refine Lv (.bool true) (x_assign rfl rfl) (Ln (sN (Wr (sR (⟨.bool true, rV Try.results3 (by exact rfl), ?_⟩)))))
  exact ⟨rfl, b2⟩
 refine Lv (.bool false) (x_gtrF rfl rfl rfl c28) (Lv (.bool false) (x_pickF rfl rfl rfl) (Lv (.bool false) (x_move rfl rfl) (Lv (.slice aa0 (na) (ca)) (x_move rfl rfl) ?_)))
 by_cases c32 : (decide ((na : Int) ≤ 60)) = true
 ·refine Fx.L.call (by rfl) (rC (args := [.slice aa0 (na) (ca)]) rfl rfl Try.func9 rfl rfl) rfl ((l_few _ _ _ _).mono ?_)
  rintro e v1 ⟨he, hv1⟩
  subst v1
  refine ⟨.bool true, by rw [he, c32], ?_⟩
  clear he
  refine Lv (.bool false) (Fx.x_notF rfl rfl) (Lv (.bool false) (x_pickF rfl rfl rfl) (Ln (sN (Wc (b := false) rfl (fun h => nomatch h) (fun _ => Wk (sN (Ws ?_)))))))
  have hna := of_decide_eq_true c32
  refine Wl (Fx.L.call (by rfl) (rC (args := []) rfl rfl Try.func11 rfl rfl) rfl ((g_new _).mono ?_))
  rintro e9 w3 ⟨pg, he, lpg0, m1, hb3⟩
  refine ⟨_, he, ?_⟩
  clear he
  have s3 := Sb hb3
  have lpg : w.heap.size ≤ pg := Nat.le_trans (Below.refl w.heap.size w).size lpg0
  have tpg : pg < w3.heap.size := m1.lt
  have b3 := s3.below (Below.refl w.heap.size w) (Below.refl w.heap.size w).size (Below.refl w.heap.size w).size
  refine Lv (.pointer (some ⟨pg, 0, none⟩)) (x_assign rfl rfl) (Ln (sN (Ws (Wl (Lv (.agg (Fx.varr 36 (Fx.rv .u64 (fun _ => 0)))) (x_build (vs := []) (places := #[(0, 36)]) (m := 36) (x := Fx.rv .u64 (fun _ => 0)) rfl rfl Try.underlying35 (by kernel_rfl) (by kernel_rfl) (by rfl)) (Fx.L.box (m := 36) (y := Fx.rv .u64 (fun _ => 0)) (by rfl) rfl rfl (Fx.cells_agg _ _) rfl fun g1 w4 eg1 m2 s4 z1 => ?_))))))
  have m3 := m1.stp s4 (Nat.ne_of_lt (m1.lt))
  have b4 := s4.below b3 b3.size b3.size
  have lg1 : w.heap.size ≤ g1 := by rw [eg1]; exact b3.size
  have ng1m3 : pg ≠ g1 := by rw [eg1]; exact Nat.ne_of_lt (m1.lt)
  have tg1 : g1 < w4.heap.size := m2.lt
  clear eg1
  refine Lv (.pointer (some ⟨g1, 0, none⟩)) (x_assign rfl rfl) (Ln (sN (Ws (Ws (Wl (Lv (.int .i64 (0)) (x_assign rfl rfl) (Ln (sN (Fx.W.block (Fx.W.loop (fun f w_ => ∃ i : Nat, ∃ Kp : Nat → Int, i ≤ nl ∧ (∀ p, U64r (Kp p)) ∧ f 0 = .slice la (nl) (lc) ∧ f 1 = .slice sa (ns) (sc) ∧ f 2 = .int .u8 ((rb : Int)) ∧ f 3 = .slice aa0 (na) (ca) ∧ f 4 = .int .i64 (jj) ∧ f 5 = .int .i64 (most) ∧ f 13 = .pointer (some ⟨pg, 0, none⟩) ∧ f 14 = .pointer (some ⟨g1, 0, none⟩) ∧ f 15 = .int .i64 ((i : Int)) ∧ Fx.Blk w_ pg 36 (Fx.rv .u64 Kp) 92 ∧ Fx.Blk w_ g1 36 (Fx.rv .u64 Kp) 35 ∧ Below w.heap.size w w_) (fun f _ => (nl - (intOf (f 15)).toNat)) ⟨0, (fun _ => 0), by omega, zero_u, (by rfl), (by rfl), (by first | rfl | exact congrArg (Value.int .u8) (by omega)), (by rfl), (by first | rfl | exact congrArg (Value.int .i64) (by omega)), (by first | rfl | exact congrArg (Value.int .i64) (by omega)), (by rfl), (by rfl), (by first | rfl | exact congrArg (Value.int .i64) (by omega)), m3, m2, b4⟩ ?_))))))))))
  rintro f1 w5 ⟨i, Kp, hi, hKu, h1, h2, h3, h4, h5, h6, h7, h8, h9, m4, m5, b5⟩
  refine Ws (Ws (Wl (Lv (.int .i64 ((i : Int))) (x_move rfl h9) (Lv (.slice la (nl) (lc)) (x_move rfl h1) (Lv (.int .i64 ((nl : Int))) (x_len rfl rfl rfl (by kernel_rfl)) ?_)))))
  by_cases c42 : (i : Int) < (nl : Int)
  ·refine Lv (.bool true) (Fx.x_lssT rfl rfl rfl c42) (Ln (sN (Wc (b := true) rfl (fun _ => Wk (sN (Ws (Fx.W.block (Ws ?_))))) (fun h => nomatch h))))
   -- region 8 draws
   refine Fx.W.reord [0, 1, 2, 3, 4, 6, 7, 8, 9, 12, 13, 14, 15, 16, 18, 19, 20, 21, 5, 10, 17, 22, 11, 23, 24, 25, 26, 27, 28, 29, 30, 33, 34, 35, 36, 37, 31, 38, 32, 39, 40, 41] [0, 0, 0, 0, 0, 4, 0, 0, 0, 0, 4, 2, 0, 0, 0, 0, 0, 1, 0, 0, 0, 0, 1, 2, 0, 0, 0, 0, 0, 0, 0, 4, 2, 0, 0, 0, 0, 0, 1, 2, 0, 0] (Fx.Chg (fun k => k = pg ∨ k = g1)) (Fx.Chg.refl _) Fx.Chg.trans (certs := [(11, 5, [5]), (23, 5, [11, 5]), (32, 5, [25, 24, 11, 5]), (39, 5, [25, 24, 11, 5]), (11, 10, [10]), (23, 10, [11, 10]), (32, 10, [25, 24, 11, 10]), (39, 10, [25, 24, 11, 10]), (23, 11, [11]), (24, 11, [11]), (25, 11, [24, 11]), (26, 11, [25, 24, 11]), (27, 11, [25, 24, 11]), (28, 11, [25, 24, 11]), (29, 11, [25, 24, 11]), (30, 11, [25, 24, 11]), (33, 11, [25, 24, 11]), (34, 11, [25, 24, 11]), (35, 11, [25, 24, 11]), (36, 11, [25, 24, 11]), (37, 11, [25, 24, 11]), (31, 11, [25, 24, 11]), (38, 11, [25, 24, 11]), (32, 11, [25, 24, 11]), (39, 11, [25, 24, 11]), (40, 11, [25, 24, 11]), (41, 11, [25, 24, 11]), (24, 23, [23]), (25, 23, [23]), (26, 23, [25, 23]), (27, 23, [25, 23]), (28, 23, [25, 23]), (29, 23, [25, 23]), (30, 23, [25, 23]), (33, 23, [25, 23]), (34, 23, [25, 23]), (35, 23, [25, 23]), (36, 23, [25, 23]), (37, 23, [25, 23]), (31, 23, [25, 23]), (38, 23, [25, 23]), (32, 23, [25, 23]), (39, 23, [25, 23]), (40, 23, [25, 23]), (41, 23, [25, 23]), (32, 31, [31]), (39, 31, [32, 31]), (39, 32, [32]), (40, 32, [32]), (41, 32, [40, 32]), (40, 39, [39]), (41, 39, [40, 39])]) (by kernel_rfl) (by kernel_rfl) (by kernel_rfl) (by kernel_rfl) (by kernel_rfl) fun wt1 hbwt1 hzwt1 => ?_
   have s5 : Fx.Stp w5.heap.size w5 wt1 := Sb hbwt1
   have m6 := m4.stp s5 (Nat.ne_of_lt (m4.lt))
   have m7 := m5.stp s5 (Nat.ne_of_lt (m5.lt))
   have b6 := s5.below b5 b5.size b5.size
   refine Rp (.pointer (some ⟨pg, 0, none⟩)) (fun v1 => x_move rfl h7) (Rp (.slice la (nl) (lc)) (fun v1 => x_move rfl h1) (Rp (.int .i64 ((i : Int))) (fun v1 => x_move rfl h9) ?_))
   obtain ⟨bq1, oq1, eq1, m8z⟩ := hgs (by omega)
   have lbq1z : bq1 < w.heap.size := m8z.lt (by omega)
   have m8 := m8z.below b6 lbq1z
   have lbq1 : bq1 < wt1.heap.size := m8.lt (by omega)
   refine Rp (.pointer (some ⟨bq1, 7 * i + oq1, none⟩)) (fun v1 => x_indexS rfl (rfl.trans (congrArg (fun q => Value.slice q (nl) (lc)) eq1)) rfl Try.underlying22 (s := 7) (by kernel_rfl) (by omega) (by omega) (by omega)) (Rp (.pointer (some ⟨bq1, 7 * i + oq1, none⟩)) (fun v1 => x_field rfl rfl Try.underlying39 rfl (s := 1) (by kernel_rfl) rfl rfl) (Rp (.slice la (nl) (lc)) (fun v1 => x_move rfl h1) (Rp (.int .i64 ((i : Int))) (fun v1 => x_move rfl h9) (Rp (.pointer (some ⟨bq1, 7 * i + oq1, none⟩)) (fun v1 => x_indexS rfl (rfl.trans (congrArg (fun q => Value.slice q (nl) (lc)) eq1)) rfl Try.underlying22 (s := 7) (by kernel_rfl) (by omega) (by omega) (by omega)) (Rp (.pointer (some ⟨bq1, 7 * i + oq1 + 1, none⟩)) (fun v1 => x_field rfl rfl Try.underlying39 rfl (s := 6) (by kernel_rfl) rfl (by show _ + 1 = _; omega)) (Rp (.pointer (some ⟨g1, 0, none⟩)) (fun v1 => x_move rfl h8) (Rp (.slice la (nl) (lc)) (fun v1 => x_move rfl h1) (Rp (.int .i64 ((i : Int))) (fun v1 => x_move rfl h9) (Rp (.pointer (some ⟨bq1, 7 * i + oq1, none⟩)) (fun v1 => x_indexS rfl (rfl.trans (congrArg (fun q => Value.slice q (nl) (lc)) eq1)) rfl Try.underlying22 (s := 7) (by kernel_rfl) (by omega) (by omega) (by omega)) (Rp (.pointer (some ⟨bq1, 7 * i + oq1, none⟩)) (fun v1 => x_field rfl rfl Try.underlying39 rfl (s := 1) (by kernel_rfl) rfl rfl) (Rp (.slice la (nl) (lc)) (fun v1 => x_move rfl h1) (Rp (.int .i64 ((i : Int))) (fun v1 => x_move rfl h9) (Rp (.pointer (some ⟨bq1, 7 * i + oq1, none⟩)) (fun v1 => x_indexS rfl (rfl.trans (congrArg (fun q => Value.slice q (nl) (lc)) eq1)) rfl Try.underlying22 (s := 7) (by kernel_rfl) (by omega) (by omega) (by omega)) (Rp (.pointer (some ⟨bq1, 7 * i + oq1 + 1, none⟩)) (fun v1 => x_field rfl rfl Try.underlying39 rfl (s := 6) (by kernel_rfl) rfl (by show _ + 1 = _; omega)) (Fx.R.s (.int .i64 ((xg i).J)) (x_load1 (x := Fx.flat 7 fun k => gsY (xg k)) rfl rfl (by kernel_rfl) m8 (i := 7 * i) (by omega) (by omega) (Fx.flat_cell (k := i) (j := 0) (by omega) (by omega) rfl)) ?_)))))))))))))))
   refine Fx.R.s (.agg (Fx.varr 6 (Fx.rv .u64 ((xg i).V)))) (x_loadA (x := Fx.flat 7 fun k => gsY (xg k)) (y := Fx.rv .u64 ((xg i).V)) rfl rfl (by kernel_rfl) (by kernel_rfl) m8 (i := 7 * i + 1) (by omega) (by omega) (fun jq hjq => (Fx.flat_at (k := i) (j := 1 + jq) (by omega) (by omega)).trans ((fun jq hjq => gsY_V _ (by omega)) jq hjq))) ?_
   refine Fx.R.read (v := .int .i64 ((xg i).J)) (by rfl) (by rfl) (Fx.Chg.refl _ _) (fun v1 hv1 => x_load1 (x := Fx.flat 7 fun k => gsY (xg k)) rfl rfl (by kernel_rfl) (m8.chg hv1 (fun h => by rcases h with h | h <;> omega)) (i := 7 * i) (by omega) (by omega) (Fx.flat_cell (k := i) (j := 0) (by omega) (by omega) rfl)) ?_
   refine Fx.R.read (v := .agg (Fx.varr 6 (Fx.rv .u64 ((xg i).V)))) (by rfl) (by rfl) (Fx.Chg.refl _ _) (fun v1 hv1 => x_loadA (x := Fx.flat 7 fun k => gsY (xg k)) (y := Fx.rv .u64 ((xg i).V)) rfl rfl (by kernel_rfl) (by kernel_rfl) (m8.chg hv1 (fun h => by rcases h with h | h <;> omega)) (i := 7 * i + 1) (by omega) (by omega) (fun jq hjq => (Fx.flat_at (k := i) (j := 1 + jq) (by omega) (by omega)).trans ((fun jq hjq => gsY_V _ (by omega)) jq hjq))) ?_
   refine Fx.R.make (by rfl) ?_
   refine Fx.L.call (by rfl) (rC (args := [.pointer (some ⟨pg, 0, none⟩), .int .i64 ((xg i).J), .agg (Fx.varr 6 (Fx.rv .u64 ((xg i).V)))]) rfl rfl Try.func12 rfl rfl) rfl ((g_told Kp ((xg i).V) pg ((xg i).J) _ m6).mono ?_)
   rintro e9 w6 ⟨he, m9, s6⟩
   refine ⟨_, he, ?_⟩
   clear he
   have hct1 := Fx.ChT.of_stp s6 m6.ty
   have m10 := m7.chT hct1 (by decide)
   have m11 := m8.stp s6 (by omega)
   have b7 := s6.below b6 b6.size (by omega)
   refine Ln ⟨((Fx.Chg.of_stp s6).mono (fun _ e => .inl e)), ?_⟩
   refine Fx.R.make (by rfl) ?_
   refine Fx.L.call (by rfl) (rC (args := [.pointer (some ⟨g1, 0, none⟩), .int .i64 ((xg i).J), .agg (Fx.varr 6 (Fx.rv .u64 ((xg i).V)))]) rfl rfl Try.func13 rfl rfl) rfl ((r17_told Kp ((xg i).V) g1 ((xg i).J) _ m10).mono ?_)
   rintro e9 w7 ⟨he, m12, s7⟩
   refine ⟨_, he, ?_⟩
   clear he
   have m13 := m11.stp s7 (by omega)
   have hct2 := Fx.ChT.of_stp s7 m10.ty
   have m14 := m9.chT hct2 (by decide)
   have b8 := s7.below b7 b7.size (by omega)
   refine Ln ⟨((Fx.Chg.of_stp s7).mono (fun _ e => .inr e)), ?_⟩
   refine Rp (.bool false) (fun v1 => Fx.x_neqF rfl rfl rfl rfl) (Rp (.bool false) (fun v1 => x_move rfl rfl) (Rp (.pointer (some ⟨pg, 0, none⟩)) (fun v1 => x_move rfl h7) (Rp (.slice la (nl) (lc)) (fun v1 => x_move rfl h1) (Rp (.int .i64 ((i : Int))) (fun v1 => x_move rfl h9) (Rp (.pointer (some ⟨bq1, 7 * i + oq1, none⟩)) (fun v1 => x_indexS rfl (rfl.trans (congrArg (fun q => Value.slice q (nl) (lc)) eq1)) rfl Try.underlying22 (s := 7) (by kernel_rfl) (by omega) (by omega) (by omega)) (Rp (.pointer (some ⟨bq1, 7 * i + oq1, none⟩)) (fun v1 => x_field rfl rfl Try.underlying39 rfl (s := 1) (by kernel_rfl) rfl rfl) (Rp (.pointer (some ⟨g1, 0, none⟩)) (fun v1 => x_move rfl h8) (Rp (.slice la (nl) (lc)) (fun v1 => x_move rfl h1) (Rp (.int .i64 ((i : Int))) (fun v1 => x_move rfl h9) (Rp (.pointer (some ⟨bq1, 7 * i + oq1, none⟩)) (fun v1 => x_indexS rfl (rfl.trans (congrArg (fun q => Value.slice q (nl) (lc)) eq1)) rfl Try.underlying22 (s := 7) (by kernel_rfl) (by omega) (by omega) (by omega)) (Rp (.pointer (some ⟨bq1, 7 * i + oq1, none⟩)) (fun v1 => x_field rfl rfl Try.underlying39 rfl (s := 1) (by kernel_rfl) rfl rfl) (Fx.R.s (.int .i64 ((xg i).J)) (x_load1 (x := Fx.flat 7 fun k => gsY (xg k)) rfl rfl (by kernel_rfl) m13 (i := 7 * i) (by omega) (by omega) (Fx.flat_cell (k := i) (j := 0) (by omega) (by omega) rfl)) ?_))))))))))))
   refine Fx.R.read (v := .int .i64 ((xg i).J)) (by rfl) (by rfl) (Fx.Chg.refl _ _) (fun v1 hv1 => x_load1 (x := Fx.flat 7 fun k => gsY (xg k)) rfl rfl (by kernel_rfl) (m13.chg hv1 (fun h => by rcases h with h | h <;> omega)) (i := 7 * i) (by omega) (by omega) (Fx.flat_cell (k := i) (j := 0) (by omega) (by omega) rfl)) ?_
   refine Fx.R.make (by rfl) ?_
   refine Fx.L.call (by rfl) (rC (args := [.pointer (some ⟨pg, 0, none⟩), .int .i64 ((xg i).J)]) rfl rfl Try.func14 rfl rfl) rfl ((g_of (toldK Kp ((xg i).J) ((xg i).V)) pg ((xg i).J) _ m14).mono ?_)
   rintro e w8 ⟨he, hb4⟩
   refine ⟨.agg (Fx.varr 6 (Fx.rv .u64 (ofV (toldK Kp ((xg i).J) ((xg i).V)) ((xg i).J)))), by rw [he], ?_⟩
   clear he
   have s8 := Sb hb4
   have m16 := m14.stp s8 (Nat.ne_of_lt (m14.lt))
   have m17 := m12.stp s8 (Nat.ne_of_lt (m12.lt))
   have b9 := s8.below b8 b8.size b8.size
   refine Ln ⟨Fx.Chg.of_below s8.old, ?_⟩
   refine Fx.R.make (by rfl) ?_
   refine Fx.L.call (by rfl) (rC (args := [.pointer (some ⟨g1, 0, none⟩), .int .i64 ((xg i).J)]) rfl rfl Try.func15 rfl rfl) rfl ((r17_of (toldK Kp ((xg i).J) ((xg i).V)) g1 ((xg i).J) _ m17).mono ?_)
   rintro e w9 ⟨he, hb5⟩
   refine ⟨.agg (Fx.varr 6 (Fx.rv .u64 (ofV (toldK Kp ((xg i).J) ((xg i).V)) ((xg i).J)))), by rw [he], ?_⟩
   clear he
   have s9 := Sb hb5
   have m19 := m16.stp s9 (Nat.ne_of_lt (m16.lt))
   have m20 := m17.stp s9 (Nat.ne_of_lt (m17.lt))
   have b10 := s9.below b9 b9.size b9.size
   refine Ln ⟨Fx.Chg.of_below s9.old, ?_⟩
   refine Rp (.bool false) (fun v1 => Fx.x_neqA (n := 6) (ks := List.replicate 6 (some .u64)) (X := Fx.rv .u64 (ofV (toldK Kp ((xg i).J) ((xg i).V)) ((xg i).J))) (Y := Fx.rv .u64 (ofV (toldK Kp ((xg i).J) ((xg i).V)) ((xg i).J))) 12 true rfl rfl rfl (Fx.yesb (fun _ _ => rfl)) (kd_u (of_u (told_u hKu (hgV i (by omega))))) (kd_u (of_u (told_u hKu (hgV i (by omega))))) rfl (by kernel_rfl) (by kernel_rfl) (by kernel_rfl) (by kernel_rfl) (by kernel_rfl)) (Rp (.bool false) (fun v1 => x_pickF rfl rfl rfl) (Fx.R.nil (sN (Wc (b := false) rfl (fun h => nomatch h) (fun _ => Wk (Fx.blkN (sN (Wl (Lv (.int .i64 ((i : Int))) (x_move rfl h9) ?_)))))))))
   refine Lv (.int .i64 ((i : Int) + 1)) (Fx.x_add rfl rfl rfl (Fx.i64e (by omega) (by omega))) (Lv (.int .i64 ((i : Int) + 1)) (x_assign rfl rfl) (Ln (Fx.lpN ⟨i + 1, (toldK Kp (xg i).J (xg i).V), by omega, (told_u hKu (hgV i (by omega))), h1, h2, (h3.trans (by first | rfl | exact congrArg (Value.int .u8) (by omega))), h4, (h5.trans (by first | rfl | exact congrArg (Value.int .i64) (by omega))), (h6.trans (by first | rfl | exact congrArg (Value.int .i64) (by omega))), h7, h8, (by first | rfl | exact congrArg (Value.int .i64) (by omega)), m19, m20, b10⟩ ?_)))
   show (nl - (intOf ((.int .i64 ((i : Int) + 1)))).toNat) < _
   simp only [h9, intOf]; omega
  refine Lv (.bool false) (Fx.x_lssF rfl rfl rfl c42) (Ln (sN (Wc (b := false) rfl (fun h => nomatch h) (fun _ => Fx.W.exit (Fx.seqX (Fx.lpX (Fx.blkX (sN (Ws ?_)))))))))
  obtain ⟨rn, ern⟩ : ∃ r, r = rb % 6 := ⟨_, rfl⟩
  have hrn : rn < 6 := by rw [ern]; exact Nat.mod_lt _ (by omega)
  refine Wl (Lv (.int .u8 ((rb : Int))) (x_move rfl h3) (Lv (.int .i64 ((rb : Int))) (x_conv rfl rfl (by kernel_rfl) Try.underlying3 (Fx.i64e (by omega) rfl)) (Lv (.int .i64 ((rn : Int))) (Fx.x_rem rfl rfl rfl (by omega) (remL ern)) (Lv (.int .i64 ((rn : Int) + 1)) (Fx.x_add rfl rfl rfl (Fx.i64e (by omega) (by omega))) (Fx.L.call (by rfl) (rC (args := [.int .i64 ((rn : Int) + 1)]) rfl rfl Try.func16 rfl rfl) rfl ((l_newWorld2 (rn + 1) _ _ (by omega) (by omega) (by omega)).mono ?_))))))
  rintro e9 w10 ⟨pw, M0, he, hMn, hMa, hW0, hbw⟩
  refine ⟨.pointer (some ⟨pw, 0, none⟩), he, ?_⟩
  clear he
  have sB := b5.size
  have lBpg : pg < w5.heap.size := m4.lt
  have lBg1 : g1 < w5.heap.size := m5.lt
  have s10 := Sb hbw
  have m21 := m4.stp s10 (Nat.ne_of_lt (m4.lt))
  have m22 := m5.stp s10 (Nat.ne_of_lt (m5.lt))
  have b11 := s10.below b5 b5.size b5.size
  have sW : w5.heap.size ≤ w10.heap.size := hbw.size
  refine Lv (.pointer (some ⟨pw, 0, none⟩)) (x_assign rfl rfl) (Ln (sN (Ws (Wl (Fx.L.call (by rfl) (rC (args := []) rfl rfl Try.func17 rfl rfl) rfl ((o_new 0 _).mono ?_))))))
  rintro e9 w11 ⟨pa, he, hl1, hb6⟩
  refine ⟨_, he, ?_⟩
  clear he
  have s11 := Sb hb6
  have hl2 := hl1.weak b11.size
  have m23 := m21.stp s11 (Nat.ne_of_lt (m21.lt))
  have m24 := m22.stp s11 (Nat.ne_of_lt (m22.lt))
  have m25 := hW0.up s11.old
  have b12 := s11.below b11 b11.size b11.size
  refine Lv (.pointer (some ⟨pa, 0, none⟩)) (x_assign rfl rfl) (Ln (sN (Ws (Wl (Lv (.agg (Fx.varr 7 (fun zq => if zq < 1 then .slice none 0 0 else .int .u64 (0)))) (x_build (vs := []) (places := #[(0, 1), (1, 6)]) (m := 7) (x := fun zq => if zq < 1 then .slice none 0 0 else .int .u64 (0)) rfl rfl Try.underlying48 (by kernel_rfl) (by kernel_rfl) (by rfl)) (Fx.L.box (m := 7) (y := fun zq => if zq < 1 then .slice none 0 0 else .int .u64 (0)) (by rfl) rfl rfl (Fx.cells_agg _ _) rfl fun g2 w12 eg2 m26 s12 z2 => ?_))))))
  have m27 := m23.stp s12 (Nat.ne_of_lt (m23.lt))
  have m28 := m24.stp s12 (Nat.ne_of_lt (m24.lt))
  have m29 := m25.up s12.old
  have m30 := hl2.up s12.old
  have b13 := s12.below b12 b12.size b12.size
  have lg2 : w.heap.size ≤ g2 := by rw [eg2]; exact b12.size
  have ng2m27 : pg ≠ g2 := by rw [eg2]; exact Nat.ne_of_lt (m23.lt)
  have ng2m28 : g1 ≠ g2 := by rw [eg2]; exact Nat.ne_of_lt (m24.lt)
  have tg2 : g2 < w12.heap.size := m26.lt
  have nwg2 : ¬ wdS pw M0 g2 := by rw [eg2]; exact fun h => Nat.lt_irrefl _ (m25.ge _ h).2
  have geg2 := Nat.le_of_eq eg2.symm
  clear eg2
  refine Lv (.pointer (some ⟨g2, 0, none⟩)) (x_assign rfl rfl) (Ln (sN (Ws (Ws ?_))))
  have m31 : RlO w12 w.heap.size g2 r0 0 := ⟨m26.congr (fun j hj => by rcases j with _|_|_|_|_|_|_|j <;> first | rfl | omega), Fx.Own.nil _ _ _ _ _, lg2, Nat.le_refl _, fun _ h => (by cases h), fun _ h => (by cases h), fun _ _ => ⟨Int.le_refl _, by show (0 : Int) < _; decide⟩⟩
  have hsw0 : SepRW g2 r0 pw M0 := SepRW.new nwg2
  refine Wl (Lv (.int .i64 (0)) (x_assign rfl rfl) (Ln (sN (Fx.W.block (Fx.W.loop (fun f w_ => ∃ k : Nat, ∃ M9 : WM, ∃ T9 : Nat, ∃ m1 : LgM, ∃ r1 : RlM, ∃ G1 : List ItM, k ≤ na ∧ T9 ≤ 3660 * k ∧ M9.n = M0.n ∧ M9.an ≤ k ∧ w5.heap.size ≤ w_.heap.size ∧ LTw m1 r1 G1 ∧ SepRW g2 r1 pw M9 ∧ f 1 = .slice sa (ns) (sc) ∧ f 3 = .slice aa0 (na) (ca) ∧ f 4 = .int .i64 (jj) ∧ f 5 = .int .i64 (most) ∧ f 13 = .pointer (some ⟨pg, 0, none⟩) ∧ f 14 = .pointer (some ⟨g1, 0, none⟩) ∧ f 16 = .pointer (some ⟨pw, 0, none⟩) ∧ f 17 = .pointer (some ⟨pa, 0, none⟩) ∧ f 18 = .pointer (some ⟨g2, 0, none⟩) ∧ f 19 = .int .i64 ((k : Int)) ∧ Fx.Blk w_ pg 36 (Fx.rv .u64 Kp) 92 ∧ Fx.Blk w_ g1 36 (Fx.rv .u64 Kp) 35 ∧ LgO w_ w.heap.size pa m1 k ∧ RlO w_ w.heap.size g2 r1 k ∧ WldO w_ w5.heap.size pw M9 T9 ∧ Below w.heap.size w w_) (fun f _ => (na - (intOf (f 19)).toNat)) ⟨0, M0, 0, newL, r0, [], by omega, by omega, rfl, by omega, (Nat.le_trans m29.pB (Nat.le_of_lt m29.c.lt)), LTw.new, hsw0, h2, h4, (h5.trans (by first | rfl | exact congrArg (Value.int .i64) (by omega))), (h6.trans (by first | rfl | exact congrArg (Value.int .i64) (by omega))), h7, h8, (by rfl), (by rfl), (by rfl), (by first | rfl | exact congrArg (Value.int .i64) (by omega)), m27, m28, m30, m31, m29, b13⟩ ?_)))))
  rintro f2 w13 ⟨k, M9, T9, m1, r1, G1, hk, hTk, hMn9, hMa9, sWk, htw, hsw, h10, h11, h12, h13, h14, h15, h16, h17, h18, h19, m32, m33, m34, m35, m36, b14⟩
  refine Ws (Ws (Wl (Lv (.int .i64 ((k : Int))) (x_move rfl h19) (Lv (.slice aa0 (na) (ca)) (x_move rfl h11) (Lv (.int .i64 ((na : Int))) (x_len rfl rfl rfl (by kernel_rfl)) ?_)))))
  by_cases c98 : (k : Int) < (na : Int)
  ·refine Lv (.bool true) (Fx.x_lssT rfl rfl rfl c98) (Ln (sN (Wc (b := true) rfl (fun _ => Wk (sN (Ws (Fx.W.block (Ws (Wl (Lv (.pointer (some ⟨pw, 0, none⟩)) (x_move rfl h16) ?_))))))) (fun h => nomatch h))))
   refine Lv (.slice aa0 (na) (ca)) (x_move rfl h11) (Lv (.int .i64 ((k : Int))) (x_move rfl h19) ?_)
   obtain ⟨bq2, oq2, eq2, m37z⟩ := hacts (by omega)
   have lbq2z : bq2 < w.heap.size := m37z.lt (by omega)
   have m37 := m37z.below b14 lbq2z
   have lbq2 : bq2 < w13.heap.size := m37.lt (by omega)
   refine Lv (.pointer (some ⟨bq2, 9 * k + oq2, none⟩)) (x_indexS rfl (rfl.trans (congrArg (fun q => Value.slice q (na) (ca)) eq2)) rfl Try.underlying24 (s := 9) (by kernel_rfl) (by omega) (by omega) (by omega)) (Lv (.agg (Fx.varr 9 (actY (xa k)))) (x_loadA (x := Fx.flat 9 fun k => actY (xa k)) (y := actY (xa k)) rfl rfl (by kernel_rfl) (by kernel_rfl) m37 (i := 9 * k) (by omega) (by omega) (fun jq hjq => Fx.flat_at (k := k) (by omega) hjq)) (Fx.L.call (by rfl) (rC (args := [.pointer (some ⟨pw, 0, none⟩), .agg (Fx.varr 9 (actY (xa k)))]) rfl rfl Try.func18 rfl rfl) rfl ((l_doC M9 w5.heap.size pw T9 (xa k) _ m36 sWk (hxa k (by omega)) (by omega) (by omega)).mono ?_)))
   rintro e9 w14 ⟨v9, he, hv9, M2, hW1, hM2, hM2a, hM2m, hc1, hS1⟩
   refine ⟨_, he, ?_⟩
   clear he
   have hM2n := hM2.n
   have ct1 := m36.chm hc1
   have m38 := m32.chT ct1 (by decide)
   have m39 := m33.chT ct1 (by decide)
   have m40 := m34.chT ct1 (by decide)
   have m41 := m35.chg hc1 hsw
   have hswD := hsw.doW hS1 m35
   have b15 := bchB b14 (m36.belowS sWk hc1) sB
   have sz1 := hc1.size
   refine Fx.L.new (m := 14) (y := evY zeroE) (by rfl) rfl (by kernel_rfl) rfl fun g3 w15 eg3 m42 s13 z3 => ?_
   have m43 := m38.stp s13 (Nat.ne_of_lt (m38.lt))
   have m44 := m39.stp s13 (Nat.ne_of_lt (m39.lt))
   have b16 := s13.below b15 b15.size b15.size
   have lg3 : w.heap.size ≤ g3 := by rw [eg3]; exact b15.size
   have ng3m43 : pg ≠ g3 := by rw [eg3]; exact Nat.ne_of_lt (m38.lt)
   have ng3m44 : g1 ≠ g3 := by rw [eg3]; exact Nat.ne_of_lt (m39.lt)
   have tg3 : g3 < w15.heap.size := m42.lt
   have nrlg3 : ¬ rlS g2 r1 g3 := by rw [eg3]; exact fun h => Nat.lt_irrefl _ (m41.ge _ h).2
   have nwg3 : ¬ wdS pw M2 g3 := by rw [eg3]; exact fun h => Nat.lt_irrefl _ (hW1.ge _ h).2
   have geg3 := Nat.le_of_eq eg3.symm
   clear eg3
   refine Fx.L.storeA (x := evY zeroE) (y := evY v9) (by rfl) rfl rfl rfl rfl (evY_one _) (by kernel_rfl) m42 (i := 0) (by omega) fun w16 m48 s14 z4 => ?_
   have m49 : Fx.Blk w16 g3 14 (evY v9) 50 := Fx.ovr_all m48
   have hct3 := Fx.ChT.of_stp s14 m42.ty
   have m50 := m43.chT hct3 (by decide)
   have m51 := m44.chT hct3 (by decide)
   have m52 := m40.up (s14.below s13.old s13.old.size geg3)
   have m53 := m41.up (s14.below s13.old s13.old.size geg3)
   have m54 := hW1.up (s14.below s13.old s13.old.size geg3)
   have b17 := s14.below b16 b16.size (by omega)
   refine Ln (sN (Ws (Wl (Lv (.pointer (some ⟨g3, 0, none⟩)) (x_field rfl rfl Try.underlying50 rfl (s := 1) (by kernel_rfl) rfl rfl) (Lv (.int .i64 (v9.o)) (x_load1 (x := evY v9) rfl rfl (by kernel_rfl) m49.cel (i := 0) (by omega) (by omega) rfl) ?_)))))
   by_cases c109 : 0 < v9.o
   ·refine Lv (.bool true) (Fx.x_gtrT rfl rfl rfl c109) (Ln (sN (Wc (b := true) rfl (fun _ => Ws (Wl (Lv (.pointer (some ⟨pa, 0, none⟩)) (x_move rfl h17) ?_))) (fun h => nomatch h))))
    refine Lv (.agg (Fx.varr 14 (evY v9))) (x_loadA (x := evY v9) (y := evY v9) rfl rfl (by kernel_rfl) (by kernel_rfl) m49.cel (i := 0) (by omega) (by omega) (fun j _ => by rw [Nat.zero_add])) (Fx.L.call (by rfl) (rC (args := [.pointer (some ⟨pa, 0, none⟩), .agg (Fx.varr 14 (evY v9))]) rfl rfl Try.func19 rfl rfl) rfl ((o_add v9 m1 _ _ k _ m52 b17.size (by omega) hv9).mono ?_))
    rintro e9 w17 ⟨he, hc2, hok1, hno1⟩
    refine ⟨_, he, ?_⟩
    clear he
    have ct2 := m52.chm hc2
    obtain ⟨ml1, hl3, hadd⟩ := add_m hok1 hno1
    have m55 := m50.chT ct2 (by decide)
    have m56 := m51.chT ct2 (by decide)
    have m57 := m53.chT ct2 (by decide)
    have m58 := m54.chT ct2 (by decide)
    have m59 := m49.chT ct2 (by decide)
    have b18 := b17.trans (m52.below b17.size hc2)
    refine Ln (sN (Wl (Lv (.pointer (some ⟨g2, 0, none⟩)) (x_move rfl h18) (Lv (.agg (Fx.varr 14 (evY v9))) (x_loadA (x := evY v9) (y := evY v9) rfl rfl (by kernel_rfl) (by kernel_rfl) m59.cel (i := 0) (by omega) (by omega) (fun j _ => by rw [Nat.zero_add])) (Fx.L.call (by rfl) (rC (args := [.pointer (some ⟨g2, 0, none⟩), .agg (Fx.varr 14 (evY v9))]) rfl rfl Try.func20 rfl rfl) rfl ((r16_add v9 r1 _ _ k _ m57 b18.size (by omega) hv9).mono ?_))))))
    rintro e9 w18 ⟨he, hc3, hok2, hno2⟩
    refine ⟨_, he, ?_⟩
    clear he
    have ct3 := m57.chm hc3
    obtain ⟨rl1, hl4, hrad, hrsep⟩ := add_r hok2 hno2 (S := fun r' => SepR _ _ _ r') (fun _ h => .inl h)
    have htw2 := htw.add2 hadd hrad hv9
    have hW2 := WldO.ofR m58 hc3 ct3 (fun k h1 h2 => hswD k h2 h1)
    have hswE := SepRW.add hswD hrsep m58
    have m60 := m55.chT ct3 (by decide)
    have m61 := m56.chT ct3 (by decide)
    have m62 := m59.chg hc3 nrlg3
    have m63 := hl3.chT ct3 (by decide)
    have b19 := b18.trans (m57.below b18.size hc3)
    refine Ln (Fx.blkN (sN (Wl (Lv (.int .i64 ((k : Int))) (x_move rfl h19) (Lv (.int .i64 ((k : Int) + 1)) (Fx.x_add rfl rfl rfl (Fx.i64e (by omega) (by omega))) (Lv (.int .i64 ((k : Int) + 1)) (x_assign rfl rfl) (Ln ?_)))))))
    skip
    refine Fx.lpN ⟨k + 1, M2, (T9 + 3660), ml1, rl1, (addL m1 v9 G1), by omega, by omega, (hM2n.trans hMn9), by omega, (Nat.le_trans hW2.pB (Nat.le_of_lt hW2.c.lt)), htw2, hswE, h10, h11, (h12.trans (by first | rfl | exact congrArg (Value.int .i64) (by omega))), (h13.trans (by first | rfl | exact congrArg (Value.int .i64) (by omega))), h14, h15, h16, h17, h18, (by first | rfl | exact congrArg (Value.int .i64) (by omega)), m60, m61, m63, hl4, hW2, b19⟩ ?_
    show (na - (intOf ((.int .i64 ((k : Int) + 1)))).toNat) < _
    simp only [h19, intOf]; omega
   refine Lv (.bool false) (x_gtrF rfl rfl rfl c109) (Ln (sN (Wc (b := false) rfl (fun h => nomatch h) (fun _ => Wk (Fx.blkN (sN (Wl (Lv (.int .i64 ((k : Int))) (x_move rfl h19) (Lv (.int .i64 ((k : Int) + 1)) (Fx.x_add rfl rfl rfl (Fx.i64e (by omega) (by omega))) (Lv (.int .i64 ((k : Int) + 1)) (x_assign rfl rfl) (Ln ?_)))))))))))
   have m64 := m52.mono (Nat.le_succ _)
   have m65 := m53.mono (Nat.le_succ _)
   skip
   refine Fx.lpN ⟨k + 1, M2, (T9 + 3660), m1, r1, G1, by omega, by omega, (hM2n.trans hMn9), by omega, (Nat.le_trans m54.pB (Nat.le_of_lt m54.c.lt)), htw, hswD, h10, h11, (h12.trans (by first | rfl | exact congrArg (Value.int .i64) (by omega))), (h13.trans (by first | rfl | exact congrArg (Value.int .i64) (by omega))), h14, h15, h16, h17, h18, (by first | rfl | exact congrArg (Value.int .i64) (by omega)), m50, m51, m64, m65, m54, b17⟩ ?_
   show (na - (intOf ((.int .i64 ((k : Int) + 1)))).toNat) < _
   simp only [h19, intOf]; omega
  refine Lv (.bool false) (Fx.x_lssF rfl rfl rfl c98) (Ln (sN (Wc (b := false) rfl (fun h => nomatch h) (fun _ => Fx.W.exit (Fx.seqX (Fx.lpX (Fx.blkX (sN (Ws (Wl (Fx.L.bslice0 (s := 1) (by rfl) rfl Try.underlying23 (by kernel_rfl) rfl fun g4 w19 eg4 hO1 s15 => ?_)))))))))))
  have m66 : Fx.Own w19 w.heap.size 3 1 (.slice (some ⟨g4, 0, none⟩) 0 0) 0 (Fx.rv .i64 X) := hO1 _ _ (by rw [eg4]; exact b14.size)
  have m67 := m32.stp s15 (Nat.ne_of_lt (m32.lt))
  have m68 := m33.stp s15 (Nat.ne_of_lt (m33.lt))
  have m69 := m34.up s15.old
  have m70 := m35.up s15.old
  have b20 := s15.below b14 b14.size b14.size
  clear eg4
  refine Lv (.slice sa (ns) (sc)) (x_move rfl h10) (Fx.L.appAny (B := w.heap.size) (s := 1) (bytes := 8) (k := 0) (m := ns) (v := .slice (some ⟨g4, 0, none⟩) (0) (0)) (x := Fx.rv .i64 X) (by rfl) rfl rfl rfl Try.underlying23 (by kernel_rfl) (by kernel_rfl) rfl rfl m66 (hso.up b20 rfl) (fun _ _ => rfl) (by omega) (by omega) b20.size fun vv1 w20 ho1 hg1 hgv1 => ?_)
  rw [Nat.zero_add] at ho1
  obtain ⟨a1, cap1, rfl⟩ := ho1.val
  have hct4 := Fx.ChT.of_grown hg1 m66
  have m73 := m67.chT hct4 (by decide)
  have m74 := m68.chT hct4 (by decide)
  have m75 := m69.chT hct4 (by decide)
  have m76 := m70.chT hct4 (by decide)
  have m72 : Fx.Own w20 w.heap.size 3 1 (.slice a1 (ns) (cap1)) ns (Fx.rv .i64 X) := (ho1.congr (fun j _ => app0 j))
  have b21 : Below w.heap.size w w20 := Fx.Below.grow b20 hg1 b20.size (fun q hq => (m66.ge hq).1)
  refine Lv (.slice a1 (ns) (cap1)) (x_assign rfl rfl) (Ln (sN (Ws ?_)))
  have hln1 := m76.len
  refine Wl (Lv (.pointer (some ⟨pg, 0, none⟩)) (x_move rfl h14) (Lv (.slice a1 (ns) (cap1)) (x_move rfl rfl) (Fx.L.call (by rfl) (rC (args := [.pointer (some ⟨pg, 0, none⟩), .slice a1 (ns) (cap1)]) rfl rfl Try.func21 rfl rfl) rfl ((g_least Kp X pg a1 ns cap1 _ (by omega) (arr_its m72.arr) m73).mono ?_))))
  rintro e w21 ⟨he, hb7⟩
  refine ⟨.agg (Fx.varr 6 (Fx.rv .u64 (leastV Kp X ns))), by rw [he], ?_⟩
  clear he
  have s16 := Sb hb7
  have m78 := m73.stp s16 (Nat.ne_of_lt (m73.lt))
  have m79 := m74.stp s16 (Nat.ne_of_lt (m74.lt))
  have m80 := m75.up s16.old
  have m81 := m76.up s16.old
  have b22 := s16.below b21 b21.size b21.size
  refine Lv (.pointer (some ⟨g1, 0, none⟩)) (x_move rfl h15) (Lv (.slice sa (ns) (sc)) (x_move rfl h10) (Fx.L.call (by rfl) (rC (args := [.pointer (some ⟨g1, 0, none⟩), .slice sa (ns) (sc)]) rfl rfl Try.func22 rfl rfl) rfl ((r17_least Kp X g1 sa ns sc _ (by omega) (hso.up b22 rfl) m79).mono ?_)))
  rintro e w22 ⟨he, hb8⟩
  refine ⟨.agg (Fx.varr 6 (Fx.rv .u64 (refLst Kp X ns))), by rw [he], ?_⟩
  clear he
  have s17 := Sb hb8
  have m83 := m78.stp s17 (Nat.ne_of_lt (m78.lt))
  have m84 := m79.stp s17 (Nat.ne_of_lt (m79.lt))
  have m85 := m80.up s17.old
  have m86 := m81.up s17.old
  have b23 := s17.below b22 b22.size b22.size
  refine Lv (.bool true) (Fx.x_eqlA (n := 6) (ks := List.replicate 6 (some .u64)) (X := Fx.rv .u64 (leastV Kp X ns)) (Y := Fx.rv .u64 (refLst Kp X ns)) 12 true rfl rfl rfl (Fx.yesb (fun j _ => by rw [least_eq (fun p => (hKu p).1)])) (kd_u (least_u hKu _)) (by rw [← least_eq (fun p => (hKu p).1)]; exact kd_u (least_u hKu _)) rfl (by kernel_rfl) (by kernel_rfl) (by kernel_rfl) (by kernel_rfl) (by kernel_rfl)) (Lv (.bool true) (x_move rfl rfl) (Lv (.pointer (some ⟨pg, 0, none⟩)) (x_move rfl h14) (Lv (.int .i64 (jj)) (x_move rfl h12) (Lv (.pointer (some ⟨pa, 0, none⟩)) (x_move rfl h17) (Lv (.int .i64 (most)) (x_move rfl h13) (Fx.L.call (by rfl) (rC (args := [.pointer (some ⟨pg, 0, none⟩), .int .i64 (jj), .pointer (some ⟨pa, 0, none⟩), .int .i64 (most)]) rfl rfl Try.func24 rfl rfl) rfl ((g_lacks Kp pg jj most (X := sinR r1 (ofV Kp jj) most) _ m83 m85 (by omega) ⟨G1, htw.g, htw.R.symm⟩ rfl).mono ?_)))))))
  rintro e9 w23 ⟨a2, c1, he, ho2, hb9⟩
  refine ⟨_, he, ?_⟩
  clear he
  have s18 := Sb hb9
  have m89 := m84.stp s18 (Nat.ne_of_lt (m84.lt))
  have m91 := m86.up s18.old
  have b24 := s18.below b23 b23.size b23.size
  refine Lv (.pointer (some ⟨g2, 0, none⟩)) (x_move rfl h18) (Lv (.pointer (some ⟨g1, 0, none⟩)) (x_move rfl h15) (Lv (.int .i64 (jj)) (x_move rfl h12) (Fx.L.call (by rfl) (rC (args := [.pointer (some ⟨g1, 0, none⟩), .int .i64 (jj)]) rfl rfl Try.func15 rfl rfl) rfl ((r17_of Kp g1 jj _ m89).mono ?_))))
  rintro e w24 ⟨he, hb10⟩
  refine ⟨.agg (Fx.varr 6 (Fx.rv .u64 (ofV Kp jj))), by rw [he], ?_⟩
  clear he
  have s19 := Sb hb10
  have m96 := m91.up s19.old
  have m98 := ho2.stp s19 (ho2.notNew (Nat.le_refl _))
  have b25 := s19.below b24 b24.size b24.size
  refine Lv (.int .i64 (most)) (x_move rfl h13) (Fx.L.call (by rfl) (rC (args := [.pointer (some ⟨g2, 0, none⟩), .agg (Fx.varr 6 (Fx.rv .u64 (ofV Kp jj))), .int .i64 (most)]) rfl rfl Try.func25 rfl rfl) rfl ((r16_since (ofV Kp jj) most r1 _ _ k _ m96 (by omega)).mono ?_))
  rintro e9 w25 ⟨a3, c2, he, ho3, hb11⟩
  refine ⟨_, he, ?_⟩
  clear he
  have s20 := Sb hb11
  have m104 := m98.stp s20 (m98.notNew (Nat.le_refl _))
  have b26 := s20.below b25 b25.size b25.size
  refine Fx.L.call (by rfl) (rC (args := [.slice a2 ((sinR r1 (ofV Kp jj) most).length) (c1), .slice a3 ((sinR r1 (ofV Kp jj) most).length) (c2)]) rfl rfl Try.func23 rfl rfl) rfl ((r_same (sinR r1 (ofV Kp jj) most).length (fun q => (sinR r1 (ofV Kp jj) most).getD q zeroE) (fun q => (sinR r1 (ofV Kp jj) most).getD q zeroE) a2 a3 c1 c2 _ (Nat.le_trans sinR_len (by omega)) (fun _ _ => rfl) htw.sinW m104.arr ho3.arr).mono ?_)
  rintro e w26 ⟨he, hb12⟩
  refine ⟨.bool true, by rw [he], ?_⟩
  clear he
  have s21 := Sb hb12
  have b27 := s21.below b26 b26.size b26.size
  refine Lv (.bool true) (x_pickT rfl rfl rfl) (Lv (.bool true) (x_move rfl rfl) (Fx.L.call (by rfl) (rC (args := []) rfl rfl Try.func10 rfl rfl) rfl ((works17_any _).mono ?_)))
  rintro e w27 ⟨he, hb13⟩
  refine ⟨.bool true, by rw [he], ?_⟩
  clear he
  have s22 := Sb hb13
  have b28 := s22.below b27 b27.size b27.size
  refine Lv (.bool true) (x_pickT rfl rfl rfl) (Lv (.bool true) (x_assign rfl rfl) (Ln (sN (Wr (⟨.bool true, rV Try.results3 (by exact rfl), ?_⟩)))))
  exact ⟨rfl, b28⟩
 rw [Bool.not_eq_true] at c32
 refine Fx.L.call (by rfl) (rC (args := [.slice aa0 (na) (ca)]) rfl rfl Try.func9 rfl rfl) rfl ((l_few _ _ _ _).mono ?_)
 rintro e v1 ⟨he, hv1⟩
 subst v1
 refine ⟨.bool false, by rw [he, c32], ?_⟩
 clear he
 refine Lv (.bool true) (Fx.x_notT rfl rfl) (Lv (.bool true) (x_pickF rfl rfl rfl) (Ln (sN (Wc (b := true) rfl (fun _ => Ws (Wl (Fx.L.call (by rfl) (rC (args := []) rfl rfl Try.func10 rfl rfl) rfl ((works17_any _).mono ?_)))) (fun h => nomatch h)))))
 rintro e w28 ⟨he, hb14⟩
 refine ⟨.bool true, by rw [he], ?_⟩
 clear he
 have s23 := Sb hb14
 have b29 := s23.below (Below.refl w.heap.size w) (Below.refl w.heap.size w).size (Below.refl w.heap.size w).size
 refine Lv (.bool true) (x_assign rfl rfl) (Ln (sN (Wr (sR (⟨.bool true, rV Try.results3 (by exact rfl), ?_⟩)))))
 exact ⟨rfl, b29⟩
end
end Go.Proofs.Ytleajegppehbdaa
namespace Go.Proofs.Ytleajegppehbdaa
open Go.RowKit Go.WideShapes Go.ChangeShapes Go.Deep
theorem spotless1 {w : World} {x : Addr} {v : Value} (h : w.cell? x = some v) : ∃ b off, x = ⟨b, off, none⟩ := by
  obtain ⟨b, off, spot⟩ := x
  cases spot with
  | none => exact ⟨b, off, rfl⟩
  | some q =>
    unfold World.cell? at h
    simp at h
    split at h <;> cases h
def At4 (k0 k1 k2 k3 : IntKind) (w : World) (b off : Nat) (x0 x1 x2 x3 : Int) : Prop :=
  w.cell? ⟨b, off, none⟩ = some (.int k0 x0) ∧ w.cell? ⟨b, off + 1, none⟩ = some (.int k1 x1) ∧ w.cell? ⟨b, off + 2, none⟩ = some (.int k2 x2) ∧ w.cell? ⟨b, off + 3, none⟩ = some (.int k3 x3)
def Wf4 (k0 k1 k2 k3 : IntKind) (x0 x1 x2 x3 : Int) : Prop := (Lit.int k0 x0).wf = true ∧ (Lit.int k1 x1).wf = true ∧ (Lit.int k2 x2).wf = true ∧ (Lit.int k3 x3).wf = true
def Sl4 (k0 k1 k2 k3 : IntKind) (w : World) (a : Option Addr) (len : Nat) (X0 X1 X2 X3 : Nat → Int) : Prop :=
  ∀ i, i < len → (∃ b off, a = some ⟨b, off, none⟩ ∧ At4 k0 k1 k2 k3 w b (off + i * 4) (X0 i) (X1 i) (X2 i) (X3 i)) ∧ Wf4 k0 k1 k2 k3 (X0 i) (X1 i) (X2 i) (X3 i)
theorem Sl4.up {k0 k1 k2 k3 : IntKind} {w w' : World} {a : Option Addr} {len : Nat} {X0 X1 X2 X3 : Nat → Int} (h : Sl4 k0 k1 k2 k3 w a len X0 X1 X2 X3) (hb : Below w.heap.size w w') : Sl4 k0 k1 k2 k3 w' a len X0 X1 X2 X3 := by
  intro i hi
  obtain ⟨⟨b, off, e, q0, q1, q2, q3⟩, hw⟩ := h i hi
  have hlt := block_lt_of_cell q0
  dsimp only at hlt
  exact ⟨⟨b, off, e, (hb.cell (p := ⟨b, off + i * 4, none⟩) hlt).trans q0, (hb.cell (p := ⟨b, off + i * 4 + 1, none⟩) hlt).trans q1, (hb.cell (p := ⟨b, off + i * 4 + 2, none⟩) hlt).trans q2, (hb.cell (p := ⟨b, off + i * 4 + 3, none⟩) hlt).trans q3⟩, hw⟩
end Go.Proofs.Ytleajegppehbdaa
namespace Go.Proofs.Ytleajegppehbdaa
open Go.RowKit Go.WideShapes Go.ChangeShapes Go.Deep
def flatKb (P : Program) : Nat → TypeId → Option (List (Option IntKind))
  | 0, _ => none
  | d + 1, t => match P.underlying t with
    | some (.int k) => some [some k]
    | some .bool => some [none]
    | some (.array n e) => (flatKb P d e).bind fun ks => if P.cellsOf e = ks.length ∧ P.cellsOf t = n * ks.length then some (List.replicate n ks).flatten else none
    | some (.struct fs) => (fs.toList.foldlM (fun l f => (flatKb P d f.type).bind fun ks => if f.offset = l.length ∧ P.cellsOf f.type = ks.length then some (l ++ ks) else none) []).bind fun l => if P.cellsOf t = l.length then some l else none
    | _ => none
def OkV (k : Option IntKind) (v : Value) : Prop := match k with | some k => ∃ n, v = .int k n ∧ (Lit.int k n).wf = true | none => ∃ b, v = .bool b
def FlatV (ks : List (Option IntKind)) (cs : List Value) : Prop := cs.length = ks.length ∧ ∀ (j : Nat) (k : Option IntKind), ks[j]? = some k → ∃ v, cs[j]? = some v ∧ OkV k v
theorem flatb_rep {ks : List (Option IntKind)} {k : Option IntKind} : ∀ (n j : Nat), (List.replicate n ks).flatten[j]? = some k → ks[j % ks.length]? = some k ∧ j / ks.length < n
  | 0, j, h => by simp at h
  | n + 1, j, h => by
    rw [List.replicate_succ, List.flatten_cons] at h
    by_cases hj : j < ks.length
    · rw [List.getElem?_append_left hj] at h
      rw [Nat.mod_eq_of_lt hj, Nat.div_eq_of_lt hj]; exact ⟨h, by omega⟩
    · rw [List.getElem?_append_right (by omega)] at h
      have hs : 0 < ks.length := by
        rcases Nat.eq_zero_or_pos ks.length with e | e
        · obtain ⟨h1, _⟩ := flatb_rep n _ h
          have := (List.getElem?_eq_some_iff.1 h1).1; omega
        · exact e
      obtain ⟨h1, h2⟩ := flatb_rep n _ h
      rw [Nat.mod_eq_sub_mod (by omega), Nat.div_eq_sub_div hs (by omega)]
      exact ⟨h1, by omega⟩
section
variable {H : Type} {enc : TypeId × Value → H} {P : Program} {w : World} {base : Nat} {spare : Nat → Bool} {held : Bool}
theorem flatb_part {ks : List (Option IntKind)} {cs : List Value} {o s j : Nat} {k : Option IntKind} (h : FlatV ks ((cs.drop o).take s)) (hs : s = ks.length) (hk : ks[j]? = some k) : ∃ v, cs[o + j]? = some v ∧ OkV k v := by
  obtain ⟨n, h1, h2⟩ := h.2 j k hk
  have hj := (List.getElem?_eq_some_iff.1 hk).1
  rw [List.getElem?_take_of_lt (by omega), List.getElem?_drop] at h1
  exact ⟨n, h1, h2⟩
theorem flatKb_ok : ∀ (d : Nat) (t : TypeId) (ks : List (Option IntKind)), flatKb P d t = some ks → ∀ (fuel : Nat) (cs : List Value) (x : DataW H × List MemPlace), DataW.trod enc P w base spare held fuel t cs = some x → FlatV ks cs
  | 0, _, _, h => by simp [flatKb] at h
  | d + 1, t, ks, h => by
    intro fuel cs x hx
    unfold flatKb at h
    split at h
    · rename_i k hu
      simp only [Option.some.injEq] at h; subst h
      obtain ⟨n, rfl, _, hw⟩ := DataW.trod_int hu hx
      refine ⟨rfl, fun j k' hk => ?_⟩
      match j, hk with
      | 0, hk => simp at hk; subst hk; exact ⟨_, rfl, n, rfl, hw⟩
      | j + 1, hk => simp at hk
    · rename_i hu
      simp only [Option.some.injEq] at h; subst h
      obtain ⟨b, rfl, _⟩ := DataW.trod_bool hu hx
      refine ⟨rfl, fun j k' hk => ?_⟩
      match j, hk with
      | 0, hk => simp at hk; subst hk; exact ⟨_, rfl, b, rfl⟩
      | j + 1, hk => simp at hk
    · rename_i n e hu
      obtain ⟨ks', hks, h⟩ := Option.bind_eq_some_iff.1 h
      split at h
      · rename_i hc
        simp only [Option.some.injEq] at h; subst h
        obtain ⟨xs, m, _, _, hl, hlen, hel⟩ := DataW.trod_array hu hx
        refine ⟨by rw [hl, hc.2]; simp, fun j k hk => ?_⟩
        obtain ⟨h1, h2⟩ := flatb_rep n j hk
        have hi := hel (j / ks'.length) h2
        rw [List.getElem?_eq_getElem (by omega), hc.1] at hi
        have := flatb_part (flatKb_ok d e ks' hks _ _ _ hi) rfl h1
        rw [Nat.mul_comm, Nat.div_add_mod] at this
        exact this
      · cases h
    · rename_i fs hu
      obtain ⟨l, hl, h⟩ := Option.bind_eq_some_iff.1 h
      split at h
      · rename_i hc
        simp only [Option.some.injEq] at h; subst h
        obtain ⟨xs, m, _, _, hlc, hlen, hf⟩ := DataW.trod_struct hu hx
        refine ⟨by rw [hlc, hc], ?_⟩
        have hf' : ∀ f, f ∈ fs.toList → ∃ y, DataW.trod enc P w base spare held m f.type ((cs.drop f.offset).take (P.cellsOf f.type)) = some y := by
          intro f hfm
          obtain ⟨i, hi, e⟩ := List.mem_iff_getElem.1 hfm
          have hi' : i < fs.size := by simpa using hi
          have h1 : fs[i]? = some f := by rw [Array.getElem?_eq_getElem hi']; simpa using e
          have := hf i f h1
          rw [List.getElem?_eq_getElem (by rw [hlen]; exact hi')] at this
          exact ⟨_, this⟩
        have key : ∀ (L : List Field) (acc : List (Option IntKind)), (∀ f, f ∈ L → ∃ y, DataW.trod enc P w base spare held m f.type ((cs.drop f.offset).take (P.cellsOf f.type)) = some y) → (∀ (j : Nat) (k : Option IntKind), acc[j]? = some k → ∃ v, cs[j]? = some v ∧ OkV k v) → ∀ l, L.foldlM (fun l f => (flatKb P d f.type).bind fun ks => if f.offset = l.length ∧ P.cellsOf f.type = ks.length then some (l ++ ks) else none) acc = some l → ∀ (j : Nat) (k : Option IntKind), l[j]? = some k → ∃ v, cs[j]? = some v ∧ OkV k v := by
          intro L
          induction L with
          | nil => intro acc _ ha l hl; simp at hl; subst hl; exact ha
          | cons f L ih =>
            intro acc hL ha l hl
            rw [List.foldlM_cons] at hl
            obtain ⟨l1, h1, h2⟩ := Option.bind_eq_some_iff.1 hl
            obtain ⟨kf, hkf, h3⟩ := Option.bind_eq_some_iff.1 h1
            split at h3
            · rename_i hcc
              simp only [Option.some.injEq] at h3; subst h3
              refine ih (acc ++ kf) (fun g hg => hL g (List.mem_cons_of_mem _ hg)) (fun j k hk => ?_) l h2
              by_cases hj : j < acc.length
              · rw [List.getElem?_append_left hj] at hk; exact ha j k hk
              · rw [List.getElem?_append_right (by omega)] at hk
                obtain ⟨y, hy⟩ := hL f (List.mem_cons_self ..)
                have := flatb_part (flatKb_ok d f.type kf hkf _ _ _ hy) hcc.2 hk
                rw [hcc.1, show acc.length + (j - acc.length) = j by omega] at this
                exact this
            · cases h3
        exact key fs.toList [] hf' (fun j k hk => by simp at hk) l hl
      · cases h
    · cases h
end
section
variable {H : Type} {enc : TypeId × Value → H} {P : Program} {w : World} {base : Nat} {spare : Nat → Bool} {held : Bool}
theorem open_rows {t e : TypeId} {ks : List (Option IntKind)} {fuel D : Nat} {cs : List Value} {x : DataW H × List MemPlace} (ht : P.underlying t = some (.slice e)) (hk : flatKb P D e = some ks) (ce : P.cellsOf e = ks.length) (hs : 0 < ks.length)
    (h : DataW.trod enc P w base spare held fuel t cs = some x) : ∃ a len cap, cs = [.slice a len cap] ∧ len ≤ maxLen ∧ len ≤ cap ∧ ∃ X : Nat → Nat → Value, (∀ i, i < len → ∀ (j : Nat) (k : Option IntKind), ks[j]? = some k → OkV k (X i j)) ∧ Fx.Arr w a len ks.length (Fx.flat ks.length X) := by
  rcases open_slice ht h with ⟨rfl, _⟩ | ⟨a', len, cap, m, n, D', Pl, rfl, _, hl, hm, hmm, _, hx⟩
  · exact ⟨none, 0, 0, rfl, by unfold maxLen; omega, Nat.le_refl _, fun _ _ => undef, fun i hi => absurd hi (by omega), fun h => absurd h (by omega)⟩
  have hlm : len ≤ m := by rw [hmm]; split <;> omega
  have each : ∀ i j : Nat, ∃ q : Value, i < len → ∀ k, ks[j]? = some k → w.cell? (a'.add (i * ks.length + j)) = some q ∧ OkV k q := by
    intro i j
    by_cases hi : i < len ∧ j < ks.length
    · obtain ⟨cs', g1, g2⟩ := hx i (by omega)
      rw [ce] at g1
      obtain ⟨_, hlen, hcell⟩ := World.cells?_some g1
      obtain ⟨q, h1, h2⟩ := (flatKb_ok _ _ _ hk _ _ _ g2).2 j _ (List.getElem?_eq_getElem hi.2)
      refine ⟨q, fun _ k hkj => ?_⟩
      rw [List.getElem?_eq_getElem hi.2, Option.some.injEq] at hkj
      subst hkj
      have q0 := hcell j (by omega)
      rw [add_add] at q0
      exact ⟨by rw [← h1]; simpa using q0, h2⟩
    · refine ⟨undef, fun h1 k h2 => absurd ⟨h1, (List.getElem?_eq_some_iff.1 h2).1⟩ hi⟩
  refine ⟨some a', len, cap, rfl, by omega, hl, fun i j => Classical.choose (each i j), fun i hi j k hkj => (Classical.choose_spec (each i j) hi k hkj).2, fun h0 => ?_⟩
  have e0 : a'.add (0 * ks.length + 0) = a' := by unfold Addr.add; simp
  obtain ⟨q00, h00⟩ := each 0 0
  have hk0 := List.getElem?_eq_getElem hs
  have h00' := (h00 h0 _ hk0)
  have h01 := h00'.1
  rw [e0] at h01
  have e1 : ∃ b off, a' = ⟨b, off, none⟩ := by
    have h02 := h00'.2
    unfold OkV at h02
    split at h02
    · obtain ⟨nn, rfl, _⟩ := h02; exact spotless1 h01
    · obtain ⟨bb, rfl⟩ := h02
      unfold World.cell? at h01
      cases a' with
      | mk b off sp =>
        cases sp with
        | none => exact ⟨b, off, rfl⟩
        | some s => simp at h01; split at h01 <;> simp_all
  obtain ⟨b, off, e1⟩ := e1
  refine ⟨b, off, by rw [e1], fun p hp => ?_⟩
  have hj : p % ks.length < ks.length := Nat.mod_lt _ hs
  have hi : p / ks.length < len := Nat.div_lt_of_lt_mul (by rw [Nat.mul_comm]; exact hp)
  have := (Classical.choose_spec (each (p / ks.length) (p % ks.length)) hi _ (List.getElem?_eq_getElem hj)).1
  have ea : a'.add (p / ks.length * ks.length + p % ks.length) = ⟨b, off + p, none⟩ := by rw [e1, addr_add, Nat.mul_comm, Nat.div_add_mod]
  exact (congrArg w.cell? ea).symm.trans this
end
def numOf : Value → Int | .int _ n => n | _ => 0
theorem OkV.num {k : IntKind} {v : Value} (h : OkV (some k) v) : v = .int k (numOf v) ∧ (Lit.int k (numOf v)).wf = true := by
  obtain ⟨n, rfl, hw⟩ := h; exact ⟨rfl, hw⟩
theorem bd_u64 {n : Int} (h : (Lit.int .u64 n).wf = true) : 0 ≤ n ∧ n < 18446744073709551616 := by simp [Lit.wf, IntKind.min, IntKind.max, IntKind.bits, IntKind.signed] at h; omega
section
variable {H : Type} {enc : TypeId × Value → H} {P : Program} {w : World}
theorem open_kinds {t e : TypeId} {ks : List (Option IntKind)} {a : Option Addr} {len cap D : Nat} {d : DataW H} {ps : List MemPlace} (ht : P.underlying t = some (.slice e)) (hk : flatKb P D e = some ks) (ce : P.cellsOf e = ks.length) (hs : 0 < ks.length)
    (h : DataW.Trod enc P w 0 (fun _ => true) true t (.slice a len cap) d ps) : len ≤ maxLen ∧ ∃ X : Nat → Nat → Value, (∀ i, i < len → ∀ (j : Nat) (k : Option IntKind), ks[j]? = some k → OkV k (X i j)) ∧ Fx.Arr w a len ks.length (Fx.flat ks.length X) := by
  obtain ⟨fuel, hf⟩ := h
  obtain ⟨a', l', c', hcs, hm, _, X, hX, hA⟩ := open_rows ht hk ce hs hf
  simp [Value.cells] at hcs
  obtain ⟨rfl, rfl, rfl⟩ := hcs
  exact ⟨hm, X, hX, hA⟩
theorem Arr.cong {w : World} {a : Option Addr} {n s : Nat} {x y : Nat → Value} (h : Fx.Arr w a n s x) (e : ∀ p, p < n * s → x p = y p) : Fx.Arr w a n s y := fun h0 => by
  obtain ⟨b, off, ea, hc⟩ := h h0
  exact ⟨b, off, ea, fun i hi => by rw [← e i hi]; exact hc i hi⟩
end
end Go.Proofs.Ytleajegppehbdaa
namespace Go.Proofs.Ytleajegppehbdaa
open Go.RowKit Go.WideShapes Go.ChangeShapes Go.Deep Rt
theorem bdU {n : Int} (h : (Lit.int .u64 n).wf = true) : U64r n := by have := bd_u64 h; unfold U64r; omega
end Go.Proofs.Ytleajegppehbdaa
namespace Go.Proofs.Ytleajegppehbdaa
open Go.RowKit Go.WideShapes Go.ChangeShapes Go.Deep Rt
def KGS : List (Option IntKind) := [some .i64, some .u64, some .u64, some .u64, some .u64, some .u64, some .u64]
theorem open_steps17 {w : World} {a : Option Addr} {n : Nat} {X : Nat → Nat → Value} (hX : ∀ i, i < n → ∀ (j : Nat) (k : Option IntKind), KGS[j]? = some k → OkV k (X i j)) (hA : Fx.Arr w a n KGS.length (Fx.flat KGS.length X)) :
    ∃ xg : Nat → GsM, (∀ k, k < n → ∀ j, j < 6 → U64r ((xg k).V j)) ∧ Fx.Arr w a n 7 (Fx.flat 7 fun k => gsY (xg k)) := by
  have o : ∀ i, i < n → ∀ (j : Nat) (k : IntKind), KGS[j]? = some (some k) → X i j = .int k (numOf (X i j)) ∧ (Lit.int k (numOf (X i j))).wf = true := fun i hi j k e => (hX i hi j (some k) e).num
  refine ⟨fun k => ⟨numOf (X k 0), fun j => numOf (X k (j + 1))⟩, fun k hk j hj => ?_, Arr.cong hA (Fx.flat_cong fun k hk j hj => ?_)⟩
  · show U64r (numOf (X k (j + 1)))
    rcases j with _|_|_|_|_|_|j
    · exact bdU (o k hk 1 .u64 rfl).2
    · exact bdU (o k hk 2 .u64 rfl).2
    · exact bdU (o k hk 3 .u64 rfl).2
    · exact bdU (o k hk 4 .u64 rfl).2
    · exact bdU (o k hk 5 .u64 rfl).2
    · exact bdU (o k hk 6 .u64 rfl).2
    omega
  have hj : j < 7 := hj
  rcases j with _|_|_|_|_|_|_|j
  · exact (o k hk 0 .i64 rfl).1
  · exact (o k hk 1 .u64 rfl).1
  · exact (o k hk 2 .u64 rfl).1
  · exact (o k hk 3 .u64 rfl).1
  · exact (o k hk 4 .u64 rfl).1
  · exact (o k hk 5 .u64 rfl).1
  · exact (o k hk 6 .u64 rfl).1
  omega
theorem open_ints1 {w : World} {a : Option Addr} {n : Nat} {X : Nat → Nat → Value} (hX : ∀ i, i < n → ∀ (j : Nat) (k : Option IntKind), [some IntKind.i64][j]? = some k → OkV k (X i j)) (hA : Fx.Arr w a n [some IntKind.i64].length (Fx.flat [some IntKind.i64].length X)) :
    ∃ Y : Nat → Int, Fx.Arr w a n 1 (Fx.rv .i64 Y) := by
  refine ⟨fun k => numOf (X k 0), Arr.cong hA fun p hp => ?_⟩
  show X (p / 1) (p % 1) = .int .i64 (numOf (X p 0))
  rw [Nat.div_one, Nat.mod_one]
  have hp : p < n := by have : p < n * 1 := hp; omega
  exact ((hX p hp 0 (some .i64) rfl).num).1
end Go.Proofs.Ytleajegppehbdaa
namespace Go.Proofs.Ytleajegppehbdaa
open Go.RowKit Go.WideShapes Go.ChangeShapes Go.Deep Rt
def boolOf : Value → Bool | .bool b => b | _ => false
theorem OkV.int {k : IntKind} {v : Value} (h : OkV (some k) v) : v = .int k (intOf v) ∧ (Lit.int k (intOf v)).wf = true := by
  obtain ⟨n, rfl, hw⟩ := h; exact ⟨rfl, hw⟩
theorem OkV.bool {v : Value} (h : OkV none v) : v = .bool (boolOf v) := by
  obtain ⟨b, rfl⟩ := h; rfl
theorem wf_u8 {n : Int} (h : (Lit.int .u8 n).wf = true) : 0 ≤ n ∧ n ≤ 255 := by simp [Lit.wf, IntKind.min, IntKind.max, IntKind.bits, IntKind.signed] at h; omega
theorem wf_u16 {n : Int} (h : (Lit.int .u16 n).wf = true) : 0 ≤ n ∧ n ≤ 65535 := by simp [Lit.wf, IntKind.min, IntKind.max, IntKind.bits, IntKind.signed] at h; omega
theorem nat_u8 {n : Int} (h : (Lit.int .u8 n).wf = true) : ∃ m : Nat, n = (m : Int) ∧ m ≤ 255 := by
  have := wf_u8 h; exact ⟨n.toNat, by omega, by omega⟩
theorem Fx.Arr.congr {w : World} {a : Option Addr} {n s : Nat} {x y : Nat → Value} (h : Fx.Arr w a n s x) (e : ∀ p, p < n * s → x p = y p) : Fx.Arr w a n s y := fun h0 => by
  obtain ⟨b, off, ea, hc⟩ := h h0
  exact ⟨b, off, ea, fun i hi => by rw [← e i hi]; exact hc i hi⟩
def actKs : List (Option IntKind) := [some .u8, none, some .u8, some .u8, some .u8, some .u8, some .u16, some .u8, some .u8]
def actOf (X : Nat → Value) : ActM := ⟨(intOf (X 0)).toNat, boolOf (X 1), (intOf (X 2)).toNat, (intOf (X 3)).toNat, (intOf (X 4)).toNat, (intOf (X 5)).toNat, (intOf (X 6)).toNat, (intOf (X 7)).toNat, (intOf (X 8)).toNat⟩
theorem actOf_ok {X : Nat → Value} (h : ∀ (j : Nat) (k : Option IntKind), actKs[j]? = some k → OkV k (X j)) : ActOk (actOf X) ∧ ∀ j, j < 9 → X j = actY (actOf X) j := by
  have u8 : ∀ j, actKs[j]? = some (some .u8) → X j = .int .u8 ((intOf (X j)).toNat : Int) ∧ (intOf (X j)).toNat ≤ 255 := fun j hj => by
    obtain ⟨e, hw⟩ := (h j _ hj).int
    have := wf_u8 hw
    exact ⟨by rw [Int.toNat_of_nonneg this.1]; exact e, by omega⟩
  have h6 : X 6 = .int .u16 ((intOf (X 6)).toNat : Int) ∧ (intOf (X 6)).toNat ≤ 65535 := by
    obtain ⟨e, hw⟩ := (h 6 (some .u16) rfl).int
    have := wf_u16 hw
    exact ⟨by rw [Int.toNat_of_nonneg this.1]; exact e, by omega⟩
  refine ⟨⟨(u8 0 rfl).2, (u8 2 rfl).2, (u8 3 rfl).2, (u8 4 rfl).2, (u8 5 rfl).2, h6.2, (u8 7 rfl).2, (u8 8 rfl).2⟩, fun j hj => ?_⟩
  rcases j with _|_|_|_|_|_|_|_|_|j
  · exact (u8 0 rfl).1
  · exact (h 1 none rfl).bool
  · exact (u8 2 rfl).1
  · exact (u8 3 rfl).1
  · exact (u8 4 rfl).1
  · exact (u8 5 rfl).1
  · exact h6.1
  · exact (u8 7 rfl).1
  · exact (u8 8 rfl).1
  omega
section
variable {H : Type} {enc : TypeId × Value → H} {P : Program} {w : World}
theorem open_acts {t e : TypeId} {a : Option Addr} {len cap D : Nat} {d : DataW H} {ps : List MemPlace} (ht : P.underlying t = some (.slice e)) (hk : flatKb P D e = some actKs) (ce : P.cellsOf e = 9)
    (h : DataW.Trod enc P w 0 (fun _ => true) true t (.slice a len cap) d ps) : ∃ xa : Nat → ActM, (∀ i, i < len → ActOk (xa i)) ∧ Fx.Arr w a len 9 (Fx.flat 9 fun k => actY (xa k)) := by
  obtain ⟨fuel, hf⟩ := h
  obtain ⟨a', l', c', hcs, _, _, X, hX, hA⟩ := open_rows ht hk ce (by decide) hf
  simp [Value.cells] at hcs
  obtain ⟨rfl, rfl, rfl⟩ := hcs
  exact ⟨fun i => actOf (X i), fun i hi => (actOf_ok (hX i hi)).1, hA.congr (Fx.flat_cong fun k hk j hj => (actOf_ok (hX k hk)).2 j hj)⟩
end
end Go.Proofs.Ytleajegppehbdaa
