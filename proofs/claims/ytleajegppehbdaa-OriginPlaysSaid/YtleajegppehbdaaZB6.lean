/-
  What the proof of the law rests on, part 6: walks of functions, and plain laws; each says its conditions itself.
-/
import Derived.OpenShut
import Derived.Deep.Slices
import Derived.Lib.SmallJoins
import Derived.ChangeArms
import Derived.Test.YtleajegppehbdaaZB5
namespace Go.Proofs.Ytleajegppehbdaa
open Go.RowKit Rt
open Fx (x_move x_assign x_field x_load1 x_pickF x_pickT x_nil x_conv x_indexS x_index x_leqF x_loadA x_len x_gtrF x_build x_eqlF x_eqlT Lv sN Ln Ws Qv Wl Rp Wc Qs Wr Sb Lk Wk rC rV sR)
namespace Rt
structure ActM where
  who : Nat
  meet : Bool
  other : Nat
  kind : Nat
  node : Nat
  dst : Nat
  amt : Nat
  req : Nat
  of : Nat
structure ActOk (x : ActM) : Prop where
  who : x.who ≤ 255
  other : x.other ≤ 255
  kind : x.kind ≤ 255
  node : x.node ≤ 255
  dst : x.dst ≤ 255
  amt : x.amt ≤ 65535
  req : x.req ≤ 255
  of : x.of ≤ 255
def actY (x : ActM) : Nat → Value := fun p => if p = 0 then .int .u8 (x.who : Int) else if p = 1 then .bool x.meet else if p = 2 then .int .u8 (x.other : Int) else if p = 3 then .int .u8 (x.kind : Int) else if p = 4 then .int .u8 (x.node : Int) else if p = 5 then .int .u8 (x.dst : Int) else if p = 6 then .int .u16 (x.amt : Int) else if p = 7 then .int .u8 (x.req : Int) else .int .u8 (x.of : Int)
theorem remL {k n r : Nat} (e : r = k % n) : Int.tmod (k : Int) (n : Int) = (r : Int) := by
  rw [Int.tmod_eq_emod_of_nonneg (by omega), e]
  exact (Int.natCast_emod k n).symm
theorem ev_node (V : EvM) (x : Int) : ∀ j, j < 14 → Fx.updV (evY V) 9 (.int .u64 x) j = evY { V with node := x } j := fun j hj => by
  rcases j with _|_|_|_|_|_|_|_|_|_|_|_|_|_|j <;> first | rfl | omega
theorem ev_dst (V : EvM) (x : Int) : ∀ j, j < 14 → Fx.updV (evY V) 10 (.int .i64 x) j = evY ⟨V.o, V.seq, V.deps, V.kind, V.node, x, V.amt, V.req, V.of⟩ j := fun j hj => by
  rcases j with _|_|_|_|_|_|_|_|_|_|_|_|_|_|j <;> first | rfl | omega
theorem ev_amt (V : EvM) (x : Int) : ∀ j, j < 14 → Fx.updV (evY V) 11 (.int .i64 x) j = evY { V with amt := x } j := fun j hj => by
  rcases j with _|_|_|_|_|_|_|_|_|_|_|_|_|_|j <;> first | rfl | omega
theorem ev_req (V : EvM) (x : Int) : ∀ j, j < 14 → Fx.updV (evY V) 12 (.int .u64 x) j = evY { V with req := x } j := fun j hj => by
  rcases j with _|_|_|_|_|_|_|_|_|_|_|_|_|_|j <;> first | rfl | omega
theorem ev_of (V : EvM) (x : Int) : ∀ j, j < 14 → Fx.updV (evY V) 13 (.int .u64 x) j = evY { V with of := x } j := fun j hj => by
  rcases j with _|_|_|_|_|_|_|_|_|_|_|_|_|_|j <;> first | rfl | omega
end Rt
set_option maxRecDepth 20000 in
set_option maxHeartbeats 2000000 in
theorem l_event (M : WM) (B p T : Nat) (x : ActM) (w : World) (hW : WldO w B p M T) (hx : ActOk x) :
    Calls Try.prog 40 #[.pointer (some ⟨p, 0, none⟩), .agg (Fx.varr 9 (actY x))] w fun e w' => ∃ V, EvWf V ∧ EvSm V ∧ (V.o = ((x.who % M.n : Nat) : Int) + 1 ∧ V.seq = (M.ml (x.who % M.n)).s.known (x.who % M.n) + 1 ∧ V.deps = (M.ml (x.who % M.n)).s.known) ∧ e = .returned (.agg (Fx.varr 14 (evY V))) ∧ Below w.heap.size w w' := by
 have hWc := hW.c
 have hWl := hW.l
 have hWa := hW.a
 have hWg := hW.g
 have hn1 := hW.n1
 have hn6 := hW.n6
 have hpB := hW.pB
 have lpp : p < w.heap.size := hWc.lt
 have hxw := hx.who
 have hxo := hx.other
 have hxk := hx.kind
 have hxn := hx.node
 have hxt := hx.dst
 have hxa := hx.amt
 have hxr := hx.req
 have hxf := hx.of
 refine Fx.enter Try.func40 rfl (n := 143) rfl (by rfl) ?_
 refine Ws (Wl (Fx.L.box (m := 9) (y := actY x) (by rfl) rfl rfl (Fx.cells_agg _ _) rfl fun g1 w1 eg1 m1 s1 z1 => ?_))
 have m2 := hWc.stp s1 (Nat.ne_of_lt (hWc.lt))
 have m3 := hWl.stp s1 (hWl.notNew (Nat.le_refl _))
 have m4 := hWa.stp s1 (hWa.notNew (Nat.le_refl _))
 have m5 := hWg.up s1.old
 have b1 := s1.below (Below.refl w.heap.size w) (Below.refl w.heap.size w).size (Below.refl w.heap.size w).size
 have lg1 : w.heap.size ≤ g1 := by rw [eg1]; exact (Below.refl w.heap.size w).size
 have ng1m2 : p ≠ g1 := by rw [eg1]; exact Nat.ne_of_lt (hWc.lt)
 have tg1 : g1 < w1.heap.size := m1.lt
 clear eg1
 refine Fx.L.new (m := 14) (y := fun zq => if zq < 1 then .int .i64 (0) else if zq < 8 then .int .u64 (0) else if zq < 9 then .int .u8 (0) else if zq < 10 then .int .u64 (0) else if zq < 12 then .int .i64 (0) else .int .u64 (0)) (by rfl) rfl (by kernel_rfl) rfl fun g2 w2 eg2 m6 s2 z2 => ?_
 have m7 := m2.stp s2 (Nat.ne_of_lt (m2.lt))
 have m8 := m3.stp s2 (m3.notNew (Nat.le_refl _))
 have m9 := m4.stp s2 (m4.notNew (Nat.le_refl _))
 have m10 := m5.up s2.old
 have m11 := m1.stp s2 (Nat.ne_of_lt (m1.lt))
 have b2 := s2.below b1 b1.size b1.size
 have lg2 : w.heap.size ≤ g2 := by rw [eg2]; exact b1.size
 have ng2m7 : p ≠ g2 := by rw [eg2]; exact Nat.ne_of_lt (m2.lt)
 have ng2m9 : (.slice M.aa (M.an) (M.ac) : Value).ownBlock ≠ some g2 := by rw [eg2]; exact m4.notNew (Nat.le_refl _)
 have ng2m11 : g1 ≠ g2 := by rw [eg2]; exact Nat.ne_of_lt (m1.lt)
 have tg2 : g2 < w2.heap.size := m6.lt
 clear eg2
 refine Ln (sN (Ws ?_))
 obtain ⟨o, eo⟩ : ∃ r, r = x.who % M.n := ⟨_, rfl⟩
 have ho : o < M.n := by rw [eo]; exact Nat.mod_lt _ (by omega)
 -- region 1 draws
 refine Fx.W.quiet (fun v1 => ∃ q, v1 = World.drewN w2 q) (by kernel_rfl) (by kernel_rfl) ⟨1, rfl⟩ ?_
 refine Qv (.pointer (some ⟨g1, 0, none⟩)) (fun v1 hv1 => x_field rfl rfl Try.underlying54 rfl (s := 1) (by kernel_rfl) rfl rfl) (Qv (.int .u8 ((x.who : Int))) (fun v1 hv1 => x_load1 (x := actY x) rfl rfl (by kernel_rfl) (by obtain ⟨qd, rfl⟩ := hv1; exact m11.cel) (i := 0) (by omega) (by omega) rfl) (Qv (.int .i64 ((x.who : Int))) (fun v1 hv1 => x_conv rfl rfl (by kernel_rfl) Try.underlying3 (Fx.i64e (by omega) rfl)) (Qv (.pointer (some ⟨p, 0, none⟩)) (fun v1 hv1 => x_move rfl rfl) (Qv (.pointer (some ⟨p, 0, none⟩)) (fun v1 hv1 => x_nil rfl rfl) (Qv (.pointer (some ⟨p, 0, none⟩)) (fun v1 hv1 => x_field rfl rfl Try.underlying74 rfl (s := 1) (by kernel_rfl) rfl rfl) (Qv (.slice M.la (M.n) (M.lc)) (fun v1 hv1 => x_load1 (x := wdY (.slice M.la (M.n) (M.lc)) (.slice M.aa (M.an) (M.ac))) rfl rfl (by kernel_rfl) (by obtain ⟨qd, rfl⟩ := hv1; exact m7.cel) (i := 0) (by omega) (by omega) rfl) (Qv (.int .i64 ((M.n : Int))) (fun v1 hv1 => x_len rfl rfl rfl (by kernel_rfl)) (Qv (.int .i64 ((o : Int))) (fun v1 hv1 => Fx.x_rem rfl rfl rfl (by omega) (remL eo)) (Qv (.int .i64 ((o : Int))) (fun v1 hv1 => x_assign rfl rfl) (Fx.Qt.nil ?_))))))))))
 rintro _ ⟨qd, rfl⟩
 obtain ⟨wq1, ewq1⟩ : ∃ v1, v1 = World.drewN w2 qd := ⟨_, rfl⟩
 rw [← ewq1]
 have s3 : Fx.Stp w2.heap.size w2 wq1 := by rw [ewq1]; exact Sb (bdrN w2 qd)
 have m12 := m7.stp s3 (Nat.ne_of_lt (m7.lt))
 have m13 := m8.stp s3 (m8.notNew (Nat.le_refl _))
 have m14 := m9.stp s3 (m9.notNew (Nat.le_refl _))
 have m15 := m10.up s3.old
 have m16 := m11.stp s3 (Nat.ne_of_lt (m11.lt))
 have m17 := m6.stp s3 (Nat.ne_of_lt (m6.lt))
 have b3 := s3.below b2 b2.size b2.size
 clear ewq1
 refine sN (Ws (Wl (Lv (.pointer (some ⟨p, 0, none⟩)) (x_move rfl rfl) (Lv (.pointer (some ⟨p, 0, none⟩)) (x_nil rfl rfl) (Lv (.pointer (some ⟨p, 0, none⟩)) (x_field rfl rfl Try.underlying74 rfl (s := 1) (by kernel_rfl) rfl rfl) (Lv (.slice M.la (M.n) (M.lc)) (x_load1 (x := wdY (.slice M.la (M.n) (M.lc)) (.slice M.aa (M.an) (M.ac))) rfl rfl (by kernel_rfl) m12.cel (i := 0) (by omega) (by omega) rfl) (Lv (.int .i64 ((o : Int))) (x_move rfl rfl) ?_)))))))
 obtain ⟨gq1, eq1⟩ := m13.addr (by omega)
 have m18 : Fx.Own wq1 B 71 1 (.slice (some ⟨gq1, 0, none⟩) M.n M.lc) M.n (ptX M.pl) := m13.congV (congrArg (fun q => Value.slice q M.n M.lc) eq1)
 refine Lv (.pointer (some ⟨gq1, o, none⟩)) (x_indexS rfl (rfl.trans (congrArg (fun q => Value.slice q (M.n) (M.lc)) eq1)) rfl Try.underlying72 (s := 1) (by kernel_rfl) (by omega) (by omega) (by omega)) (Lv (.pointer (some ⟨(M.pl o), 0, none⟩)) (x_load1 (x := ptX M.pl) rfl rfl (by kernel_rfl) m18.cel (i := o) (by omega) (by omega) rfl) (Lv (.pointer (some ⟨(M.pl o), 0, none⟩)) (x_assign rfl rfl) (Ln (sN (Ws ?_)))))
 obtain ⟨r42, er42⟩ : ∃ r, r = x.kind % 7 := ⟨_, rfl⟩
 have hr42 : r42 < 7 := by rw [er42]; exact Nat.mod_lt _ (by omega)
 have hLo1 := m15 o (by omega)
 have hLo1c := hLo1.c
 have hLo1n := hLo1.n
 have hkn := (hW.inv o (by omega)).kn
 have hko := hkn o (by omega)
 have hko : 0 ≤ (M.ml o).s.known o ∧ (M.ml o).s.known o < 1099511627776 := hko
 have hU : ∀ k, k < (M.ml o).s.nn → U64r ((M.ml o).id k) := fun k hk => by have h1 := (hW.inv o (by omega)).pos k hk; have h2 := (hW.inv o (by omega)).top k hk; exact ⟨by show (0 : Int) ≤ (M.ml o).core.id k; omega, by show (M.ml o).core.id k ≤ _; omega⟩
 have hbn := (hW.g o (by omega)).bn
 -- region 3 draws
 refine Fx.W.one (T := 50) (T' := 50) (a := .tmp 7) (v := .tmp 44) (m := 14) (z := fun zq => if zq < 1 then .int .i64 (0) else if zq < 8 then .int .u64 (0) else if zq < 9 then .int .u8 (0) else if zq < 10 then .int .u64 (0) else if zq < 12 then .int .i64 (0) else .int .u64 (0)) (y := Fx.ovr (Fx.ovr (Fx.ovr (Fx.ovr (fun zq => if zq < 1 then .int .i64 (0) else if zq < 8 then .int .u64 (0) else if zq < 9 then .int .u8 (0) else if zq < 10 then .int .u64 (0) else if zq < 12 then .int .i64 (0) else .int .u64 (0)) 0 1 (fun _ => .int .i64 ((o : Int) + 1))) 1 1 (fun _ => .int .u64 ((M.ml o).s.known o + 1))) 2 6 (Fx.rv .u64 ((M.ml o).s.known))) 8 1 (fun _ => .int .u8 ((r42 : Int) + 1))) (u := .agg (Fx.varr 14 (Fx.ovr (Fx.ovr (Fx.ovr (Fx.ovr (fun zq => if zq < 1 then .int .i64 (0) else if zq < 8 then .int .u64 (0) else if zq < 9 then .int .u8 (0) else if zq < 10 then .int .u64 (0) else if zq < 12 then .int .i64 (0) else .int .u64 (0)) 0 1 (fun _ => .int .i64 ((o : Int) + 1))) 1 1 (fun _ => .int .u64 ((M.ml o).s.known o + 1))) 2 6 (Fx.rv .u64 ((M.ml o).s.known))) 8 1 (fun _ => .int .u8 ((r42 : Int) + 1))))) 20 21 (List.replicate 22 (0, 2, [], [])) #[.int .i64 ((o : Int)), .int .i64 ((o : Int) + 1), .pointer (some ⟨(M.pl o), 0, none⟩), .int .i64 ((o : Int)), .pointer (some ⟨(M.pl o), 0, none⟩), .pointer (some ⟨(M.pl o), 0, none⟩), .pointer (some ⟨(M.pl o), 12, none⟩), .pointer (some ⟨(M.pl o), o + 12, none⟩), .int .u64 ((M.ml o).s.known o), .int .u64 ((M.ml o).s.known o + 1), .pointer (some ⟨(M.pl o), 0, none⟩), .pointer (some ⟨(M.pl o), 0, none⟩), .pointer (some ⟨(M.pl o), 0, none⟩), .pointer (some ⟨(M.pl o), 12, none⟩), .agg (Fx.varr 6 (Fx.rv .u64 ((M.ml o).s.known))), .pointer (some ⟨g1, 3, none⟩), .int .u8 ((x.kind : Int)), .int .u8 ((r42 : Int)), .int .u8 ((r42 : Int) + 1), .agg (Fx.varr 14 (Fx.ovr (Fx.ovr (Fx.ovr (Fx.ovr (fun zq => if zq < 1 then .int .i64 (0) else if zq < 8 then .int .u64 (0) else if zq < 9 then .int .u8 (0) else if zq < 10 then .int .u64 (0) else if zq < 12 then .int .i64 (0) else .int .u64 (0)) 0 1 (fun _ => .int .i64 ((o : Int) + 1))) 1 1 (fun _ => .int .u64 ((M.ml o).s.known o + 1))) 2 6 (Fx.rv .u64 ((M.ml o).s.known))) 8 1 (fun _ => .int .u8 ((r42 : Int) + 1)))), undef, undef] (by kernel_rfl) (by kernel_rfl) (by kernel_rfl) (by kernel_rfl) (by kernel_rfl) (by kernel_rfl) rfl (by kernel_rfl) rfl rfl (by kernel_rfl) (fun g3 => (show Fx.ev _ (.tmp 7) = .pointer (some ⟨g3, 0, none⟩) from by kernel_rfl)) (fun g3 => (show Fx.ev _ (.tmp 44) = .agg (Fx.varr 14 (Fx.ovr (Fx.ovr (Fx.ovr (Fx.ovr (fun zq => if zq < 1 then .int .i64 (0) else if zq < 8 then .int .u64 (0) else if zq < 9 then .int .u8 (0) else if zq < 10 then .int .u64 (0) else if zq < 12 then .int .i64 (0) else .int .u64 (0)) 0 1 (fun _ => .int .i64 ((o : Int) + 1))) 1 1 (fun _ => .int .u64 ((M.ml o).s.known o + 1))) 2 6 (Fx.rv .u64 ((M.ml o).s.known))) 8 1 (fun _ => .int .u8 ((r42 : Int) + 1)))) from by kernel_rfl)) (Fx.cells_agg _ _) (Fx.ovr_ones (Fx.ovr_ones (Fx.ovr_ones (Fx.ovr_ones (fun jq _ => by show ((fun zq => if zq < 1 then .int .i64 (0) else if zq < 8 then .int .u64 (0) else if zq < 9 then .int .u8 (0) else if zq < 10 then .int .u64 (0) else if zq < 12 then .int .i64 (0) else .int .u64 (0) : Nat → Value) jq).oneCell' = true; simp only []; repeat (first | rfl | split)) (fun _ _ => rfl)) (fun _ _ => rfl)) (fun _ _ => rfl)) (fun _ _ => rfl)) (by kernel_rfl) (fun g3 => ?_) ?_
 ·refine ⟨?_, ?_, ?_, ?_, ?_, ?_, ?_, ?_, ?_, ?_, ?_, ?_, ?_, ?_, ?_, ?_, ?_, ?_, ?_, ?_, ?_, ?_, trivial⟩
  ·exact .inr (.inr (Fx.qb_yes (v := .int .i64 ((o : Int))) (by kernel_rfl) (by kernel_rfl) (Fx.qbV fun v1 hv1 => x_move rfl (show Fx.ev _ (.tmp 5) = .int .i64 ((o : Int)) from by kernel_rfl))))
  ·exact .inr (.inr (Fx.qb_yes (v := .int .i64 ((o : Int) + 1)) (by kernel_rfl) (by kernel_rfl) (Fx.qbV fun v1 hv1 => Fx.x_add rfl (show Fx.ev _ (.tmp 25) = .int .i64 ((o : Int)) from by kernel_rfl) (show Fx.ev _ (.const (.int .i64 (1))) = .int .i64 (1) from by kernel_rfl) (Fx.i64e (by omega) (by omega)))))
  ·exact .inr (.inr (Fx.qb_yes (v := .pointer (some ⟨(M.pl o), 0, none⟩)) (by kernel_rfl) (by kernel_rfl) (Fx.qbV fun v1 hv1 => x_move rfl (show Fx.ev _ (.tmp 6) = .pointer (some ⟨(M.pl o), 0, none⟩) from by kernel_rfl))))
  ·exact .inr (.inr (Fx.qb_yes (v := .int .i64 ((o : Int))) (by kernel_rfl) (by kernel_rfl) (Fx.qbV fun v1 hv1 => x_move rfl (show Fx.ev _ (.tmp 5) = .int .i64 ((o : Int)) from by kernel_rfl))))
  ·exact .inr (.inr (Fx.qb_yes (v := .pointer (some ⟨(M.pl o), 0, none⟩)) (by kernel_rfl) (by kernel_rfl) (Fx.qbV fun v1 hv1 => x_nil rfl (show Fx.ev _ (.tmp 27) = .pointer (some ⟨(M.pl o), 0, none⟩) from by kernel_rfl))))
  ·exact .inr (.inr (Fx.qb_yes (v := .pointer (some ⟨(M.pl o), 0, none⟩)) (by kernel_rfl) (by kernel_rfl) (Fx.qbV fun v1 hv1 => x_field rfl (show Fx.ev _ (.tmp 29) = .pointer (some ⟨(M.pl o), 0, none⟩) from by kernel_rfl) Try.underlying70 rfl (s := 20) (by kernel_rfl) rfl rfl)))
  ·exact .inr (.inr (Fx.qb_yes (v := .pointer (some ⟨(M.pl o), 12, none⟩)) (by kernel_rfl) (by kernel_rfl) (Fx.qbV fun v1 hv1 => x_field rfl (show Fx.ev _ (.tmp 30) = .pointer (some ⟨(M.pl o), 0, none⟩) from by kernel_rfl) Try.underlying65 rfl (s := 6) (by kernel_rfl) rfl (by show _ + 12 = _; omega))))
  ·exact .inr (.inr (Fx.qb_yes (v := .pointer (some ⟨(M.pl o), o + 12, none⟩)) (by kernel_rfl) (by kernel_rfl) (Fx.qbV fun v1 hv1 => x_index rfl (show Fx.ev _ (.tmp 31) = .pointer (some ⟨(M.pl o), 12, none⟩) from by kernel_rfl) (show Fx.ev _ (.tmp 28) = .int .i64 ((o : Int)) from by kernel_rfl) Try.underlying32 (s := 1) (by kernel_rfl) (by omega) (by omega) (by omega))))
  ·exact .inr (.inr (Fx.qb_yes (v := .int .u64 ((M.ml o).s.known o)) (by kernel_rfl) (by kernel_rfl) (Fx.qbV fun v1 hv1 => x_load1 (x := ldY (M.ml o)) rfl (show Fx.ev _ (.tmp 32) = .pointer (some ⟨(M.pl o), o + 12, none⟩) from by kernel_rfl) (by kernel_rfl) (hLo1c.cel.below hv1 (by have := hLo1c.lt; omega)) (i := o + 12) (by omega) (by omega) (ldY_st _ (by omega) (stY_known _ (by omega) (by omega))))))
  ·exact .inr (.inr (Fx.qb_yes (v := .int .u64 ((M.ml o).s.known o + 1)) (by kernel_rfl) (by kernel_rfl) (Fx.qbV fun v1 hv1 => Fx.x_add rfl (show Fx.ev _ (.tmp 33) = .int .u64 ((M.ml o).s.known o) from by kernel_rfl) (show Fx.ev _ (.const (.int .u64 (1))) = .int .u64 (1) from by kernel_rfl) (Fx.u64e (by omega) (by omega)))))
  ·exact .inr (.inr (Fx.qb_yes (v := .pointer (some ⟨(M.pl o), 0, none⟩)) (by kernel_rfl) (by kernel_rfl) (Fx.qbV fun v1 hv1 => x_move rfl (show Fx.ev _ (.tmp 6) = .pointer (some ⟨(M.pl o), 0, none⟩) from by kernel_rfl))))
  ·exact .inr (.inr (Fx.qb_yes (v := .pointer (some ⟨(M.pl o), 0, none⟩)) (by kernel_rfl) (by kernel_rfl) (Fx.qbV fun v1 hv1 => x_nil rfl (show Fx.ev _ (.tmp 35) = .pointer (some ⟨(M.pl o), 0, none⟩) from by kernel_rfl))))
  ·exact .inr (.inr (Fx.qb_yes (v := .pointer (some ⟨(M.pl o), 0, none⟩)) (by kernel_rfl) (by kernel_rfl) (Fx.qbV fun v1 hv1 => x_field rfl (show Fx.ev _ (.tmp 36) = .pointer (some ⟨(M.pl o), 0, none⟩) from by kernel_rfl) Try.underlying70 rfl (s := 20) (by kernel_rfl) rfl rfl)))
  ·exact .inr (.inr (Fx.qb_yes (v := .pointer (some ⟨(M.pl o), 12, none⟩)) (by kernel_rfl) (by kernel_rfl) (Fx.qbV fun v1 hv1 => x_field rfl (show Fx.ev _ (.tmp 37) = .pointer (some ⟨(M.pl o), 0, none⟩) from by kernel_rfl) Try.underlying65 rfl (s := 6) (by kernel_rfl) rfl (by show _ + 12 = _; omega))))
  ·exact .inr (.inr (Fx.qb_yes (v := .agg (Fx.varr 6 (Fx.rv .u64 ((M.ml o).s.known)))) (by kernel_rfl) (by kernel_rfl) (Fx.qbV fun v1 hv1 => x_loadA (x := ldY (M.ml o)) (y := Fx.rv .u64 ((M.ml o).s.known)) rfl (show Fx.ev _ (.tmp 38) = .pointer (some ⟨(M.pl o), 12, none⟩) from by kernel_rfl) (by kernel_rfl) (by kernel_rfl) (hLo1c.cel.below hv1 (by have := hLo1c.lt; omega)) (i := 12) (by omega) (by omega) (fun j hj => ldY_st _ (by omega) (stY_known _ hj (by omega))))))
  ·exact .inr (.inr (Fx.qb_yes (v := .pointer (some ⟨g1, 3, none⟩)) (by kernel_rfl) (by kernel_rfl) (Fx.qbV fun v1 hv1 => x_field rfl (show Fx.ev _ (.tmp 3) = .pointer (some ⟨g1, 0, none⟩) from by kernel_rfl) Try.underlying54 rfl (s := 1) (by kernel_rfl) rfl (by show _ + 3 = _; omega))))
  ·exact .inr (.inr (Fx.qb_yes (v := .int .u8 ((x.kind : Int))) (by kernel_rfl) (by kernel_rfl) (Fx.qbV fun v1 hv1 => x_load1 (x := actY x) rfl (show Fx.ev _ (.tmp 40) = .pointer (some ⟨g1, 3, none⟩) from by kernel_rfl) (by kernel_rfl) (m16.cel.below hv1 (by have := m16.lt; omega)) (i := 3) (by omega) (by omega) rfl)))
  ·exact .inr (.inr (Fx.qb_yes (v := .int .u8 ((r42 : Int))) (by kernel_rfl) (by kernel_rfl) (Fx.qbV fun v1 hv1 => Fx.x_rem rfl (show Fx.ev _ (.tmp 41) = .int .u8 ((x.kind : Int)) from by kernel_rfl) (show Fx.ev _ (.const (.int .u8 (7))) = .int .u8 (7) from by kernel_rfl) (by omega) (remL er42))))
  ·exact .inr (.inr (Fx.qb_yes (v := .int .u8 ((r42 : Int) + 1)) (by kernel_rfl) (by kernel_rfl) (Fx.qbV fun v1 hv1 => Fx.x_add rfl (show Fx.ev _ (.const (.int .u8 (1))) = .int .u8 (1) from by kernel_rfl) (show Fx.ev _ (.tmp 42) = .int .u8 ((r42 : Int)) from by kernel_rfl) (Fx.u8e (by omega) (by omega)))))
  ·exact .inr (.inr (Fx.qb_yes (v := .agg (Fx.varr 14 (Fx.ovr (Fx.ovr (Fx.ovr (Fx.ovr (fun zq => if zq < 1 then .int .i64 (0) else if zq < 8 then .int .u64 (0) else if zq < 9 then .int .u8 (0) else if zq < 10 then .int .u64 (0) else if zq < 12 then .int .i64 (0) else .int .u64 (0)) 0 1 (fun _ => .int .i64 ((o : Int) + 1))) 1 1 (fun _ => .int .u64 ((M.ml o).s.known o + 1))) 2 6 (Fx.rv .u64 ((M.ml o).s.known))) 8 1 (fun _ => .int .u8 ((r42 : Int) + 1))))) (by kernel_rfl) (by kernel_rfl) (Fx.qbV fun v1 hv1 => x_build (vs := [(0, .int .i64 ((o : Int) + 1)), (1, .int .u64 ((M.ml o).s.known o + 1)), (2, .agg (Fx.varr 6 (Fx.rv .u64 ((M.ml o).s.known)))), (3, .int .u8 ((r42 : Int) + 1))]) (places := #[(0, 1), (1, 1), (2, 6), (8, 1), (9, 1), (10, 1), (11, 1), (12, 1), (13, 1)]) (m := 14) (x := fun zq => if zq < 1 then .int .i64 (0) else if zq < 8 then .int .u64 (0) else if zq < 9 then .int .u8 (0) else if zq < 10 then .int .u64 (0) else if zq < 12 then .int .i64 (0) else .int .u64 (0)) rfl (Fx.parts4 (show Fx.ev _ (.tmp 26) = .int .i64 ((o : Int) + 1) from by kernel_rfl) (show Fx.ev _ (.tmp 34) = .int .u64 ((M.ml o).s.known o + 1) from by kernel_rfl) (show Fx.ev _ (.tmp 39) = .agg (Fx.varr 6 (Fx.rv .u64 ((M.ml o).s.known))) from by kernel_rfl) (show Fx.ev _ (.tmp 43) = .int .u8 ((r42 : Int) + 1) from by kernel_rfl)) Try.underlying50 (by kernel_rfl) (by kernel_rfl) (by rw [Fx.fill_step (off := 0) (s := 1) (y := fun _ => .int .i64 ((o : Int) + 1)) (by kernel_rfl) (Fx.cells_one (by rfl)) (by rfl)]; rw [Fx.fill_step (off := 1) (s := 1) (y := fun _ => .int .u64 ((M.ml o).s.known o + 1)) (by kernel_rfl) (Fx.cells_one (by rfl)) (by rfl)]; rw [Fx.fill_step (off := 2) (s := 6) (y := Fx.rv .u64 ((M.ml o).s.known)) (by kernel_rfl) (Fx.cells_agg _ _) (by rfl)]; rw [Fx.fill_step (off := 8) (s := 1) (y := fun _ => .int .u8 ((r42 : Int) + 1)) (by kernel_rfl) (Fx.cells_one (by rfl)) (by rfl)]; rfl))))
  ·exact .inl rfl
  exact .inr (.inl rfl)
 rintro g3 w3 f1 hf1 lg3 m19 hb1
 have s4 := Sb hb1
 have ng3m12 : p ≠ g3 := Nat.ne_of_lt (Nat.lt_of_lt_of_le (m12.lt) lg3)
 have ng3m16 : g1 ≠ g3 := Nat.ne_of_lt (Nat.lt_of_lt_of_le (m16.lt) lg3)
 have ng3m17 : g2 ≠ g3 := Nat.ne_of_lt (Nat.lt_of_lt_of_le (m17.lt) lg3)
 have ng3m18 : gq1 ≠ g3 := Nat.ne_of_lt (Nat.lt_of_lt_of_le (m18.lt) lg3)
 have ng3hLo1c : (M.pl o) ≠ g3 := Nat.ne_of_lt (Nat.lt_of_lt_of_le (hLo1c.lt) lg3)
 have ng3m14 : (.slice M.aa (M.an) (M.ac) : Value).ownBlock ≠ some g3 := fun e => by have := (m14.ge e).2; omega
 have m22 := m15.up s4.old
 have m23 := m16.stp s4 (Nat.ne_of_lt (m16.lt))
 have m24 := m17.stp s4 (Nat.ne_of_lt (m17.lt))
 have m25 := m18.stpB s4 (Nat.ne_of_lt (m18.lt))
 have m27 := hLo1n.stp s4 (hLo1n.notNew (Nat.le_refl _))
 have b4 := s4.below b3 b3.size b3.size
 have lg3 : w.heap.size ≤ g3 := Nat.le_trans b3.size lg3
 have tg3 : g3 < w3.heap.size := m19.lt
 have q1 : f1 3 = .pointer (some ⟨g1, 0, none⟩) := by rw [hf1]; kernel_rfl
 have q2 : f1 4 = .pointer (some ⟨g2, 0, none⟩) := by rw [hf1]; kernel_rfl
 have q3 : f1 6 = .pointer (some ⟨(M.pl o), 0, none⟩) := by rw [hf1]; kernel_rfl
 have q4 : f1 7 = .pointer (some ⟨g3, 0, none⟩) := by rw [hf1]; kernel_rfl
 clear hf1
 refine sN (Ws ?_)
 obtain ⟨V0, eV0⟩ : ∃ V : EvM, V = (⟨(o : Int) + 1, (M.ml o).s.known o + 1, (M.ml o).s.known, (r42 : Int) + 1, 0, 0, 0, 0, 0⟩ : EvM) := ⟨_, rfl⟩
 have hz1 : U64r 0 := ⟨by decide, by decide⟩
 have hz2 : I64r 0 := ⟨by decide, by decide⟩
 have wf0 : EvWf V0 := by rw [eV0]; exact ⟨⟨by show (_ : Int) ≤ (o : Int) + 1; omega, by show (o : Int) + 1 ≤ _; omega⟩, ⟨by show (0 : Int) ≤ (M.ml o).s.known o + 1; omega, by show (M.ml o).s.known o + 1 ≤ _; omega⟩, fun i hi => ⟨(hkn i hi).1, by have q : (M.ml o).s.known i < 1099511627776 := (hkn i hi).2; show (M.ml o).s.known i ≤ _; omega⟩, ⟨by show (0 : Int) ≤ (r42 : Int) + 1; omega, by show (r42 : Int) + 1 ≤ 255; omega⟩, hz1, hz2, hz2, hz1, hz1⟩
 have m28 : Fx.Blk w3 g3 14 (evY V0) 50 := m19.congr (fun j hj => by rw [eV0]; rcases j with _|_|_|_|_|_|_|_|_|_|_|_|_|_|j <;> first | rfl | omega | exact congrArg (Value.int .u8) (by omega))
 have sm0 : EvSm V0 := by rw [eV0]; exact ⟨by show (0 : Int) ≤ _; decide, by show (0 : Int) ≤ _; decide⟩
 have hd0 : V0.o = (o : Int) + 1 ∧ V0.seq = (M.ml o).s.known o + 1 ∧ V0.deps = (M.ml o).s.known := by rw [eV0]; exact ⟨rfl, rfl, rfl⟩
 have ek0 : V0.kind = (r42 : Int) + 1 := by rw [eV0]
 refine Wl (Lv (.int .u64 (0)) (x_assign rfl rfl) (Ln (sN ?_)))
 have m29 : Fx.Own w3 B 71 1 (.slice M.la (M.n) (M.lc)) M.n (ptX M.pl) := m25.congV (congrArg (fun q => Value.slice q M.n M.lc) eq1.symm)
 refine Fx.W.seqJ (fun f w_ => ∃ nd : Int, U64r nd ∧ f 3 = .pointer (some ⟨g1, 0, none⟩) ∧ f 4 = .pointer (some ⟨g2, 0, none⟩) ∧ f 7 = .pointer (some ⟨g3, 0, none⟩) ∧ f 8 = .int .u64 (nd) ∧ Fx.Blk w_ g1 9 (actY x) 54 ∧ Fx.Blk w_ g2 14 (fun zq => if zq < 1 then .int .i64 (0) else if zq < 8 then .int .u64 (0) else if zq < 9 then .int .u8 (0) else if zq < 10 then .int .u64 (0) else if zq < 12 then .int .i64 (0) else .int .u64 (0)) 50 ∧ Fx.Blk w_ g3 14 (evY V0) 50 ∧ Below w.heap.size w w_) ?_ ?_
 ·refine Ws ?_
  have hLo2 := m22 o (by omega)
  have hLo2c := hLo2.c
  have hLo2n := hLo2.n
  refine Wl (Lv (.pointer (some ⟨(M.pl o), 0, none⟩)) (x_move rfl q3) (Lv (.pointer (some ⟨(M.pl o), 0, none⟩)) (x_nil rfl rfl) (Lv (.pointer (some ⟨(M.pl o), 0, none⟩)) (x_field rfl rfl Try.underlying70 rfl (s := 20) (by kernel_rfl) rfl rfl) (Lv (.pointer (some ⟨(M.pl o), 18, none⟩)) (x_field rfl rfl Try.underlying65 rfl (s := 1) (by kernel_rfl) rfl (by show _ + 18 = _; omega)) (Lv (.slice (M.ml o).s.na ((M.ml o).s.nn) ((M.ml o).s.nc)) (x_load1 (x := ldY (M.ml o)) rfl rfl (by kernel_rfl) hLo2c.cel (i := 18) (by omega) (by omega) rfl) (Lv (.int .i64 ((((M.ml o).s.nn : Nat) : Int))) (x_len rfl rfl rfl (by kernel_rfl)) (Lv (.bool (decide (0 < (((M.ml o).s.nn : Nat) : Int)))) (Fx.x_gtr rfl rfl rfl) (Ln (sN (Wc (b := decide (0 < (((M.ml o).s.nn : Nat) : Int))) rfl (fun c51 => ?_) (fun c51 => ?_)))))))))))
  ·have c51 := of_decide_eq_true c51
   obtain ⟨r66, er66⟩ : ∃ r, r = x.node % (M.ml o).s.nn := ⟨_, rfl⟩
   have hr66 : r66 < (M.ml o).s.nn := by rw [er66]; exact Nat.mod_lt _ (by omega)
   -- region 6 draws
   refine Fx.W.quiet (fun v1 => ∃ q, v1 = World.drewN w3 q) (by kernel_rfl) (by kernel_rfl) ⟨1, rfl⟩ ?_
   refine Qv (.pointer (some ⟨(M.pl o), 0, none⟩)) (fun v1 hv1 => x_move rfl q3) (Qv (.pointer (some ⟨(M.pl o), 0, none⟩)) (fun v1 hv1 => x_nil rfl rfl) (Qv (.pointer (some ⟨(M.pl o), 0, none⟩)) (fun v1 hv1 => x_field rfl rfl Try.underlying70 rfl (s := 20) (by kernel_rfl) rfl rfl) (Qv (.pointer (some ⟨(M.pl o), 18, none⟩)) (fun v1 hv1 => x_field rfl rfl Try.underlying65 rfl (s := 1) (by kernel_rfl) rfl (by show _ + 18 = _; omega)) (Qv (.slice (M.ml o).s.na ((M.ml o).s.nn) ((M.ml o).s.nc)) (fun v1 hv1 => x_load1 (x := ldY (M.ml o)) rfl rfl (by kernel_rfl) (by obtain ⟨qd, rfl⟩ := hv1; exact hLo2c.cel) (i := 18) (by omega) (by omega) rfl) (Qv (.pointer (some ⟨g1, 4, none⟩)) (fun v1 hv1 => x_field rfl q1 Try.underlying54 rfl (s := 1) (by kernel_rfl) rfl (by show _ + 4 = _; omega)) (Qv (.int .u8 ((x.node : Int))) (fun v1 hv1 => x_load1 (x := actY x) rfl rfl (by kernel_rfl) (by obtain ⟨qd, rfl⟩ := hv1; exact m23.cel) (i := 4) (by omega) (by omega) rfl) (Qv (.int .i64 ((x.node : Int))) (fun v1 hv1 => x_conv rfl rfl (by kernel_rfl) Try.underlying3 (Fx.i64e (by omega) rfl)) (Qv (.pointer (some ⟨(M.pl o), 0, none⟩)) (fun v1 hv1 => x_move rfl q3) (Qv (.pointer (some ⟨(M.pl o), 0, none⟩)) (fun v1 hv1 => x_nil rfl rfl) (Qv (.pointer (some ⟨(M.pl o), 0, none⟩)) (fun v1 hv1 => x_field rfl rfl Try.underlying70 rfl (s := 20) (by kernel_rfl) rfl rfl) (Qv (.pointer (some ⟨(M.pl o), 18, none⟩)) (fun v1 hv1 => x_field rfl rfl Try.underlying65 rfl (s := 1) (by kernel_rfl) rfl (by show _ + 18 = _; omega)) (Qv (.slice (M.ml o).s.na ((M.ml o).s.nn) ((M.ml o).s.nc)) (fun v1 hv1 => x_load1 (x := ldY (M.ml o)) rfl rfl (by kernel_rfl) (by obtain ⟨qd, rfl⟩ := hv1; exact hLo2c.cel) (i := 18) (by omega) (by omega) rfl) (Qv (.int .i64 ((((M.ml o).s.nn : Nat) : Int))) (fun v1 hv1 => x_len rfl rfl rfl (by kernel_rfl)) (Qv (.int .i64 ((r66 : Int))) (fun v1 hv1 => Fx.x_rem rfl rfl rfl (by omega) (remL er66)) ?_))))))))))))))
   obtain ⟨gq2, eq2⟩ := m27.addr (by omega)
   have m30 : Fx.Own w3 B 123 56 (.slice (some ⟨gq2, 0, none⟩) ((M.ml o).s.nn) ((M.ml o).s.nc)) ((M.ml o).s.nn) (ndX (M.ml o)) := m27.congV (congrArg (fun q => Value.slice q ((M.ml o).s.nn) ((M.ml o).s.nc)) eq2)
   refine Qv (.pointer (some ⟨gq2, 56 * r66, none⟩)) (fun v1 hv1 => x_indexS rfl (rfl.trans (congrArg (fun q => Value.slice q ((M.ml o).s.nn) ((M.ml o).s.nc)) eq2)) rfl Try.underlying62 (s := 56) (by kernel_rfl) (by omega) (by omega) (by omega)) (Qv (.pointer (some ⟨gq2, 56 * r66, none⟩)) (fun v1 hv1 => x_field rfl rfl Try.underlying123 rfl (s := 1) (by kernel_rfl) rfl rfl) (Qv (.int .u64 ((M.ml o).id r66)) (fun v1 hv1 => x_load1 (x := ndX (M.ml o)) rfl rfl (by kernel_rfl) (by obtain ⟨qd, rfl⟩ := hv1; exact m30.cel) (i := 56 * r66) (by omega) (by omega) (Fx.flat_cell (k := r66) (j := 0) (by omega) (by omega) rfl)) (Qv (.int .u64 ((M.ml o).id r66)) (fun v1 hv1 => x_assign rfl rfl) (Fx.Qt.nil ?_))))
   rintro _ ⟨qd, rfl⟩
   obtain ⟨wq2, ewq2⟩ : ∃ v1, v1 = World.drewN w3 qd := ⟨_, rfl⟩
   rw [← ewq2]
   have s5 : Fx.Stp w3.heap.size w3 wq2 := by rw [ewq2]; exact Sb (bdrN w3 qd)
   have m34 := m23.stp s5 (Nat.ne_of_lt (m23.lt))
   have m35 := m24.stp s5 (Nat.ne_of_lt (m24.lt))
   have m37 := m28.stp s5 (Nat.ne_of_lt (m28.lt))
   have m40 := m30.stpB s5 (Nat.ne_of_lt (m30.lt))
   have b5 := s5.below b4 b4.size b4.size
   clear ewq2
   have m41 : Fx.Own wq2 B 123 56 (.slice (M.ml o).s.na ((M.ml o).s.nn) ((M.ml o).s.nc)) ((M.ml o).s.nn) (ndX (M.ml o)) := m40.congV (congrArg (fun q => Value.slice q ((M.ml o).s.nn) ((M.ml o).s.nc)) eq2.symm)
   exact Fx.jnN ⟨((M.ml o).id r66), (hU r66 hr66), q1, q2, q4, (by first | rfl | exact congrArg (Value.int .u64) (by omega)), m34, m35, m37, b5⟩
  have c51 := of_decide_eq_false c51
  refine Wk ?_
  exact Fx.jnN ⟨0, ⟨by decide, by decide⟩, q1, q2, q4, (by first | rfl | exact congrArg (Value.int .u64) (by omega)), m23, m24, m28, b4⟩
 rintro f2 w4 ⟨nd, hnode, h1, h2, h3, h4, m42, m43, m44, b6⟩
 refine Ws (Ws (Wl (Lv (.pointer (some ⟨g3, 8, none⟩)) (x_field rfl h3 Try.underlying50 rfl (s := 1) (by kernel_rfl) rfl (by show _ + 8 = _; omega)) (Lv (.int .u8 (V0.kind)) (x_load1 (x := evY V0) rfl rfl (by kernel_rfl) m44.cel (i := 8) (by omega) (by omega) rfl) (Ln (sN (Fx.W.block (Ws (Wl ?_)))))))))
 by_cases c73 : V0.kind = 1
 ·refine Lv (.bool true) (x_eqlT rfl rfl rfl c73) (Lv (.bool true) (x_assign rfl rfl) (Ln (sN (Wc (b := true) rfl (fun _ => Ws (Ws ?_)) (fun h => nomatch h)))))
  obtain ⟨r76, er76⟩ : ∃ r, r = x.node % 2 := ⟨_, rfl⟩
  have hr76 : r76 < 2 := by rw [er76]; exact Nat.mod_lt _ (by omega)
  refine Wl (Lv (.pointer (some ⟨g1, 4, none⟩)) (x_field rfl h1 Try.underlying54 rfl (s := 1) (by kernel_rfl) rfl (by show _ + 4 = _; omega)) (Lv (.int .u8 ((x.node : Int))) (x_load1 (x := actY x) rfl rfl (by kernel_rfl) m42.cel (i := 4) (by omega) (by omega) rfl) (Lv (.int .u8 ((r76 : Int))) (Fx.x_rem rfl rfl rfl (by omega) (remL er76)) ?_)))
  by_cases c77 : (r76 : Int) = 1
  ·refine Lv (.bool true) (x_eqlT rfl rfl rfl c77) (Ln (sN (Wc (b := true) rfl (fun _ => Wl (Lv (.int .u64 (nd)) (x_move rfl h4) ?_)) (fun h => nomatch h))))
   refine Lv (.pointer (some ⟨g3, 9, none⟩)) (x_field rfl h3 Try.underlying50 rfl (s := 1) (by kernel_rfl) rfl (by show _ + 9 = _; omega)) (Fx.L.store1 (x := evY V0) (u := .int .u64 (nd)) (by rfl) rfl rfl rfl rfl (by rfl) (by kernel_rfl) m44 (i := 9) (by omega) fun w5 m45 s6 z3 => ?_)
   obtain ⟨V1, eV1⟩ : ∃ V : EvM, V = ⟨V0.o, V0.seq, V0.deps, V0.kind, nd, V0.dst, V0.amt, V0.req, V0.of⟩ := ⟨_, rfl⟩
   have wfV1 : EvWf V1 := by rw [eV1]; exact ⟨wf0.o, wf0.seq, wf0.deps, wf0.kind, hnode, wf0.dst, wf0.amt, wf0.req, wf0.of⟩
   have hdV1 : V1.o = (o : Int) + 1 ∧ V1.seq = (M.ml o).s.known o + 1 ∧ V1.deps = (M.ml o).s.known := by rw [eV1]; exact hd0
   have smV1 : EvSm V1 := by rw [eV1]; exact ⟨sm0.amt, sm0.req⟩
   have m46 : Fx.Blk w5 g3 14 (evY V1) 50 := m45.congr (fun j hj => by rw [eV1]; exact ev_node _ _ j hj)
   have hct1 := Fx.ChT.of_stp s6 m44.ty
   have m47 := m42.chT hct1 (by decide)
   have m48 := m43.stp s6 (by omega)
   have b7 := s6.below b6 b6.size (by omega)
   refine Ln (sN (Wl (Lv (.pointer (some ⟨g1, 6, none⟩)) (x_field rfl h1 Try.underlying54 rfl (s := 1) (by kernel_rfl) rfl (by show _ + 6 = _; omega)) (Lv (.int .u16 ((x.amt : Int))) (x_load1 (x := actY x) rfl rfl (by kernel_rfl) m47.cel (i := 6) (by omega) (by omega) rfl) (Lv (.int .i64 ((x.amt : Int))) (x_conv rfl rfl (by kernel_rfl) Try.underlying2 (Fx.i64e (by omega) rfl)) (Lv (.pointer (some ⟨g3, 11, none⟩)) (x_field rfl h3 Try.underlying50 rfl (s := 1) (by kernel_rfl) rfl (by show _ + 11 = _; omega)) (Fx.L.store1 (x := evY V1) (u := .int .i64 ((x.amt : Int))) (by rfl) rfl rfl rfl rfl (by rfl) (by kernel_rfl) m46 (i := 11) (by omega) fun w6 m49 s7 z4 => ?_)))))))
   obtain ⟨V2, eV2⟩ : ∃ V : EvM, V = ⟨V1.o, V1.seq, V1.deps, V1.kind, V1.node, V1.dst, (x.amt : Int), V1.req, V1.of⟩ := ⟨_, rfl⟩
   have wfV2 : EvWf V2 := by rw [eV2]; exact ⟨wfV1.o, wfV1.seq, wfV1.deps, wfV1.kind, wfV1.node, wfV1.dst, (show I64r ((x.amt : Int)) from ⟨by omega, by omega⟩), wfV1.req, wfV1.of⟩
   have hdV2 : V2.o = (o : Int) + 1 ∧ V2.seq = (M.ml o).s.known o + 1 ∧ V2.deps = (M.ml o).s.known := by rw [eV2]; exact hdV1
   have smV2 : EvSm V2 := by rw [eV2]; exact ⟨by show (x.amt : Int) ≤ 65536; omega, smV1.req⟩
   have m50 : Fx.Blk w6 g3 14 (evY V2) 50 := m49.congr (fun j hj => by rw [eV2]; exact ev_amt _ _ j hj)
   have m52 := m48.stp s7 (by omega)
   have b8 := s7.below b7 b7.size (by omega)
   refine Ln (Fx.blkN (sN (Ws (Wl (Lv (.agg (Fx.varr 14 (evY V2))) (x_loadA (x := evY V2) (y := evY V2) rfl h3 (by kernel_rfl) (by kernel_rfl) m50.cel (i := 0) (by omega) (by omega) (fun j _ => by rw [Nat.zero_add])) (Fx.L.storeA (x := fun zq => if zq < 1 then .int .i64 (0) else if zq < 8 then .int .u64 (0) else if zq < 9 then .int .u8 (0) else if zq < 10 then .int .u64 (0) else if zq < 12 then .int .i64 (0) else .int .u64 (0)) (y := evY V2) (by rfl) rfl rfl h2 rfl (evY_one _) (by kernel_rfl) m52 (i := 0) (by omega) fun w7 m53 s8 z5 => ?_))))))
   have m54 : Fx.Blk w7 g2 14 (evY V2) 50 := Fx.ovr_all m53
   have m56 := m50.stp s8 (by omega)
   have b9 := s8.below b8 b8.size (by omega)
   refine Ln (sN (Wr (⟨.agg (Fx.varr 14 (evY V2)), rV Try.results40 ⟨_, h2, Fx.run_loadV m54.cel (by kernel_rfl) (by kernel_rfl)⟩, ?_⟩)))
   exact ⟨V2, wfV2, smV2, by rw [← eo]; exact hdV2, rfl, b9⟩
  refine Lv (.bool false) (x_eqlF rfl rfl rfl c77) (Ln (sN (Wc (b := false) rfl (fun h => nomatch h) (fun _ => Wk (sN (Wl (Lv (.pointer (some ⟨g1, 6, none⟩)) (x_field rfl h1 Try.underlying54 rfl (s := 1) (by kernel_rfl) rfl (by show _ + 6 = _; omega)) (Lv (.int .u16 ((x.amt : Int))) (x_load1 (x := actY x) rfl rfl (by kernel_rfl) m42.cel (i := 6) (by omega) (by omega) rfl) (Lv (.int .i64 ((x.amt : Int))) (x_conv rfl rfl (by kernel_rfl) Try.underlying2 (Fx.i64e (by omega) rfl)) (Lv (.pointer (some ⟨g3, 11, none⟩)) (x_field rfl h3 Try.underlying50 rfl (s := 1) (by kernel_rfl) rfl (by show _ + 11 = _; omega)) (Fx.L.store1 (x := evY V0) (u := .int .i64 ((x.amt : Int))) (by rfl) rfl rfl rfl rfl (by rfl) (by kernel_rfl) m44 (i := 11) (by omega) fun w8 m57 s9 z6 => ?_)))))))))))
  obtain ⟨V3, eV3⟩ : ∃ V : EvM, V = ⟨V0.o, V0.seq, V0.deps, V0.kind, V0.node, V0.dst, (x.amt : Int), V0.req, V0.of⟩ := ⟨_, rfl⟩
  have wfV3 : EvWf V3 := by rw [eV3]; exact ⟨wf0.o, wf0.seq, wf0.deps, wf0.kind, wf0.node, wf0.dst, (show I64r ((x.amt : Int)) from ⟨by omega, by omega⟩), wf0.req, wf0.of⟩
  have hdV3 : V3.o = (o : Int) + 1 ∧ V3.seq = (M.ml o).s.known o + 1 ∧ V3.deps = (M.ml o).s.known := by rw [eV3]; exact hd0
  have smV3 : EvSm V3 := by rw [eV3]; exact ⟨by show (x.amt : Int) ≤ 65536; omega, sm0.req⟩
  have m58 : Fx.Blk w8 g3 14 (evY V3) 50 := m57.congr (fun j hj => by rw [eV3]; exact ev_amt _ _ j hj)
  have m60 := m43.stp s9 (by omega)
  have b10 := s9.below b6 b6.size (by omega)
  refine Ln (Fx.blkN (sN (Ws (Wl (Lv (.agg (Fx.varr 14 (evY V3))) (x_loadA (x := evY V3) (y := evY V3) rfl h3 (by kernel_rfl) (by kernel_rfl) m58.cel (i := 0) (by omega) (by omega) (fun j _ => by rw [Nat.zero_add])) (Fx.L.storeA (x := fun zq => if zq < 1 then .int .i64 (0) else if zq < 8 then .int .u64 (0) else if zq < 9 then .int .u8 (0) else if zq < 10 then .int .u64 (0) else if zq < 12 then .int .i64 (0) else .int .u64 (0)) (y := evY V3) (by rfl) rfl rfl h2 rfl (evY_one _) (by kernel_rfl) m60 (i := 0) (by omega) fun w9 m61 s10 z7 => ?_))))))
  have m62 : Fx.Blk w9 g2 14 (evY V3) 50 := Fx.ovr_all m61
  have m64 := m58.stp s10 (by omega)
  have b11 := s10.below b10 b10.size (by omega)
  refine Ln (sN (Wr (⟨.agg (Fx.varr 14 (evY V3)), rV Try.results40 ⟨_, h2, Fx.run_loadV m62.cel (by kernel_rfl) (by kernel_rfl)⟩, ?_⟩)))
  exact ⟨V3, wfV3, smV3, by rw [← eo]; exact hdV3, rfl, b11⟩
 refine Lv (.bool false) (x_eqlF rfl rfl rfl c73) (Lv (.bool false) (x_assign rfl rfl) (Ln (sN (Wc (b := false) rfl (fun h => nomatch h) (fun _ => Ws (Wl ?_))))))
 by_cases c85 : V0.kind = 2
 ·refine Lv (.bool true) (x_eqlT rfl rfl rfl c85) (Lv (.bool true) (x_assign rfl rfl) (Ln (sN (Wc (b := true) rfl (fun _ => Ws (Wl (Lv (.int .u64 (nd)) (x_move rfl h4) ?_))) (fun h => nomatch h)))))
  refine Lv (.pointer (some ⟨g3, 9, none⟩)) (x_field rfl h3 Try.underlying50 rfl (s := 1) (by kernel_rfl) rfl (by show _ + 9 = _; omega)) (Fx.L.store1 (x := evY V0) (u := .int .u64 (nd)) (by rfl) rfl rfl rfl rfl (by rfl) (by kernel_rfl) m44 (i := 9) (by omega) fun w10 m65 s11 z8 => ?_)
  obtain ⟨V4, eV4⟩ : ∃ V : EvM, V = ⟨V0.o, V0.seq, V0.deps, V0.kind, nd, V0.dst, V0.amt, V0.req, V0.of⟩ := ⟨_, rfl⟩
  have wfV4 : EvWf V4 := by rw [eV4]; exact ⟨wf0.o, wf0.seq, wf0.deps, wf0.kind, hnode, wf0.dst, wf0.amt, wf0.req, wf0.of⟩
  have hdV4 : V4.o = (o : Int) + 1 ∧ V4.seq = (M.ml o).s.known o + 1 ∧ V4.deps = (M.ml o).s.known := by rw [eV4]; exact hd0
  have smV4 : EvSm V4 := by rw [eV4]; exact ⟨sm0.amt, sm0.req⟩
  have m66 : Fx.Blk w10 g3 14 (evY V4) 50 := m65.congr (fun j hj => by rw [eV4]; exact ev_node _ _ j hj)
  have hct6 := Fx.ChT.of_stp s11 m44.ty
  have m67 := m42.chT hct6 (by decide)
  have m68 := m43.stp s11 (by omega)
  have b12 := s11.below b6 b6.size (by omega)
  refine Ln (sN (Wl (Lv (.pointer (some ⟨g1, 6, none⟩)) (x_field rfl h1 Try.underlying54 rfl (s := 1) (by kernel_rfl) rfl (by show _ + 6 = _; omega)) (Lv (.int .u16 ((x.amt : Int))) (x_load1 (x := actY x) rfl rfl (by kernel_rfl) m67.cel (i := 6) (by omega) (by omega) rfl) (Lv (.int .i64 ((x.amt : Int))) (x_conv rfl rfl (by kernel_rfl) Try.underlying2 (Fx.i64e (by omega) rfl)) (Lv (.int .i64 ((x.amt : Int) + 1)) (Fx.x_add rfl rfl rfl (Fx.i64e (by omega) (by omega))) (Lv (.pointer (some ⟨g3, 11, none⟩)) (x_field rfl h3 Try.underlying50 rfl (s := 1) (by kernel_rfl) rfl (by show _ + 11 = _; omega)) (Fx.L.store1 (x := evY V4) (u := .int .i64 ((x.amt : Int) + 1)) (by rfl) rfl rfl rfl rfl (by rfl) (by kernel_rfl) m66 (i := 11) (by omega) fun w11 m69 s12 z9 => ?_))))))))
  obtain ⟨V5, eV5⟩ : ∃ V : EvM, V = ⟨V4.o, V4.seq, V4.deps, V4.kind, V4.node, V4.dst, (x.amt : Int) + 1, V4.req, V4.of⟩ := ⟨_, rfl⟩
  have wfV5 : EvWf V5 := by rw [eV5]; exact ⟨wfV4.o, wfV4.seq, wfV4.deps, wfV4.kind, wfV4.node, wfV4.dst, (show I64r ((x.amt : Int) + 1) from ⟨by omega, by omega⟩), wfV4.req, wfV4.of⟩
  have hdV5 : V5.o = (o : Int) + 1 ∧ V5.seq = (M.ml o).s.known o + 1 ∧ V5.deps = (M.ml o).s.known := by rw [eV5]; exact hdV4
  have smV5 : EvSm V5 := by rw [eV5]; exact ⟨by show (x.amt : Int) + 1 ≤ 65536; omega, smV4.req⟩
  have m70 : Fx.Blk w11 g3 14 (evY V5) 50 := m69.congr (fun j hj => by rw [eV5]; exact ev_amt _ _ j hj)
  have m72 := m68.stp s12 (by omega)
  have b13 := s12.below b12 b12.size (by omega)
  refine Ln (Fx.blkN (sN (Ws (Wl (Lv (.agg (Fx.varr 14 (evY V5))) (x_loadA (x := evY V5) (y := evY V5) rfl h3 (by kernel_rfl) (by kernel_rfl) m70.cel (i := 0) (by omega) (by omega) (fun j _ => by rw [Nat.zero_add])) (Fx.L.storeA (x := fun zq => if zq < 1 then .int .i64 (0) else if zq < 8 then .int .u64 (0) else if zq < 9 then .int .u8 (0) else if zq < 10 then .int .u64 (0) else if zq < 12 then .int .i64 (0) else .int .u64 (0)) (y := evY V5) (by rfl) rfl rfl h2 rfl (evY_one _) (by kernel_rfl) m72 (i := 0) (by omega) fun w12 m73 s13 z10 => ?_))))))
  have m74 : Fx.Blk w12 g2 14 (evY V5) 50 := Fx.ovr_all m73
  have m76 := m70.stp s13 (by omega)
  have b14 := s13.below b13 b13.size (by omega)
  refine Ln (sN (Wr (⟨.agg (Fx.varr 14 (evY V5)), rV Try.results40 ⟨_, h2, Fx.run_loadV m74.cel (by kernel_rfl) (by kernel_rfl)⟩, ?_⟩)))
  exact ⟨V5, wfV5, smV5, by rw [← eo]; exact hdV5, rfl, b14⟩
 refine Lv (.bool false) (x_eqlF rfl rfl rfl c85) (Lv (.bool false) (x_assign rfl rfl) (Ln (sN (Wc (b := false) rfl (fun h => nomatch h) (fun _ => Ws (Wl ?_))))))
 by_cases c94 : V0.kind = 3
 ·refine Lv (.bool true) (x_eqlT rfl rfl rfl c94) (Lv (.bool true) (x_assign rfl rfl) (Ln (sN (Wc (b := true) rfl (fun _ => Ws (Wl (Lv (.int .u64 (nd)) (x_move rfl h4) ?_))) (fun h => nomatch h)))))
  refine Lv (.pointer (some ⟨g3, 9, none⟩)) (x_field rfl h3 Try.underlying50 rfl (s := 1) (by kernel_rfl) rfl (by show _ + 9 = _; omega)) (Fx.L.store1 (x := evY V0) (u := .int .u64 (nd)) (by rfl) rfl rfl rfl rfl (by rfl) (by kernel_rfl) m44 (i := 9) (by omega) fun w13 m77 s14 z11 => ?_)
  obtain ⟨V6, eV6⟩ : ∃ V : EvM, V = ⟨V0.o, V0.seq, V0.deps, V0.kind, nd, V0.dst, V0.amt, V0.req, V0.of⟩ := ⟨_, rfl⟩
  have wfV6 : EvWf V6 := by rw [eV6]; exact ⟨wf0.o, wf0.seq, wf0.deps, wf0.kind, hnode, wf0.dst, wf0.amt, wf0.req, wf0.of⟩
  have hdV6 : V6.o = (o : Int) + 1 ∧ V6.seq = (M.ml o).s.known o + 1 ∧ V6.deps = (M.ml o).s.known := by rw [eV6]; exact hd0
  have smV6 : EvSm V6 := by rw [eV6]; exact ⟨sm0.amt, sm0.req⟩
  have m78 : Fx.Blk w13 g3 14 (evY V6) 50 := m77.congr (fun j hj => by rw [eV6]; exact ev_node _ _ j hj)
  have hct9 := Fx.ChT.of_stp s14 m44.ty
  have m79 := m42.chT hct9 (by decide)
  have m80 := m43.stp s14 (by omega)
  have b15 := s14.below b6 b6.size (by omega)
  refine Ln (sN (Ws (Wl (Lv (.pointer (some ⟨g1, 6, none⟩)) (x_field rfl h1 Try.underlying54 rfl (s := 1) (by kernel_rfl) rfl (by show _ + 6 = _; omega)) (Lv (.int .u16 ((x.amt : Int))) (x_load1 (x := actY x) rfl rfl (by kernel_rfl) m79.cel (i := 6) (by omega) (by omega) rfl) (Lv (.int .i64 ((x.amt : Int))) (x_conv rfl rfl (by kernel_rfl) Try.underlying2 (Fx.i64e (by omega) rfl)) (Lv (.int .i64 ((x.amt : Int) + 1)) (Fx.x_add rfl rfl rfl (Fx.i64e (by omega) (by omega))) (Lv (.pointer (some ⟨g3, 11, none⟩)) (x_field rfl h3 Try.underlying50 rfl (s := 1) (by kernel_rfl) rfl (by show _ + 11 = _; omega)) (Fx.L.store1 (x := evY V6) (u := .int .i64 ((x.amt : Int) + 1)) (by rfl) rfl rfl rfl rfl (by rfl) (by kernel_rfl) m78 (i := 11) (by omega) fun w14 m81 s15 z12 => ?_)))))))))
  obtain ⟨V7, eV7⟩ : ∃ V : EvM, V = ⟨V6.o, V6.seq, V6.deps, V6.kind, V6.node, V6.dst, (x.amt : Int) + 1, V6.req, V6.of⟩ := ⟨_, rfl⟩
  have wfV7 : EvWf V7 := by rw [eV7]; exact ⟨wfV6.o, wfV6.seq, wfV6.deps, wfV6.kind, wfV6.node, wfV6.dst, (show I64r ((x.amt : Int) + 1) from ⟨by omega, by omega⟩), wfV6.req, wfV6.of⟩
  have hdV7 : V7.o = (o : Int) + 1 ∧ V7.seq = (M.ml o).s.known o + 1 ∧ V7.deps = (M.ml o).s.known := by rw [eV7]; exact hdV6
  have smV7 : EvSm V7 := by rw [eV7]; exact ⟨by show (x.amt : Int) + 1 ≤ 65536; omega, smV6.req⟩
  have m82 : Fx.Blk w14 g3 14 (evY V7) 50 := m81.congr (fun j hj => by rw [eV7]; exact ev_amt _ _ j hj)
  have hct10 := Fx.ChT.of_stp s15 m78.ty
  have m83 := m79.chT hct10 (by decide)
  have m84 := m80.stp s15 (by omega)
  have b16 := s15.below b15 b15.size (by omega)
  refine Ln (sN (Wl (Lv (.pointer (some ⟨g1, 7, none⟩)) (x_field rfl h1 Try.underlying54 rfl (s := 1) (by kernel_rfl) rfl (by show _ + 7 = _; omega)) (Lv (.int .u8 ((x.req : Int))) (x_load1 (x := actY x) rfl rfl (by kernel_rfl) m83.cel (i := 7) (by omega) (by omega) rfl) (Lv (.int .u64 ((x.req : Int))) (x_conv rfl rfl (by kernel_rfl) Try.underlying30 (Fx.u64e (by omega) rfl)) (Lv (.int .u64 ((x.req : Int) + 1)) (Fx.x_add rfl rfl rfl (Fx.u64e (by omega) (by omega))) (Lv (.pointer (some ⟨g3, 12, none⟩)) (x_field rfl h3 Try.underlying50 rfl (s := 1) (by kernel_rfl) rfl (by show _ + 12 = _; omega)) (Fx.L.store1 (x := evY V7) (u := .int .u64 ((x.req : Int) + 1)) (by rfl) rfl rfl rfl rfl (by rfl) (by kernel_rfl) m82 (i := 12) (by omega) fun w15 m85 s16 z13 => ?_))))))))
  obtain ⟨V8, eV8⟩ : ∃ V : EvM, V = ⟨V7.o, V7.seq, V7.deps, V7.kind, V7.node, V7.dst, V7.amt, (x.req : Int) + 1, V7.of⟩ := ⟨_, rfl⟩
  have wfV8 : EvWf V8 := by rw [eV8]; exact ⟨wfV7.o, wfV7.seq, wfV7.deps, wfV7.kind, wfV7.node, wfV7.dst, wfV7.amt, (show U64r ((x.req : Int) + 1) from ⟨by omega, by omega⟩), wfV7.of⟩
  have hdV8 : V8.o = (o : Int) + 1 ∧ V8.seq = (M.ml o).s.known o + 1 ∧ V8.deps = (M.ml o).s.known := by rw [eV8]; exact hdV7
  have smV8 : EvSm V8 := by rw [eV8]; exact ⟨smV7.amt, by show (x.req : Int) + 1 ≤ 256; omega⟩
  have m86 : Fx.Blk w15 g3 14 (evY V8) 50 := m85.congr (fun j hj => by rw [eV8]; exact ev_req _ _ j hj)
  have m88 := m84.stp s16 (by omega)
  have b17 := s16.below b16 b16.size (by omega)
  refine Ln (Fx.blkN (sN (Ws (Wl (Lv (.agg (Fx.varr 14 (evY V8))) (x_loadA (x := evY V8) (y := evY V8) rfl h3 (by kernel_rfl) (by kernel_rfl) m86.cel (i := 0) (by omega) (by omega) (fun j _ => by rw [Nat.zero_add])) (Fx.L.storeA (x := fun zq => if zq < 1 then .int .i64 (0) else if zq < 8 then .int .u64 (0) else if zq < 9 then .int .u8 (0) else if zq < 10 then .int .u64 (0) else if zq < 12 then .int .i64 (0) else .int .u64 (0)) (y := evY V8) (by rfl) rfl rfl h2 rfl (evY_one _) (by kernel_rfl) m88 (i := 0) (by omega) fun w16 m89 s17 z14 => ?_))))))
  have m90 : Fx.Blk w16 g2 14 (evY V8) 50 := Fx.ovr_all m89
  have m92 := m86.stp s17 (by omega)
  have b18 := s17.below b17 b17.size (by omega)
  refine Ln (sN (Wr (⟨.agg (Fx.varr 14 (evY V8)), rV Try.results40 ⟨_, h2, Fx.run_loadV m90.cel (by kernel_rfl) (by kernel_rfl)⟩, ?_⟩)))
  exact ⟨V8, wfV8, smV8, by rw [← eo]; exact hdV8, rfl, b18⟩
 refine Lv (.bool false) (x_eqlF rfl rfl rfl c94) (Lv (.bool false) (x_assign rfl rfl) (Ln (sN (Wc (b := false) rfl (fun h => nomatch h) (fun _ => Ws (Wl ?_))))))
 by_cases c108 : V0.kind = 4
 ·refine Lv (.bool true) (x_eqlT rfl rfl rfl c108) (Lv (.bool true) (x_assign rfl rfl) (Ln (sN (Wc (b := true) rfl (fun _ => Ws (Wl (Lv (.pointer (some ⟨g1, 7, none⟩)) (x_field rfl h1 Try.underlying54 rfl (s := 1) (by kernel_rfl) rfl (by show _ + 7 = _; omega)) ?_))) (fun h => nomatch h)))))
  refine Lv (.int .u8 ((x.req : Int))) (x_load1 (x := actY x) rfl rfl (by kernel_rfl) m42.cel (i := 7) (by omega) (by omega) rfl) (Lv (.int .u64 ((x.req : Int))) (x_conv rfl rfl (by kernel_rfl) Try.underlying30 (Fx.u64e (by omega) rfl)) (Lv (.int .u64 ((x.req : Int) + 1)) (Fx.x_add rfl rfl rfl (Fx.u64e (by omega) (by omega))) (Lv (.pointer (some ⟨g3, 12, none⟩)) (x_field rfl h3 Try.underlying50 rfl (s := 1) (by kernel_rfl) rfl (by show _ + 12 = _; omega)) (Fx.L.store1 (x := evY V0) (u := .int .u64 ((x.req : Int) + 1)) (by rfl) rfl rfl rfl rfl (by rfl) (by kernel_rfl) m44 (i := 12) (by omega) fun w17 m93 s18 z15 => ?_))))
  obtain ⟨V9, eV9⟩ : ∃ V : EvM, V = ⟨V0.o, V0.seq, V0.deps, V0.kind, V0.node, V0.dst, V0.amt, (x.req : Int) + 1, V0.of⟩ := ⟨_, rfl⟩
  have wfV9 : EvWf V9 := by rw [eV9]; exact ⟨wf0.o, wf0.seq, wf0.deps, wf0.kind, wf0.node, wf0.dst, wf0.amt, (show U64r ((x.req : Int) + 1) from ⟨by omega, by omega⟩), wf0.of⟩
  have hdV9 : V9.o = (o : Int) + 1 ∧ V9.seq = (M.ml o).s.known o + 1 ∧ V9.deps = (M.ml o).s.known := by rw [eV9]; exact hd0
  have smV9 : EvSm V9 := by rw [eV9]; exact ⟨sm0.amt, by show (x.req : Int) + 1 ≤ 256; omega⟩
  have m94 : Fx.Blk w17 g3 14 (evY V9) 50 := m93.congr (fun j hj => by rw [eV9]; exact ev_req _ _ j hj)
  have hct13 := Fx.ChT.of_stp s18 m44.ty
  have m95 := m42.chT hct13 (by decide)
  have m96 := m43.stp s18 (by omega)
  have b19 := s18.below b6 b6.size (by omega)
  refine Ln (sN (Wl (Lv (.pointer (some ⟨g1, 8, none⟩)) (x_field rfl h1 Try.underlying54 rfl (s := 1) (by kernel_rfl) rfl (by show _ + 8 = _; omega)) (Lv (.int .u8 ((x.of : Int))) (x_load1 (x := actY x) rfl rfl (by kernel_rfl) m95.cel (i := 8) (by omega) (by omega) rfl) (Lv (.int .u64 ((x.of : Int))) (x_conv rfl rfl (by kernel_rfl) Try.underlying30 (Fx.u64e (by omega) rfl)) (Lv (.int .u64 ((x.of : Int) + 1)) (Fx.x_add rfl rfl rfl (Fx.u64e (by omega) (by omega))) (Lv (.pointer (some ⟨g3, 13, none⟩)) (x_field rfl h3 Try.underlying50 rfl (s := 1) (by kernel_rfl) rfl (by show _ + 13 = _; omega)) (Fx.L.store1 (x := evY V9) (u := .int .u64 ((x.of : Int) + 1)) (by rfl) rfl rfl rfl rfl (by rfl) (by kernel_rfl) m94 (i := 13) (by omega) fun w18 m97 s19 z16 => ?_))))))))
  obtain ⟨V10, eV10⟩ : ∃ V : EvM, V = ⟨V9.o, V9.seq, V9.deps, V9.kind, V9.node, V9.dst, V9.amt, V9.req, (x.of : Int) + 1⟩ := ⟨_, rfl⟩
  have wfV10 : EvWf V10 := by rw [eV10]; exact ⟨wfV9.o, wfV9.seq, wfV9.deps, wfV9.kind, wfV9.node, wfV9.dst, wfV9.amt, wfV9.req, (show U64r ((x.of : Int) + 1) from ⟨by omega, by omega⟩)⟩
  have hdV10 : V10.o = (o : Int) + 1 ∧ V10.seq = (M.ml o).s.known o + 1 ∧ V10.deps = (M.ml o).s.known := by rw [eV10]; exact hdV9
  have smV10 : EvSm V10 := by rw [eV10]; exact ⟨smV9.amt, smV9.req⟩
  have m98 : Fx.Blk w18 g3 14 (evY V10) 50 := m97.congr (fun j hj => by rw [eV10]; exact ev_of _ _ j hj)
  have m100 := m96.stp s19 (by omega)
  have b20 := s19.below b19 b19.size (by omega)
  refine Ln (Fx.blkN (sN (Ws (Wl (Lv (.agg (Fx.varr 14 (evY V10))) (x_loadA (x := evY V10) (y := evY V10) rfl h3 (by kernel_rfl) (by kernel_rfl) m98.cel (i := 0) (by omega) (by omega) (fun j _ => by rw [Nat.zero_add])) (Fx.L.storeA (x := fun zq => if zq < 1 then .int .i64 (0) else if zq < 8 then .int .u64 (0) else if zq < 9 then .int .u8 (0) else if zq < 10 then .int .u64 (0) else if zq < 12 then .int .i64 (0) else .int .u64 (0)) (y := evY V10) (by rfl) rfl rfl h2 rfl (evY_one _) (by kernel_rfl) m100 (i := 0) (by omega) fun w19 m101 s20 z17 => ?_))))))
  have m102 : Fx.Blk w19 g2 14 (evY V10) 50 := Fx.ovr_all m101
  have m104 := m98.stp s20 (by omega)
  have b21 := s20.below b20 b20.size (by omega)
  refine Ln (sN (Wr (⟨.agg (Fx.varr 14 (evY V10)), rV Try.results40 ⟨_, h2, Fx.run_loadV m102.cel (by kernel_rfl) (by kernel_rfl)⟩, ?_⟩)))
  exact ⟨V10, wfV10, smV10, by rw [← eo]; exact hdV10, rfl, b21⟩
 refine Lv (.bool false) (x_eqlF rfl rfl rfl c108) (Lv (.bool false) (x_assign rfl rfl) (Ln (sN (Wc (b := false) rfl (fun h => nomatch h) (fun _ => Ws (Wl ?_))))))
 by_cases c120 : V0.kind = 5
 ·refine Lv (.bool true) (x_eqlT rfl rfl rfl c120) (Lv (.bool true) (x_assign rfl rfl) (Ln (sN (Wc (b := true) rfl (fun _ => Ws (Wl (Lv (.int .u64 (nd)) (x_move rfl h4) ?_))) (fun h => nomatch h)))))
  refine Lv (.pointer (some ⟨g3, 9, none⟩)) (x_field rfl h3 Try.underlying50 rfl (s := 1) (by kernel_rfl) rfl (by show _ + 9 = _; omega)) (Fx.L.store1 (x := evY V0) (u := .int .u64 (nd)) (by rfl) rfl rfl rfl rfl (by rfl) (by kernel_rfl) m44 (i := 9) (by omega) fun w20 m105 s21 z18 => ?_)
  obtain ⟨V11, eV11⟩ : ∃ V : EvM, V = ⟨V0.o, V0.seq, V0.deps, V0.kind, nd, V0.dst, V0.amt, V0.req, V0.of⟩ := ⟨_, rfl⟩
  have wfV11 : EvWf V11 := by rw [eV11]; exact ⟨wf0.o, wf0.seq, wf0.deps, wf0.kind, hnode, wf0.dst, wf0.amt, wf0.req, wf0.of⟩
  have hdV11 : V11.o = (o : Int) + 1 ∧ V11.seq = (M.ml o).s.known o + 1 ∧ V11.deps = (M.ml o).s.known := by rw [eV11]; exact hd0
  have smV11 : EvSm V11 := by rw [eV11]; exact ⟨sm0.amt, sm0.req⟩
  have m106 : Fx.Blk w20 g3 14 (evY V11) 50 := m105.congr (fun j hj => by rw [eV11]; exact ev_node _ _ j hj)
  have hct16 := Fx.ChT.of_stp s21 m44.ty
  have m107 := m42.chT hct16 (by decide)
  have m108 := m43.stp s21 (by omega)
  have b22 := s21.below b6 b6.size (by omega)
  refine Ln (sN (Ws (Wl (Lv (.pointer (some ⟨g1, 6, none⟩)) (x_field rfl h1 Try.underlying54 rfl (s := 1) (by kernel_rfl) rfl (by show _ + 6 = _; omega)) (Lv (.int .u16 ((x.amt : Int))) (x_load1 (x := actY x) rfl rfl (by kernel_rfl) m107.cel (i := 6) (by omega) (by omega) rfl) (Lv (.int .i64 ((x.amt : Int))) (x_conv rfl rfl (by kernel_rfl) Try.underlying2 (Fx.i64e (by omega) rfl)) (Lv (.int .i64 ((x.amt : Int) + 1)) (Fx.x_add rfl rfl rfl (Fx.i64e (by omega) (by omega))) (Lv (.pointer (some ⟨g3, 11, none⟩)) (x_field rfl h3 Try.underlying50 rfl (s := 1) (by kernel_rfl) rfl (by show _ + 11 = _; omega)) (Fx.L.store1 (x := evY V11) (u := .int .i64 ((x.amt : Int) + 1)) (by rfl) rfl rfl rfl rfl (by rfl) (by kernel_rfl) m106 (i := 11) (by omega) fun w21 m109 s22 z19 => ?_)))))))))
  obtain ⟨V12, eV12⟩ : ∃ V : EvM, V = ⟨V11.o, V11.seq, V11.deps, V11.kind, V11.node, V11.dst, (x.amt : Int) + 1, V11.req, V11.of⟩ := ⟨_, rfl⟩
  have wfV12 : EvWf V12 := by rw [eV12]; exact ⟨wfV11.o, wfV11.seq, wfV11.deps, wfV11.kind, wfV11.node, wfV11.dst, (show I64r ((x.amt : Int) + 1) from ⟨by omega, by omega⟩), wfV11.req, wfV11.of⟩
  have hdV12 : V12.o = (o : Int) + 1 ∧ V12.seq = (M.ml o).s.known o + 1 ∧ V12.deps = (M.ml o).s.known := by rw [eV12]; exact hdV11
  have smV12 : EvSm V12 := by rw [eV12]; exact ⟨by show (x.amt : Int) + 1 ≤ 65536; omega, smV11.req⟩
  have m110 : Fx.Blk w21 g3 14 (evY V12) 50 := m109.congr (fun j hj => by rw [eV12]; exact ev_amt _ _ j hj)
  have hct17 := Fx.ChT.of_stp s22 m106.ty
  have m111 := m107.chT hct17 (by decide)
  have m112 := m108.stp s22 (by omega)
  have b23 := s22.below b22 b22.size (by omega)
  refine Ln (sN ?_)
  obtain ⟨r6, er6⟩ : ∃ r, r = x.dst % 6 := ⟨_, rfl⟩
  have hr6 : r6 < 6 := by rw [er6]; exact Nat.mod_lt _ (by omega)
  refine Wl (Lv (.pointer (some ⟨g1, 5, none⟩)) (x_field rfl h1 Try.underlying54 rfl (s := 1) (by kernel_rfl) rfl (by show _ + 5 = _; omega)) (Lv (.int .u8 ((x.dst : Int))) (x_load1 (x := actY x) rfl rfl (by kernel_rfl) m111.cel (i := 5) (by omega) (by omega) rfl) (Lv (.int .i64 ((x.dst : Int))) (x_conv rfl rfl (by kernel_rfl) Try.underlying3 (Fx.i64e (by omega) rfl)) (Lv (.int .i64 ((r6 : Int))) (Fx.x_rem rfl rfl rfl (by omega) (remL er6)) (Lv (.int .i64 ((r6 : Int) + 1)) (Fx.x_add rfl rfl rfl (Fx.i64e (by omega) (by omega))) (Lv (.pointer (some ⟨g3, 10, none⟩)) (x_field rfl h3 Try.underlying50 rfl (s := 1) (by kernel_rfl) rfl (by show _ + 10 = _; omega)) (Fx.L.store1 (x := evY V12) (u := .int .i64 ((r6 : Int) + 1)) (by rfl) rfl rfl rfl rfl (by rfl) (by kernel_rfl) m110 (i := 10) (by omega) fun w22 m113 s23 z20 => ?_)))))))
  obtain ⟨V13, eV13⟩ : ∃ V : EvM, V = ⟨V12.o, V12.seq, V12.deps, V12.kind, V12.node, (r6 : Int) + 1, V12.amt, V12.req, V12.of⟩ := ⟨_, rfl⟩
  have wfV13 : EvWf V13 := by rw [eV13]; exact ⟨wfV12.o, wfV12.seq, wfV12.deps, wfV12.kind, wfV12.node, (show I64r ((r6 : Int) + 1) from ⟨by omega, by omega⟩), wfV12.amt, wfV12.req, wfV12.of⟩
  have hdV13 : V13.o = (o : Int) + 1 ∧ V13.seq = (M.ml o).s.known o + 1 ∧ V13.deps = (M.ml o).s.known := by rw [eV13]; exact hdV12
  have smV13 : EvSm V13 := by rw [eV13]; exact ⟨smV12.amt, smV12.req⟩
  have m114 : Fx.Blk w22 g3 14 (evY V13) 50 := m113.congr (fun j hj => by rw [eV13]; exact ev_dst _ _ j hj)
  have m116 := m112.stp s23 (by omega)
  have b24 := s23.below b23 b23.size (by omega)
  refine Ln (Fx.blkN (sN (Ws (Wl (Lv (.agg (Fx.varr 14 (evY V13))) (x_loadA (x := evY V13) (y := evY V13) rfl h3 (by kernel_rfl) (by kernel_rfl) m114.cel (i := 0) (by omega) (by omega) (fun j _ => by rw [Nat.zero_add])) (Fx.L.storeA (x := fun zq => if zq < 1 then .int .i64 (0) else if zq < 8 then .int .u64 (0) else if zq < 9 then .int .u8 (0) else if zq < 10 then .int .u64 (0) else if zq < 12 then .int .i64 (0) else .int .u64 (0)) (y := evY V13) (by rfl) rfl rfl h2 rfl (evY_one _) (by kernel_rfl) m116 (i := 0) (by omega) fun w23 m117 s24 z21 => ?_))))))
  have m118 : Fx.Blk w23 g2 14 (evY V13) 50 := Fx.ovr_all m117
  have m120 := m114.stp s24 (by omega)
  have b25 := s24.below b24 b24.size (by omega)
  refine Ln (sN (Wr (⟨.agg (Fx.varr 14 (evY V13)), rV Try.results40 ⟨_, h2, Fx.run_loadV m118.cel (by kernel_rfl) (by kernel_rfl)⟩, ?_⟩)))
  exact ⟨V13, wfV13, smV13, by rw [← eo]; exact hdV13, rfl, b25⟩
 refine Lv (.bool false) (x_eqlF rfl rfl rfl c120) (Lv (.bool false) (x_assign rfl rfl) (Ln (sN (Wc (b := false) rfl (fun h => nomatch h) (fun _ => Ws (Wl ?_))))))
 by_cases c135 : V0.kind = 6
 ·refine Lv (.bool true) (x_eqlT rfl rfl rfl c135) (Lv (.bool true) (x_assign rfl rfl) (Ln (sN (Wc (b := true) rfl (fun _ => ?_) (fun h => nomatch h)))))
  obtain ⟨r6, er6⟩ : ∃ r, r = x.dst % 6 := ⟨_, rfl⟩
  have hr6 : r6 < 6 := by rw [er6]; exact Nat.mod_lt _ (by omega)
  refine Wl (Lv (.pointer (some ⟨g1, 5, none⟩)) (x_field rfl h1 Try.underlying54 rfl (s := 1) (by kernel_rfl) rfl (by show _ + 5 = _; omega)) (Lv (.int .u8 ((x.dst : Int))) (x_load1 (x := actY x) rfl rfl (by kernel_rfl) m42.cel (i := 5) (by omega) (by omega) rfl) (Lv (.int .i64 ((x.dst : Int))) (x_conv rfl rfl (by kernel_rfl) Try.underlying3 (Fx.i64e (by omega) rfl)) (Lv (.int .i64 ((r6 : Int))) (Fx.x_rem rfl rfl rfl (by omega) (remL er6)) (Lv (.int .i64 ((r6 : Int) + 1)) (Fx.x_add rfl rfl rfl (Fx.i64e (by omega) (by omega))) (Lv (.pointer (some ⟨g3, 10, none⟩)) (x_field rfl h3 Try.underlying50 rfl (s := 1) (by kernel_rfl) rfl (by show _ + 10 = _; omega)) (Fx.L.store1 (x := evY V0) (u := .int .i64 ((r6 : Int) + 1)) (by rfl) rfl rfl rfl rfl (by rfl) (by kernel_rfl) m44 (i := 10) (by omega) fun w24 m121 s25 z22 => ?_)))))))
  obtain ⟨V14, eV14⟩ : ∃ V : EvM, V = ⟨V0.o, V0.seq, V0.deps, V0.kind, V0.node, (r6 : Int) + 1, V0.amt, V0.req, V0.of⟩ := ⟨_, rfl⟩
  have wfV14 : EvWf V14 := by rw [eV14]; exact ⟨wf0.o, wf0.seq, wf0.deps, wf0.kind, wf0.node, (show I64r ((r6 : Int) + 1) from ⟨by omega, by omega⟩), wf0.amt, wf0.req, wf0.of⟩
  have hdV14 : V14.o = (o : Int) + 1 ∧ V14.seq = (M.ml o).s.known o + 1 ∧ V14.deps = (M.ml o).s.known := by rw [eV14]; exact hd0
  have smV14 : EvSm V14 := by rw [eV14]; exact ⟨sm0.amt, sm0.req⟩
  have m122 : Fx.Blk w24 g3 14 (evY V14) 50 := m121.congr (fun j hj => by rw [eV14]; exact ev_dst _ _ j hj)
  have m124 := m43.stp s25 (by omega)
  have b26 := s25.below b6 b6.size (by omega)
  refine Ln (Fx.blkN (sN (Ws (Wl (Lv (.agg (Fx.varr 14 (evY V14))) (x_loadA (x := evY V14) (y := evY V14) rfl h3 (by kernel_rfl) (by kernel_rfl) m122.cel (i := 0) (by omega) (by omega) (fun j _ => by rw [Nat.zero_add])) (Fx.L.storeA (x := fun zq => if zq < 1 then .int .i64 (0) else if zq < 8 then .int .u64 (0) else if zq < 9 then .int .u8 (0) else if zq < 10 then .int .u64 (0) else if zq < 12 then .int .i64 (0) else .int .u64 (0)) (y := evY V14) (by rfl) rfl rfl h2 rfl (evY_one _) (by kernel_rfl) m124 (i := 0) (by omega) fun w25 m125 s26 z23 => ?_))))))
  have m126 : Fx.Blk w25 g2 14 (evY V14) 50 := Fx.ovr_all m125
  have m128 := m122.stp s26 (by omega)
  have b27 := s26.below b26 b26.size (by omega)
  refine Ln (sN (Wr (⟨.agg (Fx.varr 14 (evY V14)), rV Try.results40 ⟨_, h2, Fx.run_loadV m126.cel (by kernel_rfl) (by kernel_rfl)⟩, ?_⟩)))
  exact ⟨V14, wfV14, smV14, by rw [← eo]; exact hdV14, rfl, b27⟩
 refine Lv (.bool false) (x_eqlF rfl rfl rfl c135) (Lv (.bool false) (x_assign rfl rfl) (Ln (sN (Wc (b := false) rfl (fun h => nomatch h) (fun _ => Wk (Fx.blkN (sN (Ws (Wl (Lv (.agg (Fx.varr 14 (evY V0))) (x_loadA (x := evY V0) (y := evY V0) rfl h3 (by kernel_rfl) (by kernel_rfl) m44.cel (i := 0) (by omega) (by omega) (fun j _ => by rw [Nat.zero_add])) (Fx.L.storeA (x := fun zq => if zq < 1 then .int .i64 (0) else if zq < 8 then .int .u64 (0) else if zq < 9 then .int .u8 (0) else if zq < 10 then .int .u64 (0) else if zq < 12 then .int .i64 (0) else .int .u64 (0)) (y := evY V0) (by rfl) rfl rfl h2 rfl (evY_one _) (by kernel_rfl) m43 (i := 0) (by omega) fun w26 m129 s27 z24 => ?_)))))))))))
 have m130 : Fx.Blk w26 g2 14 (evY V0) 50 := Fx.ovr_all m129
 have m132 := m44.stp s27 (by omega)
 have b28 := s27.below b6 b6.size (by omega)
 refine Ln (sN (Wr (⟨.agg (Fx.varr 14 (evY V0)), rV Try.results40 ⟨_, h2, Fx.run_loadV m130.cel (by kernel_rfl) (by kernel_rfl)⟩, ?_⟩)))
 exact ⟨V0, wf0, sm0, by rw [← eo]; exact hd0, rfl, b28⟩
theorem Rt.apply_may {L : LdC} {v : EvM} (h : applyE L v = 0) : mayE v = true := by
  unfold applyE at h
  split at h; · cases h
  rename_i h1; simpa using h1
structure Rt.DoR (o : Nat) (x : ActM) (M M' : WM) (v : EvM) : Prop where
  n : M'.n = M.n
  oth : ∀ q, q ≠ o → M'.ml q = M.ml q
  c : (v = zeroE ∧ M'.an = M.an ∧ M'.ev = M.ev ∧ ((M'.ml o).core = (M.ml o).core ∨ x.meet = true ∧ (M'.ml o).core = learnC M.ev M.an (M.ml (x.other % M.n)).s.known (M.ml o).core)) ∨ (x.meet = false ∧ M'.an = M.an + 1 ∧ M'.ev = updA M.ev M.an v ∧ applyE (M.ml o).core v = 0 ∧ (M'.ml o).core = applyC (M.ml o).core v ∧ v.o = (o : Int) + 1 ∧ v.seq = (M.ml o).s.known o + 1 ∧ v.deps = (M.ml o).s.known)
theorem Rt.applyC_kn {L : LdC} {v : EvM} (h : applyE L v = 0) : (applyC L v).known = updA L.known (regN v) (L.known (regN v) + 1) := by
  rcases applyC_known L v with ⟨_, h2⟩ | ⟨h1, _⟩
  · exact h2
  exact absurd h h1
theorem Rt.zeroE_wf : EvWf zeroE := by
  have z : U64r 0 := ⟨by decide, by decide⟩
  have y : I64r 0 := ⟨by decide, by decide⟩
  exact ⟨y, z, fun _ _ => z, ⟨by decide, by decide⟩, z, y, y, z, z⟩
theorem WldO.mono {w : World} {B p T T' : Nat} {M : WM} (h : WldO w B p M T) (hT : T ≤ T') : WldO w B p M T' := { h with inv := fun i hi => (h.inv i hi).mono hT }
set_option maxRecDepth 20000 in
set_option maxHeartbeats 2000000 in
theorem l_doM (M : WM) (B p T : Nat) (x : ActM) (w : World) (hW : WldO w B p M T) (hB : B ≤ w.heap.size) (hx : ActOk x) (han : M.an ≤ 60) (hT : T ≤ 890000) :
    Calls Try.prog 18 #[.pointer (some ⟨p, 0, none⟩), .agg (Fx.varr 9 (actY x))] w fun e w' => ∃ v, e = .returned (.agg (Fx.varr 14 (evY v))) ∧ EvWf v ∧ ∃ M', WldO w' B p M' (T + 3660) ∧ DoR (x.who % M.n) x M M' v ∧ M'.an ≤ M.an + 1 ∧ (x.meet = true → M'.an = M.an) ∧ Below B w w' := by
 have hWc := hW.c
 have hWl := hW.l
 have hWa := hW.a
 have hWg := hW.g
 have hn1 := hW.n1
 have hn6 := hW.n6
 have hpB := hW.pB
 have lpp : p < w.heap.size := hWc.lt
 have hxw := hx.who
 have hxo := hx.other
 have hxk := hx.kind
 have hxn := hx.node
 have hxt := hx.dst
 have hxa := hx.amt
 have hxr := hx.req
 have hxf := hx.of
 refine Fx.enter Try.func18 rfl (n := 94) rfl (by rfl) ?_
 refine Ws (Wl (Fx.L.box (m := 9) (y := actY x) (by rfl) rfl rfl (Fx.cells_agg _ _) rfl fun g1 w1 eg1 m1 s1 z1 => ?_))
 have m2 := hWc.stp s1 (Nat.ne_of_lt (hWc.lt))
 have m3 := hWl.stp s1 (hWl.notNew (Nat.le_refl _))
 have m4 := hWa.stp s1 (hWa.notNew (Nat.le_refl _))
 have m5 := hWg.up s1.old
 have m6 := hW.up s1.old
 have b1 := s1.below (Below.refl B w) (Nat.le_trans hB (Below.refl B w).size) (Nat.le_trans hB (Below.refl B w).size)
 have lg1 : w.heap.size ≤ g1 := by rw [eg1]; exact (Below.refl B w).size
 have ng1m2 : p ≠ g1 := by rw [eg1]; exact Nat.ne_of_lt (hWc.lt)
 have tg1 : g1 < w1.heap.size := m1.lt
 clear eg1
 refine Fx.L.new (m := 14) (y := fun zq => if zq < 1 then .int .i64 (0) else if zq < 8 then .int .u64 (0) else if zq < 9 then .int .u8 (0) else if zq < 10 then .int .u64 (0) else if zq < 12 then .int .i64 (0) else .int .u64 (0)) (by rfl) rfl (by kernel_rfl) rfl fun g2 w2 eg2 m7 s2 z2 => ?_
 have m8 := m2.stp s2 (Nat.ne_of_lt (m2.lt))
 have m9 := m3.stp s2 (m3.notNew (Nat.le_refl _))
 have m10 := m4.stp s2 (m4.notNew (Nat.le_refl _))
 have m11 := m5.up s2.old
 have m12 := m6.up s2.old
 have m13 := m1.stp s2 (Nat.ne_of_lt (m1.lt))
 have b2 := s2.below b1 (Nat.le_trans hB b1.size) (Nat.le_trans hB b1.size)
 have lg2 : w.heap.size ≤ g2 := by rw [eg2]; exact b1.size
 have ng2m8 : p ≠ g2 := by rw [eg2]; exact Nat.ne_of_lt (m2.lt)
 have ng2m10 : (.slice M.aa (M.an) (M.ac) : Value).ownBlock ≠ some g2 := by rw [eg2]; exact m4.notNew (Nat.le_refl _)
 have ng2m13 : g1 ≠ g2 := by rw [eg2]; exact Nat.ne_of_lt (m1.lt)
 have tg2 : g2 < w2.heap.size := m7.lt
 clear eg2
 refine Ln (sN (Ws ?_))
 obtain ⟨o, eo⟩ : ∃ r, r = x.who % M.n := ⟨_, rfl⟩
 have ho : o < M.n := by rw [eo]; exact Nat.mod_lt _ (by omega)
 -- region 1 draws
 refine Fx.W.quiet (fun v1 => ∃ q, v1 = World.drewN w2 q) (by kernel_rfl) (by kernel_rfl) ⟨1, rfl⟩ ?_
 refine Qv (.pointer (some ⟨g1, 0, none⟩)) (fun v1 hv1 => x_field rfl rfl Try.underlying54 rfl (s := 1) (by kernel_rfl) rfl rfl) (Qv (.int .u8 ((x.who : Int))) (fun v1 hv1 => x_load1 (x := actY x) rfl rfl (by kernel_rfl) (by obtain ⟨qd, rfl⟩ := hv1; exact m13.cel) (i := 0) (by omega) (by omega) rfl) (Qv (.int .i64 ((x.who : Int))) (fun v1 hv1 => x_conv rfl rfl (by kernel_rfl) Try.underlying3 (Fx.i64e (by omega) rfl)) (Qv (.pointer (some ⟨p, 0, none⟩)) (fun v1 hv1 => x_move rfl rfl) (Qv (.pointer (some ⟨p, 0, none⟩)) (fun v1 hv1 => x_nil rfl rfl) (Qv (.pointer (some ⟨p, 0, none⟩)) (fun v1 hv1 => x_field rfl rfl Try.underlying74 rfl (s := 1) (by kernel_rfl) rfl rfl) (Qv (.slice M.la (M.n) (M.lc)) (fun v1 hv1 => x_load1 (x := wdY (.slice M.la (M.n) (M.lc)) (.slice M.aa (M.an) (M.ac))) rfl rfl (by kernel_rfl) (by obtain ⟨qd, rfl⟩ := hv1; exact m8.cel) (i := 0) (by omega) (by omega) rfl) (Qv (.int .i64 ((M.n : Int))) (fun v1 hv1 => x_len rfl rfl rfl (by kernel_rfl)) (Qv (.int .i64 ((o : Int))) (fun v1 hv1 => Fx.x_rem rfl rfl rfl (by omega) (remL eo)) (Qv (.int .i64 ((o : Int))) (fun v1 hv1 => x_assign rfl rfl) (Fx.Qt.nil ?_))))))))))
 rintro _ ⟨qd, rfl⟩
 obtain ⟨wq1, ewq1⟩ : ∃ v1, v1 = World.drewN w2 qd := ⟨_, rfl⟩
 rw [← ewq1]
 have s3 : Fx.Stp w2.heap.size w2 wq1 := by rw [ewq1]; exact Sb (bdrN w2 qd)
 have m14 := m8.stp s3 (Nat.ne_of_lt (m8.lt))
 have m15 := m9.stp s3 (m9.notNew (Nat.le_refl _))
 have m16 := m10.stp s3 (m10.notNew (Nat.le_refl _))
 have m17 := m11.up s3.old
 have m18 := m12.up s3.old
 have m19 := m13.stp s3 (Nat.ne_of_lt (m13.lt))
 have m20 := m7.stp s3 (Nat.ne_of_lt (m7.lt))
 have b3 := s3.below b2 (Nat.le_trans hB b2.size) (Nat.le_trans hB b2.size)
 clear ewq1
 refine sN (Ws (Ws (Wl (Lv (.pointer (some ⟨g1, 1, none⟩)) (x_field rfl rfl Try.underlying54 rfl (s := 1) (by kernel_rfl) rfl (by show _ + 1 = _; omega)) ?_))))
 by_cases c19 : x.meet = true
 ·refine Lv (.bool true) (x_load1 (x := actY x) rfl rfl (by kernel_rfl) m19.cel (i := 1) (by omega) (by omega) ((show _ = Value.bool x.meet from rfl).trans (congrArg Value.bool c19))) (Ln (sN (Wc (b := true) rfl (fun _ => Ws ?_) (fun h => nomatch h))))
  obtain ⟨r48, er48⟩ : ∃ r, r = x.other % M.n := ⟨_, rfl⟩
  have hr48 : r48 < M.n := by rw [er48]; exact Nat.mod_lt _ (by omega)
  have hLo1 := m17 r48 (by omega)
  have hLo1c := hLo1.c
  have hLo2 := m17 o (by omega)
  -- region 3 draws
  refine Fx.W.reord [0, 1, 2, 4, 5, 6, 7, 9, 12, 13, 14, 16, 17, 18, 20, 23, 24, 25, 3, 8, 10, 11, 15, 19, 21, 22, 26, 27, 28, 29, 30, 31, 32, 33, 34, 35, 36, 37] [0, 0, 0, 1, 0, 0, 0, 0, 4, 0, 0, 4, 0, 0, 0, 4, 0, 0, 0, 4, 0, 4, 0, 0, 0, 0, 4, 0, 0, 0, 4, 0, 0, 0, 4, 2, 0, 3] Fx.Mk Fx.Mk.refl Fx.Mk.trans (certs := [(37, 3, [3]), (35, 8, [11, 10, 8]), (37, 8, [8]), (35, 11, [11]), (37, 11, [11]), (35, 15, [15]), (37, 15, [15]), (35, 19, [34, 33, 32, 31, 30, 29, 19]), (37, 19, [19]), (35, 21, [34, 33, 32, 31, 30, 29, 28, 22, 21]), (37, 21, [21]), (35, 26, [34, 33, 32, 31, 30, 29, 28, 27, 26]), (37, 26, [26]), (35, 30, [34, 33, 32, 31, 30]), (37, 30, [30]), (35, 34, [34]), (37, 34, [34]), (36, 35, [35]), (37, 35, [35])]) (by kernel_rfl) (by kernel_rfl) (by kernel_rfl) (by kernel_rfl) (by kernel_rfl) fun wt1 hbwt1 hzwt1 => ?_
  have s4 : Fx.Stp wq1.heap.size wq1 wt1 := Sb hbwt1
  have m21 := m14.stp s4 (Nat.ne_of_lt (m14.lt))
  have m22 := m15.stp s4 (m15.notNew (Nat.le_refl _))
  have m23 := m16.stp s4 (m16.notNew (Nat.le_refl _))
  have m24 := m17.up s4.old
  have m25 := m19.stp s4 (Nat.ne_of_lt (m19.lt))
  have m26 := m20.stp s4 (Nat.ne_of_lt (m20.lt))
  have m27 := hLo1c.stp s4 (Nat.ne_of_lt (hLo1c.lt))
  have m28 := hLo2.up s4.old
  have b4 := s4.below b3 (Nat.le_trans hB b3.size) (Nat.le_trans hB b3.size)
  refine Rp (.pointer (some ⟨p, 0, none⟩)) (fun v1 => x_move rfl rfl) (Rp (.pointer (some ⟨p, 0, none⟩)) (fun v1 => x_nil rfl rfl) (Rp (.pointer (some ⟨p, 0, none⟩)) (fun v1 => x_field rfl rfl Try.underlying74 rfl (s := 1) (by kernel_rfl) rfl rfl) (Rp (.int .i64 ((o : Int))) (fun v1 => x_move rfl rfl) (Rp (.pointer (some ⟨p, 0, none⟩)) (fun v1 => x_move rfl rfl) (Rp (.pointer (some ⟨p, 0, none⟩)) (fun v1 => x_nil rfl rfl) (Rp (.pointer (some ⟨p, 0, none⟩)) (fun v1 => x_field rfl rfl Try.underlying74 rfl (s := 1) (by kernel_rfl) rfl rfl) (Rp (.int .i64 ((o : Int))) (fun v1 => x_move rfl rfl) (Rp (.pointer (some ⟨p, 0, none⟩)) (fun v1 => x_move rfl rfl) (Rp (.pointer (some ⟨p, 0, none⟩)) (fun v1 => x_nil rfl rfl) (Rp (.pointer (some ⟨p, 1, none⟩)) (fun v1 => x_field rfl rfl Try.underlying74 rfl (s := 1) (by kernel_rfl) rfl (by show _ + 1 = _; omega)) (Rp (.pointer (some ⟨p, 0, none⟩)) (fun v1 => x_move rfl rfl) (Rp (.pointer (some ⟨p, 0, none⟩)) (fun v1 => x_nil rfl rfl) (Rp (.pointer (some ⟨p, 0, none⟩)) (fun v1 => x_field rfl rfl Try.underlying74 rfl (s := 1) (by kernel_rfl) rfl rfl) (Rp (.pointer (some ⟨g1, 2, none⟩)) (fun v1 => x_field rfl rfl Try.underlying54 rfl (s := 1) (by kernel_rfl) rfl (by show _ + 2 = _; omega)) (Rp (.pointer (some ⟨p, 0, none⟩)) (fun v1 => x_move rfl rfl) (Rp (.pointer (some ⟨p, 0, none⟩)) (fun v1 => x_nil rfl rfl) (Rp (.pointer (some ⟨p, 0, none⟩)) (fun v1 => x_field rfl rfl Try.underlying74 rfl (s := 1) (by kernel_rfl) rfl rfl) (Fx.R.read (v := .slice M.la (M.n) (M.lc)) (by rfl) (by rfl) (Fx.Mk.refl _) (fun v1 hv1 => x_load1 (x := wdY (.slice M.la (M.n) (M.lc)) (.slice M.aa (M.an) (M.ac))) rfl rfl (by kernel_rfl) (m21.cel.below hv1 (by have := m21.lt; omega)) (i := 0) (by omega) (by omega) rfl) ?_))))))))))))))))))
  refine Fx.R.s (.slice M.la (M.n) (M.lc)) (x_load1 (x := wdY (.slice M.la (M.n) (M.lc)) (.slice M.aa (M.an) (M.ac))) rfl rfl (by kernel_rfl) m21.cel (i := 0) (by omega) (by omega) rfl) ?_
  obtain ⟨gq1, eq1⟩ := m22.addr (by omega)
  have m29 : Fx.Own wt1 B 71 1 (.slice (some ⟨gq1, 0, none⟩) M.n M.lc) M.n (ptX M.pl) := m22.congV (congrArg (fun q => Value.slice q M.n M.lc) eq1)
  refine Rp (.pointer (some ⟨gq1, o, none⟩)) (fun v1 => x_indexS rfl (rfl.trans (congrArg (fun q => Value.slice q (M.n) (M.lc)) eq1)) rfl Try.underlying72 (s := 1) (by kernel_rfl) (by omega) (by omega) (by omega)) (Fx.R.s (.pointer (some ⟨(M.pl o), 0, none⟩)) (x_load1 (x := ptX M.pl) rfl rfl (by kernel_rfl) m29.cel (i := o) (by omega) (by omega) rfl) ?_)
  refine Fx.R.s (.slice M.aa (M.an) (M.ac)) (x_load1 (x := wdY (.slice M.la (M.n) (M.lc)) (.slice M.aa (M.an) (M.ac))) rfl rfl (by kernel_rfl) m21.cel (i := 1) (by omega) (by omega) rfl) ?_
  refine Fx.R.s (.slice M.la (M.n) (M.lc)) (x_load1 (x := wdY (.slice M.la (M.n) (M.lc)) (.slice M.aa (M.an) (M.ac))) rfl rfl (by kernel_rfl) m21.cel (i := 0) (by omega) (by omega) rfl) ?_
  refine Fx.R.s (.int .u8 ((x.other : Int))) (x_load1 (x := actY x) rfl rfl (by kernel_rfl) m25.cel (i := 2) (by omega) (by omega) rfl) ?_
  refine Rp (.int .i64 ((x.other : Int))) (fun v1 => x_conv rfl rfl (by kernel_rfl) Try.underlying3 (Fx.i64e (by omega) rfl)) (Fx.R.s (.slice M.la (M.n) (M.lc)) (x_load1 (x := wdY (.slice M.la (M.n) (M.lc)) (.slice M.aa (M.an) (M.ac))) rfl rfl (by kernel_rfl) m21.cel (i := 0) (by omega) (by omega) rfl) ?_)
  refine Rp (.int .i64 ((M.n : Int))) (fun v1 => x_len rfl rfl rfl (by kernel_rfl)) (Rp (.int .i64 ((r48 : Int))) (fun v1 => Fx.x_rem rfl rfl rfl (by omega) (remL er48)) (Rp (.pointer (some ⟨gq1, r48, none⟩)) (fun v1 => x_indexS rfl (rfl.trans (congrArg (fun q => Value.slice q (M.n) (M.lc)) eq1)) rfl Try.underlying72 (s := 1) (by kernel_rfl) (by omega) (by omega) (by omega)) (Fx.R.s (.pointer (some ⟨(M.pl r48), 0, none⟩)) (x_load1 (x := ptX M.pl) rfl rfl (by kernel_rfl) m29.cel (i := r48) (by omega) (by omega) rfl) ?_)))
  refine Rp (.pointer (some ⟨(M.pl r48), 0, none⟩)) (fun v1 => x_nil rfl rfl) (Rp (.pointer (some ⟨(M.pl r48), 0, none⟩)) (fun v1 => x_field rfl rfl Try.underlying70 rfl (s := 20) (by kernel_rfl) rfl rfl) (Rp (.pointer (some ⟨(M.pl r48), 12, none⟩)) (fun v1 => x_field rfl rfl Try.underlying65 rfl (s := 6) (by kernel_rfl) rfl (by show _ + 12 = _; omega)) (Fx.R.s (.agg (Fx.varr 6 (Fx.rv .u64 ((M.ml r48).s.known)))) (x_loadA (x := ldY (M.ml r48)) (y := Fx.rv .u64 ((M.ml r48).s.known)) rfl rfl (by kernel_rfl) (by kernel_rfl) m27.cel (i := 12) (by omega) (by omega) (fun j hj => ldY_st _ (by omega) (stY_known _ hj (by omega)))) ?_)))
  refine Fx.R.make (by rfl) ?_
  refine Fx.L.call (by rfl) (rC (args := [.pointer (some ⟨(M.pl o), 0, none⟩), .slice M.aa (M.an) (M.ac), .agg (Fx.varr 6 (Fx.rv .u64 ((M.ml r48).s.known)))]) rfl rfl Try.func39 rfl rfl) rfl ((l_learn (M.ml o) B (M.pl o) T M.aa M.an M.ac M.ev ((M.ml r48).s.known) _ m28 (hW.inv o (by omega)) m23.arr hW.wf hW.may hW.sm han hT).mono ?_)
  rintro e9 w3 ⟨p3, m3, he, hlc, hI3, hL1, hb1⟩
  refine ⟨.pointer (some ⟨p3, 0, none⟩), he, ?_⟩
  clear he
  have s5 := Sb hb1
  have m30 := m21.stp s5 (Nat.ne_of_lt (m21.lt))
  have m31 := m23.stp s5 (m23.notNew (Nat.le_refl _))
  have m32 := m24.up s5.old
  have m34 := m26.stp s5 (Nat.ne_of_lt (m26.lt))
  have m36 := m29.stpB s5 (Nat.ne_of_lt (m29.lt))
  have b5 := s5.below b4 (Nat.le_trans hB b4.size) (Nat.le_trans hB b4.size)
  refine Ln ⟨s5.old, ?_⟩
  refine Rp (.pointer (some ⟨gq1, o, none⟩)) (fun v1 => x_indexS rfl (rfl.trans (congrArg (fun q => Value.slice q (M.n) (M.lc)) eq1)) rfl Try.underlying72 (s := 1) (by kernel_rfl) (by omega) (by omega) (by omega)) (Fx.R.eff (by rfl) ?_)
  refine Fx.L.own1 (x := ptX M.pl) (u := .pointer (some ⟨p3, 0, none⟩)) (by rfl) rfl rfl rfl rfl (by rfl) (by kernel_rfl) m36 (i := o) (by omega) fun w4 m37 s6 z3 => ?_
  have hct1 := Fx.ChT.of_stp s6 m36.tyB
  have m38 := m30.chT hct1 (by decide)
  have m39 := m31.chT hct1 (by decide)
  have m40 := m32.chT hct1 (by decide)
  have m42 := m34.chT hct1 (by decide)
  have m44 := hL1.chT hct1 (by decide)
  have b6 := s6.below b5 (Nat.le_trans hB b5.size) m36.blk.1
  have m45 : Fx.Own w4 B 71 1 (.slice (some ⟨gq1, 0, none⟩) M.n M.lc) M.n (ptX (updA M.pl o p3)) := m37.congr (fun jq _ => congrFun pt_put jq)
  refine Ln (Fx.R.nil (sN (Ws (Wl (Lv (.agg (Fx.varr 14 (fun zq => if zq < 1 then .int .i64 (0) else if zq < 8 then .int .u64 (0) else if zq < 9 then .int .u8 (0) else if zq < 10 then .int .u64 (0) else if zq < 12 then .int .i64 (0) else .int .u64 (0)))) (x_build (vs := []) (places := #[(0, 1), (1, 1), (2, 6), (8, 1), (9, 1), (10, 1), (11, 1), (12, 1), (13, 1)]) (m := 14) (x := fun zq => if zq < 1 then .int .i64 (0) else if zq < 8 then .int .u64 (0) else if zq < 9 then .int .u8 (0) else if zq < 10 then .int .u64 (0) else if zq < 12 then .int .i64 (0) else .int .u64 (0)) rfl rfl Try.underlying50 (by kernel_rfl) (by kernel_rfl) (by rfl)) (Fx.L.storeA (x := fun zq => if zq < 1 then .int .i64 (0) else if zq < 8 then .int .u64 (0) else if zq < 9 then .int .u8 (0) else if zq < 10 then .int .u64 (0) else if zq < 12 then .int .i64 (0) else .int .u64 (0)) (y := fun zq => if zq < 1 then .int .i64 (0) else if zq < 8 then .int .u64 (0) else if zq < 9 then .int .u8 (0) else if zq < 10 then .int .u64 (0) else if zq < 12 then .int .i64 (0) else .int .u64 (0)) (by rfl) rfl rfl rfl rfl (fun jq _ => by show ((fun zq => if zq < 1 then .int .i64 (0) else if zq < 8 then .int .u64 (0) else if zq < 9 then .int .u8 (0) else if zq < 10 then .int .u64 (0) else if zq < 12 then .int .i64 (0) else .int .u64 (0) : Nat → Value) jq).oneCell' = true; simp only []; repeat (first | rfl | split)) (by kernel_rfl) m42 (i := 0) (by omega) fun w5 m46 s7 z4 => ?_))))))
  have m47 : Fx.Blk w5 g2 14 (fun zq => if zq < 1 then .int .i64 (0) else if zq < 8 then .int .u64 (0) else if zq < 9 then .int .u8 (0) else if zq < 10 then .int .u64 (0) else if zq < 12 then .int .i64 (0) else .int .u64 (0)) 50 := Fx.ovr_all m46
  have hct2 := Fx.ChT.of_stp s7 m42.ty
  have m48 := m38.chT hct2 (by decide)
  have m49 := m39.stp s7 ng2m10
  have m50 := m40.chT hct2 (by decide)
  have m53 := m44.chT hct2 (by decide)
  have m54 := m45.chT hct2 (by decide)
  have b7 := s7.below b6 (Nat.le_trans hB b6.size) (by omega)
  refine Ln (sN (Wr (sR (⟨.agg (Fx.varr 14 (fun zq => if zq < 1 then .int .i64 (0) else if zq < 8 then .int .u64 (0) else if zq < 9 then .int .u8 (0) else if zq < 10 then .int .u64 (0) else if zq < 12 then .int .i64 (0) else .int .u64 (0))), rV Try.results18 ⟨_, rfl, Fx.run_loadV m47.cel (by kernel_rfl) (by kernel_rfl)⟩, ?_⟩))))
  have m55 : Fx.Own w5 B 71 1 (.slice M.la (M.n) (M.lc)) M.n (ptX (updA M.pl o p3)) := m54.congV (congrArg (fun q => Value.slice q M.n M.lc) eq1.symm)
  exact ⟨zeroE, congrArg (fun z => Ending.returned (Value.agg z)) (Fx.varr_congr (y := evY zeroE) fun j hj => by rcases j with _|_|_|_|_|_|_|_|_|_|_|_|_|_|j <;> first | rfl | omega), zeroE_wf, { M with pl := updA M.pl o p3, ml := updA M.ml o m3 }, { c := m48, l := m55, a := m49, g := m50.put m53, inv := (fun i hi => by show Inv (updA M.ml o m3 i).core _; unfold updA; split; exact hI3; exact (hW.inv i hi).mono (by omega)), wf := hW.wf, may := hW.may, sm := hW.sm, cz := hW.cz.learn (o := o) (by omega) (L := (M.ml o).core) rfl (fun q hq => by show (updA M.ml o m3 q).s.known = _; unfold updA; rw [if_neg hq]) (by show (updA M.ml o m3 o).s.known = _; unfold updA; rw [if_pos rfl]; exact congrArg LdC.known hlc), pB := hpB, n1 := hn1, n6 := hn6 }, (by rw [← eo]; exact ⟨rfl, fun q hq => by show updA M.ml o m3 q = _; unfold updA; rw [if_neg hq], .inl ⟨rfl, rfl, rfl, .inr ⟨c19, by rw [← er48]; show (updA M.ml o m3 o).core = _; unfold updA; rw [if_pos rfl]; exact hlc⟩⟩⟩), (by show M.an ≤ M.an + 1; omega), (fun _ => rfl), b7⟩
 rw [Bool.not_eq_true] at c19
 refine Lv (.bool false) (x_load1 (x := actY x) rfl rfl (by kernel_rfl) m19.cel (i := 1) (by omega) (by omega) ((show _ = Value.bool x.meet from rfl).trans (congrArg Value.bool c19))) (Ln (sN (Wc (b := false) rfl (fun h => nomatch h) (fun _ => Wk (sN (Ws (Wl (Lv (.pointer (some ⟨p, 0, none⟩)) (x_move rfl rfl) (Lv (.agg (Fx.varr 9 (actY x))) (x_loadA (x := actY x) (y := actY x) rfl rfl (by kernel_rfl) (by kernel_rfl) m19.cel (i := 0) (by omega) (by omega) (fun j _ => by rw [Nat.zero_add])) (Fx.L.call (by rfl) (rC (args := [.pointer (some ⟨p, 0, none⟩), .agg (Fx.varr 9 (actY x))]) rfl rfl Try.func40 rfl rfl) rfl ((l_event M B p T x _ m18 hx).mono ?_)))))))))))
 rintro e9 w6 ⟨V, hV, hVs, hVd, he, hb2⟩
 refine ⟨_, he, ?_⟩
 clear he
 rw [← eo] at hVd
 have s8 := Sb hb2
 have m56 := m14.stp s8 (Nat.ne_of_lt (m14.lt))
 have m57 := m15.stp s8 (m15.notNew (Nat.le_refl _))
 have m58 := m16.stp s8 (m16.notNew (Nat.le_refl _))
 have m59 := m17.up s8.old
 have m61 := m19.stp s8 (Nat.ne_of_lt (m19.lt))
 have m62 := m20.stp s8 (Nat.ne_of_lt (m20.lt))
 have b8 := s8.below b3 (Nat.le_trans hB b3.size) (Nat.le_trans hB b3.size)
 refine Fx.L.new (m := 14) (y := fun zq => if zq < 1 then .int .i64 (0) else if zq < 8 then .int .u64 (0) else if zq < 9 then .int .u8 (0) else if zq < 10 then .int .u64 (0) else if zq < 12 then .int .i64 (0) else .int .u64 (0)) (by rfl) rfl (by kernel_rfl) rfl fun g3 w7 eg3 m63 s9 z5 => ?_
 have m64 := m56.stp s9 (Nat.ne_of_lt (m56.lt))
 have m65 := m57.stp s9 (m57.notNew (Nat.le_refl _))
 have m66 := m58.stp s9 (m58.notNew (Nat.le_refl _))
 have m67 := m59.up s9.old
 have m68 := m61.stp s9 (Nat.ne_of_lt (m61.lt))
 have m69 := m62.stp s9 (Nat.ne_of_lt (m62.lt))
 have b9 := s9.below b8 (Nat.le_trans hB b8.size) (Nat.le_trans hB b8.size)
 have lg3 : w.heap.size ≤ g3 := by rw [eg3]; exact b8.size
 have ng3m64 : p ≠ g3 := by rw [eg3]; exact Nat.ne_of_lt (m56.lt)
 have ng3m66 : (.slice M.aa (M.an) (M.ac) : Value).ownBlock ≠ some g3 := by rw [eg3]; exact m58.notNew (Nat.le_refl _)
 have ng3m68 : g1 ≠ g3 := by rw [eg3]; exact Nat.ne_of_lt (m61.lt)
 have ng3m69 : g2 ≠ g3 := by rw [eg3]; exact Nat.ne_of_lt (m62.lt)
 have tg3 : g3 < w7.heap.size := m63.lt
 clear eg3
 refine Fx.L.storeA (x := fun zq => if zq < 1 then .int .i64 (0) else if zq < 8 then .int .u64 (0) else if zq < 9 then .int .u8 (0) else if zq < 10 then .int .u64 (0) else if zq < 12 then .int .i64 (0) else .int .u64 (0)) (y := evY V) (by rfl) rfl rfl rfl rfl (evY_one _) (by kernel_rfl) m63 (i := 0) (by omega) fun w8 m70 s10 z6 => ?_
 have m71 : Fx.Blk w8 g3 14 (evY V) 50 := Fx.ovr_all m70
 have hct3 := Fx.ChT.of_stp s10 m63.ty
 have m72 := m64.chT hct3 (by decide)
 have m73 := m65.chT hct3 (by decide)
 have m74 := m66.stp s10 ng3m66
 have m75 := m67.chT hct3 (by decide)
 have m76 := m68.chT hct3 (by decide)
 have m77 := m69.stp s10 (by omega)
 have b10 := s10.below b9 (Nat.le_trans hB b9.size) (by omega)
 refine Ln (sN (Ws ?_))
 have hLo3 := m75 o (by omega)
 -- region 6 draws
 refine Fx.W.reord [0, 1, 2, 4, 3, 5, 6, 7, 8, 9, 10, 11, 12, 13] [0, 0, 0, 4, 0, 0, 4, 4, 3, 0, 0, 0, 0, 0] Fx.Mk Fx.Mk.refl Fx.Mk.trans (certs := [(8, 3, [6, 5, 3]), (8, 6, [6]), (8, 7, [7]), (9, 8, [8]), (10, 8, [9, 8]), (11, 8, [9, 8]), (12, 8, [8]), (13, 8, [8])]) (by kernel_rfl) (by kernel_rfl) (by kernel_rfl) (by kernel_rfl) (by kernel_rfl) fun wt2 hbwt2 hzwt2 => ?_
 have s11 : Fx.Stp w8.heap.size w8 wt2 := Sb hbwt2
 have m78 := m72.stp s11 (Nat.ne_of_lt (m72.lt))
 have m79 := m73.stp s11 (m73.notNew (Nat.le_refl _))
 have m80 := m74.stp s11 (m74.notNew (Nat.le_refl _))
 have m81 := m75.up s11.old
 have m82 := m76.stp s11 (Nat.ne_of_lt (m76.lt))
 have m83 := m77.stp s11 (Nat.ne_of_lt (m77.lt))
 have m84 := m71.stp s11 (Nat.ne_of_lt (m71.lt))
 have m85 := hLo3.up s11.old
 have b11 := s11.below b10 (Nat.le_trans hB b10.size) (Nat.le_trans hB b10.size)
 refine Rp (.pointer (some ⟨p, 0, none⟩)) (fun v1 => x_move rfl rfl) (Rp (.pointer (some ⟨p, 0, none⟩)) (fun v1 => x_nil rfl rfl) (Rp (.pointer (some ⟨p, 0, none⟩)) (fun v1 => x_field rfl rfl Try.underlying74 rfl (s := 1) (by kernel_rfl) rfl rfl) (Rp (.int .i64 ((o : Int))) (fun v1 => x_move rfl rfl) (Fx.R.s (.slice M.la (M.n) (M.lc)) (x_load1 (x := wdY (.slice M.la (M.n) (M.lc)) (.slice M.aa (M.an) (M.ac))) rfl rfl (by kernel_rfl) m78.cel (i := 0) (by omega) (by omega) rfl) ?_))))
 obtain ⟨gq2, eq2⟩ := m79.addr (by omega)
 have m86 : Fx.Own wt2 B 71 1 (.slice (some ⟨gq2, 0, none⟩) M.n M.lc) M.n (ptX M.pl) := m79.congV (congrArg (fun q => Value.slice q M.n M.lc) eq2)
 refine Rp (.pointer (some ⟨gq2, o, none⟩)) (fun v1 => x_indexS rfl (rfl.trans (congrArg (fun q => Value.slice q (M.n) (M.lc)) eq2)) rfl Try.underlying72 (s := 1) (by kernel_rfl) (by omega) (by omega) (by omega)) (Fx.R.s (.pointer (some ⟨(M.pl o), 0, none⟩)) (x_load1 (x := ptX M.pl) rfl rfl (by kernel_rfl) m86.cel (i := o) (by omega) (by omega) rfl) ?_)
 refine Fx.R.s (.agg (Fx.varr 14 (evY V))) (x_loadA (x := evY V) (y := evY V) rfl rfl (by kernel_rfl) (by kernel_rfl) m84.cel (i := 0) (by omega) (by omega) (fun j _ => by rw [Nat.zero_add])) ?_
 refine Fx.R.eff (by rfl) ?_
 refine Fx.L.call (by rfl) (rC (args := [.pointer (some ⟨(M.pl o), 0, none⟩), .agg (Fx.varr 14 (evY V))]) rfl rfl Try.func41 rfl rfl) rfl ((l_apply (M.ml o) B (M.pl o) T V _ m85 hV (hW.inv o (by omega)).w (by omega)).mono ?_)
 rintro e9 w9 ⟨p3, m3, he, hc3, hL2, hb3⟩
 refine ⟨.tuple #[.pointer (some ⟨p3, 0, none⟩), .int .i64 (applyE (M.ml o).core V)], he, ?_⟩
 clear he
 have s12 := Sb hb3
 have m87 := m78.stp s12 (Nat.ne_of_lt (m78.lt))
 have m88 := m80.stp s12 (m80.notNew (Nat.le_refl _))
 have m89 := m81.up s12.old
 have m90 := m82.stp s12 (Nat.ne_of_lt (m82.lt))
 have m91 := m83.stp s12 (Nat.ne_of_lt (m83.lt))
 have m92 := m84.stp s12 (Nat.ne_of_lt (m84.lt))
 have m93 := m86.stpB s12 (Nat.ne_of_lt (m86.lt))
 have b12 := s12.below b11 (Nat.le_trans hB b11.size) (Nat.le_trans hB b11.size)
 refine Ln (Rp (.tuple #[.pointer (some ⟨p3, 0, none⟩), .int .i64 (applyE (M.ml o).core V)]) (fun v1 => x_move rfl rfl) (Rp (.pointer (some ⟨p3, 0, none⟩)) (fun v1 => Fx.x_extract rfl rfl rfl) (Rp (.int .i64 (applyE (M.ml o).core V)) (fun v1 => Fx.x_extract rfl rfl rfl) (Rp (.pointer (some ⟨p3, 0, none⟩)) (fun v1 => x_assign rfl rfl) (Rp (.int .i64 (applyE (M.ml o).core V)) (fun v1 => x_assign rfl rfl) (Fx.R.nil (sN (Ws (Ws (Wl (Lv (.int .i64 (applyE (M.ml o).core V)) (x_move rfl rfl) ?_)))))))))))
 by_cases c74 : (applyE (M.ml o).core V) = 0
 ·refine Lv (.bool false) (Fx.x_neqF rfl rfl rfl c74) (Ln (sN (Wc (b := false) rfl (fun h => nomatch h) (fun _ => Wk (sN (Ws (Wl (Lv (.pointer (some ⟨p, 0, none⟩)) (x_move rfl rfl) (Lv (.pointer (some ⟨p, 0, none⟩)) (x_nil rfl rfl) (Lv (.pointer (some ⟨p, 0, none⟩)) (x_field rfl rfl Try.underlying74 rfl (s := 1) (by kernel_rfl) rfl rfl) (Lv (.slice M.la (M.n) (M.lc)) (x_load1 (x := wdY (.slice M.la (M.n) (M.lc)) (.slice M.aa (M.an) (M.ac))) rfl rfl (by kernel_rfl) m87.cel (i := 0) (by omega) (by omega) rfl) (Lv (.int .i64 ((o : Int))) (x_move rfl rfl) (Lv (.pointer (some ⟨p3, 0, none⟩)) (x_move rfl rfl) (Lv (.pointer (some ⟨gq2, o, none⟩)) (x_indexS rfl (rfl.trans (congrArg (fun q => Value.slice q (M.n) (M.lc)) eq2)) rfl Try.underlying72 (s := 1) (by kernel_rfl) (by omega) (by omega) (by omega)) (Fx.L.own1 (x := ptX M.pl) (u := .pointer (some ⟨p3, 0, none⟩)) (by rfl) rfl rfl rfl rfl (by rfl) (by kernel_rfl) m93 (i := o) (by omega) fun w10 m94 s13 z7 => ?_)))))))))))))))
  have hct4 := Fx.ChT.of_stp s13 m93.tyB
  have m95 := m87.chT hct4 (by decide)
  have m96 := m88.chT hct4 (by decide)
  have m97 := m89.chT hct4 (by decide)
  have m98 := m90.chT hct4 (by decide)
  have m99 := m91.chT hct4 (by decide)
  have m100 := m92.chT hct4 (by decide)
  have m101 := hL2.chT hct4 (by decide)
  have b13 := s13.below b12 (Nat.le_trans hB b12.size) m93.blk.1
  have m102 : Fx.Own w10 B 71 1 (.slice (some ⟨gq2, 0, none⟩) M.n M.lc) M.n (ptX (updA M.pl o p3)) := m94.congr (fun jq _ => congrFun pt_put jq)
  refine Ln (sN (Ws ?_))
  have m103 : Fx.Own w10 B 71 1 (.slice M.la (M.n) (M.lc)) M.n (ptX (updA M.pl o p3)) := m102.congV (congrArg (fun q => Value.slice q M.n M.lc) eq2.symm)
  -- region 10 draws
  refine Fx.W.reord [0, 1, 2, 3, 4, 5, 6, 7, 8, 9, 10] [0, 0, 0, 0, 1, 4, 2, 2, 0, 0, 3] (Fx.ChT [50]) Fx.ChT.refl Fx.ChT.trans (certs := [(10, 4, [4]), (6, 5, [5]), (7, 5, [6, 5]), (10, 5, [5]), (7, 6, [6]), (8, 6, [6]), (9, 6, [6]), (10, 6, [6]), (8, 7, [7]), (9, 7, [7]), (10, 7, [7])]) (by kernel_rfl) (by kernel_rfl) (by kernel_rfl) (by kernel_rfl) (by kernel_rfl) fun wt3 hbwt3 hzwt3 => ?_
  have s14 : Fx.Stp w10.heap.size w10 wt3 := Sb hbwt3
  have m104 := m95.stp s14 (Nat.ne_of_lt (m95.lt))
  have m105 := m96.stp s14 (m96.notNew (Nat.le_refl _))
  have m106 := m97.up s14.old
  have m107 := m98.stp s14 (Nat.ne_of_lt (m98.lt))
  have m108 := m99.stp s14 (Nat.ne_of_lt (m99.lt))
  have m109 := m100.stp s14 (Nat.ne_of_lt (m100.lt))
  have m110 := m101.up s14.old
  have m111 := m103.stp s14 (m103.notNew (Nat.le_refl _))
  have b14 := s14.below b13 (Nat.le_trans hB b13.size) (Nat.le_trans hB b13.size)
  refine Rp (.pointer (some ⟨p, 0, none⟩)) (fun v1 => x_move rfl rfl) (Rp (.pointer (some ⟨p, 0, none⟩)) (fun v1 => x_move rfl rfl) (Rp (.pointer (some ⟨p, 0, none⟩)) (fun v1 => x_nil rfl rfl) (Rp (.pointer (some ⟨p, 1, none⟩)) (fun v1 => x_field rfl rfl Try.underlying74 rfl (s := 1) (by kernel_rfl) rfl (by show _ + 1 = _; omega)) (Fx.R.read (v := .slice M.aa (M.an) (M.ac)) (by rfl) (by rfl) (Fx.ChT.refl _) (fun v1 hv1 => x_load1 (x := wdY (.slice M.la (M.n) (M.lc)) (.slice M.aa (M.an) (M.ac))) rfl rfl (by kernel_rfl) (m104.chT hv1 (by decide)).cel (i := 1) (by omega) (by omega) rfl) ?_))))
  refine Fx.R.s (.agg (Fx.varr 14 (evY V))) (x_loadA (x := evY V) (y := evY V) rfl rfl (by kernel_rfl) (by kernel_rfl) m109.cel (i := 0) (by omega) (by omega) (fun j _ => by rw [Nat.zero_add])) ?_
  refine Fx.R.make (by rfl) ?_
  refine Fx.L.bslice (vs := [(0, .agg (Fx.varr 14 (evY V)))]) (s := 14) (zc := fun zq => if zq < 1 then .int .i64 (0) else if zq < 8 then .int .u64 (0) else if zq < 9 then .int .u8 (0) else if zq < 10 then .int .u64 (0) else if zq < 12 then .int .i64 (0) else .int .u64 (0)) (y := Fx.ovr (fun j => (fun zq => if zq < 1 then .int .i64 (0) else if zq < 8 then .int .u64 (0) else if zq < 9 then .int .u8 (0) else if zq < 10 then .int .u64 (0) else if zq < 12 then .int .i64 (0) else .int .u64 (0)) (j % 14)) (0 * 14) 14 (evY V)) (by rfl) rfl rfl Try.underlying46 (by kernel_rfl) (by rfl) (by rfl) (by kernel_rfl) (by rw [Fx.fill_step (off := 0 * 14) (s := 14) (y := evY V) rfl (Fx.cells_agg _ _) (by rfl)]; rfl) rfl fun g4 w11 eg4 m112 s15 z8 => ?_
  have m113 := m104.stp s15 (Nat.ne_of_lt (m104.lt))
  have m114 := m105.stp s15 (m105.notNew (Nat.le_refl _))
  have m115 := m106.up s15.old
  have m117 := m108.stp s15 (Nat.ne_of_lt (m108.lt))
  have m118 := m109.stp s15 (Nat.ne_of_lt (m109.lt))
  have m119 := m110.up s15.old
  have m120 := m111.stp s15 (m111.notNew (Nat.le_refl _))
  have b15 := s15.below b14 (Nat.le_trans hB b14.size) (Nat.le_trans hB b14.size)
  have lg4 : w.heap.size ≤ g4 := by rw [eg4]; exact b14.size
  have ng4m113 : p ≠ g4 := by rw [eg4]; exact Nat.ne_of_lt (m104.lt)
  have ng4m114 : (.slice M.aa (M.an) (M.ac) : Value).ownBlock ≠ some g4 := by rw [eg4]; exact m105.notNew (Nat.le_refl _)
  have ng4m116 : g1 ≠ g4 := by rw [eg4]; exact Nat.ne_of_lt (m107.lt)
  have ng4m117 : g2 ≠ g4 := by rw [eg4]; exact Nat.ne_of_lt (m108.lt)
  have ng4m118 : g3 ≠ g4 := by rw [eg4]; exact Nat.ne_of_lt (m109.lt)
  have tg4 : g4 < w11.heap.size := m112.lt
  clear eg4
  refine Ln ⟨Fx.ChT.of_below s15.old, ?_⟩
  refine Fx.R.make (by rfl) ?_
  refine Fx.L.app (B := B) (s := 14) (bytes := 112) (k := M.an) (m := 1) (v := .slice M.aa (M.an) (M.ac)) (x := evX M.ev) (by rfl) rfl rfl rfl Try.underlying46 (by kernel_rfl) (by kernel_rfl) rfl rfl m114 m112.cel (ovr_one (fun j => (show (evY V j).oneCell' = true by unfold evY; repeat (first | rfl | split)))) (by omega) (by omega) (by omega) (Nat.le_trans hB b15.size) fun g5 cap1 w12 ho1 hg1 hgv1 hlt1 => ?_
  have hct5 := Fx.ChT.of_grown hg1 m114
  have m122 := m113.chT hct5 (by decide)
  have m123 := m115.chT hct5 (by decide)
  have m125 := m117.grown hg1 ng2m10
  have ng5m125 : g2 ≠ g5 := fun e => hgv1.elim (fun e2 => ng2m10 (by rw [e]; exact e2)) (fun e2 => by have := m117.lt; omega)
  have m126 := m118.grown hg1 ng3m66
  have ng5m126 : g3 ≠ g5 := fun e => hgv1.elim (fun e2 => ng3m66 (by rw [e]; exact e2)) (fun e2 => by have := m118.lt; omega)
  have m127 := m119.chT hct5 (by decide)
  have m128 := m120.chT hct5 (by decide)
  have m121 : Fx.Own w12 B 50 14 (.slice (some ⟨g5, 0, none⟩) (M.an + 1) cap1) (M.an + 1) (evX (updA M.ev M.an V)) := (ho1.congr (fun j hj => ev_app j hj))
  have b16 : Below B w w12 := Fx.Below.grow b15 hg1 (Nat.le_trans hB b15.size) (fun q hq => (m114.ge hq).1)
  refine Ln ⟨hct5, ?_⟩
  refine Rp (.pointer (some ⟨p, 0, none⟩)) (fun v1 => x_nil rfl rfl) (Rp (.pointer (some ⟨p, 1, none⟩)) (fun v1 => x_field rfl rfl Try.underlying74 rfl (s := 1) (by kernel_rfl) rfl (by show _ + 1 = _; omega)) (Fx.R.eff (by rfl) ?_))
  refine Fx.L.store1 (x := wdY (.slice M.la (M.n) (M.lc)) (.slice M.aa (M.an) (M.ac))) (u := .slice (some ⟨g5, 0, none⟩) (M.an + 1) (cap1)) (by rfl) rfl rfl rfl rfl (by rfl) (by kernel_rfl) m122 (i := 1) (by omega) fun w13 m129 s16 z9 => ?_
  have m130 : Fx.Blk w13 p 2 (wdY (.slice M.la (M.n) (M.lc)) (.slice (some ⟨g5, 0, none⟩) (M.an + 1) (cap1))) 74 := m129.congr (wdY_1 _ _ _)
  have hct6 := Fx.ChT.of_stp s16 m122.ty
  have m131 := m123.chT hct6 (by decide)
  have m133 := m125.chT hct6 (by decide)
  have m134 := m126.chT hct6 (by decide)
  have m135 := m127.chT hct6 (by decide)
  have m136 := m128.chT hct6 (by decide)
  have m137 := m121.chT hct6 (by decide)
  have b17 := s16.below b16 (Nat.le_trans hB b16.size) (by omega)
  refine Ln (Fx.R.nil (sN (Ws (Wl (Lv (.agg (Fx.varr 14 (evY V))) (x_loadA (x := evY V) (y := evY V) rfl rfl (by kernel_rfl) (by kernel_rfl) m134.cel (i := 0) (by omega) (by omega) (fun j _ => by rw [Nat.zero_add])) (Fx.L.storeA (x := fun zq => if zq < 1 then .int .i64 (0) else if zq < 8 then .int .u64 (0) else if zq < 9 then .int .u8 (0) else if zq < 10 then .int .u64 (0) else if zq < 12 then .int .i64 (0) else .int .u64 (0)) (y := evY V) (by rfl) rfl rfl rfl rfl (evY_one _) (by kernel_rfl) m133 (i := 0) (by omega) fun w14 m138 s17 z10 => ?_))))))
  have m139 : Fx.Blk w14 g2 14 (evY V) 50 := Fx.ovr_all m138
  have hct7 := Fx.ChT.of_stp s17 m133.ty
  have m140 := m131.chT hct7 (by decide)
  have m142 := m134.stp s17 (by omega)
  have m143 := m135.chT hct7 (by decide)
  have m144 := m136.chT hct7 (by decide)
  have m145 := m137.stpB s17 (by omega)
  have m146 := m130.chT hct7 (by decide)
  have b18 := s17.below b17 (Nat.le_trans hB b17.size) (by omega)
  refine Ln (sN (Wr (⟨.agg (Fx.varr 14 (evY V)), rV Try.results18 ⟨_, rfl, Fx.run_loadV m139.cel (by kernel_rfl) (by kernel_rfl)⟩, ?_⟩)))
  have hinv : Inv m3.core (T + 3660) := by rw [hc3]; exact (inv_apply hVs (hW.inv o (by omega))).mono (by omega)
  have eRo : regN V = o := by unfold regN; omega
  have hk3 : m3.s.known = updA (M.ml o).s.known o ((M.ml o).s.known o + 1) := (congrArg LdC.known hc3).trans (by rw [applyC_kn c74, eRo]; rfl)
  exact ⟨V, rfl, hV, { M with pl := updA M.pl o p3, ml := updA M.ml o m3, an := M.an + 1, aa := some ⟨g5, 0, none⟩, ac := cap1, ev := updA M.ev M.an V }, { c := m146, l := m144, a := m145, g := m140.put m143, inv := (fun i hi => by show Inv (updA M.ml o m3 i).core _; unfold updA; split; exact hinv; exact (hW.inv i hi).mono (by omega)), wf := (fun k hk => by have hk2 : k < M.an + 1 := hk; show EvWf (updA M.ev M.an V k); unfold updA; split; exact hV; exact hW.wf k (by omega)), may := (fun k hk => by have hk2 : k < M.an + 1 := hk; show mayE (updA M.ev M.an V k) = true; unfold updA; split; exact apply_may c74; exact hW.may k (by omega)), sm := (fun k hk => by have hk2 : k < M.an + 1 := hk; show EvSm (updA M.ev M.an V k); unfold updA; split; exact hVs; exact hW.sm k (by omega)), cz := hW.cz.event (o := o) (by omega) (apply_ready c74) eRo hVd.2.2 (fun q hq => by show (updA M.ml o m3 q).s.known = _; unfold updA; rw [if_neg hq]) (by show (updA M.ml o m3 o).s.known = _; unfold updA; rw [if_pos rfl]; exact hk3), pB := hpB, n1 := hn1, n6 := hn6 }, (by rw [← eo]; exact ⟨rfl, fun q hq => by show updA M.ml o m3 q = _; unfold updA; rw [if_neg hq], .inr ⟨c19, rfl, rfl, c74, by show (updA M.ml o m3 o).core = _; unfold updA; rw [if_pos rfl]; exact hc3, hVd⟩⟩), Nat.le_refl _, (fun hq => by rw [c19] at hq; cases hq), b18⟩
 refine Lv (.bool true) (Fx.x_neqT rfl rfl rfl c74) (Ln (sN (Wc (b := true) rfl (fun _ => Ws (Wl (Lv (.agg (Fx.varr 14 (fun zq => if zq < 1 then .int .i64 (0) else if zq < 8 then .int .u64 (0) else if zq < 9 then .int .u8 (0) else if zq < 10 then .int .u64 (0) else if zq < 12 then .int .i64 (0) else .int .u64 (0)))) (x_build (vs := []) (places := #[(0, 1), (1, 1), (2, 6), (8, 1), (9, 1), (10, 1), (11, 1), (12, 1), (13, 1)]) (m := 14) (x := fun zq => if zq < 1 then .int .i64 (0) else if zq < 8 then .int .u64 (0) else if zq < 9 then .int .u8 (0) else if zq < 10 then .int .u64 (0) else if zq < 12 then .int .i64 (0) else .int .u64 (0)) rfl rfl Try.underlying50 (by kernel_rfl) (by kernel_rfl) (by rfl)) ?_))) (fun h => nomatch h))))
 refine Fx.L.storeA (x := fun zq => if zq < 1 then .int .i64 (0) else if zq < 8 then .int .u64 (0) else if zq < 9 then .int .u8 (0) else if zq < 10 then .int .u64 (0) else if zq < 12 then .int .i64 (0) else .int .u64 (0)) (y := fun zq => if zq < 1 then .int .i64 (0) else if zq < 8 then .int .u64 (0) else if zq < 9 then .int .u8 (0) else if zq < 10 then .int .u64 (0) else if zq < 12 then .int .i64 (0) else .int .u64 (0)) (by rfl) rfl rfl rfl rfl (fun jq _ => by show ((fun zq => if zq < 1 then .int .i64 (0) else if zq < 8 then .int .u64 (0) else if zq < 9 then .int .u8 (0) else if zq < 10 then .int .u64 (0) else if zq < 12 then .int .i64 (0) else .int .u64 (0) : Nat → Value) jq).oneCell' = true; simp only []; repeat (first | rfl | split)) (by kernel_rfl) m91 (i := 0) (by omega) fun w15 m147 s18 z11 => ?_
 have m148 : Fx.Blk w15 g2 14 (fun zq => if zq < 1 then .int .i64 (0) else if zq < 8 then .int .u64 (0) else if zq < 9 then .int .u8 (0) else if zq < 10 then .int .u64 (0) else if zq < 12 then .int .i64 (0) else .int .u64 (0)) 50 := Fx.ovr_all m147
 have hct8 := Fx.ChT.of_stp s18 m91.ty
 have m149 := m87.chT hct8 (by decide)
 have m150 := m88.stp s18 ng2m10
 have m151 := m89.chT hct8 (by decide)
 have m153 := m92.stp s18 (by omega)
 have m154 := m93.chT hct8 (by decide)
 have b19 := s18.below b12 (Nat.le_trans hB b12.size) (by omega)
 refine Ln (sN (Wr (sR (⟨.agg (Fx.varr 14 (fun zq => if zq < 1 then .int .i64 (0) else if zq < 8 then .int .u64 (0) else if zq < 9 then .int .u8 (0) else if zq < 10 then .int .u64 (0) else if zq < 12 then .int .i64 (0) else .int .u64 (0))), rV Try.results18 ⟨_, rfl, Fx.run_loadV m148.cel (by kernel_rfl) (by kernel_rfl)⟩, ?_⟩))))
 have m156 : Fx.Own w15 B 71 1 (.slice M.la (M.n) (M.lc)) M.n (ptX M.pl) := m154.congV (congrArg (fun q => Value.slice q M.n M.lc) eq2.symm)
 exact ⟨zeroE, congrArg (fun z => Ending.returned (Value.agg z)) (Fx.varr_congr (y := evY zeroE) fun j hj => by rcases j with _|_|_|_|_|_|_|_|_|_|_|_|_|_|j <;> first | rfl | omega), zeroE_wf, M, { c := m149, l := m156, a := m150, g := m151, inv := fun i hi => (hW.inv i hi).mono (by omega), wf := hW.wf, may := hW.may, sm := hW.sm, cz := hW.cz, pB := hpB, n1 := hn1, n6 := hn6 }, ⟨rfl, fun _ _ => rfl, .inl ⟨rfl, rfl, rfl, .inl rfl⟩⟩, by omega, (fun _ => rfl), b19⟩
end Go.Proofs.Ytleajegppehbdaa
namespace Go.Proofs.Ytleajegppehbdaa
open Go.RowKit
namespace Fx
section
variable {S S' : Nat → Prop}
theorem Chg.trans (w w' w2 : World) (h : Chg S w w') (k : Chg S w' w2) : Chg S w w2 := ⟨k.os.trans h.os, k.tape.trans h.tape, k.output.trans h.output, Nat.le_trans h.size k.size, fun i hi hS => (k.block i (Nat.lt_of_lt_of_le hi h.size) hS).trans (h.block i hi hS)⟩
theorem Chg.mono {w w' : World} (h : Chg S w w') (hS : ∀ k, S k → S' k) : Chg S' w w' := ⟨h.os, h.tape, h.output, h.size, fun i hi hn => h.block i hi fun hs => hn (hS i hs)⟩
theorem Chg.of_stp {g : Nat} {w w' : World} (h : Stp g w w') : Chg (fun k => k = g) w w' := (Chg.refl _ w).then h (.inl rfl)
end
end Fx
end Go.Proofs.Ytleajegppehbdaa
namespace Go.Proofs.Ytleajegppehbdaa
open Go.RowKit Rt
open Fx (x_move x_assign x_field x_load1 x_pickF x_pickT x_nil x_conv x_indexS x_index x_leqF x_loadA x_len x_gtrF x_build x_eqlF x_eqlT Lv sN Ln Ws Qv Wl Rp Wc Qs Wr Sb Lk Wk rC rV sR)
section
theorem l_newWorld2 (n : Nat) (m : Int) (w : World) (hm : m = (n : Int)) (hn1 : 1 ≤ n) (hn6 : n ≤ 6) :
    Calls Try.prog 16 #[.int .i64 m] w fun e w' => ∃ p M, e = .returned (.pointer (some ⟨p, 0, none⟩)) ∧ M.n = n ∧ M.an = 0 ∧ WldO w' w.heap.size p M 0 ∧ Below w.heap.size w w' := by
  subst hm; exact (l_newWorld n w hn1 hn6).mono fun _ _ ⟨p, M, h1, h2, h3, _, h4, h5⟩ => ⟨p, M, h1, h2, h3, h4, h5⟩
theorem Fx.Blk.belowB {w w' : World} {B g n : Nat} {x : Nat → Value} {T : TypeId} (h : Fx.Blk w g n x T) (hb : Below B w w') (hg : g < B) : Fx.Blk w' g n x T := (hb.block g hg).trans h
theorem bchB {B : Nat} {w0 w1 w2 : World} (h : Below w0.heap.size w0 w1) (hb : Below B w1 w2) (hB : w0.heap.size ≤ B) : Below w0.heap.size w0 w2 := h.trans (hb.mono hB)
namespace Rt
structure LTw (m : LgM) (r : RlM) (G : List ItM) : Prop where
  g : Gs m G
  R : r.R = G.map ItM.e
  K : r.K = m.K
def r0 : RlM := ⟨none, 0, [], fun _ => 0⟩
theorem LTw.new : LTw newL r0 [] := ⟨Gs.new, rfl, rfl⟩
section
variable {m m' : LgM} {r r' : RlM} {G : List ItM} {v : EvM} {V : Nat → Int}
theorem LTw.add (h : LTw m r G) (ha : addG m v = 0) (hr : AddR m m' v) (hv : EvWf v) (h1 : r'.R = r.R ++ [v]) (h2 : r'.K = upd r.K (regN v) v.seq) : LTw m' r' (G ++ [⟨v, m.cnt⟩]) :=
  ⟨h.g.add ha hr hv, by rw [h1, h.R, List.map_append]; rfl, by rw [h2, hr.1, h.K]⟩
theorem RlO.chg {w w' : World} {B q T : Nat} {S : Nat → Prop} (h : RlO w B q r T) (hs : Fx.Chg S w w') (ne : ∀ k, rlS q r k → ¬ S k) : RlO w' B q r T := { h with blk := h.blk.chg hs (ne q (.inl rfl)), own := h.own.chg hs fun g hg => ne g (.inr hg) }
theorem keep_map (V : Nat → Int) (G : List ItM) : (G.filter (keepB V)).map ItM.e = (G.map ItM.e).filter (keepE V) := by
  rw [List.filter_map]; rfl
theorem LTw.prune (h : LTw m r G) (hp : PruneR m m' V) (h1 : r'.R = r.R.filter (keepE V)) (h2 : r'.K = r.K) : LTw m' r' (G.filter (keepB V)) :=
  ⟨h.g.prune hp, by rw [h1, h.R, keep_map], by rw [h2, hp.K, h.K]⟩
theorem LTw.gone (h : LTw m r G) : ((goneN m V 6 : Nat) : Int) = (r.R.length : Int) - ((r.R.filter (keepE V)).length : Int) := by
  rw [h.g.gone, h.R, ← keep_map, List.length_map, List.length_map]
  have := List.length_filter_le (keepB V) G
  omega
theorem LTw.len (h : LTw m r G) : ((lenN m 6 : Nat) : Int) = ((r.R.length : Nat) : Int) := by rw [h.g.len, h.R, List.length_map]
theorem LTw.get (h : LTw m r G) {i q : Int} {v v' : EvM} {b b' : Bool} (hg : GetR m i q v b) (hr : RGetR r.R i q v' b') : v = v' ∧ b = b' := by
  rcases h.g.get hg with ⟨rfl, x, hx, rfl, h1, h2⟩ | ⟨rfl, rfl, h3⟩ <;> rcases hr with ⟨rfl, hv, h4, h5⟩ | ⟨rfl, rfl, h6⟩
  · refine ⟨?_, rfl⟩
    rw [h.R] at hv
    obtain ⟨y, hy, rfl⟩ := List.mem_map.1 hv
    rw [h.g.uniq hx hy (h1.trans h4.symm) (h2.trans h5.symm)]
  · exact absurd ⟨h1, h2⟩ (h6 x.e (by rw [h.R]; exact List.mem_map_of_mem hx))
  · rw [h.R] at hv
    obtain ⟨y, hy, rfl⟩ := List.mem_map.1 hv
    exact absurd ⟨h4, h5⟩ (h3 y hy)
  exact ⟨rfl, rfl⟩
theorem LTw.getW (h : LTw m r G) {i q : Int} {b : Bool} (hg : GetR m i q v b) : EvWf v := by
  rcases h.g.get hg with ⟨_, x, hx, rfl, _, _⟩ | ⟨_, rfl, _⟩
  · exact h.g.wf x hx
  exact zeroE_wf
theorem LTw.addE (h : LTw m r G) : addK r.K v = addG m v := by rw [addG_K, h.K]
def sinR (r : RlM) (V : Nat → Int) (most : Int) : List EvM := (r.R.filter (keepE V)).take most.toNat
theorem LTw.sinW (h : LTw m r G) {most : Int} : ∀ i, i < (sinR r V most).length → EvWf ((sinR r V most).getD i zeroE) := fun i hi => by
  have h1 := getD_mem hi
  have h2 := (List.mem_filter.1 (List.mem_of_mem_take h1)).1
  rw [h.R] at h2
  obtain ⟨y, hy, e⟩ := List.mem_map.1 h2
  rw [← e]; exact h.g.wf y hy
theorem sinR_len {most : Int} : (sinR r V most).length ≤ r.R.length := Nat.le_trans (by unfold sinR; rw [List.length_take]; exact Nat.min_le_right _ _) (List.length_filter_le _ _)
theorem take_get {l : List ItM} {n k : Nat} (h : k < n) (hn : n ≤ l.length) : (l.getD k it0).e = ((l.map ItM.e).take n).getD k zeroE := by
  rw [List.getD_eq_getElem?_getD, List.getD_eq_getElem?_getD, List.getElem?_take, if_pos h, List.getElem?_map, List.getElem?_eq_getElem (by omega)]; rfl
end
end Rt
open Rt
theorem t_since (V : Nat → Int) (most : Int) {m : LgM} {B p T : Nat} {w : World} {r : RlM} {G : List ItM} (h : LgO w B p m T) (hT : T ≤ 100000) (tw : LTw m r G) :
    Calls Try.prog 29 #[.pointer (some ⟨p, 0, none⟩), .agg (Fx.varr 6 (Fx.rv .u64 V)), .int .i64 (most)] w fun e w' => ∃ a c, e = .returned (.slice a (sinR r V most).length c) ∧ Fx.Own w' w.heap.size 50 14 (.slice a (sinR r V most).length c) (sinR r V most).length (evL (sinR r V most)) ∧ Below w.heap.size w w' :=
  (o_since V most m B p T w h hT tw.g.seqUp).mono fun e w' ⟨a, n, c, l, he, ho, hs, hb⟩ => by
    obtain ⟨e1, e2⟩ := tw.g.since hs
    have e3 : n = (sinR r V most).length := by unfold sinR; rw [e2, tw.R, ← keep_map, List.length_take, List.length_map]
    have e4 : n ≤ (G.filter (keepB V)).length := by rw [e2]; exact Nat.min_le_right _ _
    have e5 : sinR r V most = ((G.filter (keepB V)).map ItM.e).take most.toNat := by unfold sinR; rw [tw.R, ← keep_map]
    rw [← e3]
    refine ⟨a, c, he, ho.congr (Fx.flat_cong fun k hk j hj => ?_), hb⟩
    have e6 : (l.getD k it0).e = (sinR r V most).getD k zeroE := by
      rw [e1, take_get hk e4, e5, List.getD_eq_getElem?_getD, List.getD_eq_getElem?_getD, List.getElem?_take, List.getElem?_take, if_pos hk, if_pos (by omega)]
    exact congrArg (fun z => evY z j) e6
end
namespace Rt
structure SpM where
  pr : Bool
  V : Nat → Int
  e : EvM
  pk : Nat
def spY (x : SpM) : Nat → Value := fun p => if p = 0 then .bool x.pr else if p < 7 then .int .u64 (x.V (p - 1)) else if p < 21 then evY x.e (p - 7) else .int .u8 x.pk
theorem spY_V (x : SpM) {p k : Nat} (e : p = k + 1) (h : k < 6) : spY x p = .int .u64 (x.V k) := by subst e; unfold spY; rw [if_neg (by omega), if_pos (by omega), Nat.add_sub_cancel]
theorem spY_e (x : SpM) {p k : Nat} (e : p = k + 7) (h : k < 14) : spY x p = evY x.e k := by subst e; unfold spY; rw [if_neg (by omega), if_neg (by omega), if_pos (by omega), Nat.add_sub_cancel]
end Rt
namespace Rt
theorem add_m {w : World} {B p T : Nat} {m : LgM} {v : EvM} {S : LgM → Prop} (h1 : addG m v = 0 → ∃ m', LgO w B p m' (T + 1) ∧ AddR m m' v ∧ S m') (h2 : addG m v ≠ 0 → LgO w B p m T) :
    ∃ m', LgO w B p m' (T + 1) ∧ (addG m v = 0 ∧ AddR m m' v ∨ addG m v ≠ 0 ∧ m' = m) := by
  by_cases h : addG m v = 0
  · obtain ⟨m', q1, q2, _⟩ := h1 h; exact ⟨m', q1, .inl ⟨h, q2⟩⟩
  exact ⟨m, (h2 h).mono (Nat.le_succ _), .inr ⟨h, rfl⟩⟩
theorem add_r {w : World} {B q T : Nat} {r : RlM} {v : EvM} (h1 : addK r.K v = 0 → ∃ r', RlO w B q r' (T + 1) ∧ r'.R = r.R ++ [v] ∧ r'.K = upd r.K (regN v) v.seq) (h2 : addK r.K v ≠ 0 → RlO w B q r T) :
    ∃ r', RlO w B q r' (T + 1) ∧ (addK r.K v = 0 ∧ r'.R = r.R ++ [v] ∧ r'.K = upd r.K (regN v) v.seq ∨ addK r.K v ≠ 0 ∧ r' = r) := by
  by_cases h : addK r.K v = 0
  · obtain ⟨r', q1, q2, q3⟩ := h1 h; exact ⟨r', q1, .inl ⟨h, q2, q3⟩⟩
  exact ⟨r, (h2 h).mono (Nat.le_succ _), .inr ⟨h, rfl⟩⟩
open Classical in
noncomputable def addL (m : LgM) (v : EvM) (G : List ItM) : List ItM := if addG m v = 0 then G ++ [⟨v, m.cnt⟩] else G
theorem LTw.add2 {m m' : LgM} {r r' : RlM} {G : List ItM} {v : EvM} (h : LTw m r G) (h1 : addG m v = 0 ∧ AddR m m' v ∨ addG m v ≠ 0 ∧ m' = m) (h2 : addK r.K v = 0 ∧ r'.R = r.R ++ [v] ∧ r'.K = upd r.K (regN v) v.seq ∨ addK r.K v ≠ 0 ∧ r' = r) (hv : EvWf v) : LTw m' r' (addL m v G) := by
  rw [h.addE] at h2
  unfold addL
  rcases h1 with ⟨e, h1⟩ | ⟨e, rfl⟩ <;> rcases h2 with ⟨e2, h2, h3⟩ | ⟨e2, rfl⟩
  · rw [if_pos e]; exact h.add e h1 hv h2 h3
  · exact absurd e e2
  · exact absurd e2 e
  rw [if_neg e]; exact h
end Rt
set_option maxRecDepth 20000 in
set_option maxHeartbeats 2000000 in
theorem plays16_any (rb : Nat) (aa0 : Option Addr) (na ca : Nat) (xa : Nat → ActM) (la : Option Addr) (nl lc : Nat) (xs : Nat → SpM) (V : Nat → Int) (most : Int) (w : World) (hrb : rb ≤ 255) (hxa : ∀ k, k < na → ActOk (xa k)) (hacts : Fx.Arr w aa0 na 9 (Fx.flat 9 fun k => actY (xa k))) (hsp : Fx.Arr w la nl 22 (Fx.flat 22 fun k => spY (xs k))) (hxe : ∀ k, k < nl → EvWf (xs k).e) (hxp : ∀ k, k < nl → (xs k).pk ≤ 255) :
    Calls Try.prog 6 #[.int .u8 ((rb : Int)), .slice aa0 (na) (ca), .slice la (nl) (lc), .agg (Fx.varr 6 (Fx.rv .u64 V)), .int .i64 (most)] w fun e w' => e = .returned (.bool true) ∧ Below w.heap.size w w' := by
 refine Fx.enter Try.func6 rfl (n := 183) rfl (by rfl) ?_
 refine Ws (Wl (Fx.L.box (m := 6) (y := Fx.rv .u64 V) (by rfl) rfl rfl (Fx.cells_agg _ _) rfl fun g1 w1 eg1 m1 s1 z1 => ?_))
 have b1 := s1.below (Below.refl w.heap.size w) (Below.refl w.heap.size w).size (Below.refl w.heap.size w).size
 have lg1 : w.heap.size ≤ g1 := by rw [eg1]; exact (Below.refl w.heap.size w).size
 have tg1 : g1 < w1.heap.size := m1.lt
 clear eg1
 refine Lv (.bool false) (x_assign rfl rfl) (Ln (sN (Ws (Ws (Wl (Lv (.slice aa0 (na) (ca)) (x_move rfl rfl) ?_))))))
 by_cases c22 : (decide ((na : Int) ≤ 60)) = true
 ·refine Fx.L.call (by rfl) (rC (args := [.slice aa0 (na) (ca)]) rfl rfl Try.func9 rfl rfl) rfl ((l_few _ _ _ _).mono ?_)
  rintro e v1 ⟨he, hv1⟩
  subst v1
  refine ⟨.bool true, by rw [he, c22], ?_⟩
  clear he
  refine Lv (.bool false) (Fx.x_notF rfl rfl) (Lv (.bool false) (x_move rfl rfl) (Lv (.slice la (nl) (lc)) (x_move rfl rfl) (Lv (.int .i64 ((nl : Int))) (x_len rfl rfl rfl (by kernel_rfl)) ?_)))
  by_cases c27 : 150 < (nl : Int)
  ·refine Lv (.bool true) (Fx.x_gtrT rfl rfl rfl c27) (Lv (.bool true) (x_pickF rfl rfl rfl) (Ln (sN (Wc (b := true) rfl (fun _ => Ws (Wl (Fx.L.call (by rfl) (rC (args := []) rfl rfl Try.func26 rfl rfl) rfl ((works16_any _).mono ?_)))) (fun h => nomatch h)))))
   rintro e w2 ⟨he, hb1⟩
   refine ⟨.bool true, by rw [he], ?_⟩
   clear he
   have s2 := Sb hb1
   have b2 := s2.below b1 b1.size b1.size
   refine Lv (.bool true) (x_assign rfl rfl) (Ln (sN (Wr (sR (⟨.bool true, rV Try.results6 (by exact rfl), ?_⟩)))))
   exact ⟨rfl, b2⟩
  refine Lv (.bool false) (x_gtrF rfl rfl rfl c27) (Lv (.bool false) (x_pickF rfl rfl rfl) (Ln (sN (Wc (b := false) rfl (fun h => nomatch h) (fun _ => Wk (sN (Ws ?_)))))))
  have hna := of_decide_eq_true c22
  obtain ⟨rn, ern⟩ : ∃ r, r = rb % 6 := ⟨_, rfl⟩
  have hrn : rn < 6 := by rw [ern]; exact Nat.mod_lt _ (by omega)
  refine Wl (Lv (.int .u8 ((rb : Int))) (x_move rfl rfl) (Lv (.int .i64 ((rb : Int))) (x_conv rfl rfl (by kernel_rfl) Try.underlying3 (Fx.i64e (by omega) rfl)) (Lv (.int .i64 ((rn : Int))) (Fx.x_rem rfl rfl rfl (by omega) (remL ern)) (Lv (.int .i64 ((rn : Int) + 1)) (Fx.x_add rfl rfl rfl (Fx.i64e (by omega) (by omega))) (Fx.L.call (by rfl) (rC (args := [.int .i64 ((rn : Int) + 1)]) rfl rfl Try.func16 rfl rfl) rfl ((l_newWorld2 (rn + 1) _ _ (by omega) (by omega) (by omega)).mono ?_))))))
  rintro e9 w3 ⟨pw, M0, he, hMn, hMa, hW0, hbw⟩
  refine ⟨.pointer (some ⟨pw, 0, none⟩), he, ?_⟩
  clear he
  have sB := b1.size
  have lBg1 : g1 < w1.heap.size := m1.lt
  have s3 := Sb hbw
  have m3 := m1.stp s3 (Nat.ne_of_lt (m1.lt))
  have b3 := s3.below b1 b1.size b1.size
  have sW : w1.heap.size ≤ w3.heap.size := hbw.size
  refine Lv (.pointer (some ⟨pw, 0, none⟩)) (x_assign rfl rfl) (Ln (sN (Ws (Ws (Wl (Lv (.int .i64 (0)) (x_assign rfl rfl) (Ln (sN (Fx.W.block (Fx.W.loop (fun f w_ => ∃ k : Nat, ∃ M9 : WM, ∃ T9 : Nat, k ≤ na ∧ T9 ≤ 3660 * k ∧ M9.n = M0.n ∧ M9.an ≤ k ∧ w1.heap.size ≤ w_.heap.size ∧ f 1 = .slice aa0 (na) (ca) ∧ f 2 = .slice la (nl) (lc) ∧ f 4 = .int .i64 (most) ∧ f 8 = .pointer (some ⟨g1, 0, none⟩) ∧ f 11 = .pointer (some ⟨pw, 0, none⟩) ∧ f 12 = .int .i64 ((k : Int)) ∧ Fx.Blk w_ g1 6 (Fx.rv .u64 V) 32 ∧ WldO w_ w1.heap.size pw M9 T9 ∧ Below w.heap.size w w_) (fun f _ => (na - (intOf (f 12)).toNat)) ⟨0, M0, 0, by omega, by omega, rfl, by omega, sW, (by rfl), (by rfl), (by first | rfl | exact congrArg (Value.int .i64) (by omega)), (by rfl), (by rfl), (by first | rfl | exact congrArg (Value.int .i64) (by omega)), m3, hW0, b3⟩ ?_))))))))))
  rintro f1 w4 ⟨k, M9, T9, hk, hTk, hMn9, hMa9, sWk, h1, h2, h3, h4, h5, h6, m4, m5, b4⟩
  refine Ws (Ws (Wl (Lv (.int .i64 ((k : Int))) (x_move rfl h6) (Lv (.slice aa0 (na) (ca)) (x_move rfl h1) (Lv (.int .i64 ((na : Int))) (x_len rfl rfl rfl (by kernel_rfl)) ?_)))))
  by_cases c38 : (k : Int) < (na : Int)
  ·refine Lv (.bool true) (Fx.x_lssT rfl rfl rfl c38) (Ln (sN (Wc (b := true) rfl (fun _ => Wk (sN (Ws (Fx.W.block (Wl (Lv (.pointer (some ⟨pw, 0, none⟩)) (x_move rfl h5) ?_)))))) (fun h => nomatch h))))
   refine Lv (.slice aa0 (na) (ca)) (x_move rfl h1) (Lv (.int .i64 ((k : Int))) (x_move rfl h6) ?_)
   obtain ⟨bq1, oq1, eq1, m6⟩ := (hacts.up b4 rfl) (by omega)
   have lbq1 : bq1 < w4.heap.size := m6.lt (by omega)
   refine Lv (.pointer (some ⟨bq1, 9 * k + oq1, none⟩)) (x_indexS rfl (rfl.trans (congrArg (fun q => Value.slice q (na) (ca)) eq1)) rfl Try.underlying24 (s := 9) (by kernel_rfl) (by omega) (by omega) (by omega)) (Lv (.agg (Fx.varr 9 (actY (xa k)))) (x_loadA (x := Fx.flat 9 fun k => actY (xa k)) (y := actY (xa k)) rfl rfl (by kernel_rfl) (by kernel_rfl) m6 (i := 9 * k) (by omega) (by omega) (fun jq hjq => Fx.flat_at (k := k) (by omega) hjq)) (Fx.L.call (by rfl) (rC (args := [.pointer (some ⟨pw, 0, none⟩), .agg (Fx.varr 9 (actY (xa k)))]) rfl rfl Try.func18 rfl rfl) rfl ((l_doM M9 w1.heap.size pw T9 (xa k) _ m5 sWk (hxa k (by omega)) (by omega) (by omega)).mono ?_)))
   rintro e9 w5 ⟨v9, he, hv9, M2, hW1, hM2, hM2a, hM2m, hb2⟩
   refine ⟨_, he, ?_⟩
   clear he
   have hM2n := hM2.n
   have m7 : Fx.Blk w5 g1 6 (Fx.rv .u64 V) 32 := m4.belowB hb2 lBg1
   have b5 : Below w.heap.size w w5 := bchB b4 hb2 sB
   have sW1 : w1.heap.size ≤ w5.heap.size := by have := hb2.size; omega
   have sWn : w1.heap.size ≤ w5.heap.size := by have := hb2.size; omega
   refine Ln (Fx.blkN (sN (Wl (Lv (.int .i64 ((k : Int))) (x_move rfl h6) (Lv (.int .i64 ((k : Int) + 1)) (Fx.x_add rfl rfl rfl (Fx.i64e (by omega) (by omega))) (Lv (.int .i64 ((k : Int) + 1)) (x_assign rfl rfl) (Ln (Fx.lpN ⟨k + 1, M2, (T9 + 3660), by omega, by omega, (hM2n.trans hMn9), by omega, sWn, h1, h2, (h3.trans (by first | rfl | exact congrArg (Value.int .i64) (by omega))), h4, h5, (by first | rfl | exact congrArg (Value.int .i64) (by omega)), m7, hW1, b5⟩ ?_))))))))
   show (na - (intOf ((.int .i64 ((k : Int) + 1)))).toNat) < _
   simp only [h6, intOf]; omega
  refine Lv (.bool false) (Fx.x_lssF rfl rfl rfl c38) (Ln (sN (Wc (b := false) rfl (fun h => nomatch h) (fun _ => Fx.W.exit (Fx.seqX (Fx.lpX (Fx.blkX (sN (Ws ?_)))))))))
  have hWc := m5.c
  have hWa := m5.a
  have hevw := m5.wf
  have hevm := m5.may
  have hcz := m5.cz
  have hWw := m5
  have haA : Fx.Arr w4 M9.aa M9.an 14 (evX M9.ev) := hWa.arr
  have lpw : pw < w4.heap.size := hWc.lt
  have lXg1 : g1 < w4.heap.size := m4.lt
  have hspX := hsp.up b4 rfl
  refine Wl (Fx.L.call (by rfl) (rC (args := []) rfl rfl Try.func17 rfl rfl) rfl ((o_new 0 _).mono ?_))
  rintro e9 w6 ⟨pa, he, hl1, hb3⟩
  refine ⟨_, he, ?_⟩
  clear he
  have s4 := Sb hb3
  have hl2 := hl1.weak (Below.refl w4.heap.size w4).size
  have m8 := hWc.stp s4 (Nat.ne_of_lt (hWc.lt))
  have m9 := m4.stp s4 (Nat.ne_of_lt (m4.lt))
  have b6 := s4.below (Below.refl w4.heap.size w4) (Below.refl w4.heap.size w4).size (Below.refl w4.heap.size w4).size
  refine Lv (.pointer (some ⟨pa, 0, none⟩)) (x_assign rfl rfl) (Ln (sN (Ws (Wl (Lv (.agg (Fx.varr 7 (fun zq => if zq < 1 then .slice none 0 0 else .int .u64 (0)))) (x_build (vs := []) (places := #[(0, 1), (1, 6)]) (m := 7) (x := fun zq => if zq < 1 then .slice none 0 0 else .int .u64 (0)) rfl rfl Try.underlying48 (by kernel_rfl) (by kernel_rfl) (by rfl)) (Fx.L.box (m := 7) (y := fun zq => if zq < 1 then .slice none 0 0 else .int .u64 (0)) (by rfl) rfl rfl (Fx.cells_agg _ _) rfl fun g2 w7 eg2 m10 s5 z2 => ?_))))))
  have m11 := m8.stp s5 (Nat.ne_of_lt (m8.lt))
  have m12 := m9.stp s5 (Nat.ne_of_lt (m9.lt))
  have m13 := hl2.up s5.old
  have b7 := s5.below b6 b6.size b6.size
  have lg2 : w4.heap.size ≤ g2 := by rw [eg2]; exact b6.size
  have ng2m11 : pw ≠ g2 := by rw [eg2]; exact Nat.ne_of_lt (m8.lt)
  have ng2m12 : g1 ≠ g2 := by rw [eg2]; exact Nat.ne_of_lt (m9.lt)
  have tg2 : g2 < w7.heap.size := m10.lt
  have nlgg2 : ¬ lgS pa newL g2 := by rw [eg2]; exact fun h => Nat.lt_irrefl _ (hl2.ge _ h).2
  clear eg2
  refine Lv (.pointer (some ⟨g2, 0, none⟩)) (x_assign rfl rfl) (Ln (sN (Ws (Ws ?_))))
  have m14 : RlO w7 w4.heap.size g2 r0 0 := ⟨m10.congr (fun j hj => by rcases j with _|_|_|_|_|_|_|j <;> first | rfl | omega), Fx.Own.nil _ _ _ _ _, lg2, Nat.le_refl _, fun _ h => (by cases h), fun _ h => (by cases h), fun _ _ => ⟨Int.le_refl _, by show (0 : Int) < _; decide⟩⟩
  refine Wl (Lv (.int .i64 (0)) (x_assign rfl rfl) (Ln (sN (Fx.W.block (Fx.W.loop (fun f w_ => ∃ ix : Nat, ∃ m1 : LgM, ∃ r1 : RlM, ∃ G1 : List ItM, ix ≤ nl ∧ LTw m1 r1 G1 ∧ f 2 = .slice la (nl) (lc) ∧ f 4 = .int .i64 (most) ∧ f 8 = .pointer (some ⟨g1, 0, none⟩) ∧ f 11 = .pointer (some ⟨pw, 0, none⟩) ∧ f 13 = .pointer (some ⟨pa, 0, none⟩) ∧ f 14 = .pointer (some ⟨g2, 0, none⟩) ∧ f 15 = .int .i64 ((ix : Int)) ∧ Fx.Blk w_ pw 2 (wdY (.slice M9.la (M9.n) (M9.lc)) (.slice M9.aa (M9.an) (M9.ac))) 74 ∧ Fx.Blk w_ g1 6 (Fx.rv .u64 V) 32 ∧ LgO w_ w4.heap.size pa m1 ix ∧ RlO w_ w4.heap.size g2 r1 ix ∧ Below w4.heap.size w4 w_) (fun f _ => (nl - (intOf (f 15)).toNat)) ⟨0, newL, r0, [], by omega, LTw.new, h2, (h3.trans (by first | rfl | exact congrArg (Value.int .i64) (by omega))), h4, h5, (by rfl), (by rfl), (by first | rfl | exact congrArg (Value.int .i64) (by omega)), m11, m12, m13, m14, b7⟩ ?_)))))
  rintro f2 w8 ⟨ix, m1, r1, G1, hi, htw, h7, h8, h9, h10, h11, h12, h13, m15, m16, m17, m18, b8⟩
  refine Ws (Ws (Wl (Lv (.int .i64 ((ix : Int))) (x_move rfl h13) (Lv (.slice la (nl) (lc)) (x_move rfl h7) (Lv (.int .i64 ((nl : Int))) (x_len rfl rfl rfl (by kernel_rfl)) ?_)))))
  by_cases c53 : (ix : Int) < (nl : Int)
  ·refine Lv (.bool true) (Fx.x_lssT rfl rfl rfl c53) (Ln (sN (Wc (b := true) rfl (fun _ => Wk (sN (Ws (Fx.W.block (Ws (Wl (Lv (.slice la (nl) (lc)) (x_move rfl h7) ?_))))))) (fun h => nomatch h))))
   refine Lv (.int .i64 ((ix : Int))) (x_move rfl h13) ?_
   obtain ⟨bq2, oq2, eq2, m19z⟩ := hspX (by omega)
   have lbq2z : bq2 < w4.heap.size := m19z.lt (by omega)
   have m19 := m19z.below b8 lbq2z
   have lbq2 : bq2 < w8.heap.size := m19.lt (by omega)
   refine Lv (.pointer (some ⟨bq2, 22 * ix + oq2, none⟩)) (x_indexS rfl (rfl.trans (congrArg (fun q => Value.slice q (nl) (lc)) eq2)) rfl Try.underlying80 (s := 22) (by kernel_rfl) (by omega) (by omega) (by omega)) (Lv (.pointer (some ⟨bq2, 22 * ix + oq2 + 7, none⟩)) (x_field rfl rfl Try.underlying82 rfl (s := 14) (by kernel_rfl) rfl (by show _ + 7 = _; omega)) (Lv (.agg (Fx.varr 14 (evY (xs ix).e))) (x_loadA (x := Fx.flat 22 fun k => spY (xs k)) (y := evY (xs ix).e) rfl rfl (by kernel_rfl) (by kernel_rfl) m19 (i := 22 * ix + 7) (by omega) (by omega) (fun jq hjq => (Fx.flat_at (k := ix) (j := 7 + jq) (by omega) (by omega)).trans ((fun jq hjq => spY_e _ (by omega) hjq) jq hjq))) (Fx.L.new (m := 14) (y := evY zeroE) (by rfl) rfl (by kernel_rfl) rfl fun g3 w9 eg3 m20 s6 z3 => ?_)))
   have m21 := m15.stp s6 (Nat.ne_of_lt (m15.lt))
   have m22 := m16.stp s6 (Nat.ne_of_lt (m16.lt))
   have m23 := m17.up s6.old
   have m24 := m18.up s6.old
   have m25 := m19.stp s6 (Nat.ne_of_lt (m19.lt (by omega)))
   have b9 := s6.below b8 b8.size b8.size
   have lg3 : w4.heap.size ≤ g3 := by rw [eg3]; exact b8.size
   have ng3m21 : pw ≠ g3 := by rw [eg3]; exact Nat.ne_of_lt (m15.lt)
   have ng3m22 : g1 ≠ g3 := by rw [eg3]; exact Nat.ne_of_lt (m16.lt)
   have ng3m25 : bq2 ≠ g3 := by rw [eg3]; exact Nat.ne_of_lt (m19.lt (by omega))
   have tg3 : g3 < w9.heap.size := m20.lt
   have nrlg3 : ¬ rlS g2 r1 g3 := by rw [eg3]; exact fun h => Nat.lt_irrefl _ (m18.ge _ h).2
   have nlgg3 : ¬ lgS pa m1 g3 := by rw [eg3]; exact fun h => Nat.lt_irrefl _ (m17.ge _ h).2
   clear eg3
   refine Fx.L.storeA (x := evY zeroE) (y := evY (xs ix).e) (by rfl) rfl rfl rfl rfl (evY_one _) (by kernel_rfl) m20 (i := 0) (by omega) fun w10 m26 s7 z4 => ?_
   have m27 : Fx.Blk w10 g3 14 (evY (xs ix).e) 50 := Fx.ovr_all m26
   have hct1 := Fx.ChT.of_stp s7 m20.ty
   have m28 := m21.chT hct1 (by decide)
   have m29 := m22.chT hct1 (by decide)
   have m30 := m23.chT hct1 (by decide)
   have m31 := m24.chg (Fx.Chg.of_stp s7) (fun k hk e => nrlg3 (e ▸ hk))
   have m32 := m25.stp s7 (by omega)
   have b10 := s7.below b9 b9.size (by omega)
   refine Ln (sN (Fx.W.seqJ (fun f w_ => ∃ X : EvM, EvWf X ∧ f 2 = .slice la (nl) (lc) ∧ f 4 = .int .i64 (most) ∧ f 8 = .pointer (some ⟨g1, 0, none⟩) ∧ f 11 = .pointer (some ⟨pw, 0, none⟩) ∧ f 13 = .pointer (some ⟨pa, 0, none⟩) ∧ f 14 = .pointer (some ⟨g2, 0, none⟩) ∧ f 15 = .int .i64 ((ix : Int)) ∧ f 16 = .pointer (some ⟨g3, 0, none⟩) ∧ Fx.Blk w_ pw 2 (wdY (.slice M9.la (M9.n) (M9.lc)) (.slice M9.aa (M9.an) (M9.ac))) 74 ∧ Fx.Blk w_ g1 6 (Fx.rv .u64 V) 32 ∧ LgO w_ w4.heap.size pa m1 ix ∧ RlO w_ w4.heap.size g2 r1 ix ∧ Fx.Blk w_ g3 14 (evY X) 50 ∧ Below w4.heap.size w4 w_) ?_ ?_))
   ·refine Ws (Wl (Lv (.agg (Fx.varr 14 (evY (xs ix).e))) (x_loadA (x := evY (xs ix).e) (y := evY (xs ix).e) rfl rfl (by kernel_rfl) (by kernel_rfl) m27.cel (i := 0) (by omega) (by omega) (fun j _ => by rw [Nat.zero_add])) (Lv (.agg (Fx.varr 14 (evY zeroE))) (x_build (vs := []) (places := #[(0, 1), (1, 1), (2, 6), (8, 1), (9, 1), (10, 1), (11, 1), (12, 1), (13, 1)]) (m := 14) (x := evY zeroE) rfl rfl Try.underlying50 (by kernel_rfl) (by kernel_rfl) (by rfl)) ?_)))
    by_cases c63 : ∀ i, i < 14 → (evY (xs ix).e) i = (evY zeroE) i
    ·refine Lv (.bool true) (Fx.x_eqlA (n := 14) (ks := [(some .i64), (some .u64), (some .u64), (some .u64), (some .u64), (some .u64), (some .u64), (some .u64), (some .u8), (some .u64), (some .i64), (some .i64), (some .u64), (some .u64)]) (X := evY (xs ix).e) (Y := evY zeroE) 12 true rfl rfl rfl (Fx.yesb c63) (kd_ev (hxe ix (by omega))) (kd_ev zeroE_wf) rfl (by kernel_rfl) (by kernel_rfl) (by kernel_rfl) (by kernel_rfl) (by kernel_rfl)) (Lv (.bool true) (x_move rfl rfl) (Lv (.pointer (some ⟨pw, 0, none⟩)) (x_move rfl h10) (Lv (.pointer (some ⟨pw, 0, none⟩)) (x_nil rfl rfl) (Lv (.pointer (some ⟨pw, 1, none⟩)) (x_field rfl rfl Try.underlying74 rfl (s := 1) (by kernel_rfl) rfl (by show _ + 1 = _; omega)) (Lv (.slice M9.aa (M9.an) (M9.ac)) (x_load1 (x := wdY (.slice M9.la (M9.n) (M9.lc)) (.slice M9.aa (M9.an) (M9.ac))) rfl rfl (by kernel_rfl) m28.cel (i := 1) (by omega) (by omega) rfl) (Lv (.int .i64 ((M9.an : Int))) (x_len rfl rfl rfl (by kernel_rfl)) ?_))))))
     by_cases c70 : 0 < (M9.an : Int)
     ·refine Lv (.bool true) (Fx.x_gtrT rfl rfl rfl c70) (Lv (.bool true) (x_pickT rfl rfl rfl) (Ln (sN (Wc (b := true) rfl (fun _ => ?_) (fun h => nomatch h)))))
      have hpk := hxp ix (by omega)
      obtain ⟨qe, eqe⟩ : ∃ r, r = (xs ix).pk % M9.an := ⟨_, rfl⟩
      have hqe : qe < M9.an := by rw [eqe]; exact Nat.mod_lt _ (by omega)
      -- region 15 draws
      refine Fx.W.reord [0, 1, 2, 4, 5, 6, 7, 10, 11, 12, 3, 8, 9, 13, 14, 15, 16, 17, 18] [0, 0, 0, 4, 0, 0, 0, 0, 4, 0, 0, 0, 0, 4, 0, 0, 0, 4, 3] Fx.Mk Fx.Mk.refl Fx.Mk.trans (certs := [(18, 3, [3]), (18, 8, [8]), (18, 13, [13]), (18, 17, [17])]) (by kernel_rfl) (by kernel_rfl) (by kernel_rfl) (by kernel_rfl) (by kernel_rfl) fun wt1 hbwt1 hzwt1 => ?_
      have s8 : Fx.Stp w10.heap.size w10 wt1 := Sb hbwt1
      have m33 := m28.stp s8 (Nat.ne_of_lt (m28.lt))
      have m34 := m29.stp s8 (Nat.ne_of_lt (m29.lt))
      have m35 := m30.up s8.old
      have m36 := m31.up s8.old
      have m37 := m27.stp s8 (Nat.ne_of_lt (m27.lt))
      have b11 := s8.below b10 b10.size b10.size
      refine Rp (.pointer (some ⟨pw, 0, none⟩)) (fun v1 => x_move rfl h10) (Rp (.pointer (some ⟨pw, 0, none⟩)) (fun v1 => x_nil rfl rfl) (Rp (.pointer (some ⟨pw, 1, none⟩)) (fun v1 => x_field rfl rfl Try.underlying74 rfl (s := 1) (by kernel_rfl) rfl (by show _ + 1 = _; omega)) (Rp (.slice la (nl) (lc)) (fun v1 => x_move rfl h7) (Rp (.int .i64 ((ix : Int))) (fun v1 => x_move rfl h13) ?_))))
      obtain ⟨bq3, oq3, eq3, m38z⟩ := hspX (by omega)
      have lbq3z : bq3 < w4.heap.size := m38z.lt (by omega)
      have m38 := m38z.below b11 lbq3z
      have lbq3 : bq3 < wt1.heap.size := m38.lt (by omega)
      refine Rp (.pointer (some ⟨bq3, 22 * ix + oq3, none⟩)) (fun v1 => x_indexS rfl (rfl.trans (congrArg (fun q => Value.slice q (nl) (lc)) eq3)) rfl Try.underlying80 (s := 22) (by kernel_rfl) (by omega) (by omega) (by omega)) (Rp (.pointer (some ⟨bq3, 22 * ix + oq3 + 21, none⟩)) (fun v1 => x_field rfl rfl Try.underlying82 rfl (s := 1) (by kernel_rfl) rfl (by show _ + 21 = _; omega)) (Rp (.pointer (some ⟨pw, 0, none⟩)) (fun v1 => x_move rfl h10) (Rp (.pointer (some ⟨pw, 0, none⟩)) (fun v1 => x_nil rfl rfl) (Rp (.pointer (some ⟨pw, 1, none⟩)) (fun v1 => x_field rfl rfl Try.underlying74 rfl (s := 1) (by kernel_rfl) rfl (by show _ + 1 = _; omega)) (Fx.R.s (.slice M9.aa (M9.an) (M9.ac)) (x_load1 (x := wdY (.slice M9.la (M9.n) (M9.lc)) (.slice M9.aa (M9.an) (M9.ac))) rfl rfl (by kernel_rfl) m33.cel (i := 1) (by omega) (by omega) rfl) ?_)))))
      refine Fx.R.s (.int .u8 (((xs ix).pk : Int))) (x_load1 (x := Fx.flat 22 fun k => spY (xs k)) rfl rfl (by kernel_rfl) m38 (i := 22 * ix + 21) (by omega) (by omega) (Fx.flat_cell (k := ix) (j := 21) (by omega) (by omega) rfl)) ?_
      refine Rp (.int .i64 (((xs ix).pk : Int))) (fun v1 => x_conv rfl rfl (by kernel_rfl) Try.underlying3 (Fx.i64e (by omega) rfl)) (Fx.R.s (.slice M9.aa (M9.an) (M9.ac)) (x_load1 (x := wdY (.slice M9.la (M9.n) (M9.lc)) (.slice M9.aa (M9.an) (M9.ac))) rfl rfl (by kernel_rfl) m33.cel (i := 1) (by omega) (by omega) rfl) ?_)
      refine Rp (.int .i64 ((M9.an : Int))) (fun v1 => x_len rfl rfl rfl (by kernel_rfl)) (Rp (.int .i64 ((qe : Int))) (fun v1 => Fx.x_rem rfl rfl rfl (by omega) (remL eqe)) ?_)
      obtain ⟨bq4, oq4, eq4, m39z⟩ := haA (by omega)
      have lbq4z : bq4 < w4.heap.size := m39z.lt (by omega)
      have m39 := m39z.below b11 lbq4z
      have lbq4 : bq4 < wt1.heap.size := m39.lt (by omega)
      refine Rp (.pointer (some ⟨bq4, oq4 + 14 * qe, none⟩)) (fun v1 => x_indexS rfl (rfl.trans (congrArg (fun q => Value.slice q (M9.an) (M9.ac)) eq4)) rfl Try.underlying46 (s := 14) (by kernel_rfl) (by omega) (by omega) (by omega)) (Fx.R.s (.agg (Fx.varr 14 (evY (M9.ev qe)))) (x_loadA (x := evX M9.ev) (y := evY (M9.ev qe)) rfl rfl (by kernel_rfl) (by kernel_rfl) m39 (i := 14 * qe) (by omega) (by omega) (fun jq hjq => Fx.flat_at (k := qe) (by omega) hjq)) ?_)
      refine Fx.R.eff (by rfl) ?_
      refine Fx.L.storeA (x := evY (xs ix).e) (y := evY (M9.ev qe)) (by rfl) rfl rfl rfl rfl (evY_one _) (by kernel_rfl) m37 (i := 0) (by omega) fun w11 m40 s9 z5 => ?_
      have m41 : Fx.Blk w11 g3 14 (evY (M9.ev qe)) 50 := Fx.ovr_all m40
      have hct2 := Fx.ChT.of_stp s9 m37.ty
      have m42 := m33.chT hct2 (by decide)
      have m43 := m34.chT hct2 (by decide)
      have m44 := m35.chT hct2 (by decide)
      have m45 := m36.chg (Fx.Chg.of_stp s9) (fun k hk e => nrlg3 (e ▸ hk))
      have m46 := m38.stp s9 (by omega)
      have m47 := m39.stp s9 (by omega)
      have b12 := s9.below b11 b11.size (by omega)
      refine Ln (Fx.R.nil ?_)
      exact Fx.jnN ⟨(M9.ev qe), (hevw _ (by omega)), h7, (h8.trans (by first | rfl | exact congrArg (Value.int .i64) (by omega))), h9, h10, h11, h12, (h13.trans (by first | rfl | exact congrArg (Value.int .i64) (by omega))), (by rfl), m42, m43, m44, m45, m41, b12⟩
     refine Lv (.bool false) (x_gtrF rfl rfl rfl c70) (Lv (.bool false) (x_pickT rfl rfl rfl) (Ln (sN (Wc (b := false) rfl (fun h => nomatch h) (fun _ => Wk ?_)))))
     exact Fx.jnN ⟨(xs ix).e, (hxe ix (by omega)), h7, (h8.trans (by first | rfl | exact congrArg (Value.int .i64) (by omega))), h9, h10, h11, h12, (h13.trans (by first | rfl | exact congrArg (Value.int .i64) (by omega))), (by rfl), m28, m29, m30, m31, m27, b10⟩
    refine Lv (.bool false) (Fx.x_eqlA (n := 14) (ks := [(some .i64), (some .u64), (some .u64), (some .u64), (some .u64), (some .u64), (some .u64), (some .u64), (some .u8), (some .u64), (some .i64), (some .i64), (some .u64), (some .u64)]) (X := evY (xs ix).e) (Y := evY zeroE) 12 false rfl rfl rfl (Fx.nob c63) (kd_ev (hxe ix (by omega))) (kd_ev zeroE_wf) rfl (by kernel_rfl) (by kernel_rfl) (by kernel_rfl) (by kernel_rfl) (by kernel_rfl)) (Lv (.bool false) (x_move rfl rfl) (Lk (by rfl) rfl (Lk (by rfl) rfl (Lk (by rfl) rfl (Lk (by rfl) rfl (Lk (by rfl) rfl (Lk (by rfl) rfl (Lv (.bool false) (x_pickF rfl rfl rfl) (Ln (sN (Wc (b := false) rfl (fun h => nomatch h) (fun _ => Wk ?_))))))))))))
    exact Fx.jnN ⟨(xs ix).e, (hxe ix (by omega)), h7, (h8.trans (by first | rfl | exact congrArg (Value.int .i64) (by omega))), h9, h10, h11, h12, (h13.trans (by first | rfl | exact congrArg (Value.int .i64) (by omega))), (by rfl), m28, m29, m30, m31, m27, b10⟩
   rintro f3 w12 ⟨X, hX, h14, h15, h16, h17, h18, h19, h20, h21, m48, m49, m50, m51, m52, b13⟩
   refine Fx.W.seqJ (fun f w_ => ∃ mJ : LgM, ∃ rJ : RlM, ∃ GJ : List ItM, LTw mJ rJ GJ ∧ f 2 = .slice la (nl) (lc) ∧ f 4 = .int .i64 (most) ∧ f 8 = .pointer (some ⟨g1, 0, none⟩) ∧ f 11 = .pointer (some ⟨pw, 0, none⟩) ∧ f 13 = .pointer (some ⟨pa, 0, none⟩) ∧ f 14 = .pointer (some ⟨g2, 0, none⟩) ∧ f 15 = .int .i64 ((ix : Int)) ∧ f 16 = .pointer (some ⟨g3, 0, none⟩) ∧ Fx.Blk w_ pw 2 (wdY (.slice M9.la (M9.n) (M9.lc)) (.slice M9.aa (M9.an) (M9.ac))) 74 ∧ Fx.Blk w_ g1 6 (Fx.rv .u64 V) 32 ∧ Fx.Blk w_ g3 14 (evY X) 50 ∧ LgO w_ w4.heap.size pa mJ (ix + 1) ∧ RlO w_ w4.heap.size g2 rJ (ix + 1) ∧ Below w4.heap.size w4 w_) ?_ ?_
   ·refine Ws (Wl (Lv (.slice la (nl) (lc)) (x_move rfl h14) (Lv (.int .i64 ((ix : Int))) (x_move rfl h20) ?_)))
    obtain ⟨bq5, oq5, eq5, m53z⟩ := hspX (by omega)
    have lbq5z : bq5 < w4.heap.size := m53z.lt (by omega)
    have m53 := m53z.below b13 lbq5z
    have lbq5 : bq5 < w12.heap.size := m53.lt (by omega)
    refine Lv (.pointer (some ⟨bq5, 22 * ix + oq5, none⟩)) (x_indexS rfl (rfl.trans (congrArg (fun q => Value.slice q (nl) (lc)) eq5)) rfl Try.underlying80 (s := 22) (by kernel_rfl) (by omega) (by omega) (by omega)) (Lv (.pointer (some ⟨bq5, 22 * ix + oq5, none⟩)) (x_field rfl rfl Try.underlying82 rfl (s := 1) (by kernel_rfl) rfl rfl) ?_)
    by_cases c94 : ((xs ix).pr) = true
    ·refine Lv (.bool true) (x_load1 (x := Fx.flat 22 fun k => spY (xs k)) rfl rfl (by kernel_rfl) m53 (i := 22 * ix) (by omega) (by omega) ((Fx.flat_cell (k := ix) (j := 0) (by omega) (by omega) rfl).trans (congrArg Value.bool c94))) (Ln (sN (Wc (b := true) rfl (fun _ => Ws ?_) (fun h => nomatch h))))
     -- region 17 draws
     have hS1 : ∀ k, (fun k => lgS pa m1 k ∨ rlS g2 r1 k) k → w4.heap.size ≤ k := fun k hk => hk.elim (fun h => (m50.ge k h).1) (fun h => (m51.ge k h).1)
     refine Fx.W.reord [0, 1, 2, 3, 4, 7, 8, 9, 10, 11, 5, 12, 6, 13, 14] [0, 0, 0, 0, 0, 4, 2, 0, 0, 0, 0, 0, 1, 2, 0] (Fx.Chg (fun k => lgS pa m1 k ∨ rlS g2 r1 k)) (Fx.Chg.refl _) Fx.Chg.trans (certs := [(6, 5, [5]), (13, 5, [6, 5]), (13, 6, [6]), (14, 6, [6]), (14, 13, [13])]) (by kernel_rfl) (by kernel_rfl) (by kernel_rfl) (by kernel_rfl) (by kernel_rfl) fun wt2 hbwt2 hzwt2 => ?_
     have s10 : Fx.Stp w12.heap.size w12 wt2 := Sb hbwt2
     have m54 := m48.stp s10 (Nat.ne_of_lt (m48.lt))
     have m55 := m49.stp s10 (Nat.ne_of_lt (m49.lt))
     have m56 := m50.up s10.old
     have m57 := m51.up s10.old
     have m58 := m52.stp s10 (Nat.ne_of_lt (m52.lt))
     have m59 := m53.stp s10 (Nat.ne_of_lt (m53.lt (by omega)))
     have b14 := s10.below b13 b13.size b13.size
     refine Rp (.pointer (some ⟨pa, 0, none⟩)) (fun v1 => x_move rfl h18) (Rp (.slice la (nl) (lc)) (fun v1 => x_move rfl h14) (Rp (.int .i64 ((ix : Int))) (fun v1 => x_move rfl h20) (Rp (.pointer (some ⟨bq5, 22 * ix + oq5, none⟩)) (fun v1 => x_indexS rfl (rfl.trans (congrArg (fun q => Value.slice q (nl) (lc)) eq5)) rfl Try.underlying80 (s := 22) (by kernel_rfl) (by omega) (by omega) (by omega)) (Rp (.pointer (some ⟨bq5, 22 * ix + oq5 + 1, none⟩)) (fun v1 => x_field rfl rfl Try.underlying82 rfl (s := 6) (by kernel_rfl) rfl (by show _ + 1 = _; omega)) (Rp (.pointer (some ⟨g2, 0, none⟩)) (fun v1 => x_move rfl h19) (Rp (.slice la (nl) (lc)) (fun v1 => x_move rfl h14) (Rp (.int .i64 ((ix : Int))) (fun v1 => x_move rfl h20) (Rp (.pointer (some ⟨bq5, 22 * ix + oq5, none⟩)) (fun v1 => x_indexS rfl (rfl.trans (congrArg (fun q => Value.slice q (nl) (lc)) eq5)) rfl Try.underlying80 (s := 22) (by kernel_rfl) (by omega) (by omega) (by omega)) (Rp (.pointer (some ⟨bq5, 22 * ix + oq5 + 1, none⟩)) (fun v1 => x_field rfl rfl Try.underlying82 rfl (s := 6) (by kernel_rfl) rfl (by show _ + 1 = _; omega)) (Fx.R.s (.agg (Fx.varr 6 (Fx.rv .u64 ((xs ix).V)))) (x_loadA (x := Fx.flat 22 fun k => spY (xs k)) (y := Fx.rv .u64 ((xs ix).V)) rfl rfl (by kernel_rfl) (by kernel_rfl) m59 (i := 22 * ix + 1) (by omega) (by omega) (fun jq hjq => (Fx.flat_at (k := ix) (j := 1 + jq) (by omega) (by omega)).trans ((fun jq hjq => spY_V _ (by omega) hjq) jq hjq))) ?_))))))))))
     refine Fx.R.read (v := .agg (Fx.varr 6 (Fx.rv .u64 ((xs ix).V)))) (by rfl) (by rfl) (Fx.Chg.refl _ _) (fun v1 hv1 => x_loadA (x := Fx.flat 22 fun k => spY (xs k)) (y := Fx.rv .u64 ((xs ix).V)) rfl rfl (by kernel_rfl) (by kernel_rfl) (m59.chg hv1 (fun h => by have := hS1 _ h; omega)) (i := 22 * ix + 1) (by omega) (by omega) (fun jq hjq => (Fx.flat_at (k := ix) (j := 1 + jq) (by omega) (by omega)).trans ((fun jq hjq => spY_V _ (by omega) hjq) jq hjq))) ?_
     refine Fx.R.make (by rfl) ?_
     refine Fx.L.call (by rfl) (rC (args := [.pointer (some ⟨pa, 0, none⟩), .agg (Fx.varr 6 (Fx.rv .u64 ((xs ix).V)))]) rfl rfl Try.func28 rfl rfl) rfl ((o_prune (xs ix).V m1 _ _ ix _ m56 b14.size (by omega) htw.g.seqUp).mono ?_)
     rintro e9 w13 ⟨he, hc1, ml1, hl3, hprn, _⟩
     rw [htw.gone (r := r1)] at he
     refine ⟨_, he, ?_⟩
     clear he
     have ct1 := m56.chm hc1
     have hl3 := hl3.mono (Nat.le_succ _)
     have m60 := m54.chT ct1 (by decide)
     have m61 := m55.chT ct1 (by decide)
     have m62 := m57.chT ct1 (by decide)
     have m63 := m58.chT ct1 (by decide)
     have b15 := b14.trans (m56.below b14.size hc1)
     refine Ln ⟨(hc1.mono (fun _ h => .inl h)), ?_⟩
     refine Fx.R.make (by rfl) ?_
     refine Fx.L.call (by rfl) (rC (args := [.pointer (some ⟨g2, 0, none⟩), .agg (Fx.varr 6 (Fx.rv .u64 ((xs ix).V)))]) rfl rfl Try.func31 rfl rfl) rfl ((r16_prune (xs ix).V r1 _ _ ix _ m62 b15.size (by omega)).mono ?_)
     rintro e9 w14 ⟨he, hc2, rl1, hl4, hpr1, hpr2⟩
     refine ⟨_, he, ?_⟩
     clear he
     have ct2 := m62.chm hc2
     have hl4 := hl4.mono (Nat.le_succ _)
     have htw2 := htw.prune hprn hpr1 hpr2
     have m64 := m60.chT ct2 (by decide)
     have m65 := m61.chT ct2 (by decide)
     have m66 := m63.chg hc2 nrlg3
     have m67 := hl3.chT ct2 (by decide)
     have b16 := b15.trans (m62.below b15.size hc2)
     refine Ln ⟨(hc2.mono (fun _ h => .inr h)), ?_⟩
     refine Rp (.bool false) (fun v1 => Fx.x_neqF rfl rfl rfl rfl) (Fx.R.nil (sN (Wc (b := false) rfl (fun h => nomatch h) (fun _ => Wk ?_))))
     exact Fx.jnN ⟨ml1, rl1, (G1.filter (keepB (xs ix).V)), htw2, h14, (h15.trans (by first | rfl | exact congrArg (Value.int .i64) (by omega))), h16, h17, h18, h19, (h20.trans (by first | rfl | exact congrArg (Value.int .i64) (by omega))), h21, m64, m65, m66, m67, hl4, b16⟩
    rw [Bool.not_eq_true] at c94
    refine Lv (.bool false) (x_load1 (x := Fx.flat 22 fun k => spY (xs k)) rfl rfl (by kernel_rfl) m53 (i := 22 * ix) (by omega) (by omega) ((Fx.flat_cell (k := ix) (j := 0) (by omega) (by omega) rfl).trans (congrArg Value.bool c94))) (Ln (sN (Wc (b := false) rfl (fun h => nomatch h) (fun _ => Ws ?_))))
    -- region 19 draws
    have hS2 : ∀ k, (fun k => lgS pa m1 k ∨ rlS g2 r1 k) k → w4.heap.size ≤ k := fun k hk => hk.elim (fun h => (m50.ge k h).1) (fun h => (m51.ge k h).1)
    refine Fx.W.reord [0, 3, 1, 4, 2, 5, 6] [0, 4, 2, 0, 1, 2, 0] (Fx.Chg (fun k => lgS pa m1 k ∨ rlS g2 r1 k)) (Fx.Chg.refl _) Fx.Chg.trans (certs := [(2, 1, [1]), (5, 1, [2, 1]), (5, 2, [2]), (6, 2, [2]), (6, 5, [5])]) (by kernel_rfl) (by kernel_rfl) (by kernel_rfl) (by kernel_rfl) (by kernel_rfl) fun wt3 hbwt3 hzwt3 => ?_
    have s11 : Fx.Stp w12.heap.size w12 wt3 := Sb hbwt3
    have m68 := m48.stp s11 (Nat.ne_of_lt (m48.lt))
    have m69 := m49.stp s11 (Nat.ne_of_lt (m49.lt))
    have m70 := m50.up s11.old
    have m71 := m51.up s11.old
    have m72 := m52.stp s11 (Nat.ne_of_lt (m52.lt))
    have b17 := s11.below b13 b13.size b13.size
    refine Rp (.pointer (some ⟨pa, 0, none⟩)) (fun v1 => x_move rfl h18) (Rp (.pointer (some ⟨g2, 0, none⟩)) (fun v1 => x_move rfl h19) (Fx.R.s (.agg (Fx.varr 14 (evY X))) (x_loadA (x := evY X) (y := evY X) rfl h21 (by kernel_rfl) (by kernel_rfl) m72.cel (i := 0) (by omega) (by omega) (fun j _ => by rw [Nat.zero_add])) ?_))
    refine Fx.R.read (v := .agg (Fx.varr 14 (evY X))) (by rfl) (by rfl) (Fx.Chg.refl _ _) (fun v1 hv1 => x_loadA (x := evY X) (y := evY X) rfl h21 (by kernel_rfl) (by kernel_rfl) (m72.chg hv1 (fun h => h.elim nlgg3 nrlg3)).cel (i := 0) (by omega) (by omega) (fun j _ => by rw [Nat.zero_add])) ?_
    refine Fx.R.make (by rfl) ?_
    refine Fx.L.call (by rfl) (rC (args := [.pointer (some ⟨pa, 0, none⟩), .agg (Fx.varr 14 (evY X))]) rfl rfl Try.func19 rfl rfl) rfl ((o_add X m1 _ _ ix _ m70 b17.size (by omega) hX).mono ?_)
    rintro e9 w15 ⟨he, hc3, hok1, hno1⟩
    refine ⟨_, he, ?_⟩
    clear he
    have ct3 := m70.chm hc3
    obtain ⟨ml2, hl5, hadd⟩ := add_m hok1 hno1
    have m74 := m68.chT ct3 (by decide)
    have m75 := m69.chT ct3 (by decide)
    have m76 := m71.chT ct3 (by decide)
    have m77 := m72.chT ct3 (by decide)
    have b18 := b17.trans (m70.below b17.size hc3)
    refine Ln ⟨(hc3.mono (fun _ h => .inl h)), ?_⟩
    refine Fx.R.make (by rfl) ?_
    refine Fx.L.call (by rfl) (rC (args := [.pointer (some ⟨g2, 0, none⟩), .agg (Fx.varr 14 (evY X))]) rfl rfl Try.func20 rfl rfl) rfl ((r16_add X r1 _ _ ix _ m76 b18.size (by omega) hX).mono ?_)
    rintro e9 w16 ⟨he, hc4, hok2, hno2⟩
    rw [htw.addE] at he
    refine ⟨_, he, ?_⟩
    clear he
    have ct4 := m76.chm hc4
    obtain ⟨rl2, hl6, hrad⟩ := add_r hok2 hno2
    have htw2 := htw.add2 hadd hrad hX
    have m78 := m74.chT ct4 (by decide)
    have m79 := m75.chT ct4 (by decide)
    have m80 := m77.chg hc4 nrlg3
    have m81 := hl5.chT ct4 (by decide)
    have b19 := b18.trans (m76.below b18.size hc4)
    refine Ln ⟨(hc4.mono (fun _ h => .inr h)), ?_⟩
    refine Rp (.bool false) (fun v1 => Fx.x_neqF rfl rfl rfl rfl) (Fx.R.nil (sN (Wc (b := false) rfl (fun h => nomatch h) (fun _ => Wk ?_))))
    exact Fx.jnN ⟨ml2, rl2, (addL m1 X G1), htw2, h14, (h15.trans (by first | rfl | exact congrArg (Value.int .i64) (by omega))), h16, h17, h18, h19, (h20.trans (by first | rfl | exact congrArg (Value.int .i64) (by omega))), h21, m78, m79, m80, m81, hl6, b19⟩
   rintro f4 w17 ⟨mJ, rJ, GJ, htwJ, h22, h23, h24, h25, h26, h27, h28, h29, m82, m83, m84, m85, m86, b20⟩
   refine Ws (Wl (Lv (.pointer (some ⟨pa, 0, none⟩)) (x_move rfl h26) (Lv (.pointer (some ⟨g3, 0, none⟩)) (x_field rfl h29 Try.underlying50 rfl (s := 1) (by kernel_rfl) rfl rfl) (Lv (.int .i64 (X.o)) (x_load1 (x := evY X) rfl rfl (by kernel_rfl) m84.cel (i := 0) (by omega) (by omega) rfl) (Lv (.pointer (some ⟨g3, 1, none⟩)) (x_field rfl h29 Try.underlying50 rfl (s := 1) (by kernel_rfl) rfl (by show _ + 1 = _; omega)) (Lv (.int .u64 (X.seq)) (x_load1 (x := evY X) rfl rfl (by kernel_rfl) m84.cel (i := 1) (by omega) (by omega) rfl) (Fx.L.call (by rfl) (rC (args := [.pointer (some ⟨pa, 0, none⟩), .int .i64 (X.o), .int .u64 (X.seq)]) rfl rfl Try.func32 rfl rfl) rfl ((o_get X.o X.seq mJ _ _ (ix + 1) _ m85 (by omega) hX.seq htwJ.g.seqUp).mono ?_))))))))
   rintro e9 w18 ⟨vg, bg, he, hg1, hb4⟩
   refine ⟨_, he, ?_⟩
   clear he
   have s12 := Sb hb4
   have m87 := m82.stp s12 (Nat.ne_of_lt (m82.lt))
   have m88 := m83.stp s12 (Nat.ne_of_lt (m83.lt))
   have m89 := m84.stp s12 (Nat.ne_of_lt (m84.lt))
   have m90 := m85.up s12.old
   have m91 := m86.up s12.old
   have b21 := s12.below b20 b20.size b20.size
   refine Lv (.tuple #[.agg (Fx.varr 14 (evY vg)), .bool bg]) (x_move rfl rfl) (Lv (.agg (Fx.varr 14 (evY vg))) (Fx.x_extract rfl rfl rfl) (Lv (.bool bg) (Fx.x_extract rfl rfl rfl) (Fx.L.new (m := 14) (y := evY zeroE) (by rfl) rfl (by kernel_rfl) rfl fun g4 w19 eg4 m92 s13 z6 => ?_)))
   have m93 := m87.stp s13 (Nat.ne_of_lt (m87.lt))
   have m94 := m88.stp s13 (Nat.ne_of_lt (m88.lt))
   have m95 := m89.stp s13 (Nat.ne_of_lt (m89.lt))
   have m96 := m90.up s13.old
   have m97 := m91.up s13.old
   have b22 := s13.below b21 b21.size b21.size
   have lg4 : w4.heap.size ≤ g4 := by rw [eg4]; exact b21.size
   have ng4m93 : pw ≠ g4 := by rw [eg4]; exact Nat.ne_of_lt (m87.lt)
   have ng4m94 : g1 ≠ g4 := by rw [eg4]; exact Nat.ne_of_lt (m88.lt)
   have ng4m95 : g3 ≠ g4 := by rw [eg4]; exact Nat.ne_of_lt (m89.lt)
   have tg4 : g4 < w19.heap.size := m92.lt
   have nrlg4 : ¬ rlS g2 rJ g4 := by rw [eg4]; exact fun h => Nat.lt_irrefl _ (m91.ge _ h).2
   have nlgg4 : ¬ lgS pa mJ g4 := by rw [eg4]; exact fun h => Nat.lt_irrefl _ (m90.ge _ h).2
   clear eg4
   refine Fx.L.storeA (x := evY zeroE) (y := evY vg) (by rfl) rfl rfl rfl rfl (evY_one _) (by kernel_rfl) m92 (i := 0) (by omega) fun w20 m98 s14 z7 => ?_
   have m99 : Fx.Blk w20 g4 14 (evY vg) 50 := Fx.ovr_all m98
   have hct3 := Fx.ChT.of_stp s14 m92.ty
   have m100 := m93.chT hct3 (by decide)
   have m101 := m94.chT hct3 (by decide)
   have m102 := m95.stp s14 (by omega)
   have m103 := m96.chT hct3 (by decide)
   have m104 := m97.chg (Fx.Chg.of_stp s14) (fun k hk e => nrlg4 (e ▸ hk))
   have b23 := s14.below b22 b22.size (by omega)
   refine Lv (.bool bg) (x_assign rfl rfl) (Ln (sN (Ws (Wl (Lv (.pointer (some ⟨g2, 0, none⟩)) (x_move rfl h27) (Lv (.pointer (some ⟨g3, 0, none⟩)) (x_field rfl h29 Try.underlying50 rfl (s := 1) (by kernel_rfl) rfl rfl) (Lv (.int .i64 (X.o)) (x_load1 (x := evY X) rfl rfl (by kernel_rfl) m102.cel (i := 0) (by omega) (by omega) rfl) (Lv (.pointer (some ⟨g3, 1, none⟩)) (x_field rfl h29 Try.underlying50 rfl (s := 1) (by kernel_rfl) rfl (by show _ + 1 = _; omega)) (Lv (.int .u64 (X.seq)) (x_load1 (x := evY X) rfl rfl (by kernel_rfl) m102.cel (i := 1) (by omega) (by omega) rfl) (Fx.L.call (by rfl) (rC (args := [.pointer (some ⟨g2, 0, none⟩), .int .i64 (X.o), .int .u64 (X.seq)]) rfl rfl Try.func33 rfl rfl) rfl ((r16_get X.o X.seq rJ _ _ (ix + 1) _ m104 (by omega)).mono ?_)))))))))))
   rintro e9 w21 ⟨v2, b2, he, hg2, hb5⟩
   obtain ⟨rfl, rfl⟩ := htwJ.get hg1 hg2
   refine ⟨_, he, ?_⟩
   clear he
   have s15 := Sb hb5
   have hv1w := htwJ.getW hg1
   have m105 := m100.stp s15 (Nat.ne_of_lt (m100.lt))
   have m106 := m101.stp s15 (Nat.ne_of_lt (m101.lt))
   have m107 := m102.stp s15 (Nat.ne_of_lt (m102.lt))
   have m108 := m103.up s15.old
   have m109 := m104.up s15.old
   have m110 := m99.stp s15 (Nat.ne_of_lt (m99.lt))
   have b24 := s15.below b23 b23.size b23.size
   refine Lv (.tuple #[.agg (Fx.varr 14 (evY vg)), .bool bg]) (x_move rfl rfl) (Lv (.agg (Fx.varr 14 (evY vg))) (Fx.x_extract rfl rfl rfl) (Lv (.bool bg) (Fx.x_extract rfl rfl rfl) (Fx.L.new (m := 14) (y := evY zeroE) (by rfl) rfl (by kernel_rfl) rfl fun g5 w22 eg5 m111 s16 z8 => ?_)))
   have m112 := m105.stp s16 (Nat.ne_of_lt (m105.lt))
   have m113 := m106.stp s16 (Nat.ne_of_lt (m106.lt))
   have m114 := m107.stp s16 (Nat.ne_of_lt (m107.lt))
   have m115 := m108.up s16.old
   have m116 := m109.up s16.old
   have m117 := m110.stp s16 (Nat.ne_of_lt (m110.lt))
   have b25 := s16.below b24 b24.size b24.size
   have lg5 : w4.heap.size ≤ g5 := by rw [eg5]; exact b24.size
   have ng5m112 : pw ≠ g5 := by rw [eg5]; exact Nat.ne_of_lt (m105.lt)
   have ng5m113 : g1 ≠ g5 := by rw [eg5]; exact Nat.ne_of_lt (m106.lt)
   have ng5m114 : g3 ≠ g5 := by rw [eg5]; exact Nat.ne_of_lt (m107.lt)
   have ng5m117 : g4 ≠ g5 := by rw [eg5]; exact Nat.ne_of_lt (m110.lt)
   have tg5 : g5 < w22.heap.size := m111.lt
   have nrlg5 : ¬ rlS g2 rJ g5 := by rw [eg5]; exact fun h => Nat.lt_irrefl _ (m109.ge _ h).2
   have nlgg5 : ¬ lgS pa mJ g5 := by rw [eg5]; exact fun h => Nat.lt_irrefl _ (m108.ge _ h).2
   clear eg5
   refine Fx.L.storeA (x := evY zeroE) (y := evY vg) (by rfl) rfl rfl rfl rfl (evY_one _) (by kernel_rfl) m111 (i := 0) (by omega) fun w23 m118 s17 z9 => ?_
   have m119 : Fx.Blk w23 g5 14 (evY vg) 50 := Fx.ovr_all m118
   have hct4 := Fx.ChT.of_stp s17 m111.ty
   have m120 := m112.chT hct4 (by decide)
   have m121 := m113.chT hct4 (by decide)
   have m122 := m114.stp s17 (by omega)
   have m123 := m115.chT hct4 (by decide)
   have m124 := m116.chg (Fx.Chg.of_stp s17) (fun k hk e => nrlg5 (e ▸ hk))
   have m125 := m117.stp s17 (by omega)
   have b26 := s17.below b25 b25.size (by omega)
   refine Lv (.bool bg) (x_assign rfl rfl) (Ln (sN (Ws ?_)))
   have hkrJ := m123.kr
   have hrbJ := m124.blk
   have hlnJ := m124.len
   -- region 23 draws
   refine Fx.W.quiet (fun v1 => Below w23.heap.size w23 v1) (by kernel_rfl) (by kernel_rfl) (Below.refl _ _).drew ?_
   refine Qv (.agg (Fx.varr 14 (evY vg))) (fun v1 hv1 => x_loadA (x := evY vg) (y := evY vg) rfl rfl (by kernel_rfl) (by kernel_rfl) (m125.cel.below hv1 (by have := m125.lt; omega)) (i := 0) (by omega) (by omega) (fun j _ => by rw [Nat.zero_add])) (Qv (.agg (Fx.varr 14 (evY vg))) (fun v1 hv1 => x_loadA (x := evY vg) (y := evY vg) rfl rfl (by kernel_rfl) (by kernel_rfl) (m119.cel.below hv1 (by have := m119.lt; omega)) (i := 0) (by omega) (by omega) (fun j _ => by rw [Nat.zero_add])) (Qv (.bool false) (fun v1 hv1 => Fx.x_neqA (n := 14) (ks := [(some .i64), (some .u64), (some .u64), (some .u64), (some .u64), (some .u64), (some .u64), (some .u64), (some .u8), (some .u64), (some .i64), (some .i64), (some .u64), (some .u64)]) (X := evY vg) (Y := evY vg) 12 true rfl rfl rfl (Fx.yesb (fun _ _ => rfl)) (kd_ev hv1w) (kd_ev hv1w) rfl (by kernel_rfl) (by kernel_rfl) (by kernel_rfl) (by kernel_rfl) (by kernel_rfl)) (Qv (.bool false) (fun v1 hv1 => x_move rfl rfl) (Qv (.bool bg) (fun v1 hv1 => x_move rfl rfl) (Qv (.bool bg) (fun v1 hv1 => x_move rfl rfl) (Qv (.bool false) (fun v1 hv1 => Fx.x_neqB rfl rfl rfl (by kernel_rfl) (by cases bg <;> rfl)) (Qv (.bool false) (fun v1 hv1 => x_pickF rfl rfl rfl) (Qv (.bool false) (fun v1 hv1 => x_move rfl rfl) (Qv (.pointer (some ⟨pa, 0, none⟩)) (fun v1 hv1 => x_move rfl h26) (Fx.Qt.call (v := .agg (Fx.varr 6 (Fx.rv .u64 mJ.K))) (by rfl) (fun v1 hv1 => rC (args := [.pointer (some ⟨pa, 0, none⟩)]) rfl rfl Try.func27 rfl rfl) rfl (fun v1 hv1 => (o_known mJ _ _ _ _ (m123.up hv1)).mono fun e v2 h => ⟨h.1, bch hv1 h.2⟩) ?_))))))))))
   refine Qv (.pointer (some ⟨g2, 0, none⟩)) (fun v1 hv1 => x_move rfl h27) (Qv (.pointer (some ⟨g2, 0, none⟩)) (fun v1 hv1 => x_nil rfl rfl) (Qv (.pointer (some ⟨g2, 1, none⟩)) (fun v1 hv1 => x_field rfl rfl Try.underlying48 rfl (s := 6) (by kernel_rfl) rfl (by show _ + 1 = _; omega)) (Qv (.agg (Fx.varr 6 (Fx.rv .u64 rJ.K))) (fun v1 hv1 => x_loadA (x := rlY rJ) (y := Fx.rv .u64 rJ.K) rfl rfl (by kernel_rfl) (by kernel_rfl) (hrbJ.cel.below hv1 (by have := hrbJ.lt; omega)) (i := 1) (by omega) (by omega) (fun j hj => rlY_K _ (by omega))) (Qv (.bool false) (fun v1 hv1 => Fx.x_neqA (n := 6) (ks := List.replicate 6 (some .u64)) (X := Fx.rv .u64 mJ.K) (Y := Fx.rv .u64 rJ.K) 12 true rfl rfl rfl (Fx.yesb (fun j _ => by rw [htwJ.K])) (hkrJ.kd) (by rw [htwJ.K]; exact hkrJ.kd) rfl (by kernel_rfl) (by kernel_rfl) (by kernel_rfl) (by kernel_rfl) (by kernel_rfl)) (Qv (.bool false) (fun v1 hv1 => x_pickF rfl rfl rfl) (Qv (.bool false) (fun v1 hv1 => x_move rfl rfl) (Qv (.pointer (some ⟨pa, 0, none⟩)) (fun v1 hv1 => x_move rfl h26) (Fx.Qt.call (v := .int .i64 (((lenN mJ 6 : Nat) : Int))) (by rfl) (fun v1 hv1 => rC (args := [.pointer (some ⟨pa, 0, none⟩)]) rfl rfl Try.func30 rfl rfl) rfl (fun v1 hv1 => (o_len mJ _ _ _ _ (m123.up hv1) (by omega)).mono fun e v2 h => ⟨h.1, bch hv1 h.2⟩) ?_))))))))
   refine Qv (.pointer (some ⟨g2, 0, none⟩)) (fun v1 hv1 => x_move rfl h27) (Qv (.pointer (some ⟨g2, 0, none⟩)) (fun v1 hv1 => x_nil rfl rfl) (Qv (.pointer (some ⟨g2, 0, none⟩)) (fun v1 hv1 => x_field rfl rfl Try.underlying48 rfl (s := 1) (by kernel_rfl) rfl rfl) (Qv (.slice rJ.a (rJ.R.length) (rJ.c)) (fun v1 hv1 => x_load1 (x := rlY rJ) rfl rfl (by kernel_rfl) (hrbJ.cel.below hv1 (by have := hrbJ.lt; omega)) (i := 0) (by omega) (by omega) rfl) (Qv (.int .i64 ((rJ.R.length : Int))) (fun v1 hv1 => x_len rfl rfl rfl (by kernel_rfl)) (Qv (.bool false) (fun v1 hv1 => Fx.x_neqF rfl rfl rfl htwJ.len) (Qv (.bool false) (fun v1 hv1 => x_pickF rfl rfl rfl) (Fx.Qt.nil ?_)))))))
   intro wb1 hbwb1
   have s18 : Fx.Stp w23.heap.size w23 wb1 := Sb hbwb1
   have m126 := m120.stp s18 (Nat.ne_of_lt (m120.lt))
   have m127 := m121.stp s18 (Nat.ne_of_lt (m121.lt))
   have m129 := m123.up s18.old
   have m130 := m124.up s18.old
   have b27 := s18.below b26 b26.size b26.size
   refine sN (Wc (b := false) rfl (fun h => nomatch h) (fun _ => Wk (Fx.blkN (sN (Wl (Lv (.int .i64 ((ix : Int))) (x_move rfl h28) (Lv (.int .i64 ((ix : Int) + 1)) (Fx.x_add rfl rfl rfl (Fx.i64e (by omega) (by omega))) (Lv (.int .i64 ((ix : Int) + 1)) (x_assign rfl rfl) (Ln (Fx.lpN ⟨ix + 1, mJ, rJ, GJ, by omega, htwJ, h22, (h23.trans (by first | rfl | exact congrArg (Value.int .i64) (by omega))), h24, h25, h26, h27, (by first | rfl | exact congrArg (Value.int .i64) (by omega)), m126, m127, m129, m130, b27⟩ ?_))))))))))
   show (nl - (intOf ((.int .i64 ((ix : Int) + 1)))).toNat) < _
   simp only [h13, intOf]; omega
  refine Lv (.bool false) (Fx.x_lssF rfl rfl rfl c53) (Ln (sN (Wc (b := false) rfl (fun h => nomatch h) (fun _ => Fx.W.exit (Fx.seqX (Fx.lpX (Fx.blkX (sN (Ws ?_)))))))))
  have hln1 := m18.len
  -- region 25 draws
  refine Fx.W.reord [0, 2, 4, 6, 1, 5, 3, 7, 8, 9, 10, 11, 13, 14, 12, 15, 16, 17, 18, 19, 20, 21] [0, 4, 0, 2, 0, 1, 0, 2, 2, 0, 0, 0, 2, 0, 0, 2, 2, 0, 0, 2, 0, 0] Fx.Mk Fx.Mk.refl Fx.Mk.trans (certs := [(3, 1, [1]), (7, 1, [3, 1]), (8, 1, [3, 1]), (12, 1, [9, 8, 3, 1]), (15, 1, [9, 8, 3, 1]), (16, 1, [9, 8, 3, 1]), (19, 1, [18, 17, 9, 8, 3, 1]), (7, 3, [3]), (8, 3, [3]), (9, 3, [8, 3]), (10, 3, [9, 8, 3]), (11, 3, [9, 8, 3]), (13, 3, [9, 8, 3]), (14, 3, [9, 8, 3]), (12, 3, [9, 8, 3]), (15, 3, [9, 8, 3]), (16, 3, [9, 8, 3]), (17, 3, [9, 8, 3]), (18, 3, [17, 9, 8, 3]), (19, 3, [18, 17, 9, 8, 3]), (20, 3, [18, 17, 9, 8, 3]), (21, 3, [3]), (8, 7, [7]), (9, 7, [8, 7]), (10, 7, [9, 8, 7]), (11, 7, [9, 8, 7]), (13, 7, [9, 8, 7]), (14, 7, [9, 8, 7]), (12, 7, [9, 8, 7]), (15, 7, [9, 8, 7]), (16, 7, [9, 8, 7]), (17, 7, [9, 8, 7]), (18, 7, [17, 9, 8, 7]), (19, 7, [18, 17, 9, 8, 7]), (20, 7, [18, 17, 9, 8, 7]), (21, 7, [7]), (9, 8, [8]), (10, 8, [9, 8]), (11, 8, [9, 8]), (13, 8, [9, 8]), (14, 8, [9, 8]), (12, 8, [9, 8]), (15, 8, [9, 8]), (16, 8, [9, 8]), (17, 8, [9, 8]), (18, 8, [17, 9, 8]), (19, 8, [18, 17, 9, 8]), (20, 8, [18, 17, 9, 8]), (21, 8, [8]), (15, 12, [12]), (16, 12, [12]), (17, 12, [16, 12]), (18, 12, [16, 12]), (19, 12, [18, 16, 12]), (20, 12, [18, 16, 12]), (21, 12, [12]), (16, 15, [15]), (17, 15, [16, 15]), (18, 15, [16, 15]), (19, 15, [18, 16, 15]), (20, 15, [18, 16, 15]), (21, 15, [15]), (17, 16, [16]), (18, 16, [16]), (19, 16, [18, 16]), (20, 16, [18, 16]), (21, 16, [16]), (20, 19, [19]), (21, 19, [19])]) (by kernel_rfl) (by kernel_rfl) (by kernel_rfl) (by kernel_rfl) (by kernel_rfl) fun wt4 hbwt4 hzwt4 => ?_
  have s19 : Fx.Stp w8.heap.size w8 wt4 := Sb hbwt4
  have m135 := m16.stp s19 (Nat.ne_of_lt (m16.lt))
  have m136 := m17.up s19.old
  have m137 := m18.up s19.old
  have b28 := s19.below b8 b8.size b8.size
  refine Rp (.pointer (some ⟨pa, 0, none⟩)) (fun v1 => x_move rfl h11) (Rp (.int .i64 (most)) (fun v1 => x_move rfl h8) (Rp (.pointer (some ⟨g2, 0, none⟩)) (fun v1 => x_move rfl h12) (Rp (.int .i64 (most)) (fun v1 => x_move rfl h8) (Fx.R.s (.agg (Fx.varr 6 (Fx.rv .u64 V))) (x_loadA (x := Fx.rv .u64 V) (y := Fx.rv .u64 V) rfl h9 (by kernel_rfl) (by kernel_rfl) m135.cel (i := 0) (by omega) (by omega) (fun j _ => by rw [Nat.zero_add])) ?_))))
  refine Fx.R.read (v := .agg (Fx.varr 6 (Fx.rv .u64 V))) (by rfl) (by rfl) (Fx.Mk.refl _) (fun v1 hv1 => x_loadA (x := Fx.rv .u64 V) (y := Fx.rv .u64 V) rfl h9 (by kernel_rfl) (by kernel_rfl) (m135.cel.below hv1 (by have := m135.lt; omega)) (i := 0) (by omega) (by omega) (fun j _ => by rw [Nat.zero_add])) ?_
  refine Fx.R.make (by rfl) ?_
  refine Fx.L.call (by rfl) (rC (args := [.pointer (some ⟨pa, 0, none⟩), .agg (Fx.varr 6 (Fx.rv .u64 V)), .int .i64 (most)]) rfl rfl Try.func29 rfl rfl) rfl ((t_since V most m136 (by omega) htw).mono ?_)
  rintro e9 w24 ⟨a1, c1, he, ho1, hb6⟩
  refine ⟨_, he, ?_⟩
  clear he
  have s20 := Sb hb6
  have m140 := m136.up s20.old
  have m141 := m137.up s20.old
  have b29 := s20.below b28 b28.size b28.size
  refine Ln ⟨s20.old, ?_⟩
  refine Fx.R.make (by rfl) ?_
  refine Fx.L.call (by rfl) (rC (args := [.pointer (some ⟨g2, 0, none⟩), .agg (Fx.varr 6 (Fx.rv .u64 V)), .int .i64 (most)]) rfl rfl Try.func25 rfl rfl) rfl ((r16_since V most r1 _ _ ix _ m141 (by omega)).mono ?_)
  rintro e9 w25 ⟨a2, c2, he, ho2, hb7⟩
  refine ⟨_, he, ?_⟩
  clear he
  have s21 := Sb hb7
  have m144 := m140.up s21.old
  have m145 := m141.up s21.old
  have m146 := ho1.stp s21 (ho1.notNew (Nat.le_refl _))
  have b30 := s21.below b29 b29.size b29.size
  refine Ln ⟨s21.old, ?_⟩
  refine Fx.R.make (by rfl) ?_
  refine Fx.L.call (by rfl) (rC (args := [.slice a1 ((sinR r1 V most).length) (c1), .slice a2 ((sinR r1 V most).length) (c2)]) rfl rfl Try.func23 rfl rfl) rfl ((r_same (sinR r1 V most).length (fun q => (sinR r1 V most).getD q zeroE) (fun q => (sinR r1 V most).getD q zeroE) a1 a2 c1 c2 _ (Nat.le_trans sinR_len (by omega)) (fun _ _ => rfl) htw.sinW m146.arr ho2.arr).mono ?_)
  rintro e w26 ⟨he, hb8⟩
  refine ⟨.bool true, by rw [he], ?_⟩
  clear he
  have s22 := Sb hb8
  have m149 := m144.up s22.old
  have m150 := m145.up s22.old
  have b31 := s22.below b30 b30.size b30.size
  refine Ln ⟨s22.old, ?_⟩
  refine Rp (.bool true) (fun v1 => x_move rfl rfl) (Rp (.pointer (some ⟨pa, 0, none⟩)) (fun v1 => x_move rfl h11) (Rp (.agg (Fx.varr 6 (Fx.rv .u64 (fun _ => 0)))) (fun v1 => Fx.x_buildArr (vs := []) (s := 1) (m := 6) (x := Fx.rv .u64 (fun _ => 0)) rfl rfl Try.underlying32 (by kernel_rfl) (by kernel_rfl) (by rfl)) (Rp (.pointer (some ⟨g2, 0, none⟩)) (fun v1 => x_move rfl h12) (Rp (.agg (Fx.varr 6 (Fx.rv .u64 (fun _ => 0)))) (fun v1 => Fx.x_buildArr (vs := []) (s := 1) (m := 6) (x := Fx.rv .u64 (fun _ => 0)) rfl rfl Try.underlying32 (by kernel_rfl) (by kernel_rfl) (by rfl)) (Fx.R.make (by rfl) ?_)))))
  refine Fx.L.call (by rfl) (rC (args := [.pointer (some ⟨pa, 0, none⟩), .agg (Fx.varr 6 (Fx.rv .u64 (fun _ => 0))), .int .i64 (1000)]) rfl rfl Try.func29 rfl rfl) rfl ((t_since (fun _ => 0) 1000 m149 (by omega) htw).mono ?_)
  rintro e9 w27 ⟨a3, c3, he, ho3, hb9⟩
  refine ⟨_, he, ?_⟩
  clear he
  have s23 := Sb hb9
  have m156 := m150.up s23.old
  have b32 := s23.below b31 b31.size b31.size
  refine Ln ⟨s23.old, ?_⟩
  refine Fx.R.make (by rfl) ?_
  refine Fx.L.call (by rfl) (rC (args := [.pointer (some ⟨g2, 0, none⟩), .agg (Fx.varr 6 (Fx.rv .u64 (fun _ => 0))), .int .i64 (1000)]) rfl rfl Try.func25 rfl rfl) rfl ((r16_since (fun _ => 0) 1000 r1 _ _ ix _ m156 (by omega)).mono ?_)
  rintro e9 w28 ⟨a4, c4, he, ho4, hb10⟩
  refine ⟨_, he, ?_⟩
  clear he
  have s24 := Sb hb10
  have m165 := ho3.stp s24 (ho3.notNew (Nat.le_refl _))
  have b33 := s24.below b32 b32.size b32.size
  refine Ln ⟨s24.old, ?_⟩
  refine Fx.R.make (by rfl) ?_
  refine Fx.L.call (by rfl) (rC (args := [.slice a3 ((sinR r1 (fun _ => 0) 1000).length) (c3), .slice a4 ((sinR r1 (fun _ => 0) 1000).length) (c4)]) rfl rfl Try.func23 rfl rfl) rfl ((r_same (sinR r1 (fun _ => 0) 1000).length (fun q => (sinR r1 (fun _ => 0) 1000).getD q zeroE) (fun q => (sinR r1 (fun _ => 0) 1000).getD q zeroE) a3 a4 c3 c4 _ (Nat.le_trans sinR_len (by omega)) (fun _ _ => rfl) htw.sinW m165.arr ho4.arr).mono ?_)
  rintro e w29 ⟨he, hb11⟩
  refine ⟨.bool true, by rw [he], ?_⟩
  clear he
  have s25 := Sb hb11
  have b34 := s25.below b33 b33.size b33.size
  refine Ln ⟨s25.old, ?_⟩
  refine Rp (.bool true) (fun v1 => x_pickT rfl rfl rfl) (Rp (.bool true) (fun v1 => x_move rfl rfl) (Fx.R.make (by rfl) ?_))
  refine Fx.L.call (by rfl) (rC (args := []) rfl rfl Try.func26 rfl rfl) rfl ((works16_any _).mono ?_)
  rintro e w30 ⟨he, hb12⟩
  refine ⟨.bool true, by rw [he], ?_⟩
  clear he
  have s26 := Sb hb12
  have b35 := s26.below b34 b34.size b34.size
  refine Ln ⟨s26.old, ?_⟩
  refine Rp (.bool true) (fun v1 => x_pickT rfl rfl rfl) (Rp (.bool true) (fun v1 => x_assign rfl rfl) (Fx.R.nil (sN (Wr (⟨.bool true, rV Try.results6 (by exact rfl), ?_⟩)))))
  exact ⟨rfl, (bchB b4 b35 b4.size)⟩
 rw [Bool.not_eq_true] at c22
 refine Fx.L.call (by rfl) (rC (args := [.slice aa0 (na) (ca)]) rfl rfl Try.func9 rfl rfl) rfl ((l_few _ _ _ _).mono ?_)
 rintro e v1 ⟨he, hv1⟩
 subst v1
 refine ⟨.bool false, by rw [he, c22], ?_⟩
 clear he
 refine Lv (.bool true) (Fx.x_notT rfl rfl) (Lv (.bool true) (x_move rfl rfl) (Lk (by rfl) rfl (Lk (by rfl) rfl (Lk (by rfl) rfl (Lv (.bool true) (x_pickT rfl rfl rfl) (Ln (sN (Wc (b := true) rfl (fun _ => Ws (Wl (Fx.L.call (by rfl) (rC (args := []) rfl rfl Try.func26 rfl rfl) rfl ((works16_any _).mono ?_)))) (fun h => nomatch h)))))))))
 rintro e w31 ⟨he, hb13⟩
 refine ⟨.bool true, by rw [he], ?_⟩
 clear he
 have s27 := Sb hb13
 have b36 := s27.below b1 b1.size b1.size
 refine Lv (.bool true) (x_assign rfl rfl) (Ln (sN (Wr (sR (⟨.bool true, rV Try.results6 (by exact rfl), ?_⟩)))))
 exact ⟨rfl, b36⟩
end Go.Proofs.Ytleajegppehbdaa
namespace Go.Proofs.Ytleajegppehbdaa
open Go.RowKit Go.WideShapes
theorem cell_int {P : Program} {w : World} {r : Reach} {base : Nat} {u : TypeId} {k : IntKind} {v : Value} (hu : P.underlying u = some (.int k)) (h : Cell.okWide P w r base u v) : ∃ n, v = .int k n ∧ k.has n := by
  simp only [hu, Cell.okWide] at h
  cases v <;> simp_all [Cell.ok]
end Go.Proofs.Ytleajegppehbdaa
namespace Go.Proofs.Ytleajegppehbdaa
open Go.RowKit Go.WideShapes Go.ChangeShapes Go.Deep
theorem spotless1 {w : World} {x : Addr} {v : Value} (h : w.cell? x = some v) : ∃ b off, x = ⟨b, off, none⟩ := by
  obtain ⟨b, off, spot⟩ := x
  cases spot with
  | none => exact ⟨b, off, rfl⟩
  | some q =>
    unfold World.cell? at h
    simp at h
    split at h <;> cases h
def At4 (k0 k1 k2 k3 : IntKind) (w : World) (b off : Nat) (x0 x1 x2 x3 : Int) : Prop :=
  w.cell? ⟨b, off, none⟩ = some (.int k0 x0) ∧ w.cell? ⟨b, off + 1, none⟩ = some (.int k1 x1) ∧ w.cell? ⟨b, off + 2, none⟩ = some (.int k2 x2) ∧ w.cell? ⟨b, off + 3, none⟩ = some (.int k3 x3)
def Wf4 (k0 k1 k2 k3 : IntKind) (x0 x1 x2 x3 : Int) : Prop := (Lit.int k0 x0).wf = true ∧ (Lit.int k1 x1).wf = true ∧ (Lit.int k2 x2).wf = true ∧ (Lit.int k3 x3).wf = true
def Sl4 (k0 k1 k2 k3 : IntKind) (w : World) (a : Option Addr) (len : Nat) (X0 X1 X2 X3 : Nat → Int) : Prop :=
  ∀ i, i < len → (∃ b off, a = some ⟨b, off, none⟩ ∧ At4 k0 k1 k2 k3 w b (off + i * 4) (X0 i) (X1 i) (X2 i) (X3 i)) ∧ Wf4 k0 k1 k2 k3 (X0 i) (X1 i) (X2 i) (X3 i)
theorem Sl4.up {k0 k1 k2 k3 : IntKind} {w w' : World} {a : Option Addr} {len : Nat} {X0 X1 X2 X3 : Nat → Int} (h : Sl4 k0 k1 k2 k3 w a len X0 X1 X2 X3) (hb : Below w.heap.size w w') : Sl4 k0 k1 k2 k3 w' a len X0 X1 X2 X3 := by
  intro i hi
  obtain ⟨⟨b, off, e, q0, q1, q2, q3⟩, hw⟩ := h i hi
  have hlt := block_lt_of_cell q0
  dsimp only at hlt
  exact ⟨⟨b, off, e, (hb.cell (p := ⟨b, off + i * 4, none⟩) hlt).trans q0, (hb.cell (p := ⟨b, off + i * 4 + 1, none⟩) hlt).trans q1, (hb.cell (p := ⟨b, off + i * 4 + 2, none⟩) hlt).trans q2, (hb.cell (p := ⟨b, off + i * 4 + 3, none⟩) hlt).trans q3⟩, hw⟩
end Go.Proofs.Ytleajegppehbdaa
namespace Go.Proofs.Ytleajegppehbdaa
open Go.RowKit Go.WideShapes Go.ChangeShapes Go.Deep
theorem okWide_flatA {P : Program} {w : World} {r : Reach} {base : Nat} {t u e : TypeId} {k : IntKind} {n len : Nat} {v : Value} (ht : P.underlying t = some (.array len e)) (hct : P.cellTypes P.depth t = some (List.replicate n u)) (hn : P.cellsOf t = n)
    (hu : P.underlying u = some (.int k)) (h : Value.okWide P w r base t v) : ∃ x : Nat → Int, v = .agg (Fx.varr n (Fx.rv k x)) ∧ ∀ p, p < n → k.has (x p) := by
  unfold Value.okWide at h
  rw [ht] at h
  obtain ⟨cs, rfl, hs, ts, hts, _, hc⟩ := h
  rw [hct] at hts
  obtain rfl := Option.some.inj hts
  rw [hn] at hs
  have each : ∀ p, ∃ m : Int, p < n → cs[p]? = some (.int k m) ∧ k.has m := by
    intro p
    by_cases hp : p < n
    · obtain ⟨u', hu', hk⟩ := hc p cs[p] (by simp [hs, hp])
      rw [List.length_replicate, Nat.mod_eq_of_lt hp, List.getElem?_replicate, if_pos hp] at hu'
      obtain rfl := Option.some.inj hu'
      obtain ⟨m, hm, hh⟩ := cell_int hu hk
      exact ⟨m, fun _ => ⟨by rw [Array.getElem?_eq_getElem (by omega), hm], hh⟩⟩
    · exact ⟨0, fun h => absurd h hp⟩
  refine ⟨fun p => Classical.choose (each p), ?_, fun p hp => (Classical.choose_spec (each p) hp).2⟩
  congr 1
  apply Array.ext_getElem?
  intro p
  by_cases hp : p < n
  · rw [Fx.varr_get _ hp]; exact (Classical.choose_spec (each p) hp).1
  rw [Array.getElem?_eq_none (by omega), Array.getElem?_eq_none (by rw [Fx.varr_size]; omega)]
end Go.Proofs.Ytleajegppehbdaa
namespace Go.Proofs.Ytleajegppehbdaa
open Go.RowKit Go.WideShapes Go.ChangeShapes Go.Deep
def flatKb (P : Program) : Nat → TypeId → Option (List (Option IntKind))
  | 0, _ => none
  | d + 1, t => match P.underlying t with
    | some (.int k) => some [some k]
    | some .bool => some [none]
    | some (.array n e) => (flatKb P d e).bind fun ks => if P.cellsOf e = ks.length ∧ P.cellsOf t = n * ks.length then some (List.replicate n ks).flatten else none
    | some (.struct fs) => (fs.toList.foldlM (fun l f => (flatKb P d f.type).bind fun ks => if f.offset = l.length ∧ P.cellsOf f.type = ks.length then some (l ++ ks) else none) []).bind fun l => if P.cellsOf t = l.length then some l else none
    | _ => none
def OkV (k : Option IntKind) (v : Value) : Prop := match k with | some k => ∃ n, v = .int k n ∧ (Lit.int k n).wf = true | none => ∃ b, v = .bool b
def FlatV (ks : List (Option IntKind)) (cs : List Value) : Prop := cs.length = ks.length ∧ ∀ (j : Nat) (k : Option IntKind), ks[j]? = some k → ∃ v, cs[j]? = some v ∧ OkV k v
theorem flatb_rep {ks : List (Option IntKind)} {k : Option IntKind} : ∀ (n j : Nat), (List.replicate n ks).flatten[j]? = some k → ks[j % ks.length]? = some k ∧ j / ks.length < n
  | 0, j, h => by simp at h
  | n + 1, j, h => by
    rw [List.replicate_succ, List.flatten_cons] at h
    by_cases hj : j < ks.length
    · rw [List.getElem?_append_left hj] at h
      rw [Nat.mod_eq_of_lt hj, Nat.div_eq_of_lt hj]; exact ⟨h, by omega⟩
    · rw [List.getElem?_append_right (by omega)] at h
      have hs : 0 < ks.length := by
        rcases Nat.eq_zero_or_pos ks.length with e | e
        · obtain ⟨h1, _⟩ := flatb_rep n _ h
          have := (List.getElem?_eq_some_iff.1 h1).1; omega
        · exact e
      obtain ⟨h1, h2⟩ := flatb_rep n _ h
      rw [Nat.mod_eq_sub_mod (by omega), Nat.div_eq_sub_div hs (by omega)]
      exact ⟨h1, by omega⟩
section
variable {H : Type} {enc : TypeId × Value → H} {P : Program} {w : World} {base : Nat} {spare : Nat → Bool} {held : Bool}
theorem flatb_part {ks : List (Option IntKind)} {cs : List Value} {o s j : Nat} {k : Option IntKind} (h : FlatV ks ((cs.drop o).take s)) (hs : s = ks.length) (hk : ks[j]? = some k) : ∃ v, cs[o + j]? = some v ∧ OkV k v := by
  obtain ⟨n, h1, h2⟩ := h.2 j k hk
  have hj := (List.getElem?_eq_some_iff.1 hk).1
  rw [List.getElem?_take_of_lt (by omega), List.getElem?_drop] at h1
  exact ⟨n, h1, h2⟩
theorem flatKb_ok : ∀ (d : Nat) (t : TypeId) (ks : List (Option IntKind)), flatKb P d t = some ks → ∀ (fuel : Nat) (cs : List Value) (x : DataW H × List MemPlace), DataW.trod enc P w base spare held fuel t cs = some x → FlatV ks cs
  | 0, _, _, h => by simp [flatKb] at h
  | d + 1, t, ks, h => by
    intro fuel cs x hx
    unfold flatKb at h
    split at h
    · rename_i k hu
      simp only [Option.some.injEq] at h; subst h
      obtain ⟨n, rfl, _, hw⟩ := DataW.trod_int hu hx
      refine ⟨rfl, fun j k' hk => ?_⟩
      match j, hk with
      | 0, hk => simp at hk; subst hk; exact ⟨_, rfl, n, rfl, hw⟩
      | j + 1, hk => simp at hk
    · rename_i hu
      simp only [Option.some.injEq] at h; subst h
      obtain ⟨b, rfl, _⟩ := DataW.trod_bool hu hx
      refine ⟨rfl, fun j k' hk => ?_⟩
      match j, hk with
      | 0, hk => simp at hk; subst hk; exact ⟨_, rfl, b, rfl⟩
      | j + 1, hk => simp at hk
    · rename_i n e hu
      obtain ⟨ks', hks, h⟩ := Option.bind_eq_some_iff.1 h
      split at h
      · rename_i hc
        simp only [Option.some.injEq] at h; subst h
        obtain ⟨xs, m, _, _, hl, hlen, hel⟩ := DataW.trod_array hu hx
        refine ⟨by rw [hl, hc.2]; simp, fun j k hk => ?_⟩
        obtain ⟨h1, h2⟩ := flatb_rep n j hk
        have hi := hel (j / ks'.length) h2
        rw [List.getElem?_eq_getElem (by omega), hc.1] at hi
        have := flatb_part (flatKb_ok d e ks' hks _ _ _ hi) rfl h1
        rw [Nat.mul_comm, Nat.div_add_mod] at this
        exact this
      · cases h
    · rename_i fs hu
      obtain ⟨l, hl, h⟩ := Option.bind_eq_some_iff.1 h
      split at h
      · rename_i hc
        simp only [Option.some.injEq] at h; subst h
        obtain ⟨xs, m, _, _, hlc, hlen, hf⟩ := DataW.trod_struct hu hx
        refine ⟨by rw [hlc, hc], ?_⟩
        have hf' : ∀ f, f ∈ fs.toList → ∃ y, DataW.trod enc P w base spare held m f.type ((cs.drop f.offset).take (P.cellsOf f.type)) = some y := by
          intro f hfm
          obtain ⟨i, hi, e⟩ := List.mem_iff_getElem.1 hfm
          have hi' : i < fs.size := by simpa using hi
          have h1 : fs[i]? = some f := by rw [Array.getElem?_eq_getElem hi']; simpa using e
          have := hf i f h1
          rw [List.getElem?_eq_getElem (by rw [hlen]; exact hi')] at this
          exact ⟨_, this⟩
        have key : ∀ (L : List Field) (acc : List (Option IntKind)), (∀ f, f ∈ L → ∃ y, DataW.trod enc P w base spare held m f.type ((cs.drop f.offset).take (P.cellsOf f.type)) = some y) → (∀ (j : Nat) (k : Option IntKind), acc[j]? = some k → ∃ v, cs[j]? = some v ∧ OkV k v) → ∀ l, L.foldlM (fun l f => (flatKb P d f.type).bind fun ks => if f.offset = l.length ∧ P.cellsOf f.type = ks.length then some (l ++ ks) else none) acc = some l → ∀ (j : Nat) (k : Option IntKind), l[j]? = some k → ∃ v, cs[j]? = some v ∧ OkV k v := by
          intro L
          induction L with
          | nil => intro acc _ ha l hl; simp at hl; subst hl; exact ha
          | cons f L ih =>
            intro acc hL ha l hl
            rw [List.foldlM_cons] at hl
            obtain ⟨l1, h1, h2⟩ := Option.bind_eq_some_iff.1 hl
            obtain ⟨kf, hkf, h3⟩ := Option.bind_eq_some_iff.1 h1
            split at h3
            · rename_i hcc
              simp only [Option.some.injEq] at h3; subst h3
              refine ih (acc ++ kf) (fun g hg => hL g (List.mem_cons_of_mem _ hg)) (fun j k hk => ?_) l h2
              by_cases hj : j < acc.length
              · rw [List.getElem?_append_left hj] at hk; exact ha j k hk
              · rw [List.getElem?_append_right (by omega)] at hk
                obtain ⟨y, hy⟩ := hL f (List.mem_cons_self ..)
                have := flatb_part (flatKb_ok d f.type kf hkf _ _ _ hy) hcc.2 hk
                rw [hcc.1, show acc.length + (j - acc.length) = j by omega] at this
                exact this
            · cases h3
        exact key fs.toList [] hf' (fun j k hk => by simp at hk) l hl
      · cases h
    · cases h
end
section
variable {H : Type} {enc : TypeId × Value → H} {P : Program} {w : World} {base : Nat} {spare : Nat → Bool} {held : Bool}
theorem open_rows {t e : TypeId} {ks : List (Option IntKind)} {fuel D : Nat} {cs : List Value} {x : DataW H × List MemPlace} (ht : P.underlying t = some (.slice e)) (hk : flatKb P D e = some ks) (ce : P.cellsOf e = ks.length) (hs : 0 < ks.length)
    (h : DataW.trod enc P w base spare held fuel t cs = some x) : ∃ a len cap, cs = [.slice a len cap] ∧ len ≤ maxLen ∧ len ≤ cap ∧ ∃ X : Nat → Nat → Value, (∀ i, i < len → ∀ (j : Nat) (k : Option IntKind), ks[j]? = some k → OkV k (X i j)) ∧ Fx.Arr w a len ks.length (Fx.flat ks.length X) := by
  rcases open_slice ht h with ⟨rfl, _⟩ | ⟨a', len, cap, m, n, D', Pl, rfl, _, hl, hm, hmm, _, hx⟩
  · exact ⟨none, 0, 0, rfl, by unfold maxLen; omega, Nat.le_refl _, fun _ _ => undef, fun i hi => absurd hi (by omega), fun h => absurd h (by omega)⟩
  have hlm : len ≤ m := by rw [hmm]; split <;> omega
  have each : ∀ i j : Nat, ∃ q : Value, i < len → ∀ k, ks[j]? = some k → w.cell? (a'.add (i * ks.length + j)) = some q ∧ OkV k q := by
    intro i j
    by_cases hi : i < len ∧ j < ks.length
    · obtain ⟨cs', g1, g2⟩ := hx i (by omega)
      rw [ce] at g1
      obtain ⟨_, hlen, hcell⟩ := World.cells?_some g1
      obtain ⟨q, h1, h2⟩ := (flatKb_ok _ _ _ hk _ _ _ g2).2 j _ (List.getElem?_eq_getElem hi.2)
      refine ⟨q, fun _ k hkj => ?_⟩
      rw [List.getElem?_eq_getElem hi.2, Option.some.injEq] at hkj
      subst hkj
      have q0 := hcell j (by omega)
      rw [add_add] at q0
      exact ⟨by rw [← h1]; simpa using q0, h2⟩
    · refine ⟨undef, fun h1 k h2 => absurd ⟨h1, (List.getElem?_eq_some_iff.1 h2).1⟩ hi⟩
  refine ⟨some a', len, cap, rfl, by omega, hl, fun i j => Classical.choose (each i j), fun i hi j k hkj => (Classical.choose_spec (each i j) hi k hkj).2, fun h0 => ?_⟩
  have e0 : a'.add (0 * ks.length + 0) = a' := by unfold Addr.add; simp
  obtain ⟨q00, h00⟩ := each 0 0
  have hk0 := List.getElem?_eq_getElem hs
  have h00' := (h00 h0 _ hk0)
  have h01 := h00'.1
  rw [e0] at h01
  have e1 : ∃ b off, a' = ⟨b, off, none⟩ := by
    have h02 := h00'.2
    unfold OkV at h02
    split at h02
    · obtain ⟨nn, rfl, _⟩ := h02; exact spotless1 h01
    · obtain ⟨bb, rfl⟩ := h02
      unfold World.cell? at h01
      cases a' with
      | mk b off sp =>
        cases sp with
        | none => exact ⟨b, off, rfl⟩
        | some s => simp at h01; split at h01 <;> simp_all
  obtain ⟨b, off, e1⟩ := e1
  refine ⟨b, off, by rw [e1], fun p hp => ?_⟩
  have hj : p % ks.length < ks.length := Nat.mod_lt _ hs
  have hi : p / ks.length < len := Nat.div_lt_of_lt_mul (by rw [Nat.mul_comm]; exact hp)
  have := (Classical.choose_spec (each (p / ks.length) (p % ks.length)) hi _ (List.getElem?_eq_getElem hj)).1
  have ea : a'.add (p / ks.length * ks.length + p % ks.length) = ⟨b, off + p, none⟩ := by rw [e1, addr_add, Nat.mul_comm, Nat.div_add_mod]
  exact (congrArg w.cell? ea).symm.trans this
end
def numOf : Value → Int | .int _ n => n | _ => 0
def truth : Value → Bool | .bool b => b | _ => false
theorem OkV.num {k : IntKind} {v : Value} (h : OkV (some k) v) : v = .int k (numOf v) ∧ (Lit.int k (numOf v)).wf = true := by
  obtain ⟨n, rfl, hw⟩ := h; exact ⟨rfl, hw⟩
theorem OkV.truth {v : Value} (h : OkV none v) : v = .bool (truth v) := by
  obtain ⟨b, rfl⟩ := h; rfl
theorem bd_u8 {n : Int} (h : (Lit.int .u8 n).wf = true) : 0 ≤ n ∧ n ≤ 255 := by simp [Lit.wf, IntKind.min, IntKind.max, IntKind.bits, IntKind.signed] at h; omega
theorem bd_u64 {n : Int} (h : (Lit.int .u64 n).wf = true) : 0 ≤ n ∧ n < 18446744073709551616 := by simp [Lit.wf, IntKind.min, IntKind.max, IntKind.bits, IntKind.signed] at h; omega
theorem bd_i64 {n : Int} (h : (Lit.int .i64 n).wf = true) : -9223372036854775808 ≤ n ∧ n ≤ 9223372036854775807 := by simp [Lit.wf, IntKind.min, IntKind.max, IntKind.bits, IntKind.signed] at h; omega
section
variable {H : Type} {enc : TypeId × Value → H} {P : Program} {w : World}
theorem open_kinds {t e : TypeId} {ks : List (Option IntKind)} {a : Option Addr} {len cap D : Nat} {d : DataW H} {ps : List MemPlace} (ht : P.underlying t = some (.slice e)) (hk : flatKb P D e = some ks) (ce : P.cellsOf e = ks.length) (hs : 0 < ks.length)
    (h : DataW.Trod enc P w 0 (fun _ => true) true t (.slice a len cap) d ps) : len ≤ maxLen ∧ ∃ X : Nat → Nat → Value, (∀ i, i < len → ∀ (j : Nat) (k : Option IntKind), ks[j]? = some k → OkV k (X i j)) ∧ Fx.Arr w a len ks.length (Fx.flat ks.length X) := by
  obtain ⟨fuel, hf⟩ := h
  obtain ⟨a', l', c', hcs, hm, _, X, hX, hA⟩ := open_rows ht hk ce hs hf
  simp [Value.cells] at hcs
  obtain ⟨rfl, rfl, rfl⟩ := hcs
  exact ⟨hm, X, hX, hA⟩
theorem Arr.cong {w : World} {a : Option Addr} {n s : Nat} {x y : Nat → Value} (h : Fx.Arr w a n s x) (e : ∀ p, p < n * s → x p = y p) : Fx.Arr w a n s y := fun h0 => by
  obtain ⟨b, off, ea, hc⟩ := h h0
  exact ⟨b, off, ea, fun i hi => by rw [← e i hi]; exact hc i hi⟩
end
end Go.Proofs.Ytleajegppehbdaa
namespace Go.Proofs.Ytleajegppehbdaa
open Go.RowKit Go.WideShapes Go.ChangeShapes Go.Deep Rt
def KEV : List (Option IntKind) := [some .i64, some .u64, some .u64, some .u64, some .u64, some .u64, some .u64, some .u64, some .u8, some .u64, some .i64, some .i64, some .u64, some .u64]
def evOf (x : Nat → Value) : EvM := ⟨numOf (x 0), numOf (x 1), fun i => numOf (x (i + 2)), numOf (x 8), numOf (x 9), numOf (x 10), numOf (x 11), numOf (x 12), numOf (x 13)⟩
theorem bdU {n : Int} (h : (Lit.int .u64 n).wf = true) : U64r n := by have := bd_u64 h; unfold U64r; omega
theorem bdI {n : Int} (h : (Lit.int .i64 n).wf = true) : I64r n := by have := bd_i64 h; unfold I64r; omega
theorem evOf_ok {x : Nat → Value} (h : ∀ (j : Nat) (k : Option IntKind), KEV[j]? = some k → OkV k (x j)) : (∀ j, j < 14 → x j = evY (evOf x) j) ∧ EvWf (evOf x) := by
  have o : ∀ (j : Nat) (k : IntKind), KEV[j]? = some (some k) → x j = .int k (numOf (x j)) ∧ (Lit.int k (numOf (x j))).wf = true := fun j k e => (h j (some k) e).num
  refine ⟨fun j hj => ?_, ?_⟩
  · rcases j with _|_|_|_|_|_|_|_|_|_|_|_|_|_|j
    · exact (o 0 .i64 rfl).1
    · exact (o 1 .u64 rfl).1
    · exact (o 2 .u64 rfl).1
    · exact (o 3 .u64 rfl).1
    · exact (o 4 .u64 rfl).1
    · exact (o 5 .u64 rfl).1
    · exact (o 6 .u64 rfl).1
    · exact (o 7 .u64 rfl).1
    · exact (o 8 .u8 rfl).1
    · exact (o 9 .u64 rfl).1
    · exact (o 10 .i64 rfl).1
    · exact (o 11 .i64 rfl).1
    · exact (o 12 .u64 rfl).1
    · exact (o 13 .u64 rfl).1
    omega
  refine ⟨bdI (o 0 .i64 rfl).2, bdU (o 1 .u64 rfl).2, fun i hi => ?_, bd_u8 (o 8 .u8 rfl).2, bdU (o 9 .u64 rfl).2, bdI (o 10 .i64 rfl).2, bdI (o 11 .i64 rfl).2, bdU (o 12 .u64 rfl).2, bdU (o 13 .u64 rfl).2⟩
  show U64r (numOf (x (i + 2)))
  rcases i with _|_|_|_|_|_|i
  · exact bdU (o 2 .u64 rfl).2
  · exact bdU (o 3 .u64 rfl).2
  · exact bdU (o 4 .u64 rfl).2
  · exact bdU (o 5 .u64 rfl).2
  · exact bdU (o 6 .u64 rfl).2
  · exact bdU (o 7 .u64 rfl).2
  omega
end Go.Proofs.Ytleajegppehbdaa
namespace Go.Proofs.Ytleajegppehbdaa
open Go.RowKit Go.WideShapes Go.ChangeShapes Go.Deep Rt
def KSP : List (Option IntKind) := [none, some .u64, some .u64, some .u64, some .u64, some .u64, some .u64, some .i64, some .u64, some .u64, some .u64, some .u64, some .u64, some .u64, some .u64, some .u8, some .u64, some .i64, some .i64, some .u64, some .u64, some .u8]
def spOf (x : Nat → Value) : SpM := ⟨truth (x 0), fun i => numOf (x (i + 1)), evOf (fun j => x (j + 7)), (numOf (x 21)).toNat⟩
theorem spOf_ok {x : Nat → Value} (h : ∀ (j : Nat) (k : Option IntKind), KSP[j]? = some k → OkV k (x j)) : (∀ j, j < 22 → x j = spY (spOf x) j) ∧ EvWf (spOf x).e ∧ (spOf x).pk ≤ 255 := by
  have o : ∀ (j : Nat) (k : IntKind), KSP[j]? = some (some k) → x j = .int k (numOf (x j)) ∧ (Lit.int k (numOf (x j))).wf = true := fun j k e => (h j (some k) e).num
  have hv : ∀ (j : Nat) (k : Option IntKind), KEV[j]? = some k → OkV k ((fun j => x (j + 7)) j) := fun j k e => h (j + 7) k (by
    rcases j with _|_|_|_|_|_|_|_|_|_|_|_|_|_|j <;> first | exact e | (simp [KEV] at e))
  obtain ⟨e1, e2⟩ := evOf_ok hv
  refine ⟨fun j hj => ?_, e2, ?_⟩
  · by_cases h1 : 7 ≤ j ∧ j < 21
    · rw [spY_e (spOf x) (p := j) (k := j - 7) (by omega) (by omega)]
      have := e1 (j - 7) (by omega)
      simp only [show j - 7 + 7 = j by omega] at this
      exact this
    rcases j with _|_|_|_|_|_|_|j
    · exact (h 0 none rfl).truth
    · exact (o 1 .u64 rfl).1
    · exact (o 2 .u64 rfl).1
    · exact (o 3 .u64 rfl).1
    · exact (o 4 .u64 rfl).1
    · exact (o 5 .u64 rfl).1
    · exact (o 6 .u64 rfl).1
    obtain rfl : 14 = j := by omega
    have q := o 21 .u8 rfl
    have b := bd_u8 q.2
    rw [q.1]
    show Value.int .u8 _ = .int .u8 (((numOf (x 21)).toNat : Nat) : Int)
    rw [Int.toNat_of_nonneg b.1]
  have b := bd_u8 (o 21 .u8 rfl).2
  show (numOf (x 21)).toNat ≤ 255
  omega
theorem open_steps16 {w : World} {a : Option Addr} {n : Nat} {X : Nat → Nat → Value} (hX : ∀ i, i < n → ∀ (j : Nat) (k : Option IntKind), KSP[j]? = some k → OkV k (X i j)) (hA : Fx.Arr w a n KSP.length (Fx.flat KSP.length X)) :
    ∃ xs : Nat → SpM, (∀ k, k < n → EvWf (xs k).e) ∧ (∀ k, k < n → (xs k).pk ≤ 255) ∧ Fx.Arr w a n 22 (Fx.flat 22 fun k => spY (xs k)) :=
  ⟨fun k => spOf (X k), fun k hk => (spOf_ok (hX k hk)).2.1, fun k hk => (spOf_ok (hX k hk)).2.2, Arr.cong hA (Fx.flat_cong fun k hk j hj => (spOf_ok (hX k hk)).1 j hj)⟩
end Go.Proofs.Ytleajegppehbdaa
namespace Go.Proofs.Ytleajegppehbdaa
open Go.RowKit Go.WideShapes Go.ChangeShapes Go.Deep Rt
def boolOf : Value → Bool | .bool b => b | _ => false
theorem OkV.int {k : IntKind} {v : Value} (h : OkV (some k) v) : v = .int k (intOf v) ∧ (Lit.int k (intOf v)).wf = true := by
  obtain ⟨n, rfl, hw⟩ := h; exact ⟨rfl, hw⟩
theorem OkV.bool {v : Value} (h : OkV none v) : v = .bool (boolOf v) := by
  obtain ⟨b, rfl⟩ := h; rfl
theorem wf_u8 {n : Int} (h : (Lit.int .u8 n).wf = true) : 0 ≤ n ∧ n ≤ 255 := by simp [Lit.wf, IntKind.min, IntKind.max, IntKind.bits, IntKind.signed] at h; omega
theorem wf_u16 {n : Int} (h : (Lit.int .u16 n).wf = true) : 0 ≤ n ∧ n ≤ 65535 := by simp [Lit.wf, IntKind.min, IntKind.max, IntKind.bits, IntKind.signed] at h; omega
theorem nat_u8 {n : Int} (h : (Lit.int .u8 n).wf = true) : ∃ m : Nat, n = (m : Int) ∧ m ≤ 255 := by
  have := wf_u8 h; exact ⟨n.toNat, by omega, by omega⟩
theorem Fx.Arr.congr {w : World} {a : Option Addr} {n s : Nat} {x y : Nat → Value} (h : Fx.Arr w a n s x) (e : ∀ p, p < n * s → x p = y p) : Fx.Arr w a n s y := fun h0 => by
  obtain ⟨b, off, ea, hc⟩ := h h0
  exact ⟨b, off, ea, fun i hi => by rw [← e i hi]; exact hc i hi⟩
def actKs : List (Option IntKind) := [some .u8, none, some .u8, some .u8, some .u8, some .u8, some .u16, some .u8, some .u8]
def actOf (X : Nat → Value) : ActM := ⟨(intOf (X 0)).toNat, boolOf (X 1), (intOf (X 2)).toNat, (intOf (X 3)).toNat, (intOf (X 4)).toNat, (intOf (X 5)).toNat, (intOf (X 6)).toNat, (intOf (X 7)).toNat, (intOf (X 8)).toNat⟩
theorem actOf_ok {X : Nat → Value} (h : ∀ (j : Nat) (k : Option IntKind), actKs[j]? = some k → OkV k (X j)) : ActOk (actOf X) ∧ ∀ j, j < 9 → X j = actY (actOf X) j := by
  have u8 : ∀ j, actKs[j]? = some (some .u8) → X j = .int .u8 ((intOf (X j)).toNat : Int) ∧ (intOf (X j)).toNat ≤ 255 := fun j hj => by
    obtain ⟨e, hw⟩ := (h j _ hj).int
    have := wf_u8 hw
    exact ⟨by rw [Int.toNat_of_nonneg this.1]; exact e, by omega⟩
  have h6 : X 6 = .int .u16 ((intOf (X 6)).toNat : Int) ∧ (intOf (X 6)).toNat ≤ 65535 := by
    obtain ⟨e, hw⟩ := (h 6 (some .u16) rfl).int
    have := wf_u16 hw
    exact ⟨by rw [Int.toNat_of_nonneg this.1]; exact e, by omega⟩
  refine ⟨⟨(u8 0 rfl).2, (u8 2 rfl).2, (u8 3 rfl).2, (u8 4 rfl).2, (u8 5 rfl).2, h6.2, (u8 7 rfl).2, (u8 8 rfl).2⟩, fun j hj => ?_⟩
  rcases j with _|_|_|_|_|_|_|_|_|j
  · exact (u8 0 rfl).1
  · exact (h 1 none rfl).bool
  · exact (u8 2 rfl).1
  · exact (u8 3 rfl).1
  · exact (u8 4 rfl).1
  · exact (u8 5 rfl).1
  · exact h6.1
  · exact (u8 7 rfl).1
  · exact (u8 8 rfl).1
  omega
section
variable {H : Type} {enc : TypeId × Value → H} {P : Program} {w : World}
theorem open_acts {t e : TypeId} {a : Option Addr} {len cap D : Nat} {d : DataW H} {ps : List MemPlace} (ht : P.underlying t = some (.slice e)) (hk : flatKb P D e = some actKs) (ce : P.cellsOf e = 9)
    (h : DataW.Trod enc P w 0 (fun _ => true) true t (.slice a len cap) d ps) : ∃ xa : Nat → ActM, (∀ i, i < len → ActOk (xa i)) ∧ Fx.Arr w a len 9 (Fx.flat 9 fun k => actY (xa k)) := by
  obtain ⟨fuel, hf⟩ := h
  obtain ⟨a', l', c', hcs, _, _, X, hX, hA⟩ := open_rows ht hk ce (by decide) hf
  simp [Value.cells] at hcs
  obtain ⟨rfl, rfl, rfl⟩ := hcs
  exact ⟨fun i => actOf (X i), fun i hi => (actOf_ok (hX i hi)).1, hA.congr (Fx.flat_cong fun k hk j hj => (actOf_ok (hX k hk)).2 j hj)⟩
end
end Go.Proofs.Ytleajegppehbdaa
