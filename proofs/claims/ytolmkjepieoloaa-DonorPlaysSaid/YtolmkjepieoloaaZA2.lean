/-
  What the proof of the law rests on, part 2: walks of functions, and plain laws; each says its conditions itself.
-/
import Derived.Test.YtolmkjepieoloaaRows
import Derived.Test.YtolmkjepieoloaaZA1
namespace Go.Proofs.Ytolmkjepieoloaa
open Go.RowKit Rt
namespace Rt
structure EvM where
  o : Int
  seq : Int
  deps : Nat → Int
  kind : Int
  node : Int
  dst : Int
  amt : Int
  req : Int
  of : Int
def evY (v : EvM) : Nat → Value := fun p => if p = 0 then .int .i64 v.o else if p = 1 then .int .u64 v.seq else if p < 8 then .int .u64 (v.deps (p - 2)) else if p = 8 then .int .u8 v.kind else if p = 9 then .int .u64 v.node else if p = 10 then .int .i64 v.dst else if p = 11 then .int .i64 v.amt else if p = 12 then .int .u64 v.req else .int .u64 v.of
theorem evY_deps (v : EvM) {p j : Nat} (h : p = j + 2) (hj : j < 6) : evY v p = .int .u64 (v.deps j) := by
  subst h; unfold evY; rw [if_neg (by omega), if_neg (by omega), if_pos (by omega), show j + 2 - 2 = j by omega]
theorem evY_one (v : EvM) : ∀ j, j < 14 → (evY v j).oneCell' = true := fun j _ => by unfold evY; repeat (first | rfl | split)
def regE (i : Int) : Bool := decide (1 ≤ i) && decide (i ≤ 6)
def ownE (v : EvM) : EvM :=
  if v.kind = 1 then { v with dst := 0, req := 0, of := 0 } else if v.kind = 2 then { v with dst := 0, req := 0, of := 0 } else if v.kind = 3 then { v with dst := 0, of := 0 }
  else if v.kind = 4 then { v with node := 0, dst := 0, amt := 0 } else if v.kind = 5 then { v with req := 0, of := 0 } else if v.kind = 6 then { v with node := 0, amt := 0, req := 0, of := 0 }
  else { v with node := 0, dst := 0, amt := 0, req := 0, of := 0 }
def someE (v : EvM) : Bool := decide (1 ≤ v.amt) && decide (v.amt ≤ 1125899906842624)
def otherE (v : EvM) : Bool := regE v.dst && !decide (v.dst = v.o)
def fieldsE (v : EvM) : Bool :=
  if v.kind = 1 then decide (0 ≤ v.amt) && decide (v.amt ≤ 1125899906842624) else if v.kind = 2 then someE v else if v.kind = 3 then someE v && decide (1 ≤ v.req)
  else if v.kind = 4 then decide (1 ≤ v.req) && decide (1 ≤ v.of) && !decide (v.req = v.of) else if v.kind = 5 then someE v && otherE v else if v.kind = 6 then otherE v else decide (v.kind = 7)
end Rt
theorem e_region (n : Int) (w : World) :
    Calls Try.prog 117 #[.int .i64 (n)] w fun e w' => e = .returned (.bool (regE n)) ∧ w' = w := by
 refine Fx.enter Try.func117 rfl (n := 9) rfl (by rfl) ?_
 refine Fx.W.seq (Fx.W.list (Fx.L.v (.bool false) (Fx.x_assign rfl rfl) ?_))
 refine Fx.L.nil (Fx.seqN (Fx.W.seq (Fx.W.list (Fx.L.v (.int .i64 (n)) (Fx.x_move rfl rfl) ?_))))
 by_cases c4 : 1 ≤ n
 ·refine Fx.L.v (.bool true) (Fx.x_geqT rfl rfl rfl c4) ?_
  refine Fx.L.v (.bool true) (Fx.x_move rfl rfl) ?_
  refine Fx.L.v (.int .i64 (n)) (Fx.x_move rfl rfl) ?_
  by_cases c7 : n ≤ 6
  ·refine Fx.L.v (.bool true) (Fx.x_leqT rfl rfl rfl c7) ?_
   refine Fx.L.v (.bool true) (Fx.x_pickT rfl rfl rfl) ?_
   refine Fx.L.v (.bool true) (Fx.x_assign rfl rfl) ?_
   refine Fx.L.nil (Fx.seqN (Fx.W.ret (⟨.bool true, Fx.retV1 Try.results117 (by exact rfl), ?_⟩)))
   exact ⟨congrArg (fun q => Ending.returned (Value.bool q)) (by simp only [regE]; first | (symm; simp; omega) | (symm; simp; done)), rfl⟩
  ·refine Fx.L.v (.bool false) (Fx.x_leqF rfl rfl rfl c7) ?_
   refine Fx.L.v (.bool false) (Fx.x_pickT rfl rfl rfl) ?_
   refine Fx.L.v (.bool false) (Fx.x_assign rfl rfl) ?_
   refine Fx.L.nil (Fx.seqN (Fx.W.ret (⟨.bool false, Fx.retV1 Try.results117 (by exact rfl), ?_⟩)))
   exact ⟨congrArg (fun q => Ending.returned (Value.bool q)) (by simp only [regE]; first | (symm; simp; omega) | (symm; simp; done)), rfl⟩
 ·refine Fx.L.v (.bool false) (Fx.x_geqF rfl rfl rfl c4) ?_
  refine Fx.L.v (.bool false) (Fx.x_move rfl rfl) ?_
  refine Fx.L.skip (by rfl) rfl ?_
  refine Fx.L.skip (by rfl) rfl ?_
  refine Fx.L.v (.bool false) (Fx.x_pickF rfl rfl rfl) ?_
  refine Fx.L.v (.bool false) (Fx.x_assign rfl rfl) ?_
  refine Fx.L.nil (Fx.seqN (Fx.W.ret (⟨.bool false, Fx.retV1 Try.results117 (by exact rfl), ?_⟩)))
  exact ⟨congrArg (fun q => Ending.returned (Value.bool q)) (by simp only [regE]; first | (symm; simp; omega) | (symm; simp; done)), rfl⟩
theorem e_own (v : EvM) (w : World) :
    Calls Try.prog 118 #[.agg (Fx.varr 14 (evY v))] w fun e w' => e = .returned (.agg (Fx.varr 14 (evY (ownE v)))) ∧ Below w.heap.size w w' := by
 refine Fx.enter Try.func118 rfl (n := 60) rfl (by rfl) ?_
 refine Fx.W.seq (Fx.W.list (Fx.L.box (m := 14) (y := evY v) (by rfl) rfl rfl (Fx.cells_agg _ _) rfl fun g1 w1 eg1 m1 s1 z1 => ?_))
 have b1 := s1.below (Below.refl w.heap.size w) (Below.refl w.heap.size w).size (Below.refl w.heap.size w).size
 have lg1 : w.heap.size ≤ g1 := by rw [eg1]; exact (Below.refl w.heap.size w).size
 have tg1 : g1 < w1.heap.size := m1.lt
 clear eg1
 refine Fx.L.new (m := 14) (y := fun i => (#[.int .i64 (0), .int .u64 (0), .int .u64 (0), .int .u64 (0), .int .u64 (0), .int .u64 (0), .int .u64 (0), .int .u64 (0), .int .u8 (0), .int .u64 (0), .int .i64 (0), .int .i64 (0), .int .u64 (0), .int .u64 (0)] : Array Value).getD i undef) (by rfl) rfl (by kernel_rfl) rfl fun g2 w2 eg2 m2 s2 z2 => ?_
 have m3 := m1.stp s2 (Nat.ne_of_lt (m1.lt))
 have b2 := s2.below b1 b1.size b1.size
 have lg2 : w.heap.size ≤ g2 := by rw [eg2]; exact b1.size
 have ng2m3 : g1 ≠ g2 := by rw [eg2]; exact Nat.ne_of_lt (m1.lt)
 have tg2 : g2 < w2.heap.size := m2.lt
 clear eg2
 refine Fx.L.nil (Fx.seqN (Fx.W.seq (Fx.W.list (Fx.L.v (.pointer (some ⟨g1, 0, none⟩)) (Fx.x_field rfl rfl Try.underlying54 rfl (s := 1) (by kernel_rfl) rfl rfl) ?_))))
 refine Fx.L.v (.int .i64 (v.o)) (Fx.x_load1 (x := evY v) rfl rfl (by kernel_rfl) m3.cel (i := 0) (by omega) (by omega) rfl) ?_
 refine Fx.L.v (.pointer (some ⟨g1, 1, none⟩)) (Fx.x_field rfl rfl Try.underlying54 rfl (s := 1) (by kernel_rfl) rfl (by show _ + 1 = _; omega)) ?_
 refine Fx.L.v (.int .u64 (v.seq)) (Fx.x_load1 (x := evY v) rfl rfl (by kernel_rfl) m3.cel (i := 1) (by omega) (by omega) rfl) ?_
 refine Fx.L.v (.pointer (some ⟨g1, 2, none⟩)) (Fx.x_field rfl rfl Try.underlying54 rfl (s := 6) (by kernel_rfl) rfl (by show _ + 2 = _; omega)) ?_
 refine Fx.L.v (.agg (Fx.varr 6 (Fx.rv .u64 v.deps))) (Fx.x_loadA (x := evY v) (y := Fx.rv .u64 v.deps) rfl rfl (by kernel_rfl) (by kernel_rfl) m3.cel (i := 2) (by omega) (by omega) (fun j hj => evY_deps _ (by omega) hj)) ?_
 refine Fx.L.v (.pointer (some ⟨g1, 8, none⟩)) (Fx.x_field rfl rfl Try.underlying54 rfl (s := 1) (by kernel_rfl) rfl (by show _ + 8 = _; omega)) ?_
 refine Fx.L.v (.int .u8 (v.kind)) (Fx.x_load1 (x := evY v) rfl rfl (by kernel_rfl) m3.cel (i := 8) (by omega) (by omega) rfl) ?_
 refine Fx.L.v (.agg (Fx.varr 14 (Fx.ovr (Fx.ovr (Fx.ovr (Fx.ovr (fun i => (#[.int .i64 (0), .int .u64 (0), .int .u64 (0), .int .u64 (0), .int .u64 (0), .int .u64 (0), .int .u64 (0), .int .u64 (0), .int .u8 (0), .int .u64 (0), .int .i64 (0), .int .i64 (0), .int .u64 (0), .int .u64 (0)] : Array Value).getD i undef) 0 1 (fun _ => .int .i64 (v.o))) 1 1 (fun _ => .int .u64 (v.seq))) 2 6 (Fx.rv .u64 v.deps)) 8 1 (fun _ => .int .u8 (v.kind))))) (Fx.x_build (vs := [(0, .int .i64 (v.o)), (1, .int .u64 (v.seq)), (2, .agg (Fx.varr 6 (Fx.rv .u64 v.deps))), (3, .int .u8 (v.kind))]) (places := #[(0, 1), (1, 1), (2, 6), (8, 1), (9, 1), (10, 1), (11, 1), (12, 1), (13, 1)]) (m := 14) (x := fun i => (#[.int .i64 (0), .int .u64 (0), .int .u64 (0), .int .u64 (0), .int .u64 (0), .int .u64 (0), .int .u64 (0), .int .u64 (0), .int .u8 (0), .int .u64 (0), .int .i64 (0), .int .i64 (0), .int .u64 (0), .int .u64 (0)] : Array Value).getD i undef) rfl rfl Try.underlying54 (by kernel_rfl) (by kernel_rfl) (by rw [Fx.fill_step (off := 0) (s := 1) (y := fun _ => .int .i64 (v.o)) (by kernel_rfl) (Fx.cells_one (by rfl)) (by rfl)]; rw [Fx.fill_step (off := 1) (s := 1) (y := fun _ => .int .u64 (v.seq)) (by kernel_rfl) (Fx.cells_one (by rfl)) (by rfl)]; rw [Fx.fill_step (off := 2) (s := 6) (y := Fx.rv .u64 v.deps) (by kernel_rfl) (Fx.cells_agg _ _) (by rfl)]; rw [Fx.fill_step (off := 8) (s := 1) (y := fun _ => .int .u8 (v.kind)) (by kernel_rfl) (Fx.cells_one (by rfl)) (by rfl)]; rfl)) ?_
 refine Fx.L.new (m := 14) (y := fun i => (#[.int .i64 (0), .int .u64 (0), .int .u64 (0), .int .u64 (0), .int .u64 (0), .int .u64 (0), .int .u64 (0), .int .u64 (0), .int .u8 (0), .int .u64 (0), .int .i64 (0), .int .i64 (0), .int .u64 (0), .int .u64 (0)] : Array Value).getD i undef) (by rfl) rfl (by kernel_rfl) rfl fun g3 w3 eg3 m4 s3 z3 => ?_
 have m5 := m3.stp s3 (Nat.ne_of_lt (m3.lt))
 have m6 := m2.stp s3 (Nat.ne_of_lt (m2.lt))
 have b3 := s3.below b2 b2.size b2.size
 have lg3 : w.heap.size ≤ g3 := by rw [eg3]; exact b2.size
 have ng3m5 : g1 ≠ g3 := by rw [eg3]; exact Nat.ne_of_lt (m3.lt)
 have ng3m6 : g2 ≠ g3 := by rw [eg3]; exact Nat.ne_of_lt (m2.lt)
 have tg3 : g3 < w3.heap.size := m4.lt
 clear eg3
 refine Fx.L.storeA (x := fun i => (#[.int .i64 (0), .int .u64 (0), .int .u64 (0), .int .u64 (0), .int .u64 (0), .int .u64 (0), .int .u64 (0), .int .u64 (0), .int .u8 (0), .int .u64 (0), .int .i64 (0), .int .i64 (0), .int .u64 (0), .int .u64 (0)] : Array Value).getD i undef) (y := Fx.ovr (Fx.ovr (Fx.ovr (Fx.ovr (fun i => (#[.int .i64 (0), .int .u64 (0), .int .u64 (0), .int .u64 (0), .int .u64 (0), .int .u64 (0), .int .u64 (0), .int .u64 (0), .int .u8 (0), .int .u64 (0), .int .i64 (0), .int .i64 (0), .int .u64 (0), .int .u64 (0)] : Array Value).getD i undef) 0 1 (fun _ => .int .i64 (v.o))) 1 1 (fun _ => .int .u64 (v.seq))) 2 6 (Fx.rv .u64 v.deps)) 8 1 (fun _ => .int .u8 (v.kind))) (by rfl) rfl rfl rfl rfl (fun j hj => by rcases j with _|_|_|_|_|_|_|_|_|_|_|_|_|_|j <;> first | rfl | omega) (by kernel_rfl) m4 (i := 0) (by omega) fun w4 m7 s4 z4 => ?_
 have m8 : Fx.Blk w4 g3 14 (Fx.ovr (Fx.ovr (Fx.ovr (Fx.ovr (fun i => (#[.int .i64 (0), .int .u64 (0), .int .u64 (0), .int .u64 (0), .int .u64 (0), .int .u64 (0), .int .u64 (0), .int .u64 (0), .int .u8 (0), .int .u64 (0), .int .i64 (0), .int .i64 (0), .int .u64 (0), .int .u64 (0)] : Array Value).getD i undef) 0 1 (fun _ => .int .i64 (v.o))) 1 1 (fun _ => .int .u64 (v.seq))) 2 6 (Fx.rv .u64 v.deps)) 8 1 (fun _ => .int .u8 (v.kind))) 54 := Fx.ovr_all m7
 have m9 := m5.stp s4 (by omega)
 have m10 := m6.stp s4 (by omega)
 have b4 := s4.below b3 b3.size (by omega)
 refine Fx.L.nil (Fx.seqN (Fx.W.seq (Fx.W.seq (Fx.W.list (Fx.L.v (.pointer (some ⟨g1, 8, none⟩)) (Fx.x_field rfl rfl Try.underlying54 rfl (s := 1) (by kernel_rfl) rfl (by show _ + 8 = _; omega)) ?_)))))
 refine Fx.L.v (.int .u8 (v.kind)) (Fx.x_load1 (x := evY v) rfl rfl (by kernel_rfl) m9.cel (i := 8) (by omega) (by omega) rfl) ?_
 refine Fx.L.nil (Fx.seqN (Fx.W.block (Fx.W.seq (Fx.W.seq (Fx.W.list ?_)))))
 by_cases c16 : v.kind = 1
 ·refine Fx.L.v (.bool true) (Fx.x_eqlT rfl rfl rfl c16) ?_
  refine Fx.L.v (.bool true) (Fx.x_assign rfl rfl) ?_
  refine Fx.L.nil (Fx.seqN (Fx.W.cond (b := true) rfl (fun _ => Fx.W.skip (Fx.seqN (Fx.W.cond (b := true) rfl (fun _ => Fx.W.seq (Fx.W.list (Fx.L.v (.pointer (some ⟨g1, 9, none⟩)) (Fx.x_field rfl rfl Try.underlying54 rfl (s := 1) (by kernel_rfl) rfl (by show _ + 9 = _; omega)) ?_))) (fun h => nomatch h)))) (fun h => nomatch h)))
  refine Fx.L.v (.int .u64 (v.node)) (Fx.x_load1 (x := evY v) rfl rfl (by kernel_rfl) m9.cel (i := 9) (by omega) (by omega) rfl) ?_
  refine Fx.L.v (.pointer (some ⟨g3, 9, none⟩)) (Fx.x_field rfl rfl Try.underlying54 rfl (s := 1) (by kernel_rfl) rfl (by show _ + 9 = _; omega)) ?_
  refine Fx.L.store1 (x := Fx.ovr (Fx.ovr (Fx.ovr (Fx.ovr (fun i => (#[.int .i64 (0), .int .u64 (0), .int .u64 (0), .int .u64 (0), .int .u64 (0), .int .u64 (0), .int .u64 (0), .int .u64 (0), .int .u8 (0), .int .u64 (0), .int .i64 (0), .int .i64 (0), .int .u64 (0), .int .u64 (0)] : Array Value).getD i undef) 0 1 (fun _ => .int .i64 (v.o))) 1 1 (fun _ => .int .u64 (v.seq))) 2 6 (Fx.rv .u64 v.deps)) 8 1 (fun _ => .int .u8 (v.kind))) (u := .int .u64 (v.node)) (by rfl) rfl rfl rfl rfl (by rfl) (by kernel_rfl) m8 (i := 9) (by omega) fun w5 m11 s5 z5 => ?_
  have m12 := m9.stp s5 (by omega)
  have m13 := m10.stp s5 (by omega)
  have b5 := s5.below b4 b4.size (by omega)
  refine Fx.L.nil (Fx.seqN (Fx.W.list (Fx.L.v (.pointer (some ⟨g1, 11, none⟩)) (Fx.x_field rfl rfl Try.underlying54 rfl (s := 1) (by kernel_rfl) rfl (by show _ + 11 = _; omega)) ?_)))
  refine Fx.L.v (.int .i64 (v.amt)) (Fx.x_load1 (x := evY v) rfl rfl (by kernel_rfl) m12.cel (i := 11) (by omega) (by omega) rfl) ?_
  refine Fx.L.v (.pointer (some ⟨g3, 11, none⟩)) (Fx.x_field rfl rfl Try.underlying54 rfl (s := 1) (by kernel_rfl) rfl (by show _ + 11 = _; omega)) ?_
  refine Fx.L.store1 (x := Fx.updV (Fx.ovr (Fx.ovr (Fx.ovr (Fx.ovr (fun i => (#[.int .i64 (0), .int .u64 (0), .int .u64 (0), .int .u64 (0), .int .u64 (0), .int .u64 (0), .int .u64 (0), .int .u64 (0), .int .u8 (0), .int .u64 (0), .int .i64 (0), .int .i64 (0), .int .u64 (0), .int .u64 (0)] : Array Value).getD i undef) 0 1 (fun _ => .int .i64 (v.o))) 1 1 (fun _ => .int .u64 (v.seq))) 2 6 (Fx.rv .u64 v.deps)) 8 1 (fun _ => .int .u8 (v.kind))) 9 (.int .u64 (v.node))) (u := .int .i64 (v.amt)) (by rfl) rfl rfl rfl rfl (by rfl) (by kernel_rfl) m11 (i := 11) (by omega) fun w6 m14 s6 z6 => ?_
  have m15 := m12.stp s6 (by omega)
  have m16 := m13.stp s6 (by omega)
  have b6 := s6.below b5 b5.size (by omega)
  refine Fx.L.nil (Fx.blkN (Fx.seqN (Fx.W.seq (Fx.W.list (Fx.L.v (.agg (Fx.varr 14 (Fx.updV (Fx.updV (Fx.ovr (Fx.ovr (Fx.ovr (Fx.ovr (fun i => (#[.int .i64 (0), .int .u64 (0), .int .u64 (0), .int .u64 (0), .int .u64 (0), .int .u64 (0), .int .u64 (0), .int .u64 (0), .int .u8 (0), .int .u64 (0), .int .i64 (0), .int .i64 (0), .int .u64 (0), .int .u64 (0)] : Array Value).getD i undef) 0 1 (fun _ => .int .i64 (v.o))) 1 1 (fun _ => .int .u64 (v.seq))) 2 6 (Fx.rv .u64 v.deps)) 8 1 (fun _ => .int .u8 (v.kind))) 9 (.int .u64 (v.node))) 11 (.int .i64 (v.amt))))) (Fx.x_loadA (x := Fx.updV (Fx.updV (Fx.ovr (Fx.ovr (Fx.ovr (Fx.ovr (fun i => (#[.int .i64 (0), .int .u64 (0), .int .u64 (0), .int .u64 (0), .int .u64 (0), .int .u64 (0), .int .u64 (0), .int .u64 (0), .int .u8 (0), .int .u64 (0), .int .i64 (0), .int .i64 (0), .int .u64 (0), .int .u64 (0)] : Array Value).getD i undef) 0 1 (fun _ => .int .i64 (v.o))) 1 1 (fun _ => .int .u64 (v.seq))) 2 6 (Fx.rv .u64 v.deps)) 8 1 (fun _ => .int .u8 (v.kind))) 9 (.int .u64 (v.node))) 11 (.int .i64 (v.amt))) (y := Fx.updV (Fx.updV (Fx.ovr (Fx.ovr (Fx.ovr (Fx.ovr (fun i => (#[.int .i64 (0), .int .u64 (0), .int .u64 (0), .int .u64 (0), .int .u64 (0), .int .u64 (0), .int .u64 (0), .int .u64 (0), .int .u8 (0), .int .u64 (0), .int .i64 (0), .int .i64 (0), .int .u64 (0), .int .u64 (0)] : Array Value).getD i undef) 0 1 (fun _ => .int .i64 (v.o))) 1 1 (fun _ => .int .u64 (v.seq))) 2 6 (Fx.rv .u64 v.deps)) 8 1 (fun _ => .int .u8 (v.kind))) 9 (.int .u64 (v.node))) 11 (.int .i64 (v.amt))) rfl rfl (by kernel_rfl) (by kernel_rfl) m14.cel (i := 0) (by omega) (by omega) (fun j _ => by rw [Nat.zero_add])) ?_)))))
  refine Fx.L.storeA (x := fun i => (#[.int .i64 (0), .int .u64 (0), .int .u64 (0), .int .u64 (0), .int .u64 (0), .int .u64 (0), .int .u64 (0), .int .u64 (0), .int .u8 (0), .int .u64 (0), .int .i64 (0), .int .i64 (0), .int .u64 (0), .int .u64 (0)] : Array Value).getD i undef) (y := Fx.updV (Fx.updV (Fx.ovr (Fx.ovr (Fx.ovr (Fx.ovr (fun i => (#[.int .i64 (0), .int .u64 (0), .int .u64 (0), .int .u64 (0), .int .u64 (0), .int .u64 (0), .int .u64 (0), .int .u64 (0), .int .u8 (0), .int .u64 (0), .int .i64 (0), .int .i64 (0), .int .u64 (0), .int .u64 (0)] : Array Value).getD i undef) 0 1 (fun _ => .int .i64 (v.o))) 1 1 (fun _ => .int .u64 (v.seq))) 2 6 (Fx.rv .u64 v.deps)) 8 1 (fun _ => .int .u8 (v.kind))) 9 (.int .u64 (v.node))) 11 (.int .i64 (v.amt))) (by rfl) rfl rfl rfl rfl (fun j hj => by rcases j with _|_|_|_|_|_|_|_|_|_|_|_|_|_|j <;> first | rfl | omega) (by kernel_rfl) m16 (i := 0) (by omega) fun w7 m17 s7 z7 => ?_
  have m18 : Fx.Blk w7 g2 14 (Fx.updV (Fx.updV (Fx.ovr (Fx.ovr (Fx.ovr (Fx.ovr (fun i => (#[.int .i64 (0), .int .u64 (0), .int .u64 (0), .int .u64 (0), .int .u64 (0), .int .u64 (0), .int .u64 (0), .int .u64 (0), .int .u8 (0), .int .u64 (0), .int .i64 (0), .int .i64 (0), .int .u64 (0), .int .u64 (0)] : Array Value).getD i undef) 0 1 (fun _ => .int .i64 (v.o))) 1 1 (fun _ => .int .u64 (v.seq))) 2 6 (Fx.rv .u64 v.deps)) 8 1 (fun _ => .int .u8 (v.kind))) 9 (.int .u64 (v.node))) 11 (.int .i64 (v.amt))) 54 := Fx.ovr_all m17
  have m19 := m15.stp s7 (by omega)
  have m20 := m14.stp s7 (by omega)
  have b7 := s7.below b6 b6.size (by omega)
  refine Fx.L.nil (Fx.seqN (Fx.W.ret (⟨.agg (Fx.varr 14 (Fx.updV (Fx.updV (Fx.ovr (Fx.ovr (Fx.ovr (Fx.ovr (fun i => (#[.int .i64 (0), .int .u64 (0), .int .u64 (0), .int .u64 (0), .int .u64 (0), .int .u64 (0), .int .u64 (0), .int .u64 (0), .int .u8 (0), .int .u64 (0), .int .i64 (0), .int .i64 (0), .int .u64 (0), .int .u64 (0)] : Array Value).getD i undef) 0 1 (fun _ => .int .i64 (v.o))) 1 1 (fun _ => .int .u64 (v.seq))) 2 6 (Fx.rv .u64 v.deps)) 8 1 (fun _ => .int .u8 (v.kind))) 9 (.int .u64 (v.node))) 11 (.int .i64 (v.amt)))), Fx.retV1 Try.results118 ⟨_, rfl, Fx.run_loadV m18.cel (by kernel_rfl) (by kernel_rfl)⟩, ?_⟩)))
  refine ⟨congrArg (fun q => Ending.returned (Value.agg q)) (Fx.varr_congr fun i hi => ?_), b7⟩
  unfold ownE; rw [if_pos c16]
  rcases i with _|_|_|_|_|_|_|_|_|_|_|_|_|_|i <;> first | rfl | omega
 ·refine Fx.L.v (.bool false) (Fx.x_eqlF rfl rfl rfl c16) ?_
  refine Fx.L.v (.bool false) (Fx.x_assign rfl rfl) ?_
  refine Fx.L.nil (Fx.seqN (Fx.W.cond (b := false) rfl (fun h => nomatch h) (fun _ => Fx.W.list ?_)))
  by_cases c17 : v.kind = 2
  ·refine Fx.L.v (.bool true) (Fx.x_eqlT rfl rfl rfl c17) ?_
   refine Fx.L.v (.bool true) (Fx.x_assign rfl rfl) ?_
   refine Fx.L.nil (Fx.seqN (Fx.W.cond (b := true) rfl (fun _ => Fx.W.seq (Fx.W.list (Fx.L.v (.pointer (some ⟨g1, 9, none⟩)) (Fx.x_field rfl rfl Try.underlying54 rfl (s := 1) (by kernel_rfl) rfl (by show _ + 9 = _; omega)) ?_))) (fun h => nomatch h)))
   refine Fx.L.v (.int .u64 (v.node)) (Fx.x_load1 (x := evY v) rfl rfl (by kernel_rfl) m9.cel (i := 9) (by omega) (by omega) rfl) ?_
   refine Fx.L.v (.pointer (some ⟨g3, 9, none⟩)) (Fx.x_field rfl rfl Try.underlying54 rfl (s := 1) (by kernel_rfl) rfl (by show _ + 9 = _; omega)) ?_
   refine Fx.L.store1 (x := Fx.ovr (Fx.ovr (Fx.ovr (Fx.ovr (fun i => (#[.int .i64 (0), .int .u64 (0), .int .u64 (0), .int .u64 (0), .int .u64 (0), .int .u64 (0), .int .u64 (0), .int .u64 (0), .int .u8 (0), .int .u64 (0), .int .i64 (0), .int .i64 (0), .int .u64 (0), .int .u64 (0)] : Array Value).getD i undef) 0 1 (fun _ => .int .i64 (v.o))) 1 1 (fun _ => .int .u64 (v.seq))) 2 6 (Fx.rv .u64 v.deps)) 8 1 (fun _ => .int .u8 (v.kind))) (u := .int .u64 (v.node)) (by rfl) rfl rfl rfl rfl (by rfl) (by kernel_rfl) m8 (i := 9) (by omega) fun w8 m21 s8 z8 => ?_
   have m22 := m9.stp s8 (by omega)
   have m23 := m10.stp s8 (by omega)
   have b8 := s8.below b4 b4.size (by omega)
   refine Fx.L.nil (Fx.seqN (Fx.W.list (Fx.L.v (.pointer (some ⟨g1, 11, none⟩)) (Fx.x_field rfl rfl Try.underlying54 rfl (s := 1) (by kernel_rfl) rfl (by show _ + 11 = _; omega)) ?_)))
   refine Fx.L.v (.int .i64 (v.amt)) (Fx.x_load1 (x := evY v) rfl rfl (by kernel_rfl) m22.cel (i := 11) (by omega) (by omega) rfl) ?_
   refine Fx.L.v (.pointer (some ⟨g3, 11, none⟩)) (Fx.x_field rfl rfl Try.underlying54 rfl (s := 1) (by kernel_rfl) rfl (by show _ + 11 = _; omega)) ?_
   refine Fx.L.store1 (x := Fx.updV (Fx.ovr (Fx.ovr (Fx.ovr (Fx.ovr (fun i => (#[.int .i64 (0), .int .u64 (0), .int .u64 (0), .int .u64 (0), .int .u64 (0), .int .u64 (0), .int .u64 (0), .int .u64 (0), .int .u8 (0), .int .u64 (0), .int .i64 (0), .int .i64 (0), .int .u64 (0), .int .u64 (0)] : Array Value).getD i undef) 0 1 (fun _ => .int .i64 (v.o))) 1 1 (fun _ => .int .u64 (v.seq))) 2 6 (Fx.rv .u64 v.deps)) 8 1 (fun _ => .int .u8 (v.kind))) 9 (.int .u64 (v.node))) (u := .int .i64 (v.amt)) (by rfl) rfl rfl rfl rfl (by rfl) (by kernel_rfl) m21 (i := 11) (by omega) fun w9 m24 s9 z9 => ?_
   have m25 := m22.stp s9 (by omega)
   have m26 := m23.stp s9 (by omega)
   have b9 := s9.below b8 b8.size (by omega)
   refine Fx.L.nil (Fx.blkN (Fx.seqN (Fx.W.seq (Fx.W.list (Fx.L.v (.agg (Fx.varr 14 (Fx.updV (Fx.updV (Fx.ovr (Fx.ovr (Fx.ovr (Fx.ovr (fun i => (#[.int .i64 (0), .int .u64 (0), .int .u64 (0), .int .u64 (0), .int .u64 (0), .int .u64 (0), .int .u64 (0), .int .u64 (0), .int .u8 (0), .int .u64 (0), .int .i64 (0), .int .i64 (0), .int .u64 (0), .int .u64 (0)] : Array Value).getD i undef) 0 1 (fun _ => .int .i64 (v.o))) 1 1 (fun _ => .int .u64 (v.seq))) 2 6 (Fx.rv .u64 v.deps)) 8 1 (fun _ => .int .u8 (v.kind))) 9 (.int .u64 (v.node))) 11 (.int .i64 (v.amt))))) (Fx.x_loadA (x := Fx.updV (Fx.updV (Fx.ovr (Fx.ovr (Fx.ovr (Fx.ovr (fun i => (#[.int .i64 (0), .int .u64 (0), .int .u64 (0), .int .u64 (0), .int .u64 (0), .int .u64 (0), .int .u64 (0), .int .u64 (0), .int .u8 (0), .int .u64 (0), .int .i64 (0), .int .i64 (0), .int .u64 (0), .int .u64 (0)] : Array Value).getD i undef) 0 1 (fun _ => .int .i64 (v.o))) 1 1 (fun _ => .int .u64 (v.seq))) 2 6 (Fx.rv .u64 v.deps)) 8 1 (fun _ => .int .u8 (v.kind))) 9 (.int .u64 (v.node))) 11 (.int .i64 (v.amt))) (y := Fx.updV (Fx.updV (Fx.ovr (Fx.ovr (Fx.ovr (Fx.ovr (fun i => (#[.int .i64 (0), .int .u64 (0), .int .u64 (0), .int .u64 (0), .int .u64 (0), .int .u64 (0), .int .u64 (0), .int .u64 (0), .int .u8 (0), .int .u64 (0), .int .i64 (0), .int .i64 (0), .int .u64 (0), .int .u64 (0)] : Array Value).getD i undef) 0 1 (fun _ => .int .i64 (v.o))) 1 1 (fun _ => .int .u64 (v.seq))) 2 6 (Fx.rv .u64 v.deps)) 8 1 (fun _ => .int .u8 (v.kind))) 9 (.int .u64 (v.node))) 11 (.int .i64 (v.amt))) rfl rfl (by kernel_rfl) (by kernel_rfl) m24.cel (i := 0) (by omega) (by omega) (fun j _ => by rw [Nat.zero_add])) ?_)))))
   refine Fx.L.storeA (x := fun i => (#[.int .i64 (0), .int .u64 (0), .int .u64 (0), .int .u64 (0), .int .u64 (0), .int .u64 (0), .int .u64 (0), .int .u64 (0), .int .u8 (0), .int .u64 (0), .int .i64 (0), .int .i64 (0), .int .u64 (0), .int .u64 (0)] : Array Value).getD i undef) (y := Fx.updV (Fx.updV (Fx.ovr (Fx.ovr (Fx.ovr (Fx.ovr (fun i => (#[.int .i64 (0), .int .u64 (0), .int .u64 (0), .int .u64 (0), .int .u64 (0), .int .u64 (0), .int .u64 (0), .int .u64 (0), .int .u8 (0), .int .u64 (0), .int .i64 (0), .int .i64 (0), .int .u64 (0), .int .u64 (0)] : Array Value).getD i undef) 0 1 (fun _ => .int .i64 (v.o))) 1 1 (fun _ => .int .u64 (v.seq))) 2 6 (Fx.rv .u64 v.deps)) 8 1 (fun _ => .int .u8 (v.kind))) 9 (.int .u64 (v.node))) 11 (.int .i64 (v.amt))) (by rfl) rfl rfl rfl rfl (fun j hj => by rcases j with _|_|_|_|_|_|_|_|_|_|_|_|_|_|j <;> first | rfl | omega) (by kernel_rfl) m26 (i := 0) (by omega) fun w10 m27 s10 z10 => ?_
   have m28 : Fx.Blk w10 g2 14 (Fx.updV (Fx.updV (Fx.ovr (Fx.ovr (Fx.ovr (Fx.ovr (fun i => (#[.int .i64 (0), .int .u64 (0), .int .u64 (0), .int .u64 (0), .int .u64 (0), .int .u64 (0), .int .u64 (0), .int .u64 (0), .int .u8 (0), .int .u64 (0), .int .i64 (0), .int .i64 (0), .int .u64 (0), .int .u64 (0)] : Array Value).getD i undef) 0 1 (fun _ => .int .i64 (v.o))) 1 1 (fun _ => .int .u64 (v.seq))) 2 6 (Fx.rv .u64 v.deps)) 8 1 (fun _ => .int .u8 (v.kind))) 9 (.int .u64 (v.node))) 11 (.int .i64 (v.amt))) 54 := Fx.ovr_all m27
   have m29 := m25.stp s10 (by omega)
   have m30 := m24.stp s10 (by omega)
   have b10 := s10.below b9 b9.size (by omega)
   refine Fx.L.nil (Fx.seqN (Fx.W.ret (⟨.agg (Fx.varr 14 (Fx.updV (Fx.updV (Fx.ovr (Fx.ovr (Fx.ovr (Fx.ovr (fun i => (#[.int .i64 (0), .int .u64 (0), .int .u64 (0), .int .u64 (0), .int .u64 (0), .int .u64 (0), .int .u64 (0), .int .u64 (0), .int .u8 (0), .int .u64 (0), .int .i64 (0), .int .i64 (0), .int .u64 (0), .int .u64 (0)] : Array Value).getD i undef) 0 1 (fun _ => .int .i64 (v.o))) 1 1 (fun _ => .int .u64 (v.seq))) 2 6 (Fx.rv .u64 v.deps)) 8 1 (fun _ => .int .u8 (v.kind))) 9 (.int .u64 (v.node))) 11 (.int .i64 (v.amt)))), Fx.retV1 Try.results118 ⟨_, rfl, Fx.run_loadV m28.cel (by kernel_rfl) (by kernel_rfl)⟩, ?_⟩)))
   refine ⟨congrArg (fun q => Ending.returned (Value.agg q)) (Fx.varr_congr fun i hi => ?_), b10⟩
   unfold ownE; rw [if_neg c16, if_pos c17]
   rcases i with _|_|_|_|_|_|_|_|_|_|_|_|_|_|i <;> first | rfl | omega
  ·refine Fx.L.v (.bool false) (Fx.x_eqlF rfl rfl rfl c17) ?_
   refine Fx.L.v (.bool false) (Fx.x_assign rfl rfl) ?_
   refine Fx.L.nil (Fx.seqN (Fx.W.cond (b := false) rfl (fun h => nomatch h) (fun _ => Fx.W.seq (Fx.W.list ?_))))
   by_cases c25 : v.kind = 3
   ·refine Fx.L.v (.bool true) (Fx.x_eqlT rfl rfl rfl c25) ?_
    refine Fx.L.v (.bool true) (Fx.x_assign rfl rfl) ?_
    refine Fx.L.nil (Fx.seqN (Fx.W.cond (b := true) rfl (fun _ => Fx.W.seq (Fx.W.list (Fx.L.v (.pointer (some ⟨g1, 9, none⟩)) (Fx.x_field rfl rfl Try.underlying54 rfl (s := 1) (by kernel_rfl) rfl (by show _ + 9 = _; omega)) ?_))) (fun h => nomatch h)))
    refine Fx.L.v (.int .u64 (v.node)) (Fx.x_load1 (x := evY v) rfl rfl (by kernel_rfl) m9.cel (i := 9) (by omega) (by omega) rfl) ?_
    refine Fx.L.v (.pointer (some ⟨g3, 9, none⟩)) (Fx.x_field rfl rfl Try.underlying54 rfl (s := 1) (by kernel_rfl) rfl (by show _ + 9 = _; omega)) ?_
    refine Fx.L.store1 (x := Fx.ovr (Fx.ovr (Fx.ovr (Fx.ovr (fun i => (#[.int .i64 (0), .int .u64 (0), .int .u64 (0), .int .u64 (0), .int .u64 (0), .int .u64 (0), .int .u64 (0), .int .u64 (0), .int .u8 (0), .int .u64 (0), .int .i64 (0), .int .i64 (0), .int .u64 (0), .int .u64 (0)] : Array Value).getD i undef) 0 1 (fun _ => .int .i64 (v.o))) 1 1 (fun _ => .int .u64 (v.seq))) 2 6 (Fx.rv .u64 v.deps)) 8 1 (fun _ => .int .u8 (v.kind))) (u := .int .u64 (v.node)) (by rfl) rfl rfl rfl rfl (by rfl) (by kernel_rfl) m8 (i := 9) (by omega) fun w11 m31 s11 z11 => ?_
    have m32 := m9.stp s11 (by omega)
    have m33 := m10.stp s11 (by omega)
    have b11 := s11.below b4 b4.size (by omega)
    refine Fx.L.nil (Fx.seqN (Fx.W.seq (Fx.W.list (Fx.L.v (.pointer (some ⟨g1, 11, none⟩)) (Fx.x_field rfl rfl Try.underlying54 rfl (s := 1) (by kernel_rfl) rfl (by show _ + 11 = _; omega)) ?_))))
    refine Fx.L.v (.int .i64 (v.amt)) (Fx.x_load1 (x := evY v) rfl rfl (by kernel_rfl) m32.cel (i := 11) (by omega) (by omega) rfl) ?_
    refine Fx.L.v (.pointer (some ⟨g3, 11, none⟩)) (Fx.x_field rfl rfl Try.underlying54 rfl (s := 1) (by kernel_rfl) rfl (by show _ + 11 = _; omega)) ?_
    refine Fx.L.store1 (x := Fx.updV (Fx.ovr (Fx.ovr (Fx.ovr (Fx.ovr (fun i => (#[.int .i64 (0), .int .u64 (0), .int .u64 (0), .int .u64 (0), .int .u64 (0), .int .u64 (0), .int .u64 (0), .int .u64 (0), .int .u8 (0), .int .u64 (0), .int .i64 (0), .int .i64 (0), .int .u64 (0), .int .u64 (0)] : Array Value).getD i undef) 0 1 (fun _ => .int .i64 (v.o))) 1 1 (fun _ => .int .u64 (v.seq))) 2 6 (Fx.rv .u64 v.deps)) 8 1 (fun _ => .int .u8 (v.kind))) 9 (.int .u64 (v.node))) (u := .int .i64 (v.amt)) (by rfl) rfl rfl rfl rfl (by rfl) (by kernel_rfl) m31 (i := 11) (by omega) fun w12 m34 s12 z12 => ?_
    have m35 := m32.stp s12 (by omega)
    have m36 := m33.stp s12 (by omega)
    have b12 := s12.below b11 b11.size (by omega)
    refine Fx.L.nil (Fx.seqN (Fx.W.list (Fx.L.v (.pointer (some ⟨g1, 12, none⟩)) (Fx.x_field rfl rfl Try.underlying54 rfl (s := 1) (by kernel_rfl) rfl (by show _ + 12 = _; omega)) ?_)))
    refine Fx.L.v (.int .u64 (v.req)) (Fx.x_load1 (x := evY v) rfl rfl (by kernel_rfl) m35.cel (i := 12) (by omega) (by omega) rfl) ?_
    refine Fx.L.v (.pointer (some ⟨g3, 12, none⟩)) (Fx.x_field rfl rfl Try.underlying54 rfl (s := 1) (by kernel_rfl) rfl (by show _ + 12 = _; omega)) ?_
    refine Fx.L.store1 (x := Fx.updV (Fx.updV (Fx.ovr (Fx.ovr (Fx.ovr (Fx.ovr (fun i => (#[.int .i64 (0), .int .u64 (0), .int .u64 (0), .int .u64 (0), .int .u64 (0), .int .u64 (0), .int .u64 (0), .int .u64 (0), .int .u8 (0), .int .u64 (0), .int .i64 (0), .int .i64 (0), .int .u64 (0), .int .u64 (0)] : Array Value).getD i undef) 0 1 (fun _ => .int .i64 (v.o))) 1 1 (fun _ => .int .u64 (v.seq))) 2 6 (Fx.rv .u64 v.deps)) 8 1 (fun _ => .int .u8 (v.kind))) 9 (.int .u64 (v.node))) 11 (.int .i64 (v.amt))) (u := .int .u64 (v.req)) (by rfl) rfl rfl rfl rfl (by rfl) (by kernel_rfl) m34 (i := 12) (by omega) fun w13 m37 s13 z13 => ?_
    have m38 := m35.stp s13 (by omega)
    have m39 := m36.stp s13 (by omega)
    have b13 := s13.below b12 b12.size (by omega)
    refine Fx.L.nil (Fx.blkN (Fx.seqN (Fx.W.seq (Fx.W.list (Fx.L.v (.agg (Fx.varr 14 (Fx.updV (Fx.updV (Fx.updV (Fx.ovr (Fx.ovr (Fx.ovr (Fx.ovr (fun i => (#[.int .i64 (0), .int .u64 (0), .int .u64 (0), .int .u64 (0), .int .u64 (0), .int .u64 (0), .int .u64 (0), .int .u64 (0), .int .u8 (0), .int .u64 (0), .int .i64 (0), .int .i64 (0), .int .u64 (0), .int .u64 (0)] : Array Value).getD i undef) 0 1 (fun _ => .int .i64 (v.o))) 1 1 (fun _ => .int .u64 (v.seq))) 2 6 (Fx.rv .u64 v.deps)) 8 1 (fun _ => .int .u8 (v.kind))) 9 (.int .u64 (v.node))) 11 (.int .i64 (v.amt))) 12 (.int .u64 (v.req))))) (Fx.x_loadA (x := Fx.updV (Fx.updV (Fx.updV (Fx.ovr (Fx.ovr (Fx.ovr (Fx.ovr (fun i => (#[.int .i64 (0), .int .u64 (0), .int .u64 (0), .int .u64 (0), .int .u64 (0), .int .u64 (0), .int .u64 (0), .int .u64 (0), .int .u8 (0), .int .u64 (0), .int .i64 (0), .int .i64 (0), .int .u64 (0), .int .u64 (0)] : Array Value).getD i undef) 0 1 (fun _ => .int .i64 (v.o))) 1 1 (fun _ => .int .u64 (v.seq))) 2 6 (Fx.rv .u64 v.deps)) 8 1 (fun _ => .int .u8 (v.kind))) 9 (.int .u64 (v.node))) 11 (.int .i64 (v.amt))) 12 (.int .u64 (v.req))) (y := Fx.updV (Fx.updV (Fx.updV (Fx.ovr (Fx.ovr (Fx.ovr (Fx.ovr (fun i => (#[.int .i64 (0), .int .u64 (0), .int .u64 (0), .int .u64 (0), .int .u64 (0), .int .u64 (0), .int .u64 (0), .int .u64 (0), .int .u8 (0), .int .u64 (0), .int .i64 (0), .int .i64 (0), .int .u64 (0), .int .u64 (0)] : Array Value).getD i undef) 0 1 (fun _ => .int .i64 (v.o))) 1 1 (fun _ => .int .u64 (v.seq))) 2 6 (Fx.rv .u64 v.deps)) 8 1 (fun _ => .int .u8 (v.kind))) 9 (.int .u64 (v.node))) 11 (.int .i64 (v.amt))) 12 (.int .u64 (v.req))) rfl rfl (by kernel_rfl) (by kernel_rfl) m37.cel (i := 0) (by omega) (by omega) (fun j _ => by rw [Nat.zero_add])) ?_)))))
    refine Fx.L.storeA (x := fun i => (#[.int .i64 (0), .int .u64 (0), .int .u64 (0), .int .u64 (0), .int .u64 (0), .int .u64 (0), .int .u64 (0), .int .u64 (0), .int .u8 (0), .int .u64 (0), .int .i64 (0), .int .i64 (0), .int .u64 (0), .int .u64 (0)] : Array Value).getD i undef) (y := Fx.updV (Fx.updV (Fx.updV (Fx.ovr (Fx.ovr (Fx.ovr (Fx.ovr (fun i => (#[.int .i64 (0), .int .u64 (0), .int .u64 (0), .int .u64 (0), .int .u64 (0), .int .u64 (0), .int .u64 (0), .int .u64 (0), .int .u8 (0), .int .u64 (0), .int .i64 (0), .int .i64 (0), .int .u64 (0), .int .u64 (0)] : Array Value).getD i undef) 0 1 (fun _ => .int .i64 (v.o))) 1 1 (fun _ => .int .u64 (v.seq))) 2 6 (Fx.rv .u64 v.deps)) 8 1 (fun _ => .int .u8 (v.kind))) 9 (.int .u64 (v.node))) 11 (.int .i64 (v.amt))) 12 (.int .u64 (v.req))) (by rfl) rfl rfl rfl rfl (fun j hj => by rcases j with _|_|_|_|_|_|_|_|_|_|_|_|_|_|j <;> first | rfl | omega) (by kernel_rfl) m39 (i := 0) (by omega) fun w14 m40 s14 z14 => ?_
    have m41 : Fx.Blk w14 g2 14 (Fx.updV (Fx.updV (Fx.updV (Fx.ovr (Fx.ovr (Fx.ovr (Fx.ovr (fun i => (#[.int .i64 (0), .int .u64 (0), .int .u64 (0), .int .u64 (0), .int .u64 (0), .int .u64 (0), .int .u64 (0), .int .u64 (0), .int .u8 (0), .int .u64 (0), .int .i64 (0), .int .i64 (0), .int .u64 (0), .int .u64 (0)] : Array Value).getD i undef) 0 1 (fun _ => .int .i64 (v.o))) 1 1 (fun _ => .int .u64 (v.seq))) 2 6 (Fx.rv .u64 v.deps)) 8 1 (fun _ => .int .u8 (v.kind))) 9 (.int .u64 (v.node))) 11 (.int .i64 (v.amt))) 12 (.int .u64 (v.req))) 54 := Fx.ovr_all m40
    have m42 := m38.stp s14 (by omega)
    have m43 := m37.stp s14 (by omega)
    have b14 := s14.below b13 b13.size (by omega)
    refine Fx.L.nil (Fx.seqN (Fx.W.ret (⟨.agg (Fx.varr 14 (Fx.updV (Fx.updV (Fx.updV (Fx.ovr (Fx.ovr (Fx.ovr (Fx.ovr (fun i => (#[.int .i64 (0), .int .u64 (0), .int .u64 (0), .int .u64 (0), .int .u64 (0), .int .u64 (0), .int .u64 (0), .int .u64 (0), .int .u8 (0), .int .u64 (0), .int .i64 (0), .int .i64 (0), .int .u64 (0), .int .u64 (0)] : Array Value).getD i undef) 0 1 (fun _ => .int .i64 (v.o))) 1 1 (fun _ => .int .u64 (v.seq))) 2 6 (Fx.rv .u64 v.deps)) 8 1 (fun _ => .int .u8 (v.kind))) 9 (.int .u64 (v.node))) 11 (.int .i64 (v.amt))) 12 (.int .u64 (v.req)))), Fx.retV1 Try.results118 ⟨_, rfl, Fx.run_loadV m41.cel (by kernel_rfl) (by kernel_rfl)⟩, ?_⟩)))
    refine ⟨congrArg (fun q => Ending.returned (Value.agg q)) (Fx.varr_congr fun i hi => ?_), b14⟩
    unfold ownE; rw [if_neg c16, if_neg c17, if_pos c25]
    rcases i with _|_|_|_|_|_|_|_|_|_|_|_|_|_|i <;> first | rfl | omega
   ·refine Fx.L.v (.bool false) (Fx.x_eqlF rfl rfl rfl c25) ?_
    refine Fx.L.v (.bool false) (Fx.x_assign rfl rfl) ?_
    refine Fx.L.nil (Fx.seqN (Fx.W.cond (b := false) rfl (fun h => nomatch h) (fun _ => Fx.W.seq (Fx.W.list ?_))))
    by_cases c36 : v.kind = 4
    ·refine Fx.L.v (.bool true) (Fx.x_eqlT rfl rfl rfl c36) ?_
     refine Fx.L.v (.bool true) (Fx.x_assign rfl rfl) ?_
     refine Fx.L.nil (Fx.seqN (Fx.W.cond (b := true) rfl (fun _ => Fx.W.seq (Fx.W.list (Fx.L.v (.pointer (some ⟨g1, 12, none⟩)) (Fx.x_field rfl rfl Try.underlying54 rfl (s := 1) (by kernel_rfl) rfl (by show _ + 12 = _; omega)) ?_))) (fun h => nomatch h)))
     refine Fx.L.v (.int .u64 (v.req)) (Fx.x_load1 (x := evY v) rfl rfl (by kernel_rfl) m9.cel (i := 12) (by omega) (by omega) rfl) ?_
     refine Fx.L.v (.pointer (some ⟨g3, 12, none⟩)) (Fx.x_field rfl rfl Try.underlying54 rfl (s := 1) (by kernel_rfl) rfl (by show _ + 12 = _; omega)) ?_
     refine Fx.L.store1 (x := Fx.ovr (Fx.ovr (Fx.ovr (Fx.ovr (fun i => (#[.int .i64 (0), .int .u64 (0), .int .u64 (0), .int .u64 (0), .int .u64 (0), .int .u64 (0), .int .u64 (0), .int .u64 (0), .int .u8 (0), .int .u64 (0), .int .i64 (0), .int .i64 (0), .int .u64 (0), .int .u64 (0)] : Array Value).getD i undef) 0 1 (fun _ => .int .i64 (v.o))) 1 1 (fun _ => .int .u64 (v.seq))) 2 6 (Fx.rv .u64 v.deps)) 8 1 (fun _ => .int .u8 (v.kind))) (u := .int .u64 (v.req)) (by rfl) rfl rfl rfl rfl (by rfl) (by kernel_rfl) m8 (i := 12) (by omega) fun w15 m44 s15 z15 => ?_
     have m45 := m9.stp s15 (by omega)
     have m46 := m10.stp s15 (by omega)
     have b15 := s15.below b4 b4.size (by omega)
     refine Fx.L.nil (Fx.seqN (Fx.W.list (Fx.L.v (.pointer (some ⟨g1, 13, none⟩)) (Fx.x_field rfl rfl Try.underlying54 rfl (s := 1) (by kernel_rfl) rfl (by show _ + 13 = _; omega)) ?_)))
     refine Fx.L.v (.int .u64 (v.of)) (Fx.x_load1 (x := evY v) rfl rfl (by kernel_rfl) m45.cel (i := 13) (by omega) (by omega) rfl) ?_
     refine Fx.L.v (.pointer (some ⟨g3, 13, none⟩)) (Fx.x_field rfl rfl Try.underlying54 rfl (s := 1) (by kernel_rfl) rfl (by show _ + 13 = _; omega)) ?_
     refine Fx.L.store1 (x := Fx.updV (Fx.ovr (Fx.ovr (Fx.ovr (Fx.ovr (fun i => (#[.int .i64 (0), .int .u64 (0), .int .u64 (0), .int .u64 (0), .int .u64 (0), .int .u64 (0), .int .u64 (0), .int .u64 (0), .int .u8 (0), .int .u64 (0), .int .i64 (0), .int .i64 (0), .int .u64 (0), .int .u64 (0)] : Array Value).getD i undef) 0 1 (fun _ => .int .i64 (v.o))) 1 1 (fun _ => .int .u64 (v.seq))) 2 6 (Fx.rv .u64 v.deps)) 8 1 (fun _ => .int .u8 (v.kind))) 12 (.int .u64 (v.req))) (u := .int .u64 (v.of)) (by rfl) rfl rfl rfl rfl (by rfl) (by kernel_rfl) m44 (i := 13) (by omega) fun w16 m47 s16 z16 => ?_
     have m48 := m45.stp s16 (by omega)
     have m49 := m46.stp s16 (by omega)
     have b16 := s16.below b15 b15.size (by omega)
     refine Fx.L.nil (Fx.blkN (Fx.seqN (Fx.W.seq (Fx.W.list (Fx.L.v (.agg (Fx.varr 14 (Fx.updV (Fx.updV (Fx.ovr (Fx.ovr (Fx.ovr (Fx.ovr (fun i => (#[.int .i64 (0), .int .u64 (0), .int .u64 (0), .int .u64 (0), .int .u64 (0), .int .u64 (0), .int .u64 (0), .int .u64 (0), .int .u8 (0), .int .u64 (0), .int .i64 (0), .int .i64 (0), .int .u64 (0), .int .u64 (0)] : Array Value).getD i undef) 0 1 (fun _ => .int .i64 (v.o))) 1 1 (fun _ => .int .u64 (v.seq))) 2 6 (Fx.rv .u64 v.deps)) 8 1 (fun _ => .int .u8 (v.kind))) 12 (.int .u64 (v.req))) 13 (.int .u64 (v.of))))) (Fx.x_loadA (x := Fx.updV (Fx.updV (Fx.ovr (Fx.ovr (Fx.ovr (Fx.ovr (fun i => (#[.int .i64 (0), .int .u64 (0), .int .u64 (0), .int .u64 (0), .int .u64 (0), .int .u64 (0), .int .u64 (0), .int .u64 (0), .int .u8 (0), .int .u64 (0), .int .i64 (0), .int .i64 (0), .int .u64 (0), .int .u64 (0)] : Array Value).getD i undef) 0 1 (fun _ => .int .i64 (v.o))) 1 1 (fun _ => .int .u64 (v.seq))) 2 6 (Fx.rv .u64 v.deps)) 8 1 (fun _ => .int .u8 (v.kind))) 12 (.int .u64 (v.req))) 13 (.int .u64 (v.of))) (y := Fx.updV (Fx.updV (Fx.ovr (Fx.ovr (Fx.ovr (Fx.ovr (fun i => (#[.int .i64 (0), .int .u64 (0), .int .u64 (0), .int .u64 (0), .int .u64 (0), .int .u64 (0), .int .u64 (0), .int .u64 (0), .int .u8 (0), .int .u64 (0), .int .i64 (0), .int .i64 (0), .int .u64 (0), .int .u64 (0)] : Array Value).getD i undef) 0 1 (fun _ => .int .i64 (v.o))) 1 1 (fun _ => .int .u64 (v.seq))) 2 6 (Fx.rv .u64 v.deps)) 8 1 (fun _ => .int .u8 (v.kind))) 12 (.int .u64 (v.req))) 13 (.int .u64 (v.of))) rfl rfl (by kernel_rfl) (by kernel_rfl) m47.cel (i := 0) (by omega) (by omega) (fun j _ => by rw [Nat.zero_add])) ?_)))))
     refine Fx.L.storeA (x := fun i => (#[.int .i64 (0), .int .u64 (0), .int .u64 (0), .int .u64 (0), .int .u64 (0), .int .u64 (0), .int .u64 (0), .int .u64 (0), .int .u8 (0), .int .u64 (0), .int .i64 (0), .int .i64 (0), .int .u64 (0), .int .u64 (0)] : Array Value).getD i undef) (y := Fx.updV (Fx.updV (Fx.ovr (Fx.ovr (Fx.ovr (Fx.ovr (fun i => (#[.int .i64 (0), .int .u64 (0), .int .u64 (0), .int .u64 (0), .int .u64 (0), .int .u64 (0), .int .u64 (0), .int .u64 (0), .int .u8 (0), .int .u64 (0), .int .i64 (0), .int .i64 (0), .int .u64 (0), .int .u64 (0)] : Array Value).getD i undef) 0 1 (fun _ => .int .i64 (v.o))) 1 1 (fun _ => .int .u64 (v.seq))) 2 6 (Fx.rv .u64 v.deps)) 8 1 (fun _ => .int .u8 (v.kind))) 12 (.int .u64 (v.req))) 13 (.int .u64 (v.of))) (by rfl) rfl rfl rfl rfl (fun j hj => by rcases j with _|_|_|_|_|_|_|_|_|_|_|_|_|_|j <;> first | rfl | omega) (by kernel_rfl) m49 (i := 0) (by omega) fun w17 m50 s17 z17 => ?_
     have m51 : Fx.Blk w17 g2 14 (Fx.updV (Fx.updV (Fx.ovr (Fx.ovr (Fx.ovr (Fx.ovr (fun i => (#[.int .i64 (0), .int .u64 (0), .int .u64 (0), .int .u64 (0), .int .u64 (0), .int .u64 (0), .int .u64 (0), .int .u64 (0), .int .u8 (0), .int .u64 (0), .int .i64 (0), .int .i64 (0), .int .u64 (0), .int .u64 (0)] : Array Value).getD i undef) 0 1 (fun _ => .int .i64 (v.o))) 1 1 (fun _ => .int .u64 (v.seq))) 2 6 (Fx.rv .u64 v.deps)) 8 1 (fun _ => .int .u8 (v.kind))) 12 (.int .u64 (v.req))) 13 (.int .u64 (v.of))) 54 := Fx.ovr_all m50
     have m52 := m48.stp s17 (by omega)
     have m53 := m47.stp s17 (by omega)
     have b17 := s17.below b16 b16.size (by omega)
     refine Fx.L.nil (Fx.seqN (Fx.W.ret (⟨.agg (Fx.varr 14 (Fx.updV (Fx.updV (Fx.ovr (Fx.ovr (Fx.ovr (Fx.ovr (fun i => (#[.int .i64 (0), .int .u64 (0), .int .u64 (0), .int .u64 (0), .int .u64 (0), .int .u64 (0), .int .u64 (0), .int .u64 (0), .int .u8 (0), .int .u64 (0), .int .i64 (0), .int .i64 (0), .int .u64 (0), .int .u64 (0)] : Array Value).getD i undef) 0 1 (fun _ => .int .i64 (v.o))) 1 1 (fun _ => .int .u64 (v.seq))) 2 6 (Fx.rv .u64 v.deps)) 8 1 (fun _ => .int .u8 (v.kind))) 12 (.int .u64 (v.req))) 13 (.int .u64 (v.of)))), Fx.retV1 Try.results118 ⟨_, rfl, Fx.run_loadV m51.cel (by kernel_rfl) (by kernel_rfl)⟩, ?_⟩)))
     refine ⟨congrArg (fun q => Ending.returned (Value.agg q)) (Fx.varr_congr fun i hi => ?_), b17⟩
     unfold ownE; rw [if_neg c16, if_neg c17, if_neg c25, if_pos c36]
     rcases i with _|_|_|_|_|_|_|_|_|_|_|_|_|_|i <;> first | rfl | omega
    ·refine Fx.L.v (.bool false) (Fx.x_eqlF rfl rfl rfl c36) ?_
     refine Fx.L.v (.bool false) (Fx.x_assign rfl rfl) ?_
     refine Fx.L.nil (Fx.seqN (Fx.W.cond (b := false) rfl (fun h => nomatch h) (fun _ => Fx.W.seq (Fx.W.list ?_))))
     by_cases c44 : v.kind = 5
     ·refine Fx.L.v (.bool true) (Fx.x_eqlT rfl rfl rfl c44) ?_
      refine Fx.L.v (.bool true) (Fx.x_assign rfl rfl) ?_
      refine Fx.L.nil (Fx.seqN (Fx.W.cond (b := true) rfl (fun _ => Fx.W.seq (Fx.W.list (Fx.L.v (.pointer (some ⟨g1, 9, none⟩)) (Fx.x_field rfl rfl Try.underlying54 rfl (s := 1) (by kernel_rfl) rfl (by show _ + 9 = _; omega)) ?_))) (fun h => nomatch h)))
      refine Fx.L.v (.int .u64 (v.node)) (Fx.x_load1 (x := evY v) rfl rfl (by kernel_rfl) m9.cel (i := 9) (by omega) (by omega) rfl) ?_
      refine Fx.L.v (.pointer (some ⟨g3, 9, none⟩)) (Fx.x_field rfl rfl Try.underlying54 rfl (s := 1) (by kernel_rfl) rfl (by show _ + 9 = _; omega)) ?_
      refine Fx.L.store1 (x := Fx.ovr (Fx.ovr (Fx.ovr (Fx.ovr (fun i => (#[.int .i64 (0), .int .u64 (0), .int .u64 (0), .int .u64 (0), .int .u64 (0), .int .u64 (0), .int .u64 (0), .int .u64 (0), .int .u8 (0), .int .u64 (0), .int .i64 (0), .int .i64 (0), .int .u64 (0), .int .u64 (0)] : Array Value).getD i undef) 0 1 (fun _ => .int .i64 (v.o))) 1 1 (fun _ => .int .u64 (v.seq))) 2 6 (Fx.rv .u64 v.deps)) 8 1 (fun _ => .int .u8 (v.kind))) (u := .int .u64 (v.node)) (by rfl) rfl rfl rfl rfl (by rfl) (by kernel_rfl) m8 (i := 9) (by omega) fun w18 m54 s18 z18 => ?_
      have m55 := m9.stp s18 (by omega)
      have m56 := m10.stp s18 (by omega)
      have b18 := s18.below b4 b4.size (by omega)
      refine Fx.L.nil (Fx.seqN (Fx.W.seq (Fx.W.list (Fx.L.v (.pointer (some ⟨g1, 11, none⟩)) (Fx.x_field rfl rfl Try.underlying54 rfl (s := 1) (by kernel_rfl) rfl (by show _ + 11 = _; omega)) ?_))))
      refine Fx.L.v (.int .i64 (v.amt)) (Fx.x_load1 (x := evY v) rfl rfl (by kernel_rfl) m55.cel (i := 11) (by omega) (by omega) rfl) ?_
      refine Fx.L.v (.pointer (some ⟨g3, 11, none⟩)) (Fx.x_field rfl rfl Try.underlying54 rfl (s := 1) (by kernel_rfl) rfl (by show _ + 11 = _; omega)) ?_
      refine Fx.L.store1 (x := Fx.updV (Fx.ovr (Fx.ovr (Fx.ovr (Fx.ovr (fun i => (#[.int .i64 (0), .int .u64 (0), .int .u64 (0), .int .u64 (0), .int .u64 (0), .int .u64 (0), .int .u64 (0), .int .u64 (0), .int .u8 (0), .int .u64 (0), .int .i64 (0), .int .i64 (0), .int .u64 (0), .int .u64 (0)] : Array Value).getD i undef) 0 1 (fun _ => .int .i64 (v.o))) 1 1 (fun _ => .int .u64 (v.seq))) 2 6 (Fx.rv .u64 v.deps)) 8 1 (fun _ => .int .u8 (v.kind))) 9 (.int .u64 (v.node))) (u := .int .i64 (v.amt)) (by rfl) rfl rfl rfl rfl (by rfl) (by kernel_rfl) m54 (i := 11) (by omega) fun w19 m57 s19 z19 => ?_
      have m58 := m55.stp s19 (by omega)
      have m59 := m56.stp s19 (by omega)
      have b19 := s19.below b18 b18.size (by omega)
      refine Fx.L.nil (Fx.seqN (Fx.W.list (Fx.L.v (.pointer (some ⟨g1, 10, none⟩)) (Fx.x_field rfl rfl Try.underlying54 rfl (s := 1) (by kernel_rfl) rfl (by show _ + 10 = _; omega)) ?_)))
      refine Fx.L.v (.int .i64 (v.dst)) (Fx.x_load1 (x := evY v) rfl rfl (by kernel_rfl) m58.cel (i := 10) (by omega) (by omega) rfl) ?_
      refine Fx.L.v (.pointer (some ⟨g3, 10, none⟩)) (Fx.x_field rfl rfl Try.underlying54 rfl (s := 1) (by kernel_rfl) rfl (by show _ + 10 = _; omega)) ?_
      refine Fx.L.store1 (x := Fx.updV (Fx.updV (Fx.ovr (Fx.ovr (Fx.ovr (Fx.ovr (fun i => (#[.int .i64 (0), .int .u64 (0), .int .u64 (0), .int .u64 (0), .int .u64 (0), .int .u64 (0), .int .u64 (0), .int .u64 (0), .int .u8 (0), .int .u64 (0), .int .i64 (0), .int .i64 (0), .int .u64 (0), .int .u64 (0)] : Array Value).getD i undef) 0 1 (fun _ => .int .i64 (v.o))) 1 1 (fun _ => .int .u64 (v.seq))) 2 6 (Fx.rv .u64 v.deps)) 8 1 (fun _ => .int .u8 (v.kind))) 9 (.int .u64 (v.node))) 11 (.int .i64 (v.amt))) (u := .int .i64 (v.dst)) (by rfl) rfl rfl rfl rfl (by rfl) (by kernel_rfl) m57 (i := 10) (by omega) fun w20 m60 s20 z20 => ?_
      have m61 := m58.stp s20 (by omega)
      have m62 := m59.stp s20 (by omega)
      have b20 := s20.below b19 b19.size (by omega)
      refine Fx.L.nil (Fx.blkN (Fx.seqN (Fx.W.seq (Fx.W.list (Fx.L.v (.agg (Fx.varr 14 (Fx.updV (Fx.updV (Fx.updV (Fx.ovr (Fx.ovr (Fx.ovr (Fx.ovr (fun i => (#[.int .i64 (0), .int .u64 (0), .int .u64 (0), .int .u64 (0), .int .u64 (0), .int .u64 (0), .int .u64 (0), .int .u64 (0), .int .u8 (0), .int .u64 (0), .int .i64 (0), .int .i64 (0), .int .u64 (0), .int .u64 (0)] : Array Value).getD i undef) 0 1 (fun _ => .int .i64 (v.o))) 1 1 (fun _ => .int .u64 (v.seq))) 2 6 (Fx.rv .u64 v.deps)) 8 1 (fun _ => .int .u8 (v.kind))) 9 (.int .u64 (v.node))) 11 (.int .i64 (v.amt))) 10 (.int .i64 (v.dst))))) (Fx.x_loadA (x := Fx.updV (Fx.updV (Fx.updV (Fx.ovr (Fx.ovr (Fx.ovr (Fx.ovr (fun i => (#[.int .i64 (0), .int .u64 (0), .int .u64 (0), .int .u64 (0), .int .u64 (0), .int .u64 (0), .int .u64 (0), .int .u64 (0), .int .u8 (0), .int .u64 (0), .int .i64 (0), .int .i64 (0), .int .u64 (0), .int .u64 (0)] : Array Value).getD i undef) 0 1 (fun _ => .int .i64 (v.o))) 1 1 (fun _ => .int .u64 (v.seq))) 2 6 (Fx.rv .u64 v.deps)) 8 1 (fun _ => .int .u8 (v.kind))) 9 (.int .u64 (v.node))) 11 (.int .i64 (v.amt))) 10 (.int .i64 (v.dst))) (y := Fx.updV (Fx.updV (Fx.updV (Fx.ovr (Fx.ovr (Fx.ovr (Fx.ovr (fun i => (#[.int .i64 (0), .int .u64 (0), .int .u64 (0), .int .u64 (0), .int .u64 (0), .int .u64 (0), .int .u64 (0), .int .u64 (0), .int .u8 (0), .int .u64 (0), .int .i64 (0), .int .i64 (0), .int .u64 (0), .int .u64 (0)] : Array Value).getD i undef) 0 1 (fun _ => .int .i64 (v.o))) 1 1 (fun _ => .int .u64 (v.seq))) 2 6 (Fx.rv .u64 v.deps)) 8 1 (fun _ => .int .u8 (v.kind))) 9 (.int .u64 (v.node))) 11 (.int .i64 (v.amt))) 10 (.int .i64 (v.dst))) rfl rfl (by kernel_rfl) (by kernel_rfl) m60.cel (i := 0) (by omega) (by omega) (fun j _ => by rw [Nat.zero_add])) ?_)))))
      refine Fx.L.storeA (x := fun i => (#[.int .i64 (0), .int .u64 (0), .int .u64 (0), .int .u64 (0), .int .u64 (0), .int .u64 (0), .int .u64 (0), .int .u64 (0), .int .u8 (0), .int .u64 (0), .int .i64 (0), .int .i64 (0), .int .u64 (0), .int .u64 (0)] : Array Value).getD i undef) (y := Fx.updV (Fx.updV (Fx.updV (Fx.ovr (Fx.ovr (Fx.ovr (Fx.ovr (fun i => (#[.int .i64 (0), .int .u64 (0), .int .u64 (0), .int .u64 (0), .int .u64 (0), .int .u64 (0), .int .u64 (0), .int .u64 (0), .int .u8 (0), .int .u64 (0), .int .i64 (0), .int .i64 (0), .int .u64 (0), .int .u64 (0)] : Array Value).getD i undef) 0 1 (fun _ => .int .i64 (v.o))) 1 1 (fun _ => .int .u64 (v.seq))) 2 6 (Fx.rv .u64 v.deps)) 8 1 (fun _ => .int .u8 (v.kind))) 9 (.int .u64 (v.node))) 11 (.int .i64 (v.amt))) 10 (.int .i64 (v.dst))) (by rfl) rfl rfl rfl rfl (fun j hj => by rcases j with _|_|_|_|_|_|_|_|_|_|_|_|_|_|j <;> first | rfl | omega) (by kernel_rfl) m62 (i := 0) (by omega) fun w21 m63 s21 z21 => ?_
      have m64 : Fx.Blk w21 g2 14 (Fx.updV (Fx.updV (Fx.updV (Fx.ovr (Fx.ovr (Fx.ovr (Fx.ovr (fun i => (#[.int .i64 (0), .int .u64 (0), .int .u64 (0), .int .u64 (0), .int .u64 (0), .int .u64 (0), .int .u64 (0), .int .u64 (0), .int .u8 (0), .int .u64 (0), .int .i64 (0), .int .i64 (0), .int .u64 (0), .int .u64 (0)] : Array Value).getD i undef) 0 1 (fun _ => .int .i64 (v.o))) 1 1 (fun _ => .int .u64 (v.seq))) 2 6 (Fx.rv .u64 v.deps)) 8 1 (fun _ => .int .u8 (v.kind))) 9 (.int .u64 (v.node))) 11 (.int .i64 (v.amt))) 10 (.int .i64 (v.dst))) 54 := Fx.ovr_all m63
      have m65 := m61.stp s21 (by omega)
      have m66 := m60.stp s21 (by omega)
      have b21 := s21.below b20 b20.size (by omega)
      refine Fx.L.nil (Fx.seqN (Fx.W.ret (⟨.agg (Fx.varr 14 (Fx.updV (Fx.updV (Fx.updV (Fx.ovr (Fx.ovr (Fx.ovr (Fx.ovr (fun i => (#[.int .i64 (0), .int .u64 (0), .int .u64 (0), .int .u64 (0), .int .u64 (0), .int .u64 (0), .int .u64 (0), .int .u64 (0), .int .u8 (0), .int .u64 (0), .int .i64 (0), .int .i64 (0), .int .u64 (0), .int .u64 (0)] : Array Value).getD i undef) 0 1 (fun _ => .int .i64 (v.o))) 1 1 (fun _ => .int .u64 (v.seq))) 2 6 (Fx.rv .u64 v.deps)) 8 1 (fun _ => .int .u8 (v.kind))) 9 (.int .u64 (v.node))) 11 (.int .i64 (v.amt))) 10 (.int .i64 (v.dst)))), Fx.retV1 Try.results118 ⟨_, rfl, Fx.run_loadV m64.cel (by kernel_rfl) (by kernel_rfl)⟩, ?_⟩)))
      refine ⟨congrArg (fun q => Ending.returned (Value.agg q)) (Fx.varr_congr fun i hi => ?_), b21⟩
      unfold ownE; rw [if_neg c16, if_neg c17, if_neg c25, if_neg c36, if_pos c44]
      rcases i with _|_|_|_|_|_|_|_|_|_|_|_|_|_|i <;> first | rfl | omega
     ·refine Fx.L.v (.bool false) (Fx.x_eqlF rfl rfl rfl c44) ?_
      refine Fx.L.v (.bool false) (Fx.x_assign rfl rfl) ?_
      refine Fx.L.nil (Fx.seqN (Fx.W.cond (b := false) rfl (fun h => nomatch h) (fun _ => Fx.W.seq (Fx.W.list ?_))))
      by_cases c55 : v.kind = 6
      ·refine Fx.L.v (.bool true) (Fx.x_eqlT rfl rfl rfl c55) ?_
       refine Fx.L.v (.bool true) (Fx.x_assign rfl rfl) ?_
       refine Fx.L.nil (Fx.seqN (Fx.W.cond (b := true) rfl (fun _ => Fx.W.list (Fx.L.v (.pointer (some ⟨g1, 10, none⟩)) (Fx.x_field rfl rfl Try.underlying54 rfl (s := 1) (by kernel_rfl) rfl (by show _ + 10 = _; omega)) ?_)) (fun h => nomatch h)))
       refine Fx.L.v (.int .i64 (v.dst)) (Fx.x_load1 (x := evY v) rfl rfl (by kernel_rfl) m9.cel (i := 10) (by omega) (by omega) rfl) ?_
       refine Fx.L.v (.pointer (some ⟨g3, 10, none⟩)) (Fx.x_field rfl rfl Try.underlying54 rfl (s := 1) (by kernel_rfl) rfl (by show _ + 10 = _; omega)) ?_
       refine Fx.L.store1 (x := Fx.ovr (Fx.ovr (Fx.ovr (Fx.ovr (fun i => (#[.int .i64 (0), .int .u64 (0), .int .u64 (0), .int .u64 (0), .int .u64 (0), .int .u64 (0), .int .u64 (0), .int .u64 (0), .int .u8 (0), .int .u64 (0), .int .i64 (0), .int .i64 (0), .int .u64 (0), .int .u64 (0)] : Array Value).getD i undef) 0 1 (fun _ => .int .i64 (v.o))) 1 1 (fun _ => .int .u64 (v.seq))) 2 6 (Fx.rv .u64 v.deps)) 8 1 (fun _ => .int .u8 (v.kind))) (u := .int .i64 (v.dst)) (by rfl) rfl rfl rfl rfl (by rfl) (by kernel_rfl) m8 (i := 10) (by omega) fun w22 m67 s22 z22 => ?_
       have m68 := m9.stp s22 (by omega)
       have m69 := m10.stp s22 (by omega)
       have b22 := s22.below b4 b4.size (by omega)
       refine Fx.L.nil (Fx.blkN (Fx.seqN (Fx.W.seq (Fx.W.list (Fx.L.v (.agg (Fx.varr 14 (Fx.updV (Fx.ovr (Fx.ovr (Fx.ovr (Fx.ovr (fun i => (#[.int .i64 (0), .int .u64 (0), .int .u64 (0), .int .u64 (0), .int .u64 (0), .int .u64 (0), .int .u64 (0), .int .u64 (0), .int .u8 (0), .int .u64 (0), .int .i64 (0), .int .i64 (0), .int .u64 (0), .int .u64 (0)] : Array Value).getD i undef) 0 1 (fun _ => .int .i64 (v.o))) 1 1 (fun _ => .int .u64 (v.seq))) 2 6 (Fx.rv .u64 v.deps)) 8 1 (fun _ => .int .u8 (v.kind))) 10 (.int .i64 (v.dst))))) (Fx.x_loadA (x := Fx.updV (Fx.ovr (Fx.ovr (Fx.ovr (Fx.ovr (fun i => (#[.int .i64 (0), .int .u64 (0), .int .u64 (0), .int .u64 (0), .int .u64 (0), .int .u64 (0), .int .u64 (0), .int .u64 (0), .int .u8 (0), .int .u64 (0), .int .i64 (0), .int .i64 (0), .int .u64 (0), .int .u64 (0)] : Array Value).getD i undef) 0 1 (fun _ => .int .i64 (v.o))) 1 1 (fun _ => .int .u64 (v.seq))) 2 6 (Fx.rv .u64 v.deps)) 8 1 (fun _ => .int .u8 (v.kind))) 10 (.int .i64 (v.dst))) (y := Fx.updV (Fx.ovr (Fx.ovr (Fx.ovr (Fx.ovr (fun i => (#[.int .i64 (0), .int .u64 (0), .int .u64 (0), .int .u64 (0), .int .u64 (0), .int .u64 (0), .int .u64 (0), .int .u64 (0), .int .u8 (0), .int .u64 (0), .int .i64 (0), .int .i64 (0), .int .u64 (0), .int .u64 (0)] : Array Value).getD i undef) 0 1 (fun _ => .int .i64 (v.o))) 1 1 (fun _ => .int .u64 (v.seq))) 2 6 (Fx.rv .u64 v.deps)) 8 1 (fun _ => .int .u8 (v.kind))) 10 (.int .i64 (v.dst))) rfl rfl (by kernel_rfl) (by kernel_rfl) m67.cel (i := 0) (by omega) (by omega) (fun j _ => by rw [Nat.zero_add])) ?_)))))
       refine Fx.L.storeA (x := fun i => (#[.int .i64 (0), .int .u64 (0), .int .u64 (0), .int .u64 (0), .int .u64 (0), .int .u64 (0), .int .u64 (0), .int .u64 (0), .int .u8 (0), .int .u64 (0), .int .i64 (0), .int .i64 (0), .int .u64 (0), .int .u64 (0)] : Array Value).getD i undef) (y := Fx.updV (Fx.ovr (Fx.ovr (Fx.ovr (Fx.ovr (fun i => (#[.int .i64 (0), .int .u64 (0), .int .u64 (0), .int .u64 (0), .int .u64 (0), .int .u64 (0), .int .u64 (0), .int .u64 (0), .int .u8 (0), .int .u64 (0), .int .i64 (0), .int .i64 (0), .int .u64 (0), .int .u64 (0)] : Array Value).getD i undef) 0 1 (fun _ => .int .i64 (v.o))) 1 1 (fun _ => .int .u64 (v.seq))) 2 6 (Fx.rv .u64 v.deps)) 8 1 (fun _ => .int .u8 (v.kind))) 10 (.int .i64 (v.dst))) (by rfl) rfl rfl rfl rfl (fun j hj => by rcases j with _|_|_|_|_|_|_|_|_|_|_|_|_|_|j <;> first | rfl | omega) (by kernel_rfl) m69 (i := 0) (by omega) fun w23 m70 s23 z23 => ?_
       have m71 : Fx.Blk w23 g2 14 (Fx.updV (Fx.ovr (Fx.ovr (Fx.ovr (Fx.ovr (fun i => (#[.int .i64 (0), .int .u64 (0), .int .u64 (0), .int .u64 (0), .int .u64 (0), .int .u64 (0), .int .u64 (0), .int .u64 (0), .int .u8 (0), .int .u64 (0), .int .i64 (0), .int .i64 (0), .int .u64 (0), .int .u64 (0)] : Array Value).getD i undef) 0 1 (fun _ => .int .i64 (v.o))) 1 1 (fun _ => .int .u64 (v.seq))) 2 6 (Fx.rv .u64 v.deps)) 8 1 (fun _ => .int .u8 (v.kind))) 10 (.int .i64 (v.dst))) 54 := Fx.ovr_all m70
       have m72 := m68.stp s23 (by omega)
       have m73 := m67.stp s23 (by omega)
       have b23 := s23.below b22 b22.size (by omega)
       refine Fx.L.nil (Fx.seqN (Fx.W.ret (⟨.agg (Fx.varr 14 (Fx.updV (Fx.ovr (Fx.ovr (Fx.ovr (Fx.ovr (fun i => (#[.int .i64 (0), .int .u64 (0), .int .u64 (0), .int .u64 (0), .int .u64 (0), .int .u64 (0), .int .u64 (0), .int .u64 (0), .int .u8 (0), .int .u64 (0), .int .i64 (0), .int .i64 (0), .int .u64 (0), .int .u64 (0)] : Array Value).getD i undef) 0 1 (fun _ => .int .i64 (v.o))) 1 1 (fun _ => .int .u64 (v.seq))) 2 6 (Fx.rv .u64 v.deps)) 8 1 (fun _ => .int .u8 (v.kind))) 10 (.int .i64 (v.dst)))), Fx.retV1 Try.results118 ⟨_, rfl, Fx.run_loadV m71.cel (by kernel_rfl) (by kernel_rfl)⟩, ?_⟩)))
       refine ⟨congrArg (fun q => Ending.returned (Value.agg q)) (Fx.varr_congr fun i hi => ?_), b23⟩
       unfold ownE; rw [if_neg c16, if_neg c17, if_neg c25, if_neg c36, if_neg c44, if_pos c55]
       rcases i with _|_|_|_|_|_|_|_|_|_|_|_|_|_|i <;> first | rfl | omega
      ·refine Fx.L.v (.bool false) (Fx.x_eqlF rfl rfl rfl c55) ?_
       refine Fx.L.v (.bool false) (Fx.x_assign rfl rfl) ?_
       refine Fx.L.nil (Fx.seqN (Fx.W.cond (b := false) rfl (fun h => nomatch h) (fun _ => Fx.W.skip (Fx.blkN (Fx.seqN (Fx.W.seq (Fx.W.list (Fx.L.v (.agg (Fx.varr 14 (Fx.ovr (Fx.ovr (Fx.ovr (Fx.ovr (fun i => (#[.int .i64 (0), .int .u64 (0), .int .u64 (0), .int .u64 (0), .int .u64 (0), .int .u64 (0), .int .u64 (0), .int .u64 (0), .int .u8 (0), .int .u64 (0), .int .i64 (0), .int .i64 (0), .int .u64 (0), .int .u64 (0)] : Array Value).getD i undef) 0 1 (fun _ => .int .i64 (v.o))) 1 1 (fun _ => .int .u64 (v.seq))) 2 6 (Fx.rv .u64 v.deps)) 8 1 (fun _ => .int .u8 (v.kind))))) (Fx.x_loadA (x := Fx.ovr (Fx.ovr (Fx.ovr (Fx.ovr (fun i => (#[.int .i64 (0), .int .u64 (0), .int .u64 (0), .int .u64 (0), .int .u64 (0), .int .u64 (0), .int .u64 (0), .int .u64 (0), .int .u8 (0), .int .u64 (0), .int .i64 (0), .int .i64 (0), .int .u64 (0), .int .u64 (0)] : Array Value).getD i undef) 0 1 (fun _ => .int .i64 (v.o))) 1 1 (fun _ => .int .u64 (v.seq))) 2 6 (Fx.rv .u64 v.deps)) 8 1 (fun _ => .int .u8 (v.kind))) (y := Fx.ovr (Fx.ovr (Fx.ovr (Fx.ovr (fun i => (#[.int .i64 (0), .int .u64 (0), .int .u64 (0), .int .u64 (0), .int .u64 (0), .int .u64 (0), .int .u64 (0), .int .u64 (0), .int .u8 (0), .int .u64 (0), .int .i64 (0), .int .i64 (0), .int .u64 (0), .int .u64 (0)] : Array Value).getD i undef) 0 1 (fun _ => .int .i64 (v.o))) 1 1 (fun _ => .int .u64 (v.seq))) 2 6 (Fx.rv .u64 v.deps)) 8 1 (fun _ => .int .u8 (v.kind))) rfl rfl (by kernel_rfl) (by kernel_rfl) m8.cel (i := 0) (by omega) (by omega) (fun j _ => by rw [Nat.zero_add])) ?_))))))))
       refine Fx.L.storeA (x := fun i => (#[.int .i64 (0), .int .u64 (0), .int .u64 (0), .int .u64 (0), .int .u64 (0), .int .u64 (0), .int .u64 (0), .int .u64 (0), .int .u8 (0), .int .u64 (0), .int .i64 (0), .int .i64 (0), .int .u64 (0), .int .u64 (0)] : Array Value).getD i undef) (y := Fx.ovr (Fx.ovr (Fx.ovr (Fx.ovr (fun i => (#[.int .i64 (0), .int .u64 (0), .int .u64 (0), .int .u64 (0), .int .u64 (0), .int .u64 (0), .int .u64 (0), .int .u64 (0), .int .u8 (0), .int .u64 (0), .int .i64 (0), .int .i64 (0), .int .u64 (0), .int .u64 (0)] : Array Value).getD i undef) 0 1 (fun _ => .int .i64 (v.o))) 1 1 (fun _ => .int .u64 (v.seq))) 2 6 (Fx.rv .u64 v.deps)) 8 1 (fun _ => .int .u8 (v.kind))) (by rfl) rfl rfl rfl rfl (fun j hj => by rcases j with _|_|_|_|_|_|_|_|_|_|_|_|_|_|j <;> first | rfl | omega) (by kernel_rfl) m10 (i := 0) (by omega) fun w24 m74 s24 z24 => ?_
       have m75 : Fx.Blk w24 g2 14 (Fx.ovr (Fx.ovr (Fx.ovr (Fx.ovr (fun i => (#[.int .i64 (0), .int .u64 (0), .int .u64 (0), .int .u64 (0), .int .u64 (0), .int .u64 (0), .int .u64 (0), .int .u64 (0), .int .u8 (0), .int .u64 (0), .int .i64 (0), .int .i64 (0), .int .u64 (0), .int .u64 (0)] : Array Value).getD i undef) 0 1 (fun _ => .int .i64 (v.o))) 1 1 (fun _ => .int .u64 (v.seq))) 2 6 (Fx.rv .u64 v.deps)) 8 1 (fun _ => .int .u8 (v.kind))) 54 := Fx.ovr_all m74
       have m76 := m9.stp s24 (by omega)
       have m77 := m8.stp s24 (by omega)
       have b24 := s24.below b4 b4.size (by omega)
       refine Fx.L.nil (Fx.seqN (Fx.W.ret (⟨.agg (Fx.varr 14 (Fx.ovr (Fx.ovr (Fx.ovr (Fx.ovr (fun i => (#[.int .i64 (0), .int .u64 (0), .int .u64 (0), .int .u64 (0), .int .u64 (0), .int .u64 (0), .int .u64 (0), .int .u64 (0), .int .u8 (0), .int .u64 (0), .int .i64 (0), .int .i64 (0), .int .u64 (0), .int .u64 (0)] : Array Value).getD i undef) 0 1 (fun _ => .int .i64 (v.o))) 1 1 (fun _ => .int .u64 (v.seq))) 2 6 (Fx.rv .u64 v.deps)) 8 1 (fun _ => .int .u8 (v.kind)))), Fx.retV1 Try.results118 ⟨_, rfl, Fx.run_loadV m75.cel (by kernel_rfl) (by kernel_rfl)⟩, ?_⟩)))
       refine ⟨congrArg (fun q => Ending.returned (Value.agg q)) (Fx.varr_congr fun i hi => ?_), b24⟩
       unfold ownE; rw [if_neg c16, if_neg c17, if_neg c25, if_neg c36, if_neg c44, if_neg c55]
       rcases i with _|_|_|_|_|_|_|_|_|_|_|_|_|_|i <;> first | rfl | omega
end Go.Proofs.Ytolmkjepieoloaa
namespace Go.Proofs.Ytolmkjepieoloaa
open Go.RowKit Rt
set_option linter.unusedSimpArgs false in
set_option maxHeartbeats 2000000 in
theorem e_fields (v : EvM) (w : World) :
    Calls Try.prog 119 #[.agg (Fx.varr 14 (evY v))] w fun e w' => e = .returned (.bool (fieldsE v)) ∧ Below w.heap.size w w' := by
 refine Fx.enter Try.func119 rfl (n := 75) rfl (by rfl) ?_
 refine Fx.W.seq (Fx.W.list (Fx.L.box (m := 14) (y := evY v) (by rfl) rfl rfl (Fx.cells_agg _ _) rfl fun g1 w1 eg1 m1 s1 z1 => ?_))
 have b1 := s1.below (Below.refl w.heap.size w) (Below.refl w.heap.size w).size (Below.refl w.heap.size w).size
 have lg1 : w.heap.size ≤ g1 := by rw [eg1]; exact (Below.refl w.heap.size w).size
 have tg1 : g1 < w1.heap.size := m1.lt
 clear eg1
 refine Fx.L.v (.bool false) (Fx.x_assign rfl rfl) ?_
 refine Fx.L.nil (Fx.seqN (Fx.W.seq (Fx.W.list (Fx.L.v (.pointer (some ⟨g1, 11, none⟩)) (Fx.x_field rfl rfl Try.underlying54 rfl (s := 1) (by kernel_rfl) rfl (by show _ + 11 = _; omega)) ?_))))
 refine Fx.L.v (.int .i64 (v.amt)) (Fx.x_load1 (x := evY v) rfl rfl (by kernel_rfl) m1.cel (i := 11) (by omega) (by omega) rfl) ?_
 by_cases c7 : 1 ≤ v.amt
 ·refine Fx.L.v (.bool true) (Fx.x_geqT rfl rfl rfl c7) ?_
  refine Fx.L.v (.bool true) (Fx.x_move rfl rfl) ?_
  refine Fx.L.v (.pointer (some ⟨g1, 11, none⟩)) (Fx.x_field rfl rfl Try.underlying54 rfl (s := 1) (by kernel_rfl) rfl (by show _ + 11 = _; omega)) ?_
  refine Fx.L.v (.int .i64 (v.amt)) (Fx.x_load1 (x := evY v) rfl rfl (by kernel_rfl) m1.cel (i := 11) (by omega) (by omega) rfl) ?_
  by_cases c11 : v.amt ≤ 1125899906842624
  ·refine Fx.L.v (.bool true) (Fx.x_leqT rfl rfl rfl c11) ?_
   refine Fx.L.v (.bool true) (Fx.x_pickT rfl rfl rfl) ?_
   refine Fx.L.v (.bool true) (Fx.x_assign rfl rfl) ?_
   refine Fx.L.nil (Fx.seqN (Fx.W.seq (Fx.W.list (Fx.L.v (.pointer (some ⟨g1, 10, none⟩)) (Fx.x_field rfl rfl Try.underlying54 rfl (s := 1) (by kernel_rfl) rfl (by show _ + 10 = _; omega)) ?_))))
   refine Fx.L.v (.int .i64 (v.dst)) (Fx.x_load1 (x := evY v) rfl rfl (by kernel_rfl) m1.cel (i := 10) (by omega) (by omega) rfl) ?_
   by_cases c15 : (regE v.dst) = true
   ·refine Fx.L.call (by rfl) (Fx.r_call (args := [.int .i64 (v.dst)]) rfl rfl Try.func117 rfl rfl) rfl ((e_region v.dst _).mono ?_)
    rintro e v1 ⟨he, hv1⟩
    subst v1
    refine ⟨.bool true, by rw [he, c15], ?_⟩
    clear he
    refine Fx.L.v (.bool true) (Fx.x_move rfl rfl) ?_
    refine Fx.L.v (.pointer (some ⟨g1, 10, none⟩)) (Fx.x_field rfl rfl Try.underlying54 rfl (s := 1) (by kernel_rfl) rfl (by show _ + 10 = _; omega)) ?_
    refine Fx.L.v (.int .i64 (v.dst)) (Fx.x_load1 (x := evY v) rfl rfl (by kernel_rfl) m1.cel (i := 10) (by omega) (by omega) rfl) ?_
    refine Fx.L.v (.pointer (some ⟨g1, 0, none⟩)) (Fx.x_field rfl rfl Try.underlying54 rfl (s := 1) (by kernel_rfl) rfl rfl) ?_
    refine Fx.L.v (.int .i64 (v.o)) (Fx.x_load1 (x := evY v) rfl rfl (by kernel_rfl) m1.cel (i := 0) (by omega) (by omega) rfl) ?_
    by_cases c21 : v.dst = v.o
    ·refine Fx.L.v (.bool false) (Fx.x_neqF rfl rfl rfl c21) ?_
     refine Fx.L.v (.bool false) (Fx.x_pickT rfl rfl rfl) ?_
     refine Fx.L.v (.bool false) (Fx.x_assign rfl rfl) ?_
     refine Fx.L.nil (Fx.seqN (Fx.W.seq (Fx.W.seq (Fx.W.list (Fx.L.v (.pointer (some ⟨g1, 8, none⟩)) (Fx.x_field rfl rfl Try.underlying54 rfl (s := 1) (by kernel_rfl) rfl (by show _ + 8 = _; omega)) ?_)))))
     refine Fx.L.v (.int .u8 (v.kind)) (Fx.x_load1 (x := evY v) rfl rfl (by kernel_rfl) m1.cel (i := 8) (by omega) (by omega) rfl) ?_
     refine Fx.L.nil (Fx.seqN (Fx.W.block (Fx.W.seq (Fx.W.list ?_))))
     by_cases c26 : v.kind = 1
     ·refine Fx.L.v (.bool true) (Fx.x_eqlT rfl rfl rfl c26) ?_
      refine Fx.L.v (.bool true) (Fx.x_assign rfl rfl) ?_
      refine Fx.L.nil (Fx.seqN (Fx.W.cond (b := true) rfl (fun _ => Fx.W.seq (Fx.W.list (Fx.L.v (.pointer (some ⟨g1, 11, none⟩)) (Fx.x_field rfl rfl Try.underlying54 rfl (s := 1) (by kernel_rfl) rfl (by show _ + 11 = _; omega)) ?_))) (fun h => nomatch h)))
      refine Fx.L.v (.int .i64 (v.amt)) (Fx.x_load1 (x := evY v) rfl rfl (by kernel_rfl) m1.cel (i := 11) (by omega) (by omega) rfl) ?_
      by_cases c29 : 0 ≤ v.amt
      ·refine Fx.L.v (.bool true) (Fx.x_geqT rfl rfl rfl c29) ?_
       refine Fx.L.v (.bool true) (Fx.x_move rfl rfl) ?_
       refine Fx.L.v (.pointer (some ⟨g1, 11, none⟩)) (Fx.x_field rfl rfl Try.underlying54 rfl (s := 1) (by kernel_rfl) rfl (by show _ + 11 = _; omega)) ?_
       refine Fx.L.v (.int .i64 (v.amt)) (Fx.x_load1 (x := evY v) rfl rfl (by kernel_rfl) m1.cel (i := 11) (by omega) (by omega) rfl) ?_
       by_cases c33 : v.amt ≤ 1125899906842624
       ·refine Fx.L.v (.bool true) (Fx.x_leqT rfl rfl rfl c33) ?_
        refine Fx.L.v (.bool true) (Fx.x_pickT rfl rfl rfl) ?_
        refine Fx.L.v (.bool true) (Fx.x_assign rfl rfl) ?_
        refine Fx.L.nil (Fx.seqN (Fx.W.ret (Fx.blkR (Fx.seqR (⟨.bool true, Fx.retV1 Try.results119 (by exact rfl), ?_⟩)))))
        refine ⟨congrArg (fun q => Ending.returned (Value.bool q)) (Eq.symm ?_), b1⟩
        unfold fieldsE; rw [if_pos c26]; try simp only [someE, otherE]
        first | (simp [c7, c11, c15, c21, c29, c33]; done) | (simp [c7, c11, c15, c21, c29, c33]; omega)
       ·refine Fx.L.v (.bool false) (Fx.x_leqF rfl rfl rfl c33) ?_
        refine Fx.L.v (.bool false) (Fx.x_pickT rfl rfl rfl) ?_
        refine Fx.L.v (.bool false) (Fx.x_assign rfl rfl) ?_
        refine Fx.L.nil (Fx.seqN (Fx.W.ret (Fx.blkR (Fx.seqR (⟨.bool false, Fx.retV1 Try.results119 (by exact rfl), ?_⟩)))))
        refine ⟨congrArg (fun q => Ending.returned (Value.bool q)) (Eq.symm ?_), b1⟩
        unfold fieldsE; rw [if_pos c26]; try simp only [someE, otherE]
        first | (simp [c7, c11, c15, c21, c29, c33]; done) | (simp [c7, c11, c15, c21, c29, c33]; omega)
      ·refine Fx.L.v (.bool false) (Fx.x_geqF rfl rfl rfl c29) ?_
       refine Fx.L.v (.bool false) (Fx.x_move rfl rfl) ?_
       refine Fx.L.skip (by rfl) rfl ?_
       refine Fx.L.skip (by rfl) rfl ?_
       refine Fx.L.skip (by rfl) rfl ?_
       refine Fx.L.v (.bool false) (Fx.x_pickF rfl rfl rfl) ?_
       refine Fx.L.v (.bool false) (Fx.x_assign rfl rfl) ?_
       refine Fx.L.nil (Fx.seqN (Fx.W.ret (Fx.blkR (Fx.seqR (⟨.bool false, Fx.retV1 Try.results119 (by exact rfl), ?_⟩)))))
       refine ⟨congrArg (fun q => Ending.returned (Value.bool q)) (Eq.symm ?_), b1⟩
       unfold fieldsE; rw [if_pos c26]; try simp only [someE, otherE]
       first | (simp [c7, c11, c15, c21, c29]; done) | (simp [c7, c11, c15, c21, c29]; omega)
     ·refine Fx.L.v (.bool false) (Fx.x_eqlF rfl rfl rfl c26) ?_
      refine Fx.L.v (.bool false) (Fx.x_assign rfl rfl) ?_
      refine Fx.L.nil (Fx.seqN (Fx.W.cond (b := false) rfl (fun h => nomatch h) (fun _ => Fx.W.seq (Fx.W.list ?_))))
      by_cases c36 : v.kind = 2
      ·refine Fx.L.v (.bool true) (Fx.x_eqlT rfl rfl rfl c36) ?_
       refine Fx.L.v (.bool true) (Fx.x_assign rfl rfl) ?_
       refine Fx.L.nil (Fx.seqN (Fx.W.cond (b := true) rfl (fun _ => Fx.W.seq (Fx.W.list (Fx.L.v (.bool true) (Fx.x_move rfl rfl) ?_))) (fun h => nomatch h)))
       refine Fx.L.v (.bool true) (Fx.x_assign rfl rfl) ?_
       refine Fx.L.nil (Fx.seqN (Fx.W.ret (Fx.blkR (Fx.seqR (⟨.bool true, Fx.retV1 Try.results119 (by exact rfl), ?_⟩)))))
       refine ⟨congrArg (fun q => Ending.returned (Value.bool q)) (Eq.symm ?_), b1⟩
       unfold fieldsE; rw [if_neg c26, if_pos c36]; try simp only [someE, otherE]
       first | (simp [c7, c11, c15, c21]; done) | (simp [c7, c11, c15, c21]; omega)
      ·refine Fx.L.v (.bool false) (Fx.x_eqlF rfl rfl rfl c36) ?_
       refine Fx.L.v (.bool false) (Fx.x_assign rfl rfl) ?_
       refine Fx.L.nil (Fx.seqN (Fx.W.cond (b := false) rfl (fun h => nomatch h) (fun _ => Fx.W.seq (Fx.W.list ?_))))
       by_cases c39 : v.kind = 3
       ·refine Fx.L.v (.bool true) (Fx.x_eqlT rfl rfl rfl c39) ?_
        refine Fx.L.v (.bool true) (Fx.x_assign rfl rfl) ?_
        refine Fx.L.nil (Fx.seqN (Fx.W.cond (b := true) rfl (fun _ => Fx.W.seq (Fx.W.list (Fx.L.v (.bool true) (Fx.x_move rfl rfl) ?_))) (fun h => nomatch h)))
        refine Fx.L.v (.bool true) (Fx.x_move rfl rfl) ?_
        refine Fx.L.v (.pointer (some ⟨g1, 12, none⟩)) (Fx.x_field rfl rfl Try.underlying54 rfl (s := 1) (by kernel_rfl) rfl (by show _ + 12 = _; omega)) ?_
        refine Fx.L.v (.int .u64 (v.req)) (Fx.x_load1 (x := evY v) rfl rfl (by kernel_rfl) m1.cel (i := 12) (by omega) (by omega) rfl) ?_
        by_cases c44 : 1 ≤ v.req
        ·refine Fx.L.v (.bool true) (Fx.x_geqT rfl rfl rfl c44) ?_
         refine Fx.L.v (.bool true) (Fx.x_pickT rfl rfl rfl) ?_
         refine Fx.L.v (.bool true) (Fx.x_assign rfl rfl) ?_
         refine Fx.L.nil (Fx.seqN (Fx.W.ret (Fx.blkR (Fx.seqR (⟨.bool true, Fx.retV1 Try.results119 (by exact rfl), ?_⟩)))))
         refine ⟨congrArg (fun q => Ending.returned (Value.bool q)) (Eq.symm ?_), b1⟩
         unfold fieldsE; rw [if_neg c26, if_neg c36, if_pos c39]; try simp only [someE, otherE]
         first | (simp [c7, c11, c15, c21, c44]; done) | (simp [c7, c11, c15, c21, c44]; omega)
        ·refine Fx.L.v (.bool false) (Fx.x_geqF rfl rfl rfl c44) ?_
         refine Fx.L.v (.bool false) (Fx.x_pickT rfl rfl rfl) ?_
         refine Fx.L.v (.bool false) (Fx.x_assign rfl rfl) ?_
         refine Fx.L.nil (Fx.seqN (Fx.W.ret (Fx.blkR (Fx.seqR (⟨.bool false, Fx.retV1 Try.results119 (by exact rfl), ?_⟩)))))
         refine ⟨congrArg (fun q => Ending.returned (Value.bool q)) (Eq.symm ?_), b1⟩
         unfold fieldsE; rw [if_neg c26, if_neg c36, if_pos c39]; try simp only [someE, otherE]
         first | (simp [c7, c11, c15, c21, c44]; done) | (simp [c7, c11, c15, c21, c44]; omega)
       ·refine Fx.L.v (.bool false) (Fx.x_eqlF rfl rfl rfl c39) ?_
        refine Fx.L.v (.bool false) (Fx.x_assign rfl rfl) ?_
        refine Fx.L.nil (Fx.seqN (Fx.W.cond (b := false) rfl (fun h => nomatch h) (fun _ => Fx.W.seq (Fx.W.list ?_))))
        by_cases c47 : v.kind = 4
        ·refine Fx.L.v (.bool true) (Fx.x_eqlT rfl rfl rfl c47) ?_
         refine Fx.L.v (.bool true) (Fx.x_assign rfl rfl) ?_
         refine Fx.L.nil (Fx.seqN (Fx.W.cond (b := true) rfl (fun _ => Fx.W.seq (Fx.W.list (Fx.L.v (.pointer (some ⟨g1, 12, none⟩)) (Fx.x_field rfl rfl Try.underlying54 rfl (s := 1) (by kernel_rfl) rfl (by show _ + 12 = _; omega)) ?_))) (fun h => nomatch h)))
         refine Fx.L.v (.int .u64 (v.req)) (Fx.x_load1 (x := evY v) rfl rfl (by kernel_rfl) m1.cel (i := 12) (by omega) (by omega) rfl) ?_
         by_cases c50 : 1 ≤ v.req
         ·refine Fx.L.v (.bool true) (Fx.x_geqT rfl rfl rfl c50) ?_
          refine Fx.L.v (.bool true) (Fx.x_move rfl rfl) ?_
          refine Fx.L.v (.pointer (some ⟨g1, 13, none⟩)) (Fx.x_field rfl rfl Try.underlying54 rfl (s := 1) (by kernel_rfl) rfl (by show _ + 13 = _; omega)) ?_
          refine Fx.L.v (.int .u64 (v.of)) (Fx.x_load1 (x := evY v) rfl rfl (by kernel_rfl) m1.cel (i := 13) (by omega) (by omega) rfl) ?_
          by_cases c54 : 1 ≤ v.of
          ·refine Fx.L.v (.bool true) (Fx.x_geqT rfl rfl rfl c54) ?_
           refine Fx.L.v (.bool true) (Fx.x_pickT rfl rfl rfl) ?_
           refine Fx.L.v (.bool true) (Fx.x_move rfl rfl) ?_
           refine Fx.L.v (.pointer (some ⟨g1, 12, none⟩)) (Fx.x_field rfl rfl Try.underlying54 rfl (s := 1) (by kernel_rfl) rfl (by show _ + 12 = _; omega)) ?_
           refine Fx.L.v (.int .u64 (v.req)) (Fx.x_load1 (x := evY v) rfl rfl (by kernel_rfl) m1.cel (i := 12) (by omega) (by omega) rfl) ?_
           refine Fx.L.v (.pointer (some ⟨g1, 13, none⟩)) (Fx.x_field rfl rfl Try.underlying54 rfl (s := 1) (by kernel_rfl) rfl (by show _ + 13 = _; omega)) ?_
           refine Fx.L.v (.int .u64 (v.of)) (Fx.x_load1 (x := evY v) rfl rfl (by kernel_rfl) m1.cel (i := 13) (by omega) (by omega) rfl) ?_
           by_cases c61 : v.req = v.of
           ·refine Fx.L.v (.bool false) (Fx.x_neqF rfl rfl rfl c61) ?_
            refine Fx.L.v (.bool false) (Fx.x_pickT rfl rfl rfl) ?_
            refine Fx.L.v (.bool false) (Fx.x_assign rfl rfl) ?_
            refine Fx.L.nil (Fx.seqN (Fx.W.ret (Fx.blkR (Fx.seqR (⟨.bool false, Fx.retV1 Try.results119 (by exact rfl), ?_⟩)))))
            refine ⟨congrArg (fun q => Ending.returned (Value.bool q)) (Eq.symm ?_), b1⟩
            unfold fieldsE; rw [if_neg c26, if_neg c36, if_neg c39, if_pos c47]; try simp only [someE, otherE]
            first | (simp [c7, c11, c15, c21, c50, c54, c61]; done) | (simp [c7, c11, c15, c21, c50, c54, c61]; omega)
           ·refine Fx.L.v (.bool true) (Fx.x_neqT rfl rfl rfl c61) ?_
            refine Fx.L.v (.bool true) (Fx.x_pickT rfl rfl rfl) ?_
            refine Fx.L.v (.bool true) (Fx.x_assign rfl rfl) ?_
            refine Fx.L.nil (Fx.seqN (Fx.W.ret (Fx.blkR (Fx.seqR (⟨.bool true, Fx.retV1 Try.results119 (by exact rfl), ?_⟩)))))
            refine ⟨congrArg (fun q => Ending.returned (Value.bool q)) (Eq.symm ?_), b1⟩
            unfold fieldsE; rw [if_neg c26, if_neg c36, if_neg c39, if_pos c47]; try simp only [someE, otherE]
            first | (simp [c7, c11, c15, c21, c50, c54, c61]; done) | (simp [c7, c11, c15, c21, c50, c54, c61]; omega)
          ·refine Fx.L.v (.bool false) (Fx.x_geqF rfl rfl rfl c54) ?_
           refine Fx.L.v (.bool false) (Fx.x_pickT rfl rfl rfl) ?_
           refine Fx.L.v (.bool false) (Fx.x_move rfl rfl) ?_
           refine Fx.L.skip (by rfl) rfl ?_
           refine Fx.L.skip (by rfl) rfl ?_
           refine Fx.L.skip (by rfl) rfl ?_
           refine Fx.L.skip (by rfl) rfl ?_
           refine Fx.L.skip (by rfl) rfl ?_
           refine Fx.L.v (.bool false) (Fx.x_pickF rfl rfl rfl) ?_
           refine Fx.L.v (.bool false) (Fx.x_assign rfl rfl) ?_
           refine Fx.L.nil (Fx.seqN (Fx.W.ret (Fx.blkR (Fx.seqR (⟨.bool false, Fx.retV1 Try.results119 (by exact rfl), ?_⟩)))))
           refine ⟨congrArg (fun q => Ending.returned (Value.bool q)) (Eq.symm ?_), b1⟩
           unfold fieldsE; rw [if_neg c26, if_neg c36, if_neg c39, if_pos c47]; try simp only [someE, otherE]
           first | (simp [c7, c11, c15, c21, c50, c54]; done) | (simp [c7, c11, c15, c21, c50, c54]; omega)
         ·refine Fx.L.v (.bool false) (Fx.x_geqF rfl rfl rfl c50) ?_
          refine Fx.L.v (.bool false) (Fx.x_move rfl rfl) ?_
          refine Fx.L.skip (by rfl) rfl ?_
          refine Fx.L.skip (by rfl) rfl ?_
          refine Fx.L.skip (by rfl) rfl ?_
          refine Fx.L.v (.bool false) (Fx.x_pickF rfl rfl rfl) ?_
          refine Fx.L.v (.bool false) (Fx.x_move rfl rfl) ?_
          refine Fx.L.skip (by rfl) rfl ?_
          refine Fx.L.skip (by rfl) rfl ?_
          refine Fx.L.skip (by rfl) rfl ?_
          refine Fx.L.skip (by rfl) rfl ?_
          refine Fx.L.skip (by rfl) rfl ?_
          refine Fx.L.v (.bool false) (Fx.x_pickF rfl rfl rfl) ?_
          refine Fx.L.v (.bool false) (Fx.x_assign rfl rfl) ?_
          refine Fx.L.nil (Fx.seqN (Fx.W.ret (Fx.blkR (Fx.seqR (⟨.bool false, Fx.retV1 Try.results119 (by exact rfl), ?_⟩)))))
          refine ⟨congrArg (fun q => Ending.returned (Value.bool q)) (Eq.symm ?_), b1⟩
          unfold fieldsE; rw [if_neg c26, if_neg c36, if_neg c39, if_pos c47]; try simp only [someE, otherE]
          first | (simp [c7, c11, c15, c21, c50]; done) | (simp [c7, c11, c15, c21, c50]; omega)
        ·refine Fx.L.v (.bool false) (Fx.x_eqlF rfl rfl rfl c47) ?_
         refine Fx.L.v (.bool false) (Fx.x_assign rfl rfl) ?_
         refine Fx.L.nil (Fx.seqN (Fx.W.cond (b := false) rfl (fun h => nomatch h) (fun _ => Fx.W.seq (Fx.W.list ?_))))
         by_cases c64 : v.kind = 5
         ·refine Fx.L.v (.bool true) (Fx.x_eqlT rfl rfl rfl c64) ?_
          refine Fx.L.v (.bool true) (Fx.x_assign rfl rfl) ?_
          refine Fx.L.nil (Fx.seqN (Fx.W.cond (b := true) rfl (fun _ => Fx.W.seq (Fx.W.list (Fx.L.v (.bool true) (Fx.x_move rfl rfl) ?_))) (fun h => nomatch h)))
          refine Fx.L.v (.bool true) (Fx.x_move rfl rfl) ?_
          refine Fx.L.v (.bool false) (Fx.x_move rfl rfl) ?_
          refine Fx.L.v (.bool false) (Fx.x_pickT rfl rfl rfl) ?_
          refine Fx.L.v (.bool false) (Fx.x_assign rfl rfl) ?_
          refine Fx.L.nil (Fx.seqN (Fx.W.ret (Fx.blkR (Fx.seqR (⟨.bool false, Fx.retV1 Try.results119 (by exact rfl), ?_⟩)))))
          refine ⟨congrArg (fun q => Ending.returned (Value.bool q)) (Eq.symm ?_), b1⟩
          unfold fieldsE; rw [if_neg c26, if_neg c36, if_neg c39, if_neg c47, if_pos c64]; try simp only [someE, otherE]
          first | (simp [c7, c11, c15, c21]; done) | (simp [c7, c11, c15, c21]; omega)
         ·refine Fx.L.v (.bool false) (Fx.x_eqlF rfl rfl rfl c64) ?_
          refine Fx.L.v (.bool false) (Fx.x_assign rfl rfl) ?_
          refine Fx.L.nil (Fx.seqN (Fx.W.cond (b := false) rfl (fun h => nomatch h) (fun _ => Fx.W.seq (Fx.W.list ?_))))
          by_cases c70 : v.kind = 6
          ·refine Fx.L.v (.bool true) (Fx.x_eqlT rfl rfl rfl c70) ?_
           refine Fx.L.v (.bool true) (Fx.x_assign rfl rfl) ?_
           refine Fx.L.nil (Fx.seqN (Fx.W.cond (b := true) rfl (fun _ => Fx.W.seq (Fx.W.list (Fx.L.v (.bool false) (Fx.x_move rfl rfl) ?_))) (fun h => nomatch h)))
           refine Fx.L.v (.bool false) (Fx.x_assign rfl rfl) ?_
           refine Fx.L.nil (Fx.seqN (Fx.W.ret (Fx.blkR (Fx.seqR (⟨.bool false, Fx.retV1 Try.results119 (by exact rfl), ?_⟩)))))
           refine ⟨congrArg (fun q => Ending.returned (Value.bool q)) (Eq.symm ?_), b1⟩
           unfold fieldsE; rw [if_neg c26, if_neg c36, if_neg c39, if_neg c47, if_neg c64, if_pos c70]; try simp only [someE, otherE]
           first | (simp [c7, c11, c15, c21]; done) | (simp [c7, c11, c15, c21]; omega)
          ·refine Fx.L.v (.bool false) (Fx.x_eqlF rfl rfl rfl c70) ?_
           refine Fx.L.v (.bool false) (Fx.x_assign rfl rfl) ?_
           refine Fx.L.nil (Fx.seqN (Fx.W.cond (b := false) rfl (fun h => nomatch h) (fun _ => Fx.W.skip (Fx.blkN (Fx.seqN (Fx.W.seq (Fx.W.list (Fx.L.v (.pointer (some ⟨g1, 8, none⟩)) (Fx.x_field rfl rfl Try.underlying54 rfl (s := 1) (by kernel_rfl) rfl (by show _ + 8 = _; omega)) ?_))))))))
           refine Fx.L.v (.int .u8 (v.kind)) (Fx.x_load1 (x := evY v) rfl rfl (by kernel_rfl) m1.cel (i := 8) (by omega) (by omega) rfl) ?_
           by_cases c74 : v.kind = 7
           ·refine Fx.L.v (.bool true) (Fx.x_eqlT rfl rfl rfl c74) ?_
            refine Fx.L.v (.bool true) (Fx.x_assign rfl rfl) ?_
            refine Fx.L.nil (Fx.seqN (Fx.W.ret (⟨.bool true, Fx.retV1 Try.results119 (by exact rfl), ?_⟩)))
            refine ⟨congrArg (fun q => Ending.returned (Value.bool q)) (Eq.symm ?_), b1⟩
            unfold fieldsE; rw [if_neg c26, if_neg c36, if_neg c39, if_neg c47, if_neg c64, if_neg c70]; try simp only [someE, otherE]
            first | (simp [c7, c11, c15, c21, c74]; done) | (simp [c7, c11, c15, c21, c74]; omega)
           ·refine Fx.L.v (.bool false) (Fx.x_eqlF rfl rfl rfl c74) ?_
            refine Fx.L.v (.bool false) (Fx.x_assign rfl rfl) ?_
            refine Fx.L.nil (Fx.seqN (Fx.W.ret (⟨.bool false, Fx.retV1 Try.results119 (by exact rfl), ?_⟩)))
            refine ⟨congrArg (fun q => Ending.returned (Value.bool q)) (Eq.symm ?_), b1⟩
            unfold fieldsE; rw [if_neg c26, if_neg c36, if_neg c39, if_neg c47, if_neg c64, if_neg c70]; try simp only [someE, otherE]
            first | (simp [c7, c11, c15, c21, c74]; done) | (simp [c7, c11, c15, c21, c74]; omega)
    ·refine Fx.L.v (.bool true) (Fx.x_neqT rfl rfl rfl c21) ?_
     refine Fx.L.v (.bool true) (Fx.x_pickT rfl rfl rfl) ?_
     refine Fx.L.v (.bool true) (Fx.x_assign rfl rfl) ?_
     refine Fx.L.nil (Fx.seqN (Fx.W.seq (Fx.W.seq (Fx.W.list (Fx.L.v (.pointer (some ⟨g1, 8, none⟩)) (Fx.x_field rfl rfl Try.underlying54 rfl (s := 1) (by kernel_rfl) rfl (by show _ + 8 = _; omega)) ?_)))))
     refine Fx.L.v (.int .u8 (v.kind)) (Fx.x_load1 (x := evY v) rfl rfl (by kernel_rfl) m1.cel (i := 8) (by omega) (by omega) rfl) ?_
     refine Fx.L.nil (Fx.seqN (Fx.W.block (Fx.W.seq (Fx.W.list ?_))))
     by_cases c26 : v.kind = 1
     ·refine Fx.L.v (.bool true) (Fx.x_eqlT rfl rfl rfl c26) ?_
      refine Fx.L.v (.bool true) (Fx.x_assign rfl rfl) ?_
      refine Fx.L.nil (Fx.seqN (Fx.W.cond (b := true) rfl (fun _ => Fx.W.seq (Fx.W.list (Fx.L.v (.pointer (some ⟨g1, 11, none⟩)) (Fx.x_field rfl rfl Try.underlying54 rfl (s := 1) (by kernel_rfl) rfl (by show _ + 11 = _; omega)) ?_))) (fun h => nomatch h)))
      refine Fx.L.v (.int .i64 (v.amt)) (Fx.x_load1 (x := evY v) rfl rfl (by kernel_rfl) m1.cel (i := 11) (by omega) (by omega) rfl) ?_
      by_cases c29 : 0 ≤ v.amt
      ·refine Fx.L.v (.bool true) (Fx.x_geqT rfl rfl rfl c29) ?_
       refine Fx.L.v (.bool true) (Fx.x_move rfl rfl) ?_
       refine Fx.L.v (.pointer (some ⟨g1, 11, none⟩)) (Fx.x_field rfl rfl Try.underlying54 rfl (s := 1) (by kernel_rfl) rfl (by show _ + 11 = _; omega)) ?_
       refine Fx.L.v (.int .i64 (v.amt)) (Fx.x_load1 (x := evY v) rfl rfl (by kernel_rfl) m1.cel (i := 11) (by omega) (by omega) rfl) ?_
       by_cases c33 : v.amt ≤ 1125899906842624
       ·refine Fx.L.v (.bool true) (Fx.x_leqT rfl rfl rfl c33) ?_
        refine Fx.L.v (.bool true) (Fx.x_pickT rfl rfl rfl) ?_
        refine Fx.L.v (.bool true) (Fx.x_assign rfl rfl) ?_
        refine Fx.L.nil (Fx.seqN (Fx.W.ret (Fx.blkR (Fx.seqR (⟨.bool true, Fx.retV1 Try.results119 (by exact rfl), ?_⟩)))))
        refine ⟨congrArg (fun q => Ending.returned (Value.bool q)) (Eq.symm ?_), b1⟩
        unfold fieldsE; rw [if_pos c26]; try simp only [someE, otherE]
        first | (simp [c7, c11, c15, c21, c29, c33]; done) | (simp [c7, c11, c15, c21, c29, c33]; omega)
       ·refine Fx.L.v (.bool false) (Fx.x_leqF rfl rfl rfl c33) ?_
        refine Fx.L.v (.bool false) (Fx.x_pickT rfl rfl rfl) ?_
        refine Fx.L.v (.bool false) (Fx.x_assign rfl rfl) ?_
        refine Fx.L.nil (Fx.seqN (Fx.W.ret (Fx.blkR (Fx.seqR (⟨.bool false, Fx.retV1 Try.results119 (by exact rfl), ?_⟩)))))
        refine ⟨congrArg (fun q => Ending.returned (Value.bool q)) (Eq.symm ?_), b1⟩
        unfold fieldsE; rw [if_pos c26]; try simp only [someE, otherE]
        first | (simp [c7, c11, c15, c21, c29, c33]; done) | (simp [c7, c11, c15, c21, c29, c33]; omega)
      ·refine Fx.L.v (.bool false) (Fx.x_geqF rfl rfl rfl c29) ?_
       refine Fx.L.v (.bool false) (Fx.x_move rfl rfl) ?_
       refine Fx.L.skip (by rfl) rfl ?_
       refine Fx.L.skip (by rfl) rfl ?_
       refine Fx.L.skip (by rfl) rfl ?_
       refine Fx.L.v (.bool false) (Fx.x_pickF rfl rfl rfl) ?_
       refine Fx.L.v (.bool false) (Fx.x_assign rfl rfl) ?_
       refine Fx.L.nil (Fx.seqN (Fx.W.ret (Fx.blkR (Fx.seqR (⟨.bool false, Fx.retV1 Try.results119 (by exact rfl), ?_⟩)))))
       refine ⟨congrArg (fun q => Ending.returned (Value.bool q)) (Eq.symm ?_), b1⟩
       unfold fieldsE; rw [if_pos c26]; try simp only [someE, otherE]
       first | (simp [c7, c11, c15, c21, c29]; done) | (simp [c7, c11, c15, c21, c29]; omega)
     ·refine Fx.L.v (.bool false) (Fx.x_eqlF rfl rfl rfl c26) ?_
      refine Fx.L.v (.bool false) (Fx.x_assign rfl rfl) ?_
      refine Fx.L.nil (Fx.seqN (Fx.W.cond (b := false) rfl (fun h => nomatch h) (fun _ => Fx.W.seq (Fx.W.list ?_))))
      by_cases c36 : v.kind = 2
      ·refine Fx.L.v (.bool true) (Fx.x_eqlT rfl rfl rfl c36) ?_
       refine Fx.L.v (.bool true) (Fx.x_assign rfl rfl) ?_
       refine Fx.L.nil (Fx.seqN (Fx.W.cond (b := true) rfl (fun _ => Fx.W.seq (Fx.W.list (Fx.L.v (.bool true) (Fx.x_move rfl rfl) ?_))) (fun h => nomatch h)))
       refine Fx.L.v (.bool true) (Fx.x_assign rfl rfl) ?_
       refine Fx.L.nil (Fx.seqN (Fx.W.ret (Fx.blkR (Fx.seqR (⟨.bool true, Fx.retV1 Try.results119 (by exact rfl), ?_⟩)))))
       refine ⟨congrArg (fun q => Ending.returned (Value.bool q)) (Eq.symm ?_), b1⟩
       unfold fieldsE; rw [if_neg c26, if_pos c36]; try simp only [someE, otherE]
       first | (simp [c7, c11, c15, c21]; done) | (simp [c7, c11, c15, c21]; omega)
      ·refine Fx.L.v (.bool false) (Fx.x_eqlF rfl rfl rfl c36) ?_
       refine Fx.L.v (.bool false) (Fx.x_assign rfl rfl) ?_
       refine Fx.L.nil (Fx.seqN (Fx.W.cond (b := false) rfl (fun h => nomatch h) (fun _ => Fx.W.seq (Fx.W.list ?_))))
       by_cases c39 : v.kind = 3
       ·refine Fx.L.v (.bool true) (Fx.x_eqlT rfl rfl rfl c39) ?_
        refine Fx.L.v (.bool true) (Fx.x_assign rfl rfl) ?_
        refine Fx.L.nil (Fx.seqN (Fx.W.cond (b := true) rfl (fun _ => Fx.W.seq (Fx.W.list (Fx.L.v (.bool true) (Fx.x_move rfl rfl) ?_))) (fun h => nomatch h)))
        refine Fx.L.v (.bool true) (Fx.x_move rfl rfl) ?_
        refine Fx.L.v (.pointer (some ⟨g1, 12, none⟩)) (Fx.x_field rfl rfl Try.underlying54 rfl (s := 1) (by kernel_rfl) rfl (by show _ + 12 = _; omega)) ?_
        refine Fx.L.v (.int .u64 (v.req)) (Fx.x_load1 (x := evY v) rfl rfl (by kernel_rfl) m1.cel (i := 12) (by omega) (by omega) rfl) ?_
        by_cases c44 : 1 ≤ v.req
        ·refine Fx.L.v (.bool true) (Fx.x_geqT rfl rfl rfl c44) ?_
         refine Fx.L.v (.bool true) (Fx.x_pickT rfl rfl rfl) ?_
         refine Fx.L.v (.bool true) (Fx.x_assign rfl rfl) ?_
         refine Fx.L.nil (Fx.seqN (Fx.W.ret (Fx.blkR (Fx.seqR (⟨.bool true, Fx.retV1 Try.results119 (by exact rfl), ?_⟩)))))
         refine ⟨congrArg (fun q => Ending.returned (Value.bool q)) (Eq.symm ?_), b1⟩
         unfold fieldsE; rw [if_neg c26, if_neg c36, if_pos c39]; try simp only [someE, otherE]
         first | (simp [c7, c11, c15, c21, c44]; done) | (simp [c7, c11, c15, c21, c44]; omega)
        ·refine Fx.L.v (.bool false) (Fx.x_geqF rfl rfl rfl c44) ?_
         refine Fx.L.v (.bool false) (Fx.x_pickT rfl rfl rfl) ?_
         refine Fx.L.v (.bool false) (Fx.x_assign rfl rfl) ?_
         refine Fx.L.nil (Fx.seqN (Fx.W.ret (Fx.blkR (Fx.seqR (⟨.bool false, Fx.retV1 Try.results119 (by exact rfl), ?_⟩)))))
         refine ⟨congrArg (fun q => Ending.returned (Value.bool q)) (Eq.symm ?_), b1⟩
         unfold fieldsE; rw [if_neg c26, if_neg c36, if_pos c39]; try simp only [someE, otherE]
         first | (simp [c7, c11, c15, c21, c44]; done) | (simp [c7, c11, c15, c21, c44]; omega)
       ·refine Fx.L.v (.bool false) (Fx.x_eqlF rfl rfl rfl c39) ?_
        refine Fx.L.v (.bool false) (Fx.x_assign rfl rfl) ?_
        refine Fx.L.nil (Fx.seqN (Fx.W.cond (b := false) rfl (fun h => nomatch h) (fun _ => Fx.W.seq (Fx.W.list ?_))))
        by_cases c47 : v.kind = 4
        ·refine Fx.L.v (.bool true) (Fx.x_eqlT rfl rfl rfl c47) ?_
         refine Fx.L.v (.bool true) (Fx.x_assign rfl rfl) ?_
         refine Fx.L.nil (Fx.seqN (Fx.W.cond (b := true) rfl (fun _ => Fx.W.seq (Fx.W.list (Fx.L.v (.pointer (some ⟨g1, 12, none⟩)) (Fx.x_field rfl rfl Try.underlying54 rfl (s := 1) (by kernel_rfl) rfl (by show _ + 12 = _; omega)) ?_))) (fun h => nomatch h)))
         refine Fx.L.v (.int .u64 (v.req)) (Fx.x_load1 (x := evY v) rfl rfl (by kernel_rfl) m1.cel (i := 12) (by omega) (by omega) rfl) ?_
         by_cases c50 : 1 ≤ v.req
         ·refine Fx.L.v (.bool true) (Fx.x_geqT rfl rfl rfl c50) ?_
          refine Fx.L.v (.bool true) (Fx.x_move rfl rfl) ?_
          refine Fx.L.v (.pointer (some ⟨g1, 13, none⟩)) (Fx.x_field rfl rfl Try.underlying54 rfl (s := 1) (by kernel_rfl) rfl (by show _ + 13 = _; omega)) ?_
          refine Fx.L.v (.int .u64 (v.of)) (Fx.x_load1 (x := evY v) rfl rfl (by kernel_rfl) m1.cel (i := 13) (by omega) (by omega) rfl) ?_
          by_cases c54 : 1 ≤ v.of
          ·refine Fx.L.v (.bool true) (Fx.x_geqT rfl rfl rfl c54) ?_
           refine Fx.L.v (.bool true) (Fx.x_pickT rfl rfl rfl) ?_
           refine Fx.L.v (.bool true) (Fx.x_move rfl rfl) ?_
           refine Fx.L.v (.pointer (some ⟨g1, 12, none⟩)) (Fx.x_field rfl rfl Try.underlying54 rfl (s := 1) (by kernel_rfl) rfl (by show _ + 12 = _; omega)) ?_
           refine Fx.L.v (.int .u64 (v.req)) (Fx.x_load1 (x := evY v) rfl rfl (by kernel_rfl) m1.cel (i := 12) (by omega) (by omega) rfl) ?_
           refine Fx.L.v (.pointer (some ⟨g1, 13, none⟩)) (Fx.x_field rfl rfl Try.underlying54 rfl (s := 1) (by kernel_rfl) rfl (by show _ + 13 = _; omega)) ?_
           refine Fx.L.v (.int .u64 (v.of)) (Fx.x_load1 (x := evY v) rfl rfl (by kernel_rfl) m1.cel (i := 13) (by omega) (by omega) rfl) ?_
           by_cases c61 : v.req = v.of
           ·refine Fx.L.v (.bool false) (Fx.x_neqF rfl rfl rfl c61) ?_
            refine Fx.L.v (.bool false) (Fx.x_pickT rfl rfl rfl) ?_
            refine Fx.L.v (.bool false) (Fx.x_assign rfl rfl) ?_
            refine Fx.L.nil (Fx.seqN (Fx.W.ret (Fx.blkR (Fx.seqR (⟨.bool false, Fx.retV1 Try.results119 (by exact rfl), ?_⟩)))))
            refine ⟨congrArg (fun q => Ending.returned (Value.bool q)) (Eq.symm ?_), b1⟩
            unfold fieldsE; rw [if_neg c26, if_neg c36, if_neg c39, if_pos c47]; try simp only [someE, otherE]
            first | (simp [c7, c11, c15, c21, c50, c54, c61]; done) | (simp [c7, c11, c15, c21, c50, c54, c61]; omega)
           ·refine Fx.L.v (.bool true) (Fx.x_neqT rfl rfl rfl c61) ?_
            refine Fx.L.v (.bool true) (Fx.x_pickT rfl rfl rfl) ?_
            refine Fx.L.v (.bool true) (Fx.x_assign rfl rfl) ?_
            refine Fx.L.nil (Fx.seqN (Fx.W.ret (Fx.blkR (Fx.seqR (⟨.bool true, Fx.retV1 Try.results119 (by exact rfl), ?_⟩)))))
            refine ⟨congrArg (fun q => Ending.returned (Value.bool q)) (Eq.symm ?_), b1⟩
            unfold fieldsE; rw [if_neg c26, if_neg c36, if_neg c39, if_pos c47]; try simp only [someE, otherE]
            first | (simp [c7, c11, c15, c21, c50, c54, c61]; done) | (simp [c7, c11, c15, c21, c50, c54, c61]; omega)
          ·refine Fx.L.v (.bool false) (Fx.x_geqF rfl rfl rfl c54) ?_
           refine Fx.L.v (.bool false) (Fx.x_pickT rfl rfl rfl) ?_
           refine Fx.L.v (.bool false) (Fx.x_move rfl rfl) ?_
           refine Fx.L.skip (by rfl) rfl ?_
           refine Fx.L.skip (by rfl) rfl ?_
           refine Fx.L.skip (by rfl) rfl ?_
           refine Fx.L.skip (by rfl) rfl ?_
           refine Fx.L.skip (by rfl) rfl ?_
           refine Fx.L.v (.bool false) (Fx.x_pickF rfl rfl rfl) ?_
           refine Fx.L.v (.bool false) (Fx.x_assign rfl rfl) ?_
           refine Fx.L.nil (Fx.seqN (Fx.W.ret (Fx.blkR (Fx.seqR (⟨.bool false, Fx.retV1 Try.results119 (by exact rfl), ?_⟩)))))
           refine ⟨congrArg (fun q => Ending.returned (Value.bool q)) (Eq.symm ?_), b1⟩
           unfold fieldsE; rw [if_neg c26, if_neg c36, if_neg c39, if_pos c47]; try simp only [someE, otherE]
           first | (simp [c7, c11, c15, c21, c50, c54]; done) | (simp [c7, c11, c15, c21, c50, c54]; omega)
         ·refine Fx.L.v (.bool false) (Fx.x_geqF rfl rfl rfl c50) ?_
          refine Fx.L.v (.bool false) (Fx.x_move rfl rfl) ?_
          refine Fx.L.skip (by rfl) rfl ?_
          refine Fx.L.skip (by rfl) rfl ?_
          refine Fx.L.skip (by rfl) rfl ?_
          refine Fx.L.v (.bool false) (Fx.x_pickF rfl rfl rfl) ?_
          refine Fx.L.v (.bool false) (Fx.x_move rfl rfl) ?_
          refine Fx.L.skip (by rfl) rfl ?_
          refine Fx.L.skip (by rfl) rfl ?_
          refine Fx.L.skip (by rfl) rfl ?_
          refine Fx.L.skip (by rfl) rfl ?_
          refine Fx.L.skip (by rfl) rfl ?_
          refine Fx.L.v (.bool false) (Fx.x_pickF rfl rfl rfl) ?_
          refine Fx.L.v (.bool false) (Fx.x_assign rfl rfl) ?_
          refine Fx.L.nil (Fx.seqN (Fx.W.ret (Fx.blkR (Fx.seqR (⟨.bool false, Fx.retV1 Try.results119 (by exact rfl), ?_⟩)))))
          refine ⟨congrArg (fun q => Ending.returned (Value.bool q)) (Eq.symm ?_), b1⟩
          unfold fieldsE; rw [if_neg c26, if_neg c36, if_neg c39, if_pos c47]; try simp only [someE, otherE]
          first | (simp [c7, c11, c15, c21, c50]; done) | (simp [c7, c11, c15, c21, c50]; omega)
        ·refine Fx.L.v (.bool false) (Fx.x_eqlF rfl rfl rfl c47) ?_
         refine Fx.L.v (.bool false) (Fx.x_assign rfl rfl) ?_
         refine Fx.L.nil (Fx.seqN (Fx.W.cond (b := false) rfl (fun h => nomatch h) (fun _ => Fx.W.seq (Fx.W.list ?_))))
         by_cases c64 : v.kind = 5
         ·refine Fx.L.v (.bool true) (Fx.x_eqlT rfl rfl rfl c64) ?_
          refine Fx.L.v (.bool true) (Fx.x_assign rfl rfl) ?_
          refine Fx.L.nil (Fx.seqN (Fx.W.cond (b := true) rfl (fun _ => Fx.W.seq (Fx.W.list (Fx.L.v (.bool true) (Fx.x_move rfl rfl) ?_))) (fun h => nomatch h)))
          refine Fx.L.v (.bool true) (Fx.x_move rfl rfl) ?_
          refine Fx.L.v (.bool true) (Fx.x_move rfl rfl) ?_
          refine Fx.L.v (.bool true) (Fx.x_pickT rfl rfl rfl) ?_
          refine Fx.L.v (.bool true) (Fx.x_assign rfl rfl) ?_
          refine Fx.L.nil (Fx.seqN (Fx.W.ret (Fx.blkR (Fx.seqR (⟨.bool true, Fx.retV1 Try.results119 (by exact rfl), ?_⟩)))))
          refine ⟨congrArg (fun q => Ending.returned (Value.bool q)) (Eq.symm ?_), b1⟩
          unfold fieldsE; rw [if_neg c26, if_neg c36, if_neg c39, if_neg c47, if_pos c64]; try simp only [someE, otherE]
          first | (simp [c7, c11, c15, c21]; done) | (simp [c7, c11, c15, c21]; omega)
         ·refine Fx.L.v (.bool false) (Fx.x_eqlF rfl rfl rfl c64) ?_
          refine Fx.L.v (.bool false) (Fx.x_assign rfl rfl) ?_
          refine Fx.L.nil (Fx.seqN (Fx.W.cond (b := false) rfl (fun h => nomatch h) (fun _ => Fx.W.seq (Fx.W.list ?_))))
          by_cases c70 : v.kind = 6
          ·refine Fx.L.v (.bool true) (Fx.x_eqlT rfl rfl rfl c70) ?_
           refine Fx.L.v (.bool true) (Fx.x_assign rfl rfl) ?_
           refine Fx.L.nil (Fx.seqN (Fx.W.cond (b := true) rfl (fun _ => Fx.W.seq (Fx.W.list (Fx.L.v (.bool true) (Fx.x_move rfl rfl) ?_))) (fun h => nomatch h)))
           refine Fx.L.v (.bool true) (Fx.x_assign rfl rfl) ?_
           refine Fx.L.nil (Fx.seqN (Fx.W.ret (Fx.blkR (Fx.seqR (⟨.bool true, Fx.retV1 Try.results119 (by exact rfl), ?_⟩)))))
           refine ⟨congrArg (fun q => Ending.returned (Value.bool q)) (Eq.symm ?_), b1⟩
           unfold fieldsE; rw [if_neg c26, if_neg c36, if_neg c39, if_neg c47, if_neg c64, if_pos c70]; try simp only [someE, otherE]
           first | (simp [c7, c11, c15, c21]; done) | (simp [c7, c11, c15, c21]; omega)
          ·refine Fx.L.v (.bool false) (Fx.x_eqlF rfl rfl rfl c70) ?_
           refine Fx.L.v (.bool false) (Fx.x_assign rfl rfl) ?_
           refine Fx.L.nil (Fx.seqN (Fx.W.cond (b := false) rfl (fun h => nomatch h) (fun _ => Fx.W.skip (Fx.blkN (Fx.seqN (Fx.W.seq (Fx.W.list (Fx.L.v (.pointer (some ⟨g1, 8, none⟩)) (Fx.x_field rfl rfl Try.underlying54 rfl (s := 1) (by kernel_rfl) rfl (by show _ + 8 = _; omega)) ?_))))))))
           refine Fx.L.v (.int .u8 (v.kind)) (Fx.x_load1 (x := evY v) rfl rfl (by kernel_rfl) m1.cel (i := 8) (by omega) (by omega) rfl) ?_
           by_cases c74 : v.kind = 7
           ·refine Fx.L.v (.bool true) (Fx.x_eqlT rfl rfl rfl c74) ?_
            refine Fx.L.v (.bool true) (Fx.x_assign rfl rfl) ?_
            refine Fx.L.nil (Fx.seqN (Fx.W.ret (⟨.bool true, Fx.retV1 Try.results119 (by exact rfl), ?_⟩)))
            refine ⟨congrArg (fun q => Ending.returned (Value.bool q)) (Eq.symm ?_), b1⟩
            unfold fieldsE; rw [if_neg c26, if_neg c36, if_neg c39, if_neg c47, if_neg c64, if_neg c70]; try simp only [someE, otherE]
            first | (simp [c7, c11, c15, c21, c74]; done) | (simp [c7, c11, c15, c21, c74]; omega)
           ·refine Fx.L.v (.bool false) (Fx.x_eqlF rfl rfl rfl c74) ?_
            refine Fx.L.v (.bool false) (Fx.x_assign rfl rfl) ?_
            refine Fx.L.nil (Fx.seqN (Fx.W.ret (⟨.bool false, Fx.retV1 Try.results119 (by exact rfl), ?_⟩)))
            refine ⟨congrArg (fun q => Ending.returned (Value.bool q)) (Eq.symm ?_), b1⟩
            unfold fieldsE; rw [if_neg c26, if_neg c36, if_neg c39, if_neg c47, if_neg c64, if_neg c70]; try simp only [someE, otherE]
            first | (simp [c7, c11, c15, c21, c74]; done) | (simp [c7, c11, c15, c21, c74]; omega)
   ·rw [Bool.not_eq_true] at c15
    refine Fx.L.call (by rfl) (Fx.r_call (args := [.int .i64 (v.dst)]) rfl rfl Try.func117 rfl rfl) rfl ((e_region v.dst _).mono ?_)
    rintro e v1 ⟨he, hv1⟩
    subst v1
    refine ⟨.bool false, by rw [he, c15], ?_⟩
    clear he
    refine Fx.L.v (.bool false) (Fx.x_move rfl rfl) ?_
    refine Fx.L.skip (by rfl) rfl ?_
    refine Fx.L.skip (by rfl) rfl ?_
    refine Fx.L.skip (by rfl) rfl ?_
    refine Fx.L.skip (by rfl) rfl ?_
    refine Fx.L.skip (by rfl) rfl ?_
    refine Fx.L.v (.bool false) (Fx.x_pickF rfl rfl rfl) ?_
    refine Fx.L.v (.bool false) (Fx.x_assign rfl rfl) ?_
    refine Fx.L.nil (Fx.seqN (Fx.W.seq (Fx.W.seq (Fx.W.list (Fx.L.v (.pointer (some ⟨g1, 8, none⟩)) (Fx.x_field rfl rfl Try.underlying54 rfl (s := 1) (by kernel_rfl) rfl (by show _ + 8 = _; omega)) ?_)))))
    refine Fx.L.v (.int .u8 (v.kind)) (Fx.x_load1 (x := evY v) rfl rfl (by kernel_rfl) m1.cel (i := 8) (by omega) (by omega) rfl) ?_
    refine Fx.L.nil (Fx.seqN (Fx.W.block (Fx.W.seq (Fx.W.list ?_))))
    by_cases c26 : v.kind = 1
    ·refine Fx.L.v (.bool true) (Fx.x_eqlT rfl rfl rfl c26) ?_
     refine Fx.L.v (.bool true) (Fx.x_assign rfl rfl) ?_
     refine Fx.L.nil (Fx.seqN (Fx.W.cond (b := true) rfl (fun _ => Fx.W.seq (Fx.W.list (Fx.L.v (.pointer (some ⟨g1, 11, none⟩)) (Fx.x_field rfl rfl Try.underlying54 rfl (s := 1) (by kernel_rfl) rfl (by show _ + 11 = _; omega)) ?_))) (fun h => nomatch h)))
     refine Fx.L.v (.int .i64 (v.amt)) (Fx.x_load1 (x := evY v) rfl rfl (by kernel_rfl) m1.cel (i := 11) (by omega) (by omega) rfl) ?_
     by_cases c29 : 0 ≤ v.amt
     ·refine Fx.L.v (.bool true) (Fx.x_geqT rfl rfl rfl c29) ?_
      refine Fx.L.v (.bool true) (Fx.x_move rfl rfl) ?_
      refine Fx.L.v (.pointer (some ⟨g1, 11, none⟩)) (Fx.x_field rfl rfl Try.underlying54 rfl (s := 1) (by kernel_rfl) rfl (by show _ + 11 = _; omega)) ?_
      refine Fx.L.v (.int .i64 (v.amt)) (Fx.x_load1 (x := evY v) rfl rfl (by kernel_rfl) m1.cel (i := 11) (by omega) (by omega) rfl) ?_
      by_cases c33 : v.amt ≤ 1125899906842624
      ·refine Fx.L.v (.bool true) (Fx.x_leqT rfl rfl rfl c33) ?_
       refine Fx.L.v (.bool true) (Fx.x_pickT rfl rfl rfl) ?_
       refine Fx.L.v (.bool true) (Fx.x_assign rfl rfl) ?_
       refine Fx.L.nil (Fx.seqN (Fx.W.ret (Fx.blkR (Fx.seqR (⟨.bool true, Fx.retV1 Try.results119 (by exact rfl), ?_⟩)))))
       refine ⟨congrArg (fun q => Ending.returned (Value.bool q)) (Eq.symm ?_), b1⟩
       unfold fieldsE; rw [if_pos c26]; try simp only [someE, otherE]
       first | (simp [c7, c11, c15, c29, c33]; done) | (simp [c7, c11, c15, c29, c33]; omega)
      ·refine Fx.L.v (.bool false) (Fx.x_leqF rfl rfl rfl c33) ?_
       refine Fx.L.v (.bool false) (Fx.x_pickT rfl rfl rfl) ?_
       refine Fx.L.v (.bool false) (Fx.x_assign rfl rfl) ?_
       refine Fx.L.nil (Fx.seqN (Fx.W.ret (Fx.blkR (Fx.seqR (⟨.bool false, Fx.retV1 Try.results119 (by exact rfl), ?_⟩)))))
       refine ⟨congrArg (fun q => Ending.returned (Value.bool q)) (Eq.symm ?_), b1⟩
       unfold fieldsE; rw [if_pos c26]; try simp only [someE, otherE]
       first | (simp [c7, c11, c15, c29, c33]; done) | (simp [c7, c11, c15, c29, c33]; omega)
     ·refine Fx.L.v (.bool false) (Fx.x_geqF rfl rfl rfl c29) ?_
      refine Fx.L.v (.bool false) (Fx.x_move rfl rfl) ?_
      refine Fx.L.skip (by rfl) rfl ?_
      refine Fx.L.skip (by rfl) rfl ?_
      refine Fx.L.skip (by rfl) rfl ?_
      refine Fx.L.v (.bool false) (Fx.x_pickF rfl rfl rfl) ?_
      refine Fx.L.v (.bool false) (Fx.x_assign rfl rfl) ?_
      refine Fx.L.nil (Fx.seqN (Fx.W.ret (Fx.blkR (Fx.seqR (⟨.bool false, Fx.retV1 Try.results119 (by exact rfl), ?_⟩)))))
      refine ⟨congrArg (fun q => Ending.returned (Value.bool q)) (Eq.symm ?_), b1⟩
      unfold fieldsE; rw [if_pos c26]; try simp only [someE, otherE]
      first | (simp [c7, c11, c15, c29]; done) | (simp [c7, c11, c15, c29]; omega)
    ·refine Fx.L.v (.bool false) (Fx.x_eqlF rfl rfl rfl c26) ?_
     refine Fx.L.v (.bool false) (Fx.x_assign rfl rfl) ?_
     refine Fx.L.nil (Fx.seqN (Fx.W.cond (b := false) rfl (fun h => nomatch h) (fun _ => Fx.W.seq (Fx.W.list ?_))))
     by_cases c36 : v.kind = 2
     ·refine Fx.L.v (.bool true) (Fx.x_eqlT rfl rfl rfl c36) ?_
      refine Fx.L.v (.bool true) (Fx.x_assign rfl rfl) ?_
      refine Fx.L.nil (Fx.seqN (Fx.W.cond (b := true) rfl (fun _ => Fx.W.seq (Fx.W.list (Fx.L.v (.bool true) (Fx.x_move rfl rfl) ?_))) (fun h => nomatch h)))
      refine Fx.L.v (.bool true) (Fx.x_assign rfl rfl) ?_
      refine Fx.L.nil (Fx.seqN (Fx.W.ret (Fx.blkR (Fx.seqR (⟨.bool true, Fx.retV1 Try.results119 (by exact rfl), ?_⟩)))))
      refine ⟨congrArg (fun q => Ending.returned (Value.bool q)) (Eq.symm ?_), b1⟩
      unfold fieldsE; rw [if_neg c26, if_pos c36]; try simp only [someE, otherE]
      first | (simp [c7, c11, c15]; done) | (simp [c7, c11, c15]; omega)
     ·refine Fx.L.v (.bool false) (Fx.x_eqlF rfl rfl rfl c36) ?_
      refine Fx.L.v (.bool false) (Fx.x_assign rfl rfl) ?_
      refine Fx.L.nil (Fx.seqN (Fx.W.cond (b := false) rfl (fun h => nomatch h) (fun _ => Fx.W.seq (Fx.W.list ?_))))
      by_cases c39 : v.kind = 3
      ·refine Fx.L.v (.bool true) (Fx.x_eqlT rfl rfl rfl c39) ?_
       refine Fx.L.v (.bool true) (Fx.x_assign rfl rfl) ?_
       refine Fx.L.nil (Fx.seqN (Fx.W.cond (b := true) rfl (fun _ => Fx.W.seq (Fx.W.list (Fx.L.v (.bool true) (Fx.x_move rfl rfl) ?_))) (fun h => nomatch h)))
       refine Fx.L.v (.bool true) (Fx.x_move rfl rfl) ?_
       refine Fx.L.v (.pointer (some ⟨g1, 12, none⟩)) (Fx.x_field rfl rfl Try.underlying54 rfl (s := 1) (by kernel_rfl) rfl (by show _ + 12 = _; omega)) ?_
       refine Fx.L.v (.int .u64 (v.req)) (Fx.x_load1 (x := evY v) rfl rfl (by kernel_rfl) m1.cel (i := 12) (by omega) (by omega) rfl) ?_
       by_cases c44 : 1 ≤ v.req
       ·refine Fx.L.v (.bool true) (Fx.x_geqT rfl rfl rfl c44) ?_
        refine Fx.L.v (.bool true) (Fx.x_pickT rfl rfl rfl) ?_
        refine Fx.L.v (.bool true) (Fx.x_assign rfl rfl) ?_
        refine Fx.L.nil (Fx.seqN (Fx.W.ret (Fx.blkR (Fx.seqR (⟨.bool true, Fx.retV1 Try.results119 (by exact rfl), ?_⟩)))))
        refine ⟨congrArg (fun q => Ending.returned (Value.bool q)) (Eq.symm ?_), b1⟩
        unfold fieldsE; rw [if_neg c26, if_neg c36, if_pos c39]; try simp only [someE, otherE]
        first | (simp [c7, c11, c15, c44]; done) | (simp [c7, c11, c15, c44]; omega)
       ·refine Fx.L.v (.bool false) (Fx.x_geqF rfl rfl rfl c44) ?_
        refine Fx.L.v (.bool false) (Fx.x_pickT rfl rfl rfl) ?_
        refine Fx.L.v (.bool false) (Fx.x_assign rfl rfl) ?_
        refine Fx.L.nil (Fx.seqN (Fx.W.ret (Fx.blkR (Fx.seqR (⟨.bool false, Fx.retV1 Try.results119 (by exact rfl), ?_⟩)))))
        refine ⟨congrArg (fun q => Ending.returned (Value.bool q)) (Eq.symm ?_), b1⟩
        unfold fieldsE; rw [if_neg c26, if_neg c36, if_pos c39]; try simp only [someE, otherE]
        first | (simp [c7, c11, c15, c44]; done) | (simp [c7, c11, c15, c44]; omega)
      ·refine Fx.L.v (.bool false) (Fx.x_eqlF rfl rfl rfl c39) ?_
       refine Fx.L.v (.bool false) (Fx.x_assign rfl rfl) ?_
       refine Fx.L.nil (Fx.seqN (Fx.W.cond (b := false) rfl (fun h => nomatch h) (fun _ => Fx.W.seq (Fx.W.list ?_))))
       by_cases c47 : v.kind = 4
       ·refine Fx.L.v (.bool true) (Fx.x_eqlT rfl rfl rfl c47) ?_
        refine Fx.L.v (.bool true) (Fx.x_assign rfl rfl) ?_
        refine Fx.L.nil (Fx.seqN (Fx.W.cond (b := true) rfl (fun _ => Fx.W.seq (Fx.W.list (Fx.L.v (.pointer (some ⟨g1, 12, none⟩)) (Fx.x_field rfl rfl Try.underlying54 rfl (s := 1) (by kernel_rfl) rfl (by show _ + 12 = _; omega)) ?_))) (fun h => nomatch h)))
        refine Fx.L.v (.int .u64 (v.req)) (Fx.x_load1 (x := evY v) rfl rfl (by kernel_rfl) m1.cel (i := 12) (by omega) (by omega) rfl) ?_
        by_cases c50 : 1 ≤ v.req
        ·refine Fx.L.v (.bool true) (Fx.x_geqT rfl rfl rfl c50) ?_
         refine Fx.L.v (.bool true) (Fx.x_move rfl rfl) ?_
         refine Fx.L.v (.pointer (some ⟨g1, 13, none⟩)) (Fx.x_field rfl rfl Try.underlying54 rfl (s := 1) (by kernel_rfl) rfl (by show _ + 13 = _; omega)) ?_
         refine Fx.L.v (.int .u64 (v.of)) (Fx.x_load1 (x := evY v) rfl rfl (by kernel_rfl) m1.cel (i := 13) (by omega) (by omega) rfl) ?_
         by_cases c54 : 1 ≤ v.of
         ·refine Fx.L.v (.bool true) (Fx.x_geqT rfl rfl rfl c54) ?_
          refine Fx.L.v (.bool true) (Fx.x_pickT rfl rfl rfl) ?_
          refine Fx.L.v (.bool true) (Fx.x_move rfl rfl) ?_
          refine Fx.L.v (.pointer (some ⟨g1, 12, none⟩)) (Fx.x_field rfl rfl Try.underlying54 rfl (s := 1) (by kernel_rfl) rfl (by show _ + 12 = _; omega)) ?_
          refine Fx.L.v (.int .u64 (v.req)) (Fx.x_load1 (x := evY v) rfl rfl (by kernel_rfl) m1.cel (i := 12) (by omega) (by omega) rfl) ?_
          refine Fx.L.v (.pointer (some ⟨g1, 13, none⟩)) (Fx.x_field rfl rfl Try.underlying54 rfl (s := 1) (by kernel_rfl) rfl (by show _ + 13 = _; omega)) ?_
          refine Fx.L.v (.int .u64 (v.of)) (Fx.x_load1 (x := evY v) rfl rfl (by kernel_rfl) m1.cel (i := 13) (by omega) (by omega) rfl) ?_
          by_cases c61 : v.req = v.of
          ·refine Fx.L.v (.bool false) (Fx.x_neqF rfl rfl rfl c61) ?_
           refine Fx.L.v (.bool false) (Fx.x_pickT rfl rfl rfl) ?_
           refine Fx.L.v (.bool false) (Fx.x_assign rfl rfl) ?_
           refine Fx.L.nil (Fx.seqN (Fx.W.ret (Fx.blkR (Fx.seqR (⟨.bool false, Fx.retV1 Try.results119 (by exact rfl), ?_⟩)))))
           refine ⟨congrArg (fun q => Ending.returned (Value.bool q)) (Eq.symm ?_), b1⟩
           unfold fieldsE; rw [if_neg c26, if_neg c36, if_neg c39, if_pos c47]; try simp only [someE, otherE]
           first | (simp [c7, c11, c15, c50, c54, c61]; done) | (simp [c7, c11, c15, c50, c54, c61]; omega)
          ·refine Fx.L.v (.bool true) (Fx.x_neqT rfl rfl rfl c61) ?_
           refine Fx.L.v (.bool true) (Fx.x_pickT rfl rfl rfl) ?_
           refine Fx.L.v (.bool true) (Fx.x_assign rfl rfl) ?_
           refine Fx.L.nil (Fx.seqN (Fx.W.ret (Fx.blkR (Fx.seqR (⟨.bool true, Fx.retV1 Try.results119 (by exact rfl), ?_⟩)))))
           refine ⟨congrArg (fun q => Ending.returned (Value.bool q)) (Eq.symm ?_), b1⟩
           unfold fieldsE; rw [if_neg c26, if_neg c36, if_neg c39, if_pos c47]; try simp only [someE, otherE]
           first | (simp [c7, c11, c15, c50, c54, c61]; done) | (simp [c7, c11, c15, c50, c54, c61]; omega)
         ·refine Fx.L.v (.bool false) (Fx.x_geqF rfl rfl rfl c54) ?_
          refine Fx.L.v (.bool false) (Fx.x_pickT rfl rfl rfl) ?_
          refine Fx.L.v (.bool false) (Fx.x_move rfl rfl) ?_
          refine Fx.L.skip (by rfl) rfl ?_
          refine Fx.L.skip (by rfl) rfl ?_
          refine Fx.L.skip (by rfl) rfl ?_
          refine Fx.L.skip (by rfl) rfl ?_
          refine Fx.L.skip (by rfl) rfl ?_
          refine Fx.L.v (.bool false) (Fx.x_pickF rfl rfl rfl) ?_
          refine Fx.L.v (.bool false) (Fx.x_assign rfl rfl) ?_
          refine Fx.L.nil (Fx.seqN (Fx.W.ret (Fx.blkR (Fx.seqR (⟨.bool false, Fx.retV1 Try.results119 (by exact rfl), ?_⟩)))))
          refine ⟨congrArg (fun q => Ending.returned (Value.bool q)) (Eq.symm ?_), b1⟩
          unfold fieldsE; rw [if_neg c26, if_neg c36, if_neg c39, if_pos c47]; try simp only [someE, otherE]
          first | (simp [c7, c11, c15, c50, c54]; done) | (simp [c7, c11, c15, c50, c54]; omega)
        ·refine Fx.L.v (.bool false) (Fx.x_geqF rfl rfl rfl c50) ?_
         refine Fx.L.v (.bool false) (Fx.x_move rfl rfl) ?_
         refine Fx.L.skip (by rfl) rfl ?_
         refine Fx.L.skip (by rfl) rfl ?_
         refine Fx.L.skip (by rfl) rfl ?_
         refine Fx.L.v (.bool false) (Fx.x_pickF rfl rfl rfl) ?_
         refine Fx.L.v (.bool false) (Fx.x_move rfl rfl) ?_
         refine Fx.L.skip (by rfl) rfl ?_
         refine Fx.L.skip (by rfl) rfl ?_
         refine Fx.L.skip (by rfl) rfl ?_
         refine Fx.L.skip (by rfl) rfl ?_
         refine Fx.L.skip (by rfl) rfl ?_
         refine Fx.L.v (.bool false) (Fx.x_pickF rfl rfl rfl) ?_
         refine Fx.L.v (.bool false) (Fx.x_assign rfl rfl) ?_
         refine Fx.L.nil (Fx.seqN (Fx.W.ret (Fx.blkR (Fx.seqR (⟨.bool false, Fx.retV1 Try.results119 (by exact rfl), ?_⟩)))))
         refine ⟨congrArg (fun q => Ending.returned (Value.bool q)) (Eq.symm ?_), b1⟩
         unfold fieldsE; rw [if_neg c26, if_neg c36, if_neg c39, if_pos c47]; try simp only [someE, otherE]
         first | (simp [c7, c11, c15, c50]; done) | (simp [c7, c11, c15, c50]; omega)
       ·refine Fx.L.v (.bool false) (Fx.x_eqlF rfl rfl rfl c47) ?_
        refine Fx.L.v (.bool false) (Fx.x_assign rfl rfl) ?_
        refine Fx.L.nil (Fx.seqN (Fx.W.cond (b := false) rfl (fun h => nomatch h) (fun _ => Fx.W.seq (Fx.W.list ?_))))
        by_cases c64 : v.kind = 5
        ·refine Fx.L.v (.bool true) (Fx.x_eqlT rfl rfl rfl c64) ?_
         refine Fx.L.v (.bool true) (Fx.x_assign rfl rfl) ?_
         refine Fx.L.nil (Fx.seqN (Fx.W.cond (b := true) rfl (fun _ => Fx.W.seq (Fx.W.list (Fx.L.v (.bool true) (Fx.x_move rfl rfl) ?_))) (fun h => nomatch h)))
         refine Fx.L.v (.bool true) (Fx.x_move rfl rfl) ?_
         refine Fx.L.v (.bool false) (Fx.x_move rfl rfl) ?_
         refine Fx.L.v (.bool false) (Fx.x_pickT rfl rfl rfl) ?_
         refine Fx.L.v (.bool false) (Fx.x_assign rfl rfl) ?_
         refine Fx.L.nil (Fx.seqN (Fx.W.ret (Fx.blkR (Fx.seqR (⟨.bool false, Fx.retV1 Try.results119 (by exact rfl), ?_⟩)))))
         refine ⟨congrArg (fun q => Ending.returned (Value.bool q)) (Eq.symm ?_), b1⟩
         unfold fieldsE; rw [if_neg c26, if_neg c36, if_neg c39, if_neg c47, if_pos c64]; try simp only [someE, otherE]
         first | (simp [c7, c11, c15]; done) | (simp [c7, c11, c15]; omega)
        ·refine Fx.L.v (.bool false) (Fx.x_eqlF rfl rfl rfl c64) ?_
         refine Fx.L.v (.bool false) (Fx.x_assign rfl rfl) ?_
         refine Fx.L.nil (Fx.seqN (Fx.W.cond (b := false) rfl (fun h => nomatch h) (fun _ => Fx.W.seq (Fx.W.list ?_))))
         by_cases c70 : v.kind = 6
         ·refine Fx.L.v (.bool true) (Fx.x_eqlT rfl rfl rfl c70) ?_
          refine Fx.L.v (.bool true) (Fx.x_assign rfl rfl) ?_
          refine Fx.L.nil (Fx.seqN (Fx.W.cond (b := true) rfl (fun _ => Fx.W.seq (Fx.W.list (Fx.L.v (.bool false) (Fx.x_move rfl rfl) ?_))) (fun h => nomatch h)))
          refine Fx.L.v (.bool false) (Fx.x_assign rfl rfl) ?_
          refine Fx.L.nil (Fx.seqN (Fx.W.ret (Fx.blkR (Fx.seqR (⟨.bool false, Fx.retV1 Try.results119 (by exact rfl), ?_⟩)))))
          refine ⟨congrArg (fun q => Ending.returned (Value.bool q)) (Eq.symm ?_), b1⟩
          unfold fieldsE; rw [if_neg c26, if_neg c36, if_neg c39, if_neg c47, if_neg c64, if_pos c70]; try simp only [someE, otherE]
          first | (simp [c7, c11, c15]; done) | (simp [c7, c11, c15]; omega)
         ·refine Fx.L.v (.bool false) (Fx.x_eqlF rfl rfl rfl c70) ?_
          refine Fx.L.v (.bool false) (Fx.x_assign rfl rfl) ?_
          refine Fx.L.nil (Fx.seqN (Fx.W.cond (b := false) rfl (fun h => nomatch h) (fun _ => Fx.W.skip (Fx.blkN (Fx.seqN (Fx.W.seq (Fx.W.list (Fx.L.v (.pointer (some ⟨g1, 8, none⟩)) (Fx.x_field rfl rfl Try.underlying54 rfl (s := 1) (by kernel_rfl) rfl (by show _ + 8 = _; omega)) ?_))))))))
          refine Fx.L.v (.int .u8 (v.kind)) (Fx.x_load1 (x := evY v) rfl rfl (by kernel_rfl) m1.cel (i := 8) (by omega) (by omega) rfl) ?_
          by_cases c74 : v.kind = 7
          ·refine Fx.L.v (.bool true) (Fx.x_eqlT rfl rfl rfl c74) ?_
           refine Fx.L.v (.bool true) (Fx.x_assign rfl rfl) ?_
           refine Fx.L.nil (Fx.seqN (Fx.W.ret (⟨.bool true, Fx.retV1 Try.results119 (by exact rfl), ?_⟩)))
           refine ⟨congrArg (fun q => Ending.returned (Value.bool q)) (Eq.symm ?_), b1⟩
           unfold fieldsE; rw [if_neg c26, if_neg c36, if_neg c39, if_neg c47, if_neg c64, if_neg c70]; try simp only [someE, otherE]
           first | (simp [c7, c11, c15, c74]; done) | (simp [c7, c11, c15, c74]; omega)
          ·refine Fx.L.v (.bool false) (Fx.x_eqlF rfl rfl rfl c74) ?_
           refine Fx.L.v (.bool false) (Fx.x_assign rfl rfl) ?_
           refine Fx.L.nil (Fx.seqN (Fx.W.ret (⟨.bool false, Fx.retV1 Try.results119 (by exact rfl), ?_⟩)))
           refine ⟨congrArg (fun q => Ending.returned (Value.bool q)) (Eq.symm ?_), b1⟩
           unfold fieldsE; rw [if_neg c26, if_neg c36, if_neg c39, if_neg c47, if_neg c64, if_neg c70]; try simp only [someE, otherE]
           first | (simp [c7, c11, c15, c74]; done) | (simp [c7, c11, c15, c74]; omega)
  ·refine Fx.L.v (.bool false) (Fx.x_leqF rfl rfl rfl c11) ?_
   refine Fx.L.v (.bool false) (Fx.x_pickT rfl rfl rfl) ?_
   refine Fx.L.v (.bool false) (Fx.x_assign rfl rfl) ?_
   refine Fx.L.nil (Fx.seqN (Fx.W.seq (Fx.W.list (Fx.L.v (.pointer (some ⟨g1, 10, none⟩)) (Fx.x_field rfl rfl Try.underlying54 rfl (s := 1) (by kernel_rfl) rfl (by show _ + 10 = _; omega)) ?_))))
   refine Fx.L.v (.int .i64 (v.dst)) (Fx.x_load1 (x := evY v) rfl rfl (by kernel_rfl) m1.cel (i := 10) (by omega) (by omega) rfl) ?_
   by_cases c15 : (regE v.dst) = true
   ·refine Fx.L.call (by rfl) (Fx.r_call (args := [.int .i64 (v.dst)]) rfl rfl Try.func117 rfl rfl) rfl ((e_region v.dst _).mono ?_)
    rintro e v1 ⟨he, hv1⟩
    subst v1
    refine ⟨.bool true, by rw [he, c15], ?_⟩
    clear he
    refine Fx.L.v (.bool true) (Fx.x_move rfl rfl) ?_
    refine Fx.L.v (.pointer (some ⟨g1, 10, none⟩)) (Fx.x_field rfl rfl Try.underlying54 rfl (s := 1) (by kernel_rfl) rfl (by show _ + 10 = _; omega)) ?_
    refine Fx.L.v (.int .i64 (v.dst)) (Fx.x_load1 (x := evY v) rfl rfl (by kernel_rfl) m1.cel (i := 10) (by omega) (by omega) rfl) ?_
    refine Fx.L.v (.pointer (some ⟨g1, 0, none⟩)) (Fx.x_field rfl rfl Try.underlying54 rfl (s := 1) (by kernel_rfl) rfl rfl) ?_
    refine Fx.L.v (.int .i64 (v.o)) (Fx.x_load1 (x := evY v) rfl rfl (by kernel_rfl) m1.cel (i := 0) (by omega) (by omega) rfl) ?_
    by_cases c21 : v.dst = v.o
    ·refine Fx.L.v (.bool false) (Fx.x_neqF rfl rfl rfl c21) ?_
     refine Fx.L.v (.bool false) (Fx.x_pickT rfl rfl rfl) ?_
     refine Fx.L.v (.bool false) (Fx.x_assign rfl rfl) ?_
     refine Fx.L.nil (Fx.seqN (Fx.W.seq (Fx.W.seq (Fx.W.list (Fx.L.v (.pointer (some ⟨g1, 8, none⟩)) (Fx.x_field rfl rfl Try.underlying54 rfl (s := 1) (by kernel_rfl) rfl (by show _ + 8 = _; omega)) ?_)))))
     refine Fx.L.v (.int .u8 (v.kind)) (Fx.x_load1 (x := evY v) rfl rfl (by kernel_rfl) m1.cel (i := 8) (by omega) (by omega) rfl) ?_
     refine Fx.L.nil (Fx.seqN (Fx.W.block (Fx.W.seq (Fx.W.list ?_))))
     by_cases c26 : v.kind = 1
     ·refine Fx.L.v (.bool true) (Fx.x_eqlT rfl rfl rfl c26) ?_
      refine Fx.L.v (.bool true) (Fx.x_assign rfl rfl) ?_
      refine Fx.L.nil (Fx.seqN (Fx.W.cond (b := true) rfl (fun _ => Fx.W.seq (Fx.W.list (Fx.L.v (.pointer (some ⟨g1, 11, none⟩)) (Fx.x_field rfl rfl Try.underlying54 rfl (s := 1) (by kernel_rfl) rfl (by show _ + 11 = _; omega)) ?_))) (fun h => nomatch h)))
      refine Fx.L.v (.int .i64 (v.amt)) (Fx.x_load1 (x := evY v) rfl rfl (by kernel_rfl) m1.cel (i := 11) (by omega) (by omega) rfl) ?_
      by_cases c29 : 0 ≤ v.amt
      ·refine Fx.L.v (.bool true) (Fx.x_geqT rfl rfl rfl c29) ?_
       refine Fx.L.v (.bool true) (Fx.x_move rfl rfl) ?_
       refine Fx.L.v (.pointer (some ⟨g1, 11, none⟩)) (Fx.x_field rfl rfl Try.underlying54 rfl (s := 1) (by kernel_rfl) rfl (by show _ + 11 = _; omega)) ?_
       refine Fx.L.v (.int .i64 (v.amt)) (Fx.x_load1 (x := evY v) rfl rfl (by kernel_rfl) m1.cel (i := 11) (by omega) (by omega) rfl) ?_
       by_cases c33 : v.amt ≤ 1125899906842624
       ·refine Fx.L.v (.bool true) (Fx.x_leqT rfl rfl rfl c33) ?_
        refine Fx.L.v (.bool true) (Fx.x_pickT rfl rfl rfl) ?_
        refine Fx.L.v (.bool true) (Fx.x_assign rfl rfl) ?_
        refine Fx.L.nil (Fx.seqN (Fx.W.ret (Fx.blkR (Fx.seqR (⟨.bool true, Fx.retV1 Try.results119 (by exact rfl), ?_⟩)))))
        refine ⟨congrArg (fun q => Ending.returned (Value.bool q)) (Eq.symm ?_), b1⟩
        unfold fieldsE; rw [if_pos c26]; try simp only [someE, otherE]
        first | (simp [c7, c11, c15, c21, c29, c33]; done) | (simp [c7, c11, c15, c21, c29, c33]; omega)
       ·refine Fx.L.v (.bool false) (Fx.x_leqF rfl rfl rfl c33) ?_
        refine Fx.L.v (.bool false) (Fx.x_pickT rfl rfl rfl) ?_
        refine Fx.L.v (.bool false) (Fx.x_assign rfl rfl) ?_
        refine Fx.L.nil (Fx.seqN (Fx.W.ret (Fx.blkR (Fx.seqR (⟨.bool false, Fx.retV1 Try.results119 (by exact rfl), ?_⟩)))))
        refine ⟨congrArg (fun q => Ending.returned (Value.bool q)) (Eq.symm ?_), b1⟩
        unfold fieldsE; rw [if_pos c26]; try simp only [someE, otherE]
        first | (simp [c7, c11, c15, c21, c29, c33]; done) | (simp [c7, c11, c15, c21, c29, c33]; omega)
      ·refine Fx.L.v (.bool false) (Fx.x_geqF rfl rfl rfl c29) ?_
       refine Fx.L.v (.bool false) (Fx.x_move rfl rfl) ?_
       refine Fx.L.skip (by rfl) rfl ?_
       refine Fx.L.skip (by rfl) rfl ?_
       refine Fx.L.skip (by rfl) rfl ?_
       refine Fx.L.v (.bool false) (Fx.x_pickF rfl rfl rfl) ?_
       refine Fx.L.v (.bool false) (Fx.x_assign rfl rfl) ?_
       refine Fx.L.nil (Fx.seqN (Fx.W.ret (Fx.blkR (Fx.seqR (⟨.bool false, Fx.retV1 Try.results119 (by exact rfl), ?_⟩)))))
       refine ⟨congrArg (fun q => Ending.returned (Value.bool q)) (Eq.symm ?_), b1⟩
       unfold fieldsE; rw [if_pos c26]; try simp only [someE, otherE]
       first | (simp [c7, c11, c15, c21, c29]; done) | (simp [c7, c11, c15, c21, c29]; omega)
     ·refine Fx.L.v (.bool false) (Fx.x_eqlF rfl rfl rfl c26) ?_
      refine Fx.L.v (.bool false) (Fx.x_assign rfl rfl) ?_
      refine Fx.L.nil (Fx.seqN (Fx.W.cond (b := false) rfl (fun h => nomatch h) (fun _ => Fx.W.seq (Fx.W.list ?_))))
      by_cases c36 : v.kind = 2
      ·refine Fx.L.v (.bool true) (Fx.x_eqlT rfl rfl rfl c36) ?_
       refine Fx.L.v (.bool true) (Fx.x_assign rfl rfl) ?_
       refine Fx.L.nil (Fx.seqN (Fx.W.cond (b := true) rfl (fun _ => Fx.W.seq (Fx.W.list (Fx.L.v (.bool false) (Fx.x_move rfl rfl) ?_))) (fun h => nomatch h)))
       refine Fx.L.v (.bool false) (Fx.x_assign rfl rfl) ?_
       refine Fx.L.nil (Fx.seqN (Fx.W.ret (Fx.blkR (Fx.seqR (⟨.bool false, Fx.retV1 Try.results119 (by exact rfl), ?_⟩)))))
       refine ⟨congrArg (fun q => Ending.returned (Value.bool q)) (Eq.symm ?_), b1⟩
       unfold fieldsE; rw [if_neg c26, if_pos c36]; try simp only [someE, otherE]
       first | (simp [c7, c11, c15, c21]; done) | (simp [c7, c11, c15, c21]; omega)
      ·refine Fx.L.v (.bool false) (Fx.x_eqlF rfl rfl rfl c36) ?_
       refine Fx.L.v (.bool false) (Fx.x_assign rfl rfl) ?_
       refine Fx.L.nil (Fx.seqN (Fx.W.cond (b := false) rfl (fun h => nomatch h) (fun _ => Fx.W.seq (Fx.W.list ?_))))
       by_cases c39 : v.kind = 3
       ·refine Fx.L.v (.bool true) (Fx.x_eqlT rfl rfl rfl c39) ?_
        refine Fx.L.v (.bool true) (Fx.x_assign rfl rfl) ?_
        refine Fx.L.nil (Fx.seqN (Fx.W.cond (b := true) rfl (fun _ => Fx.W.seq (Fx.W.list (Fx.L.v (.bool false) (Fx.x_move rfl rfl) ?_))) (fun h => nomatch h)))
        refine Fx.L.v (.bool false) (Fx.x_move rfl rfl) ?_
        refine Fx.L.skip (by rfl) rfl ?_
        refine Fx.L.skip (by rfl) rfl ?_
        refine Fx.L.skip (by rfl) rfl ?_
        refine Fx.L.v (.bool false) (Fx.x_pickF rfl rfl rfl) ?_
        refine Fx.L.v (.bool false) (Fx.x_assign rfl rfl) ?_
        refine Fx.L.nil (Fx.seqN (Fx.W.ret (Fx.blkR (Fx.seqR (⟨.bool false, Fx.retV1 Try.results119 (by exact rfl), ?_⟩)))))
        refine ⟨congrArg (fun q => Ending.returned (Value.bool q)) (Eq.symm ?_), b1⟩
        unfold fieldsE; rw [if_neg c26, if_neg c36, if_pos c39]; try simp only [someE, otherE]
        first | (simp [c7, c11, c15, c21]; done) | (simp [c7, c11, c15, c21]; omega)
       ·refine Fx.L.v (.bool false) (Fx.x_eqlF rfl rfl rfl c39) ?_
        refine Fx.L.v (.bool false) (Fx.x_assign rfl rfl) ?_
        refine Fx.L.nil (Fx.seqN (Fx.W.cond (b := false) rfl (fun h => nomatch h) (fun _ => Fx.W.seq (Fx.W.list ?_))))
        by_cases c47 : v.kind = 4
        ·refine Fx.L.v (.bool true) (Fx.x_eqlT rfl rfl rfl c47) ?_
         refine Fx.L.v (.bool true) (Fx.x_assign rfl rfl) ?_
         refine Fx.L.nil (Fx.seqN (Fx.W.cond (b := true) rfl (fun _ => Fx.W.seq (Fx.W.list (Fx.L.v (.pointer (some ⟨g1, 12, none⟩)) (Fx.x_field rfl rfl Try.underlying54 rfl (s := 1) (by kernel_rfl) rfl (by show _ + 12 = _; omega)) ?_))) (fun h => nomatch h)))
         refine Fx.L.v (.int .u64 (v.req)) (Fx.x_load1 (x := evY v) rfl rfl (by kernel_rfl) m1.cel (i := 12) (by omega) (by omega) rfl) ?_
         by_cases c50 : 1 ≤ v.req
         ·refine Fx.L.v (.bool true) (Fx.x_geqT rfl rfl rfl c50) ?_
          refine Fx.L.v (.bool true) (Fx.x_move rfl rfl) ?_
          refine Fx.L.v (.pointer (some ⟨g1, 13, none⟩)) (Fx.x_field rfl rfl Try.underlying54 rfl (s := 1) (by kernel_rfl) rfl (by show _ + 13 = _; omega)) ?_
          refine Fx.L.v (.int .u64 (v.of)) (Fx.x_load1 (x := evY v) rfl rfl (by kernel_rfl) m1.cel (i := 13) (by omega) (by omega) rfl) ?_
          by_cases c54 : 1 ≤ v.of
          ·refine Fx.L.v (.bool true) (Fx.x_geqT rfl rfl rfl c54) ?_
           refine Fx.L.v (.bool true) (Fx.x_pickT rfl rfl rfl) ?_
           refine Fx.L.v (.bool true) (Fx.x_move rfl rfl) ?_
           refine Fx.L.v (.pointer (some ⟨g1, 12, none⟩)) (Fx.x_field rfl rfl Try.underlying54 rfl (s := 1) (by kernel_rfl) rfl (by show _ + 12 = _; omega)) ?_
           refine Fx.L.v (.int .u64 (v.req)) (Fx.x_load1 (x := evY v) rfl rfl (by kernel_rfl) m1.cel (i := 12) (by omega) (by omega) rfl) ?_
           refine Fx.L.v (.pointer (some ⟨g1, 13, none⟩)) (Fx.x_field rfl rfl Try.underlying54 rfl (s := 1) (by kernel_rfl) rfl (by show _ + 13 = _; omega)) ?_
           refine Fx.L.v (.int .u64 (v.of)) (Fx.x_load1 (x := evY v) rfl rfl (by kernel_rfl) m1.cel (i := 13) (by omega) (by omega) rfl) ?_
           by_cases c61 : v.req = v.of
           ·refine Fx.L.v (.bool false) (Fx.x_neqF rfl rfl rfl c61) ?_
            refine Fx.L.v (.bool false) (Fx.x_pickT rfl rfl rfl) ?_
            refine Fx.L.v (.bool false) (Fx.x_assign rfl rfl) ?_
            refine Fx.L.nil (Fx.seqN (Fx.W.ret (Fx.blkR (Fx.seqR (⟨.bool false, Fx.retV1 Try.results119 (by exact rfl), ?_⟩)))))
            refine ⟨congrArg (fun q => Ending.returned (Value.bool q)) (Eq.symm ?_), b1⟩
            unfold fieldsE; rw [if_neg c26, if_neg c36, if_neg c39, if_pos c47]; try simp only [someE, otherE]
            first | (simp [c7, c11, c15, c21, c50, c54, c61]; done) | (simp [c7, c11, c15, c21, c50, c54, c61]; omega)
           ·refine Fx.L.v (.bool true) (Fx.x_neqT rfl rfl rfl c61) ?_
            refine Fx.L.v (.bool true) (Fx.x_pickT rfl rfl rfl) ?_
            refine Fx.L.v (.bool true) (Fx.x_assign rfl rfl) ?_
            refine Fx.L.nil (Fx.seqN (Fx.W.ret (Fx.blkR (Fx.seqR (⟨.bool true, Fx.retV1 Try.results119 (by exact rfl), ?_⟩)))))
            refine ⟨congrArg (fun q => Ending.returned (Value.bool q)) (Eq.symm ?_), b1⟩
            unfold fieldsE; rw [if_neg c26, if_neg c36, if_neg c39, if_pos c47]; try simp only [someE, otherE]
            first | (simp [c7, c11, c15, c21, c50, c54, c61]; done) | (simp [c7, c11, c15, c21, c50, c54, c61]; omega)
          ·refine Fx.L.v (.bool false) (Fx.x_geqF rfl rfl rfl c54) ?_
           refine Fx.L.v (.bool false) (Fx.x_pickT rfl rfl rfl) ?_
           refine Fx.L.v (.bool false) (Fx.x_move rfl rfl) ?_
           refine Fx.L.skip (by rfl) rfl ?_
           refine Fx.L.skip (by rfl) rfl ?_
           refine Fx.L.skip (by rfl) rfl ?_
           refine Fx.L.skip (by rfl) rfl ?_
           refine Fx.L.skip (by rfl) rfl ?_
           refine Fx.L.v (.bool false) (Fx.x_pickF rfl rfl rfl) ?_
           refine Fx.L.v (.bool false) (Fx.x_assign rfl rfl) ?_
           refine Fx.L.nil (Fx.seqN (Fx.W.ret (Fx.blkR (Fx.seqR (⟨.bool false, Fx.retV1 Try.results119 (by exact rfl), ?_⟩)))))
           refine ⟨congrArg (fun q => Ending.returned (Value.bool q)) (Eq.symm ?_), b1⟩
           unfold fieldsE; rw [if_neg c26, if_neg c36, if_neg c39, if_pos c47]; try simp only [someE, otherE]
           first | (simp [c7, c11, c15, c21, c50, c54]; done) | (simp [c7, c11, c15, c21, c50, c54]; omega)
         ·refine Fx.L.v (.bool false) (Fx.x_geqF rfl rfl rfl c50) ?_
          refine Fx.L.v (.bool false) (Fx.x_move rfl rfl) ?_
          refine Fx.L.skip (by rfl) rfl ?_
          refine Fx.L.skip (by rfl) rfl ?_
          refine Fx.L.skip (by rfl) rfl ?_
          refine Fx.L.v (.bool false) (Fx.x_pickF rfl rfl rfl) ?_
          refine Fx.L.v (.bool false) (Fx.x_move rfl rfl) ?_
          refine Fx.L.skip (by rfl) rfl ?_
          refine Fx.L.skip (by rfl) rfl ?_
          refine Fx.L.skip (by rfl) rfl ?_
          refine Fx.L.skip (by rfl) rfl ?_
          refine Fx.L.skip (by rfl) rfl ?_
          refine Fx.L.v (.bool false) (Fx.x_pickF rfl rfl rfl) ?_
          refine Fx.L.v (.bool false) (Fx.x_assign rfl rfl) ?_
          refine Fx.L.nil (Fx.seqN (Fx.W.ret (Fx.blkR (Fx.seqR (⟨.bool false, Fx.retV1 Try.results119 (by exact rfl), ?_⟩)))))
          refine ⟨congrArg (fun q => Ending.returned (Value.bool q)) (Eq.symm ?_), b1⟩
          unfold fieldsE; rw [if_neg c26, if_neg c36, if_neg c39, if_pos c47]; try simp only [someE, otherE]
          first | (simp [c7, c11, c15, c21, c50]; done) | (simp [c7, c11, c15, c21, c50]; omega)
        ·refine Fx.L.v (.bool false) (Fx.x_eqlF rfl rfl rfl c47) ?_
         refine Fx.L.v (.bool false) (Fx.x_assign rfl rfl) ?_
         refine Fx.L.nil (Fx.seqN (Fx.W.cond (b := false) rfl (fun h => nomatch h) (fun _ => Fx.W.seq (Fx.W.list ?_))))
         by_cases c64 : v.kind = 5
         ·refine Fx.L.v (.bool true) (Fx.x_eqlT rfl rfl rfl c64) ?_
          refine Fx.L.v (.bool true) (Fx.x_assign rfl rfl) ?_
          refine Fx.L.nil (Fx.seqN (Fx.W.cond (b := true) rfl (fun _ => Fx.W.seq (Fx.W.list (Fx.L.v (.bool false) (Fx.x_move rfl rfl) ?_))) (fun h => nomatch h)))
          refine Fx.L.v (.bool false) (Fx.x_move rfl rfl) ?_
          refine Fx.L.skip (by rfl) rfl ?_
          refine Fx.L.v (.bool false) (Fx.x_pickF rfl rfl rfl) ?_
          refine Fx.L.v (.bool false) (Fx.x_assign rfl rfl) ?_
          refine Fx.L.nil (Fx.seqN (Fx.W.ret (Fx.blkR (Fx.seqR (⟨.bool false, Fx.retV1 Try.results119 (by exact rfl), ?_⟩)))))
          refine ⟨congrArg (fun q => Ending.returned (Value.bool q)) (Eq.symm ?_), b1⟩
          unfold fieldsE; rw [if_neg c26, if_neg c36, if_neg c39, if_neg c47, if_pos c64]; try simp only [someE, otherE]
          first | (simp [c7, c11, c15, c21]; done) | (simp [c7, c11, c15, c21]; omega)
         ·refine Fx.L.v (.bool false) (Fx.x_eqlF rfl rfl rfl c64) ?_
          refine Fx.L.v (.bool false) (Fx.x_assign rfl rfl) ?_
          refine Fx.L.nil (Fx.seqN (Fx.W.cond (b := false) rfl (fun h => nomatch h) (fun _ => Fx.W.seq (Fx.W.list ?_))))
          by_cases c70 : v.kind = 6
          ·refine Fx.L.v (.bool true) (Fx.x_eqlT rfl rfl rfl c70) ?_
           refine Fx.L.v (.bool true) (Fx.x_assign rfl rfl) ?_
           refine Fx.L.nil (Fx.seqN (Fx.W.cond (b := true) rfl (fun _ => Fx.W.seq (Fx.W.list (Fx.L.v (.bool false) (Fx.x_move rfl rfl) ?_))) (fun h => nomatch h)))
           refine Fx.L.v (.bool false) (Fx.x_assign rfl rfl) ?_
           refine Fx.L.nil (Fx.seqN (Fx.W.ret (Fx.blkR (Fx.seqR (⟨.bool false, Fx.retV1 Try.results119 (by exact rfl), ?_⟩)))))
           refine ⟨congrArg (fun q => Ending.returned (Value.bool q)) (Eq.symm ?_), b1⟩
           unfold fieldsE; rw [if_neg c26, if_neg c36, if_neg c39, if_neg c47, if_neg c64, if_pos c70]; try simp only [someE, otherE]
           first | (simp [c7, c11, c15, c21]; done) | (simp [c7, c11, c15, c21]; omega)
          ·refine Fx.L.v (.bool false) (Fx.x_eqlF rfl rfl rfl c70) ?_
           refine Fx.L.v (.bool false) (Fx.x_assign rfl rfl) ?_
           refine Fx.L.nil (Fx.seqN (Fx.W.cond (b := false) rfl (fun h => nomatch h) (fun _ => Fx.W.skip (Fx.blkN (Fx.seqN (Fx.W.seq (Fx.W.list (Fx.L.v (.pointer (some ⟨g1, 8, none⟩)) (Fx.x_field rfl rfl Try.underlying54 rfl (s := 1) (by kernel_rfl) rfl (by show _ + 8 = _; omega)) ?_))))))))
           refine Fx.L.v (.int .u8 (v.kind)) (Fx.x_load1 (x := evY v) rfl rfl (by kernel_rfl) m1.cel (i := 8) (by omega) (by omega) rfl) ?_
           by_cases c74 : v.kind = 7
           ·refine Fx.L.v (.bool true) (Fx.x_eqlT rfl rfl rfl c74) ?_
            refine Fx.L.v (.bool true) (Fx.x_assign rfl rfl) ?_
            refine Fx.L.nil (Fx.seqN (Fx.W.ret (⟨.bool true, Fx.retV1 Try.results119 (by exact rfl), ?_⟩)))
            refine ⟨congrArg (fun q => Ending.returned (Value.bool q)) (Eq.symm ?_), b1⟩
            unfold fieldsE; rw [if_neg c26, if_neg c36, if_neg c39, if_neg c47, if_neg c64, if_neg c70]; try simp only [someE, otherE]
            first | (simp [c7, c11, c15, c21, c74]; done) | (simp [c7, c11, c15, c21, c74]; omega)
           ·refine Fx.L.v (.bool false) (Fx.x_eqlF rfl rfl rfl c74) ?_
            refine Fx.L.v (.bool false) (Fx.x_assign rfl rfl) ?_
            refine Fx.L.nil (Fx.seqN (Fx.W.ret (⟨.bool false, Fx.retV1 Try.results119 (by exact rfl), ?_⟩)))
            refine ⟨congrArg (fun q => Ending.returned (Value.bool q)) (Eq.symm ?_), b1⟩
            unfold fieldsE; rw [if_neg c26, if_neg c36, if_neg c39, if_neg c47, if_neg c64, if_neg c70]; try simp only [someE, otherE]
            first | (simp [c7, c11, c15, c21, c74]; done) | (simp [c7, c11, c15, c21, c74]; omega)
    ·refine Fx.L.v (.bool true) (Fx.x_neqT rfl rfl rfl c21) ?_
     refine Fx.L.v (.bool true) (Fx.x_pickT rfl rfl rfl) ?_
     refine Fx.L.v (.bool true) (Fx.x_assign rfl rfl) ?_
     refine Fx.L.nil (Fx.seqN (Fx.W.seq (Fx.W.seq (Fx.W.list (Fx.L.v (.pointer (some ⟨g1, 8, none⟩)) (Fx.x_field rfl rfl Try.underlying54 rfl (s := 1) (by kernel_rfl) rfl (by show _ + 8 = _; omega)) ?_)))))
     refine Fx.L.v (.int .u8 (v.kind)) (Fx.x_load1 (x := evY v) rfl rfl (by kernel_rfl) m1.cel (i := 8) (by omega) (by omega) rfl) ?_
     refine Fx.L.nil (Fx.seqN (Fx.W.block (Fx.W.seq (Fx.W.list ?_))))
     by_cases c26 : v.kind = 1
     ·refine Fx.L.v (.bool true) (Fx.x_eqlT rfl rfl rfl c26) ?_
      refine Fx.L.v (.bool true) (Fx.x_assign rfl rfl) ?_
      refine Fx.L.nil (Fx.seqN (Fx.W.cond (b := true) rfl (fun _ => Fx.W.seq (Fx.W.list (Fx.L.v (.pointer (some ⟨g1, 11, none⟩)) (Fx.x_field rfl rfl Try.underlying54 rfl (s := 1) (by kernel_rfl) rfl (by show _ + 11 = _; omega)) ?_))) (fun h => nomatch h)))
      refine Fx.L.v (.int .i64 (v.amt)) (Fx.x_load1 (x := evY v) rfl rfl (by kernel_rfl) m1.cel (i := 11) (by omega) (by omega) rfl) ?_
      by_cases c29 : 0 ≤ v.amt
      ·refine Fx.L.v (.bool true) (Fx.x_geqT rfl rfl rfl c29) ?_
       refine Fx.L.v (.bool true) (Fx.x_move rfl rfl) ?_
       refine Fx.L.v (.pointer (some ⟨g1, 11, none⟩)) (Fx.x_field rfl rfl Try.underlying54 rfl (s := 1) (by kernel_rfl) rfl (by show _ + 11 = _; omega)) ?_
       refine Fx.L.v (.int .i64 (v.amt)) (Fx.x_load1 (x := evY v) rfl rfl (by kernel_rfl) m1.cel (i := 11) (by omega) (by omega) rfl) ?_
       by_cases c33 : v.amt ≤ 1125899906842624
       ·refine Fx.L.v (.bool true) (Fx.x_leqT rfl rfl rfl c33) ?_
        refine Fx.L.v (.bool true) (Fx.x_pickT rfl rfl rfl) ?_
        refine Fx.L.v (.bool true) (Fx.x_assign rfl rfl) ?_
        refine Fx.L.nil (Fx.seqN (Fx.W.ret (Fx.blkR (Fx.seqR (⟨.bool true, Fx.retV1 Try.results119 (by exact rfl), ?_⟩)))))
        refine ⟨congrArg (fun q => Ending.returned (Value.bool q)) (Eq.symm ?_), b1⟩
        unfold fieldsE; rw [if_pos c26]; try simp only [someE, otherE]
        first | (simp [c7, c11, c15, c21, c29, c33]; done) | (simp [c7, c11, c15, c21, c29, c33]; omega)
       ·refine Fx.L.v (.bool false) (Fx.x_leqF rfl rfl rfl c33) ?_
        refine Fx.L.v (.bool false) (Fx.x_pickT rfl rfl rfl) ?_
        refine Fx.L.v (.bool false) (Fx.x_assign rfl rfl) ?_
        refine Fx.L.nil (Fx.seqN (Fx.W.ret (Fx.blkR (Fx.seqR (⟨.bool false, Fx.retV1 Try.results119 (by exact rfl), ?_⟩)))))
        refine ⟨congrArg (fun q => Ending.returned (Value.bool q)) (Eq.symm ?_), b1⟩
        unfold fieldsE; rw [if_pos c26]; try simp only [someE, otherE]
        first | (simp [c7, c11, c15, c21, c29, c33]; done) | (simp [c7, c11, c15, c21, c29, c33]; omega)
      ·refine Fx.L.v (.bool false) (Fx.x_geqF rfl rfl rfl c29) ?_
       refine Fx.L.v (.bool false) (Fx.x_move rfl rfl) ?_
       refine Fx.L.skip (by rfl) rfl ?_
       refine Fx.L.skip (by rfl) rfl ?_
       refine Fx.L.skip (by rfl) rfl ?_
       refine Fx.L.v (.bool false) (Fx.x_pickF rfl rfl rfl) ?_
       refine Fx.L.v (.bool false) (Fx.x_assign rfl rfl) ?_
       refine Fx.L.nil (Fx.seqN (Fx.W.ret (Fx.blkR (Fx.seqR (⟨.bool false, Fx.retV1 Try.results119 (by exact rfl), ?_⟩)))))
       refine ⟨congrArg (fun q => Ending.returned (Value.bool q)) (Eq.symm ?_), b1⟩
       unfold fieldsE; rw [if_pos c26]; try simp only [someE, otherE]
       first | (simp [c7, c11, c15, c21, c29]; done) | (simp [c7, c11, c15, c21, c29]; omega)
     ·refine Fx.L.v (.bool false) (Fx.x_eqlF rfl rfl rfl c26) ?_
      refine Fx.L.v (.bool false) (Fx.x_assign rfl rfl) ?_
      refine Fx.L.nil (Fx.seqN (Fx.W.cond (b := false) rfl (fun h => nomatch h) (fun _ => Fx.W.seq (Fx.W.list ?_))))
      by_cases c36 : v.kind = 2
      ·refine Fx.L.v (.bool true) (Fx.x_eqlT rfl rfl rfl c36) ?_
       refine Fx.L.v (.bool true) (Fx.x_assign rfl rfl) ?_
       refine Fx.L.nil (Fx.seqN (Fx.W.cond (b := true) rfl (fun _ => Fx.W.seq (Fx.W.list (Fx.L.v (.bool false) (Fx.x_move rfl rfl) ?_))) (fun h => nomatch h)))
       refine Fx.L.v (.bool false) (Fx.x_assign rfl rfl) ?_
       refine Fx.L.nil (Fx.seqN (Fx.W.ret (Fx.blkR (Fx.seqR (⟨.bool false, Fx.retV1 Try.results119 (by exact rfl), ?_⟩)))))
       refine ⟨congrArg (fun q => Ending.returned (Value.bool q)) (Eq.symm ?_), b1⟩
       unfold fieldsE; rw [if_neg c26, if_pos c36]; try simp only [someE, otherE]
       first | (simp [c7, c11, c15, c21]; done) | (simp [c7, c11, c15, c21]; omega)
      ·refine Fx.L.v (.bool false) (Fx.x_eqlF rfl rfl rfl c36) ?_
       refine Fx.L.v (.bool false) (Fx.x_assign rfl rfl) ?_
       refine Fx.L.nil (Fx.seqN (Fx.W.cond (b := false) rfl (fun h => nomatch h) (fun _ => Fx.W.seq (Fx.W.list ?_))))
       by_cases c39 : v.kind = 3
       ·refine Fx.L.v (.bool true) (Fx.x_eqlT rfl rfl rfl c39) ?_
        refine Fx.L.v (.bool true) (Fx.x_assign rfl rfl) ?_
        refine Fx.L.nil (Fx.seqN (Fx.W.cond (b := true) rfl (fun _ => Fx.W.seq (Fx.W.list (Fx.L.v (.bool false) (Fx.x_move rfl rfl) ?_))) (fun h => nomatch h)))
        refine Fx.L.v (.bool false) (Fx.x_move rfl rfl) ?_
        refine Fx.L.skip (by rfl) rfl ?_
        refine Fx.L.skip (by rfl) rfl ?_
        refine Fx.L.skip (by rfl) rfl ?_
        refine Fx.L.v (.bool false) (Fx.x_pickF rfl rfl rfl) ?_
        refine Fx.L.v (.bool false) (Fx.x_assign rfl rfl) ?_
        refine Fx.L.nil (Fx.seqN (Fx.W.ret (Fx.blkR (Fx.seqR (⟨.bool false, Fx.retV1 Try.results119 (by exact rfl), ?_⟩)))))
        refine ⟨congrArg (fun q => Ending.returned (Value.bool q)) (Eq.symm ?_), b1⟩
        unfold fieldsE; rw [if_neg c26, if_neg c36, if_pos c39]; try simp only [someE, otherE]
        first | (simp [c7, c11, c15, c21]; done) | (simp [c7, c11, c15, c21]; omega)
       ·refine Fx.L.v (.bool false) (Fx.x_eqlF rfl rfl rfl c39) ?_
        refine Fx.L.v (.bool false) (Fx.x_assign rfl rfl) ?_
        refine Fx.L.nil (Fx.seqN (Fx.W.cond (b := false) rfl (fun h => nomatch h) (fun _ => Fx.W.seq (Fx.W.list ?_))))
        by_cases c47 : v.kind = 4
        ·refine Fx.L.v (.bool true) (Fx.x_eqlT rfl rfl rfl c47) ?_
         refine Fx.L.v (.bool true) (Fx.x_assign rfl rfl) ?_
         refine Fx.L.nil (Fx.seqN (Fx.W.cond (b := true) rfl (fun _ => Fx.W.seq (Fx.W.list (Fx.L.v (.pointer (some ⟨g1, 12, none⟩)) (Fx.x_field rfl rfl Try.underlying54 rfl (s := 1) (by kernel_rfl) rfl (by show _ + 12 = _; omega)) ?_))) (fun h => nomatch h)))
         refine Fx.L.v (.int .u64 (v.req)) (Fx.x_load1 (x := evY v) rfl rfl (by kernel_rfl) m1.cel (i := 12) (by omega) (by omega) rfl) ?_
         by_cases c50 : 1 ≤ v.req
         ·refine Fx.L.v (.bool true) (Fx.x_geqT rfl rfl rfl c50) ?_
          refine Fx.L.v (.bool true) (Fx.x_move rfl rfl) ?_
          refine Fx.L.v (.pointer (some ⟨g1, 13, none⟩)) (Fx.x_field rfl rfl Try.underlying54 rfl (s := 1) (by kernel_rfl) rfl (by show _ + 13 = _; omega)) ?_
          refine Fx.L.v (.int .u64 (v.of)) (Fx.x_load1 (x := evY v) rfl rfl (by kernel_rfl) m1.cel (i := 13) (by omega) (by omega) rfl) ?_
          by_cases c54 : 1 ≤ v.of
          ·refine Fx.L.v (.bool true) (Fx.x_geqT rfl rfl rfl c54) ?_
           refine Fx.L.v (.bool true) (Fx.x_pickT rfl rfl rfl) ?_
           refine Fx.L.v (.bool true) (Fx.x_move rfl rfl) ?_
           refine Fx.L.v (.pointer (some ⟨g1, 12, none⟩)) (Fx.x_field rfl rfl Try.underlying54 rfl (s := 1) (by kernel_rfl) rfl (by show _ + 12 = _; omega)) ?_
           refine Fx.L.v (.int .u64 (v.req)) (Fx.x_load1 (x := evY v) rfl rfl (by kernel_rfl) m1.cel (i := 12) (by omega) (by omega) rfl) ?_
           refine Fx.L.v (.pointer (some ⟨g1, 13, none⟩)) (Fx.x_field rfl rfl Try.underlying54 rfl (s := 1) (by kernel_rfl) rfl (by show _ + 13 = _; omega)) ?_
           refine Fx.L.v (.int .u64 (v.of)) (Fx.x_load1 (x := evY v) rfl rfl (by kernel_rfl) m1.cel (i := 13) (by omega) (by omega) rfl) ?_
           by_cases c61 : v.req = v.of
           ·refine Fx.L.v (.bool false) (Fx.x_neqF rfl rfl rfl c61) ?_
            refine Fx.L.v (.bool false) (Fx.x_pickT rfl rfl rfl) ?_
            refine Fx.L.v (.bool false) (Fx.x_assign rfl rfl) ?_
            refine Fx.L.nil (Fx.seqN (Fx.W.ret (Fx.blkR (Fx.seqR (⟨.bool false, Fx.retV1 Try.results119 (by exact rfl), ?_⟩)))))
            refine ⟨congrArg (fun q => Ending.returned (Value.bool q)) (Eq.symm ?_), b1⟩
            unfold fieldsE; rw [if_neg c26, if_neg c36, if_neg c39, if_pos c47]; try simp only [someE, otherE]
            first | (simp [c7, c11, c15, c21, c50, c54, c61]; done) | (simp [c7, c11, c15, c21, c50, c54, c61]; omega)
           ·refine Fx.L.v (.bool true) (Fx.x_neqT rfl rfl rfl c61) ?_
            refine Fx.L.v (.bool true) (Fx.x_pickT rfl rfl rfl) ?_
            refine Fx.L.v (.bool true) (Fx.x_assign rfl rfl) ?_
            refine Fx.L.nil (Fx.seqN (Fx.W.ret (Fx.blkR (Fx.seqR (⟨.bool true, Fx.retV1 Try.results119 (by exact rfl), ?_⟩)))))
            refine ⟨congrArg (fun q => Ending.returned (Value.bool q)) (Eq.symm ?_), b1⟩
            unfold fieldsE; rw [if_neg c26, if_neg c36, if_neg c39, if_pos c47]; try simp only [someE, otherE]
            first | (simp [c7, c11, c15, c21, c50, c54, c61]; done) | (simp [c7, c11, c15, c21, c50, c54, c61]; omega)
          ·refine Fx.L.v (.bool false) (Fx.x_geqF rfl rfl rfl c54) ?_
           refine Fx.L.v (.bool false) (Fx.x_pickT rfl rfl rfl) ?_
           refine Fx.L.v (.bool false) (Fx.x_move rfl rfl) ?_
           refine Fx.L.skip (by rfl) rfl ?_
           refine Fx.L.skip (by rfl) rfl ?_
           refine Fx.L.skip (by rfl) rfl ?_
           refine Fx.L.skip (by rfl) rfl ?_
           refine Fx.L.skip (by rfl) rfl ?_
           refine Fx.L.v (.bool false) (Fx.x_pickF rfl rfl rfl) ?_
           refine Fx.L.v (.bool false) (Fx.x_assign rfl rfl) ?_
           refine Fx.L.nil (Fx.seqN (Fx.W.ret (Fx.blkR (Fx.seqR (⟨.bool false, Fx.retV1 Try.results119 (by exact rfl), ?_⟩)))))
           refine ⟨congrArg (fun q => Ending.returned (Value.bool q)) (Eq.symm ?_), b1⟩
           unfold fieldsE; rw [if_neg c26, if_neg c36, if_neg c39, if_pos c47]; try simp only [someE, otherE]
           first | (simp [c7, c11, c15, c21, c50, c54]; done) | (simp [c7, c11, c15, c21, c50, c54]; omega)
         ·refine Fx.L.v (.bool false) (Fx.x_geqF rfl rfl rfl c50) ?_
          refine Fx.L.v (.bool false) (Fx.x_move rfl rfl) ?_
          refine Fx.L.skip (by rfl) rfl ?_
          refine Fx.L.skip (by rfl) rfl ?_
          refine Fx.L.skip (by rfl) rfl ?_
          refine Fx.L.v (.bool false) (Fx.x_pickF rfl rfl rfl) ?_
          refine Fx.L.v (.bool false) (Fx.x_move rfl rfl) ?_
          refine Fx.L.skip (by rfl) rfl ?_
          refine Fx.L.skip (by rfl) rfl ?_
          refine Fx.L.skip (by rfl) rfl ?_
          refine Fx.L.skip (by rfl) rfl ?_
          refine Fx.L.skip (by rfl) rfl ?_
          refine Fx.L.v (.bool false) (Fx.x_pickF rfl rfl rfl) ?_
          refine Fx.L.v (.bool false) (Fx.x_assign rfl rfl) ?_
          refine Fx.L.nil (Fx.seqN (Fx.W.ret (Fx.blkR (Fx.seqR (⟨.bool false, Fx.retV1 Try.results119 (by exact rfl), ?_⟩)))))
          refine ⟨congrArg (fun q => Ending.returned (Value.bool q)) (Eq.symm ?_), b1⟩
          unfold fieldsE; rw [if_neg c26, if_neg c36, if_neg c39, if_pos c47]; try simp only [someE, otherE]
          first | (simp [c7, c11, c15, c21, c50]; done) | (simp [c7, c11, c15, c21, c50]; omega)
        ·refine Fx.L.v (.bool false) (Fx.x_eqlF rfl rfl rfl c47) ?_
         refine Fx.L.v (.bool false) (Fx.x_assign rfl rfl) ?_
         refine Fx.L.nil (Fx.seqN (Fx.W.cond (b := false) rfl (fun h => nomatch h) (fun _ => Fx.W.seq (Fx.W.list ?_))))
         by_cases c64 : v.kind = 5
         ·refine Fx.L.v (.bool true) (Fx.x_eqlT rfl rfl rfl c64) ?_
          refine Fx.L.v (.bool true) (Fx.x_assign rfl rfl) ?_
          refine Fx.L.nil (Fx.seqN (Fx.W.cond (b := true) rfl (fun _ => Fx.W.seq (Fx.W.list (Fx.L.v (.bool false) (Fx.x_move rfl rfl) ?_))) (fun h => nomatch h)))
          refine Fx.L.v (.bool false) (Fx.x_move rfl rfl) ?_
          refine Fx.L.skip (by rfl) rfl ?_
          refine Fx.L.v (.bool false) (Fx.x_pickF rfl rfl rfl) ?_
          refine Fx.L.v (.bool false) (Fx.x_assign rfl rfl) ?_
          refine Fx.L.nil (Fx.seqN (Fx.W.ret (Fx.blkR (Fx.seqR (⟨.bool false, Fx.retV1 Try.results119 (by exact rfl), ?_⟩)))))
          refine ⟨congrArg (fun q => Ending.returned (Value.bool q)) (Eq.symm ?_), b1⟩
          unfold fieldsE; rw [if_neg c26, if_neg c36, if_neg c39, if_neg c47, if_pos c64]; try simp only [someE, otherE]
          first | (simp [c7, c11, c15, c21]; done) | (simp [c7, c11, c15, c21]; omega)
         ·refine Fx.L.v (.bool false) (Fx.x_eqlF rfl rfl rfl c64) ?_
          refine Fx.L.v (.bool false) (Fx.x_assign rfl rfl) ?_
          refine Fx.L.nil (Fx.seqN (Fx.W.cond (b := false) rfl (fun h => nomatch h) (fun _ => Fx.W.seq (Fx.W.list ?_))))
          by_cases c70 : v.kind = 6
          ·refine Fx.L.v (.bool true) (Fx.x_eqlT rfl rfl rfl c70) ?_
           refine Fx.L.v (.bool true) (Fx.x_assign rfl rfl) ?_
           refine Fx.L.nil (Fx.seqN (Fx.W.cond (b := true) rfl (fun _ => Fx.W.seq (Fx.W.list (Fx.L.v (.bool true) (Fx.x_move rfl rfl) ?_))) (fun h => nomatch h)))
           refine Fx.L.v (.bool true) (Fx.x_assign rfl rfl) ?_
           refine Fx.L.nil (Fx.seqN (Fx.W.ret (Fx.blkR (Fx.seqR (⟨.bool true, Fx.retV1 Try.results119 (by exact rfl), ?_⟩)))))
           refine ⟨congrArg (fun q => Ending.returned (Value.bool q)) (Eq.symm ?_), b1⟩
           unfold fieldsE; rw [if_neg c26, if_neg c36, if_neg c39, if_neg c47, if_neg c64, if_pos c70]; try simp only [someE, otherE]
           first | (simp [c7, c11, c15, c21]; done) | (simp [c7, c11, c15, c21]; omega)
          ·refine Fx.L.v (.bool false) (Fx.x_eqlF rfl rfl rfl c70) ?_
           refine Fx.L.v (.bool false) (Fx.x_assign rfl rfl) ?_
           refine Fx.L.nil (Fx.seqN (Fx.W.cond (b := false) rfl (fun h => nomatch h) (fun _ => Fx.W.skip (Fx.blkN (Fx.seqN (Fx.W.seq (Fx.W.list (Fx.L.v (.pointer (some ⟨g1, 8, none⟩)) (Fx.x_field rfl rfl Try.underlying54 rfl (s := 1) (by kernel_rfl) rfl (by show _ + 8 = _; omega)) ?_))))))))
           refine Fx.L.v (.int .u8 (v.kind)) (Fx.x_load1 (x := evY v) rfl rfl (by kernel_rfl) m1.cel (i := 8) (by omega) (by omega) rfl) ?_
           by_cases c74 : v.kind = 7
           ·refine Fx.L.v (.bool true) (Fx.x_eqlT rfl rfl rfl c74) ?_
            refine Fx.L.v (.bool true) (Fx.x_assign rfl rfl) ?_
            refine Fx.L.nil (Fx.seqN (Fx.W.ret (⟨.bool true, Fx.retV1 Try.results119 (by exact rfl), ?_⟩)))
            refine ⟨congrArg (fun q => Ending.returned (Value.bool q)) (Eq.symm ?_), b1⟩
            unfold fieldsE; rw [if_neg c26, if_neg c36, if_neg c39, if_neg c47, if_neg c64, if_neg c70]; try simp only [someE, otherE]
            first | (simp [c7, c11, c15, c21, c74]; done) | (simp [c7, c11, c15, c21, c74]; omega)
           ·refine Fx.L.v (.bool false) (Fx.x_eqlF rfl rfl rfl c74) ?_
            refine Fx.L.v (.bool false) (Fx.x_assign rfl rfl) ?_
            refine Fx.L.nil (Fx.seqN (Fx.W.ret (⟨.bool false, Fx.retV1 Try.results119 (by exact rfl), ?_⟩)))
            refine ⟨congrArg (fun q => Ending.returned (Value.bool q)) (Eq.symm ?_), b1⟩
            unfold fieldsE; rw [if_neg c26, if_neg c36, if_neg c39, if_neg c47, if_neg c64, if_neg c70]; try simp only [someE, otherE]
            first | (simp [c7, c11, c15, c21, c74]; done) | (simp [c7, c11, c15, c21, c74]; omega)
   ·rw [Bool.not_eq_true] at c15
    refine Fx.L.call (by rfl) (Fx.r_call (args := [.int .i64 (v.dst)]) rfl rfl Try.func117 rfl rfl) rfl ((e_region v.dst _).mono ?_)
    rintro e v1 ⟨he, hv1⟩
    subst v1
    refine ⟨.bool false, by rw [he, c15], ?_⟩
    clear he
    refine Fx.L.v (.bool false) (Fx.x_move rfl rfl) ?_
    refine Fx.L.skip (by rfl) rfl ?_
    refine Fx.L.skip (by rfl) rfl ?_
    refine Fx.L.skip (by rfl) rfl ?_
    refine Fx.L.skip (by rfl) rfl ?_
    refine Fx.L.skip (by rfl) rfl ?_
    refine Fx.L.v (.bool false) (Fx.x_pickF rfl rfl rfl) ?_
    refine Fx.L.v (.bool false) (Fx.x_assign rfl rfl) ?_
    refine Fx.L.nil (Fx.seqN (Fx.W.seq (Fx.W.seq (Fx.W.list (Fx.L.v (.pointer (some ⟨g1, 8, none⟩)) (Fx.x_field rfl rfl Try.underlying54 rfl (s := 1) (by kernel_rfl) rfl (by show _ + 8 = _; omega)) ?_)))))
    refine Fx.L.v (.int .u8 (v.kind)) (Fx.x_load1 (x := evY v) rfl rfl (by kernel_rfl) m1.cel (i := 8) (by omega) (by omega) rfl) ?_
    refine Fx.L.nil (Fx.seqN (Fx.W.block (Fx.W.seq (Fx.W.list ?_))))
    by_cases c26 : v.kind = 1
    ·refine Fx.L.v (.bool true) (Fx.x_eqlT rfl rfl rfl c26) ?_
     refine Fx.L.v (.bool true) (Fx.x_assign rfl rfl) ?_
     refine Fx.L.nil (Fx.seqN (Fx.W.cond (b := true) rfl (fun _ => Fx.W.seq (Fx.W.list (Fx.L.v (.pointer (some ⟨g1, 11, none⟩)) (Fx.x_field rfl rfl Try.underlying54 rfl (s := 1) (by kernel_rfl) rfl (by show _ + 11 = _; omega)) ?_))) (fun h => nomatch h)))
     refine Fx.L.v (.int .i64 (v.amt)) (Fx.x_load1 (x := evY v) rfl rfl (by kernel_rfl) m1.cel (i := 11) (by omega) (by omega) rfl) ?_
     by_cases c29 : 0 ≤ v.amt
     ·refine Fx.L.v (.bool true) (Fx.x_geqT rfl rfl rfl c29) ?_
      refine Fx.L.v (.bool true) (Fx.x_move rfl rfl) ?_
      refine Fx.L.v (.pointer (some ⟨g1, 11, none⟩)) (Fx.x_field rfl rfl Try.underlying54 rfl (s := 1) (by kernel_rfl) rfl (by show _ + 11 = _; omega)) ?_
      refine Fx.L.v (.int .i64 (v.amt)) (Fx.x_load1 (x := evY v) rfl rfl (by kernel_rfl) m1.cel (i := 11) (by omega) (by omega) rfl) ?_
      by_cases c33 : v.amt ≤ 1125899906842624
      ·refine Fx.L.v (.bool true) (Fx.x_leqT rfl rfl rfl c33) ?_
       refine Fx.L.v (.bool true) (Fx.x_pickT rfl rfl rfl) ?_
       refine Fx.L.v (.bool true) (Fx.x_assign rfl rfl) ?_
       refine Fx.L.nil (Fx.seqN (Fx.W.ret (Fx.blkR (Fx.seqR (⟨.bool true, Fx.retV1 Try.results119 (by exact rfl), ?_⟩)))))
       refine ⟨congrArg (fun q => Ending.returned (Value.bool q)) (Eq.symm ?_), b1⟩
       unfold fieldsE; rw [if_pos c26]; try simp only [someE, otherE]
       first | (simp [c7, c11, c15, c29, c33]; done) | (simp [c7, c11, c15, c29, c33]; omega)
      ·refine Fx.L.v (.bool false) (Fx.x_leqF rfl rfl rfl c33) ?_
       refine Fx.L.v (.bool false) (Fx.x_pickT rfl rfl rfl) ?_
       refine Fx.L.v (.bool false) (Fx.x_assign rfl rfl) ?_
       refine Fx.L.nil (Fx.seqN (Fx.W.ret (Fx.blkR (Fx.seqR (⟨.bool false, Fx.retV1 Try.results119 (by exact rfl), ?_⟩)))))
       refine ⟨congrArg (fun q => Ending.returned (Value.bool q)) (Eq.symm ?_), b1⟩
       unfold fieldsE; rw [if_pos c26]; try simp only [someE, otherE]
       first | (simp [c7, c11, c15, c29, c33]; done) | (simp [c7, c11, c15, c29, c33]; omega)
     ·refine Fx.L.v (.bool false) (Fx.x_geqF rfl rfl rfl c29) ?_
      refine Fx.L.v (.bool false) (Fx.x_move rfl rfl) ?_
      refine Fx.L.skip (by rfl) rfl ?_
      refine Fx.L.skip (by rfl) rfl ?_
      refine Fx.L.skip (by rfl) rfl ?_
      refine Fx.L.v (.bool false) (Fx.x_pickF rfl rfl rfl) ?_
      refine Fx.L.v (.bool false) (Fx.x_assign rfl rfl) ?_
      refine Fx.L.nil (Fx.seqN (Fx.W.ret (Fx.blkR (Fx.seqR (⟨.bool false, Fx.retV1 Try.results119 (by exact rfl), ?_⟩)))))
      refine ⟨congrArg (fun q => Ending.returned (Value.bool q)) (Eq.symm ?_), b1⟩
      unfold fieldsE; rw [if_pos c26]; try simp only [someE, otherE]
      first | (simp [c7, c11, c15, c29]; done) | (simp [c7, c11, c15, c29]; omega)
    ·refine Fx.L.v (.bool false) (Fx.x_eqlF rfl rfl rfl c26) ?_
     refine Fx.L.v (.bool false) (Fx.x_assign rfl rfl) ?_
     refine Fx.L.nil (Fx.seqN (Fx.W.cond (b := false) rfl (fun h => nomatch h) (fun _ => Fx.W.seq (Fx.W.list ?_))))
     by_cases c36 : v.kind = 2
     ·refine Fx.L.v (.bool true) (Fx.x_eqlT rfl rfl rfl c36) ?_
      refine Fx.L.v (.bool true) (Fx.x_assign rfl rfl) ?_
      refine Fx.L.nil (Fx.seqN (Fx.W.cond (b := true) rfl (fun _ => Fx.W.seq (Fx.W.list (Fx.L.v (.bool false) (Fx.x_move rfl rfl) ?_))) (fun h => nomatch h)))
      refine Fx.L.v (.bool false) (Fx.x_assign rfl rfl) ?_
      refine Fx.L.nil (Fx.seqN (Fx.W.ret (Fx.blkR (Fx.seqR (⟨.bool false, Fx.retV1 Try.results119 (by exact rfl), ?_⟩)))))
      refine ⟨congrArg (fun q => Ending.returned (Value.bool q)) (Eq.symm ?_), b1⟩
      unfold fieldsE; rw [if_neg c26, if_pos c36]; try simp only [someE, otherE]
      first | (simp [c7, c11, c15]; done) | (simp [c7, c11, c15]; omega)
     ·refine Fx.L.v (.bool false) (Fx.x_eqlF rfl rfl rfl c36) ?_
      refine Fx.L.v (.bool false) (Fx.x_assign rfl rfl) ?_
      refine Fx.L.nil (Fx.seqN (Fx.W.cond (b := false) rfl (fun h => nomatch h) (fun _ => Fx.W.seq (Fx.W.list ?_))))
      by_cases c39 : v.kind = 3
      ·refine Fx.L.v (.bool true) (Fx.x_eqlT rfl rfl rfl c39) ?_
       refine Fx.L.v (.bool true) (Fx.x_assign rfl rfl) ?_
       refine Fx.L.nil (Fx.seqN (Fx.W.cond (b := true) rfl (fun _ => Fx.W.seq (Fx.W.list (Fx.L.v (.bool false) (Fx.x_move rfl rfl) ?_))) (fun h => nomatch h)))
       refine Fx.L.v (.bool false) (Fx.x_move rfl rfl) ?_
       refine Fx.L.skip (by rfl) rfl ?_
       refine Fx.L.skip (by rfl) rfl ?_
       refine Fx.L.skip (by rfl) rfl ?_
       refine Fx.L.v (.bool false) (Fx.x_pickF rfl rfl rfl) ?_
       refine Fx.L.v (.bool false) (Fx.x_assign rfl rfl) ?_
       refine Fx.L.nil (Fx.seqN (Fx.W.ret (Fx.blkR (Fx.seqR (⟨.bool false, Fx.retV1 Try.results119 (by exact rfl), ?_⟩)))))
       refine ⟨congrArg (fun q => Ending.returned (Value.bool q)) (Eq.symm ?_), b1⟩
       unfold fieldsE; rw [if_neg c26, if_neg c36, if_pos c39]; try simp only [someE, otherE]
       first | (simp [c7, c11, c15]; done) | (simp [c7, c11, c15]; omega)
      ·refine Fx.L.v (.bool false) (Fx.x_eqlF rfl rfl rfl c39) ?_
       refine Fx.L.v (.bool false) (Fx.x_assign rfl rfl) ?_
       refine Fx.L.nil (Fx.seqN (Fx.W.cond (b := false) rfl (fun h => nomatch h) (fun _ => Fx.W.seq (Fx.W.list ?_))))
       by_cases c47 : v.kind = 4
       ·refine Fx.L.v (.bool true) (Fx.x_eqlT rfl rfl rfl c47) ?_
        refine Fx.L.v (.bool true) (Fx.x_assign rfl rfl) ?_
        refine Fx.L.nil (Fx.seqN (Fx.W.cond (b := true) rfl (fun _ => Fx.W.seq (Fx.W.list (Fx.L.v (.pointer (some ⟨g1, 12, none⟩)) (Fx.x_field rfl rfl Try.underlying54 rfl (s := 1) (by kernel_rfl) rfl (by show _ + 12 = _; omega)) ?_))) (fun h => nomatch h)))
        refine Fx.L.v (.int .u64 (v.req)) (Fx.x_load1 (x := evY v) rfl rfl (by kernel_rfl) m1.cel (i := 12) (by omega) (by omega) rfl) ?_
        by_cases c50 : 1 ≤ v.req
        ·refine Fx.L.v (.bool true) (Fx.x_geqT rfl rfl rfl c50) ?_
         refine Fx.L.v (.bool true) (Fx.x_move rfl rfl) ?_
         refine Fx.L.v (.pointer (some ⟨g1, 13, none⟩)) (Fx.x_field rfl rfl Try.underlying54 rfl (s := 1) (by kernel_rfl) rfl (by show _ + 13 = _; omega)) ?_
         refine Fx.L.v (.int .u64 (v.of)) (Fx.x_load1 (x := evY v) rfl rfl (by kernel_rfl) m1.cel (i := 13) (by omega) (by omega) rfl) ?_
         by_cases c54 : 1 ≤ v.of
         ·refine Fx.L.v (.bool true) (Fx.x_geqT rfl rfl rfl c54) ?_
          refine Fx.L.v (.bool true) (Fx.x_pickT rfl rfl rfl) ?_
          refine Fx.L.v (.bool true) (Fx.x_move rfl rfl) ?_
          refine Fx.L.v (.pointer (some ⟨g1, 12, none⟩)) (Fx.x_field rfl rfl Try.underlying54 rfl (s := 1) (by kernel_rfl) rfl (by show _ + 12 = _; omega)) ?_
          refine Fx.L.v (.int .u64 (v.req)) (Fx.x_load1 (x := evY v) rfl rfl (by kernel_rfl) m1.cel (i := 12) (by omega) (by omega) rfl) ?_
          refine Fx.L.v (.pointer (some ⟨g1, 13, none⟩)) (Fx.x_field rfl rfl Try.underlying54 rfl (s := 1) (by kernel_rfl) rfl (by show _ + 13 = _; omega)) ?_
          refine Fx.L.v (.int .u64 (v.of)) (Fx.x_load1 (x := evY v) rfl rfl (by kernel_rfl) m1.cel (i := 13) (by omega) (by omega) rfl) ?_
          by_cases c61 : v.req = v.of
          ·refine Fx.L.v (.bool false) (Fx.x_neqF rfl rfl rfl c61) ?_
           refine Fx.L.v (.bool false) (Fx.x_pickT rfl rfl rfl) ?_
           refine Fx.L.v (.bool false) (Fx.x_assign rfl rfl) ?_
           refine Fx.L.nil (Fx.seqN (Fx.W.ret (Fx.blkR (Fx.seqR (⟨.bool false, Fx.retV1 Try.results119 (by exact rfl), ?_⟩)))))
           refine ⟨congrArg (fun q => Ending.returned (Value.bool q)) (Eq.symm ?_), b1⟩
           unfold fieldsE; rw [if_neg c26, if_neg c36, if_neg c39, if_pos c47]; try simp only [someE, otherE]
           first | (simp [c7, c11, c15, c50, c54, c61]; done) | (simp [c7, c11, c15, c50, c54, c61]; omega)
          ·refine Fx.L.v (.bool true) (Fx.x_neqT rfl rfl rfl c61) ?_
           refine Fx.L.v (.bool true) (Fx.x_pickT rfl rfl rfl) ?_
           refine Fx.L.v (.bool true) (Fx.x_assign rfl rfl) ?_
           refine Fx.L.nil (Fx.seqN (Fx.W.ret (Fx.blkR (Fx.seqR (⟨.bool true, Fx.retV1 Try.results119 (by exact rfl), ?_⟩)))))
           refine ⟨congrArg (fun q => Ending.returned (Value.bool q)) (Eq.symm ?_), b1⟩
           unfold fieldsE; rw [if_neg c26, if_neg c36, if_neg c39, if_pos c47]; try simp only [someE, otherE]
           first | (simp [c7, c11, c15, c50, c54, c61]; done) | (simp [c7, c11, c15, c50, c54, c61]; omega)
         ·refine Fx.L.v (.bool false) (Fx.x_geqF rfl rfl rfl c54) ?_
          refine Fx.L.v (.bool false) (Fx.x_pickT rfl rfl rfl) ?_
          refine Fx.L.v (.bool false) (Fx.x_move rfl rfl) ?_
          refine Fx.L.skip (by rfl) rfl ?_
          refine Fx.L.skip (by rfl) rfl ?_
          refine Fx.L.skip (by rfl) rfl ?_
          refine Fx.L.skip (by rfl) rfl ?_
          refine Fx.L.skip (by rfl) rfl ?_
          refine Fx.L.v (.bool false) (Fx.x_pickF rfl rfl rfl) ?_
          refine Fx.L.v (.bool false) (Fx.x_assign rfl rfl) ?_
          refine Fx.L.nil (Fx.seqN (Fx.W.ret (Fx.blkR (Fx.seqR (⟨.bool false, Fx.retV1 Try.results119 (by exact rfl), ?_⟩)))))
          refine ⟨congrArg (fun q => Ending.returned (Value.bool q)) (Eq.symm ?_), b1⟩
          unfold fieldsE; rw [if_neg c26, if_neg c36, if_neg c39, if_pos c47]; try simp only [someE, otherE]
          first | (simp [c7, c11, c15, c50, c54]; done) | (simp [c7, c11, c15, c50, c54]; omega)
        ·refine Fx.L.v (.bool false) (Fx.x_geqF rfl rfl rfl c50) ?_
         refine Fx.L.v (.bool false) (Fx.x_move rfl rfl) ?_
         refine Fx.L.skip (by rfl) rfl ?_
         refine Fx.L.skip (by rfl) rfl ?_
         refine Fx.L.skip (by rfl) rfl ?_
         refine Fx.L.v (.bool false) (Fx.x_pickF rfl rfl rfl) ?_
         refine Fx.L.v (.bool false) (Fx.x_move rfl rfl) ?_
         refine Fx.L.skip (by rfl) rfl ?_
         refine Fx.L.skip (by rfl) rfl ?_
         refine Fx.L.skip (by rfl) rfl ?_
         refine Fx.L.skip (by rfl) rfl ?_
         refine Fx.L.skip (by rfl) rfl ?_
         refine Fx.L.v (.bool false) (Fx.x_pickF rfl rfl rfl) ?_
         refine Fx.L.v (.bool false) (Fx.x_assign rfl rfl) ?_
         refine Fx.L.nil (Fx.seqN (Fx.W.ret (Fx.blkR (Fx.seqR (⟨.bool false, Fx.retV1 Try.results119 (by exact rfl), ?_⟩)))))
         refine ⟨congrArg (fun q => Ending.returned (Value.bool q)) (Eq.symm ?_), b1⟩
         unfold fieldsE; rw [if_neg c26, if_neg c36, if_neg c39, if_pos c47]; try simp only [someE, otherE]
         first | (simp [c7, c11, c15, c50]; done) | (simp [c7, c11, c15, c50]; omega)
       ·refine Fx.L.v (.bool false) (Fx.x_eqlF rfl rfl rfl c47) ?_
        refine Fx.L.v (.bool false) (Fx.x_assign rfl rfl) ?_
        refine Fx.L.nil (Fx.seqN (Fx.W.cond (b := false) rfl (fun h => nomatch h) (fun _ => Fx.W.seq (Fx.W.list ?_))))
        by_cases c64 : v.kind = 5
        ·refine Fx.L.v (.bool true) (Fx.x_eqlT rfl rfl rfl c64) ?_
         refine Fx.L.v (.bool true) (Fx.x_assign rfl rfl) ?_
         refine Fx.L.nil (Fx.seqN (Fx.W.cond (b := true) rfl (fun _ => Fx.W.seq (Fx.W.list (Fx.L.v (.bool false) (Fx.x_move rfl rfl) ?_))) (fun h => nomatch h)))
         refine Fx.L.v (.bool false) (Fx.x_move rfl rfl) ?_
         refine Fx.L.skip (by rfl) rfl ?_
         refine Fx.L.v (.bool false) (Fx.x_pickF rfl rfl rfl) ?_
         refine Fx.L.v (.bool false) (Fx.x_assign rfl rfl) ?_
         refine Fx.L.nil (Fx.seqN (Fx.W.ret (Fx.blkR (Fx.seqR (⟨.bool false, Fx.retV1 Try.results119 (by exact rfl), ?_⟩)))))
         refine ⟨congrArg (fun q => Ending.returned (Value.bool q)) (Eq.symm ?_), b1⟩
         unfold fieldsE; rw [if_neg c26, if_neg c36, if_neg c39, if_neg c47, if_pos c64]; try simp only [someE, otherE]
         first | (simp [c7, c11, c15]; done) | (simp [c7, c11, c15]; omega)
        ·refine Fx.L.v (.bool false) (Fx.x_eqlF rfl rfl rfl c64) ?_
         refine Fx.L.v (.bool false) (Fx.x_assign rfl rfl) ?_
         refine Fx.L.nil (Fx.seqN (Fx.W.cond (b := false) rfl (fun h => nomatch h) (fun _ => Fx.W.seq (Fx.W.list ?_))))
         by_cases c70 : v.kind = 6
         ·refine Fx.L.v (.bool true) (Fx.x_eqlT rfl rfl rfl c70) ?_
          refine Fx.L.v (.bool true) (Fx.x_assign rfl rfl) ?_
          refine Fx.L.nil (Fx.seqN (Fx.W.cond (b := true) rfl (fun _ => Fx.W.seq (Fx.W.list (Fx.L.v (.bool false) (Fx.x_move rfl rfl) ?_))) (fun h => nomatch h)))
          refine Fx.L.v (.bool false) (Fx.x_assign rfl rfl) ?_
          refine Fx.L.nil (Fx.seqN (Fx.W.ret (Fx.blkR (Fx.seqR (⟨.bool false, Fx.retV1 Try.results119 (by exact rfl), ?_⟩)))))
          refine ⟨congrArg (fun q => Ending.returned (Value.bool q)) (Eq.symm ?_), b1⟩
          unfold fieldsE; rw [if_neg c26, if_neg c36, if_neg c39, if_neg c47, if_neg c64, if_pos c70]; try simp only [someE, otherE]
          first | (simp [c7, c11, c15]; done) | (simp [c7, c11, c15]; omega)
         ·refine Fx.L.v (.bool false) (Fx.x_eqlF rfl rfl rfl c70) ?_
          refine Fx.L.v (.bool false) (Fx.x_assign rfl rfl) ?_
          refine Fx.L.nil (Fx.seqN (Fx.W.cond (b := false) rfl (fun h => nomatch h) (fun _ => Fx.W.skip (Fx.blkN (Fx.seqN (Fx.W.seq (Fx.W.list (Fx.L.v (.pointer (some ⟨g1, 8, none⟩)) (Fx.x_field rfl rfl Try.underlying54 rfl (s := 1) (by kernel_rfl) rfl (by show _ + 8 = _; omega)) ?_))))))))
          refine Fx.L.v (.int .u8 (v.kind)) (Fx.x_load1 (x := evY v) rfl rfl (by kernel_rfl) m1.cel (i := 8) (by omega) (by omega) rfl) ?_
          by_cases c74 : v.kind = 7
          ·refine Fx.L.v (.bool true) (Fx.x_eqlT rfl rfl rfl c74) ?_
           refine Fx.L.v (.bool true) (Fx.x_assign rfl rfl) ?_
           refine Fx.L.nil (Fx.seqN (Fx.W.ret (⟨.bool true, Fx.retV1 Try.results119 (by exact rfl), ?_⟩)))
           refine ⟨congrArg (fun q => Ending.returned (Value.bool q)) (Eq.symm ?_), b1⟩
           unfold fieldsE; rw [if_neg c26, if_neg c36, if_neg c39, if_neg c47, if_neg c64, if_neg c70]; try simp only [someE, otherE]
           first | (simp [c7, c11, c15, c74]; done) | (simp [c7, c11, c15, c74]; omega)
          ·refine Fx.L.v (.bool false) (Fx.x_eqlF rfl rfl rfl c74) ?_
           refine Fx.L.v (.bool false) (Fx.x_assign rfl rfl) ?_
           refine Fx.L.nil (Fx.seqN (Fx.W.ret (⟨.bool false, Fx.retV1 Try.results119 (by exact rfl), ?_⟩)))
           refine ⟨congrArg (fun q => Ending.returned (Value.bool q)) (Eq.symm ?_), b1⟩
           unfold fieldsE; rw [if_neg c26, if_neg c36, if_neg c39, if_neg c47, if_neg c64, if_neg c70]; try simp only [someE, otherE]
           first | (simp [c7, c11, c15, c74]; done) | (simp [c7, c11, c15, c74]; omega)
 ·refine Fx.L.v (.bool false) (Fx.x_geqF rfl rfl rfl c7) ?_
  refine Fx.L.v (.bool false) (Fx.x_move rfl rfl) ?_
  refine Fx.L.skip (by rfl) rfl ?_
  refine Fx.L.skip (by rfl) rfl ?_
  refine Fx.L.skip (by rfl) rfl ?_
  refine Fx.L.v (.bool false) (Fx.x_pickF rfl rfl rfl) ?_
  refine Fx.L.v (.bool false) (Fx.x_assign rfl rfl) ?_
  refine Fx.L.nil (Fx.seqN (Fx.W.seq (Fx.W.list (Fx.L.v (.pointer (some ⟨g1, 10, none⟩)) (Fx.x_field rfl rfl Try.underlying54 rfl (s := 1) (by kernel_rfl) rfl (by show _ + 10 = _; omega)) ?_))))
  refine Fx.L.v (.int .i64 (v.dst)) (Fx.x_load1 (x := evY v) rfl rfl (by kernel_rfl) m1.cel (i := 10) (by omega) (by omega) rfl) ?_
  by_cases c15 : (regE v.dst) = true
  ·refine Fx.L.call (by rfl) (Fx.r_call (args := [.int .i64 (v.dst)]) rfl rfl Try.func117 rfl rfl) rfl ((e_region v.dst _).mono ?_)
   rintro e v1 ⟨he, hv1⟩
   subst v1
   refine ⟨.bool true, by rw [he, c15], ?_⟩
   clear he
   refine Fx.L.v (.bool true) (Fx.x_move rfl rfl) ?_
   refine Fx.L.v (.pointer (some ⟨g1, 10, none⟩)) (Fx.x_field rfl rfl Try.underlying54 rfl (s := 1) (by kernel_rfl) rfl (by show _ + 10 = _; omega)) ?_
   refine Fx.L.v (.int .i64 (v.dst)) (Fx.x_load1 (x := evY v) rfl rfl (by kernel_rfl) m1.cel (i := 10) (by omega) (by omega) rfl) ?_
   refine Fx.L.v (.pointer (some ⟨g1, 0, none⟩)) (Fx.x_field rfl rfl Try.underlying54 rfl (s := 1) (by kernel_rfl) rfl rfl) ?_
   refine Fx.L.v (.int .i64 (v.o)) (Fx.x_load1 (x := evY v) rfl rfl (by kernel_rfl) m1.cel (i := 0) (by omega) (by omega) rfl) ?_
   by_cases c21 : v.dst = v.o
   ·refine Fx.L.v (.bool false) (Fx.x_neqF rfl rfl rfl c21) ?_
    refine Fx.L.v (.bool false) (Fx.x_pickT rfl rfl rfl) ?_
    refine Fx.L.v (.bool false) (Fx.x_assign rfl rfl) ?_
    refine Fx.L.nil (Fx.seqN (Fx.W.seq (Fx.W.seq (Fx.W.list (Fx.L.v (.pointer (some ⟨g1, 8, none⟩)) (Fx.x_field rfl rfl Try.underlying54 rfl (s := 1) (by kernel_rfl) rfl (by show _ + 8 = _; omega)) ?_)))))
    refine Fx.L.v (.int .u8 (v.kind)) (Fx.x_load1 (x := evY v) rfl rfl (by kernel_rfl) m1.cel (i := 8) (by omega) (by omega) rfl) ?_
    refine Fx.L.nil (Fx.seqN (Fx.W.block (Fx.W.seq (Fx.W.list ?_))))
    by_cases c26 : v.kind = 1
    ·refine Fx.L.v (.bool true) (Fx.x_eqlT rfl rfl rfl c26) ?_
     refine Fx.L.v (.bool true) (Fx.x_assign rfl rfl) ?_
     refine Fx.L.nil (Fx.seqN (Fx.W.cond (b := true) rfl (fun _ => Fx.W.seq (Fx.W.list (Fx.L.v (.pointer (some ⟨g1, 11, none⟩)) (Fx.x_field rfl rfl Try.underlying54 rfl (s := 1) (by kernel_rfl) rfl (by show _ + 11 = _; omega)) ?_))) (fun h => nomatch h)))
     refine Fx.L.v (.int .i64 (v.amt)) (Fx.x_load1 (x := evY v) rfl rfl (by kernel_rfl) m1.cel (i := 11) (by omega) (by omega) rfl) ?_
     by_cases c29 : 0 ≤ v.amt
     ·refine Fx.L.v (.bool true) (Fx.x_geqT rfl rfl rfl c29) ?_
      refine Fx.L.v (.bool true) (Fx.x_move rfl rfl) ?_
      refine Fx.L.v (.pointer (some ⟨g1, 11, none⟩)) (Fx.x_field rfl rfl Try.underlying54 rfl (s := 1) (by kernel_rfl) rfl (by show _ + 11 = _; omega)) ?_
      refine Fx.L.v (.int .i64 (v.amt)) (Fx.x_load1 (x := evY v) rfl rfl (by kernel_rfl) m1.cel (i := 11) (by omega) (by omega) rfl) ?_
      by_cases c33 : v.amt ≤ 1125899906842624
      ·refine Fx.L.v (.bool true) (Fx.x_leqT rfl rfl rfl c33) ?_
       refine Fx.L.v (.bool true) (Fx.x_pickT rfl rfl rfl) ?_
       refine Fx.L.v (.bool true) (Fx.x_assign rfl rfl) ?_
       refine Fx.L.nil (Fx.seqN (Fx.W.ret (Fx.blkR (Fx.seqR (⟨.bool true, Fx.retV1 Try.results119 (by exact rfl), ?_⟩)))))
       refine ⟨congrArg (fun q => Ending.returned (Value.bool q)) (Eq.symm ?_), b1⟩
       unfold fieldsE; rw [if_pos c26]; try simp only [someE, otherE]
       first | (simp [c7, c15, c21, c29, c33]; done) | (simp [c7, c15, c21, c29, c33]; omega)
      ·refine Fx.L.v (.bool false) (Fx.x_leqF rfl rfl rfl c33) ?_
       refine Fx.L.v (.bool false) (Fx.x_pickT rfl rfl rfl) ?_
       refine Fx.L.v (.bool false) (Fx.x_assign rfl rfl) ?_
       refine Fx.L.nil (Fx.seqN (Fx.W.ret (Fx.blkR (Fx.seqR (⟨.bool false, Fx.retV1 Try.results119 (by exact rfl), ?_⟩)))))
       refine ⟨congrArg (fun q => Ending.returned (Value.bool q)) (Eq.symm ?_), b1⟩
       unfold fieldsE; rw [if_pos c26]; try simp only [someE, otherE]
       first | (simp [c7, c15, c21, c29, c33]; done) | (simp [c7, c15, c21, c29, c33]; omega)
     ·refine Fx.L.v (.bool false) (Fx.x_geqF rfl rfl rfl c29) ?_
      refine Fx.L.v (.bool false) (Fx.x_move rfl rfl) ?_
      refine Fx.L.skip (by rfl) rfl ?_
      refine Fx.L.skip (by rfl) rfl ?_
      refine Fx.L.skip (by rfl) rfl ?_
      refine Fx.L.v (.bool false) (Fx.x_pickF rfl rfl rfl) ?_
      refine Fx.L.v (.bool false) (Fx.x_assign rfl rfl) ?_
      refine Fx.L.nil (Fx.seqN (Fx.W.ret (Fx.blkR (Fx.seqR (⟨.bool false, Fx.retV1 Try.results119 (by exact rfl), ?_⟩)))))
      refine ⟨congrArg (fun q => Ending.returned (Value.bool q)) (Eq.symm ?_), b1⟩
      unfold fieldsE; rw [if_pos c26]; try simp only [someE, otherE]
      first | (simp [c7, c15, c21, c29]; done) | (simp [c7, c15, c21, c29]; omega)
    ·refine Fx.L.v (.bool false) (Fx.x_eqlF rfl rfl rfl c26) ?_
     refine Fx.L.v (.bool false) (Fx.x_assign rfl rfl) ?_
     refine Fx.L.nil (Fx.seqN (Fx.W.cond (b := false) rfl (fun h => nomatch h) (fun _ => Fx.W.seq (Fx.W.list ?_))))
     by_cases c36 : v.kind = 2
     ·refine Fx.L.v (.bool true) (Fx.x_eqlT rfl rfl rfl c36) ?_
      refine Fx.L.v (.bool true) (Fx.x_assign rfl rfl) ?_
      refine Fx.L.nil (Fx.seqN (Fx.W.cond (b := true) rfl (fun _ => Fx.W.seq (Fx.W.list (Fx.L.v (.bool false) (Fx.x_move rfl rfl) ?_))) (fun h => nomatch h)))
      refine Fx.L.v (.bool false) (Fx.x_assign rfl rfl) ?_
      refine Fx.L.nil (Fx.seqN (Fx.W.ret (Fx.blkR (Fx.seqR (⟨.bool false, Fx.retV1 Try.results119 (by exact rfl), ?_⟩)))))
      refine ⟨congrArg (fun q => Ending.returned (Value.bool q)) (Eq.symm ?_), b1⟩
      unfold fieldsE; rw [if_neg c26, if_pos c36]; try simp only [someE, otherE]
      first | (simp [c7, c15, c21]; done) | (simp [c7, c15, c21]; omega)
     ·refine Fx.L.v (.bool false) (Fx.x_eqlF rfl rfl rfl c36) ?_
      refine Fx.L.v (.bool false) (Fx.x_assign rfl rfl) ?_
      refine Fx.L.nil (Fx.seqN (Fx.W.cond (b := false) rfl (fun h => nomatch h) (fun _ => Fx.W.seq (Fx.W.list ?_))))
      by_cases c39 : v.kind = 3
      ·refine Fx.L.v (.bool true) (Fx.x_eqlT rfl rfl rfl c39) ?_
       refine Fx.L.v (.bool true) (Fx.x_assign rfl rfl) ?_
       refine Fx.L.nil (Fx.seqN (Fx.W.cond (b := true) rfl (fun _ => Fx.W.seq (Fx.W.list (Fx.L.v (.bool false) (Fx.x_move rfl rfl) ?_))) (fun h => nomatch h)))
       refine Fx.L.v (.bool false) (Fx.x_move rfl rfl) ?_
       refine Fx.L.skip (by rfl) rfl ?_
       refine Fx.L.skip (by rfl) rfl ?_
       refine Fx.L.skip (by rfl) rfl ?_
       refine Fx.L.v (.bool false) (Fx.x_pickF rfl rfl rfl) ?_
       refine Fx.L.v (.bool false) (Fx.x_assign rfl rfl) ?_
       refine Fx.L.nil (Fx.seqN (Fx.W.ret (Fx.blkR (Fx.seqR (⟨.bool false, Fx.retV1 Try.results119 (by exact rfl), ?_⟩)))))
       refine ⟨congrArg (fun q => Ending.returned (Value.bool q)) (Eq.symm ?_), b1⟩
       unfold fieldsE; rw [if_neg c26, if_neg c36, if_pos c39]; try simp only [someE, otherE]
       first | (simp [c7, c15, c21]; done) | (simp [c7, c15, c21]; omega)
      ·refine Fx.L.v (.bool false) (Fx.x_eqlF rfl rfl rfl c39) ?_
       refine Fx.L.v (.bool false) (Fx.x_assign rfl rfl) ?_
       refine Fx.L.nil (Fx.seqN (Fx.W.cond (b := false) rfl (fun h => nomatch h) (fun _ => Fx.W.seq (Fx.W.list ?_))))
       by_cases c47 : v.kind = 4
       ·refine Fx.L.v (.bool true) (Fx.x_eqlT rfl rfl rfl c47) ?_
        refine Fx.L.v (.bool true) (Fx.x_assign rfl rfl) ?_
        refine Fx.L.nil (Fx.seqN (Fx.W.cond (b := true) rfl (fun _ => Fx.W.seq (Fx.W.list (Fx.L.v (.pointer (some ⟨g1, 12, none⟩)) (Fx.x_field rfl rfl Try.underlying54 rfl (s := 1) (by kernel_rfl) rfl (by show _ + 12 = _; omega)) ?_))) (fun h => nomatch h)))
        refine Fx.L.v (.int .u64 (v.req)) (Fx.x_load1 (x := evY v) rfl rfl (by kernel_rfl) m1.cel (i := 12) (by omega) (by omega) rfl) ?_
        by_cases c50 : 1 ≤ v.req
        ·refine Fx.L.v (.bool true) (Fx.x_geqT rfl rfl rfl c50) ?_
         refine Fx.L.v (.bool true) (Fx.x_move rfl rfl) ?_
         refine Fx.L.v (.pointer (some ⟨g1, 13, none⟩)) (Fx.x_field rfl rfl Try.underlying54 rfl (s := 1) (by kernel_rfl) rfl (by show _ + 13 = _; omega)) ?_
         refine Fx.L.v (.int .u64 (v.of)) (Fx.x_load1 (x := evY v) rfl rfl (by kernel_rfl) m1.cel (i := 13) (by omega) (by omega) rfl) ?_
         by_cases c54 : 1 ≤ v.of
         ·refine Fx.L.v (.bool true) (Fx.x_geqT rfl rfl rfl c54) ?_
          refine Fx.L.v (.bool true) (Fx.x_pickT rfl rfl rfl) ?_
          refine Fx.L.v (.bool true) (Fx.x_move rfl rfl) ?_
          refine Fx.L.v (.pointer (some ⟨g1, 12, none⟩)) (Fx.x_field rfl rfl Try.underlying54 rfl (s := 1) (by kernel_rfl) rfl (by show _ + 12 = _; omega)) ?_
          refine Fx.L.v (.int .u64 (v.req)) (Fx.x_load1 (x := evY v) rfl rfl (by kernel_rfl) m1.cel (i := 12) (by omega) (by omega) rfl) ?_
          refine Fx.L.v (.pointer (some ⟨g1, 13, none⟩)) (Fx.x_field rfl rfl Try.underlying54 rfl (s := 1) (by kernel_rfl) rfl (by show _ + 13 = _; omega)) ?_
          refine Fx.L.v (.int .u64 (v.of)) (Fx.x_load1 (x := evY v) rfl rfl (by kernel_rfl) m1.cel (i := 13) (by omega) (by omega) rfl) ?_
          by_cases c61 : v.req = v.of
          ·refine Fx.L.v (.bool false) (Fx.x_neqF rfl rfl rfl c61) ?_
           refine Fx.L.v (.bool false) (Fx.x_pickT rfl rfl rfl) ?_
           refine Fx.L.v (.bool false) (Fx.x_assign rfl rfl) ?_
           refine Fx.L.nil (Fx.seqN (Fx.W.ret (Fx.blkR (Fx.seqR (⟨.bool false, Fx.retV1 Try.results119 (by exact rfl), ?_⟩)))))
           refine ⟨congrArg (fun q => Ending.returned (Value.bool q)) (Eq.symm ?_), b1⟩
           unfold fieldsE; rw [if_neg c26, if_neg c36, if_neg c39, if_pos c47]; try simp only [someE, otherE]
           first | (simp [c7, c15, c21, c50, c54, c61]; done) | (simp [c7, c15, c21, c50, c54, c61]; omega)
          ·refine Fx.L.v (.bool true) (Fx.x_neqT rfl rfl rfl c61) ?_
           refine Fx.L.v (.bool true) (Fx.x_pickT rfl rfl rfl) ?_
           refine Fx.L.v (.bool true) (Fx.x_assign rfl rfl) ?_
           refine Fx.L.nil (Fx.seqN (Fx.W.ret (Fx.blkR (Fx.seqR (⟨.bool true, Fx.retV1 Try.results119 (by exact rfl), ?_⟩)))))
           refine ⟨congrArg (fun q => Ending.returned (Value.bool q)) (Eq.symm ?_), b1⟩
           unfold fieldsE; rw [if_neg c26, if_neg c36, if_neg c39, if_pos c47]; try simp only [someE, otherE]
           first | (simp [c7, c15, c21, c50, c54, c61]; done) | (simp [c7, c15, c21, c50, c54, c61]; omega)
         ·refine Fx.L.v (.bool false) (Fx.x_geqF rfl rfl rfl c54) ?_
          refine Fx.L.v (.bool false) (Fx.x_pickT rfl rfl rfl) ?_
          refine Fx.L.v (.bool false) (Fx.x_move rfl rfl) ?_
          refine Fx.L.skip (by rfl) rfl ?_
          refine Fx.L.skip (by rfl) rfl ?_
          refine Fx.L.skip (by rfl) rfl ?_
          refine Fx.L.skip (by rfl) rfl ?_
          refine Fx.L.skip (by rfl) rfl ?_
          refine Fx.L.v (.bool false) (Fx.x_pickF rfl rfl rfl) ?_
          refine Fx.L.v (.bool false) (Fx.x_assign rfl rfl) ?_
          refine Fx.L.nil (Fx.seqN (Fx.W.ret (Fx.blkR (Fx.seqR (⟨.bool false, Fx.retV1 Try.results119 (by exact rfl), ?_⟩)))))
          refine ⟨congrArg (fun q => Ending.returned (Value.bool q)) (Eq.symm ?_), b1⟩
          unfold fieldsE; rw [if_neg c26, if_neg c36, if_neg c39, if_pos c47]; try simp only [someE, otherE]
          first | (simp [c7, c15, c21, c50, c54]; done) | (simp [c7, c15, c21, c50, c54]; omega)
        ·refine Fx.L.v (.bool false) (Fx.x_geqF rfl rfl rfl c50) ?_
         refine Fx.L.v (.bool false) (Fx.x_move rfl rfl) ?_
         refine Fx.L.skip (by rfl) rfl ?_
         refine Fx.L.skip (by rfl) rfl ?_
         refine Fx.L.skip (by rfl) rfl ?_
         refine Fx.L.v (.bool false) (Fx.x_pickF rfl rfl rfl) ?_
         refine Fx.L.v (.bool false) (Fx.x_move rfl rfl) ?_
         refine Fx.L.skip (by rfl) rfl ?_
         refine Fx.L.skip (by rfl) rfl ?_
         refine Fx.L.skip (by rfl) rfl ?_
         refine Fx.L.skip (by rfl) rfl ?_
         refine Fx.L.skip (by rfl) rfl ?_
         refine Fx.L.v (.bool false) (Fx.x_pickF rfl rfl rfl) ?_
         refine Fx.L.v (.bool false) (Fx.x_assign rfl rfl) ?_
         refine Fx.L.nil (Fx.seqN (Fx.W.ret (Fx.blkR (Fx.seqR (⟨.bool false, Fx.retV1 Try.results119 (by exact rfl), ?_⟩)))))
         refine ⟨congrArg (fun q => Ending.returned (Value.bool q)) (Eq.symm ?_), b1⟩
         unfold fieldsE; rw [if_neg c26, if_neg c36, if_neg c39, if_pos c47]; try simp only [someE, otherE]
         first | (simp [c7, c15, c21, c50]; done) | (simp [c7, c15, c21, c50]; omega)
       ·refine Fx.L.v (.bool false) (Fx.x_eqlF rfl rfl rfl c47) ?_
        refine Fx.L.v (.bool false) (Fx.x_assign rfl rfl) ?_
        refine Fx.L.nil (Fx.seqN (Fx.W.cond (b := false) rfl (fun h => nomatch h) (fun _ => Fx.W.seq (Fx.W.list ?_))))
        by_cases c64 : v.kind = 5
        ·refine Fx.L.v (.bool true) (Fx.x_eqlT rfl rfl rfl c64) ?_
         refine Fx.L.v (.bool true) (Fx.x_assign rfl rfl) ?_
         refine Fx.L.nil (Fx.seqN (Fx.W.cond (b := true) rfl (fun _ => Fx.W.seq (Fx.W.list (Fx.L.v (.bool false) (Fx.x_move rfl rfl) ?_))) (fun h => nomatch h)))
         refine Fx.L.v (.bool false) (Fx.x_move rfl rfl) ?_
         refine Fx.L.skip (by rfl) rfl ?_
         refine Fx.L.v (.bool false) (Fx.x_pickF rfl rfl rfl) ?_
         refine Fx.L.v (.bool false) (Fx.x_assign rfl rfl) ?_
         refine Fx.L.nil (Fx.seqN (Fx.W.ret (Fx.blkR (Fx.seqR (⟨.bool false, Fx.retV1 Try.results119 (by exact rfl), ?_⟩)))))
         refine ⟨congrArg (fun q => Ending.returned (Value.bool q)) (Eq.symm ?_), b1⟩
         unfold fieldsE; rw [if_neg c26, if_neg c36, if_neg c39, if_neg c47, if_pos c64]; try simp only [someE, otherE]
         first | (simp [c7, c15, c21]; done) | (simp [c7, c15, c21]; omega)
        ·refine Fx.L.v (.bool false) (Fx.x_eqlF rfl rfl rfl c64) ?_
         refine Fx.L.v (.bool false) (Fx.x_assign rfl rfl) ?_
         refine Fx.L.nil (Fx.seqN (Fx.W.cond (b := false) rfl (fun h => nomatch h) (fun _ => Fx.W.seq (Fx.W.list ?_))))
         by_cases c70 : v.kind = 6
         ·refine Fx.L.v (.bool true) (Fx.x_eqlT rfl rfl rfl c70) ?_
          refine Fx.L.v (.bool true) (Fx.x_assign rfl rfl) ?_
          refine Fx.L.nil (Fx.seqN (Fx.W.cond (b := true) rfl (fun _ => Fx.W.seq (Fx.W.list (Fx.L.v (.bool false) (Fx.x_move rfl rfl) ?_))) (fun h => nomatch h)))
          refine Fx.L.v (.bool false) (Fx.x_assign rfl rfl) ?_
          refine Fx.L.nil (Fx.seqN (Fx.W.ret (Fx.blkR (Fx.seqR (⟨.bool false, Fx.retV1 Try.results119 (by exact rfl), ?_⟩)))))
          refine ⟨congrArg (fun q => Ending.returned (Value.bool q)) (Eq.symm ?_), b1⟩
          unfold fieldsE; rw [if_neg c26, if_neg c36, if_neg c39, if_neg c47, if_neg c64, if_pos c70]; try simp only [someE, otherE]
          first | (simp [c7, c15, c21]; done) | (simp [c7, c15, c21]; omega)
         ·refine Fx.L.v (.bool false) (Fx.x_eqlF rfl rfl rfl c70) ?_
          refine Fx.L.v (.bool false) (Fx.x_assign rfl rfl) ?_
          refine Fx.L.nil (Fx.seqN (Fx.W.cond (b := false) rfl (fun h => nomatch h) (fun _ => Fx.W.skip (Fx.blkN (Fx.seqN (Fx.W.seq (Fx.W.list (Fx.L.v (.pointer (some ⟨g1, 8, none⟩)) (Fx.x_field rfl rfl Try.underlying54 rfl (s := 1) (by kernel_rfl) rfl (by show _ + 8 = _; omega)) ?_))))))))
          refine Fx.L.v (.int .u8 (v.kind)) (Fx.x_load1 (x := evY v) rfl rfl (by kernel_rfl) m1.cel (i := 8) (by omega) (by omega) rfl) ?_
          by_cases c74 : v.kind = 7
          ·refine Fx.L.v (.bool true) (Fx.x_eqlT rfl rfl rfl c74) ?_
           refine Fx.L.v (.bool true) (Fx.x_assign rfl rfl) ?_
           refine Fx.L.nil (Fx.seqN (Fx.W.ret (⟨.bool true, Fx.retV1 Try.results119 (by exact rfl), ?_⟩)))
           refine ⟨congrArg (fun q => Ending.returned (Value.bool q)) (Eq.symm ?_), b1⟩
           unfold fieldsE; rw [if_neg c26, if_neg c36, if_neg c39, if_neg c47, if_neg c64, if_neg c70]; try simp only [someE, otherE]
           first | (simp [c7, c15, c21, c74]; done) | (simp [c7, c15, c21, c74]; omega)
          ·refine Fx.L.v (.bool false) (Fx.x_eqlF rfl rfl rfl c74) ?_
           refine Fx.L.v (.bool false) (Fx.x_assign rfl rfl) ?_
           refine Fx.L.nil (Fx.seqN (Fx.W.ret (⟨.bool false, Fx.retV1 Try.results119 (by exact rfl), ?_⟩)))
           refine ⟨congrArg (fun q => Ending.returned (Value.bool q)) (Eq.symm ?_), b1⟩
           unfold fieldsE; rw [if_neg c26, if_neg c36, if_neg c39, if_neg c47, if_neg c64, if_neg c70]; try simp only [someE, otherE]
           first | (simp [c7, c15, c21, c74]; done) | (simp [c7, c15, c21, c74]; omega)
   ·refine Fx.L.v (.bool true) (Fx.x_neqT rfl rfl rfl c21) ?_
    refine Fx.L.v (.bool true) (Fx.x_pickT rfl rfl rfl) ?_
    refine Fx.L.v (.bool true) (Fx.x_assign rfl rfl) ?_
    refine Fx.L.nil (Fx.seqN (Fx.W.seq (Fx.W.seq (Fx.W.list (Fx.L.v (.pointer (some ⟨g1, 8, none⟩)) (Fx.x_field rfl rfl Try.underlying54 rfl (s := 1) (by kernel_rfl) rfl (by show _ + 8 = _; omega)) ?_)))))
    refine Fx.L.v (.int .u8 (v.kind)) (Fx.x_load1 (x := evY v) rfl rfl (by kernel_rfl) m1.cel (i := 8) (by omega) (by omega) rfl) ?_
    refine Fx.L.nil (Fx.seqN (Fx.W.block (Fx.W.seq (Fx.W.list ?_))))
    by_cases c26 : v.kind = 1
    ·refine Fx.L.v (.bool true) (Fx.x_eqlT rfl rfl rfl c26) ?_
     refine Fx.L.v (.bool true) (Fx.x_assign rfl rfl) ?_
     refine Fx.L.nil (Fx.seqN (Fx.W.cond (b := true) rfl (fun _ => Fx.W.seq (Fx.W.list (Fx.L.v (.pointer (some ⟨g1, 11, none⟩)) (Fx.x_field rfl rfl Try.underlying54 rfl (s := 1) (by kernel_rfl) rfl (by show _ + 11 = _; omega)) ?_))) (fun h => nomatch h)))
     refine Fx.L.v (.int .i64 (v.amt)) (Fx.x_load1 (x := evY v) rfl rfl (by kernel_rfl) m1.cel (i := 11) (by omega) (by omega) rfl) ?_
     by_cases c29 : 0 ≤ v.amt
     ·refine Fx.L.v (.bool true) (Fx.x_geqT rfl rfl rfl c29) ?_
      refine Fx.L.v (.bool true) (Fx.x_move rfl rfl) ?_
      refine Fx.L.v (.pointer (some ⟨g1, 11, none⟩)) (Fx.x_field rfl rfl Try.underlying54 rfl (s := 1) (by kernel_rfl) rfl (by show _ + 11 = _; omega)) ?_
      refine Fx.L.v (.int .i64 (v.amt)) (Fx.x_load1 (x := evY v) rfl rfl (by kernel_rfl) m1.cel (i := 11) (by omega) (by omega) rfl) ?_
      by_cases c33 : v.amt ≤ 1125899906842624
      ·refine Fx.L.v (.bool true) (Fx.x_leqT rfl rfl rfl c33) ?_
       refine Fx.L.v (.bool true) (Fx.x_pickT rfl rfl rfl) ?_
       refine Fx.L.v (.bool true) (Fx.x_assign rfl rfl) ?_
       refine Fx.L.nil (Fx.seqN (Fx.W.ret (Fx.blkR (Fx.seqR (⟨.bool true, Fx.retV1 Try.results119 (by exact rfl), ?_⟩)))))
       refine ⟨congrArg (fun q => Ending.returned (Value.bool q)) (Eq.symm ?_), b1⟩
       unfold fieldsE; rw [if_pos c26]; try simp only [someE, otherE]
       first | (simp [c7, c15, c21, c29, c33]; done) | (simp [c7, c15, c21, c29, c33]; omega)
      ·refine Fx.L.v (.bool false) (Fx.x_leqF rfl rfl rfl c33) ?_
       refine Fx.L.v (.bool false) (Fx.x_pickT rfl rfl rfl) ?_
       refine Fx.L.v (.bool false) (Fx.x_assign rfl rfl) ?_
       refine Fx.L.nil (Fx.seqN (Fx.W.ret (Fx.blkR (Fx.seqR (⟨.bool false, Fx.retV1 Try.results119 (by exact rfl), ?_⟩)))))
       refine ⟨congrArg (fun q => Ending.returned (Value.bool q)) (Eq.symm ?_), b1⟩
       unfold fieldsE; rw [if_pos c26]; try simp only [someE, otherE]
       first | (simp [c7, c15, c21, c29, c33]; done) | (simp [c7, c15, c21, c29, c33]; omega)
     ·refine Fx.L.v (.bool false) (Fx.x_geqF rfl rfl rfl c29) ?_
      refine Fx.L.v (.bool false) (Fx.x_move rfl rfl) ?_
      refine Fx.L.skip (by rfl) rfl ?_
      refine Fx.L.skip (by rfl) rfl ?_
      refine Fx.L.skip (by rfl) rfl ?_
      refine Fx.L.v (.bool false) (Fx.x_pickF rfl rfl rfl) ?_
      refine Fx.L.v (.bool false) (Fx.x_assign rfl rfl) ?_
      refine Fx.L.nil (Fx.seqN (Fx.W.ret (Fx.blkR (Fx.seqR (⟨.bool false, Fx.retV1 Try.results119 (by exact rfl), ?_⟩)))))
      refine ⟨congrArg (fun q => Ending.returned (Value.bool q)) (Eq.symm ?_), b1⟩
      unfold fieldsE; rw [if_pos c26]; try simp only [someE, otherE]
      first | (simp [c7, c15, c21, c29]; done) | (simp [c7, c15, c21, c29]; omega)
    ·refine Fx.L.v (.bool false) (Fx.x_eqlF rfl rfl rfl c26) ?_
     refine Fx.L.v (.bool false) (Fx.x_assign rfl rfl) ?_
     refine Fx.L.nil (Fx.seqN (Fx.W.cond (b := false) rfl (fun h => nomatch h) (fun _ => Fx.W.seq (Fx.W.list ?_))))
     by_cases c36 : v.kind = 2
     ·refine Fx.L.v (.bool true) (Fx.x_eqlT rfl rfl rfl c36) ?_
      refine Fx.L.v (.bool true) (Fx.x_assign rfl rfl) ?_
      refine Fx.L.nil (Fx.seqN (Fx.W.cond (b := true) rfl (fun _ => Fx.W.seq (Fx.W.list (Fx.L.v (.bool false) (Fx.x_move rfl rfl) ?_))) (fun h => nomatch h)))
      refine Fx.L.v (.bool false) (Fx.x_assign rfl rfl) ?_
      refine Fx.L.nil (Fx.seqN (Fx.W.ret (Fx.blkR (Fx.seqR (⟨.bool false, Fx.retV1 Try.results119 (by exact rfl), ?_⟩)))))
      refine ⟨congrArg (fun q => Ending.returned (Value.bool q)) (Eq.symm ?_), b1⟩
      unfold fieldsE; rw [if_neg c26, if_pos c36]; try simp only [someE, otherE]
      first | (simp [c7, c15, c21]; done) | (simp [c7, c15, c21]; omega)
     ·refine Fx.L.v (.bool false) (Fx.x_eqlF rfl rfl rfl c36) ?_
      refine Fx.L.v (.bool false) (Fx.x_assign rfl rfl) ?_
      refine Fx.L.nil (Fx.seqN (Fx.W.cond (b := false) rfl (fun h => nomatch h) (fun _ => Fx.W.seq (Fx.W.list ?_))))
      by_cases c39 : v.kind = 3
      ·refine Fx.L.v (.bool true) (Fx.x_eqlT rfl rfl rfl c39) ?_
       refine Fx.L.v (.bool true) (Fx.x_assign rfl rfl) ?_
       refine Fx.L.nil (Fx.seqN (Fx.W.cond (b := true) rfl (fun _ => Fx.W.seq (Fx.W.list (Fx.L.v (.bool false) (Fx.x_move rfl rfl) ?_))) (fun h => nomatch h)))
       refine Fx.L.v (.bool false) (Fx.x_move rfl rfl) ?_
       refine Fx.L.skip (by rfl) rfl ?_
       refine Fx.L.skip (by rfl) rfl ?_
       refine Fx.L.skip (by rfl) rfl ?_
       refine Fx.L.v (.bool false) (Fx.x_pickF rfl rfl rfl) ?_
       refine Fx.L.v (.bool false) (Fx.x_assign rfl rfl) ?_
       refine Fx.L.nil (Fx.seqN (Fx.W.ret (Fx.blkR (Fx.seqR (⟨.bool false, Fx.retV1 Try.results119 (by exact rfl), ?_⟩)))))
       refine ⟨congrArg (fun q => Ending.returned (Value.bool q)) (Eq.symm ?_), b1⟩
       unfold fieldsE; rw [if_neg c26, if_neg c36, if_pos c39]; try simp only [someE, otherE]
       first | (simp [c7, c15, c21]; done) | (simp [c7, c15, c21]; omega)
      ·refine Fx.L.v (.bool false) (Fx.x_eqlF rfl rfl rfl c39) ?_
       refine Fx.L.v (.bool false) (Fx.x_assign rfl rfl) ?_
       refine Fx.L.nil (Fx.seqN (Fx.W.cond (b := false) rfl (fun h => nomatch h) (fun _ => Fx.W.seq (Fx.W.list ?_))))
       by_cases c47 : v.kind = 4
       ·refine Fx.L.v (.bool true) (Fx.x_eqlT rfl rfl rfl c47) ?_
        refine Fx.L.v (.bool true) (Fx.x_assign rfl rfl) ?_
        refine Fx.L.nil (Fx.seqN (Fx.W.cond (b := true) rfl (fun _ => Fx.W.seq (Fx.W.list (Fx.L.v (.pointer (some ⟨g1, 12, none⟩)) (Fx.x_field rfl rfl Try.underlying54 rfl (s := 1) (by kernel_rfl) rfl (by show _ + 12 = _; omega)) ?_))) (fun h => nomatch h)))
        refine Fx.L.v (.int .u64 (v.req)) (Fx.x_load1 (x := evY v) rfl rfl (by kernel_rfl) m1.cel (i := 12) (by omega) (by omega) rfl) ?_
        by_cases c50 : 1 ≤ v.req
        ·refine Fx.L.v (.bool true) (Fx.x_geqT rfl rfl rfl c50) ?_
         refine Fx.L.v (.bool true) (Fx.x_move rfl rfl) ?_
         refine Fx.L.v (.pointer (some ⟨g1, 13, none⟩)) (Fx.x_field rfl rfl Try.underlying54 rfl (s := 1) (by kernel_rfl) rfl (by show _ + 13 = _; omega)) ?_
         refine Fx.L.v (.int .u64 (v.of)) (Fx.x_load1 (x := evY v) rfl rfl (by kernel_rfl) m1.cel (i := 13) (by omega) (by omega) rfl) ?_
         by_cases c54 : 1 ≤ v.of
         ·refine Fx.L.v (.bool true) (Fx.x_geqT rfl rfl rfl c54) ?_
          refine Fx.L.v (.bool true) (Fx.x_pickT rfl rfl rfl) ?_
          refine Fx.L.v (.bool true) (Fx.x_move rfl rfl) ?_
          refine Fx.L.v (.pointer (some ⟨g1, 12, none⟩)) (Fx.x_field rfl rfl Try.underlying54 rfl (s := 1) (by kernel_rfl) rfl (by show _ + 12 = _; omega)) ?_
          refine Fx.L.v (.int .u64 (v.req)) (Fx.x_load1 (x := evY v) rfl rfl (by kernel_rfl) m1.cel (i := 12) (by omega) (by omega) rfl) ?_
          refine Fx.L.v (.pointer (some ⟨g1, 13, none⟩)) (Fx.x_field rfl rfl Try.underlying54 rfl (s := 1) (by kernel_rfl) rfl (by show _ + 13 = _; omega)) ?_
          refine Fx.L.v (.int .u64 (v.of)) (Fx.x_load1 (x := evY v) rfl rfl (by kernel_rfl) m1.cel (i := 13) (by omega) (by omega) rfl) ?_
          by_cases c61 : v.req = v.of
          ·refine Fx.L.v (.bool false) (Fx.x_neqF rfl rfl rfl c61) ?_
           refine Fx.L.v (.bool false) (Fx.x_pickT rfl rfl rfl) ?_
           refine Fx.L.v (.bool false) (Fx.x_assign rfl rfl) ?_
           refine Fx.L.nil (Fx.seqN (Fx.W.ret (Fx.blkR (Fx.seqR (⟨.bool false, Fx.retV1 Try.results119 (by exact rfl), ?_⟩)))))
           refine ⟨congrArg (fun q => Ending.returned (Value.bool q)) (Eq.symm ?_), b1⟩
           unfold fieldsE; rw [if_neg c26, if_neg c36, if_neg c39, if_pos c47]; try simp only [someE, otherE]
           first | (simp [c7, c15, c21, c50, c54, c61]; done) | (simp [c7, c15, c21, c50, c54, c61]; omega)
          ·refine Fx.L.v (.bool true) (Fx.x_neqT rfl rfl rfl c61) ?_
           refine Fx.L.v (.bool true) (Fx.x_pickT rfl rfl rfl) ?_
           refine Fx.L.v (.bool true) (Fx.x_assign rfl rfl) ?_
           refine Fx.L.nil (Fx.seqN (Fx.W.ret (Fx.blkR (Fx.seqR (⟨.bool true, Fx.retV1 Try.results119 (by exact rfl), ?_⟩)))))
           refine ⟨congrArg (fun q => Ending.returned (Value.bool q)) (Eq.symm ?_), b1⟩
           unfold fieldsE; rw [if_neg c26, if_neg c36, if_neg c39, if_pos c47]; try simp only [someE, otherE]
           first | (simp [c7, c15, c21, c50, c54, c61]; done) | (simp [c7, c15, c21, c50, c54, c61]; omega)
         ·refine Fx.L.v (.bool false) (Fx.x_geqF rfl rfl rfl c54) ?_
          refine Fx.L.v (.bool false) (Fx.x_pickT rfl rfl rfl) ?_
          refine Fx.L.v (.bool false) (Fx.x_move rfl rfl) ?_
          refine Fx.L.skip (by rfl) rfl ?_
          refine Fx.L.skip (by rfl) rfl ?_
          refine Fx.L.skip (by rfl) rfl ?_
          refine Fx.L.skip (by rfl) rfl ?_
          refine Fx.L.skip (by rfl) rfl ?_
          refine Fx.L.v (.bool false) (Fx.x_pickF rfl rfl rfl) ?_
          refine Fx.L.v (.bool false) (Fx.x_assign rfl rfl) ?_
          refine Fx.L.nil (Fx.seqN (Fx.W.ret (Fx.blkR (Fx.seqR (⟨.bool false, Fx.retV1 Try.results119 (by exact rfl), ?_⟩)))))
          refine ⟨congrArg (fun q => Ending.returned (Value.bool q)) (Eq.symm ?_), b1⟩
          unfold fieldsE; rw [if_neg c26, if_neg c36, if_neg c39, if_pos c47]; try simp only [someE, otherE]
          first | (simp [c7, c15, c21, c50, c54]; done) | (simp [c7, c15, c21, c50, c54]; omega)
        ·refine Fx.L.v (.bool false) (Fx.x_geqF rfl rfl rfl c50) ?_
         refine Fx.L.v (.bool false) (Fx.x_move rfl rfl) ?_
         refine Fx.L.skip (by rfl) rfl ?_
         refine Fx.L.skip (by rfl) rfl ?_
         refine Fx.L.skip (by rfl) rfl ?_
         refine Fx.L.v (.bool false) (Fx.x_pickF rfl rfl rfl) ?_
         refine Fx.L.v (.bool false) (Fx.x_move rfl rfl) ?_
         refine Fx.L.skip (by rfl) rfl ?_
         refine Fx.L.skip (by rfl) rfl ?_
         refine Fx.L.skip (by rfl) rfl ?_
         refine Fx.L.skip (by rfl) rfl ?_
         refine Fx.L.skip (by rfl) rfl ?_
         refine Fx.L.v (.bool false) (Fx.x_pickF rfl rfl rfl) ?_
         refine Fx.L.v (.bool false) (Fx.x_assign rfl rfl) ?_
         refine Fx.L.nil (Fx.seqN (Fx.W.ret (Fx.blkR (Fx.seqR (⟨.bool false, Fx.retV1 Try.results119 (by exact rfl), ?_⟩)))))
         refine ⟨congrArg (fun q => Ending.returned (Value.bool q)) (Eq.symm ?_), b1⟩
         unfold fieldsE; rw [if_neg c26, if_neg c36, if_neg c39, if_pos c47]; try simp only [someE, otherE]
         first | (simp [c7, c15, c21, c50]; done) | (simp [c7, c15, c21, c50]; omega)
       ·refine Fx.L.v (.bool false) (Fx.x_eqlF rfl rfl rfl c47) ?_
        refine Fx.L.v (.bool false) (Fx.x_assign rfl rfl) ?_
        refine Fx.L.nil (Fx.seqN (Fx.W.cond (b := false) rfl (fun h => nomatch h) (fun _ => Fx.W.seq (Fx.W.list ?_))))
        by_cases c64 : v.kind = 5
        ·refine Fx.L.v (.bool true) (Fx.x_eqlT rfl rfl rfl c64) ?_
         refine Fx.L.v (.bool true) (Fx.x_assign rfl rfl) ?_
         refine Fx.L.nil (Fx.seqN (Fx.W.cond (b := true) rfl (fun _ => Fx.W.seq (Fx.W.list (Fx.L.v (.bool false) (Fx.x_move rfl rfl) ?_))) (fun h => nomatch h)))
         refine Fx.L.v (.bool false) (Fx.x_move rfl rfl) ?_
         refine Fx.L.skip (by rfl) rfl ?_
         refine Fx.L.v (.bool false) (Fx.x_pickF rfl rfl rfl) ?_
         refine Fx.L.v (.bool false) (Fx.x_assign rfl rfl) ?_
         refine Fx.L.nil (Fx.seqN (Fx.W.ret (Fx.blkR (Fx.seqR (⟨.bool false, Fx.retV1 Try.results119 (by exact rfl), ?_⟩)))))
         refine ⟨congrArg (fun q => Ending.returned (Value.bool q)) (Eq.symm ?_), b1⟩
         unfold fieldsE; rw [if_neg c26, if_neg c36, if_neg c39, if_neg c47, if_pos c64]; try simp only [someE, otherE]
         first | (simp [c7, c15, c21]; done) | (simp [c7, c15, c21]; omega)
        ·refine Fx.L.v (.bool false) (Fx.x_eqlF rfl rfl rfl c64) ?_
         refine Fx.L.v (.bool false) (Fx.x_assign rfl rfl) ?_
         refine Fx.L.nil (Fx.seqN (Fx.W.cond (b := false) rfl (fun h => nomatch h) (fun _ => Fx.W.seq (Fx.W.list ?_))))
         by_cases c70 : v.kind = 6
         ·refine Fx.L.v (.bool true) (Fx.x_eqlT rfl rfl rfl c70) ?_
          refine Fx.L.v (.bool true) (Fx.x_assign rfl rfl) ?_
          refine Fx.L.nil (Fx.seqN (Fx.W.cond (b := true) rfl (fun _ => Fx.W.seq (Fx.W.list (Fx.L.v (.bool true) (Fx.x_move rfl rfl) ?_))) (fun h => nomatch h)))
          refine Fx.L.v (.bool true) (Fx.x_assign rfl rfl) ?_
          refine Fx.L.nil (Fx.seqN (Fx.W.ret (Fx.blkR (Fx.seqR (⟨.bool true, Fx.retV1 Try.results119 (by exact rfl), ?_⟩)))))
          refine ⟨congrArg (fun q => Ending.returned (Value.bool q)) (Eq.symm ?_), b1⟩
          unfold fieldsE; rw [if_neg c26, if_neg c36, if_neg c39, if_neg c47, if_neg c64, if_pos c70]; try simp only [someE, otherE]
          first | (simp [c7, c15, c21]; done) | (simp [c7, c15, c21]; omega)
         ·refine Fx.L.v (.bool false) (Fx.x_eqlF rfl rfl rfl c70) ?_
          refine Fx.L.v (.bool false) (Fx.x_assign rfl rfl) ?_
          refine Fx.L.nil (Fx.seqN (Fx.W.cond (b := false) rfl (fun h => nomatch h) (fun _ => Fx.W.skip (Fx.blkN (Fx.seqN (Fx.W.seq (Fx.W.list (Fx.L.v (.pointer (some ⟨g1, 8, none⟩)) (Fx.x_field rfl rfl Try.underlying54 rfl (s := 1) (by kernel_rfl) rfl (by show _ + 8 = _; omega)) ?_))))))))
          refine Fx.L.v (.int .u8 (v.kind)) (Fx.x_load1 (x := evY v) rfl rfl (by kernel_rfl) m1.cel (i := 8) (by omega) (by omega) rfl) ?_
          by_cases c74 : v.kind = 7
          ·refine Fx.L.v (.bool true) (Fx.x_eqlT rfl rfl rfl c74) ?_
           refine Fx.L.v (.bool true) (Fx.x_assign rfl rfl) ?_
           refine Fx.L.nil (Fx.seqN (Fx.W.ret (⟨.bool true, Fx.retV1 Try.results119 (by exact rfl), ?_⟩)))
           refine ⟨congrArg (fun q => Ending.returned (Value.bool q)) (Eq.symm ?_), b1⟩
           unfold fieldsE; rw [if_neg c26, if_neg c36, if_neg c39, if_neg c47, if_neg c64, if_neg c70]; try simp only [someE, otherE]
           first | (simp [c7, c15, c21, c74]; done) | (simp [c7, c15, c21, c74]; omega)
          ·refine Fx.L.v (.bool false) (Fx.x_eqlF rfl rfl rfl c74) ?_
           refine Fx.L.v (.bool false) (Fx.x_assign rfl rfl) ?_
           refine Fx.L.nil (Fx.seqN (Fx.W.ret (⟨.bool false, Fx.retV1 Try.results119 (by exact rfl), ?_⟩)))
           refine ⟨congrArg (fun q => Ending.returned (Value.bool q)) (Eq.symm ?_), b1⟩
           unfold fieldsE; rw [if_neg c26, if_neg c36, if_neg c39, if_neg c47, if_neg c64, if_neg c70]; try simp only [someE, otherE]
           first | (simp [c7, c15, c21, c74]; done) | (simp [c7, c15, c21, c74]; omega)
  ·rw [Bool.not_eq_true] at c15
   refine Fx.L.call (by rfl) (Fx.r_call (args := [.int .i64 (v.dst)]) rfl rfl Try.func117 rfl rfl) rfl ((e_region v.dst _).mono ?_)
   rintro e v1 ⟨he, hv1⟩
   subst v1
   refine ⟨.bool false, by rw [he, c15], ?_⟩
   clear he
   refine Fx.L.v (.bool false) (Fx.x_move rfl rfl) ?_
   refine Fx.L.skip (by rfl) rfl ?_
   refine Fx.L.skip (by rfl) rfl ?_
   refine Fx.L.skip (by rfl) rfl ?_
   refine Fx.L.skip (by rfl) rfl ?_
   refine Fx.L.skip (by rfl) rfl ?_
   refine Fx.L.v (.bool false) (Fx.x_pickF rfl rfl rfl) ?_
   refine Fx.L.v (.bool false) (Fx.x_assign rfl rfl) ?_
   refine Fx.L.nil (Fx.seqN (Fx.W.seq (Fx.W.seq (Fx.W.list (Fx.L.v (.pointer (some ⟨g1, 8, none⟩)) (Fx.x_field rfl rfl Try.underlying54 rfl (s := 1) (by kernel_rfl) rfl (by show _ + 8 = _; omega)) ?_)))))
   refine Fx.L.v (.int .u8 (v.kind)) (Fx.x_load1 (x := evY v) rfl rfl (by kernel_rfl) m1.cel (i := 8) (by omega) (by omega) rfl) ?_
   refine Fx.L.nil (Fx.seqN (Fx.W.block (Fx.W.seq (Fx.W.list ?_))))
   by_cases c26 : v.kind = 1
   ·refine Fx.L.v (.bool true) (Fx.x_eqlT rfl rfl rfl c26) ?_
    refine Fx.L.v (.bool true) (Fx.x_assign rfl rfl) ?_
    refine Fx.L.nil (Fx.seqN (Fx.W.cond (b := true) rfl (fun _ => Fx.W.seq (Fx.W.list (Fx.L.v (.pointer (some ⟨g1, 11, none⟩)) (Fx.x_field rfl rfl Try.underlying54 rfl (s := 1) (by kernel_rfl) rfl (by show _ + 11 = _; omega)) ?_))) (fun h => nomatch h)))
    refine Fx.L.v (.int .i64 (v.amt)) (Fx.x_load1 (x := evY v) rfl rfl (by kernel_rfl) m1.cel (i := 11) (by omega) (by omega) rfl) ?_
    by_cases c29 : 0 ≤ v.amt
    ·refine Fx.L.v (.bool true) (Fx.x_geqT rfl rfl rfl c29) ?_
     refine Fx.L.v (.bool true) (Fx.x_move rfl rfl) ?_
     refine Fx.L.v (.pointer (some ⟨g1, 11, none⟩)) (Fx.x_field rfl rfl Try.underlying54 rfl (s := 1) (by kernel_rfl) rfl (by show _ + 11 = _; omega)) ?_
     refine Fx.L.v (.int .i64 (v.amt)) (Fx.x_load1 (x := evY v) rfl rfl (by kernel_rfl) m1.cel (i := 11) (by omega) (by omega) rfl) ?_
     by_cases c33 : v.amt ≤ 1125899906842624
     ·refine Fx.L.v (.bool true) (Fx.x_leqT rfl rfl rfl c33) ?_
      refine Fx.L.v (.bool true) (Fx.x_pickT rfl rfl rfl) ?_
      refine Fx.L.v (.bool true) (Fx.x_assign rfl rfl) ?_
      refine Fx.L.nil (Fx.seqN (Fx.W.ret (Fx.blkR (Fx.seqR (⟨.bool true, Fx.retV1 Try.results119 (by exact rfl), ?_⟩)))))
      refine ⟨congrArg (fun q => Ending.returned (Value.bool q)) (Eq.symm ?_), b1⟩
      unfold fieldsE; rw [if_pos c26]; try simp only [someE, otherE]
      first | (simp [c7, c15, c29, c33]; done) | (simp [c7, c15, c29, c33]; omega)
     ·refine Fx.L.v (.bool false) (Fx.x_leqF rfl rfl rfl c33) ?_
      refine Fx.L.v (.bool false) (Fx.x_pickT rfl rfl rfl) ?_
      refine Fx.L.v (.bool false) (Fx.x_assign rfl rfl) ?_
      refine Fx.L.nil (Fx.seqN (Fx.W.ret (Fx.blkR (Fx.seqR (⟨.bool false, Fx.retV1 Try.results119 (by exact rfl), ?_⟩)))))
      refine ⟨congrArg (fun q => Ending.returned (Value.bool q)) (Eq.symm ?_), b1⟩
      unfold fieldsE; rw [if_pos c26]; try simp only [someE, otherE]
      first | (simp [c7, c15, c29, c33]; done) | (simp [c7, c15, c29, c33]; omega)
    ·refine Fx.L.v (.bool false) (Fx.x_geqF rfl rfl rfl c29) ?_
     refine Fx.L.v (.bool false) (Fx.x_move rfl rfl) ?_
     refine Fx.L.skip (by rfl) rfl ?_
     refine Fx.L.skip (by rfl) rfl ?_
     refine Fx.L.skip (by rfl) rfl ?_
     refine Fx.L.v (.bool false) (Fx.x_pickF rfl rfl rfl) ?_
     refine Fx.L.v (.bool false) (Fx.x_assign rfl rfl) ?_
     refine Fx.L.nil (Fx.seqN (Fx.W.ret (Fx.blkR (Fx.seqR (⟨.bool false, Fx.retV1 Try.results119 (by exact rfl), ?_⟩)))))
     refine ⟨congrArg (fun q => Ending.returned (Value.bool q)) (Eq.symm ?_), b1⟩
     unfold fieldsE; rw [if_pos c26]; try simp only [someE, otherE]
     first | (simp [c7, c15, c29]; done) | (simp [c7, c15, c29]; omega)
   ·refine Fx.L.v (.bool false) (Fx.x_eqlF rfl rfl rfl c26) ?_
    refine Fx.L.v (.bool false) (Fx.x_assign rfl rfl) ?_
    refine Fx.L.nil (Fx.seqN (Fx.W.cond (b := false) rfl (fun h => nomatch h) (fun _ => Fx.W.seq (Fx.W.list ?_))))
    by_cases c36 : v.kind = 2
    ·refine Fx.L.v (.bool true) (Fx.x_eqlT rfl rfl rfl c36) ?_
     refine Fx.L.v (.bool true) (Fx.x_assign rfl rfl) ?_
     refine Fx.L.nil (Fx.seqN (Fx.W.cond (b := true) rfl (fun _ => Fx.W.seq (Fx.W.list (Fx.L.v (.bool false) (Fx.x_move rfl rfl) ?_))) (fun h => nomatch h)))
     refine Fx.L.v (.bool false) (Fx.x_assign rfl rfl) ?_
     refine Fx.L.nil (Fx.seqN (Fx.W.ret (Fx.blkR (Fx.seqR (⟨.bool false, Fx.retV1 Try.results119 (by exact rfl), ?_⟩)))))
     refine ⟨congrArg (fun q => Ending.returned (Value.bool q)) (Eq.symm ?_), b1⟩
     unfold fieldsE; rw [if_neg c26, if_pos c36]; try simp only [someE, otherE]
     first | (simp [c7, c15]; done) | (simp [c7, c15]; omega)
    ·refine Fx.L.v (.bool false) (Fx.x_eqlF rfl rfl rfl c36) ?_
     refine Fx.L.v (.bool false) (Fx.x_assign rfl rfl) ?_
     refine Fx.L.nil (Fx.seqN (Fx.W.cond (b := false) rfl (fun h => nomatch h) (fun _ => Fx.W.seq (Fx.W.list ?_))))
     by_cases c39 : v.kind = 3
     ·refine Fx.L.v (.bool true) (Fx.x_eqlT rfl rfl rfl c39) ?_
      refine Fx.L.v (.bool true) (Fx.x_assign rfl rfl) ?_
      refine Fx.L.nil (Fx.seqN (Fx.W.cond (b := true) rfl (fun _ => Fx.W.seq (Fx.W.list (Fx.L.v (.bool false) (Fx.x_move rfl rfl) ?_))) (fun h => nomatch h)))
      refine Fx.L.v (.bool false) (Fx.x_move rfl rfl) ?_
      refine Fx.L.skip (by rfl) rfl ?_
      refine Fx.L.skip (by rfl) rfl ?_
      refine Fx.L.skip (by rfl) rfl ?_
      refine Fx.L.v (.bool false) (Fx.x_pickF rfl rfl rfl) ?_
      refine Fx.L.v (.bool false) (Fx.x_assign rfl rfl) ?_
      refine Fx.L.nil (Fx.seqN (Fx.W.ret (Fx.blkR (Fx.seqR (⟨.bool false, Fx.retV1 Try.results119 (by exact rfl), ?_⟩)))))
      refine ⟨congrArg (fun q => Ending.returned (Value.bool q)) (Eq.symm ?_), b1⟩
      unfold fieldsE; rw [if_neg c26, if_neg c36, if_pos c39]; try simp only [someE, otherE]
      first | (simp [c7, c15]; done) | (simp [c7, c15]; omega)
     ·refine Fx.L.v (.bool false) (Fx.x_eqlF rfl rfl rfl c39) ?_
      refine Fx.L.v (.bool false) (Fx.x_assign rfl rfl) ?_
      refine Fx.L.nil (Fx.seqN (Fx.W.cond (b := false) rfl (fun h => nomatch h) (fun _ => Fx.W.seq (Fx.W.list ?_))))
      by_cases c47 : v.kind = 4
      ·refine Fx.L.v (.bool true) (Fx.x_eqlT rfl rfl rfl c47) ?_
       refine Fx.L.v (.bool true) (Fx.x_assign rfl rfl) ?_
       refine Fx.L.nil (Fx.seqN (Fx.W.cond (b := true) rfl (fun _ => Fx.W.seq (Fx.W.list (Fx.L.v (.pointer (some ⟨g1, 12, none⟩)) (Fx.x_field rfl rfl Try.underlying54 rfl (s := 1) (by kernel_rfl) rfl (by show _ + 12 = _; omega)) ?_))) (fun h => nomatch h)))
       refine Fx.L.v (.int .u64 (v.req)) (Fx.x_load1 (x := evY v) rfl rfl (by kernel_rfl) m1.cel (i := 12) (by omega) (by omega) rfl) ?_
       by_cases c50 : 1 ≤ v.req
       ·refine Fx.L.v (.bool true) (Fx.x_geqT rfl rfl rfl c50) ?_
        refine Fx.L.v (.bool true) (Fx.x_move rfl rfl) ?_
        refine Fx.L.v (.pointer (some ⟨g1, 13, none⟩)) (Fx.x_field rfl rfl Try.underlying54 rfl (s := 1) (by kernel_rfl) rfl (by show _ + 13 = _; omega)) ?_
        refine Fx.L.v (.int .u64 (v.of)) (Fx.x_load1 (x := evY v) rfl rfl (by kernel_rfl) m1.cel (i := 13) (by omega) (by omega) rfl) ?_
        by_cases c54 : 1 ≤ v.of
        ·refine Fx.L.v (.bool true) (Fx.x_geqT rfl rfl rfl c54) ?_
         refine Fx.L.v (.bool true) (Fx.x_pickT rfl rfl rfl) ?_
         refine Fx.L.v (.bool true) (Fx.x_move rfl rfl) ?_
         refine Fx.L.v (.pointer (some ⟨g1, 12, none⟩)) (Fx.x_field rfl rfl Try.underlying54 rfl (s := 1) (by kernel_rfl) rfl (by show _ + 12 = _; omega)) ?_
         refine Fx.L.v (.int .u64 (v.req)) (Fx.x_load1 (x := evY v) rfl rfl (by kernel_rfl) m1.cel (i := 12) (by omega) (by omega) rfl) ?_
         refine Fx.L.v (.pointer (some ⟨g1, 13, none⟩)) (Fx.x_field rfl rfl Try.underlying54 rfl (s := 1) (by kernel_rfl) rfl (by show _ + 13 = _; omega)) ?_
         refine Fx.L.v (.int .u64 (v.of)) (Fx.x_load1 (x := evY v) rfl rfl (by kernel_rfl) m1.cel (i := 13) (by omega) (by omega) rfl) ?_
         by_cases c61 : v.req = v.of
         ·refine Fx.L.v (.bool false) (Fx.x_neqF rfl rfl rfl c61) ?_
          refine Fx.L.v (.bool false) (Fx.x_pickT rfl rfl rfl) ?_
          refine Fx.L.v (.bool false) (Fx.x_assign rfl rfl) ?_
          refine Fx.L.nil (Fx.seqN (Fx.W.ret (Fx.blkR (Fx.seqR (⟨.bool false, Fx.retV1 Try.results119 (by exact rfl), ?_⟩)))))
          refine ⟨congrArg (fun q => Ending.returned (Value.bool q)) (Eq.symm ?_), b1⟩
          unfold fieldsE; rw [if_neg c26, if_neg c36, if_neg c39, if_pos c47]; try simp only [someE, otherE]
          first | (simp [c7, c15, c50, c54, c61]; done) | (simp [c7, c15, c50, c54, c61]; omega)
         ·refine Fx.L.v (.bool true) (Fx.x_neqT rfl rfl rfl c61) ?_
          refine Fx.L.v (.bool true) (Fx.x_pickT rfl rfl rfl) ?_
          refine Fx.L.v (.bool true) (Fx.x_assign rfl rfl) ?_
          refine Fx.L.nil (Fx.seqN (Fx.W.ret (Fx.blkR (Fx.seqR (⟨.bool true, Fx.retV1 Try.results119 (by exact rfl), ?_⟩)))))
          refine ⟨congrArg (fun q => Ending.returned (Value.bool q)) (Eq.symm ?_), b1⟩
          unfold fieldsE; rw [if_neg c26, if_neg c36, if_neg c39, if_pos c47]; try simp only [someE, otherE]
          first | (simp [c7, c15, c50, c54, c61]; done) | (simp [c7, c15, c50, c54, c61]; omega)
        ·refine Fx.L.v (.bool false) (Fx.x_geqF rfl rfl rfl c54) ?_
         refine Fx.L.v (.bool false) (Fx.x_pickT rfl rfl rfl) ?_
         refine Fx.L.v (.bool false) (Fx.x_move rfl rfl) ?_
         refine Fx.L.skip (by rfl) rfl ?_
         refine Fx.L.skip (by rfl) rfl ?_
         refine Fx.L.skip (by rfl) rfl ?_
         refine Fx.L.skip (by rfl) rfl ?_
         refine Fx.L.skip (by rfl) rfl ?_
         refine Fx.L.v (.bool false) (Fx.x_pickF rfl rfl rfl) ?_
         refine Fx.L.v (.bool false) (Fx.x_assign rfl rfl) ?_
         refine Fx.L.nil (Fx.seqN (Fx.W.ret (Fx.blkR (Fx.seqR (⟨.bool false, Fx.retV1 Try.results119 (by exact rfl), ?_⟩)))))
         refine ⟨congrArg (fun q => Ending.returned (Value.bool q)) (Eq.symm ?_), b1⟩
         unfold fieldsE; rw [if_neg c26, if_neg c36, if_neg c39, if_pos c47]; try simp only [someE, otherE]
         first | (simp [c7, c15, c50, c54]; done) | (simp [c7, c15, c50, c54]; omega)
       ·refine Fx.L.v (.bool false) (Fx.x_geqF rfl rfl rfl c50) ?_
        refine Fx.L.v (.bool false) (Fx.x_move rfl rfl) ?_
        refine Fx.L.skip (by rfl) rfl ?_
        refine Fx.L.skip (by rfl) rfl ?_
        refine Fx.L.skip (by rfl) rfl ?_
        refine Fx.L.v (.bool false) (Fx.x_pickF rfl rfl rfl) ?_
        refine Fx.L.v (.bool false) (Fx.x_move rfl rfl) ?_
        refine Fx.L.skip (by rfl) rfl ?_
        refine Fx.L.skip (by rfl) rfl ?_
        refine Fx.L.skip (by rfl) rfl ?_
        refine Fx.L.skip (by rfl) rfl ?_
        refine Fx.L.skip (by rfl) rfl ?_
        refine Fx.L.v (.bool false) (Fx.x_pickF rfl rfl rfl) ?_
        refine Fx.L.v (.bool false) (Fx.x_assign rfl rfl) ?_
        refine Fx.L.nil (Fx.seqN (Fx.W.ret (Fx.blkR (Fx.seqR (⟨.bool false, Fx.retV1 Try.results119 (by exact rfl), ?_⟩)))))
        refine ⟨congrArg (fun q => Ending.returned (Value.bool q)) (Eq.symm ?_), b1⟩
        unfold fieldsE; rw [if_neg c26, if_neg c36, if_neg c39, if_pos c47]; try simp only [someE, otherE]
        first | (simp [c7, c15, c50]; done) | (simp [c7, c15, c50]; omega)
      ·refine Fx.L.v (.bool false) (Fx.x_eqlF rfl rfl rfl c47) ?_
       refine Fx.L.v (.bool false) (Fx.x_assign rfl rfl) ?_
       refine Fx.L.nil (Fx.seqN (Fx.W.cond (b := false) rfl (fun h => nomatch h) (fun _ => Fx.W.seq (Fx.W.list ?_))))
       by_cases c64 : v.kind = 5
       ·refine Fx.L.v (.bool true) (Fx.x_eqlT rfl rfl rfl c64) ?_
        refine Fx.L.v (.bool true) (Fx.x_assign rfl rfl) ?_
        refine Fx.L.nil (Fx.seqN (Fx.W.cond (b := true) rfl (fun _ => Fx.W.seq (Fx.W.list (Fx.L.v (.bool false) (Fx.x_move rfl rfl) ?_))) (fun h => nomatch h)))
        refine Fx.L.v (.bool false) (Fx.x_move rfl rfl) ?_
        refine Fx.L.skip (by rfl) rfl ?_
        refine Fx.L.v (.bool false) (Fx.x_pickF rfl rfl rfl) ?_
        refine Fx.L.v (.bool false) (Fx.x_assign rfl rfl) ?_
        refine Fx.L.nil (Fx.seqN (Fx.W.ret (Fx.blkR (Fx.seqR (⟨.bool false, Fx.retV1 Try.results119 (by exact rfl), ?_⟩)))))
        refine ⟨congrArg (fun q => Ending.returned (Value.bool q)) (Eq.symm ?_), b1⟩
        unfold fieldsE; rw [if_neg c26, if_neg c36, if_neg c39, if_neg c47, if_pos c64]; try simp only [someE, otherE]
        first | (simp [c7, c15]; done) | (simp [c7, c15]; omega)
       ·refine Fx.L.v (.bool false) (Fx.x_eqlF rfl rfl rfl c64) ?_
        refine Fx.L.v (.bool false) (Fx.x_assign rfl rfl) ?_
        refine Fx.L.nil (Fx.seqN (Fx.W.cond (b := false) rfl (fun h => nomatch h) (fun _ => Fx.W.seq (Fx.W.list ?_))))
        by_cases c70 : v.kind = 6
        ·refine Fx.L.v (.bool true) (Fx.x_eqlT rfl rfl rfl c70) ?_
         refine Fx.L.v (.bool true) (Fx.x_assign rfl rfl) ?_
         refine Fx.L.nil (Fx.seqN (Fx.W.cond (b := true) rfl (fun _ => Fx.W.seq (Fx.W.list (Fx.L.v (.bool false) (Fx.x_move rfl rfl) ?_))) (fun h => nomatch h)))
         refine Fx.L.v (.bool false) (Fx.x_assign rfl rfl) ?_
         refine Fx.L.nil (Fx.seqN (Fx.W.ret (Fx.blkR (Fx.seqR (⟨.bool false, Fx.retV1 Try.results119 (by exact rfl), ?_⟩)))))
         refine ⟨congrArg (fun q => Ending.returned (Value.bool q)) (Eq.symm ?_), b1⟩
         unfold fieldsE; rw [if_neg c26, if_neg c36, if_neg c39, if_neg c47, if_neg c64, if_pos c70]; try simp only [someE, otherE]
         first | (simp [c7, c15]; done) | (simp [c7, c15]; omega)
        ·refine Fx.L.v (.bool false) (Fx.x_eqlF rfl rfl rfl c70) ?_
         refine Fx.L.v (.bool false) (Fx.x_assign rfl rfl) ?_
         refine Fx.L.nil (Fx.seqN (Fx.W.cond (b := false) rfl (fun h => nomatch h) (fun _ => Fx.W.skip (Fx.blkN (Fx.seqN (Fx.W.seq (Fx.W.list (Fx.L.v (.pointer (some ⟨g1, 8, none⟩)) (Fx.x_field rfl rfl Try.underlying54 rfl (s := 1) (by kernel_rfl) rfl (by show _ + 8 = _; omega)) ?_))))))))
         refine Fx.L.v (.int .u8 (v.kind)) (Fx.x_load1 (x := evY v) rfl rfl (by kernel_rfl) m1.cel (i := 8) (by omega) (by omega) rfl) ?_
         by_cases c74 : v.kind = 7
         ·refine Fx.L.v (.bool true) (Fx.x_eqlT rfl rfl rfl c74) ?_
          refine Fx.L.v (.bool true) (Fx.x_assign rfl rfl) ?_
          refine Fx.L.nil (Fx.seqN (Fx.W.ret (⟨.bool true, Fx.retV1 Try.results119 (by exact rfl), ?_⟩)))
          refine ⟨congrArg (fun q => Ending.returned (Value.bool q)) (Eq.symm ?_), b1⟩
          unfold fieldsE; rw [if_neg c26, if_neg c36, if_neg c39, if_neg c47, if_neg c64, if_neg c70]; try simp only [someE, otherE]
          first | (simp [c7, c15, c74]; done) | (simp [c7, c15, c74]; omega)
         ·refine Fx.L.v (.bool false) (Fx.x_eqlF rfl rfl rfl c74) ?_
          refine Fx.L.v (.bool false) (Fx.x_assign rfl rfl) ?_
          refine Fx.L.nil (Fx.seqN (Fx.W.ret (⟨.bool false, Fx.retV1 Try.results119 (by exact rfl), ?_⟩)))
          refine ⟨congrArg (fun q => Ending.returned (Value.bool q)) (Eq.symm ?_), b1⟩
          unfold fieldsE; rw [if_neg c26, if_neg c36, if_neg c39, if_neg c47, if_neg c64, if_neg c70]; try simp only [someE, otherE]
          first | (simp [c7, c15, c74]; done) | (simp [c7, c15, c74]; omega)
end Go.Proofs.Ytolmkjepieoloaa
namespace Go.Proofs.Ytolmkjepieoloaa
open Go.RowKit Rt
namespace Rt
def U64r (n : Int) : Prop := 0 ≤ n ∧ n ≤ 18446744073709551615
def I64r (n : Int) : Prop := -9223372036854775808 ≤ n ∧ n ≤ 9223372036854775807
structure EvWf (v : EvM) : Prop where
  o : I64r v.o
  seq : U64r v.seq
  deps : ∀ i, i < 6 → U64r (v.deps i)
  kind : 0 ≤ v.kind ∧ v.kind ≤ 255
  node : U64r v.node
  dst : I64r v.dst
  amt : I64r v.amt
  req : U64r v.req
  of : U64r v.of
theorem EvWf.own {v : EvM} (h : EvWf v) : EvWf (ownE v) := by
  have z : U64r 0 := ⟨by decide, by decide⟩
  have y : I64r 0 := ⟨by decide, by decide⟩
  unfold ownE
  split
  · exact ⟨h.o, h.seq, h.deps, h.kind, h.node, y, h.amt, z, z⟩
  split
  · exact ⟨h.o, h.seq, h.deps, h.kind, h.node, y, h.amt, z, z⟩
  split
  · exact ⟨h.o, h.seq, h.deps, h.kind, h.node, y, h.amt, h.req, z⟩
  split
  · exact ⟨h.o, h.seq, h.deps, h.kind, z, y, y, h.req, h.of⟩
  split
  · exact ⟨h.o, h.seq, h.deps, h.kind, h.node, h.dst, h.amt, z, z⟩
  split
  · exact ⟨h.o, h.seq, h.deps, h.kind, z, h.dst, y, z, z⟩
  · exact ⟨h.o, h.seq, h.deps, h.kind, z, y, y, z, z⟩
theorem kd_ev {v : EvM} (h : EvWf v) : Fx.Kd [(some .i64), (some .u64), (some .u64), (some .u64), (some .u64), (some .u64), (some .u64), (some .u64), (some .u8), (some .u64), (some .i64), (some .i64), (some .u64), (some .u64)] (evY v) := by
  have one : ∀ (k : IntKind) (n : Int), (Lit.int k n).wf = true → ∃ l, litOf (some k) (.int k n) = some l := fun k n hw => by
    obtain ⟨l, hl⟩ := Fx.kd_rv (k := k) (n := 1) (x := fun _ => n) (fun _ _ => hw) 0 (by simp)
    exact ⟨l, hl⟩
  intro i hi
  have hi' : i < 14 := hi
  rcases i with _|_|_|_|_|_|_|_|_|_|_|_|_|_|i
  · exact one .i64 v.o (Fx.wf64 h.o)
  · exact one .u64 v.seq (Fx.wfu64 h.seq)
  · exact one .u64 (v.deps 0) (Fx.wfu64 (h.deps 0 (by decide)))
  · exact one .u64 (v.deps 1) (Fx.wfu64 (h.deps 1 (by decide)))
  · exact one .u64 (v.deps 2) (Fx.wfu64 (h.deps 2 (by decide)))
  · exact one .u64 (v.deps 3) (Fx.wfu64 (h.deps 3 (by decide)))
  · exact one .u64 (v.deps 4) (Fx.wfu64 (h.deps 4 (by decide)))
  · exact one .u64 (v.deps 5) (Fx.wfu64 (h.deps 5 (by decide)))
  · exact one .u8 v.kind (Fx.wfu8 h.kind)
  · exact one .u64 v.node (Fx.wfu64 h.node)
  · exact one .i64 v.dst (Fx.wf64 h.dst)
  · exact one .i64 v.amt (Fx.wf64 h.amt)
  · exact one .u64 v.req (Fx.wfu64 h.req)
  · exact one .u64 v.of (Fx.wfu64 h.of)
  · omega
def depsOk (v : EvM) : Bool := (List.range 6).all fun i => decide (v.deps i < 1099511627776)
def sameE (v : EvM) : Bool := decide (v.node = (ownE v).node) && decide (v.dst = (ownE v).dst) && decide (v.amt = (ownE v).amt) && decide (v.req = (ownE v).req) && decide (v.of = (ownE v).of)
def mayE (v : EvM) : Bool := regE v.o && decide (1 ≤ v.seq) && decide (v.seq < 1099511627776) && decide (v.deps (v.o - 1).toNat = v.seq - 1) && depsOk v && sameE v && fieldsE v
theorem own_same (v : EvM) : (ownE v).o = v.o ∧ (ownE v).seq = v.seq ∧ (ownE v).deps = v.deps ∧ (ownE v).kind = v.kind := by
  unfold ownE; repeat (first | exact ⟨rfl, rfl, rfl, rfl⟩ | split)
theorem sameE_iff (v : EvM) : sameE v = true ↔ ∀ i, i < 14 → evY v i = evY (ownE v) i := by
  obtain ⟨h1, h2, h3, h4⟩ := own_same v
  unfold sameE
  simp only [Bool.and_eq_true, decide_eq_true_eq]
  constructor
  · rintro ⟨⟨⟨⟨a, b⟩, c⟩, d⟩, e⟩ i hi
    have : ownE v = v := by
      cases hv : ownE v with
      | mk o seq deps kind node dst amt req of =>
        rw [hv] at h1 h2 h3 h4 a b c d e
        cases v; simp_all
    rw [this]
  · intro h
    have g9 : Value.int .u64 v.node = .int .u64 (ownE v).node := h 9 (by decide)
    have g10 : Value.int .i64 v.dst = .int .i64 (ownE v).dst := h 10 (by decide)
    have g11 : Value.int .i64 v.amt = .int .i64 (ownE v).amt := h 11 (by decide)
    have g12 : Value.int .u64 v.req = .int .u64 (ownE v).req := h 12 (by decide)
    have g13 : Value.int .u64 v.of = .int .u64 (ownE v).of := h 13 (by decide)
    simp only [Value.int.injEq, true_and] at g9 g10 g11 g12 g13
    exact ⟨⟨⟨⟨g9, g10⟩, g11⟩, g12⟩, g13⟩
theorem regE_nat {i : Int} (h : regE i = true) : ∃ a : Nat, a < 6 ∧ i = (a : Int) + 1 := by
  unfold regE at h; simp at h
  obtain ⟨a, ha⟩ := Int.eq_ofNat_of_zero_le (show 0 ≤ i - 1 by omega)
  exact ⟨a, by omega, by omega⟩
theorem depsOk_no {v : EvM} {k : Nat} (hk : k < 6) (h : 1099511627776 ≤ v.deps k) : depsOk v = false := by
  unfold depsOk; rw [List.all_eq_false]; exact ⟨k, List.mem_range.2 hk, by simp; omega⟩
theorem depsOk_yes {v : EvM} {k : Nat} (hk : ¬ (k : Int) < 6) (h : ∀ i, i < k → v.deps i < 1099511627776) : depsOk v = true := by
  unfold depsOk; rw [List.all_eq_true]; intro i hi; have := List.mem_range.1 hi; simp; exact h i (by omega)
theorem hall_step {v : EvM} {k : Nat} (h : ∀ i, i < k → v.deps i < 1099511627776) (hk : v.deps k < 1099511627776) : ∀ i, i < k + 1 → v.deps i < 1099511627776 := fun i hi => by
  by_cases e : i = k
  · subst e; exact hk
  · exact h i (by omega)
theorem may_reg {v : EvM} (h : mayE v = true) : regE v.o = true := by
  unfold mayE at h; simp only [Bool.and_eq_true] at h; exact h.1.1.1.1.1.1
end Rt
set_option maxHeartbeats 2000000 in
theorem e_may (v : EvM) (w : World) (hv : EvWf v) :
    Calls Try.prog 100 #[.agg (Fx.varr 14 (evY v))] w fun e w' => e = .returned (.bool (mayE v)) ∧ Below w.heap.size w w' := by
 refine Fx.enter Try.func100 rfl (n := 47) rfl (by rfl) ?_
 refine Fx.W.seq (Fx.W.list (Fx.L.box (m := 14) (y := evY v) (by rfl) rfl rfl (Fx.cells_agg _ _) rfl fun g1 w1 eg1 m1 s1 z1 => ?_))
 have b1 := s1.below (Below.refl w.heap.size w) (Below.refl w.heap.size w).size (Below.refl w.heap.size w).size
 have lg1 : w.heap.size ≤ g1 := by rw [eg1]; exact (Below.refl w.heap.size w).size
 have tg1 : g1 < w1.heap.size := m1.lt
 clear eg1
 refine Fx.L.v (.bool false) (Fx.x_assign rfl rfl) ?_
 refine Fx.L.nil (Fx.seqN (Fx.W.seq (Fx.W.seq ?_)))
 -- region 1 draws
 refine Fx.W.quiet (fun v1 => Below w1.heap.size w1 v1) (by kernel_rfl) (by kernel_rfl) (Below.refl _ _).drew ?_
 refine Fx.Qt.v (.pointer (some ⟨g1, 0, none⟩)) (fun v1 hv1 => Fx.x_field rfl rfl Try.underlying54 rfl (s := 1) (by kernel_rfl) rfl rfl) ?_
 refine Fx.Qt.v (.int .i64 (v.o)) (fun v1 hv1 => Fx.x_load1 (x := evY v) rfl rfl (by kernel_rfl) (m1.cel.below hv1 (by have := m1.lt; omega)) (i := 0) (by omega) (by omega) rfl) ?_
 by_cases c6 : (regE v.o) = true
 ·obtain ⟨a, ha, ea⟩ := regE_nat c6
  refine Fx.Qt.call (v := .bool true) (by rfl) (fun v1 hv1 => Fx.r_call (args := [.int .i64 (v.o)]) rfl rfl Try.func117 rfl rfl) rfl (fun v1 hv1 => (e_region v.o _).mono fun e v2 h => ⟨by rw [h.1, c6], by rw [h.2]; exact hv1⟩) ?_
  refine Fx.Qt.v (.bool false) (fun v1 hv1 => Fx.x_notF rfl rfl) ?_
  refine Fx.Qt.v (.bool false) (fun v1 hv1 => Fx.x_move rfl rfl) ?_
  refine Fx.Qt.v (.pointer (some ⟨g1, 1, none⟩)) (fun v1 hv1 => Fx.x_field rfl rfl Try.underlying54 rfl (s := 1) (by kernel_rfl) rfl (by show _ + 1 = _; omega)) ?_
  refine Fx.Qt.v (.int .u64 (v.seq)) (fun v1 hv1 => Fx.x_load1 (x := evY v) rfl rfl (by kernel_rfl) (m1.cel.below hv1 (by have := m1.lt; omega)) (i := 1) (by omega) (by omega) rfl) ?_
  by_cases c11 : v.seq < 1
  ·refine Fx.Qt.v (.bool true) (fun v1 hv1 => Fx.x_lssT rfl rfl rfl c11) ?_
   refine Fx.Qt.v (.bool true) (fun v1 hv1 => Fx.x_pickF rfl rfl rfl) ?_
   refine Fx.Qt.v (.bool true) (fun v1 hv1 => Fx.x_move rfl rfl) ?_
   refine Fx.Qt.skip (by rfl) rfl ?_
   refine Fx.Qt.skip (by rfl) rfl ?_
   refine Fx.Qt.skip (by rfl) rfl ?_
   refine Fx.Qt.v (.bool true) (fun v1 hv1 => Fx.x_pickT rfl rfl rfl) ?_
   refine Fx.Qt.v (.bool true) (fun v1 hv1 => Fx.x_move rfl rfl) ?_
   refine Fx.Qt.skip (by rfl) rfl ?_
   refine Fx.Qt.skip (by rfl) rfl ?_
   refine Fx.Qt.skip (by rfl) rfl ?_
   refine Fx.Qt.skip (by rfl) rfl ?_
   refine Fx.Qt.skip (by rfl) rfl ?_
   refine Fx.Qt.skip (by rfl) rfl ?_
   refine Fx.Qt.skip (by rfl) rfl ?_
   refine Fx.Qt.skip (by rfl) rfl ?_
   refine Fx.Qt.skip (by rfl) rfl ?_
   refine Fx.Qt.skip (by rfl) rfl ?_
   refine Fx.Qt.v (.bool true) (fun v1 hv1 => Fx.x_pickT rfl rfl rfl) ?_
   refine Fx.Qt.nil ?_
   intro wb1 hbwb1
   have s2 : Fx.Stp w1.heap.size w1 wb1 := Fx.Stp.of_below hbwb1
   have m2 := m1.stp s2 (Nat.ne_of_lt (m1.lt))
   have b2 := s2.below b1 b1.size b1.size
   refine Fx.seqN (Fx.W.cond (b := true) rfl (fun _ => Fx.W.seq (Fx.W.list (Fx.L.v (.bool false) (Fx.x_assign rfl rfl) ?_))) (fun h => nomatch h))
   refine Fx.L.nil (Fx.seqN (Fx.W.ret (Fx.seqR (⟨.bool false, Fx.retV1 Try.results100 (by exact rfl), ?_⟩))))
   have m2 : decide (1 ≤ v.seq) = false := decide_eq_false (by omega)
   exact ⟨congrArg (fun q => Ending.returned (Value.bool q)) (Eq.symm (by unfold mayE; rw [c6, m2]; rfl)), b2⟩
  ·refine Fx.Qt.v (.bool false) (fun v1 hv1 => Fx.x_lssF rfl rfl rfl c11) ?_
   refine Fx.Qt.v (.bool false) (fun v1 hv1 => Fx.x_pickF rfl rfl rfl) ?_
   refine Fx.Qt.v (.bool false) (fun v1 hv1 => Fx.x_move rfl rfl) ?_
   refine Fx.Qt.v (.pointer (some ⟨g1, 1, none⟩)) (fun v1 hv1 => Fx.x_field rfl rfl Try.underlying54 rfl (s := 1) (by kernel_rfl) rfl (by show _ + 1 = _; omega)) ?_
   refine Fx.Qt.v (.int .u64 (v.seq)) (fun v1 hv1 => Fx.x_load1 (x := evY v) rfl rfl (by kernel_rfl) (m1.cel.below hv1 (by have := m1.lt; omega)) (i := 1) (by omega) (by omega) rfl) ?_
   by_cases c16 : 1099511627776 ≤ v.seq
   ·refine Fx.Qt.v (.bool true) (fun v1 hv1 => Fx.x_geqT rfl rfl rfl c16) ?_
    refine Fx.Qt.v (.bool true) (fun v1 hv1 => Fx.x_pickF rfl rfl rfl) ?_
    refine Fx.Qt.v (.bool true) (fun v1 hv1 => Fx.x_move rfl rfl) ?_
    refine Fx.Qt.skip (by rfl) rfl ?_
    refine Fx.Qt.skip (by rfl) rfl ?_
    refine Fx.Qt.skip (by rfl) rfl ?_
    refine Fx.Qt.skip (by rfl) rfl ?_
    refine Fx.Qt.skip (by rfl) rfl ?_
    refine Fx.Qt.skip (by rfl) rfl ?_
    refine Fx.Qt.skip (by rfl) rfl ?_
    refine Fx.Qt.skip (by rfl) rfl ?_
    refine Fx.Qt.skip (by rfl) rfl ?_
    refine Fx.Qt.skip (by rfl) rfl ?_
    refine Fx.Qt.v (.bool true) (fun v1 hv1 => Fx.x_pickT rfl rfl rfl) ?_
    refine Fx.Qt.nil ?_
    intro wb2 hbwb2
    have s3 : Fx.Stp w1.heap.size w1 wb2 := Fx.Stp.of_below hbwb2
    have m3 := m1.stp s3 (Nat.ne_of_lt (m1.lt))
    have b3 := s3.below b1 b1.size b1.size
    refine Fx.seqN (Fx.W.cond (b := true) rfl (fun _ => Fx.W.seq (Fx.W.list (Fx.L.v (.bool false) (Fx.x_assign rfl rfl) ?_))) (fun h => nomatch h))
    refine Fx.L.nil (Fx.seqN (Fx.W.ret (Fx.seqR (⟨.bool false, Fx.retV1 Try.results100 (by exact rfl), ?_⟩))))
    have m2 : decide (1 ≤ v.seq) = true := decide_eq_true (by omega)
    have m3 : decide (v.seq < 1099511627776) = false := decide_eq_false (by omega)
    exact ⟨congrArg (fun q => Ending.returned (Value.bool q)) (Eq.symm (by unfold mayE; rw [c6, m2, m3]; rfl)), b3⟩
   ·refine Fx.Qt.v (.bool false) (fun v1 hv1 => Fx.x_geqF rfl rfl rfl c16) ?_
    refine Fx.Qt.v (.bool false) (fun v1 hv1 => Fx.x_pickF rfl rfl rfl) ?_
    refine Fx.Qt.v (.bool false) (fun v1 hv1 => Fx.x_move rfl rfl) ?_
    refine Fx.Qt.v (.pointer (some ⟨g1, 0, none⟩)) (fun v1 hv1 => Fx.x_field rfl rfl Try.underlying54 rfl (s := 1) (by kernel_rfl) rfl rfl) ?_
    refine Fx.Qt.v (.int .i64 (v.o)) (fun v1 hv1 => Fx.x_load1 (x := evY v) rfl rfl (by kernel_rfl) (m1.cel.below hv1 (by have := m1.lt; omega)) (i := 0) (by omega) (by omega) rfl) ?_
    refine Fx.Qt.v (.int .i64 ((a : Int))) (fun v1 hv1 => Fx.x_sub rfl rfl rfl (Fx.i64e (by omega) (by omega))) ?_
    refine Fx.Qt.v (.pointer (some ⟨g1, 2, none⟩)) (fun v1 hv1 => Fx.x_field rfl rfl Try.underlying54 rfl (s := 6) (by kernel_rfl) rfl (by show _ + 2 = _; omega)) ?_
    refine Fx.Qt.v (.pointer (some ⟨g1, a + 2, none⟩)) (fun v1 hv1 => Fx.x_index rfl rfl rfl Try.underlying29 (s := 1) (by kernel_rfl) (by omega) (by omega) (by omega)) ?_
    refine Fx.Qt.v (.int .u64 (v.deps a)) (fun v1 hv1 => Fx.x_load1 (x := evY v) rfl rfl (by kernel_rfl) (m1.cel.below hv1 (by have := m1.lt; omega)) (i := a + 2) (by omega) (by omega) (evY_deps _ (by omega) (by omega))) ?_
    refine Fx.Qt.v (.pointer (some ⟨g1, 1, none⟩)) (fun v1 hv1 => Fx.x_field rfl rfl Try.underlying54 rfl (s := 1) (by kernel_rfl) rfl (by show _ + 1 = _; omega)) ?_
    refine Fx.Qt.v (.int .u64 (v.seq)) (fun v1 hv1 => Fx.x_load1 (x := evY v) rfl rfl (by kernel_rfl) (m1.cel.below hv1 (by have := m1.lt; omega)) (i := 1) (by omega) (by omega) rfl) ?_
    refine Fx.Qt.v (.int .u64 (v.seq - 1)) (fun v1 hv1 => Fx.x_sub rfl rfl rfl (Fx.u64e (by omega) (by omega))) ?_
    by_cases c28 : (v.deps a) = (v.seq - 1)
    ·refine Fx.Qt.v (.bool false) (fun v1 hv1 => Fx.x_neqF rfl rfl rfl c28) ?_
     refine Fx.Qt.v (.bool false) (fun v1 hv1 => Fx.x_pickF rfl rfl rfl) ?_
     refine Fx.Qt.nil ?_
     intro wb3 hbwb3
     have s4 : Fx.Stp w1.heap.size w1 wb3 := Fx.Stp.of_below hbwb3
     have m4 := m1.stp s4 (Nat.ne_of_lt (m1.lt))
     have b4 := s4.below b1 b1.size b1.size
     refine Fx.seqN (Fx.W.cond (b := false) rfl (fun h => nomatch h) (fun _ => Fx.W.skip (Fx.seqN (Fx.W.seq (Fx.W.seq (Fx.W.list (Fx.L.v (.int .i64 (0)) (Fx.x_assign rfl rfl) ?_)))))))
     refine Fx.L.nil (Fx.seqN (Fx.W.block (Fx.W.loop (fun f w_ => ∃ k : Nat, k ≤ 6 ∧ (∀ i, i < k → v.deps i < 1099511627776) ∧ f 1 = .pointer (some ⟨g1, 0, none⟩) ∧ f 3 = .int .i64 ((k : Int)) ∧ Fx.Blk w_ g1 14 (evY v) 54 ∧ Below w.heap.size w w_) (fun f _ => (6 - (intOf (f 3)).toNat)) ⟨0, by omega, (fun i h => absurd h (by omega)), (by rfl), (by first | rfl | exact congrArg (Value.int .i64) (by omega)), m4, b4⟩ ?_)))
     rintro f1 w2 ⟨k, hk, hall, h1, h2, m5, b5⟩
     refine Fx.W.seq (Fx.W.seq (Fx.W.list (Fx.L.v (.int .i64 ((k : Int))) (Fx.x_move rfl h2) ?_)))
     by_cases c31 : (k : Int) < 6
     ·refine Fx.L.v (.bool true) (Fx.x_lssT rfl rfl rfl c31) ?_
      refine Fx.L.nil (Fx.seqN (Fx.W.cond (b := true) rfl (fun _ => Fx.W.skip (Fx.seqN (Fx.W.seq (Fx.W.block (Fx.W.seq (Fx.W.list (Fx.L.v (.int .i64 ((k : Int))) (Fx.x_move rfl h2) ?_))))))) (fun h => nomatch h)))
      refine Fx.L.v (.pointer (some ⟨g1, 2, none⟩)) (Fx.x_field rfl h1 Try.underlying54 rfl (s := 6) (by kernel_rfl) rfl (by show _ + 2 = _; omega)) ?_
      refine Fx.L.v (.pointer (some ⟨g1, k + 2, none⟩)) (Fx.x_index rfl rfl rfl Try.underlying29 (s := 1) (by kernel_rfl) (by omega) (by omega) (by omega)) ?_
      refine Fx.L.v (.int .u64 (v.deps k)) (Fx.x_load1 (x := evY v) rfl rfl (by kernel_rfl) m5.cel (i := k + 2) (by omega) (by omega) (evY_deps _ (by omega) (by omega))) ?_
      by_cases c38 : 1099511627776 ≤ (v.deps k)
      ·refine Fx.L.v (.bool true) (Fx.x_geqT rfl rfl rfl c38) ?_
       refine Fx.L.nil (Fx.seqN (Fx.W.cond (b := true) rfl (fun _ => Fx.W.seq (Fx.W.list (Fx.L.v (.bool false) (Fx.x_assign rfl rfl) ?_))) (fun h => nomatch h)))
       refine Fx.L.nil (Fx.seqN (Fx.W.ret (Fx.blkR (Fx.seqR (Fx.lpR (Fx.blkR (Fx.seqR (⟨.bool false, Fx.retV1 Try.results100 (by exact rfl), ?_⟩))))))))
       have m2 : decide (1 ≤ v.seq) = true := decide_eq_true (by omega)
       have m3 : decide (v.seq < 1099511627776) = true := decide_eq_true (by omega)
       have m4 : decide (v.deps (v.o - 1).toNat = v.seq - 1) = true := decide_eq_true (by rw [show (v.o - 1).toNat = a by omega]; exact c28)
       have m5 := depsOk_no (by omega) c38
       exact ⟨congrArg (fun q => Ending.returned (Value.bool q)) (Eq.symm (by unfold mayE; rw [c6, m2, m3, m4, m5]; rfl)), b5⟩
      ·refine Fx.L.v (.bool false) (Fx.x_geqF rfl rfl rfl c38) ?_
       refine Fx.L.nil (Fx.seqN (Fx.W.cond (b := false) rfl (fun h => nomatch h) (fun _ => Fx.W.skip (Fx.blkN (Fx.seqN (Fx.W.list (Fx.L.v (.int .i64 ((k : Int))) (Fx.x_move rfl h2) ?_)))))))
       refine Fx.L.v (.int .i64 ((k : Int) + 1)) (Fx.x_add rfl rfl rfl (Fx.i64e (by omega) (by omega))) ?_
       refine Fx.L.v (.int .i64 ((k : Int) + 1)) (Fx.x_assign rfl rfl) ?_
       refine Fx.L.nil (Fx.lpN ⟨k + 1, by omega, (hall_step hall (by omega)), h1, (by first | rfl | exact congrArg (Value.int .i64) (by omega)), m5, b5⟩ ?_)
       show (6 - (intOf ((.int .i64 ((k : Int) + 1)))).toNat) < _
       simp only [h2, intOf]; omega
     ·refine Fx.L.v (.bool false) (Fx.x_lssF rfl rfl rfl c31) ?_
      refine Fx.L.nil (Fx.seqN (Fx.W.cond (b := false) rfl (fun h => nomatch h) (fun _ => Fx.W.exit (Fx.seqX (Fx.lpX (Fx.blkX (Fx.seqN (Fx.W.seq ?_))))))))
      -- region 8 draws
      refine Fx.W.quiet (fun v1 => Below w2.heap.size w2 v1) (by kernel_rfl) (by kernel_rfl) (Below.refl _ _).drew ?_
      refine Fx.Qt.v (.agg (Fx.varr 14 (evY v))) (fun v1 hv1 => Fx.x_loadA (x := evY v) (y := evY v) rfl h1 (by kernel_rfl) (by kernel_rfl) (m5.cel.below hv1 (by have := m5.lt; omega)) (i := 0) (by omega) (by omega) (fun j _ => by rw [Nat.zero_add])) ?_
      refine Fx.Qt.v (.agg (Fx.varr 14 (evY v))) (fun v1 hv1 => Fx.x_loadA (x := evY v) (y := evY v) rfl h1 (by kernel_rfl) (by kernel_rfl) (m5.cel.below hv1 (by have := m5.lt; omega)) (i := 0) (by omega) (by omega) (fun j _ => by rw [Nat.zero_add])) ?_
      refine Fx.Qt.call (v := .agg (Fx.varr 14 (evY (ownE v)))) (by rfl) (fun v1 hv1 => Fx.r_call (args := [.agg (Fx.varr 14 (evY v))]) rfl rfl Try.func118 rfl rfl) rfl (fun v1 hv1 => (e_own v _).mono fun e v2 h => ⟨h.1, bch hv1 h.2⟩) ?_
      by_cases c42 : ∀ i, i < 14 → (evY v) i = (evY (ownE v)) i
      ·refine Fx.Qt.v (.bool true) (fun v1 hv1 => Fx.x_eqlA (n := 14) (ks := [(some .i64), (some .u64), (some .u64), (some .u64), (some .u64), (some .u64), (some .u64), (some .u64), (some .u8), (some .u64), (some .i64), (some .i64), (some .u64), (some .u64)]) (X := evY v) (Y := evY (ownE v)) 12 true rfl rfl rfl (Fx.yesb c42) (kd_ev hv) (kd_ev hv.own) rfl (by kernel_rfl) (by kernel_rfl) (by kernel_rfl) (by kernel_rfl) (by kernel_rfl)) ?_
       refine Fx.Qt.v (.bool true) (fun v1 hv1 => Fx.x_move rfl rfl) ?_
       refine Fx.Qt.v (.agg (Fx.varr 14 (evY v))) (fun v1 hv1 => Fx.x_loadA (x := evY v) (y := evY v) rfl h1 (by kernel_rfl) (by kernel_rfl) (m5.cel.below hv1 (by have := m5.lt; omega)) (i := 0) (by omega) (by omega) (fun j _ => by rw [Nat.zero_add])) ?_
       by_cases c45 : (fieldsE v) = true
       ·refine Fx.Qt.call (v := .bool true) (by rfl) (fun v1 hv1 => Fx.r_call (args := [.agg (Fx.varr 14 (evY v))]) rfl rfl Try.func119 rfl rfl) rfl (fun v1 hv1 => (e_fields v _).mono fun e v2 h => ⟨by rw [h.1, c45], bch hv1 h.2⟩) ?_
        refine Fx.Qt.v (.bool true) (fun v1 hv1 => Fx.x_pickT rfl rfl rfl) ?_
        refine Fx.Qt.v (.bool true) (fun v1 hv1 => Fx.x_assign rfl rfl) ?_
        refine Fx.Qt.nil ?_
        intro wb4 hbwb4
        have s5 : Fx.Stp w2.heap.size w2 wb4 := Fx.Stp.of_below hbwb4
        have m6 := m5.stp s5 (Nat.ne_of_lt (m5.lt))
        have b6 := s5.below b5 b5.size b5.size
        refine Fx.seqN (Fx.W.ret (⟨.bool true, Fx.retV1 Try.results100 (by exact rfl), ?_⟩))
        have m2 : decide (1 ≤ v.seq) = true := decide_eq_true (by omega)
        have m3 : decide (v.seq < 1099511627776) = true := decide_eq_true (by omega)
        have m4 : decide (v.deps (v.o - 1).toNat = v.seq - 1) = true := decide_eq_true (by rw [show (v.o - 1).toNat = a by omega]; exact c28)
        have m5 := depsOk_yes c31 hall
        have m6 := (sameE_iff v).2 c42
        exact ⟨congrArg (fun q => Ending.returned (Value.bool q)) (Eq.symm (by unfold mayE; rw [c6, m2, m3, m4, m5, m6, c45]; rfl)), b6⟩
       ·rw [Bool.not_eq_true] at c45
        refine Fx.Qt.call (v := .bool false) (by rfl) (fun v1 hv1 => Fx.r_call (args := [.agg (Fx.varr 14 (evY v))]) rfl rfl Try.func119 rfl rfl) rfl (fun v1 hv1 => (e_fields v _).mono fun e v2 h => ⟨by rw [h.1, c45], bch hv1 h.2⟩) ?_
        refine Fx.Qt.v (.bool false) (fun v1 hv1 => Fx.x_pickT rfl rfl rfl) ?_
        refine Fx.Qt.v (.bool false) (fun v1 hv1 => Fx.x_assign rfl rfl) ?_
        refine Fx.Qt.nil ?_
        intro wb5 hbwb5
        have s6 : Fx.Stp w2.heap.size w2 wb5 := Fx.Stp.of_below hbwb5
        have m7 := m5.stp s6 (Nat.ne_of_lt (m5.lt))
        have b7 := s6.below b5 b5.size b5.size
        refine Fx.seqN (Fx.W.ret (⟨.bool false, Fx.retV1 Try.results100 (by exact rfl), ?_⟩))
        have m2 : decide (1 ≤ v.seq) = true := decide_eq_true (by omega)
        have m3 : decide (v.seq < 1099511627776) = true := decide_eq_true (by omega)
        have m4 : decide (v.deps (v.o - 1).toNat = v.seq - 1) = true := decide_eq_true (by rw [show (v.o - 1).toNat = a by omega]; exact c28)
        have m5 := depsOk_yes c31 hall
        have m6 := (sameE_iff v).2 c42
        exact ⟨congrArg (fun q => Ending.returned (Value.bool q)) (Eq.symm (by unfold mayE; rw [c6, m2, m3, m4, m5, m6, c45]; rfl)), b7⟩
      ·refine Fx.Qt.v (.bool false) (fun v1 hv1 => Fx.x_eqlA (n := 14) (ks := [(some .i64), (some .u64), (some .u64), (some .u64), (some .u64), (some .u64), (some .u64), (some .u64), (some .u8), (some .u64), (some .i64), (some .i64), (some .u64), (some .u64)]) (X := evY v) (Y := evY (ownE v)) 12 false rfl rfl rfl (Fx.nob c42) (kd_ev hv) (kd_ev hv.own) rfl (by kernel_rfl) (by kernel_rfl) (by kernel_rfl) (by kernel_rfl) (by kernel_rfl)) ?_
       refine Fx.Qt.v (.bool false) (fun v1 hv1 => Fx.x_move rfl rfl) ?_
       refine Fx.Qt.skip (by rfl) rfl ?_
       refine Fx.Qt.skip (by rfl) rfl ?_
       refine Fx.Qt.v (.bool false) (fun v1 hv1 => Fx.x_pickF rfl rfl rfl) ?_
       refine Fx.Qt.v (.bool false) (fun v1 hv1 => Fx.x_assign rfl rfl) ?_
       refine Fx.Qt.nil ?_
       intro wb6 hbwb6
       have s7 : Fx.Stp w2.heap.size w2 wb6 := Fx.Stp.of_below hbwb6
       have m8 := m5.stp s7 (Nat.ne_of_lt (m5.lt))
       have b8 := s7.below b5 b5.size b5.size
       refine Fx.seqN (Fx.W.ret (⟨.bool false, Fx.retV1 Try.results100 (by exact rfl), ?_⟩))
       have m2 : decide (1 ≤ v.seq) = true := decide_eq_true (by omega)
       have m3 : decide (v.seq < 1099511627776) = true := decide_eq_true (by omega)
       have m4 : decide (v.deps (v.o - 1).toNat = v.seq - 1) = true := decide_eq_true (by rw [show (v.o - 1).toNat = a by omega]; exact c28)
       have m5 := depsOk_yes c31 hall
       have m6 : sameE v = false := Bool.eq_false_iff.2 (fun h => c42 ((sameE_iff v).1 h))
       exact ⟨congrArg (fun q => Ending.returned (Value.bool q)) (Eq.symm (by unfold mayE; rw [c6, m2, m3, m4, m5, m6]; rfl)), b8⟩
    ·refine Fx.Qt.v (.bool true) (fun v1 hv1 => Fx.x_neqT rfl rfl rfl c28) ?_
     refine Fx.Qt.v (.bool true) (fun v1 hv1 => Fx.x_pickF rfl rfl rfl) ?_
     refine Fx.Qt.nil ?_
     intro wb7 hbwb7
     have s8 : Fx.Stp w1.heap.size w1 wb7 := Fx.Stp.of_below hbwb7
     have m9 := m1.stp s8 (Nat.ne_of_lt (m1.lt))
     have b9 := s8.below b1 b1.size b1.size
     refine Fx.seqN (Fx.W.cond (b := true) rfl (fun _ => Fx.W.seq (Fx.W.list (Fx.L.v (.bool false) (Fx.x_assign rfl rfl) ?_))) (fun h => nomatch h))
     refine Fx.L.nil (Fx.seqN (Fx.W.ret (Fx.seqR (⟨.bool false, Fx.retV1 Try.results100 (by exact rfl), ?_⟩))))
     have m2 : decide (1 ≤ v.seq) = true := decide_eq_true (by omega)
     have m3 : decide (v.seq < 1099511627776) = true := decide_eq_true (by omega)
     have m4 : decide (v.deps (v.o - 1).toNat = v.seq - 1) = false := decide_eq_false (by rw [show (v.o - 1).toNat = a by omega]; exact c28)
     exact ⟨congrArg (fun q => Ending.returned (Value.bool q)) (Eq.symm (by unfold mayE; rw [c6, m2, m3, m4]; rfl)), b9⟩
 ·rw [Bool.not_eq_true] at c6
  refine Fx.Qt.call (v := .bool false) (by rfl) (fun v1 hv1 => Fx.r_call (args := [.int .i64 (v.o)]) rfl rfl Try.func117 rfl rfl) rfl (fun v1 hv1 => (e_region v.o _).mono fun e v2 h => ⟨by rw [h.1, c6], by rw [h.2]; exact hv1⟩) ?_
  refine Fx.Qt.v (.bool true) (fun v1 hv1 => Fx.x_notT rfl rfl) ?_
  refine Fx.Qt.v (.bool true) (fun v1 hv1 => Fx.x_move rfl rfl) ?_
  refine Fx.Qt.skip (by rfl) rfl ?_
  refine Fx.Qt.skip (by rfl) rfl ?_
  refine Fx.Qt.skip (by rfl) rfl ?_
  refine Fx.Qt.v (.bool true) (fun v1 hv1 => Fx.x_pickT rfl rfl rfl) ?_
  refine Fx.Qt.v (.bool true) (fun v1 hv1 => Fx.x_move rfl rfl) ?_
  refine Fx.Qt.skip (by rfl) rfl ?_
  refine Fx.Qt.skip (by rfl) rfl ?_
  refine Fx.Qt.skip (by rfl) rfl ?_
  refine Fx.Qt.v (.bool true) (fun v1 hv1 => Fx.x_pickT rfl rfl rfl) ?_
  refine Fx.Qt.v (.bool true) (fun v1 hv1 => Fx.x_move rfl rfl) ?_
  refine Fx.Qt.skip (by rfl) rfl ?_
  refine Fx.Qt.skip (by rfl) rfl ?_
  refine Fx.Qt.skip (by rfl) rfl ?_
  refine Fx.Qt.skip (by rfl) rfl ?_
  refine Fx.Qt.skip (by rfl) rfl ?_
  refine Fx.Qt.skip (by rfl) rfl ?_
  refine Fx.Qt.skip (by rfl) rfl ?_
  refine Fx.Qt.skip (by rfl) rfl ?_
  refine Fx.Qt.skip (by rfl) rfl ?_
  refine Fx.Qt.skip (by rfl) rfl ?_
  refine Fx.Qt.v (.bool true) (fun v1 hv1 => Fx.x_pickT rfl rfl rfl) ?_
  refine Fx.Qt.nil ?_
  intro wb8 hbwb8
  have s9 : Fx.Stp w1.heap.size w1 wb8 := Fx.Stp.of_below hbwb8
  have m10 := m1.stp s9 (Nat.ne_of_lt (m1.lt))
  have b10 := s9.below b1 b1.size b1.size
  refine Fx.seqN (Fx.W.cond (b := true) rfl (fun _ => Fx.W.seq (Fx.W.list (Fx.L.v (.bool false) (Fx.x_assign rfl rfl) ?_))) (fun h => nomatch h))
  refine Fx.L.nil (Fx.seqN (Fx.W.ret (Fx.seqR (⟨.bool false, Fx.retV1 Try.results100 (by exact rfl), ?_⟩))))
  exact ⟨congrArg (fun q => Ending.returned (Value.bool q)) (Eq.symm (by unfold mayE; rw [c6]; rfl)), b10⟩
end Go.Proofs.Ytolmkjepieoloaa
namespace Go.Proofs.Ytolmkjepieoloaa
open Go.RowKit Rt
namespace Rt
def lateE (K : Nat → Int) (v : EvM) : Bool := mayE v && decide (v.seq ≤ K (v.o - 1).toNat)
def leAll (D K : Nat → Int) : Bool := (List.range 6).all fun i => decide (D i ≤ K i)
def readyE (K : Nat → Int) (v : EvM) : Bool := mayE v && decide (v.seq = K (v.o - 1).toNat + 1) && leAll v.deps K
theorem leAll_no {D K : Nat → Int} {k : Nat} (hk : k < 6) (h : K k < D k) : leAll D K = false := by
  unfold leAll; rw [List.all_eq_false]; exact ⟨k, List.mem_range.2 hk, by simp; omega⟩
theorem leAll_yes {D K : Nat → Int} {k : Nat} (hk : ¬ (k : Int) < 6) (h : ∀ i, i < k → D i ≤ K i) : leAll D K = true := by
  unfold leAll; rw [List.all_eq_true]; intro i hi; have := List.mem_range.1 hi; simp; exact h i (by omega)
theorem le_step {D K : Nat → Int} {k : Nat} (h : ∀ i, i < k → D i ≤ K i) (hk : ¬ K k < D k) : ∀ i, i < k + 1 → D i ≤ K i := fun i hi => by
  by_cases e : i = k
  · subst e; omega
  · exact h i (by omega)
def KnOk (K : Nat → Int) : Prop := ∀ i, i < 6 → 0 ≤ K i ∧ K i < 1099511627776
theorem may_seq {v : EvM} (h : mayE v = true) : 1 ≤ v.seq ∧ v.seq < 1099511627776 := by
  unfold mayE at h; simp only [Bool.and_eq_true, decide_eq_true_eq] at h; exact ⟨h.1.1.1.1.1.2, h.1.1.1.1.2⟩
end Rt
theorem e_late (K : Nat → Int) (v : EvM) (w : World) (hv : EvWf v) :
    Calls Try.prog 101 #[.agg (Fx.varr 6 (Fx.rv .u64 K)), .agg (Fx.varr 14 (evY v))] w fun e w' => e = .returned (.bool (lateE K v)) ∧ Below w.heap.size w w' := by
 refine Fx.enter Try.func101 rfl (n := 17) rfl (by rfl) ?_
 refine Fx.W.seq (Fx.W.list (Fx.L.box (m := 6) (y := Fx.rv .u64 K) (by rfl) rfl rfl (Fx.cells_agg _ _) rfl fun g1 w1 eg1 m1 s1 z1 => ?_))
 have b1 := s1.below (Below.refl w.heap.size w) (Below.refl w.heap.size w).size (Below.refl w.heap.size w).size
 have lg1 : w.heap.size ≤ g1 := by rw [eg1]; exact (Below.refl w.heap.size w).size
 have tg1 : g1 < w1.heap.size := m1.lt
 clear eg1
 refine Fx.L.box (m := 14) (y := evY v) (by rfl) rfl rfl (Fx.cells_agg _ _) rfl fun g2 w2 eg2 m2 s2 z2 => ?_
 have m3 := m1.stp s2 (Nat.ne_of_lt (m1.lt))
 have b2 := s2.below b1 b1.size b1.size
 have lg2 : w.heap.size ≤ g2 := by rw [eg2]; exact b1.size
 have ng2m3 : g1 ≠ g2 := by rw [eg2]; exact Nat.ne_of_lt (m1.lt)
 have tg2 : g2 < w2.heap.size := m2.lt
 clear eg2
 refine Fx.L.v (.bool false) (Fx.x_assign rfl rfl) ?_
 refine Fx.L.nil (Fx.seqN (Fx.W.seq ?_))
 -- region 1 draws
 refine Fx.W.quiet (fun v1 => Below w2.heap.size w2 v1) (by kernel_rfl) (by kernel_rfl) (Below.refl _ _).drew ?_
 refine Fx.Qt.v (.agg (Fx.varr 14 (evY v))) (fun v1 hv1 => Fx.x_loadA (x := evY v) (y := evY v) rfl rfl (by kernel_rfl) (by kernel_rfl) (m2.cel.below hv1 (by have := m2.lt; omega)) (i := 0) (by omega) (by omega) (fun j _ => by rw [Nat.zero_add])) ?_
 by_cases c6 : (mayE v) = true
 ·obtain ⟨a, ha, ea⟩ := regE_nat (may_reg c6)
  refine Fx.Qt.call (v := .bool true) (by rfl) (fun v1 hv1 => Fx.r_call (args := [.agg (Fx.varr 14 (evY v))]) rfl rfl Try.func100 rfl rfl) rfl (fun v1 hv1 => (e_may v _ hv).mono fun e v2 h => ⟨by rw [h.1, c6], bch hv1 h.2⟩) ?_
  refine Fx.Qt.v (.bool true) (fun v1 hv1 => Fx.x_move rfl rfl) ?_
  refine Fx.Qt.v (.pointer (some ⟨g2, 1, none⟩)) (fun v1 hv1 => Fx.x_field rfl rfl Try.underlying54 rfl (s := 1) (by kernel_rfl) rfl (by show _ + 1 = _; omega)) ?_
  refine Fx.Qt.v (.int .u64 (v.seq)) (fun v1 hv1 => Fx.x_load1 (x := evY v) rfl rfl (by kernel_rfl) (m2.cel.below hv1 (by have := m2.lt; omega)) (i := 1) (by omega) (by omega) rfl) ?_
  refine Fx.Qt.v (.pointer (some ⟨g2, 0, none⟩)) (fun v1 hv1 => Fx.x_field rfl rfl Try.underlying54 rfl (s := 1) (by kernel_rfl) rfl rfl) ?_
  refine Fx.Qt.v (.int .i64 (v.o)) (fun v1 hv1 => Fx.x_load1 (x := evY v) rfl rfl (by kernel_rfl) (m2.cel.below hv1 (by have := m2.lt; omega)) (i := 0) (by omega) (by omega) rfl) ?_
  refine Fx.Qt.v (.int .i64 ((a : Int))) (fun v1 hv1 => Fx.x_sub rfl rfl rfl (Fx.i64e (by omega) (by omega))) ?_
  refine Fx.Qt.v (.pointer (some ⟨g1, a, none⟩)) (fun v1 hv1 => Fx.x_index rfl rfl rfl Try.underlying29 (s := 1) (by kernel_rfl) (by omega) (by omega) (by omega)) ?_
  refine Fx.Qt.v (.int .u64 (K a)) (fun v1 hv1 => Fx.x_load1 (x := Fx.rv .u64 K) rfl rfl (by kernel_rfl) (m3.cel.below hv1 (by have := m3.lt; omega)) (i := a) (by omega) (by omega) rfl) ?_
  by_cases c15 : v.seq ≤ (K a)
  ·refine Fx.Qt.v (.bool true) (fun v1 hv1 => Fx.x_leqT rfl rfl rfl c15) ?_
   refine Fx.Qt.v (.bool true) (fun v1 hv1 => Fx.x_pickT rfl rfl rfl) ?_
   refine Fx.Qt.v (.bool true) (fun v1 hv1 => Fx.x_assign rfl rfl) ?_
   refine Fx.Qt.nil ?_
   intro wb1 hbwb1
   have s3 : Fx.Stp w2.heap.size w2 wb1 := Fx.Stp.of_below hbwb1
   have m4 := m3.stp s3 (Nat.ne_of_lt (m3.lt))
   have m5 := m2.stp s3 (Nat.ne_of_lt (m2.lt))
   have b3 := s3.below b2 b2.size b2.size
   refine Fx.seqN (Fx.W.ret (⟨.bool true, Fx.retV1 Try.results101 (by exact rfl), ?_⟩))
   have m2 : decide (v.seq ≤ K (v.o - 1).toNat) = true := decide_eq_true (by rw [show (v.o - 1).toNat = a by omega]; exact c15)
   exact ⟨congrArg (fun q => Ending.returned (Value.bool q)) (Eq.symm (by unfold lateE; rw [c6, m2]; rfl)), b3⟩
  ·refine Fx.Qt.v (.bool false) (fun v1 hv1 => Fx.x_leqF rfl rfl rfl c15) ?_
   refine Fx.Qt.v (.bool false) (fun v1 hv1 => Fx.x_pickT rfl rfl rfl) ?_
   refine Fx.Qt.v (.bool false) (fun v1 hv1 => Fx.x_assign rfl rfl) ?_
   refine Fx.Qt.nil ?_
   intro wb2 hbwb2
   have s4 : Fx.Stp w2.heap.size w2 wb2 := Fx.Stp.of_below hbwb2
   have m6 := m3.stp s4 (Nat.ne_of_lt (m3.lt))
   have m7 := m2.stp s4 (Nat.ne_of_lt (m2.lt))
   have b4 := s4.below b2 b2.size b2.size
   refine Fx.seqN (Fx.W.ret (⟨.bool false, Fx.retV1 Try.results101 (by exact rfl), ?_⟩))
   have m2 : decide (v.seq ≤ K (v.o - 1).toNat) = false := decide_eq_false (by rw [show (v.o - 1).toNat = a by omega]; exact c15)
   exact ⟨congrArg (fun q => Ending.returned (Value.bool q)) (Eq.symm (by unfold lateE; rw [c6, m2]; rfl)), b4⟩
 ·rw [Bool.not_eq_true] at c6
  refine Fx.Qt.call (v := .bool false) (by rfl) (fun v1 hv1 => Fx.r_call (args := [.agg (Fx.varr 14 (evY v))]) rfl rfl Try.func100 rfl rfl) rfl (fun v1 hv1 => (e_may v _ hv).mono fun e v2 h => ⟨by rw [h.1, c6], bch hv1 h.2⟩) ?_
  refine Fx.Qt.v (.bool false) (fun v1 hv1 => Fx.x_move rfl rfl) ?_
  refine Fx.Qt.skip (by rfl) rfl ?_
  refine Fx.Qt.skip (by rfl) rfl ?_
  refine Fx.Qt.skip (by rfl) rfl ?_
  refine Fx.Qt.skip (by rfl) rfl ?_
  refine Fx.Qt.skip (by rfl) rfl ?_
  refine Fx.Qt.skip (by rfl) rfl ?_
  refine Fx.Qt.skip (by rfl) rfl ?_
  refine Fx.Qt.skip (by rfl) rfl ?_
  refine Fx.Qt.v (.bool false) (fun v1 hv1 => Fx.x_pickF rfl rfl rfl) ?_
  refine Fx.Qt.v (.bool false) (fun v1 hv1 => Fx.x_assign rfl rfl) ?_
  refine Fx.Qt.nil ?_
  intro wb3 hbwb3
  have s5 : Fx.Stp w2.heap.size w2 wb3 := Fx.Stp.of_below hbwb3
  have m8 := m3.stp s5 (Nat.ne_of_lt (m3.lt))
  have m9 := m2.stp s5 (Nat.ne_of_lt (m2.lt))
  have b5 := s5.below b2 b2.size b2.size
  refine Fx.seqN (Fx.W.ret (⟨.bool false, Fx.retV1 Try.results101 (by exact rfl), ?_⟩))
  exact ⟨congrArg (fun q => Ending.returned (Value.bool q)) (Eq.symm (by unfold lateE; rw [c6]; rfl)), b5⟩
theorem e_ready (K : Nat → Int) (v : EvM) (w : World) (hv : EvWf v) (hK : KnOk K) :
    Calls Try.prog 102 #[.agg (Fx.varr 6 (Fx.rv .u64 K)), .agg (Fx.varr 14 (evY v))] w fun e w' => e = .returned (.bool (readyE K v)) ∧ Below w.heap.size w w' := by
 refine Fx.enter Try.func102 rfl (n := 32) rfl (by rfl) ?_
 refine Fx.W.seq (Fx.W.list (Fx.L.box (m := 6) (y := Fx.rv .u64 K) (by rfl) rfl rfl (Fx.cells_agg _ _) rfl fun g1 w1 eg1 m1 s1 z1 => ?_))
 have b1 := s1.below (Below.refl w.heap.size w) (Below.refl w.heap.size w).size (Below.refl w.heap.size w).size
 have lg1 : w.heap.size ≤ g1 := by rw [eg1]; exact (Below.refl w.heap.size w).size
 have tg1 : g1 < w1.heap.size := m1.lt
 clear eg1
 refine Fx.L.box (m := 14) (y := evY v) (by rfl) rfl rfl (Fx.cells_agg _ _) rfl fun g2 w2 eg2 m2 s2 z2 => ?_
 have m3 := m1.stp s2 (Nat.ne_of_lt (m1.lt))
 have b2 := s2.below b1 b1.size b1.size
 have lg2 : w.heap.size ≤ g2 := by rw [eg2]; exact b1.size
 have ng2m3 : g1 ≠ g2 := by rw [eg2]; exact Nat.ne_of_lt (m1.lt)
 have tg2 : g2 < w2.heap.size := m2.lt
 clear eg2
 refine Fx.L.v (.bool false) (Fx.x_assign rfl rfl) ?_
 refine Fx.L.nil (Fx.seqN (Fx.W.seq (Fx.W.seq ?_)))
 -- region 1 draws
 refine Fx.W.quiet (fun v1 => Below w2.heap.size w2 v1) (by kernel_rfl) (by kernel_rfl) (Below.refl _ _).drew ?_
 refine Fx.Qt.v (.agg (Fx.varr 14 (evY v))) (fun v1 hv1 => Fx.x_loadA (x := evY v) (y := evY v) rfl rfl (by kernel_rfl) (by kernel_rfl) (m2.cel.below hv1 (by have := m2.lt; omega)) (i := 0) (by omega) (by omega) (fun j _ => by rw [Nat.zero_add])) ?_
 by_cases c7 : (mayE v) = true
 ·obtain ⟨a, ha, ea⟩ := regE_nat (may_reg c7)
  have ka := hK a ha
  refine Fx.Qt.call (v := .bool true) (by rfl) (fun v1 hv1 => Fx.r_call (args := [.agg (Fx.varr 14 (evY v))]) rfl rfl Try.func100 rfl rfl) rfl (fun v1 hv1 => (e_may v _ hv).mono fun e v2 h => ⟨by rw [h.1, c7], bch hv1 h.2⟩) ?_
  refine Fx.Qt.v (.bool false) (fun v1 hv1 => Fx.x_notF rfl rfl) ?_
  refine Fx.Qt.v (.bool false) (fun v1 hv1 => Fx.x_move rfl rfl) ?_
  refine Fx.Qt.v (.pointer (some ⟨g2, 1, none⟩)) (fun v1 hv1 => Fx.x_field rfl rfl Try.underlying54 rfl (s := 1) (by kernel_rfl) rfl (by show _ + 1 = _; omega)) ?_
  refine Fx.Qt.v (.int .u64 (v.seq)) (fun v1 hv1 => Fx.x_load1 (x := evY v) rfl rfl (by kernel_rfl) (m2.cel.below hv1 (by have := m2.lt; omega)) (i := 1) (by omega) (by omega) rfl) ?_
  refine Fx.Qt.v (.pointer (some ⟨g2, 0, none⟩)) (fun v1 hv1 => Fx.x_field rfl rfl Try.underlying54 rfl (s := 1) (by kernel_rfl) rfl rfl) ?_
  refine Fx.Qt.v (.int .i64 (v.o)) (fun v1 hv1 => Fx.x_load1 (x := evY v) rfl rfl (by kernel_rfl) (m2.cel.below hv1 (by have := m2.lt; omega)) (i := 0) (by omega) (by omega) rfl) ?_
  refine Fx.Qt.v (.int .i64 ((a : Int))) (fun v1 hv1 => Fx.x_sub rfl rfl rfl (Fx.i64e (by omega) (by omega))) ?_
  refine Fx.Qt.v (.pointer (some ⟨g1, a, none⟩)) (fun v1 hv1 => Fx.x_index rfl rfl rfl Try.underlying29 (s := 1) (by kernel_rfl) (by omega) (by omega) (by omega)) ?_
  refine Fx.Qt.v (.int .u64 (K a)) (fun v1 hv1 => Fx.x_load1 (x := Fx.rv .u64 K) rfl rfl (by kernel_rfl) (m3.cel.below hv1 (by have := m3.lt; omega)) (i := a) (by omega) (by omega) rfl) ?_
  refine Fx.Qt.v (.int .u64 ((K a) + 1)) (fun v1 hv1 => Fx.x_add rfl rfl rfl (Fx.u64e (by omega) (by omega))) ?_
  by_cases c18 : v.seq = ((K a) + 1)
  ·refine Fx.Qt.v (.bool false) (fun v1 hv1 => Fx.x_neqF rfl rfl rfl c18) ?_
   refine Fx.Qt.v (.bool false) (fun v1 hv1 => Fx.x_pickF rfl rfl rfl) ?_
   refine Fx.Qt.nil ?_
   intro wb1 hbwb1
   have s3 : Fx.Stp w2.heap.size w2 wb1 := Fx.Stp.of_below hbwb1
   have m4 := m3.stp s3 (Nat.ne_of_lt (m3.lt))
   have m5 := m2.stp s3 (Nat.ne_of_lt (m2.lt))
   have b3 := s3.below b2 b2.size b2.size
   refine Fx.seqN (Fx.W.cond (b := false) rfl (fun h => nomatch h) (fun _ => Fx.W.skip (Fx.seqN (Fx.W.seq (Fx.W.seq (Fx.W.list (Fx.L.v (.int .i64 (0)) (Fx.x_assign rfl rfl) ?_)))))))
   refine Fx.L.nil (Fx.seqN (Fx.W.block (Fx.W.loop (fun f w_ => ∃ k : Nat, k ≤ 6 ∧ (∀ i, i < k → v.deps i ≤ K i) ∧ f 2 = .pointer (some ⟨g1, 0, none⟩) ∧ f 3 = .pointer (some ⟨g2, 0, none⟩) ∧ f 5 = .int .i64 ((k : Int)) ∧ Fx.Blk w_ g1 6 (Fx.rv .u64 K) 29 ∧ Fx.Blk w_ g2 14 (evY v) 54 ∧ Below w.heap.size w w_) (fun f _ => (6 - (intOf (f 5)).toNat)) ⟨0, by omega, (fun i h => absurd h (by omega)), (by rfl), (by rfl), (by first | rfl | exact congrArg (Value.int .i64) (by omega)), m4, m5, b3⟩ ?_)))
   rintro f1 w3 ⟨k, hk, hall, h1, h2, h3, m6, m7, b4⟩
   refine Fx.W.seq (Fx.W.seq (Fx.W.list (Fx.L.v (.int .i64 ((k : Int))) (Fx.x_move rfl h3) ?_)))
   by_cases c21 : (k : Int) < 6
   ·refine Fx.L.v (.bool true) (Fx.x_lssT rfl rfl rfl c21) ?_
    refine Fx.L.nil (Fx.seqN (Fx.W.cond (b := true) rfl (fun _ => Fx.W.skip (Fx.seqN (Fx.W.seq (Fx.W.block (Fx.W.seq ?_))))) (fun h => nomatch h)))
    -- region 6 draws
    refine Fx.W.quiet (fun v1 => ∃ q, v1 = World.drewN w3 q) (by kernel_rfl) (by kernel_rfl) ⟨1, rfl⟩ ?_
    refine Fx.Qt.v (.int .i64 ((k : Int))) (fun v1 hv1 => Fx.x_move rfl h3) ?_
    refine Fx.Qt.v (.pointer (some ⟨g2, 2, none⟩)) (fun v1 hv1 => Fx.x_field rfl h2 Try.underlying54 rfl (s := 6) (by kernel_rfl) rfl (by show _ + 2 = _; omega)) ?_
    refine Fx.Qt.v (.pointer (some ⟨g2, k + 2, none⟩)) (fun v1 hv1 => Fx.x_index rfl rfl rfl Try.underlying29 (s := 1) (by kernel_rfl) (by omega) (by omega) (by omega)) ?_
    refine Fx.Qt.v (.int .u64 (v.deps k)) (fun v1 hv1 => Fx.x_load1 (x := evY v) rfl rfl (by kernel_rfl) (by obtain ⟨qd, rfl⟩ := hv1; exact m7.cel) (i := k + 2) (by omega) (by omega) (evY_deps _ (by omega) (by omega))) ?_
    refine Fx.Qt.v (.int .i64 ((k : Int))) (fun v1 hv1 => Fx.x_move rfl h3) ?_
    refine Fx.Qt.v (.pointer (some ⟨g1, k, none⟩)) (fun v1 hv1 => Fx.x_index rfl h1 rfl Try.underlying29 (s := 1) (by kernel_rfl) (by omega) (by omega) (by omega)) ?_
    refine Fx.Qt.v (.int .u64 (K k)) (fun v1 hv1 => Fx.x_load1 (x := Fx.rv .u64 K) rfl rfl (by kernel_rfl) (by obtain ⟨qd, rfl⟩ := hv1; exact m6.cel) (i := k) (by omega) (by omega) rfl) ?_
    by_cases c31 : (K k) < (v.deps k)
    ·refine Fx.Qt.v (.bool true) (fun v1 hv1 => Fx.x_gtrT rfl rfl rfl c31) ?_
     refine Fx.Qt.nil ?_
     rintro _ ⟨qd, rfl⟩
     obtain ⟨wq1, ewq1⟩ : ∃ v1, v1 = World.drewN w3 qd := ⟨_, rfl⟩
     rw [← ewq1]
     have s4 : Fx.Stp w3.heap.size w3 wq1 := by rw [ewq1]; exact Fx.Stp.of_below (bdrN w3 qd)
     have m8 := m6.stp s4 (Nat.ne_of_lt (m6.lt))
     have m9 := m7.stp s4 (Nat.ne_of_lt (m7.lt))
     have b5 := s4.below b4 b4.size b4.size
     clear ewq1
     refine Fx.seqN (Fx.W.cond (b := true) rfl (fun _ => Fx.W.seq (Fx.W.list (Fx.L.v (.bool false) (Fx.x_assign rfl rfl) ?_))) (fun h => nomatch h))
     refine Fx.L.nil (Fx.seqN (Fx.W.ret (Fx.blkR (Fx.seqR (Fx.lpR (Fx.blkR (Fx.seqR (⟨.bool false, Fx.retV1 Try.results102 (by exact rfl), ?_⟩))))))))
     have m2 : decide (v.seq = K (v.o - 1).toNat + 1) = true := decide_eq_true (by rw [show (v.o - 1).toNat = a by omega]; exact c18)
     have m3 := leAll_no (by omega) c31
     exact ⟨congrArg (fun q => Ending.returned (Value.bool q)) (Eq.symm (by unfold readyE; rw [c7, m2, m3]; rfl)), b5⟩
    ·refine Fx.Qt.v (.bool false) (fun v1 hv1 => Fx.x_gtrF rfl rfl rfl c31) ?_
     refine Fx.Qt.nil ?_
     rintro _ ⟨qd, rfl⟩
     obtain ⟨wq2, ewq2⟩ : ∃ v1, v1 = World.drewN w3 qd := ⟨_, rfl⟩
     rw [← ewq2]
     have s5 : Fx.Stp w3.heap.size w3 wq2 := by rw [ewq2]; exact Fx.Stp.of_below (bdrN w3 qd)
     have m10 := m6.stp s5 (Nat.ne_of_lt (m6.lt))
     have m11 := m7.stp s5 (Nat.ne_of_lt (m7.lt))
     have b6 := s5.below b4 b4.size b4.size
     clear ewq2
     refine Fx.seqN (Fx.W.cond (b := false) rfl (fun h => nomatch h) (fun _ => Fx.W.skip (Fx.blkN (Fx.seqN (Fx.W.list (Fx.L.v (.int .i64 ((k : Int))) (Fx.x_move rfl h3) ?_))))))
     refine Fx.L.v (.int .i64 ((k : Int) + 1)) (Fx.x_add rfl rfl rfl (Fx.i64e (by omega) (by omega))) ?_
     refine Fx.L.v (.int .i64 ((k : Int) + 1)) (Fx.x_assign rfl rfl) ?_
     refine Fx.L.nil (Fx.lpN ⟨k + 1, by omega, (le_step hall c31), h1, h2, (by first | rfl | exact congrArg (Value.int .i64) (by omega)), m10, m11, b6⟩ ?_)
     show (6 - (intOf ((.int .i64 ((k : Int) + 1)))).toNat) < _
     simp only [h3, intOf]; omega
   ·refine Fx.L.v (.bool false) (Fx.x_lssF rfl rfl rfl c21) ?_
    refine Fx.L.nil (Fx.seqN (Fx.W.cond (b := false) rfl (fun h => nomatch h) (fun _ => Fx.W.exit (Fx.seqX (Fx.lpX (Fx.blkX (Fx.seqN (Fx.W.seq (Fx.W.list (Fx.L.v (.bool true) (Fx.x_assign rfl rfl) ?_))))))))))
    refine Fx.L.nil (Fx.seqN (Fx.W.ret (⟨.bool true, Fx.retV1 Try.results102 (by exact rfl), ?_⟩)))
    have m2 : decide (v.seq = K (v.o - 1).toNat + 1) = true := decide_eq_true (by rw [show (v.o - 1).toNat = a by omega]; exact c18)
    have m3 := leAll_yes c21 hall
    exact ⟨congrArg (fun q => Ending.returned (Value.bool q)) (Eq.symm (by unfold readyE; rw [c7, m2, m3]; rfl)), b4⟩
  ·refine Fx.Qt.v (.bool true) (fun v1 hv1 => Fx.x_neqT rfl rfl rfl c18) ?_
   refine Fx.Qt.v (.bool true) (fun v1 hv1 => Fx.x_pickF rfl rfl rfl) ?_
   refine Fx.Qt.nil ?_
   intro wb2 hbwb2
   have s6 : Fx.Stp w2.heap.size w2 wb2 := Fx.Stp.of_below hbwb2
   have m12 := m3.stp s6 (Nat.ne_of_lt (m3.lt))
   have m13 := m2.stp s6 (Nat.ne_of_lt (m2.lt))
   have b7 := s6.below b2 b2.size b2.size
   refine Fx.seqN (Fx.W.cond (b := true) rfl (fun _ => Fx.W.seq (Fx.W.list (Fx.L.v (.bool false) (Fx.x_assign rfl rfl) ?_))) (fun h => nomatch h))
   refine Fx.L.nil (Fx.seqN (Fx.W.ret (Fx.seqR (⟨.bool false, Fx.retV1 Try.results102 (by exact rfl), ?_⟩))))
   have m2 : decide (v.seq = K (v.o - 1).toNat + 1) = false := decide_eq_false (by rw [show (v.o - 1).toNat = a by omega]; exact c18)
   exact ⟨congrArg (fun q => Ending.returned (Value.bool q)) (Eq.symm (by unfold readyE; rw [c7, m2]; rfl)), b7⟩
 ·rw [Bool.not_eq_true] at c7
  refine Fx.Qt.call (v := .bool false) (by rfl) (fun v1 hv1 => Fx.r_call (args := [.agg (Fx.varr 14 (evY v))]) rfl rfl Try.func100 rfl rfl) rfl (fun v1 hv1 => (e_may v _ hv).mono fun e v2 h => ⟨by rw [h.1, c7], bch hv1 h.2⟩) ?_
  refine Fx.Qt.v (.bool true) (fun v1 hv1 => Fx.x_notT rfl rfl) ?_
  refine Fx.Qt.v (.bool true) (fun v1 hv1 => Fx.x_move rfl rfl) ?_
  refine Fx.Qt.skip (by rfl) rfl ?_
  refine Fx.Qt.skip (by rfl) rfl ?_
  refine Fx.Qt.skip (by rfl) rfl ?_
  refine Fx.Qt.skip (by rfl) rfl ?_
  refine Fx.Qt.skip (by rfl) rfl ?_
  refine Fx.Qt.skip (by rfl) rfl ?_
  refine Fx.Qt.skip (by rfl) rfl ?_
  refine Fx.Qt.skip (by rfl) rfl ?_
  refine Fx.Qt.skip (by rfl) rfl ?_
  refine Fx.Qt.v (.bool true) (fun v1 hv1 => Fx.x_pickT rfl rfl rfl) ?_
  refine Fx.Qt.nil ?_
  intro wb3 hbwb3
  have s7 : Fx.Stp w2.heap.size w2 wb3 := Fx.Stp.of_below hbwb3
  have m14 := m3.stp s7 (Nat.ne_of_lt (m3.lt))
  have m15 := m2.stp s7 (Nat.ne_of_lt (m2.lt))
  have b8 := s7.below b2 b2.size b2.size
  refine Fx.seqN (Fx.W.cond (b := true) rfl (fun _ => Fx.W.seq (Fx.W.list (Fx.L.v (.bool false) (Fx.x_assign rfl rfl) ?_))) (fun h => nomatch h))
  refine Fx.L.nil (Fx.seqN (Fx.W.ret (Fx.seqR (⟨.bool false, Fx.retV1 Try.results102 (by exact rfl), ?_⟩))))
  exact ⟨congrArg (fun q => Ending.returned (Value.bool q)) (Eq.symm (by unfold readyE; rw [c7]; rfl)), b8⟩
end Go.Proofs.Ytolmkjepieoloaa
namespace Go.Proofs.Ytolmkjepieoloaa.Fx
open Go.RowKit
section
variable {w w' : World} {B : Nat} {E : TypeId} {s g n cap : Nat} {x : Nat → Value}
theorem Own.blk (h : Own w B E s (.slice (some ⟨g, 0, none⟩) n cap) n x) : B ≤ g ∧ n ≤ cap ∧ cap ≤ maxLen ∧ ∃ x', Blk w g (cap * s) x' E ∧ ∀ p, p < n * s → x' p = x p := by
  rcases h.2 with ⟨e, _⟩ | ⟨g', cap', cur, e, hb, hgg, hnc, hmax, hsz, ht⟩
  · cases e
  · simp only [Value.slice.injEq, Option.some.injEq, Addr.mk.injEq, and_true, true_and] at e
    obtain ⟨rfl, rfl⟩ := e
    refine ⟨hb, hnc, hmax, fun p => cur.getD p undef, ?_, fun p hp => ?_⟩
    · unfold Blk
      rw [hgg]
      congr 2
      refine (varr_ext hsz fun j hj => ?_)
      simp [Array.getD, hsz, hj]
    · have hle : n * s ≤ cap * s := Nat.mul_le_mul_right s hnc
      have := congrArg (fun l : List Value => l[p]?) ht
      simp only [List.getElem?_take_of_lt hp, Array.getElem?_toList, List.getElem?_map, List.getElem?_range hp, Option.map_some] at this
      simp only [Array.getD_eq_getD_getElem?, this, Option.getD_some]
theorem Blk.own {x' : Nat → Value} (h : Blk w g (cap * s) x' E) (hB : B ≤ g) (hn : n ≤ cap) (hm : cap ≤ maxLen) (e : ∀ p, p < n * s → x' p = x p) : Own w B E s (.slice (some ⟨g, 0, none⟩) n cap) n x := by
  refine ⟨by simp, .inr ⟨g, cap, varr (cap * s) x', rfl, hB, h, hn, hm, varr_size _ _, ?_⟩⟩
  have hle : n * s ≤ cap * s := Nat.mul_le_mul_right s hn
  apply List.ext_getElem?
  intro p
  by_cases hp : p < n * s
  · rw [List.getElem?_take_of_lt hp, Array.getElem?_toList, varr_get x' (by omega), List.getElem?_map, List.getElem?_range hp, Option.map_some, e p hp]
  · rw [List.getElem?_eq_none (by simp; omega), List.getElem?_eq_none (by simp; omega)]
theorem Own.lt (h : Own w B E s (.slice (some ⟨g, 0, none⟩) n cap) n x) : g < w.heap.size := (h.ge rfl).2
theorem Own.cel (h : Own w B E s (.slice (some ⟨g, 0, none⟩) n cap) n x) : Cel w g 0 (n * s) x := fun i hi => by
  rcases Nat.eq_zero_or_pos n with e | e
  · subst e; omega
  · obtain ⟨g', cap', e2, _, _, _, hc⟩ := h.form e
    simp only [Value.slice.injEq, Option.some.injEq, Addr.mk.injEq, and_true, true_and] at e2
    obtain ⟨rfl, rfl⟩ := e2
    exact hc i hi
theorem Own.stpB {g' : Nat} (h : Own w B E s (.slice (some ⟨g, 0, none⟩) n cap) n x) (hs : Stp g' w w') (ne : g ≠ g') : Own w' B E s (.slice (some ⟨g, 0, none⟩) n cap) n x := h.stp hs fun e => ne (Option.some.inj e)
end
section
variable {P : Program} {n : Nat} {Q : Post} {ops : Array Oper} {rest : List Oper} {f : Nat → Value} {w : World} {o : Oper}
theorem L.own1 {T E : TypeId} {a v : Operand} {B s g k cap i : Nat} {x : Nat → Value} {u : Value} (hw : Region.wanted o (yf ops f) = true) (hd : o.dst = none) (ho : o.op = .store T a v) (ha : ev f a = .pointer (some ⟨g, i, none⟩)) (hv : ev f v = u) (h1 : u.oneCell' = true) (hT : (P.info? T).map (·.size) = some 1)
    (hb : Own w B E s (.slice (some ⟨g, 0, none⟩) k cap) k x) (hi : i < k * s) (h : ∀ w', Own w' B E s (.slice (some ⟨g, 0, none⟩) k cap) k (updV x i u) → Stp g w w' → w'.heap.size = w.heap.size → L P n ops Q rest f w') : L P n ops Q (o :: rest) f w := by
  obtain ⟨h0, hk, hm, x', hx, he⟩ := hb.blk
  have hle : k * s ≤ cap * s := Nat.mul_le_mul_right s hk
  refine L.store1 (x := x') hw hd ho ha hv h1 hT hx (by omega) fun w' hw' hs hz => h w' (hw'.own h0 hk hm fun p hp => ?_) hs hz
  unfold updV; rw [he p hp]
theorem L.ownA {T E : TypeId} {a v : Operand} {B s g k cap i c : Nat} {x y : Nat → Value} (hw : Region.wanted o (yf ops f) = true) (hd : o.dst = none) (ho : o.op = .store T a v) (ha : ev f a = .pointer (some ⟨g, i, none⟩)) (hv : ev f v = .agg (varr c y)) (h1 : ∀ j, j < c → (y j).oneCell' = true) (hT : (P.info? T).map (·.size) = some c)
    (hb : Own w B E s (.slice (some ⟨g, 0, none⟩) k cap) k x) (hi : i + c ≤ k * s) (h : ∀ w', Own w' B E s (.slice (some ⟨g, 0, none⟩) k cap) k (ovr x i c y) → Stp g w w' → w'.heap.size = w.heap.size → L P n ops Q rest f w') : L P n ops Q (o :: rest) f w := by
  obtain ⟨h0, hk, hm, x', hx, he⟩ := hb.blk
  have hle : k * s ≤ cap * s := Nat.mul_le_mul_right s hk
  refine L.storeA (x := x') hw hd ho ha hv h1 hT hx (by omega) fun w' hw' hs hz => h w' (hw'.own h0 hk hm fun p hp => ?_) hs hz
  unfold ovr; rw [he p hp]
end
end Go.Proofs.Ytolmkjepieoloaa.Fx
namespace Go.Proofs.Ytolmkjepieoloaa.Fx
open Go.RowKit
section
variable {P : Program} {n : Nat} {Q : Post} {f : Nat → Value} {w : World} {o : Oper}
theorem run_app0 {E T ty : TypeId} {s k c cap : Nat} {a b : Option Addr} (hu : P.underlying T = some (.slice E)) (hi : (P.info? E).map (·.size) = some s) (hk : k ≤ cap) : (Builtin.append_ #[T, T] ty #[.slice b k cap, .slice a 0 c]).run P w = .ok (.slice b k cap) w := by
  obtain ⟨i, hi1, hi2⟩ := Option.map_eq_some_iff.1 hi
  have hf : (Builtin.firstCells s 0 (.slice a 0 c)).run P w = .ok #[] w := by
    cases a with
    | none => simp [Builtin.firstCells]
    | some a => simp [Builtin.firstCells, loadCells, loadCellsFrom]
  unfold Builtin.append_
  simp [underlying, hu, sizeOf, typeInfo, hi1, hi2, Builtin.lenOf, hk, hf]
  cases b <;> simp [storeCells]
theorem Own.zero {B : Nat} {E : TypeId} {s k : Nat} {v : Value} {x y : Nat → Value} (h : Own w B E s v k x) : Own w B E s v (k + 0) (appX x (k * s) y) :=
  Own.congr h fun j hj => by unfold appX; rw [if_pos (show j < k * s from hj)]
theorem grown_refl (w : World) (r : Option Nat) : w.grownBy w r := ⟨rfl, rfl, rfl, Nat.le_refl _, fun _ _ _ => rfl⟩
theorem r_appAny {B : Nat} {E T : TypeId} {s bytes k m c : Nat} {v : Value} {x y : Nat → Value} {a : Option Addr} {sx xx : Operand} {ρ : Operand → Value} (ho : o.op = .call { callee := .builtin .append, args := #[sx, xx], argTypes := #[T, T] }) (hsx : ρ sx = v) (hxx : ρ xx = .slice a m c)
    (hu : P.underlying T = some (.slice E)) (hi : (P.info? E).map (fun i => (i.size, i.bytes)) = some (s, bytes)) (hz : ((P.info? E).bind (·.zero)).map (·.cells.size) = some s) (hs : Nat.blt 0 s = true)
    (hown : Own w B E s v k x) (hc : 0 < m → ∃ b off, a = some ⟨b, off, none⟩ ∧ Cel w b off (m * s) y) (h1 : ∀ j, j < m * s → (y j).oneCell' = true) (hbytes : (k + m) * bytes ≤ 140737488355328) (h63 : k + m ≤ 140737488355328) (hB : B ≤ w.heap.size) :
    ∃ v' w', (execOp ρ o).run P w = .ok (.value v') w' ∧ Own w' B E s v' (k + m) (appX x (k * s) y) ∧ w.grownBy w' v.ownBlock ∧ (v' = v ∨ v'.ownBlock = v.ownBlock ∨ v'.ownBlock = some w.heap.size) := by
  rcases Nat.eq_zero_or_pos m with rfl | hm
  · refine ⟨v, w, ?_, hown.zero, grown_refl _ _, .inl rfl⟩
    obtain ⟨b, cap, hv, hk⟩ : ∃ b cap, v = .slice b k cap ∧ k ≤ cap := by
      rcases hown.2 with ⟨rfl, rfl⟩ | ⟨g, cap, cur, rfl, _, _, hnc, _⟩
      · exact ⟨none, 0, rfl, Nat.le_refl _⟩
      · exact ⟨_, _, rfl, hnc⟩
    subst hv
    have hi' : (P.info? E).map (·.size) = some s := by
      obtain ⟨i, hi1, hi2⟩ := Option.map_eq_some_iff.1 hi
      rw [hi1]; simp only [Prod.mk.injEq] at hi2; simp [hi2.1]
    have hr := run_app0 (P := P) (w := w) (ty := o.type) (a := a) (b := b) (c := c) hu hi' hk
    unfold execOp
    simp only [ho]
    unfold resolve invoke
    simp only [List.map_toArray, List.map_cons, List.map_nil, hsx, hxx]
    unfold builtin
    simp only [Sem.run_bind, Sem.run_pure, Result.andThen_ok, hr]
  · obtain ⟨b, off, rfl, hcc⟩ := hc hm
    obtain ⟨g, cap, w', hr, h2, h3, h4, _⟩ := r_app (P := P) ho hsx hxx hu hi hz hs hown hcc h1 hm hbytes h63 hB
    refine ⟨_, w', hr, h2, h3, ?_⟩
    rcases h4 with h4 | h4
    · exact .inr (.inl h4.symm)
    · exact .inr (.inr (by rw [h4]; rfl))
theorem L.appAny {ops : Array Oper} {rest : List Oper} {B : Nat} {E T : TypeId} {s bytes k m c : Nat} {v : Value} {x y : Nat → Value} {a : Option Addr} {sx xx : Operand} (hw : Region.wanted o (yf ops f) = true) (ho : o.op = .call { callee := .builtin .append, args := #[sx, xx], argTypes := #[T, T] }) (hsx : ev f sx = v) (hxx : ev f xx = .slice a m c)
    (hu : P.underlying T = some (.slice E)) (hi : (P.info? E).map (fun i => (i.size, i.bytes)) = some (s, bytes)) (hz : ((P.info? E).bind (·.zero)).map (·.cells.size) = some s) (hs : Nat.blt 0 s = true) (hd : inn n o.dst = true)
    (hown : Own w B E s v k x) (hc : 0 < m → ∃ b off, a = some ⟨b, off, none⟩ ∧ Cel w b off (m * s) y) (h1 : ∀ j, j < m * s → (y j).oneCell' = true) (hbytes : (k + m) * bytes ≤ 140737488355328) (h63 : k + m ≤ 140737488355328) (hB : B ≤ w.heap.size)
    (h : ∀ v' w', Own w' B E s v' (k + m) (appX x (k * s) y) → w.grownBy w' v.ownBlock → (v' = v ∨ v'.ownBlock = v.ownBlock ∨ v'.ownBlock = some w.heap.size) → L P n ops Q rest (put f o.dst v') w') : L P n ops Q (o :: rest) f w := by
  obtain ⟨v', w', hr, h2, h3, h4⟩ := r_appAny (ρ := ev f) ho hsx hxx hu hi hz hs hown hc h1 hbytes h63 hB
  exact L.val hw hr hd (h v' w' h2 h3 h4)
end
end Go.Proofs.Ytolmkjepieoloaa.Fx
namespace Go.Proofs.Ytolmkjepieoloaa.Fx
open Go.RowKit
structure Chg (S : Nat → Prop) (w w' : World) : Prop where
  os : w'.os = w.os
  tape : w'.tape = w.tape
  output : w'.output = w.output
  size : w.heap.size ≤ w'.heap.size
  block : ∀ k, k < w.heap.size → ¬ S k → w'.heap[k]? = w.heap[k]?
section
variable {S S' : Nat → Prop} {w0 w1 w2 : World}
theorem Chg.refl (S : Nat → Prop) (w : World) : Chg S w w := ⟨rfl, rfl, rfl, Nat.le_refl _, fun _ _ _ => rfl⟩
theorem Chg.then {g : Nat} (h : Chg S w0 w1) (hs : Stp g w1 w2) (hg : S g ∨ w0.heap.size ≤ g) : Chg S w0 w2 :=
  ⟨hs.os.trans h.os, hs.tape.trans h.tape, hs.output.trans h.output, Nat.le_trans h.size hs.size, fun k hk hne => (hs.block k (Nat.lt_of_lt_of_le hk h.size) (fun e => hg.elim (fun a => hne (by rw [e]; exact a)) (fun a => by omega))).trans (h.block k hk hne)⟩
theorem Chg.grow {v : Value} (h : Chg S w0 w1) (hs : w1.grownBy w2 v.ownBlock) (hg : ∀ k, v.ownBlock = some k → S k ∨ w0.heap.size ≤ k) : Chg S w0 w2 :=
  ⟨hs.os.trans h.os, hs.tape.trans h.tape, hs.output.trans h.output, Nat.le_trans h.size hs.size, fun k hk hne => (hs.block k (Nat.lt_of_lt_of_le hk h.size) (fun e => (hg k e.symm).elim hne (fun a => by omega))).trans (h.block k hk hne)⟩
theorem Chg.of_below (h : Below w0.heap.size w0 w1) : Chg S w0 w1 := ⟨h.os, h.tape, h.output, h.size, fun k hk _ => h.block k hk⟩
theorem Chg.below {B : Nat} {w : World} (hb : Below B w w0) (h : Chg S w0 w1) (hS : ∀ k, S k → B ≤ k) (hB : B ≤ w0.heap.size) : Below B w w1 where
  os := h.os.trans hb.os
  tape := h.tape.trans hb.tape
  output := h.output.trans hb.output
  size := Nat.le_trans hb.size h.size
  block := fun k hk => (h.block k (by omega) (fun e => by have := hS k e; omega)).trans (hb.block k hk)
end
section
variable {P : Program} {f : Nat → Value} {w : World} {o : Oper}
theorem x_shl {T T' : TypeId} {x y : Operand} {k yk : IntKind} {a c : Int} {b : Nat} (ho : o.op = .binOp .shl T x y T') (hx : ev f x = .int k a) (hy : ev f y = .int yk b) (hb : b ≤ k.bits) (hc : k.wrap (a * 2 ^ b) = c) : Runs P f o w (.int k c) := by
  unfold Runs execOp
  simp only [ho, hx, hy]
  have hr : (binOp .shl T (.int k a) (.int yk (b : Int))).run P w = .ok (.int k c) w := by
    simp only [binOp, Op.shift]
    rw [if_neg (by omega), show min (Int.toNat (b : Int)) k.bits = b by simp; omega, hc]
    simp
  simp only [Sem.run_bind, run_eqGuard_ints, Result.andThen_ok, hr, Sem.run_pure]
end
end Go.Proofs.Ytolmkjepieoloaa.Fx
namespace Go.Proofs.Ytolmkjepieoloaa.Fx
open Go.RowKit
section
variable {P : Program} {n : Nat} {Q : Post} {f : Nat → Value} {w : World} {o : Oper}
theorem L.bslice0 {ops : Array Oper} {rest : List Oper} {T E : TypeId} {s : Nat} (hw : Region.wanted o (yf ops f) = true) (ho : o.op = .buildSlice T 0 #[]) (hu : P.underlying T = some (.slice E)) (hs : (P.info? E).map (·.size) = some s) (hd : inn n o.dst = true)
    (h : ∀ g w', g = w.heap.size → (∀ B x, B ≤ g → Own w' B E s (.slice (some ⟨g, 0, none⟩) 0 0) 0 x) → Stp w.heap.size w w' → L P n ops Q rest (put f o.dst (.slice (some ⟨g, 0, none⟩) 0 0)) w') : L P n ops Q (o :: rest) f w := by
  obtain ⟨i, hi, hi2⟩ := Option.map_eq_some_iff.1 hs
  have hrun : (execOp (ev f) o).run P w = .ok (.value (.slice (some ⟨w.heap.size, 0, none⟩) 0 0)) (w.alloc (.cells #[] E)) := by
    unfold execOp
    simp only [ho, List.map_toArray]
    unfold Instr.buildSlice
    simp [underlying, sizeOf, typeInfo, hu, hi, Instr.fill, newRow]
    have e : ∀ d : Value, Array.map (fun _ => d) (Array.range 0) = #[] := fun d => by apply Array.ext <;> simp
    rw [e]
  refine L.val hw hrun hd (h _ _ rfl (fun B x hB => ⟨by simp, .inr ⟨w.heap.size, 0, #[], rfl, hB, ?_, Nat.le_refl _, Nat.zero_le _, by simp, by simp⟩⟩) (Stp.alloc _ _))
  show (w.alloc _).heap[w.heap.size]? = _
  rw [alloc_at, if_pos rfl]
end
end Go.Proofs.Ytolmkjepieoloaa.Fx
