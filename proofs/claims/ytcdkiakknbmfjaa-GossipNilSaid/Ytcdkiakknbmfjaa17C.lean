/-
  The walks of gossip.New, Of, Told.
-/
import Derived.Test.Ytcdkiakknbmfjaa17B
namespace Go.Proofs.Ytcdkiakknbmfjaa
open Go.RowKit Rt
namespace Rt
def ofV (K : Nat → Int) (i : Int) : Nat → Int := if regG i = true then fun p => K (6 * (i - 1).toNat + p) else fun _ => 0
def toldK (K : Nat → Int) (i : Int) (v : Nat → Int) : Nat → Int := if regG i = true then Fx.ovrI K (6 * (i - 1).toNat) 6 (fun p => mx6 (K (6 * (i - 1).toNat + p)) (v p)) else K
def tE (i : Int) : Int := if regG i = true then 0 else 10
theorem ofV_yes {K : Nat → Int} {i : Int} {a : Nat} (h : regG i = true) (ea : i = (a : Int) + 1) : (fun j => K (6 * a + j)) = ofV K i := by
  unfold ofV; rw [if_pos h, show (i - 1).toNat = a by omega]
theorem ofV_no {K : Nat → Int} {i : Int} (h : regG i = false) : (fun _ => 0) = ofV K i := by unfold ofV; rw [if_neg (by rw [h]; decide)]
theorem toldK_yes {K v : Nat → Int} {i : Int} {a : Nat} (h : regG i = true) (ea : i = (a : Int) + 1) : Fx.ovrI K (6 * a) 6 (fun p => mx6 (K (6 * a + p)) (v p)) = toldK K i v := by
  unfold toldK; rw [if_pos h, show (i - 1).toNat = a by omega]
theorem toldK_no {K v : Nat → Int} {i : Int} (h : regG i = false) : K = toldK K i v := by unfold toldK; rw [if_neg (by rw [h]; decide)]
theorem V2_eq (x y : Nat → Int) : Fx.ovr (Fx.ovr (fun j => Fx.rv .u64 (fun _ => 0) (j % 6)) (0 * 6) 6 (Fx.rv .u64 x)) (1 * 6) 6 (Fx.rv .u64 y) = vx (V2 x y) := by
  funext p
  unfold Fx.ovr
  by_cases h1 : 1 * 6 ≤ p ∧ p < 1 * 6 + 6
  · rw [if_pos h1]
    show _ = Value.int .u64 (V2 x y (p / 6) (p % 6))
    rw [show p / 6 = 1 by omega, show p - 1 * 6 = p % 6 by omega]; rfl
  · rw [if_neg h1]
    by_cases h0 : 0 * 6 ≤ p ∧ p < 0 * 6 + 6
    · rw [if_pos h0]
      show _ = Value.int .u64 (V2 x y (p / 6) (p % 6))
      rw [show p / 6 = 0 by omega, show p - 0 * 6 = p % 6 by omega]; rfl
    · rw [if_neg h0]
      show _ = Value.int .u64 (V2 x y (p / 6) (p % 6))
      obtain ⟨q, hq⟩ : ∃ q, p / 6 = q + 2 := ⟨p / 6 - 2, by omega⟩
      rw [hq]; rfl
theorem own_step (X : Nat → Nat → Int) (k : Nat) (z : Nat → Int) (hz : X k = z) : ∀ j, j < (k + 1) * 6 → Fx.appX (vx X) (k * 6) (Fx.rv .u64 (Fx.ovrI (fun _ => 0) (0 * 6) 6 z)) j = vx X j := by
  intro j hj
  unfold Fx.appX
  by_cases h : j < k * 6
  · rw [if_pos h]
  · rw [if_neg h]
    show Value.int .u64 (Fx.ovrI (fun _ => 0) (0 * 6) 6 z (j - k * 6)) = Value.int .u64 (X (j / 6) (j % 6))
    unfold Fx.ovrI
    rw [if_pos (by omega), show j / 6 = k by omega, show j - k * 6 - 0 * 6 = j % 6 by omega, hz]
def Its (w : World) (a : Option Addr) (n : Nat) (X : Nat → Int) : Prop := 0 < n → ∃ b off, a = some ⟨b, off, none⟩ ∧ Fx.Cel w b off n (Fx.rv .i64 X)
def leastV (K : Nat → Int) (X : Nat → Int) (n : Nat) : Nat → Int := foldV mn6 (fun i => ofV K (X i)) n
theorem g_meet_own {w : World} {B : Nat} {E : TypeId} {v : Value} {n : Nat} {X : Nat → Nat → Int} (hn : n ≤ 1000000) (h : Fx.Own w B E 6 v n (vx X)) :
    Calls Try.prog 46 #[v] w fun e w' => e = .returned (.agg (Fx.varr 6 (Fx.rv .u64 (foldV mn6 X n)))) ∧ Below w.heap.size w w' := by
  obtain ⟨a, cap, rfl⟩ := h.val
  refine g_meet a n cap X w hn fun h0 => ?_
  obtain ⟨g, cap', e, _, _, hc, hx⟩ := h.form h0
  simp only [Value.slice.injEq, true_and] at e
  obtain ⟨rfl, rfl⟩ := e
  exact ⟨hc, g, 0, rfl, by rw [Nat.mul_comm]; exact hx⟩
end Rt
theorem g_new (w : World) :
    Calls Try.prog 43 #[] w fun e w' => ∃ gp, e = .returned (.pointer (some ⟨gp, 0, none⟩)) ∧ w.heap.size ≤ gp ∧ Fx.Blk w' gp 36 (Fx.rv .u64 (fun _ => 0)) 99 ∧ Below w.heap.size w w' := by
  refine Fx.enter Try.func43 rfl (n := 3) rfl (by rfl) ?_
  refine Fx.W.seq ?_
  refine Fx.W.list ?_
  refine Fx.L.val (v := .pointer none) (by rfl) (Fx.x_assign rfl rfl) rfl ?_
  refine Fx.L.nil ?_
  refine Fx.seqN ?_
  refine Fx.W.seq ?_
  refine Fx.W.list ?_
  refine Fx.L.val (v := .agg (Fx.varr 36 (Fx.rv .u64 (fun _ => 0)))) (by rfl) (Fx.x_build (vs := []) (places := #[(0, 36)]) (m := 36) (x := Fx.rv .u64 (fun _ => 0)) rfl rfl Try.underlying99 (by kernel_rfl) (by kernel_rfl) (by rfl)) rfl ?_
  refine Fx.L.box (m := 36) (y := Fx.rv .u64 (fun _ => 0)) (by rfl) rfl rfl (Fx.cells_agg _ _) rfl fun g1 w1 eg1 m1 s1 z1 => ?_
  have b1 : Below w.heap.size w w1 := s1.below (Below.refl w.heap.size w) (Below.refl w.heap.size w).size (Below.refl w.heap.size w).size
  have lg1 : w.heap.size ≤ g1 := by rw [eg1]; exact (Below.refl w.heap.size w).size
  have tg1 : g1 < w1.heap.size := m1.lt
  clear eg1
  refine Fx.L.val (v := .pointer (some ⟨g1, 0, none⟩)) (by rfl) (Fx.x_assign rfl rfl) rfl ?_
  refine Fx.L.nil ?_
  refine Fx.seqN ?_
  refine Fx.W.ret ?_
  refine ⟨.pointer (some ⟨g1, 0, none⟩), Fx.retV1 Try.results43 (by exact rfl), ?_⟩
  exact ⟨g1, rfl, lg1, m1, b1⟩
theorem g_of (K : Nat → Int) (gp : Nat) (n : Int) (w : World) (hp : Fx.Blk w gp 36 (Fx.rv .u64 K) 99) :
    Calls Try.prog 31 #[.pointer (some ⟨gp, 0, none⟩), .int .i64 (n)] w fun e w' => e = .returned (.agg (Fx.varr 6 (Fx.rv .u64 (ofV K n)))) ∧ Below w.heap.size w w' := by
  have lgp := hp.lt
  refine Fx.enter Try.func31 rfl (n := 20) rfl (by rfl) ?_
  refine Fx.W.seq ?_
  refine Fx.W.list ?_
  refine Fx.L.new (m := 6) (y := Fx.rv .u64 (fun _ => 0)) (by rfl) rfl (by kernel_rfl) rfl fun g1 w1 eg1 m1 s1 z1 => ?_
  have m2 : Fx.Blk w1 gp 36 (Fx.rv .u64 K) 99 := hp.stp s1 (Nat.ne_of_lt (hp.lt))
  have b1 : Below w.heap.size w w1 := s1.below (Below.refl w.heap.size w) (Below.refl w.heap.size w).size (Below.refl w.heap.size w).size
  have lg1 : w.heap.size ≤ g1 := by rw [eg1]; exact (Below.refl w.heap.size w).size
  have ng1m2 : gp ≠ g1 := by rw [eg1]; exact Nat.ne_of_lt (hp.lt)
  have tg1 : g1 < w1.heap.size := m1.lt
  clear eg1
  refine Fx.L.nil ?_
  refine Fx.seqN ?_
  refine Fx.W.seq ?_
  refine Fx.W.seq ?_
  refine Fx.W.list ?_
  refine Fx.L.val (v := .pointer (some ⟨gp, 0, none⟩)) (by rfl) (Fx.x_move rfl rfl) rfl ?_
  refine Fx.L.val (v := .bool false) (by rfl) (Fx.x_eqNil rfl rfl rfl (by kernel_rfl)) rfl ?_
  refine Fx.L.val (v := .bool false) (by rfl) (Fx.x_move rfl rfl) rfl ?_
  refine Fx.L.val (v := .int .i64 (n)) (by rfl) (Fx.x_move rfl rfl) rfl ?_
  by_cases c9 : (regG n) = true
  · refine Fx.L.call (by rfl) (Fx.r_call (args := [.int .i64 (n)]) rfl rfl Try.func44 rfl rfl) rfl ((g_region n _).mono ?_)
    rintro e v1 ⟨he, hv1⟩
    subst v1
    refine ⟨.bool true, by rw [he, c9], ?_⟩
    clear he
    refine Fx.L.val (v := .bool false) (by rfl) (Fx.x_notF rfl rfl) rfl ?_
    refine Fx.L.val (v := .bool false) (by rfl) (Fx.x_pickF rfl rfl rfl) rfl ?_
    refine Fx.L.nil ?_
    refine Fx.seqN ?_
    refine Fx.W.cond (b := false) rfl (fun h => nomatch h) (fun _ => ?_)
    refine Fx.W.skip ?_
    refine Fx.seqN ?_
    refine Fx.W.seq ?_
    obtain ⟨a, ha, ea⟩ := regG_nat c9
    refine Fx.W.list ?_
    refine Fx.L.val (v := .pointer (some ⟨gp, 0, none⟩)) (by rfl) (Fx.x_move rfl rfl) rfl ?_
    refine Fx.L.val (v := .int .i64 (n)) (by rfl) (Fx.x_move rfl rfl) rfl ?_
    refine Fx.L.val (v := .int .i64 ((a : Int))) (by rfl) (Fx.x_sub rfl rfl rfl (Fx.i64e (by omega) (by omega))) rfl ?_
    refine Fx.L.val (v := .pointer (some ⟨gp, 0, none⟩)) (by rfl) (Fx.x_nil rfl rfl) rfl ?_
    refine Fx.L.val (v := .pointer (some ⟨gp, 0, none⟩)) (by rfl) (Fx.x_field rfl rfl Try.underlying99 rfl (s := 36) (by kernel_rfl) rfl rfl) rfl ?_
    refine Fx.L.val (v := .pointer (some ⟨gp, 6 * a, none⟩)) (by rfl) (Fx.x_index rfl rfl rfl Try.underlying97 (s := 6) (by kernel_rfl) (by omega) (by omega) (by omega)) rfl ?_
    refine Fx.L.val (v := .agg (Fx.varr 6 (Fx.rv .u64 (fun j => K (6 * a + j))))) (by rfl) (Fx.x_loadA (x := Fx.rv .u64 K) (y := Fx.rv .u64 (fun j => K (6 * a + j))) rfl rfl (by kernel_rfl) (by kernel_rfl) m2.cel (i := 6 * a) (by omega) (by omega) (fun j _ => congrArg (fun qz => Fx.rv .u64 K qz) (by omega))) rfl ?_
    refine Fx.L.storeA (x := Fx.rv .u64 (fun _ => 0)) (y := Fx.rv .u64 (fun j => K (6 * a + j))) (by rfl) rfl rfl rfl rfl (fun _ _ => rfl) (by kernel_rfl) m1 (i := 0) (by omega) fun w2 m3 s2 z2 => ?_
    have m4 : Fx.Blk w2 g1 6 (Fx.rv .u64 (fun j => K (6 * a + j))) 64 := Fx.ovr_all m3
    have m5 : Fx.Blk w2 gp 36 (Fx.rv .u64 K) 99 := m2.stp s2 (by omega)
    have b2 : Below w.heap.size w w2 := s2.below b1 b1.size (by omega)
    refine Fx.L.nil ?_
    refine Fx.seqN ?_
    refine Fx.W.ret ?_
    refine ⟨.agg (Fx.varr 6 (Fx.rv .u64 (fun j => K (6 * a + j)))), Fx.retV1 Try.results31 ⟨_, rfl, Fx.run_loadV m4.cel (by kernel_rfl) (by kernel_rfl)⟩, ?_⟩
    exact ⟨congrArg (fun q => Ending.returned (Value.agg (Fx.varr 6 (Fx.rv .u64 q)))) (ofV_yes c9 ea), b2⟩
  · rw [Bool.not_eq_true] at c9
    refine Fx.L.call (by rfl) (Fx.r_call (args := [.int .i64 (n)]) rfl rfl Try.func44 rfl rfl) rfl ((g_region n _).mono ?_)
    rintro e v1 ⟨he, hv1⟩
    subst v1
    refine ⟨.bool false, by rw [he, c9], ?_⟩
    clear he
    refine Fx.L.val (v := .bool true) (by rfl) (Fx.x_notT rfl rfl) rfl ?_
    refine Fx.L.val (v := .bool true) (by rfl) (Fx.x_pickF rfl rfl rfl) rfl ?_
    refine Fx.L.nil ?_
    refine Fx.seqN ?_
    refine Fx.W.cond (b := true) rfl (fun _ => ?_) (fun h => nomatch h)
    refine Fx.W.seq ?_
    refine Fx.W.list ?_
    refine Fx.L.val (v := .agg (Fx.varr 6 (Fx.rv .u64 (fun _ => 0)))) (by rfl) (Fx.x_buildArr (vs := []) (s := 1) (m := 6) (x := Fx.rv .u64 (fun _ => 0)) rfl rfl Try.underlying64 (by kernel_rfl) (by kernel_rfl) (by rfl)) rfl ?_
    refine Fx.L.storeA (x := Fx.rv .u64 (fun _ => 0)) (y := Fx.rv .u64 (fun _ => 0)) (by rfl) rfl rfl rfl rfl (fun _ _ => rfl) (by kernel_rfl) m1 (i := 0) (by omega) fun w3 m6 s3 z3 => ?_
    have m7 : Fx.Blk w3 g1 6 (Fx.rv .u64 (fun _ => 0)) 64 := Fx.ovr_all m6
    have m8 : Fx.Blk w3 gp 36 (Fx.rv .u64 K) 99 := m2.stp s3 (by omega)
    have b3 : Below w.heap.size w w3 := s3.below b1 b1.size (by omega)
    refine Fx.L.nil ?_
    refine Fx.seqN ?_
    refine Fx.W.ret ?_
    refine Fx.seqR ?_
    refine ⟨.agg (Fx.varr 6 (Fx.rv .u64 (fun _ => 0))), Fx.retV1 Try.results31 ⟨_, rfl, Fx.run_loadV m7.cel (by kernel_rfl) (by kernel_rfl)⟩, ?_⟩
    exact ⟨congrArg (fun q => Ending.returned (Value.agg (Fx.varr 6 (Fx.rv .u64 q)))) (ofV_no c9), b3⟩
set_option maxRecDepth 10000 in
theorem g_told (K v : Nat → Int) (gp : Nat) (n : Int) (w : World) (hp : Fx.Blk w gp 36 (Fx.rv .u64 K) 99) :
    Calls Try.prog 30 #[.pointer (some ⟨gp, 0, none⟩), .int .i64 (n), .agg (Fx.varr 6 (Fx.rv .u64 v))] w fun e w' => e = .returned (.int .i64 (tE n)) ∧ Fx.Blk w' gp 36 (Fx.rv .u64 (toldK K n v)) 99 ∧ Fx.Stp gp w w' := by
  have lgp := hp.lt
  refine Fx.enter Try.func30 rfl (n := 30) rfl (by rfl) ?_
  refine Fx.W.seq ?_
  refine Fx.W.list ?_
  refine Fx.L.box (m := 6) (y := Fx.rv .u64 v) (by rfl) rfl rfl (Fx.cells_agg _ _) rfl fun g1 w1 eg1 m1 s1 z1 => ?_
  have m2 : Fx.Blk w1 gp 36 (Fx.rv .u64 K) 99 := hp.stp s1 (Nat.ne_of_lt (hp.lt))
  have b1 : Fx.Stp gp w w1 := (Fx.Stp.refl gp w).then s1 (.inr (Fx.Stp.refl gp w).size)
  have lg1 : w.heap.size ≤ g1 := by rw [eg1]; exact (Fx.Stp.refl gp w).size
  have ng1m2 : gp ≠ g1 := by rw [eg1]; exact Nat.ne_of_lt (hp.lt)
  have tg1 : g1 < w1.heap.size := m1.lt
  clear eg1
  refine Fx.L.val (v := .int .i64 (0)) (by rfl) (Fx.x_assign rfl rfl) rfl ?_
  refine Fx.L.nil ?_
  refine Fx.seqN ?_
  refine Fx.W.seq ?_
  refine Fx.W.block ?_
  refine Fx.W.seq ?_
  refine Fx.W.list ?_
  refine Fx.L.val (v := .pointer (some ⟨gp, 0, none⟩)) (by rfl) (Fx.x_move rfl rfl) rfl ?_
  refine Fx.L.val (v := .bool false) (by rfl) (Fx.x_eqNil rfl rfl rfl (by kernel_rfl)) rfl ?_
  refine Fx.L.val (v := .bool false) (by rfl) (Fx.x_assign rfl rfl) rfl ?_
  refine Fx.L.nil ?_
  refine Fx.seqN ?_
  refine Fx.W.cond (b := false) rfl (fun h => nomatch h) (fun _ => ?_)
  refine Fx.W.seq ?_
  refine Fx.W.list ?_
  refine Fx.L.val (v := .int .i64 (n)) (by rfl) (Fx.x_move rfl rfl) rfl ?_
  by_cases c12 : (regG n) = true
  · refine Fx.L.call (by rfl) (Fx.r_call (args := [.int .i64 (n)]) rfl rfl Try.func44 rfl rfl) rfl ((g_region n _).mono ?_)
    rintro e v1 ⟨he, hv1⟩
    subst v1
    refine ⟨.bool true, by rw [he, c12], ?_⟩
    clear he
    refine Fx.L.val (v := .bool false) (by rfl) (Fx.x_notF rfl rfl) rfl ?_
    refine Fx.L.val (v := .bool false) (by rfl) (Fx.x_assign rfl rfl) rfl ?_
    refine Fx.L.nil ?_
    refine Fx.seqN ?_
    refine Fx.W.cond (b := false) rfl (fun h => nomatch h) (fun _ => ?_)
    refine Fx.W.skip ?_
    refine Fx.blkN ?_
    refine Fx.seqN ?_
    refine Fx.W.seq ?_
    obtain ⟨a, ha, ea⟩ := regG_nat c12
    -- region 5 draws
    refine Fx.W.draws [11, 16] [(0, 1, [], [0]), (0, 1, [], [1]), (0, 1, [], [2]), (0, 0, [], [9, 8, 7, 6, 3]), (0, 0, [], [9, 8, 5, 4]), (0, 0, [], [9, 8, 5]), (0, 0, [], [9, 8, 7, 6]), (0, 0, [], [9, 8, 7]), (0, 0, [], [9, 8]), (0, 0, [], [9]), (0, 0, [], [10]), (0, 0, [], []), (1, 1, [11], [12]), (0, 1, [], [15, 14, 13]), (0, 1, [], [15, 14]), (1, 1, [11], [15]), (0, 0, [], [])] (fun r i => (#[.pointer (some ⟨gp, 0, none⟩), .int .i64 (n), .int .i64 ((a : Int)), .pointer (some ⟨gp, 0, none⟩), .int .i64 (n), .int .i64 ((a : Int)), .pointer (some ⟨gp, 0, none⟩), .pointer (some ⟨gp, 0, none⟩), .pointer (some ⟨gp, 6 * a, none⟩), .agg (Fx.varr 6 (Fx.rv .u64 (fun j => K (6 * a + j)))), .agg (Fx.varr 6 (Fx.rv .u64 v)), .slice (some ⟨(r 0).1, 0, none⟩) (2) (2), .agg (Fx.varr 6 (Fx.rv .u64 (fun p => mx6 ((fun j => K (6 * a + j)) p) (v p)))), .pointer (some ⟨gp, 0, none⟩), .pointer (some ⟨gp, 0, none⟩), .pointer (some ⟨gp, 6 * a, none⟩), undef] : Array Value).getD i undef) (fun k r v1 => match k with | 0 => Below w1.heap.size w1 v1 | 1 => Below w1.heap.size w1 v1 ∧ w1.heap.size ≤ (r 0).1 ∧ Fx.Blk v1 (r 0).1 12 (vx (V2 (fun j => K (6 * a + j)) v)) 64 | _ => Fx.Stp gp w1 v1 ∧ w1.heap.size ≤ (r 0).1 ∧ Fx.Blk v1 (r 0).1 12 (vx (V2 (fun j => K (6 * a + j)) v)) 64 ∧ Fx.Blk v1 gp 36 (Fx.rv .u64 (Fx.ovrI K (6 * a) 6 (fun p => mx6 ((fun j => K (6 * a + j)) p) (v p)))) 99) (by kernel_rfl) (by kernel_rfl) (by kernel_rfl) (by kernel_rfl) (by kernel_rfl) (by kernel_rfl) (by kernel_rfl) (fun v1 h1 _ => h1) ?_ ?_ ?_
    · refine ⟨?_, ?_, ?_, ?_, ?_, ?_, ?_, ?_, ?_, ?_, ?_, ?_, ?_, ?_, ?_, ?_, ?_, trivial⟩
      · refine .inr ⟨Fx.qokV (fun r => .pointer (some ⟨gp, 0, none⟩)) (fun _ => by kernel_rfl) (fun _ => by kernel_rfl) (fun r k v1 h1 h2 hS => ?_), (fun _ _ _ _ => rfl)⟩
        exact Fx.x_move rfl (show Fx.ev _ (.tmp 0) = .pointer (some ⟨gp, 0, none⟩) from by kernel_rfl)
      · refine .inr ⟨Fx.qokV (fun r => .int .i64 (n)) (fun _ => by kernel_rfl) (fun _ => by kernel_rfl) (fun r k v1 h1 h2 hS => ?_), (fun _ _ _ _ => rfl)⟩
        exact Fx.x_move rfl (show Fx.ev _ (.tmp 1) = .int .i64 (n) from by kernel_rfl)
      · refine .inr ⟨Fx.qokV (fun r => .int .i64 ((a : Int))) (fun _ => by kernel_rfl) (fun _ => by kernel_rfl) (fun r k v1 h1 h2 hS => ?_), (fun _ _ _ _ => rfl)⟩
        exact Fx.x_sub rfl (show Fx.ev _ (.tmp 15) = .int .i64 (n) from by kernel_rfl) (show Fx.ev _ (.const (.int .i64 (1))) = .int .i64 (1) from by kernel_rfl) (Fx.i64e (by omega) (by omega))
      · refine .inr ⟨Fx.qokV (fun r => .pointer (some ⟨gp, 0, none⟩)) (fun _ => by kernel_rfl) (fun _ => by kernel_rfl) (fun r k v1 h1 h2 hS => ?_), (fun _ _ _ _ => rfl)⟩
        exact Fx.x_move rfl (show Fx.ev _ (.tmp 0) = .pointer (some ⟨gp, 0, none⟩) from by kernel_rfl)
      · refine .inr ⟨Fx.qokV (fun r => .int .i64 (n)) (fun _ => by kernel_rfl) (fun _ => by kernel_rfl) (fun r k v1 h1 h2 hS => ?_), (fun _ _ _ _ => rfl)⟩
        exact Fx.x_move rfl (show Fx.ev _ (.tmp 1) = .int .i64 (n) from by kernel_rfl)
      · refine .inr ⟨Fx.qokV (fun r => .int .i64 ((a : Int))) (fun _ => by kernel_rfl) (fun _ => by kernel_rfl) (fun r k v1 h1 h2 hS => ?_), (fun _ _ _ _ => rfl)⟩
        exact Fx.x_sub rfl (show Fx.ev _ (.tmp 18) = .int .i64 (n) from by kernel_rfl) (show Fx.ev _ (.const (.int .i64 (1))) = .int .i64 (1) from by kernel_rfl) (Fx.i64e (by omega) (by omega))
      · refine .inr ⟨Fx.qokV (fun r => .pointer (some ⟨gp, 0, none⟩)) (fun _ => by kernel_rfl) (fun _ => by kernel_rfl) (fun r k v1 h1 h2 hS => ?_), (fun _ _ _ _ => rfl)⟩
        exact Fx.x_nil rfl (show Fx.ev _ (.tmp 17) = .pointer (some ⟨gp, 0, none⟩) from by kernel_rfl)
      · refine .inr ⟨Fx.qokV (fun r => .pointer (some ⟨gp, 0, none⟩)) (fun _ => by kernel_rfl) (fun _ => by kernel_rfl) (fun r k v1 h1 h2 hS => ?_), (fun _ _ _ _ => rfl)⟩
        exact Fx.x_field rfl (show Fx.ev _ (.tmp 20) = .pointer (some ⟨gp, 0, none⟩) from by kernel_rfl) Try.underlying99 rfl (s := 36) (by kernel_rfl) rfl rfl
      · refine .inr ⟨Fx.qokV (fun r => .pointer (some ⟨gp, 6 * a, none⟩)) (fun _ => by kernel_rfl) (fun _ => by kernel_rfl) (fun r k v1 h1 h2 hS => ?_), (fun _ _ _ _ => rfl)⟩
        exact Fx.x_index rfl (show Fx.ev _ (.tmp 21) = .pointer (some ⟨gp, 0, none⟩) from by kernel_rfl) (show Fx.ev _ (.tmp 19) = .int .i64 ((a : Int)) from by kernel_rfl) Try.underlying97 (s := 6) (by kernel_rfl) (by omega) (by omega) (by omega)
      · refine .inr ⟨Fx.qokV (fun r => .agg (Fx.varr 6 (Fx.rv .u64 (fun j => K (6 * a + j))))) (fun _ => by kernel_rfl) (fun _ => by kernel_rfl) (fun r k v1 h1 h2 hS => ?_), (fun _ _ _ _ => rfl)⟩
        have h1 : 0 ≤ k := h1
        have h2 : k ≤ 0 := h2
        obtain rfl : k = 0 := by omega
        have hR := hS
        exact Fx.x_loadA (x := Fx.rv .u64 K) (y := Fx.rv .u64 (fun j => K (6 * a + j))) rfl (show Fx.ev _ (.tmp 22) = .pointer (some ⟨gp, 6 * a, none⟩) from by kernel_rfl) (by kernel_rfl) (by kernel_rfl) (m2.cel.below hR (by have := m2.lt; omega)) (i := 6 * a) (by omega) (by omega) (fun j _ => congrArg (fun qz => Fx.rv .u64 K qz) (by omega))
      · refine .inr ⟨Fx.qokV (fun r => .agg (Fx.varr 6 (Fx.rv .u64 v))) (fun _ => by kernel_rfl) (fun _ => by kernel_rfl) (fun r k v1 h1 h2 hS => ?_), (fun _ _ _ _ => rfl)⟩
        have h1 : 0 ≤ k := h1
        have h2 : k ≤ 0 := h2
        obtain rfl : k = 0 := by omega
        have hR := hS
        exact Fx.x_loadA (x := Fx.rv .u64 v) (y := Fx.rv .u64 v) rfl (show Fx.ev _ (.tmp 5) = .pointer (some ⟨g1, 0, none⟩) from by kernel_rfl) (by kernel_rfl) (by kernel_rfl) (m1.cel.below hR (by have := m1.lt; omega)) (i := 0) (by omega) (by omega) (fun j _ => by rw [Nat.zero_add])
      · exact .inl rfl
      · refine .inr ⟨Fx.qokC (fun r => .agg (Fx.varr 6 (Fx.rv .u64 (fun p => mx6 ((fun j => K (6 * a + j)) p) (v p))))) 45 (fun r => #[.slice (some ⟨(r 0).1, 0, none⟩) (2) (2)]) (fun _ => by kernel_rfl) (fun _ => by kernel_rfl) (fun r k v1 v2 h1 h2 hS hb => ?_) (fun r k v1 _ _ _ => Fx.r_call (args := [.slice (some ⟨(r 0).1, 0, none⟩) (2) (2)]) rfl (Fx.args1 (show Fx.ev _ (.tmp 25) = .slice (some ⟨(r 0).1, 0, none⟩) (2) (2) from by kernel_rfl)) Try.func45 rfl rfl) (fun r k v1 h1 h2 hS => ?_), (fun _ _ _ _ => rfl)⟩
        · skip
          have h1 : 1 ≤ k := h1
          have h2 : k ≤ 1 := h2
          obtain rfl : k = 1 := by omega
          obtain ⟨hR, lF0, F0⟩ := hS
          exact ⟨bch hR hb, lF0, F0.stp (Fx.Stp.of_below hb) (Nat.ne_of_lt F0.lt)⟩
        · skip
          have h1 : 1 ≤ k := h1
          have h2 : k ≤ 1 := h2
          obtain rfl : k = 1 := by omega
          obtain ⟨hR, lF0, F0⟩ := hS
          exact (g_join (some ⟨(r 0).1, 0, none⟩) 2 2 (V2 (fun j => K (6 * a + j)) v) _ (by omega) (fun _ => ⟨Nat.le_refl _, (r 0).1, 0, rfl, F0.cel⟩)).mono fun e v2 h => ⟨h.1, h.2⟩
      · refine .inr ⟨Fx.qokV (fun r => .pointer (some ⟨gp, 0, none⟩)) (fun _ => by kernel_rfl) (fun _ => by kernel_rfl) (fun r k v1 h1 h2 hS => ?_), (fun _ _ _ _ => rfl)⟩
        exact Fx.x_nil rfl (show Fx.ev _ (.tmp 14) = .pointer (some ⟨gp, 0, none⟩) from by kernel_rfl)
      · refine .inr ⟨Fx.qokV (fun r => .pointer (some ⟨gp, 0, none⟩)) (fun _ => by kernel_rfl) (fun _ => by kernel_rfl) (fun r k v1 h1 h2 hS => ?_), (fun _ _ _ _ => rfl)⟩
        exact Fx.x_field rfl (show Fx.ev _ (.tmp 27) = .pointer (some ⟨gp, 0, none⟩) from by kernel_rfl) Try.underlying99 rfl (s := 36) (by kernel_rfl) rfl rfl
      · refine .inr ⟨Fx.qokV (fun r => .pointer (some ⟨gp, 6 * a, none⟩)) (fun _ => by kernel_rfl) (fun _ => by kernel_rfl) (fun r k v1 h1 h2 hS => ?_), (fun _ _ _ _ => rfl)⟩
        exact Fx.x_index rfl (show Fx.ev _ (.tmp 28) = .pointer (some ⟨gp, 0, none⟩) from by kernel_rfl) (show Fx.ev _ (.tmp 16) = .int .i64 ((a : Int)) from by kernel_rfl) Try.underlying97 (s := 6) (by kernel_rfl) (by omega) (by omega) (by omega)
      · exact .inl rfl
    · refine ⟨⟨?_, (fun k r p h => congrArg (fun g : Nat × Nat => (.slice (some ⟨g.1, 0, none⟩) (2) (2) : Value)) (Fx.updr_ne (r := r) (k := k) (p := p) (j := 0) (by have h2 : 1 ≤ k := h; omega)))⟩, ⟨?_, (fun _ _ _ _ => rfl)⟩, trivial⟩
      · refine Fx.eokV (fun p => .slice (some ⟨p.1, 0, none⟩) (2) (2)) (fun _ _ h => nomatch h) (fun _ _ => by kernel_rfl) (fun r v1 hS => ?_)
        have hR := hS
        refine ⟨(v1.heap.size, 0), Fx.bindE (Fx.e_bslice (len := 2) (vs := [(0, .agg (Fx.varr 6 (Fx.rv .u64 (fun j => K (6 * a + j))))), (1, .agg (Fx.varr 6 (Fx.rv .u64 v)))]) (s := 6) (zc := Fx.rv .u64 (fun _ => 0)) (y := Fx.ovr (Fx.ovr (fun j => (Fx.rv .u64 (fun _ => 0)) (j % 6)) (0 * 6) 6 (Fx.rv .u64 (fun j => K (6 * a + j)))) (1 * 6) 6 (Fx.rv .u64 v)) rfl (Fx.parts2 (show Fx.ev _ (.tmp 23) = .agg (Fx.varr 6 (Fx.rv .u64 (fun j => K (6 * a + j)))) from by kernel_rfl) (show Fx.ev _ (.tmp 24) = .agg (Fx.varr 6 (Fx.rv .u64 v)) from by kernel_rfl)) Try.underlying100 (by kernel_rfl) (by rfl) (by rfl) (by kernel_rfl) (by rw [Fx.fill_step (off := 0 * 6) (s := 6) (y := Fx.rv .u64 (fun j => K (6 * a + j))) rfl (Fx.cells_agg _ _) (by rfl)]; rw [Fx.fill_step (off := 1 * 6) (s := 6) (y := Fx.rv .u64 v) rfl (Fx.cells_agg _ _) (by rfl)]; rfl)) fun v2 hb hs => ?_⟩
        exact ⟨bch hR hs.old, hR.size, (hb.to (V2_eq (fun j => K (6 * a + j)) v))⟩
      · refine Fx.eokU (fun _ _ h => nomatch h) rfl (fun r v1 hS => ?_)
        obtain ⟨hR, lF0, F0⟩ := hS
        refine Fx.bindU (Fx.e_stA (x := Fx.rv .u64 K) (y := Fx.rv .u64 (fun p => mx6 ((fun j => K (6 * a + j)) p) (v p))) rfl (show Fx.ev _ (.tmp 29) = .pointer (some ⟨gp, 6 * a, none⟩) from by kernel_rfl) (show Fx.ev _ (.tmp 26) = .agg (Fx.varr 6 (Fx.rv .u64 (fun p => mx6 ((fun j => K (6 * a + j)) p) (v p)))) from by kernel_rfl) (fun _ _ => rfl) (by kernel_rfl) (m2.stp (Fx.Stp.of_below hR) (Nat.ne_of_lt m2.lt)) (i := 6 * a) (by omega)) fun v2 hb hs => ?_
        have hb := hb.to (Fx.ovr_rv _ _ _ _ _)
        exact ⟨Fx.Stp.after_below hR hs, lF0, F0.stp hs (fun e => by have := m2.lt; omega), hb⟩
    · rintro r1 w2 f1 hf1 hS
      obtain ⟨hR, lF0, F0, F1⟩ := hS
      obtain ⟨g2, eg2⟩ : ∃ g, g = (r1 0).1 := ⟨_, rfl⟩
      rw [← eg2] at lF0 F0
      have s2 : Fx.Stp gp w1 w2 := hR
      have m3 : Fx.Blk w2 g1 6 (Fx.rv .u64 v) 64 := m1.stp s2 (by omega)
      have m4 : Fx.Blk w2 g2 12 (vx (V2 (fun j => K (6 * a + j)) v)) 64 := F0
      have ng2m3 : g1 ≠ g2 := Nat.ne_of_lt (Nat.lt_of_lt_of_le (m1.lt) lF0)
      have tg2 : g2 < w2.heap.size := m4.lt
      have m5 : Fx.Blk w2 gp 36 (Fx.rv .u64 (Fx.ovrI K (6 * a) 6 (fun p => mx6 ((fun j => K (6 * a + j)) p) (v p)))) 99 := F1
      have b2 : Fx.Stp gp w w2 := b1.then s2 (by omega)
      have lg2 : w.heap.size ≤ g2 := Nat.le_trans b1.size lF0
      have q1 : f1 6 = .int .i64 (0) := by rw [hf1]; kernel_rfl
      clear hf1 hR
      refine Fx.seqN ?_
      refine Fx.W.seq ?_
      refine Fx.W.list ?_
      refine Fx.L.val (v := .int .i64 (0)) (by rfl) (Fx.x_assign rfl rfl) rfl ?_
      refine Fx.L.nil ?_
      refine Fx.seqN ?_
      refine Fx.W.ret ?_
      refine ⟨.int .i64 (0), Fx.retV1 Try.results30 (by exact rfl), ?_⟩
      exact ⟨congrArg (fun q => Ending.returned (Value.int .i64 q)) (by unfold tE; rw [if_pos c12]), m5.to (congrArg (Fx.rv .u64) (toldK_yes c12 ea)), b2⟩
  · rw [Bool.not_eq_true] at c12
    refine Fx.L.call (by rfl) (Fx.r_call (args := [.int .i64 (n)]) rfl rfl Try.func44 rfl rfl) rfl ((g_region n _).mono ?_)
    rintro e v1 ⟨he, hv1⟩
    subst v1
    refine ⟨.bool false, by rw [he, c12], ?_⟩
    clear he
    refine Fx.L.val (v := .bool true) (by rfl) (Fx.x_notT rfl rfl) rfl ?_
    refine Fx.L.val (v := .bool true) (by rfl) (Fx.x_assign rfl rfl) rfl ?_
    refine Fx.L.nil ?_
    refine Fx.seqN ?_
    refine Fx.W.cond (b := true) rfl (fun _ => ?_) (fun h => nomatch h)
    refine Fx.W.seq ?_
    refine Fx.W.list ?_
    refine Fx.L.val (v := .int .i64 (10)) (by rfl) (Fx.x_assign rfl rfl) rfl ?_
    refine Fx.L.nil ?_
    refine Fx.seqN ?_
    refine Fx.W.ret ?_
    refine Fx.blkR ?_
    refine Fx.seqR ?_
    refine ⟨.int .i64 (10), Fx.retV1 Try.results30 (by exact rfl), ?_⟩
    exact ⟨congrArg (fun q => Ending.returned (Value.int .i64 q)) (by unfold tE; rw [if_neg (by rw [c12]; decide)]), m2.to (congrArg (Fx.rv .u64) (toldK_no c12)), b1⟩
end Go.Proofs.Ytcdkiakknbmfjaa
