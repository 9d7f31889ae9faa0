/-
  The walks of gossip.region, vector.each.
-/
import Derived.Test.YtcdkiakknbmfjaaRows
import Derived.Test.YtcdkiakknbmfjaaFxa
import Derived.Test.YtcdkiakknbmfjaaRPlain
namespace Go.Proofs.Ytcdkiakknbmfjaa
open Go.RowKit Rt
namespace Rt
def regG (i : Int) : Bool := decide (1 ≤ i) && decide (i ≤ 6)
def mx6 (a b : Int) : Int := if b > a then b else a
def mn6 (a b : Int) : Int := if b < a then b else a
theorem regG_nat {i : Int} (h : regG i = true) : ∃ a : Nat, a < 6 ∧ i = (a : Int) + 1 := by
  unfold regG at h; simp at h
  obtain ⟨a, ha⟩ := Int.eq_ofNat_of_zero_le (show 0 ≤ i - 1 by omega)
  exact ⟨a, by omega, by omega⟩
/-- vectors, one behind the other -/
def vx (X : Nat → Nat → Int) : Nat → Value := fun p => .int .u64 (X (p / 6) (p % 6))
theorem vx_row (X : Nat → Nat → Int) {i p j : Nat} (hp : p = 6 * i) (hj : j < 6) : vx X (p + j) = Fx.rv .u64 (X i) j := by
  subst hp
  show Value.int .u64 (X ((6 * i + j) / 6) ((6 * i + j) % 6)) = .int .u64 (X i j)
  rw [show (6 * i + j) / 6 = i by omega, show (6 * i + j) % 6 = j by omega]
def foldS (c : Int → Int → Int) (X : Nat → Nat → Int) : Nat → Nat → Int
  | 0 => X 0
  | k + 1 => fun p => c (foldS c X k p) (X (k + 1) p)
def foldV (c : Int → Int → Int) (X : Nat → Nat → Int) : Nat → Nat → Int
  | 0 => fun _ => 0
  | k + 1 => foldS c X k
def Vcs (w : World) (a : Option Addr) (n cap : Nat) (X : Nat → Nat → Int) : Prop := 0 < n → n ≤ cap ∧ ∃ b off, a = some ⟨b, off, none⟩ ∧ Fx.Cel w b off (6 * n) (vx X)
def eachT (x : Nat → Int) (k : Nat) : Nat → Int := fun p => if p < k then x p else 0
theorem eachT_succ (x : Nat → Int) (k : Nat) : upd (eachT x k) k (x k) = eachT x (k + 1) := by
  funext p; unfold upd eachT
  by_cases h : p = k
  · subst h; rw [if_pos rfl, if_pos (by omega)]
  · rw [if_neg h]
    by_cases h2 : p < k
    · rw [if_pos h2, if_pos (by omega)]
    · rw [if_neg h2, if_neg (by omega)]
theorem eachT_end (x : Nat → Int) : Fx.varr 6 (Fx.rv .u64 (eachT x 6)) = Fx.varr 6 (Fx.rv .u64 x) := Fx.varr_congr fun p hp => congrArg (Value.int .u64) (by unfold eachT; rw [if_pos hp])
end Rt
theorem g_region (n : Int) (w : World) :
    Calls Try.prog 44 #[.int .i64 (n)] w fun e w' => e = .returned (.bool (regG n)) ∧ w' = w := by
  refine Fx.enter Try.func44 rfl (n := 9) rfl (by rfl) ?_
  refine Fx.W.seq ?_
  refine Fx.W.list ?_
  refine Fx.L.val (v := .bool false) (by rfl) (Fx.x_assign rfl rfl) rfl ?_
  refine Fx.L.nil ?_
  refine Fx.seqN ?_
  refine Fx.W.seq ?_
  refine Fx.W.list ?_
  refine Fx.L.val (v := .int .i64 (n)) (by rfl) (Fx.x_move rfl rfl) rfl ?_
  by_cases c4 : 1 ≤ n
  · refine Fx.L.val (v := .bool true) (by rfl) (Fx.x_geqT rfl rfl rfl c4) rfl ?_
    refine Fx.L.val (v := .bool true) (by rfl) (Fx.x_move rfl rfl) rfl ?_
    refine Fx.L.val (v := .int .i64 (n)) (by rfl) (Fx.x_move rfl rfl) rfl ?_
    by_cases c7 : n ≤ 6
    · refine Fx.L.val (v := .bool true) (by rfl) (Fx.x_leqT rfl rfl rfl c7) rfl ?_
      refine Fx.L.val (v := .bool true) (by rfl) (Fx.x_pickT rfl rfl rfl) rfl ?_
      refine Fx.L.val (v := .bool true) (by rfl) (Fx.x_assign rfl rfl) rfl ?_
      refine Fx.L.nil ?_
      refine Fx.seqN ?_
      refine Fx.W.ret ?_
      refine ⟨.bool true, Fx.retV1 Try.results44 (by exact rfl), ?_⟩
      exact ⟨congrArg (fun q => Ending.returned (Value.bool q)) (by simp only [regG]; first | (symm; simp; omega) | (symm; simp; done)), rfl⟩
    · refine Fx.L.val (v := .bool false) (by rfl) (Fx.x_leqF rfl rfl rfl c7) rfl ?_
      refine Fx.L.val (v := .bool false) (by rfl) (Fx.x_pickT rfl rfl rfl) rfl ?_
      refine Fx.L.val (v := .bool false) (by rfl) (Fx.x_assign rfl rfl) rfl ?_
      refine Fx.L.nil ?_
      refine Fx.seqN ?_
      refine Fx.W.ret ?_
      refine ⟨.bool false, Fx.retV1 Try.results44 (by exact rfl), ?_⟩
      exact ⟨congrArg (fun q => Ending.returned (Value.bool q)) (by simp only [regG]; first | (symm; simp; omega) | (symm; simp; done)), rfl⟩
  · refine Fx.L.val (v := .bool false) (by rfl) (Fx.x_geqF rfl rfl rfl c4) rfl ?_
    refine Fx.L.val (v := .bool false) (by rfl) (Fx.x_move rfl rfl) rfl ?_
    refine Fx.L.skip (by rfl) rfl ?_
    refine Fx.L.skip (by rfl) rfl ?_
    refine Fx.L.val (v := .bool false) (by rfl) (Fx.x_pickF rfl rfl rfl) rfl ?_
    refine Fx.L.val (v := .bool false) (by rfl) (Fx.x_assign rfl rfl) rfl ?_
    refine Fx.L.nil ?_
    refine Fx.seqN ?_
    refine Fx.W.ret ?_
    refine ⟨.bool false, Fx.retV1 Try.results44 (by exact rfl), ?_⟩
    exact ⟨congrArg (fun q => Ending.returned (Value.bool q)) (by simp only [regG]; first | (symm; simp; omega) | (symm; simp; done)), rfl⟩
theorem g_max (a b : Int) (w : World) :
    Calls Try.prog 55 #[.int .u64 (a), .int .u64 (b)] w fun e w' => e = .returned (.int .u64 (mx6 a b)) ∧ w' = w := by
  refine Fx.enter Try.func55 rfl (n := 8) rfl (by rfl) ?_
  refine Fx.W.seq ?_
  refine Fx.W.list ?_
  refine Fx.L.val (v := .int .u64 (0)) (by rfl) (Fx.x_assign rfl rfl) rfl ?_
  refine Fx.L.nil ?_
  refine Fx.seqN ?_
  refine Fx.W.seq ?_
  refine Fx.W.list ?_
  refine Fx.L.val (v := .int .u64 (a)) (by rfl) (Fx.x_move rfl rfl) rfl ?_
  refine Fx.L.val (v := .int .u64 (b)) (by rfl) (Fx.x_move rfl rfl) rfl ?_
  refine Fx.L.val (v := .int .u64 (mx6 a b)) (by rfl) (Fx.x_max rfl rfl rfl) rfl ?_
  refine Fx.L.val (v := .int .u64 (mx6 a b)) (by rfl) (Fx.x_assign rfl rfl) rfl ?_
  refine Fx.L.nil ?_
  refine Fx.seqN ?_
  refine Fx.W.ret ?_
  refine ⟨.int .u64 (mx6 a b), Fx.retV1 Try.results55 (by exact rfl), ?_⟩
  exact ⟨rfl, rfl⟩
theorem g_f1_max (x y : Nat → Int) (gc go gv q : Nat) (w : World) (hq : q < 6) (hc : Fx.Blk w gc 1 (fun _ => .func (.func 55) #[] #[]) 110) (ho : Fx.Blk w go 6 (Fx.rv .u64 x) 64) (hv : Fx.Blk w gv 6 (Fx.rv .u64 y) 64) :
    Calls Try.prog 65 #[.int .i64 ((q : Int)), .pointer (some ⟨gc, 0, none⟩), .pointer (some ⟨go, 0, none⟩), .pointer (some ⟨gv, 0, none⟩)] w fun e w' => e = .returned (.int .u64 (mx6 (x q) (y q))) ∧ Below w.heap.size w w' := by
  refine Fx.enter Try.func65 rfl (n := 14) rfl (by rfl) ?_
  refine Fx.W.seq ?_
  refine Fx.W.list ?_
  refine Fx.L.val (v := .int .u64 (0)) (by rfl) (Fx.x_assign rfl rfl) rfl ?_
  refine Fx.L.nil ?_
  refine Fx.seqN ?_
  refine Fx.W.seq ?_
  -- region 1 draws
  refine Fx.W.quiet (fun v1 => Below w.heap.size w v1) (by kernel_rfl) (by kernel_rfl) (Below.refl _ _).drew ?_
  refine Fx.Qt.val (v := .func (.func 55) #[] #[]) (by rfl) (fun v1 hv1 => Fx.x_load1 (x := fun _ => .func (.func 55) #[] #[]) rfl rfl (by kernel_rfl) (hc.cel.below hv1 (by have := hc.lt; omega)) (i := 0) (by omega) (by omega) rfl) rfl ?_
  refine Fx.Qt.val (v := .int .i64 ((q : Int))) (by rfl) (fun v1 hv1 => Fx.x_move rfl rfl) rfl ?_
  refine Fx.Qt.val (v := .pointer (some ⟨go, q, none⟩)) (by rfl) (fun v1 hv1 => Fx.x_index rfl rfl rfl Try.underlying64 (s := 1) (by kernel_rfl) (by omega) (by omega) (by omega)) rfl ?_
  refine Fx.Qt.val (v := .int .u64 (x q)) (by rfl) (fun v1 hv1 => Fx.x_load1 (x := Fx.rv .u64 x) rfl rfl (by kernel_rfl) (ho.cel.below hv1 (by have := ho.lt; omega)) (i := q) (by omega) (by omega) rfl) rfl ?_
  refine Fx.Qt.val (v := .int .i64 ((q : Int))) (by rfl) (fun v1 hv1 => Fx.x_move rfl rfl) rfl ?_
  refine Fx.Qt.val (v := .pointer (some ⟨gv, q, none⟩)) (by rfl) (fun v1 hv1 => Fx.x_index rfl rfl rfl Try.underlying64 (s := 1) (by kernel_rfl) (by omega) (by omega) (by omega)) rfl ?_
  refine Fx.Qt.val (v := .int .u64 (y q)) (by rfl) (fun v1 hv1 => Fx.x_load1 (x := Fx.rv .u64 y) rfl rfl (by kernel_rfl) (hv.cel.below hv1 (by have := hv.lt; omega)) (i := q) (by omega) (by omega) rfl) rfl ?_
  refine Fx.Qt.call (v := .int .u64 (mx6 (x q) (y q))) (by rfl) (fun v1 hv1 => Fx.r_clo (args := [.int .u64 (x q), .int .u64 (y q)]) rfl rfl rfl (all := #[.int .u64 (x q), .int .u64 (y q)]) rfl Try.func55 rfl rfl) rfl (fun v1 hv1 => (g_max (x q) (y q) _).mono fun e v2 h => ⟨h.1, by rw [h.2]; exact hv1⟩) ?_
  refine Fx.Qt.val (v := .int .u64 (mx6 (x q) (y q))) (by rfl) (fun v1 hv1 => Fx.x_assign rfl rfl) rfl ?_
  refine Fx.Qt.nil ?_
  intro wb1 hbwb1
  have s1 : Fx.Stp w.heap.size w wb1 := Fx.Stp.of_below hbwb1
  have m1 : Fx.Blk wb1 gc 1 (fun _ => .func (.func 55) #[] #[]) 110 := hc.stp s1 (Nat.ne_of_lt hc.lt)
  have m2 : Fx.Blk wb1 go 6 (Fx.rv .u64 x) 64 := ho.stp s1 (Nat.ne_of_lt ho.lt)
  have m3 : Fx.Blk wb1 gv 6 (Fx.rv .u64 y) 64 := hv.stp s1 (Nat.ne_of_lt hv.lt)
  have b1 : Below w.heap.size w wb1 := s1.below (Below.refl w.heap.size w) (Below.refl w.heap.size w).size (Below.refl w.heap.size w).size
  refine Fx.seqN ?_
  refine Fx.W.ret ?_
  refine ⟨.int .u64 (mx6 (x q) (y q)), Fx.retV1 Try.results65 (by exact rfl), ?_⟩
  exact ⟨rfl, b1⟩
theorem g_each_max (x y : Nat → Int) (gc go gv : Nat) (w : World) (hc : Fx.Blk w gc 1 (fun _ => .func (.func 55) #[] #[]) 110) (ho : Fx.Blk w go 6 (Fx.rv .u64 x) 64) (hv : Fx.Blk w gv 6 (Fx.rv .u64 y) 64) :
    Calls Try.prog 64 #[.func (.func 65) #[] #[.pointer (some ⟨gc, 0, none⟩), .pointer (some ⟨go, 0, none⟩), .pointer (some ⟨gv, 0, none⟩)]] w fun e w' => e = .returned (.agg (Fx.varr 6 (Fx.rv .u64 (fun p => mx6 (x p) (y p))))) ∧ Below w.heap.size w w' := by
  refine Fx.enter Try.func64 rfl (n := 14) rfl (by rfl) ?_
  refine Fx.W.seq ?_
  refine Fx.W.list ?_
  refine Fx.L.new (m := 6) (y := Fx.rv .u64 (fun _ => 0)) (by rfl) rfl (by kernel_rfl) rfl fun g1 w1 eg1 m1 s1 z1 => ?_
  have m2 : Fx.Blk w1 gc 1 (fun _ => .func (.func 55) #[] #[]) 110 := hc.stp s1 (Nat.ne_of_lt (hc.lt))
  have m3 : Fx.Blk w1 go 6 (Fx.rv .u64 x) 64 := ho.stp s1 (Nat.ne_of_lt (ho.lt))
  have m4 : Fx.Blk w1 gv 6 (Fx.rv .u64 y) 64 := hv.stp s1 (Nat.ne_of_lt (hv.lt))
  have b1 : Below w.heap.size w w1 := s1.below (Below.refl w.heap.size w) (Below.refl w.heap.size w).size (Below.refl w.heap.size w).size
  have lg1 : w.heap.size ≤ g1 := by rw [eg1]; exact (Below.refl w.heap.size w).size
  have ng1m2 : gc ≠ g1 := by rw [eg1]; exact Nat.ne_of_lt (hc.lt)
  have ng1m3 : go ≠ g1 := by rw [eg1]; exact Nat.ne_of_lt (ho.lt)
  have ng1m4 : gv ≠ g1 := by rw [eg1]; exact Nat.ne_of_lt (hv.lt)
  have tg1 : g1 < w1.heap.size := m1.lt
  clear eg1
  refine Fx.L.nil ?_
  refine Fx.seqN ?_
  refine Fx.W.seq ?_
  refine Fx.W.seq ?_
  refine Fx.W.list ?_
  refine Fx.L.val (v := .int .i64 (0)) (by rfl) (Fx.x_move rfl rfl) rfl ?_
  refine Fx.L.nil ?_
  refine Fx.seqN ?_
  refine Fx.W.block ?_
  have m5 : Fx.Blk w1 g1 6 (Fx.rv .u64 (eachT (fun p => mx6 (x p) (y p)) 0)) 64 := m1
  refine Fx.W.loop (fun f w_ => ∃ k : Nat, k ≤ 6 ∧ f 0 = .func (.func 65) #[] #[.pointer (some ⟨gc, 0, none⟩), .pointer (some ⟨go, 0, none⟩), .pointer (some ⟨gv, 0, none⟩)] ∧ f 2 = .pointer (some ⟨g1, 0, none⟩) ∧ f 4 = .int .i64 ((k : Int)) ∧ Fx.Blk w_ gc 1 (fun _ => .func (.func 55) #[] #[]) 110 ∧ Fx.Blk w_ go 6 (Fx.rv .u64 x) 64 ∧ Fx.Blk w_ gv 6 (Fx.rv .u64 y) 64 ∧ Fx.Blk w_ g1 6 (Fx.rv .u64 (eachT (fun p => mx6 (x p) (y p)) k)) 64 ∧ Below w.heap.size w w_) (fun f _ => (6 - (intOf (f 4)).toNat)) ⟨0, by omega, (by rfl), (by rfl), (by first | rfl | exact congrArg (Value.int .i64) (by omega)), m2, m3, m4, m5, b1⟩ ?_
  rintro f1 w2 ⟨k, hk, h1, h2, h3, m6, m7, m8, m9, b2⟩
  refine Fx.W.seq ?_
  refine Fx.W.list ?_
  by_cases c5 : (k : Int) < 6
  · refine Fx.L.val (v := .bool true) (by rfl) (Fx.x_lssT rfl h3 rfl c5) rfl ?_
    refine Fx.L.nil ?_
    refine Fx.seqN ?_
    refine Fx.W.seq ?_
    refine Fx.W.cond (b := true) rfl (fun _ => ?_) (fun h => nomatch h)
    refine Fx.W.skip ?_
    refine Fx.seqN ?_
    refine Fx.W.seq ?_
    refine Fx.W.block ?_
    refine Fx.W.seq ?_
    refine Fx.W.list ?_
    refine Fx.L.val (v := .int .i64 ((k : Int))) (by rfl) (Fx.x_move rfl h3) rfl ?_
    refine Fx.L.val (v := .int .i64 ((k : Int))) (by rfl) (Fx.x_assign rfl rfl) rfl ?_
    refine Fx.L.nil ?_
    refine Fx.seqN ?_
    refine Fx.W.list ?_
    refine Fx.L.val (v := .int .i64 ((k : Int))) (by rfl) (Fx.x_move rfl rfl) rfl ?_
    refine Fx.L.val (v := .func (.func 65) #[] #[.pointer (some ⟨gc, 0, none⟩), .pointer (some ⟨go, 0, none⟩), .pointer (some ⟨gv, 0, none⟩)]) (by rfl) (Fx.x_move rfl h1) rfl ?_
    refine Fx.L.val (v := .int .i64 ((k : Int))) (by rfl) (Fx.x_move rfl rfl) rfl ?_
    refine Fx.L.call (by rfl) (Fx.r_clo (args := [.int .i64 ((k : Int))]) rfl rfl rfl (all := #[.int .i64 ((k : Int)), .pointer (some ⟨gc, 0, none⟩), .pointer (some ⟨go, 0, none⟩), .pointer (some ⟨gv, 0, none⟩)]) rfl Try.func65 rfl rfl) rfl ((g_f1_max x y gc go gv k _ (by omega) m6 m7 m8).mono ?_)
    rintro e w3 ⟨he, hb1⟩
    refine ⟨.int .u64 (mx6 (x k) (y k)), by rw [he], ?_⟩
    clear he
    have s2 := Fx.Stp.of_below hb1
    have m10 : Fx.Blk w3 gc 1 (fun _ => .func (.func 55) #[] #[]) 110 := m6.stp s2 (Nat.ne_of_lt (m6.lt))
    have m11 : Fx.Blk w3 go 6 (Fx.rv .u64 x) 64 := m7.stp s2 (Nat.ne_of_lt (m7.lt))
    have m12 : Fx.Blk w3 gv 6 (Fx.rv .u64 y) 64 := m8.stp s2 (Nat.ne_of_lt (m8.lt))
    have m13 : Fx.Blk w3 g1 6 (Fx.rv .u64 (eachT (fun p => mx6 (x p) (y p)) k)) 64 := m9.stp s2 (Nat.ne_of_lt (m9.lt))
    have b3 : Below w.heap.size w w3 := s2.below b2 b2.size b2.size
    refine Fx.L.val (v := .pointer (some ⟨g1, k, none⟩)) (by rfl) (Fx.x_index rfl h2 rfl Try.underlying64 (s := 1) (by kernel_rfl) (by omega) (by omega) (by omega)) rfl ?_
    refine Fx.L.store1 (x := Fx.rv .u64 (eachT (fun p => mx6 (x p) (y p)) k)) (u := .int .u64 (mx6 (x k) (y k))) (by rfl) rfl rfl rfl rfl (by rfl) (by kernel_rfl) m13 (i := k) (by omega) fun w4 m14 s3 z2 => ?_
    have m15 : Fx.Blk w4 g1 6 (Fx.rv .u64 (upd (eachT (fun p => mx6 (x p) (y p)) k) k (mx6 (x k) (y k)))) 64 := m14.to (Fx.updV_rv _ _ _ _)
    have m16 : Fx.Blk w4 gc 1 (fun _ => .func (.func 55) #[] #[]) 110 := m10.stp s3 (by omega)
    have m17 : Fx.Blk w4 go 6 (Fx.rv .u64 x) 64 := m11.stp s3 (by omega)
    have m18 : Fx.Blk w4 gv 6 (Fx.rv .u64 y) 64 := m12.stp s3 (by omega)
    have b4 : Below w.heap.size w w4 := s3.below b3 b3.size (by omega)
    refine Fx.L.nil ?_
    refine Fx.blkN ?_
    refine Fx.seqN ?_
    refine Fx.W.list ?_
    refine Fx.L.val (v := .int .i64 ((k : Int) + 1)) (by rfl) (Fx.x_add rfl h3 rfl (Fx.i64e (by omega) (by omega))) rfl ?_
    refine Fx.L.val (v := .int .i64 ((k : Int) + 1)) (by rfl) (Fx.x_move rfl rfl) rfl ?_
    refine Fx.L.nil ?_
    have m19 := m15.to (congrArg (Fx.rv .u64) (eachT_succ (fun p => mx6 (x p) (y p)) k))
    refine Fx.lpN ⟨k + 1, by omega, h1, h2, (by first | rfl | exact congrArg (Value.int .i64) (by omega)), m16, m17, m18, m19, b4⟩ ?_
    show (6 - (intOf ((.int .i64 ((k : Int) + 1)))).toNat) < _
    simp only [h3, intOf]; omega
  · refine Fx.L.val (v := .bool false) (by rfl) (Fx.x_lssF rfl h3 rfl c5) rfl ?_
    refine Fx.L.nil ?_
    refine Fx.seqN ?_
    refine Fx.W.seq ?_
    refine Fx.W.cond (b := false) rfl (fun h => nomatch h) (fun _ => ?_)
    refine Fx.W.exit ?_
    refine Fx.seqX ?_
    refine Fx.lpX ?_
    refine Fx.blkX ?_
    refine Fx.seqN ?_
    refine Fx.W.seq ?_
    refine Fx.W.list ?_
    refine Fx.L.val (v := .agg (Fx.varr 6 (Fx.rv .u64 (eachT (fun p => mx6 (x p) (y p)) k)))) (by rfl) (Fx.x_loadA (x := Fx.rv .u64 (eachT (fun p => mx6 (x p) (y p)) k)) (y := Fx.rv .u64 (eachT (fun p => mx6 (x p) (y p)) k)) rfl h2 (by kernel_rfl) (by kernel_rfl) m9.cel (i := 0) (by omega) (by omega) (fun j _ => by rw [Nat.zero_add])) rfl ?_
    refine Fx.L.storeA (x := Fx.rv .u64 (eachT (fun p => mx6 (x p) (y p)) k)) (y := Fx.rv .u64 (eachT (fun p => mx6 (x p) (y p)) k)) (by rfl) rfl rfl h2 rfl (fun _ _ => rfl) (by kernel_rfl) m9 (i := 0) (by omega) fun w5 m20 s4 z3 => ?_
    have m21 : Fx.Blk w5 g1 6 (Fx.rv .u64 (eachT (fun p => mx6 (x p) (y p)) k)) 64 := Fx.ovr_all m20
    have m22 : Fx.Blk w5 gc 1 (fun _ => .func (.func 55) #[] #[]) 110 := m6.stp s4 (by omega)
    have m23 : Fx.Blk w5 go 6 (Fx.rv .u64 x) 64 := m7.stp s4 (by omega)
    have m24 : Fx.Blk w5 gv 6 (Fx.rv .u64 y) 64 := m8.stp s4 (by omega)
    have b5 : Below w.heap.size w w5 := s4.below b2 b2.size (by omega)
    refine Fx.L.nil ?_
    refine Fx.seqN ?_
    refine Fx.W.ret ?_
    refine ⟨.agg (Fx.varr 6 (Fx.rv .u64 (eachT (fun p => mx6 (x p) (y p)) k))), Fx.retV1 Try.results64 ⟨_, h2, Fx.run_loadV m21.cel (by kernel_rfl) (by kernel_rfl)⟩, ?_⟩
    have e6 : k = 6 := by omega
    exact ⟨by rw [e6, eachT_end], b5⟩
theorem g_min (a b : Int) (w : World) :
    Calls Try.prog 56 #[.int .u64 (a), .int .u64 (b)] w fun e w' => e = .returned (.int .u64 (mn6 a b)) ∧ w' = w := by
  refine Fx.enter Try.func56 rfl (n := 8) rfl (by rfl) ?_
  refine Fx.W.seq ?_
  refine Fx.W.list ?_
  refine Fx.L.val (v := .int .u64 (0)) (by rfl) (Fx.x_assign rfl rfl) rfl ?_
  refine Fx.L.nil ?_
  refine Fx.seqN ?_
  refine Fx.W.seq ?_
  refine Fx.W.list ?_
  refine Fx.L.val (v := .int .u64 (a)) (by rfl) (Fx.x_move rfl rfl) rfl ?_
  refine Fx.L.val (v := .int .u64 (b)) (by rfl) (Fx.x_move rfl rfl) rfl ?_
  refine Fx.L.val (v := .int .u64 (mn6 a b)) (by rfl) (Fx.x_min rfl rfl rfl) rfl ?_
  refine Fx.L.val (v := .int .u64 (mn6 a b)) (by rfl) (Fx.x_assign rfl rfl) rfl ?_
  refine Fx.L.nil ?_
  refine Fx.seqN ?_
  refine Fx.W.ret ?_
  refine ⟨.int .u64 (mn6 a b), Fx.retV1 Try.results56 (by exact rfl), ?_⟩
  exact ⟨rfl, rfl⟩
theorem g_f1_min (x y : Nat → Int) (gc go gv q : Nat) (w : World) (hq : q < 6) (hc : Fx.Blk w gc 1 (fun _ => .func (.func 56) #[] #[]) 110) (ho : Fx.Blk w go 6 (Fx.rv .u64 x) 64) (hv : Fx.Blk w gv 6 (Fx.rv .u64 y) 64) :
    Calls Try.prog 65 #[.int .i64 ((q : Int)), .pointer (some ⟨gc, 0, none⟩), .pointer (some ⟨go, 0, none⟩), .pointer (some ⟨gv, 0, none⟩)] w fun e w' => e = .returned (.int .u64 (mn6 (x q) (y q))) ∧ Below w.heap.size w w' := by
  refine Fx.enter Try.func65 rfl (n := 14) rfl (by rfl) ?_
  refine Fx.W.seq ?_
  refine Fx.W.list ?_
  refine Fx.L.val (v := .int .u64 (0)) (by rfl) (Fx.x_assign rfl rfl) rfl ?_
  refine Fx.L.nil ?_
  refine Fx.seqN ?_
  refine Fx.W.seq ?_
  -- region 1 draws
  refine Fx.W.quiet (fun v1 => Below w.heap.size w v1) (by kernel_rfl) (by kernel_rfl) (Below.refl _ _).drew ?_
  refine Fx.Qt.val (v := .func (.func 56) #[] #[]) (by rfl) (fun v1 hv1 => Fx.x_load1 (x := fun _ => .func (.func 56) #[] #[]) rfl rfl (by kernel_rfl) (hc.cel.below hv1 (by have := hc.lt; omega)) (i := 0) (by omega) (by omega) rfl) rfl ?_
  refine Fx.Qt.val (v := .int .i64 ((q : Int))) (by rfl) (fun v1 hv1 => Fx.x_move rfl rfl) rfl ?_
  refine Fx.Qt.val (v := .pointer (some ⟨go, q, none⟩)) (by rfl) (fun v1 hv1 => Fx.x_index rfl rfl rfl Try.underlying64 (s := 1) (by kernel_rfl) (by omega) (by omega) (by omega)) rfl ?_
  refine Fx.Qt.val (v := .int .u64 (x q)) (by rfl) (fun v1 hv1 => Fx.x_load1 (x := Fx.rv .u64 x) rfl rfl (by kernel_rfl) (ho.cel.below hv1 (by have := ho.lt; omega)) (i := q) (by omega) (by omega) rfl) rfl ?_
  refine Fx.Qt.val (v := .int .i64 ((q : Int))) (by rfl) (fun v1 hv1 => Fx.x_move rfl rfl) rfl ?_
  refine Fx.Qt.val (v := .pointer (some ⟨gv, q, none⟩)) (by rfl) (fun v1 hv1 => Fx.x_index rfl rfl rfl Try.underlying64 (s := 1) (by kernel_rfl) (by omega) (by omega) (by omega)) rfl ?_
  refine Fx.Qt.val (v := .int .u64 (y q)) (by rfl) (fun v1 hv1 => Fx.x_load1 (x := Fx.rv .u64 y) rfl rfl (by kernel_rfl) (hv.cel.below hv1 (by have := hv.lt; omega)) (i := q) (by omega) (by omega) rfl) rfl ?_
  refine Fx.Qt.call (v := .int .u64 (mn6 (x q) (y q))) (by rfl) (fun v1 hv1 => Fx.r_clo (args := [.int .u64 (x q), .int .u64 (y q)]) rfl rfl rfl (all := #[.int .u64 (x q), .int .u64 (y q)]) rfl Try.func56 rfl rfl) rfl (fun v1 hv1 => (g_min (x q) (y q) _).mono fun e v2 h => ⟨h.1, by rw [h.2]; exact hv1⟩) ?_
  refine Fx.Qt.val (v := .int .u64 (mn6 (x q) (y q))) (by rfl) (fun v1 hv1 => Fx.x_assign rfl rfl) rfl ?_
  refine Fx.Qt.nil ?_
  intro wb1 hbwb1
  have s1 : Fx.Stp w.heap.size w wb1 := Fx.Stp.of_below hbwb1
  have m1 : Fx.Blk wb1 gc 1 (fun _ => .func (.func 56) #[] #[]) 110 := hc.stp s1 (Nat.ne_of_lt hc.lt)
  have m2 : Fx.Blk wb1 go 6 (Fx.rv .u64 x) 64 := ho.stp s1 (Nat.ne_of_lt ho.lt)
  have m3 : Fx.Blk wb1 gv 6 (Fx.rv .u64 y) 64 := hv.stp s1 (Nat.ne_of_lt hv.lt)
  have b1 : Below w.heap.size w wb1 := s1.below (Below.refl w.heap.size w) (Below.refl w.heap.size w).size (Below.refl w.heap.size w).size
  refine Fx.seqN ?_
  refine Fx.W.ret ?_
  refine ⟨.int .u64 (mn6 (x q) (y q)), Fx.retV1 Try.results65 (by exact rfl), ?_⟩
  exact ⟨rfl, b1⟩
theorem g_each_min (x y : Nat → Int) (gc go gv : Nat) (w : World) (hc : Fx.Blk w gc 1 (fun _ => .func (.func 56) #[] #[]) 110) (ho : Fx.Blk w go 6 (Fx.rv .u64 x) 64) (hv : Fx.Blk w gv 6 (Fx.rv .u64 y) 64) :
    Calls Try.prog 64 #[.func (.func 65) #[] #[.pointer (some ⟨gc, 0, none⟩), .pointer (some ⟨go, 0, none⟩), .pointer (some ⟨gv, 0, none⟩)]] w fun e w' => e = .returned (.agg (Fx.varr 6 (Fx.rv .u64 (fun p => mn6 (x p) (y p))))) ∧ Below w.heap.size w w' := by
  refine Fx.enter Try.func64 rfl (n := 14) rfl (by rfl) ?_
  refine Fx.W.seq ?_
  refine Fx.W.list ?_
  refine Fx.L.new (m := 6) (y := Fx.rv .u64 (fun _ => 0)) (by rfl) rfl (by kernel_rfl) rfl fun g1 w1 eg1 m1 s1 z1 => ?_
  have m2 : Fx.Blk w1 gc 1 (fun _ => .func (.func 56) #[] #[]) 110 := hc.stp s1 (Nat.ne_of_lt (hc.lt))
  have m3 : Fx.Blk w1 go 6 (Fx.rv .u64 x) 64 := ho.stp s1 (Nat.ne_of_lt (ho.lt))
  have m4 : Fx.Blk w1 gv 6 (Fx.rv .u64 y) 64 := hv.stp s1 (Nat.ne_of_lt (hv.lt))
  have b1 : Below w.heap.size w w1 := s1.below (Below.refl w.heap.size w) (Below.refl w.heap.size w).size (Below.refl w.heap.size w).size
  have lg1 : w.heap.size ≤ g1 := by rw [eg1]; exact (Below.refl w.heap.size w).size
  have ng1m2 : gc ≠ g1 := by rw [eg1]; exact Nat.ne_of_lt (hc.lt)
  have ng1m3 : go ≠ g1 := by rw [eg1]; exact Nat.ne_of_lt (ho.lt)
  have ng1m4 : gv ≠ g1 := by rw [eg1]; exact Nat.ne_of_lt (hv.lt)
  have tg1 : g1 < w1.heap.size := m1.lt
  clear eg1
  refine Fx.L.nil ?_
  refine Fx.seqN ?_
  refine Fx.W.seq ?_
  refine Fx.W.seq ?_
  refine Fx.W.list ?_
  refine Fx.L.val (v := .int .i64 (0)) (by rfl) (Fx.x_move rfl rfl) rfl ?_
  refine Fx.L.nil ?_
  refine Fx.seqN ?_
  refine Fx.W.block ?_
  have m5 : Fx.Blk w1 g1 6 (Fx.rv .u64 (eachT (fun p => mn6 (x p) (y p)) 0)) 64 := m1
  refine Fx.W.loop (fun f w_ => ∃ k : Nat, k ≤ 6 ∧ f 0 = .func (.func 65) #[] #[.pointer (some ⟨gc, 0, none⟩), .pointer (some ⟨go, 0, none⟩), .pointer (some ⟨gv, 0, none⟩)] ∧ f 2 = .pointer (some ⟨g1, 0, none⟩) ∧ f 4 = .int .i64 ((k : Int)) ∧ Fx.Blk w_ gc 1 (fun _ => .func (.func 56) #[] #[]) 110 ∧ Fx.Blk w_ go 6 (Fx.rv .u64 x) 64 ∧ Fx.Blk w_ gv 6 (Fx.rv .u64 y) 64 ∧ Fx.Blk w_ g1 6 (Fx.rv .u64 (eachT (fun p => mn6 (x p) (y p)) k)) 64 ∧ Below w.heap.size w w_) (fun f _ => (6 - (intOf (f 4)).toNat)) ⟨0, by omega, (by rfl), (by rfl), (by first | rfl | exact congrArg (Value.int .i64) (by omega)), m2, m3, m4, m5, b1⟩ ?_
  rintro f1 w2 ⟨k, hk, h1, h2, h3, m6, m7, m8, m9, b2⟩
  refine Fx.W.seq ?_
  refine Fx.W.list ?_
  by_cases c5 : (k : Int) < 6
  · refine Fx.L.val (v := .bool true) (by rfl) (Fx.x_lssT rfl h3 rfl c5) rfl ?_
    refine Fx.L.nil ?_
    refine Fx.seqN ?_
    refine Fx.W.seq ?_
    refine Fx.W.cond (b := true) rfl (fun _ => ?_) (fun h => nomatch h)
    refine Fx.W.skip ?_
    refine Fx.seqN ?_
    refine Fx.W.seq ?_
    refine Fx.W.block ?_
    refine Fx.W.seq ?_
    refine Fx.W.list ?_
    refine Fx.L.val (v := .int .i64 ((k : Int))) (by rfl) (Fx.x_move rfl h3) rfl ?_
    refine Fx.L.val (v := .int .i64 ((k : Int))) (by rfl) (Fx.x_assign rfl rfl) rfl ?_
    refine Fx.L.nil ?_
    refine Fx.seqN ?_
    refine Fx.W.list ?_
    refine Fx.L.val (v := .int .i64 ((k : Int))) (by rfl) (Fx.x_move rfl rfl) rfl ?_
    refine Fx.L.val (v := .func (.func 65) #[] #[.pointer (some ⟨gc, 0, none⟩), .pointer (some ⟨go, 0, none⟩), .pointer (some ⟨gv, 0, none⟩)]) (by rfl) (Fx.x_move rfl h1) rfl ?_
    refine Fx.L.val (v := .int .i64 ((k : Int))) (by rfl) (Fx.x_move rfl rfl) rfl ?_
    refine Fx.L.call (by rfl) (Fx.r_clo (args := [.int .i64 ((k : Int))]) rfl rfl rfl (all := #[.int .i64 ((k : Int)), .pointer (some ⟨gc, 0, none⟩), .pointer (some ⟨go, 0, none⟩), .pointer (some ⟨gv, 0, none⟩)]) rfl Try.func65 rfl rfl) rfl ((g_f1_min x y gc go gv k _ (by omega) m6 m7 m8).mono ?_)
    rintro e w3 ⟨he, hb1⟩
    refine ⟨.int .u64 (mn6 (x k) (y k)), by rw [he], ?_⟩
    clear he
    have s2 := Fx.Stp.of_below hb1
    have m10 : Fx.Blk w3 gc 1 (fun _ => .func (.func 56) #[] #[]) 110 := m6.stp s2 (Nat.ne_of_lt (m6.lt))
    have m11 : Fx.Blk w3 go 6 (Fx.rv .u64 x) 64 := m7.stp s2 (Nat.ne_of_lt (m7.lt))
    have m12 : Fx.Blk w3 gv 6 (Fx.rv .u64 y) 64 := m8.stp s2 (Nat.ne_of_lt (m8.lt))
    have m13 : Fx.Blk w3 g1 6 (Fx.rv .u64 (eachT (fun p => mn6 (x p) (y p)) k)) 64 := m9.stp s2 (Nat.ne_of_lt (m9.lt))
    have b3 : Below w.heap.size w w3 := s2.below b2 b2.size b2.size
    refine Fx.L.val (v := .pointer (some ⟨g1, k, none⟩)) (by rfl) (Fx.x_index rfl h2 rfl Try.underlying64 (s := 1) (by kernel_rfl) (by omega) (by omega) (by omega)) rfl ?_
    refine Fx.L.store1 (x := Fx.rv .u64 (eachT (fun p => mn6 (x p) (y p)) k)) (u := .int .u64 (mn6 (x k) (y k))) (by rfl) rfl rfl rfl rfl (by rfl) (by kernel_rfl) m13 (i := k) (by omega) fun w4 m14 s3 z2 => ?_
    have m15 : Fx.Blk w4 g1 6 (Fx.rv .u64 (upd (eachT (fun p => mn6 (x p) (y p)) k) k (mn6 (x k) (y k)))) 64 := m14.to (Fx.updV_rv _ _ _ _)
    have m16 : Fx.Blk w4 gc 1 (fun _ => .func (.func 56) #[] #[]) 110 := m10.stp s3 (by omega)
    have m17 : Fx.Blk w4 go 6 (Fx.rv .u64 x) 64 := m11.stp s3 (by omega)
    have m18 : Fx.Blk w4 gv 6 (Fx.rv .u64 y) 64 := m12.stp s3 (by omega)
    have b4 : Below w.heap.size w w4 := s3.below b3 b3.size (by omega)
    refine Fx.L.nil ?_
    refine Fx.blkN ?_
    refine Fx.seqN ?_
    refine Fx.W.list ?_
    refine Fx.L.val (v := .int .i64 ((k : Int) + 1)) (by rfl) (Fx.x_add rfl h3 rfl (Fx.i64e (by omega) (by omega))) rfl ?_
    refine Fx.L.val (v := .int .i64 ((k : Int) + 1)) (by rfl) (Fx.x_move rfl rfl) rfl ?_
    refine Fx.L.nil ?_
    have m19 := m15.to (congrArg (Fx.rv .u64) (eachT_succ (fun p => mn6 (x p) (y p)) k))
    refine Fx.lpN ⟨k + 1, by omega, h1, h2, (by first | rfl | exact congrArg (Value.int .i64) (by omega)), m16, m17, m18, m19, b4⟩ ?_
    show (6 - (intOf ((.int .i64 ((k : Int) + 1)))).toNat) < _
    simp only [h3, intOf]; omega
  · refine Fx.L.val (v := .bool false) (by rfl) (Fx.x_lssF rfl h3 rfl c5) rfl ?_
    refine Fx.L.nil ?_
    refine Fx.seqN ?_
    refine Fx.W.seq ?_
    refine Fx.W.cond (b := false) rfl (fun h => nomatch h) (fun _ => ?_)
    refine Fx.W.exit ?_
    refine Fx.seqX ?_
    refine Fx.lpX ?_
    refine Fx.blkX ?_
    refine Fx.seqN ?_
    refine Fx.W.seq ?_
    refine Fx.W.list ?_
    refine Fx.L.val (v := .agg (Fx.varr 6 (Fx.rv .u64 (eachT (fun p => mn6 (x p) (y p)) k)))) (by rfl) (Fx.x_loadA (x := Fx.rv .u64 (eachT (fun p => mn6 (x p) (y p)) k)) (y := Fx.rv .u64 (eachT (fun p => mn6 (x p) (y p)) k)) rfl h2 (by kernel_rfl) (by kernel_rfl) m9.cel (i := 0) (by omega) (by omega) (fun j _ => by rw [Nat.zero_add])) rfl ?_
    refine Fx.L.storeA (x := Fx.rv .u64 (eachT (fun p => mn6 (x p) (y p)) k)) (y := Fx.rv .u64 (eachT (fun p => mn6 (x p) (y p)) k)) (by rfl) rfl rfl h2 rfl (fun _ _ => rfl) (by kernel_rfl) m9 (i := 0) (by omega) fun w5 m20 s4 z3 => ?_
    have m21 : Fx.Blk w5 g1 6 (Fx.rv .u64 (eachT (fun p => mn6 (x p) (y p)) k)) 64 := Fx.ovr_all m20
    have m22 : Fx.Blk w5 gc 1 (fun _ => .func (.func 56) #[] #[]) 110 := m6.stp s4 (by omega)
    have m23 : Fx.Blk w5 go 6 (Fx.rv .u64 x) 64 := m7.stp s4 (by omega)
    have m24 : Fx.Blk w5 gv 6 (Fx.rv .u64 y) 64 := m8.stp s4 (by omega)
    have b5 : Below w.heap.size w w5 := s4.below b2 b2.size (by omega)
    refine Fx.L.nil ?_
    refine Fx.seqN ?_
    refine Fx.W.ret ?_
    refine ⟨.agg (Fx.varr 6 (Fx.rv .u64 (eachT (fun p => mn6 (x p) (y p)) k))), Fx.retV1 Try.results64 ⟨_, h2, Fx.run_loadV m21.cel (by kernel_rfl) (by kernel_rfl)⟩, ?_⟩
    have e6 : k = 6 := by omega
    exact ⟨by rw [e6, eachT_end], b5⟩
end Go.Proofs.Ytcdkiakknbmfjaa
