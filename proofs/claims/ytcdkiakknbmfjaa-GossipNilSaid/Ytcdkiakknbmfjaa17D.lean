/-
  The walk of gossip.Least.
-/
import Derived.Test.Ytcdkiakknbmfjaa17C
namespace Go.Proofs.Ytcdkiakknbmfjaa
open Go.RowKit Rt
namespace Rt
theorem kd6 {y : Nat → Value} (a : Nat → Int) (e : ∀ i, i < 6 → y i = .int .u64 (a i)) (h : ∀ i, i < 6 → 0 ≤ a i ∧ a i ≤ 18446744073709551615) : Fx.Kd (List.replicate 6 (some .u64)) y := fun i hi => by
  have hi' : i < 6 := by simpa using hi
  have := Fx.kd_rv (k := .u64) (n := 6) (x := a) (fun j hj => Fx.wfu64 (h j hj)) i hi
  rw [e i hi']; exact this
def W2 (x y : Int) : Nat → Int
  | 0 => x
  | _ => y
end Rt
theorem g_least (K X : Nat → Int) (gp : Nat) (sa : Option Addr) (n cap : Nat) (w : World) (hn : n ≤ 1000) (hS : Its w sa n X) (hp : Fx.Blk w gp 36 (Fx.rv .u64 K) 99) :
    Calls Try.prog 32 #[.pointer (some ⟨gp, 0, none⟩), .slice sa (n) (cap)] w fun e w' => e = .returned (.agg (Fx.varr 6 (Fx.rv .u64 (leastV K X n)))) ∧ Below w.heap.size w w' := by
  have lgp := hp.lt
  refine Fx.enter Try.func32 rfl (n := 23) rfl (by rfl) ?_
  refine Fx.W.seq ?_
  refine Fx.W.list ?_
  refine Fx.L.new (m := 6) (y := Fx.rv .u64 (fun _ => 0)) (by rfl) rfl (by kernel_rfl) rfl fun g1 w1 eg1 m1 s1 z1 => ?_
  have m2 : Fx.Blk w1 gp 36 (Fx.rv .u64 K) 99 := hp.stp s1 (Nat.ne_of_lt (hp.lt))
  have b1 : Below w.heap.size w w1 := s1.below (Below.refl w.heap.size w) (Below.refl w.heap.size w).size (Below.refl w.heap.size w).size
  have lg1 : w.heap.size ≤ g1 := by rw [eg1]; exact (Below.refl w.heap.size w).size
  have ng1m2 : gp ≠ g1 := by rw [eg1]; exact Nat.ne_of_lt (hp.lt)
  have tg1 : g1 < w1.heap.size := m1.lt
  clear eg1
  refine Fx.L.nil ?_
  refine Fx.seqN ?_
  refine Fx.W.seq ?_
  refine Fx.W.list ?_
  refine Fx.L.val (v := .slice none 0 0) (by rfl) (Fx.x_assign rfl rfl) rfl ?_
  refine Fx.L.nil ?_
  refine Fx.seqN ?_
  refine Fx.W.seq ?_
  refine Fx.W.seq ?_
  refine Fx.W.list ?_
  refine Fx.L.val (v := .slice sa (n) (cap)) (by rfl) (Fx.x_move rfl rfl) rfl ?_
  refine Fx.L.val (v := .int .i64 ((n : Int))) (by rfl) (Fx.x_len rfl rfl rfl (by kernel_rfl)) rfl ?_
  refine Fx.L.val (v := .int .i64 (0)) (by rfl) (Fx.x_move rfl rfl) rfl ?_
  refine Fx.L.nil ?_
  refine Fx.seqN ?_
  refine Fx.W.block ?_
  have m3 : Fx.Own w1 (g1 + 1) 64 6 (.slice none 0 0) 0 (vx (fun i => ofV K (X i))) := Fx.Own.nil _ _ _ _ _
  refine Fx.W.loop (fun f w_ => ∃ k : Nat, ∃ v : Value, k ≤ n ∧ f 0 = .pointer (some ⟨gp, 0, none⟩) ∧ f 4 = .pointer (some ⟨g1, 0, none⟩) ∧ f 5 = v ∧ f 8 = .slice sa (n) (cap) ∧ f 9 = .int .i64 ((n : Int)) ∧ f 10 = .int .i64 ((k : Int)) ∧ Fx.Blk w_ gp 36 (Fx.rv .u64 K) 99 ∧ Fx.Blk w_ g1 6 (Fx.rv .u64 (fun _ => 0)) 64 ∧ Fx.Own w_ (g1 + 1) 64 6 v k (vx (fun i => ofV K (X i))) ∧ Below w.heap.size w w_) (fun f _ => (n - (intOf (f 10)).toNat)) ⟨0, (.slice none 0 0), by omega, (by rfl), (by rfl), (by rfl), (by rfl), (by first | rfl | exact congrArg (Value.int .i64) (by omega)), (by first | rfl | exact congrArg (Value.int .i64) (by omega)), m2, m1, m3, b1⟩ ?_
  rintro f1 w2 ⟨k, v, hk, h1, h2, h3, h4, h5, h6, m4, m5, m6, b2⟩
  refine Fx.W.seq ?_
  refine Fx.W.list ?_
  by_cases c11 : (k : Int) < (n : Int)
  · refine Fx.L.val (v := .bool true) (by rfl) (Fx.x_lssT rfl h6 h5 c11) rfl ?_
    refine Fx.L.nil ?_
    refine Fx.seqN ?_
    refine Fx.W.seq ?_
    refine Fx.W.cond (b := true) rfl (fun _ => ?_) (fun h => nomatch h)
    refine Fx.W.skip ?_
    refine Fx.seqN ?_
    refine Fx.W.seq ?_
    refine Fx.W.block ?_
    refine Fx.W.seq ?_
    obtain ⟨b, off, ea, hc⟩ := hS (by omega)
    have lb : b < w.heap.size := hc.lt (by omega)
    have m7 := hc.below b2 lb
    refine Fx.W.list ?_
    refine Fx.L.val (v := .pointer (some ⟨b, k + off, none⟩)) (by rfl) (Fx.x_indexS rfl (h4.trans (congrArg (fun q => Value.slice q (n) (cap)) ea)) h6 Try.underlying65 (s := 1) (by kernel_rfl) (by omega) (by omega) (by omega)) rfl ?_
    refine Fx.L.val (v := .int .i64 (X k)) (by rfl) (Fx.x_load1 (x := Fx.rv .i64 X) rfl rfl (by kernel_rfl) m7 (i := k) (by omega) (by omega) rfl) rfl ?_
    refine Fx.L.val (v := .int .i64 (X k)) (by rfl) (Fx.x_assign rfl rfl) rfl ?_
    refine Fx.L.nil ?_
    refine Fx.seqN ?_
    refine Fx.W.list ?_
    refine Fx.L.val (v := v) (by rfl) (Fx.x_move rfl h3) rfl ?_
    refine Fx.L.val (v := .pointer (some ⟨gp, 0, none⟩)) (by rfl) (Fx.x_move rfl h1) rfl ?_
    refine Fx.L.val (v := .int .i64 (X k)) (by rfl) (Fx.x_move rfl rfl) rfl ?_
    refine Fx.L.call (by rfl) (Fx.r_call (args := [.pointer (some ⟨gp, 0, none⟩), .int .i64 (X k)]) rfl rfl Try.func31 rfl rfl) rfl ((g_of K gp (X k) _ m4).mono ?_)
    rintro e w3 ⟨he, hb1⟩
    refine ⟨.agg (Fx.varr 6 (Fx.rv .u64 (ofV K (X k)))), by rw [he], ?_⟩
    clear he
    have s2 := Fx.Stp.of_below hb1
    have m8 : Fx.Blk w3 gp 36 (Fx.rv .u64 K) 99 := m4.stp s2 (Nat.ne_of_lt (m4.lt))
    have m9 : Fx.Blk w3 g1 6 (Fx.rv .u64 (fun _ => 0)) 64 := m5.stp s2 (Nat.ne_of_lt (m5.lt))
    have m10 : Fx.Own w3 (g1 + 1) 64 6 v k (vx (fun i => ofV K (X i))) := m6.stp s2 (m6.notNew (Nat.le_refl _))
    have m11 : Fx.Cel w3 b off n (Fx.rv .i64 X) := m7.stp s2 (Nat.ne_of_lt (m7.lt (by omega)))
    have b3 : Below w.heap.size w w3 := s2.below b2 b2.size b2.size
    refine Fx.L.bslice (vs := [(0, .agg (Fx.varr 6 (Fx.rv .u64 (ofV K (X k)))))]) (s := 6) (zc := Fx.rv .u64 (fun _ => 0)) (y := Fx.ovr (fun j => (Fx.rv .u64 (fun _ => 0)) (j % 6)) (0 * 6) 6 (Fx.rv .u64 (ofV K (X k)))) (by rfl) rfl rfl Try.underlying100 (by kernel_rfl) (by rfl) (by rfl) (by kernel_rfl) (by rw [Fx.fill_step (off := 0 * 6) (s := 6) (y := Fx.rv .u64 (ofV K (X k))) rfl (Fx.cells_agg _ _) (by rfl)]; rfl) rfl fun g2 w4 eg2 m12 s3 z2 => ?_
    have m13 : Fx.Blk w4 gp 36 (Fx.rv .u64 K) 99 := m8.stp s3 (Nat.ne_of_lt (m8.lt))
    have m14 : Fx.Blk w4 g1 6 (Fx.rv .u64 (fun _ => 0)) 64 := m9.stp s3 (Nat.ne_of_lt (m9.lt))
    have m15 : Fx.Own w4 (g1 + 1) 64 6 v k (vx (fun i => ofV K (X i))) := m10.stp s3 (m10.notNew (Nat.le_refl _))
    have m16 : Fx.Cel w4 b off n (Fx.rv .i64 X) := m11.stp s3 (Nat.ne_of_lt (m11.lt (by omega)))
    have b4 : Below w.heap.size w w4 := s3.below b3 b3.size b3.size
    have lg2 : w.heap.size ≤ g2 := by rw [eg2]; exact b3.size
    have ng2m13 : gp ≠ g2 := by rw [eg2]; exact Nat.ne_of_lt (m8.lt)
    have ng2m14 : g1 ≠ g2 := by rw [eg2]; exact Nat.ne_of_lt (m9.lt)
    have ng2m16 : b ≠ g2 := by rw [eg2]; exact Nat.ne_of_lt (m11.lt (by omega))
    have tg2 : g2 < w4.heap.size := m12.lt
    clear eg2
    have m17 : Fx.Blk w4 g2 6 (Fx.rv .u64 (Fx.ovrI (fun _ => 0) (0 * 6) 6 (ofV K (X k)))) 64 := m12.to (Fx.ovr_rv .u64 (fun _ => 0) (0 * 6) 6 _)
    refine Fx.L.app (B := g1 + 1) (s := 6) (bytes := 48) (k := k) (m := 1) (by rfl) rfl rfl rfl Try.underlying100 (by kernel_rfl) (by kernel_rfl) rfl rfl m15 m17.cel (fun _ _ => rfl) (by omega) (by omega) (by omega) (by omega) fun g3 cap1 w5 ho1 hg1 hgv1 hlt1 => ?_
    have m19 : Fx.Blk w5 gp 36 (Fx.rv .u64 K) 99 := m13.grown hg1 (m15.not (by omega))
    have m20 : Fx.Blk w5 g1 6 (Fx.rv .u64 (fun _ => 0)) 64 := m14.grown hg1 (m15.not (by omega))
    have m21 : Fx.Cel w5 b off n (Fx.rv .i64 X) := m16.grown hg1 (m15.not (by omega))
    have m18 : Fx.Own w5 (g1 + 1) 64 6 (.slice (some ⟨g3, 0, none⟩) (k + 1) cap1) (k + 1) (vx (fun i => ofV K (X i))) := ho1.congr (own_step (fun i => ofV K (X i)) k _ rfl)
    have b5 : Below w.heap.size w w5 := Fx.Below.grow b4 hg1 b4.size (fun q hq => by have := (m15.ge hq).1; omega)
    refine Fx.L.val (v := .slice (some ⟨g3, 0, none⟩) (k + 1) (cap1)) (by rfl) (Fx.x_assign rfl rfl) rfl ?_
    refine Fx.L.nil ?_
    refine Fx.blkN ?_
    refine Fx.seqN ?_
    refine Fx.W.list ?_
    refine Fx.L.val (v := .int .i64 ((k : Int) + 1)) (by rfl) (Fx.x_add rfl h6 rfl (Fx.i64e (by omega) (by omega))) rfl ?_
    refine Fx.L.val (v := .int .i64 ((k : Int) + 1)) (by rfl) (Fx.x_move rfl rfl) rfl ?_
    refine Fx.L.nil ?_
    refine Fx.lpN ⟨k + 1, (.slice (some ⟨g3, 0, none⟩) (k + 1) (cap1)), by omega, h1, h2, (by rfl), h4, (h5.trans (by first | rfl | exact congrArg (Value.int .i64) (by omega))), (by first | rfl | exact congrArg (Value.int .i64) (by omega)), m19, m20, m18, b5⟩ ?_
    show (n - (intOf ((.int .i64 ((k : Int) + 1)))).toNat) < _
    simp only [h6, intOf]; omega
  · refine Fx.L.val (v := .bool false) (by rfl) (Fx.x_lssF rfl h6 h5 c11) rfl ?_
    refine Fx.L.nil ?_
    refine Fx.seqN ?_
    refine Fx.W.seq ?_
    refine Fx.W.cond (b := false) rfl (fun h => nomatch h) (fun _ => ?_)
    refine Fx.W.exit ?_
    refine Fx.seqX ?_
    refine Fx.lpX ?_
    refine Fx.blkX ?_
    refine Fx.seqN ?_
    refine Fx.W.seq ?_
    refine Fx.W.list ?_
    refine Fx.L.val (v := v) (by rfl) (Fx.x_move rfl h3) rfl ?_
    refine Fx.L.call (by rfl) (Fx.r_call (args := [v]) rfl rfl Try.func46 rfl rfl) rfl ((g_meet_own (by omega) m6).mono ?_)
    rintro e w6 ⟨he, hb2⟩
    refine ⟨.agg (Fx.varr 6 (Fx.rv .u64 (foldV mn6 (fun i => ofV K (X i)) k))), by rw [he], ?_⟩
    clear he
    have s4 := Fx.Stp.of_below hb2
    have m22 : Fx.Blk w6 gp 36 (Fx.rv .u64 K) 99 := m4.stp s4 (Nat.ne_of_lt (m4.lt))
    have m23 : Fx.Blk w6 g1 6 (Fx.rv .u64 (fun _ => 0)) 64 := m5.stp s4 (Nat.ne_of_lt (m5.lt))
    have m24 : Fx.Own w6 (g1 + 1) 64 6 v k (vx (fun i => ofV K (X i))) := m6.stp s4 (m6.notNew (Nat.le_refl _))
    have b6 : Below w.heap.size w w6 := s4.below b2 b2.size b2.size
    refine Fx.L.storeA (x := Fx.rv .u64 (fun _ => 0)) (y := Fx.rv .u64 (foldV mn6 (fun i => ofV K (X i)) k)) (by rfl) rfl rfl h2 rfl (fun _ _ => rfl) (by kernel_rfl) m23 (i := 0) (by omega) fun w7 m25 s5 z3 => ?_
    have m26 : Fx.Blk w7 g1 6 (Fx.rv .u64 (foldV mn6 (fun i => ofV K (X i)) k)) 64 := Fx.ovr_all m25
    have m27 : Fx.Blk w7 gp 36 (Fx.rv .u64 K) 99 := m22.stp s5 (by omega)
    have m28 : Fx.Own w7 (g1 + 1) 64 6 v k (vx (fun i => ofV K (X i))) := m24.stp s5 (m24.not (by omega))
    have b7 : Below w.heap.size w w7 := s5.below b6 b6.size (by omega)
    refine Fx.L.nil ?_
    refine Fx.seqN ?_
    refine Fx.W.ret ?_
    refine ⟨.agg (Fx.varr 6 (Fx.rv .u64 (foldV mn6 (fun i => ofV K (X i)) k))), Fx.retV1 Try.results32 ⟨_, h2, Fx.run_loadV m26.cel (by kernel_rfl) (by kernel_rfl)⟩, ?_⟩
    have ek : k = n := by omega
    exact ⟨by rw [ek]; rfl, b7⟩
end Go.Proofs.Ytcdkiakknbmfjaa
