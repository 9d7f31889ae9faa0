/-
  What the proof of the law rests on, part 2: walks of functions, and plain laws; each says its conditions itself.
-/
import Derived.Test.YtjnkejgjgknllaaZT1
namespace Go.Proofs.Ytjnkejgjgknllaa
open Go.RowKit Rt
namespace Rt
def mnZ (a b : Int) : Int := if b < a then b else a
def bumpW (now : Int) (u : WtM) : WtM := ⟨u.node, u.amt, now + u.wait, mnZ (2 * u.wait) 16⟩
def dueW (now : Int) (u : WtM) : WtM := if u.at_ ≤ now then bumpW now u else u
theorem dueW_node (now : Int) (u : WtM) : (dueW now u).node = u.node := by unfold dueW; split <;> rfl
theorem mnZ_bd (a : Int) (h1 : 1 ≤ a) (h2 : a ≤ 16) : 1 ≤ mnZ (2 * a) 16 ∧ mnZ (2 * a) 16 ≤ 16 := by unfold mnZ; split <;> omega
theorem dueW_ok (now : Int) (u : WtM) (h1 : 1 ≤ u.wait) (h2 : u.wait ≤ 16) : 1 ≤ (dueW now u).wait ∧ (dueW now u).wait ≤ 16 := by
  unfold dueW; split
  · exact mnZ_bd _ h1 h2
  · exact ⟨h1, h2⟩
theorem dueW_ok3 (now : Int) {u : WtM} (h : WtOk u) : WtOk (dueW now u) := by unfold dueW; split <;> exact h
theorem ThoseR.inj {n m : Nat} {W : Nat → WtM} {P : Nat → Prop} {τ : Nat → Nat} (h : ThoseR n W P m τ) {q r : Nat} (hq : q < m) (hr : r < m) (e : τ q = τ r) : q = r := by
  rcases Nat.lt_trichotomy q r with h1 | h1 | h1
  · have := h.up q r h1 hr; rw [e] at this; omega
  · exact h1
  · have := h.up r q h1 hq; rw [e] at this; omega
theorem due_app {W V : Nat → WtM} {τ : Nat → Nat} {k : Nat} {z : Nat → Value} (hk : V (τ k) = W (τ k)) : ∀ j, j < (k + 1) * 2 → Fx.appX (Fx.flat 2 fun q => wtc (W (τ q))) (k * 2) (Fx.ovr z (0 * 2) 2 (fun j => wtc (V (τ k)) (0 + j))) j = Fx.flat 2 (fun q => wtc (W (τ q))) j := fun j hj => by
  unfold Fx.appX Fx.ovr
  by_cases e : j < k * 2
  · rw [if_pos e]
  · rw [if_neg e, if_pos (by omega), hk]
    show _ = wtc (W (τ (j / 2))) (j % 2)
    rw [show j / 2 = k by omega, show j % 2 = 0 + (j - k * 2 - 0 * 2) by omega]
theorem due_v1 {n m k : Nat} {W V : Nat → WtM} {P : Nat → Prop} {τ : Nat → Nat} {now : Int} {u1 u2 : WtM} (h : ThoseR n W P m τ) (hkm : k < m) (hv : ∀ q, q < k → V (τ q) = bumpW now (W (τ q))) (hu : u2 = bumpW now (W (τ k))) : ∀ q, q < k + 1 → Fx.putI (Fx.putI V (τ k) u1) (τ k) u2 (τ q) = bumpW now (W (τ q)) := fun q hq => by
  unfold Fx.putI
  by_cases e : q = k
  · subst e; rw [if_pos rfl]; exact hu
  · have ne : τ q ≠ τ k := fun e2 => e (h.inj (by omega) hkm e2)
    rw [if_neg ne, if_neg ne]; exact hv q (by omega)
theorem due_v2 {k : Nat} {W V : Nat → WtM} {τ : Nat → Nat} {u1 u2 : WtM} (hv : ∀ i, (∀ q, q < k → τ q ≠ i) → V i = W i) : ∀ i, (∀ q, q < k + 1 → τ q ≠ i) → Fx.putI (Fx.putI V (τ k) u1) (τ k) u2 i = W i := fun i hi => by
  unfold Fx.putI
  have ne : i ≠ τ k := fun e => hi k (by omega) e.symm
  rw [if_neg ne, if_neg ne]; exact hv i fun q hq => hi q (by omega)
theorem due_v {n m : Nat} {W V : Nat → WtM} {τ : Nat → Nat} {now : Int} (h : ThoseR n W (fun i => (W i).at_ ≤ now) m τ) (h1 : ∀ q, q < m → V (τ q) = bumpW now (W (τ q))) (h2 : ∀ i, (∀ q, q < m → τ q ≠ i) → V i = W i) : ∀ i, i < n → V i = dueW now (W i) := fun i hi => by
  unfold dueW
  by_cases e : (W i).at_ ≤ now
  · rw [if_pos e]
    obtain ⟨q, hq, rfl⟩ := h.mem i hi e
    exact h1 q hq
  · rw [if_neg e]
    exact h2 i fun q hq e2 => e (e2 ▸ h.yes q hq)
inductive DoneR (n : Nat) (W : Nat → WtM) (node : Int) : Bool → Nat → (Nat → WtM) → Prop
  | no (hn : ∀ i, i < n → (W i).node ≠ node) : DoneR n W node false n W
  | yes (j : Nat) (hj : j < n) (e : (W j).node = node) : DoneR n W node true (n - 1) (Fx.delI W j)
theorem delI_inj {n j : Nat} {pb : Nat → Nat} (h : ∀ i k, i < n → k < n → pb i = pb k → i = k) : ∀ i k, i < n - 1 → k < n - 1 → Fx.delI pb j i = Fx.delI pb j k → i = k := fun i k hi hk e => by
  unfold Fx.delI at e
  split at e <;> split at e
  · exact h i k (by omega) (by omega) e
  · have := h i (k + 1) (by omega) (by omega) e; omega
  · have := h (i + 1) k (by omega) (by omega) e; omega
  · have := h (i + 1) (k + 1) (by omega) (by omega) e; omega
theorem delI_all {α : Type} {n j : Nat} {f : Nat → α} {p : α → Prop} (h : ∀ i, i < n → p (f i)) : ∀ i, i < n - 1 → p (Fx.delI f j i) := fun i hi => by
  unfold Fx.delI
  split
  · exact h i (by omega)
  · exact h (i + 1) (by omega)
theorem delI_node (W : Nat → WtM) (j i : Nat) : (Fx.delI W j i).node = Fx.delI (fun i => (W i).node) j i := by unfold Fx.delI; split <;> rfl
theorem delI_ptr (pb : Nat → Nat) (j i : Nat) : (.pointer (some ⟨Fx.delI pb j i, 0, none⟩) : Value) = Fx.delI (fun i => (.pointer (some ⟨pb i, 0, none⟩) : Value)) j i := by unfold Fx.delI; split <;> rfl
end Rt
theorem Rt.nodup_len : ∀ {l r : List Nat}, l.Nodup → l ⊆ r → l.length ≤ r.length
  | [], _, _, _ => Nat.zero_le _
  | a :: l, r, hn, hs => by
    rw [List.nodup_cons] at hn
    have h1 : a ∈ r := hs (List.mem_cons_self ..)
    have h2 := nodup_len (l := l) (r := r.erase a) hn.2 fun x hx => (List.mem_erase_of_ne (fun e => hn.1 (by rw [← e]; exact hx))).2 (hs (List.mem_cons_of_mem _ hx))
    rw [List.length_erase_of_mem h1] at h2
    have := List.length_pos_of_mem h1
    simp only [List.length_cons]; omega
theorem Rt.those_le {n m : Nat} {W : Nat → WtM} {P : Nat → Prop} {τ : Nat → Nat} (h : ThoseR n W P m τ) : m ≤ n := by
  have h1 : ((List.range m).map τ).Nodup := by
    rw [List.Nodup, List.pairwise_iff_getElem]
    intro i j hi hj hij
    simp only [List.getElem_map, List.getElem_range]
    simp only [List.length_map, List.length_range] at hi hj
    exact fun e => absurd (h.inj hi hj e) (by omega)
  have h2 : ((List.range m).map τ) ⊆ List.range n := fun x hx => by
    simp only [List.mem_map, List.mem_range] at hx
    obtain ⟨q, hq, rfl⟩ := hx
    exact List.mem_range.2 (h.lt q hq)
  have h3 := nodup_len h1 h2
  simpa using h3
theorem d_due (now : Int) (p mb n : Nat) (pb : Nat → Nat) (W : Nat → WtM) (B : Nat) (w : World) (h : DemO w B p mb n pb W) (hn0 : 0 ≤ now) (hn2 : now ≤ 4611686018427387904) :
    Calls Try.prog 10 #[.pointer (some ⟨p, 0, none⟩), .int .u64 (now)] w fun e w' => ∃ a m c τ, e = .returned (.slice a m c) ∧ Fx.Own w' w.heap.size 31 2 (.slice a m c) m (Fx.flat 2 fun q => wtc (W (τ q))) ∧ ThoseR n W (fun i => (W i).at_ ≤ now) m τ ∧ DemO w' B p mb n pb (fun i => dueW now (W i)) ∧ Fx.Chg (demS mb n pb) w w' := by
 refine Fx.enter Try.func10 rfl (n := 42) rfl (by rfl) ?_
 have hbk := h.blk
 have hmp := h.map
 have hfm := h.fam
 have hij := h.inj
 have hge := h.ge
 have hgp := h.gp
 have hgm := h.gm
 have hsm := h.small
 have hok := h.ok
 have hok2 := h.ok2
 have hok3 := h.ok3
 have tp := hbk.lt
 have tm := hmp.lt
 have hm32 : ∀ {m : Nat} {P : Nat → Prop} {τ : Nat → Nat}, ThoseR n W P m τ → m ≤ 32 := fun hth => Nat.le_trans (those_le hth) hsm
 refine Fx.W.seq (Fx.W.list (Fx.L.box (m := 1) (y := fun _ => .int .u64 (now)) (by rfl) rfl rfl (Fx.cells_one (by rfl)) rfl fun g1 w1 eg1 m1 s1 z1 => ?_))
 have m2 := hbk.stp s1 (Nat.ne_of_lt (hbk.lt))
 have m3 := hmp.up s1.old
 have m4 := hfm.up s1.old
 have b1 := (Fx.Chg.refl (demS mb n pb) w).then s1 (.inr (Fx.Chg.refl (demS mb n pb) w).size)
 have lg1 : w.heap.size ≤ g1 := by rw [eg1]; exact (Fx.Chg.refl (demS mb n pb) w).size
 have ng1m2 : p ≠ g1 := by rw [eg1]; exact Nat.ne_of_lt (hbk.lt)
 have ng1m3 : mb ≠ g1 := by rw [eg1]; exact Nat.ne_of_lt (hmp.lt)
 have tg1 : g1 < w1.heap.size := m1.lt
 clear eg1
 refine Fx.L.v (.slice none 0 0) (Fx.x_assign rfl rfl) ?_
 refine Fx.L.nil (Fx.seqN (Fx.W.seq (Fx.W.seq (Fx.W.list (Fx.L.v (.pointer (some ⟨p, 0, none⟩)) (Fx.x_move rfl rfl) ?_)))))
 refine Fx.L.v (.func (.func 19) #[] #[.pointer (some ⟨g1, 0, none⟩)]) (Fx.x_func (us := []) (vs := [.pointer (some ⟨g1, 0, none⟩)]) rfl rfl rfl) ?_
 refine Fx.L.call (by rfl) (Fx.r_call (args := [.pointer (some ⟨p, 0, none⟩), .func (.func 19) #[] #[.pointer (some ⟨g1, 0, none⟩)]]) rfl rfl Try.func18 rfl rfl) rfl ((d_those_due p mb n pb W B _ ⟨m2, m3, m4, hij, hge, hgp, hgm, hsm, hok, hok2, hok3⟩ now g1 m1).mono ?_)
 rintro e9 w2 ⟨a, m, c, τ, he, m5, hth, hbt⟩
 refine ⟨_, he, ?_⟩
 clear he
 have s2 := Fx.Stp.of_below hbt
 have m6 := m2.stp s2 (Nat.ne_of_lt (m2.lt))
 have m7 := m3.up s2.old
 have m8 := m4.up s2.old
 have m9 := m1.stp s2 (Nat.ne_of_lt (m1.lt))
 have b2 := b1.then s2 (.inr b1.size)
 refine Fx.L.v (.int .i64 ((m : Int))) (Fx.x_len rfl rfl rfl (by kernel_rfl)) ?_
 refine Fx.L.v (.int .i64 (0)) (Fx.x_move rfl rfl) ?_
 refine Fx.L.nil (Fx.seqN (Fx.W.block ?_))
 have m10 : Fx.Own w2 w.heap.size 31 2 (.slice none 0 0) 0 (Fx.flat 2 fun q => wtc (W (τ q))) := Fx.Own.nil _ _ _ _ _
 refine Fx.W.loop (fun f w_ => ∃ k : Nat, ∃ a2 : Option Addr, ∃ cap2 : Nat, ∃ V : Nat → WtM, k ≤ m ∧ (∀ q, q < k → V (τ q) = bumpW now (W (τ q))) ∧ (∀ i, (∀ q, q < k → τ q ≠ i) → V i = W i) ∧ f 0 = .pointer (some ⟨p, 0, none⟩) ∧ f 3 = .pointer (some ⟨g1, 0, none⟩) ∧ f 4 = .slice a2 (k) (cap2) ∧ f 9 = .slice a (m) (c) ∧ f 10 = .int .i64 ((m : Int)) ∧ f 11 = .int .i64 ((k : Int)) ∧ Fx.Blk w_ p 1 (fun _ => .map (some mb)) 54 ∧ Fx.Mp w_ mb n (fun i => (W i).node) (fun i => .pointer (some ⟨pb i, 0, none⟩)) ∧ Fx.Fam w_ n pb 4 (fun i => wtc (V i)) 57 ∧ Fx.Blk w_ g1 1 (fun _ => .int .u64 (now)) 22 ∧ Fx.Own w_ w1.heap.size 55 1 (.slice a (m) (c)) m (fun q => .pointer (some ⟨pb (τ q), 0, none⟩)) ∧ Fx.Own w_ w.heap.size 31 2 (.slice a2 (k) (cap2)) k (Fx.flat 2 fun q => wtc (W (τ q))) ∧ Fx.Chg (demS mb n pb) w w_) (fun f _ => (m - (intOf (f 11)).toNat)) ⟨0, none, 0, W, by omega, (fun _ h => absurd h (Nat.not_lt_zero _)), (fun _ _ => rfl), (by rfl), (by rfl), (by rfl), (by rfl), (by first | rfl | exact congrArg (Value.int .i64) (by omega)), (by first | rfl | exact congrArg (Value.int .i64) (by omega)), m6, m7, m8, m9, m5, m10, b2⟩ ?_
 rintro f1 w3 ⟨k, a2, cap2, V, hk, hv1, hv2, h1, h2, h3, h4, h5, h6, m11, m12, m13, m14, m15, m16, b3⟩
 refine Fx.W.seq (Fx.W.list ?_)
 by_cases c12 : (k : Int) < (m : Int)
 ·refine Fx.L.v (.bool true) (Fx.x_lssT rfl h6 h5 c12) ?_
  refine Fx.L.nil (Fx.seqN (Fx.W.seq (Fx.W.cond (b := true) rfl (fun _ => Fx.W.skip (Fx.seqN (Fx.W.seq (Fx.W.block (Fx.W.seq ?_))))) (fun h => nomatch h))))
  have hVk : V (τ k) = W (τ k) := hv2 _ fun q hq e => by have := hth.inj (by omega) (by omega) e; omega
  have hw1 : 1 ≤ (V (τ k)).wait := by rw [hVk]; exact hok _ (hth.lt k (by omega))
  have hw2 : (V (τ k)).wait ≤ 16 := by rw [hVk]; exact hok2 _ (hth.lt k (by omega))
  refine Fx.W.list ?_
  obtain ⟨gq1, eq1⟩ := m15.addr (by omega)
  have m17 : Fx.Own w3 w1.heap.size 55 1 (.slice (some ⟨gq1, 0, none⟩) m c) m (fun q => .pointer (some ⟨pb (τ q), 0, none⟩)) := m15.congV (congrArg (fun q => Value.slice q m c) eq1)
  refine Fx.L.v (.pointer (some ⟨gq1, k, none⟩)) (Fx.x_indexS rfl (h4.trans (congrArg (fun q => Value.slice q (m) (c)) eq1)) h6 Try.underlying58 (s := 1) (by kernel_rfl) (by omega) (by omega) (by omega)) ?_
  refine Fx.L.v (.pointer (some ⟨pb (τ k), 0, none⟩)) (Fx.x_load1 (x := fun q => .pointer (some ⟨pb (τ q), 0, none⟩)) rfl rfl (by kernel_rfl) m17.cel (i := k) (by omega) (by omega) rfl) ?_
  refine Fx.L.v (.pointer (some ⟨pb (τ k), 0, none⟩)) (Fx.x_assign rfl rfl) ?_
  refine Fx.L.nil (Fx.seqN (Fx.W.seq ?_))
  have hm3 := hm32 hth
  refine Fx.W.list (Fx.L.v (.slice a2 (k) (cap2)) (Fx.x_move rfl h3) ?_)
  refine Fx.L.v (.pointer (some ⟨pb (τ k), 0, none⟩)) (Fx.x_move rfl rfl) ?_
  refine Fx.L.v (.pointer (some ⟨pb (τ k), 0, none⟩)) (Fx.x_nil rfl rfl) ?_
  refine Fx.L.v (.pointer (some ⟨pb (τ k), 0, none⟩)) (Fx.x_field rfl rfl Try.underlying57 rfl (s := 2) (by kernel_rfl) rfl rfl) ?_
  have hfj1 : (τ k) < n := hth.lt _ (by omega)
  have m18 := m13 (τ k) hfj1
  have gm18 := hge (τ k) hfj1
  refine Fx.L.v (.agg (Fx.varr 2 (fun j => (wtc (V (τ k))) (0 + j)))) (Fx.x_loadA (x := wtc (V (τ k))) (y := fun j => (wtc (V (τ k))) (0 + j)) rfl rfl (by kernel_rfl) (by kernel_rfl) m18.cel (i := 0) (by omega) (by omega) (fun _ _ => rfl)) ?_
  refine Fx.L.bslice (vs := [(0, .agg (Fx.varr 2 (fun j => (wtc (V (τ k))) (0 + j))))]) (s := 2) (zc := fun i => (#[.int .u64 (0), .int .i64 (0)] : Array Value).getD i undef) (y := Fx.ovr (fun j => (#[.int .u64 (0), .int .i64 (0)] : Array Value).getD (j % 2) undef) (0 * 2) 2 (fun j => (wtc (V (τ k))) (0 + j))) (by rfl) rfl rfl Try.underlying28 (by kernel_rfl) (by rfl) (by rfl) (by kernel_rfl) (by rw [Fx.fill_step (off := 0 * 2) (s := 2) (y := fun j => (wtc (V (τ k))) (0 + j)) rfl (Fx.cells_agg _ _) (by rfl)]; rfl) rfl fun g2 w4 eg2 m19 s3 z2 => ?_
  have m20 := m11.stp s3 (Nat.ne_of_lt (m11.lt))
  have m21 := m12.up s3.old
  have m22 := m13.up s3.old
  have m23 := m14.stp s3 (Nat.ne_of_lt (m14.lt))
  have m24 := m16.stp s3 (m16.notNew (Nat.le_refl _))
  have m25 := m17.stpB s3 (Nat.ne_of_lt (m17.lt))
  have m26 := m18.stp s3 (Nat.ne_of_lt (m18.lt))
  have b4 := b3.then s3 (.inr b3.size)
  have lg2 : w.heap.size ≤ g2 := by rw [eg2]; exact b3.size
  have ng2m20 : p ≠ g2 := by rw [eg2]; exact Nat.ne_of_lt (m11.lt)
  have ng2m21 : mb ≠ g2 := by rw [eg2]; exact Nat.ne_of_lt (m12.lt)
  have ng2m23 : g1 ≠ g2 := by rw [eg2]; exact Nat.ne_of_lt (m14.lt)
  have ng2m24 : (.slice a2 (k) (cap2) : Value).ownBlock ≠ some g2 := by rw [eg2]; exact m16.notNew (Nat.le_refl _)
  have ng2m25 : gq1 ≠ g2 := by rw [eg2]; exact Nat.ne_of_lt (m17.lt)
  have ng2m26 : (pb (τ k)) ≠ g2 := by rw [eg2]; exact Nat.ne_of_lt (m18.lt)
  have tg2 : g2 < w4.heap.size := m19.lt
  clear eg2
  refine Fx.L.app (B := w.heap.size) (s := 2) (bytes := 16) (k := k) (m := 1) (v := .slice a2 (k) (cap2)) (x := Fx.flat 2 fun q => wtc (W (τ q))) (by rfl) rfl rfl rfl Try.underlying28 (by kernel_rfl) (by kernel_rfl) rfl rfl m24 m19.cel (fun j hj => by unfold Fx.ovr; rw [if_pos (by omega)]; rcases j with _|_|j <;> first | rfl | omega) (by omega) (by omega) (by omega) b4.size fun g3 cap1 w5 ho1 hg1 hgv1 hlt1 => ?_
  have hct1 := Fx.ChT.of_grown hg1 m24
  have m28 := m20.chT hct1 (by decide)
  have m29 := m21.chT hct1 (by decide)
  have m30 := m22.chT hct1 (by decide)
  have m31 := m23.chT hct1 (by decide)
  have m32 := m25.chT hct1 (by decide)
  have m33 := m26.chT hct1 (by decide)
  have m27 : Fx.Own w5 w.heap.size 31 2 (.slice (some ⟨g3, 0, none⟩) (k + 1) cap1) (k + 1) (Fx.flat 2 fun q => wtc (W (τ q))) := (ho1.congr (due_app hVk))
  have b5 : Fx.Chg (demS mb n pb) w w5 := Fx.Chg.grow b4 hg1 (fun q hq => .inr (m24.ge hq).1)
  refine Fx.L.v (.slice (some ⟨g3, 0, none⟩) (k + 1) (cap1)) (Fx.x_assign rfl rfl) ?_
  refine Fx.L.nil (Fx.seqN (Fx.W.seq ?_))
  -- region 5 draws
  refine Fx.W.tail 9 (by kernel_rfl) (by kernel_rfl) fun wt1 hbwt1 hzwt1 => ?_
  have s4 : Fx.Stp w5.heap.size w5 wt1 := Fx.Stp.of_below hbwt1
  have m34 := m28.stp s4 (Nat.ne_of_lt (m28.lt))
  have m35 := m29.up s4.old
  have m36 := m30.up s4.old
  have m37 := m31.stp s4 (Nat.ne_of_lt (m31.lt))
  have m38 := m32.stpB s4 (Nat.ne_of_lt (m32.lt))
  have m39 := m33.stp s4 (Nat.ne_of_lt (m33.lt))
  have m40 := m27.stpB s4 (Nat.ne_of_lt (m27.lt))
  have b6 := b5.then s4 (.inr b5.size)
  refine Fx.St.v (.pointer (some ⟨pb (τ k), 0, none⟩)) (Fx.x_move rfl rfl) ?_
  refine Fx.St.v (.int .u64 (now)) (Fx.x_load1 (x := fun _ => .int .u64 (now)) rfl h2 (by kernel_rfl) m37.cel (i := 0) (by omega) (by omega) rfl) ?_
  refine Fx.St.v (.pointer (some ⟨pb (τ k), 0, none⟩)) (Fx.x_move rfl rfl) ?_
  refine Fx.St.v (.pointer (some ⟨pb (τ k), 0, none⟩)) (Fx.x_nil rfl rfl) ?_
  refine Fx.St.v (.pointer (some ⟨pb (τ k), 3, none⟩)) (Fx.x_field rfl rfl Try.underlying57 rfl (s := 1) (by kernel_rfl) rfl (by show _ + 3 = _; omega)) ?_
  refine Fx.St.v (.int .u64 ((V (τ k)).wait)) (Fx.x_load1 (x := wtc (V (τ k))) rfl rfl (by kernel_rfl) m39.cel (i := 3) (by omega) (by omega) rfl) ?_
  refine Fx.St.v (.int .u64 (now + ((V (τ k)).wait))) (Fx.x_add rfl rfl rfl (Fx.u64e (by omega) (by omega))) ?_
  refine Fx.St.v (.pointer (some ⟨pb (τ k), 0, none⟩)) (Fx.x_nil rfl rfl) ?_
  refine Fx.St.v (.pointer (some ⟨pb (τ k), 2, none⟩)) (Fx.x_field rfl rfl Try.underlying57 rfl (s := 1) (by kernel_rfl) rfl (by show _ + 2 = _; omega)) ?_
  refine Fx.St.nil ?_
  refine Fx.L.store1 (x := wtc (V (τ k))) (u := .int .u64 (now + ((V (τ k)).wait))) (by rfl) rfl rfl rfl rfl (by rfl) (by kernel_rfl) m39 (i := 2) (by omega) fun w6 m41 s5 z3 => ?_
  have m42 : Fx.Blk w6 (pb (τ k)) 4 (wtc ⟨(V (τ k)).node, (V (τ k)).amt, now + ((V (τ k)).wait), (V (τ k)).wait⟩) 57 := m41.to (wtc_at (V (τ k)) _)
  have hct2 := Fx.ChT.of_stp s5 m39.ty
  have m43 := m34.chT hct2 (by decide)
  have m44 := m35.chT hct2 trivial
  have m45 := m36.put s5 m42 hij hfj1
  have m46 : Fx.Fam w6 n pb 4 (fun i => wtc ((Fx.putI V (τ k) ⟨(V (τ k)).node, (V (τ k)).amt, now + ((V (τ k)).wait), (V (τ k)).wait⟩) i)) 57 := m45.to (fun i _ => putI_wtc V (τ k) ⟨(V (τ k)).node, (V (τ k)).amt, now + ((V (τ k)).wait), (V (τ k)).wait⟩ i)
  have m47 := m37.chT hct2 (by decide)
  have m48 := m38.chT hct2 (by decide)
  have m49 := m40.chT hct2 (by decide)
  have b7 := b6.then s5 (.inl (.inr ⟨(τ k), hfj1, rfl⟩))
  refine Fx.L.nil (Fx.seqN (Fx.W.list (Fx.L.v (.pointer (some ⟨pb (τ k), 0, none⟩)) (Fx.x_move rfl rfl) ?_)))
  refine Fx.L.v (.pointer (some ⟨pb (τ k), 0, none⟩)) (Fx.x_move rfl rfl) ?_
  refine Fx.L.v (.pointer (some ⟨pb (τ k), 0, none⟩)) (Fx.x_nil rfl rfl) ?_
  refine Fx.L.v (.pointer (some ⟨pb (τ k), 3, none⟩)) (Fx.x_field rfl rfl Try.underlying57 rfl (s := 1) (by kernel_rfl) rfl (by show _ + 3 = _; omega)) ?_
  refine Fx.L.v (.int .u64 ((V (τ k)).wait)) (Fx.x_load1 (x := wtc ⟨(V (τ k)).node, (V (τ k)).amt, now + ((V (τ k)).wait), (V (τ k)).wait⟩) rfl rfl (by kernel_rfl) m42.cel (i := 3) (by omega) (by omega) rfl) ?_
  refine Fx.L.v (.int .u64 (2 * ((V (τ k)).wait))) (Fx.x_mul rfl rfl rfl (Fx.u64e (by omega) (by omega))) ?_
  refine Fx.L.v (.int .u64 (mnZ (2 * ((V (τ k)).wait)) 16)) (Fx.x_min rfl rfl rfl) ?_
  refine Fx.L.v (.pointer (some ⟨pb (τ k), 0, none⟩)) (Fx.x_nil rfl rfl) ?_
  refine Fx.L.v (.pointer (some ⟨pb (τ k), 3, none⟩)) (Fx.x_field rfl rfl Try.underlying57 rfl (s := 1) (by kernel_rfl) rfl (by show _ + 3 = _; omega)) ?_
  refine Fx.L.store1 (x := wtc ⟨(V (τ k)).node, (V (τ k)).amt, now + ((V (τ k)).wait), (V (τ k)).wait⟩) (u := .int .u64 (mnZ (2 * ((V (τ k)).wait)) 16)) (by rfl) rfl rfl rfl rfl (by rfl) (by kernel_rfl) m42 (i := 3) (by omega) fun w7 m50 s6 z4 => ?_
  have m51 : Fx.Blk w7 (pb (τ k)) 4 (wtc ⟨(V (τ k)).node, (V (τ k)).amt, now + ((V (τ k)).wait), mnZ (2 * ((V (τ k)).wait)) 16⟩) 57 := m50.congr (wtc_wait (⟨(V (τ k)).node, (V (τ k)).amt, now + ((V (τ k)).wait), (V (τ k)).wait⟩) _)
  have hct3 := Fx.ChT.of_stp s6 m42.ty
  have m52 := m43.chT hct3 (by decide)
  have m53 := m44.chT hct3 trivial
  have m54 := m46.put s6 m51 hij hfj1
  have m55 : Fx.Fam w7 n pb 4 (fun i => wtc ((Fx.putI (Fx.putI V (τ k) ⟨(V (τ k)).node, (V (τ k)).amt, now + ((V (τ k)).wait), (V (τ k)).wait⟩) (τ k) ⟨(V (τ k)).node, (V (τ k)).amt, now + ((V (τ k)).wait), mnZ (2 * ((V (τ k)).wait)) 16⟩) i)) 57 := m54.to (fun i _ => putI_wtc (Fx.putI V (τ k) ⟨(V (τ k)).node, (V (τ k)).amt, now + ((V (τ k)).wait), (V (τ k)).wait⟩) (τ k) ⟨(V (τ k)).node, (V (τ k)).amt, now + ((V (τ k)).wait), mnZ (2 * ((V (τ k)).wait)) 16⟩ i)
  have m56 := m47.chT hct3 (by decide)
  have m57 := m48.chT hct3 (by decide)
  have m58 := m49.chT hct3 (by decide)
  have b8 := b7.then s6 (.inl (.inr ⟨(τ k), hfj1, rfl⟩))
  refine Fx.L.nil (Fx.blkN (Fx.seqN (Fx.W.list (Fx.L.v (.int .i64 ((k : Int) + 1)) (Fx.x_add rfl h6 rfl (Fx.i64e (by omega) (by omega))) ?_))))
  refine Fx.L.v (.int .i64 ((k : Int) + 1)) (Fx.x_move rfl rfl) ?_
  refine Fx.L.nil ?_
  have m59 : Fx.Own w7 w1.heap.size 55 1 (.slice a (m) (c)) m (fun q => .pointer (some ⟨pb (τ q), 0, none⟩)) := m57.congV (congrArg (fun q => Value.slice q m c) eq1.symm)
  skip
  refine Fx.lpN ⟨k + 1, (some ⟨g3, 0, none⟩), cap1, (Fx.putI (Fx.putI V (τ k) ⟨(V (τ k)).node, (V (τ k)).amt, now + ((V (τ k)).wait), (V (τ k)).wait⟩) (τ k) ⟨(V (τ k)).node, (V (τ k)).amt, now + ((V (τ k)).wait), mnZ (2 * ((V (τ k)).wait)) 16⟩), by omega, (due_v1 hth (by omega) hv1 (by rw [hVk]; rfl)), (due_v2 hv2), h1, h2, (by rfl), h4, (h5.trans (by first | rfl | exact congrArg (Value.int .i64) (by omega))), (by first | rfl | exact congrArg (Value.int .i64) (by omega)), m52, m53, m55, m56, m59, m58, b8⟩ ?_
  show (m - (intOf ((.int .i64 ((k : Int) + 1)))).toNat) < _
  simp only [h6, intOf]; omega
 ·refine Fx.L.v (.bool false) (Fx.x_lssF rfl h6 h5 c12) ?_
  refine Fx.L.nil (Fx.seqN (Fx.W.seq (Fx.W.cond (b := false) rfl (fun h => nomatch h) (fun _ => Fx.W.exit (Fx.seqX (Fx.lpX (Fx.blkX (Fx.seqN (Fx.W.seq (Fx.W.list (Fx.L.v (.slice a2 (k) (cap2)) (Fx.x_move rfl h3) ?_)))))))))))
  refine Fx.L.v (.slice a2 (k) (cap2)) (Fx.x_assign rfl rfl) ?_
  refine Fx.L.nil (Fx.seqN (Fx.W.ret (⟨.slice a2 (k) (cap2), Fx.retV1 Try.results10 (by exact rfl), ?_⟩)))
  obtain rfl : k = m := by omega
  have hVa := due_v hth hv1 hv2
  refine ⟨_, _, _, τ, rfl, m16, hth, ⟨m11, m12.cong (fun i _ => ⟨(dueW_node now (W i)).symm, rfl⟩), m13.to (fun i hi => by rw [hVa i hi]), hij, hge, hgp, hgm, hsm, fun i hi => (dueW_ok now _ (hok i hi) (hok2 i hi)).1, fun i hi => (dueW_ok now _ (hok i hi) (hok2 i hi)).2, fun i hi => dueW_ok3 now (hok3 i hi)⟩, b3⟩
theorem d_done (node : Int) (p mb n : Nat) (pb : Nat → Nat) (W : Nat → WtM) (B : Nat) (w : World) (h : DemO w B p mb n pb W) :
    Calls Try.prog 14 #[.pointer (some ⟨p, 0, none⟩), .int .u64 (node)] w fun e w' => ∃ b n' pb' W', e = .returned (.bool b) ∧ DoneR n W node b n' W' ∧ DemO w' B p mb n' pb' W' ∧ Fx.Chg (demS mb n pb) w w' := by
 refine Fx.enter Try.func14 rfl (n := 21) rfl (by rfl) ?_
 have hbk := h.blk
 have hmp := h.map
 have hfm := h.fam
 have hij := h.inj
 have hge := h.ge
 have hgp := h.gp
 have hgm := h.gm
 have hsm := h.small
 have hok := h.ok
 have hok2 := h.ok2
 have hok3 := h.ok3
 have tp := hbk.lt
 have tm := hmp.lt
 refine Fx.W.seq (Fx.W.list (Fx.L.v (.bool false) (Fx.x_assign rfl rfl) ?_))
 refine Fx.L.nil (Fx.seqN (Fx.W.seq (Fx.W.seq (Fx.W.list (Fx.L.v (.pointer (some ⟨p, 0, none⟩)) (Fx.x_move rfl rfl) ?_)))))
 refine Fx.L.v (.bool false) (Fx.x_eqNil rfl rfl rfl (by kernel_rfl)) ?_
 refine Fx.L.v (.bool false) (Fx.x_move rfl rfl) ?_
 refine Fx.L.v (.pointer (some ⟨p, 0, none⟩)) (Fx.x_move rfl rfl) ?_
 refine Fx.L.v (.pointer (some ⟨p, 0, none⟩)) (Fx.x_nil rfl rfl) ?_
 refine Fx.L.v (.pointer (some ⟨p, 0, none⟩)) (Fx.x_field rfl rfl Try.underlying54 rfl (s := 1) (by kernel_rfl) rfl rfl) ?_
 refine Fx.L.v (.map (some mb)) (Fx.x_load1 (x := fun _ => .map (some mb)) rfl rfl (by kernel_rfl) hbk.cel (i := 0) (by omega) (by omega) rfl) ?_
 refine Fx.L.v (.int .u64 (node)) (Fx.x_move rfl rfl) ?_
 rcases Fx.look_cases (fun i => (W i).node) n node with ⟨jlk1, hjlk1, ejlk1⟩ | hnlk1
 ·refine Fx.L.v (.pointer (some ⟨pb jlk1, 0, none⟩)) (Fx.x_lookY rfl rfl rfl hmp Try.underlying52 Try.underlying22 (by rfl) hjlk1 ejlk1 rfl) ?_
  refine Fx.L.v (.bool false) (Fx.x_eqNil rfl rfl rfl (by kernel_rfl)) ?_
  refine Fx.L.v (.bool false) (Fx.x_pickF rfl rfl rfl) ?_
  refine Fx.L.nil (Fx.seqN (Fx.W.cond (b := false) rfl (fun h => nomatch h) (fun _ => Fx.W.skip (Fx.seqN (Fx.W.seq (Fx.W.list (Fx.L.v (.pointer (some ⟨p, 0, none⟩)) (Fx.x_move rfl rfl) ?_)))))))
  refine Fx.L.v (.pointer (some ⟨p, 0, none⟩)) (Fx.x_nil rfl rfl) ?_
  refine Fx.L.v (.pointer (some ⟨p, 0, none⟩)) (Fx.x_field rfl rfl Try.underlying54 rfl (s := 1) (by kernel_rfl) rfl rfl) ?_
  refine Fx.L.v (.map (some mb)) (Fx.x_load1 (x := fun _ => .map (some mb)) rfl rfl (by kernel_rfl) hbk.cel (i := 0) (by omega) (by omega) rfl) ?_
  refine Fx.L.v (.int .u64 (node)) (Fx.x_move rfl rfl) ?_
  refine Fx.L.delY (by rfl) (by rfl) rfl rfl rfl rfl hmp Try.underlying52 Try.underlying22 hjlk1 ejlk1 fun w1 m1 s1 z1 => ?_
  have hcm1 := hmp.chm s1
  have m2 := hbk.chM hcm1
  have m3 := hfm.chM hcm1
  have b1 := (Fx.Chg.refl (demS mb n pb) w).then s1 (.inl (.inl rfl))
  have m4 : Fx.Mp w1 mb (n - 1) (fun i => (Fx.delI W jlk1 i).node) (fun i => .pointer (some ⟨Fx.delI pb jlk1 i, 0, none⟩)) := m1.cong (fun i _ => ⟨(delI_node W jlk1 i).symm, (delI_ptr pb jlk1 i).symm⟩)
  refine Fx.L.nil (Fx.seqN (Fx.W.seq (Fx.W.list (Fx.L.v (.bool true) (Fx.x_assign rfl rfl) ?_))))
  refine Fx.L.nil (Fx.seqN (Fx.W.ret (⟨.bool true, Fx.retV1 Try.results14 (by exact rfl), ?_⟩)))
  exact ⟨_, n - 1, Fx.delI pb jlk1, Fx.delI W jlk1, rfl, .yes jlk1 hjlk1 ejlk1, ⟨m2, m4, (m3.del jlk1 hjlk1).to (fun i _ => delI_wtc W jlk1 i), delI_inj hij, delI_all hge, hgp, hgm, by omega, delI_all (p := fun u : WtM => 1 ≤ u.wait) hok, delI_all (p := fun u : WtM => u.wait ≤ 16) hok2, delI_all (p := WtOk) hok3⟩, b1⟩
 ·refine Fx.L.v (.pointer none) (Fx.x_lookN rfl rfl rfl hmp Try.underlying52 Try.underlying22 (by rfl) hnlk1) ?_
  refine Fx.L.v (.bool true) (Fx.x_eqNil' rfl rfl rfl (by kernel_rfl)) ?_
  refine Fx.L.v (.bool true) (Fx.x_pickF rfl rfl rfl) ?_
  refine Fx.L.nil (Fx.seqN (Fx.W.cond (b := true) rfl (fun _ => Fx.W.seq (Fx.W.list (Fx.L.v (.bool false) (Fx.x_assign rfl rfl) ?_))) (fun h => nomatch h)))
  refine Fx.L.nil (Fx.seqN (Fx.W.ret (Fx.seqR (⟨.bool false, Fx.retV1 Try.results14 (by exact rfl), ?_⟩))))
  exact ⟨_, n, pb, W, rfl, .no hnlk1, h, (Fx.Chg.refl (demS mb n pb) w)⟩
end Go.Proofs.Ytjnkejgjgknllaa
namespace Go.Proofs.Ytjnkejgjgknllaa
open Go.RowKit Rt
namespace Rt
theorem put_first {W W' : Nat → WtM} {node x now c : Int} {n' : Nat} (h : PutR 0 W node x now c n' W') (hb : ¬ putBad node x now) : c = 0 ∧ n' = 1 ∧ W' 0 = ⟨node, x, now, 1⟩ := by
  cases h with
  | arg h => exact absurd h hb
  | had j _ hj => omega
  | full _ _ hf => omega
  | new => exact ⟨rfl, rfl, by unfold Fx.putI; rw [if_pos rfl]⟩
theorem put_second {W W' : Nat → WtM} {node x now c : Int} {n' : Nat} (h : PutR 1 W node x now c n' W') (hb : ¬ putBad node x now) (hne : (W 0).node ≠ node) : c = 0 ∧ n' = 2 ∧ W' 0 = W 0 ∧ W' 1 = ⟨node, x, now, 1⟩ := by
  cases h with
  | arg h => exact absurd h hb
  | had j _ hj e => obtain rfl : j = 0 := by omega
                    exact absurd e hne
  | full _ _ hf => omega
  | new => exact ⟨rfl, rfl, by unfold Fx.putI; rw [if_neg (by omega)], by unfold Fx.putI; rw [if_pos rfl]⟩
theorem those_one {m : Nat} {W : Nat → WtM} {P : Nat → Prop} {τ : Nat → Nat} (h : ThoseR 1 W P m τ) (hp : P 0) : m = 1 := by
  obtain ⟨q, hq, _⟩ := h.mem 0 (by omega) hp
  have := those_le h
  omega
theorem those_no {m : Nat} {W : Nat → WtM} {P : Nat → Prop} {τ : Nat → Nat} (h : ThoseR 1 W P m τ) (hp : ¬ P 0) : m = 0 := by
  rcases Nat.eq_zero_or_pos m with h0 | h0
  · exact h0
  · have h1 := h.yes 0 h0
    have h2 := h.lt 0 h0
    rw [show τ 0 = 0 by omega] at h1
    exact absurd h1 hp
theorem done_one {W W' : Nat → WtM} {node : Int} {b : Bool} {n' : Nat} (h : DoneR 1 W node b n' W') (e : (W 0).node = node) : b = true ∧ n' = 0 := by
  cases h with
  | no hn => exact absurd e (hn 0 (by omega))
  | yes => exact ⟨rfl, rfl⟩
theorem done_none {W W' : Nat → WtM} {node : Int} {b : Bool} {n' : Nat} (h : DoneR 0 W node b n' W') : b = false ∧ n' = 0 := by
  cases h with
  | no hn => exact ⟨rfl, rfl⟩
  | yes j hj => omega
end Rt
theorem works18_any (w : World) :
    Calls Try.prog 7 #[] w fun e w' => e = .returned (.bool true) ∧ Below w.heap.size w w' := by
 refine Fx.enter Try.func7 rfl (n := 64) rfl (by rfl) ?_
 refine Fx.W.seq (Fx.W.list (Fx.L.v (.bool false) (Fx.x_assign rfl rfl) ?_))
 refine Fx.L.nil (Fx.seqN (Fx.W.seq (Fx.W.list (Fx.L.call (by rfl) (Fx.r_call (args := []) rfl rfl Try.func8 rfl rfl) rfl ((d_new _ (fun _ => 0) (fun _ => ⟨0, 0, 0, 0⟩)).mono ?_)))))
 rintro e9 w1 ⟨p, mb, he, hb1, hd1⟩
 refine ⟨_, he, ?_⟩
 clear he
 have b1 := hb1
 refine Fx.L.v (.pointer (some ⟨p, 0, none⟩)) (Fx.x_assign rfl rfl) ?_
 refine Fx.L.nil (Fx.seqN (Fx.W.seq (Fx.W.list (Fx.L.v (.pointer (some ⟨p, 0, none⟩)) (Fx.x_move rfl rfl) ?_))))
 refine Fx.L.call (by rfl) (Fx.r_call (args := [.pointer (some ⟨p, 0, none⟩), .int .u64 (5), .int .i64 (3), .int .u64 (10)]) rfl rfl Try.func9 rfl rfl) rfl ((d_put 5 3 10 (by omega) (by omega) p mb _ _ _ _ _ hd1 b1.size).mono ?_)
 rintro e9 w2 ⟨cc1, he, hc1, nn1, pb1, W1, hr1, hd2⟩
 obtain ⟨rfl, rfl, hW1⟩ := put_first hr1 (by unfold putBad; omega)
 refine ⟨_, he, ?_⟩
 clear he
 have hbl1 := hd1.below b1.size hc1
 have b2 := b1.trans hbl1
 refine Fx.L.v (.int .i64 (0)) (Fx.x_assign rfl rfl) ?_
 refine Fx.L.nil (Fx.seqN (Fx.W.seq (Fx.W.list (Fx.L.v (.pointer (some ⟨p, 0, none⟩)) (Fx.x_move rfl rfl) ?_))))
 refine Fx.L.call (by rfl) (Fx.r_call (args := [.pointer (some ⟨p, 0, none⟩), .int .u64 (10)]) rfl rfl Try.func10 rfl rfl) rfl ((d_due 10 p mb _ _ _ _ _ hd2 (by omega) (by omega)).mono ?_)
 rintro e9 w3 ⟨a1, mm1, c1, τ1, he, ho1, ht1, hd3, hc2⟩
 obtain rfl : mm1 = 1 := those_one ht1 (by show (W1 0).at_ ≤ 10; rw [hW1]; show ((10 : Int) ≤ 10); decide)
 refine ⟨_, he, ?_⟩
 clear he ho1 ht1
 obtain ⟨W2, eW1⟩ : ∃ V : Nat → WtM, V = fun i => dueW 10 (W1 i) := ⟨_, rfl⟩
 rw [← eW1] at hd3
 have hW2 : W2 0 = ⟨5, 3, 11, 2⟩ := by rw [eW1]; show dueW 10 (W1 0) = _; rw [hW1]; rfl
 have hbl2 := hd2.below b2.size hc2
 have b3 := b2.trans hbl2
 refine Fx.L.v (.int .i64 (1)) (Fx.x_len rfl rfl rfl (by kernel_rfl)) ?_
 refine Fx.L.v (.pointer (some ⟨p, 0, none⟩)) (Fx.x_move rfl rfl) ?_
 refine Fx.L.call (by rfl) (Fx.r_call (args := [.pointer (some ⟨p, 0, none⟩), .int .u64 (10)]) rfl rfl Try.func10 rfl rfl) rfl ((d_due 10 p mb _ _ _ _ _ hd3 (by omega) (by omega)).mono ?_)
 rintro e9 w4 ⟨a2, mm2, c2, τ2, he, ho2, ht2, hd4, hc3⟩
 obtain rfl : mm2 = 0 := those_no ht2 (by show ¬ (W2 0).at_ ≤ 10; rw [hW2]; show ¬ ((11 : Int) ≤ 10); decide)
 refine ⟨_, he, ?_⟩
 clear he ho2 ht2
 obtain ⟨W3, eW2⟩ : ∃ V : Nat → WtM, V = fun i => dueW 10 (W2 i) := ⟨_, rfl⟩
 rw [← eW2] at hd4
 have hW3 : W3 0 = ⟨5, 3, 11, 2⟩ := by rw [eW2]; show dueW 10 (W2 0) = _; rw [hW2]; rfl
 have hbl3 := hd3.below b3.size hc3
 have b4 := b3.trans hbl3
 refine Fx.L.v (.int .i64 (0)) (Fx.x_len rfl rfl rfl (by kernel_rfl)) ?_
 refine Fx.L.v (.pointer (some ⟨p, 0, none⟩)) (Fx.x_move rfl rfl) ?_
 refine Fx.L.call (by rfl) (Fx.r_call (args := [.pointer (some ⟨p, 0, none⟩), .int .u64 (11)]) rfl rfl Try.func10 rfl rfl) rfl ((d_due 11 p mb _ _ _ _ _ hd4 (by omega) (by omega)).mono ?_)
 rintro e9 w5 ⟨a3, mm3, c3, τ3, he, ho3, ht3, hd5, hc4⟩
 obtain rfl : mm3 = 1 := those_one ht3 (by show (W3 0).at_ ≤ 11; rw [hW3]; show ((11 : Int) ≤ 11); decide)
 refine ⟨_, he, ?_⟩
 clear he ho3 ht3
 obtain ⟨W4, eW3⟩ : ∃ V : Nat → WtM, V = fun i => dueW 11 (W3 i) := ⟨_, rfl⟩
 rw [← eW3] at hd5
 have hW4 : W4 0 = ⟨5, 3, 13, 4⟩ := by rw [eW3]; show dueW 11 (W3 0) = _; rw [hW3]; rfl
 have hbl4 := hd4.below b4.size hc4
 have b5 := b4.trans hbl4
 refine Fx.L.v (.int .i64 (1)) (Fx.x_len rfl rfl rfl (by kernel_rfl)) ?_
 refine Fx.L.v (.pointer (some ⟨p, 0, none⟩)) (Fx.x_move rfl rfl) ?_
 refine Fx.L.call (by rfl) (Fx.r_call (args := [.pointer (some ⟨p, 0, none⟩), .int .u64 (12)]) rfl rfl Try.func10 rfl rfl) rfl ((d_due 12 p mb _ _ _ _ _ hd5 (by omega) (by omega)).mono ?_)
 rintro e9 w6 ⟨a4, mm4, c4, τ4, he, ho4, ht4, hd6, hc5⟩
 obtain rfl : mm4 = 0 := those_no ht4 (by show ¬ (W4 0).at_ ≤ 12; rw [hW4]; show ¬ ((13 : Int) ≤ 12); decide)
 refine ⟨_, he, ?_⟩
 clear he ho4 ht4
 obtain ⟨W5, eW4⟩ : ∃ V : Nat → WtM, V = fun i => dueW 12 (W4 i) := ⟨_, rfl⟩
 rw [← eW4] at hd6
 have hW5 : W5 0 = ⟨5, 3, 13, 4⟩ := by rw [eW4]; show dueW 12 (W4 0) = _; rw [hW4]; rfl
 have hbl5 := hd5.below b5.size hc5
 have b6 := b5.trans hbl5
 refine Fx.L.v (.int .i64 (0)) (Fx.x_len rfl rfl rfl (by kernel_rfl)) ?_
 refine Fx.L.v (.pointer (some ⟨p, 0, none⟩)) (Fx.x_move rfl rfl) ?_
 refine Fx.L.call (by rfl) (Fx.r_call (args := [.pointer (some ⟨p, 0, none⟩), .int .u64 (13)]) rfl rfl Try.func10 rfl rfl) rfl ((d_due 13 p mb _ _ _ _ _ hd6 (by omega) (by omega)).mono ?_)
 rintro e9 w7 ⟨a5, mm5, c5, τ5, he, ho5, ht5, hd7, hc6⟩
 obtain rfl : mm5 = 1 := those_one ht5 (by show (W5 0).at_ ≤ 13; rw [hW5]; show ((13 : Int) ≤ 13); decide)
 refine ⟨_, he, ?_⟩
 clear he ho5 ht5
 obtain ⟨W6, eW5⟩ : ∃ V : Nat → WtM, V = fun i => dueW 13 (W5 i) := ⟨_, rfl⟩
 rw [← eW5] at hd7
 have hW6 : W6 0 = ⟨5, 3, 17, 8⟩ := by rw [eW5]; show dueW 13 (W5 0) = _; rw [hW5]; rfl
 have hbl6 := hd6.below b6.size hc6
 have b7 := b6.trans hbl6
 refine Fx.L.v (.int .i64 (1)) (Fx.x_len rfl rfl rfl (by kernel_rfl)) ?_
 refine Fx.L.bslice (vs := [(0, .int .i64 (1)), (1, .int .i64 (0)), (2, .int .i64 (1)), (3, .int .i64 (0)), (4, .int .i64 (1))]) (s := 1) (zc := Fx.rv .i64 (fun _ => 0)) (y := Fx.ovr (Fx.ovr (Fx.ovr (Fx.ovr (Fx.ovr (fun j => (Fx.rv .i64 (fun _ => 0)) (j % 1)) (0 * 1) 1 (fun _ => .int .i64 (1))) (1 * 1) 1 (fun _ => .int .i64 (0))) (2 * 1) 1 (fun _ => .int .i64 (1))) (3 * 1) 1 (fun _ => .int .i64 (0))) (4 * 1) 1 (fun _ => .int .i64 (1))) (by rfl) rfl rfl Try.underlying51 (by kernel_rfl) (by rfl) (by rfl) (by kernel_rfl) (by rw [Fx.fill_step (off := 0 * 1) (s := 1) (y := fun _ => .int .i64 (1)) rfl (Fx.cells_one (by rfl)) (by rfl)]; rw [Fx.fill_step (off := 1 * 1) (s := 1) (y := fun _ => .int .i64 (0)) rfl (Fx.cells_one (by rfl)) (by rfl)]; rw [Fx.fill_step (off := 2 * 1) (s := 1) (y := fun _ => .int .i64 (1)) rfl (Fx.cells_one (by rfl)) (by rfl)]; rw [Fx.fill_step (off := 3 * 1) (s := 1) (y := fun _ => .int .i64 (0)) rfl (Fx.cells_one (by rfl)) (by rfl)]; rw [Fx.fill_step (off := 4 * 1) (s := 1) (y := fun _ => .int .i64 (1)) rfl (Fx.cells_one (by rfl)) (by rfl)]; rfl) rfl fun g1 w8 eg1 m1 s1 z1 => ?_
 have m2 := hd7.up s1.old
 have b8 := s1.below b7 b7.size b7.size
 have lg1 : w.heap.size ≤ g1 := by rw [eg1]; exact b7.size
 have tg1 : g1 < w8.heap.size := m1.lt
 clear eg1
 refine Fx.L.v (.slice (some ⟨g1, 0, none⟩) (5) (5)) (Fx.x_assign rfl rfl) ?_
 refine Fx.L.nil (Fx.seqN (Fx.W.seq (Fx.W.list (Fx.L.v (.int .i64 (0)) (Fx.x_move rfl rfl) ?_))))
 refine Fx.L.v (.bool true) (Fx.x_eqlT rfl rfl rfl (by omega)) ?_
 refine Fx.L.v (.bool true) (Fx.x_move rfl rfl) ?_
 refine Fx.L.v (.slice (some ⟨g1, 0, none⟩) (5) (5)) (Fx.x_move rfl rfl) ?_
 refine Fx.L.v (.pointer (some ⟨g1, 0, none⟩)) (Fx.x_indexS rfl rfl rfl Try.underlying51 (s := 1) (by kernel_rfl) (by omega) (by omega) (by omega)) ?_
 refine Fx.L.v (.int .i64 (1)) (Fx.x_load1 (x := Fx.ovr (Fx.ovr (Fx.ovr (Fx.ovr (Fx.ovr (fun j => (Fx.rv .i64 (fun _ => 0)) (j % 1)) (0 * 1) 1 (fun _ => .int .i64 (1))) (1 * 1) 1 (fun _ => .int .i64 (0))) (2 * 1) 1 (fun _ => .int .i64 (1))) (3 * 1) 1 (fun _ => .int .i64 (0))) (4 * 1) 1 (fun _ => .int .i64 (1))) rfl rfl (by kernel_rfl) m1.cel (i := 0) (by omega) (by omega) (Fx.ovr_out (by omega) (Fx.ovr_out (by omega) (Fx.ovr_out (by omega) (Fx.ovr_out (by omega) (Fx.ovr_in (j := 0) (by omega) (by omega) rfl)))))) ?_
 refine Fx.L.v (.bool true) (Fx.x_eqlT rfl rfl rfl (by omega)) ?_
 refine Fx.L.v (.bool true) (Fx.x_pickT rfl rfl rfl) ?_
 refine Fx.L.v (.bool true) (Fx.x_move rfl rfl) ?_
 refine Fx.L.v (.slice (some ⟨g1, 0, none⟩) (5) (5)) (Fx.x_move rfl rfl) ?_
 refine Fx.L.v (.pointer (some ⟨g1, 1, none⟩)) (Fx.x_indexS rfl rfl rfl Try.underlying51 (s := 1) (by kernel_rfl) (by omega) (by omega) (by omega)) ?_
 refine Fx.L.v (.int .i64 (0)) (Fx.x_load1 (x := Fx.ovr (Fx.ovr (Fx.ovr (Fx.ovr (Fx.ovr (fun j => (Fx.rv .i64 (fun _ => 0)) (j % 1)) (0 * 1) 1 (fun _ => .int .i64 (1))) (1 * 1) 1 (fun _ => .int .i64 (0))) (2 * 1) 1 (fun _ => .int .i64 (1))) (3 * 1) 1 (fun _ => .int .i64 (0))) (4 * 1) 1 (fun _ => .int .i64 (1))) rfl rfl (by kernel_rfl) m1.cel (i := 1) (by omega) (by omega) (Fx.ovr_out (by omega) (Fx.ovr_out (by omega) (Fx.ovr_out (by omega) (Fx.ovr_in (j := 0) (by omega) (by omega) rfl))))) ?_
 refine Fx.L.v (.bool true) (Fx.x_eqlT rfl rfl rfl (by omega)) ?_
 refine Fx.L.v (.bool true) (Fx.x_pickT rfl rfl rfl) ?_
 refine Fx.L.v (.bool true) (Fx.x_move rfl rfl) ?_
 refine Fx.L.v (.slice (some ⟨g1, 0, none⟩) (5) (5)) (Fx.x_move rfl rfl) ?_
 refine Fx.L.v (.pointer (some ⟨g1, 2, none⟩)) (Fx.x_indexS rfl rfl rfl Try.underlying51 (s := 1) (by kernel_rfl) (by omega) (by omega) (by omega)) ?_
 refine Fx.L.v (.int .i64 (1)) (Fx.x_load1 (x := Fx.ovr (Fx.ovr (Fx.ovr (Fx.ovr (Fx.ovr (fun j => (Fx.rv .i64 (fun _ => 0)) (j % 1)) (0 * 1) 1 (fun _ => .int .i64 (1))) (1 * 1) 1 (fun _ => .int .i64 (0))) (2 * 1) 1 (fun _ => .int .i64 (1))) (3 * 1) 1 (fun _ => .int .i64 (0))) (4 * 1) 1 (fun _ => .int .i64 (1))) rfl rfl (by kernel_rfl) m1.cel (i := 2) (by omega) (by omega) (Fx.ovr_out (by omega) (Fx.ovr_out (by omega) (Fx.ovr_in (j := 0) (by omega) (by omega) rfl)))) ?_
 refine Fx.L.v (.bool true) (Fx.x_eqlT rfl rfl rfl (by omega)) ?_
 refine Fx.L.v (.bool true) (Fx.x_pickT rfl rfl rfl) ?_
 refine Fx.L.v (.bool true) (Fx.x_move rfl rfl) ?_
 refine Fx.L.v (.slice (some ⟨g1, 0, none⟩) (5) (5)) (Fx.x_move rfl rfl) ?_
 refine Fx.L.v (.pointer (some ⟨g1, 3, none⟩)) (Fx.x_indexS rfl rfl rfl Try.underlying51 (s := 1) (by kernel_rfl) (by omega) (by omega) (by omega)) ?_
 refine Fx.L.v (.int .i64 (0)) (Fx.x_load1 (x := Fx.ovr (Fx.ovr (Fx.ovr (Fx.ovr (Fx.ovr (fun j => (Fx.rv .i64 (fun _ => 0)) (j % 1)) (0 * 1) 1 (fun _ => .int .i64 (1))) (1 * 1) 1 (fun _ => .int .i64 (0))) (2 * 1) 1 (fun _ => .int .i64 (1))) (3 * 1) 1 (fun _ => .int .i64 (0))) (4 * 1) 1 (fun _ => .int .i64 (1))) rfl rfl (by kernel_rfl) m1.cel (i := 3) (by omega) (by omega) (Fx.ovr_out (by omega) (Fx.ovr_in (j := 0) (by omega) (by omega) rfl))) ?_
 refine Fx.L.v (.bool true) (Fx.x_eqlT rfl rfl rfl (by omega)) ?_
 refine Fx.L.v (.bool true) (Fx.x_pickT rfl rfl rfl) ?_
 refine Fx.L.v (.bool true) (Fx.x_move rfl rfl) ?_
 refine Fx.L.v (.slice (some ⟨g1, 0, none⟩) (5) (5)) (Fx.x_move rfl rfl) ?_
 refine Fx.L.v (.pointer (some ⟨g1, 4, none⟩)) (Fx.x_indexS rfl rfl rfl Try.underlying51 (s := 1) (by kernel_rfl) (by omega) (by omega) (by omega)) ?_
 refine Fx.L.v (.int .i64 (1)) (Fx.x_load1 (x := Fx.ovr (Fx.ovr (Fx.ovr (Fx.ovr (Fx.ovr (fun j => (Fx.rv .i64 (fun _ => 0)) (j % 1)) (0 * 1) 1 (fun _ => .int .i64 (1))) (1 * 1) 1 (fun _ => .int .i64 (0))) (2 * 1) 1 (fun _ => .int .i64 (1))) (3 * 1) 1 (fun _ => .int .i64 (0))) (4 * 1) 1 (fun _ => .int .i64 (1))) rfl rfl (by kernel_rfl) m1.cel (i := 4) (by omega) (by omega) (Fx.ovr_in (j := 0) (by omega) (by omega) rfl)) ?_
 refine Fx.L.v (.bool true) (Fx.x_eqlT rfl rfl rfl (by omega)) ?_
 refine Fx.L.v (.bool true) (Fx.x_pickT rfl rfl rfl) ?_
 refine Fx.L.v (.bool true) (Fx.x_move rfl rfl) ?_
 refine Fx.L.v (.pointer (some ⟨p, 0, none⟩)) (Fx.x_move rfl rfl) ?_
 refine Fx.L.call (by rfl) (Fx.r_call (args := [.pointer (some ⟨p, 0, none⟩), .int .u64 (5)]) rfl rfl Try.func14 rfl rfl) rfl ((d_done 5 p mb _ _ _ _ _ m2).mono ?_)
 rintro e9 w9 ⟨bb1, nn2, pb2, W7, he, hr2, hd8, hc7⟩
 obtain ⟨rfl, rfl⟩ := done_one hr2 (by rw [hW6])
 refine ⟨_, he, ?_⟩
 clear he
 have hbl7 := m2.below b8.size hc7
 have hx7 := m2.chx hc7
 have m3 := m1.chX hx7 rfl
 have b9 := b8.trans hbl7
 refine Fx.L.v (.bool true) (Fx.x_pickT rfl rfl rfl) ?_
 refine Fx.L.v (.bool true) (Fx.x_move rfl rfl) ?_
 refine Fx.L.v (.pointer (some ⟨p, 0, none⟩)) (Fx.x_move rfl rfl) ?_
 refine Fx.L.call (by rfl) (Fx.r_call (args := [.pointer (some ⟨p, 0, none⟩), .int .u64 (5)]) rfl rfl Try.func14 rfl rfl) rfl ((d_done 5 p mb _ _ _ _ _ hd8).mono ?_)
 rintro e9 w10 ⟨bb2, nn3, pb3, W8, he, hr3, hd9, hc8⟩
 obtain ⟨rfl, rfl⟩ := done_none hr3
 refine ⟨_, he, ?_⟩
 clear he
 have hbl8 := hd8.below b9.size hc8
 have hx8 := hd8.chx hc8
 have m4 := m3.chX hx8 rfl
 have b10 := b9.trans hbl8
 refine Fx.L.v (.bool true) (Fx.x_notT rfl rfl) ?_
 refine Fx.L.v (.bool true) (Fx.x_pickT rfl rfl rfl) ?_
 refine Fx.L.v (.bool true) (Fx.x_assign rfl rfl) ?_
 refine Fx.L.nil (Fx.seqN (Fx.W.ret (⟨.bool true, Fx.retV1 Try.results7 (by exact rfl), ?_⟩)))
 exact ⟨rfl, b10⟩
end Go.Proofs.Ytjnkejgjgknllaa
namespace Go.Proofs.Ytjnkejgjgknllaa
open Go.RowKit Rt
namespace Rt
structure TmS (n : Nat) (W : Nat → WtM) (next wait i other : Int) : Prop where
  lo : 0 < n
  hi : n ≤ 2
  w0 : W 0 = ⟨7, 5, next, wait⟩
  w1 : n = 2 → (W 1).node = 3
  one : i ≤ other → n = 1
def isN (τ : Nat → Nat) : Nat → Bool
  | 0 => false
  | k + 1 => isN τ k || decide (τ k = 0)
theorem isN_iff (τ : Nat → Nat) : ∀ m, isN τ m = true ↔ ∃ q, q < m ∧ τ q = 0
  | 0 => ⟨fun h => (nomatch h), fun ⟨_, h, _⟩ => absurd h (Nat.not_lt_zero _)⟩
  | m + 1 => by
    unfold isN
    rw [Bool.or_eq_true, isN_iff τ m, decide_eq_true_eq]
    constructor
    · rintro (⟨q, hq, e⟩ | e)
      · exact ⟨q, by omega, e⟩
      · exact ⟨m, by omega, e⟩
    · rintro ⟨q, hq, e⟩
      by_cases h : q = m
      · subst h; exact .inr e
      · exact .inl ⟨q, by omega, e⟩
theorem isN_due {n m : Nat} {W : Nat → WtM} {τ : Nat → Nat} {t next wait i other : Int} (hth : ThoseR n W (fun i => (W i).at_ ≤ t) m τ) (ht : TmS n W next wait i other) : isN τ m = decide (next ≤ t) := by
  rw [Bool.eq_iff_iff, isN_iff, decide_eq_true_eq]
  have e : (W 0).at_ = next := by rw [ht.w0]
  rw [← e]
  exact ⟨fun ⟨q, hq, h0⟩ => by have := hth.yes q hq; rw [h0] at this; exact this, fun h => hth.mem 0 ht.lo h⟩
theorem is7 {n : Nat} {W : Nat → WtM} {next wait i other : Int} (ht : TmS n W next wait i other) {j : Nat} (hj : j < n) {Y : Nat → Value} (y0 : Y 0 = .int .u64 7) (y1 : Y 1 = .int .i64 5) : (∀ i, i < 2 → wtc (W j) i = Y i) ↔ j = 0 := by
  constructor
  · intro h
    have h0 := h 0 (by omega)
    rw [y0] at h0
    have h1 : (W j).node = 7 := by simpa [wtc] using h0
    have hh := ht.hi
    have hl := ht.lo
    rcases Nat.eq_zero_or_pos j with e | e
    · exact e
    · have h2 := ht.w1 (by omega)
      rw [show j = 1 by omega, h2] at h1
      omega
  · rintro rfl i hi
    rw [ht.w0]
    match i, hi with
    | 0, _ => rw [y0]; rfl
    | 1, _ => rw [y1]; rfl
    | i + 2, h => omega
theorem TmS.due {n : Nat} {W : Nat → WtM} {next wait i other t : Int} (h : TmS n W next wait i other) (hd : next ≤ t) : TmS n (fun i => dueW t (W i)) (t + wait) (mnZ (2 * wait) 16) i other :=
  ⟨h.lo, h.hi, by show dueW t (W 0) = _; rw [h.w0]; unfold dueW; rw [if_pos hd]; rfl, fun e => by rw [dueW_node]; exact h.w1 e, h.one⟩
theorem TmS.idle {n : Nat} {W : Nat → WtM} {next wait i other t : Int} (h : TmS n W next wait i other) (hd : ¬ next ≤ t) : TmS n (fun i => dueW t (W i)) next wait i other :=
  ⟨h.lo, h.hi, by show dueW t (W 0) = _; rw [h.w0]; unfold dueW; rw [if_neg hd], fun e => by rw [dueW_node]; exact h.w1 e, h.one⟩
theorem TmS.to {n : Nat} {W : Nat → WtM} {next wait i j other next' wait' : Int} (h : TmS n W next wait i other) (hj : i = j) (e1 : next = next') (e2 : wait = wait') : TmS n W next' wait' j other := by subst hj e1 e2; exact h
theorem TmS.put {W W' : Nat → WtM} {next wait i other c t : Int} {n n' : Nat} (h : TmS n W next wait i other) (hi : i = other) (hp : PutR n W 3 1 t c n' W') (h1 : 0 ≤ t) (h2 : t ≤ 4611686018427387904) : c = 0 ∧ TmS n' W' next wait (i + 1) other := by
  have e := h.one (by omega)
  subst e
  obtain ⟨e1, e2, e3, e4⟩ := put_second hp (by unfold putBad; omega) (by rw [h.w0]; show (7 : Int) ≠ 3; omega)
  subst e1 e2
  exact ⟨rfl, by omega, by omega, by rw [e3]; exact h.w0, fun _ => by rw [e4], fun e => by omega⟩
theorem kd_seven {z : Nat → Value} : Fx.Kd [some .u64, some .i64] (Fx.ovr (Fx.ovr z 0 1 (fun _ => .int .u64 7)) 1 1 (fun _ => .int .i64 5)) := fun i hi => by
  match i, hi with
  | 0, _ => exact ⟨_, rfl⟩
  | 1, _ => exact ⟨_, rfl⟩
  | i + 2, h => exact absurd h (by simp)
end Rt
theorem dtimes_any (now other : Int) (rounds : Nat) (w : World) (hn0 : 0 ≤ now) (hn1 : now < 18446744073709551616) (ho0 : 0 ≤ other) (ho1 : other < 256) (hr : rounds < 256) :
    Calls Try.prog 3 #[.int .u64 (now), .int .u8 (other), .int .u8 ((rounds : Int))] w fun e w' => e = .returned (.bool true) ∧ Below w.heap.size w w' := by
 refine Fx.enter Try.func3 rfl (n := 76) rfl (by rfl) ?_
 refine Fx.W.seq (Fx.W.list (Fx.L.v (.bool false) (Fx.x_assign rfl rfl) ?_))
 refine Fx.L.nil (Fx.seqN (Fx.W.seq (Fx.W.seq (Fx.W.list (Fx.L.v (.int .u64 (now)) (Fx.x_move rfl rfl) ?_)))))
 by_cases c15 : 1152921504606846976 < now
 ·refine Fx.L.v (.bool true) (Fx.x_gtrT rfl rfl rfl c15) ?_
  refine Fx.L.nil (Fx.seqN (Fx.W.cond (b := true) rfl (fun _ => Fx.W.seq (Fx.W.list (Fx.L.call (by rfl) (Fx.r_call (args := []) rfl rfl Try.func7 rfl rfl) rfl ((works18_any _).mono ?_)))) (fun h => nomatch h)))
  rintro e w1 ⟨he, hb1⟩
  refine ⟨.bool true, by rw [he], ?_⟩
  clear he
  have s1 := Fx.Stp.of_below hb1
  have b1 := s1.below (Below.refl w.heap.size w) (Below.refl w.heap.size w).size (Below.refl w.heap.size w).size
  refine Fx.L.v (.bool true) (Fx.x_assign rfl rfl) ?_
  refine Fx.L.nil (Fx.seqN (Fx.W.ret (Fx.seqR (⟨.bool true, Fx.retV1 Try.results3 (by exact rfl), ?_⟩))))
  exact ⟨rfl, b1⟩
 ·refine Fx.L.v (.bool false) (Fx.x_gtrF rfl rfl rfl c15) ?_
  refine Fx.L.nil (Fx.seqN (Fx.W.cond (b := false) rfl (fun h => nomatch h) (fun _ => Fx.W.skip (Fx.seqN (Fx.W.seq (Fx.W.list (Fx.L.call (by rfl) (Fx.r_call (args := []) rfl rfl Try.func8 rfl rfl) rfl ((d_new _ (fun _ => 0) (fun _ => ⟨0, 0, 0, 0⟩)).mono ?_))))))))
  rintro e9 w2 ⟨p, mb, he, hb2, hd1⟩
  refine ⟨_, he, ?_⟩
  clear he
  have b2 := hb2
  refine Fx.L.v (.pointer (some ⟨p, 0, none⟩)) (Fx.x_assign rfl rfl) ?_
  refine Fx.L.nil (Fx.seqN (Fx.W.seq (Fx.W.seq (Fx.W.list (Fx.L.v (.pointer (some ⟨p, 0, none⟩)) (Fx.x_move rfl rfl) ?_)))))
  refine Fx.L.v (.int .u64 (now)) (Fx.x_move rfl rfl) ?_
  refine Fx.L.call (by rfl) (Fx.r_call (args := [.pointer (some ⟨p, 0, none⟩), .int .u64 (7), .int .i64 (5), .int .u64 (now)]) rfl rfl Try.func9 rfl rfl) rfl ((d_put 7 5 now (by omega) (by omega) p mb _ _ _ _ _ hd1 b2.size).mono ?_)
  rintro e9 w3 ⟨cc1, he, hc1, nn1, pb1, W1, hr1, hd2⟩
  obtain ⟨rfl, rfl, hW1⟩ := put_first hr1 (by unfold putBad; omega)
  refine ⟨_, he, ?_⟩
  clear he
  have hbl1 := hd1.below b2.size hc1
  have b3 := b2.trans hbl1
  refine Fx.L.v (.bool false) (Fx.x_neqF rfl rfl rfl (by omega)) ?_
  refine Fx.L.nil (Fx.seqN (Fx.W.cond (b := false) rfl (fun h => nomatch h) (fun _ => Fx.W.skip (Fx.seqN (Fx.W.seq (Fx.W.list (Fx.L.v (.int .u64 (now)) (Fx.x_move rfl rfl) ?_)))))))
  refine Fx.L.v (.int .u64 (now)) (Fx.x_assign rfl rfl) ?_
  refine Fx.L.nil (Fx.seqN (Fx.W.seq (Fx.W.list (Fx.L.v (.int .u64 (1)) (Fx.x_assign rfl rfl) ?_))))
  refine Fx.L.nil (Fx.seqN (Fx.W.seq (Fx.W.seq (Fx.W.list (Fx.L.v (.int .u64 (0)) (Fx.x_assign rfl rfl) ?_)))))
  refine Fx.L.nil (Fx.seqN (Fx.W.block (Fx.W.loop (fun f w_ => ∃ i : Nat, ∃ n : Nat, ∃ pb : Nat → Nat, ∃ W : Nat → WtM, ∃ next : Int, ∃ wait : Int, i ≤ rounds ∧ TmS n W next wait (i : Int) other ∧ now + (i : Int) ≤ next ∧ next ≤ now + (i : Int) + 16 ∧ 1 ≤ wait ∧ wait ≤ 16 ∧ f 0 = .int .u64 (now) ∧ f 1 = .int .u8 (other) ∧ f 2 = .int .u8 ((rounds : Int)) ∧ f 7 = .pointer (some ⟨p, 0, none⟩) ∧ f 8 = .int .u64 (next) ∧ f 9 = .int .u64 (wait) ∧ f 10 = .int .u64 ((i : Int)) ∧ DemO w_ w.heap.size p mb n pb W ∧ Below w.heap.size w w_) (fun f _ => (rounds - (intOf (f 10)).toNat)) ⟨0, 1, pb1, W1, now, 1, by omega, (TmS.mk (by omega) (by omega) hW1 (fun h => by omega) (fun _ => rfl)), by omega, by omega, by omega, by omega, (by first | rfl | exact congrArg (Value.int .u64) (by omega)), (by first | rfl | exact congrArg (Value.int .u8) (by omega)), (by first | rfl | exact congrArg (Value.int .u8) (by omega)), (by rfl), (by first | rfl | exact congrArg (Value.int .u64) (by omega)), (by first | rfl | exact congrArg (Value.int .u64) (by omega)), (by first | rfl | exact congrArg (Value.int .u64) (by omega)), hd2, b3⟩ ?_)))
  rintro f1 w4 ⟨i, n, pb, W, next, wait, hi, ht, hx1, hx2, hw1, hw2, h1, h2, h3, h4, h5, h6, h7, m1, b4⟩
  refine Fx.W.seq (Fx.W.seq (Fx.W.list (Fx.L.v (.int .u64 ((i : Int))) (Fx.x_move rfl h7) ?_)))
  refine Fx.L.v (.int .u8 ((rounds : Int))) (Fx.x_move rfl h3) ?_
  refine Fx.L.v (.int .u64 ((rounds : Int))) (Fx.x_conv rfl rfl (by kernel_rfl) Try.underlying22 (Fx.u64e (by omega) rfl)) ?_
  by_cases c26 : (i : Int) < (rounds : Int)
  ·refine Fx.L.v (.bool true) (Fx.x_lssT rfl rfl rfl c26) ?_
   refine Fx.L.nil (Fx.seqN (Fx.W.cond (b := true) rfl (fun _ => Fx.W.skip (Fx.seqN (Fx.W.seq (Fx.W.block (Fx.W.seqJ (fun f w_ => ∃ nJ : Nat, ∃ pbJ : Nat → Nat, ∃ WJ : Nat → WtM, TmS nJ WJ next wait ((i : Int) + 1) other ∧ f 0 = .int .u64 (now) ∧ f 1 = .int .u8 (other) ∧ f 2 = .int .u8 ((rounds : Int)) ∧ f 7 = .pointer (some ⟨p, 0, none⟩) ∧ f 8 = .int .u64 (next) ∧ f 9 = .int .u64 (wait) ∧ f 10 = .int .u64 ((i : Int)) ∧ DemO w_ w.heap.size p mb nJ pbJ WJ ∧ Below w.heap.size w w_) ?_ ?_))))) (fun h => nomatch h)))
   ·refine Fx.W.seq (Fx.W.list (Fx.L.v (.int .u64 ((i : Int))) (Fx.x_move rfl h7) ?_))
    refine Fx.L.v (.int .u8 (other)) (Fx.x_move rfl h2) ?_
    refine Fx.L.v (.int .u64 (other)) (Fx.x_conv rfl rfl (by kernel_rfl) Try.underlying22 (Fx.u64e (by omega) rfl)) ?_
    by_cases c32 : (i : Int) = other
    ·refine Fx.L.v (.bool true) (Fx.x_eqlT rfl rfl rfl c32) ?_
     refine Fx.L.v (.bool true) (Fx.x_move rfl rfl) ?_
     refine Fx.L.v (.pointer (some ⟨p, 0, none⟩)) (Fx.x_move rfl h4) ?_
     refine Fx.L.v (.int .u64 (now)) (Fx.x_move rfl h1) ?_
     refine Fx.L.v (.int .u64 ((i : Int))) (Fx.x_move rfl h7) ?_
     refine Fx.L.v (.int .u64 ((i : Int) + now)) (Fx.x_add rfl rfl rfl (Fx.u64e (by omega) (by omega))) ?_
     refine Fx.L.call (by rfl) (Fx.r_call (args := [.pointer (some ⟨p, 0, none⟩), .int .u64 (3), .int .i64 (1), .int .u64 ((i : Int) + now)]) rfl rfl Try.func9 rfl rfl) rfl ((d_put 3 1 ((i : Int) + now) (by omega) (by omega) p mb _ _ _ _ _ m1 b4.size).mono ?_)
     rintro e9 w5 ⟨cc2, he, hc2, nn2, pb2, W2, hr2, hd3⟩
     obtain ⟨rfl, hW2⟩ := ht.put c32 hr2 (by omega) (by omega)
     refine ⟨_, he, ?_⟩
     clear he
     have hbl2 := m1.below b4.size hc2
     have b5 := b4.trans hbl2
     refine Fx.L.v (.bool false) (Fx.x_neqF rfl rfl rfl (by omega)) ?_
     refine Fx.L.v (.bool false) (Fx.x_pickT rfl rfl rfl) ?_
     refine Fx.L.nil (Fx.seqN (Fx.W.cond (b := false) rfl (fun h => nomatch h) (fun _ => Fx.W.skip ?_)))
     exact Fx.jnN ⟨nn2, pb2, W2, hW2, (h1.trans (by first | rfl | exact congrArg (Value.int .u64) (by omega))), (h2.trans (by first | rfl | exact congrArg (Value.int .u8) (by omega))), (h3.trans (by first | rfl | exact congrArg (Value.int .u8) (by omega))), h4, (h5.trans (by first | rfl | exact congrArg (Value.int .u64) (by omega))), (h6.trans (by first | rfl | exact congrArg (Value.int .u64) (by omega))), (h7.trans (by first | rfl | exact congrArg (Value.int .u64) (by omega))), hd3, b5⟩
    ·refine Fx.L.v (.bool false) (Fx.x_eqlF rfl rfl rfl c32) ?_
     refine Fx.L.v (.bool false) (Fx.x_move rfl rfl) ?_
     refine Fx.L.skip (by rfl) rfl ?_
     refine Fx.L.skip (by rfl) rfl ?_
     refine Fx.L.skip (by rfl) rfl ?_
     refine Fx.L.skip (by rfl) rfl ?_
     refine Fx.L.skip (by rfl) rfl ?_
     refine Fx.L.skip (by rfl) rfl ?_
     refine Fx.L.v (.bool false) (Fx.x_pickF rfl rfl rfl) ?_
     refine Fx.L.nil (Fx.seqN (Fx.W.cond (b := false) rfl (fun h => nomatch h) (fun _ => Fx.W.skip ?_)))
     exact Fx.jnN ⟨n, pb, W, (TmS.mk ht.lo ht.hi ht.w0 ht.w1 (fun e => ht.one (by omega))), (h1.trans (by first | rfl | exact congrArg (Value.int .u64) (by omega))), (h2.trans (by first | rfl | exact congrArg (Value.int .u8) (by omega))), (h3.trans (by first | rfl | exact congrArg (Value.int .u8) (by omega))), h4, (h5.trans (by first | rfl | exact congrArg (Value.int .u64) (by omega))), (h6.trans (by first | rfl | exact congrArg (Value.int .u64) (by omega))), (h7.trans (by first | rfl | exact congrArg (Value.int .u64) (by omega))), m1, b4⟩
   ·rintro f2 w6 ⟨nJ, pbJ, WJ, htq, h8, h9, h10, h11, h12, h13, h14, m2, b6⟩
    refine Fx.W.seq (Fx.W.list (Fx.L.v (.pointer (some ⟨p, 0, none⟩)) (Fx.x_move rfl h11) ?_))
    refine Fx.L.v (.int .u64 (now)) (Fx.x_move rfl h8) ?_
    refine Fx.L.v (.int .u64 ((i : Int))) (Fx.x_move rfl h14) ?_
    refine Fx.L.v (.int .u64 ((i : Int) + now)) (Fx.x_add rfl rfl rfl (Fx.u64e (by omega) (by omega))) ?_
    refine Fx.L.call (by rfl) (Fx.r_call (args := [.pointer (some ⟨p, 0, none⟩), .int .u64 ((i : Int) + now)]) rfl rfl Try.func10 rfl rfl) rfl ((d_due ((i : Int) + now) p mb _ _ _ _ _ m2 (by omega) (by omega)).mono ?_)
    rintro e9 w7 ⟨a, m, c, τ, he, ho, hth, hd4, hc3⟩
    refine ⟨_, he, ?_⟩
    clear he
    have hm2 := those_le hth
    have hn2 := htq.hi
    have hwk : ∀ q, q < m → WtOk (WJ (τ q)) := fun q hq => m2.ok3 _ (hth.lt q hq)
    have hbl3 := m2.below b6.size hc3
    have b7 := b6.trans hbl3
    refine Fx.L.v (.slice a (m) (c)) (Fx.x_assign rfl rfl) ?_
    refine Fx.L.nil (Fx.seqN (Fx.W.seq (Fx.W.list (Fx.L.v (.bool false) (Fx.x_assign rfl rfl) ?_))))
    refine Fx.L.nil (Fx.seqN (Fx.W.seq (Fx.W.seq (Fx.W.list (Fx.L.v (.int .i64 (0)) (Fx.x_assign rfl rfl) ?_)))))
    refine Fx.L.nil (Fx.seqN (Fx.W.block (Fx.W.loop (fun f w_ => ∃ k : Nat, k ≤ m ∧ f 0 = .int .u64 (now) ∧ f 1 = .int .u8 (other) ∧ f 2 = .int .u8 ((rounds : Int)) ∧ f 7 = .pointer (some ⟨p, 0, none⟩) ∧ f 8 = .int .u64 (next) ∧ f 9 = .int .u64 (wait) ∧ f 10 = .int .u64 ((i : Int)) ∧ f 11 = .slice a (m) (c) ∧ f 12 = .bool (isN τ k) ∧ f 13 = .int .i64 ((k : Int)) ∧ DemO w_ w.heap.size p mb nJ pbJ (fun zq => dueW ((i : Int) + now) (WJ zq)) ∧ Fx.Own w_ w6.heap.size 31 2 (.slice a (m) (c)) m (Fx.flat 2 fun q => wtc (WJ (τ q))) ∧ Below w.heap.size w w_) (fun f _ => (m - (intOf (f 13)).toNat)) ⟨0, by omega, (h8.trans (by first | rfl | exact congrArg (Value.int .u64) (by omega))), (h9.trans (by first | rfl | exact congrArg (Value.int .u8) (by omega))), (h10.trans (by first | rfl | exact congrArg (Value.int .u8) (by omega))), h11, (h12.trans (by first | rfl | exact congrArg (Value.int .u64) (by omega))), (h13.trans (by first | rfl | exact congrArg (Value.int .u64) (by omega))), (h14.trans (by first | rfl | exact congrArg (Value.int .u64) (by omega))), (by rfl), (by rfl), (by first | rfl | exact congrArg (Value.int .i64) (by omega)), hd4, ho, b7⟩ ?_)))
    rintro f3 w8 ⟨k, hk, h15, h16, h17, h18, h19, h20, h21, h22, h23, h24, m3, m4, b8⟩
    refine Fx.W.seq (Fx.W.seq (Fx.W.list (Fx.L.v (.int .i64 ((k : Int))) (Fx.x_move rfl h24) ?_)))
    refine Fx.L.v (.slice a (m) (c)) (Fx.x_move rfl h22) ?_
    refine Fx.L.v (.int .i64 ((m : Int))) (Fx.x_len rfl rfl rfl (by kernel_rfl)) ?_
    by_cases c49 : (k : Int) < (m : Int)
    ·refine Fx.L.v (.bool true) (Fx.x_lssT rfl rfl rfl c49) ?_
     refine Fx.L.nil (Fx.seqN (Fx.W.cond (b := true) rfl (fun _ => Fx.W.skip (Fx.seqN (Fx.W.seq (Fx.W.block (Fx.W.list (Fx.L.v (.bool (isN τ k)) (Fx.x_move rfl h23) ?_)))))) (fun h => nomatch h)))
     by_cases c53 : (isN τ k) = true
     ·refine Fx.L.v (.bool true) (Fx.x_move rfl (rfl.trans (congrArg Value.bool c53))) ?_
      refine Fx.L.skip (by rfl) rfl ?_
      refine Fx.L.skip (by rfl) rfl ?_
      refine Fx.L.skip (by rfl) rfl ?_
      refine Fx.L.skip (by rfl) rfl ?_
      refine Fx.L.skip (by rfl) rfl ?_
      refine Fx.L.skip (by rfl) rfl ?_
      refine Fx.L.v (.bool true) (Fx.x_pickT rfl rfl rfl) ?_
      refine Fx.L.v (.bool true) (Fx.x_assign rfl rfl) ?_
      refine Fx.L.nil (Fx.blkN (Fx.seqN (Fx.W.list (Fx.L.v (.int .i64 ((k : Int))) (Fx.x_move rfl h24) ?_))))
      refine Fx.L.v (.int .i64 ((k : Int) + 1)) (Fx.x_add rfl rfl rfl (Fx.i64e (by omega) (by omega))) ?_
      refine Fx.L.v (.int .i64 ((k : Int) + 1)) (Fx.x_assign rfl rfl) ?_
      refine Fx.L.nil (Fx.lpN ⟨k + 1, by omega, (h15.trans (by first | rfl | exact congrArg (Value.int .u64) (by omega))), (h16.trans (by first | rfl | exact congrArg (Value.int .u8) (by omega))), (h17.trans (by first | rfl | exact congrArg (Value.int .u8) (by omega))), h18, (h19.trans (by first | rfl | exact congrArg (Value.int .u64) (by omega))), (h20.trans (by first | rfl | exact congrArg (Value.int .u64) (by omega))), (h21.trans (by first | rfl | exact congrArg (Value.int .u64) (by omega))), h22, (by exact congrArg Value.bool (by show true = (isN τ k || decide (τ k = 0)); rw [c53]; rfl)), (by first | rfl | exact congrArg (Value.int .i64) (by omega)), m3, m4, b8⟩ ?_)
      show (m - (intOf ((.int .i64 ((k : Int) + 1)))).toNat) < _
      simp only [h24, intOf]; omega
     ·rw [Bool.not_eq_true] at c53
      refine Fx.L.v (.bool false) (Fx.x_move rfl (rfl.trans (congrArg Value.bool c53))) ?_
      refine Fx.L.v (.slice a (m) (c)) (Fx.x_move rfl h22) ?_
      refine Fx.L.v (.int .i64 ((k : Int))) (Fx.x_move rfl h24) ?_
      obtain ⟨gq1, eq1⟩ := m4.addr (by omega)
      have m5 : Fx.Own w8 w6.heap.size 31 2 (.slice (some ⟨gq1, 0, none⟩) m c) m (Fx.flat 2 fun q => wtc (WJ (τ q))) := m4.congV (congrArg (fun q => Value.slice q m c) eq1)
      refine Fx.L.v (.pointer (some ⟨gq1, 2 * k, none⟩)) (Fx.x_indexS rfl (rfl.trans (congrArg (fun q => Value.slice q (m) (c)) eq1)) rfl Try.underlying28 (s := 2) (by kernel_rfl) (by omega) (by omega) (by omega)) ?_
      refine Fx.L.v (.agg (Fx.varr 2 (wtc (WJ (τ k))))) (Fx.x_loadA (x := Fx.flat 2 fun q => wtc (WJ (τ q))) (y := wtc (WJ (τ k))) rfl rfl (by kernel_rfl) (by kernel_rfl) m5.cel (i := 2 * k) (by omega) (by omega) (fun jq hjq => Fx.flat_at (k := k) (by omega) hjq)) ?_
      refine Fx.L.v (.agg (Fx.varr 2 (Fx.ovr (Fx.ovr (fun i => (#[.int .u64 (0), .int .i64 (0)] : Array Value).getD i undef) 0 1 (fun _ => .int .u64 (7))) 1 1 (fun _ => .int .i64 (5))))) (Fx.x_build (vs := [(0, .int .u64 (7)), (1, .int .i64 (5))]) (places := #[(0, 1), (1, 1)]) (m := 2) (x := fun i => (#[.int .u64 (0), .int .i64 (0)] : Array Value).getD i undef) rfl rfl Try.underlying31 (by kernel_rfl) (by kernel_rfl) (by rw [Fx.fill_step (off := 0) (s := 1) (y := fun _ => .int .u64 (7)) (by kernel_rfl) (Fx.cells_one (by rfl)) (by rfl)]; rw [Fx.fill_step (off := 1) (s := 1) (y := fun _ => .int .i64 (5)) (by kernel_rfl) (Fx.cells_one (by rfl)) (by rfl)]; rfl)) ?_
      by_cases c59 : ∀ i, i < 2 → (wtc (WJ (τ k))) i = (Fx.ovr (Fx.ovr (fun i => (#[.int .u64 (0), .int .i64 (0)] : Array Value).getD i undef) 0 1 (fun _ => .int .u64 (7))) 1 1 (fun _ => .int .i64 (5))) i
      ·refine Fx.L.v (.bool true) (Fx.x_eqlA (n := 2) (ks := [(some .u64), (some .i64)]) (X := wtc (WJ (τ k))) (Y := Fx.ovr (Fx.ovr (fun i => (#[.int .u64 (0), .int .i64 (0)] : Array Value).getD i undef) 0 1 (fun _ => .int .u64 (7))) 1 1 (fun _ => .int .i64 (5))) 12 true rfl rfl rfl (Fx.yesb c59) (kd_want (hwk k (by omega))) kd_seven rfl (by kernel_rfl) (by kernel_rfl) (by kernel_rfl) (by kernel_rfl) (by kernel_rfl)) ?_
       refine Fx.L.v (.bool true) (Fx.x_pickF rfl rfl rfl) ?_
       refine Fx.L.v (.bool true) (Fx.x_assign rfl rfl) ?_
       refine Fx.L.nil (Fx.blkN (Fx.seqN (Fx.W.list (Fx.L.v (.int .i64 ((k : Int))) (Fx.x_move rfl h24) ?_))))
       refine Fx.L.v (.int .i64 ((k : Int) + 1)) (Fx.x_add rfl rfl rfl (Fx.i64e (by omega) (by omega))) ?_
       refine Fx.L.v (.int .i64 ((k : Int) + 1)) (Fx.x_assign rfl rfl) ?_
       refine Fx.L.nil ?_
       have m6 : Fx.Own w8 w6.heap.size 31 2 (.slice a (m) (c)) m (Fx.flat 2 fun q => wtc (WJ (τ q))) := m5.congV (congrArg (fun q => Value.slice q m c) eq1.symm)
       refine Fx.lpN ⟨k + 1, by omega, (h15.trans (by first | rfl | exact congrArg (Value.int .u64) (by omega))), (h16.trans (by first | rfl | exact congrArg (Value.int .u8) (by omega))), (h17.trans (by first | rfl | exact congrArg (Value.int .u8) (by omega))), h18, (h19.trans (by first | rfl | exact congrArg (Value.int .u64) (by omega))), (h20.trans (by first | rfl | exact congrArg (Value.int .u64) (by omega))), (h21.trans (by first | rfl | exact congrArg (Value.int .u64) (by omega))), h22, (by exact congrArg Value.bool (by show true = (isN τ k || decide (τ k = 0)); rw [c53, decide_eq_true ((is7 htq (hth.lt k (by omega)) rfl rfl).1 c59)]; rfl)), (by first | rfl | exact congrArg (Value.int .i64) (by omega)), m3, m6, b8⟩ ?_
       show (m - (intOf ((.int .i64 ((k : Int) + 1)))).toNat) < _
       simp only [h24, intOf]; omega
      ·refine Fx.L.v (.bool false) (Fx.x_eqlA (n := 2) (ks := [(some .u64), (some .i64)]) (X := wtc (WJ (τ k))) (Y := Fx.ovr (Fx.ovr (fun i => (#[.int .u64 (0), .int .i64 (0)] : Array Value).getD i undef) 0 1 (fun _ => .int .u64 (7))) 1 1 (fun _ => .int .i64 (5))) 12 false rfl rfl rfl (Fx.nob c59) (kd_want (hwk k (by omega))) kd_seven rfl (by kernel_rfl) (by kernel_rfl) (by kernel_rfl) (by kernel_rfl) (by kernel_rfl)) ?_
       refine Fx.L.v (.bool false) (Fx.x_pickF rfl rfl rfl) ?_
       refine Fx.L.v (.bool false) (Fx.x_assign rfl rfl) ?_
       refine Fx.L.nil (Fx.blkN (Fx.seqN (Fx.W.list (Fx.L.v (.int .i64 ((k : Int))) (Fx.x_move rfl h24) ?_))))
       refine Fx.L.v (.int .i64 ((k : Int) + 1)) (Fx.x_add rfl rfl rfl (Fx.i64e (by omega) (by omega))) ?_
       refine Fx.L.v (.int .i64 ((k : Int) + 1)) (Fx.x_assign rfl rfl) ?_
       refine Fx.L.nil ?_
       have m7 : Fx.Own w8 w6.heap.size 31 2 (.slice a (m) (c)) m (Fx.flat 2 fun q => wtc (WJ (τ q))) := m5.congV (congrArg (fun q => Value.slice q m c) eq1.symm)
       refine Fx.lpN ⟨k + 1, by omega, (h15.trans (by first | rfl | exact congrArg (Value.int .u64) (by omega))), (h16.trans (by first | rfl | exact congrArg (Value.int .u8) (by omega))), (h17.trans (by first | rfl | exact congrArg (Value.int .u8) (by omega))), h18, (h19.trans (by first | rfl | exact congrArg (Value.int .u64) (by omega))), (h20.trans (by first | rfl | exact congrArg (Value.int .u64) (by omega))), (h21.trans (by first | rfl | exact congrArg (Value.int .u64) (by omega))), h22, (by exact congrArg Value.bool (by show false = (isN τ k || decide (τ k = 0)); rw [c53, decide_eq_false (fun e => c59 ((is7 htq (hth.lt k (by omega)) rfl rfl).2 e))]; rfl)), (by first | rfl | exact congrArg (Value.int .i64) (by omega)), m3, m7, b8⟩ ?_
       show (m - (intOf ((.int .i64 ((k : Int) + 1)))).toNat) < _
       simp only [h24, intOf]; omega
    ·refine Fx.L.v (.bool false) (Fx.x_lssF rfl rfl rfl c49) ?_
     refine Fx.L.nil (Fx.seqN (Fx.W.cond (b := false) rfl (fun h => nomatch h) (fun _ => Fx.W.exit (Fx.seqX (Fx.lpX (Fx.blkX (Fx.seqN (Fx.W.seq (Fx.W.seq ?_)))))))))
     have hde : isN τ k = decide (next ≤ (i : Int) + now) := by rw [show k = m by omega]; exact isN_due hth htq
     refine Fx.W.list (Fx.L.v (.bool (isN τ k)) (Fx.x_move rfl h23) ?_)
     refine Fx.L.v (.int .u64 (now)) (Fx.x_move rfl h15) ?_
     refine Fx.L.v (.int .u64 ((i : Int))) (Fx.x_move rfl h21) ?_
     refine Fx.L.v (.int .u64 ((i : Int) + now)) (Fx.x_add rfl rfl rfl (Fx.u64e (by omega) (by omega))) ?_
     refine Fx.L.v (.int .u64 (next)) (Fx.x_move rfl h19) ?_
     refine Fx.L.v (.bool (decide (((i : Int) + now) = next))) (Fx.x_eql rfl rfl rfl) ?_
     refine Fx.L.v (.bool false) (Fx.x_neqB rfl rfl rfl (by kernel_rfl) (by rw [hde]; have e1 : decide (next ≤ (i : Int) + now) = decide ((i : Int) + now = next) := decide_eq_decide.2 (by omega); rw [e1]; simp)) ?_
     refine Fx.L.nil (Fx.seqN (Fx.W.cond (b := false) rfl (fun h => nomatch h) (fun _ => Fx.W.skip (Fx.seqN (Fx.W.seq (Fx.W.list ?_))))))
     by_cases c68 : (isN τ k) = true
     ·refine Fx.L.v (.bool true) (Fx.x_move rfl (h23.trans (congrArg Value.bool c68))) ?_
      refine Fx.L.nil (Fx.seqN (Fx.W.cond (b := true) rfl (fun _ => Fx.W.seq (Fx.W.list (Fx.L.v (.int .u64 (next)) (Fx.x_move rfl h19) ?_))) (fun h => nomatch h)))
      refine Fx.L.v (.int .u64 (wait)) (Fx.x_move rfl h20) ?_
      refine Fx.L.v (.int .u64 (next + wait)) (Fx.x_add rfl rfl rfl (Fx.u64e (by omega) (by omega))) ?_
      refine Fx.L.v (.int .u64 (next + wait)) (Fx.x_assign rfl rfl) ?_
      refine Fx.L.nil (Fx.seqN (Fx.W.list (Fx.L.v (.int .u64 (wait)) (Fx.x_move rfl h20) ?_)))
      refine Fx.L.v (.int .u64 (2 * wait)) (Fx.x_mul rfl rfl rfl (Fx.u64e (by omega) (by omega))) ?_
      refine Fx.L.v (.int .u64 (mnZ (2 * wait) 16)) (Fx.x_min rfl rfl rfl) ?_
      refine Fx.L.v (.int .u64 (mnZ (2 * wait) 16)) (Fx.x_assign rfl rfl) ?_
      refine Fx.L.nil (Fx.blkN (Fx.seqN (Fx.W.list (Fx.L.v (.int .u64 ((i : Int))) (Fx.x_move rfl h21) ?_))))
      refine Fx.L.v (.int .u64 ((i : Int) + 1)) (Fx.x_add rfl rfl rfl (Fx.u64e (by omega) (by omega))) ?_
      refine Fx.L.v (.int .u64 ((i : Int) + 1)) (Fx.x_assign rfl rfl) ?_
      refine Fx.L.nil ?_
      have hdn := of_decide_eq_true (hde.symm.trans c68)
      refine Fx.lpN ⟨i + 1, nJ, pbJ, (fun zq => dueW ((i : Int) + now) (WJ zq)), (next + wait), (mnZ (2 * wait) 16), by omega, ((htq.due (by omega)).to (by omega) (by omega) rfl), by omega, by omega, (mnZ_bd _ hw1 hw2).1, (mnZ_bd _ hw1 hw2).2, (h15.trans (by first | rfl | exact congrArg (Value.int .u64) (by omega))), (h16.trans (by first | rfl | exact congrArg (Value.int .u8) (by omega))), (h17.trans (by first | rfl | exact congrArg (Value.int .u8) (by omega))), h18, (by first | rfl | exact congrArg (Value.int .u64) (by omega)), (by first | rfl | exact congrArg (Value.int .u64) (by omega)), (by first | rfl | exact congrArg (Value.int .u64) (by omega)), m3, b8⟩ ?_
      show (rounds - (intOf ((.int .u64 ((i : Int) + 1)))).toNat) < _
      simp only [h7, intOf]; omega
     ·rw [Bool.not_eq_true] at c68
      refine Fx.L.v (.bool false) (Fx.x_move rfl (h23.trans (congrArg Value.bool c68))) ?_
      refine Fx.L.nil (Fx.seqN (Fx.W.cond (b := false) rfl (fun h => nomatch h) (fun _ => Fx.W.skip (Fx.blkN (Fx.seqN (Fx.W.list (Fx.L.v (.int .u64 ((i : Int))) (Fx.x_move rfl h21) ?_)))))))
      refine Fx.L.v (.int .u64 ((i : Int) + 1)) (Fx.x_add rfl rfl rfl (Fx.u64e (by omega) (by omega))) ?_
      refine Fx.L.v (.int .u64 ((i : Int) + 1)) (Fx.x_assign rfl rfl) ?_
      refine Fx.L.nil ?_
      have hdn := of_decide_eq_false (hde.symm.trans c68)
      refine Fx.lpN ⟨i + 1, nJ, pbJ, (fun zq => dueW ((i : Int) + now) (WJ zq)), next, wait, by omega, ((htq.idle (by omega)).to (by omega) rfl rfl), by omega, by omega, hw1, hw2, (h15.trans (by first | rfl | exact congrArg (Value.int .u64) (by omega))), (h16.trans (by first | rfl | exact congrArg (Value.int .u8) (by omega))), (h17.trans (by first | rfl | exact congrArg (Value.int .u8) (by omega))), h18, (h19.trans (by first | rfl | exact congrArg (Value.int .u64) (by omega))), (h20.trans (by first | rfl | exact congrArg (Value.int .u64) (by omega))), (by first | rfl | exact congrArg (Value.int .u64) (by omega)), m3, b8⟩ ?_
      show (rounds - (intOf ((.int .u64 ((i : Int) + 1)))).toNat) < _
      simp only [h7, intOf]; omega
  ·refine Fx.L.v (.bool false) (Fx.x_lssF rfl rfl rfl c26) ?_
   refine Fx.L.nil (Fx.seqN (Fx.W.cond (b := false) rfl (fun h => nomatch h) (fun _ => Fx.W.exit (Fx.seqX (Fx.lpX (Fx.blkX (Fx.seqN (Fx.W.seq (Fx.W.list (Fx.L.call (by rfl) (Fx.r_call (args := []) rfl rfl Try.func7 rfl rfl) rfl ((works18_any _).mono ?_)))))))))))
   rintro e w9 ⟨he, hb3⟩
   refine ⟨.bool true, by rw [he], ?_⟩
   clear he
   have s2 := Fx.Stp.of_below hb3
   have m8 := m1.up s2.old
   have b9 := s2.below b4 b4.size b4.size
   refine Fx.L.v (.bool true) (Fx.x_assign rfl rfl) ?_
   refine Fx.L.nil (Fx.seqN (Fx.W.ret (⟨.bool true, Fx.retV1 Try.results3 (by exact rfl), ?_⟩)))
   exact ⟨rfl, b9⟩
end Go.Proofs.Ytjnkejgjgknllaa
namespace Go.Proofs.Ytjnkejgjgknllaa
open Go.RowKit
theorem Rt.bd_u8 {n : Int} (h : (Lit.int .u8 n).wf = true) : 0 ≤ n ∧ n ≤ 255 := by
  simp [Lit.wf, IntKind.min, IntKind.max, IntKind.bits, IntKind.signed] at h; exact h
theorem Rt.bd_u64 {n : Int} (h : (Lit.int .u64 n).wf = true) : 0 ≤ n ∧ n < 18446744073709551616 := by
  simp [Lit.wf, IntKind.min, IntKind.max, IntKind.bits, IntKind.signed] at h; omega
theorem dtimes_all (now other rounds : Int) (w : World) (h0 : (Lit.int .u64 now).wf = true) (h1 : (Lit.int .u8 other).wf = true) (h2 : (Lit.int .u8 rounds).wf = true) :
    Calls Try.prog 3 #[.int .u64 now, .int .u8 other, .int .u8 rounds] w fun e w' => e = .returned (.bool true) ∧ Below w.heap.size w w' := by
  obtain ⟨a1, a2⟩ := Rt.bd_u64 h0
  obtain ⟨b1, b2⟩ := Rt.bd_u8 h1
  obtain ⟨c1, c2⟩ := Rt.bd_u8 h2
  obtain ⟨r, rfl⟩ : ∃ r : Nat, rounds = (r : Int) := ⟨rounds.toNat, by omega⟩
  exact dtimes_any now other r w a1 a2 b1 (by omega) (by omega)
end Go.Proofs.Ytjnkejgjgknllaa
