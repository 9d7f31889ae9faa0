/-
  What the proof of the law rests on, part 2: walks of functions, and plain laws; each says its conditions itself.
-/
import Derived.ChangeArms
import Derived.Test.YtjnkejgjgknllaaZM1
namespace Go.Proofs.Ytjnkejgjgknllaa
open Go.RowKit Rt
namespace Rt
def mnZ (a b : Int) : Int := if b < a then b else a
def bumpW (now : Int) (u : WtM) : WtM := ⟨u.node, u.amt, now + u.wait, mnZ (2 * u.wait) 16⟩
def dueW (now : Int) (u : WtM) : WtM := if u.at_ ≤ now then bumpW now u else u
theorem dueW_node (now : Int) (u : WtM) : (dueW now u).node = u.node := by unfold dueW; split <;> rfl
theorem mnZ_bd (a : Int) (h1 : 1 ≤ a) (h2 : a ≤ 16) : 1 ≤ mnZ (2 * a) 16 ∧ mnZ (2 * a) 16 ≤ 16 := by unfold mnZ; split <;> omega
theorem dueW_ok (now : Int) (u : WtM) (h1 : 1 ≤ u.wait) (h2 : u.wait ≤ 16) : 1 ≤ (dueW now u).wait ∧ (dueW now u).wait ≤ 16 := by
  unfold dueW; split
  · exact mnZ_bd _ h1 h2
  · exact ⟨h1, h2⟩
theorem dueW_ok3 (now : Int) {u : WtM} (h : WtOk u) : WtOk (dueW now u) := by unfold dueW; split <;> exact h
theorem ThoseR.inj {n m : Nat} {W : Nat → WtM} {P : Nat → Prop} {τ : Nat → Nat} (h : ThoseR n W P m τ) {q r : Nat} (hq : q < m) (hr : r < m) (e : τ q = τ r) : q = r := by
  rcases Nat.lt_trichotomy q r with h1 | h1 | h1
  · have := h.up q r h1 hr; rw [e] at this; omega
  · exact h1
  · have := h.up r q h1 hq; rw [e] at this; omega
theorem due_app {W V : Nat → WtM} {τ : Nat → Nat} {k : Nat} {z : Nat → Value} (hk : V (τ k) = W (τ k)) : ∀ j, j < (k + 1) * 2 → Fx.appX (Fx.flat 2 fun q => wtc (W (τ q))) (k * 2) (Fx.ovr z (0 * 2) 2 (fun j => wtc (V (τ k)) (0 + j))) j = Fx.flat 2 (fun q => wtc (W (τ q))) j := fun j hj => by
  unfold Fx.appX Fx.ovr
  by_cases e : j < k * 2
  · rw [if_pos e]
  · rw [if_neg e, if_pos (by omega), hk]
    show _ = wtc (W (τ (j / 2))) (j % 2)
    rw [show j / 2 = k by omega, show j % 2 = 0 + (j - k * 2 - 0 * 2) by omega]
theorem due_v1 {n m k : Nat} {W V : Nat → WtM} {P : Nat → Prop} {τ : Nat → Nat} {now : Int} {u1 u2 : WtM} (h : ThoseR n W P m τ) (hkm : k < m) (hv : ∀ q, q < k → V (τ q) = bumpW now (W (τ q))) (hu : u2 = bumpW now (W (τ k))) : ∀ q, q < k + 1 → Fx.putI (Fx.putI V (τ k) u1) (τ k) u2 (τ q) = bumpW now (W (τ q)) := fun q hq => by
  unfold Fx.putI
  by_cases e : q = k
  · subst e; rw [if_pos rfl]; exact hu
  · have ne : τ q ≠ τ k := fun e2 => e (h.inj (by omega) hkm e2)
    rw [if_neg ne, if_neg ne]; exact hv q (by omega)
theorem due_v2 {k : Nat} {W V : Nat → WtM} {τ : Nat → Nat} {u1 u2 : WtM} (hv : ∀ i, (∀ q, q < k → τ q ≠ i) → V i = W i) : ∀ i, (∀ q, q < k + 1 → τ q ≠ i) → Fx.putI (Fx.putI V (τ k) u1) (τ k) u2 i = W i := fun i hi => by
  unfold Fx.putI
  have ne : i ≠ τ k := fun e => hi k (by omega) e.symm
  rw [if_neg ne, if_neg ne]; exact hv i fun q hq => hi q (by omega)
theorem due_v {n m : Nat} {W V : Nat → WtM} {τ : Nat → Nat} {now : Int} (h : ThoseR n W (fun i => (W i).at_ ≤ now) m τ) (h1 : ∀ q, q < m → V (τ q) = bumpW now (W (τ q))) (h2 : ∀ i, (∀ q, q < m → τ q ≠ i) → V i = W i) : ∀ i, i < n → V i = dueW now (W i) := fun i hi => by
  unfold dueW
  by_cases e : (W i).at_ ≤ now
  · rw [if_pos e]
    obtain ⟨q, hq, rfl⟩ := h.mem i hi e
    exact h1 q hq
  · rw [if_neg e]
    exact h2 i fun q hq e2 => e (e2 ▸ h.yes q hq)
inductive DoneR (n : Nat) (W : Nat → WtM) (node : Int) : Bool → Nat → (Nat → WtM) → Prop
  | no (hn : ∀ i, i < n → (W i).node ≠ node) : DoneR n W node false n W
  | yes (j : Nat) (hj : j < n) (e : (W j).node = node) : DoneR n W node true (n - 1) (Fx.delI W j)
theorem delI_inj {n j : Nat} {pb : Nat → Nat} (h : ∀ i k, i < n → k < n → pb i = pb k → i = k) : ∀ i k, i < n - 1 → k < n - 1 → Fx.delI pb j i = Fx.delI pb j k → i = k := fun i k hi hk e => by
  unfold Fx.delI at e
  split at e <;> split at e
  · exact h i k (by omega) (by omega) e
  · have := h i (k + 1) (by omega) (by omega) e; omega
  · have := h (i + 1) k (by omega) (by omega) e; omega
  · have := h (i + 1) (k + 1) (by omega) (by omega) e; omega
theorem delI_all {α : Type} {n j : Nat} {f : Nat → α} {p : α → Prop} (h : ∀ i, i < n → p (f i)) : ∀ i, i < n - 1 → p (Fx.delI f j i) := fun i hi => by
  unfold Fx.delI
  split
  · exact h i (by omega)
  · exact h (i + 1) (by omega)
theorem delI_node (W : Nat → WtM) (j i : Nat) : (Fx.delI W j i).node = Fx.delI (fun i => (W i).node) j i := by unfold Fx.delI; split <;> rfl
theorem delI_ptr (pb : Nat → Nat) (j i : Nat) : (.pointer (some ⟨Fx.delI pb j i, 0, none⟩) : Value) = Fx.delI (fun i => (.pointer (some ⟨pb i, 0, none⟩) : Value)) j i := by unfold Fx.delI; split <;> rfl
end Rt
theorem Rt.nodup_len : ∀ {l r : List Nat}, l.Nodup → l ⊆ r → l.length ≤ r.length
  | [], _, _, _ => Nat.zero_le _
  | a :: l, r, hn, hs => by
    rw [List.nodup_cons] at hn
    have h1 : a ∈ r := hs (List.mem_cons_self ..)
    have h2 := nodup_len (l := l) (r := r.erase a) hn.2 fun x hx => (List.mem_erase_of_ne (fun e => hn.1 (by rw [← e]; exact hx))).2 (hs (List.mem_cons_of_mem _ hx))
    rw [List.length_erase_of_mem h1] at h2
    have := List.length_pos_of_mem h1
    simp only [List.length_cons]; omega
theorem Rt.those_le {n m : Nat} {W : Nat → WtM} {P : Nat → Prop} {τ : Nat → Nat} (h : ThoseR n W P m τ) : m ≤ n := by
  have h1 : ((List.range m).map τ).Nodup := by
    rw [List.Nodup, List.pairwise_iff_getElem]
    intro i j hi hj hij
    simp only [List.getElem_map, List.getElem_range]
    simp only [List.length_map, List.length_range] at hi hj
    exact fun e => absurd (h.inj hi hj e) (by omega)
  have h2 : ((List.range m).map τ) ⊆ List.range n := fun x hx => by
    simp only [List.mem_map, List.mem_range] at hx
    obtain ⟨q, hq, rfl⟩ := hx
    exact List.mem_range.2 (h.lt q hq)
  have h3 := nodup_len h1 h2
  simpa using h3
theorem d_due (now : Int) (p mb n : Nat) (pb : Nat → Nat) (W : Nat → WtM) (B : Nat) (w : World) (h : DemO w B p mb n pb W) (hn0 : 0 ≤ now) (hn2 : now ≤ 4611686018427387904) :
    Calls Try.prog 10 #[.pointer (some ⟨p, 0, none⟩), .int .u64 (now)] w fun e w' => ∃ a m c τ, e = .returned (.slice a m c) ∧ Fx.Own w' w.heap.size 31 2 (.slice a m c) m (Fx.flat 2 fun q => wtc (W (τ q))) ∧ ThoseR n W (fun i => (W i).at_ ≤ now) m τ ∧ DemO w' B p mb n pb (fun i => dueW now (W i)) ∧ Fx.Chg (demS mb n pb) w w' := by
 refine Fx.enter Try.func10 rfl (n := 42) rfl (by rfl) ?_
 have hbk := h.blk
 have hmp := h.map
 have hfm := h.fam
 have hij := h.inj
 have hge := h.ge
 have hgp := h.gp
 have hgm := h.gm
 have hsm := h.small
 have hok := h.ok
 have hok2 := h.ok2
 have hok3 := h.ok3
 have tp := hbk.lt
 have tm := hmp.lt
 have hm32 : ∀ {m : Nat} {P : Nat → Prop} {τ : Nat → Nat}, ThoseR n W P m τ → m ≤ 32 := fun hth => Nat.le_trans (those_le hth) hsm
 refine Fx.W.seq (Fx.W.list (Fx.L.box (m := 1) (y := fun _ => .int .u64 (now)) (by rfl) rfl rfl (Fx.cells_one (by rfl)) rfl fun g1 w1 eg1 m1 s1 z1 => ?_))
 have m2 := hbk.stp s1 (Nat.ne_of_lt (hbk.lt))
 have m3 := hmp.up s1.old
 have m4 := hfm.up s1.old
 have b1 := (Fx.Chg.refl (demS mb n pb) w).then s1 (.inr (Fx.Chg.refl (demS mb n pb) w).size)
 have lg1 : w.heap.size ≤ g1 := by rw [eg1]; exact (Fx.Chg.refl (demS mb n pb) w).size
 have ng1m2 : p ≠ g1 := by rw [eg1]; exact Nat.ne_of_lt (hbk.lt)
 have ng1m3 : mb ≠ g1 := by rw [eg1]; exact Nat.ne_of_lt (hmp.lt)
 have tg1 : g1 < w1.heap.size := m1.lt
 clear eg1
 refine Fx.L.v (.slice none 0 0) (Fx.x_assign rfl rfl) ?_
 refine Fx.L.nil (Fx.seqN (Fx.W.seq (Fx.W.seq (Fx.W.list (Fx.L.v (.pointer (some ⟨p, 0, none⟩)) (Fx.x_move rfl rfl) ?_)))))
 refine Fx.L.v (.func (.func 19) #[] #[.pointer (some ⟨g1, 0, none⟩)]) (Fx.x_func (us := []) (vs := [.pointer (some ⟨g1, 0, none⟩)]) rfl rfl rfl) ?_
 refine Fx.L.call (by rfl) (Fx.r_call (args := [.pointer (some ⟨p, 0, none⟩), .func (.func 19) #[] #[.pointer (some ⟨g1, 0, none⟩)]]) rfl rfl Try.func18 rfl rfl) rfl ((d_those_due p mb n pb W B _ ⟨m2, m3, m4, hij, hge, hgp, hgm, hsm, hok, hok2, hok3⟩ now g1 m1).mono ?_)
 rintro e9 w2 ⟨a, m, c, τ, he, m5, hth, hbt⟩
 refine ⟨_, he, ?_⟩
 clear he
 have s2 := Fx.Stp.of_below hbt
 have m6 := m2.stp s2 (Nat.ne_of_lt (m2.lt))
 have m7 := m3.up s2.old
 have m8 := m4.up s2.old
 have m9 := m1.stp s2 (Nat.ne_of_lt (m1.lt))
 have b2 := b1.then s2 (.inr b1.size)
 refine Fx.L.v (.int .i64 ((m : Int))) (Fx.x_len rfl rfl rfl (by kernel_rfl)) ?_
 refine Fx.L.v (.int .i64 (0)) (Fx.x_move rfl rfl) ?_
 refine Fx.L.nil (Fx.seqN (Fx.W.block ?_))
 have m10 : Fx.Own w2 w.heap.size 31 2 (.slice none 0 0) 0 (Fx.flat 2 fun q => wtc (W (τ q))) := Fx.Own.nil _ _ _ _ _
 refine Fx.W.loop (fun f w_ => ∃ k : Nat, ∃ a2 : Option Addr, ∃ cap2 : Nat, ∃ V : Nat → WtM, k ≤ m ∧ (∀ q, q < k → V (τ q) = bumpW now (W (τ q))) ∧ (∀ i, (∀ q, q < k → τ q ≠ i) → V i = W i) ∧ f 0 = .pointer (some ⟨p, 0, none⟩) ∧ f 3 = .pointer (some ⟨g1, 0, none⟩) ∧ f 4 = .slice a2 (k) (cap2) ∧ f 9 = .slice a (m) (c) ∧ f 10 = .int .i64 ((m : Int)) ∧ f 11 = .int .i64 ((k : Int)) ∧ Fx.Blk w_ p 1 (fun _ => .map (some mb)) 54 ∧ Fx.Mp w_ mb n (fun i => (W i).node) (fun i => .pointer (some ⟨pb i, 0, none⟩)) ∧ Fx.Fam w_ n pb 4 (fun i => wtc (V i)) 57 ∧ Fx.Blk w_ g1 1 (fun _ => .int .u64 (now)) 22 ∧ Fx.Own w_ w1.heap.size 55 1 (.slice a (m) (c)) m (fun q => .pointer (some ⟨pb (τ q), 0, none⟩)) ∧ Fx.Own w_ w.heap.size 31 2 (.slice a2 (k) (cap2)) k (Fx.flat 2 fun q => wtc (W (τ q))) ∧ Fx.Chg (demS mb n pb) w w_) (fun f _ => (m - (intOf (f 11)).toNat)) ⟨0, none, 0, W, by omega, (fun _ h => absurd h (Nat.not_lt_zero _)), (fun _ _ => rfl), (by rfl), (by rfl), (by rfl), (by rfl), (by first | rfl | exact congrArg (Value.int .i64) (by omega)), (by first | rfl | exact congrArg (Value.int .i64) (by omega)), m6, m7, m8, m9, m5, m10, b2⟩ ?_
 rintro f1 w3 ⟨k, a2, cap2, V, hk, hv1, hv2, h1, h2, h3, h4, h5, h6, m11, m12, m13, m14, m15, m16, b3⟩
 refine Fx.W.seq (Fx.W.list ?_)
 by_cases c12 : (k : Int) < (m : Int)
 ·refine Fx.L.v (.bool true) (Fx.x_lssT rfl h6 h5 c12) ?_
  refine Fx.L.nil (Fx.seqN (Fx.W.seq (Fx.W.cond (b := true) rfl (fun _ => Fx.W.skip (Fx.seqN (Fx.W.seq (Fx.W.block (Fx.W.seq ?_))))) (fun h => nomatch h))))
  have hVk : V (τ k) = W (τ k) := hv2 _ fun q hq e => by have := hth.inj (by omega) (by omega) e; omega
  have hw1 : 1 ≤ (V (τ k)).wait := by rw [hVk]; exact hok _ (hth.lt k (by omega))
  have hw2 : (V (τ k)).wait ≤ 16 := by rw [hVk]; exact hok2 _ (hth.lt k (by omega))
  refine Fx.W.list ?_
  obtain ⟨gq1, eq1⟩ := m15.addr (by omega)
  have m17 : Fx.Own w3 w1.heap.size 55 1 (.slice (some ⟨gq1, 0, none⟩) m c) m (fun q => .pointer (some ⟨pb (τ q), 0, none⟩)) := m15.congV (congrArg (fun q => Value.slice q m c) eq1)
  refine Fx.L.v (.pointer (some ⟨gq1, k, none⟩)) (Fx.x_indexS rfl (h4.trans (congrArg (fun q => Value.slice q (m) (c)) eq1)) h6 Try.underlying58 (s := 1) (by kernel_rfl) (by omega) (by omega) (by omega)) ?_
  refine Fx.L.v (.pointer (some ⟨pb (τ k), 0, none⟩)) (Fx.x_load1 (x := fun q => .pointer (some ⟨pb (τ q), 0, none⟩)) rfl rfl (by kernel_rfl) m17.cel (i := k) (by omega) (by omega) rfl) ?_
  refine Fx.L.v (.pointer (some ⟨pb (τ k), 0, none⟩)) (Fx.x_assign rfl rfl) ?_
  refine Fx.L.nil (Fx.seqN (Fx.W.seq ?_))
  have hm3 := hm32 hth
  refine Fx.W.list (Fx.L.v (.slice a2 (k) (cap2)) (Fx.x_move rfl h3) ?_)
  refine Fx.L.v (.pointer (some ⟨pb (τ k), 0, none⟩)) (Fx.x_move rfl rfl) ?_
  refine Fx.L.v (.pointer (some ⟨pb (τ k), 0, none⟩)) (Fx.x_nil rfl rfl) ?_
  refine Fx.L.v (.pointer (some ⟨pb (τ k), 0, none⟩)) (Fx.x_field rfl rfl Try.underlying57 rfl (s := 2) (by kernel_rfl) rfl rfl) ?_
  have hfj1 : (τ k) < n := hth.lt _ (by omega)
  have m18 := m13 (τ k) hfj1
  have gm18 := hge (τ k) hfj1
  refine Fx.L.v (.agg (Fx.varr 2 (fun j => (wtc (V (τ k))) (0 + j)))) (Fx.x_loadA (x := wtc (V (τ k))) (y := fun j => (wtc (V (τ k))) (0 + j)) rfl rfl (by kernel_rfl) (by kernel_rfl) m18.cel (i := 0) (by omega) (by omega) (fun _ _ => rfl)) ?_
  refine Fx.L.bslice (vs := [(0, .agg (Fx.varr 2 (fun j => (wtc (V (τ k))) (0 + j))))]) (s := 2) (zc := fun i => (#[.int .u64 (0), .int .i64 (0)] : Array Value).getD i undef) (y := Fx.ovr (fun j => (#[.int .u64 (0), .int .i64 (0)] : Array Value).getD (j % 2) undef) (0 * 2) 2 (fun j => (wtc (V (τ k))) (0 + j))) (by rfl) rfl rfl Try.underlying28 (by kernel_rfl) (by rfl) (by rfl) (by kernel_rfl) (by rw [Fx.fill_step (off := 0 * 2) (s := 2) (y := fun j => (wtc (V (τ k))) (0 + j)) rfl (Fx.cells_agg _ _) (by rfl)]; rfl) rfl fun g2 w4 eg2 m19 s3 z2 => ?_
  have m20 := m11.stp s3 (Nat.ne_of_lt (m11.lt))
  have m21 := m12.up s3.old
  have m22 := m13.up s3.old
  have m23 := m14.stp s3 (Nat.ne_of_lt (m14.lt))
  have m24 := m16.stp s3 (m16.notNew (Nat.le_refl _))
  have m25 := m17.stpB s3 (Nat.ne_of_lt (m17.lt))
  have m26 := m18.stp s3 (Nat.ne_of_lt (m18.lt))
  have b4 := b3.then s3 (.inr b3.size)
  have lg2 : w.heap.size ≤ g2 := by rw [eg2]; exact b3.size
  have ng2m20 : p ≠ g2 := by rw [eg2]; exact Nat.ne_of_lt (m11.lt)
  have ng2m21 : mb ≠ g2 := by rw [eg2]; exact Nat.ne_of_lt (m12.lt)
  have ng2m23 : g1 ≠ g2 := by rw [eg2]; exact Nat.ne_of_lt (m14.lt)
  have ng2m24 : (.slice a2 (k) (cap2) : Value).ownBlock ≠ some g2 := by rw [eg2]; exact m16.notNew (Nat.le_refl _)
  have ng2m25 : gq1 ≠ g2 := by rw [eg2]; exact Nat.ne_of_lt (m17.lt)
  have ng2m26 : (pb (τ k)) ≠ g2 := by rw [eg2]; exact Nat.ne_of_lt (m18.lt)
  have tg2 : g2 < w4.heap.size := m19.lt
  clear eg2
  refine Fx.L.app (B := w.heap.size) (s := 2) (bytes := 16) (k := k) (m := 1) (v := .slice a2 (k) (cap2)) (x := Fx.flat 2 fun q => wtc (W (τ q))) (by rfl) rfl rfl rfl Try.underlying28 (by kernel_rfl) (by kernel_rfl) rfl rfl m24 m19.cel (fun j hj => by unfold Fx.ovr; rw [if_pos (by omega)]; rcases j with _|_|j <;> first | rfl | omega) (by omega) (by omega) (by omega) b4.size fun g3 cap1 w5 ho1 hg1 hgv1 hlt1 => ?_
  have hct1 := Fx.ChT.of_grown hg1 m24
  have m28 := m20.chT hct1 (by decide)
  have m29 := m21.chT hct1 (by decide)
  have m30 := m22.chT hct1 (by decide)
  have m31 := m23.chT hct1 (by decide)
  have m32 := m25.chT hct1 (by decide)
  have m33 := m26.chT hct1 (by decide)
  have m27 : Fx.Own w5 w.heap.size 31 2 (.slice (some ⟨g3, 0, none⟩) (k + 1) cap1) (k + 1) (Fx.flat 2 fun q => wtc (W (τ q))) := (ho1.congr (due_app hVk))
  have b5 : Fx.Chg (demS mb n pb) w w5 := Fx.Chg.grow b4 hg1 (fun q hq => .inr (m24.ge hq).1)
  refine Fx.L.v (.slice (some ⟨g3, 0, none⟩) (k + 1) (cap1)) (Fx.x_assign rfl rfl) ?_
  refine Fx.L.nil (Fx.seqN (Fx.W.seq ?_))
  -- region 5 draws
  refine Fx.W.tail 9 (by kernel_rfl) (by kernel_rfl) fun wt1 hbwt1 hzwt1 => ?_
  have s4 : Fx.Stp w5.heap.size w5 wt1 := Fx.Stp.of_below hbwt1
  have m34 := m28.stp s4 (Nat.ne_of_lt (m28.lt))
  have m35 := m29.up s4.old
  have m36 := m30.up s4.old
  have m37 := m31.stp s4 (Nat.ne_of_lt (m31.lt))
  have m38 := m32.stpB s4 (Nat.ne_of_lt (m32.lt))
  have m39 := m33.stp s4 (Nat.ne_of_lt (m33.lt))
  have m40 := m27.stpB s4 (Nat.ne_of_lt (m27.lt))
  have b6 := b5.then s4 (.inr b5.size)
  refine Fx.St.v (.pointer (some ⟨pb (τ k), 0, none⟩)) (Fx.x_move rfl rfl) ?_
  refine Fx.St.v (.int .u64 (now)) (Fx.x_load1 (x := fun _ => .int .u64 (now)) rfl h2 (by kernel_rfl) m37.cel (i := 0) (by omega) (by omega) rfl) ?_
  refine Fx.St.v (.pointer (some ⟨pb (τ k), 0, none⟩)) (Fx.x_move rfl rfl) ?_
  refine Fx.St.v (.pointer (some ⟨pb (τ k), 0, none⟩)) (Fx.x_nil rfl rfl) ?_
  refine Fx.St.v (.pointer (some ⟨pb (τ k), 3, none⟩)) (Fx.x_field rfl rfl Try.underlying57 rfl (s := 1) (by kernel_rfl) rfl (by show _ + 3 = _; omega)) ?_
  refine Fx.St.v (.int .u64 ((V (τ k)).wait)) (Fx.x_load1 (x := wtc (V (τ k))) rfl rfl (by kernel_rfl) m39.cel (i := 3) (by omega) (by omega) rfl) ?_
  refine Fx.St.v (.int .u64 (now + ((V (τ k)).wait))) (Fx.x_add rfl rfl rfl (Fx.u64e (by omega) (by omega))) ?_
  refine Fx.St.v (.pointer (some ⟨pb (τ k), 0, none⟩)) (Fx.x_nil rfl rfl) ?_
  refine Fx.St.v (.pointer (some ⟨pb (τ k), 2, none⟩)) (Fx.x_field rfl rfl Try.underlying57 rfl (s := 1) (by kernel_rfl) rfl (by show _ + 2 = _; omega)) ?_
  refine Fx.St.nil ?_
  refine Fx.L.store1 (x := wtc (V (τ k))) (u := .int .u64 (now + ((V (τ k)).wait))) (by rfl) rfl rfl rfl rfl (by rfl) (by kernel_rfl) m39 (i := 2) (by omega) fun w6 m41 s5 z3 => ?_
  have m42 : Fx.Blk w6 (pb (τ k)) 4 (wtc ⟨(V (τ k)).node, (V (τ k)).amt, now + ((V (τ k)).wait), (V (τ k)).wait⟩) 57 := m41.to (wtc_at (V (τ k)) _)
  have hct2 := Fx.ChT.of_stp s5 m39.ty
  have m43 := m34.chT hct2 (by decide)
  have m44 := m35.chT hct2 trivial
  have m45 := m36.put s5 m42 hij hfj1
  have m46 : Fx.Fam w6 n pb 4 (fun i => wtc ((Fx.putI V (τ k) ⟨(V (τ k)).node, (V (τ k)).amt, now + ((V (τ k)).wait), (V (τ k)).wait⟩) i)) 57 := m45.to (fun i _ => putI_wtc V (τ k) ⟨(V (τ k)).node, (V (τ k)).amt, now + ((V (τ k)).wait), (V (τ k)).wait⟩ i)
  have m47 := m37.chT hct2 (by decide)
  have m48 := m38.chT hct2 (by decide)
  have m49 := m40.chT hct2 (by decide)
  have b7 := b6.then s5 (.inl (.inr ⟨(τ k), hfj1, rfl⟩))
  refine Fx.L.nil (Fx.seqN (Fx.W.list (Fx.L.v (.pointer (some ⟨pb (τ k), 0, none⟩)) (Fx.x_move rfl rfl) ?_)))
  refine Fx.L.v (.pointer (some ⟨pb (τ k), 0, none⟩)) (Fx.x_move rfl rfl) ?_
  refine Fx.L.v (.pointer (some ⟨pb (τ k), 0, none⟩)) (Fx.x_nil rfl rfl) ?_
  refine Fx.L.v (.pointer (some ⟨pb (τ k), 3, none⟩)) (Fx.x_field rfl rfl Try.underlying57 rfl (s := 1) (by kernel_rfl) rfl (by show _ + 3 = _; omega)) ?_
  refine Fx.L.v (.int .u64 ((V (τ k)).wait)) (Fx.x_load1 (x := wtc ⟨(V (τ k)).node, (V (τ k)).amt, now + ((V (τ k)).wait), (V (τ k)).wait⟩) rfl rfl (by kernel_rfl) m42.cel (i := 3) (by omega) (by omega) rfl) ?_
  refine Fx.L.v (.int .u64 (2 * ((V (τ k)).wait))) (Fx.x_mul rfl rfl rfl (Fx.u64e (by omega) (by omega))) ?_
  refine Fx.L.v (.int .u64 (mnZ (2 * ((V (τ k)).wait)) 16)) (Fx.x_min rfl rfl rfl) ?_
  refine Fx.L.v (.pointer (some ⟨pb (τ k), 0, none⟩)) (Fx.x_nil rfl rfl) ?_
  refine Fx.L.v (.pointer (some ⟨pb (τ k), 3, none⟩)) (Fx.x_field rfl rfl Try.underlying57 rfl (s := 1) (by kernel_rfl) rfl (by show _ + 3 = _; omega)) ?_
  refine Fx.L.store1 (x := wtc ⟨(V (τ k)).node, (V (τ k)).amt, now + ((V (τ k)).wait), (V (τ k)).wait⟩) (u := .int .u64 (mnZ (2 * ((V (τ k)).wait)) 16)) (by rfl) rfl rfl rfl rfl (by rfl) (by kernel_rfl) m42 (i := 3) (by omega) fun w7 m50 s6 z4 => ?_
  have m51 : Fx.Blk w7 (pb (τ k)) 4 (wtc ⟨(V (τ k)).node, (V (τ k)).amt, now + ((V (τ k)).wait), mnZ (2 * ((V (τ k)).wait)) 16⟩) 57 := m50.congr (wtc_wait (⟨(V (τ k)).node, (V (τ k)).amt, now + ((V (τ k)).wait), (V (τ k)).wait⟩) _)
  have hct3 := Fx.ChT.of_stp s6 m42.ty
  have m52 := m43.chT hct3 (by decide)
  have m53 := m44.chT hct3 trivial
  have m54 := m46.put s6 m51 hij hfj1
  have m55 : Fx.Fam w7 n pb 4 (fun i => wtc ((Fx.putI (Fx.putI V (τ k) ⟨(V (τ k)).node, (V (τ k)).amt, now + ((V (τ k)).wait), (V (τ k)).wait⟩) (τ k) ⟨(V (τ k)).node, (V (τ k)).amt, now + ((V (τ k)).wait), mnZ (2 * ((V (τ k)).wait)) 16⟩) i)) 57 := m54.to (fun i _ => putI_wtc (Fx.putI V (τ k) ⟨(V (τ k)).node, (V (τ k)).amt, now + ((V (τ k)).wait), (V (τ k)).wait⟩) (τ k) ⟨(V (τ k)).node, (V (τ k)).amt, now + ((V (τ k)).wait), mnZ (2 * ((V (τ k)).wait)) 16⟩ i)
  have m56 := m47.chT hct3 (by decide)
  have m57 := m48.chT hct3 (by decide)
  have m58 := m49.chT hct3 (by decide)
  have b8 := b7.then s6 (.inl (.inr ⟨(τ k), hfj1, rfl⟩))
  refine Fx.L.nil (Fx.blkN (Fx.seqN (Fx.W.list (Fx.L.v (.int .i64 ((k : Int) + 1)) (Fx.x_add rfl h6 rfl (Fx.i64e (by omega) (by omega))) ?_))))
  refine Fx.L.v (.int .i64 ((k : Int) + 1)) (Fx.x_move rfl rfl) ?_
  refine Fx.L.nil ?_
  have m59 : Fx.Own w7 w1.heap.size 55 1 (.slice a (m) (c)) m (fun q => .pointer (some ⟨pb (τ q), 0, none⟩)) := m57.congV (congrArg (fun q => Value.slice q m c) eq1.symm)
  skip
  refine Fx.lpN ⟨k + 1, (some ⟨g3, 0, none⟩), cap1, (Fx.putI (Fx.putI V (τ k) ⟨(V (τ k)).node, (V (τ k)).amt, now + ((V (τ k)).wait), (V (τ k)).wait⟩) (τ k) ⟨(V (τ k)).node, (V (τ k)).amt, now + ((V (τ k)).wait), mnZ (2 * ((V (τ k)).wait)) 16⟩), by omega, (due_v1 hth (by omega) hv1 (by rw [hVk]; rfl)), (due_v2 hv2), h1, h2, (by rfl), h4, (h5.trans (by first | rfl | exact congrArg (Value.int .i64) (by omega))), (by first | rfl | exact congrArg (Value.int .i64) (by omega)), m52, m53, m55, m56, m59, m58, b8⟩ ?_
  show (m - (intOf ((.int .i64 ((k : Int) + 1)))).toNat) < _
  simp only [h6, intOf]; omega
 ·refine Fx.L.v (.bool false) (Fx.x_lssF rfl h6 h5 c12) ?_
  refine Fx.L.nil (Fx.seqN (Fx.W.seq (Fx.W.cond (b := false) rfl (fun h => nomatch h) (fun _ => Fx.W.exit (Fx.seqX (Fx.lpX (Fx.blkX (Fx.seqN (Fx.W.seq (Fx.W.list (Fx.L.v (.slice a2 (k) (cap2)) (Fx.x_move rfl h3) ?_)))))))))))
  refine Fx.L.v (.slice a2 (k) (cap2)) (Fx.x_assign rfl rfl) ?_
  refine Fx.L.nil (Fx.seqN (Fx.W.ret (⟨.slice a2 (k) (cap2), Fx.retV1 Try.results10 (by exact rfl), ?_⟩)))
  obtain rfl : k = m := by omega
  have hVa := due_v hth hv1 hv2
  refine ⟨_, _, _, τ, rfl, m16, hth, ⟨m11, m12.cong (fun i _ => ⟨(dueW_node now (W i)).symm, rfl⟩), m13.to (fun i hi => by rw [hVa i hi]), hij, hge, hgp, hgm, hsm, fun i hi => (dueW_ok now _ (hok i hi) (hok2 i hi)).1, fun i hi => (dueW_ok now _ (hok i hi) (hok2 i hi)).2, fun i hi => dueW_ok3 now (hok3 i hi)⟩, b3⟩
theorem d_list (p mb n : Nat) (pb : Nat → Nat) (W : Nat → WtM) (B : Nat) (w : World) (h : DemO w B p mb n pb W) :
    Calls Try.prog 16 #[.pointer (some ⟨p, 0, none⟩)] w fun e w' => ∃ a m c τ, e = .returned (.slice a m c) ∧ Fx.Own w' w.heap.size 31 2 (.slice a m c) m (Fx.flat 2 fun q => wtc (W (τ q))) ∧ ThoseR n W (fun _ => True) m τ ∧ Below w.heap.size w w' := by
 refine Fx.enter Try.func16 rfl (n := 21) rfl (by rfl) ?_
 have hbk := h.blk
 have hmp := h.map
 have hfm := h.fam
 have hij := h.inj
 have hge := h.ge
 have hgp := h.gp
 have hgm := h.gm
 have hsm := h.small
 have hok := h.ok
 have hok2 := h.ok2
 have hok3 := h.ok3
 have tp := hbk.lt
 have tm := hmp.lt
 have hm32 : ∀ {m : Nat} {P : Nat → Prop} {τ : Nat → Nat}, ThoseR n W P m τ → m ≤ 32 := fun hth => Nat.le_trans (those_le hth) hsm
 refine Fx.W.seq (Fx.W.list (Fx.L.v (.slice none 0 0) (Fx.x_assign rfl rfl) ?_))
 refine Fx.L.nil (Fx.seqN (Fx.W.seq (Fx.W.seq (Fx.W.list (Fx.L.v (.pointer (some ⟨p, 0, none⟩)) (Fx.x_move rfl rfl) ?_)))))
 refine Fx.L.call (by rfl) (Fx.r_call (args := [.pointer (some ⟨p, 0, none⟩), .func (.func 20) #[] #[]]) rfl rfl Try.func18 rfl rfl) rfl ((d_those_list p mb n pb W B _ ⟨hbk, hmp, hfm, hij, hge, hgp, hgm, hsm, hok, hok2, hok3⟩).mono ?_)
 rintro e9 w1 ⟨a, m, c, τ, he, m1, hth, hbt⟩
 refine ⟨_, he, ?_⟩
 clear he
 have s1 := Fx.Stp.of_below hbt
 have m2 := hbk.stp s1 (Nat.ne_of_lt (hbk.lt))
 have m3 := hmp.up s1.old
 have m4 := hfm.up s1.old
 have b1 := s1.below (Below.refl w.heap.size w) (Below.refl w.heap.size w).size (Below.refl w.heap.size w).size
 refine Fx.L.v (.int .i64 ((m : Int))) (Fx.x_len rfl rfl rfl (by kernel_rfl)) ?_
 refine Fx.L.v (.int .i64 (0)) (Fx.x_move rfl rfl) ?_
 refine Fx.L.nil (Fx.seqN (Fx.W.block ?_))
 have m5 : Fx.Own w1 w.heap.size 31 2 (.slice none 0 0) 0 (Fx.flat 2 fun q => wtc (W (τ q))) := Fx.Own.nil _ _ _ _ _
 refine Fx.W.loop (fun f w_ => ∃ k : Nat, ∃ a2 : Option Addr, ∃ cap2 : Nat, k ≤ m ∧ f 0 = .pointer (some ⟨p, 0, none⟩) ∧ f 2 = .slice a2 (k) (cap2) ∧ f 6 = .slice a (m) (c) ∧ f 7 = .int .i64 ((m : Int)) ∧ f 8 = .int .i64 ((k : Int)) ∧ Fx.Blk w_ p 1 (fun _ => .map (some mb)) 54 ∧ Fx.Mp w_ mb n (fun i => (W i).node) (fun i => .pointer (some ⟨pb i, 0, none⟩)) ∧ Fx.Fam w_ n pb 4 (fun i => wtc (W i)) 57 ∧ Fx.Own w_ w.heap.size 55 1 (.slice a (m) (c)) m (fun q => .pointer (some ⟨pb (τ q), 0, none⟩)) ∧ Fx.Own w_ w.heap.size 31 2 (.slice a2 (k) (cap2)) k (Fx.flat 2 fun q => wtc (W (τ q))) ∧ Below w.heap.size w w_) (fun f _ => (m - (intOf (f 8)).toNat)) ⟨0, none, 0, by omega, (by rfl), (by rfl), (by rfl), (by first | rfl | exact congrArg (Value.int .i64) (by omega)), (by first | rfl | exact congrArg (Value.int .i64) (by omega)), m2, m3, m4, m1, m5, b1⟩ ?_
 rintro f1 w2 ⟨k, a2, cap2, hk, h1, h2, h3, h4, h5, m6, m7, m8, m9, m10, b2⟩
 refine Fx.W.seq (Fx.W.list ?_)
 by_cases c9 : (k : Int) < (m : Int)
 ·refine Fx.L.v (.bool true) (Fx.x_lssT rfl h5 h4 c9) ?_
  refine Fx.L.nil (Fx.seqN (Fx.W.seq (Fx.W.cond (b := true) rfl (fun _ => Fx.W.skip (Fx.seqN (Fx.W.seq (Fx.W.block (Fx.W.seq (Fx.W.list ?_)))))) (fun h => nomatch h))))
  obtain ⟨gq1, eq1⟩ := m9.addr (by omega)
  have m11 : Fx.Own w2 w.heap.size 55 1 (.slice (some ⟨gq1, 0, none⟩) m c) m (fun q => .pointer (some ⟨pb (τ q), 0, none⟩)) := m9.congV (congrArg (fun q => Value.slice q m c) eq1)
  refine Fx.L.v (.pointer (some ⟨gq1, k, none⟩)) (Fx.x_indexS rfl (h3.trans (congrArg (fun q => Value.slice q (m) (c)) eq1)) h5 Try.underlying58 (s := 1) (by kernel_rfl) (by omega) (by omega) (by omega)) ?_
  refine Fx.L.v (.pointer (some ⟨pb (τ k), 0, none⟩)) (Fx.x_load1 (x := fun q => .pointer (some ⟨pb (τ q), 0, none⟩)) rfl rfl (by kernel_rfl) m11.cel (i := k) (by omega) (by omega) rfl) ?_
  refine Fx.L.v (.pointer (some ⟨pb (τ k), 0, none⟩)) (Fx.x_assign rfl rfl) ?_
  refine Fx.L.nil (Fx.seqN ?_)
  have hm3 := hm32 hth
  refine Fx.W.list (Fx.L.v (.slice a2 (k) (cap2)) (Fx.x_move rfl h2) ?_)
  refine Fx.L.v (.pointer (some ⟨pb (τ k), 0, none⟩)) (Fx.x_move rfl rfl) ?_
  refine Fx.L.v (.pointer (some ⟨pb (τ k), 0, none⟩)) (Fx.x_nil rfl rfl) ?_
  refine Fx.L.v (.pointer (some ⟨pb (τ k), 0, none⟩)) (Fx.x_field rfl rfl Try.underlying57 rfl (s := 2) (by kernel_rfl) rfl rfl) ?_
  have hfj1 : (τ k) < n := hth.lt _ (by omega)
  have m12 := m8 (τ k) hfj1
  have gm12 := hge (τ k) hfj1
  refine Fx.L.v (.agg (Fx.varr 2 (fun j => (wtc (W (τ k))) (0 + j)))) (Fx.x_loadA (x := wtc (W (τ k))) (y := fun j => (wtc (W (τ k))) (0 + j)) rfl rfl (by kernel_rfl) (by kernel_rfl) m12.cel (i := 0) (by omega) (by omega) (fun _ _ => rfl)) ?_
  refine Fx.L.bslice (vs := [(0, .agg (Fx.varr 2 (fun j => (wtc (W (τ k))) (0 + j))))]) (s := 2) (zc := fun i => (#[.int .u64 (0), .int .i64 (0)] : Array Value).getD i undef) (y := Fx.ovr (fun j => (#[.int .u64 (0), .int .i64 (0)] : Array Value).getD (j % 2) undef) (0 * 2) 2 (fun j => (wtc (W (τ k))) (0 + j))) (by rfl) rfl rfl Try.underlying28 (by kernel_rfl) (by rfl) (by rfl) (by kernel_rfl) (by rw [Fx.fill_step (off := 0 * 2) (s := 2) (y := fun j => (wtc (W (τ k))) (0 + j)) rfl (Fx.cells_agg _ _) (by rfl)]; rfl) rfl fun g1 w3 eg1 m13 s2 z1 => ?_
  have m14 := m6.stp s2 (Nat.ne_of_lt (m6.lt))
  have m15 := m7.up s2.old
  have m16 := m8.up s2.old
  have m17 := m10.stp s2 (m10.notNew (Nat.le_refl _))
  have m18 := m11.stpB s2 (Nat.ne_of_lt (m11.lt))
  have m19 := m12.stp s2 (Nat.ne_of_lt (m12.lt))
  have b3 := s2.below b2 b2.size b2.size
  have lg1 : w.heap.size ≤ g1 := by rw [eg1]; exact b2.size
  have ng1m14 : p ≠ g1 := by rw [eg1]; exact Nat.ne_of_lt (m6.lt)
  have ng1m15 : mb ≠ g1 := by rw [eg1]; exact Nat.ne_of_lt (m7.lt)
  have ng1m17 : (.slice a2 (k) (cap2) : Value).ownBlock ≠ some g1 := by rw [eg1]; exact m10.notNew (Nat.le_refl _)
  have ng1m18 : gq1 ≠ g1 := by rw [eg1]; exact Nat.ne_of_lt (m11.lt)
  have ng1m19 : (pb (τ k)) ≠ g1 := by rw [eg1]; exact Nat.ne_of_lt (m12.lt)
  have tg1 : g1 < w3.heap.size := m13.lt
  clear eg1
  refine Fx.L.app (B := w.heap.size) (s := 2) (bytes := 16) (k := k) (m := 1) (v := .slice a2 (k) (cap2)) (x := Fx.flat 2 fun q => wtc (W (τ q))) (by rfl) rfl rfl rfl Try.underlying28 (by kernel_rfl) (by kernel_rfl) rfl rfl m17 m13.cel (fun j hj => by unfold Fx.ovr; rw [if_pos (by omega)]; rcases j with _|_|j <;> first | rfl | omega) (by omega) (by omega) (by omega) b3.size fun g2 cap1 w4 ho1 hg1 hgv1 hlt1 => ?_
  have hct1 := Fx.ChT.of_grown hg1 m17
  have m21 := m14.chT hct1 (by decide)
  have m22 := m15.chT hct1 (by decide)
  have m23 := m16.chT hct1 (by decide)
  have m24 := m18.chT hct1 (by decide)
  have m25 := m19.chT hct1 (by decide)
  have m20 : Fx.Own w4 w.heap.size 31 2 (.slice (some ⟨g2, 0, none⟩) (k + 1) cap1) (k + 1) (Fx.flat 2 fun q => wtc (W (τ q))) := (ho1.congr (due_app (V := W) rfl))
  have b4 : Below w.heap.size w w4 := Fx.Below.grow b3 hg1 b3.size (fun q hq => (m17.ge hq).1)
  refine Fx.L.v (.slice (some ⟨g2, 0, none⟩) (k + 1) (cap1)) (Fx.x_assign rfl rfl) ?_
  refine Fx.L.nil (Fx.blkN (Fx.seqN (Fx.W.list (Fx.L.v (.int .i64 ((k : Int) + 1)) (Fx.x_add rfl h5 rfl (Fx.i64e (by omega) (by omega))) ?_))))
  refine Fx.L.v (.int .i64 ((k : Int) + 1)) (Fx.x_move rfl rfl) ?_
  refine Fx.L.nil ?_
  have m26 : Fx.Own w4 w.heap.size 55 1 (.slice a (m) (c)) m (fun q => .pointer (some ⟨pb (τ q), 0, none⟩)) := m24.congV (congrArg (fun q => Value.slice q m c) eq1.symm)
  skip
  refine Fx.lpN ⟨k + 1, (some ⟨g2, 0, none⟩), cap1, by omega, h1, (by rfl), h3, (h4.trans (by first | rfl | exact congrArg (Value.int .i64) (by omega))), (by first | rfl | exact congrArg (Value.int .i64) (by omega)), m21, m22, m23, m26, m20, b4⟩ ?_
  show (m - (intOf ((.int .i64 ((k : Int) + 1)))).toNat) < _
  simp only [h5, intOf]; omega
 ·refine Fx.L.v (.bool false) (Fx.x_lssF rfl h5 h4 c9) ?_
  refine Fx.L.nil (Fx.seqN (Fx.W.seq (Fx.W.cond (b := false) rfl (fun h => nomatch h) (fun _ => Fx.W.exit (Fx.seqX (Fx.lpX (Fx.blkX (Fx.seqN (Fx.W.seq (Fx.W.list (Fx.L.v (.slice a2 (k) (cap2)) (Fx.x_move rfl h2) ?_)))))))))))
  refine Fx.L.v (.slice a2 (k) (cap2)) (Fx.x_assign rfl rfl) ?_
  refine Fx.L.nil (Fx.seqN (Fx.W.ret (⟨.slice a2 (k) (cap2), Fx.retV1 Try.results16 (by exact rfl), ?_⟩)))
  obtain rfl : k = m := by omega
  exact ⟨_, _, _, τ, rfl, m10, hth, b2⟩
theorem d_done (node : Int) (p mb n : Nat) (pb : Nat → Nat) (W : Nat → WtM) (B : Nat) (w : World) (h : DemO w B p mb n pb W) :
    Calls Try.prog 14 #[.pointer (some ⟨p, 0, none⟩), .int .u64 (node)] w fun e w' => ∃ b n' pb' W', e = .returned (.bool b) ∧ DoneR n W node b n' W' ∧ DemO w' B p mb n' pb' W' ∧ Fx.Chg (demS mb n pb) w w' := by
 refine Fx.enter Try.func14 rfl (n := 21) rfl (by rfl) ?_
 have hbk := h.blk
 have hmp := h.map
 have hfm := h.fam
 have hij := h.inj
 have hge := h.ge
 have hgp := h.gp
 have hgm := h.gm
 have hsm := h.small
 have hok := h.ok
 have hok2 := h.ok2
 have hok3 := h.ok3
 have tp := hbk.lt
 have tm := hmp.lt
 refine Fx.W.seq (Fx.W.list (Fx.L.v (.bool false) (Fx.x_assign rfl rfl) ?_))
 refine Fx.L.nil (Fx.seqN (Fx.W.seq (Fx.W.seq (Fx.W.list (Fx.L.v (.pointer (some ⟨p, 0, none⟩)) (Fx.x_move rfl rfl) ?_)))))
 refine Fx.L.v (.bool false) (Fx.x_eqNil rfl rfl rfl (by kernel_rfl)) ?_
 refine Fx.L.v (.bool false) (Fx.x_move rfl rfl) ?_
 refine Fx.L.v (.pointer (some ⟨p, 0, none⟩)) (Fx.x_move rfl rfl) ?_
 refine Fx.L.v (.pointer (some ⟨p, 0, none⟩)) (Fx.x_nil rfl rfl) ?_
 refine Fx.L.v (.pointer (some ⟨p, 0, none⟩)) (Fx.x_field rfl rfl Try.underlying54 rfl (s := 1) (by kernel_rfl) rfl rfl) ?_
 refine Fx.L.v (.map (some mb)) (Fx.x_load1 (x := fun _ => .map (some mb)) rfl rfl (by kernel_rfl) hbk.cel (i := 0) (by omega) (by omega) rfl) ?_
 refine Fx.L.v (.int .u64 (node)) (Fx.x_move rfl rfl) ?_
 rcases Fx.look_cases (fun i => (W i).node) n node with ⟨jlk1, hjlk1, ejlk1⟩ | hnlk1
 ·refine Fx.L.v (.pointer (some ⟨pb jlk1, 0, none⟩)) (Fx.x_lookY rfl rfl rfl hmp Try.underlying52 Try.underlying22 (by rfl) hjlk1 ejlk1 rfl) ?_
  refine Fx.L.v (.bool false) (Fx.x_eqNil rfl rfl rfl (by kernel_rfl)) ?_
  refine Fx.L.v (.bool false) (Fx.x_pickF rfl rfl rfl) ?_
  refine Fx.L.nil (Fx.seqN (Fx.W.cond (b := false) rfl (fun h => nomatch h) (fun _ => Fx.W.skip (Fx.seqN (Fx.W.seq (Fx.W.list (Fx.L.v (.pointer (some ⟨p, 0, none⟩)) (Fx.x_move rfl rfl) ?_)))))))
  refine Fx.L.v (.pointer (some ⟨p, 0, none⟩)) (Fx.x_nil rfl rfl) ?_
  refine Fx.L.v (.pointer (some ⟨p, 0, none⟩)) (Fx.x_field rfl rfl Try.underlying54 rfl (s := 1) (by kernel_rfl) rfl rfl) ?_
  refine Fx.L.v (.map (some mb)) (Fx.x_load1 (x := fun _ => .map (some mb)) rfl rfl (by kernel_rfl) hbk.cel (i := 0) (by omega) (by omega) rfl) ?_
  refine Fx.L.v (.int .u64 (node)) (Fx.x_move rfl rfl) ?_
  refine Fx.L.delY (by rfl) (by rfl) rfl rfl rfl rfl hmp Try.underlying52 Try.underlying22 hjlk1 ejlk1 fun w1 m1 s1 z1 => ?_
  have hcm1 := hmp.chm s1
  have m2 := hbk.chM hcm1
  have m3 := hfm.chM hcm1
  have b1 := (Fx.Chg.refl (demS mb n pb) w).then s1 (.inl (.inl rfl))
  have m4 : Fx.Mp w1 mb (n - 1) (fun i => (Fx.delI W jlk1 i).node) (fun i => .pointer (some ⟨Fx.delI pb jlk1 i, 0, none⟩)) := m1.cong (fun i _ => ⟨(delI_node W jlk1 i).symm, (delI_ptr pb jlk1 i).symm⟩)
  refine Fx.L.nil (Fx.seqN (Fx.W.seq (Fx.W.list (Fx.L.v (.bool true) (Fx.x_assign rfl rfl) ?_))))
  refine Fx.L.nil (Fx.seqN (Fx.W.ret (⟨.bool true, Fx.retV1 Try.results14 (by exact rfl), ?_⟩)))
  exact ⟨_, n - 1, Fx.delI pb jlk1, Fx.delI W jlk1, rfl, .yes jlk1 hjlk1 ejlk1, ⟨m2, m4, (m3.del jlk1 hjlk1).to (fun i _ => delI_wtc W jlk1 i), delI_inj hij, delI_all hge, hgp, hgm, by omega, delI_all (p := fun u : WtM => 1 ≤ u.wait) hok, delI_all (p := fun u : WtM => u.wait ≤ 16) hok2, delI_all (p := WtOk) hok3⟩, b1⟩
 ·refine Fx.L.v (.pointer none) (Fx.x_lookN rfl rfl rfl hmp Try.underlying52 Try.underlying22 (by rfl) hnlk1) ?_
  refine Fx.L.v (.bool true) (Fx.x_eqNil' rfl rfl rfl (by kernel_rfl)) ?_
  refine Fx.L.v (.bool true) (Fx.x_pickF rfl rfl rfl) ?_
  refine Fx.L.nil (Fx.seqN (Fx.W.cond (b := true) rfl (fun _ => Fx.W.seq (Fx.W.list (Fx.L.v (.bool false) (Fx.x_assign rfl rfl) ?_))) (fun h => nomatch h)))
  refine Fx.L.nil (Fx.seqN (Fx.W.ret (Fx.seqR (⟨.bool false, Fx.retV1 Try.results14 (by exact rfl), ?_⟩))))
  exact ⟨_, n, pb, W, rfl, .no hnlk1, h, (Fx.Chg.refl (demS mb n pb) w)⟩
end Go.Proofs.Ytjnkejgjgknllaa
namespace Go.Proofs.Ytjnkejgjgknllaa
open Go.RowKit Rt
namespace Rt
theorem put_first {W W' : Nat → WtM} {node x now c : Int} {n' : Nat} (h : PutR 0 W node x now c n' W') (hb : ¬ putBad node x now) : c = 0 ∧ n' = 1 ∧ W' 0 = ⟨node, x, now, 1⟩ := by
  cases h with
  | arg h => exact absurd h hb
  | had j _ hj => omega
  | full _ _ hf => omega
  | new => exact ⟨rfl, rfl, by unfold Fx.putI; rw [if_pos rfl]⟩
theorem put_second {W W' : Nat → WtM} {node x now c : Int} {n' : Nat} (h : PutR 1 W node x now c n' W') (hb : ¬ putBad node x now) (hne : (W 0).node ≠ node) : c = 0 ∧ n' = 2 ∧ W' 0 = W 0 ∧ W' 1 = ⟨node, x, now, 1⟩ := by
  cases h with
  | arg h => exact absurd h hb
  | had j _ hj e => obtain rfl : j = 0 := by omega
                    exact absurd e hne
  | full _ _ hf => omega
  | new => exact ⟨rfl, rfl, by unfold Fx.putI; rw [if_neg (by omega)], by unfold Fx.putI; rw [if_pos rfl]⟩
theorem those_one {m : Nat} {W : Nat → WtM} {P : Nat → Prop} {τ : Nat → Nat} (h : ThoseR 1 W P m τ) (hp : P 0) : m = 1 := by
  obtain ⟨q, hq, _⟩ := h.mem 0 (by omega) hp
  have := those_le h
  omega
theorem those_no {m : Nat} {W : Nat → WtM} {P : Nat → Prop} {τ : Nat → Nat} (h : ThoseR 1 W P m τ) (hp : ¬ P 0) : m = 0 := by
  rcases Nat.eq_zero_or_pos m with h0 | h0
  · exact h0
  · have h1 := h.yes 0 h0
    have h2 := h.lt 0 h0
    rw [show τ 0 = 0 by omega] at h1
    exact absurd h1 hp
theorem done_one {W W' : Nat → WtM} {node : Int} {b : Bool} {n' : Nat} (h : DoneR 1 W node b n' W') (e : (W 0).node = node) : b = true ∧ n' = 0 := by
  cases h with
  | no hn => exact absurd e (hn 0 (by omega))
  | yes => exact ⟨rfl, rfl⟩
theorem done_none {W W' : Nat → WtM} {node : Int} {b : Bool} {n' : Nat} (h : DoneR 0 W node b n' W') : b = false ∧ n' = 0 := by
  cases h with
  | no hn => exact ⟨rfl, rfl⟩
  | yes j hj => omega
end Rt
theorem works18_any (w : World) :
    Calls Try.prog 7 #[] w fun e w' => e = .returned (.bool true) ∧ Below w.heap.size w w' := by
 refine Fx.enter Try.func7 rfl (n := 64) rfl (by rfl) ?_
 refine Fx.W.seq (Fx.W.list (Fx.L.v (.bool false) (Fx.x_assign rfl rfl) ?_))
 refine Fx.L.nil (Fx.seqN (Fx.W.seq (Fx.W.list (Fx.L.call (by rfl) (Fx.r_call (args := []) rfl rfl Try.func8 rfl rfl) rfl ((d_new _ (fun _ => 0) (fun _ => ⟨0, 0, 0, 0⟩)).mono ?_)))))
 rintro e9 w1 ⟨p, mb, he, hb1, hd1⟩
 refine ⟨_, he, ?_⟩
 clear he
 have b1 := hb1
 refine Fx.L.v (.pointer (some ⟨p, 0, none⟩)) (Fx.x_assign rfl rfl) ?_
 refine Fx.L.nil (Fx.seqN (Fx.W.seq (Fx.W.list (Fx.L.v (.pointer (some ⟨p, 0, none⟩)) (Fx.x_move rfl rfl) ?_))))
 refine Fx.L.call (by rfl) (Fx.r_call (args := [.pointer (some ⟨p, 0, none⟩), .int .u64 (5), .int .i64 (3), .int .u64 (10)]) rfl rfl Try.func9 rfl rfl) rfl ((d_put 5 3 10 (by omega) (by omega) p mb _ _ _ _ _ hd1 b1.size).mono ?_)
 rintro e9 w2 ⟨cc1, he, hc1, nn1, pb1, W1, hr1, hd2⟩
 obtain ⟨rfl, rfl, hW1⟩ := put_first hr1 (by unfold putBad; omega)
 refine ⟨_, he, ?_⟩
 clear he
 have hbl1 := hd1.below b1.size hc1
 have b2 := b1.trans hbl1
 refine Fx.L.v (.int .i64 (0)) (Fx.x_assign rfl rfl) ?_
 refine Fx.L.nil (Fx.seqN (Fx.W.seq (Fx.W.list (Fx.L.v (.pointer (some ⟨p, 0, none⟩)) (Fx.x_move rfl rfl) ?_))))
 refine Fx.L.call (by rfl) (Fx.r_call (args := [.pointer (some ⟨p, 0, none⟩), .int .u64 (10)]) rfl rfl Try.func10 rfl rfl) rfl ((d_due 10 p mb _ _ _ _ _ hd2 (by omega) (by omega)).mono ?_)
 rintro e9 w3 ⟨a1, mm1, c1, τ1, he, ho1, ht1, hd3, hc2⟩
 obtain rfl : mm1 = 1 := those_one ht1 (by show (W1 0).at_ ≤ 10; rw [hW1]; show ((10 : Int) ≤ 10); decide)
 refine ⟨_, he, ?_⟩
 clear he ho1 ht1
 obtain ⟨W2, eW1⟩ : ∃ V : Nat → WtM, V = fun i => dueW 10 (W1 i) := ⟨_, rfl⟩
 rw [← eW1] at hd3
 have hW2 : W2 0 = ⟨5, 3, 11, 2⟩ := by rw [eW1]; show dueW 10 (W1 0) = _; rw [hW1]; rfl
 have hbl2 := hd2.below b2.size hc2
 have b3 := b2.trans hbl2
 refine Fx.L.v (.int .i64 (1)) (Fx.x_len rfl rfl rfl (by kernel_rfl)) ?_
 refine Fx.L.v (.pointer (some ⟨p, 0, none⟩)) (Fx.x_move rfl rfl) ?_
 refine Fx.L.call (by rfl) (Fx.r_call (args := [.pointer (some ⟨p, 0, none⟩), .int .u64 (10)]) rfl rfl Try.func10 rfl rfl) rfl ((d_due 10 p mb _ _ _ _ _ hd3 (by omega) (by omega)).mono ?_)
 rintro e9 w4 ⟨a2, mm2, c2, τ2, he, ho2, ht2, hd4, hc3⟩
 obtain rfl : mm2 = 0 := those_no ht2 (by show ¬ (W2 0).at_ ≤ 10; rw [hW2]; show ¬ ((11 : Int) ≤ 10); decide)
 refine ⟨_, he, ?_⟩
 clear he ho2 ht2
 obtain ⟨W3, eW2⟩ : ∃ V : Nat → WtM, V = fun i => dueW 10 (W2 i) := ⟨_, rfl⟩
 rw [← eW2] at hd4
 have hW3 : W3 0 = ⟨5, 3, 11, 2⟩ := by rw [eW2]; show dueW 10 (W2 0) = _; rw [hW2]; rfl
 have hbl3 := hd3.below b3.size hc3
 have b4 := b3.trans hbl3
 refine Fx.L.v (.int .i64 (0)) (Fx.x_len rfl rfl rfl (by kernel_rfl)) ?_
 refine Fx.L.v (.pointer (some ⟨p, 0, none⟩)) (Fx.x_move rfl rfl) ?_
 refine Fx.L.call (by rfl) (Fx.r_call (args := [.pointer (some ⟨p, 0, none⟩), .int .u64 (11)]) rfl rfl Try.func10 rfl rfl) rfl ((d_due 11 p mb _ _ _ _ _ hd4 (by omega) (by omega)).mono ?_)
 rintro e9 w5 ⟨a3, mm3, c3, τ3, he, ho3, ht3, hd5, hc4⟩
 obtain rfl : mm3 = 1 := those_one ht3 (by show (W3 0).at_ ≤ 11; rw [hW3]; show ((11 : Int) ≤ 11); decide)
 refine ⟨_, he, ?_⟩
 clear he ho3 ht3
 obtain ⟨W4, eW3⟩ : ∃ V : Nat → WtM, V = fun i => dueW 11 (W3 i) := ⟨_, rfl⟩
 rw [← eW3] at hd5
 have hW4 : W4 0 = ⟨5, 3, 13, 4⟩ := by rw [eW3]; show dueW 11 (W3 0) = _; rw [hW3]; rfl
 have hbl4 := hd4.below b4.size hc4
 have b5 := b4.trans hbl4
 refine Fx.L.v (.int .i64 (1)) (Fx.x_len rfl rfl rfl (by kernel_rfl)) ?_
 refine Fx.L.v (.pointer (some ⟨p, 0, none⟩)) (Fx.x_move rfl rfl) ?_
 refine Fx.L.call (by rfl) (Fx.r_call (args := [.pointer (some ⟨p, 0, none⟩), .int .u64 (12)]) rfl rfl Try.func10 rfl rfl) rfl ((d_due 12 p mb _ _ _ _ _ hd5 (by omega) (by omega)).mono ?_)
 rintro e9 w6 ⟨a4, mm4, c4, τ4, he, ho4, ht4, hd6, hc5⟩
 obtain rfl : mm4 = 0 := those_no ht4 (by show ¬ (W4 0).at_ ≤ 12; rw [hW4]; show ¬ ((13 : Int) ≤ 12); decide)
 refine ⟨_, he, ?_⟩
 clear he ho4 ht4
 obtain ⟨W5, eW4⟩ : ∃ V : Nat → WtM, V = fun i => dueW 12 (W4 i) := ⟨_, rfl⟩
 rw [← eW4] at hd6
 have hW5 : W5 0 = ⟨5, 3, 13, 4⟩ := by rw [eW4]; show dueW 12 (W4 0) = _; rw [hW4]; rfl
 have hbl5 := hd5.below b5.size hc5
 have b6 := b5.trans hbl5
 refine Fx.L.v (.int .i64 (0)) (Fx.x_len rfl rfl rfl (by kernel_rfl)) ?_
 refine Fx.L.v (.pointer (some ⟨p, 0, none⟩)) (Fx.x_move rfl rfl) ?_
 refine Fx.L.call (by rfl) (Fx.r_call (args := [.pointer (some ⟨p, 0, none⟩), .int .u64 (13)]) rfl rfl Try.func10 rfl rfl) rfl ((d_due 13 p mb _ _ _ _ _ hd6 (by omega) (by omega)).mono ?_)
 rintro e9 w7 ⟨a5, mm5, c5, τ5, he, ho5, ht5, hd7, hc6⟩
 obtain rfl : mm5 = 1 := those_one ht5 (by show (W5 0).at_ ≤ 13; rw [hW5]; show ((13 : Int) ≤ 13); decide)
 refine ⟨_, he, ?_⟩
 clear he ho5 ht5
 obtain ⟨W6, eW5⟩ : ∃ V : Nat → WtM, V = fun i => dueW 13 (W5 i) := ⟨_, rfl⟩
 rw [← eW5] at hd7
 have hW6 : W6 0 = ⟨5, 3, 17, 8⟩ := by rw [eW5]; show dueW 13 (W5 0) = _; rw [hW5]; rfl
 have hbl6 := hd6.below b6.size hc6
 have b7 := b6.trans hbl6
 refine Fx.L.v (.int .i64 (1)) (Fx.x_len rfl rfl rfl (by kernel_rfl)) ?_
 refine Fx.L.bslice (vs := [(0, .int .i64 (1)), (1, .int .i64 (0)), (2, .int .i64 (1)), (3, .int .i64 (0)), (4, .int .i64 (1))]) (s := 1) (zc := Fx.rv .i64 (fun _ => 0)) (y := Fx.ovr (Fx.ovr (Fx.ovr (Fx.ovr (Fx.ovr (fun j => (Fx.rv .i64 (fun _ => 0)) (j % 1)) (0 * 1) 1 (fun _ => .int .i64 (1))) (1 * 1) 1 (fun _ => .int .i64 (0))) (2 * 1) 1 (fun _ => .int .i64 (1))) (3 * 1) 1 (fun _ => .int .i64 (0))) (4 * 1) 1 (fun _ => .int .i64 (1))) (by rfl) rfl rfl Try.underlying51 (by kernel_rfl) (by rfl) (by rfl) (by kernel_rfl) (by rw [Fx.fill_step (off := 0 * 1) (s := 1) (y := fun _ => .int .i64 (1)) rfl (Fx.cells_one (by rfl)) (by rfl)]; rw [Fx.fill_step (off := 1 * 1) (s := 1) (y := fun _ => .int .i64 (0)) rfl (Fx.cells_one (by rfl)) (by rfl)]; rw [Fx.fill_step (off := 2 * 1) (s := 1) (y := fun _ => .int .i64 (1)) rfl (Fx.cells_one (by rfl)) (by rfl)]; rw [Fx.fill_step (off := 3 * 1) (s := 1) (y := fun _ => .int .i64 (0)) rfl (Fx.cells_one (by rfl)) (by rfl)]; rw [Fx.fill_step (off := 4 * 1) (s := 1) (y := fun _ => .int .i64 (1)) rfl (Fx.cells_one (by rfl)) (by rfl)]; rfl) rfl fun g1 w8 eg1 m1 s1 z1 => ?_
 have m2 := hd7.up s1.old
 have b8 := s1.below b7 b7.size b7.size
 have lg1 : w.heap.size ≤ g1 := by rw [eg1]; exact b7.size
 have tg1 : g1 < w8.heap.size := m1.lt
 clear eg1
 refine Fx.L.v (.slice (some ⟨g1, 0, none⟩) (5) (5)) (Fx.x_assign rfl rfl) ?_
 refine Fx.L.nil (Fx.seqN (Fx.W.seq (Fx.W.list (Fx.L.v (.int .i64 (0)) (Fx.x_move rfl rfl) ?_))))
 refine Fx.L.v (.bool true) (Fx.x_eqlT rfl rfl rfl (by omega)) ?_
 refine Fx.L.v (.bool true) (Fx.x_move rfl rfl) ?_
 refine Fx.L.v (.slice (some ⟨g1, 0, none⟩) (5) (5)) (Fx.x_move rfl rfl) ?_
 refine Fx.L.v (.pointer (some ⟨g1, 0, none⟩)) (Fx.x_indexS rfl rfl rfl Try.underlying51 (s := 1) (by kernel_rfl) (by omega) (by omega) (by omega)) ?_
 refine Fx.L.v (.int .i64 (1)) (Fx.x_load1 (x := Fx.ovr (Fx.ovr (Fx.ovr (Fx.ovr (Fx.ovr (fun j => (Fx.rv .i64 (fun _ => 0)) (j % 1)) (0 * 1) 1 (fun _ => .int .i64 (1))) (1 * 1) 1 (fun _ => .int .i64 (0))) (2 * 1) 1 (fun _ => .int .i64 (1))) (3 * 1) 1 (fun _ => .int .i64 (0))) (4 * 1) 1 (fun _ => .int .i64 (1))) rfl rfl (by kernel_rfl) m1.cel (i := 0) (by omega) (by omega) (Fx.ovr_out (by omega) (Fx.ovr_out (by omega) (Fx.ovr_out (by omega) (Fx.ovr_out (by omega) (Fx.ovr_in (j := 0) (by omega) (by omega) rfl)))))) ?_
 refine Fx.L.v (.bool true) (Fx.x_eqlT rfl rfl rfl (by omega)) ?_
 refine Fx.L.v (.bool true) (Fx.x_pickT rfl rfl rfl) ?_
 refine Fx.L.v (.bool true) (Fx.x_move rfl rfl) ?_
 refine Fx.L.v (.slice (some ⟨g1, 0, none⟩) (5) (5)) (Fx.x_move rfl rfl) ?_
 refine Fx.L.v (.pointer (some ⟨g1, 1, none⟩)) (Fx.x_indexS rfl rfl rfl Try.underlying51 (s := 1) (by kernel_rfl) (by omega) (by omega) (by omega)) ?_
 refine Fx.L.v (.int .i64 (0)) (Fx.x_load1 (x := Fx.ovr (Fx.ovr (Fx.ovr (Fx.ovr (Fx.ovr (fun j => (Fx.rv .i64 (fun _ => 0)) (j % 1)) (0 * 1) 1 (fun _ => .int .i64 (1))) (1 * 1) 1 (fun _ => .int .i64 (0))) (2 * 1) 1 (fun _ => .int .i64 (1))) (3 * 1) 1 (fun _ => .int .i64 (0))) (4 * 1) 1 (fun _ => .int .i64 (1))) rfl rfl (by kernel_rfl) m1.cel (i := 1) (by omega) (by omega) (Fx.ovr_out (by omega) (Fx.ovr_out (by omega) (Fx.ovr_out (by omega) (Fx.ovr_in (j := 0) (by omega) (by omega) rfl))))) ?_
 refine Fx.L.v (.bool true) (Fx.x_eqlT rfl rfl rfl (by omega)) ?_
 refine Fx.L.v (.bool true) (Fx.x_pickT rfl rfl rfl) ?_
 refine Fx.L.v (.bool true) (Fx.x_move rfl rfl) ?_
 refine Fx.L.v (.slice (some ⟨g1, 0, none⟩) (5) (5)) (Fx.x_move rfl rfl) ?_
 refine Fx.L.v (.pointer (some ⟨g1, 2, none⟩)) (Fx.x_indexS rfl rfl rfl Try.underlying51 (s := 1) (by kernel_rfl) (by omega) (by omega) (by omega)) ?_
 refine Fx.L.v (.int .i64 (1)) (Fx.x_load1 (x := Fx.ovr (Fx.ovr (Fx.ovr (Fx.ovr (Fx.ovr (fun j => (Fx.rv .i64 (fun _ => 0)) (j % 1)) (0 * 1) 1 (fun _ => .int .i64 (1))) (1 * 1) 1 (fun _ => .int .i64 (0))) (2 * 1) 1 (fun _ => .int .i64 (1))) (3 * 1) 1 (fun _ => .int .i64 (0))) (4 * 1) 1 (fun _ => .int .i64 (1))) rfl rfl (by kernel_rfl) m1.cel (i := 2) (by omega) (by omega) (Fx.ovr_out (by omega) (Fx.ovr_out (by omega) (Fx.ovr_in (j := 0) (by omega) (by omega) rfl)))) ?_
 refine Fx.L.v (.bool true) (Fx.x_eqlT rfl rfl rfl (by omega)) ?_
 refine Fx.L.v (.bool true) (Fx.x_pickT rfl rfl rfl) ?_
 refine Fx.L.v (.bool true) (Fx.x_move rfl rfl) ?_
 refine Fx.L.v (.slice (some ⟨g1, 0, none⟩) (5) (5)) (Fx.x_move rfl rfl) ?_
 refine Fx.L.v (.pointer (some ⟨g1, 3, none⟩)) (Fx.x_indexS rfl rfl rfl Try.underlying51 (s := 1) (by kernel_rfl) (by omega) (by omega) (by omega)) ?_
 refine Fx.L.v (.int .i64 (0)) (Fx.x_load1 (x := Fx.ovr (Fx.ovr (Fx.ovr (Fx.ovr (Fx.ovr (fun j => (Fx.rv .i64 (fun _ => 0)) (j % 1)) (0 * 1) 1 (fun _ => .int .i64 (1))) (1 * 1) 1 (fun _ => .int .i64 (0))) (2 * 1) 1 (fun _ => .int .i64 (1))) (3 * 1) 1 (fun _ => .int .i64 (0))) (4 * 1) 1 (fun _ => .int .i64 (1))) rfl rfl (by kernel_rfl) m1.cel (i := 3) (by omega) (by omega) (Fx.ovr_out (by omega) (Fx.ovr_in (j := 0) (by omega) (by omega) rfl))) ?_
 refine Fx.L.v (.bool true) (Fx.x_eqlT rfl rfl rfl (by omega)) ?_
 refine Fx.L.v (.bool true) (Fx.x_pickT rfl rfl rfl) ?_
 refine Fx.L.v (.bool true) (Fx.x_move rfl rfl) ?_
 refine Fx.L.v (.slice (some ⟨g1, 0, none⟩) (5) (5)) (Fx.x_move rfl rfl) ?_
 refine Fx.L.v (.pointer (some ⟨g1, 4, none⟩)) (Fx.x_indexS rfl rfl rfl Try.underlying51 (s := 1) (by kernel_rfl) (by omega) (by omega) (by omega)) ?_
 refine Fx.L.v (.int .i64 (1)) (Fx.x_load1 (x := Fx.ovr (Fx.ovr (Fx.ovr (Fx.ovr (Fx.ovr (fun j => (Fx.rv .i64 (fun _ => 0)) (j % 1)) (0 * 1) 1 (fun _ => .int .i64 (1))) (1 * 1) 1 (fun _ => .int .i64 (0))) (2 * 1) 1 (fun _ => .int .i64 (1))) (3 * 1) 1 (fun _ => .int .i64 (0))) (4 * 1) 1 (fun _ => .int .i64 (1))) rfl rfl (by kernel_rfl) m1.cel (i := 4) (by omega) (by omega) (Fx.ovr_in (j := 0) (by omega) (by omega) rfl)) ?_
 refine Fx.L.v (.bool true) (Fx.x_eqlT rfl rfl rfl (by omega)) ?_
 refine Fx.L.v (.bool true) (Fx.x_pickT rfl rfl rfl) ?_
 refine Fx.L.v (.bool true) (Fx.x_move rfl rfl) ?_
 refine Fx.L.v (.pointer (some ⟨p, 0, none⟩)) (Fx.x_move rfl rfl) ?_
 refine Fx.L.call (by rfl) (Fx.r_call (args := [.pointer (some ⟨p, 0, none⟩), .int .u64 (5)]) rfl rfl Try.func14 rfl rfl) rfl ((d_done 5 p mb _ _ _ _ _ m2).mono ?_)
 rintro e9 w9 ⟨bb1, nn2, pb2, W7, he, hr2, hd8, hc7⟩
 obtain ⟨rfl, rfl⟩ := done_one hr2 (by rw [hW6])
 refine ⟨_, he, ?_⟩
 clear he
 have hbl7 := m2.below b8.size hc7
 have hx7 := m2.chx hc7
 have m3 := m1.chX hx7 rfl
 have b9 := b8.trans hbl7
 refine Fx.L.v (.bool true) (Fx.x_pickT rfl rfl rfl) ?_
 refine Fx.L.v (.bool true) (Fx.x_move rfl rfl) ?_
 refine Fx.L.v (.pointer (some ⟨p, 0, none⟩)) (Fx.x_move rfl rfl) ?_
 refine Fx.L.call (by rfl) (Fx.r_call (args := [.pointer (some ⟨p, 0, none⟩), .int .u64 (5)]) rfl rfl Try.func14 rfl rfl) rfl ((d_done 5 p mb _ _ _ _ _ hd8).mono ?_)
 rintro e9 w10 ⟨bb2, nn3, pb3, W8, he, hr3, hd9, hc8⟩
 obtain ⟨rfl, rfl⟩ := done_none hr3
 refine ⟨_, he, ?_⟩
 clear he
 have hbl8 := hd8.below b9.size hc8
 have hx8 := hd8.chx hc8
 have m4 := m3.chX hx8 rfl
 have b10 := b9.trans hbl8
 refine Fx.L.v (.bool true) (Fx.x_notT rfl rfl) ?_
 refine Fx.L.v (.bool true) (Fx.x_pickT rfl rfl rfl) ?_
 refine Fx.L.v (.bool true) (Fx.x_assign rfl rfl) ?_
 refine Fx.L.nil (Fx.seqN (Fx.W.ret (⟨.bool true, Fx.retV1 Try.results7 (by exact rfl), ?_⟩)))
 exact ⟨rfl, b10⟩
end Go.Proofs.Ytjnkejgjgknllaa
namespace Go.Proofs.Ytjnkejgjgknllaa
open Go.RowKit Rt
namespace Rt
structure TmS (n : Nat) (W : Nat → WtM) (next wait i other : Int) : Prop where
  lo : 0 < n
  hi : n ≤ 2
  w0 : W 0 = ⟨7, 5, next, wait⟩
  w1 : n = 2 → (W 1).node = 3
  one : i ≤ other → n = 1
theorem TmS.to {n : Nat} {W : Nat → WtM} {next wait i j other next' wait' : Int} (h : TmS n W next wait i other) (hj : i = j) (e1 : next = next') (e2 : wait = wait') : TmS n W next' wait' j other := by subst hj e1 e2; exact h
theorem TmS.put {W W' : Nat → WtM} {next wait i other c t : Int} {n n' : Nat} (h : TmS n W next wait i other) (hi : i = other) (hp : PutR n W 3 1 t c n' W') (h1 : 0 ≤ t) (h2 : t ≤ 4611686018427387904) : c = 0 ∧ TmS n' W' next wait (i + 1) other := by
  have e := h.one (by omega)
  subst e
  obtain ⟨e1, e2, e3, e4⟩ := put_second hp (by unfold putBad; omega) (by rw [h.w0]; show (7 : Int) ≠ 3; omega)
  subst e1 e2
  exact ⟨rfl, by omega, by omega, by rw [e3]; exact h.w0, fun _ => by rw [e4], fun e => by omega⟩
end Rt
end Go.Proofs.Ytjnkejgjgknllaa
namespace Go.Proofs.Ytjnkejgjgknllaa
open Go.RowKit Rt
namespace Rt
structure MoR (n : Nat) (W : Nat → WtM) (wn : Nat → Int) : Prop where
  lo : ∀ i, i < n → 1 ≤ (W i).node
  hi : ∀ i, i < n → (W i).node ≤ 8
  amt : ∀ (i k : Nat), i < n → (W i).node = (k : Int) → wn k = (W i).amt
  has : ∀ k : Nat, wn k ≠ 0 → ∃ i, i < n ∧ (W i).node = (k : Int)
  dist : ∀ i j, i < n → j < n → (W i).node = (W j).node → i = j
  pos : ∀ i, i < n → 1 ≤ (W i).amt
theorem MoR.start (W : Nat → WtM) : MoR 0 W (fun _ => 0) :=
  ⟨fun _ h => absurd h (Nat.not_lt_zero _), fun _ h => absurd h (Nat.not_lt_zero _), fun _ _ h => absurd h (Nat.not_lt_zero _), fun _ h => absurd rfl h, fun _ _ h => absurd h (Nat.not_lt_zero _), fun _ h => absurd h (Nat.not_lt_zero _)⟩
section
variable {n n' : Nat} {W W' : Nat → WtM} {wn : Nat → Int}
theorem MoR.len (h : MoR n W wn) : n ≤ 8 := by
  have h1 : ((List.range n).map fun i => (W i).node.toNat).Nodup := by
    rw [List.Nodup, List.pairwise_iff_getElem]
    intro i j hi hj hij
    simp only [List.getElem_map, List.getElem_range]
    simp only [List.length_map, List.length_range] at hi hj
    intro e
    have a1 := h.lo i hi
    have a2 := h.lo j hj
    exact absurd (h.dist i j hi hj (by omega)) (by omega)
  have h2 : ((List.range n).map fun i => (W i).node.toNat) ⊆ [1, 2, 3, 4, 5, 6, 7, 8] := fun x hx => by
    simp only [List.mem_map, List.mem_range] at hx
    obtain ⟨q, hq, rfl⟩ := hx
    have a1 := h.lo q hq
    have a2 := h.hi q hq
    have : (W q).node.toNat = 1 ∨ (W q).node.toNat = 2 ∨ (W q).node.toNat = 3 ∨ (W q).node.toNat = 4 ∨ (W q).node.toNat = 5 ∨ (W q).node.toNat = 6 ∨ (W q).node.toNat = 7 ∨ (W q).node.toNat = 8 := by omega
    simpa using this
  have h3 := nodup_len h1 h2
  simpa using h3
theorem delI_at {α : Type} (f : Nat → α) {i j : Nat} (ne : i ≠ j) : ∃ i', Fx.delI f j i' = f i ∧ (i < n → j < n → i' < n - 1) := by
  by_cases h : i < j
  · exact ⟨i, by unfold Fx.delI; rw [if_pos h], fun _ _ => by omega⟩
  · exact ⟨i - 1, by unfold Fx.delI; rw [if_neg (by omega), show i - 1 + 1 = i by omega], fun _ _ => by omega⟩
theorem delI_from {α : Type} (f : Nat → α) {j : Nat} : ∀ i, i < n - 1 → ∃ q, q < n ∧ q ≠ j ∧ Fx.delI f j i = f q ∧ q = if i < j then i else i + 1 := fun i hi => by
  unfold Fx.delI
  by_cases h : i < j
  · exact ⟨i, by omega, by omega, by rw [if_pos h], by rw [if_pos h]⟩
  · exact ⟨i + 1, by omega, by omega, by rw [if_neg h], by rw [if_neg h]⟩
theorem MoR.done {d : Nat} {b : Bool} (h : MoR n W wn) (hd : DoneR n W (d : Int) b n' W') : b = decide (0 < wn d) ∧ MoR n' W' (upd wn d 0) := by
  cases hd with
  | no hn =>
    have h0 : wn d = 0 := Classical.byContradiction fun e => by
      obtain ⟨i, hi, e2⟩ := h.has d e
      exact hn i hi e2
    refine ⟨by rw [h0]; rfl, h.lo, h.hi, fun i k hi e => ?_, fun k hk => ?_, h.dist, h.pos⟩
    · have ne : k ≠ d := fun e2 => hn i hi (by rw [e, e2])
      rw [upd_other _ _ _ _ ne]; exact h.amt i k hi e
    · by_cases e : k = d
      · subst e; exact absurd (upd_same _ _ _) hk
      · rw [upd_other _ _ _ _ e] at hk; exact h.has k hk
  | yes j hj e =>
    have h1 := h.amt j d hj e
    have h2 := h.pos j hj
    refine ⟨by rw [decide_eq_true (by omega)], delI_all (p := fun u : WtM => 1 ≤ u.node) h.lo, delI_all (p := fun u : WtM => u.node ≤ 8) h.hi, fun i k hi e2 => ?_, fun k hk => ?_, fun i k hi hk e2 => ?_, delI_all (p := fun u : WtM => 1 ≤ u.amt) h.pos⟩
    · obtain ⟨q, hq, ne, e3, _⟩ := delI_from W (j := j) i hi
      rw [e3] at e2 ⊢
      have ne2 : k ≠ d := fun e4 => ne (h.dist q j hq hj (by rw [e2, e, e4]))
      rw [upd_other _ _ _ _ ne2]; exact h.amt q k hq e2
    · have ne : k ≠ d := fun e4 => hk (by rw [e4]; exact upd_same _ _ _)
      rw [upd_other _ _ _ _ ne] at hk
      obtain ⟨q, hq, e3⟩ := h.has k hk
      obtain ⟨q', e4, hq'⟩ := delI_at (n := n) W (i := q) (j := j) fun e5 => ne (by rw [e5, e] at e3; omega)
      exact ⟨q', hq' hq hj, by rw [e4, e3]⟩
    · obtain ⟨q, hq, _, e3, e5⟩ := delI_from W (j := j) i hi
      obtain ⟨r, hr, _, e4, e6⟩ := delI_from W (j := j) k hk
      rw [e3, e4] at e2
      have := h.dist q r hq hr e2
      split at e5 <;> split at e6 <;> omega
theorem MoR.put {d : Nat} {x t c : Int} (h : MoR n W wn) (hp : PutR n W (d : Int) x t c n' W') (hd1 : 1 ≤ d) (hd2 : d ≤ 8) (hx1 : 1 ≤ x) (hx2 : x ≤ 65536) (ht : t ≤ 4611686018427387904) : c = 0 ∧ MoR n' W' (upd wn d (mxZ (wn d) x)) := by
  have hb : ¬ putBad (d : Int) x t := by unfold putBad; omega
  cases hp with
  | arg h1 => exact absurd h1 hb
  | had j _ hj e =>
    have h1 := h.amt j d hj e
    have h2 := h.pos j hj
    refine ⟨rfl, fun i hi => ?_, fun i hi => ?_, fun i k hi e2 => ?_, fun k hk => ?_, fun i k hi hk e2 => ?_, fun i hi => ?_⟩
    · rw [putI_node]; unfold Fx.putI; split
      · exact h.lo j hj
      · exact h.lo i hi
    · rw [putI_node]; unfold Fx.putI; split
      · exact h.hi j hj
      · exact h.hi i hi
    · rw [putI_node] at e2
      unfold Fx.putI at e2 ⊢
      split at e2
      · rename_i e3
        rw [if_pos e3]
        have : k = d := by have e4 : (W j).node = (k : Int) := e2; rw [e] at e4; omega
        subst this
        rw [upd_same, h1]
      · rename_i e3
        rw [if_neg e3]
        have ne : k ≠ d := fun e4 => e3 (h.dist i j hi hj (by rw [e, ← e4]; exact e2))
        rw [upd_other _ _ _ _ ne]; exact h.amt i k hi e2
    · by_cases e3 : k = d
      · subst e3
        exact ⟨j, hj, by rw [putI_node]; unfold Fx.putI; rw [if_pos rfl]; exact e⟩
      · rw [upd_other _ _ _ _ e3] at hk
        obtain ⟨q, hq, e4⟩ := h.has k hk
        refine ⟨q, hq, ?_⟩
        rw [putI_node]; unfold Fx.putI; split
        · rename_i e5; subst e5; exact e4
        · exact e4
    · have s : ∀ i, (Fx.putI W j ⟨(W j).node, mxZ (W j).amt x, (W j).at_, (W j).wait⟩ i).node = (W i).node := fun i => by
        rw [putI_node]; unfold Fx.putI; split
        · rename_i e5; subst e5; rfl
        · rfl
      rw [s, s] at e2; exact h.dist i k hi hk e2
    · unfold Fx.putI; split
      · show 1 ≤ mxZ _ _; unfold mxZ; split <;> omega
      · exact h.pos i hi
  | full _ _ hf => have := h.len; omega
  | new _ hn hf =>
    have h0 : wn d = 0 := Classical.byContradiction fun e => by
      obtain ⟨i, hi, e2⟩ := h.has d e
      exact hn i hi e2
    have hm : mxZ (wn d) x = x := by unfold mxZ; rw [h0, if_pos (by omega)]
    rw [hm]
    have two : ∀ i, i < n + 1 → i < n ∨ i = n := fun i hi => by omega
    have p1 : ∀ i, i < n → Fx.putI W n ⟨(d : Int), x, t, 1⟩ i = W i := fun i hi => by unfold Fx.putI; rw [if_neg (by omega)]
    have p2 : Fx.putI W n ⟨(d : Int), x, t, 1⟩ n = ⟨(d : Int), x, t, 1⟩ := by unfold Fx.putI; rw [if_pos rfl]
    refine ⟨rfl, fun i hi => ?_, fun i hi => ?_, fun i k hi e2 => ?_, fun k hk => ?_, fun i k hi hk e2 => ?_, fun i hi => ?_⟩
    · rcases two i hi with h1 | rfl
      · rw [p1 i h1]; exact h.lo i h1
      · rw [p2]; show (1 : Int) ≤ d; omega
    · rcases two i hi with h1 | rfl
      · rw [p1 i h1]; exact h.hi i h1
      · rw [p2]; show (d : Int) ≤ 8; omega
    · rcases two i hi with h1 | rfl
      · rw [p1 i h1] at e2 ⊢
        have ne : k ≠ d := fun e4 => hn i h1 (by rw [e2, e4])
        rw [upd_other _ _ _ _ ne]; exact h.amt i k h1 e2
      · rw [p2] at e2 ⊢
        have e3 : (d : Int) = k := e2
        have : k = d := by omega
        subst this; rw [upd_same]
    · by_cases e3 : k = d
      · subst e3; exact ⟨n, by omega, by rw [p2]⟩
      · rw [upd_other _ _ _ _ e3] at hk
        obtain ⟨q, hq, e4⟩ := h.has k hk
        exact ⟨q, by omega, by rw [p1 q hq]; exact e4⟩
    · rcases two i hi with h1 | rfl <;> rcases two k hk with h2 | h2
      · rw [p1 i h1, p1 k h2] at e2; exact h.dist i k h1 h2 e2
      · subst h2; rw [p1 i h1, p2] at e2; exact absurd e2 (hn i h1)
      · rw [p2, p1 k h2] at e2; exact absurd e2.symm (hn k h2)
      · exact h2.symm
    · rcases two i hi with h1 | rfl
      · rw [p1 i h1]; exact h.pos i h1
      · rw [p2]; exact hx1
theorem most_hit {m at_ k : Nat} {τ : Nat → Nat} (h : MoR n W wn) (hth : ThoseR n W (fun _ => True) m τ) (hat : at_ ≤ m) (ha : ∀ q, q < m → (q < at_ ↔ (W (τ q)).node < (k : Int))) (hk : wn k ≠ 0) : at_ < m ∧ (W (τ at_)).node = (k : Int) ∧ (W (τ at_)).amt = wn k := by
  obtain ⟨i, hi, e⟩ := h.has k hk
  obtain ⟨q, hq, rfl⟩ := hth.mem i hi trivial
  have h1 : ¬ q < at_ := fun h2 => by have := (ha q hq).1 h2; omega
  have h2 : q = at_ := by
    rcases Nat.lt_or_ge at_ q with h3 | h3
    · have h4 := hth.up at_ q h3 hq
      have h5 : at_ < at_ := (ha at_ (by omega)).2 (by omega)
      omega
    · omega
  subst h2
  exact ⟨hq, e, (h.amt _ k hi e).symm⟩
theorem most_yes {m at_ k : Nat} {τ : Nat → Nat} (hth : ThoseR n W (fun _ => True) m τ) (hat : at_ < m) (e : (W (τ at_)).node = (k : Int)) (ha : ∀ q, q < m → (q < at_ ↔ (W (τ q)).node < (k : Int))) : ∀ q, q < m → (q < at_ + 1 ↔ (W (τ q)).node < ((k + 1 : Nat) : Int)) := fun q hq => by
  have h1 := ha q hq
  rcases Nat.lt_trichotomy q at_ with h2 | h2 | h2
  · have := h1.1 h2; omega
  · subst h2; omega
  · have := hth.up at_ q h2 hq; omega
theorem most_no {m at_ k : Nat} {τ : Nat → Nat} (h : MoR n W wn) (hth : ThoseR n W (fun _ => True) m τ) (hk : wn k = 0) (ha : ∀ q, q < m → (q < at_ ↔ (W (τ q)).node < (k : Int))) : ∀ q, q < m → (q < at_ ↔ (W (τ q)).node < ((k + 1 : Nat) : Int)) := fun q hq => by
  have h1 := ha q hq
  have ne : (W (τ q)).node ≠ (k : Int) := fun e => by
    have h2 := h.amt _ k (hth.lt q hq) e
    have h3 := h.pos _ (hth.lt q hq)
    omega
  omega
theorem most_end {m at_ : Nat} {τ : Nat → Nat} (h : MoR n W wn) (hth : ThoseR n W (fun _ => True) m τ) (hat : at_ ≤ m) (ha : ∀ q, q < m → (q < at_ ↔ (W (τ q)).node < ((9 : Nat) : Int))) : at_ = m := by
  rcases Nat.lt_or_ge at_ m with h1 | h1
  · have h2 := h.hi _ (hth.lt at_ h1)
    have := (ha at_ h1).2 (by omega)
    omega
  · omega
end
end Rt
end Go.Proofs.Ytjnkejgjgknllaa
namespace Go.Proofs.Ytjnkejgjgknllaa
open Go.RowKit Rt
theorem dmost_any (sa sb sc : Option Addr) (l l2 l3 ca cb cc : Nat) (N M : Nat → Int) (E : Nat → Bool) (w : World) (hns : Fx.Arr w sa l 1 (Fx.rv .u8 N)) (hms : Fx.Arr w sb l2 1 (Fx.rv .u16 M)) (hes : Fx.Arr w sc l3 1 (fun q => .bool (E q))) (hN : ∀ q, q < l → 0 ≤ N q ∧ N q ≤ 255) (hM : ∀ q, q < l2 → 0 ≤ M q ∧ M q ≤ 65535) :
    Calls Try.prog 6 #[.slice sa (l) (ca), .slice sb (l2) (cb), .slice sc (l3) (cc)] w fun e w' => e = .returned (.bool true) ∧ Below w.heap.size w w' := by
 refine Fx.enter Try.func6 rfl (n := 124) rfl (by rfl) ?_
 refine Fx.W.seq (Fx.W.list (Fx.L.v (.bool false) (Fx.x_assign rfl rfl) ?_))
 refine Fx.L.nil (Fx.seqN (Fx.W.seq (Fx.W.seq (Fx.W.list (Fx.L.v (.slice sa (l) (ca)) (Fx.x_move rfl rfl) ?_)))))
 refine Fx.L.v (.int .i64 ((l : Int))) (Fx.x_len rfl rfl rfl (by kernel_rfl)) ?_
 by_cases c17 : 60 < (l : Int)
 ·refine Fx.L.v (.bool true) (Fx.x_gtrT rfl rfl rfl c17) ?_
  refine Fx.L.v (.bool true) (Fx.x_move rfl rfl) ?_
  refine Fx.L.skip (by rfl) rfl ?_
  refine Fx.L.skip (by rfl) rfl ?_
  refine Fx.L.skip (by rfl) rfl ?_
  refine Fx.L.skip (by rfl) rfl ?_
  refine Fx.L.skip (by rfl) rfl ?_
  refine Fx.L.v (.bool true) (Fx.x_pickT rfl rfl rfl) ?_
  refine Fx.L.v (.bool true) (Fx.x_move rfl rfl) ?_
  refine Fx.L.skip (by rfl) rfl ?_
  refine Fx.L.skip (by rfl) rfl ?_
  refine Fx.L.skip (by rfl) rfl ?_
  refine Fx.L.skip (by rfl) rfl ?_
  refine Fx.L.skip (by rfl) rfl ?_
  refine Fx.L.v (.bool true) (Fx.x_pickT rfl rfl rfl) ?_
  refine Fx.L.nil (Fx.seqN (Fx.W.cond (b := true) rfl (fun _ => Fx.W.seq (Fx.W.list (Fx.L.call (by rfl) (Fx.r_call (args := []) rfl rfl Try.func7 rfl rfl) rfl ((works18_any _).mono ?_)))) (fun h => nomatch h)))
  rintro e w1 ⟨he, hb1⟩
  refine ⟨.bool true, by rw [he], ?_⟩
  clear he
  have s1 := Fx.Stp.of_below hb1
  have b1 := s1.below (Below.refl w.heap.size w) (Below.refl w.heap.size w).size (Below.refl w.heap.size w).size
  refine Fx.L.v (.bool true) (Fx.x_assign rfl rfl) ?_
  refine Fx.L.nil (Fx.seqN (Fx.W.ret (Fx.seqR (⟨.bool true, Fx.retV1 Try.results6 (by exact rfl), ?_⟩))))
  exact ⟨rfl, b1⟩
 ·refine Fx.L.v (.bool false) (Fx.x_gtrF rfl rfl rfl c17) ?_
  refine Fx.L.v (.bool false) (Fx.x_move rfl rfl) ?_
  refine Fx.L.v (.slice sb (l2) (cb)) (Fx.x_move rfl rfl) ?_
  refine Fx.L.v (.int .i64 ((l2 : Int))) (Fx.x_len rfl rfl rfl (by kernel_rfl)) ?_
  refine Fx.L.v (.slice sa (l) (ca)) (Fx.x_move rfl rfl) ?_
  refine Fx.L.v (.int .i64 ((l : Int))) (Fx.x_len rfl rfl rfl (by kernel_rfl)) ?_
  by_cases c23 : (l2 : Int) = (l : Int)
  ·refine Fx.L.v (.bool false) (Fx.x_neqF rfl rfl rfl c23) ?_
   refine Fx.L.v (.bool false) (Fx.x_pickF rfl rfl rfl) ?_
   refine Fx.L.v (.bool false) (Fx.x_move rfl rfl) ?_
   refine Fx.L.v (.slice sc (l3) (cc)) (Fx.x_move rfl rfl) ?_
   refine Fx.L.v (.int .i64 ((l3 : Int))) (Fx.x_len rfl rfl rfl (by kernel_rfl)) ?_
   refine Fx.L.v (.slice sa (l) (ca)) (Fx.x_move rfl rfl) ?_
   refine Fx.L.v (.int .i64 ((l : Int))) (Fx.x_len rfl rfl rfl (by kernel_rfl)) ?_
   by_cases c30 : (l3 : Int) = (l : Int)
   ·refine Fx.L.v (.bool false) (Fx.x_neqF rfl rfl rfl c30) ?_
    refine Fx.L.v (.bool false) (Fx.x_pickF rfl rfl rfl) ?_
    refine Fx.L.nil (Fx.seqN (Fx.W.cond (b := false) rfl (fun h => nomatch h) (fun _ => Fx.W.skip (Fx.seqN (Fx.W.seq (Fx.W.list (Fx.L.call (by rfl) (Fx.r_call (args := []) rfl rfl Try.func8 rfl rfl) rfl ((d_new _ (fun _ => 0) (fun _ => ⟨0, 0, 0, 0⟩)).mono ?_))))))))
    rintro e9 w2 ⟨p, mb, he, hb2, hd1⟩
    refine ⟨_, he, ?_⟩
    clear he
    have b2 := hb2
    refine Fx.L.v (.pointer (some ⟨p, 0, none⟩)) (Fx.x_assign rfl rfl) ?_
    refine Fx.L.nil (Fx.seqN (Fx.W.seq (Fx.W.list (Fx.L.new (m := 9) (y := Fx.rv .i64 (fun _ => 0)) (by rfl) rfl (by kernel_rfl) rfl fun g1 w3 eg1 m1 s2 z1 => ?_))))
    have m2 := hd1.up s2.old
    have b3 := s2.below b2 b2.size b2.size
    have lg1 : w.heap.size ≤ g1 := by rw [eg1]; exact b2.size
    have tg1 : g1 < w3.heap.size := m1.lt
    clear eg1
    refine Fx.L.nil (Fx.seqN (Fx.W.seq (Fx.W.seq (Fx.W.list (Fx.L.v (.int .i64 (0)) (Fx.x_assign rfl rfl) ?_)))))
    refine Fx.L.nil (Fx.seqN (Fx.W.block (Fx.W.loop (fun f w_ => ∃ i : Nat, ∃ n : Nat, ∃ pb : Nat → Nat, ∃ W : Nat → WtM, ∃ wn : Nat → Int, i ≤ l ∧ MoR n W wn ∧ f 0 = .slice sa (l) (ca) ∧ f 1 = .slice sb (l2) (cb) ∧ f 2 = .slice sc (l3) (cc) ∧ f 7 = .pointer (some ⟨p, 0, none⟩) ∧ f 8 = .pointer (some ⟨g1, 0, none⟩) ∧ f 9 = .int .i64 ((i : Int)) ∧ DemO w_ w.heap.size p mb n pb W ∧ Fx.Blk w_ g1 9 (Fx.rv .i64 wn) 48 ∧ Below w.heap.size w w_) (fun f _ => (l - (intOf (f 9)).toNat)) ⟨0, 0, (fun _ => 0), (fun _ => ⟨0, 0, 0, 0⟩), (fun _ => 0), by omega, (MoR.start _), (by rfl), (by rfl), (by rfl), (by rfl), (by rfl), (by first | rfl | exact congrArg (Value.int .i64) (by omega)), m2, m1, b3⟩ ?_)))
    rintro f1 w4 ⟨i, n, pb, W, wn, hi, hmo, h1, h2, h3, h4, h5, h6, m3, m4, b4⟩
    refine Fx.W.seq (Fx.W.seq (Fx.W.list (Fx.L.v (.int .i64 ((i : Int))) (Fx.x_move rfl h6) ?_)))
    refine Fx.L.v (.slice sa (l) (ca)) (Fx.x_move rfl h1) ?_
    refine Fx.L.v (.int .i64 ((l : Int))) (Fx.x_len rfl rfl rfl (by kernel_rfl)) ?_
    by_cases c37 : (i : Int) < (l : Int)
    ·refine Fx.L.v (.bool true) (Fx.x_lssT rfl rfl rfl c37) ?_
     refine Fx.L.nil (Fx.seqN (Fx.W.cond (b := true) rfl (fun _ => Fx.W.skip (Fx.seqN (Fx.W.seq (Fx.W.block (Fx.W.seq (Fx.W.list (Fx.L.v (.slice sa (l) (ca)) (Fx.x_move rfl h1) ?_))))))) (fun h => nomatch h)))
     refine Fx.L.v (.int .i64 ((i : Int))) (Fx.x_move rfl h6) ?_
     obtain ⟨bq1, oq1, eq1, m5⟩ := (hns.up b4 rfl) (by omega)
     have lbq1 : bq1 < w4.heap.size := m5.lt (by omega)
     refine Fx.L.v (.pointer (some ⟨bq1, i + oq1, none⟩)) (Fx.x_indexS rfl (rfl.trans (congrArg (fun q => Value.slice q (l) (ca)) eq1)) rfl Try.underlying45 (s := 1) (by kernel_rfl) (by omega) (by omega) (by omega)) ?_
     refine Fx.L.v (.int .u8 (N i)) (Fx.x_load1 (x := Fx.rv .u8 N) rfl rfl (by kernel_rfl) m5 (i := i) (by omega) (by omega) rfl) ?_
     refine Fx.L.v (.int .u8 ((N i) % 8)) (Fx.x_rem rfl rfl rfl (by omega) (Int.tmod_eq_emod_of_nonneg (by have := hN i (by omega); omega))) ?_
     refine Fx.L.v (.int .u8 (1 + ((N i) % 8))) (Fx.x_add rfl rfl rfl (Fx.u8e (by omega) (by omega))) ?_
     refine Fx.L.v (.int .u8 (1 + ((N i) % 8))) (Fx.x_assign rfl rfl) ?_
     refine Fx.L.nil (Fx.seqN (Fx.W.seqJ (fun f w_ => ∃ nJ : Nat, ∃ pbJ : Nat → Nat, ∃ WJ : Nat → WtM, ∃ wnJ : Nat → Int, MoR nJ WJ wnJ ∧ f 0 = .slice sa (l) (ca) ∧ f 1 = .slice sb (l2) (cb) ∧ f 2 = .slice sc (l3) (cc) ∧ f 7 = .pointer (some ⟨p, 0, none⟩) ∧ f 8 = .pointer (some ⟨g1, 0, none⟩) ∧ f 9 = .int .i64 ((i : Int)) ∧ DemO w_ w.heap.size p mb nJ pbJ WJ ∧ Fx.Blk w_ g1 9 (Fx.rv .i64 wnJ) 48 ∧ Below w.heap.size w w_) ?_ ?_))
     ·refine Fx.W.seq ?_
      obtain ⟨d, ed⟩ : ∃ d : Nat, (d : Int) = 1 + ((N i) % 8) := ⟨(1 + ((N i) % 8)).toNat, by have := hN i (by omega); omega⟩
      have hd1 : 1 ≤ d := by have := hN i (by omega); omega
      have hd8 : d ≤ 8 := by have := hN i (by omega); omega
      refine Fx.W.list (Fx.L.v (.slice sc (l3) (cc)) (Fx.x_move rfl h3) ?_)
      refine Fx.L.v (.int .i64 ((i : Int))) (Fx.x_move rfl h6) ?_
      obtain ⟨bq2, oq2, eq2, m6⟩ := (hes.up b4 rfl) (by omega)
      have lbq2 : bq2 < w4.heap.size := m6.lt (by omega)
      refine Fx.L.v (.pointer (some ⟨bq2, i + oq2, none⟩)) (Fx.x_indexS rfl (rfl.trans (congrArg (fun q => Value.slice q (l3) (cc)) eq2)) rfl Try.underlying47 (s := 1) (by kernel_rfl) (by omega) (by omega) (by omega)) ?_
      by_cases c49 : (E i) = true
      ·refine Fx.L.v (.bool true) (Fx.x_load1 (x := fun q => .bool (E q)) rfl rfl (by kernel_rfl) m6 (i := i) (by omega) (by omega) ((show _ = Value.bool (E i) from rfl).trans (congrArg Value.bool c49))) ?_
       refine Fx.L.nil (Fx.seqN (Fx.W.cond (b := true) rfl (fun _ => Fx.W.seq (Fx.W.seq ?_)) (fun h => nomatch h)))
       -- region 10 draws
       refine Fx.W.reord [0, 1, 2, 4, 5, 6, 7, 3, 8] [0, 0, 0, 2, 0, 0, 1, 0, 0] (Fx.ChX [57]) Fx.ChX.refl Fx.ChX.trans (certs := [(8, 3, [3])]) (by kernel_rfl) (by kernel_rfl) (by kernel_rfl) (by kernel_rfl) (by kernel_rfl) fun wt1 hbwt1 hzwt1 => ?_
       have s3 : Fx.Stp w4.heap.size w4 wt1 := Fx.Stp.of_below hbwt1
       have m7 := m3.up s3.old
       have m8 := m4.stp s3 (Nat.ne_of_lt (m4.lt))
       have m9 := m6.stp s3 (Nat.ne_of_lt (m6.lt (by omega)))
       have b5 := s3.below b4 b4.size b4.size
       refine Fx.R.p (.pointer (some ⟨p, 0, none⟩)) (fun v1 => Fx.x_move rfl h4) ?_
       refine Fx.R.p (.int .u8 ((d : Int))) (fun v1 => Fx.x_move rfl (rfl.trans (congrArg (Value.int .u8) ed.symm))) ?_
       refine Fx.R.p (.int .u64 ((d : Int))) (fun v1 => Fx.x_conv rfl rfl (by kernel_rfl) Try.underlying22 (Fx.u64e (by omega) rfl)) ?_
       refine Fx.R.p (.int .u8 ((d : Int))) (fun v1 => Fx.x_move rfl (rfl.trans (congrArg (Value.int .u8) ed.symm))) ?_
       refine Fx.R.p (.pointer (some ⟨g1, d, none⟩)) (fun v1 => Fx.x_index rfl h5 rfl Try.underlying48 (s := 1) (by kernel_rfl) (by omega) (by omega) (by omega)) ?_
       refine Fx.R.read (v := .int .i64 (wn d)) (by rfl) (by rfl) (Fx.ChX.refl _) (fun v1 hv1 => Fx.x_load1 (x := Fx.rv .i64 wn) rfl rfl (by kernel_rfl) (m8.chX hv1 (by decide)).cel (i := d) (by omega) (by omega) rfl) ?_
       refine Fx.R.p (.bool (decide (0 < (wn d)))) (fun v1 => Fx.x_gtr rfl rfl rfl) ?_
       refine Fx.R.make (by rfl) ?_
       refine Fx.L.call (by rfl) (Fx.r_call (args := [.pointer (some ⟨p, 0, none⟩), .int .u64 ((d : Int))]) rfl rfl Try.func14 rfl rfl) rfl ((d_done (d : Int) p mb _ _ _ _ _ m7).mono ?_)
       rintro e9 w5 ⟨bb1, nn1, pb1, W1, he, hr1, hd2, hc1⟩
       obtain ⟨ebb, hm1⟩ := hmo.done hr1
       refine ⟨_, he, ?_⟩
       clear he
       have hbl1 := m7.below b5.size hc1
       have hx1 := m7.chx hc1
       have m10 := m8.chX hx1 rfl
       have b6 := b5.trans hbl1
       refine Fx.L.nil ⟨(hx1.wide (by decide)), ?_⟩
       refine Fx.R.p (.bool false) (fun v1 => Fx.x_neqB rfl rfl rfl (by kernel_rfl) (by rw [ebb]; simp)) ?_
       refine Fx.R.nil (Fx.seqN (Fx.W.cond (b := false) rfl (fun h => nomatch h) (fun _ => Fx.W.skip (Fx.seqN (Fx.W.list (Fx.L.v (.int .u8 ((d : Int))) (Fx.x_move rfl (rfl.trans (congrArg (Value.int .u8) ed.symm))) ?_))))))
       refine Fx.L.v (.pointer (some ⟨g1, d, none⟩)) (Fx.x_index rfl h5 rfl Try.underlying48 (s := 1) (by kernel_rfl) (by omega) (by omega) (by omega)) ?_
       refine Fx.L.store1 (x := Fx.rv .i64 wn) (u := .int .i64 (0)) (by rfl) rfl rfl rfl rfl (by rfl) (by kernel_rfl) m10 (i := d) (by omega) fun w6 m11 s4 z2 => ?_
       have m12 : Fx.Blk w6 g1 9 (Fx.rv .i64 (upd wn d 0)) 48 := m11.to (Fx.updV_rv _ _ _ _)
       have hct1 := Fx.ChT.of_stp s4 m10.ty
       have m13 := hd2.chT hct1 (by decide)
       have b7 := s4.below b6 b6.size (by omega)
       refine Fx.L.nil ?_
       exact Fx.jnN ⟨nn1, pb1, W1, (upd wn d 0), hm1, h1, h2, h3, h4, h5, (h6.trans (by first | rfl | exact congrArg (Value.int .i64) (by omega))), m13, m12, b7⟩
      ·rw [Bool.not_eq_true] at c49
       refine Fx.L.v (.bool false) (Fx.x_load1 (x := fun q => .bool (E q)) rfl rfl (by kernel_rfl) m6 (i := i) (by omega) (by omega) ((show _ = Value.bool (E i) from rfl).trans (congrArg Value.bool c49))) ?_
       refine Fx.L.nil (Fx.seqN (Fx.W.cond (b := false) rfl (fun h => nomatch h) (fun _ => Fx.W.seq ?_)))
       have hMi := hM i (by omega)
       refine Fx.W.list (Fx.L.v (.slice sb (l2) (cb)) (Fx.x_move rfl h2) ?_)
       refine Fx.L.v (.int .i64 ((i : Int))) (Fx.x_move rfl h6) ?_
       obtain ⟨bq3, oq3, eq3, m14⟩ := (hms.up b4 rfl) (by omega)
       have lbq3 : bq3 < w4.heap.size := m14.lt (by omega)
       refine Fx.L.v (.pointer (some ⟨bq3, i + oq3, none⟩)) (Fx.x_indexS rfl (rfl.trans (congrArg (fun q => Value.slice q (l2) (cb)) eq3)) rfl Try.underlying46 (s := 1) (by kernel_rfl) (by omega) (by omega) (by omega)) ?_
       refine Fx.L.v (.int .u16 (M i)) (Fx.x_load1 (x := Fx.rv .u16 M) rfl rfl (by kernel_rfl) m14 (i := i) (by omega) (by omega) rfl) ?_
       refine Fx.L.v (.int .i64 (M i)) (Fx.x_conv rfl rfl (by kernel_rfl) Try.underlying2 (Fx.i64e (by omega) rfl)) ?_
       refine Fx.L.v (.int .i64 (1 + (M i))) (Fx.x_add rfl rfl rfl (Fx.i64e (by omega) (by omega))) ?_
       refine Fx.L.v (.int .i64 (1 + (M i))) (Fx.x_assign rfl rfl) ?_
       refine Fx.L.nil (Fx.seqN (Fx.W.seq (Fx.W.seq (Fx.W.list (Fx.L.v (.pointer (some ⟨p, 0, none⟩)) (Fx.x_move rfl h4) ?_)))))
       refine Fx.L.v (.int .u8 ((d : Int))) (Fx.x_move rfl (rfl.trans (congrArg (Value.int .u8) ed.symm))) ?_
       refine Fx.L.v (.int .u64 ((d : Int))) (Fx.x_conv rfl rfl (by kernel_rfl) Try.underlying22 (Fx.u64e (by omega) rfl)) ?_
       refine Fx.L.v (.int .i64 (1 + (M i))) (Fx.x_move rfl rfl) ?_
       refine Fx.L.v (.int .i64 ((i : Int))) (Fx.x_move rfl h6) ?_
       refine Fx.L.v (.int .u64 ((i : Int))) (Fx.x_conv rfl rfl (by kernel_rfl) Try.underlying22 (Fx.u64e (by omega) rfl)) ?_
       refine Fx.L.call (by rfl) (Fx.r_call (args := [.pointer (some ⟨p, 0, none⟩), .int .u64 ((d : Int)), .int .i64 (1 + (M i)), .int .u64 ((i : Int))]) rfl rfl Try.func9 rfl rfl) rfl ((d_put (d : Int) (1 + (M i)) (i : Int) (by omega) (by omega) p mb _ _ _ _ _ m3 b4.size).mono ?_)
       rintro e9 w7 ⟨cc1, he, hc2, nn2, pb2, W2, hr2, hd3⟩
       obtain ⟨rfl, hm2⟩ := hmo.put hr2 hd1 hd8 (by omega) (by omega) (by omega)
       refine ⟨_, he, ?_⟩
       clear he
       have hbl2 := m3.below b4.size hc2
       have hx2 := m3.chx hc2
       have m15 := m4.chX hx2 rfl
       have b8 := b4.trans hbl2
       refine Fx.L.v (.bool false) (Fx.x_neqF rfl rfl rfl (by omega)) ?_
       refine Fx.L.nil (Fx.seqN (Fx.W.cond (b := false) rfl (fun h => nomatch h) (fun _ => Fx.W.skip (Fx.seqN (Fx.W.list (Fx.L.v (.int .u8 ((d : Int))) (Fx.x_move rfl (rfl.trans (congrArg (Value.int .u8) ed.symm))) ?_))))))
       refine Fx.L.v (.int .u8 ((d : Int))) (Fx.x_move rfl (rfl.trans (congrArg (Value.int .u8) ed.symm))) ?_
       refine Fx.L.v (.pointer (some ⟨g1, d, none⟩)) (Fx.x_index rfl h5 rfl Try.underlying48 (s := 1) (by kernel_rfl) (by omega) (by omega) (by omega)) ?_
       refine Fx.L.v (.int .i64 (wn d)) (Fx.x_load1 (x := Fx.rv .i64 wn) rfl rfl (by kernel_rfl) m15.cel (i := d) (by omega) (by omega) rfl) ?_
       refine Fx.L.v (.int .i64 (1 + (M i))) (Fx.x_move rfl rfl) ?_
       refine Fx.L.v (.int .i64 (mxZ (wn d) (1 + (M i)))) (Fx.x_max rfl rfl rfl) ?_
       refine Fx.L.v (.pointer (some ⟨g1, d, none⟩)) (Fx.x_index rfl h5 rfl Try.underlying48 (s := 1) (by kernel_rfl) (by omega) (by omega) (by omega)) ?_
       refine Fx.L.store1 (x := Fx.rv .i64 wn) (u := .int .i64 (mxZ (wn d) (1 + (M i)))) (by rfl) rfl rfl rfl rfl (by rfl) (by kernel_rfl) m15 (i := d) (by omega) fun w8 m16 s5 z3 => ?_
       have m17 : Fx.Blk w8 g1 9 (Fx.rv .i64 (upd wn d (mxZ (wn d) (1 + (M i))))) 48 := m16.to (Fx.updV_rv _ _ _ _)
       have hct2 := Fx.ChT.of_stp s5 m15.ty
       have m18 := hd3.chT hct2 (by decide)
       have b9 := s5.below b8 b8.size (by omega)
       refine Fx.L.nil ?_
       exact Fx.jnN ⟨nn2, pb2, W2, (upd wn d (mxZ (wn d) (1 + (M i)))), hm2, h1, h2, h3, h4, h5, (h6.trans (by first | rfl | exact congrArg (Value.int .i64) (by omega))), m18, m17, b9⟩
     ·rintro f2 w9 ⟨nJ, pbJ, WJ, wnJ, hmj, h7, h8, h9, h10, h11, h12, m19, m20, b10⟩
      refine Fx.W.seq (Fx.W.list (Fx.L.v (.pointer (some ⟨p, 0, none⟩)) (Fx.x_move rfl h10) ?_))
      refine Fx.L.call (by rfl) (Fx.r_call (args := [.pointer (some ⟨p, 0, none⟩)]) rfl rfl Try.func16 rfl rfl) rfl ((d_list p mb _ _ _ _ _ m19).mono ?_)
      rintro e9 w10 ⟨a, m, c, τ, he, ho, hth, hbl⟩
      refine ⟨_, he, ?_⟩
      clear he
      have s6 := Fx.Stp.of_below hbl
      have hm2 := those_le hth
      have hn2 := hmj.len
      have m21 := m19.up s6.old
      have m22 := m20.stp s6 (Nat.ne_of_lt (m20.lt))
      have b11 := s6.below b10 b10.size b10.size
      refine Fx.L.v (.slice a (m) (c)) (Fx.x_assign rfl rfl) ?_
      refine Fx.L.nil (Fx.seqN (Fx.W.seq (Fx.W.list (Fx.L.v (.int .i64 (0)) (Fx.x_assign rfl rfl) ?_))))
      refine Fx.L.nil (Fx.seqN (Fx.W.seq (Fx.W.seq (Fx.W.list (Fx.L.v (.int .i64 (1)) (Fx.x_assign rfl rfl) ?_)))))
      refine Fx.L.nil (Fx.seqN (Fx.W.block (Fx.W.loop (fun f w_ => ∃ at_ : Nat, ∃ k : Nat, 1 ≤ k ∧ k ≤ 9 ∧ at_ ≤ m ∧ (∀ q, q < m → (q < at_ ↔ (WJ (τ q)).node < ((k : Nat) : Int))) ∧ f 0 = .slice sa (l) (ca) ∧ f 1 = .slice sb (l2) (cb) ∧ f 2 = .slice sc (l3) (cc) ∧ f 7 = .pointer (some ⟨p, 0, none⟩) ∧ f 8 = .pointer (some ⟨g1, 0, none⟩) ∧ f 9 = .int .i64 ((i : Int)) ∧ f 12 = .slice a (m) (c) ∧ f 13 = .int .i64 ((at_ : Int)) ∧ f 14 = .int .i64 ((k : Int)) ∧ DemO w_ w.heap.size p mb nJ pbJ WJ ∧ Fx.Blk w_ g1 9 (Fx.rv .i64 wnJ) 48 ∧ Fx.Own w_ w9.heap.size 31 2 (.slice a (m) (c)) m (Fx.flat 2 fun q => wtc (WJ (τ q))) ∧ Below w.heap.size w w_) (fun f _ => (9 - (intOf (f 14)).toNat)) ⟨0, 1, by omega, by omega, by omega, (fun q hq => by have := hmj.lo _ (hth.lt q hq); omega), h7, h8, h9, h10, h11, (h12.trans (by first | rfl | exact congrArg (Value.int .i64) (by omega))), (by rfl), (by first | rfl | exact congrArg (Value.int .i64) (by omega)), (by first | rfl | exact congrArg (Value.int .i64) (by omega)), m21, m22, ho, b11⟩ ?_)))
      rintro f3 w11 ⟨at_, k, hk1, hk9, hat, hlt, h13, h14, h15, h16, h17, h18, h19, h20, h21, m23, m24, m25, b12⟩
      refine Fx.W.seq (Fx.W.seq (Fx.W.list (Fx.L.v (.int .i64 ((k : Int))) (Fx.x_move rfl h21) ?_)))
      by_cases c85 : (k : Int) ≤ 8
      ·refine Fx.L.v (.bool true) (Fx.x_leqT rfl rfl rfl c85) ?_
       refine Fx.L.nil (Fx.seqN (Fx.W.cond (b := true) rfl (fun _ => Fx.W.skip (Fx.seqN (Fx.W.seq (Fx.W.block (Fx.W.seq (Fx.W.seq (Fx.W.list (Fx.L.v (.int .i64 ((k : Int))) (Fx.x_move rfl h21) ?_)))))))) (fun h => nomatch h)))
       refine Fx.L.v (.pointer (some ⟨g1, k, none⟩)) (Fx.x_index rfl h17 rfl Try.underlying48 (s := 1) (by kernel_rfl) (by omega) (by omega) (by omega)) ?_
       refine Fx.L.v (.int .i64 (wnJ k)) (Fx.x_load1 (x := Fx.rv .i64 wnJ) rfl rfl (by kernel_rfl) m24.cel (i := k) (by omega) (by omega) rfl) ?_
       by_cases c91 : (wnJ k) = 0
       ·refine Fx.L.v (.bool true) (Fx.x_eqlT rfl rfl rfl c91) ?_
        refine Fx.L.nil (Fx.seqN (Fx.W.cond (b := true) rfl (fun _ => Fx.W.exit (Fx.seqX (Fx.blkX (Fx.seqN (Fx.W.list (Fx.L.v (.int .i64 ((k : Int))) (Fx.x_move rfl h21) ?_)))))) (fun h => nomatch h)))
        refine Fx.L.v (.int .i64 ((k : Int) + 1)) (Fx.x_add rfl rfl rfl (Fx.i64e (by omega) (by omega))) ?_
        refine Fx.L.v (.int .i64 ((k : Int) + 1)) (Fx.x_assign rfl rfl) ?_
        refine Fx.L.nil (Fx.lpN ⟨at_, k + 1, by omega, by omega, by omega, (most_no hmj hth c91 hlt), h13, h14, h15, h16, h17, (h18.trans (by first | rfl | exact congrArg (Value.int .i64) (by omega))), h19, (h20.trans (by first | rfl | exact congrArg (Value.int .i64) (by omega))), (by first | rfl | exact congrArg (Value.int .i64) (by omega)), m23, m24, m25, b12⟩ ?_)
        show (9 - (intOf ((.int .i64 ((k : Int) + 1)))).toNat) < _
        simp only [h21, intOf]; omega
       ·refine Fx.L.v (.bool false) (Fx.x_eqlF rfl rfl rfl c91) ?_
        refine Fx.L.nil (Fx.seqN (Fx.W.cond (b := false) rfl (fun h => nomatch h) (fun _ => Fx.W.skip (Fx.seqN (Fx.W.seq (Fx.W.seq ?_))))))
        obtain ⟨hq1, hq2, hq3⟩ := most_hit hmj hth hat hlt c91
        -- region 23 draws
        refine Fx.W.quiet (fun v1 => ∃ q, v1 = World.drewN w11 q) (by kernel_rfl) (by kernel_rfl) ⟨1, rfl⟩ ?_
        refine Fx.Qt.v (.int .i64 ((at_ : Int))) (fun v1 hv1 => Fx.x_move rfl h20) ?_
        refine Fx.Qt.v (.slice a (m) (c)) (fun v1 hv1 => Fx.x_move rfl h19) ?_
        refine Fx.Qt.v (.int .i64 ((m : Int))) (fun v1 hv1 => Fx.x_len rfl rfl rfl (by kernel_rfl)) ?_
        refine Fx.Qt.v (.bool false) (fun v1 hv1 => Fx.x_geqF rfl rfl rfl (by omega)) ?_
        refine Fx.Qt.v (.bool false) (fun v1 hv1 => Fx.x_move rfl rfl) ?_
        refine Fx.Qt.v (.slice a (m) (c)) (fun v1 hv1 => Fx.x_move rfl h19) ?_
        refine Fx.Qt.v (.int .i64 ((at_ : Int))) (fun v1 hv1 => Fx.x_move rfl h20) ?_
        obtain ⟨gq1, eq4⟩ := m25.addr (by omega)
        have m26 : Fx.Own w11 w9.heap.size 31 2 (.slice (some ⟨gq1, 0, none⟩) m c) m (Fx.flat 2 fun q => wtc (WJ (τ q))) := m25.congV (congrArg (fun q => Value.slice q m c) eq4)
        refine Fx.Qt.v (.pointer (some ⟨gq1, 2 * at_, none⟩)) (fun v1 hv1 => Fx.x_indexS rfl (rfl.trans (congrArg (fun q => Value.slice q (m) (c)) eq4)) rfl Try.underlying28 (s := 2) (by kernel_rfl) (by omega) (by omega) (by omega)) ?_
        refine Fx.Qt.v (.pointer (some ⟨gq1, 2 * at_, none⟩)) (fun v1 hv1 => Fx.x_field rfl rfl Try.underlying31 rfl (s := 1) (by kernel_rfl) rfl rfl) ?_
        refine Fx.Qt.v (.int .u64 ((WJ (τ at_)).node)) (fun v1 hv1 => Fx.x_load1 (x := Fx.flat 2 fun q => wtc (WJ (τ q))) rfl rfl (by kernel_rfl) (by obtain ⟨qd, rfl⟩ := hv1; exact m26.cel) (i := 2 * at_) (by omega) (by omega) (Fx.flat_cell (k := at_) (j := 0) (by omega) (by omega) rfl)) ?_
        refine Fx.Qt.v (.int .i64 ((k : Int))) (fun v1 hv1 => Fx.x_move rfl h21) ?_
        refine Fx.Qt.v (.int .u64 ((k : Int))) (fun v1 hv1 => Fx.x_conv rfl rfl (by kernel_rfl) Try.underlying22 (Fx.u64e (by omega) rfl)) ?_
        refine Fx.Qt.v (.bool false) (fun v1 hv1 => Fx.x_neqF rfl rfl rfl hq2) ?_
        refine Fx.Qt.v (.bool false) (fun v1 hv1 => Fx.x_pickF rfl rfl rfl) ?_
        refine Fx.Qt.v (.bool false) (fun v1 hv1 => Fx.x_move rfl rfl) ?_
        refine Fx.Qt.v (.slice a (m) (c)) (fun v1 hv1 => Fx.x_move rfl h19) ?_
        refine Fx.Qt.v (.int .i64 ((at_ : Int))) (fun v1 hv1 => Fx.x_move rfl h20) ?_
        refine Fx.Qt.v (.pointer (some ⟨gq1, 2 * at_, none⟩)) (fun v1 hv1 => Fx.x_indexS rfl (rfl.trans (congrArg (fun q => Value.slice q (m) (c)) eq4)) rfl Try.underlying28 (s := 2) (by kernel_rfl) (by omega) (by omega) (by omega)) ?_
        refine Fx.Qt.v (.pointer (some ⟨gq1, 2 * at_ + 1, none⟩)) (fun v1 hv1 => Fx.x_field rfl rfl Try.underlying31 rfl (s := 1) (by kernel_rfl) rfl (by show _ + 1 = _; omega)) ?_
        refine Fx.Qt.v (.int .i64 ((WJ (τ at_)).amt)) (fun v1 hv1 => Fx.x_load1 (x := Fx.flat 2 fun q => wtc (WJ (τ q))) rfl rfl (by kernel_rfl) (by obtain ⟨qd, rfl⟩ := hv1; exact m26.cel) (i := 2 * at_ + 1) (by omega) (by omega) (Fx.flat_cell (k := at_) (j := 1) (by omega) (by omega) rfl)) ?_
        refine Fx.Qt.v (.int .i64 ((k : Int))) (fun v1 hv1 => Fx.x_move rfl h21) ?_
        refine Fx.Qt.v (.pointer (some ⟨g1, k, none⟩)) (fun v1 hv1 => Fx.x_index rfl h17 rfl Try.underlying48 (s := 1) (by kernel_rfl) (by omega) (by omega) (by omega)) ?_
        refine Fx.Qt.v (.int .i64 (wnJ k)) (fun v1 hv1 => Fx.x_load1 (x := Fx.rv .i64 wnJ) rfl rfl (by kernel_rfl) (by obtain ⟨qd, rfl⟩ := hv1; exact m24.cel) (i := k) (by omega) (by omega) rfl) ?_
        refine Fx.Qt.v (.bool false) (fun v1 hv1 => Fx.x_neqF rfl rfl rfl hq3) ?_
        refine Fx.Qt.v (.bool false) (fun v1 hv1 => Fx.x_pickF rfl rfl rfl) ?_
        refine Fx.Qt.nil ?_
        rintro _ ⟨qd, rfl⟩
        obtain ⟨wq1, ewq1⟩ : ∃ v1, v1 = World.drewN w11 qd := ⟨_, rfl⟩
        rw [← ewq1]
        have s7 : Fx.Stp w11.heap.size w11 wq1 := by rw [ewq1]; exact Fx.Stp.of_below (bdrN w11 qd)
        have m27 := m23.up s7.old
        have m28 := m24.stp s7 (Nat.ne_of_lt (m24.lt))
        have m29 := m26.stpB s7 (Nat.ne_of_lt (m26.lt))
        have b13 := s7.below b12 b12.size b12.size
        clear ewq1
        refine Fx.seqN (Fx.W.cond (b := false) rfl (fun h => nomatch h) (fun _ => Fx.W.skip (Fx.seqN (Fx.W.list (Fx.L.v (.int .i64 ((at_ : Int))) (Fx.x_move rfl h20) ?_)))))
        refine Fx.L.v (.int .i64 ((at_ : Int) + 1)) (Fx.x_add rfl rfl rfl (Fx.i64e (by omega) (by omega))) ?_
        refine Fx.L.v (.int .i64 ((at_ : Int) + 1)) (Fx.x_assign rfl rfl) ?_
        refine Fx.L.nil (Fx.blkN (Fx.seqN (Fx.W.list (Fx.L.v (.int .i64 ((k : Int))) (Fx.x_move rfl h21) ?_))))
        refine Fx.L.v (.int .i64 ((k : Int) + 1)) (Fx.x_add rfl rfl rfl (Fx.i64e (by omega) (by omega))) ?_
        refine Fx.L.v (.int .i64 ((k : Int) + 1)) (Fx.x_assign rfl rfl) ?_
        refine Fx.L.nil ?_
        have m30 : Fx.Own wq1 w9.heap.size 31 2 (.slice a (m) (c)) m (Fx.flat 2 fun q => wtc (WJ (τ q))) := m29.congV (congrArg (fun q => Value.slice q m c) eq4.symm)
        refine Fx.lpN ⟨at_ + 1, k + 1, by omega, by omega, by omega, (most_yes hth hq1 hq2 hlt), h13, h14, h15, h16, h17, (h18.trans (by first | rfl | exact congrArg (Value.int .i64) (by omega))), h19, (by first | rfl | exact congrArg (Value.int .i64) (by omega)), (by first | rfl | exact congrArg (Value.int .i64) (by omega)), m27, m28, m30, b13⟩ ?_
        show (9 - (intOf ((.int .i64 ((k : Int) + 1)))).toNat) < _
        simp only [h21, intOf]; omega
      ·refine Fx.L.v (.bool false) (Fx.x_leqF rfl rfl rfl c85) ?_
       refine Fx.L.nil (Fx.seqN (Fx.W.cond (b := false) rfl (fun h => nomatch h) (fun _ => Fx.W.exit (Fx.seqX (Fx.lpX (Fx.blkX (Fx.seqN (Fx.W.seq (Fx.W.list (Fx.L.v (.int .i64 ((at_ : Int))) (Fx.x_move rfl h20) ?_))))))))))
       refine Fx.L.v (.slice a (m) (c)) (Fx.x_move rfl h19) ?_
       refine Fx.L.v (.int .i64 ((m : Int))) (Fx.x_len rfl rfl rfl (by kernel_rfl)) ?_
       refine Fx.L.v (.bool false) (Fx.x_neqF rfl rfl rfl (by have hk : k = 9 := (by omega); subst hk; have := most_end hmj hth hat hlt; omega)) ?_
       refine Fx.L.nil (Fx.seqN (Fx.W.cond (b := false) rfl (fun h => nomatch h) (fun _ => Fx.W.skip (Fx.blkN (Fx.seqN (Fx.W.list (Fx.L.v (.int .i64 ((i : Int))) (Fx.x_move rfl h18) ?_)))))))
       refine Fx.L.v (.int .i64 ((i : Int) + 1)) (Fx.x_add rfl rfl rfl (Fx.i64e (by omega) (by omega))) ?_
       refine Fx.L.v (.int .i64 ((i : Int) + 1)) (Fx.x_assign rfl rfl) ?_
       refine Fx.L.nil (Fx.lpN ⟨i + 1, nJ, pbJ, WJ, wnJ, by omega, hmj, h13, h14, h15, h16, h17, (by first | rfl | exact congrArg (Value.int .i64) (by omega)), m23, m24, b12⟩ ?_)
       show (l - (intOf ((.int .i64 ((i : Int) + 1)))).toNat) < _
       simp only [h6, intOf]; omega
    ·refine Fx.L.v (.bool false) (Fx.x_lssF rfl rfl rfl c37) ?_
     refine Fx.L.nil (Fx.seqN (Fx.W.cond (b := false) rfl (fun h => nomatch h) (fun _ => Fx.W.exit (Fx.seqX (Fx.lpX (Fx.blkX (Fx.seqN (Fx.W.seq (Fx.W.list (Fx.L.call (by rfl) (Fx.r_call (args := []) rfl rfl Try.func7 rfl rfl) rfl ((works18_any _).mono ?_)))))))))))
     rintro e w12 ⟨he, hb3⟩
     refine ⟨.bool true, by rw [he], ?_⟩
     clear he
     have s8 := Fx.Stp.of_below hb3
     have m31 := m3.up s8.old
     have m32 := m4.stp s8 (Nat.ne_of_lt (m4.lt))
     have b14 := s8.below b4 b4.size b4.size
     refine Fx.L.v (.bool true) (Fx.x_assign rfl rfl) ?_
     refine Fx.L.nil (Fx.seqN (Fx.W.ret (⟨.bool true, Fx.retV1 Try.results6 (by exact rfl), ?_⟩)))
     exact ⟨rfl, b14⟩
   ·refine Fx.L.v (.bool true) (Fx.x_neqT rfl rfl rfl c30) ?_
    refine Fx.L.v (.bool true) (Fx.x_pickF rfl rfl rfl) ?_
    refine Fx.L.nil (Fx.seqN (Fx.W.cond (b := true) rfl (fun _ => Fx.W.seq (Fx.W.list (Fx.L.call (by rfl) (Fx.r_call (args := []) rfl rfl Try.func7 rfl rfl) rfl ((works18_any _).mono ?_)))) (fun h => nomatch h)))
    rintro e w13 ⟨he, hb4⟩
    refine ⟨.bool true, by rw [he], ?_⟩
    clear he
    have s9 := Fx.Stp.of_below hb4
    have b15 := s9.below (Below.refl w.heap.size w) (Below.refl w.heap.size w).size (Below.refl w.heap.size w).size
    refine Fx.L.v (.bool true) (Fx.x_assign rfl rfl) ?_
    refine Fx.L.nil (Fx.seqN (Fx.W.ret (Fx.seqR (⟨.bool true, Fx.retV1 Try.results6 (by exact rfl), ?_⟩))))
    exact ⟨rfl, b15⟩
  ·refine Fx.L.v (.bool true) (Fx.x_neqT rfl rfl rfl c23) ?_
   refine Fx.L.v (.bool true) (Fx.x_pickF rfl rfl rfl) ?_
   refine Fx.L.v (.bool true) (Fx.x_move rfl rfl) ?_
   refine Fx.L.skip (by rfl) rfl ?_
   refine Fx.L.skip (by rfl) rfl ?_
   refine Fx.L.skip (by rfl) rfl ?_
   refine Fx.L.skip (by rfl) rfl ?_
   refine Fx.L.skip (by rfl) rfl ?_
   refine Fx.L.v (.bool true) (Fx.x_pickT rfl rfl rfl) ?_
   refine Fx.L.nil (Fx.seqN (Fx.W.cond (b := true) rfl (fun _ => Fx.W.seq (Fx.W.list (Fx.L.call (by rfl) (Fx.r_call (args := []) rfl rfl Try.func7 rfl rfl) rfl ((works18_any _).mono ?_)))) (fun h => nomatch h)))
   rintro e w14 ⟨he, hb5⟩
   refine ⟨.bool true, by rw [he], ?_⟩
   clear he
   have s10 := Fx.Stp.of_below hb5
   have b16 := s10.below (Below.refl w.heap.size w) (Below.refl w.heap.size w).size (Below.refl w.heap.size w).size
   refine Fx.L.v (.bool true) (Fx.x_assign rfl rfl) ?_
   refine Fx.L.nil (Fx.seqN (Fx.W.ret (Fx.seqR (⟨.bool true, Fx.retV1 Try.results6 (by exact rfl), ?_⟩))))
   exact ⟨rfl, b16⟩
end Go.Proofs.Ytjnkejgjgknllaa
namespace Go.Proofs.Ytjnkejgjgknllaa
open Go.RowKit Go.WideShapes Go.ChangeShapes Go.Deep
def flatKb (P : Program) : Nat → TypeId → Option (List (Option IntKind))
  | 0, _ => none
  | d + 1, t => match P.underlying t with
    | some (.int k) => some [some k]
    | some .bool => some [none]
    | some (.array n e) => (flatKb P d e).bind fun ks => if P.cellsOf e = ks.length ∧ P.cellsOf t = n * ks.length then some (List.replicate n ks).flatten else none
    | some (.struct fs) => (fs.toList.foldlM (fun l f => (flatKb P d f.type).bind fun ks => if f.offset = l.length ∧ P.cellsOf f.type = ks.length then some (l ++ ks) else none) []).bind fun l => if P.cellsOf t = l.length then some l else none
    | _ => none
def OkV (k : Option IntKind) (v : Value) : Prop := match k with | some k => ∃ n, v = .int k n ∧ (Lit.int k n).wf = true | none => ∃ b, v = .bool b
def FlatV (ks : List (Option IntKind)) (cs : List Value) : Prop := cs.length = ks.length ∧ ∀ (j : Nat) (k : Option IntKind), ks[j]? = some k → ∃ v, cs[j]? = some v ∧ OkV k v
theorem flatb_rep {ks : List (Option IntKind)} {k : Option IntKind} : ∀ (n j : Nat), (List.replicate n ks).flatten[j]? = some k → ks[j % ks.length]? = some k ∧ j / ks.length < n
  | 0, j, h => by simp at h
  | n + 1, j, h => by
    rw [List.replicate_succ, List.flatten_cons] at h
    by_cases hj : j < ks.length
    · rw [List.getElem?_append_left hj] at h
      rw [Nat.mod_eq_of_lt hj, Nat.div_eq_of_lt hj]; exact ⟨h, by omega⟩
    · rw [List.getElem?_append_right (by omega)] at h
      have hs : 0 < ks.length := by
        rcases Nat.eq_zero_or_pos ks.length with e | e
        · obtain ⟨h1, _⟩ := flatb_rep n _ h
          have := (List.getElem?_eq_some_iff.1 h1).1; omega
        · exact e
      obtain ⟨h1, h2⟩ := flatb_rep n _ h
      rw [Nat.mod_eq_sub_mod (by omega), Nat.div_eq_sub_div hs (by omega)]
      exact ⟨h1, by omega⟩
section
variable {H : Type} {enc : TypeId × Value → H} {P : Program} {w : World} {base : Nat} {spare : Nat → Bool} {held : Bool}
theorem flatb_part {ks : List (Option IntKind)} {cs : List Value} {o s j : Nat} {k : Option IntKind} (h : FlatV ks ((cs.drop o).take s)) (hs : s = ks.length) (hk : ks[j]? = some k) : ∃ v, cs[o + j]? = some v ∧ OkV k v := by
  obtain ⟨n, h1, h2⟩ := h.2 j k hk
  have hj := (List.getElem?_eq_some_iff.1 hk).1
  rw [List.getElem?_take_of_lt (by omega), List.getElem?_drop] at h1
  exact ⟨n, h1, h2⟩
theorem flatKb_ok : ∀ (d : Nat) (t : TypeId) (ks : List (Option IntKind)), flatKb P d t = some ks → ∀ (fuel : Nat) (cs : List Value) (x : DataW H × List MemPlace), DataW.trod enc P w base spare held fuel t cs = some x → FlatV ks cs
  | 0, _, _, h => by simp [flatKb] at h
  | d + 1, t, ks, h => by
    intro fuel cs x hx
    unfold flatKb at h
    split at h
    · rename_i k hu
      simp only [Option.some.injEq] at h; subst h
      obtain ⟨n, rfl, _, hw⟩ := DataW.trod_int hu hx
      refine ⟨rfl, fun j k' hk => ?_⟩
      match j, hk with
      | 0, hk => simp at hk; subst hk; exact ⟨_, rfl, n, rfl, hw⟩
      | j + 1, hk => simp at hk
    · rename_i hu
      simp only [Option.some.injEq] at h; subst h
      obtain ⟨b, rfl, _⟩ := DataW.trod_bool hu hx
      refine ⟨rfl, fun j k' hk => ?_⟩
      match j, hk with
      | 0, hk => simp at hk; subst hk; exact ⟨_, rfl, b, rfl⟩
      | j + 1, hk => simp at hk
    · rename_i n e hu
      obtain ⟨ks', hks, h⟩ := Option.bind_eq_some_iff.1 h
      split at h
      · rename_i hc
        simp only [Option.some.injEq] at h; subst h
        obtain ⟨xs, m, _, _, hl, hlen, hel⟩ := DataW.trod_array hu hx
        refine ⟨by rw [hl, hc.2]; simp, fun j k hk => ?_⟩
        obtain ⟨h1, h2⟩ := flatb_rep n j hk
        have hi := hel (j / ks'.length) h2
        rw [List.getElem?_eq_getElem (by omega), hc.1] at hi
        have := flatb_part (flatKb_ok d e ks' hks _ _ _ hi) rfl h1
        rw [Nat.mul_comm, Nat.div_add_mod] at this
        exact this
      · cases h
    · rename_i fs hu
      obtain ⟨l, hl, h⟩ := Option.bind_eq_some_iff.1 h
      split at h
      · rename_i hc
        simp only [Option.some.injEq] at h; subst h
        obtain ⟨xs, m, _, _, hlc, hlen, hf⟩ := DataW.trod_struct hu hx
        refine ⟨by rw [hlc, hc], ?_⟩
        have hf' : ∀ f, f ∈ fs.toList → ∃ y, DataW.trod enc P w base spare held m f.type ((cs.drop f.offset).take (P.cellsOf f.type)) = some y := by
          intro f hfm
          obtain ⟨i, hi, e⟩ := List.mem_iff_getElem.1 hfm
          have hi' : i < fs.size := by simpa using hi
          have h1 : fs[i]? = some f := by rw [Array.getElem?_eq_getElem hi']; simpa using e
          have := hf i f h1
          rw [List.getElem?_eq_getElem (by rw [hlen]; exact hi')] at this
          exact ⟨_, this⟩
        have key : ∀ (L : List Field) (acc : List (Option IntKind)), (∀ f, f ∈ L → ∃ y, DataW.trod enc P w base spare held m f.type ((cs.drop f.offset).take (P.cellsOf f.type)) = some y) → (∀ (j : Nat) (k : Option IntKind), acc[j]? = some k → ∃ v, cs[j]? = some v ∧ OkV k v) → ∀ l, L.foldlM (fun l f => (flatKb P d f.type).bind fun ks => if f.offset = l.length ∧ P.cellsOf f.type = ks.length then some (l ++ ks) else none) acc = some l → ∀ (j : Nat) (k : Option IntKind), l[j]? = some k → ∃ v, cs[j]? = some v ∧ OkV k v := by
          intro L
          induction L with
          | nil => intro acc _ ha l hl; simp at hl; subst hl; exact ha
          | cons f L ih =>
            intro acc hL ha l hl
            rw [List.foldlM_cons] at hl
            obtain ⟨l1, h1, h2⟩ := Option.bind_eq_some_iff.1 hl
            obtain ⟨kf, hkf, h3⟩ := Option.bind_eq_some_iff.1 h1
            split at h3
            · rename_i hcc
              simp only [Option.some.injEq] at h3; subst h3
              refine ih (acc ++ kf) (fun g hg => hL g (List.mem_cons_of_mem _ hg)) (fun j k hk => ?_) l h2
              by_cases hj : j < acc.length
              · rw [List.getElem?_append_left hj] at hk; exact ha j k hk
              · rw [List.getElem?_append_right (by omega)] at hk
                obtain ⟨y, hy⟩ := hL f (List.mem_cons_self ..)
                have := flatb_part (flatKb_ok d f.type kf hkf _ _ _ hy) hcc.2 hk
                rw [hcc.1, show acc.length + (j - acc.length) = j by omega] at this
                exact this
            · cases h3
        exact key fs.toList [] hf' (fun j k hk => by simp at hk) l hl
      · cases h
    · cases h
end
section
variable {H : Type} {enc : TypeId × Value → H} {P : Program} {w : World} {base : Nat} {spare : Nat → Bool} {held : Bool}
theorem open_rows {t e : TypeId} {ks : List (Option IntKind)} {fuel D : Nat} {cs : List Value} {x : DataW H × List MemPlace} (ht : P.underlying t = some (.slice e)) (hk : flatKb P D e = some ks) (ce : P.cellsOf e = ks.length) (hs : 0 < ks.length)
    (h : DataW.trod enc P w base spare held fuel t cs = some x) : ∃ a len cap, cs = [.slice a len cap] ∧ len ≤ maxLen ∧ len ≤ cap ∧ ∃ X : Nat → Nat → Value, (∀ i, i < len → ∀ (j : Nat) (k : Option IntKind), ks[j]? = some k → OkV k (X i j)) ∧ Fx.Arr w a len ks.length (Fx.flat ks.length X) := by
  rcases open_slice ht h with ⟨rfl, _⟩ | ⟨a', len, cap, m, n, D', Pl, rfl, _, hl, hm, hmm, _, hx⟩
  · exact ⟨none, 0, 0, rfl, by unfold maxLen; omega, Nat.le_refl _, fun _ _ => undef, fun i hi => absurd hi (by omega), fun h => absurd h (by omega)⟩
  · have hlm : len ≤ m := by rw [hmm]; split <;> omega
    have each : ∀ i j : Nat, ∃ q : Value, i < len → ∀ k, ks[j]? = some k → w.cell? (a'.add (i * ks.length + j)) = some q ∧ OkV k q := by
      intro i j
      by_cases hi : i < len ∧ j < ks.length
      · obtain ⟨cs', g1, g2⟩ := hx i (by omega)
        rw [ce] at g1
        obtain ⟨_, hlen, hcell⟩ := World.cells?_some g1
        obtain ⟨q, h1, h2⟩ := (flatKb_ok _ _ _ hk _ _ _ g2).2 j _ (List.getElem?_eq_getElem hi.2)
        refine ⟨q, fun _ k hkj => ?_⟩
        rw [List.getElem?_eq_getElem hi.2, Option.some.injEq] at hkj
        subst hkj
        have q0 := hcell j (by omega)
        rw [add_add] at q0
        exact ⟨by rw [← h1]; simpa using q0, h2⟩
      · refine ⟨undef, fun h1 k h2 => absurd ⟨h1, (List.getElem?_eq_some_iff.1 h2).1⟩ hi⟩
    refine ⟨some a', len, cap, rfl, by omega, hl, fun i j => Classical.choose (each i j), fun i hi j k hkj => (Classical.choose_spec (each i j) hi k hkj).2, fun h0 => ?_⟩
    have e0 : a'.add (0 * ks.length + 0) = a' := by unfold Addr.add; simp
    obtain ⟨q00, h00⟩ := each 0 0
    have hk0 := List.getElem?_eq_getElem hs
    have h00' := (h00 h0 _ hk0)
    have h01 := h00'.1
    rw [e0] at h01
    have e1 : ∃ b off, a' = ⟨b, off, none⟩ := by
      have h02 := h00'.2
      unfold OkV at h02
      split at h02
      · obtain ⟨nn, rfl, _⟩ := h02; exact spotless1 h01
      · obtain ⟨bb, rfl⟩ := h02
        unfold World.cell? at h01
        cases a' with
        | mk b off sp =>
          cases sp with
          | none => exact ⟨b, off, rfl⟩
          | some s => simp at h01; split at h01 <;> simp_all
    obtain ⟨b, off, e1⟩ := e1
    refine ⟨b, off, by rw [e1], fun p hp => ?_⟩
    have hj : p % ks.length < ks.length := Nat.mod_lt _ hs
    have hi : p / ks.length < len := Nat.div_lt_of_lt_mul (by rw [Nat.mul_comm]; exact hp)
    have := (Classical.choose_spec (each (p / ks.length) (p % ks.length)) hi _ (List.getElem?_eq_getElem hj)).1
    have ea : a'.add (p / ks.length * ks.length + p % ks.length) = ⟨b, off + p, none⟩ := by rw [e1, addr_add, Nat.mul_comm, Nat.div_add_mod]
    exact (congrArg w.cell? ea).symm.trans this
end
def numOf : Value → Int | .int _ n => n | _ => 0
def truth : Value → Bool | .bool b => b | _ => false
theorem OkV.num {k : IntKind} {v : Value} (h : OkV (some k) v) : v = .int k (numOf v) ∧ (Lit.int k (numOf v)).wf = true := by
  obtain ⟨n, rfl, hw⟩ := h; exact ⟨rfl, hw⟩
theorem OkV.truth {v : Value} (h : OkV none v) : v = .bool (truth v) := by
  obtain ⟨b, rfl⟩ := h; rfl
theorem bd_u8 {n : Int} (h : (Lit.int .u8 n).wf = true) : 0 ≤ n ∧ n ≤ 255 := by simp [Lit.wf, IntKind.min, IntKind.max, IntKind.bits, IntKind.signed] at h; omega
theorem bd_u16 {n : Int} (h : (Lit.int .u16 n).wf = true) : 0 ≤ n ∧ n ≤ 65535 := by simp [Lit.wf, IntKind.min, IntKind.max, IntKind.bits, IntKind.signed] at h; omega
section
variable {H : Type} {enc : TypeId × Value → H} {P : Program} {w : World}
theorem open_kinds {t e : TypeId} {ks : List (Option IntKind)} {a : Option Addr} {len cap D : Nat} {d : DataW H} {ps : List MemPlace} (ht : P.underlying t = some (.slice e)) (hk : flatKb P D e = some ks) (ce : P.cellsOf e = ks.length) (hs : 0 < ks.length)
    (h : DataW.Trod enc P w 0 (fun _ => true) true t (.slice a len cap) d ps) : len ≤ maxLen ∧ ∃ X : Nat → Nat → Value, (∀ i, i < len → ∀ (j : Nat) (k : Option IntKind), ks[j]? = some k → OkV k (X i j)) ∧ Fx.Arr w a len ks.length (Fx.flat ks.length X) := by
  obtain ⟨fuel, hf⟩ := h
  obtain ⟨a', l', c', hcs, hm, _, X, hX, hA⟩ := open_rows ht hk ce hs hf
  simp [Value.cells] at hcs
  obtain ⟨rfl, rfl, rfl⟩ := hcs
  exact ⟨hm, X, hX, hA⟩
theorem Arr.cong {w : World} {a : Option Addr} {n s : Nat} {x y : Nat → Value} (h : Fx.Arr w a n s x) (e : ∀ p, p < n * s → x p = y p) : Fx.Arr w a n s y := fun h0 => by
  obtain ⟨b, off, ea, hc⟩ := h h0
  exact ⟨b, off, ea, fun i hi => by rw [← e i hi]; exact hc i hi⟩
end
end Go.Proofs.Ytjnkejgjgknllaa
namespace Go.Proofs.Ytjnkejgjgknllaa
open Go.RowKit Rt
theorem Rt.flat1 (X : Nat → Nat → Value) (p : Nat) : Fx.flat 1 X p = X p 0 := by
  show X (p / 1) (p % 1) = _
  rw [Nat.div_one, Nat.mod_one]
theorem dmost_all (a b c : Option Addr) (l l2 l3 ca cb cc : Nat) (X Y Z : Nat → Nat → Value) (w : World)
    (hX : ∀ i, i < l → ∀ (j : Nat) (k : Option IntKind), [some IntKind.u8][j]? = some k → OkV k (X i j)) (hY : ∀ i, i < l2 → ∀ (j : Nat) (k : Option IntKind), [some IntKind.u16][j]? = some k → OkV k (Y i j)) (hZ : ∀ i, i < l3 → ∀ (j : Nat) (k : Option IntKind), [(none : Option IntKind)][j]? = some k → OkV k (Z i j))
    (A : Fx.Arr w a l 1 (Fx.flat 1 X)) (B : Fx.Arr w b l2 1 (Fx.flat 1 Y)) (C : Fx.Arr w c l3 1 (Fx.flat 1 Z)) :
    Calls Try.prog 6 #[.slice a l ca, .slice b l2 cb, .slice c l3 cc] w fun e w' => e = .returned (.bool true) ∧ Below w.heap.size w w' := by
  have h1 := fun i hi => (hX i hi 0 (some .u8) rfl).num
  have h2 := fun i hi => (hY i hi 0 (some .u16) rfl).num
  have h3 := fun i hi => (hZ i hi 0 none rfl).truth
  refine dmost_any a b c l l2 l3 ca cb cc (fun i => numOf (X i 0)) (fun i => numOf (Y i 0)) (fun i => truth (Z i 0)) w (Arr.cong A fun p hp => ?_) (Arr.cong B fun p hp => ?_) (Arr.cong C fun p hp => ?_) (fun q hq => bd_u8 (h1 q hq).2) (fun q hq => bd_u16 (h2 q hq).2)
  · rw [flat1]; exact (h1 p (by omega)).1
  · rw [flat1]; exact (h2 p (by omega)).1
  · rw [flat1]; exact h3 p (by omega)
end Go.Proofs.Ytjnkejgjgknllaa
