/-
  What the proof of the law rests on, part 2: walks of functions, and plain laws; each says its conditions itself.
-/
import Derived.ChangeArms
import Derived.Test.YtjnkejgjgknllaaZP1
namespace Go.Proofs.Ytjnkejgjgknllaa
open Go.RowKit Rt
structure Rt.ThoseR (n : Nat) (W : Nat → WtM) (P : Nat → Prop) (m : Nat) (τ : Nat → Nat) : Prop where
  lt : ∀ q, q < m → τ q < n
  mem : ∀ i, i < n → P i → ∃ q, q < m ∧ τ q = i
  yes : ∀ q, q < m → P (τ q)
  up : ∀ q r, q < r → r < m → (W (τ q)).node < (W (τ r)).node
structure Rt.ThS (n : Nat) (P : Nat → Prop) (S : Nat → Bool) (m : Nat) (τ : Nat → Nat) (kk : Nat) : Prop where
  lt : ∀ q, q < m → τ q < n
  inj : ∀ q r, q < m → r < m → τ q = τ r → q = r
  mem : ∀ i, i < n → S i = true → P i → ∃ q, q < m ∧ τ q = i
  yes : ∀ q, q < m → P (τ q)
  seen : ∀ q, q < m → S (τ q) = true
  le : m + kk ≤ n
  kk : kk = Fx.unseen S n
theorem Rt.unseen_le (S : Nat → Bool) : ∀ n, Fx.unseen S n ≤ n
  | 0 => Nat.le_refl _
  | n + 1 => by
    unfold Fx.unseen
    have := unseen_le S n
    split <;> omega
section
variable {n m kk : Nat} {P : Nat → Prop} {S : Nat → Bool} {τ : Nat → Nat}
theorem Rt.ThS.start (n : Nat) (P : Nat → Prop) (τ : Nat → Nat) : ThS n P (fun _ => false) 0 τ (Fx.unseen (fun _ => false) n) :=
  ⟨fun _ h => absurd h (Nat.not_lt_zero _), fun _ _ h => absurd h (Nat.not_lt_zero _), fun _ _ h => (nomatch h), fun _ h => absurd h (Nat.not_lt_zero _), fun _ h => absurd h (Nat.not_lt_zero _), by have := unseen_le (fun _ => false) n; omega, rfl⟩
theorem Rt.ThS.skip (h : ThS n P S m τ kk) {i : Nat} (hi : i < n) (hs : S i = false) (hp : ¬ P i) : ThS n P (Fx.putI S i true) m τ (Fx.unseen (Fx.putI S i true) n) := by
  have hu := Fx.unseen_put hs n hi
  have hk := h.kk
  have hl := h.le
  refine ⟨h.lt, h.inj, fun j hj hS hP => ?_, h.yes, fun q hq => ?_, by omega, rfl⟩
  · unfold Fx.putI at hS
    split at hS
    · rename_i e; subst e; exact absurd hP hp
    · exact h.mem j hj hS hP
  · unfold Fx.putI; split
    · rfl
    · exact h.seen q hq
theorem Rt.ThS.take (h : ThS n P S m τ kk) {i : Nat} (hi : i < n) (hs : S i = false) (hp : P i) : ThS n P (Fx.putI S i true) (m + 1) (Fx.putI τ m i) (Fx.unseen (Fx.putI S i true) n) := by
  have hu := Fx.unseen_put hs n hi
  have hk := h.kk
  have hl := h.le
  have e1 : Fx.putI τ m i m = i := by unfold Fx.putI; rw [if_pos rfl]
  have e2 : ∀ q, q < m → Fx.putI τ m i q = τ q := fun q hq => by unfold Fx.putI; rw [if_neg (by omega)]
  have ne : ∀ q, q < m → τ q ≠ i := fun q hq e => by have := h.seen q hq; rw [e, hs] at this; cases this
  have two : ∀ q, q < m + 1 → q < m ∨ q = m := fun q hq => by omega
  refine ⟨fun q hq => ?_, fun q r hq hr e => ?_, fun j hj hS hP => ?_, fun q hq => ?_, fun q hq => ?_, by omega, rfl⟩
  · rcases two q hq with h1 | rfl
    · rw [e2 q h1]; exact h.lt q h1
    · rw [e1]; exact hi
  · rcases two q hq with h1 | h1 <;> rcases two r hr with h2 | h2
    · rw [e2 q h1, e2 r h2] at e; exact h.inj q r h1 h2 e
    · subst h2; rw [e2 q h1, e1] at e; exact absurd e (ne q h1)
    · subst h1; rw [e2 r h2, e1] at e; exact absurd e.symm (ne r h2)
    · omega
  · by_cases e : j = i
    · exact ⟨m, by omega, by rw [e1, e]⟩
    · unfold Fx.putI at hS
      rw [if_neg e] at hS
      obtain ⟨q, hq, hq2⟩ := h.mem j hj hS hP
      exact ⟨q, by omega, by rw [e2 q hq, hq2]⟩
  · rcases two q hq with h1 | rfl
    · rw [e2 q h1]; exact h.yes q h1
    · rw [e1]; exact hp
  · rcases two q hq with h1 | rfl
    · rw [e2 q h1]; unfold Fx.putI; split
      · rfl
      · exact h.seen q h1
    · rw [e1]; unfold Fx.putI; rw [if_pos rfl]
theorem Rt.ThS.done (h : ThS n P S m τ kk) (hall : ∀ i, i < n → S i = true) {W : Nat → WtM} {τ' : Nat → Nat} (hs : Fx.SortR (fun i => (W i).node) n m τ τ') (hd : ∀ i j, i < n → j < n → (W i).node = (W j).node → i = j) : ThoseR n W P m τ' := by
  have hmem : ∀ i, (∃ q, q < m ∧ τ' q = i) ↔ ∃ q, q < m ∧ τ q = i := fun i => by
    have := hs.perm.mem_iff (a := i)
    simpa using this
  have hnd : ((List.range m).map τ').Nodup := by
    refine (hs.perm.nodup_iff).2 ?_
    rw [List.Nodup, List.pairwise_iff_getElem]
    intro i j hi hj hij
    simp only [List.getElem_map, List.getElem_range]
    simp only [List.length_map, List.length_range] at hi hj
    exact fun e => absurd (h.inj i j hi hj e) (by omega)
  refine ⟨hs.lt, fun i hi hP => (hmem i).2 (h.mem i hi (hall i hi) hP), fun q hq => ?_, fun q r hqr hr => ?_⟩
  · obtain ⟨r, hr, e⟩ := (hmem (τ' q)).1 ⟨q, hq, rfl⟩
    rw [← e]; exact h.yes r hr
  · have h1 := hs.le q r hqr hr
    rcases Int.lt_or_eq_of_le h1 with h2 | h2
    · exact h2
    · have h3 := hd _ _ (hs.lt q (by omega)) (hs.lt r hr) h2
      rw [List.Nodup, List.pairwise_iff_getElem] at hnd
      have h4 := hnd q r (by simpa using Nat.lt_trans hqr hr) (by simpa using hr) hqr
      simp only [List.getElem_map, List.getElem_range] at h4
      exact absurd h3 h4
theorem Rt.tau_app {pb : Nat → Nat} {z : Nat → Value} {i : Nat} : ∀ j, j < (m + 1) * 1 → Fx.appX (fun q => .pointer (some ⟨pb (τ q), 0, none⟩)) (m * 1) (Fx.ovr z (0 * 1) 1 (fun _ => .pointer (some ⟨pb i, 0, none⟩))) j = .pointer (some ⟨pb (Fx.putI τ m i j), 0, none⟩) := fun j hj => by
  unfold Fx.appX Fx.ovr Fx.putI
  by_cases e : j = m
  · subst e; rw [if_neg (by omega), if_pos (by omega), if_pos rfl]
  · rw [if_pos (by omega), if_neg e]
end
theorem d_sort {w : World} {B n m cap : Nat} {a : Option Addr} {pb : Nat → Nat} {W : Nat → WtM} {τ : Nat → Nat}
    (h : Fx.Own w B 55 1 (.slice a m cap) m (fun q => .pointer (some ⟨pb (τ q), 0, none⟩))) (hτ : ∀ q, q < m → τ q < n) (hf : Fx.Fam w n pb 4 (fun i => wtc (W i)) 57) (hm : m ≤ 32) :
    Calls Try.prog 21 #[.slice a m cap, .func (.func 22) #[] #[]] w fun e w' => e = .returned (.tuple #[]) ∧ ∃ τ', Fx.SortR (fun i => (W i).node) n m τ τ' ∧ Fx.Own w' B 55 1 (.slice a m cap) m (fun q => .pointer (some ⟨pb (τ' q), 0, none⟩)) ∧ Fx.ChT [55] w w' ∧ Below B w w' :=
  Fx.sort_ptr laysS (fun args w => enters_of Try.func22 (by kernel_rfl) rfl args w) h hτ (fun w1 hct i j hi hj => d_cl_cmp (W i) (W j) _ _ w1 ((hf.chT hct rfl) i hi) ((hf.chT hct rfl) j hj)) (by omega)
theorem d_those_due (p mb n : Nat) (pb : Nat → Nat) (W : Nat → WtM) (B : Nat) (w : World) (h : DemO w B p mb n pb W) (now : Int) (nb : Nat) (hn : Fx.Blk w nb 1 (fun _ => .int .u64 now) 22) :
    Calls Try.prog 18 #[.pointer (some ⟨p, 0, none⟩), .func (.func 19) #[] #[.pointer (some ⟨nb, 0, none⟩)]] w fun e w' => ∃ a m c τ, e = .returned (.slice a m c) ∧ Fx.Own w' w.heap.size 55 1 (.slice a m c) m (fun q => .pointer (some ⟨pb (τ q), 0, none⟩)) ∧ ThoseR n W (fun i => (W i).at_ ≤ now) m τ ∧ Below w.heap.size w w' := by
 refine Fx.enter Try.func18 rfl (n := 28) rfl (by rfl) ?_
 have hbk := h.blk
 have hmp := h.map
 have hfm := h.fam
 have hij := h.inj
 have hge := h.ge
 have hgp := h.gp
 have hgm := h.gm
 have hsm := h.small
 have hok := h.ok
 have hok2 := h.ok2
 have hok3 := h.ok3
 have tp := hbk.lt
 have tm := hmp.lt
 refine Fx.W.seq (Fx.W.list (Fx.L.v (.slice none 0 0) (Fx.x_assign rfl rfl) ?_))
 refine Fx.L.nil (Fx.seqN (Fx.W.seq (Fx.W.seq (Fx.W.list (Fx.L.v (.pointer (some ⟨p, 0, none⟩)) (Fx.x_move rfl rfl) ?_)))))
 refine Fx.L.v (.bool false) (Fx.x_eqNil rfl rfl rfl (by kernel_rfl)) ?_
 refine Fx.L.nil (Fx.seqN (Fx.W.cond (b := false) rfl (fun h => nomatch h) (fun _ => Fx.W.skip (Fx.seqN (Fx.W.seq (Fx.W.seq (Fx.W.list (Fx.L.v (.pointer (some ⟨p, 0, none⟩)) (Fx.x_move rfl rfl) ?_))))))))
 refine Fx.L.v (.pointer (some ⟨p, 0, none⟩)) (Fx.x_nil rfl rfl) ?_
 refine Fx.L.v (.pointer (some ⟨p, 0, none⟩)) (Fx.x_field rfl rfl Try.underlying54 rfl (s := 1) (by kernel_rfl) rfl rfl) ?_
 refine Fx.L.v (.map (some mb)) (Fx.x_load1 (x := fun _ => .map (some mb)) rfl rfl (by kernel_rfl) hbk.cel (i := 0) (by omega) (by omega) rfl) ?_
 refine Fx.L.range (by rfl) rfl rfl rfl hmp Try.underlying52 fun g1 w1 eg1 m1 s1 z1 => ?_
 have m2 := hbk.stp s1 (Nat.ne_of_lt (hbk.lt))
 have m3 := hmp.up s1.old
 have m4 := hfm.up s1.old
 have m5 := hn.stp s1 (Nat.ne_of_lt (hn.lt))
 have b1 := s1.below (Below.refl w.heap.size w) (Below.refl w.heap.size w).size (Below.refl w.heap.size w).size
 have lg1 : w.heap.size ≤ g1 := by rw [eg1]; exact (Below.refl w.heap.size w).size
 have tg1 : g1 < w1.heap.size := m1.lt
 clear eg1
 refine Fx.L.nil (Fx.seqN (Fx.W.block ?_))
 have m6 : Fx.Own w1 w.heap.size 55 1 (.slice none 0 0) 0 (fun q => .pointer (some ⟨pb ((fun _ => 0 : Nat → Nat) q), 0, none⟩)) := Fx.Own.nil _ _ _ _ _
 refine Fx.W.loopE (fun kk f w_ => ∃ m : Nat, ∃ τ : Nat → Nat, ∃ S : Nat → Bool, ∃ a : Option Addr, ∃ cap : Nat, ThS n (fun i => (W i).at_ ≤ now) S m τ kk ∧ f 0 = .pointer (some ⟨p, 0, none⟩) ∧ f 1 = .func (.func 19) #[] #[.pointer (some ⟨nb, 0, none⟩)] ∧ f 4 = .slice a (m) (cap) ∧ f 13 = .pointer (some ⟨g1, 0, none⟩) ∧ Fx.Blk w_ p 1 (fun _ => .map (some mb)) 54 ∧ Fx.Mp w_ mb n (fun i => (W i).node) (fun i => .pointer (some ⟨pb i, 0, none⟩)) ∧ Fx.Fam w_ n pb 4 (fun i => wtc (W i)) 57 ∧ Fx.Blk w_ nb 1 (fun _ => .int .u64 now) 22 ∧ Fx.It w_ g1 mb n S ∧ Fx.Own w_ w.heap.size 55 1 (.slice a (m) (cap)) m (fun q => .pointer (some ⟨pb (τ q), 0, none⟩)) ∧ Below w.heap.size w w_) (Fx.unseen (fun _ => false) n) ⟨0, (fun _ => 0), (fun _ => false), none, 0, (ThS.start n _ _), (by rfl), (by rfl), (by rfl), (by rfl), m2, m3, m4, m5, m1, m6, b1⟩ ?_
 rintro kk f1 w2 ⟨m, τ, S, a, cap, hth, h1, h2, h3, h4, m7, m8, m9, m10, m11, m12, b2⟩
 have hml := hth.le
 refine Fx.W.seq (Fx.W.list (Fx.L.next (by rfl) rfl rfl h4 m8 m11 (fun hall1 => ?_) (fun it1 w3 hi1 hS1 m13 mc1 s2 z2 => ?_)))
 ·skip
  refine Fx.L.v (.bool false) (Fx.x_extract rfl rfl rfl) ?_
  refine Fx.L.nil (Fx.seqN (Fx.W.seq (Fx.W.cond (b := false) rfl (fun h => nomatch h) (fun _ => Fx.W.exit (Fx.seqX (Fx.lpX (Fx.blkX (Fx.seqN (Fx.W.seq (Fx.W.list (Fx.L.v (.slice a (m) (cap)) (Fx.x_move rfl h3) ?_)))))))))))
  refine Fx.L.call (by rfl) (Fx.r_call (args := [.slice a (m) (cap), .func (.func 22) #[] #[]]) rfl rfl Try.func21 rfl rfl) rfl ((d_sort m12 hth.lt m9 (by omega)).mono ?_)
  rintro e9 w4 ⟨he, τ2, hsr1, m14, hct1, hb1⟩
  refine ⟨_, he, ?_⟩
  clear he
  have b3 := b2.trans hb1
  refine Fx.L.nil (Fx.seqN (Fx.W.seq (Fx.W.list (Fx.L.v (.slice a (m) (cap)) (Fx.x_move rfl h3) ?_))))
  refine Fx.L.v (.slice a (m) (cap)) (Fx.x_assign rfl rfl) ?_
  refine Fx.L.nil (Fx.seqN (Fx.W.ret (⟨.slice a (m) (cap), Fx.retV1 Try.results18 (by exact rfl), ?_⟩)))
  exact ⟨a, m, cap, τ2, rfl, m14, hth.done hall1 hsr1 h.dist, b3⟩
 ·skip
  have hcm1 := m11.chm s2
  have m15 := m7.chM hcm1
  have m16 := m8.chM hcm1 (m11.rb.symm)
  have m17 := m9.chM hcm1
  have m18 := m10.chM hcm1
  have m19 := m12.chM hcm1
  have b4 := s2.below b2 b2.size (by omega)
  refine Fx.L.v (.bool true) (Fx.x_extract rfl rfl rfl) ?_
  refine Fx.L.nil (Fx.seqN (Fx.W.seq (Fx.W.cond (b := true) rfl (fun _ => Fx.W.skip (Fx.seqN (Fx.W.block (Fx.W.seq (Fx.W.list (Fx.L.v (.tuple #[.int .u64 ((W it1).node), .pointer (some ⟨pb it1, 0, none⟩)]) (Fx.x_entry (key := fun i => (W i).node) (val := fun i => .pointer (some ⟨pb i, 0, none⟩)) (i := it1) rfl h4 m16 mc1 hi1) ?_)))))) (fun h => nomatch h))))
  refine Fx.L.v (.pointer (some ⟨pb it1, 0, none⟩)) (Fx.x_extract rfl rfl rfl) ?_
  refine Fx.L.v (.pointer (some ⟨pb it1, 0, none⟩)) (Fx.x_assign rfl rfl) ?_
  refine Fx.L.nil (Fx.seqN (Fx.W.seq (Fx.W.list (Fx.L.v (.func (.func 19) #[] #[.pointer (some ⟨nb, 0, none⟩)]) (Fx.x_move rfl h2) ?_))))
  refine Fx.L.v (.pointer (some ⟨pb it1, 0, none⟩)) (Fx.x_move rfl rfl) ?_
  by_cases c20 : (decide ((W it1).at_ ≤ now)) = true
  ·refine Fx.L.call (by rfl) (Fx.r_clo (args := [.pointer (some ⟨pb it1, 0, none⟩)]) rfl rfl rfl (all := #[.pointer (some ⟨pb it1, 0, none⟩), .pointer (some ⟨nb, 0, none⟩)]) rfl Try.func19 rfl rfl) rfl ((d_cl_due (W it1) now (pb it1) nb _ (m17 it1 hi1) m18).mono ?_)
   rintro e w5 ⟨he, hb2⟩
   refine ⟨.bool true, by rw [he, c20], ?_⟩
   clear he
   have s3 := Fx.Stp.of_below hb2
   have m20 := m15.stp s3 (Nat.ne_of_lt (m15.lt))
   have m21 := m16.up s3.old
   have m22 := m17.up s3.old
   have m23 := m18.stp s3 (Nat.ne_of_lt (m18.lt))
   have m24 := m19.stp s3 (m19.notNew (Nat.le_refl _))
   have m25 := mc1.up s3.old
   have m26 := m13.up s3.old
   have b5 := s3.below b4 b4.size b4.size
   refine Fx.L.nil (Fx.seqN (Fx.W.cond (b := true) rfl (fun _ => Fx.W.list (Fx.L.v (.slice a (m) (cap)) (Fx.x_move rfl h3) ?_)) (fun h => nomatch h)))
   refine Fx.L.v (.pointer (some ⟨pb it1, 0, none⟩)) (Fx.x_move rfl rfl) ?_
   refine Fx.L.bslice (vs := [(0, .pointer (some ⟨pb it1, 0, none⟩))]) (s := 1) (zc := fun _ => .pointer none) (y := Fx.ovr (fun j => .pointer none) (0 * 1) 1 (fun _ => .pointer (some ⟨pb it1, 0, none⟩))) (by rfl) rfl rfl Try.underlying58 (by kernel_rfl) (by rfl) (by rfl) (by kernel_rfl) (by rw [Fx.fill_step (off := 0 * 1) (s := 1) (y := fun _ => .pointer (some ⟨pb it1, 0, none⟩)) rfl (Fx.cells_one (by rfl)) (by rfl)]; rfl) rfl fun g2 w6 eg2 m27 s4 z3 => ?_
   have m28 := m20.stp s4 (Nat.ne_of_lt (m20.lt))
   have m29 := m21.up s4.old
   have m30 := m22.up s4.old
   have m31 := m23.stp s4 (Nat.ne_of_lt (m23.lt))
   have m32 := m24.stp s4 (m24.notNew (Nat.le_refl _))
   have m33 := m25.up s4.old
   have m34 := m26.up s4.old
   have b6 := s4.below b5 b5.size b5.size
   have lg2 : w.heap.size ≤ g2 := by rw [eg2]; exact b5.size
   have ng2m28 : p ≠ g2 := by rw [eg2]; exact Nat.ne_of_lt (m20.lt)
   have ng2m29 : mb ≠ g2 := by rw [eg2]; exact Nat.ne_of_lt (m21.lt)
   have ng2m31 : nb ≠ g2 := by rw [eg2]; exact Nat.ne_of_lt (m23.lt)
   have ng2m32 : (.slice a (m) (cap) : Value).ownBlock ≠ some g2 := by rw [eg2]; exact m24.notNew (Nat.le_refl _)
   have tg2 : g2 < w6.heap.size := m27.lt
   clear eg2
   refine Fx.L.app (B := w.heap.size) (s := 1) (bytes := 8) (k := m) (m := 1) (v := .slice a (m) (cap)) (x := fun q => .pointer (some ⟨pb (τ q), 0, none⟩)) (by rfl) rfl rfl rfl Try.underlying58 (by kernel_rfl) (by kernel_rfl) rfl rfl m32 m27.cel (fun j hj => by unfold Fx.ovr; split <;> rfl) (by omega) (by omega) (by omega) b6.size fun g3 cap1 w7 ho1 hg1 hgv1 hlt1 => ?_
   have hct2 := Fx.ChT.of_grown hg1 m32
   have m36 := m28.chT hct2 (by decide)
   have m37 := m29.chT hct2 (by decide)
   have m38 := m30.chT hct2 (by decide)
   have m39 := m31.chT hct2 (by decide)
   have m40 := m33.chT hct2 (by decide)
   have m41 := m34.chT hct2 (by decide)
   have m35 : Fx.Own w7 w.heap.size 55 1 (.slice (some ⟨g3, 0, none⟩) (m + 1) cap1) (m + 1) (fun q => .pointer (some ⟨pb (Fx.putI τ m it1 q), 0, none⟩)) := (ho1.congr tau_app)
   have b7 : Below w.heap.size w w7 := Fx.Below.grow b6 hg1 b6.size (fun q hq => (m32.ge hq).1)
   refine Fx.L.v (.slice (some ⟨g3, 0, none⟩) (m + 1) (cap1)) (Fx.x_assign rfl rfl) ?_
   refine Fx.L.nil (Fx.blkN ?_)
   skip
   refine Fx.lpN ⟨Fx.unseen (Fx.putI S it1 true) n, (by have h1 := Fx.unseen_put hS1 n hi1; have h2 := hth.kk; omega), m + 1, Fx.putI τ m it1, Fx.putI S it1 true, (some ⟨g3, 0, none⟩), cap1, (hth.take hi1 hS1 (of_decide_eq_true c20)), h1, h2, (by rfl), h4, m36, m37, m38, m39, m41, m35, b7⟩ (by decide)
  ·rw [Bool.not_eq_true] at c20
   refine Fx.L.call (by rfl) (Fx.r_clo (args := [.pointer (some ⟨pb it1, 0, none⟩)]) rfl rfl rfl (all := #[.pointer (some ⟨pb it1, 0, none⟩), .pointer (some ⟨nb, 0, none⟩)]) rfl Try.func19 rfl rfl) rfl ((d_cl_due (W it1) now (pb it1) nb _ (m17 it1 hi1) m18).mono ?_)
   rintro e w8 ⟨he, hb3⟩
   refine ⟨.bool false, by rw [he, c20], ?_⟩
   clear he
   have s5 := Fx.Stp.of_below hb3
   have m42 := m15.stp s5 (Nat.ne_of_lt (m15.lt))
   have m43 := m16.up s5.old
   have m44 := m17.up s5.old
   have m45 := m18.stp s5 (Nat.ne_of_lt (m18.lt))
   have m46 := m19.stp s5 (m19.notNew (Nat.le_refl _))
   have m47 := mc1.up s5.old
   have m48 := m13.up s5.old
   have b8 := s5.below b4 b4.size b4.size
   refine Fx.L.nil (Fx.seqN (Fx.W.cond (b := false) rfl (fun h => nomatch h) (fun _ => Fx.W.skip (Fx.blkN ?_))))
   skip
   refine Fx.lpN ⟨Fx.unseen (Fx.putI S it1 true) n, (by have h1 := Fx.unseen_put hS1 n hi1; have h2 := hth.kk; omega), m, τ, Fx.putI S it1 true, a, cap, (hth.skip hi1 hS1 (of_decide_eq_false c20)), h1, h2, h3, h4, m42, m43, m44, m45, m48, m46, b8⟩ (by decide)
theorem d_those_list (p mb n : Nat) (pb : Nat → Nat) (W : Nat → WtM) (B : Nat) (w : World) (h : DemO w B p mb n pb W) :
    Calls Try.prog 18 #[.pointer (some ⟨p, 0, none⟩), .func (.func 20) #[] #[]] w fun e w' => ∃ a m c τ, e = .returned (.slice a m c) ∧ Fx.Own w' w.heap.size 55 1 (.slice a m c) m (fun q => .pointer (some ⟨pb (τ q), 0, none⟩)) ∧ ThoseR n W (fun i => True) m τ ∧ Below w.heap.size w w' := by
 refine Fx.enter Try.func18 rfl (n := 28) rfl (by rfl) ?_
 have hbk := h.blk
 have hmp := h.map
 have hfm := h.fam
 have hij := h.inj
 have hge := h.ge
 have hgp := h.gp
 have hgm := h.gm
 have hsm := h.small
 have hok := h.ok
 have hok2 := h.ok2
 have hok3 := h.ok3
 have tp := hbk.lt
 have tm := hmp.lt
 refine Fx.W.seq (Fx.W.list (Fx.L.v (.slice none 0 0) (Fx.x_assign rfl rfl) ?_))
 refine Fx.L.nil (Fx.seqN (Fx.W.seq (Fx.W.seq (Fx.W.list (Fx.L.v (.pointer (some ⟨p, 0, none⟩)) (Fx.x_move rfl rfl) ?_)))))
 refine Fx.L.v (.bool false) (Fx.x_eqNil rfl rfl rfl (by kernel_rfl)) ?_
 refine Fx.L.nil (Fx.seqN (Fx.W.cond (b := false) rfl (fun h => nomatch h) (fun _ => Fx.W.skip (Fx.seqN (Fx.W.seq (Fx.W.seq (Fx.W.list (Fx.L.v (.pointer (some ⟨p, 0, none⟩)) (Fx.x_move rfl rfl) ?_))))))))
 refine Fx.L.v (.pointer (some ⟨p, 0, none⟩)) (Fx.x_nil rfl rfl) ?_
 refine Fx.L.v (.pointer (some ⟨p, 0, none⟩)) (Fx.x_field rfl rfl Try.underlying54 rfl (s := 1) (by kernel_rfl) rfl rfl) ?_
 refine Fx.L.v (.map (some mb)) (Fx.x_load1 (x := fun _ => .map (some mb)) rfl rfl (by kernel_rfl) hbk.cel (i := 0) (by omega) (by omega) rfl) ?_
 refine Fx.L.range (by rfl) rfl rfl rfl hmp Try.underlying52 fun g1 w1 eg1 m1 s1 z1 => ?_
 have m2 := hbk.stp s1 (Nat.ne_of_lt (hbk.lt))
 have m3 := hmp.up s1.old
 have m4 := hfm.up s1.old
 have b1 := s1.below (Below.refl w.heap.size w) (Below.refl w.heap.size w).size (Below.refl w.heap.size w).size
 have lg1 : w.heap.size ≤ g1 := by rw [eg1]; exact (Below.refl w.heap.size w).size
 have tg1 : g1 < w1.heap.size := m1.lt
 clear eg1
 refine Fx.L.nil (Fx.seqN (Fx.W.block ?_))
 have m5 : Fx.Own w1 w.heap.size 55 1 (.slice none 0 0) 0 (fun q => .pointer (some ⟨pb ((fun _ => 0 : Nat → Nat) q), 0, none⟩)) := Fx.Own.nil _ _ _ _ _
 refine Fx.W.loopE (fun kk f w_ => ∃ m : Nat, ∃ τ : Nat → Nat, ∃ S : Nat → Bool, ∃ a : Option Addr, ∃ cap : Nat, ThS n (fun i => True) S m τ kk ∧ f 0 = .pointer (some ⟨p, 0, none⟩) ∧ f 1 = .func (.func 20) #[] #[] ∧ f 4 = .slice a (m) (cap) ∧ f 13 = .pointer (some ⟨g1, 0, none⟩) ∧ Fx.Blk w_ p 1 (fun _ => .map (some mb)) 54 ∧ Fx.Mp w_ mb n (fun i => (W i).node) (fun i => .pointer (some ⟨pb i, 0, none⟩)) ∧ Fx.Fam w_ n pb 4 (fun i => wtc (W i)) 57 ∧ Fx.It w_ g1 mb n S ∧ Fx.Own w_ w.heap.size 55 1 (.slice a (m) (cap)) m (fun q => .pointer (some ⟨pb (τ q), 0, none⟩)) ∧ Below w.heap.size w w_) (Fx.unseen (fun _ => false) n) ⟨0, (fun _ => 0), (fun _ => false), none, 0, (ThS.start n _ _), (by rfl), (by rfl), (by rfl), (by rfl), m2, m3, m4, m1, m5, b1⟩ ?_
 rintro kk f1 w2 ⟨m, τ, S, a, cap, hth, h1, h2, h3, h4, m6, m7, m8, m9, m10, b2⟩
 have hml := hth.le
 refine Fx.W.seq (Fx.W.list (Fx.L.next (by rfl) rfl rfl h4 m7 m9 (fun hall1 => ?_) (fun it1 w3 hi1 hS1 m11 mc1 s2 z2 => ?_)))
 ·skip
  refine Fx.L.v (.bool false) (Fx.x_extract rfl rfl rfl) ?_
  refine Fx.L.nil (Fx.seqN (Fx.W.seq (Fx.W.cond (b := false) rfl (fun h => nomatch h) (fun _ => Fx.W.exit (Fx.seqX (Fx.lpX (Fx.blkX (Fx.seqN (Fx.W.seq (Fx.W.list (Fx.L.v (.slice a (m) (cap)) (Fx.x_move rfl h3) ?_)))))))))))
  refine Fx.L.call (by rfl) (Fx.r_call (args := [.slice a (m) (cap), .func (.func 22) #[] #[]]) rfl rfl Try.func21 rfl rfl) rfl ((d_sort m10 hth.lt m8 (by omega)).mono ?_)
  rintro e9 w4 ⟨he, τ2, hsr1, m12, hct1, hb1⟩
  refine ⟨_, he, ?_⟩
  clear he
  have b3 := b2.trans hb1
  refine Fx.L.nil (Fx.seqN (Fx.W.seq (Fx.W.list (Fx.L.v (.slice a (m) (cap)) (Fx.x_move rfl h3) ?_))))
  refine Fx.L.v (.slice a (m) (cap)) (Fx.x_assign rfl rfl) ?_
  refine Fx.L.nil (Fx.seqN (Fx.W.ret (⟨.slice a (m) (cap), Fx.retV1 Try.results18 (by exact rfl), ?_⟩)))
  exact ⟨a, m, cap, τ2, rfl, m12, hth.done hall1 hsr1 h.dist, b3⟩
 ·skip
  have hcm1 := m9.chm s2
  have m13 := m6.chM hcm1
  have m14 := m7.chM hcm1 (m9.rb.symm)
  have m15 := m8.chM hcm1
  have m16 := m10.chM hcm1
  have b4 := s2.below b2 b2.size (by omega)
  refine Fx.L.v (.bool true) (Fx.x_extract rfl rfl rfl) ?_
  refine Fx.L.nil (Fx.seqN (Fx.W.seq (Fx.W.cond (b := true) rfl (fun _ => Fx.W.skip (Fx.seqN (Fx.W.block (Fx.W.seq (Fx.W.list (Fx.L.v (.tuple #[.int .u64 ((W it1).node), .pointer (some ⟨pb it1, 0, none⟩)]) (Fx.x_entry (key := fun i => (W i).node) (val := fun i => .pointer (some ⟨pb i, 0, none⟩)) (i := it1) rfl h4 m14 mc1 hi1) ?_)))))) (fun h => nomatch h))))
  refine Fx.L.v (.pointer (some ⟨pb it1, 0, none⟩)) (Fx.x_extract rfl rfl rfl) ?_
  refine Fx.L.v (.pointer (some ⟨pb it1, 0, none⟩)) (Fx.x_assign rfl rfl) ?_
  refine Fx.L.nil (Fx.seqN (Fx.W.seq (Fx.W.list (Fx.L.v (.func (.func 20) #[] #[]) (Fx.x_move rfl h2) ?_))))
  refine Fx.L.v (.pointer (some ⟨pb it1, 0, none⟩)) (Fx.x_move rfl rfl) ?_
  refine Fx.L.call (by rfl) (Fx.r_clo (args := [.pointer (some ⟨pb it1, 0, none⟩)]) rfl rfl rfl (all := #[.pointer (some ⟨pb it1, 0, none⟩)]) rfl Try.func20 rfl rfl) rfl ((d_cl_list _ _).mono ?_)
  rintro e v1 ⟨he, hv1⟩
  subst v1
  refine ⟨.bool true, by rw [he], ?_⟩
  clear he
  refine Fx.L.nil (Fx.seqN (Fx.W.cond (b := true) rfl (fun _ => Fx.W.list (Fx.L.v (.slice a (m) (cap)) (Fx.x_move rfl h3) ?_)) (fun h => nomatch h)))
  refine Fx.L.v (.pointer (some ⟨pb it1, 0, none⟩)) (Fx.x_move rfl rfl) ?_
  refine Fx.L.bslice (vs := [(0, .pointer (some ⟨pb it1, 0, none⟩))]) (s := 1) (zc := fun _ => .pointer none) (y := Fx.ovr (fun j => .pointer none) (0 * 1) 1 (fun _ => .pointer (some ⟨pb it1, 0, none⟩))) (by rfl) rfl rfl Try.underlying58 (by kernel_rfl) (by rfl) (by rfl) (by kernel_rfl) (by rw [Fx.fill_step (off := 0 * 1) (s := 1) (y := fun _ => .pointer (some ⟨pb it1, 0, none⟩)) rfl (Fx.cells_one (by rfl)) (by rfl)]; rfl) rfl fun g2 w5 eg2 m17 s3 z3 => ?_
  have m18 := m13.stp s3 (Nat.ne_of_lt (m13.lt))
  have m19 := m14.up s3.old
  have m20 := m15.up s3.old
  have m21 := m16.stp s3 (m16.notNew (Nat.le_refl _))
  have m22 := mc1.up s3.old
  have m23 := m11.up s3.old
  have b5 := s3.below b4 b4.size b4.size
  have lg2 : w.heap.size ≤ g2 := by rw [eg2]; exact b4.size
  have ng2m18 : p ≠ g2 := by rw [eg2]; exact Nat.ne_of_lt (m13.lt)
  have ng2m19 : mb ≠ g2 := by rw [eg2]; exact Nat.ne_of_lt (m14.lt)
  have ng2m21 : (.slice a (m) (cap) : Value).ownBlock ≠ some g2 := by rw [eg2]; exact m16.notNew (Nat.le_refl _)
  have tg2 : g2 < w5.heap.size := m17.lt
  clear eg2
  refine Fx.L.app (B := w.heap.size) (s := 1) (bytes := 8) (k := m) (m := 1) (v := .slice a (m) (cap)) (x := fun q => .pointer (some ⟨pb (τ q), 0, none⟩)) (by rfl) rfl rfl rfl Try.underlying58 (by kernel_rfl) (by kernel_rfl) rfl rfl m21 m17.cel (fun j hj => by unfold Fx.ovr; split <;> rfl) (by omega) (by omega) (by omega) b5.size fun g3 cap1 w6 ho1 hg1 hgv1 hlt1 => ?_
  have hct2 := Fx.ChT.of_grown hg1 m21
  have m25 := m18.chT hct2 (by decide)
  have m26 := m19.chT hct2 (by decide)
  have m27 := m20.chT hct2 (by decide)
  have m28 := m22.chT hct2 (by decide)
  have m29 := m23.chT hct2 (by decide)
  have m24 : Fx.Own w6 w.heap.size 55 1 (.slice (some ⟨g3, 0, none⟩) (m + 1) cap1) (m + 1) (fun q => .pointer (some ⟨pb (Fx.putI τ m it1 q), 0, none⟩)) := (ho1.congr tau_app)
  have b6 : Below w.heap.size w w6 := Fx.Below.grow b5 hg1 b5.size (fun q hq => (m21.ge hq).1)
  refine Fx.L.v (.slice (some ⟨g3, 0, none⟩) (m + 1) (cap1)) (Fx.x_assign rfl rfl) ?_
  refine Fx.L.nil (Fx.blkN ?_)
  skip
  refine Fx.lpN ⟨Fx.unseen (Fx.putI S it1 true) n, (by have h1 := Fx.unseen_put hS1 n hi1; have h2 := hth.kk; omega), m + 1, Fx.putI τ m it1, Fx.putI S it1 true, (some ⟨g3, 0, none⟩), cap1, (hth.take hi1 hS1 trivial), h1, h2, (by rfl), h4, m25, m26, m27, m29, m24, b6⟩ (by decide)
end Go.Proofs.Ytjnkejgjgknllaa
namespace Go.Proofs.Ytjnkejgjgknllaa
open Go.RowKit Rt
namespace Rt
def mnZ (a b : Int) : Int := if b < a then b else a
def bumpW (now : Int) (u : WtM) : WtM := ⟨u.node, u.amt, now + u.wait, mnZ (2 * u.wait) 16⟩
def dueW (now : Int) (u : WtM) : WtM := if u.at_ ≤ now then bumpW now u else u
theorem dueW_node (now : Int) (u : WtM) : (dueW now u).node = u.node := by unfold dueW; split <;> rfl
theorem mnZ_bd (a : Int) (h1 : 1 ≤ a) (h2 : a ≤ 16) : 1 ≤ mnZ (2 * a) 16 ∧ mnZ (2 * a) 16 ≤ 16 := by unfold mnZ; split <;> omega
theorem dueW_ok (now : Int) (u : WtM) (h1 : 1 ≤ u.wait) (h2 : u.wait ≤ 16) : 1 ≤ (dueW now u).wait ∧ (dueW now u).wait ≤ 16 := by
  unfold dueW; split
  · exact mnZ_bd _ h1 h2
  · exact ⟨h1, h2⟩
theorem dueW_ok3 (now : Int) {u : WtM} (h : WtOk u) : WtOk (dueW now u) := by unfold dueW; split <;> exact h
theorem ThoseR.inj {n m : Nat} {W : Nat → WtM} {P : Nat → Prop} {τ : Nat → Nat} (h : ThoseR n W P m τ) {q r : Nat} (hq : q < m) (hr : r < m) (e : τ q = τ r) : q = r := by
  rcases Nat.lt_trichotomy q r with h1 | h1 | h1
  · have := h.up q r h1 hr; rw [e] at this; omega
  · exact h1
  · have := h.up r q h1 hq; rw [e] at this; omega
theorem due_app {W V : Nat → WtM} {τ : Nat → Nat} {k : Nat} {z : Nat → Value} (hk : V (τ k) = W (τ k)) : ∀ j, j < (k + 1) * 2 → Fx.appX (Fx.flat 2 fun q => wtc (W (τ q))) (k * 2) (Fx.ovr z (0 * 2) 2 (fun j => wtc (V (τ k)) (0 + j))) j = Fx.flat 2 (fun q => wtc (W (τ q))) j := fun j hj => by
  unfold Fx.appX Fx.ovr
  by_cases e : j < k * 2
  · rw [if_pos e]
  · rw [if_neg e, if_pos (by omega), hk]
    show _ = wtc (W (τ (j / 2))) (j % 2)
    rw [show j / 2 = k by omega, show j % 2 = 0 + (j - k * 2 - 0 * 2) by omega]
theorem due_v1 {n m k : Nat} {W V : Nat → WtM} {P : Nat → Prop} {τ : Nat → Nat} {now : Int} {u1 u2 : WtM} (h : ThoseR n W P m τ) (hkm : k < m) (hv : ∀ q, q < k → V (τ q) = bumpW now (W (τ q))) (hu : u2 = bumpW now (W (τ k))) : ∀ q, q < k + 1 → Fx.putI (Fx.putI V (τ k) u1) (τ k) u2 (τ q) = bumpW now (W (τ q)) := fun q hq => by
  unfold Fx.putI
  by_cases e : q = k
  · subst e; rw [if_pos rfl]; exact hu
  · have ne : τ q ≠ τ k := fun e2 => e (h.inj (by omega) hkm e2)
    rw [if_neg ne, if_neg ne]; exact hv q (by omega)
theorem due_v2 {k : Nat} {W V : Nat → WtM} {τ : Nat → Nat} {u1 u2 : WtM} (hv : ∀ i, (∀ q, q < k → τ q ≠ i) → V i = W i) : ∀ i, (∀ q, q < k + 1 → τ q ≠ i) → Fx.putI (Fx.putI V (τ k) u1) (τ k) u2 i = W i := fun i hi => by
  unfold Fx.putI
  have ne : i ≠ τ k := fun e => hi k (by omega) e.symm
  rw [if_neg ne, if_neg ne]; exact hv i fun q hq => hi q (by omega)
theorem due_v {n m : Nat} {W V : Nat → WtM} {τ : Nat → Nat} {now : Int} (h : ThoseR n W (fun i => (W i).at_ ≤ now) m τ) (h1 : ∀ q, q < m → V (τ q) = bumpW now (W (τ q))) (h2 : ∀ i, (∀ q, q < m → τ q ≠ i) → V i = W i) : ∀ i, i < n → V i = dueW now (W i) := fun i hi => by
  unfold dueW
  by_cases e : (W i).at_ ≤ now
  · rw [if_pos e]
    obtain ⟨q, hq, rfl⟩ := h.mem i hi e
    exact h1 q hq
  · rw [if_neg e]
    exact h2 i fun q hq e2 => e (e2 ▸ h.yes q hq)
inductive DoneR (n : Nat) (W : Nat → WtM) (node : Int) : Bool → Nat → (Nat → WtM) → Prop
  | no (hn : ∀ i, i < n → (W i).node ≠ node) : DoneR n W node false n W
  | yes (j : Nat) (hj : j < n) (e : (W j).node = node) : DoneR n W node true (n - 1) (Fx.delI W j)
theorem delI_inj {n j : Nat} {pb : Nat → Nat} (h : ∀ i k, i < n → k < n → pb i = pb k → i = k) : ∀ i k, i < n - 1 → k < n - 1 → Fx.delI pb j i = Fx.delI pb j k → i = k := fun i k hi hk e => by
  unfold Fx.delI at e
  split at e <;> split at e
  · exact h i k (by omega) (by omega) e
  · have := h i (k + 1) (by omega) (by omega) e; omega
  · have := h (i + 1) k (by omega) (by omega) e; omega
  · have := h (i + 1) (k + 1) (by omega) (by omega) e; omega
theorem delI_all {α : Type} {n j : Nat} {f : Nat → α} {p : α → Prop} (h : ∀ i, i < n → p (f i)) : ∀ i, i < n - 1 → p (Fx.delI f j i) := fun i hi => by
  unfold Fx.delI
  split
  · exact h i (by omega)
  · exact h (i + 1) (by omega)
theorem delI_node (W : Nat → WtM) (j i : Nat) : (Fx.delI W j i).node = Fx.delI (fun i => (W i).node) j i := by unfold Fx.delI; split <;> rfl
theorem delI_ptr (pb : Nat → Nat) (j i : Nat) : (.pointer (some ⟨Fx.delI pb j i, 0, none⟩) : Value) = Fx.delI (fun i => (.pointer (some ⟨pb i, 0, none⟩) : Value)) j i := by unfold Fx.delI; split <;> rfl
end Rt
theorem Rt.nodup_len : ∀ {l r : List Nat}, l.Nodup → l ⊆ r → l.length ≤ r.length
  | [], _, _, _ => Nat.zero_le _
  | a :: l, r, hn, hs => by
    rw [List.nodup_cons] at hn
    have h1 : a ∈ r := hs (List.mem_cons_self ..)
    have h2 := nodup_len (l := l) (r := r.erase a) hn.2 fun x hx => (List.mem_erase_of_ne (fun e => hn.1 (by rw [← e]; exact hx))).2 (hs (List.mem_cons_of_mem _ hx))
    rw [List.length_erase_of_mem h1] at h2
    have := List.length_pos_of_mem h1
    simp only [List.length_cons]; omega
theorem Rt.those_le {n m : Nat} {W : Nat → WtM} {P : Nat → Prop} {τ : Nat → Nat} (h : ThoseR n W P m τ) : m ≤ n := by
  have h1 : ((List.range m).map τ).Nodup := by
    rw [List.Nodup, List.pairwise_iff_getElem]
    intro i j hi hj hij
    simp only [List.getElem_map, List.getElem_range]
    simp only [List.length_map, List.length_range] at hi hj
    exact fun e => absurd (h.inj hi hj e) (by omega)
  have h2 : ((List.range m).map τ) ⊆ List.range n := fun x hx => by
    simp only [List.mem_map, List.mem_range] at hx
    obtain ⟨q, hq, rfl⟩ := hx
    exact List.mem_range.2 (h.lt q hq)
  have h3 := nodup_len h1 h2
  simpa using h3
theorem d_due (now : Int) (p mb n : Nat) (pb : Nat → Nat) (W : Nat → WtM) (B : Nat) (w : World) (h : DemO w B p mb n pb W) (hn0 : 0 ≤ now) (hn2 : now ≤ 4611686018427387904) :
    Calls Try.prog 10 #[.pointer (some ⟨p, 0, none⟩), .int .u64 (now)] w fun e w' => ∃ a m c τ, e = .returned (.slice a m c) ∧ Fx.Own w' w.heap.size 31 2 (.slice a m c) m (Fx.flat 2 fun q => wtc (W (τ q))) ∧ ThoseR n W (fun i => (W i).at_ ≤ now) m τ ∧ DemO w' B p mb n pb (fun i => dueW now (W i)) ∧ Fx.Chg (demS mb n pb) w w' := by
 refine Fx.enter Try.func10 rfl (n := 42) rfl (by rfl) ?_
 have hbk := h.blk
 have hmp := h.map
 have hfm := h.fam
 have hij := h.inj
 have hge := h.ge
 have hgp := h.gp
 have hgm := h.gm
 have hsm := h.small
 have hok := h.ok
 have hok2 := h.ok2
 have hok3 := h.ok3
 have tp := hbk.lt
 have tm := hmp.lt
 have hm32 : ∀ {m : Nat} {P : Nat → Prop} {τ : Nat → Nat}, ThoseR n W P m τ → m ≤ 32 := fun hth => Nat.le_trans (those_le hth) hsm
 refine Fx.W.seq (Fx.W.list (Fx.L.box (m := 1) (y := fun _ => .int .u64 (now)) (by rfl) rfl rfl (Fx.cells_one (by rfl)) rfl fun g1 w1 eg1 m1 s1 z1 => ?_))
 have m2 := hbk.stp s1 (Nat.ne_of_lt (hbk.lt))
 have m3 := hmp.up s1.old
 have m4 := hfm.up s1.old
 have b1 := (Fx.Chg.refl (demS mb n pb) w).then s1 (.inr (Fx.Chg.refl (demS mb n pb) w).size)
 have lg1 : w.heap.size ≤ g1 := by rw [eg1]; exact (Fx.Chg.refl (demS mb n pb) w).size
 have ng1m2 : p ≠ g1 := by rw [eg1]; exact Nat.ne_of_lt (hbk.lt)
 have ng1m3 : mb ≠ g1 := by rw [eg1]; exact Nat.ne_of_lt (hmp.lt)
 have tg1 : g1 < w1.heap.size := m1.lt
 clear eg1
 refine Fx.L.v (.slice none 0 0) (Fx.x_assign rfl rfl) ?_
 refine Fx.L.nil (Fx.seqN (Fx.W.seq (Fx.W.seq (Fx.W.list (Fx.L.v (.pointer (some ⟨p, 0, none⟩)) (Fx.x_move rfl rfl) ?_)))))
 refine Fx.L.v (.func (.func 19) #[] #[.pointer (some ⟨g1, 0, none⟩)]) (Fx.x_func (us := []) (vs := [.pointer (some ⟨g1, 0, none⟩)]) rfl rfl rfl) ?_
 refine Fx.L.call (by rfl) (Fx.r_call (args := [.pointer (some ⟨p, 0, none⟩), .func (.func 19) #[] #[.pointer (some ⟨g1, 0, none⟩)]]) rfl rfl Try.func18 rfl rfl) rfl ((d_those_due p mb n pb W B _ ⟨m2, m3, m4, hij, hge, hgp, hgm, hsm, hok, hok2, hok3⟩ now g1 m1).mono ?_)
 rintro e9 w2 ⟨a, m, c, τ, he, m5, hth, hbt⟩
 refine ⟨_, he, ?_⟩
 clear he
 have s2 := Fx.Stp.of_below hbt
 have m6 := m2.stp s2 (Nat.ne_of_lt (m2.lt))
 have m7 := m3.up s2.old
 have m8 := m4.up s2.old
 have m9 := m1.stp s2 (Nat.ne_of_lt (m1.lt))
 have b2 := b1.then s2 (.inr b1.size)
 refine Fx.L.v (.int .i64 ((m : Int))) (Fx.x_len rfl rfl rfl (by kernel_rfl)) ?_
 refine Fx.L.v (.int .i64 (0)) (Fx.x_move rfl rfl) ?_
 refine Fx.L.nil (Fx.seqN (Fx.W.block ?_))
 have m10 : Fx.Own w2 w.heap.size 31 2 (.slice none 0 0) 0 (Fx.flat 2 fun q => wtc (W (τ q))) := Fx.Own.nil _ _ _ _ _
 refine Fx.W.loop (fun f w_ => ∃ k : Nat, ∃ a2 : Option Addr, ∃ cap2 : Nat, ∃ V : Nat → WtM, k ≤ m ∧ (∀ q, q < k → V (τ q) = bumpW now (W (τ q))) ∧ (∀ i, (∀ q, q < k → τ q ≠ i) → V i = W i) ∧ f 0 = .pointer (some ⟨p, 0, none⟩) ∧ f 3 = .pointer (some ⟨g1, 0, none⟩) ∧ f 4 = .slice a2 (k) (cap2) ∧ f 9 = .slice a (m) (c) ∧ f 10 = .int .i64 ((m : Int)) ∧ f 11 = .int .i64 ((k : Int)) ∧ Fx.Blk w_ p 1 (fun _ => .map (some mb)) 54 ∧ Fx.Mp w_ mb n (fun i => (W i).node) (fun i => .pointer (some ⟨pb i, 0, none⟩)) ∧ Fx.Fam w_ n pb 4 (fun i => wtc (V i)) 57 ∧ Fx.Blk w_ g1 1 (fun _ => .int .u64 (now)) 22 ∧ Fx.Own w_ w1.heap.size 55 1 (.slice a (m) (c)) m (fun q => .pointer (some ⟨pb (τ q), 0, none⟩)) ∧ Fx.Own w_ w.heap.size 31 2 (.slice a2 (k) (cap2)) k (Fx.flat 2 fun q => wtc (W (τ q))) ∧ Fx.Chg (demS mb n pb) w w_) (fun f _ => (m - (intOf (f 11)).toNat)) ⟨0, none, 0, W, by omega, (fun _ h => absurd h (Nat.not_lt_zero _)), (fun _ _ => rfl), (by rfl), (by rfl), (by rfl), (by rfl), (by first | rfl | exact congrArg (Value.int .i64) (by omega)), (by first | rfl | exact congrArg (Value.int .i64) (by omega)), m6, m7, m8, m9, m5, m10, b2⟩ ?_
 rintro f1 w3 ⟨k, a2, cap2, V, hk, hv1, hv2, h1, h2, h3, h4, h5, h6, m11, m12, m13, m14, m15, m16, b3⟩
 refine Fx.W.seq (Fx.W.list ?_)
 by_cases c12 : (k : Int) < (m : Int)
 ·refine Fx.L.v (.bool true) (Fx.x_lssT rfl h6 h5 c12) ?_
  refine Fx.L.nil (Fx.seqN (Fx.W.seq (Fx.W.cond (b := true) rfl (fun _ => Fx.W.skip (Fx.seqN (Fx.W.seq (Fx.W.block (Fx.W.seq ?_))))) (fun h => nomatch h))))
  have hVk : V (τ k) = W (τ k) := hv2 _ fun q hq e => by have := hth.inj (by omega) (by omega) e; omega
  have hw1 : 1 ≤ (V (τ k)).wait := by rw [hVk]; exact hok _ (hth.lt k (by omega))
  have hw2 : (V (τ k)).wait ≤ 16 := by rw [hVk]; exact hok2 _ (hth.lt k (by omega))
  refine Fx.W.list ?_
  obtain ⟨gq1, eq1⟩ := m15.addr (by omega)
  have m17 : Fx.Own w3 w1.heap.size 55 1 (.slice (some ⟨gq1, 0, none⟩) m c) m (fun q => .pointer (some ⟨pb (τ q), 0, none⟩)) := m15.congV (congrArg (fun q => Value.slice q m c) eq1)
  refine Fx.L.v (.pointer (some ⟨gq1, k, none⟩)) (Fx.x_indexS rfl (h4.trans (congrArg (fun q => Value.slice q (m) (c)) eq1)) h6 Try.underlying58 (s := 1) (by kernel_rfl) (by omega) (by omega) (by omega)) ?_
  refine Fx.L.v (.pointer (some ⟨pb (τ k), 0, none⟩)) (Fx.x_load1 (x := fun q => .pointer (some ⟨pb (τ q), 0, none⟩)) rfl rfl (by kernel_rfl) m17.cel (i := k) (by omega) (by omega) rfl) ?_
  refine Fx.L.v (.pointer (some ⟨pb (τ k), 0, none⟩)) (Fx.x_assign rfl rfl) ?_
  refine Fx.L.nil (Fx.seqN (Fx.W.seq ?_))
  have hm3 := hm32 hth
  refine Fx.W.list (Fx.L.v (.slice a2 (k) (cap2)) (Fx.x_move rfl h3) ?_)
  refine Fx.L.v (.pointer (some ⟨pb (τ k), 0, none⟩)) (Fx.x_move rfl rfl) ?_
  refine Fx.L.v (.pointer (some ⟨pb (τ k), 0, none⟩)) (Fx.x_nil rfl rfl) ?_
  refine Fx.L.v (.pointer (some ⟨pb (τ k), 0, none⟩)) (Fx.x_field rfl rfl Try.underlying57 rfl (s := 2) (by kernel_rfl) rfl rfl) ?_
  have hfj1 : (τ k) < n := hth.lt _ (by omega)
  have m18 := m13 (τ k) hfj1
  have gm18 := hge (τ k) hfj1
  refine Fx.L.v (.agg (Fx.varr 2 (fun j => (wtc (V (τ k))) (0 + j)))) (Fx.x_loadA (x := wtc (V (τ k))) (y := fun j => (wtc (V (τ k))) (0 + j)) rfl rfl (by kernel_rfl) (by kernel_rfl) m18.cel (i := 0) (by omega) (by omega) (fun _ _ => rfl)) ?_
  refine Fx.L.bslice (vs := [(0, .agg (Fx.varr 2 (fun j => (wtc (V (τ k))) (0 + j))))]) (s := 2) (zc := fun i => (#[.int .u64 (0), .int .i64 (0)] : Array Value).getD i undef) (y := Fx.ovr (fun j => (#[.int .u64 (0), .int .i64 (0)] : Array Value).getD (j % 2) undef) (0 * 2) 2 (fun j => (wtc (V (τ k))) (0 + j))) (by rfl) rfl rfl Try.underlying28 (by kernel_rfl) (by rfl) (by rfl) (by kernel_rfl) (by rw [Fx.fill_step (off := 0 * 2) (s := 2) (y := fun j => (wtc (V (τ k))) (0 + j)) rfl (Fx.cells_agg _ _) (by rfl)]; rfl) rfl fun g2 w4 eg2 m19 s3 z2 => ?_
  have m20 := m11.stp s3 (Nat.ne_of_lt (m11.lt))
  have m21 := m12.up s3.old
  have m22 := m13.up s3.old
  have m23 := m14.stp s3 (Nat.ne_of_lt (m14.lt))
  have m24 := m16.stp s3 (m16.notNew (Nat.le_refl _))
  have m25 := m17.stpB s3 (Nat.ne_of_lt (m17.lt))
  have m26 := m18.stp s3 (Nat.ne_of_lt (m18.lt))
  have b4 := b3.then s3 (.inr b3.size)
  have lg2 : w.heap.size ≤ g2 := by rw [eg2]; exact b3.size
  have ng2m20 : p ≠ g2 := by rw [eg2]; exact Nat.ne_of_lt (m11.lt)
  have ng2m21 : mb ≠ g2 := by rw [eg2]; exact Nat.ne_of_lt (m12.lt)
  have ng2m23 : g1 ≠ g2 := by rw [eg2]; exact Nat.ne_of_lt (m14.lt)
  have ng2m24 : (.slice a2 (k) (cap2) : Value).ownBlock ≠ some g2 := by rw [eg2]; exact m16.notNew (Nat.le_refl _)
  have ng2m25 : gq1 ≠ g2 := by rw [eg2]; exact Nat.ne_of_lt (m17.lt)
  have ng2m26 : (pb (τ k)) ≠ g2 := by rw [eg2]; exact Nat.ne_of_lt (m18.lt)
  have tg2 : g2 < w4.heap.size := m19.lt
  clear eg2
  refine Fx.L.app (B := w.heap.size) (s := 2) (bytes := 16) (k := k) (m := 1) (v := .slice a2 (k) (cap2)) (x := Fx.flat 2 fun q => wtc (W (τ q))) (by rfl) rfl rfl rfl Try.underlying28 (by kernel_rfl) (by kernel_rfl) rfl rfl m24 m19.cel (fun j hj => by unfold Fx.ovr; rw [if_pos (by omega)]; rcases j with _|_|j <;> first | rfl | omega) (by omega) (by omega) (by omega) b4.size fun g3 cap1 w5 ho1 hg1 hgv1 hlt1 => ?_
  have hct1 := Fx.ChT.of_grown hg1 m24
  have m28 := m20.chT hct1 (by decide)
  have m29 := m21.chT hct1 (by decide)
  have m30 := m22.chT hct1 (by decide)
  have m31 := m23.chT hct1 (by decide)
  have m32 := m25.chT hct1 (by decide)
  have m33 := m26.chT hct1 (by decide)
  have m27 : Fx.Own w5 w.heap.size 31 2 (.slice (some ⟨g3, 0, none⟩) (k + 1) cap1) (k + 1) (Fx.flat 2 fun q => wtc (W (τ q))) := (ho1.congr (due_app hVk))
  have b5 : Fx.Chg (demS mb n pb) w w5 := Fx.Chg.grow b4 hg1 (fun q hq => .inr (m24.ge hq).1)
  refine Fx.L.v (.slice (some ⟨g3, 0, none⟩) (k + 1) (cap1)) (Fx.x_assign rfl rfl) ?_
  refine Fx.L.nil (Fx.seqN (Fx.W.seq ?_))
  -- region 5 draws
  refine Fx.W.tail 9 (by kernel_rfl) (by kernel_rfl) fun wt1 hbwt1 hzwt1 => ?_
  have s4 : Fx.Stp w5.heap.size w5 wt1 := Fx.Stp.of_below hbwt1
  have m34 := m28.stp s4 (Nat.ne_of_lt (m28.lt))
  have m35 := m29.up s4.old
  have m36 := m30.up s4.old
  have m37 := m31.stp s4 (Nat.ne_of_lt (m31.lt))
  have m38 := m32.stpB s4 (Nat.ne_of_lt (m32.lt))
  have m39 := m33.stp s4 (Nat.ne_of_lt (m33.lt))
  have m40 := m27.stpB s4 (Nat.ne_of_lt (m27.lt))
  have b6 := b5.then s4 (.inr b5.size)
  refine Fx.St.v (.pointer (some ⟨pb (τ k), 0, none⟩)) (Fx.x_move rfl rfl) ?_
  refine Fx.St.v (.int .u64 (now)) (Fx.x_load1 (x := fun _ => .int .u64 (now)) rfl h2 (by kernel_rfl) m37.cel (i := 0) (by omega) (by omega) rfl) ?_
  refine Fx.St.v (.pointer (some ⟨pb (τ k), 0, none⟩)) (Fx.x_move rfl rfl) ?_
  refine Fx.St.v (.pointer (some ⟨pb (τ k), 0, none⟩)) (Fx.x_nil rfl rfl) ?_
  refine Fx.St.v (.pointer (some ⟨pb (τ k), 3, none⟩)) (Fx.x_field rfl rfl Try.underlying57 rfl (s := 1) (by kernel_rfl) rfl (by show _ + 3 = _; omega)) ?_
  refine Fx.St.v (.int .u64 ((V (τ k)).wait)) (Fx.x_load1 (x := wtc (V (τ k))) rfl rfl (by kernel_rfl) m39.cel (i := 3) (by omega) (by omega) rfl) ?_
  refine Fx.St.v (.int .u64 (now + ((V (τ k)).wait))) (Fx.x_add rfl rfl rfl (Fx.u64e (by omega) (by omega))) ?_
  refine Fx.St.v (.pointer (some ⟨pb (τ k), 0, none⟩)) (Fx.x_nil rfl rfl) ?_
  refine Fx.St.v (.pointer (some ⟨pb (τ k), 2, none⟩)) (Fx.x_field rfl rfl Try.underlying57 rfl (s := 1) (by kernel_rfl) rfl (by show _ + 2 = _; omega)) ?_
  refine Fx.St.nil ?_
  refine Fx.L.store1 (x := wtc (V (τ k))) (u := .int .u64 (now + ((V (τ k)).wait))) (by rfl) rfl rfl rfl rfl (by rfl) (by kernel_rfl) m39 (i := 2) (by omega) fun w6 m41 s5 z3 => ?_
  have m42 : Fx.Blk w6 (pb (τ k)) 4 (wtc ⟨(V (τ k)).node, (V (τ k)).amt, now + ((V (τ k)).wait), (V (τ k)).wait⟩) 57 := m41.to (wtc_at (V (τ k)) _)
  have hct2 := Fx.ChT.of_stp s5 m39.ty
  have m43 := m34.chT hct2 (by decide)
  have m44 := m35.chT hct2 trivial
  have m45 := m36.put s5 m42 hij hfj1
  have m46 : Fx.Fam w6 n pb 4 (fun i => wtc ((Fx.putI V (τ k) ⟨(V (τ k)).node, (V (τ k)).amt, now + ((V (τ k)).wait), (V (τ k)).wait⟩) i)) 57 := m45.to (fun i _ => putI_wtc V (τ k) ⟨(V (τ k)).node, (V (τ k)).amt, now + ((V (τ k)).wait), (V (τ k)).wait⟩ i)
  have m47 := m37.chT hct2 (by decide)
  have m48 := m38.chT hct2 (by decide)
  have m49 := m40.chT hct2 (by decide)
  have b7 := b6.then s5 (.inl (.inr ⟨(τ k), hfj1, rfl⟩))
  refine Fx.L.nil (Fx.seqN (Fx.W.list (Fx.L.v (.pointer (some ⟨pb (τ k), 0, none⟩)) (Fx.x_move rfl rfl) ?_)))
  refine Fx.L.v (.pointer (some ⟨pb (τ k), 0, none⟩)) (Fx.x_move rfl rfl) ?_
  refine Fx.L.v (.pointer (some ⟨pb (τ k), 0, none⟩)) (Fx.x_nil rfl rfl) ?_
  refine Fx.L.v (.pointer (some ⟨pb (τ k), 3, none⟩)) (Fx.x_field rfl rfl Try.underlying57 rfl (s := 1) (by kernel_rfl) rfl (by show _ + 3 = _; omega)) ?_
  refine Fx.L.v (.int .u64 ((V (τ k)).wait)) (Fx.x_load1 (x := wtc ⟨(V (τ k)).node, (V (τ k)).amt, now + ((V (τ k)).wait), (V (τ k)).wait⟩) rfl rfl (by kernel_rfl) m42.cel (i := 3) (by omega) (by omega) rfl) ?_
  refine Fx.L.v (.int .u64 (2 * ((V (τ k)).wait))) (Fx.x_mul rfl rfl rfl (Fx.u64e (by omega) (by omega))) ?_
  refine Fx.L.v (.int .u64 (mnZ (2 * ((V (τ k)).wait)) 16)) (Fx.x_min rfl rfl rfl) ?_
  refine Fx.L.v (.pointer (some ⟨pb (τ k), 0, none⟩)) (Fx.x_nil rfl rfl) ?_
  refine Fx.L.v (.pointer (some ⟨pb (τ k), 3, none⟩)) (Fx.x_field rfl rfl Try.underlying57 rfl (s := 1) (by kernel_rfl) rfl (by show _ + 3 = _; omega)) ?_
  refine Fx.L.store1 (x := wtc ⟨(V (τ k)).node, (V (τ k)).amt, now + ((V (τ k)).wait), (V (τ k)).wait⟩) (u := .int .u64 (mnZ (2 * ((V (τ k)).wait)) 16)) (by rfl) rfl rfl rfl rfl (by rfl) (by kernel_rfl) m42 (i := 3) (by omega) fun w7 m50 s6 z4 => ?_
  have m51 : Fx.Blk w7 (pb (τ k)) 4 (wtc ⟨(V (τ k)).node, (V (τ k)).amt, now + ((V (τ k)).wait), mnZ (2 * ((V (τ k)).wait)) 16⟩) 57 := m50.congr (wtc_wait (⟨(V (τ k)).node, (V (τ k)).amt, now + ((V (τ k)).wait), (V (τ k)).wait⟩) _)
  have hct3 := Fx.ChT.of_stp s6 m42.ty
  have m52 := m43.chT hct3 (by decide)
  have m53 := m44.chT hct3 trivial
  have m54 := m46.put s6 m51 hij hfj1
  have m55 : Fx.Fam w7 n pb 4 (fun i => wtc ((Fx.putI (Fx.putI V (τ k) ⟨(V (τ k)).node, (V (τ k)).amt, now + ((V (τ k)).wait), (V (τ k)).wait⟩) (τ k) ⟨(V (τ k)).node, (V (τ k)).amt, now + ((V (τ k)).wait), mnZ (2 * ((V (τ k)).wait)) 16⟩) i)) 57 := m54.to (fun i _ => putI_wtc (Fx.putI V (τ k) ⟨(V (τ k)).node, (V (τ k)).amt, now + ((V (τ k)).wait), (V (τ k)).wait⟩) (τ k) ⟨(V (τ k)).node, (V (τ k)).amt, now + ((V (τ k)).wait), mnZ (2 * ((V (τ k)).wait)) 16⟩ i)
  have m56 := m47.chT hct3 (by decide)
  have m57 := m48.chT hct3 (by decide)
  have m58 := m49.chT hct3 (by decide)
  have b8 := b7.then s6 (.inl (.inr ⟨(τ k), hfj1, rfl⟩))
  refine Fx.L.nil (Fx.blkN (Fx.seqN (Fx.W.list (Fx.L.v (.int .i64 ((k : Int) + 1)) (Fx.x_add rfl h6 rfl (Fx.i64e (by omega) (by omega))) ?_))))
  refine Fx.L.v (.int .i64 ((k : Int) + 1)) (Fx.x_move rfl rfl) ?_
  refine Fx.L.nil ?_
  have m59 : Fx.Own w7 w1.heap.size 55 1 (.slice a (m) (c)) m (fun q => .pointer (some ⟨pb (τ q), 0, none⟩)) := m57.congV (congrArg (fun q => Value.slice q m c) eq1.symm)
  skip
  refine Fx.lpN ⟨k + 1, (some ⟨g3, 0, none⟩), cap1, (Fx.putI (Fx.putI V (τ k) ⟨(V (τ k)).node, (V (τ k)).amt, now + ((V (τ k)).wait), (V (τ k)).wait⟩) (τ k) ⟨(V (τ k)).node, (V (τ k)).amt, now + ((V (τ k)).wait), mnZ (2 * ((V (τ k)).wait)) 16⟩), by omega, (due_v1 hth (by omega) hv1 (by rw [hVk]; rfl)), (due_v2 hv2), h1, h2, (by rfl), h4, (h5.trans (by first | rfl | exact congrArg (Value.int .i64) (by omega))), (by first | rfl | exact congrArg (Value.int .i64) (by omega)), m52, m53, m55, m56, m59, m58, b8⟩ ?_
  show (m - (intOf ((.int .i64 ((k : Int) + 1)))).toNat) < _
  simp only [h6, intOf]; omega
 ·refine Fx.L.v (.bool false) (Fx.x_lssF rfl h6 h5 c12) ?_
  refine Fx.L.nil (Fx.seqN (Fx.W.seq (Fx.W.cond (b := false) rfl (fun h => nomatch h) (fun _ => Fx.W.exit (Fx.seqX (Fx.lpX (Fx.blkX (Fx.seqN (Fx.W.seq (Fx.W.list (Fx.L.v (.slice a2 (k) (cap2)) (Fx.x_move rfl h3) ?_)))))))))))
  refine Fx.L.v (.slice a2 (k) (cap2)) (Fx.x_assign rfl rfl) ?_
  refine Fx.L.nil (Fx.seqN (Fx.W.ret (⟨.slice a2 (k) (cap2), Fx.retV1 Try.results10 (by exact rfl), ?_⟩)))
  obtain rfl : k = m := by omega
  have hVa := due_v hth hv1 hv2
  refine ⟨_, _, _, τ, rfl, m16, hth, ⟨m11, m12.cong (fun i _ => ⟨(dueW_node now (W i)).symm, rfl⟩), m13.to (fun i hi => by rw [hVa i hi]), hij, hge, hgp, hgm, hsm, fun i hi => (dueW_ok now _ (hok i hi) (hok2 i hi)).1, fun i hi => (dueW_ok now _ (hok i hi) (hok2 i hi)).2, fun i hi => dueW_ok3 now (hok3 i hi)⟩, b3⟩
theorem d_list (p mb n : Nat) (pb : Nat → Nat) (W : Nat → WtM) (B : Nat) (w : World) (h : DemO w B p mb n pb W) :
    Calls Try.prog 16 #[.pointer (some ⟨p, 0, none⟩)] w fun e w' => ∃ a m c τ, e = .returned (.slice a m c) ∧ Fx.Own w' w.heap.size 31 2 (.slice a m c) m (Fx.flat 2 fun q => wtc (W (τ q))) ∧ ThoseR n W (fun _ => True) m τ ∧ Below w.heap.size w w' := by
 refine Fx.enter Try.func16 rfl (n := 21) rfl (by rfl) ?_
 have hbk := h.blk
 have hmp := h.map
 have hfm := h.fam
 have hij := h.inj
 have hge := h.ge
 have hgp := h.gp
 have hgm := h.gm
 have hsm := h.small
 have hok := h.ok
 have hok2 := h.ok2
 have hok3 := h.ok3
 have tp := hbk.lt
 have tm := hmp.lt
 have hm32 : ∀ {m : Nat} {P : Nat → Prop} {τ : Nat → Nat}, ThoseR n W P m τ → m ≤ 32 := fun hth => Nat.le_trans (those_le hth) hsm
 refine Fx.W.seq (Fx.W.list (Fx.L.v (.slice none 0 0) (Fx.x_assign rfl rfl) ?_))
 refine Fx.L.nil (Fx.seqN (Fx.W.seq (Fx.W.seq (Fx.W.list (Fx.L.v (.pointer (some ⟨p, 0, none⟩)) (Fx.x_move rfl rfl) ?_)))))
 refine Fx.L.call (by rfl) (Fx.r_call (args := [.pointer (some ⟨p, 0, none⟩), .func (.func 20) #[] #[]]) rfl rfl Try.func18 rfl rfl) rfl ((d_those_list p mb n pb W B _ ⟨hbk, hmp, hfm, hij, hge, hgp, hgm, hsm, hok, hok2, hok3⟩).mono ?_)
 rintro e9 w1 ⟨a, m, c, τ, he, m1, hth, hbt⟩
 refine ⟨_, he, ?_⟩
 clear he
 have s1 := Fx.Stp.of_below hbt
 have m2 := hbk.stp s1 (Nat.ne_of_lt (hbk.lt))
 have m3 := hmp.up s1.old
 have m4 := hfm.up s1.old
 have b1 := s1.below (Below.refl w.heap.size w) (Below.refl w.heap.size w).size (Below.refl w.heap.size w).size
 refine Fx.L.v (.int .i64 ((m : Int))) (Fx.x_len rfl rfl rfl (by kernel_rfl)) ?_
 refine Fx.L.v (.int .i64 (0)) (Fx.x_move rfl rfl) ?_
 refine Fx.L.nil (Fx.seqN (Fx.W.block ?_))
 have m5 : Fx.Own w1 w.heap.size 31 2 (.slice none 0 0) 0 (Fx.flat 2 fun q => wtc (W (τ q))) := Fx.Own.nil _ _ _ _ _
 refine Fx.W.loop (fun f w_ => ∃ k : Nat, ∃ a2 : Option Addr, ∃ cap2 : Nat, k ≤ m ∧ f 0 = .pointer (some ⟨p, 0, none⟩) ∧ f 2 = .slice a2 (k) (cap2) ∧ f 6 = .slice a (m) (c) ∧ f 7 = .int .i64 ((m : Int)) ∧ f 8 = .int .i64 ((k : Int)) ∧ Fx.Blk w_ p 1 (fun _ => .map (some mb)) 54 ∧ Fx.Mp w_ mb n (fun i => (W i).node) (fun i => .pointer (some ⟨pb i, 0, none⟩)) ∧ Fx.Fam w_ n pb 4 (fun i => wtc (W i)) 57 ∧ Fx.Own w_ w.heap.size 55 1 (.slice a (m) (c)) m (fun q => .pointer (some ⟨pb (τ q), 0, none⟩)) ∧ Fx.Own w_ w.heap.size 31 2 (.slice a2 (k) (cap2)) k (Fx.flat 2 fun q => wtc (W (τ q))) ∧ Below w.heap.size w w_) (fun f _ => (m - (intOf (f 8)).toNat)) ⟨0, none, 0, by omega, (by rfl), (by rfl), (by rfl), (by first | rfl | exact congrArg (Value.int .i64) (by omega)), (by first | rfl | exact congrArg (Value.int .i64) (by omega)), m2, m3, m4, m1, m5, b1⟩ ?_
 rintro f1 w2 ⟨k, a2, cap2, hk, h1, h2, h3, h4, h5, m6, m7, m8, m9, m10, b2⟩
 refine Fx.W.seq (Fx.W.list ?_)
 by_cases c9 : (k : Int) < (m : Int)
 ·refine Fx.L.v (.bool true) (Fx.x_lssT rfl h5 h4 c9) ?_
  refine Fx.L.nil (Fx.seqN (Fx.W.seq (Fx.W.cond (b := true) rfl (fun _ => Fx.W.skip (Fx.seqN (Fx.W.seq (Fx.W.block (Fx.W.seq (Fx.W.list ?_)))))) (fun h => nomatch h))))
  obtain ⟨gq1, eq1⟩ := m9.addr (by omega)
  have m11 : Fx.Own w2 w.heap.size 55 1 (.slice (some ⟨gq1, 0, none⟩) m c) m (fun q => .pointer (some ⟨pb (τ q), 0, none⟩)) := m9.congV (congrArg (fun q => Value.slice q m c) eq1)
  refine Fx.L.v (.pointer (some ⟨gq1, k, none⟩)) (Fx.x_indexS rfl (h3.trans (congrArg (fun q => Value.slice q (m) (c)) eq1)) h5 Try.underlying58 (s := 1) (by kernel_rfl) (by omega) (by omega) (by omega)) ?_
  refine Fx.L.v (.pointer (some ⟨pb (τ k), 0, none⟩)) (Fx.x_load1 (x := fun q => .pointer (some ⟨pb (τ q), 0, none⟩)) rfl rfl (by kernel_rfl) m11.cel (i := k) (by omega) (by omega) rfl) ?_
  refine Fx.L.v (.pointer (some ⟨pb (τ k), 0, none⟩)) (Fx.x_assign rfl rfl) ?_
  refine Fx.L.nil (Fx.seqN ?_)
  have hm3 := hm32 hth
  refine Fx.W.list (Fx.L.v (.slice a2 (k) (cap2)) (Fx.x_move rfl h2) ?_)
  refine Fx.L.v (.pointer (some ⟨pb (τ k), 0, none⟩)) (Fx.x_move rfl rfl) ?_
  refine Fx.L.v (.pointer (some ⟨pb (τ k), 0, none⟩)) (Fx.x_nil rfl rfl) ?_
  refine Fx.L.v (.pointer (some ⟨pb (τ k), 0, none⟩)) (Fx.x_field rfl rfl Try.underlying57 rfl (s := 2) (by kernel_rfl) rfl rfl) ?_
  have hfj1 : (τ k) < n := hth.lt _ (by omega)
  have m12 := m8 (τ k) hfj1
  have gm12 := hge (τ k) hfj1
  refine Fx.L.v (.agg (Fx.varr 2 (fun j => (wtc (W (τ k))) (0 + j)))) (Fx.x_loadA (x := wtc (W (τ k))) (y := fun j => (wtc (W (τ k))) (0 + j)) rfl rfl (by kernel_rfl) (by kernel_rfl) m12.cel (i := 0) (by omega) (by omega) (fun _ _ => rfl)) ?_
  refine Fx.L.bslice (vs := [(0, .agg (Fx.varr 2 (fun j => (wtc (W (τ k))) (0 + j))))]) (s := 2) (zc := fun i => (#[.int .u64 (0), .int .i64 (0)] : Array Value).getD i undef) (y := Fx.ovr (fun j => (#[.int .u64 (0), .int .i64 (0)] : Array Value).getD (j % 2) undef) (0 * 2) 2 (fun j => (wtc (W (τ k))) (0 + j))) (by rfl) rfl rfl Try.underlying28 (by kernel_rfl) (by rfl) (by rfl) (by kernel_rfl) (by rw [Fx.fill_step (off := 0 * 2) (s := 2) (y := fun j => (wtc (W (τ k))) (0 + j)) rfl (Fx.cells_agg _ _) (by rfl)]; rfl) rfl fun g1 w3 eg1 m13 s2 z1 => ?_
  have m14 := m6.stp s2 (Nat.ne_of_lt (m6.lt))
  have m15 := m7.up s2.old
  have m16 := m8.up s2.old
  have m17 := m10.stp s2 (m10.notNew (Nat.le_refl _))
  have m18 := m11.stpB s2 (Nat.ne_of_lt (m11.lt))
  have m19 := m12.stp s2 (Nat.ne_of_lt (m12.lt))
  have b3 := s2.below b2 b2.size b2.size
  have lg1 : w.heap.size ≤ g1 := by rw [eg1]; exact b2.size
  have ng1m14 : p ≠ g1 := by rw [eg1]; exact Nat.ne_of_lt (m6.lt)
  have ng1m15 : mb ≠ g1 := by rw [eg1]; exact Nat.ne_of_lt (m7.lt)
  have ng1m17 : (.slice a2 (k) (cap2) : Value).ownBlock ≠ some g1 := by rw [eg1]; exact m10.notNew (Nat.le_refl _)
  have ng1m18 : gq1 ≠ g1 := by rw [eg1]; exact Nat.ne_of_lt (m11.lt)
  have ng1m19 : (pb (τ k)) ≠ g1 := by rw [eg1]; exact Nat.ne_of_lt (m12.lt)
  have tg1 : g1 < w3.heap.size := m13.lt
  clear eg1
  refine Fx.L.app (B := w.heap.size) (s := 2) (bytes := 16) (k := k) (m := 1) (v := .slice a2 (k) (cap2)) (x := Fx.flat 2 fun q => wtc (W (τ q))) (by rfl) rfl rfl rfl Try.underlying28 (by kernel_rfl) (by kernel_rfl) rfl rfl m17 m13.cel (fun j hj => by unfold Fx.ovr; rw [if_pos (by omega)]; rcases j with _|_|j <;> first | rfl | omega) (by omega) (by omega) (by omega) b3.size fun g2 cap1 w4 ho1 hg1 hgv1 hlt1 => ?_
  have hct1 := Fx.ChT.of_grown hg1 m17
  have m21 := m14.chT hct1 (by decide)
  have m22 := m15.chT hct1 (by decide)
  have m23 := m16.chT hct1 (by decide)
  have m24 := m18.chT hct1 (by decide)
  have m25 := m19.chT hct1 (by decide)
  have m20 : Fx.Own w4 w.heap.size 31 2 (.slice (some ⟨g2, 0, none⟩) (k + 1) cap1) (k + 1) (Fx.flat 2 fun q => wtc (W (τ q))) := (ho1.congr (due_app (V := W) rfl))
  have b4 : Below w.heap.size w w4 := Fx.Below.grow b3 hg1 b3.size (fun q hq => (m17.ge hq).1)
  refine Fx.L.v (.slice (some ⟨g2, 0, none⟩) (k + 1) (cap1)) (Fx.x_assign rfl rfl) ?_
  refine Fx.L.nil (Fx.blkN (Fx.seqN (Fx.W.list (Fx.L.v (.int .i64 ((k : Int) + 1)) (Fx.x_add rfl h5 rfl (Fx.i64e (by omega) (by omega))) ?_))))
  refine Fx.L.v (.int .i64 ((k : Int) + 1)) (Fx.x_move rfl rfl) ?_
  refine Fx.L.nil ?_
  have m26 : Fx.Own w4 w.heap.size 55 1 (.slice a (m) (c)) m (fun q => .pointer (some ⟨pb (τ q), 0, none⟩)) := m24.congV (congrArg (fun q => Value.slice q m c) eq1.symm)
  skip
  refine Fx.lpN ⟨k + 1, (some ⟨g2, 0, none⟩), cap1, by omega, h1, (by rfl), h3, (h4.trans (by first | rfl | exact congrArg (Value.int .i64) (by omega))), (by first | rfl | exact congrArg (Value.int .i64) (by omega)), m21, m22, m23, m26, m20, b4⟩ ?_
  show (m - (intOf ((.int .i64 ((k : Int) + 1)))).toNat) < _
  simp only [h5, intOf]; omega
 ·refine Fx.L.v (.bool false) (Fx.x_lssF rfl h5 h4 c9) ?_
  refine Fx.L.nil (Fx.seqN (Fx.W.seq (Fx.W.cond (b := false) rfl (fun h => nomatch h) (fun _ => Fx.W.exit (Fx.seqX (Fx.lpX (Fx.blkX (Fx.seqN (Fx.W.seq (Fx.W.list (Fx.L.v (.slice a2 (k) (cap2)) (Fx.x_move rfl h2) ?_)))))))))))
  refine Fx.L.v (.slice a2 (k) (cap2)) (Fx.x_assign rfl rfl) ?_
  refine Fx.L.nil (Fx.seqN (Fx.W.ret (⟨.slice a2 (k) (cap2), Fx.retV1 Try.results16 (by exact rfl), ?_⟩)))
  obtain rfl : k = m := by omega
  exact ⟨_, _, _, τ, rfl, m10, hth, b2⟩
theorem d_done (node : Int) (p mb n : Nat) (pb : Nat → Nat) (W : Nat → WtM) (B : Nat) (w : World) (h : DemO w B p mb n pb W) :
    Calls Try.prog 14 #[.pointer (some ⟨p, 0, none⟩), .int .u64 (node)] w fun e w' => ∃ b n' pb' W', e = .returned (.bool b) ∧ DoneR n W node b n' W' ∧ DemO w' B p mb n' pb' W' ∧ Fx.Chg (demS mb n pb) w w' := by
 refine Fx.enter Try.func14 rfl (n := 21) rfl (by rfl) ?_
 have hbk := h.blk
 have hmp := h.map
 have hfm := h.fam
 have hij := h.inj
 have hge := h.ge
 have hgp := h.gp
 have hgm := h.gm
 have hsm := h.small
 have hok := h.ok
 have hok2 := h.ok2
 have hok3 := h.ok3
 have tp := hbk.lt
 have tm := hmp.lt
 refine Fx.W.seq (Fx.W.list (Fx.L.v (.bool false) (Fx.x_assign rfl rfl) ?_))
 refine Fx.L.nil (Fx.seqN (Fx.W.seq (Fx.W.seq (Fx.W.list (Fx.L.v (.pointer (some ⟨p, 0, none⟩)) (Fx.x_move rfl rfl) ?_)))))
 refine Fx.L.v (.bool false) (Fx.x_eqNil rfl rfl rfl (by kernel_rfl)) ?_
 refine Fx.L.v (.bool false) (Fx.x_move rfl rfl) ?_
 refine Fx.L.v (.pointer (some ⟨p, 0, none⟩)) (Fx.x_move rfl rfl) ?_
 refine Fx.L.v (.pointer (some ⟨p, 0, none⟩)) (Fx.x_nil rfl rfl) ?_
 refine Fx.L.v (.pointer (some ⟨p, 0, none⟩)) (Fx.x_field rfl rfl Try.underlying54 rfl (s := 1) (by kernel_rfl) rfl rfl) ?_
 refine Fx.L.v (.map (some mb)) (Fx.x_load1 (x := fun _ => .map (some mb)) rfl rfl (by kernel_rfl) hbk.cel (i := 0) (by omega) (by omega) rfl) ?_
 refine Fx.L.v (.int .u64 (node)) (Fx.x_move rfl rfl) ?_
 rcases Fx.look_cases (fun i => (W i).node) n node with ⟨jlk1, hjlk1, ejlk1⟩ | hnlk1
 ·refine Fx.L.v (.pointer (some ⟨pb jlk1, 0, none⟩)) (Fx.x_lookY rfl rfl rfl hmp Try.underlying52 Try.underlying22 (by rfl) hjlk1 ejlk1 rfl) ?_
  refine Fx.L.v (.bool false) (Fx.x_eqNil rfl rfl rfl (by kernel_rfl)) ?_
  refine Fx.L.v (.bool false) (Fx.x_pickF rfl rfl rfl) ?_
  refine Fx.L.nil (Fx.seqN (Fx.W.cond (b := false) rfl (fun h => nomatch h) (fun _ => Fx.W.skip (Fx.seqN (Fx.W.seq (Fx.W.list (Fx.L.v (.pointer (some ⟨p, 0, none⟩)) (Fx.x_move rfl rfl) ?_)))))))
  refine Fx.L.v (.pointer (some ⟨p, 0, none⟩)) (Fx.x_nil rfl rfl) ?_
  refine Fx.L.v (.pointer (some ⟨p, 0, none⟩)) (Fx.x_field rfl rfl Try.underlying54 rfl (s := 1) (by kernel_rfl) rfl rfl) ?_
  refine Fx.L.v (.map (some mb)) (Fx.x_load1 (x := fun _ => .map (some mb)) rfl rfl (by kernel_rfl) hbk.cel (i := 0) (by omega) (by omega) rfl) ?_
  refine Fx.L.v (.int .u64 (node)) (Fx.x_move rfl rfl) ?_
  refine Fx.L.delY (by rfl) (by rfl) rfl rfl rfl rfl hmp Try.underlying52 Try.underlying22 hjlk1 ejlk1 fun w1 m1 s1 z1 => ?_
  have hcm1 := hmp.chm s1
  have m2 := hbk.chM hcm1
  have m3 := hfm.chM hcm1
  have b1 := (Fx.Chg.refl (demS mb n pb) w).then s1 (.inl (.inl rfl))
  have m4 : Fx.Mp w1 mb (n - 1) (fun i => (Fx.delI W jlk1 i).node) (fun i => .pointer (some ⟨Fx.delI pb jlk1 i, 0, none⟩)) := m1.cong (fun i _ => ⟨(delI_node W jlk1 i).symm, (delI_ptr pb jlk1 i).symm⟩)
  refine Fx.L.nil (Fx.seqN (Fx.W.seq (Fx.W.list (Fx.L.v (.bool true) (Fx.x_assign rfl rfl) ?_))))
  refine Fx.L.nil (Fx.seqN (Fx.W.ret (⟨.bool true, Fx.retV1 Try.results14 (by exact rfl), ?_⟩)))
  exact ⟨_, n - 1, Fx.delI pb jlk1, Fx.delI W jlk1, rfl, .yes jlk1 hjlk1 ejlk1, ⟨m2, m4, (m3.del jlk1 hjlk1).to (fun i _ => delI_wtc W jlk1 i), delI_inj hij, delI_all hge, hgp, hgm, by omega, delI_all (p := fun u : WtM => 1 ≤ u.wait) hok, delI_all (p := fun u : WtM => u.wait ≤ 16) hok2, delI_all (p := WtOk) hok3⟩, b1⟩
 ·refine Fx.L.v (.pointer none) (Fx.x_lookN rfl rfl rfl hmp Try.underlying52 Try.underlying22 (by rfl) hnlk1) ?_
  refine Fx.L.v (.bool true) (Fx.x_eqNil' rfl rfl rfl (by kernel_rfl)) ?_
  refine Fx.L.v (.bool true) (Fx.x_pickF rfl rfl rfl) ?_
  refine Fx.L.nil (Fx.seqN (Fx.W.cond (b := true) rfl (fun _ => Fx.W.seq (Fx.W.list (Fx.L.v (.bool false) (Fx.x_assign rfl rfl) ?_))) (fun h => nomatch h)))
  refine Fx.L.nil (Fx.seqN (Fx.W.ret (Fx.seqR (⟨.bool false, Fx.retV1 Try.results14 (by exact rfl), ?_⟩))))
  exact ⟨_, n, pb, W, rfl, .no hnlk1, h, (Fx.Chg.refl (demS mb n pb) w)⟩
end Go.Proofs.Ytjnkejgjgknllaa
namespace Go.Proofs.Ytjnkejgjgknllaa.Fx
open Go.RowKit
section
variable {P : Program} {n0 : Nat} {Q : Post} {f : Nat → Value} {w : World} {ops : Array Oper} {rest : List Oper} {o : Oper}
theorem x_hi {T E : TypeId} {x hi : Operand} {a : Option Addr} {B n c s : Nat} {k : IntKind} {j : Nat} {y : Nat → Value} (ho : o.op = .slice T x none (some hi) none) (hx : ev f x = .slice a n c) (hh : ev f hi = .int k (j : Int)) (hu : P.underlying T = some (.slice E)) (hs : (P.info? E).map (·.size) = some s) (hj : j ≤ n) (hown : Own w B E s (.slice a n c) n y) :
    Runs P f o w (.slice a j c) := by
  obtain ⟨i, hi', _⟩ := Option.map_eq_some_iff.1 hs
  unfold Runs execOp
  simp only [ho, hx, hh, Option.map_some, Option.map_none]
  have e1 : (0 : Int) ≤ (j : Int) := by omega
  rcases hown.2 with ⟨h1, rfl⟩ | ⟨g, cap, cur, h1, _, _, hn, _⟩
  · simp only [Value.slice.injEq] at h1
    obtain ⟨rfl, _, rfl⟩ := h1
    obtain rfl : j = 0 := by omega
    simp [Instr.sliceAt, Instr.slice, underlying, hu, Instr.sliceBounds, Instr.sliceBound, asIntOf, sizeOf, typeInfo, hi']
  · simp only [Value.slice.injEq] at h1
    obtain ⟨rfl, _, rfl⟩ := h1
    have hj2 : j ≤ c := by omega
    simp [Instr.sliceAt, Instr.slice, underlying, hu, Instr.sliceBounds, Instr.sliceBound, asIntOf, hj2, e1, sizeOf, typeInfo, hi', Addr.add]
theorem L.lo {T E : TypeId} {x lo : Operand} {a : Option Addr} {B n c s m : Nat} {k : IntKind} {j : Nat} {y : Nat → Value} (hw : Region.wanted o (yf ops f) = true) (hd : inn n0 o.dst = true) (ho : o.op = .slice T x (some lo) none none) (hx : ev f x = .slice a n c) (hl : ev f lo = .int k (j : Int)) (hu : P.underlying T = some (.slice E)) (hs : (P.info? E).map (·.size) = some s) (hj : n = j + m) (hown : Own w B E s (.slice a n c) n y)
    (hc : ∀ a', Arr w a' m s (fun p => y (j * s + p)) → L P n0 ops Q rest (put f o.dst (.slice a' m (c - j))) w) : L P n0 ops Q (o :: rest) f w := by
  by_cases h0 : n = 0
  · obtain rfl : j = 0 := by omega
    obtain rfl : m = 0 := by omega
    subst h0
    rcases hown.2 with ⟨h1, _⟩ | ⟨g, cap, cur, h1, _, _, hn, _⟩
    · simp only [Value.slice.injEq] at h1
      obtain ⟨rfl, _, rfl⟩ := h1
      obtain ⟨i, hi', _⟩ := Option.map_eq_some_iff.1 hs
      refine L.v _ (?_ : Runs P f o w (.slice none 0 0)) (hc none fun h => absurd h (Nat.lt_irrefl 0)) hw hd
      unfold Runs execOp
      simp only [ho, hx, hl, Option.map_some, Option.map_none]
      simp [Instr.sliceAt, Instr.slice, underlying, hu, Instr.sliceBounds, Instr.sliceBound, asIntOf, sizeOf, typeInfo, hi']
    · simp only [Value.slice.injEq] at h1
      obtain ⟨rfl, _, rfl⟩ := h1
      exact L.v _ (x_sliceLo2 (A := if c = 0 then some ⟨g, 0, none⟩ else some ⟨g, 0 + 0 * s, none⟩) (n' := 0) (c' := c - 0) ho hx hl hu hs (Nat.le_refl _) rfl rfl rfl) (hc _ fun h => absurd h (Nat.lt_irrefl 0)) hw hd
  · obtain ⟨g, c2, e1, hB, hg, hnc, hcel⟩ := hown.form (by omega)
    simp only [Value.slice.injEq] at e1
    obtain ⟨rfl, _, rfl⟩ := e1
    refine L.v _ (x_sliceLo2 (A := if c = j then some ⟨g, 0, none⟩ else some ⟨g, 0 + j * s, none⟩) (n' := m) (c' := c - j) ho hx hl hu hs (by omega) rfl (by omega) rfl) (hc _ fun hm => ?_) hw hd
    rw [if_neg (by omega)]
    refine ⟨g, _, rfl, fun p hp => ?_⟩
    have hlt : j * s + p < n * s := by
      have : n * s = j * s + m * s := by rw [hj, Nat.add_mul]
      omega
    have := hcel (j * s + p) hlt
    rw [Nat.zero_add] at this
    rw [Nat.zero_add]; exact this
theorem Own.arrLe {B n c s j : Nat} {E : TypeId} {a : Option Addr} {y : Nat → Value} (h : Own w B E s (.slice a n c) n y) (hj : j ≤ n) : Arr w a j s y := fun h0 => by
  obtain ⟨g, c2, e1, hB, hg, hnc, hcel⟩ := h.form (by omega)
  simp only [Value.slice.injEq] at e1
  refine ⟨g, 0, e1.1, fun p hp => hcel p ?_⟩
  exact Nat.lt_of_lt_of_le hp (Nat.mul_le_mul_right s hj)
theorem Own.weak {B B' n s : Nat} {E : TypeId} {v : Value} {y : Nat → Value} (h : Own w B E s v n y) (hB : B' ≤ B) : Own w B' E s v n y := by
  refine ⟨h.1, ?_⟩
  rcases h.2 with hn | ⟨g, cap, cur, hv, hb, rest⟩
  · exact .inl hn
  · exact .inr ⟨g, cap, cur, hv, Nat.le_trans hB hb, rest⟩
end
end Go.Proofs.Ytjnkejgjgknllaa.Fx
namespace Go.Proofs.Ytjnkejgjgknllaa
open Go.RowKit Rt
namespace Rt
theorem wtc_one (u : WtM) (j : Nat) : (wtc u j).oneCell' = true := by match j with | 0 => rfl | 1 => rfl | 2 => rfl | n + 3 => rfl
def insI {α : Type} (f : Nat → α) (j : Nat) (v : α) : Nat → α := fun i => if i < j then f i else if i = j then v else f (i - 1)
inductive PutQ (n : Nat) (X : Nat → WtM) (node x now : Int) : Int → Nat → (Nat → WtM) → Prop
  | arg (h : putBad node x now) : PutQ n X node x now 1 n X
  | had (j : Nat) (h : ¬ putBad node x now) (hj : j < n) (e : (X j).node = node) : PutQ n X node x now 0 n (Fx.putI X j ⟨(X j).node, mxZ (X j).amt x, (X j).at_, (X j).wait⟩)
  | full (j : Nat) (h : ¬ putBad node x now) (hj : j ≤ n) (hl : ∀ i, i < j → (X i).node < node) (hg : j < n → node < (X j).node) (hf : 32 ≤ n) : PutQ n X node x now 7 n X
  | new (j : Nat) (h : ¬ putBad node x now) (hj : j ≤ n) (hl : ∀ i, i < j → (X i).node < node) (hg : j < n → node < (X j).node) (hf : n < 32) : PutQ n X node x now 0 (n + 1) (insI X j ⟨node, x, now, 1⟩)
structure IncR (X : Nat → WtM) (now : Int) (i m : Nat) (σ : Nat → Nat) : Prop where
  lt : ∀ q, q < m → σ q < i
  mem : ∀ k, k < i → (X k).at_ ≤ now → ∃ q, q < m ∧ σ q = k
  yes : ∀ q, q < m → (X (σ q)).at_ ≤ now
  up : ∀ q r, q < r → r < m → σ q < σ r
  le : m ≤ i
theorem IncR.start (X : Nat → WtM) (now : Int) (σ : Nat → Nat) : IncR X now 0 0 σ :=
  ⟨fun _ h => absurd h (Nat.not_lt_zero _), fun _ h => absurd h (Nat.not_lt_zero _), fun _ h => absurd h (Nat.not_lt_zero _), fun _ _ _ h => absurd h (Nat.not_lt_zero _), Nat.le_refl _⟩
theorem IncR.skip {X : Nat → WtM} {now : Int} {i m : Nat} {σ : Nat → Nat} (h : IncR X now i m σ) (hn : ¬ (X i).at_ ≤ now) : IncR X now (i + 1) m σ :=
  ⟨fun q hq => by have := h.lt q hq; omega, fun k hk hp => by
    by_cases e : k = i
    · subst e; exact absurd hp hn
    · exact h.mem k (by omega) hp, h.yes, h.up, by have := h.le; omega⟩
theorem IncR.take {X : Nat → WtM} {now : Int} {i m : Nat} {σ : Nat → Nat} (h : IncR X now i m σ) (hn : (X i).at_ ≤ now) : IncR X now (i + 1) (m + 1) (Fx.putI σ m i) := by
  have e1 : Fx.putI σ m i m = i := by unfold Fx.putI; rw [if_pos rfl]
  have e2 : ∀ q, q < m → Fx.putI σ m i q = σ q := fun q hq => by unfold Fx.putI; rw [if_neg (by omega)]
  have two : ∀ q, q < m + 1 → q < m ∨ q = m := fun q hq => by omega
  refine ⟨fun q hq => ?_, fun k hk hp => ?_, fun q hq => ?_, fun q r hqr hr => ?_, by have := h.le; omega⟩
  · rcases two q hq with h1 | rfl
    · rw [e2 q h1]; have := h.lt q h1; omega
    · rw [e1]; omega
  · by_cases e : k = i
    · subst e; exact ⟨m, by omega, e1⟩
    · obtain ⟨q, hq, e3⟩ := h.mem k (by omega) hp
      exact ⟨q, by omega, by rw [e2 q hq, e3]⟩
  · rcases two q hq with h1 | rfl
    · rw [e2 q h1]; exact h.yes q h1
    · rw [e1]; exact hn
  · rcases two r hr with h1 | rfl
    · rw [e2 q (by omega), e2 r h1]; exact h.up q r hqr h1
    · rw [e2 q hqr, e1]; exact h.lt q hqr
def dueX (now : Int) (X : Nat → WtM) (i : Nat) : Nat → WtM := fun k => if k < i then dueW now (X k) else X k
theorem dueX_at (now : Int) (X : Nat → WtM) (i : Nat) : dueX now X i i = X i := by unfold dueX; rw [if_neg (Nat.lt_irrefl i)]
theorem dueX_skip {now : Int} {X : Nat → WtM} {i : Nat} (h : ¬ (X i).at_ ≤ now) (k : Nat) : dueX now X i k = dueX now X (i + 1) k := by
  unfold dueX
  by_cases e : k = i
  · subst e; rw [if_neg (Nat.lt_irrefl k), if_pos (by omega)]; unfold dueW; rw [if_neg h]
  · by_cases e2 : k < i
    · rw [if_pos e2, if_pos (by omega)]
    · rw [if_neg e2, if_neg (by omega)]
theorem dueX_take {now : Int} {X : Nat → WtM} {i : Nat} {u1 u2 : WtM} (h : (X i).at_ ≤ now) (hu : u2 = bumpW now (X i)) (k : Nat) : Fx.putI (Fx.putI (dueX now X i) i u1) i u2 k = dueX now X (i + 1) k := by
  unfold Fx.putI dueX
  by_cases e : k = i
  · subst e; rw [if_pos rfl, if_pos (by omega)]; unfold dueW; rw [if_pos h]; exact hu
  · rw [if_neg e, if_neg e]
    by_cases e2 : k < i
    · rw [if_pos e2, if_pos (by omega)]
    · rw [if_neg e2, if_neg (by omega)]
theorem flat_upd {n : Nat} (Z : Nat → WtM) (i : Nat) (u : WtM) (t pl : Nat) (v : Value) (hp : pl = 4 * i + t) (ht : t < 4) (h : ∀ j, j < 4 → Fx.updV (wtc (Z i)) t v j = wtc u j) : ∀ p, p < n * 4 → Fx.updV (Fx.flat 4 fun k => wtc (Z k)) pl v p = Fx.flat 4 (fun k => wtc (Fx.putI Z i u k)) p := fun p _ => by
  show _ = wtc (Fx.putI Z i u (p / 4)) (p % 4)
  unfold Fx.putI
  by_cases e : p / 4 = i
  · rw [if_pos e, ← h (p % 4) (Nat.mod_lt _ (by omega))]
    unfold Fx.updV
    by_cases e2 : p % 4 = t
    · rw [if_pos (by omega), if_pos e2]
    · rw [if_neg (by omega), if_neg e2]
      show wtc (Z (p / 4)) (p % 4) = _; rw [e]
  · rw [if_neg e]
    unfold Fx.updV
    rw [if_neg (by omega)]; rfl
theorem app2 {W : Nat → WtM} {τ τ' : Nat → Nat} {m : Nat} {u : WtM} {z : Nat → Value} (hu : u = W (τ' m)) (ho : ∀ q, q < m → τ' q = τ q) : ∀ j, j < (m + 1) * 2 → Fx.appX (Fx.flat 2 fun q => wtc (W (τ q))) (m * 2) (Fx.ovr z (0 * 2) 2 (fun j => wtc u (0 + j))) j = Fx.flat 2 (fun q => wtc (W (τ' q))) j := fun j hj => by
  show _ = wtc (W (τ' (j / 2))) (j % 2)
  unfold Fx.appX Fx.ovr
  by_cases e : j < m * 2
  · rw [if_pos e, ho _ (by omega)]; rfl
  · rw [if_neg e, if_pos (by omega), hu, show j / 2 = m by omega, show j % 2 = 0 + (j - m * 2 - 0 * 2) by omega]
theorem ins_app2 {X : Nat → WtM} {u : WtM} {k : Nat} {z Y : Nat → Value} (hY : ∀ j, j < 4 → Y j = wtc u j) : ∀ j, j < (k + 1) * 4 → Fx.appX (Fx.flat 4 fun k => wtc (X k)) (k * 4) (Fx.ovr z (0 * 4) 4 Y) j = Fx.flat 4 (fun i => wtc (insI X k u i)) j := fun j hj => by
  show _ = wtc (insI X k u (j / 4)) (j % 4)
  unfold Fx.appX Fx.ovr insI
  by_cases e : j < k * 4
  · rw [if_pos e, if_pos (by omega)]; rfl
  · rw [if_neg e, if_pos (by omega), if_neg (by omega), if_pos (by omega), hY _ (by omega), show j % 4 = j - k * 4 - 0 * 4 by omega]
theorem ins_app3 {X : Nat → WtM} {u : WtM} {k n : Nat} : ∀ j, j < n * 4 → Fx.appX (Fx.flat 4 fun i => wtc (insI X k u i)) ((k + 1) * 4) (fun p => Fx.flat 4 (fun k => wtc (X k)) (k * 4 + p)) j = Fx.flat 4 (fun i => wtc (insI X k u i)) j := fun j _ => by
  unfold Fx.appX
  by_cases e : j < (k + 1) * 4
  · rw [if_pos e]
  · rw [if_neg e]
    show wtc (X ((k * 4 + (j - (k + 1) * 4)) / 4)) ((k * 4 + (j - (k + 1) * 4)) % 4) = wtc (insI X k u (j / 4)) (j % 4)
    unfold insI
    rw [if_neg (by omega), if_neg (by omega), show (k * 4 + (j - (k + 1) * 4)) / 4 = j / 4 - 1 by omega, show (k * 4 + (j - (k + 1) * 4)) % 4 = j % 4 by omega]
theorem del_app {X : Nat → WtM} {k n : Nat} : ∀ j, j < n * 4 → Fx.appX (Fx.flat 4 fun i => wtc (X i)) (k * 4) (fun p => Fx.flat 4 (fun i => wtc (X i)) ((k + 1) * 4 + p)) j = Fx.flat 4 (fun i => wtc (Fx.delI X k i)) j := fun j _ => by
  unfold Fx.appX
  show _ = wtc (Fx.delI X k (j / 4)) (j % 4)
  unfold Fx.delI
  by_cases e : j < k * 4
  · rw [if_pos e, if_pos (by omega)]; rfl
  · rw [if_neg e, if_neg (by omega)]
    show wtc (X (((k + 1) * 4 + (j - k * 4)) / 4)) (((k + 1) * 4 + (j - k * 4)) % 4) = _
    rw [show ((k + 1) * 4 + (j - k * 4)) / 4 = j / 4 + 1 by omega, show ((k + 1) * 4 + (j - k * 4)) % 4 = j % 4 by omega]
theorem own_sep {w w' w0 : World} {B s n s2 n2 : Nat} {E E2 : TypeId} {v v2 : Value} {x x2 : Nat → Value} (h : Fx.Own w B E s v n x) (hv : ∀ g, v.ownBlock = some g → g < w0.heap.size) (ho : Fx.Own w w0.heap.size E2 s2 v2 n2 x2) (hg : w.grownBy w' v2.ownBlock) : Fx.Own w' B E s v n x := by
  refine World.ownsRow.kept h hg ?_
  cases e : v.ownBlock with
  | none => exact .inl rfl
  | some g => exact .inr fun e2 => by have h1 := hv g e; have h2 := (ho.ge e2.symm).1; omega
def refS (q : Nat) (v : Value) (k : Nat) : Prop := k = q ∨ v.ownBlock = some k
end Rt
theorem r_list (q n : Nat) (a : Option Addr) (c : Nat) (X : Nat → WtM) (B : Nat) (w : World) (hq : Fx.Blk w q 1 (fun _ => .slice a n c) 37) (hO : Fx.Own w B 62 4 (.slice a n c) n (Fx.flat 4 fun k => wtc (X k))) (hn : n ≤ 32) :
    Calls Try.prog 17 #[.pointer (some ⟨q, 0, none⟩)] w fun e w' => ∃ a2 c2, e = .returned (.slice a2 n c2) ∧ Fx.Own w' w.heap.size 31 2 (.slice a2 n c2) n (Fx.flat 2 fun q => wtc (X q)) ∧ Below w.heap.size w w' := by
 refine Fx.enter Try.func17 rfl (n := 26) rfl (by rfl) ?_
 have hqlt := hq.lt
 refine Fx.W.seq (Fx.W.list (Fx.L.v (.slice none 0 0) (Fx.x_assign rfl rfl) ?_))
 refine Fx.L.nil (Fx.seqN (Fx.W.seq (Fx.W.list (Fx.L.v (.slice none 0 0) (Fx.x_assign rfl rfl) ?_))))
 refine Fx.L.nil (Fx.seqN (Fx.W.seq (Fx.W.seq (Fx.W.list (Fx.L.v (.int .i64 (0)) (Fx.x_assign rfl rfl) ?_)))))
 refine Fx.L.nil (Fx.seqN (Fx.W.block ?_))
 have m1 : Fx.Own w w.heap.size 31 2 (.slice none 0 0) 0 (Fx.flat 2 fun q => wtc (X q)) := Fx.Own.nil _ _ _ _ _
 refine Fx.W.loop (fun f w_ => ∃ k : Nat, ∃ a2 : Option Addr, ∃ cap2 : Nat, k ≤ n ∧ f 0 = .pointer (some ⟨q, 0, none⟩) ∧ f 3 = .slice a2 (k) (cap2) ∧ f 4 = .int .i64 ((k : Int)) ∧ Fx.Blk w_ q 1 (fun _ => .slice a (n) (c)) 37 ∧ Fx.Own w_ B 62 4 (.slice a (n) (c)) n (Fx.flat 4 fun k => wtc (X k)) ∧ Fx.Own w_ w.heap.size 31 2 (.slice a2 (k) (cap2)) k (Fx.flat 2 fun q => wtc (X q)) ∧ Below w.heap.size w w_) (fun f _ => (n - (intOf (f 4)).toNat)) ⟨0, none, 0, by omega, (by rfl), (by rfl), (by first | rfl | exact congrArg (Value.int .i64) (by omega)), hq, hO, m1, (Below.refl w.heap.size w)⟩ ?_
 rintro f1 w1 ⟨k, a2, cap2, hk, h1, h2, h3, m2, m3, m4, b1⟩
 refine Fx.W.seq (Fx.W.seq (Fx.W.list (Fx.L.v (.int .i64 ((k : Int))) (Fx.x_move rfl h3) ?_)))
 refine Fx.L.v (.pointer (some ⟨q, 0, none⟩)) (Fx.x_move rfl h1) ?_
 refine Fx.L.v (.pointer (some ⟨q, 0, none⟩)) (Fx.x_nil rfl rfl) ?_
 refine Fx.L.v (.pointer (some ⟨q, 0, none⟩)) (Fx.x_field rfl rfl Try.underlying37 rfl (s := 1) (by kernel_rfl) rfl rfl) ?_
 refine Fx.L.v (.slice a (n) (c)) (Fx.x_load1 (x := fun _ => .slice a (n) (c)) rfl rfl (by kernel_rfl) m2.cel (i := 0) (by omega) (by omega) rfl) ?_
 refine Fx.L.v (.int .i64 ((n : Int))) (Fx.x_len rfl rfl rfl (by kernel_rfl)) ?_
 by_cases c11 : (k : Int) < (n : Int)
 ·refine Fx.L.v (.bool true) (Fx.x_lssT rfl rfl rfl c11) ?_
  refine Fx.L.nil (Fx.seqN (Fx.W.cond (b := true) rfl (fun _ => Fx.W.skip (Fx.seqN (Fx.W.seq (Fx.W.block (Fx.W.list (Fx.L.v (.slice a2 (k) (cap2)) (Fx.x_move rfl h2) ?_)))))) (fun h => nomatch h)))
  refine Fx.L.v (.pointer (some ⟨q, 0, none⟩)) (Fx.x_move rfl h1) ?_
  refine Fx.L.v (.pointer (some ⟨q, 0, none⟩)) (Fx.x_nil rfl rfl) ?_
  refine Fx.L.v (.pointer (some ⟨q, 0, none⟩)) (Fx.x_field rfl rfl Try.underlying37 rfl (s := 1) (by kernel_rfl) rfl rfl) ?_
  refine Fx.L.v (.slice a (n) (c)) (Fx.x_load1 (x := fun _ => .slice a (n) (c)) rfl rfl (by kernel_rfl) m2.cel (i := 0) (by omega) (by omega) rfl) ?_
  refine Fx.L.v (.int .i64 ((k : Int))) (Fx.x_move rfl h3) ?_
  obtain ⟨gq1, eq1⟩ := m3.addr (by omega)
  have m5 : Fx.Own w1 B 62 4 (.slice (some ⟨gq1, 0, none⟩) n c) n (Fx.flat 4 fun k => wtc (X k)) := m3.congV (congrArg (fun q => Value.slice q n c) eq1)
  refine Fx.L.v (.pointer (some ⟨gq1, 4 * k, none⟩)) (Fx.x_indexS rfl (rfl.trans (congrArg (fun q => Value.slice q (n) (c)) eq1)) rfl Try.underlying35 (s := 4) (by kernel_rfl) (by omega) (by omega) (by omega)) ?_
  refine Fx.L.v (.pointer (some ⟨gq1, 4 * k, none⟩)) (Fx.x_field rfl rfl Try.underlying62 rfl (s := 2) (by kernel_rfl) rfl rfl) ?_
  refine Fx.L.v (.agg (Fx.varr 2 (fun j => wtc (X k) (0 + j)))) (Fx.x_loadA (x := Fx.flat 4 fun k => wtc (X k)) (y := fun j => wtc (X k) (0 + j)) rfl rfl (by kernel_rfl) (by kernel_rfl) m5.cel (i := 4 * k) (by omega) (by omega) (fun jq hjq => (Fx.flat_at (k := k) (j := 0 + jq) (by omega) (by omega)).trans ((fun _ _ => rfl) jq hjq))) ?_
  refine Fx.L.bslice (vs := [(0, .agg (Fx.varr 2 (fun j => wtc (X k) (0 + j))))]) (s := 2) (zc := fun i => (#[.int .u64 (0), .int .i64 (0)] : Array Value).getD i undef) (y := Fx.ovr (fun j => (#[.int .u64 (0), .int .i64 (0)] : Array Value).getD (j % 2) undef) (0 * 2) 2 (fun j => wtc (X k) (0 + j))) (by rfl) rfl rfl Try.underlying28 (by kernel_rfl) (by rfl) (by rfl) (by kernel_rfl) (by rw [Fx.fill_step (off := 0 * 2) (s := 2) (y := fun j => wtc (X k) (0 + j)) rfl (Fx.cells_agg _ _) (by rfl)]; rfl) rfl fun g1 w2 eg1 m6 s1 z1 => ?_
  have m7 := m2.stp s1 (Nat.ne_of_lt (m2.lt))
  have m8 := m4.stp s1 (m4.notNew (Nat.le_refl _))
  have m9 := m5.stpB s1 (Nat.ne_of_lt (m5.lt))
  have b2 := s1.below b1 b1.size b1.size
  have lg1 : w.heap.size ≤ g1 := by rw [eg1]; exact b1.size
  have ng1m7 : q ≠ g1 := by rw [eg1]; exact Nat.ne_of_lt (m2.lt)
  have ng1m8 : (.slice a2 (k) (cap2) : Value).ownBlock ≠ some g1 := by rw [eg1]; exact m4.notNew (Nat.le_refl _)
  have ng1m9 : gq1 ≠ g1 := by rw [eg1]; exact Nat.ne_of_lt (m5.lt)
  have tg1 : g1 < w2.heap.size := m6.lt
  clear eg1
  refine Fx.L.app (B := w.heap.size) (s := 2) (bytes := 16) (k := k) (m := 1) (v := .slice a2 (k) (cap2)) (x := Fx.flat 2 fun q => wtc (X q)) (by rfl) rfl rfl rfl Try.underlying28 (by kernel_rfl) (by kernel_rfl) rfl rfl m8 m6.cel (fun j hj => by unfold Fx.ovr; rw [if_pos (by omega)]; exact wtc_one _ _) (by omega) (by omega) (by omega) b2.size fun g2 cap1 w3 ho1 hg1 hgv1 hlt1 => ?_
  have hct1 := Fx.ChT.of_grown hg1 m8
  have m11 := m7.chT hct1 (by decide)
  have m12 := m9.chT hct1 (by decide)
  have m10 : Fx.Own w3 w.heap.size 31 2 (.slice (some ⟨g2, 0, none⟩) (k + 1) cap1) (k + 1) (Fx.flat 2 fun q => wtc (X q)) := (ho1.congr (app2 (τ := fun q => q) (τ' := fun q => q) rfl (fun _ _ => rfl)))
  have b3 : Below w.heap.size w w3 := Fx.Below.grow b2 hg1 b2.size (fun q hq => (m8.ge hq).1)
  refine Fx.L.v (.slice (some ⟨g2, 0, none⟩) (k + 1) (cap1)) (Fx.x_assign rfl rfl) ?_
  refine Fx.L.nil (Fx.blkN (Fx.seqN (Fx.W.list (Fx.L.v (.int .i64 ((k : Int))) (Fx.x_move rfl h3) ?_))))
  refine Fx.L.v (.int .i64 ((k : Int) + 1)) (Fx.x_add rfl rfl rfl (Fx.i64e (by omega) (by omega))) ?_
  refine Fx.L.v (.int .i64 ((k : Int) + 1)) (Fx.x_assign rfl rfl) ?_
  refine Fx.L.nil ?_
  have m13 : Fx.Own w3 B 62 4 (.slice a (n) (c)) n (Fx.flat 4 fun k => wtc (X k)) := m12.congV (congrArg (fun q => Value.slice q n c) eq1.symm)
  skip
  refine Fx.lpN ⟨k + 1, (some ⟨g2, 0, none⟩), cap1, by omega, h1, (by rfl), (by first | rfl | exact congrArg (Value.int .i64) (by omega)), m11, m13, m10, b3⟩ ?_
  show (n - (intOf ((.int .i64 ((k : Int) + 1)))).toNat) < _
  simp only [h3, intOf]; omega
 ·refine Fx.L.v (.bool false) (Fx.x_lssF rfl rfl rfl c11) ?_
  refine Fx.L.nil (Fx.seqN (Fx.W.cond (b := false) rfl (fun h => nomatch h) (fun _ => Fx.W.exit (Fx.seqX (Fx.lpX (Fx.blkX (Fx.seqN (Fx.W.seq (Fx.W.list (Fx.L.v (.slice a2 (k) (cap2)) (Fx.x_move rfl h2) ?_))))))))))
  refine Fx.L.v (.slice a2 (k) (cap2)) (Fx.x_assign rfl rfl) ?_
  refine Fx.L.nil (Fx.seqN (Fx.W.ret (⟨.slice a2 (k) (cap2), Fx.retV1 Try.results17 (by exact rfl), ?_⟩)))
  obtain rfl : k = n := by omega
  exact ⟨_, _, rfl, m4, b1⟩
end Go.Proofs.Ytjnkejgjgknllaa
namespace Go.Proofs.Ytjnkejgjgknllaa
open Go.RowKit Rt
theorem r_done (node : Int) (q n : Nat) (a : Option Addr) (c : Nat) (X : Nat → WtM) (B : Nat) (w : World) (hq : Fx.Blk w q 1 (fun _ => .slice a n c) 37) (hO : Fx.Own w B 62 4 (.slice a n c) n (Fx.flat 4 fun k => wtc (X k))) (hn : n ≤ 32) (hB : B ≤ w.heap.size) :
    Calls Try.prog 15 #[.pointer (some ⟨q, 0, none⟩), .int .u64 (node)] w fun e w' => ∃ b a' n' c' X', e = .returned (.bool b) ∧ DoneR n X node b n' X' ∧ Fx.Blk w' q 1 (fun _ => .slice a' n' c') 37 ∧ Fx.Own w' B 62 4 (.slice a' n' c') n' (Fx.flat 4 fun k => wtc (X' k)) ∧ Fx.Chg (refS q (.slice a n c)) w w' := by
 refine Fx.enter Try.func15 rfl (n := 47) rfl (by rfl) ?_
 have hqlt := hq.lt
 refine Fx.W.seq (Fx.W.list (Fx.L.v (.bool false) (Fx.x_assign rfl rfl) ?_))
 refine Fx.L.nil (Fx.seqN (Fx.W.seq (Fx.W.seq (Fx.W.list (Fx.L.v (.int .i64 (0)) (Fx.x_assign rfl rfl) ?_)))))
 refine Fx.L.nil (Fx.seqN (Fx.W.block (Fx.W.loop (fun f w_ => ∃ k : Nat, k ≤ n ∧ (∀ i, i < k → (X i).node ≠ node) ∧ f 0 = .pointer (some ⟨q, 0, none⟩) ∧ f 1 = .int .u64 (node) ∧ f 5 = .int .i64 ((k : Int)) ∧ Fx.Blk w_ q 1 (fun _ => .slice a (n) (c)) 37 ∧ Fx.Own w_ B 62 4 (.slice a (n) (c)) n (Fx.flat 4 fun k => wtc (X k)) ∧ Fx.Chg (refS q (.slice a n c)) w w_) (fun f _ => (n - (intOf (f 5)).toNat)) ⟨0, by omega, (fun _ h => absurd h (Nat.not_lt_zero _)), (by rfl), (by first | rfl | exact congrArg (Value.int .u64) (by omega)), (by first | rfl | exact congrArg (Value.int .i64) (by omega)), hq, hO, (Fx.Chg.refl (refS q (.slice a n c)) w)⟩ ?_)))
 rintro f1 w1 ⟨k, hk, hne, h1, h2, h3, m1, m2, b1⟩
 refine Fx.W.seq (Fx.W.seq (Fx.W.list (Fx.L.v (.int .i64 ((k : Int))) (Fx.x_move rfl h3) ?_)))
 refine Fx.L.v (.pointer (some ⟨q, 0, none⟩)) (Fx.x_move rfl h1) ?_
 refine Fx.L.v (.pointer (some ⟨q, 0, none⟩)) (Fx.x_nil rfl rfl) ?_
 refine Fx.L.v (.pointer (some ⟨q, 0, none⟩)) (Fx.x_field rfl rfl Try.underlying37 rfl (s := 1) (by kernel_rfl) rfl rfl) ?_
 refine Fx.L.v (.slice a (n) (c)) (Fx.x_load1 (x := fun _ => .slice a (n) (c)) rfl rfl (by kernel_rfl) m1.cel (i := 0) (by omega) (by omega) rfl) ?_
 refine Fx.L.v (.int .i64 ((n : Int))) (Fx.x_len rfl rfl rfl (by kernel_rfl)) ?_
 by_cases c13 : (k : Int) < (n : Int)
 ·refine Fx.L.v (.bool true) (Fx.x_lssT rfl rfl rfl c13) ?_
  refine Fx.L.nil (Fx.seqN (Fx.W.cond (b := true) rfl (fun _ => Fx.W.skip (Fx.seqN (Fx.W.seq (Fx.W.block (Fx.W.seq (Fx.W.list (Fx.L.v (.pointer (some ⟨q, 0, none⟩)) (Fx.x_move rfl h1) ?_))))))) (fun h => nomatch h)))
  refine Fx.L.v (.pointer (some ⟨q, 0, none⟩)) (Fx.x_nil rfl rfl) ?_
  refine Fx.L.v (.pointer (some ⟨q, 0, none⟩)) (Fx.x_field rfl rfl Try.underlying37 rfl (s := 1) (by kernel_rfl) rfl rfl) ?_
  refine Fx.L.v (.slice a (n) (c)) (Fx.x_load1 (x := fun _ => .slice a (n) (c)) rfl rfl (by kernel_rfl) m1.cel (i := 0) (by omega) (by omega) rfl) ?_
  refine Fx.L.v (.int .i64 ((k : Int))) (Fx.x_move rfl h3) ?_
  obtain ⟨gq1, eq1⟩ := m2.addr (by omega)
  have m3 : Fx.Own w1 B 62 4 (.slice (some ⟨gq1, 0, none⟩) n c) n (Fx.flat 4 fun k => wtc (X k)) := m2.congV (congrArg (fun q => Value.slice q n c) eq1)
  refine Fx.L.v (.pointer (some ⟨gq1, 4 * k, none⟩)) (Fx.x_indexS rfl (rfl.trans (congrArg (fun q => Value.slice q (n) (c)) eq1)) rfl Try.underlying35 (s := 4) (by kernel_rfl) (by omega) (by omega) (by omega)) ?_
  refine Fx.L.v (.pointer (some ⟨gq1, 4 * k, none⟩)) (Fx.x_field rfl rfl Try.underlying62 rfl (s := 2) (by kernel_rfl) rfl rfl) ?_
  refine Fx.L.v (.pointer (some ⟨gq1, 4 * k, none⟩)) (Fx.x_field rfl rfl Try.underlying31 rfl (s := 1) (by kernel_rfl) rfl rfl) ?_
  refine Fx.L.v (.int .u64 ((X k).node)) (Fx.x_load1 (x := Fx.flat 4 fun k => wtc (X k)) rfl rfl (by kernel_rfl) m3.cel (i := 4 * k) (by omega) (by omega) (Fx.flat_cell (k := k) (j := 0) (by omega) (by omega) rfl)) ?_
  refine Fx.L.v (.int .u64 (node)) (Fx.x_move rfl h2) ?_
  by_cases c26 : ((X k).node) = node
  ·refine Fx.L.v (.bool true) (Fx.x_eqlT rfl rfl rfl c26) ?_
   refine Fx.L.nil (Fx.seqN (Fx.W.cond (b := true) rfl (fun _ => Fx.W.seq (Fx.W.list (Fx.L.v (.slice none 0 0) (Fx.x_assign rfl rfl) ?_))) (fun h => nomatch h)))
   refine Fx.L.nil (Fx.seqN (Fx.W.seq ?_))
   have m4 : Fx.Own w1 B 62 4 (.slice a (n) (c)) n (Fx.flat 4 fun k => wtc (X k)) := m3.congV (congrArg (fun q => Value.slice q n c) eq1.symm)
   refine Fx.W.list (Fx.L.v (.slice none 0 0) (Fx.x_move rfl rfl) ?_)
   refine Fx.L.v (.pointer (some ⟨q, 0, none⟩)) (Fx.x_move rfl h1) ?_
   refine Fx.L.v (.pointer (some ⟨q, 0, none⟩)) (Fx.x_nil rfl rfl) ?_
   refine Fx.L.v (.pointer (some ⟨q, 0, none⟩)) (Fx.x_field rfl rfl Try.underlying37 rfl (s := 1) (by kernel_rfl) rfl rfl) ?_
   refine Fx.L.v (.slice a (n) (c)) (Fx.x_load1 (x := fun _ => .slice a (n) (c)) rfl rfl (by kernel_rfl) m1.cel (i := 0) (by omega) (by omega) rfl) ?_
   refine Fx.L.v (.int .i64 ((k : Int))) (Fx.x_move rfl h3) ?_
   refine Fx.L.v (.slice a (k) (c)) (Fx.x_hi (j := k) (s := 4) rfl rfl rfl Try.underlying35 (by kernel_rfl) (by omega) m4) ?_
   refine Fx.L.appAny (B := w.heap.size) (s := 4) (bytes := 32) (k := 0) (m := k) (v := .slice none 0 0) (x := fun _ => undef) (by rfl) rfl rfl rfl Try.underlying35 (by kernel_rfl) (by kernel_rfl) rfl rfl (Fx.Own.nil w1 w.heap.size 62 4 (fun _ => undef)) (m4.arrLe (by omega)) (fun j _ => wtc_one _ _) (by omega) (by omega) b1.size fun vv1 w2 ho1 hg1 hgv1 => ?_
   rw [Nat.zero_add] at ho1
   obtain ⟨a1, cap1, rfl⟩ := ho1.val
   have hct1 := Fx.ChT.of_grown hg1 (Fx.Own.nil w1 w.heap.size 62 4 (fun _ => undef))
   have m6 := m1.chT hct1 (by decide)
   have hq1 : Below w1.heap.size w1 w2 := ⟨hg1.os, hg1.tape, hg1.output, hg1.size, fun q hq => hg1.block q hq (fun e => by cases e)⟩
   have m7 := m4.up hq1
   have m5 : Fx.Own w2 w.heap.size 62 4 (.slice a1 (k) (cap1)) k (Fx.flat 4 fun k => wtc (X k)) := (ho1.congr (fun j _ => by unfold Fx.appX; rw [if_neg (by omega)]; rfl))
   have b2 : Fx.Chg (refS q (.slice a n c)) w w2 := Fx.Chg.grow b1 hg1 (fun q hq => .inr ((Fx.Own.nil w1 w.heap.size 62 4 (fun _ => undef)).ge hq).1)
   refine Fx.L.v (.slice a1 (k) (cap1)) (Fx.x_assign rfl rfl) ?_
   refine Fx.L.nil (Fx.seqN (Fx.W.seq (Fx.W.list (Fx.L.v (.pointer (some ⟨q, 0, none⟩)) (Fx.x_move rfl h1) ?_))))
   refine Fx.L.v (.slice a1 (k) (cap1)) (Fx.x_move rfl rfl) ?_
   refine Fx.L.v (.pointer (some ⟨q, 0, none⟩)) (Fx.x_move rfl h1) ?_
   refine Fx.L.v (.pointer (some ⟨q, 0, none⟩)) (Fx.x_nil rfl rfl) ?_
   refine Fx.L.v (.pointer (some ⟨q, 0, none⟩)) (Fx.x_field rfl rfl Try.underlying37 rfl (s := 1) (by kernel_rfl) rfl rfl) ?_
   refine Fx.L.v (.slice a (n) (c)) (Fx.x_load1 (x := fun _ => .slice a (n) (c)) rfl rfl (by kernel_rfl) m6.cel (i := 0) (by omega) (by omega) rfl) ?_
   refine Fx.L.v (.int .i64 ((k : Int))) (Fx.x_move rfl h3) ?_
   refine Fx.L.v (.int .i64 ((k : Int) + 1)) (Fx.x_add rfl rfl rfl (Fx.i64e (by omega) (by omega))) ?_
   obtain ⟨r1, er1⟩ : ∃ r, n = k + 1 + r := ⟨n - (k + 1), by omega⟩
   refine Fx.L.lo (j := k + 1) (m := r1) (s := 4) (by rfl) (by rfl) rfl rfl rfl Try.underlying35 (by kernel_rfl) er1 m7 fun as1 has1 => ?_
   refine Fx.L.appAny (B := w.heap.size) (s := 4) (bytes := 32) (k := k) (m := r1) (v := .slice a1 (k) (cap1)) (x := Fx.flat 4 fun k => wtc (X k)) (by rfl) rfl rfl rfl Try.underlying35 (by kernel_rfl) (by kernel_rfl) rfl rfl m5 has1 (fun j _ => wtc_one _ _) (by omega) (by omega) b2.size fun vv2 w3 ho2 hg2 hgv2 => ?_
   rw [show k + r1 = n - 1 by omega] at ho2
   obtain ⟨a2, cap2, rfl⟩ := ho2.val
   have hct2 := Fx.ChT.of_grown hg2 m5
   have m9 := m6.chT hct2 (by decide)
   have m10 : Fx.Own w3 B 62 4 (.slice a (n) (c)) n (Fx.flat 4 fun k => wtc (X k)) := own_sep m7 (fun g e => (hO.ge e).2) m5 hg2
   have m8 : Fx.Own w3 w.heap.size 62 4 (.slice a2 (n - 1) (cap2)) (n - 1) (Fx.flat 4 fun i => wtc (Fx.delI X k i)) := (ho2.congr (fun j hj => del_app (n := n - 1) j hj))
   have b3 : Fx.Chg (refS q (.slice a n c)) w w3 := Fx.Chg.grow b2 hg2 (fun q hq => .inr (m5.ge hq).1)
   refine Fx.L.v (.pointer (some ⟨q, 0, none⟩)) (Fx.x_nil rfl rfl) ?_
   refine Fx.L.v (.pointer (some ⟨q, 0, none⟩)) (Fx.x_field rfl rfl Try.underlying37 rfl (s := 1) (by kernel_rfl) rfl rfl) ?_
   refine Fx.L.store1 (x := fun _ => .slice a (n) (c)) (u := .slice a2 (n - 1) (cap2)) (by rfl) rfl rfl rfl rfl (by rfl) (by kernel_rfl) m9 (i := 0) (by omega) fun w4 m11 s1 z1 => ?_
   have m12 : Fx.Blk w4 q 1 (fun _ => .slice a2 (n - 1) (cap2)) 37 := Fx.upd_all m11
   have hct3 := Fx.ChT.of_stp s1 m9.ty
   have m13 := m10.chT hct3 (by decide)
   have m14 := m8.chT hct3 (by decide)
   have b4 := b3.then s1 (.inl (.inl rfl))
   refine Fx.L.nil (Fx.seqN (Fx.W.seq (Fx.W.list (Fx.L.v (.bool true) (Fx.x_assign rfl rfl) ?_))))
   refine Fx.L.nil (Fx.seqN (Fx.W.ret (Fx.blkR (Fx.seqR (Fx.lpR (Fx.blkR (Fx.seqR (⟨.bool true, Fx.retV1 Try.results15 (by exact rfl), ?_⟩))))))))
   exact ⟨true, _, n - 1, _, Fx.delI X k, rfl, .yes k (by omega) c26, m12, m14.weak hB, b4⟩
  ·refine Fx.L.v (.bool false) (Fx.x_eqlF rfl rfl rfl c26) ?_
   refine Fx.L.nil (Fx.seqN (Fx.W.cond (b := false) rfl (fun h => nomatch h) (fun _ => Fx.W.skip (Fx.blkN (Fx.seqN (Fx.W.list (Fx.L.v (.int .i64 ((k : Int))) (Fx.x_move rfl h3) ?_)))))))
   refine Fx.L.v (.int .i64 ((k : Int) + 1)) (Fx.x_add rfl rfl rfl (Fx.i64e (by omega) (by omega))) ?_
   refine Fx.L.v (.int .i64 ((k : Int) + 1)) (Fx.x_assign rfl rfl) ?_
   refine Fx.L.nil ?_
   have m15 : Fx.Own w1 B 62 4 (.slice a (n) (c)) n (Fx.flat 4 fun k => wtc (X k)) := m3.congV (congrArg (fun q => Value.slice q n c) eq1.symm)
   refine Fx.lpN ⟨k + 1, by omega, (fun i hi => by by_cases e : i = k; rw [e]; omega; exact hne i (by omega)), h1, (h2.trans (by first | rfl | exact congrArg (Value.int .u64) (by omega))), (by first | rfl | exact congrArg (Value.int .i64) (by omega)), m1, m15, b1⟩ ?_
   show (n - (intOf ((.int .i64 ((k : Int) + 1)))).toNat) < _
   simp only [h3, intOf]; omega
 ·refine Fx.L.v (.bool false) (Fx.x_lssF rfl rfl rfl c13) ?_
  refine Fx.L.nil (Fx.seqN (Fx.W.cond (b := false) rfl (fun h => nomatch h) (fun _ => Fx.W.exit (Fx.seqX (Fx.lpX (Fx.blkX (Fx.seqN (Fx.W.seq (Fx.W.list (Fx.L.v (.bool false) (Fx.x_assign rfl rfl) ?_))))))))))
  refine Fx.L.nil (Fx.seqN (Fx.W.ret (⟨.bool false, Fx.retV1 Try.results15 (by exact rfl), ?_⟩)))
  exact ⟨false, a, n, c, X, rfl, .no (fun i hi => hne i (by omega)), m1, m2, b1⟩
theorem r_put (node x now : Int) (q n : Nat) (a : Option Addr) (c : Nat) (X : Nat → WtM) (B : Nat) (w : World) (hq : Fx.Blk w q 1 (fun _ => .slice a n c) 37) (hO : Fx.Own w B 62 4 (.slice a n c) n (Fx.flat 4 fun k => wtc (X k))) (hn : n ≤ 32) (hB : B ≤ w.heap.size) :
    Calls Try.prog 11 #[.pointer (some ⟨q, 0, none⟩), .int .u64 (node), .int .i64 (x), .int .u64 (now)] w fun e w' => ∃ cc a' n' c' X', e = .returned (.int .i64 cc) ∧ PutQ n X node x now cc n' X' ∧ Fx.Blk w' q 1 (fun _ => .slice a' n' c') 37 ∧ Fx.Own w' B 62 4 (.slice a' n' c') n' (Fx.flat 4 fun k => wtc (X' k)) ∧ Fx.Chg (refS q (.slice a n c)) w w' := by
 refine Fx.enter Try.func11 rfl (n := 119) rfl (by rfl) ?_
 have hqlt := hq.lt
 refine Fx.W.seq (Fx.W.list (Fx.L.v (.int .i64 (0)) (Fx.x_assign rfl rfl) ?_))
 refine Fx.L.nil (Fx.seqN (Fx.W.seq (Fx.W.seq (Fx.W.list (Fx.L.v (.int .i64 (x)) (Fx.x_move rfl rfl) ?_)))))
 by_cases c12 : x < 1
 ·refine Fx.L.v (.bool true) (Fx.x_lssT rfl rfl rfl c12) ?_
  refine Fx.L.v (.bool true) (Fx.x_move rfl rfl) ?_
  refine Fx.L.skip (by rfl) rfl ?_
  refine Fx.L.skip (by rfl) rfl ?_
  refine Fx.L.v (.bool true) (Fx.x_pickT rfl rfl rfl) ?_
  refine Fx.L.v (.bool true) (Fx.x_move rfl rfl) ?_
  refine Fx.L.skip (by rfl) rfl ?_
  refine Fx.L.skip (by rfl) rfl ?_
  refine Fx.L.v (.bool true) (Fx.x_pickT rfl rfl rfl) ?_
  refine Fx.L.v (.bool true) (Fx.x_move rfl rfl) ?_
  refine Fx.L.skip (by rfl) rfl ?_
  refine Fx.L.skip (by rfl) rfl ?_
  refine Fx.L.v (.bool true) (Fx.x_pickT rfl rfl rfl) ?_
  refine Fx.L.nil (Fx.seqN (Fx.W.cond (b := true) rfl (fun _ => Fx.W.seq (Fx.W.list (Fx.L.v (.int .i64 (1)) (Fx.x_assign rfl rfl) ?_))) (fun h => nomatch h)))
  refine Fx.L.nil (Fx.seqN (Fx.W.ret (Fx.seqR (⟨.int .i64 (1), Fx.retV1 Try.results11 (by exact rfl), ?_⟩))))
  exact ⟨_, a, n, c, X, rfl, .arg (by unfold putBad; omega), hq, hO, (Fx.Chg.refl (refS q (.slice a n c)) w)⟩
 ·refine Fx.L.v (.bool false) (Fx.x_lssF rfl rfl rfl c12) ?_
  refine Fx.L.v (.bool false) (Fx.x_move rfl rfl) ?_
  refine Fx.L.v (.int .i64 (x)) (Fx.x_move rfl rfl) ?_
  by_cases c15 : 1125899906842624 < x
  ·refine Fx.L.v (.bool true) (Fx.x_gtrT rfl rfl rfl c15) ?_
   refine Fx.L.v (.bool true) (Fx.x_pickF rfl rfl rfl) ?_
   refine Fx.L.v (.bool true) (Fx.x_move rfl rfl) ?_
   refine Fx.L.skip (by rfl) rfl ?_
   refine Fx.L.skip (by rfl) rfl ?_
   refine Fx.L.v (.bool true) (Fx.x_pickT rfl rfl rfl) ?_
   refine Fx.L.v (.bool true) (Fx.x_move rfl rfl) ?_
   refine Fx.L.skip (by rfl) rfl ?_
   refine Fx.L.skip (by rfl) rfl ?_
   refine Fx.L.v (.bool true) (Fx.x_pickT rfl rfl rfl) ?_
   refine Fx.L.nil (Fx.seqN (Fx.W.cond (b := true) rfl (fun _ => Fx.W.seq (Fx.W.list (Fx.L.v (.int .i64 (1)) (Fx.x_assign rfl rfl) ?_))) (fun h => nomatch h)))
   refine Fx.L.nil (Fx.seqN (Fx.W.ret (Fx.seqR (⟨.int .i64 (1), Fx.retV1 Try.results11 (by exact rfl), ?_⟩))))
   exact ⟨_, a, n, c, X, rfl, .arg (by unfold putBad; omega), hq, hO, (Fx.Chg.refl (refS q (.slice a n c)) w)⟩
  ·refine Fx.L.v (.bool false) (Fx.x_gtrF rfl rfl rfl c15) ?_
   refine Fx.L.v (.bool false) (Fx.x_pickF rfl rfl rfl) ?_
   refine Fx.L.v (.bool false) (Fx.x_move rfl rfl) ?_
   refine Fx.L.v (.int .u64 (node)) (Fx.x_move rfl rfl) ?_
   by_cases c19 : node = 0
   ·refine Fx.L.v (.bool true) (Fx.x_eqlT rfl rfl rfl c19) ?_
    refine Fx.L.v (.bool true) (Fx.x_pickF rfl rfl rfl) ?_
    refine Fx.L.v (.bool true) (Fx.x_move rfl rfl) ?_
    refine Fx.L.skip (by rfl) rfl ?_
    refine Fx.L.skip (by rfl) rfl ?_
    refine Fx.L.v (.bool true) (Fx.x_pickT rfl rfl rfl) ?_
    refine Fx.L.nil (Fx.seqN (Fx.W.cond (b := true) rfl (fun _ => Fx.W.seq (Fx.W.list (Fx.L.v (.int .i64 (1)) (Fx.x_assign rfl rfl) ?_))) (fun h => nomatch h)))
    refine Fx.L.nil (Fx.seqN (Fx.W.ret (Fx.seqR (⟨.int .i64 (1), Fx.retV1 Try.results11 (by exact rfl), ?_⟩))))
    exact ⟨_, a, n, c, X, rfl, .arg (by unfold putBad; omega), hq, hO, (Fx.Chg.refl (refS q (.slice a n c)) w)⟩
   ·refine Fx.L.v (.bool false) (Fx.x_eqlF rfl rfl rfl c19) ?_
    refine Fx.L.v (.bool false) (Fx.x_pickF rfl rfl rfl) ?_
    refine Fx.L.v (.bool false) (Fx.x_move rfl rfl) ?_
    refine Fx.L.v (.int .u64 (now)) (Fx.x_move rfl rfl) ?_
    by_cases c23 : 4611686018427387904 < now
    ·refine Fx.L.v (.bool true) (Fx.x_gtrT rfl rfl rfl c23) ?_
     refine Fx.L.v (.bool true) (Fx.x_pickF rfl rfl rfl) ?_
     refine Fx.L.nil (Fx.seqN (Fx.W.cond (b := true) rfl (fun _ => Fx.W.seq (Fx.W.list (Fx.L.v (.int .i64 (1)) (Fx.x_assign rfl rfl) ?_))) (fun h => nomatch h)))
     refine Fx.L.nil (Fx.seqN (Fx.W.ret (Fx.seqR (⟨.int .i64 (1), Fx.retV1 Try.results11 (by exact rfl), ?_⟩))))
     exact ⟨_, a, n, c, X, rfl, .arg (by unfold putBad; omega), hq, hO, (Fx.Chg.refl (refS q (.slice a n c)) w)⟩
    ·refine Fx.L.v (.bool false) (Fx.x_gtrF rfl rfl rfl c23) ?_
     refine Fx.L.v (.bool false) (Fx.x_pickF rfl rfl rfl) ?_
     refine Fx.L.nil (Fx.seqN (Fx.W.cond (b := false) rfl (fun h => nomatch h) (fun _ => Fx.W.skip (Fx.seqN (Fx.W.seq (Fx.W.list (Fx.L.v (.int .i64 (0)) (Fx.x_assign rfl rfl) ?_)))))))
     refine Fx.L.nil (Fx.seqN (Fx.W.seqJ (fun f w_ => ∃ j : Nat, j ≤ n ∧ (∀ i, i < j → (X i).node < node) ∧ (j < n → ¬ (X j).node < node) ∧ f 0 = .pointer (some ⟨q, 0, none⟩) ∧ f 1 = .int .u64 (node) ∧ f 2 = .int .i64 (x) ∧ f 3 = .int .u64 (now) ∧ f 9 = .int .i64 ((j : Int)) ∧ Fx.Blk w_ q 1 (fun _ => .slice a (n) (c)) 37 ∧ Fx.Own w_ B 62 4 (.slice a (n) (c)) n (Fx.flat 4 fun k => wtc (X k)) ∧ Fx.Chg (refS q (.slice a n c)) w w_) ?_ ?_))
     ·refine Fx.W.block (Fx.W.loop (fun f w_ => ∃ k : Nat, k ≤ n ∧ (∀ i, i < k → (X i).node < node) ∧ f 0 = .pointer (some ⟨q, 0, none⟩) ∧ f 1 = .int .u64 (node) ∧ f 2 = .int .i64 (x) ∧ f 3 = .int .u64 (now) ∧ f 9 = .int .i64 ((k : Int)) ∧ Fx.Blk w_ q 1 (fun _ => .slice a (n) (c)) 37 ∧ Fx.Own w_ B 62 4 (.slice a (n) (c)) n (Fx.flat 4 fun k => wtc (X k)) ∧ Fx.Chg (refS q (.slice a n c)) w w_) (fun f _ => (n - (intOf (f 9)).toNat)) ⟨0, by omega, (fun _ h => absurd h (Nat.not_lt_zero _)), (by rfl), (by first | rfl | exact congrArg (Value.int .u64) (by omega)), (by first | rfl | exact congrArg (Value.int .i64) (by omega)), (by first | rfl | exact congrArg (Value.int .u64) (by omega)), (by first | rfl | exact congrArg (Value.int .i64) (by omega)), hq, hO, (Fx.Chg.refl (refS q (.slice a n c)) w)⟩ ?_)
      rintro f1 w1 ⟨k, hk, hlt, h1, h2, h3, h4, h5, m1, m2, b1⟩
      refine Fx.W.seq (Fx.W.seq (Fx.W.list (Fx.L.v (.int .i64 ((k : Int))) (Fx.x_move rfl h5) ?_)))
      refine Fx.L.v (.pointer (some ⟨q, 0, none⟩)) (Fx.x_move rfl h1) ?_
      refine Fx.L.v (.pointer (some ⟨q, 0, none⟩)) (Fx.x_nil rfl rfl) ?_
      refine Fx.L.v (.pointer (some ⟨q, 0, none⟩)) (Fx.x_field rfl rfl Try.underlying37 rfl (s := 1) (by kernel_rfl) rfl rfl) ?_
      refine Fx.L.v (.slice a (n) (c)) (Fx.x_load1 (x := fun _ => .slice a (n) (c)) rfl rfl (by kernel_rfl) m1.cel (i := 0) (by omega) (by omega) rfl) ?_
      refine Fx.L.v (.int .i64 ((n : Int))) (Fx.x_len rfl rfl rfl (by kernel_rfl)) ?_
      by_cases c31 : (k : Int) < (n : Int)
      ·refine Fx.L.v (.bool true) (Fx.x_lssT rfl rfl rfl c31) ?_
       refine Fx.L.v (.bool true) (Fx.x_move rfl rfl) ?_
       refine Fx.L.v (.pointer (some ⟨q, 0, none⟩)) (Fx.x_move rfl h1) ?_
       refine Fx.L.v (.pointer (some ⟨q, 0, none⟩)) (Fx.x_nil rfl rfl) ?_
       refine Fx.L.v (.pointer (some ⟨q, 0, none⟩)) (Fx.x_field rfl rfl Try.underlying37 rfl (s := 1) (by kernel_rfl) rfl rfl) ?_
       refine Fx.L.v (.slice a (n) (c)) (Fx.x_load1 (x := fun _ => .slice a (n) (c)) rfl rfl (by kernel_rfl) m1.cel (i := 0) (by omega) (by omega) rfl) ?_
       refine Fx.L.v (.int .i64 ((k : Int))) (Fx.x_move rfl h5) ?_
       obtain ⟨gq1, eq1⟩ := m2.addr (by omega)
       have m3 : Fx.Own w1 B 62 4 (.slice (some ⟨gq1, 0, none⟩) n c) n (Fx.flat 4 fun k => wtc (X k)) := m2.congV (congrArg (fun q => Value.slice q n c) eq1)
       refine Fx.L.v (.pointer (some ⟨gq1, 4 * k, none⟩)) (Fx.x_indexS rfl (rfl.trans (congrArg (fun q => Value.slice q (n) (c)) eq1)) rfl Try.underlying35 (s := 4) (by kernel_rfl) (by omega) (by omega) (by omega)) ?_
       refine Fx.L.v (.pointer (some ⟨gq1, 4 * k, none⟩)) (Fx.x_field rfl rfl Try.underlying62 rfl (s := 2) (by kernel_rfl) rfl rfl) ?_
       refine Fx.L.v (.pointer (some ⟨gq1, 4 * k, none⟩)) (Fx.x_field rfl rfl Try.underlying31 rfl (s := 1) (by kernel_rfl) rfl rfl) ?_
       refine Fx.L.v (.int .u64 ((X k).node)) (Fx.x_load1 (x := Fx.flat 4 fun k => wtc (X k)) rfl rfl (by kernel_rfl) m3.cel (i := 4 * k) (by omega) (by omega) (Fx.flat_cell (k := k) (j := 0) (by omega) (by omega) rfl)) ?_
       refine Fx.L.v (.int .u64 (node)) (Fx.x_move rfl h2) ?_
       by_cases c43 : ((X k).node) < node
       ·refine Fx.L.v (.bool true) (Fx.x_lssT rfl rfl rfl c43) ?_
        refine Fx.L.v (.bool true) (Fx.x_pickT rfl rfl rfl) ?_
        refine Fx.L.nil (Fx.seqN (Fx.W.cond (b := true) rfl (fun _ => Fx.W.skip (Fx.seqN (Fx.W.block (Fx.W.list (Fx.L.v (.int .i64 ((k : Int))) (Fx.x_move rfl h5) ?_))))) (fun h => nomatch h)))
        refine Fx.L.v (.int .i64 ((k : Int) + 1)) (Fx.x_add rfl rfl rfl (Fx.i64e (by omega) (by omega))) ?_
        refine Fx.L.v (.int .i64 ((k : Int) + 1)) (Fx.x_assign rfl rfl) ?_
        refine Fx.L.nil (Fx.blkN ?_)
        have m4 : Fx.Own w1 B 62 4 (.slice a (n) (c)) n (Fx.flat 4 fun k => wtc (X k)) := m3.congV (congrArg (fun q => Value.slice q n c) eq1.symm)
        refine Fx.lpN ⟨k + 1, by omega, (fun i hi => by by_cases e : i = k; rw [e]; omega; exact hlt i (by omega)), h1, (h2.trans (by first | rfl | exact congrArg (Value.int .u64) (by omega))), (h3.trans (by first | rfl | exact congrArg (Value.int .i64) (by omega))), (h4.trans (by first | rfl | exact congrArg (Value.int .u64) (by omega))), (by first | rfl | exact congrArg (Value.int .i64) (by omega)), m1, m4, b1⟩ ?_
        show (n - (intOf ((.int .i64 ((k : Int) + 1)))).toNat) < _
        simp only [h5, intOf]; omega
       ·refine Fx.L.v (.bool false) (Fx.x_lssF rfl rfl rfl c43) ?_
        refine Fx.L.v (.bool false) (Fx.x_pickT rfl rfl rfl) ?_
        refine Fx.L.nil (Fx.seqN (Fx.W.cond (b := false) rfl (fun h => nomatch h) (fun _ => Fx.W.exit (Fx.seqX (Fx.lpX (Fx.blkX ?_))))))
        have m5 : Fx.Own w1 B 62 4 (.slice a (n) (c)) n (Fx.flat 4 fun k => wtc (X k)) := m3.congV (congrArg (fun q => Value.slice q n c) eq1.symm)
        exact Fx.jnN ⟨k, hk, hlt, (fun _ => c43), h1, (h2.trans (by first | rfl | exact congrArg (Value.int .u64) (by omega))), (h3.trans (by first | rfl | exact congrArg (Value.int .i64) (by omega))), (h4.trans (by first | rfl | exact congrArg (Value.int .u64) (by omega))), (h5.trans (by first | rfl | exact congrArg (Value.int .i64) (by omega))), m1, m5, b1⟩
      ·refine Fx.L.v (.bool false) (Fx.x_lssF rfl rfl rfl c31) ?_
       refine Fx.L.v (.bool false) (Fx.x_move rfl rfl) ?_
       refine Fx.L.skip (by rfl) rfl ?_
       refine Fx.L.skip (by rfl) rfl ?_
       refine Fx.L.skip (by rfl) rfl ?_
       refine Fx.L.skip (by rfl) rfl ?_
       refine Fx.L.skip (by rfl) rfl ?_
       refine Fx.L.skip (by rfl) rfl ?_
       refine Fx.L.skip (by rfl) rfl ?_
       refine Fx.L.skip (by rfl) rfl ?_
       refine Fx.L.skip (by rfl) rfl ?_
       refine Fx.L.skip (by rfl) rfl ?_
       refine Fx.L.skip (by rfl) rfl ?_
       refine Fx.L.v (.bool false) (Fx.x_pickF rfl rfl rfl) ?_
       refine Fx.L.nil (Fx.seqN (Fx.W.cond (b := false) rfl (fun h => nomatch h) (fun _ => Fx.W.exit (Fx.seqX (Fx.lpX (Fx.blkX ?_))))))
       exact Fx.jnN ⟨k, hk, hlt, (fun h => by omega), h1, (h2.trans (by first | rfl | exact congrArg (Value.int .u64) (by omega))), (h3.trans (by first | rfl | exact congrArg (Value.int .i64) (by omega))), (h4.trans (by first | rfl | exact congrArg (Value.int .u64) (by omega))), (h5.trans (by first | rfl | exact congrArg (Value.int .i64) (by omega))), m1, m2, b1⟩
     ·rintro f2 w2 ⟨j, hj, hl, hg, h6, h7, h8, h9, h10, m6, m7, b2⟩
      refine Fx.W.seq (Fx.W.seq (Fx.W.list (Fx.L.v (.int .i64 ((j : Int))) (Fx.x_move rfl h10) ?_)))
      refine Fx.L.v (.pointer (some ⟨q, 0, none⟩)) (Fx.x_move rfl h6) ?_
      refine Fx.L.v (.pointer (some ⟨q, 0, none⟩)) (Fx.x_nil rfl rfl) ?_
      refine Fx.L.v (.pointer (some ⟨q, 0, none⟩)) (Fx.x_field rfl rfl Try.underlying37 rfl (s := 1) (by kernel_rfl) rfl rfl) ?_
      refine Fx.L.v (.slice a (n) (c)) (Fx.x_load1 (x := fun _ => .slice a (n) (c)) rfl rfl (by kernel_rfl) m6.cel (i := 0) (by omega) (by omega) rfl) ?_
      refine Fx.L.v (.int .i64 ((n : Int))) (Fx.x_len rfl rfl rfl (by kernel_rfl)) ?_
      by_cases c53 : (j : Int) < (n : Int)
      ·refine Fx.L.v (.bool true) (Fx.x_lssT rfl rfl rfl c53) ?_
       refine Fx.L.v (.bool true) (Fx.x_move rfl rfl) ?_
       refine Fx.L.v (.pointer (some ⟨q, 0, none⟩)) (Fx.x_move rfl h6) ?_
       refine Fx.L.v (.pointer (some ⟨q, 0, none⟩)) (Fx.x_nil rfl rfl) ?_
       refine Fx.L.v (.pointer (some ⟨q, 0, none⟩)) (Fx.x_field rfl rfl Try.underlying37 rfl (s := 1) (by kernel_rfl) rfl rfl) ?_
       refine Fx.L.v (.slice a (n) (c)) (Fx.x_load1 (x := fun _ => .slice a (n) (c)) rfl rfl (by kernel_rfl) m6.cel (i := 0) (by omega) (by omega) rfl) ?_
       refine Fx.L.v (.int .i64 ((j : Int))) (Fx.x_move rfl h10) ?_
       obtain ⟨gq2, eq2⟩ := m7.addr (by omega)
       have m8 : Fx.Own w2 B 62 4 (.slice (some ⟨gq2, 0, none⟩) n c) n (Fx.flat 4 fun k => wtc (X k)) := m7.congV (congrArg (fun q => Value.slice q n c) eq2)
       refine Fx.L.v (.pointer (some ⟨gq2, 4 * j, none⟩)) (Fx.x_indexS rfl (rfl.trans (congrArg (fun q => Value.slice q (n) (c)) eq2)) rfl Try.underlying35 (s := 4) (by kernel_rfl) (by omega) (by omega) (by omega)) ?_
       refine Fx.L.v (.pointer (some ⟨gq2, 4 * j, none⟩)) (Fx.x_field rfl rfl Try.underlying62 rfl (s := 2) (by kernel_rfl) rfl rfl) ?_
       refine Fx.L.v (.pointer (some ⟨gq2, 4 * j, none⟩)) (Fx.x_field rfl rfl Try.underlying31 rfl (s := 1) (by kernel_rfl) rfl rfl) ?_
       refine Fx.L.v (.int .u64 ((X j).node)) (Fx.x_load1 (x := Fx.flat 4 fun k => wtc (X k)) rfl rfl (by kernel_rfl) m8.cel (i := 4 * j) (by omega) (by omega) (Fx.flat_cell (k := j) (j := 0) (by omega) (by omega) rfl)) ?_
       refine Fx.L.v (.int .u64 (node)) (Fx.x_move rfl h7) ?_
       by_cases c65 : ((X j).node) = node
       ·refine Fx.L.v (.bool true) (Fx.x_eqlT rfl rfl rfl c65) ?_
        refine Fx.L.v (.bool true) (Fx.x_pickT rfl rfl rfl) ?_
        refine Fx.L.nil (Fx.seqN (Fx.W.cond (b := true) rfl (fun _ => Fx.W.seq ?_) (fun h => nomatch h)))
        -- region 7 draws
        refine Fx.W.tail 19 (by kernel_rfl) (by kernel_rfl) fun wt1 hbwt1 hzwt1 => ?_
        have s1 : Fx.Stp w2.heap.size w2 wt1 := Fx.Stp.of_below hbwt1
        have m9 := m6.stp s1 (Nat.ne_of_lt (m6.lt))
        have m10 := m8.stpB s1 (Nat.ne_of_lt (m8.lt))
        have b3 := b2.then s1 (.inr b2.size)
        refine Fx.St.v (.pointer (some ⟨q, 0, none⟩)) (Fx.x_move rfl h6) ?_
        refine Fx.St.v (.pointer (some ⟨q, 0, none⟩)) (Fx.x_nil rfl rfl) ?_
        refine Fx.St.v (.pointer (some ⟨q, 0, none⟩)) (Fx.x_field rfl rfl Try.underlying37 rfl (s := 1) (by kernel_rfl) rfl rfl) ?_
        refine Fx.St.v (.slice a (n) (c)) (Fx.x_load1 (x := fun _ => .slice a (n) (c)) rfl rfl (by kernel_rfl) m9.cel (i := 0) (by omega) (by omega) rfl) ?_
        refine Fx.St.v (.int .i64 ((j : Int))) (Fx.x_move rfl h10) ?_
        refine Fx.St.v (.pointer (some ⟨q, 0, none⟩)) (Fx.x_move rfl h6) ?_
        refine Fx.St.v (.pointer (some ⟨q, 0, none⟩)) (Fx.x_nil rfl rfl) ?_
        refine Fx.St.v (.pointer (some ⟨q, 0, none⟩)) (Fx.x_field rfl rfl Try.underlying37 rfl (s := 1) (by kernel_rfl) rfl rfl) ?_
        refine Fx.St.v (.slice a (n) (c)) (Fx.x_load1 (x := fun _ => .slice a (n) (c)) rfl rfl (by kernel_rfl) m9.cel (i := 0) (by omega) (by omega) rfl) ?_
        refine Fx.St.v (.int .i64 ((j : Int))) (Fx.x_move rfl h10) ?_
        refine Fx.St.v (.pointer (some ⟨gq2, 4 * j, none⟩)) (Fx.x_indexS rfl (rfl.trans (congrArg (fun q => Value.slice q (n) (c)) eq2)) rfl Try.underlying35 (s := 4) (by kernel_rfl) (by omega) (by omega) (by omega)) ?_
        refine Fx.St.v (.pointer (some ⟨gq2, 4 * j, none⟩)) (Fx.x_field rfl rfl Try.underlying62 rfl (s := 2) (by kernel_rfl) rfl rfl) ?_
        refine Fx.St.v (.pointer (some ⟨gq2, 4 * j + 1, none⟩)) (Fx.x_field rfl rfl Try.underlying31 rfl (s := 1) (by kernel_rfl) rfl (by show _ + 1 = _; omega)) ?_
        refine Fx.St.v (.int .i64 ((X j).amt)) (Fx.x_load1 (x := Fx.flat 4 fun k => wtc (X k)) rfl rfl (by kernel_rfl) m10.cel (i := 4 * j + 1) (by omega) (by omega) (Fx.flat_cell (k := j) (j := 1) (by omega) (by omega) rfl)) ?_
        refine Fx.St.v (.int .i64 (x)) (Fx.x_move rfl h8) ?_
        refine Fx.St.v (.int .i64 (mxZ ((X j).amt) x)) (Fx.x_max rfl rfl rfl) ?_
        refine Fx.St.v (.pointer (some ⟨gq2, 4 * j, none⟩)) (Fx.x_indexS rfl (rfl.trans (congrArg (fun q => Value.slice q (n) (c)) eq2)) rfl Try.underlying35 (s := 4) (by kernel_rfl) (by omega) (by omega) (by omega)) ?_
        refine Fx.St.v (.pointer (some ⟨gq2, 4 * j, none⟩)) (Fx.x_field rfl rfl Try.underlying62 rfl (s := 2) (by kernel_rfl) rfl rfl) ?_
        refine Fx.St.v (.pointer (some ⟨gq2, 4 * j + 1, none⟩)) (Fx.x_field rfl rfl Try.underlying31 rfl (s := 1) (by kernel_rfl) rfl (by show _ + 1 = _; omega)) ?_
        refine Fx.St.nil ?_
        refine Fx.L.own1 (x := Fx.flat 4 fun k => wtc (X k)) (u := .int .i64 (mxZ ((X j).amt) x)) (by rfl) rfl rfl rfl rfl (by rfl) (by kernel_rfl) m10 (i := 4 * j + 1) (by omega) fun w3 m11 s2 z1 => ?_
        have hct1 := Fx.ChT.of_stp s2 m10.tyB
        have m12 := m9.chT hct1 (by decide)
        have b4 := b3.then s2 (.inl (.inr (by rw [eq2]; rfl)) )
        have m13 := m11.congr (y := Fx.flat 4 fun k => wtc (Fx.putI X j ⟨(X j).node, mxZ (X j).amt x, (X j).at_, (X j).wait⟩ k)) (flat_upd X j ⟨(X j).node, mxZ (X j).amt x, (X j).at_, (X j).wait⟩ 1 _ _ (by omega) (by omega) (fun i _ => congrFun (wtc_amt (X j) _) i))
        refine Fx.L.nil (Fx.seqN (Fx.W.seq (Fx.W.list (Fx.L.v (.int .i64 (0)) (Fx.x_assign rfl rfl) ?_))))
        refine Fx.L.nil (Fx.seqN (Fx.W.ret (Fx.seqR (⟨.int .i64 (0), Fx.retV1 Try.results11 (by exact rfl), ?_⟩))))
        have m14 : Fx.Own w3 B 62 4 (.slice a (n) (c)) n (Fx.flat 4 fun k => wtc (Fx.putI X j ⟨(X j).node, mxZ (X j).amt x, (X j).at_, (X j).wait⟩ k)) := m13.congV (congrArg (fun q => Value.slice q n c) eq2.symm)
        exact ⟨_, a, n, c, _, rfl, .had j (fun hb => by unfold putBad at hb; omega) (by omega) c65, m12, m14, b4⟩
       ·refine Fx.L.v (.bool false) (Fx.x_eqlF rfl rfl rfl c65) ?_
        refine Fx.L.v (.bool false) (Fx.x_pickT rfl rfl rfl) ?_
        refine Fx.L.nil (Fx.seqN (Fx.W.cond (b := false) rfl (fun h => nomatch h) (fun _ => Fx.W.skip (Fx.seqN (Fx.W.seq (Fx.W.seq (Fx.W.list (Fx.L.v (.pointer (some ⟨q, 0, none⟩)) (Fx.x_move rfl h6) ?_))))))))
        refine Fx.L.v (.pointer (some ⟨q, 0, none⟩)) (Fx.x_nil rfl rfl) ?_
        refine Fx.L.v (.pointer (some ⟨q, 0, none⟩)) (Fx.x_field rfl rfl Try.underlying37 rfl (s := 1) (by kernel_rfl) rfl rfl) ?_
        refine Fx.L.v (.slice a (n) (c)) (Fx.x_load1 (x := fun _ => .slice a (n) (c)) rfl rfl (by kernel_rfl) m6.cel (i := 0) (by omega) (by omega) rfl) ?_
        refine Fx.L.v (.int .i64 ((n : Int))) (Fx.x_len rfl rfl rfl (by kernel_rfl)) ?_
        by_cases c91 : 32 ≤ (n : Int)
        ·refine Fx.L.v (.bool true) (Fx.x_geqT rfl rfl rfl c91) ?_
         refine Fx.L.nil (Fx.seqN (Fx.W.cond (b := true) rfl (fun _ => Fx.W.seq (Fx.W.list (Fx.L.v (.int .i64 (7)) (Fx.x_assign rfl rfl) ?_))) (fun h => nomatch h)))
         refine Fx.L.nil (Fx.seqN (Fx.W.ret (Fx.seqR (⟨.int .i64 (7), Fx.retV1 Try.results11 (by exact rfl), ?_⟩))))
         have m15 : Fx.Own w2 B 62 4 (.slice a (n) (c)) n (Fx.flat 4 fun k => wtc (X k)) := m8.congV (congrArg (fun q => Value.slice q n c) eq2.symm)
         exact ⟨_, a, n, c, X, rfl, .full j (fun hb => by unfold putBad at hb; omega) hj hl (fun h => by have := hg h; omega) (by omega), m6, m15, b2⟩
        ·refine Fx.L.v (.bool false) (Fx.x_geqF rfl rfl rfl c91) ?_
         refine Fx.L.nil (Fx.seqN (Fx.W.cond (b := false) rfl (fun h => nomatch h) (fun _ => Fx.W.skip (Fx.seqN (Fx.W.seq ?_)))))
         have m16 : Fx.Own w2 B 62 4 (.slice a (n) (c)) n (Fx.flat 4 fun k => wtc (X k)) := m8.congV (congrArg (fun q => Value.slice q n c) eq2.symm)
         refine Fx.W.list (Fx.L.v (.slice none 0 0) (Fx.x_assign rfl rfl) ?_)
         refine Fx.L.nil (Fx.seqN (Fx.W.seq (Fx.W.list (Fx.L.v (.slice none 0 0) (Fx.x_move rfl rfl) ?_))))
         refine Fx.L.v (.pointer (some ⟨q, 0, none⟩)) (Fx.x_move rfl h6) ?_
         refine Fx.L.v (.pointer (some ⟨q, 0, none⟩)) (Fx.x_nil rfl rfl) ?_
         refine Fx.L.v (.pointer (some ⟨q, 0, none⟩)) (Fx.x_field rfl rfl Try.underlying37 rfl (s := 1) (by kernel_rfl) rfl rfl) ?_
         refine Fx.L.v (.slice a (n) (c)) (Fx.x_load1 (x := fun _ => .slice a (n) (c)) rfl rfl (by kernel_rfl) m6.cel (i := 0) (by omega) (by omega) rfl) ?_
         refine Fx.L.v (.int .i64 ((j : Int))) (Fx.x_move rfl h10) ?_
         refine Fx.L.v (.slice a (j) (c)) (Fx.x_hi (j := j) (s := 4) rfl rfl rfl Try.underlying35 (by kernel_rfl) (by omega) m16) ?_
         refine Fx.L.appAny (B := w.heap.size) (s := 4) (bytes := 32) (k := 0) (m := j) (v := .slice none 0 0) (x := fun _ => undef) (by rfl) rfl rfl rfl Try.underlying35 (by kernel_rfl) (by kernel_rfl) rfl rfl (Fx.Own.nil w2 w.heap.size 62 4 (fun _ => undef)) (m16.arrLe (by omega)) (fun j _ => wtc_one _ _) (by omega) (by omega) b2.size fun vv1 w4 ho1 hg1 hgv1 => ?_
         rw [Nat.zero_add] at ho1
         obtain ⟨a1, cap1, rfl⟩ := ho1.val
         have hct2 := Fx.ChT.of_grown hg1 (Fx.Own.nil w2 w.heap.size 62 4 (fun _ => undef))
         have m18 := m6.chT hct2 (by decide)
         have hq1 : Below w2.heap.size w2 w4 := ⟨hg1.os, hg1.tape, hg1.output, hg1.size, fun q hq => hg1.block q hq (fun e => by cases e)⟩
         have m19 := m16.up hq1
         have m17 : Fx.Own w4 w.heap.size 62 4 (.slice a1 (j) (cap1)) j (Fx.flat 4 fun k => wtc (X k)) := (ho1.congr (fun j _ => by unfold Fx.appX; rw [if_neg (by omega)]; rfl))
         have b5 : Fx.Chg (refS q (.slice a n c)) w w4 := Fx.Chg.grow b2 hg1 (fun q hq => .inr ((Fx.Own.nil w2 w.heap.size 62 4 (fun _ => undef)).ge hq).1)
         refine Fx.L.v (.slice a1 (j) (cap1)) (Fx.x_assign rfl rfl) ?_
         refine Fx.L.nil (Fx.seqN (Fx.W.seq (Fx.W.list (Fx.L.v (.slice a1 (j) (cap1)) (Fx.x_move rfl rfl) ?_))))
         refine Fx.L.v (.int .u64 (node)) (Fx.x_move rfl h7) ?_
         refine Fx.L.v (.int .i64 (x)) (Fx.x_move rfl h8) ?_
         refine Fx.L.v (.agg (Fx.varr 2 (Fx.ovr (Fx.ovr (fun i => (#[.int .u64 (0), .int .i64 (0)] : Array Value).getD i undef) 0 1 (fun _ => .int .u64 (node))) 1 1 (fun _ => .int .i64 (x))))) (Fx.x_build (vs := [(0, .int .u64 (node)), (1, .int .i64 (x))]) (places := #[(0, 1), (1, 1)]) (m := 2) (x := fun i => (#[.int .u64 (0), .int .i64 (0)] : Array Value).getD i undef) rfl rfl Try.underlying31 (by kernel_rfl) (by kernel_rfl) (by rw [Fx.fill_step (off := 0) (s := 1) (y := fun _ => .int .u64 (node)) (by kernel_rfl) (Fx.cells_one (by rfl)) (by rfl)]; rw [Fx.fill_step (off := 1) (s := 1) (y := fun _ => .int .i64 (x)) (by kernel_rfl) (Fx.cells_one (by rfl)) (by rfl)]; rfl)) ?_
         refine Fx.L.v (.int .u64 (now)) (Fx.x_move rfl h9) ?_
         refine Fx.L.v (.agg (Fx.varr 4 (Fx.ovr (Fx.ovr (Fx.ovr (fun i => (#[.int .u64 (0), .int .i64 (0), .int .u64 (0), .int .u64 (0)] : Array Value).getD i undef) 0 2 (Fx.ovr (Fx.ovr (fun i => (#[.int .u64 (0), .int .i64 (0)] : Array Value).getD i undef) 0 1 (fun _ => .int .u64 (node))) 1 1 (fun _ => .int .i64 (x)))) 2 1 (fun _ => .int .u64 (now))) 3 1 (fun _ => .int .u64 (1))))) (Fx.x_build (vs := [(0, .agg (Fx.varr 2 (Fx.ovr (Fx.ovr (fun i => (#[.int .u64 (0), .int .i64 (0)] : Array Value).getD i undef) 0 1 (fun _ => .int .u64 (node))) 1 1 (fun _ => .int .i64 (x))))), (1, .int .u64 (now)), (2, .int .u64 (1))]) (places := #[(0, 2), (2, 1), (3, 1)]) (m := 4) (x := fun i => (#[.int .u64 (0), .int .i64 (0), .int .u64 (0), .int .u64 (0)] : Array Value).getD i undef) rfl rfl Try.underlying62 (by kernel_rfl) (by kernel_rfl) (by rw [Fx.fill_step (off := 0) (s := 2) (y := Fx.ovr (Fx.ovr (fun i => (#[.int .u64 (0), .int .i64 (0)] : Array Value).getD i undef) 0 1 (fun _ => .int .u64 (node))) 1 1 (fun _ => .int .i64 (x))) (by kernel_rfl) (Fx.cells_agg _ _) (by rfl)]; rw [Fx.fill_step (off := 2) (s := 1) (y := fun _ => .int .u64 (now)) (by kernel_rfl) (Fx.cells_one (by rfl)) (by rfl)]; rw [Fx.fill_step (off := 3) (s := 1) (y := fun _ => .int .u64 (1)) (by kernel_rfl) (Fx.cells_one (by rfl)) (by rfl)]; rfl)) ?_
         refine Fx.L.bslice (vs := [(0, .agg (Fx.varr 4 (Fx.ovr (Fx.ovr (Fx.ovr (fun i => (#[.int .u64 (0), .int .i64 (0), .int .u64 (0), .int .u64 (0)] : Array Value).getD i undef) 0 2 (Fx.ovr (Fx.ovr (fun i => (#[.int .u64 (0), .int .i64 (0)] : Array Value).getD i undef) 0 1 (fun _ => .int .u64 (node))) 1 1 (fun _ => .int .i64 (x)))) 2 1 (fun _ => .int .u64 (now))) 3 1 (fun _ => .int .u64 (1)))))]) (s := 4) (zc := fun i => (#[.int .u64 (0), .int .i64 (0), .int .u64 (0), .int .u64 (0)] : Array Value).getD i undef) (y := Fx.ovr (fun j => (#[.int .u64 (0), .int .i64 (0), .int .u64 (0), .int .u64 (0)] : Array Value).getD (j % 4) undef) (0 * 4) 4 (Fx.ovr (Fx.ovr (Fx.ovr (fun i => (#[.int .u64 (0), .int .i64 (0), .int .u64 (0), .int .u64 (0)] : Array Value).getD i undef) 0 2 (Fx.ovr (Fx.ovr (fun i => (#[.int .u64 (0), .int .i64 (0)] : Array Value).getD i undef) 0 1 (fun _ => .int .u64 (node))) 1 1 (fun _ => .int .i64 (x)))) 2 1 (fun _ => .int .u64 (now))) 3 1 (fun _ => .int .u64 (1)))) (by rfl) rfl rfl Try.underlying35 (by kernel_rfl) (by rfl) (by rfl) (by kernel_rfl) (by rw [Fx.fill_step (off := 0 * 4) (s := 4) (y := Fx.ovr (Fx.ovr (Fx.ovr (fun i => (#[.int .u64 (0), .int .i64 (0), .int .u64 (0), .int .u64 (0)] : Array Value).getD i undef) 0 2 (Fx.ovr (Fx.ovr (fun i => (#[.int .u64 (0), .int .i64 (0)] : Array Value).getD i undef) 0 1 (fun _ => .int .u64 (node))) 1 1 (fun _ => .int .i64 (x)))) 2 1 (fun _ => .int .u64 (now))) 3 1 (fun _ => .int .u64 (1))) rfl (Fx.cells_agg _ _) (by rfl)]; rfl) rfl fun g1 w5 eg1 m20 s3 z2 => ?_
         have m21 := m18.stp s3 (Nat.ne_of_lt (m18.lt))
         have m22 := m19.stp s3 (m19.notNew (Nat.le_refl _))
         have m23 := m17.stp s3 (m17.notNew (Nat.le_refl _))
         have b6 := b5.then s3 (.inr b5.size)
         have lg1 : w.heap.size ≤ g1 := by rw [eg1]; exact b5.size
         have ng1m21 : q ≠ g1 := by rw [eg1]; exact Nat.ne_of_lt (m18.lt)
         have ng1m22 : (.slice a (n) (c) : Value).ownBlock ≠ some g1 := by rw [eg1]; exact m19.notNew (Nat.le_refl _)
         have ng1m23 : (.slice a1 (j) (cap1) : Value).ownBlock ≠ some g1 := by rw [eg1]; exact m17.notNew (Nat.le_refl _)
         have tg1 : g1 < w5.heap.size := m20.lt
         clear eg1
         refine Fx.L.app (B := w.heap.size) (s := 4) (bytes := 32) (k := j) (m := 1) (v := .slice a1 (j) (cap1)) (x := Fx.flat 4 fun k => wtc (X k)) (by rfl) rfl rfl rfl Try.underlying35 (by kernel_rfl) (by kernel_rfl) rfl rfl m23 m20.cel (fun j hj => by rcases j with _|_|_|_|j <;> first | rfl | omega) (by omega) (by omega) (by omega) b6.size fun g2 cap2 w6 ho2 hg2 hgv2 hlt1 => ?_
         have hct3 := Fx.ChT.of_grown hg2 m23
         have m25 := m21.chT hct3 (by decide)
         have m26 : Fx.Own w6 B 62 4 (.slice a (n) (c)) n (Fx.flat 4 fun k => wtc (X k)) := own_sep m22 (fun g e => (hO.ge e).2) m23 hg2
         have m24 : Fx.Own w6 w.heap.size 62 4 (.slice (some ⟨g2, 0, none⟩) (j + 1) cap2) (j + 1) (Fx.flat 4 fun i => wtc (insI X j ⟨node, x, now, 1⟩ i)) := (ho2.congr (ins_app2 (fun j hj => by match j, hj with | 0, _ => rfl | 1, _ => rfl | 2, _ => rfl | 3, _ => rfl | n + 4, h => omega)))
         have b7 : Fx.Chg (refS q (.slice a n c)) w w6 := Fx.Chg.grow b6 hg2 (fun q hq => .inr (m23.ge hq).1)
         refine Fx.L.v (.slice (some ⟨g2, 0, none⟩) (j + 1) (cap2)) (Fx.x_assign rfl rfl) ?_
         refine Fx.L.nil (Fx.seqN (Fx.W.seq (Fx.W.list (Fx.L.v (.pointer (some ⟨q, 0, none⟩)) (Fx.x_move rfl h6) ?_))))
         refine Fx.L.v (.slice (some ⟨g2, 0, none⟩) (j + 1) (cap2)) (Fx.x_move rfl rfl) ?_
         refine Fx.L.v (.pointer (some ⟨q, 0, none⟩)) (Fx.x_move rfl h6) ?_
         refine Fx.L.v (.pointer (some ⟨q, 0, none⟩)) (Fx.x_nil rfl rfl) ?_
         refine Fx.L.v (.pointer (some ⟨q, 0, none⟩)) (Fx.x_field rfl rfl Try.underlying37 rfl (s := 1) (by kernel_rfl) rfl rfl) ?_
         refine Fx.L.v (.slice a (n) (c)) (Fx.x_load1 (x := fun _ => .slice a (n) (c)) rfl rfl (by kernel_rfl) m25.cel (i := 0) (by omega) (by omega) rfl) ?_
         refine Fx.L.v (.int .i64 ((j : Int))) (Fx.x_move rfl h10) ?_
         obtain ⟨r1, er1⟩ : ∃ r, n = j + r := ⟨n - (j), by omega⟩
         refine Fx.L.lo (j := j) (m := r1) (s := 4) (by rfl) (by rfl) rfl rfl rfl Try.underlying35 (by kernel_rfl) er1 m26 fun as1 has1 => ?_
         refine Fx.L.appAny (B := w.heap.size) (s := 4) (bytes := 32) (k := j + 1) (m := r1) (v := .slice (some ⟨g2, 0, none⟩) (j + 1) (cap2)) (x := Fx.flat 4 fun i => wtc (insI X j ⟨node, x, now, 1⟩ i)) (by rfl) rfl rfl rfl Try.underlying35 (by kernel_rfl) (by kernel_rfl) rfl rfl m24 has1 (fun j _ => wtc_one _ _) (by omega) (by omega) b7.size fun vv2 w7 ho3 hg3 hgv3 => ?_
         rw [show j + 1 + r1 = n + 1 by omega] at ho3
         obtain ⟨a2, cap3, rfl⟩ := ho3.val
         have hct4 := Fx.ChT.of_grown hg3 m24
         have m28 := m25.chT hct4 (by decide)
         have m29 : Fx.Own w7 B 62 4 (.slice a (n) (c)) n (Fx.flat 4 fun k => wtc (X k)) := own_sep m26 (fun g e => (hO.ge e).2) m24 hg3
         have m27 : Fx.Own w7 w.heap.size 62 4 (.slice a2 (n + 1) (cap3)) (n + 1) (Fx.flat 4 fun i => wtc (insI X j ⟨node, x, now, 1⟩ i)) := (ho3.congr (fun p hp => ins_app3 (n := n + 1) p hp))
         have b8 : Fx.Chg (refS q (.slice a n c)) w w7 := Fx.Chg.grow b7 hg3 (fun q hq => .inr (m24.ge hq).1)
         refine Fx.L.v (.pointer (some ⟨q, 0, none⟩)) (Fx.x_nil rfl rfl) ?_
         refine Fx.L.v (.pointer (some ⟨q, 0, none⟩)) (Fx.x_field rfl rfl Try.underlying37 rfl (s := 1) (by kernel_rfl) rfl rfl) ?_
         refine Fx.L.store1 (x := fun _ => .slice a (n) (c)) (u := .slice a2 (n + 1) (cap3)) (by rfl) rfl rfl rfl rfl (by rfl) (by kernel_rfl) m28 (i := 0) (by omega) fun w8 m30 s4 z3 => ?_
         have m31 : Fx.Blk w8 q 1 (fun _ => .slice a2 (n + 1) (cap3)) 37 := Fx.upd_all m30
         have hct5 := Fx.ChT.of_stp s4 m28.ty
         have m32 := m29.chT hct5 (by decide)
         have m33 := m27.chT hct5 (by decide)
         have b9 := b8.then s4 (.inl (.inl rfl))
         refine Fx.L.nil (Fx.seqN (Fx.W.seq (Fx.W.list (Fx.L.v (.int .i64 (0)) (Fx.x_assign rfl rfl) ?_))))
         refine Fx.L.nil (Fx.seqN (Fx.W.ret (⟨.int .i64 (0), Fx.retV1 Try.results11 (by exact rfl), ?_⟩)))
         exact ⟨_, _, n + 1, _, _, rfl, .new j (fun hb => by unfold putBad at hb; omega) hj hl (fun h => by have := hg h; omega) (by omega), m31, m33.weak hB, b9⟩
      ·refine Fx.L.v (.bool false) (Fx.x_lssF rfl rfl rfl c53) ?_
       refine Fx.L.v (.bool false) (Fx.x_move rfl rfl) ?_
       refine Fx.L.skip (by rfl) rfl ?_
       refine Fx.L.skip (by rfl) rfl ?_
       refine Fx.L.skip (by rfl) rfl ?_
       refine Fx.L.skip (by rfl) rfl ?_
       refine Fx.L.skip (by rfl) rfl ?_
       refine Fx.L.skip (by rfl) rfl ?_
       refine Fx.L.skip (by rfl) rfl ?_
       refine Fx.L.skip (by rfl) rfl ?_
       refine Fx.L.skip (by rfl) rfl ?_
       refine Fx.L.skip (by rfl) rfl ?_
       refine Fx.L.skip (by rfl) rfl ?_
       refine Fx.L.v (.bool false) (Fx.x_pickF rfl rfl rfl) ?_
       refine Fx.L.nil (Fx.seqN (Fx.W.cond (b := false) rfl (fun h => nomatch h) (fun _ => Fx.W.skip (Fx.seqN (Fx.W.seq (Fx.W.seq (Fx.W.list (Fx.L.v (.pointer (some ⟨q, 0, none⟩)) (Fx.x_move rfl h6) ?_))))))))
       refine Fx.L.v (.pointer (some ⟨q, 0, none⟩)) (Fx.x_nil rfl rfl) ?_
       refine Fx.L.v (.pointer (some ⟨q, 0, none⟩)) (Fx.x_field rfl rfl Try.underlying37 rfl (s := 1) (by kernel_rfl) rfl rfl) ?_
       refine Fx.L.v (.slice a (n) (c)) (Fx.x_load1 (x := fun _ => .slice a (n) (c)) rfl rfl (by kernel_rfl) m6.cel (i := 0) (by omega) (by omega) rfl) ?_
       refine Fx.L.v (.int .i64 ((n : Int))) (Fx.x_len rfl rfl rfl (by kernel_rfl)) ?_
       by_cases c91 : 32 ≤ (n : Int)
       ·refine Fx.L.v (.bool true) (Fx.x_geqT rfl rfl rfl c91) ?_
        refine Fx.L.nil (Fx.seqN (Fx.W.cond (b := true) rfl (fun _ => Fx.W.seq (Fx.W.list (Fx.L.v (.int .i64 (7)) (Fx.x_assign rfl rfl) ?_))) (fun h => nomatch h)))
        refine Fx.L.nil (Fx.seqN (Fx.W.ret (Fx.seqR (⟨.int .i64 (7), Fx.retV1 Try.results11 (by exact rfl), ?_⟩))))
        exact ⟨_, a, n, c, X, rfl, .full j (fun hb => by unfold putBad at hb; omega) hj hl (fun h => by omega) (by omega), m6, m7, b2⟩
       ·refine Fx.L.v (.bool false) (Fx.x_geqF rfl rfl rfl c91) ?_
        refine Fx.L.nil (Fx.seqN (Fx.W.cond (b := false) rfl (fun h => nomatch h) (fun _ => Fx.W.skip (Fx.seqN (Fx.W.seq (Fx.W.list (Fx.L.v (.slice none 0 0) (Fx.x_assign rfl rfl) ?_)))))))
        refine Fx.L.nil (Fx.seqN (Fx.W.seq (Fx.W.list (Fx.L.v (.slice none 0 0) (Fx.x_move rfl rfl) ?_))))
        refine Fx.L.v (.pointer (some ⟨q, 0, none⟩)) (Fx.x_move rfl h6) ?_
        refine Fx.L.v (.pointer (some ⟨q, 0, none⟩)) (Fx.x_nil rfl rfl) ?_
        refine Fx.L.v (.pointer (some ⟨q, 0, none⟩)) (Fx.x_field rfl rfl Try.underlying37 rfl (s := 1) (by kernel_rfl) rfl rfl) ?_
        refine Fx.L.v (.slice a (n) (c)) (Fx.x_load1 (x := fun _ => .slice a (n) (c)) rfl rfl (by kernel_rfl) m6.cel (i := 0) (by omega) (by omega) rfl) ?_
        refine Fx.L.v (.int .i64 ((j : Int))) (Fx.x_move rfl h10) ?_
        refine Fx.L.v (.slice a (j) (c)) (Fx.x_hi (j := j) (s := 4) rfl rfl rfl Try.underlying35 (by kernel_rfl) (by omega) m7) ?_
        refine Fx.L.appAny (B := w.heap.size) (s := 4) (bytes := 32) (k := 0) (m := j) (v := .slice none 0 0) (x := fun _ => undef) (by rfl) rfl rfl rfl Try.underlying35 (by kernel_rfl) (by kernel_rfl) rfl rfl (Fx.Own.nil w2 w.heap.size 62 4 (fun _ => undef)) (m7.arrLe (by omega)) (fun j _ => wtc_one _ _) (by omega) (by omega) b2.size fun vv3 w9 ho4 hg4 hgv4 => ?_
        rw [Nat.zero_add] at ho4
        obtain ⟨a3, cap4, rfl⟩ := ho4.val
        have hct6 := Fx.ChT.of_grown hg4 (Fx.Own.nil w2 w.heap.size 62 4 (fun _ => undef))
        have m35 := m6.chT hct6 (by decide)
        have hq2 : Below w2.heap.size w2 w9 := ⟨hg4.os, hg4.tape, hg4.output, hg4.size, fun q hq => hg4.block q hq (fun e => by cases e)⟩
        have m36 := m7.up hq2
        have m34 : Fx.Own w9 w.heap.size 62 4 (.slice a3 (j) (cap4)) j (Fx.flat 4 fun k => wtc (X k)) := (ho4.congr (fun j _ => by unfold Fx.appX; rw [if_neg (by omega)]; rfl))
        have b10 : Fx.Chg (refS q (.slice a n c)) w w9 := Fx.Chg.grow b2 hg4 (fun q hq => .inr ((Fx.Own.nil w2 w.heap.size 62 4 (fun _ => undef)).ge hq).1)
        refine Fx.L.v (.slice a3 (j) (cap4)) (Fx.x_assign rfl rfl) ?_
        refine Fx.L.nil (Fx.seqN (Fx.W.seq (Fx.W.list (Fx.L.v (.slice a3 (j) (cap4)) (Fx.x_move rfl rfl) ?_))))
        refine Fx.L.v (.int .u64 (node)) (Fx.x_move rfl h7) ?_
        refine Fx.L.v (.int .i64 (x)) (Fx.x_move rfl h8) ?_
        refine Fx.L.v (.agg (Fx.varr 2 (Fx.ovr (Fx.ovr (fun i => (#[.int .u64 (0), .int .i64 (0)] : Array Value).getD i undef) 0 1 (fun _ => .int .u64 (node))) 1 1 (fun _ => .int .i64 (x))))) (Fx.x_build (vs := [(0, .int .u64 (node)), (1, .int .i64 (x))]) (places := #[(0, 1), (1, 1)]) (m := 2) (x := fun i => (#[.int .u64 (0), .int .i64 (0)] : Array Value).getD i undef) rfl rfl Try.underlying31 (by kernel_rfl) (by kernel_rfl) (by rw [Fx.fill_step (off := 0) (s := 1) (y := fun _ => .int .u64 (node)) (by kernel_rfl) (Fx.cells_one (by rfl)) (by rfl)]; rw [Fx.fill_step (off := 1) (s := 1) (y := fun _ => .int .i64 (x)) (by kernel_rfl) (Fx.cells_one (by rfl)) (by rfl)]; rfl)) ?_
        refine Fx.L.v (.int .u64 (now)) (Fx.x_move rfl h9) ?_
        refine Fx.L.v (.agg (Fx.varr 4 (Fx.ovr (Fx.ovr (Fx.ovr (fun i => (#[.int .u64 (0), .int .i64 (0), .int .u64 (0), .int .u64 (0)] : Array Value).getD i undef) 0 2 (Fx.ovr (Fx.ovr (fun i => (#[.int .u64 (0), .int .i64 (0)] : Array Value).getD i undef) 0 1 (fun _ => .int .u64 (node))) 1 1 (fun _ => .int .i64 (x)))) 2 1 (fun _ => .int .u64 (now))) 3 1 (fun _ => .int .u64 (1))))) (Fx.x_build (vs := [(0, .agg (Fx.varr 2 (Fx.ovr (Fx.ovr (fun i => (#[.int .u64 (0), .int .i64 (0)] : Array Value).getD i undef) 0 1 (fun _ => .int .u64 (node))) 1 1 (fun _ => .int .i64 (x))))), (1, .int .u64 (now)), (2, .int .u64 (1))]) (places := #[(0, 2), (2, 1), (3, 1)]) (m := 4) (x := fun i => (#[.int .u64 (0), .int .i64 (0), .int .u64 (0), .int .u64 (0)] : Array Value).getD i undef) rfl rfl Try.underlying62 (by kernel_rfl) (by kernel_rfl) (by rw [Fx.fill_step (off := 0) (s := 2) (y := Fx.ovr (Fx.ovr (fun i => (#[.int .u64 (0), .int .i64 (0)] : Array Value).getD i undef) 0 1 (fun _ => .int .u64 (node))) 1 1 (fun _ => .int .i64 (x))) (by kernel_rfl) (Fx.cells_agg _ _) (by rfl)]; rw [Fx.fill_step (off := 2) (s := 1) (y := fun _ => .int .u64 (now)) (by kernel_rfl) (Fx.cells_one (by rfl)) (by rfl)]; rw [Fx.fill_step (off := 3) (s := 1) (y := fun _ => .int .u64 (1)) (by kernel_rfl) (Fx.cells_one (by rfl)) (by rfl)]; rfl)) ?_
        refine Fx.L.bslice (vs := [(0, .agg (Fx.varr 4 (Fx.ovr (Fx.ovr (Fx.ovr (fun i => (#[.int .u64 (0), .int .i64 (0), .int .u64 (0), .int .u64 (0)] : Array Value).getD i undef) 0 2 (Fx.ovr (Fx.ovr (fun i => (#[.int .u64 (0), .int .i64 (0)] : Array Value).getD i undef) 0 1 (fun _ => .int .u64 (node))) 1 1 (fun _ => .int .i64 (x)))) 2 1 (fun _ => .int .u64 (now))) 3 1 (fun _ => .int .u64 (1)))))]) (s := 4) (zc := fun i => (#[.int .u64 (0), .int .i64 (0), .int .u64 (0), .int .u64 (0)] : Array Value).getD i undef) (y := Fx.ovr (fun j => (#[.int .u64 (0), .int .i64 (0), .int .u64 (0), .int .u64 (0)] : Array Value).getD (j % 4) undef) (0 * 4) 4 (Fx.ovr (Fx.ovr (Fx.ovr (fun i => (#[.int .u64 (0), .int .i64 (0), .int .u64 (0), .int .u64 (0)] : Array Value).getD i undef) 0 2 (Fx.ovr (Fx.ovr (fun i => (#[.int .u64 (0), .int .i64 (0)] : Array Value).getD i undef) 0 1 (fun _ => .int .u64 (node))) 1 1 (fun _ => .int .i64 (x)))) 2 1 (fun _ => .int .u64 (now))) 3 1 (fun _ => .int .u64 (1)))) (by rfl) rfl rfl Try.underlying35 (by kernel_rfl) (by rfl) (by rfl) (by kernel_rfl) (by rw [Fx.fill_step (off := 0 * 4) (s := 4) (y := Fx.ovr (Fx.ovr (Fx.ovr (fun i => (#[.int .u64 (0), .int .i64 (0), .int .u64 (0), .int .u64 (0)] : Array Value).getD i undef) 0 2 (Fx.ovr (Fx.ovr (fun i => (#[.int .u64 (0), .int .i64 (0)] : Array Value).getD i undef) 0 1 (fun _ => .int .u64 (node))) 1 1 (fun _ => .int .i64 (x)))) 2 1 (fun _ => .int .u64 (now))) 3 1 (fun _ => .int .u64 (1))) rfl (Fx.cells_agg _ _) (by rfl)]; rfl) rfl fun g3 w10 eg3 m37 s5 z4 => ?_
        have m38 := m35.stp s5 (Nat.ne_of_lt (m35.lt))
        have m39 := m36.stp s5 (m36.notNew (Nat.le_refl _))
        have m40 := m34.stp s5 (m34.notNew (Nat.le_refl _))
        have b11 := b10.then s5 (.inr b10.size)
        have lg3 : w.heap.size ≤ g3 := by rw [eg3]; exact b10.size
        have ng3m38 : q ≠ g3 := by rw [eg3]; exact Nat.ne_of_lt (m35.lt)
        have ng3m39 : (.slice a (n) (c) : Value).ownBlock ≠ some g3 := by rw [eg3]; exact m36.notNew (Nat.le_refl _)
        have ng3m40 : (.slice a3 (j) (cap4) : Value).ownBlock ≠ some g3 := by rw [eg3]; exact m34.notNew (Nat.le_refl _)
        have tg3 : g3 < w10.heap.size := m37.lt
        clear eg3
        refine Fx.L.app (B := w.heap.size) (s := 4) (bytes := 32) (k := j) (m := 1) (v := .slice a3 (j) (cap4)) (x := Fx.flat 4 fun k => wtc (X k)) (by rfl) rfl rfl rfl Try.underlying35 (by kernel_rfl) (by kernel_rfl) rfl rfl m40 m37.cel (fun j hj => by rcases j with _|_|_|_|j <;> first | rfl | omega) (by omega) (by omega) (by omega) b11.size fun g4 cap5 w11 ho5 hg5 hgv5 hlt2 => ?_
        have hct7 := Fx.ChT.of_grown hg5 m40
        have m42 := m38.chT hct7 (by decide)
        have m43 : Fx.Own w11 B 62 4 (.slice a (n) (c)) n (Fx.flat 4 fun k => wtc (X k)) := own_sep m39 (fun g e => (hO.ge e).2) m40 hg5
        have m41 : Fx.Own w11 w.heap.size 62 4 (.slice (some ⟨g4, 0, none⟩) (j + 1) cap5) (j + 1) (Fx.flat 4 fun i => wtc (insI X j ⟨node, x, now, 1⟩ i)) := (ho5.congr (ins_app2 (fun j hj => by match j, hj with | 0, _ => rfl | 1, _ => rfl | 2, _ => rfl | 3, _ => rfl | n + 4, h => omega)))
        have b12 : Fx.Chg (refS q (.slice a n c)) w w11 := Fx.Chg.grow b11 hg5 (fun q hq => .inr (m40.ge hq).1)
        refine Fx.L.v (.slice (some ⟨g4, 0, none⟩) (j + 1) (cap5)) (Fx.x_assign rfl rfl) ?_
        refine Fx.L.nil (Fx.seqN (Fx.W.seq (Fx.W.list (Fx.L.v (.pointer (some ⟨q, 0, none⟩)) (Fx.x_move rfl h6) ?_))))
        refine Fx.L.v (.slice (some ⟨g4, 0, none⟩) (j + 1) (cap5)) (Fx.x_move rfl rfl) ?_
        refine Fx.L.v (.pointer (some ⟨q, 0, none⟩)) (Fx.x_move rfl h6) ?_
        refine Fx.L.v (.pointer (some ⟨q, 0, none⟩)) (Fx.x_nil rfl rfl) ?_
        refine Fx.L.v (.pointer (some ⟨q, 0, none⟩)) (Fx.x_field rfl rfl Try.underlying37 rfl (s := 1) (by kernel_rfl) rfl rfl) ?_
        refine Fx.L.v (.slice a (n) (c)) (Fx.x_load1 (x := fun _ => .slice a (n) (c)) rfl rfl (by kernel_rfl) m42.cel (i := 0) (by omega) (by omega) rfl) ?_
        refine Fx.L.v (.int .i64 ((j : Int))) (Fx.x_move rfl h10) ?_
        obtain ⟨r2, er2⟩ : ∃ r, n = j + r := ⟨n - (j), by omega⟩
        refine Fx.L.lo (j := j) (m := r2) (s := 4) (by rfl) (by rfl) rfl rfl rfl Try.underlying35 (by kernel_rfl) er2 m43 fun as2 has2 => ?_
        refine Fx.L.appAny (B := w.heap.size) (s := 4) (bytes := 32) (k := j + 1) (m := r2) (v := .slice (some ⟨g4, 0, none⟩) (j + 1) (cap5)) (x := Fx.flat 4 fun i => wtc (insI X j ⟨node, x, now, 1⟩ i)) (by rfl) rfl rfl rfl Try.underlying35 (by kernel_rfl) (by kernel_rfl) rfl rfl m41 has2 (fun j _ => wtc_one _ _) (by omega) (by omega) b12.size fun vv4 w12 ho6 hg6 hgv6 => ?_
        rw [show j + 1 + r2 = n + 1 by omega] at ho6
        obtain ⟨a4, cap6, rfl⟩ := ho6.val
        have hct8 := Fx.ChT.of_grown hg6 m41
        have m45 := m42.chT hct8 (by decide)
        have m46 : Fx.Own w12 B 62 4 (.slice a (n) (c)) n (Fx.flat 4 fun k => wtc (X k)) := own_sep m43 (fun g e => (hO.ge e).2) m41 hg6
        have m44 : Fx.Own w12 w.heap.size 62 4 (.slice a4 (n + 1) (cap6)) (n + 1) (Fx.flat 4 fun i => wtc (insI X j ⟨node, x, now, 1⟩ i)) := (ho6.congr (fun p hp => ins_app3 (n := n + 1) p hp))
        have b13 : Fx.Chg (refS q (.slice a n c)) w w12 := Fx.Chg.grow b12 hg6 (fun q hq => .inr (m41.ge hq).1)
        refine Fx.L.v (.pointer (some ⟨q, 0, none⟩)) (Fx.x_nil rfl rfl) ?_
        refine Fx.L.v (.pointer (some ⟨q, 0, none⟩)) (Fx.x_field rfl rfl Try.underlying37 rfl (s := 1) (by kernel_rfl) rfl rfl) ?_
        refine Fx.L.store1 (x := fun _ => .slice a (n) (c)) (u := .slice a4 (n + 1) (cap6)) (by rfl) rfl rfl rfl rfl (by rfl) (by kernel_rfl) m45 (i := 0) (by omega) fun w13 m47 s6 z5 => ?_
        have m48 : Fx.Blk w13 q 1 (fun _ => .slice a4 (n + 1) (cap6)) 37 := Fx.upd_all m47
        have hct9 := Fx.ChT.of_stp s6 m45.ty
        have m49 := m46.chT hct9 (by decide)
        have m50 := m44.chT hct9 (by decide)
        have b14 := b13.then s6 (.inl (.inl rfl))
        refine Fx.L.nil (Fx.seqN (Fx.W.seq (Fx.W.list (Fx.L.v (.int .i64 (0)) (Fx.x_assign rfl rfl) ?_))))
        refine Fx.L.nil (Fx.seqN (Fx.W.ret (⟨.int .i64 (0), Fx.retV1 Try.results11 (by exact rfl), ?_⟩)))
        exact ⟨_, _, n + 1, _, _, rfl, .new j (fun hb => by unfold putBad at hb; omega) hj hl (fun h => by omega) (by omega), m48, m50.weak hB, b14⟩
end Go.Proofs.Ytjnkejgjgknllaa
namespace Go.Proofs.Ytjnkejgjgknllaa
open Go.RowKit Rt
namespace Rt
structure RelS (n : Nat) (W X : Nat → WtM) : Prop where
  up : ∀ i j, i < j → j < n → (X i).node < (X j).node
  to : ∀ i, i < n → ∃ j, j < n ∧ X j = W i
  back : ∀ j, j < n → ∃ i, i < n ∧ W i = X j
  dist : ∀ i j, i < n → j < n → (W i).node = (W j).node → i = j
theorem RelS.start (W X : Nat → WtM) : RelS 0 W X :=
  ⟨fun _ _ _ h => absurd h (Nat.not_lt_zero _), fun _ h => absurd h (Nat.not_lt_zero _), fun _ h => absurd h (Nat.not_lt_zero _), fun _ _ h => absurd h (Nat.not_lt_zero _)⟩
section
variable {n n1 n2 : Nat} {W X W1 X2 : Nat → WtM}
theorem RelS.one (h : RelS n W X) {i j : Nat} (hi : i < n) (hj : j < n) (e : (X i).node = (X j).node) : i = j := by
  rcases Nat.lt_trichotomy i j with h1 | h1 | h1
  · have := h.up i j h1 hj; omega
  · exact h1
  · have := h.up j i h1 hi; omega
theorem RelS.same (h : RelS n W X) {i j : Nat} (hi : i < n) (hj : j < n) (e : (W i).node = (X j).node) : X j = W i := by
  obtain ⟨k, hk, e2⟩ := h.to i hi
  have : k = j := h.one hk hj (by rw [e2, e])
  rw [← this, e2]
theorem RelS.due (h : RelS n W X) (now : Int) : RelS n (fun i => dueW now (W i)) (fun i => dueW now (X i)) :=
  ⟨fun i j hij hj => by rw [dueW_node, dueW_node]; exact h.up i j hij hj, fun i hi => by obtain ⟨j, hj, e⟩ := h.to i hi; exact ⟨j, hj, by rw [e]⟩, fun j hj => by obtain ⟨i, hi, e⟩ := h.back j hj; exact ⟨i, hi, by rw [e]⟩, fun i j hi hj e => by rw [dueW_node, dueW_node] at e; exact h.dist i j hi hj e⟩
theorem gap {node : Int} {j k : Nat} (h : RelS n W X) (hl : ∀ i, i < j → (X i).node < node) (hg : j < n → node < (X j).node) (hk : k < n) : (X k).node ≠ node := fun e => by
  rcases Nat.lt_trichotomy k j with h1 | h1 | h1
  · have := hl k h1; omega
  · subst h1; have := hg hk; omega
  · have h2 := h.up j k h1 hk; have := hg (by omega); omega
theorem RelS.none (h : RelS n W X) {node : Int} (hn : ∀ i, i < n → (W i).node ≠ node) : ∀ j, j < n → (X j).node ≠ node := fun j hj e => by
  obtain ⟨i, hi, e2⟩ := h.back j hj
  exact hn i hi (by rw [e2, e])
theorem putI_at {α : Type} (f : Nat → α) (j : Nat) (v : α) : Fx.putI f j v j = v := by unfold Fx.putI; rw [if_pos rfl]
theorem putI_off {α : Type} (f : Nat → α) {j i : Nat} (v : α) (h : i ≠ j) : Fx.putI f j v i = f i := by unfold Fx.putI; rw [if_neg h]
theorem RelS.had (h : RelS n W X) {j k : Nat} (hj : j < n) (hk : k < n) (e : (W j).node = (X k).node) {u : WtM} (hu : u.node = (W j).node) : RelS n (Fx.putI W j u) (Fx.putI X k u) := by
  have e2 := h.same hj hk e
  have nX : ∀ i, (Fx.putI X k u i).node = (X i).node := fun i => by
    by_cases q : i = k
    · rw [q, putI_at, hu, e]
    · rw [putI_off _ _ q]
  have nW : ∀ i, (Fx.putI W j u i).node = (W i).node := fun i => by
    by_cases q : i = j
    · rw [q, putI_at, hu]
    · rw [putI_off _ _ q]
  refine ⟨fun a b hab hb => by rw [nX, nX]; exact h.up a b hab hb, fun i hi => ?_, fun i hi => ?_, fun a b ha hb e3 => by rw [nW, nW] at e3; exact h.dist a b ha hb e3⟩
  · by_cases q : i = j
    · exact ⟨k, hk, by rw [q, putI_at, putI_at]⟩
    · obtain ⟨a, ha, e3⟩ := h.to i hi
      have : a ≠ k := fun q2 => q (h.dist i j hi hj (by rw [← e3, q2, e]))
      exact ⟨a, ha, by rw [putI_off _ _ q, putI_off _ _ this, e3]⟩
  · by_cases q : i = k
    · exact ⟨j, hj, by rw [q, putI_at, putI_at]⟩
    · obtain ⟨a, ha, e3⟩ := h.back i hi
      have : a ≠ j := fun q2 => q (h.one hi hk (by rw [← e3, q2, e]))
      exact ⟨a, ha, by rw [putI_off _ _ q, putI_off _ _ this, e3]⟩
theorem insI_lt {α : Type} (f : Nat → α) {j i : Nat} (v : α) (h : i < j) : insI f j v i = f i := by unfold insI; rw [if_pos h]
theorem insI_at {α : Type} (f : Nat → α) (j : Nat) (v : α) : insI f j v j = v := by unfold insI; rw [if_neg (by omega), if_pos rfl]
theorem insI_gt {α : Type} (f : Nat → α) {j i : Nat} (v : α) (h : j < i) : insI f j v i = f (i - 1) := by unfold insI; rw [if_neg (by omega), if_neg (by omega)]
theorem RelS.new (h : RelS n W X) {j : Nat} {u : WtM} (hj : j ≤ n) (hl : ∀ i, i < j → (X i).node < u.node) (hg : j < n → u.node < (X j).node) (hn : ∀ i, i < n → (W i).node ≠ u.node) : RelS (n + 1) (Fx.putI W n u) (insI X j u) := by
  have hup : ∀ i, j ≤ i → i < n → u.node < (X i).node := fun i h1 h2 => by
    have h3 := hg (by omega)
    rcases Nat.lt_or_ge j i with h4 | h4
    · have := h.up j i h4 h2; omega
    · rw [show i = j by omega]; exact h3
  refine ⟨fun a b hab hb => ?_, fun i hi => ?_, fun b hb => ?_, fun a b ha hb e => ?_⟩
  · rcases Nat.lt_trichotomy b j with h1 | h1 | h1
    · rw [insI_lt _ _ h1, insI_lt _ _ (by omega)]; exact h.up a b hab (by omega)
    · rw [h1, insI_at, insI_lt _ _ (by omega)]; exact hl a (by omega)
    · rw [insI_gt _ _ h1]
      rcases Nat.lt_trichotomy a j with h2 | h2 | h2
      · rw [insI_lt _ _ h2]
        have h3 := hl a h2
        have h4 := hup (b - 1) (by omega) (by omega)
        omega
      · rw [h2, insI_at]; exact hup _ (by omega) (by omega)
      · rw [insI_gt _ _ h2]; exact h.up _ _ (by omega) (by omega)
  · by_cases q : i = n
    · exact ⟨j, by omega, by rw [q, putI_at, insI_at]⟩
    · obtain ⟨a, ha, e⟩ := h.to i (by omega)
      rw [putI_off _ _ q]
      by_cases q2 : a < j
      · exact ⟨a, by omega, by rw [insI_lt _ _ q2, e]⟩
      · exact ⟨a + 1, by omega, by rw [insI_gt _ _ (by omega)]; exact e⟩
  · rcases Nat.lt_trichotomy b j with h1 | h1 | h1
    · obtain ⟨a, ha, e⟩ := h.back b (by omega)
      exact ⟨a, by omega, by rw [putI_off _ _ (by omega), insI_lt _ _ h1, e]⟩
    · exact ⟨n, by omega, by rw [h1, putI_at, insI_at]⟩
    · obtain ⟨a, ha, e⟩ := h.back (b - 1) (by omega)
      exact ⟨a, by omega, by rw [putI_off _ _ (by omega), insI_gt _ _ h1, e]⟩
  · by_cases q1 : a = n <;> by_cases q2 : b = n
    · omega
    · rw [q1, putI_at, putI_off _ _ q2] at e; exact absurd e.symm (hn b (by omega))
    · rw [q2, putI_at, putI_off _ _ q1] at e; exact absurd e (hn a (by omega))
    · rw [putI_off _ _ q1, putI_off _ _ q2] at e; exact h.dist a b (by omega) (by omega) e
theorem RelS.put {node x now c c' : Int} (h : RelS n W X) (hp : PutR n W node x now c n1 W1) (hq : PutQ n X node x now c' n2 X2) : c = c' ∧ n1 = n2 ∧ RelS n1 W1 X2 := by
  cases hp with
  | arg hb =>
    cases hq with
    | arg => exact ⟨rfl, rfl, h⟩
    | had _ hnb => exact absurd hb hnb
    | full _ hnb => exact absurd hb hnb
    | new _ hnb => exact absurd hb hnb
  | had j hnb hj e =>
    cases hq with
    | arg hb => exact absurd hb hnb
    | had k _ hk e2 =>
      refine ⟨rfl, rfl, ?_⟩
      have e3 := h.same hj hk (by rw [e, e2])
      rw [e3]
      exact h.had hj hk (by rw [e, e2]) rfl
    | full k _ _ hl hg =>
      obtain ⟨i, hi, e2⟩ := h.to j hj
      exact absurd (by rw [e2, e]) (gap h hl hg hi)
    | new k _ _ hl hg =>
      obtain ⟨i, hi, e2⟩ := h.to j hj
      exact absurd (by rw [e2, e]) (gap h hl hg hi)
  | full hnb hn hf =>
    cases hq with
    | arg hb => exact absurd hb hnb
    | had k _ hk e2 => exact absurd e2 (h.none hn k hk)
    | full => exact ⟨rfl, rfl, h⟩
    | new _ _ _ _ _ hf2 => omega
  | new hnb hn hf =>
    cases hq with
    | arg hb => exact absurd hb hnb
    | had k _ hk e2 => exact absurd e2 (h.none hn k hk)
    | full _ _ _ _ _ hf2 => omega
    | new k _ hk hl hg => exact ⟨rfl, rfl, h.new hk hl hg hn⟩
theorem RelS.del (h : RelS n W X) {j k : Nat} (hj : j < n) (hk : k < n) (e : (W j).node = (X k).node) : RelS (n - 1) (Fx.delI W j) (Fx.delI X k) := by
  have dl : ∀ {α : Type} (f : Nat → α) (t i : Nat), i < t → Fx.delI f t i = f i := fun f t i h => by unfold Fx.delI; rw [if_pos h]
  have dg : ∀ {α : Type} (f : Nat → α) (t i : Nat), ¬ i < t → Fx.delI f t i = f (i + 1) := fun f t i h => by unfold Fx.delI; rw [if_neg h]
  have pick : ∀ {α : Type} (f : Nat → α) (t i : Nat), i ≠ t → ∃ i', (i < n → t < n → i' < n - 1) ∧ Fx.delI f t i' = f i := fun f t i ne => by
    by_cases q : i < t
    · exact ⟨i, fun _ _ => by omega, dl f t i q⟩
    · exact ⟨i - 1, fun _ _ => by omega, by rw [dg f t _ (by omega), show i - 1 + 1 = i by omega]⟩
  have src : ∀ {α : Type} (f : Nat → α) (t i : Nat), i < n - 1 → ∃ i', i' < n ∧ i' ≠ t ∧ Fx.delI f t i = f i' ∧ i' = if i < t then i else i + 1 := fun f t i hi => by
    by_cases q : i < t
    · exact ⟨i, by omega, by omega, dl f t i q, by rw [if_pos q]⟩
    · exact ⟨i + 1, by omega, by omega, dg f t i q, by rw [if_neg q]⟩
  refine ⟨fun a b hab hb => ?_, fun i hi => ?_, fun i hi => ?_, fun a b ha hb e2 => ?_⟩
  · obtain ⟨a', h1, _, h2, h3⟩ := src X k a (by omega)
    obtain ⟨b', h4, _, h5, h6⟩ := src X k b hb
    rw [h2, h5]
    exact h.up a' b' (by split at h3 <;> split at h6 <;> omega) h4
  · obtain ⟨i', h1, h2, h3, _⟩ := src W j i hi
    obtain ⟨a, ha, e2⟩ := h.to i' h1
    have : a ≠ k := fun q => h2 (h.dist i' j h1 hj (by rw [← e2, q, e]))
    obtain ⟨a', h4, h5⟩ := pick X k a this
    exact ⟨a', h4 ha hk, by rw [h5, h3, e2]⟩
  · obtain ⟨i', h1, h2, h3, _⟩ := src X k i hi
    obtain ⟨a, ha, e2⟩ := h.back i' h1
    have : a ≠ j := fun q => h2 (h.one h1 hk (by rw [← e2, q, e]))
    obtain ⟨a', h4, h5⟩ := pick W j a this
    exact ⟨a', h4 ha hj, by rw [h5, h3, e2]⟩
  · obtain ⟨a', h1, _, h2, h3⟩ := src W j a ha
    obtain ⟨b', h4, _, h5, h6⟩ := src W j b hb
    rw [h2, h5] at e2
    have := h.dist a' b' h1 h4 e2
    split at h3 <;> split at h6 <;> omega
theorem RelS.done {node : Int} {b b' : Bool} (h : RelS n W X) (hp : DoneR n W node b n1 W1) (hq : DoneR n X node b' n2 X2) : b = b' ∧ n1 = n2 ∧ RelS n1 W1 X2 := by
  cases hp with
  | no hn =>
    cases hq with
    | no => exact ⟨rfl, rfl, h⟩
    | yes k hk e => exact absurd e (h.none hn k hk)
  | yes j hj e =>
    cases hq with
    | no hn =>
      obtain ⟨i, hi, e2⟩ := h.to j hj
      exact absurd (by rw [e2, e]) (hn i hi)
    | yes k hk e2 => exact ⟨rfl, rfl, h.del hj hk (by rw [e, e2])⟩
end
theorem rise_eq {f g : Nat → Int} {m m' : Nat} (hf : ∀ q r, q < r → r < m → f q < f r) (hg : ∀ q r, q < r → r < m' → g q < g r) (h1 : ∀ q, q < m → ∃ r, r < m' ∧ g r = f q) (h2 : ∀ q, q < m' → ∃ r, r < m ∧ f r = g q) : m = m' ∧ ∀ q, q < m → f q = g q := by
  have key : ∀ q, (q < m → q < m' ∧ f q = g q) ∧ (q < m' → q < m) := fun q => by
    induction q using Nat.strongRecOn with
    | _ q ih =>
      have a : q < m → q < m' ∧ f q = g q := fun hq => by
        obtain ⟨r, hr, e⟩ := h1 q hq
        have hqr : q ≤ r := Nat.not_lt.1 fun hl => by
          have e2 := ((ih r hl).1 (by omega)).2
          have := hf r q hl hq
          omega
        have hq' : q < m' := by omega
        obtain ⟨s, hs, e3⟩ := h2 q hq'
        have hqs : q ≤ s := Nat.not_lt.1 fun hl => by
          have e2 := ((ih s hl).1 hs).2
          have := hg s q hl hq'
          omega
        refine ⟨hq', ?_⟩
        have u1 : f q ≤ f s := by
          rcases Nat.lt_or_ge q s with h3 | h3
          · exact Int.le_of_lt (hf q s h3 hs)
          · rw [show s = q by omega]; exact Int.le_refl _
        have u2 : g q ≤ g r := by
          rcases Nat.lt_or_ge q r with h3 | h3
          · exact Int.le_of_lt (hg q r h3 hr)
          · rw [show r = q by omega]; exact Int.le_refl _
        omega
      refine ⟨a, fun hq' => ?_⟩
      obtain ⟨s, hs, e3⟩ := h2 q hq'
      rcases Nat.lt_or_ge s q with h3 | h3
      · have e2 := ((ih s h3).1 hs).2
        have := hg s q h3 hq'
        omega
      · omega
  refine ⟨?_, fun q hq => ((key q).1 hq).2⟩
  rcases Nat.lt_trichotomy m m' with h | h | h
  · have := (key m).2 h; omega
  · exact h
  · have := ((key m').1 h).1; omega
theorem RelS.list {n m : Nat} {W X : Nat → WtM} {τ : Nat → Nat} (h : RelS n W X) (ht : ThoseR n W (fun _ => True) m τ) : m = n ∧ ∀ q, q < n → W (τ q) = X q := by
  obtain ⟨e, hq⟩ := rise_eq (f := fun q => (W (τ q)).node) (g := fun q => (X q).node) ht.up h.up (fun q hq => by
    obtain ⟨r, hr, e⟩ := h.to _ (ht.lt q hq)
    exact ⟨r, hr, by show (X r).node = (W (τ q)).node; rw [e]⟩) (fun q hq => by
    obtain ⟨i, hi, e⟩ := h.back q hq
    obtain ⟨r, hr, e2⟩ := ht.mem i hi trivial
    exact ⟨r, hr, by show (W (τ r)).node = (X q).node; rw [e2, e]⟩)
  subst e
  exact ⟨rfl, fun q hq2 => (h.same (ht.lt q hq2) hq2 (hq q hq2)).symm⟩
theorem RelS.dues {n m m' : Nat} {W X : Nat → WtM} {now : Int} {τ σ : Nat → Nat} (h : RelS n W X) (ht : ThoseR n W (fun i => (W i).at_ ≤ now) m τ) (hs : IncR X now n m' σ) : m = m' ∧ ∀ q, q < m → W (τ q) = X (σ q) := by
  obtain ⟨e, hq⟩ := rise_eq (f := fun q => (W (τ q)).node) (g := fun q => (X (σ q)).node) ht.up (fun q r hqr hr => h.up _ _ (hs.up q r hqr hr) (hs.lt r hr)) (fun q hq => by
    obtain ⟨k, hk, e⟩ := h.to _ (ht.lt q hq)
    have hy := ht.yes q hq
    obtain ⟨r, hr, e2⟩ := hs.mem k hk (by rw [e]; exact hy)
    exact ⟨r, hr, by show (X (σ r)).node = (W (τ q)).node; rw [e2, e]⟩) (fun q hq => by
    obtain ⟨i, hi, e⟩ := h.back _ (hs.lt q hq)
    have hy := hs.yes q hq
    obtain ⟨r, hr, e2⟩ := ht.mem i hi (by rw [e]; exact hy)
    exact ⟨r, hr, by show (W (τ r)).node = (X (σ q)).node; rw [e2, e]⟩)
  subst e
  exact ⟨rfl, fun q hq2 => (h.same (ht.lt q hq2) (hs.lt q hq2) (hq q hq2)).symm⟩
end Rt
end Go.Proofs.Ytjnkejgjgknllaa
namespace Go.Proofs.Ytjnkejgjgknllaa
open Go.RowKit Rt
theorem r_due (now : Int) (q n : Nat) (a : Option Addr) (c : Nat) (X : Nat → WtM) (B : Nat) (w : World) (hq : Fx.Blk w q 1 (fun _ => .slice a n c) 37) (hO : Fx.Own w B 62 4 (.slice a n c) n (Fx.flat 4 fun k => wtc (X k))) (hn : n ≤ 32) (hn0 : 0 ≤ now) (hn2 : now ≤ 4611686018427387904) (hok : ∀ i, i < n → 1 ≤ (X i).wait) (hok2 : ∀ i, i < n → (X i).wait ≤ 16) :
    Calls Try.prog 13 #[.pointer (some ⟨q, 0, none⟩), .int .u64 (now)] w fun e w' => ∃ a2 m c2 σ, e = .returned (.slice a2 m c2) ∧ Fx.Own w' w.heap.size 31 2 (.slice a2 m c2) m (Fx.flat 2 fun q => wtc (X (σ q))) ∧ IncR X now n m σ ∧ Fx.Blk w' q 1 (fun _ => .slice a n c) 37 ∧ Fx.Own w' B 62 4 (.slice a n c) n (Fx.flat 4 fun k => wtc (dueW now (X k))) ∧ Fx.Chg (fun k => (.slice a n c : Value).ownBlock = some k) w w' := by
 refine Fx.enter Try.func13 rfl (n := 72) rfl (by rfl) ?_
 have hqlt := hq.lt
 refine Fx.W.seq (Fx.W.list (Fx.L.v (.slice none 0 0) (Fx.x_assign rfl rfl) ?_))
 refine Fx.L.nil (Fx.seqN (Fx.W.seq (Fx.W.list (Fx.L.v (.slice none 0 0) (Fx.x_assign rfl rfl) ?_))))
 refine Fx.L.nil (Fx.seqN (Fx.W.seq (Fx.W.seq (Fx.W.list (Fx.L.v (.int .i64 (0)) (Fx.x_assign rfl rfl) ?_)))))
 refine Fx.L.nil (Fx.seqN (Fx.W.block ?_))
 have m1 : Fx.Own w w.heap.size 31 2 (.slice none 0 0) 0 (Fx.flat 2 fun q => wtc (X ((fun _ => 0 : Nat → Nat) q))) := Fx.Own.nil _ _ _ _ _
 have m2 := hO.congr (y := Fx.flat 4 fun k => wtc (dueX now X 0 k)) (fun j _ => by show _ = wtc (dueX now X 0 (j / 4)) (j % 4); unfold dueX; rw [if_neg (Nat.not_lt_zero _)]; rfl)
 refine Fx.W.loop (fun f w_ => ∃ i : Nat, ∃ m : Nat, ∃ σ : Nat → Nat, ∃ a2 : Option Addr, ∃ cap2 : Nat, i ≤ n ∧ IncR X now i m σ ∧ f 0 = .pointer (some ⟨q, 0, none⟩) ∧ f 1 = .int .u64 (now) ∧ f 5 = .slice a2 (m) (cap2) ∧ f 6 = .int .i64 ((i : Int)) ∧ Fx.Blk w_ q 1 (fun _ => .slice a (n) (c)) 37 ∧ Fx.Own w_ B 62 4 (.slice a (n) (c)) n (Fx.flat 4 fun k => wtc (dueX now X i k)) ∧ Fx.Own w_ w.heap.size 31 2 (.slice a2 (m) (cap2)) m (Fx.flat 2 fun q => wtc (X (σ q))) ∧ Fx.Chg (fun k => (.slice a n c : Value).ownBlock = some k) w w_) (fun f _ => (n - (intOf (f 6)).toNat)) ⟨0, 0, (fun _ => 0), none, 0, by omega, (IncR.start X now _), (by rfl), (by first | rfl | exact congrArg (Value.int .u64) (by omega)), (by rfl), (by first | rfl | exact congrArg (Value.int .i64) (by omega)), hq, m2, m1, (Fx.Chg.refl (fun k => (.slice a n c : Value).ownBlock = some k) w)⟩ ?_
 rintro f1 w1 ⟨i, m, σ, a2, cap2, hi, hin, h1, h2, h3, h4, m3, m4, m5, b1⟩
 have hml := hin.le
 refine Fx.W.seq (Fx.W.seq (Fx.W.list (Fx.L.v (.int .i64 ((i : Int))) (Fx.x_move rfl h4) ?_)))
 refine Fx.L.v (.pointer (some ⟨q, 0, none⟩)) (Fx.x_move rfl h1) ?_
 refine Fx.L.v (.pointer (some ⟨q, 0, none⟩)) (Fx.x_nil rfl rfl) ?_
 refine Fx.L.v (.pointer (some ⟨q, 0, none⟩)) (Fx.x_field rfl rfl Try.underlying37 rfl (s := 1) (by kernel_rfl) rfl rfl) ?_
 refine Fx.L.v (.slice a (n) (c)) (Fx.x_load1 (x := fun _ => .slice a (n) (c)) rfl rfl (by kernel_rfl) m3.cel (i := 0) (by omega) (by omega) rfl) ?_
 refine Fx.L.v (.int .i64 ((n : Int))) (Fx.x_len rfl rfl rfl (by kernel_rfl)) ?_
 by_cases c13 : (i : Int) < (n : Int)
 ·refine Fx.L.v (.bool true) (Fx.x_lssT rfl rfl rfl c13) ?_
  refine Fx.L.nil (Fx.seqN (Fx.W.cond (b := true) rfl (fun _ => Fx.W.skip (Fx.seqN (Fx.W.seq (Fx.W.block (Fx.W.seq (Fx.W.seq ?_)))))) (fun h => nomatch h)))
  have hwx1 : 1 ≤ (dueX now X i i).wait := by rw [dueX_at]; exact hok i (by omega)
  have hwx2 : (dueX now X i i).wait ≤ 16 := by rw [dueX_at]; exact hok2 i (by omega)
  refine Fx.W.list (Fx.L.v (.pointer (some ⟨q, 0, none⟩)) (Fx.x_move rfl h1) ?_)
  refine Fx.L.v (.pointer (some ⟨q, 0, none⟩)) (Fx.x_nil rfl rfl) ?_
  refine Fx.L.v (.pointer (some ⟨q, 0, none⟩)) (Fx.x_field rfl rfl Try.underlying37 rfl (s := 1) (by kernel_rfl) rfl rfl) ?_
  refine Fx.L.v (.slice a (n) (c)) (Fx.x_load1 (x := fun _ => .slice a (n) (c)) rfl rfl (by kernel_rfl) m3.cel (i := 0) (by omega) (by omega) rfl) ?_
  refine Fx.L.v (.int .i64 ((i : Int))) (Fx.x_move rfl h4) ?_
  obtain ⟨gq1, eq1⟩ := m4.addr (by omega)
  have m6 : Fx.Own w1 B 62 4 (.slice (some ⟨gq1, 0, none⟩) n c) n (Fx.flat 4 fun k => wtc (dueX now X i k)) := m4.congV (congrArg (fun q => Value.slice q n c) eq1)
  refine Fx.L.v (.pointer (some ⟨gq1, 4 * i, none⟩)) (Fx.x_indexS rfl (rfl.trans (congrArg (fun q => Value.slice q (n) (c)) eq1)) rfl Try.underlying35 (s := 4) (by kernel_rfl) (by omega) (by omega) (by omega)) ?_
  refine Fx.L.v (.pointer (some ⟨gq1, 4 * i + 2, none⟩)) (Fx.x_field rfl rfl Try.underlying62 rfl (s := 1) (by kernel_rfl) rfl (by show _ + 2 = _; omega)) ?_
  refine Fx.L.v (.int .u64 ((dueX now X i i).at_)) (Fx.x_load1 (x := Fx.flat 4 fun k => wtc (dueX now X i k)) rfl rfl (by kernel_rfl) m6.cel (i := 4 * i + 2) (by omega) (by omega) (Fx.flat_cell (k := i) (j := 2) (by omega) (by omega) rfl)) ?_
  refine Fx.L.v (.int .u64 (now)) (Fx.x_move rfl h2) ?_
  by_cases c25 : now < ((dueX now X i i).at_)
  ·refine Fx.L.v (.bool true) (Fx.x_gtrT rfl rfl rfl c25) ?_
   refine Fx.L.nil (Fx.seqN (Fx.W.cond (b := true) rfl (fun _ => Fx.W.exit (Fx.seqX (Fx.blkX (Fx.seqN (Fx.W.list (Fx.L.v (.int .i64 ((i : Int))) (Fx.x_move rfl h4) ?_)))))) (fun h => nomatch h)))
   refine Fx.L.v (.int .i64 ((i : Int) + 1)) (Fx.x_add rfl rfl rfl (Fx.i64e (by omega) (by omega))) ?_
   refine Fx.L.v (.int .i64 ((i : Int) + 1)) (Fx.x_assign rfl rfl) ?_
   refine Fx.L.nil ?_
   have m7 : Fx.Own w1 B 62 4 (.slice a (n) (c)) n (Fx.flat 4 fun k => wtc (dueX now X i k)) := m6.congV (congrArg (fun q => Value.slice q n c) eq1.symm)
   have m8 := m7.congr (y := Fx.flat 4 fun k => wtc (dueX now X (i + 1) k)) (fun j _ => by show wtc (dueX now X i (j / 4)) (j % 4) = wtc (dueX now X (i + 1) (j / 4)) (j % 4); rw [dueX_skip (by rw [dueX_at] at c25; omega)])
   skip
   refine Fx.lpN ⟨i + 1, m, σ, a2, cap2, by omega, (hin.skip (by rw [dueX_at] at c25; omega)), h1, (h2.trans (by first | rfl | exact congrArg (Value.int .u64) (by omega))), h3, (by first | rfl | exact congrArg (Value.int .i64) (by omega)), m3, m8, m5, b1⟩ ?_
   show (n - (intOf ((.int .i64 ((i : Int) + 1)))).toNat) < _
   simp only [h4, intOf]; omega
  ·refine Fx.L.v (.bool false) (Fx.x_gtrF rfl rfl rfl c25) ?_
   refine Fx.L.nil (Fx.seqN (Fx.W.cond (b := false) rfl (fun h => nomatch h) (fun _ => Fx.W.skip (Fx.seqN (Fx.W.seq (Fx.W.list (Fx.L.v (.slice a2 (m) (cap2)) (Fx.x_move rfl h3) ?_)))))))
   refine Fx.L.v (.pointer (some ⟨q, 0, none⟩)) (Fx.x_move rfl h1) ?_
   refine Fx.L.v (.pointer (some ⟨q, 0, none⟩)) (Fx.x_nil rfl rfl) ?_
   refine Fx.L.v (.pointer (some ⟨q, 0, none⟩)) (Fx.x_field rfl rfl Try.underlying37 rfl (s := 1) (by kernel_rfl) rfl rfl) ?_
   refine Fx.L.v (.slice a (n) (c)) (Fx.x_load1 (x := fun _ => .slice a (n) (c)) rfl rfl (by kernel_rfl) m3.cel (i := 0) (by omega) (by omega) rfl) ?_
   refine Fx.L.v (.int .i64 ((i : Int))) (Fx.x_move rfl h4) ?_
   refine Fx.L.v (.pointer (some ⟨gq1, 4 * i, none⟩)) (Fx.x_indexS rfl (rfl.trans (congrArg (fun q => Value.slice q (n) (c)) eq1)) rfl Try.underlying35 (s := 4) (by kernel_rfl) (by omega) (by omega) (by omega)) ?_
   refine Fx.L.v (.pointer (some ⟨gq1, 4 * i, none⟩)) (Fx.x_field rfl rfl Try.underlying62 rfl (s := 2) (by kernel_rfl) rfl rfl) ?_
   refine Fx.L.v (.agg (Fx.varr 2 (fun j => wtc (dueX now X i i) (0 + j)))) (Fx.x_loadA (x := Fx.flat 4 fun k => wtc (dueX now X i k)) (y := fun j => wtc (dueX now X i i) (0 + j)) rfl rfl (by kernel_rfl) (by kernel_rfl) m6.cel (i := 4 * i) (by omega) (by omega) (fun jq hjq => (Fx.flat_at (k := i) (j := 0 + jq) (by omega) (by omega)).trans ((fun _ _ => rfl) jq hjq))) ?_
   refine Fx.L.bslice (vs := [(0, .agg (Fx.varr 2 (fun j => wtc (dueX now X i i) (0 + j))))]) (s := 2) (zc := fun i => (#[.int .u64 (0), .int .i64 (0)] : Array Value).getD i undef) (y := Fx.ovr (fun j => (#[.int .u64 (0), .int .i64 (0)] : Array Value).getD (j % 2) undef) (0 * 2) 2 (fun j => wtc (dueX now X i i) (0 + j))) (by rfl) rfl rfl Try.underlying28 (by kernel_rfl) (by rfl) (by rfl) (by kernel_rfl) (by rw [Fx.fill_step (off := 0 * 2) (s := 2) (y := fun j => wtc (dueX now X i i) (0 + j)) rfl (Fx.cells_agg _ _) (by rfl)]; rfl) rfl fun g1 w2 eg1 m9 s1 z1 => ?_
   have m10 := m3.stp s1 (Nat.ne_of_lt (m3.lt))
   have m11 := m5.stp s1 (m5.notNew (Nat.le_refl _))
   have m12 := m6.stpB s1 (Nat.ne_of_lt (m6.lt))
   have b2 := b1.then s1 (.inr b1.size)
   have lg1 : w.heap.size ≤ g1 := by rw [eg1]; exact b1.size
   have ng1m10 : q ≠ g1 := by rw [eg1]; exact Nat.ne_of_lt (m3.lt)
   have ng1m11 : (.slice a2 (m) (cap2) : Value).ownBlock ≠ some g1 := by rw [eg1]; exact m5.notNew (Nat.le_refl _)
   have ng1m12 : gq1 ≠ g1 := by rw [eg1]; exact Nat.ne_of_lt (m6.lt)
   have tg1 : g1 < w2.heap.size := m9.lt
   clear eg1
   refine Fx.L.app (B := w.heap.size) (s := 2) (bytes := 16) (k := m) (m := 1) (v := .slice a2 (m) (cap2)) (x := Fx.flat 2 fun q => wtc (X (σ q))) (by rfl) rfl rfl rfl Try.underlying28 (by kernel_rfl) (by kernel_rfl) rfl rfl m11 m9.cel (fun j hj => by unfold Fx.ovr; rw [if_pos (by omega)]; exact wtc_one _ _) (by omega) (by omega) (by omega) b2.size fun g2 cap1 w3 ho1 hg1 hgv1 hlt1 => ?_
   have hct1 := Fx.ChT.of_grown hg1 m11
   have m14 := m10.chT hct1 (by decide)
   have m15 := m12.chT hct1 (by decide)
   have m13 : Fx.Own w3 w.heap.size 31 2 (.slice (some ⟨g2, 0, none⟩) (m + 1) cap1) (m + 1) (Fx.flat 2 fun q => wtc (X (Fx.putI σ m i q))) := (ho1.congr (app2 (τ' := Fx.putI σ m i) (by unfold Fx.putI; rw [if_pos rfl]; exact dueX_at now X i) (fun q hq => by unfold Fx.putI; rw [if_neg (by omega)])))
   have b3 : Fx.Chg (fun k => (.slice a n c : Value).ownBlock = some k) w w3 := Fx.Chg.grow b2 hg1 (fun q hq => .inr (m11.ge hq).1)
   refine Fx.L.v (.slice (some ⟨g2, 0, none⟩) (m + 1) (cap1)) (Fx.x_assign rfl rfl) ?_
   refine Fx.L.nil (Fx.seqN (Fx.W.seq ?_))
   -- region 7 draws
   refine Fx.W.tail 17 (by kernel_rfl) (by kernel_rfl) fun wt1 hbwt1 hzwt1 => ?_
   have s2 : Fx.Stp w3.heap.size w3 wt1 := Fx.Stp.of_below hbwt1
   have m16 := m14.stp s2 (Nat.ne_of_lt (m14.lt))
   have m17 := m15.stpB s2 (Nat.ne_of_lt (m15.lt))
   have m18 := m13.stpB s2 (Nat.ne_of_lt (m13.lt))
   have b4 := b3.then s2 (.inr b3.size)
   refine Fx.St.v (.pointer (some ⟨q, 0, none⟩)) (Fx.x_move rfl h1) ?_
   refine Fx.St.v (.pointer (some ⟨q, 0, none⟩)) (Fx.x_nil rfl rfl) ?_
   refine Fx.St.v (.pointer (some ⟨q, 0, none⟩)) (Fx.x_field rfl rfl Try.underlying37 rfl (s := 1) (by kernel_rfl) rfl rfl) ?_
   refine Fx.St.v (.slice a (n) (c)) (Fx.x_load1 (x := fun _ => .slice a (n) (c)) rfl rfl (by kernel_rfl) m16.cel (i := 0) (by omega) (by omega) rfl) ?_
   refine Fx.St.v (.int .i64 ((i : Int))) (Fx.x_move rfl h4) ?_
   refine Fx.St.v (.int .u64 (now)) (Fx.x_move rfl h2) ?_
   refine Fx.St.v (.pointer (some ⟨q, 0, none⟩)) (Fx.x_move rfl h1) ?_
   refine Fx.St.v (.pointer (some ⟨q, 0, none⟩)) (Fx.x_nil rfl rfl) ?_
   refine Fx.St.v (.pointer (some ⟨q, 0, none⟩)) (Fx.x_field rfl rfl Try.underlying37 rfl (s := 1) (by kernel_rfl) rfl rfl) ?_
   refine Fx.St.v (.slice a (n) (c)) (Fx.x_load1 (x := fun _ => .slice a (n) (c)) rfl rfl (by kernel_rfl) m16.cel (i := 0) (by omega) (by omega) rfl) ?_
   refine Fx.St.v (.int .i64 ((i : Int))) (Fx.x_move rfl h4) ?_
   refine Fx.St.v (.pointer (some ⟨gq1, 4 * i, none⟩)) (Fx.x_indexS rfl (rfl.trans (congrArg (fun q => Value.slice q (n) (c)) eq1)) rfl Try.underlying35 (s := 4) (by kernel_rfl) (by omega) (by omega) (by omega)) ?_
   refine Fx.St.v (.pointer (some ⟨gq1, 4 * i + 3, none⟩)) (Fx.x_field rfl rfl Try.underlying62 rfl (s := 1) (by kernel_rfl) rfl (by show _ + 3 = _; omega)) ?_
   refine Fx.St.v (.int .u64 ((dueX now X i i).wait)) (Fx.x_load1 (x := Fx.flat 4 fun k => wtc (dueX now X i k)) rfl rfl (by kernel_rfl) m17.cel (i := 4 * i + 3) (by omega) (by omega) (Fx.flat_cell (k := i) (j := 3) (by omega) (by omega) rfl)) ?_
   refine Fx.St.v (.int .u64 (now + ((dueX now X i i).wait))) (Fx.x_add rfl rfl rfl (Fx.u64e (by omega) (by omega))) ?_
   refine Fx.St.v (.pointer (some ⟨gq1, 4 * i, none⟩)) (Fx.x_indexS rfl (rfl.trans (congrArg (fun q => Value.slice q (n) (c)) eq1)) rfl Try.underlying35 (s := 4) (by kernel_rfl) (by omega) (by omega) (by omega)) ?_
   refine Fx.St.v (.pointer (some ⟨gq1, 4 * i + 2, none⟩)) (Fx.x_field rfl rfl Try.underlying62 rfl (s := 1) (by kernel_rfl) rfl (by show _ + 2 = _; omega)) ?_
   refine Fx.St.nil ?_
   refine Fx.L.own1 (x := Fx.flat 4 fun k => wtc (dueX now X i k)) (u := .int .u64 (now + ((dueX now X i i).wait))) (by rfl) rfl rfl rfl rfl (by rfl) (by kernel_rfl) m17 (i := 4 * i + 2) (by omega) fun w4 m19 s3 z2 => ?_
   have hct2 := Fx.ChT.of_stp s3 m17.tyB
   have m20 := m16.chT hct2 (by decide)
   have m21 := m18.chT hct2 (by decide)
   have b5 := b4.then s3 (.inl (by rw [eq1]; rfl) )
   have m22 := m19.congr (y := Fx.flat 4 fun k => wtc ((Fx.putI (dueX now X i) i ⟨(dueX now X i i).node, (dueX now X i i).amt, now + (dueX now X i i).wait, (dueX now X i i).wait⟩) k)) (flat_upd (dueX now X i) i ⟨(dueX now X i i).node, (dueX now X i i).amt, now + (dueX now X i i).wait, (dueX now X i i).wait⟩ 2 _ _ (by omega) (by omega) (fun j _ => congrFun (wtc_at (dueX now X i i) _) j))
   refine Fx.L.nil (Fx.seqN ?_)
   -- region 8 draws
   refine Fx.W.tail 17 (by kernel_rfl) (by kernel_rfl) fun wt2 hbwt2 hzwt2 => ?_
   have s4 : Fx.Stp w4.heap.size w4 wt2 := Fx.Stp.of_below hbwt2
   have m23 := m20.stp s4 (Nat.ne_of_lt (m20.lt))
   have m24 := m21.stpB s4 (Nat.ne_of_lt (m21.lt))
   have m25 := m22.stpB s4 (Nat.ne_of_lt (m22.lt))
   have b6 := b5.then s4 (.inr b5.size)
   refine Fx.St.v (.pointer (some ⟨q, 0, none⟩)) (Fx.x_move rfl h1) ?_
   refine Fx.St.v (.pointer (some ⟨q, 0, none⟩)) (Fx.x_nil rfl rfl) ?_
   refine Fx.St.v (.pointer (some ⟨q, 0, none⟩)) (Fx.x_field rfl rfl Try.underlying37 rfl (s := 1) (by kernel_rfl) rfl rfl) ?_
   refine Fx.St.v (.slice a (n) (c)) (Fx.x_load1 (x := fun _ => .slice a (n) (c)) rfl rfl (by kernel_rfl) m23.cel (i := 0) (by omega) (by omega) rfl) ?_
   refine Fx.St.v (.int .i64 ((i : Int))) (Fx.x_move rfl h4) ?_
   refine Fx.St.v (.pointer (some ⟨q, 0, none⟩)) (Fx.x_move rfl h1) ?_
   refine Fx.St.v (.pointer (some ⟨q, 0, none⟩)) (Fx.x_nil rfl rfl) ?_
   refine Fx.St.v (.pointer (some ⟨q, 0, none⟩)) (Fx.x_field rfl rfl Try.underlying37 rfl (s := 1) (by kernel_rfl) rfl rfl) ?_
   refine Fx.St.v (.slice a (n) (c)) (Fx.x_load1 (x := fun _ => .slice a (n) (c)) rfl rfl (by kernel_rfl) m23.cel (i := 0) (by omega) (by omega) rfl) ?_
   refine Fx.St.v (.int .i64 ((i : Int))) (Fx.x_move rfl h4) ?_
   refine Fx.St.v (.pointer (some ⟨gq1, 4 * i, none⟩)) (Fx.x_indexS rfl (rfl.trans (congrArg (fun q => Value.slice q (n) (c)) eq1)) rfl Try.underlying35 (s := 4) (by kernel_rfl) (by omega) (by omega) (by omega)) ?_
   refine Fx.St.v (.pointer (some ⟨gq1, 4 * i + 3, none⟩)) (Fx.x_field rfl rfl Try.underlying62 rfl (s := 1) (by kernel_rfl) rfl (by show _ + 3 = _; omega)) ?_
   refine Fx.St.v (.int .u64 ((dueX now X i i).wait)) (Fx.x_load1 (x := Fx.flat 4 fun k => wtc ((Fx.putI (dueX now X i) i ⟨(dueX now X i i).node, (dueX now X i i).amt, now + (dueX now X i i).wait, (dueX now X i i).wait⟩) k)) rfl rfl (by kernel_rfl) m25.cel (i := 4 * i + 3) (by omega) (by omega) (Fx.flat_cell (k := i) (j := 3) (by omega) (by omega) (by show wtc (Fx.putI _ i _ i) _ = _; unfold Fx.putI; rw [if_pos rfl]; rfl))) ?_
   refine Fx.St.v (.int .u64 (2 * ((dueX now X i i).wait))) (Fx.x_mul rfl rfl rfl (Fx.u64e (by omega) (by omega))) ?_
   refine Fx.St.v (.int .u64 (mnZ (2 * ((dueX now X i i).wait)) 16)) (Fx.x_min rfl rfl rfl) ?_
   refine Fx.St.v (.pointer (some ⟨gq1, 4 * i, none⟩)) (Fx.x_indexS rfl (rfl.trans (congrArg (fun q => Value.slice q (n) (c)) eq1)) rfl Try.underlying35 (s := 4) (by kernel_rfl) (by omega) (by omega) (by omega)) ?_
   refine Fx.St.v (.pointer (some ⟨gq1, 4 * i + 3, none⟩)) (Fx.x_field rfl rfl Try.underlying62 rfl (s := 1) (by kernel_rfl) rfl (by show _ + 3 = _; omega)) ?_
   refine Fx.St.nil ?_
   refine Fx.L.own1 (x := Fx.flat 4 fun k => wtc ((Fx.putI (dueX now X i) i ⟨(dueX now X i i).node, (dueX now X i i).amt, now + (dueX now X i i).wait, (dueX now X i i).wait⟩) k)) (u := .int .u64 (mnZ (2 * ((dueX now X i i).wait)) 16)) (by rfl) rfl rfl rfl rfl (by rfl) (by kernel_rfl) m25 (i := 4 * i + 3) (by omega) fun w5 m26 s5 z3 => ?_
   have hct3 := Fx.ChT.of_stp s5 m25.tyB
   have m27 := m23.chT hct3 (by decide)
   have m28 := m24.chT hct3 (by decide)
   have b7 := b6.then s5 (.inl (by rw [eq1]; rfl) )
   have m29 := m26.congr (y := Fx.flat 4 fun k => wtc ((Fx.putI (Fx.putI (dueX now X i) i ⟨(dueX now X i i).node, (dueX now X i i).amt, now + (dueX now X i i).wait, (dueX now X i i).wait⟩) i ⟨(dueX now X i i).node, (dueX now X i i).amt, now + (dueX now X i i).wait, mnZ (2 * (dueX now X i i).wait) 16⟩) k)) (flat_upd (Fx.putI (dueX now X i) i ⟨(dueX now X i i).node, (dueX now X i i).amt, now + (dueX now X i i).wait, (dueX now X i i).wait⟩) i ⟨(dueX now X i i).node, (dueX now X i i).amt, now + (dueX now X i i).wait, mnZ (2 * (dueX now X i i).wait) 16⟩ 3 _ _ (by omega) (by omega) (fun j hj => by have e1 : (Fx.putI (dueX now X i) i ⟨(dueX now X i i).node, (dueX now X i i).amt, now + (dueX now X i i).wait, (dueX now X i i).wait⟩) i = ⟨(dueX now X i i).node, (dueX now X i i).amt, now + (dueX now X i i).wait, (dueX now X i i).wait⟩ := (by unfold Fx.putI; rw [if_pos rfl]); rw [e1]; exact wtc_wait _ _ j hj))
   refine Fx.L.nil (Fx.blkN (Fx.seqN (Fx.W.list (Fx.L.v (.int .i64 ((i : Int))) (Fx.x_move rfl h4) ?_))))
   refine Fx.L.v (.int .i64 ((i : Int) + 1)) (Fx.x_add rfl rfl rfl (Fx.i64e (by omega) (by omega))) ?_
   refine Fx.L.v (.int .i64 ((i : Int) + 1)) (Fx.x_assign rfl rfl) ?_
   refine Fx.L.nil ?_
   have m30 : Fx.Own w5 B 62 4 (.slice a (n) (c)) n (Fx.flat 4 fun k => wtc ((Fx.putI (Fx.putI (dueX now X i) i ⟨(dueX now X i i).node, (dueX now X i i).amt, now + (dueX now X i i).wait, (dueX now X i i).wait⟩) i ⟨(dueX now X i i).node, (dueX now X i i).amt, now + (dueX now X i i).wait, mnZ (2 * (dueX now X i i).wait) 16⟩) k)) := m29.congV (congrArg (fun q => Value.slice q n c) eq1.symm)
   have m31 := m30.congr (y := Fx.flat 4 fun k => wtc (dueX now X (i + 1) k)) (fun j _ => by show wtc _ (j % 4) = wtc (dueX now X (i + 1) (j / 4)) (j % 4); rw [dueX_take (by rw [dueX_at] at c25; omega) (by rw [dueX_at]; rfl)])
   skip
   refine Fx.lpN ⟨i + 1, m + 1, (Fx.putI σ m i), (some ⟨g2, 0, none⟩), cap1, by omega, (hin.take (by rw [dueX_at] at c25; omega)), h1, (h2.trans (by first | rfl | exact congrArg (Value.int .u64) (by omega))), (by rfl), (by first | rfl | exact congrArg (Value.int .i64) (by omega)), m27, m31, m28, b7⟩ ?_
   show (n - (intOf ((.int .i64 ((i : Int) + 1)))).toNat) < _
   simp only [h4, intOf]; omega
 ·refine Fx.L.v (.bool false) (Fx.x_lssF rfl rfl rfl c13) ?_
  refine Fx.L.nil (Fx.seqN (Fx.W.cond (b := false) rfl (fun h => nomatch h) (fun _ => Fx.W.exit (Fx.seqX (Fx.lpX (Fx.blkX (Fx.seqN (Fx.W.seq (Fx.W.list (Fx.L.v (.slice a2 (m) (cap2)) (Fx.x_move rfl h3) ?_))))))))))
  refine Fx.L.v (.slice a2 (m) (cap2)) (Fx.x_assign rfl rfl) ?_
  refine Fx.L.nil (Fx.seqN (Fx.W.ret (⟨.slice a2 (m) (cap2), Fx.retV1 Try.results13 (by exact rfl), ?_⟩)))
  obtain rfl : i = n := by omega
  exact ⟨_, m, _, σ, rfl, m5, hin, m3, m4.congr (fun j hj => by show wtc (dueX now X i (j / 4)) (j % 4) = wtc (dueW now (X (j / 4))) (j % 4); unfold dueX; rw [if_pos (by omega)]), b1⟩
end Go.Proofs.Ytjnkejgjgknllaa
namespace Go.Proofs.Ytjnkejgjgknllaa
open Go.RowKit Rt
namespace Rt
theorem put_first {W W' : Nat → WtM} {node x now c : Int} {n' : Nat} (h : PutR 0 W node x now c n' W') (hb : ¬ putBad node x now) : c = 0 ∧ n' = 1 ∧ W' 0 = ⟨node, x, now, 1⟩ := by
  cases h with
  | arg h => exact absurd h hb
  | had j _ hj => omega
  | full _ _ hf => omega
  | new => exact ⟨rfl, rfl, by unfold Fx.putI; rw [if_pos rfl]⟩
theorem those_one {m : Nat} {W : Nat → WtM} {P : Nat → Prop} {τ : Nat → Nat} (h : ThoseR 1 W P m τ) (hp : P 0) : m = 1 := by
  obtain ⟨q, hq, _⟩ := h.mem 0 (by omega) hp
  have := those_le h
  omega
theorem those_no {m : Nat} {W : Nat → WtM} {P : Nat → Prop} {τ : Nat → Nat} (h : ThoseR 1 W P m τ) (hp : ¬ P 0) : m = 0 := by
  rcases Nat.eq_zero_or_pos m with h0 | h0
  · exact h0
  · have h1 := h.yes 0 h0
    have h2 := h.lt 0 h0
    rw [show τ 0 = 0 by omega] at h1
    exact absurd h1 hp
theorem done_one {W W' : Nat → WtM} {node : Int} {b : Bool} {n' : Nat} (h : DoneR 1 W node b n' W') (e : (W 0).node = node) : b = true ∧ n' = 0 := by
  cases h with
  | no hn => exact absurd e (hn 0 (by omega))
  | yes => exact ⟨rfl, rfl⟩
theorem done_none {W W' : Nat → WtM} {node : Int} {b : Bool} {n' : Nat} (h : DoneR 0 W node b n' W') : b = false ∧ n' = 0 := by
  cases h with
  | no hn => exact ⟨rfl, rfl⟩
  | yes j hj => omega
end Rt
theorem works18_any (w : World) :
    Calls Try.prog 7 #[] w fun e w' => e = .returned (.bool true) ∧ Below w.heap.size w w' := by
 refine Fx.enter Try.func7 rfl (n := 64) rfl (by rfl) ?_
 refine Fx.W.seq (Fx.W.list (Fx.L.v (.bool false) (Fx.x_assign rfl rfl) ?_))
 refine Fx.L.nil (Fx.seqN (Fx.W.seq (Fx.W.list (Fx.L.call (by rfl) (Fx.r_call (args := []) rfl rfl Try.func8 rfl rfl) rfl ((d_new _ (fun _ => 0) (fun _ => ⟨0, 0, 0, 0⟩)).mono ?_)))))
 rintro e9 w1 ⟨p, mb, he, hb1, hd1⟩
 refine ⟨_, he, ?_⟩
 clear he
 have b1 := hb1
 refine Fx.L.v (.pointer (some ⟨p, 0, none⟩)) (Fx.x_assign rfl rfl) ?_
 refine Fx.L.nil (Fx.seqN (Fx.W.seq (Fx.W.list (Fx.L.v (.pointer (some ⟨p, 0, none⟩)) (Fx.x_move rfl rfl) ?_))))
 refine Fx.L.call (by rfl) (Fx.r_call (args := [.pointer (some ⟨p, 0, none⟩), .int .u64 (5), .int .i64 (3), .int .u64 (10)]) rfl rfl Try.func9 rfl rfl) rfl ((d_put 5 3 10 (by omega) (by omega) p mb _ _ _ _ _ hd1 b1.size).mono ?_)
 rintro e9 w2 ⟨cc1, he, hc1, nn1, pb1, W1, hr1, hd2⟩
 obtain ⟨rfl, rfl, hW1⟩ := put_first hr1 (by unfold putBad; omega)
 refine ⟨_, he, ?_⟩
 clear he
 have hbl1 := hd1.below b1.size hc1
 have b2 := b1.trans hbl1
 refine Fx.L.v (.int .i64 (0)) (Fx.x_assign rfl rfl) ?_
 refine Fx.L.nil (Fx.seqN (Fx.W.seq (Fx.W.list (Fx.L.v (.pointer (some ⟨p, 0, none⟩)) (Fx.x_move rfl rfl) ?_))))
 refine Fx.L.call (by rfl) (Fx.r_call (args := [.pointer (some ⟨p, 0, none⟩), .int .u64 (10)]) rfl rfl Try.func10 rfl rfl) rfl ((d_due 10 p mb _ _ _ _ _ hd2 (by omega) (by omega)).mono ?_)
 rintro e9 w3 ⟨a1, mm1, c1, τ1, he, ho1, ht1, hd3, hc2⟩
 obtain rfl : mm1 = 1 := those_one ht1 (by show (W1 0).at_ ≤ 10; rw [hW1]; show ((10 : Int) ≤ 10); decide)
 refine ⟨_, he, ?_⟩
 clear he ho1 ht1
 obtain ⟨W2, eW1⟩ : ∃ V : Nat → WtM, V = fun i => dueW 10 (W1 i) := ⟨_, rfl⟩
 rw [← eW1] at hd3
 have hW2 : W2 0 = ⟨5, 3, 11, 2⟩ := by rw [eW1]; show dueW 10 (W1 0) = _; rw [hW1]; rfl
 have hbl2 := hd2.below b2.size hc2
 have b3 := b2.trans hbl2
 refine Fx.L.v (.int .i64 (1)) (Fx.x_len rfl rfl rfl (by kernel_rfl)) ?_
 refine Fx.L.v (.pointer (some ⟨p, 0, none⟩)) (Fx.x_move rfl rfl) ?_
 refine Fx.L.call (by rfl) (Fx.r_call (args := [.pointer (some ⟨p, 0, none⟩), .int .u64 (10)]) rfl rfl Try.func10 rfl rfl) rfl ((d_due 10 p mb _ _ _ _ _ hd3 (by omega) (by omega)).mono ?_)
 rintro e9 w4 ⟨a2, mm2, c2, τ2, he, ho2, ht2, hd4, hc3⟩
 obtain rfl : mm2 = 0 := those_no ht2 (by show ¬ (W2 0).at_ ≤ 10; rw [hW2]; show ¬ ((11 : Int) ≤ 10); decide)
 refine ⟨_, he, ?_⟩
 clear he ho2 ht2
 obtain ⟨W3, eW2⟩ : ∃ V : Nat → WtM, V = fun i => dueW 10 (W2 i) := ⟨_, rfl⟩
 rw [← eW2] at hd4
 have hW3 : W3 0 = ⟨5, 3, 11, 2⟩ := by rw [eW2]; show dueW 10 (W2 0) = _; rw [hW2]; rfl
 have hbl3 := hd3.below b3.size hc3
 have b4 := b3.trans hbl3
 refine Fx.L.v (.int .i64 (0)) (Fx.x_len rfl rfl rfl (by kernel_rfl)) ?_
 refine Fx.L.v (.pointer (some ⟨p, 0, none⟩)) (Fx.x_move rfl rfl) ?_
 refine Fx.L.call (by rfl) (Fx.r_call (args := [.pointer (some ⟨p, 0, none⟩), .int .u64 (11)]) rfl rfl Try.func10 rfl rfl) rfl ((d_due 11 p mb _ _ _ _ _ hd4 (by omega) (by omega)).mono ?_)
 rintro e9 w5 ⟨a3, mm3, c3, τ3, he, ho3, ht3, hd5, hc4⟩
 obtain rfl : mm3 = 1 := those_one ht3 (by show (W3 0).at_ ≤ 11; rw [hW3]; show ((11 : Int) ≤ 11); decide)
 refine ⟨_, he, ?_⟩
 clear he ho3 ht3
 obtain ⟨W4, eW3⟩ : ∃ V : Nat → WtM, V = fun i => dueW 11 (W3 i) := ⟨_, rfl⟩
 rw [← eW3] at hd5
 have hW4 : W4 0 = ⟨5, 3, 13, 4⟩ := by rw [eW3]; show dueW 11 (W3 0) = _; rw [hW3]; rfl
 have hbl4 := hd4.below b4.size hc4
 have b5 := b4.trans hbl4
 refine Fx.L.v (.int .i64 (1)) (Fx.x_len rfl rfl rfl (by kernel_rfl)) ?_
 refine Fx.L.v (.pointer (some ⟨p, 0, none⟩)) (Fx.x_move rfl rfl) ?_
 refine Fx.L.call (by rfl) (Fx.r_call (args := [.pointer (some ⟨p, 0, none⟩), .int .u64 (12)]) rfl rfl Try.func10 rfl rfl) rfl ((d_due 12 p mb _ _ _ _ _ hd5 (by omega) (by omega)).mono ?_)
 rintro e9 w6 ⟨a4, mm4, c4, τ4, he, ho4, ht4, hd6, hc5⟩
 obtain rfl : mm4 = 0 := those_no ht4 (by show ¬ (W4 0).at_ ≤ 12; rw [hW4]; show ¬ ((13 : Int) ≤ 12); decide)
 refine ⟨_, he, ?_⟩
 clear he ho4 ht4
 obtain ⟨W5, eW4⟩ : ∃ V : Nat → WtM, V = fun i => dueW 12 (W4 i) := ⟨_, rfl⟩
 rw [← eW4] at hd6
 have hW5 : W5 0 = ⟨5, 3, 13, 4⟩ := by rw [eW4]; show dueW 12 (W4 0) = _; rw [hW4]; rfl
 have hbl5 := hd5.below b5.size hc5
 have b6 := b5.trans hbl5
 refine Fx.L.v (.int .i64 (0)) (Fx.x_len rfl rfl rfl (by kernel_rfl)) ?_
 refine Fx.L.v (.pointer (some ⟨p, 0, none⟩)) (Fx.x_move rfl rfl) ?_
 refine Fx.L.call (by rfl) (Fx.r_call (args := [.pointer (some ⟨p, 0, none⟩), .int .u64 (13)]) rfl rfl Try.func10 rfl rfl) rfl ((d_due 13 p mb _ _ _ _ _ hd6 (by omega) (by omega)).mono ?_)
 rintro e9 w7 ⟨a5, mm5, c5, τ5, he, ho5, ht5, hd7, hc6⟩
 obtain rfl : mm5 = 1 := those_one ht5 (by show (W5 0).at_ ≤ 13; rw [hW5]; show ((13 : Int) ≤ 13); decide)
 refine ⟨_, he, ?_⟩
 clear he ho5 ht5
 obtain ⟨W6, eW5⟩ : ∃ V : Nat → WtM, V = fun i => dueW 13 (W5 i) := ⟨_, rfl⟩
 rw [← eW5] at hd7
 have hW6 : W6 0 = ⟨5, 3, 17, 8⟩ := by rw [eW5]; show dueW 13 (W5 0) = _; rw [hW5]; rfl
 have hbl6 := hd6.below b6.size hc6
 have b7 := b6.trans hbl6
 refine Fx.L.v (.int .i64 (1)) (Fx.x_len rfl rfl rfl (by kernel_rfl)) ?_
 refine Fx.L.bslice (vs := [(0, .int .i64 (1)), (1, .int .i64 (0)), (2, .int .i64 (1)), (3, .int .i64 (0)), (4, .int .i64 (1))]) (s := 1) (zc := Fx.rv .i64 (fun _ => 0)) (y := Fx.ovr (Fx.ovr (Fx.ovr (Fx.ovr (Fx.ovr (fun j => (Fx.rv .i64 (fun _ => 0)) (j % 1)) (0 * 1) 1 (fun _ => .int .i64 (1))) (1 * 1) 1 (fun _ => .int .i64 (0))) (2 * 1) 1 (fun _ => .int .i64 (1))) (3 * 1) 1 (fun _ => .int .i64 (0))) (4 * 1) 1 (fun _ => .int .i64 (1))) (by rfl) rfl rfl Try.underlying51 (by kernel_rfl) (by rfl) (by rfl) (by kernel_rfl) (by rw [Fx.fill_step (off := 0 * 1) (s := 1) (y := fun _ => .int .i64 (1)) rfl (Fx.cells_one (by rfl)) (by rfl)]; rw [Fx.fill_step (off := 1 * 1) (s := 1) (y := fun _ => .int .i64 (0)) rfl (Fx.cells_one (by rfl)) (by rfl)]; rw [Fx.fill_step (off := 2 * 1) (s := 1) (y := fun _ => .int .i64 (1)) rfl (Fx.cells_one (by rfl)) (by rfl)]; rw [Fx.fill_step (off := 3 * 1) (s := 1) (y := fun _ => .int .i64 (0)) rfl (Fx.cells_one (by rfl)) (by rfl)]; rw [Fx.fill_step (off := 4 * 1) (s := 1) (y := fun _ => .int .i64 (1)) rfl (Fx.cells_one (by rfl)) (by rfl)]; rfl) rfl fun g1 w8 eg1 m1 s1 z1 => ?_
 have m2 := hd7.up s1.old
 have b8 := s1.below b7 b7.size b7.size
 have lg1 : w.heap.size ≤ g1 := by rw [eg1]; exact b7.size
 have tg1 : g1 < w8.heap.size := m1.lt
 clear eg1
 refine Fx.L.v (.slice (some ⟨g1, 0, none⟩) (5) (5)) (Fx.x_assign rfl rfl) ?_
 refine Fx.L.nil (Fx.seqN (Fx.W.seq (Fx.W.list (Fx.L.v (.int .i64 (0)) (Fx.x_move rfl rfl) ?_))))
 refine Fx.L.v (.bool true) (Fx.x_eqlT rfl rfl rfl (by omega)) ?_
 refine Fx.L.v (.bool true) (Fx.x_move rfl rfl) ?_
 refine Fx.L.v (.slice (some ⟨g1, 0, none⟩) (5) (5)) (Fx.x_move rfl rfl) ?_
 refine Fx.L.v (.pointer (some ⟨g1, 0, none⟩)) (Fx.x_indexS rfl rfl rfl Try.underlying51 (s := 1) (by kernel_rfl) (by omega) (by omega) (by omega)) ?_
 refine Fx.L.v (.int .i64 (1)) (Fx.x_load1 (x := Fx.ovr (Fx.ovr (Fx.ovr (Fx.ovr (Fx.ovr (fun j => (Fx.rv .i64 (fun _ => 0)) (j % 1)) (0 * 1) 1 (fun _ => .int .i64 (1))) (1 * 1) 1 (fun _ => .int .i64 (0))) (2 * 1) 1 (fun _ => .int .i64 (1))) (3 * 1) 1 (fun _ => .int .i64 (0))) (4 * 1) 1 (fun _ => .int .i64 (1))) rfl rfl (by kernel_rfl) m1.cel (i := 0) (by omega) (by omega) (Fx.ovr_out (by omega) (Fx.ovr_out (by omega) (Fx.ovr_out (by omega) (Fx.ovr_out (by omega) (Fx.ovr_in (j := 0) (by omega) (by omega) rfl)))))) ?_
 refine Fx.L.v (.bool true) (Fx.x_eqlT rfl rfl rfl (by omega)) ?_
 refine Fx.L.v (.bool true) (Fx.x_pickT rfl rfl rfl) ?_
 refine Fx.L.v (.bool true) (Fx.x_move rfl rfl) ?_
 refine Fx.L.v (.slice (some ⟨g1, 0, none⟩) (5) (5)) (Fx.x_move rfl rfl) ?_
 refine Fx.L.v (.pointer (some ⟨g1, 1, none⟩)) (Fx.x_indexS rfl rfl rfl Try.underlying51 (s := 1) (by kernel_rfl) (by omega) (by omega) (by omega)) ?_
 refine Fx.L.v (.int .i64 (0)) (Fx.x_load1 (x := Fx.ovr (Fx.ovr (Fx.ovr (Fx.ovr (Fx.ovr (fun j => (Fx.rv .i64 (fun _ => 0)) (j % 1)) (0 * 1) 1 (fun _ => .int .i64 (1))) (1 * 1) 1 (fun _ => .int .i64 (0))) (2 * 1) 1 (fun _ => .int .i64 (1))) (3 * 1) 1 (fun _ => .int .i64 (0))) (4 * 1) 1 (fun _ => .int .i64 (1))) rfl rfl (by kernel_rfl) m1.cel (i := 1) (by omega) (by omega) (Fx.ovr_out (by omega) (Fx.ovr_out (by omega) (Fx.ovr_out (by omega) (Fx.ovr_in (j := 0) (by omega) (by omega) rfl))))) ?_
 refine Fx.L.v (.bool true) (Fx.x_eqlT rfl rfl rfl (by omega)) ?_
 refine Fx.L.v (.bool true) (Fx.x_pickT rfl rfl rfl) ?_
 refine Fx.L.v (.bool true) (Fx.x_move rfl rfl) ?_
 refine Fx.L.v (.slice (some ⟨g1, 0, none⟩) (5) (5)) (Fx.x_move rfl rfl) ?_
 refine Fx.L.v (.pointer (some ⟨g1, 2, none⟩)) (Fx.x_indexS rfl rfl rfl Try.underlying51 (s := 1) (by kernel_rfl) (by omega) (by omega) (by omega)) ?_
 refine Fx.L.v (.int .i64 (1)) (Fx.x_load1 (x := Fx.ovr (Fx.ovr (Fx.ovr (Fx.ovr (Fx.ovr (fun j => (Fx.rv .i64 (fun _ => 0)) (j % 1)) (0 * 1) 1 (fun _ => .int .i64 (1))) (1 * 1) 1 (fun _ => .int .i64 (0))) (2 * 1) 1 (fun _ => .int .i64 (1))) (3 * 1) 1 (fun _ => .int .i64 (0))) (4 * 1) 1 (fun _ => .int .i64 (1))) rfl rfl (by kernel_rfl) m1.cel (i := 2) (by omega) (by omega) (Fx.ovr_out (by omega) (Fx.ovr_out (by omega) (Fx.ovr_in (j := 0) (by omega) (by omega) rfl)))) ?_
 refine Fx.L.v (.bool true) (Fx.x_eqlT rfl rfl rfl (by omega)) ?_
 refine Fx.L.v (.bool true) (Fx.x_pickT rfl rfl rfl) ?_
 refine Fx.L.v (.bool true) (Fx.x_move rfl rfl) ?_
 refine Fx.L.v (.slice (some ⟨g1, 0, none⟩) (5) (5)) (Fx.x_move rfl rfl) ?_
 refine Fx.L.v (.pointer (some ⟨g1, 3, none⟩)) (Fx.x_indexS rfl rfl rfl Try.underlying51 (s := 1) (by kernel_rfl) (by omega) (by omega) (by omega)) ?_
 refine Fx.L.v (.int .i64 (0)) (Fx.x_load1 (x := Fx.ovr (Fx.ovr (Fx.ovr (Fx.ovr (Fx.ovr (fun j => (Fx.rv .i64 (fun _ => 0)) (j % 1)) (0 * 1) 1 (fun _ => .int .i64 (1))) (1 * 1) 1 (fun _ => .int .i64 (0))) (2 * 1) 1 (fun _ => .int .i64 (1))) (3 * 1) 1 (fun _ => .int .i64 (0))) (4 * 1) 1 (fun _ => .int .i64 (1))) rfl rfl (by kernel_rfl) m1.cel (i := 3) (by omega) (by omega) (Fx.ovr_out (by omega) (Fx.ovr_in (j := 0) (by omega) (by omega) rfl))) ?_
 refine Fx.L.v (.bool true) (Fx.x_eqlT rfl rfl rfl (by omega)) ?_
 refine Fx.L.v (.bool true) (Fx.x_pickT rfl rfl rfl) ?_
 refine Fx.L.v (.bool true) (Fx.x_move rfl rfl) ?_
 refine Fx.L.v (.slice (some ⟨g1, 0, none⟩) (5) (5)) (Fx.x_move rfl rfl) ?_
 refine Fx.L.v (.pointer (some ⟨g1, 4, none⟩)) (Fx.x_indexS rfl rfl rfl Try.underlying51 (s := 1) (by kernel_rfl) (by omega) (by omega) (by omega)) ?_
 refine Fx.L.v (.int .i64 (1)) (Fx.x_load1 (x := Fx.ovr (Fx.ovr (Fx.ovr (Fx.ovr (Fx.ovr (fun j => (Fx.rv .i64 (fun _ => 0)) (j % 1)) (0 * 1) 1 (fun _ => .int .i64 (1))) (1 * 1) 1 (fun _ => .int .i64 (0))) (2 * 1) 1 (fun _ => .int .i64 (1))) (3 * 1) 1 (fun _ => .int .i64 (0))) (4 * 1) 1 (fun _ => .int .i64 (1))) rfl rfl (by kernel_rfl) m1.cel (i := 4) (by omega) (by omega) (Fx.ovr_in (j := 0) (by omega) (by omega) rfl)) ?_
 refine Fx.L.v (.bool true) (Fx.x_eqlT rfl rfl rfl (by omega)) ?_
 refine Fx.L.v (.bool true) (Fx.x_pickT rfl rfl rfl) ?_
 refine Fx.L.v (.bool true) (Fx.x_move rfl rfl) ?_
 refine Fx.L.v (.pointer (some ⟨p, 0, none⟩)) (Fx.x_move rfl rfl) ?_
 refine Fx.L.call (by rfl) (Fx.r_call (args := [.pointer (some ⟨p, 0, none⟩), .int .u64 (5)]) rfl rfl Try.func14 rfl rfl) rfl ((d_done 5 p mb _ _ _ _ _ m2).mono ?_)
 rintro e9 w9 ⟨bb1, nn2, pb2, W7, he, hr2, hd8, hc7⟩
 obtain ⟨rfl, rfl⟩ := done_one hr2 (by rw [hW6])
 refine ⟨_, he, ?_⟩
 clear he
 have hbl7 := m2.below b8.size hc7
 have hx7 := m2.chx hc7
 have m3 := m1.chX hx7 rfl
 have b9 := b8.trans hbl7
 refine Fx.L.v (.bool true) (Fx.x_pickT rfl rfl rfl) ?_
 refine Fx.L.v (.bool true) (Fx.x_move rfl rfl) ?_
 refine Fx.L.v (.pointer (some ⟨p, 0, none⟩)) (Fx.x_move rfl rfl) ?_
 refine Fx.L.call (by rfl) (Fx.r_call (args := [.pointer (some ⟨p, 0, none⟩), .int .u64 (5)]) rfl rfl Try.func14 rfl rfl) rfl ((d_done 5 p mb _ _ _ _ _ hd8).mono ?_)
 rintro e9 w10 ⟨bb2, nn3, pb3, W8, he, hr3, hd9, hc8⟩
 obtain ⟨rfl, rfl⟩ := done_none hr3
 refine ⟨_, he, ?_⟩
 clear he
 have hbl8 := hd8.below b9.size hc8
 have hx8 := hd8.chx hc8
 have m4 := m3.chX hx8 rfl
 have b10 := b9.trans hbl8
 refine Fx.L.v (.bool true) (Fx.x_notT rfl rfl) ?_
 refine Fx.L.v (.bool true) (Fx.x_pickT rfl rfl rfl) ?_
 refine Fx.L.v (.bool true) (Fx.x_assign rfl rfl) ?_
 refine Fx.L.nil (Fx.seqN (Fx.W.ret (⟨.bool true, Fx.retV1 Try.results7 (by exact rfl), ?_⟩)))
 exact ⟨rfl, b10⟩
end Go.Proofs.Ytjnkejgjgknllaa
namespace Go.Proofs.Ytjnkejgjgknllaa
open Go.RowKit Rt
namespace Rt
def stp (d n x t : Int) : Nat → Value
  | 0 => .int .u8 d
  | 1 => .int .u64 n
  | 2 => .int .i64 x
  | _ => .int .u64 t
theorem stp_one (d n x t : Int) (j : Nat) : (stp d n x t j).oneCell' = true := by match j with | 0 => rfl | 1 => rfl | 2 => rfl | n + 3 => rfl
end Rt
theorem r_same (sa sb : Option Addr) (m ca cb : Nat) (F G : Nat → WtM) (w : World) (hA : Fx.Arr w sa m 2 (Fx.flat 2 fun q => wtc (F q))) (hB : Fx.Arr w sb m 2 (Fx.flat 2 fun q => wtc (G q))) (he : ∀ q, q < m → F q = G q) (hok : ∀ q, q < m → WtOk (F q)) (hm : m ≤ 32) :
    Calls Try.prog 12 #[.slice sa (m) (ca), .slice sb (m) (cb)] w fun e w' => e = .returned (.bool true) ∧ Below w.heap.size w w' := by
 refine Fx.enter Try.func12 rfl (n := 26) rfl (by rfl) ?_
 refine Fx.W.seq (Fx.W.list (Fx.L.v (.bool false) (Fx.x_assign rfl rfl) ?_))
 refine Fx.L.nil (Fx.seqN (Fx.W.seq (Fx.W.seq (Fx.W.list (Fx.L.v (.slice sa (m) (ca)) (Fx.x_move rfl rfl) ?_)))))
 refine Fx.L.v (.int .i64 ((m : Int))) (Fx.x_len rfl rfl rfl (by kernel_rfl)) ?_
 refine Fx.L.v (.slice sb (m) (cb)) (Fx.x_move rfl rfl) ?_
 refine Fx.L.v (.int .i64 ((m : Int))) (Fx.x_len rfl rfl rfl (by kernel_rfl)) ?_
 refine Fx.L.v (.bool false) (Fx.x_neqF rfl rfl rfl rfl) ?_
 refine Fx.L.nil (Fx.seqN (Fx.W.cond (b := false) rfl (fun h => nomatch h) (fun _ => Fx.W.skip (Fx.seqN (Fx.W.seq (Fx.W.seq (Fx.W.list (Fx.L.v (.int .i64 (0)) (Fx.x_assign rfl rfl) ?_))))))))
 refine Fx.L.nil (Fx.seqN (Fx.W.block (Fx.W.loop (fun f w_ => ∃ k : Nat, k ≤ m ∧ f 0 = .slice sa (m) (ca) ∧ f 1 = .slice sb (m) (cb) ∧ f 5 = .int .i64 ((k : Int)) ∧ Below w.heap.size w w_) (fun f _ => (m - (intOf (f 5)).toNat)) ⟨0, by omega, (by rfl), (by rfl), (by first | rfl | exact congrArg (Value.int .i64) (by omega)), (Below.refl w.heap.size w)⟩ ?_)))
 rintro f1 w1 ⟨k, hk, h1, h2, h3, b1⟩
 refine Fx.W.seq (Fx.W.seq (Fx.W.list (Fx.L.v (.int .i64 ((k : Int))) (Fx.x_move rfl h3) ?_)))
 refine Fx.L.v (.slice sa (m) (ca)) (Fx.x_move rfl h1) ?_
 refine Fx.L.v (.int .i64 ((m : Int))) (Fx.x_len rfl rfl rfl (by kernel_rfl)) ?_
 by_cases c14 : (k : Int) < (m : Int)
 ·refine Fx.L.v (.bool true) (Fx.x_lssT rfl rfl rfl c14) ?_
  refine Fx.L.nil (Fx.seqN (Fx.W.cond (b := true) rfl (fun _ => Fx.W.skip (Fx.seqN (Fx.W.seq (Fx.W.block (Fx.W.seq ?_))))) (fun h => nomatch h)))
  -- region 6 draws
  refine Fx.W.quiet (fun v1 => ∃ q, v1 = World.drewN w1 q) (by kernel_rfl) (by kernel_rfl) ⟨1, rfl⟩ ?_
  refine Fx.Qt.v (.slice sa (m) (ca)) (fun v1 hv1 => Fx.x_move rfl h1) ?_
  refine Fx.Qt.v (.int .i64 ((k : Int))) (fun v1 hv1 => Fx.x_move rfl h3) ?_
  obtain ⟨bq1, oq1, eq1, m1⟩ := (hA.up b1 rfl) (by omega)
  have lbq1 : bq1 < w1.heap.size := m1.lt (by omega)
  refine Fx.Qt.v (.pointer (some ⟨bq1, 2 * k + oq1, none⟩)) (fun v1 hv1 => Fx.x_indexS rfl (rfl.trans (congrArg (fun q => Value.slice q (m) (ca)) eq1)) rfl Try.underlying28 (s := 2) (by kernel_rfl) (by omega) (by omega) (by omega)) ?_
  refine Fx.Qt.v (.agg (Fx.varr 2 (wtc (F k)))) (fun v1 hv1 => Fx.x_loadA (x := Fx.flat 2 fun q => wtc (F q)) (y := wtc (F k)) rfl rfl (by kernel_rfl) (by kernel_rfl) (by obtain ⟨qd, rfl⟩ := hv1; exact m1) (i := 2 * k) (by omega) (by omega) (fun jq hjq => Fx.flat_at (k := k) (by omega) hjq)) ?_
  refine Fx.Qt.v (.slice sb (m) (cb)) (fun v1 hv1 => Fx.x_move rfl h2) ?_
  refine Fx.Qt.v (.int .i64 ((k : Int))) (fun v1 hv1 => Fx.x_move rfl h3) ?_
  obtain ⟨bq2, oq2, eq2, m2⟩ := (hB.up b1 rfl) (by omega)
  have lbq2 : bq2 < w1.heap.size := m2.lt (by omega)
  refine Fx.Qt.v (.pointer (some ⟨bq2, 2 * k + oq2, none⟩)) (fun v1 hv1 => Fx.x_indexS rfl (rfl.trans (congrArg (fun q => Value.slice q (m) (cb)) eq2)) rfl Try.underlying28 (s := 2) (by kernel_rfl) (by omega) (by omega) (by omega)) ?_
  refine Fx.Qt.v (.agg (Fx.varr 2 (wtc (G k)))) (fun v1 hv1 => Fx.x_loadA (x := Fx.flat 2 fun q => wtc (G q)) (y := wtc (G k)) rfl rfl (by kernel_rfl) (by kernel_rfl) (by obtain ⟨qd, rfl⟩ := hv1; exact m2) (i := 2 * k) (by omega) (by omega) (fun jq hjq => Fx.flat_at (k := k) (by omega) hjq)) ?_
  refine Fx.Qt.v (.bool false) (fun v1 hv1 => Fx.x_neqA (n := 2) (ks := [(some .u64), (some .i64)]) (X := wtc (F k)) (Y := wtc (G k)) 12 true rfl rfl rfl (Fx.yesb (fun j _ => by rw [he k (by omega)])) (kd_want (hok k (by omega))) (by rw [← he k (by omega)]; exact kd_want (hok k (by omega))) rfl (by kernel_rfl) (by kernel_rfl) (by kernel_rfl) (by kernel_rfl) (by kernel_rfl)) ?_
  refine Fx.Qt.nil ?_
  rintro _ ⟨qd, rfl⟩
  obtain ⟨wq1, ewq1⟩ : ∃ v1, v1 = World.drewN w1 qd := ⟨_, rfl⟩
  rw [← ewq1]
  have s1 : Fx.Stp w1.heap.size w1 wq1 := by rw [ewq1]; exact Fx.Stp.of_below (bdrN w1 qd)
  have m3 := m1.stp s1 (Nat.ne_of_lt (m1.lt (by omega)))
  have m4 := m2.stp s1 (Nat.ne_of_lt (m2.lt (by omega)))
  have b2 := s1.below b1 b1.size b1.size
  clear ewq1
  refine Fx.seqN (Fx.W.cond (b := false) rfl (fun h => nomatch h) (fun _ => Fx.W.skip (Fx.blkN (Fx.seqN (Fx.W.list (Fx.L.v (.int .i64 ((k : Int))) (Fx.x_move rfl h3) ?_))))))
  refine Fx.L.v (.int .i64 ((k : Int) + 1)) (Fx.x_add rfl rfl rfl (Fx.i64e (by omega) (by omega))) ?_
  refine Fx.L.v (.int .i64 ((k : Int) + 1)) (Fx.x_assign rfl rfl) ?_
  refine Fx.L.nil (Fx.lpN ⟨k + 1, by omega, h1, h2, (by first | rfl | exact congrArg (Value.int .i64) (by omega)), b2⟩ ?_)
  show (m - (intOf ((.int .i64 ((k : Int) + 1)))).toNat) < _
  simp only [h3, intOf]; omega
 ·refine Fx.L.v (.bool false) (Fx.x_lssF rfl rfl rfl c14) ?_
  refine Fx.L.nil (Fx.seqN (Fx.W.cond (b := false) rfl (fun h => nomatch h) (fun _ => Fx.W.exit (Fx.seqX (Fx.lpX (Fx.blkX (Fx.seqN (Fx.W.seq (Fx.W.list (Fx.L.v (.bool true) (Fx.x_assign rfl rfl) ?_))))))))))
  refine Fx.L.nil (Fx.seqN (Fx.W.ret (⟨.bool true, Fx.retV1 Try.results12 (by exact rfl), ?_⟩)))
  exact ⟨rfl, b1⟩
theorem dplays_any (sa : Option Addr) (l ca : Nat) (D N V T : Nat → Int) (w : World) (hst : Fx.Arr w sa l 4 (Fx.flat 4 fun k => stp (D k) (N k) (V k) (T k))) (hDb : ∀ i, i < l → 0 ≤ D i ∧ D i ≤ 255) (hNb : ∀ i, i < l → 0 ≤ N i ∧ N i < 18446744073709551616) (hTb : ∀ i, i < l → 0 ≤ T i ∧ T i < 18446744073709551616) :
    Calls Try.prog 4 #[.slice sa (l) (ca)] w fun e w' => e = .returned (.bool true) ∧ Below w.heap.size w w' := by
 refine Fx.enter Try.func4 rfl (n := 79) rfl (by rfl) ?_
 refine Fx.W.seq (Fx.W.list (Fx.L.v (.bool false) (Fx.x_assign rfl rfl) ?_))
 refine Fx.L.nil (Fx.seqN (Fx.W.seq (Fx.W.seq (Fx.W.list (Fx.L.v (.slice sa (l) (ca)) (Fx.x_move rfl rfl) ?_)))))
 refine Fx.L.v (.int .i64 ((l : Int))) (Fx.x_len rfl rfl rfl (by kernel_rfl)) ?_
 by_cases c9 : 150 < (l : Int)
 ·refine Fx.L.v (.bool true) (Fx.x_gtrT rfl rfl rfl c9) ?_
  refine Fx.L.nil (Fx.seqN (Fx.W.cond (b := true) rfl (fun _ => Fx.W.seq (Fx.W.list (Fx.L.call (by rfl) (Fx.r_call (args := []) rfl rfl Try.func7 rfl rfl) rfl ((works18_any _).mono ?_)))) (fun h => nomatch h)))
  rintro e w1 ⟨he, hb1⟩
  refine ⟨.bool true, by rw [he], ?_⟩
  clear he
  have s1 := Fx.Stp.of_below hb1
  have b1 := s1.below (Below.refl w.heap.size w) (Below.refl w.heap.size w).size (Below.refl w.heap.size w).size
  refine Fx.L.v (.bool true) (Fx.x_assign rfl rfl) ?_
  refine Fx.L.nil (Fx.seqN (Fx.W.ret (Fx.seqR (⟨.bool true, Fx.retV1 Try.results4 (by exact rfl), ?_⟩))))
  exact ⟨rfl, b1⟩
 ·refine Fx.L.v (.bool false) (Fx.x_gtrF rfl rfl rfl c9) ?_
  refine Fx.L.nil (Fx.seqN (Fx.W.cond (b := false) rfl (fun h => nomatch h) (fun _ => Fx.W.skip (Fx.seqN (Fx.W.seq (Fx.W.list (Fx.L.call (by rfl) (Fx.r_call (args := []) rfl rfl Try.func8 rfl rfl) rfl ((d_new _ (fun _ => 0) (fun _ => ⟨0, 0, 0, 0⟩)).mono ?_))))))))
  rintro e9 w2 ⟨p, mb, he, hb2, hd1⟩
  refine ⟨_, he, ?_⟩
  clear he
  have b2 := hb2
  refine Fx.L.v (.pointer (some ⟨p, 0, none⟩)) (Fx.x_assign rfl rfl) ?_
  refine Fx.L.nil (Fx.seqN (Fx.W.seq (Fx.W.list (Fx.L.v (.agg (Fx.varr 1 (fun _ => .slice none 0 0))) (Fx.x_build (vs := []) (places := #[(0, 1)]) (m := 1) (x := fun _ => .slice none 0 0) rfl rfl Try.underlying37 (by kernel_rfl) (by kernel_rfl) (by rfl)) ?_))))
  refine Fx.L.box (m := 1) (y := fun _ => .slice none 0 0) (by rfl) rfl rfl (Fx.cells_agg _ _) rfl fun g1 w3 eg1 m1 s2 z1 => ?_
  have m2 := hd1.up s2.old
  have b3 := s2.below b2 b2.size b2.size
  have lg1 : w.heap.size ≤ g1 := by rw [eg1]; exact b2.size
  have tg1 : g1 < w3.heap.size := m1.lt
  clear eg1
  refine Fx.L.v (.pointer (some ⟨g1, 0, none⟩)) (Fx.x_assign rfl rfl) ?_
  refine Fx.L.nil (Fx.seqN (Fx.W.seq (Fx.W.seq (Fx.W.list (Fx.L.v (.int .i64 (0)) (Fx.x_assign rfl rfl) ?_)))))
  refine Fx.L.nil (Fx.seqN (Fx.W.block ?_))
  obtain ⟨q, eq0⟩ : ∃ q, q = g1 := ⟨_, rfl⟩
  have lq : w.heap.size ≤ q := by rw [eq0]; exact lg1
  have m3 : Fx.Blk w3 q 1 (fun _ => .slice none (0) (0)) 37 := by rw [eq0]; exact m1
  have m4 : Fx.Own w3 w.heap.size 62 4 (.slice none (0) (0)) 0 (Fx.flat 4 fun k => wtc ((fun _ => ⟨0, 0, 0, 0⟩ : Nat → WtM) k)) := Fx.Own.nil _ _ _ _ _
  refine Fx.W.loop (fun f w_ => ∃ i : Nat, ∃ n : Nat, ∃ pb : Nat → Nat, ∃ W : Nat → WtM, ∃ ra : Option Addr, ∃ rc : Nat, ∃ X : Nat → WtM, i ≤ l ∧ RelS n W X ∧ f 0 = .slice sa (l) (ca) ∧ f 3 = .pointer (some ⟨p, 0, none⟩) ∧ f 4 = .pointer (some ⟨q, 0, none⟩) ∧ f 5 = .int .i64 ((i : Int)) ∧ DemO w_ w.heap.size p mb n pb W ∧ Fx.Blk w_ q 1 (fun _ => .slice ra (n) (rc)) 37 ∧ Fx.Own w_ w.heap.size 62 4 (.slice ra (n) (rc)) n (Fx.flat 4 fun k => wtc (X k)) ∧ Below w.heap.size w w_) (fun f _ => (l - (intOf (f 5)).toNat)) ⟨0, 0, (fun _ => 0), (fun _ => ⟨0, 0, 0, 0⟩), none, 0, (fun _ => ⟨0, 0, 0, 0⟩), by omega, (RelS.start _ _), (by rfl), (by rfl), (by rw [eq0]; rfl), (by first | rfl | exact congrArg (Value.int .i64) (by omega)), m2, m3, m4, b3⟩ ?_
  rintro f1 w4 ⟨i, n, pb, W, ra, rc, X, hi, hrel, h1, h2, h3, h4, m5, m6, m7, b4⟩
  refine Fx.W.seq (Fx.W.seq (Fx.W.list (Fx.L.v (.int .i64 ((i : Int))) (Fx.x_move rfl h4) ?_)))
  refine Fx.L.v (.slice sa (l) (ca)) (Fx.x_move rfl h1) ?_
  refine Fx.L.v (.int .i64 ((l : Int))) (Fx.x_len rfl rfl rfl (by kernel_rfl)) ?_
  by_cases c17 : (i : Int) < (l : Int)
  ·refine Fx.L.v (.bool true) (Fx.x_lssT rfl rfl rfl c17) ?_
   refine Fx.L.nil (Fx.seqN (Fx.W.cond (b := true) rfl (fun _ => Fx.W.skip (Fx.seqN (Fx.W.seq (Fx.W.block (Fx.W.seq (Fx.W.list (Fx.L.v (.slice sa (l) (ca)) (Fx.x_move rfl h1) ?_))))))) (fun h => nomatch h)))
   refine Fx.L.v (.int .i64 ((i : Int))) (Fx.x_move rfl h4) ?_
   obtain ⟨bq1, oq1, eq1, m8⟩ := (hst.up b4 rfl) (by omega)
   have lbq1 : bq1 < w4.heap.size := m8.lt (by omega)
   refine Fx.L.v (.pointer (some ⟨bq1, 4 * i + oq1, none⟩)) (Fx.x_indexS rfl (rfl.trans (congrArg (fun q => Value.slice q (l) (ca)) eq1)) rfl Try.underlying33 (s := 4) (by kernel_rfl) (by omega) (by omega) (by omega)) ?_
   refine Fx.L.v (.agg (Fx.varr 4 (stp (D i) (N i) (V i) (T i)))) (Fx.x_loadA (x := Fx.flat 4 fun k => stp (D k) (N k) (V k) (T k)) (y := stp (D i) (N i) (V i) (T i)) rfl rfl (by kernel_rfl) (by kernel_rfl) m8 (i := 4 * i) (by omega) (by omega) (fun jq hjq => Fx.flat_at (k := i) (by omega) hjq)) ?_
   refine Fx.L.new (m := 4) (y := fun i => (#[.int .u8 (0), .int .u64 (0), .int .i64 (0), .int .u64 (0)] : Array Value).getD i undef) (by rfl) rfl (by kernel_rfl) rfl fun g2 w5 eg2 m9 s3 z2 => ?_
   have m10 := m5.up s3.old
   have m11 := m6.stp s3 (Nat.ne_of_lt (m6.lt))
   have m12 := m7.stp s3 (m7.notNew (Nat.le_refl _))
   have m13 := m8.stp s3 (Nat.ne_of_lt (m8.lt (by omega)))
   have b5 := s3.below b4 b4.size b4.size
   have lg2 : w.heap.size ≤ g2 := by rw [eg2]; exact b4.size
   have ng2m11 : q ≠ g2 := by rw [eg2]; exact Nat.ne_of_lt (m6.lt)
   have ng2m13 : bq1 ≠ g2 := by rw [eg2]; exact Nat.ne_of_lt (m8.lt (by omega))
   have tg2 : g2 < w5.heap.size := m9.lt
   clear eg2
   refine Fx.L.storeA (x := fun i => (#[.int .u8 (0), .int .u64 (0), .int .i64 (0), .int .u64 (0)] : Array Value).getD i undef) (y := stp (D i) (N i) (V i) (T i)) (by rfl) rfl rfl rfl rfl (fun j _ => stp_one _ _ _ _ j) (by kernel_rfl) m9 (i := 0) (by omega) fun w6 m14 s4 z3 => ?_
   have m15 : Fx.Blk w6 g2 4 (stp (D i) (N i) (V i) (T i)) 39 := Fx.ovr_all m14
   have hct1 := Fx.ChT.of_stp s4 m9.ty
   have m16 := m10.chT hct1 (by decide)
   have m17 := m11.chT hct1 (by decide)
   have m18 := m12.chT hct1 (by decide)
   have m19 := m13.stp s4 (by omega)
   have b6 := s4.below b5 b5.size (by omega)
   refine Fx.L.nil (Fx.seqN (Fx.W.seqJ (fun f w_ => ∃ nJ : Nat, ∃ pbJ : Nat → Nat, ∃ WJ : Nat → WtM, ∃ raJ : Option Addr, ∃ rcJ : Nat, ∃ XJ : Nat → WtM, RelS nJ WJ XJ ∧ f 0 = .slice sa (l) (ca) ∧ f 3 = .pointer (some ⟨p, 0, none⟩) ∧ f 4 = .pointer (some ⟨q, 0, none⟩) ∧ f 5 = .int .i64 ((i : Int)) ∧ DemO w_ w.heap.size p mb nJ pbJ WJ ∧ Fx.Blk w_ q 1 (fun _ => .slice raJ (nJ) (rcJ)) 37 ∧ Fx.Own w_ w.heap.size 62 4 (.slice raJ (nJ) (rcJ)) nJ (Fx.flat 4 fun k => wtc (XJ k)) ∧ Below w.heap.size w w_) ?_ ?_))
   ·refine Fx.W.seq ?_
    have hn32 := m16.small
    have hokx : ∀ i, i < n → 1 ≤ (X i).wait := fun i hi => by obtain ⟨k, hk, e⟩ := hrel.back i hi; rw [← e]; exact m16.ok k hk
    have hokx2 : ∀ i, i < n → (X i).wait ≤ 16 := fun i hi => by obtain ⟨k, hk, e⟩ := hrel.back i hi; rw [← e]; exact m16.ok2 k hk
    obtain ⟨hD1, hD2⟩ := hDb i (by omega)
    obtain ⟨hN1, hN2⟩ := hNb i (by omega)
    obtain ⟨hT1, hT2⟩ := hTb i (by omega)
    refine Fx.W.list (Fx.L.v (.pointer (some ⟨g2, 0, none⟩)) (Fx.x_field rfl rfl Try.underlying39 rfl (s := 1) (by kernel_rfl) rfl rfl) ?_)
    refine Fx.L.v (.int .u8 (D i)) (Fx.x_load1 (x := stp (D i) (N i) (V i) (T i)) rfl rfl (by kernel_rfl) m15.cel (i := 0) (by omega) (by omega) rfl) ?_
    refine Fx.L.v (.int .u8 ((D i) % 3)) (Fx.x_rem rfl rfl rfl (by omega) (Int.tmod_eq_emod_of_nonneg (by omega))) ?_
    refine Fx.L.nil (Fx.seqN (Fx.W.block (Fx.W.seq (Fx.W.list ?_))))
    by_cases c37 : ((D i) % 3) = 0
    ·refine Fx.L.v (.bool true) (Fx.x_eqlT rfl rfl rfl c37) ?_
     refine Fx.L.v (.bool true) (Fx.x_assign rfl rfl) ?_
     refine Fx.L.nil (Fx.seqN (Fx.W.cond (b := true) rfl (fun _ => Fx.W.seq ?_) (fun h => nomatch h)))
     -- region 13 draws
     refine Fx.W.reord [0, 1, 3, 5, 8, 9, 11, 13, 2, 4, 6, 10, 12, 14, 7, 15, 16] [0, 0, 4, 0, 4, 0, 4, 2, 0, 0, 1, 0, 1, 0, 1, 2, 0] (Fx.ChX [57, 37, 62]) Fx.ChX.refl Fx.ChX.trans (certs := [(7, 2, [2]), (15, 2, [7, 2]), (7, 4, [4]), (15, 4, [7, 4]), (7, 6, [6]), (15, 6, [7, 6]), (15, 7, [7]), (16, 7, [7]), (16, 15, [15])]) (by kernel_rfl) (by kernel_rfl) (by kernel_rfl) (by kernel_rfl) (by kernel_rfl) fun wt1 hbwt1 hzwt1 => ?_
     have s5 : Fx.Stp w6.heap.size w6 wt1 := Fx.Stp.of_below hbwt1
     have m20 := m16.up s5.old
     have m21 := m17.stp s5 (Nat.ne_of_lt (m17.lt))
     have m22 := m18.stp s5 (m18.notNew (Nat.le_refl _))
     have m23 := m15.stp s5 (Nat.ne_of_lt (m15.lt))
     have b7 := s5.below b6 b6.size b6.size
     refine Fx.R.p (.pointer (some ⟨p, 0, none⟩)) (fun v1 => Fx.x_move rfl h2) ?_
     refine Fx.R.p (.pointer (some ⟨g2, 1, none⟩)) (fun v1 => Fx.x_field rfl rfl Try.underlying39 rfl (s := 1) (by kernel_rfl) rfl (by show _ + 1 = _; omega)) ?_
     refine Fx.R.p (.pointer (some ⟨g2, 2, none⟩)) (fun v1 => Fx.x_field rfl rfl Try.underlying39 rfl (s := 1) (by kernel_rfl) rfl (by show _ + 2 = _; omega)) ?_
     refine Fx.R.p (.pointer (some ⟨g2, 3, none⟩)) (fun v1 => Fx.x_field rfl rfl Try.underlying39 rfl (s := 1) (by kernel_rfl) rfl (by show _ + 3 = _; omega)) ?_
     refine Fx.R.p (.pointer (some ⟨q, 0, none⟩)) (fun v1 => Fx.x_move rfl h3) ?_
     refine Fx.R.p (.pointer (some ⟨g2, 1, none⟩)) (fun v1 => Fx.x_field rfl rfl Try.underlying39 rfl (s := 1) (by kernel_rfl) rfl (by show _ + 1 = _; omega)) ?_
     refine Fx.R.p (.pointer (some ⟨g2, 2, none⟩)) (fun v1 => Fx.x_field rfl rfl Try.underlying39 rfl (s := 1) (by kernel_rfl) rfl (by show _ + 2 = _; omega)) ?_
     refine Fx.R.p (.pointer (some ⟨g2, 3, none⟩)) (fun v1 => Fx.x_field rfl rfl Try.underlying39 rfl (s := 1) (by kernel_rfl) rfl (by show _ + 3 = _; omega)) ?_
     refine Fx.R.s (.int .u64 (N i)) (Fx.x_load1 (x := stp (D i) (N i) (V i) (T i)) rfl rfl (by kernel_rfl) m23.cel (i := 1) (by omega) (by omega) rfl) ?_
     refine Fx.R.s (.int .i64 (V i)) (Fx.x_load1 (x := stp (D i) (N i) (V i) (T i)) rfl rfl (by kernel_rfl) m23.cel (i := 2) (by omega) (by omega) rfl) ?_
     refine Fx.R.s (.int .u64 (T i)) (Fx.x_load1 (x := stp (D i) (N i) (V i) (T i)) rfl rfl (by kernel_rfl) m23.cel (i := 3) (by omega) (by omega) rfl) ?_
     refine Fx.R.read (v := .int .u64 (N i)) (by rfl) (by rfl) (Fx.ChX.refl _) (fun v1 hv1 => Fx.x_load1 (x := stp (D i) (N i) (V i) (T i)) rfl rfl (by kernel_rfl) (m23.chX hv1 (by decide)).cel (i := 1) (by omega) (by omega) rfl) ?_
     refine Fx.R.read (v := .int .i64 (V i)) (by rfl) (by rfl) (Fx.ChX.refl _) (fun v1 hv1 => Fx.x_load1 (x := stp (D i) (N i) (V i) (T i)) rfl rfl (by kernel_rfl) (m23.chX hv1 (by decide)).cel (i := 2) (by omega) (by omega) rfl) ?_
     refine Fx.R.read (v := .int .u64 (T i)) (by rfl) (by rfl) (Fx.ChX.refl _) (fun v1 hv1 => Fx.x_load1 (x := stp (D i) (N i) (V i) (T i)) rfl rfl (by kernel_rfl) (m23.chX hv1 (by decide)).cel (i := 3) (by omega) (by omega) rfl) ?_
     refine Fx.R.make (by rfl) ?_
     refine Fx.L.call (by rfl) (Fx.r_call (args := [.pointer (some ⟨p, 0, none⟩), .int .u64 (N i), .int .i64 (V i), .int .u64 (T i)]) rfl rfl Try.func9 rfl rfl) rfl ((d_put (N i) (V i) (T i) (by omega) (by omega) p mb _ _ _ _ _ m20 b7.size).mono ?_)
     rintro e9 w7 ⟨cc1, he, hc1, nn1, pb1, W1, hr1, hd2⟩
     refine ⟨_, he, ?_⟩
     clear he
     have hbl1 := m20.below b7.size hc1
     have hx1 := m20.chx hc1
     have m24 := m21.chX hx1 rfl
     have m25 := m22.chX hx1 rfl
     have m26 := m23.chX hx1 rfl
     have b8 := b7.trans hbl1
     refine Fx.L.nil ⟨(hx1.wide (by decide)), ?_⟩
     refine Fx.R.make (by rfl) ?_
     refine Fx.L.call (by rfl) (Fx.r_call (args := [.pointer (some ⟨q, 0, none⟩), .int .u64 (N i), .int .i64 (V i), .int .u64 (T i)]) rfl rfl Try.func11 rfl rfl) rfl ((r_put (N i) (V i) (T i) q _ _ _ _ w.heap.size _ m24 m25 hn32 b8.size).mono ?_)
     rintro e9 w8 ⟨cc2, ra1, nn2, rc1, X1, he, hp1, hq1, ho1, hc2⟩
     obtain ⟨ee1, ee2, hrel1⟩ := hrel.put hr1 hp1
     subst ee1 ee2
     refine ⟨_, he, ?_⟩
     clear he
     have hct2 : Fx.ChT [37, 62] w7 w8 := Fx.ChT.of_chg hc2 (fun k hk => hk.elim (fun e => ⟨37, e ▸ m24.ty, rfl⟩) (fun e => ⟨62, m25.ty e, rfl⟩))
     have hbl2 := Fx.Chg.below (Below.refl w.heap.size w7) hc2 (fun k hk => hk.elim (fun e => by omega) (fun e => (m25.ge e).1)) b8.size
     have m27 := m26.chT hct2 (by decide)
     have m28 := hd2.chT hct2 (by decide)
     have b9 := b8.trans hbl2
     refine Fx.L.nil ⟨(Fx.ChX.wide (Fx.ChX.of_chT hct2) (by decide)), ?_⟩
     refine Fx.R.p (.bool false) (fun v1 => Fx.x_neqF rfl rfl rfl rfl) ?_
     refine Fx.R.nil (Fx.seqN (Fx.W.cond (b := false) rfl (fun h => nomatch h) (fun _ => Fx.W.skip (Fx.blkN ?_))))
     exact Fx.jnN ⟨nn1, pb1, W1, ra1, rc1, X1, hrel1, h1, h2, h3, (h4.trans (by first | rfl | exact congrArg (Value.int .i64) (by omega))), m28, hq1, ho1, b9⟩
    ·refine Fx.L.v (.bool false) (Fx.x_eqlF rfl rfl rfl c37) ?_
     refine Fx.L.v (.bool false) (Fx.x_assign rfl rfl) ?_
     refine Fx.L.nil (Fx.seqN (Fx.W.cond (b := false) rfl (fun h => nomatch h) (fun _ => Fx.W.seq (Fx.W.list ?_))))
     by_cases c56 : ((D i) % 3) = 1
     ·refine Fx.L.v (.bool true) (Fx.x_eqlT rfl rfl rfl c56) ?_
      refine Fx.L.v (.bool true) (Fx.x_assign rfl rfl) ?_
      refine Fx.L.nil (Fx.seqN (Fx.W.cond (b := true) rfl (fun _ => Fx.W.seq ?_) (fun h => nomatch h)))
      -- region 16 draws
      refine Fx.W.reord [0, 1, 2, 3, 4, 5, 8, 9, 6, 10, 7, 11, 12, 13, 14] [0, 4, 0, 0, 0, 0, 4, 2, 0, 0, 1, 2, 2, 0, 0] (Fx.ChX [57, 37, 62]) Fx.ChX.refl Fx.ChX.trans (certs := [(7, 1, [3, 2, 1]), (11, 1, [3, 2, 1]), (12, 1, [3, 2, 1]), (7, 6, [6]), (11, 6, [7, 6]), (12, 6, [7, 6]), (11, 7, [7]), (12, 7, [7]), (13, 7, [12, 7]), (14, 7, [13, 12, 7]), (12, 11, [11]), (13, 11, [12, 11]), (14, 11, [13, 12, 11]), (13, 12, [12]), (14, 12, [13, 12])]) (by kernel_rfl) (by kernel_rfl) (by kernel_rfl) (by kernel_rfl) (by kernel_rfl) fun wt2 hbwt2 hzwt2 => ?_
      have s6 : Fx.Stp w6.heap.size w6 wt2 := Fx.Stp.of_below hbwt2
      have m29 := m16.up s6.old
      have m30 := m17.stp s6 (Nat.ne_of_lt (m17.lt))
      have m31 := m18.stp s6 (m18.notNew (Nat.le_refl _))
      have m32 := m15.stp s6 (Nat.ne_of_lt (m15.lt))
      have b10 := s6.below b6 b6.size b6.size
      refine Fx.R.p (.pointer (some ⟨g2, 3, none⟩)) (fun v1 => Fx.x_field rfl rfl Try.underlying39 rfl (s := 1) (by kernel_rfl) rfl (by show _ + 3 = _; omega)) ?_
      refine Fx.R.s (.int .u64 (T i)) (Fx.x_load1 (x := stp (D i) (N i) (V i) (T i)) rfl rfl (by kernel_rfl) m32.cel (i := 3) (by omega) (by omega) rfl) ?_
      by_cases c59 : (T i) ≤ 4611686018427387904
      ·refine Fx.R.p (.bool true) (fun v1 => Fx.x_leqT rfl rfl rfl c59) ?_
       refine Fx.R.p (.bool true) (fun v1 => Fx.x_move rfl rfl) ?_
       refine Fx.R.p (.pointer (some ⟨p, 0, none⟩)) (fun v1 => Fx.x_move rfl h2) ?_
       refine Fx.R.p (.pointer (some ⟨g2, 3, none⟩)) (fun v1 => Fx.x_field rfl rfl Try.underlying39 rfl (s := 1) (by kernel_rfl) rfl (by show _ + 3 = _; omega)) ?_
       refine Fx.R.p (.pointer (some ⟨q, 0, none⟩)) (fun v1 => Fx.x_move rfl h3) ?_
       refine Fx.R.p (.pointer (some ⟨g2, 3, none⟩)) (fun v1 => Fx.x_field rfl rfl Try.underlying39 rfl (s := 1) (by kernel_rfl) rfl (by show _ + 3 = _; omega)) ?_
       refine Fx.R.s (.int .u64 (T i)) (Fx.x_load1 (x := stp (D i) (N i) (V i) (T i)) rfl rfl (by kernel_rfl) m32.cel (i := 3) (by omega) (by omega) rfl) ?_
       refine Fx.R.read (v := .int .u64 (T i)) (by rfl) (by rfl) (Fx.ChX.refl _) (fun v1 hv1 => Fx.x_load1 (x := stp (D i) (N i) (V i) (T i)) rfl rfl (by kernel_rfl) (m32.chX hv1 (by decide)).cel (i := 3) (by omega) (by omega) rfl) ?_
       refine Fx.R.make (by rfl) ?_
       refine Fx.L.call (by rfl) (Fx.r_call (args := [.pointer (some ⟨p, 0, none⟩), .int .u64 (T i)]) rfl rfl Try.func10 rfl rfl) rfl ((d_due (T i) p mb _ _ _ _ _ m29 (by omega) (by omega)).mono ?_)
       rintro e9 w9 ⟨aD, mD, cD, τD, he, hoD, hthD, hd3, hc3⟩
       refine ⟨_, he, ?_⟩
       clear he
       have hwkD : ∀ q, q < mD → WtOk (W (τD q)) := fun q hq => m29.ok3 _ (hthD.lt q hq)
       have hbl3 := m29.below b10.size hc3
       have hx2 := m29.chx hc3
       have m33 := m30.chX hx2 rfl
       have m34 := m31.chX hx2 rfl
       have m35 := m32.chX hx2 rfl
       have b11 := b10.trans hbl3
       refine Fx.L.nil ⟨(hx2.wide (by decide)), ?_⟩
       refine Fx.R.make (by rfl) ?_
       refine Fx.L.call (by rfl) (Fx.r_call (args := [.pointer (some ⟨q, 0, none⟩), .int .u64 (T i)]) rfl rfl Try.func13 rfl rfl) rfl ((r_due (T i) q _ _ _ _ w.heap.size _ m33 m34 hn32 (by omega) (by omega) hokx hokx2).mono ?_)
       rintro e9 w10 ⟨aE, mE, cE, σE, he, hoE, hinE, hq2, ho2, hc4⟩
       obtain ⟨eDE, hDE⟩ := hrel.dues hthD hinE
       subst eDE
       refine ⟨_, he, ?_⟩
       clear he
       have hct3 : Fx.ChT [37, 62] w9 w10 := Fx.ChT.of_chg hc4 (fun k e => ⟨62, m34.ty e, rfl⟩)
       have hbl4 := Fx.Chg.below (Below.refl w.heap.size w9) hc4 (fun k e => (m34.ge e).1) b11.size
       have m36 := m35.chT hct3 (by decide)
       have m37 := hd3.chT hct3 (by decide)
       have m38 := hoD.chT hct3 (by decide)
       have b12 := b11.trans hbl4
       refine Fx.L.nil ⟨(Fx.ChX.wide (Fx.ChX.of_chT hct3) (by decide)), ?_⟩
       refine Fx.R.make (by rfl) ?_
       refine Fx.L.call (by rfl) (Fx.r_call (args := [.slice aD (mD) (cD), .slice aE (mD) (cE)]) rfl rfl Try.func12 rfl rfl) rfl ((r_same _ _ _ _ _ (fun q => W (τD q)) (fun q => X (σE q)) _ m38.arr hoE.arr hDE hwkD (by have := those_le hthD; omega)).mono ?_)
       rintro e w11 ⟨he, hb3⟩
       refine ⟨.bool true, by rw [he], ?_⟩
       clear he
       have s7 := Fx.Stp.of_below hb3
       have m39 := m36.stp s7 (Nat.ne_of_lt (m36.lt))
       have m40 := m37.up s7.old
       have m41 := m38.stp s7 (m38.notNew (Nat.le_refl _))
       have m42 := hq2.stp s7 (Nat.ne_of_lt (hq2.lt))
       have m43 := ho2.stp s7 (ho2.notNew (Nat.le_refl _))
       have m44 := hoE.stp s7 (hoE.notNew (Nat.le_refl _))
       have b13 := s7.below b12 b12.size b12.size
       refine Fx.L.nil ⟨Fx.ChX.of_below s7.old, ?_⟩
       refine Fx.R.p (.bool false) (fun v1 => Fx.x_notF rfl rfl) ?_
       refine Fx.R.p (.bool false) (fun v1 => Fx.x_pickT rfl rfl rfl) ?_
       refine Fx.R.nil (Fx.seqN (Fx.W.cond (b := false) rfl (fun h => nomatch h) (fun _ => Fx.W.skip (Fx.blkN ?_))))
       exact Fx.jnN ⟨n, pb, (fun zq => dueW (T i) (W zq)), ra, rc, (fun zq => dueW (T i) (X zq)), (hrel.due (T i)), h1, h2, h3, (h4.trans (by first | rfl | exact congrArg (Value.int .i64) (by omega))), m40, m42, m43, b13⟩
      ·refine Fx.R.p (.bool false) (fun v1 => Fx.x_leqF rfl rfl rfl c59) ?_
       refine Fx.R.p (.bool false) (fun v1 => Fx.x_move rfl rfl) ?_
       refine Fx.R.skip (by rfl) ?_
       refine Fx.R.skip (by rfl) ?_
       refine Fx.R.skip (by rfl) ?_
       refine Fx.R.skip (by rfl) ?_
       refine Fx.R.skip (by rfl) ?_
       refine Fx.R.skip (by rfl) ?_
       refine Fx.R.skip (by rfl) ?_
       refine Fx.R.skip (by rfl) ?_
       refine Fx.R.skip (by rfl) ?_
       refine Fx.R.skip (by rfl) ?_
       refine Fx.R.p (.bool false) (fun v1 => Fx.x_pickF rfl rfl rfl) ?_
       refine Fx.R.nil (Fx.seqN (Fx.W.cond (b := false) rfl (fun h => nomatch h) (fun _ => Fx.W.skip (Fx.blkN ?_))))
       exact Fx.jnN ⟨n, pb, W, ra, rc, X, hrel, h1, h2, h3, (h4.trans (by first | rfl | exact congrArg (Value.int .i64) (by omega))), m29, m30, m31, b10⟩
     ·refine Fx.L.v (.bool false) (Fx.x_eqlF rfl rfl rfl c56) ?_
      refine Fx.L.v (.bool false) (Fx.x_assign rfl rfl) ?_
      refine Fx.L.nil (Fx.seqN (Fx.W.cond (b := false) rfl (fun h => nomatch h) (fun _ => Fx.W.seq ?_)))
      -- region 10 draws
      refine Fx.W.reord [0, 1, 4, 5, 2, 6, 3, 7, 8] [0, 0, 4, 2, 0, 0, 1, 2, 0] (Fx.ChX [57, 37, 62]) Fx.ChX.refl Fx.ChX.trans (certs := [(3, 2, [2]), (7, 2, [3, 2]), (7, 3, [3]), (8, 3, [3]), (8, 7, [7])]) (by kernel_rfl) (by kernel_rfl) (by kernel_rfl) (by kernel_rfl) (by kernel_rfl) fun wt3 hbwt3 hzwt3 => ?_
      have s8 : Fx.Stp w6.heap.size w6 wt3 := Fx.Stp.of_below hbwt3
      have m45 := m16.up s8.old
      have m46 := m17.stp s8 (Nat.ne_of_lt (m17.lt))
      have m47 := m18.stp s8 (m18.notNew (Nat.le_refl _))
      have m48 := m15.stp s8 (Nat.ne_of_lt (m15.lt))
      have b14 := s8.below b6 b6.size b6.size
      refine Fx.R.p (.pointer (some ⟨p, 0, none⟩)) (fun v1 => Fx.x_move rfl h2) ?_
      refine Fx.R.p (.pointer (some ⟨g2, 1, none⟩)) (fun v1 => Fx.x_field rfl rfl Try.underlying39 rfl (s := 1) (by kernel_rfl) rfl (by show _ + 1 = _; omega)) ?_
      refine Fx.R.p (.pointer (some ⟨q, 0, none⟩)) (fun v1 => Fx.x_move rfl h3) ?_
      refine Fx.R.p (.pointer (some ⟨g2, 1, none⟩)) (fun v1 => Fx.x_field rfl rfl Try.underlying39 rfl (s := 1) (by kernel_rfl) rfl (by show _ + 1 = _; omega)) ?_
      refine Fx.R.s (.int .u64 (N i)) (Fx.x_load1 (x := stp (D i) (N i) (V i) (T i)) rfl rfl (by kernel_rfl) m48.cel (i := 1) (by omega) (by omega) rfl) ?_
      refine Fx.R.read (v := .int .u64 (N i)) (by rfl) (by rfl) (Fx.ChX.refl _) (fun v1 hv1 => Fx.x_load1 (x := stp (D i) (N i) (V i) (T i)) rfl rfl (by kernel_rfl) (m48.chX hv1 (by decide)).cel (i := 1) (by omega) (by omega) rfl) ?_
      refine Fx.R.make (by rfl) ?_
      refine Fx.L.call (by rfl) (Fx.r_call (args := [.pointer (some ⟨p, 0, none⟩), .int .u64 (N i)]) rfl rfl Try.func14 rfl rfl) rfl ((d_done (N i) p mb _ _ _ _ _ m45).mono ?_)
      rintro e9 w12 ⟨bb1, nn3, pb2, W2, he, hr2, hd4, hc5⟩
      refine ⟨_, he, ?_⟩
      clear he
      have hbl5 := m45.below b14.size hc5
      have hx3 := m45.chx hc5
      have m49 := m46.chX hx3 rfl
      have m50 := m47.chX hx3 rfl
      have m51 := m48.chX hx3 rfl
      have b15 := b14.trans hbl5
      refine Fx.L.nil ⟨(hx3.wide (by decide)), ?_⟩
      refine Fx.R.make (by rfl) ?_
      refine Fx.L.call (by rfl) (Fx.r_call (args := [.pointer (some ⟨q, 0, none⟩), .int .u64 (N i)]) rfl rfl Try.func15 rfl rfl) rfl ((r_done (N i) q _ _ _ _ w.heap.size _ m49 m50 hn32 b15.size).mono ?_)
      rintro e9 w13 ⟨bb2, ra2, nn4, rc2, X2, he, hp2, hq3, ho3, hc6⟩
      obtain ⟨ee3, ee4, hrel2⟩ := hrel.done hr2 hp2
      subst ee3 ee4
      refine ⟨_, he, ?_⟩
      clear he
      have hct4 : Fx.ChT [37, 62] w12 w13 := Fx.ChT.of_chg hc6 (fun k hk => hk.elim (fun e => ⟨37, e ▸ m49.ty, rfl⟩) (fun e => ⟨62, m50.ty e, rfl⟩))
      have hbl6 := Fx.Chg.below (Below.refl w.heap.size w12) hc6 (fun k hk => hk.elim (fun e => by omega) (fun e => (m50.ge e).1)) b15.size
      have m52 := m51.chT hct4 (by decide)
      have m53 := hd4.chT hct4 (by decide)
      have b16 := b15.trans hbl6
      refine Fx.L.nil ⟨(Fx.ChX.wide (Fx.ChX.of_chT hct4) (by decide)), ?_⟩
      refine Fx.R.p (.bool false) (fun v1 => Fx.x_neqB rfl rfl rfl (by kernel_rfl) (by simp)) ?_
      refine Fx.R.nil (Fx.seqN (Fx.W.cond (b := false) rfl (fun h => nomatch h) (fun _ => Fx.W.skip (Fx.blkN ?_))))
      exact Fx.jnN ⟨nn3, pb2, W2, ra2, rc2, X2, hrel2, h1, h2, h3, (h4.trans (by first | rfl | exact congrArg (Value.int .i64) (by omega))), m53, hq3, ho3, b16⟩
   ·rintro f2 w14 ⟨nJ, pbJ, WJ, raJ, rcJ, XJ, hrj, h5, h6, h7, h8, m54, m55, m56, b17⟩
    refine Fx.W.seq (Fx.W.list (Fx.L.v (.pointer (some ⟨p, 0, none⟩)) (Fx.x_move rfl h6) ?_))
    refine Fx.L.call (by rfl) (Fx.r_call (args := [.pointer (some ⟨p, 0, none⟩)]) rfl rfl Try.func16 rfl rfl) rfl ((d_list p mb _ _ _ _ _ m54).mono ?_)
    rintro e9 w15 ⟨aL, mL, cL, τL, he, hoL, hthL, hbL⟩
    obtain ⟨eL, hLE⟩ := hrj.list hthL
    subst eL
    refine ⟨_, he, ?_⟩
    clear he
    have s9 := Fx.Stp.of_below hbL
    have hwkL : ∀ q, q < mL → WtOk (WJ (τL q)) := fun q hq => m54.ok3 _ (hthL.lt q hq)
    have m57 := m54.up s9.old
    have m58 := m55.stp s9 (Nat.ne_of_lt (m55.lt))
    have m59 := m56.stp s9 (m56.notNew (Nat.le_refl _))
    have b18 := s9.below b17 b17.size b17.size
    have hn32 := m57.small
    refine Fx.L.v (.pointer (some ⟨q, 0, none⟩)) (Fx.x_move rfl h7) ?_
    refine Fx.L.call (by rfl) (Fx.r_call (args := [.pointer (some ⟨q, 0, none⟩)]) rfl rfl Try.func17 rfl rfl) rfl ((r_list q _ _ _ _ w.heap.size _ m58 m59 hn32).mono ?_)
    rintro e9 w16 ⟨aM, cM, he, hoM, hbM⟩
    refine ⟨_, he, ?_⟩
    clear he
    have s10 := Fx.Stp.of_below hbM
    have m60 := m57.up s10.old
    have m61 := hoL.stp s10 (hoL.notNew (Nat.le_refl _))
    have m62 := m58.stp s10 (Nat.ne_of_lt (m58.lt))
    have m63 := m59.stp s10 (m59.notNew (Nat.le_refl _))
    have b19 := s10.below b18 b18.size b18.size
    refine Fx.L.call (by rfl) (Fx.r_call (args := [.slice aL (mL) (cL), .slice aM (mL) (cM)]) rfl rfl Try.func12 rfl rfl) rfl ((r_same _ _ _ _ _ (fun q => WJ (τL q)) (fun q => XJ q) _ m61.arr hoM.arr hLE hwkL (by omega)).mono ?_)
    rintro e w17 ⟨he, hb4⟩
    refine ⟨.bool true, by rw [he], ?_⟩
    clear he
    have s11 := Fx.Stp.of_below hb4
    have m64 := m60.up s11.old
    have m65 := m61.stp s11 (m61.notNew (Nat.le_refl _))
    have m66 := m62.stp s11 (Nat.ne_of_lt (m62.lt))
    have m67 := m63.stp s11 (m63.notNew (Nat.le_refl _))
    have m68 := hoM.stp s11 (hoM.notNew (Nat.le_refl _))
    have b20 := s11.below b19 b19.size b19.size
    refine Fx.L.v (.bool false) (Fx.x_notF rfl rfl) ?_
    refine Fx.L.nil (Fx.seqN (Fx.W.cond (b := false) rfl (fun h => nomatch h) (fun _ => Fx.W.skip (Fx.blkN (Fx.seqN (Fx.W.list (Fx.L.v (.int .i64 ((i : Int))) (Fx.x_move rfl h8) ?_)))))))
    refine Fx.L.v (.int .i64 ((i : Int) + 1)) (Fx.x_add rfl rfl rfl (Fx.i64e (by omega) (by omega))) ?_
    refine Fx.L.v (.int .i64 ((i : Int) + 1)) (Fx.x_assign rfl rfl) ?_
    refine Fx.L.nil (Fx.lpN ⟨i + 1, mL, pbJ, WJ, raJ, rcJ, XJ, by omega, hrj, h5, h6, h7, (by first | rfl | exact congrArg (Value.int .i64) (by omega)), m64, m66, m67, b20⟩ ?_)
    show (l - (intOf ((.int .i64 ((i : Int) + 1)))).toNat) < _
    simp only [h4, intOf]; omega
  ·refine Fx.L.v (.bool false) (Fx.x_lssF rfl rfl rfl c17) ?_
   refine Fx.L.nil (Fx.seqN (Fx.W.cond (b := false) rfl (fun h => nomatch h) (fun _ => Fx.W.exit (Fx.seqX (Fx.lpX (Fx.blkX (Fx.seqN (Fx.W.seq (Fx.W.list (Fx.L.call (by rfl) (Fx.r_call (args := []) rfl rfl Try.func7 rfl rfl) rfl ((works18_any _).mono ?_)))))))))))
   rintro e w18 ⟨he, hb5⟩
   refine ⟨.bool true, by rw [he], ?_⟩
   clear he
   have s12 := Fx.Stp.of_below hb5
   have m69 := m5.up s12.old
   have m70 := m6.stp s12 (Nat.ne_of_lt (m6.lt))
   have m71 := m7.stp s12 (m7.notNew (Nat.le_refl _))
   have b21 := s12.below b4 b4.size b4.size
   refine Fx.L.v (.bool true) (Fx.x_assign rfl rfl) ?_
   refine Fx.L.nil (Fx.seqN (Fx.W.ret (⟨.bool true, Fx.retV1 Try.results4 (by exact rfl), ?_⟩)))
   exact ⟨rfl, b21⟩
end Go.Proofs.Ytjnkejgjgknllaa
namespace Go.Proofs.Ytjnkejgjgknllaa
open Go.RowKit Go.WideShapes Go.ChangeShapes Go.Deep
def flatKb (P : Program) : Nat → TypeId → Option (List (Option IntKind))
  | 0, _ => none
  | d + 1, t => match P.underlying t with
    | some (.int k) => some [some k]
    | some .bool => some [none]
    | some (.array n e) => (flatKb P d e).bind fun ks => if P.cellsOf e = ks.length ∧ P.cellsOf t = n * ks.length then some (List.replicate n ks).flatten else none
    | some (.struct fs) => (fs.toList.foldlM (fun l f => (flatKb P d f.type).bind fun ks => if f.offset = l.length ∧ P.cellsOf f.type = ks.length then some (l ++ ks) else none) []).bind fun l => if P.cellsOf t = l.length then some l else none
    | _ => none
def OkV (k : Option IntKind) (v : Value) : Prop := match k with | some k => ∃ n, v = .int k n ∧ (Lit.int k n).wf = true | none => ∃ b, v = .bool b
def FlatV (ks : List (Option IntKind)) (cs : List Value) : Prop := cs.length = ks.length ∧ ∀ (j : Nat) (k : Option IntKind), ks[j]? = some k → ∃ v, cs[j]? = some v ∧ OkV k v
theorem flatb_rep {ks : List (Option IntKind)} {k : Option IntKind} : ∀ (n j : Nat), (List.replicate n ks).flatten[j]? = some k → ks[j % ks.length]? = some k ∧ j / ks.length < n
  | 0, j, h => by simp at h
  | n + 1, j, h => by
    rw [List.replicate_succ, List.flatten_cons] at h
    by_cases hj : j < ks.length
    · rw [List.getElem?_append_left hj] at h
      rw [Nat.mod_eq_of_lt hj, Nat.div_eq_of_lt hj]; exact ⟨h, by omega⟩
    · rw [List.getElem?_append_right (by omega)] at h
      have hs : 0 < ks.length := by
        rcases Nat.eq_zero_or_pos ks.length with e | e
        · obtain ⟨h1, _⟩ := flatb_rep n _ h
          have := (List.getElem?_eq_some_iff.1 h1).1; omega
        · exact e
      obtain ⟨h1, h2⟩ := flatb_rep n _ h
      rw [Nat.mod_eq_sub_mod (by omega), Nat.div_eq_sub_div hs (by omega)]
      exact ⟨h1, by omega⟩
section
variable {H : Type} {enc : TypeId × Value → H} {P : Program} {w : World} {base : Nat} {spare : Nat → Bool} {held : Bool}
theorem flatb_part {ks : List (Option IntKind)} {cs : List Value} {o s j : Nat} {k : Option IntKind} (h : FlatV ks ((cs.drop o).take s)) (hs : s = ks.length) (hk : ks[j]? = some k) : ∃ v, cs[o + j]? = some v ∧ OkV k v := by
  obtain ⟨n, h1, h2⟩ := h.2 j k hk
  have hj := (List.getElem?_eq_some_iff.1 hk).1
  rw [List.getElem?_take_of_lt (by omega), List.getElem?_drop] at h1
  exact ⟨n, h1, h2⟩
theorem flatKb_ok : ∀ (d : Nat) (t : TypeId) (ks : List (Option IntKind)), flatKb P d t = some ks → ∀ (fuel : Nat) (cs : List Value) (x : DataW H × List MemPlace), DataW.trod enc P w base spare held fuel t cs = some x → FlatV ks cs
  | 0, _, _, h => by simp [flatKb] at h
  | d + 1, t, ks, h => by
    intro fuel cs x hx
    unfold flatKb at h
    split at h
    · rename_i k hu
      simp only [Option.some.injEq] at h; subst h
      obtain ⟨n, rfl, _, hw⟩ := DataW.trod_int hu hx
      refine ⟨rfl, fun j k' hk => ?_⟩
      match j, hk with
      | 0, hk => simp at hk; subst hk; exact ⟨_, rfl, n, rfl, hw⟩
      | j + 1, hk => simp at hk
    · rename_i hu
      simp only [Option.some.injEq] at h; subst h
      obtain ⟨b, rfl, _⟩ := DataW.trod_bool hu hx
      refine ⟨rfl, fun j k' hk => ?_⟩
      match j, hk with
      | 0, hk => simp at hk; subst hk; exact ⟨_, rfl, b, rfl⟩
      | j + 1, hk => simp at hk
    · rename_i n e hu
      obtain ⟨ks', hks, h⟩ := Option.bind_eq_some_iff.1 h
      split at h
      · rename_i hc
        simp only [Option.some.injEq] at h; subst h
        obtain ⟨xs, m, _, _, hl, hlen, hel⟩ := DataW.trod_array hu hx
        refine ⟨by rw [hl, hc.2]; simp, fun j k hk => ?_⟩
        obtain ⟨h1, h2⟩ := flatb_rep n j hk
        have hi := hel (j / ks'.length) h2
        rw [List.getElem?_eq_getElem (by omega), hc.1] at hi
        have := flatb_part (flatKb_ok d e ks' hks _ _ _ hi) rfl h1
        rw [Nat.mul_comm, Nat.div_add_mod] at this
        exact this
      · cases h
    · rename_i fs hu
      obtain ⟨l, hl, h⟩ := Option.bind_eq_some_iff.1 h
      split at h
      · rename_i hc
        simp only [Option.some.injEq] at h; subst h
        obtain ⟨xs, m, _, _, hlc, hlen, hf⟩ := DataW.trod_struct hu hx
        refine ⟨by rw [hlc, hc], ?_⟩
        have hf' : ∀ f, f ∈ fs.toList → ∃ y, DataW.trod enc P w base spare held m f.type ((cs.drop f.offset).take (P.cellsOf f.type)) = some y := by
          intro f hfm
          obtain ⟨i, hi, e⟩ := List.mem_iff_getElem.1 hfm
          have hi' : i < fs.size := by simpa using hi
          have h1 : fs[i]? = some f := by rw [Array.getElem?_eq_getElem hi']; simpa using e
          have := hf i f h1
          rw [List.getElem?_eq_getElem (by rw [hlen]; exact hi')] at this
          exact ⟨_, this⟩
        have key : ∀ (L : List Field) (acc : List (Option IntKind)), (∀ f, f ∈ L → ∃ y, DataW.trod enc P w base spare held m f.type ((cs.drop f.offset).take (P.cellsOf f.type)) = some y) → (∀ (j : Nat) (k : Option IntKind), acc[j]? = some k → ∃ v, cs[j]? = some v ∧ OkV k v) → ∀ l, L.foldlM (fun l f => (flatKb P d f.type).bind fun ks => if f.offset = l.length ∧ P.cellsOf f.type = ks.length then some (l ++ ks) else none) acc = some l → ∀ (j : Nat) (k : Option IntKind), l[j]? = some k → ∃ v, cs[j]? = some v ∧ OkV k v := by
          intro L
          induction L with
          | nil => intro acc _ ha l hl; simp at hl; subst hl; exact ha
          | cons f L ih =>
            intro acc hL ha l hl
            rw [List.foldlM_cons] at hl
            obtain ⟨l1, h1, h2⟩ := Option.bind_eq_some_iff.1 hl
            obtain ⟨kf, hkf, h3⟩ := Option.bind_eq_some_iff.1 h1
            split at h3
            · rename_i hcc
              simp only [Option.some.injEq] at h3; subst h3
              refine ih (acc ++ kf) (fun g hg => hL g (List.mem_cons_of_mem _ hg)) (fun j k hk => ?_) l h2
              by_cases hj : j < acc.length
              · rw [List.getElem?_append_left hj] at hk; exact ha j k hk
              · rw [List.getElem?_append_right (by omega)] at hk
                obtain ⟨y, hy⟩ := hL f (List.mem_cons_self ..)
                have := flatb_part (flatKb_ok d f.type kf hkf _ _ _ hy) hcc.2 hk
                rw [hcc.1, show acc.length + (j - acc.length) = j by omega] at this
                exact this
            · cases h3
        exact key fs.toList [] hf' (fun j k hk => by simp at hk) l hl
      · cases h
    · cases h
end
section
variable {H : Type} {enc : TypeId × Value → H} {P : Program} {w : World} {base : Nat} {spare : Nat → Bool} {held : Bool}
theorem open_rows {t e : TypeId} {ks : List (Option IntKind)} {fuel D : Nat} {cs : List Value} {x : DataW H × List MemPlace} (ht : P.underlying t = some (.slice e)) (hk : flatKb P D e = some ks) (ce : P.cellsOf e = ks.length) (hs : 0 < ks.length)
    (h : DataW.trod enc P w base spare held fuel t cs = some x) : ∃ a len cap, cs = [.slice a len cap] ∧ len ≤ maxLen ∧ len ≤ cap ∧ ∃ X : Nat → Nat → Value, (∀ i, i < len → ∀ (j : Nat) (k : Option IntKind), ks[j]? = some k → OkV k (X i j)) ∧ Fx.Arr w a len ks.length (Fx.flat ks.length X) := by
  rcases open_slice ht h with ⟨rfl, _⟩ | ⟨a', len, cap, m, n, D', Pl, rfl, _, hl, hm, hmm, _, hx⟩
  · exact ⟨none, 0, 0, rfl, by unfold maxLen; omega, Nat.le_refl _, fun _ _ => undef, fun i hi => absurd hi (by omega), fun h => absurd h (by omega)⟩
  · have hlm : len ≤ m := by rw [hmm]; split <;> omega
    have each : ∀ i j : Nat, ∃ q : Value, i < len → ∀ k, ks[j]? = some k → w.cell? (a'.add (i * ks.length + j)) = some q ∧ OkV k q := by
      intro i j
      by_cases hi : i < len ∧ j < ks.length
      · obtain ⟨cs', g1, g2⟩ := hx i (by omega)
        rw [ce] at g1
        obtain ⟨_, hlen, hcell⟩ := World.cells?_some g1
        obtain ⟨q, h1, h2⟩ := (flatKb_ok _ _ _ hk _ _ _ g2).2 j _ (List.getElem?_eq_getElem hi.2)
        refine ⟨q, fun _ k hkj => ?_⟩
        rw [List.getElem?_eq_getElem hi.2, Option.some.injEq] at hkj
        subst hkj
        have q0 := hcell j (by omega)
        rw [add_add] at q0
        exact ⟨by rw [← h1]; simpa using q0, h2⟩
      · refine ⟨undef, fun h1 k h2 => absurd ⟨h1, (List.getElem?_eq_some_iff.1 h2).1⟩ hi⟩
    refine ⟨some a', len, cap, rfl, by omega, hl, fun i j => Classical.choose (each i j), fun i hi j k hkj => (Classical.choose_spec (each i j) hi k hkj).2, fun h0 => ?_⟩
    have e0 : a'.add (0 * ks.length + 0) = a' := by unfold Addr.add; simp
    obtain ⟨q00, h00⟩ := each 0 0
    have hk0 := List.getElem?_eq_getElem hs
    have h00' := (h00 h0 _ hk0)
    have h01 := h00'.1
    rw [e0] at h01
    have e1 : ∃ b off, a' = ⟨b, off, none⟩ := by
      have h02 := h00'.2
      unfold OkV at h02
      split at h02
      · obtain ⟨nn, rfl, _⟩ := h02; exact spotless1 h01
      · obtain ⟨bb, rfl⟩ := h02
        unfold World.cell? at h01
        cases a' with
        | mk b off sp =>
          cases sp with
          | none => exact ⟨b, off, rfl⟩
          | some s => simp at h01; split at h01 <;> simp_all
    obtain ⟨b, off, e1⟩ := e1
    refine ⟨b, off, by rw [e1], fun p hp => ?_⟩
    have hj : p % ks.length < ks.length := Nat.mod_lt _ hs
    have hi : p / ks.length < len := Nat.div_lt_of_lt_mul (by rw [Nat.mul_comm]; exact hp)
    have := (Classical.choose_spec (each (p / ks.length) (p % ks.length)) hi _ (List.getElem?_eq_getElem hj)).1
    have ea : a'.add (p / ks.length * ks.length + p % ks.length) = ⟨b, off + p, none⟩ := by rw [e1, addr_add, Nat.mul_comm, Nat.div_add_mod]
    exact (congrArg w.cell? ea).symm.trans this
end
def numOf : Value → Int | .int _ n => n | _ => 0
theorem OkV.num {k : IntKind} {v : Value} (h : OkV (some k) v) : v = .int k (numOf v) ∧ (Lit.int k (numOf v)).wf = true := by
  obtain ⟨n, rfl, hw⟩ := h; exact ⟨rfl, hw⟩
theorem bd_u8 {n : Int} (h : (Lit.int .u8 n).wf = true) : 0 ≤ n ∧ n ≤ 255 := by simp [Lit.wf, IntKind.min, IntKind.max, IntKind.bits, IntKind.signed] at h; omega
theorem bd_u64 {n : Int} (h : (Lit.int .u64 n).wf = true) : 0 ≤ n ∧ n < 18446744073709551616 := by simp [Lit.wf, IntKind.min, IntKind.max, IntKind.bits, IntKind.signed] at h; omega
section
variable {H : Type} {enc : TypeId × Value → H} {P : Program} {w : World}
theorem open_kinds {t e : TypeId} {ks : List (Option IntKind)} {a : Option Addr} {len cap D : Nat} {d : DataW H} {ps : List MemPlace} (ht : P.underlying t = some (.slice e)) (hk : flatKb P D e = some ks) (ce : P.cellsOf e = ks.length) (hs : 0 < ks.length)
    (h : DataW.Trod enc P w 0 (fun _ => true) true t (.slice a len cap) d ps) : len ≤ maxLen ∧ ∃ X : Nat → Nat → Value, (∀ i, i < len → ∀ (j : Nat) (k : Option IntKind), ks[j]? = some k → OkV k (X i j)) ∧ Fx.Arr w a len ks.length (Fx.flat ks.length X) := by
  obtain ⟨fuel, hf⟩ := h
  obtain ⟨a', l', c', hcs, hm, _, X, hX, hA⟩ := open_rows ht hk ce hs hf
  simp [Value.cells] at hcs
  obtain ⟨rfl, rfl, rfl⟩ := hcs
  exact ⟨hm, X, hX, hA⟩
theorem Arr.cong {w : World} {a : Option Addr} {n s : Nat} {x y : Nat → Value} (h : Fx.Arr w a n s x) (e : ∀ p, p < n * s → x p = y p) : Fx.Arr w a n s y := fun h0 => by
  obtain ⟨b, off, ea, hc⟩ := h h0
  exact ⟨b, off, ea, fun i hi => by rw [← e i hi]; exact hc i hi⟩
end
end Go.Proofs.Ytjnkejgjgknllaa
namespace Go.Proofs.Ytjnkejgjgknllaa
open Go.RowKit Rt
theorem dplays_all (a : Option Addr) (l c : Nat) (X : Nat → Nat → Value) (w : World) (hX : ∀ i, i < l → ∀ (j : Nat) (k : Option IntKind), [some IntKind.u8, some IntKind.u64, some IntKind.i64, some IntKind.u64][j]? = some k → OkV k (X i j)) (A : Fx.Arr w a l 4 (Fx.flat 4 X)) :
    Calls Try.prog 4 #[.slice a l c] w fun e w' => e = .returned (.bool true) ∧ Below w.heap.size w w' := by
  have h0 := fun i hi => (hX i hi 0 (some .u8) rfl).num
  have h1 := fun i hi => (hX i hi 1 (some .u64) rfl).num
  have h2 := fun i hi => (hX i hi 2 (some .i64) rfl).num
  have h3 := fun i hi => (hX i hi 3 (some .u64) rfl).num
  refine dplays_any a l c (fun i => numOf (X i 0)) (fun i => numOf (X i 1)) (fun i => numOf (X i 2)) (fun i => numOf (X i 3)) w (Arr.cong A (Fx.flat_cong fun k hk j hj => ?_)) (fun i hi => bd_u8 (h0 i hi).2) (fun i hi => bd_u64 (h1 i hi).2) (fun i hi => bd_u64 (h3 i hi).2)
  match j, hj with
  | 0, _ => exact (h0 k hk).1
  | 1, _ => exact (h1 k hk).1
  | 2, _ => exact (h2 k hk).1
  | 3, _ => exact (h3 k hk).1
  | n + 4, h => omega
end Go.Proofs.Ytjnkejgjgknllaa
