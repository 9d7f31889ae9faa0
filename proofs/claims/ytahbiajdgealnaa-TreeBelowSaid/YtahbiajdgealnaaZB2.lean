/-
  What the proof of the law rests on, part 2: walks of functions, and plain laws; each says its conditions itself.
-/
import Derived.Sort.LotA
import Derived.Sort.LotB
import Derived.Sort.LotC
import Derived.Sort.LotD3
import Derived.Test.YtahbiajdgealnaaRows
import Derived.Sort.LotD1
import Derived.Test.YtahbiajdgealnaaZB1
namespace Go.Proofs.Ytahbiajdgealnaa
open Go.RowKit
set_option linter.unusedVariables false
namespace Rt
open Go.Sort (ltInt swp)
def gA (d : Array Int) : Nat → Int := fun i => d[i]!
section
variable {d d' : Array Int} {n a b i j k p : Nat}
theorem gA_swp (hn : d.size = n) (hi : i < n) (hj : j < n) (k : Nat) : gA (swp d i j) k = if k = i then gA d j else if k = j then gA d i else gA d k := by
  unfold gA
  by_cases h1 : k = i
  · subst h1
    rw [if_pos rfl]
    by_cases h2 : k = j
    · subst h2; exact Sort.swp_right d k k (by omega)
    exact Sort.swp_left d k j (by omega) h2
  rw [if_neg h1]
  by_cases h2 : k = j
  · subst h2; rw [if_pos rfl]; exact Sort.swp_right d i k (by omega)
  rw [if_neg h2]; exact Sort.swp_other d i j k h1 h2
theorem sz_swp (hn : d.size = n) (i j : Nat) : (swp d i j).size = n := by rw [Sort.size_swp]; exact hn
theorem swp_rv (hn : d.size = n) (hi : i < n) (hj : j < n) : ∀ p, p < n * 1 → Fx.updV (Fx.updV (Fx.rv .u64 (gA d)) i (.int .u64 (gA d j))) j (.int .u64 (gA d i)) p = Fx.rv .u64 (gA (swp d i j)) p := fun p hp => by
  show _ = Value.int .u64 (gA (swp d i j) p)
  rw [gA_swp hn hi hj]
  unfold Fx.updV
  by_cases h2 : p = j
  · subst h2
    rw [if_pos rfl]
    by_cases h1 : p = i
    · subst h1; rw [if_pos rfl]
    · rw [if_neg h1, if_pos rfl]
  · rw [if_neg h2]
    by_cases h1 : p = i
    · rw [if_pos h1, if_pos h1]
    · rw [if_neg h1, if_neg h1, if_neg h2]; rfl
theorem lt_yes (h : gA d i < gA d j) : ltInt d[i]! d[j]! = true := decide_eq_true h
theorem lt_no (h : ¬ gA d i < gA d j) : ltInt d[i]! d[j]! = false := decide_eq_false h
theorem ins_go (hj : a < j) (hl : gA d j < gA d (j - 1)) : Sort.insInner ltInt a (j - 1) (swp d j (j - 1)) = Sort.insInner ltInt a j d := by
  obtain ⟨k, rfl⟩ : ∃ k, j = k + 1 := ⟨j - 1, by omega⟩
  have hl := lt_yes hl
  rw [Nat.add_sub_cancel] at hl ⊢
  conv => rhs; rw [Sort.insInner]
  rw [hl, decide_eq_true (show k + 1 > a by omega)]; rfl
theorem ins_stop (h : j ≤ a ∨ ¬ gA d j < gA d (j - 1)) : Sort.insInner ltInt a j d = d := by
  cases j with
  | zero => rw [Sort.insInner]
  | succ k =>
    rw [Sort.insInner]
    rcases h with h | h
    · rw [decide_eq_false (show ¬ k + 1 > a by omega)]; rfl
    · have h := lt_no h
      rw [Nat.add_sub_cancel] at h
      rw [h, Bool.and_false]; rfl
theorem out_go (h : i < b) (hi : Sort.insInner ltInt a i d = d') : Sort.insOuter ltInt a b (i + 1) d' = Sort.insOuter ltInt a b i d := by
  conv => rhs; rw [Sort.insOuter, if_pos h]
  rw [hi]
theorem out_stop (h : ¬ i < b) : Sort.insOuter ltInt a b i d = d := by rw [Sort.insOuter, if_neg h]
variable {f r hi x0 x1 x2 : Nat}
theorem sift_end (h : hi ≤ 2 * r + 1) : Sort.siftDown ltInt hi f r d = d := by rw [Sort.siftDown, dif_pos (by omega)]
theorem siftA (e1 : x1 = f + (2 * r + 1)) (e2 : x2 = f + (2 * r + 2)) (e0 : x0 = f + r) (h : 2 * r + 1 < hi) (hA : hi ≤ 2 * r + 2 ∨ ¬ gA d x1 < gA d x2) :
    Sort.siftDown ltInt hi f r d = if gA d x0 < gA d x1 then Sort.siftDown ltInt hi f (2 * r + 1) (swp d x0 x1) else d := by
  rw [Sort.siftDown, dif_neg (by omega)]
  have hc : (decide (2 * r + 1 + 1 < hi) && ltInt d[f + (2 * r + 1)]! d[f + (2 * r + 1) + 1]!) = false := by
    rcases hA with hA | hA
    · rw [decide_eq_false (by omega), Bool.false_and]
    · rw [← e1, show x1 + 1 = x2 by omega, lt_no hA, Bool.and_false]
  rw [hc, ← e1, ← e0]
  by_cases h1 : gA d x0 < gA d x1
  · rw [lt_yes h1, if_pos h1]; rfl
  rw [lt_no h1, if_neg h1]; rfl
theorem siftB (e1 : x1 = f + (2 * r + 1)) (e2 : x2 = f + (2 * r + 2)) (e0 : x0 = f + r) (h : 2 * r + 2 < hi) (hB : gA d x1 < gA d x2) :
    Sort.siftDown ltInt hi f r d = if gA d x0 < gA d x2 then Sort.siftDown ltInt hi f (2 * r + 2) (swp d x0 x2) else d := by
  rw [Sort.siftDown, dif_neg (by omega)]
  have hc : (decide (2 * r + 1 + 1 < hi) && ltInt d[f + (2 * r + 1)]! d[f + (2 * r + 1) + 1]!) = true := by
    rw [decide_eq_true (by omega), ← e1, show x1 + 1 = x2 by omega, lt_yes hB]; rfl
  rw [hc, ← e2, ← e0]
  by_cases h1 : gA d x0 < gA d x2
  · rw [lt_yes h1, if_pos h1]; simp only [if_true, Bool.not_true, dif_pos h]; rfl
  rw [lt_no h1, if_neg h1]; rfl
theorem build_go (hk : 0 < k) : Sort.heapBuild ltInt hi f (k - 1) (Sort.siftDown ltInt hi f (k - 1) d) = Sort.heapBuild ltInt hi f k d := by
  obtain ⟨j, rfl⟩ : ∃ j, k = j + 1 := ⟨k - 1, by omega⟩
  rfl
theorem pop_go {x : Nat} (hk : 0 < k) (e : x = f + (k - 1)) : Sort.heapPop ltInt f (k - 1) (Sort.siftDown ltInt (k - 1) f 0 (swp d f x)) = Sort.heapPop ltInt f k d := by
  subst e
  obtain ⟨j, rfl⟩ : ∃ j, k = j + 1 := ⟨k - 1, by omega⟩
  rfl
theorem sz_sift (h : f + hi ≤ n) : ∀ (m r : Nat) (d : Array Int), hi - r ≤ m → d.size = n → (Sort.siftDown ltInt hi f r d).size = n
  | 0, r, d, hm, hd => by rw [sift_end (by omega)]; exact hd
  | m + 1, r, d, hm, hd => by
    by_cases h0 : 2 * r + 1 < hi
    · by_cases hB : 2 * r + 2 < hi ∧ gA d (f + (2 * r + 1)) < gA d (f + (2 * r + 2))
      · rw [siftB rfl rfl rfl hB.1 hB.2]
        split
        · exact sz_sift h m _ _ (by omega) (sz_swp hd _ _)
        · exact hd
      · rw [siftA rfl rfl rfl h0 (by by_cases h2 : 2 * r + 2 < hi; exact .inr fun h3 => hB ⟨h2, h3⟩; exact .inl (by omega))]
        split
        · exact sz_sift h m _ _ (by omega) (sz_swp hd _ _)
        · exact hd
    · rw [sift_end (by omega)]; exact hd
theorem rev_go (h : i < j) : Sort.reverseLoop (i + 1) (j - 1) (swp d i j) = Sort.reverseLoop i j d := by conv => rhs; rw [Sort.reverseLoop, if_pos h]
theorem rev_stop (h : ¬ i < j) : Sort.reverseLoop i j d = d := by rw [Sort.reverseLoop, if_neg h]
theorem su_go {p : Int → Bool} (h : i ≤ j) (hp : p d[i]! = true) : Sort.scanUp p d j (i + 1) = Sort.scanUp p d j i := by
  conv => rhs; rw [Sort.scanUp, hp, decide_eq_true h]
  rfl
theorem su_stop {p : Int → Bool} (h : j < i ∨ p d[i]! = false) : Sort.scanUp p d j i = i := by
  rw [Sort.scanUp]
  rcases h with h | h
  · rw [decide_eq_false (by omega)]; rfl
  rw [h, Bool.and_false]; rfl
theorem sd_go {p : Int → Bool} (h : i ≤ j) (h0 : 0 < j) (hp : p d[j]! = true) : Sort.scanDown p d i (j - 1) = Sort.scanDown p d i j := by
  obtain ⟨k, rfl⟩ : ∃ k, j = k + 1 := ⟨j - 1, by omega⟩
  conv => rhs; rw [Sort.scanDown, hp, decide_eq_true h]
  rfl
theorem sd_stop {p : Int → Bool} (h : j < i ∨ p d[j]! = false) : Sort.scanDown p d i j = j := by
  cases j with
  | zero => rfl
  | succ k =>
    rw [Sort.scanDown]
    rcases h with h | h
    · rw [decide_eq_false (by omega)]; rfl
    · rw [h, Bool.and_false]; rfl
theorem pt_up (h : i ≤ j) (hl : gA d i < gA d a) : Sort.partLoop ltInt a (i + 1) j d = Sort.partLoop ltInt a i j d := by
  rw [Sort.partLoop_eq, Sort.partLoop_eq (i := i), su_go (p := fun x => ltInt x d[a]!) h (lt_yes hl)]
theorem pt_dn (h : i ≤ j) (h0 : 0 < j) (hs : ¬ gA d i < gA d a) (hl : ¬ gA d j < gA d a) : Sort.partLoop ltInt a i (j - 1) d = Sort.partLoop ltInt a i j d := by
  rw [Sort.partLoop_eq, Sort.partLoop_eq (j := j), su_stop (p := fun x => ltInt x d[a]!) (.inr (lt_no hs)), su_stop (p := fun x => ltInt x d[a]!) (.inr (lt_no hs)), sd_go (p := fun x => !ltInt x d[a]!) h h0 (by rw [lt_no hl]; rfl)]
theorem pt_sw (h : i ≤ j) (hs : ¬ gA d i < gA d a) (hl : gA d j < gA d a) : Sort.partLoop ltInt a (i + 1) (j - 1) (swp d i j) = Sort.partLoop ltInt a i j d := by
  rw [Sort.partLoop_eq (i := i), su_stop (p := fun x => ltInt x d[a]!) (.inr (lt_no hs)), sd_stop (p := fun x => !ltInt x d[a]!) (.inr (by rw [lt_yes hl]; rfl)), if_neg (by omega)]
theorem pt_end (h : j < i) : Sort.partLoop ltInt a i j d = (j, d) := by
  rw [Sort.partLoop_eq, su_stop (p := fun x => ltInt x d[a]!) (.inl h), sd_stop (p := fun x => !ltInt x d[a]!) (.inl h), if_pos h]
theorem eq_up (h : i ≤ j) (hl : ¬ gA d a < gA d i) : Sort.partEqLoop ltInt a (i + 1) j d = Sort.partEqLoop ltInt a i j d := by
  rw [Sort.partEqLoop_eq, Sort.partEqLoop_eq (i := i), su_go (p := fun x => !ltInt d[a]! x) h (by rw [lt_no hl]; rfl)]
theorem eq_dn (h : i ≤ j) (h0 : 0 < j) (hs : gA d a < gA d i) (hl : gA d a < gA d j) : Sort.partEqLoop ltInt a i (j - 1) d = Sort.partEqLoop ltInt a i j d := by
  rw [Sort.partEqLoop_eq, Sort.partEqLoop_eq (j := j), su_stop (p := fun x => !ltInt d[a]! x) (.inr (by rw [lt_yes hs]; rfl)), su_stop (p := fun x => !ltInt d[a]! x) (.inr (by rw [lt_yes hs]; rfl)), sd_go (p := fun x => ltInt d[a]! x) h h0 (lt_yes hl)]
theorem eq_sw (h : i ≤ j) (hs : gA d a < gA d i) (hl : ¬ gA d a < gA d j) : Sort.partEqLoop ltInt a (i + 1) (j - 1) (swp d i j) = Sort.partEqLoop ltInt a i j d := by
  rw [Sort.partEqLoop_eq (i := i), su_stop (p := fun x => !ltInt d[a]! x) (.inr (by rw [lt_yes hs]; rfl)), sd_stop (p := fun x => ltInt d[a]! x) (.inr (lt_no hl)), if_neg (by omega)]
theorem eq_end (h : j < i) : Sort.partEqLoop ltInt a i j d = (i, d) := by
  rw [Sort.partEqLoop_eq, su_stop (p := fun x => !ltInt d[a]! x) (.inl h), sd_stop (p := fun x => ltInt d[a]! x) (.inl h), if_pos h]
theorem sorted_one (a : Nat) (d : Array Int) : Sort.SortedIn ltInt a (a + 1) d := fun i j h1 h2 h3 => by omega
end
end Rt
end Go.Proofs.Ytahbiajdgealnaa
namespace Go.Proofs.Ytahbiajdgealnaa
open Go.RowKit
open Rt
set_option maxRecDepth 10000
theorem s_nan (n : Int) (w : World) :
    Calls Try.prog 40 #[.int .u64 (n)] w fun e w' => e = .returned (.bool false) ∧ w' = w := by
 refine Fx.enter Try.func40 rfl (n := 6) rfl (by rfl) ?_
 refine Fx.Ws (Fx.Wl (Fx.Lv (.bool false) (Fx.x_assign rfl rfl) (Fx.Ln (Fx.sN (Fx.Ws (Fx.Wl (Fx.Lv (.int .u64 (n)) (Fx.x_move rfl rfl) (Fx.Lv (.int .u64 (n)) (Fx.x_move rfl rfl) (Fx.Lv (.bool false) (Fx.x_neqF rfl rfl rfl rfl) (Fx.Lv (.bool false) (Fx.x_assign rfl rfl) (Fx.Ln (Fx.sN (Fx.Wr (⟨.bool false, Fx.rV Try.results40 (by exact rfl), ?_⟩))))))))))))))
 exact ⟨rfl, rfl⟩
theorem s_less (a b : Int) (w : World) :
    Calls Try.prog 30 #[.int .u64 (a), .int .u64 (b)] w fun e w' => e = .returned (.bool (decide (a < b))) ∧ w' = w := by
 refine Fx.enter Try.func30 rfl (n := 17) rfl (by rfl) ?_
 refine Fx.Ws (Fx.Wl (Fx.Lv (.bool false) (Fx.x_assign rfl rfl) (Fx.Ln (Fx.sN (Fx.Ws (Fx.Wl (Fx.Lv (.int .u64 (a)) (Fx.x_move rfl rfl) (Fx.L.call (by rfl) (Fx.rC (args := [.int .u64 (a)]) rfl rfl Try.func40 rfl rfl) rfl ((s_nan a _).mono ?_)))))))))
 rintro e v1 ⟨he, hv1⟩
 subst v1
 refine ⟨.bool false, by rw [he], ?_⟩
 clear he
 refine Fx.Lv (.bool false) (Fx.x_move rfl rfl) (Fx.Lk (by rfl) rfl (Fx.Lk (by rfl) rfl (Fx.Lk (by rfl) rfl (Fx.Lv (.bool false) (Fx.x_pickF rfl rfl rfl) (Fx.Lv (.bool false) (Fx.x_move rfl rfl) (Fx.Lv (.int .u64 (a)) (Fx.x_move rfl rfl) (Fx.Lv (.int .u64 (b)) (Fx.x_move rfl rfl) (Fx.Lv (.bool (decide (a < b))) (Fx.x_lss rfl rfl rfl) (Fx.Lv (.bool (decide (a < b))) (Fx.x_pickF rfl rfl rfl) (Fx.Lv (.bool (decide (a < b))) (Fx.x_assign rfl rfl) (Fx.Ln (Fx.sN (Fx.Wr (⟨.bool (decide (a < b)), Fx.rV Try.results30 (by exact rfl), ?_⟩))))))))))))))
 exact ⟨rfl, rfl⟩
theorem s_ins (a b : Nat) (B g n cap : Nat) (d : Array Int) (w : World) (h : Fx.Own w B 28 1 (.slice (some ⟨g, 0, none⟩) n cap) n (Fx.rv .u64 (gA d))) (hB : B ≤ w.heap.size) (hn : d.size = n) (hs : n ≤ 1000) (ha : a ≤ b) (hb : b ≤ n) :
    Calls Try.prog 24 #[.slice (some ⟨g, 0, none⟩) (n) (cap), .int .i64 ((a : Int)), .int .i64 ((b : Int))] w fun e w' => e = .returned (.tuple #[]) ∧ Fx.Own w' B 28 1 (.slice (some ⟨g, 0, none⟩) n cap) n (Fx.rv .u64 (gA (Sort.insertionSort Sort.ltInt d a b))) ∧ Below B w w' := by
 refine Fx.enter Try.func24 rfl (n := 49) rfl (by rfl) ?_
 refine Fx.Ws (Fx.Wl (Fx.Lv (.int .i64 ((a : Int))) (Fx.x_move rfl rfl) (Fx.Lv (.int .i64 ((a : Int) + 1)) (Fx.x_add rfl rfl rfl Fx.io) (Fx.Lv (.int .i64 ((a : Int) + 1)) (Fx.x_assign rfl rfl) (Fx.Ln (Fx.sN (Fx.W.block (Fx.W.loop (fun f w_ => ∃ i : Nat, ∃ dk : Array Int, (a < i ∧ i ≤ b + 1) ∧ dk.size = n ∧ Sort.insOuter Sort.ltInt a b i dk = Sort.insOuter Sort.ltInt a b (a + 1) d ∧ f 0 = .slice (some ⟨g, 0, none⟩) (n) (cap) ∧ f 1 = .int .i64 ((a : Int)) ∧ f 2 = .int .i64 ((b : Int)) ∧ f 6 = .int .i64 ((i : Int)) ∧ Fx.Own w_ B 28 1 (.slice (some ⟨g, 0, none⟩) n cap) n (Fx.rv .u64 (gA dk)) ∧ Below B w w_) (fun f _ => ((b : Int) + 1 - intOf (f 6)).toNat) ⟨a + 1, d, (by omega), hn, rfl, (by rfl), Fx.ic, Fx.ic, Fx.ic, h, (Below.refl B w)⟩ ?_))))))))
 rintro f1 w1 ⟨i, dk, hi, hk, hO, h1, h2, h3, h4, m1, b1⟩
 refine Fx.Ws (Fx.Ws (Fx.Wl (Fx.Lv (.int .i64 ((i : Int))) (Fx.x_move rfl h4) (Fx.Lv (.int .i64 ((b : Int))) (Fx.x_move rfl h3) ?_))))
 by_cases c12 : (i : Int) < (b : Int)
 ·refine Fx.Lv (.bool true) (Fx.x_lssT rfl rfl rfl c12) (Fx.Ln (Fx.sN (Fx.Wc (b := true) rfl (fun _ => Fx.Wk (Fx.sN (Fx.Ws (Fx.W.block (Fx.Ws (Fx.Wl (Fx.Lv (.int .i64 ((i : Int))) (Fx.x_move rfl h4) ?_))))))) (fun h => nomatch h))))
  refine Fx.Lv (.int .i64 ((i : Int))) (Fx.x_assign rfl rfl) (Fx.Ln (Fx.sN (Fx.W.block (Fx.W.loop (fun f w_ => ∃ j : Nat, ∃ dj : Array Int, (a ≤ j ∧ j ≤ i) ∧ dj.size = n ∧ Sort.insInner Sort.ltInt a j dj = Sort.insInner Sort.ltInt a i dk ∧ f 0 = .slice (some ⟨g, 0, none⟩) (n) (cap) ∧ f 1 = .int .i64 ((a : Int)) ∧ f 2 = .int .i64 ((b : Int)) ∧ f 6 = .int .i64 ((i : Int)) ∧ f 7 = .int .i64 ((j : Int)) ∧ Fx.Own w_ B 28 1 (.slice (some ⟨g, 0, none⟩) n cap) n (Fx.rv .u64 (gA dj)) ∧ Below B w w_) (fun f _ => (intOf (f 7)).toNat) ⟨i, dk, (by omega), hk, rfl, h1, (h2.trans Fx.ic), (h3.trans Fx.ic), (h4.trans Fx.ic), Fx.ic, m1, b1⟩ ?_))))
  rintro f2 w2 ⟨j, dj, hji, hj, hI, h5, h6, h7, h8, h9, m2, b2⟩
  refine Fx.Ws (Fx.Ws ?_)
  -- region 4 draws
  refine Fx.W.quiet (fun v1 => Below w2.heap.size w2 v1) (by kernel_rfl) (by kernel_rfl) (Below.refl _ _).drew ?_
  refine Fx.Qv (.int .i64 ((j : Int))) (fun v1 hv1 => Fx.x_move rfl h9) (Fx.Qv (.int .i64 ((a : Int))) (fun v1 hv1 => Fx.x_move rfl h6) ?_)
  by_cases c18 : (a : Int) < (j : Int)
  ·refine Fx.Qv (.bool true) (fun v1 hv1 => Fx.x_gtrT rfl rfl rfl c18) (Fx.Qv (.bool true) (fun v1 hv1 => Fx.x_move rfl rfl) (Fx.Qv (.slice (some ⟨g, 0, none⟩) (n) (cap)) (fun v1 hv1 => Fx.x_move rfl h5) (Fx.Qv (.int .i64 ((j : Int))) (fun v1 hv1 => Fx.x_move rfl h9) (Fx.Qv ((pf g j)) (fun v1 hv1 => Fx.x_indexS rfl rfl rfl Try.underlying33 (s := 1) (by kernel_rfl) (by omega) (by omega) (by omega)) (Fx.Qv (.int .u64 ((gA dj) j)) (fun v1 hv1 => Fx.x_load1 (x := Fx.rv .u64 (gA dj)) rfl rfl (by kernel_rfl) (m2.cel.below hv1 (by have := m2.lt; omega)) (i := j) (by omega) (by omega) rfl) (Fx.Qv (.slice (some ⟨g, 0, none⟩) (n) (cap)) (fun v1 hv1 => Fx.x_move rfl h5) (Fx.Qv (.int .i64 ((j : Int))) (fun v1 hv1 => Fx.x_move rfl h9) (Fx.Qv (.int .i64 ((j : Int) - 1)) (fun v1 hv1 => Fx.x_sub rfl rfl rfl Fx.io) (Fx.Qv ((pf g (j - 1))) (fun v1 hv1 => Fx.x_indexS rfl rfl rfl Try.underlying33 (s := 1) (by kernel_rfl) (by omega) (by omega) (by omega)) (Fx.Qv (.int .u64 ((gA dj) (j - 1))) (fun v1 hv1 => Fx.x_load1 (x := Fx.rv .u64 (gA dj)) rfl rfl (by kernel_rfl) (m2.cel.below hv1 (by have := m2.lt; omega)) (i := j - 1) (by omega) (by omega) rfl) ?_))))))))))
   by_cases c29 : (decide ((gA dj) j < (gA dj) (j - 1))) = true
   ·refine Fx.Qt.call (v := .bool true) (by rfl) (fun v1 hv1 => Fx.rC (args := [.int .u64 ((gA dj) j), .int .u64 ((gA dj) (j - 1))]) rfl rfl Try.func30 rfl rfl) rfl (fun v1 hv1 => (s_less ((gA dj) j) ((gA dj) (j - 1)) _).mono fun e v2 h => ⟨by rw [h.1, c29], by rw [h.2]; exact hv1⟩) ?_
    refine Fx.Qv (.bool true) (fun v1 hv1 => Fx.x_pickT rfl rfl rfl) (Fx.Qt.nil ?_)
    intro wb1 hbwb1
    have s1 : Fx.Stp w2.heap.size w2 wb1 := Fx.Sb hbwb1
    have m3 := m2.stpB s1 (Nat.ne_of_lt (m2.lt))
    have b3 := s1.below b2 (Nat.le_trans hB b2.size) (Nat.le_trans hB b2.size)
    refine Fx.sN (Fx.Wc (b := true) rfl (fun _ => Fx.Wk (Fx.sN (Fx.Ws (Fx.W.block ?_)))) (fun h => nomatch h))
    -- region 6 draws
    refine Fx.W.reord [0, 1, 2, 3, 4, 5, 6, 7, 8, 10, 11, 12, 9, 13, 14, 15, 16, 17] [0, 0, 0, 0, 0, 0, 0, 0, 0, 4, 0, 0, 0, 4, 0, 3, 0, 3] Fx.Mk Fx.Mk.refl Fx.Mk.trans (certs := [(15, 9, [9]), (17, 9, [9]), (15, 13, [13]), (17, 13, [13]), (16, 15, [15]), (17, 15, [15])]) (by kernel_rfl) (by kernel_rfl) (by kernel_rfl) (by kernel_rfl) (by kernel_rfl) fun wt1 hbwt1 hzwt1 => ?_
    have s2 : Fx.Stp wb1.heap.size wb1 wt1 := Fx.Sb hbwt1
    have m4 := m3.stpB s2 (Nat.ne_of_lt (m3.lt))
    have b4 := s2.below b3 (Nat.le_trans hB b3.size) (Nat.le_trans hB b3.size)
    refine Fx.Rp (.slice (some ⟨g, 0, none⟩) (n) (cap)) (fun v1 => Fx.x_move rfl h5) (Fx.Rp (.int .i64 ((j : Int))) (fun v1 => Fx.x_move rfl h9) (Fx.Rp (.slice (some ⟨g, 0, none⟩) (n) (cap)) (fun v1 => Fx.x_move rfl h5) (Fx.Rp (.int .i64 ((j : Int))) (fun v1 => Fx.x_move rfl h9) (Fx.Rp (.int .i64 ((j : Int) - 1)) (fun v1 => Fx.x_sub rfl rfl rfl Fx.io) (Fx.Rp (.slice (some ⟨g, 0, none⟩) (n) (cap)) (fun v1 => Fx.x_move rfl h5) (Fx.Rp (.int .i64 ((j : Int))) (fun v1 => Fx.x_move rfl h9) (Fx.Rp (.int .i64 ((j : Int) - 1)) (fun v1 => Fx.x_sub rfl rfl rfl Fx.io) (Fx.Rp ((pf g (j - 1))) (fun v1 => Fx.x_indexS rfl rfl rfl Try.underlying33 (s := 1) (by kernel_rfl) (by omega) (by omega) (by omega)) (Fx.Rp (.slice (some ⟨g, 0, none⟩) (n) (cap)) (fun v1 => Fx.x_move rfl h5) (Fx.Rp (.int .i64 ((j : Int))) (fun v1 => Fx.x_move rfl h9) (Fx.Rp ((pf g j)) (fun v1 => Fx.x_indexS rfl rfl rfl Try.underlying33 (s := 1) (by kernel_rfl) (by omega) (by omega) (by omega)) (Fx.R.s (.int .u64 ((gA dj) (j - 1))) (Fx.x_load1 (x := Fx.rv .u64 (gA dj)) rfl rfl (by kernel_rfl) m4.cel (i := j - 1) (by omega) (by omega) rfl) ?_))))))))))))
    refine Fx.R.s (.int .u64 ((gA dj) j)) (Fx.x_load1 (x := Fx.rv .u64 (gA dj)) rfl rfl (by kernel_rfl) m4.cel (i := j) (by omega) (by omega) rfl) ?_
    refine Fx.Rp ((pf g j)) (fun v1 => Fx.x_indexS rfl rfl rfl Try.underlying33 (s := 1) (by kernel_rfl) (by omega) (by omega) (by omega)) (Fx.R.eff (by rfl) ?_)
    refine Fx.L.own1 (x := Fx.rv .u64 (gA dj)) (u := .int .u64 ((gA dj) (j - 1))) (by rfl) rfl rfl rfl rfl (by rfl) (by kernel_rfl) m4 (i := j) (by omega) fun w3 m5 s3 z1 => ?_
    have b5 := s3.below b4 (Nat.le_trans hB b4.size) m4.blk.1
    refine Fx.Ln (Fx.Rp ((pf g (j - 1))) (fun v1 => Fx.x_indexS rfl rfl rfl Try.underlying33 (s := 1) (by kernel_rfl) (by omega) (by omega) (by omega)) (Fx.R.eff (by rfl) ?_))
    refine Fx.L.own1 (x := Fx.updV (Fx.rv .u64 (gA dj)) j (.int .u64 ((gA dj) (j - 1)))) (u := .int .u64 ((gA dj) j)) (by rfl) rfl rfl rfl rfl (by rfl) (by kernel_rfl) m5 (i := j - 1) (by omega) fun w4 m6 s4 z2 => ?_
    have b6 := s4.below b5 (Nat.le_trans hB b5.size) m5.blk.1
    have m7 : Fx.Own w4 B 28 1 (.slice (some ⟨g, 0, none⟩) n cap) n (Fx.rv .u64 (gA (Sort.swp dj j (j - 1)))) := m6.congr (swp_rv hj (by omega) (by omega))
    refine Fx.Ln (Fx.R.nil (Fx.blkN (Fx.sN (Fx.Wl (Fx.Lv (.int .i64 ((j : Int))) (Fx.x_move rfl h9) (Fx.Lv (.int .i64 ((j : Int) - 1)) (Fx.x_sub rfl rfl rfl Fx.io) (Fx.Lv (.int .i64 ((j : Int) - 1)) (Fx.x_assign rfl rfl) (Fx.Ln (Fx.lpN ⟨j - 1, Sort.swp dj j (j - 1), (by omega), (sz_swp hj _ _), ((ins_go (by omega) (of_decide_eq_true c29)).trans hI), h5, (h6.trans Fx.ic), (h7.trans Fx.ic), (h8.trans Fx.ic), Fx.ic, m7, b6⟩ ?_)))))))))
    show (intOf ((.int .i64 ((j : Int) - 1)))).toNat < _
    simp only [h9, intOf]; omega
   rw [Bool.not_eq_true] at c29
   refine Fx.Qt.call (v := .bool false) (by rfl) (fun v1 hv1 => Fx.rC (args := [.int .u64 ((gA dj) j), .int .u64 ((gA dj) (j - 1))]) rfl rfl Try.func30 rfl rfl) rfl (fun v1 hv1 => (s_less ((gA dj) j) ((gA dj) (j - 1)) _).mono fun e v2 h => ⟨by rw [h.1, c29], by rw [h.2]; exact hv1⟩) ?_
   refine Fx.Qv (.bool false) (fun v1 hv1 => Fx.x_pickT rfl rfl rfl) (Fx.Qt.nil ?_)
   intro wb2 hbwb2
   have s5 : Fx.Stp w2.heap.size w2 wb2 := Fx.Sb hbwb2
   have m8 := m2.stpB s5 (Nat.ne_of_lt (m2.lt))
   have b7 := s5.below b2 (Nat.le_trans hB b2.size) (Nat.le_trans hB b2.size)
   refine Fx.sN (Fx.Wc (b := false) rfl (fun h => nomatch h) (fun _ => Fx.W.exit (Fx.seqX (Fx.lpX (Fx.blkX (Fx.blkN (Fx.sN (Fx.Wl (Fx.Lv (.int .i64 ((i : Int))) (Fx.x_move rfl h8) (Fx.Lv (.int .i64 ((i : Int) + 1)) (Fx.x_add rfl rfl rfl Fx.io) (Fx.Lv (.int .i64 ((i : Int) + 1)) (Fx.x_assign rfl rfl) (Fx.Ln (Fx.lpN ⟨i + 1, dj, (by omega), hj, ((out_go (by omega) (hI.symm.trans (ins_stop (.inr (of_decide_eq_false c29))))).trans hO), h5, (h6.trans Fx.ic), (h7.trans Fx.ic), Fx.ic, m8, b7⟩ ?_)))))))))))))
   show ((b : Int) + 1 - intOf ((.int .i64 ((i : Int) + 1)))).toNat < _
   simp only [h4, intOf]; omega
  refine Fx.Qv (.bool false) (fun v1 hv1 => Fx.x_gtrF rfl rfl rfl c18) (Fx.Qv (.bool false) (fun v1 hv1 => Fx.x_move rfl rfl) (Fx.Qs (by rfl) rfl (Fx.Qs (by rfl) rfl (Fx.Qs (by rfl) rfl (Fx.Qs (by rfl) rfl (Fx.Qs (by rfl) rfl (Fx.Qs (by rfl) rfl (Fx.Qs (by rfl) rfl (Fx.Qs (by rfl) rfl (Fx.Qs (by rfl) rfl (Fx.Qs (by rfl) rfl (Fx.Qv (.bool false) (fun v1 hv1 => Fx.x_pickF rfl rfl rfl) (Fx.Qt.nil ?_)))))))))))))
  intro wb3 hbwb3
  have s6 : Fx.Stp w2.heap.size w2 wb3 := Fx.Sb hbwb3
  have m9 := m2.stpB s6 (Nat.ne_of_lt (m2.lt))
  have b8 := s6.below b2 (Nat.le_trans hB b2.size) (Nat.le_trans hB b2.size)
  refine Fx.sN (Fx.Wc (b := false) rfl (fun h => nomatch h) (fun _ => Fx.W.exit (Fx.seqX (Fx.lpX (Fx.blkX (Fx.blkN (Fx.sN (Fx.Wl (Fx.Lv (.int .i64 ((i : Int))) (Fx.x_move rfl h8) (Fx.Lv (.int .i64 ((i : Int) + 1)) (Fx.x_add rfl rfl rfl Fx.io) (Fx.Lv (.int .i64 ((i : Int) + 1)) (Fx.x_assign rfl rfl) (Fx.Ln (Fx.lpN ⟨i + 1, dj, (by omega), hj, ((out_go (by omega) (hI.symm.trans (ins_stop (.inl (by omega))))).trans hO), h5, (h6.trans Fx.ic), (h7.trans Fx.ic), Fx.ic, m9, b8⟩ ?_)))))))))))))
  show ((b : Int) + 1 - intOf ((.int .i64 ((i : Int) + 1)))).toNat < _
  simp only [h4, intOf]; omega
 refine Fx.Lv (.bool false) (Fx.x_lssF rfl rfl rfl c12) (Fx.Ln (Fx.sN (Fx.Wc (b := false) rfl (fun h => nomatch h) (fun _ => Fx.W.exit (Fx.seqX (Fx.lpX (Fx.blkX (⟨.tuple #[], Fx.ret0 Try.results24, ?_⟩))))))))
 rw [out_stop (by omega)] at hO; subst hO; exact ⟨rfl, m1, b1⟩
end Go.Proofs.Ytahbiajdgealnaa
namespace Go.Proofs.Ytahbiajdgealnaa
open Go.RowKit
open Rt
set_option maxRecDepth 10000
theorem s_sift (lo hi fi : Nat) (B g n cap : Nat) (d : Array Int) (w : World) (h : Fx.Own w B 28 1 (.slice (some ⟨g, 0, none⟩) n cap) n (Fx.rv .u64 (gA d))) (hB : B ≤ w.heap.size) (hn : d.size = n) (hs : n ≤ 1000) (hf : fi + hi ≤ n ∧ lo ≤ 1000) :
    Calls Try.prog 35 #[.slice (some ⟨g, 0, none⟩) (n) (cap), .int .i64 ((lo : Int)), .int .i64 ((hi : Int)), .int .i64 ((fi : Int))] w fun e w' => e = .returned (.tuple #[]) ∧ Fx.Own w' B 28 1 (.slice (some ⟨g, 0, none⟩) n cap) n (Fx.rv .u64 (gA (Sort.siftDown Sort.ltInt hi fi lo d))) ∧ Below B w w' := by
 obtain ⟨hf, hlo⟩ := hf
 refine Fx.enter Try.func35 rfl (n := 76) rfl (by rfl) ?_
 refine Fx.Ws (Fx.Wl (Fx.Lv (.int .i64 ((lo : Int))) (Fx.x_move rfl rfl) (Fx.Lv (.int .i64 ((lo : Int))) (Fx.x_assign rfl rfl) (Fx.Ln (Fx.sN (Fx.W.block (Fx.W.loop (fun f w_ => ∃ r : Nat, ∃ dk : Array Int, dk.size = n ∧ Sort.siftDown Sort.ltInt hi fi r dk = Sort.siftDown Sort.ltInt hi fi lo d ∧ r ≤ hi + lo ∧ f 0 = .slice (some ⟨g, 0, none⟩) (n) (cap) ∧ f 1 = .int .i64 ((lo : Int)) ∧ f 2 = .int .i64 ((hi : Int)) ∧ f 3 = .int .i64 ((fi : Int)) ∧ f 8 = .int .i64 ((r : Int)) ∧ Fx.Own w_ B 28 1 (.slice (some ⟨g, 0, none⟩) n cap) n (Fx.rv .u64 (gA dk)) ∧ Below B w w_) (fun f _ => ((hi : Int) + lo - intOf (f 8)).toNat) ⟨lo, d, hn, rfl, (by omega), (by rfl), Fx.ic, Fx.ic, Fx.ic, Fx.ic, h, (Below.refl B w)⟩ ?_)))))))
 rintro f1 w1 ⟨r, dk, hk, hO, hr, h1, h2, h3, h4, h5, m1, b1⟩
 refine Fx.W.block (Fx.Ws (Fx.Wl (Fx.Lv (.int .i64 ((r : Int))) (Fx.x_move rfl h5) (Fx.Lv (.int .i64 (2 * (r : Int))) (Fx.x_mul rfl rfl rfl Fx.io) (Fx.Lv (.int .i64 (2 * (r : Int) + 1)) (Fx.x_add rfl rfl rfl Fx.io) (Fx.Lv (.int .i64 (2 * (r : Int) + 1)) (Fx.x_assign rfl rfl) (Fx.Ln (Fx.sN (Fx.Ws (Fx.Ws (Fx.Wl (Fx.Lv (.int .i64 (2 * (r : Int) + 1)) (Fx.x_move rfl rfl) (Fx.Lv (.int .i64 ((hi : Int))) (Fx.x_move rfl h3) ?_)))))))))))))
 by_cases c16 : (hi : Int) ≤ (2 * (r : Int) + 1)
 ·refine Fx.Lv (.bool true) (Fx.x_geqT rfl rfl rfl c16) (Fx.Ln (Fx.sN (Fx.Wc (b := true) rfl (fun _ => Fx.W.exit (Fx.seqX (Fx.blkO rfl (Fx.lpX (Fx.blkX (⟨.tuple #[], Fx.ret0 Try.results35, ?_⟩)))))) (fun h => nomatch h))))
  rw [sift_end (by omega)] at hO; subst hO; exact ⟨rfl, m1, b1⟩
 refine Fx.Lv (.bool false) (Fx.x_geqF rfl rfl rfl c16) (Fx.Ln (Fx.sN (Fx.Wc (b := false) rfl (fun h => nomatch h) (fun _ => Fx.Wk (Fx.sN (Fx.Ws (Fx.Ws ?_)))))))
 -- region 3 draws
 refine Fx.W.quiet (fun v1 => Below w1.heap.size w1 v1) (by kernel_rfl) (by kernel_rfl) (Below.refl _ _).drew ?_
 refine Fx.Qv (.int .i64 (2 * (r : Int) + 1)) (fun v1 hv1 => Fx.x_move rfl rfl) (Fx.Qv (.int .i64 (2 * (r : Int) + 2)) (fun v1 hv1 => Fx.x_add rfl rfl rfl Fx.io) (Fx.Qv (.int .i64 ((hi : Int))) (fun v1 hv1 => Fx.x_move rfl h3) ?_))
 by_cases c20 : (2 * (r : Int) + 2) < (hi : Int)
 ·refine Fx.Qv (.bool true) (fun v1 hv1 => Fx.x_lssT rfl rfl rfl c20) (Fx.Qv (.bool true) (fun v1 hv1 => Fx.x_move rfl rfl) (Fx.Qv (.slice (some ⟨g, 0, none⟩) (n) (cap)) (fun v1 hv1 => Fx.x_move rfl h1) (Fx.Qv (.int .i64 ((fi : Int))) (fun v1 hv1 => Fx.x_move rfl h4) (Fx.Qv (.int .i64 (2 * (r : Int) + 1)) (fun v1 hv1 => Fx.x_move rfl rfl) (Fx.Qv (.int .i64 ((fi : Int) + 2 * (r : Int) + 1)) (fun v1 hv1 => Fx.x_add rfl rfl rfl Fx.io) (Fx.Qv ((pf g (fi + 2 * r + 1))) (fun v1 hv1 => Fx.x_indexS rfl rfl rfl Try.underlying33 (s := 1) (by kernel_rfl) (by omega) (by omega) (by omega)) (Fx.Qv (.int .u64 ((gA dk) (fi + 2 * r + 1))) (fun v1 hv1 => Fx.x_load1 (x := Fx.rv .u64 (gA dk)) rfl rfl (by kernel_rfl) (m1.cel.below hv1 (by have := m1.lt; omega)) (i := fi + 2 * r + 1) (by omega) (by omega) rfl) (Fx.Qv (.slice (some ⟨g, 0, none⟩) (n) (cap)) (fun v1 hv1 => Fx.x_move rfl h1) (Fx.Qv (.int .i64 ((fi : Int))) (fun v1 hv1 => Fx.x_move rfl h4) (Fx.Qv (.int .i64 (2 * (r : Int) + 1)) (fun v1 hv1 => Fx.x_move rfl rfl) (Fx.Qv (.int .i64 ((fi : Int) + 2 * (r : Int) + 1)) (fun v1 hv1 => Fx.x_add rfl rfl rfl Fx.io) (Fx.Qv (.int .i64 ((fi : Int) + 2 * (r : Int) + 2)) (fun v1 hv1 => Fx.x_add rfl rfl rfl Fx.io) (Fx.Qv ((pf g (fi + 2 * r + 2))) (fun v1 hv1 => Fx.x_indexS rfl rfl rfl Try.underlying33 (s := 1) (by kernel_rfl) (by omega) (by omega) (by omega)) (Fx.Qv (.int .u64 ((gA dk) (fi + 2 * r + 2))) (fun v1 hv1 => Fx.x_load1 (x := Fx.rv .u64 (gA dk)) rfl rfl (by kernel_rfl) (m1.cel.below hv1 (by have := m1.lt; omega)) (i := fi + 2 * r + 2) (by omega) (by omega) rfl) ?_))))))))))))))
  by_cases c35 : (decide ((gA dk) (fi + 2 * r + 1) < (gA dk) (fi + 2 * r + 2))) = true
  ·refine Fx.Qt.call (v := .bool true) (by rfl) (fun v1 hv1 => Fx.rC (args := [.int .u64 ((gA dk) (fi + 2 * r + 1)), .int .u64 ((gA dk) (fi + 2 * r + 2))]) rfl rfl Try.func30 rfl rfl) rfl (fun v1 hv1 => (s_less ((gA dk) (fi + 2 * r + 1)) ((gA dk) (fi + 2 * r + 2)) _).mono fun e v2 h => ⟨by rw [h.1, c35], by rw [h.2]; exact hv1⟩) ?_
   refine Fx.Qv (.bool true) (fun v1 hv1 => Fx.x_pickT rfl rfl rfl) (Fx.Qt.nil ?_)
   intro wb1 hbwb1
   have s1 : Fx.Stp w1.heap.size w1 wb1 := Fx.Sb hbwb1
   have m2 := m1.stpB s1 (Nat.ne_of_lt (m1.lt))
   have b2 := s1.below b1 (Nat.le_trans hB b1.size) (Nat.le_trans hB b1.size)
   refine Fx.sN (Fx.Wc (b := true) rfl (fun _ => Fx.Wl (Fx.Lv (.int .i64 (2 * (r : Int) + 1)) (Fx.x_move rfl rfl) ?_)) (fun h => nomatch h))
   refine Fx.Lv (.int .i64 (2 * (r : Int) + 2)) (Fx.x_add rfl rfl rfl Fx.io) (Fx.Lv (.int .i64 (2 * (r : Int) + 2)) (Fx.x_assign rfl rfl) (Fx.Ln (Fx.sN (Fx.Ws (Fx.Ws ?_)))))
   -- region 5 draws
   refine Fx.W.quiet (fun v1 => Below wb1.heap.size wb1 v1) (by kernel_rfl) (by kernel_rfl) (Below.refl _ _).drew ?_
   refine Fx.Qv (.slice (some ⟨g, 0, none⟩) (n) (cap)) (fun v1 hv1 => Fx.x_move rfl h1) (Fx.Qv (.int .i64 ((fi : Int))) (fun v1 hv1 => Fx.x_move rfl h4) (Fx.Qv (.int .i64 ((r : Int))) (fun v1 hv1 => Fx.x_move rfl h5) (Fx.Qv (.int .i64 ((fi : Int) + (r : Int))) (fun v1 hv1 => Fx.x_add rfl rfl rfl Fx.io) (Fx.Qv ((pf g (fi + r))) (fun v1 hv1 => Fx.x_indexS rfl rfl rfl Try.underlying33 (s := 1) (by kernel_rfl) (by omega) (by omega) (by omega)) (Fx.Qv (.int .u64 ((gA dk) (fi + r))) (fun v1 hv1 => Fx.x_load1 (x := Fx.rv .u64 (gA dk)) rfl rfl (by kernel_rfl) (m2.cel.below hv1 (by have := m2.lt; omega)) (i := fi + r) (by omega) (by omega) rfl) (Fx.Qv (.slice (some ⟨g, 0, none⟩) (n) (cap)) (fun v1 hv1 => Fx.x_move rfl h1) (Fx.Qv (.int .i64 ((fi : Int))) (fun v1 hv1 => Fx.x_move rfl h4) (Fx.Qv (.int .i64 (2 * (r : Int) + 2)) (fun v1 hv1 => Fx.x_move rfl rfl) (Fx.Qv (.int .i64 ((fi : Int) + 2 * (r : Int) + 2)) (fun v1 hv1 => Fx.x_add rfl rfl rfl Fx.io) (Fx.Qv ((pf g (fi + 2 * r + 2))) (fun v1 hv1 => Fx.x_indexS rfl rfl rfl Try.underlying33 (s := 1) (by kernel_rfl) (by omega) (by omega) (by omega)) (Fx.Qv (.int .u64 ((gA dk) (fi + 2 * r + 2))) (fun v1 hv1 => Fx.x_load1 (x := Fx.rv .u64 (gA dk)) rfl rfl (by kernel_rfl) (m2.cel.below hv1 (by have := m2.lt; omega)) (i := fi + 2 * r + 2) (by omega) (by omega) rfl) ?_)))))))))))
   by_cases c51 : (decide ((gA dk) (fi + r) < (gA dk) (fi + 2 * r + 2))) = true
   ·refine Fx.Qt.call (v := .bool true) (by rfl) (fun v1 hv1 => Fx.rC (args := [.int .u64 ((gA dk) (fi + r)), .int .u64 ((gA dk) (fi + 2 * r + 2))]) rfl rfl Try.func30 rfl rfl) rfl (fun v1 hv1 => (s_less ((gA dk) (fi + r)) ((gA dk) (fi + 2 * r + 2)) _).mono fun e v2 h => ⟨by rw [h.1, c51], by rw [h.2]; exact hv1⟩) ?_
    refine Fx.Qv (.bool false) (fun v1 hv1 => Fx.x_notF rfl rfl) (Fx.Qt.nil ?_)
    intro wb2 hbwb2
    have s2 : Fx.Stp wb1.heap.size wb1 wb2 := Fx.Sb hbwb2
    have m3 := m2.stpB s2 (Nat.ne_of_lt (m2.lt))
    have b3 := s2.below b2 (Nat.le_trans hB b2.size) (Nat.le_trans hB b2.size)
    refine Fx.sN (Fx.Wc (b := false) rfl (fun h => nomatch h) (fun _ => Fx.Wk (Fx.sN (Fx.Ws ?_))))
    -- region 6 draws
    refine Fx.W.reord [0, 1, 2, 3, 4, 5, 6, 7, 8, 9, 10, 11, 12, 14, 15, 16, 17, 18, 13, 19, 20, 21, 22, 23] [0, 0, 0, 0, 0, 0, 0, 0, 0, 0, 0, 0, 0, 4, 0, 0, 0, 0, 0, 4, 0, 3, 0, 3] Fx.Mk Fx.Mk.refl Fx.Mk.trans (certs := [(21, 13, [13]), (23, 13, [13]), (21, 19, [19]), (23, 19, [19]), (22, 21, [21]), (23, 21, [21])]) (by kernel_rfl) (by kernel_rfl) (by kernel_rfl) (by kernel_rfl) (by kernel_rfl) fun wt1 hbwt1 hzwt1 => ?_
    have s3 : Fx.Stp wb2.heap.size wb2 wt1 := Fx.Sb hbwt1
    have m4 := m3.stpB s3 (Nat.ne_of_lt (m3.lt))
    have b4 := s3.below b3 (Nat.le_trans hB b3.size) (Nat.le_trans hB b3.size)
    refine Fx.Rp (.slice (some ⟨g, 0, none⟩) (n) (cap)) (fun v1 => Fx.x_move rfl h1) (Fx.Rp (.int .i64 ((fi : Int))) (fun v1 => Fx.x_move rfl h4) (Fx.Rp (.int .i64 ((r : Int))) (fun v1 => Fx.x_move rfl h5) (Fx.Rp (.int .i64 ((fi : Int) + (r : Int))) (fun v1 => Fx.x_add rfl rfl rfl Fx.io) (Fx.Rp (.slice (some ⟨g, 0, none⟩) (n) (cap)) (fun v1 => Fx.x_move rfl h1) (Fx.Rp (.int .i64 ((fi : Int))) (fun v1 => Fx.x_move rfl h4) (Fx.Rp (.int .i64 (2 * (r : Int) + 2)) (fun v1 => Fx.x_move rfl rfl) (Fx.Rp (.int .i64 ((fi : Int) + 2 * (r : Int) + 2)) (fun v1 => Fx.x_add rfl rfl rfl Fx.io) (Fx.Rp (.slice (some ⟨g, 0, none⟩) (n) (cap)) (fun v1 => Fx.x_move rfl h1) (Fx.Rp (.int .i64 ((fi : Int))) (fun v1 => Fx.x_move rfl h4) (Fx.Rp (.int .i64 (2 * (r : Int) + 2)) (fun v1 => Fx.x_move rfl rfl) (Fx.Rp (.int .i64 ((fi : Int) + 2 * (r : Int) + 2)) (fun v1 => Fx.x_add rfl rfl rfl Fx.io) (Fx.Rp ((pf g (fi + 2 * r + 2))) (fun v1 => Fx.x_indexS rfl rfl rfl Try.underlying33 (s := 1) (by kernel_rfl) (by omega) (by omega) (by omega)) (Fx.Rp (.slice (some ⟨g, 0, none⟩) (n) (cap)) (fun v1 => Fx.x_move rfl h1) (Fx.Rp (.int .i64 ((fi : Int))) (fun v1 => Fx.x_move rfl h4) (Fx.Rp (.int .i64 ((r : Int))) (fun v1 => Fx.x_move rfl h5) (Fx.Rp (.int .i64 ((fi : Int) + (r : Int))) (fun v1 => Fx.x_add rfl rfl rfl Fx.io) (Fx.Rp ((pf g (fi + r))) (fun v1 => Fx.x_indexS rfl rfl rfl Try.underlying33 (s := 1) (by kernel_rfl) (by omega) (by omega) (by omega)) (Fx.R.s (.int .u64 ((gA dk) (fi + 2 * r + 2))) (Fx.x_load1 (x := Fx.rv .u64 (gA dk)) rfl rfl (by kernel_rfl) m4.cel (i := fi + 2 * r + 2) (by omega) (by omega) rfl) ?_))))))))))))))))))
    refine Fx.R.s (.int .u64 ((gA dk) (fi + r))) (Fx.x_load1 (x := Fx.rv .u64 (gA dk)) rfl rfl (by kernel_rfl) m4.cel (i := fi + r) (by omega) (by omega) rfl) ?_
    refine Fx.Rp ((pf g (fi + r))) (fun v1 => Fx.x_indexS rfl rfl rfl Try.underlying33 (s := 1) (by kernel_rfl) (by omega) (by omega) (by omega)) (Fx.R.eff (by rfl) ?_)
    refine Fx.L.own1 (x := Fx.rv .u64 (gA dk)) (u := .int .u64 ((gA dk) (fi + 2 * r + 2))) (by rfl) rfl rfl rfl rfl (by rfl) (by kernel_rfl) m4 (i := fi + r) (by omega) fun w2 m5 s4 z1 => ?_
    have b5 := s4.below b4 (Nat.le_trans hB b4.size) m4.blk.1
    refine Fx.Ln (Fx.Rp ((pf g (fi + 2 * r + 2))) (fun v1 => Fx.x_indexS rfl rfl rfl Try.underlying33 (s := 1) (by kernel_rfl) (by omega) (by omega) (by omega)) (Fx.R.eff (by rfl) ?_))
    refine Fx.L.own1 (x := Fx.updV (Fx.rv .u64 (gA dk)) (fi + r) (.int .u64 ((gA dk) (fi + 2 * r + 2)))) (u := .int .u64 ((gA dk) (fi + r))) (by rfl) rfl rfl rfl rfl (by rfl) (by kernel_rfl) m5 (i := fi + 2 * r + 2) (by omega) fun w3 m6 s5 z2 => ?_
    have b6 := s5.below b5 (Nat.le_trans hB b5.size) m5.blk.1
    have m7 : Fx.Own w3 B 28 1 (.slice (some ⟨g, 0, none⟩) n cap) n (Fx.rv .u64 (gA (Sort.swp dk (fi + r) (fi + 2 * r + 2)))) := m6.congr (swp_rv hk (by omega) (by omega))
    refine Fx.Ln (Fx.R.nil (Fx.sN (Fx.Wl (Fx.Lv (.int .i64 (2 * (r : Int) + 2)) (Fx.x_move rfl rfl) (Fx.Lv (.int .i64 (2 * (r : Int) + 2)) (Fx.x_assign rfl rfl) (Fx.Ln (Fx.blkN (Fx.lpN ⟨2 * r + 2, Sort.swp dk (fi + r) (fi + 2 * r + 2), (sz_swp hk _ _), (by rw [siftB (x0 := fi + r) (x1 := fi + 2 * r + 1) (x2 := fi + 2 * r + 2) (by omega) (by omega) rfl (by omega) (of_decide_eq_true c35), if_pos (of_decide_eq_true c51)] at hO; exact hO), (by omega), h1, (h2.trans Fx.ic), (h3.trans Fx.ic), (h4.trans Fx.ic), Fx.ic, m7, b6⟩ ?_))))))))
    show ((hi : Int) + lo - intOf ((.int .i64 (2 * (r : Int) + 2)))).toNat < _
    simp only [h5, intOf]; omega
   rw [Bool.not_eq_true] at c51
   refine Fx.Qt.call (v := .bool false) (by rfl) (fun v1 hv1 => Fx.rC (args := [.int .u64 ((gA dk) (fi + r)), .int .u64 ((gA dk) (fi + 2 * r + 2))]) rfl rfl Try.func30 rfl rfl) rfl (fun v1 hv1 => (s_less ((gA dk) (fi + r)) ((gA dk) (fi + 2 * r + 2)) _).mono fun e v2 h => ⟨by rw [h.1, c51], by rw [h.2]; exact hv1⟩) ?_
   refine Fx.Qv (.bool true) (fun v1 hv1 => Fx.x_notT rfl rfl) (Fx.Qt.nil ?_)
   intro wb3 hbwb3
   have s6 : Fx.Stp wb1.heap.size wb1 wb3 := Fx.Sb hbwb3
   have m8 := m2.stpB s6 (Nat.ne_of_lt (m2.lt))
   have b7 := s6.below b2 (Nat.le_trans hB b2.size) (Nat.le_trans hB b2.size)
   refine Fx.sN (Fx.Wc (b := true) rfl (fun _ => Fx.Wr (Fx.sR (Fx.blkR (Fx.lpR (Fx.blkR (⟨.tuple #[], Fx.ret0 Try.results35, ?_⟩)))))) (fun h => nomatch h))
   rw [siftB (x0 := fi + r) (x1 := fi + 2 * r + 1) (x2 := fi + 2 * r + 2) (by omega) (by omega) rfl (by omega) (of_decide_eq_true c35), if_neg (of_decide_eq_false c51)] at hO; subst hO; exact ⟨rfl, m8, b7⟩
  rw [Bool.not_eq_true] at c35
  refine Fx.Qt.call (v := .bool false) (by rfl) (fun v1 hv1 => Fx.rC (args := [.int .u64 ((gA dk) (fi + 2 * r + 1)), .int .u64 ((gA dk) (fi + 2 * r + 2))]) rfl rfl Try.func30 rfl rfl) rfl (fun v1 hv1 => (s_less ((gA dk) (fi + 2 * r + 1)) ((gA dk) (fi + 2 * r + 2)) _).mono fun e v2 h => ⟨by rw [h.1, c35], by rw [h.2]; exact hv1⟩) ?_
  refine Fx.Qv (.bool false) (fun v1 hv1 => Fx.x_pickT rfl rfl rfl) (Fx.Qt.nil ?_)
  intro wb4 hbwb4
  have s7 : Fx.Stp w1.heap.size w1 wb4 := Fx.Sb hbwb4
  have m9 := m1.stpB s7 (Nat.ne_of_lt (m1.lt))
  have b8 := s7.below b1 (Nat.le_trans hB b1.size) (Nat.le_trans hB b1.size)
  refine Fx.sN (Fx.Wc (b := false) rfl (fun h => nomatch h) (fun _ => Fx.Wk (Fx.sN (Fx.Ws (Fx.Ws ?_)))))
  -- region 5 draws
  refine Fx.W.quiet (fun v1 => Below wb4.heap.size wb4 v1) (by kernel_rfl) (by kernel_rfl) (Below.refl _ _).drew ?_
  refine Fx.Qv (.slice (some ⟨g, 0, none⟩) (n) (cap)) (fun v1 hv1 => Fx.x_move rfl h1) (Fx.Qv (.int .i64 ((fi : Int))) (fun v1 hv1 => Fx.x_move rfl h4) (Fx.Qv (.int .i64 ((r : Int))) (fun v1 hv1 => Fx.x_move rfl h5) (Fx.Qv (.int .i64 ((fi : Int) + (r : Int))) (fun v1 hv1 => Fx.x_add rfl rfl rfl Fx.io) (Fx.Qv ((pf g (fi + r))) (fun v1 hv1 => Fx.x_indexS rfl rfl rfl Try.underlying33 (s := 1) (by kernel_rfl) (by omega) (by omega) (by omega)) (Fx.Qv (.int .u64 ((gA dk) (fi + r))) (fun v1 hv1 => Fx.x_load1 (x := Fx.rv .u64 (gA dk)) rfl rfl (by kernel_rfl) (m9.cel.below hv1 (by have := m9.lt; omega)) (i := fi + r) (by omega) (by omega) rfl) (Fx.Qv (.slice (some ⟨g, 0, none⟩) (n) (cap)) (fun v1 hv1 => Fx.x_move rfl h1) (Fx.Qv (.int .i64 ((fi : Int))) (fun v1 hv1 => Fx.x_move rfl h4) (Fx.Qv (.int .i64 (2 * (r : Int) + 1)) (fun v1 hv1 => Fx.x_move rfl rfl) (Fx.Qv (.int .i64 ((fi : Int) + 2 * (r : Int) + 1)) (fun v1 hv1 => Fx.x_add rfl rfl rfl Fx.io) (Fx.Qv ((pf g (fi + 2 * r + 1))) (fun v1 hv1 => Fx.x_indexS rfl rfl rfl Try.underlying33 (s := 1) (by kernel_rfl) (by omega) (by omega) (by omega)) (Fx.Qv (.int .u64 ((gA dk) (fi + 2 * r + 1))) (fun v1 hv1 => Fx.x_load1 (x := Fx.rv .u64 (gA dk)) rfl rfl (by kernel_rfl) (m9.cel.below hv1 (by have := m9.lt; omega)) (i := fi + 2 * r + 1) (by omega) (by omega) rfl) ?_)))))))))))
  by_cases c51 : (decide ((gA dk) (fi + r) < (gA dk) (fi + 2 * r + 1))) = true
  ·refine Fx.Qt.call (v := .bool true) (by rfl) (fun v1 hv1 => Fx.rC (args := [.int .u64 ((gA dk) (fi + r)), .int .u64 ((gA dk) (fi + 2 * r + 1))]) rfl rfl Try.func30 rfl rfl) rfl (fun v1 hv1 => (s_less ((gA dk) (fi + r)) ((gA dk) (fi + 2 * r + 1)) _).mono fun e v2 h => ⟨by rw [h.1, c51], by rw [h.2]; exact hv1⟩) ?_
   refine Fx.Qv (.bool false) (fun v1 hv1 => Fx.x_notF rfl rfl) (Fx.Qt.nil ?_)
   intro wb5 hbwb5
   have s8 : Fx.Stp wb4.heap.size wb4 wb5 := Fx.Sb hbwb5
   have m10 := m9.stpB s8 (Nat.ne_of_lt (m9.lt))
   have b9 := s8.below b8 (Nat.le_trans hB b8.size) (Nat.le_trans hB b8.size)
   refine Fx.sN (Fx.Wc (b := false) rfl (fun h => nomatch h) (fun _ => Fx.Wk (Fx.sN (Fx.Ws ?_))))
   -- region 6 draws
   refine Fx.W.reord [0, 1, 2, 3, 4, 5, 6, 7, 8, 9, 10, 11, 12, 14, 15, 16, 17, 18, 13, 19, 20, 21, 22, 23] [0, 0, 0, 0, 0, 0, 0, 0, 0, 0, 0, 0, 0, 4, 0, 0, 0, 0, 0, 4, 0, 3, 0, 3] Fx.Mk Fx.Mk.refl Fx.Mk.trans (certs := [(21, 13, [13]), (23, 13, [13]), (21, 19, [19]), (23, 19, [19]), (22, 21, [21]), (23, 21, [21])]) (by kernel_rfl) (by kernel_rfl) (by kernel_rfl) (by kernel_rfl) (by kernel_rfl) fun wt2 hbwt2 hzwt2 => ?_
   have s9 : Fx.Stp wb5.heap.size wb5 wt2 := Fx.Sb hbwt2
   have m11 := m10.stpB s9 (Nat.ne_of_lt (m10.lt))
   have b10 := s9.below b9 (Nat.le_trans hB b9.size) (Nat.le_trans hB b9.size)
   refine Fx.Rp (.slice (some ⟨g, 0, none⟩) (n) (cap)) (fun v1 => Fx.x_move rfl h1) (Fx.Rp (.int .i64 ((fi : Int))) (fun v1 => Fx.x_move rfl h4) (Fx.Rp (.int .i64 ((r : Int))) (fun v1 => Fx.x_move rfl h5) (Fx.Rp (.int .i64 ((fi : Int) + (r : Int))) (fun v1 => Fx.x_add rfl rfl rfl Fx.io) (Fx.Rp (.slice (some ⟨g, 0, none⟩) (n) (cap)) (fun v1 => Fx.x_move rfl h1) (Fx.Rp (.int .i64 ((fi : Int))) (fun v1 => Fx.x_move rfl h4) (Fx.Rp (.int .i64 (2 * (r : Int) + 1)) (fun v1 => Fx.x_move rfl rfl) (Fx.Rp (.int .i64 ((fi : Int) + 2 * (r : Int) + 1)) (fun v1 => Fx.x_add rfl rfl rfl Fx.io) (Fx.Rp (.slice (some ⟨g, 0, none⟩) (n) (cap)) (fun v1 => Fx.x_move rfl h1) (Fx.Rp (.int .i64 ((fi : Int))) (fun v1 => Fx.x_move rfl h4) (Fx.Rp (.int .i64 (2 * (r : Int) + 1)) (fun v1 => Fx.x_move rfl rfl) (Fx.Rp (.int .i64 ((fi : Int) + 2 * (r : Int) + 1)) (fun v1 => Fx.x_add rfl rfl rfl Fx.io) (Fx.Rp ((pf g (fi + 2 * r + 1))) (fun v1 => Fx.x_indexS rfl rfl rfl Try.underlying33 (s := 1) (by kernel_rfl) (by omega) (by omega) (by omega)) (Fx.Rp (.slice (some ⟨g, 0, none⟩) (n) (cap)) (fun v1 => Fx.x_move rfl h1) (Fx.Rp (.int .i64 ((fi : Int))) (fun v1 => Fx.x_move rfl h4) (Fx.Rp (.int .i64 ((r : Int))) (fun v1 => Fx.x_move rfl h5) (Fx.Rp (.int .i64 ((fi : Int) + (r : Int))) (fun v1 => Fx.x_add rfl rfl rfl Fx.io) (Fx.Rp ((pf g (fi + r))) (fun v1 => Fx.x_indexS rfl rfl rfl Try.underlying33 (s := 1) (by kernel_rfl) (by omega) (by omega) (by omega)) (Fx.R.s (.int .u64 ((gA dk) (fi + 2 * r + 1))) (Fx.x_load1 (x := Fx.rv .u64 (gA dk)) rfl rfl (by kernel_rfl) m11.cel (i := fi + 2 * r + 1) (by omega) (by omega) rfl) ?_))))))))))))))))))
   refine Fx.R.s (.int .u64 ((gA dk) (fi + r))) (Fx.x_load1 (x := Fx.rv .u64 (gA dk)) rfl rfl (by kernel_rfl) m11.cel (i := fi + r) (by omega) (by omega) rfl) ?_
   refine Fx.Rp ((pf g (fi + r))) (fun v1 => Fx.x_indexS rfl rfl rfl Try.underlying33 (s := 1) (by kernel_rfl) (by omega) (by omega) (by omega)) (Fx.R.eff (by rfl) ?_)
   refine Fx.L.own1 (x := Fx.rv .u64 (gA dk)) (u := .int .u64 ((gA dk) (fi + 2 * r + 1))) (by rfl) rfl rfl rfl rfl (by rfl) (by kernel_rfl) m11 (i := fi + r) (by omega) fun w4 m12 s10 z3 => ?_
   have b11 := s10.below b10 (Nat.le_trans hB b10.size) m11.blk.1
   refine Fx.Ln (Fx.Rp ((pf g (fi + 2 * r + 1))) (fun v1 => Fx.x_indexS rfl rfl rfl Try.underlying33 (s := 1) (by kernel_rfl) (by omega) (by omega) (by omega)) (Fx.R.eff (by rfl) ?_))
   refine Fx.L.own1 (x := Fx.updV (Fx.rv .u64 (gA dk)) (fi + r) (.int .u64 ((gA dk) (fi + 2 * r + 1)))) (u := .int .u64 ((gA dk) (fi + r))) (by rfl) rfl rfl rfl rfl (by rfl) (by kernel_rfl) m12 (i := fi + 2 * r + 1) (by omega) fun w5 m13 s11 z4 => ?_
   have b12 := s11.below b11 (Nat.le_trans hB b11.size) m12.blk.1
   have m14 : Fx.Own w5 B 28 1 (.slice (some ⟨g, 0, none⟩) n cap) n (Fx.rv .u64 (gA (Sort.swp dk (fi + r) (fi + 2 * r + 1)))) := m13.congr (swp_rv hk (by omega) (by omega))
   refine Fx.Ln (Fx.R.nil (Fx.sN (Fx.Wl (Fx.Lv (.int .i64 (2 * (r : Int) + 1)) (Fx.x_move rfl rfl) (Fx.Lv (.int .i64 (2 * (r : Int) + 1)) (Fx.x_assign rfl rfl) (Fx.Ln (Fx.blkN (Fx.lpN ⟨2 * r + 1, Sort.swp dk (fi + r) (fi + 2 * r + 1), (sz_swp hk _ _), (by rw [siftA (x0 := fi + r) (x1 := fi + 2 * r + 1) (x2 := fi + 2 * r + 2) (by omega) (by omega) rfl (by omega) (.inr (of_decide_eq_false c35)), if_pos (of_decide_eq_true c51)] at hO; exact hO), (by omega), h1, (h2.trans Fx.ic), (h3.trans Fx.ic), (h4.trans Fx.ic), Fx.ic, m14, b12⟩ ?_))))))))
   show ((hi : Int) + lo - intOf ((.int .i64 (2 * (r : Int) + 1)))).toNat < _
   simp only [h5, intOf]; omega
  rw [Bool.not_eq_true] at c51
  refine Fx.Qt.call (v := .bool false) (by rfl) (fun v1 hv1 => Fx.rC (args := [.int .u64 ((gA dk) (fi + r)), .int .u64 ((gA dk) (fi + 2 * r + 1))]) rfl rfl Try.func30 rfl rfl) rfl (fun v1 hv1 => (s_less ((gA dk) (fi + r)) ((gA dk) (fi + 2 * r + 1)) _).mono fun e v2 h => ⟨by rw [h.1, c51], by rw [h.2]; exact hv1⟩) ?_
  refine Fx.Qv (.bool true) (fun v1 hv1 => Fx.x_notT rfl rfl) (Fx.Qt.nil ?_)
  intro wb6 hbwb6
  have s12 : Fx.Stp wb4.heap.size wb4 wb6 := Fx.Sb hbwb6
  have m15 := m9.stpB s12 (Nat.ne_of_lt (m9.lt))
  have b13 := s12.below b8 (Nat.le_trans hB b8.size) (Nat.le_trans hB b8.size)
  refine Fx.sN (Fx.Wc (b := true) rfl (fun _ => Fx.Wr (Fx.sR (Fx.blkR (Fx.lpR (Fx.blkR (⟨.tuple #[], Fx.ret0 Try.results35, ?_⟩)))))) (fun h => nomatch h))
  rw [siftA (x0 := fi + r) (x1 := fi + 2 * r + 1) (x2 := fi + 2 * r + 2) (by omega) (by omega) rfl (by omega) (.inr (of_decide_eq_false c35)), if_neg (of_decide_eq_false c51)] at hO; subst hO; exact ⟨rfl, m15, b13⟩
 refine Fx.Qv (.bool false) (fun v1 hv1 => Fx.x_lssF rfl rfl rfl c20) (Fx.Qv (.bool false) (fun v1 hv1 => Fx.x_move rfl rfl) (Fx.Qs (by rfl) rfl (Fx.Qs (by rfl) rfl (Fx.Qs (by rfl) rfl (Fx.Qs (by rfl) rfl (Fx.Qs (by rfl) rfl (Fx.Qs (by rfl) rfl (Fx.Qs (by rfl) rfl (Fx.Qs (by rfl) rfl (Fx.Qs (by rfl) rfl (Fx.Qs (by rfl) rfl (Fx.Qs (by rfl) rfl (Fx.Qs (by rfl) rfl (Fx.Qs (by rfl) rfl (Fx.Qs (by rfl) rfl (Fx.Qv (.bool false) (fun v1 hv1 => Fx.x_pickF rfl rfl rfl) (Fx.Qt.nil ?_)))))))))))))))))
 intro wb7 hbwb7
 have s13 : Fx.Stp w1.heap.size w1 wb7 := Fx.Sb hbwb7
 have m16 := m1.stpB s13 (Nat.ne_of_lt (m1.lt))
 have b14 := s13.below b1 (Nat.le_trans hB b1.size) (Nat.le_trans hB b1.size)
 refine Fx.sN (Fx.Wc (b := false) rfl (fun h => nomatch h) (fun _ => Fx.Wk (Fx.sN (Fx.Ws (Fx.Ws ?_)))))
 -- region 5 draws
 refine Fx.W.quiet (fun v1 => Below wb7.heap.size wb7 v1) (by kernel_rfl) (by kernel_rfl) (Below.refl _ _).drew ?_
 refine Fx.Qv (.slice (some ⟨g, 0, none⟩) (n) (cap)) (fun v1 hv1 => Fx.x_move rfl h1) (Fx.Qv (.int .i64 ((fi : Int))) (fun v1 hv1 => Fx.x_move rfl h4) (Fx.Qv (.int .i64 ((r : Int))) (fun v1 hv1 => Fx.x_move rfl h5) (Fx.Qv (.int .i64 ((fi : Int) + (r : Int))) (fun v1 hv1 => Fx.x_add rfl rfl rfl Fx.io) (Fx.Qv ((pf g (fi + r))) (fun v1 hv1 => Fx.x_indexS rfl rfl rfl Try.underlying33 (s := 1) (by kernel_rfl) (by omega) (by omega) (by omega)) (Fx.Qv (.int .u64 ((gA dk) (fi + r))) (fun v1 hv1 => Fx.x_load1 (x := Fx.rv .u64 (gA dk)) rfl rfl (by kernel_rfl) (m16.cel.below hv1 (by have := m16.lt; omega)) (i := fi + r) (by omega) (by omega) rfl) (Fx.Qv (.slice (some ⟨g, 0, none⟩) (n) (cap)) (fun v1 hv1 => Fx.x_move rfl h1) (Fx.Qv (.int .i64 ((fi : Int))) (fun v1 hv1 => Fx.x_move rfl h4) (Fx.Qv (.int .i64 (2 * (r : Int) + 1)) (fun v1 hv1 => Fx.x_move rfl rfl) (Fx.Qv (.int .i64 ((fi : Int) + 2 * (r : Int) + 1)) (fun v1 hv1 => Fx.x_add rfl rfl rfl Fx.io) (Fx.Qv ((pf g (fi + 2 * r + 1))) (fun v1 hv1 => Fx.x_indexS rfl rfl rfl Try.underlying33 (s := 1) (by kernel_rfl) (by omega) (by omega) (by omega)) (Fx.Qv (.int .u64 ((gA dk) (fi + 2 * r + 1))) (fun v1 hv1 => Fx.x_load1 (x := Fx.rv .u64 (gA dk)) rfl rfl (by kernel_rfl) (m16.cel.below hv1 (by have := m16.lt; omega)) (i := fi + 2 * r + 1) (by omega) (by omega) rfl) ?_)))))))))))
 by_cases c51 : (decide ((gA dk) (fi + r) < (gA dk) (fi + 2 * r + 1))) = true
 ·refine Fx.Qt.call (v := .bool true) (by rfl) (fun v1 hv1 => Fx.rC (args := [.int .u64 ((gA dk) (fi + r)), .int .u64 ((gA dk) (fi + 2 * r + 1))]) rfl rfl Try.func30 rfl rfl) rfl (fun v1 hv1 => (s_less ((gA dk) (fi + r)) ((gA dk) (fi + 2 * r + 1)) _).mono fun e v2 h => ⟨by rw [h.1, c51], by rw [h.2]; exact hv1⟩) ?_
  refine Fx.Qv (.bool false) (fun v1 hv1 => Fx.x_notF rfl rfl) (Fx.Qt.nil ?_)
  intro wb8 hbwb8
  have s14 : Fx.Stp wb7.heap.size wb7 wb8 := Fx.Sb hbwb8
  have m17 := m16.stpB s14 (Nat.ne_of_lt (m16.lt))
  have b15 := s14.below b14 (Nat.le_trans hB b14.size) (Nat.le_trans hB b14.size)
  refine Fx.sN (Fx.Wc (b := false) rfl (fun h => nomatch h) (fun _ => Fx.Wk (Fx.sN (Fx.Ws ?_))))
  -- region 6 draws
  refine Fx.W.reord [0, 1, 2, 3, 4, 5, 6, 7, 8, 9, 10, 11, 12, 14, 15, 16, 17, 18, 13, 19, 20, 21, 22, 23] [0, 0, 0, 0, 0, 0, 0, 0, 0, 0, 0, 0, 0, 4, 0, 0, 0, 0, 0, 4, 0, 3, 0, 3] Fx.Mk Fx.Mk.refl Fx.Mk.trans (certs := [(21, 13, [13]), (23, 13, [13]), (21, 19, [19]), (23, 19, [19]), (22, 21, [21]), (23, 21, [21])]) (by kernel_rfl) (by kernel_rfl) (by kernel_rfl) (by kernel_rfl) (by kernel_rfl) fun wt3 hbwt3 hzwt3 => ?_
  have s15 : Fx.Stp wb8.heap.size wb8 wt3 := Fx.Sb hbwt3
  have m18 := m17.stpB s15 (Nat.ne_of_lt (m17.lt))
  have b16 := s15.below b15 (Nat.le_trans hB b15.size) (Nat.le_trans hB b15.size)
  refine Fx.Rp (.slice (some ⟨g, 0, none⟩) (n) (cap)) (fun v1 => Fx.x_move rfl h1) (Fx.Rp (.int .i64 ((fi : Int))) (fun v1 => Fx.x_move rfl h4) (Fx.Rp (.int .i64 ((r : Int))) (fun v1 => Fx.x_move rfl h5) (Fx.Rp (.int .i64 ((fi : Int) + (r : Int))) (fun v1 => Fx.x_add rfl rfl rfl Fx.io) (Fx.Rp (.slice (some ⟨g, 0, none⟩) (n) (cap)) (fun v1 => Fx.x_move rfl h1) (Fx.Rp (.int .i64 ((fi : Int))) (fun v1 => Fx.x_move rfl h4) (Fx.Rp (.int .i64 (2 * (r : Int) + 1)) (fun v1 => Fx.x_move rfl rfl) (Fx.Rp (.int .i64 ((fi : Int) + 2 * (r : Int) + 1)) (fun v1 => Fx.x_add rfl rfl rfl Fx.io) (Fx.Rp (.slice (some ⟨g, 0, none⟩) (n) (cap)) (fun v1 => Fx.x_move rfl h1) (Fx.Rp (.int .i64 ((fi : Int))) (fun v1 => Fx.x_move rfl h4) (Fx.Rp (.int .i64 (2 * (r : Int) + 1)) (fun v1 => Fx.x_move rfl rfl) (Fx.Rp (.int .i64 ((fi : Int) + 2 * (r : Int) + 1)) (fun v1 => Fx.x_add rfl rfl rfl Fx.io) (Fx.Rp ((pf g (fi + 2 * r + 1))) (fun v1 => Fx.x_indexS rfl rfl rfl Try.underlying33 (s := 1) (by kernel_rfl) (by omega) (by omega) (by omega)) (Fx.Rp (.slice (some ⟨g, 0, none⟩) (n) (cap)) (fun v1 => Fx.x_move rfl h1) (Fx.Rp (.int .i64 ((fi : Int))) (fun v1 => Fx.x_move rfl h4) (Fx.Rp (.int .i64 ((r : Int))) (fun v1 => Fx.x_move rfl h5) (Fx.Rp (.int .i64 ((fi : Int) + (r : Int))) (fun v1 => Fx.x_add rfl rfl rfl Fx.io) (Fx.Rp ((pf g (fi + r))) (fun v1 => Fx.x_indexS rfl rfl rfl Try.underlying33 (s := 1) (by kernel_rfl) (by omega) (by omega) (by omega)) (Fx.R.s (.int .u64 ((gA dk) (fi + 2 * r + 1))) (Fx.x_load1 (x := Fx.rv .u64 (gA dk)) rfl rfl (by kernel_rfl) m18.cel (i := fi + 2 * r + 1) (by omega) (by omega) rfl) ?_))))))))))))))))))
  refine Fx.R.s (.int .u64 ((gA dk) (fi + r))) (Fx.x_load1 (x := Fx.rv .u64 (gA dk)) rfl rfl (by kernel_rfl) m18.cel (i := fi + r) (by omega) (by omega) rfl) ?_
  refine Fx.Rp ((pf g (fi + r))) (fun v1 => Fx.x_indexS rfl rfl rfl Try.underlying33 (s := 1) (by kernel_rfl) (by omega) (by omega) (by omega)) (Fx.R.eff (by rfl) ?_)
  refine Fx.L.own1 (x := Fx.rv .u64 (gA dk)) (u := .int .u64 ((gA dk) (fi + 2 * r + 1))) (by rfl) rfl rfl rfl rfl (by rfl) (by kernel_rfl) m18 (i := fi + r) (by omega) fun w6 m19 s16 z5 => ?_
  have b17 := s16.below b16 (Nat.le_trans hB b16.size) m18.blk.1
  refine Fx.Ln (Fx.Rp ((pf g (fi + 2 * r + 1))) (fun v1 => Fx.x_indexS rfl rfl rfl Try.underlying33 (s := 1) (by kernel_rfl) (by omega) (by omega) (by omega)) (Fx.R.eff (by rfl) ?_))
  refine Fx.L.own1 (x := Fx.updV (Fx.rv .u64 (gA dk)) (fi + r) (.int .u64 ((gA dk) (fi + 2 * r + 1)))) (u := .int .u64 ((gA dk) (fi + r))) (by rfl) rfl rfl rfl rfl (by rfl) (by kernel_rfl) m19 (i := fi + 2 * r + 1) (by omega) fun w7 m20 s17 z6 => ?_
  have b18 := s17.below b17 (Nat.le_trans hB b17.size) m19.blk.1
  have m21 : Fx.Own w7 B 28 1 (.slice (some ⟨g, 0, none⟩) n cap) n (Fx.rv .u64 (gA (Sort.swp dk (fi + r) (fi + 2 * r + 1)))) := m20.congr (swp_rv hk (by omega) (by omega))
  refine Fx.Ln (Fx.R.nil (Fx.sN (Fx.Wl (Fx.Lv (.int .i64 (2 * (r : Int) + 1)) (Fx.x_move rfl rfl) (Fx.Lv (.int .i64 (2 * (r : Int) + 1)) (Fx.x_assign rfl rfl) (Fx.Ln (Fx.blkN (Fx.lpN ⟨2 * r + 1, Sort.swp dk (fi + r) (fi + 2 * r + 1), (sz_swp hk _ _), (by rw [siftA (x0 := fi + r) (x1 := fi + 2 * r + 1) (x2 := fi + 2 * r + 2) (by omega) (by omega) rfl (by omega) (.inl (by omega)), if_pos (of_decide_eq_true c51)] at hO; exact hO), (by omega), h1, (h2.trans Fx.ic), (h3.trans Fx.ic), (h4.trans Fx.ic), Fx.ic, m21, b18⟩ ?_))))))))
  show ((hi : Int) + lo - intOf ((.int .i64 (2 * (r : Int) + 1)))).toNat < _
  simp only [h5, intOf]; omega
 rw [Bool.not_eq_true] at c51
 refine Fx.Qt.call (v := .bool false) (by rfl) (fun v1 hv1 => Fx.rC (args := [.int .u64 ((gA dk) (fi + r)), .int .u64 ((gA dk) (fi + 2 * r + 1))]) rfl rfl Try.func30 rfl rfl) rfl (fun v1 hv1 => (s_less ((gA dk) (fi + r)) ((gA dk) (fi + 2 * r + 1)) _).mono fun e v2 h => ⟨by rw [h.1, c51], by rw [h.2]; exact hv1⟩) ?_
 refine Fx.Qv (.bool true) (fun v1 hv1 => Fx.x_notT rfl rfl) (Fx.Qt.nil ?_)
 intro wb9 hbwb9
 have s18 : Fx.Stp wb7.heap.size wb7 wb9 := Fx.Sb hbwb9
 have m22 := m16.stpB s18 (Nat.ne_of_lt (m16.lt))
 have b19 := s18.below b14 (Nat.le_trans hB b14.size) (Nat.le_trans hB b14.size)
 refine Fx.sN (Fx.Wc (b := true) rfl (fun _ => Fx.Wr (Fx.sR (Fx.blkR (Fx.lpR (Fx.blkR (⟨.tuple #[], Fx.ret0 Try.results35, ?_⟩)))))) (fun h => nomatch h))
 rw [siftA (x0 := fi + r) (x1 := fi + 2 * r + 1) (x2 := fi + 2 * r + 2) (by omega) (by omega) rfl (by omega) (.inl (by omega)), if_neg (of_decide_eq_false c51)] at hO; subst hO; exact ⟨rfl, m22, b19⟩
theorem s_siftI {loI hiI fiI : Int} (lo hi fi : Nat) (elo : loI = (lo : Int)) (ehi : hiI = (hi : Int)) (efi : fiI = (fi : Int)) (B g n cap : Nat) (d : Array Int) (w : World) (h : Fx.Own w B 28 1 (.slice (some ⟨g, 0, none⟩) n cap) n (Fx.rv .u64 (gA d))) (hB : B ≤ w.heap.size) (hn : d.size = n) (hs : n ≤ 1000) (hf : fi + hi ≤ n ∧ lo ≤ 1000) :
    Calls Try.prog 35 #[.slice (some ⟨g, 0, none⟩) (n) (cap), .int .i64 (loI), .int .i64 (hiI), .int .i64 (fiI)] w fun e w' => e = .returned (.tuple #[]) ∧ Fx.Own w' B 28 1 (.slice (some ⟨g, 0, none⟩) n cap) n (Fx.rv .u64 (gA (Sort.siftDown Sort.ltInt hi fi lo d))) ∧ Below B w w' := by
  subst elo ehi efi; exact s_sift lo hi fi B g n cap d w h hB hn hs hf
theorem s_heap (a b : Nat) (B g n cap : Nat) (d : Array Int) (w : World) (h : Fx.Own w B 28 1 (.slice (some ⟨g, 0, none⟩) n cap) n (Fx.rv .u64 (gA d))) (hB : B ≤ w.heap.size) (hn : d.size = n) (hs : n ≤ 1000) (ha : a < b) (hb : b ≤ n) :
    Calls Try.prog 25 #[.slice (some ⟨g, 0, none⟩) (n) (cap), .int .i64 ((a : Int)), .int .i64 ((b : Int))] w fun e w' => e = .returned (.tuple #[]) ∧ Fx.Own w' B 28 1 (.slice (some ⟨g, 0, none⟩) n cap) n (Fx.rv .u64 (gA (Sort.heapSort Sort.ltInt d a b))) ∧ Below B w w' := by
 obtain ⟨m0, hm0⟩ : ∃ m0, m0 = (b - a - 1) / 2 := ⟨_, rfl⟩
 refine Fx.enter Try.func25 rfl (n := 56) rfl (by rfl) ?_
 refine Fx.Ws (Fx.Wl (Fx.Lv (.int .i64 ((a : Int))) (Fx.x_move rfl rfl) (Fx.Lv (.int .i64 ((a : Int))) (Fx.x_assign rfl rfl) (Fx.Ln (Fx.sN (Fx.Ws (Fx.Wl (Fx.Lv (.int .i64 (0)) (Fx.x_assign rfl rfl) (Fx.Ln (Fx.sN (Fx.Ws (Fx.Wl (Fx.Lv (.int .i64 ((b : Int))) (Fx.x_move rfl rfl) (Fx.Lv (.int .i64 ((a : Int))) (Fx.x_move rfl rfl) (Fx.Lv (.int .i64 ((b : Int) - (a : Int))) (Fx.x_sub rfl rfl rfl Fx.io) (Fx.Lv (.int .i64 ((b : Int) - (a : Int))) (Fx.x_assign rfl rfl) (Fx.Ln (Fx.sN (Fx.Ws (Fx.Ws (Fx.Wl (Fx.Lv (.int .i64 ((b : Int) - (a : Int))) (Fx.x_move rfl rfl) (Fx.Lv (.int .i64 ((b : Int) - (a : Int) - 1)) (Fx.x_sub rfl rfl rfl Fx.io) (Fx.Lv (.int .i64 ((m0 : Int))) (Fx.x_quo rfl rfl rfl (by omega) (Fx.i64e (by omega) (by rw [Int.tdiv_eq_ediv_of_nonneg (by omega)]; omega))) (Fx.Lv (.int .i64 ((m0 : Int))) (Fx.x_assign rfl rfl) (Fx.Ln (Fx.sN (Fx.W.block (Fx.W.loop (fun f w_ => ∃ k : Nat, ∃ dk : Array Int, dk.size = n ∧ Sort.heapBuild Sort.ltInt (b - a) a k dk = Sort.heapBuild Sort.ltInt (b - a) a (m0 + 1) d ∧ k ≤ m0 + 1 ∧ f 0 = .slice (some ⟨g, 0, none⟩) (n) (cap) ∧ f 1 = .int .i64 ((a : Int)) ∧ f 2 = .int .i64 ((b : Int)) ∧ f 6 = .int .i64 ((a : Int)) ∧ f 7 = .int .i64 (0) ∧ f 8 = .int .i64 ((b : Int) - (a : Int)) ∧ f 9 = .int .i64 ((k : Int) - 1) ∧ Fx.Own w_ B 28 1 (.slice (some ⟨g, 0, none⟩) n cap) n (Fx.rv .u64 (gA dk)) ∧ Below B w w_) (fun f _ => (intOf (f 9) + 1).toNat) ⟨m0 + 1, d, hn, rfl, (by omega), (by rfl), Fx.ic, Fx.ic, Fx.ic, Fx.ic, Fx.ic, Fx.ic, h, (Below.refl B w)⟩ ?_)))))))))))))))))))))))))))))
 rintro f1 w1 ⟨k, dk, hk, hO, hkm, h1, h2, h3, h4, h5, h6, h7, m1, b1⟩
 refine Fx.Ws (Fx.Ws (Fx.Wl (Fx.Lv (.int .i64 ((k : Int) - 1)) (Fx.x_move rfl h7) ?_)))
 by_cases c19 : 0 ≤ ((k : Int) - 1)
 ·refine Fx.Lv (.bool true) (Fx.x_geqT rfl rfl rfl c19) (Fx.Ln (Fx.sN (Fx.Wc (b := true) rfl (fun _ => Fx.Wk (Fx.sN (Fx.Ws (Fx.W.block (Fx.Wl (Fx.Lv (.slice (some ⟨g, 0, none⟩) (n) (cap)) (Fx.x_move rfl h1) ?_)))))) (fun h => nomatch h))))
  refine Fx.Lv (.int .i64 ((k : Int) - 1)) (Fx.x_move rfl h7) (Fx.Lv (.int .i64 ((b : Int) - (a : Int))) (Fx.x_move rfl h6) (Fx.Lv (.int .i64 ((a : Int))) (Fx.x_move rfl h4) (Fx.L.call (by rfl) (Fx.rC (args := [.slice (some ⟨g, 0, none⟩) (n) (cap), .int .i64 ((k : Int) - 1), .int .i64 ((b : Int) - (a : Int)), .int .i64 ((a : Int))]) rfl rfl Try.func35 rfl rfl) rfl ((s_siftI (k - 1) (b - a) a (by omega) (by omega) (by omega) B g n cap dk _ m1 (Nat.le_trans hB b1.size) hk hs ⟨by omega, by omega⟩).mono ?_))))
  rintro e9 w2 ⟨he, m2, hb1⟩
  refine ⟨_, he, ?_⟩
  clear he
  have b2 := b1.trans hb1
  refine Fx.Ln (Fx.blkN (Fx.sN (Fx.Wl (Fx.Lv (.int .i64 ((k : Int) - 1)) (Fx.x_move rfl h7) (Fx.Lv (.int .i64 ((k : Int) - 2)) (Fx.x_sub rfl rfl rfl Fx.io) (Fx.Lv (.int .i64 ((k : Int) - 2)) (Fx.x_assign rfl rfl) (Fx.Ln (Fx.lpN ⟨k - 1, Sort.siftDown Sort.ltInt (b - a) a (k - 1) dk, (sz_sift (by omega) _ _ _ (Nat.le_refl _) hk), ((build_go (by omega)).trans hO), (by omega), h1, (h2.trans Fx.ic), (h3.trans Fx.ic), (h4.trans Fx.ic), (h5.trans Fx.ic), (h6.trans Fx.ic), Fx.ic, m2, b2⟩ ?_))))))))
  show (intOf ((.int .i64 ((k : Int) - 2))) + 1).toNat < _
  simp only [h7, intOf]; omega
 refine Fx.Lv (.bool false) (Fx.x_geqF rfl rfl rfl c19) (Fx.Ln (Fx.sN (Fx.Wc (b := false) rfl (fun h => nomatch h) (fun _ => Fx.W.exit (Fx.seqX (Fx.lpX (Fx.blkX (Fx.sN (Fx.Ws (Fx.Wl (Fx.Lv (.int .i64 ((b : Int) - (a : Int))) (Fx.x_move rfl h6) (Fx.Lv (.int .i64 ((b : Int) - (a : Int) - 1)) (Fx.x_sub rfl rfl rfl Fx.io) (Fx.Lv (.int .i64 ((b : Int) - (a : Int) - 1)) (Fx.x_assign rfl rfl) (Fx.Ln (Fx.sN (Fx.W.block ?_))))))))))))))))
 obtain rfl : k = 0 := by omega
 obtain ⟨d1, hd1⟩ : ∃ d1, d1 = dk := ⟨_, rfl⟩
 refine Fx.W.loop (fun f w_ => ∃ k2 : Nat, ∃ dp : Array Int, dp.size = n ∧ Sort.heapPop Sort.ltInt a k2 dp = Sort.heapPop Sort.ltInt a (b - a) dk ∧ k2 ≤ b - a ∧ f 0 = .slice (some ⟨g, 0, none⟩) (n) (cap) ∧ f 1 = .int .i64 ((a : Int)) ∧ f 2 = .int .i64 ((b : Int)) ∧ f 6 = .int .i64 ((a : Int)) ∧ f 7 = .int .i64 (0) ∧ f 10 = .int .i64 ((k2 : Int) - 1) ∧ Fx.Own w_ B 28 1 (.slice (some ⟨g, 0, none⟩) n cap) n (Fx.rv .u64 (gA dp)) ∧ Below B w w_) (fun f _ => (intOf (f 10) + 1).toNat) ⟨b - a, dk, hk, rfl, (by omega), h1, (h2.trans Fx.ic), (h3.trans Fx.ic), (h4.trans Fx.ic), (h5.trans Fx.ic), Fx.ic, m1, b1⟩ ?_
 rintro f2 w3 ⟨k2, dp, hp, hP, hkp, h8, h9, h10, h11, h12, h13, m3, b3⟩
 refine Fx.Ws (Fx.Ws (Fx.Wl (Fx.Lv (.int .i64 ((k2 : Int) - 1)) (Fx.x_move rfl h13) ?_)))
 by_cases c30 : 0 ≤ ((k2 : Int) - 1)
 ·refine Fx.Lv (.bool true) (Fx.x_geqT rfl rfl rfl c30) (Fx.Ln (Fx.sN (Fx.Wc (b := true) rfl (fun _ => Fx.Wk (Fx.sN (Fx.Ws (Fx.W.block (Fx.Ws ?_))))) (fun h => nomatch h))))
  -- region 10 draws
  refine Fx.W.reord [0, 1, 2, 3, 4, 5, 6, 7, 8, 9, 10, 12, 13, 14, 11, 15, 16, 17, 18, 19] [0, 0, 0, 0, 0, 0, 0, 0, 0, 0, 0, 4, 0, 0, 0, 4, 0, 3, 0, 3] Fx.Mk Fx.Mk.refl Fx.Mk.trans (certs := [(17, 11, [11]), (19, 11, [11]), (17, 15, [15]), (19, 15, [15]), (18, 17, [17]), (19, 17, [17])]) (by kernel_rfl) (by kernel_rfl) (by kernel_rfl) (by kernel_rfl) (by kernel_rfl) fun wt1 hbwt1 hzwt1 => ?_
  have s1 : Fx.Stp w3.heap.size w3 wt1 := Fx.Sb hbwt1
  have m4 := m3.stpB s1 (Nat.ne_of_lt (m3.lt))
  have b4 := s1.below b3 (Nat.le_trans hB b3.size) (Nat.le_trans hB b3.size)
  refine Fx.Rp (.slice (some ⟨g, 0, none⟩) (n) (cap)) (fun v1 => Fx.x_move rfl h8) (Fx.Rp (.int .i64 ((a : Int))) (fun v1 => Fx.x_move rfl h11) (Fx.Rp (.slice (some ⟨g, 0, none⟩) (n) (cap)) (fun v1 => Fx.x_move rfl h8) (Fx.Rp (.int .i64 ((a : Int))) (fun v1 => Fx.x_move rfl h11) (Fx.Rp (.int .i64 ((k2 : Int) - 1)) (fun v1 => Fx.x_move rfl h13) (Fx.Rp (.int .i64 ((a : Int) + (k2 : Int) - 1)) (fun v1 => Fx.x_add rfl rfl rfl Fx.io) (Fx.Rp (.slice (some ⟨g, 0, none⟩) (n) (cap)) (fun v1 => Fx.x_move rfl h8) (Fx.Rp (.int .i64 ((a : Int))) (fun v1 => Fx.x_move rfl h11) (Fx.Rp (.int .i64 ((k2 : Int) - 1)) (fun v1 => Fx.x_move rfl h13) (Fx.Rp (.int .i64 ((a : Int) + (k2 : Int) - 1)) (fun v1 => Fx.x_add rfl rfl rfl Fx.io) (Fx.Rp ((pf g (a + k2 - 1))) (fun v1 => Fx.x_indexS rfl rfl rfl Try.underlying33 (s := 1) (by kernel_rfl) (by omega) (by omega) (by omega)) (Fx.Rp (.slice (some ⟨g, 0, none⟩) (n) (cap)) (fun v1 => Fx.x_move rfl h8) (Fx.Rp (.int .i64 ((a : Int))) (fun v1 => Fx.x_move rfl h11) (Fx.Rp ((pf g a)) (fun v1 => Fx.x_indexS rfl rfl rfl Try.underlying33 (s := 1) (by kernel_rfl) (by omega) (by omega) (by omega)) (Fx.R.s (.int .u64 ((gA dp) (a + k2 - 1))) (Fx.x_load1 (x := Fx.rv .u64 (gA dp)) rfl rfl (by kernel_rfl) m4.cel (i := a + k2 - 1) (by omega) (by omega) rfl) ?_))))))))))))))
  refine Fx.R.s (.int .u64 ((gA dp) a)) (Fx.x_load1 (x := Fx.rv .u64 (gA dp)) rfl rfl (by kernel_rfl) m4.cel (i := a) (by omega) (by omega) rfl) ?_
  refine Fx.Rp ((pf g a)) (fun v1 => Fx.x_indexS rfl rfl rfl Try.underlying33 (s := 1) (by kernel_rfl) (by omega) (by omega) (by omega)) (Fx.R.eff (by rfl) ?_)
  refine Fx.L.own1 (x := Fx.rv .u64 (gA dp)) (u := .int .u64 ((gA dp) (a + k2 - 1))) (by rfl) rfl rfl rfl rfl (by rfl) (by kernel_rfl) m4 (i := a) (by omega) fun w4 m5 s2 z1 => ?_
  have b5 := s2.below b4 (Nat.le_trans hB b4.size) m4.blk.1
  refine Fx.Ln (Fx.Rp ((pf g (a + k2 - 1))) (fun v1 => Fx.x_indexS rfl rfl rfl Try.underlying33 (s := 1) (by kernel_rfl) (by omega) (by omega) (by omega)) (Fx.R.eff (by rfl) ?_))
  refine Fx.L.own1 (x := Fx.updV (Fx.rv .u64 (gA dp)) a (.int .u64 ((gA dp) (a + k2 - 1)))) (u := .int .u64 ((gA dp) a)) (by rfl) rfl rfl rfl rfl (by rfl) (by kernel_rfl) m5 (i := a + k2 - 1) (by omega) fun w5 m6 s3 z2 => ?_
  have b6 := s3.below b5 (Nat.le_trans hB b5.size) m5.blk.1
  have m7 : Fx.Own w5 B 28 1 (.slice (some ⟨g, 0, none⟩) n cap) n (Fx.rv .u64 (gA (Sort.swp dp a (a + k2 - 1)))) := m6.congr (swp_rv hp (by omega) (by omega))
  refine Fx.Ln (Fx.R.nil (Fx.sN (Fx.Wl (Fx.Lv (.slice (some ⟨g, 0, none⟩) (n) (cap)) (Fx.x_move rfl h8) (Fx.Lv (.int .i64 (0)) (Fx.x_move rfl h12) (Fx.Lv (.int .i64 ((k2 : Int) - 1)) (Fx.x_move rfl h13) (Fx.Lv (.int .i64 ((a : Int))) (Fx.x_move rfl h11) (Fx.L.call (by rfl) (Fx.rC (args := [.slice (some ⟨g, 0, none⟩) (n) (cap), .int .i64 (0), .int .i64 ((k2 : Int) - 1), .int .i64 ((a : Int))]) rfl rfl Try.func35 rfl rfl) rfl ((s_siftI 0 (k2 - 1) a (by omega) (by omega) (by omega) B g n cap (Sort.swp dp a (a + k2 - 1)) _ m7 (Nat.le_trans hB b6.size) (sz_swp hp _ _) hs ⟨by omega, by omega⟩).mono ?_)))))))))
  rintro e9 w6 ⟨he, m8, hb2⟩
  refine ⟨_, he, ?_⟩
  clear he
  have b7 := b6.trans hb2
  refine Fx.Ln (Fx.blkN (Fx.sN (Fx.Wl (Fx.Lv (.int .i64 ((k2 : Int) - 1)) (Fx.x_move rfl h13) (Fx.Lv (.int .i64 ((k2 : Int) - 2)) (Fx.x_sub rfl rfl rfl Fx.io) (Fx.Lv (.int .i64 ((k2 : Int) - 2)) (Fx.x_assign rfl rfl) (Fx.Ln (Fx.lpN ⟨k2 - 1, Sort.siftDown Sort.ltInt (k2 - 1) a 0 (Sort.swp dp a (a + k2 - 1)), (sz_sift (by omega) _ _ _ (Nat.le_refl _) (sz_swp hp _ _)), ((pop_go (x := a + k2 - 1) (by omega) (by omega)).trans hP), (by omega), h8, (h9.trans Fx.ic), (h10.trans Fx.ic), (h11.trans Fx.ic), (h12.trans Fx.ic), Fx.ic, m8, b7⟩ ?_))))))))
  show (intOf ((.int .i64 ((k2 : Int) - 2))) + 1).toNat < _
  simp only [h13, intOf]; omega
 refine Fx.Lv (.bool false) (Fx.x_geqF rfl rfl rfl c30) (Fx.Ln (Fx.sN (Fx.Wc (b := false) rfl (fun h => nomatch h) (fun _ => Fx.W.exit (Fx.seqX (Fx.lpX (Fx.blkX (⟨.tuple #[], Fx.ret0 Try.results25, ?_⟩))))))))
 obtain rfl : k2 = 0 := by omega
 unfold Sort.heapSort; rw [← hm0, ← hO, show Sort.heapBuild Sort.ltInt (b - a) a 0 dk = dk from rfl, ← hP]; exact ⟨rfl, m3, b3⟩
theorem s_rev (a b : Nat) (B g n cap : Nat) (d : Array Int) (w : World) (h : Fx.Own w B 28 1 (.slice (some ⟨g, 0, none⟩) n cap) n (Fx.rv .u64 (gA d))) (hB : B ≤ w.heap.size) (hn : d.size = n) (hs : n ≤ 1000) (ha : a < b) (hb : b ≤ n) :
    Calls Try.prog 28 #[.slice (some ⟨g, 0, none⟩) (n) (cap), .int .i64 ((a : Int)), .int .i64 ((b : Int))] w fun e w' => e = .returned (.tuple #[]) ∧ Fx.Own w' B 28 1 (.slice (some ⟨g, 0, none⟩) n cap) n (Fx.rv .u64 (gA (Sort.reverseRange d a b))) ∧ Below B w w' := by
 refine Fx.enter Try.func28 rfl (n := 32) rfl (by rfl) ?_
 refine Fx.Ws (Fx.Wl (Fx.Lv (.int .i64 ((a : Int))) (Fx.x_move rfl rfl) (Fx.Lv (.int .i64 ((a : Int))) (Fx.x_assign rfl rfl) (Fx.Ln (Fx.sN (Fx.Ws (Fx.Wl (Fx.Lv (.int .i64 ((b : Int))) (Fx.x_move rfl rfl) (Fx.Lv (.int .i64 ((b : Int) - 1)) (Fx.x_sub rfl rfl rfl Fx.io) (Fx.Lv (.int .i64 ((b : Int) - 1)) (Fx.x_assign rfl rfl) (Fx.Ln (Fx.sN (Fx.W.block (Fx.W.loop (fun f w_ => ∃ i : Nat, ∃ j : Nat, ∃ dk : Array Int, dk.size = n ∧ (a ≤ i ∧ j < b ∧ i ≤ b) ∧ Sort.reverseLoop i j dk = Sort.reverseLoop a (b - 1) d ∧ f 0 = .slice (some ⟨g, 0, none⟩) (n) (cap) ∧ f 1 = .int .i64 ((a : Int)) ∧ f 2 = .int .i64 ((b : Int)) ∧ f 6 = .int .i64 ((i : Int)) ∧ f 7 = .int .i64 ((j : Int)) ∧ Fx.Own w_ B 28 1 (.slice (some ⟨g, 0, none⟩) n cap) n (Fx.rv .u64 (gA dk)) ∧ Below B w w_) (fun f _ => ((b : Int) - intOf (f 6)).toNat) ⟨a, b - 1, d, hn, (by omega), rfl, (by rfl), Fx.ic, Fx.ic, Fx.ic, Fx.ic, h, (Below.refl B w)⟩ ?_))))))))))))))
 rintro f1 w1 ⟨i, j, dk, hk, hij, hO, h1, h2, h3, h4, h5, m1, b1⟩
 refine Fx.Ws (Fx.Ws (Fx.Wl (Fx.Lv (.int .i64 ((i : Int))) (Fx.x_move rfl h4) (Fx.Lv (.int .i64 ((j : Int))) (Fx.x_move rfl h5) ?_))))
 by_cases c13 : (i : Int) < (j : Int)
 ·refine Fx.Lv (.bool true) (Fx.x_lssT rfl rfl rfl c13) (Fx.Ln (Fx.sN (Fx.Wc (b := true) rfl (fun _ => Fx.Wk (Fx.sN (Fx.W.block (Fx.Ws ?_)))) (fun h => nomatch h))))
  -- region 3 draws
  refine Fx.W.reord [0, 1, 2, 3, 4, 5, 6, 8, 9, 10, 7, 11, 12, 13, 14, 15] [0, 0, 0, 0, 0, 0, 0, 4, 0, 0, 0, 4, 0, 3, 0, 3] Fx.Mk Fx.Mk.refl Fx.Mk.trans (certs := [(13, 7, [7]), (15, 7, [7]), (13, 11, [11]), (15, 11, [11]), (14, 13, [13]), (15, 13, [13])]) (by kernel_rfl) (by kernel_rfl) (by kernel_rfl) (by kernel_rfl) (by kernel_rfl) fun wt1 hbwt1 hzwt1 => ?_
  have s1 : Fx.Stp w1.heap.size w1 wt1 := Fx.Sb hbwt1
  have m2 := m1.stpB s1 (Nat.ne_of_lt (m1.lt))
  have b2 := s1.below b1 (Nat.le_trans hB b1.size) (Nat.le_trans hB b1.size)
  refine Fx.Rp (.slice (some ⟨g, 0, none⟩) (n) (cap)) (fun v1 => Fx.x_move rfl h1) (Fx.Rp (.int .i64 ((i : Int))) (fun v1 => Fx.x_move rfl h4) (Fx.Rp (.slice (some ⟨g, 0, none⟩) (n) (cap)) (fun v1 => Fx.x_move rfl h1) (Fx.Rp (.int .i64 ((j : Int))) (fun v1 => Fx.x_move rfl h5) (Fx.Rp (.slice (some ⟨g, 0, none⟩) (n) (cap)) (fun v1 => Fx.x_move rfl h1) (Fx.Rp (.int .i64 ((j : Int))) (fun v1 => Fx.x_move rfl h5) (Fx.Rp ((pf g j)) (fun v1 => Fx.x_indexS rfl rfl rfl Try.underlying33 (s := 1) (by kernel_rfl) (by omega) (by omega) (by omega)) (Fx.Rp (.slice (some ⟨g, 0, none⟩) (n) (cap)) (fun v1 => Fx.x_move rfl h1) (Fx.Rp (.int .i64 ((i : Int))) (fun v1 => Fx.x_move rfl h4) (Fx.Rp ((pf g i)) (fun v1 => Fx.x_indexS rfl rfl rfl Try.underlying33 (s := 1) (by kernel_rfl) (by omega) (by omega) (by omega)) (Fx.R.s (.int .u64 ((gA dk) j)) (Fx.x_load1 (x := Fx.rv .u64 (gA dk)) rfl rfl (by kernel_rfl) m2.cel (i := j) (by omega) (by omega) rfl) ?_))))))))))
  refine Fx.R.s (.int .u64 ((gA dk) i)) (Fx.x_load1 (x := Fx.rv .u64 (gA dk)) rfl rfl (by kernel_rfl) m2.cel (i := i) (by omega) (by omega) rfl) ?_
  refine Fx.Rp ((pf g i)) (fun v1 => Fx.x_indexS rfl rfl rfl Try.underlying33 (s := 1) (by kernel_rfl) (by omega) (by omega) (by omega)) (Fx.R.eff (by rfl) ?_)
  refine Fx.L.own1 (x := Fx.rv .u64 (gA dk)) (u := .int .u64 ((gA dk) j)) (by rfl) rfl rfl rfl rfl (by rfl) (by kernel_rfl) m2 (i := i) (by omega) fun w2 m3 s2 z1 => ?_
  have b3 := s2.below b2 (Nat.le_trans hB b2.size) m2.blk.1
  refine Fx.Ln (Fx.Rp ((pf g j)) (fun v1 => Fx.x_indexS rfl rfl rfl Try.underlying33 (s := 1) (by kernel_rfl) (by omega) (by omega) (by omega)) (Fx.R.eff (by rfl) ?_))
  refine Fx.L.own1 (x := Fx.updV (Fx.rv .u64 (gA dk)) i (.int .u64 ((gA dk) j))) (u := .int .u64 ((gA dk) i)) (by rfl) rfl rfl rfl rfl (by rfl) (by kernel_rfl) m3 (i := j) (by omega) fun w3 m4 s3 z2 => ?_
  have b4 := s3.below b3 (Nat.le_trans hB b3.size) m3.blk.1
  have m5 : Fx.Own w3 B 28 1 (.slice (some ⟨g, 0, none⟩) n cap) n (Fx.rv .u64 (gA (Sort.swp dk i j))) := m4.congr (swp_rv hk (by omega) (by omega))
  refine Fx.Ln (Fx.R.nil (Fx.sN (Fx.Ws (Fx.Wl (Fx.Lv (.int .i64 ((i : Int))) (Fx.x_move rfl h4) (Fx.Lv (.int .i64 ((i : Int) + 1)) (Fx.x_add rfl rfl rfl Fx.io) (Fx.Lv (.int .i64 ((i : Int) + 1)) (Fx.x_assign rfl rfl) (Fx.Ln (Fx.sN (Fx.Wl (Fx.Lv (.int .i64 ((j : Int))) (Fx.x_move rfl h5) (Fx.Lv (.int .i64 ((j : Int) - 1)) (Fx.x_sub rfl rfl rfl Fx.io) (Fx.Lv (.int .i64 ((j : Int) - 1)) (Fx.x_assign rfl rfl) (Fx.Ln (Fx.blkN (Fx.lpN ⟨i + 1, j - 1, Sort.swp dk i j, (sz_swp hk _ _), (by omega), ((rev_go (by omega)).trans hO), h1, (h2.trans Fx.ic), (h3.trans Fx.ic), Fx.ic, Fx.ic, m5, b4⟩ ?_))))))))))))))))
  show ((b : Int) - intOf ((.int .i64 ((i : Int) + 1)))).toNat < _
  simp only [h4, intOf]; omega
 refine Fx.Lv (.bool false) (Fx.x_lssF rfl rfl rfl c13) (Fx.Ln (Fx.sN (Fx.Wc (b := false) rfl (fun h => nomatch h) (fun _ => Fx.W.exit (Fx.seqX (Fx.lpX (Fx.blkX (⟨.tuple #[], Fx.ret0 Try.results28, ?_⟩))))))))
 rw [rev_stop (by omega)] at hO; unfold Sort.reverseRange; rw [← hO]; exact ⟨rfl, m1, b1⟩
end Go.Proofs.Ytahbiajdgealnaa
namespace Go.Proofs.Ytahbiajdgealnaa
open Go.RowKit
set_option linter.unusedVariables false
namespace Fx
def xorZ (a b : Int) : Int := ((BitVec.ofInt 64 a ^^^ BitVec.ofInt 64 b).toNat : Int)
def andZ (a b : Int) : Int := ((BitVec.ofInt 64 a &&& BitVec.ofInt 64 b).toNat : Int)
def shlZ (a : Int) (b : Nat) : Int := IntKind.u64.wrap (a * 2 ^ b)
theorem xorZ_bd (a b : Int) : 0 ≤ xorZ a b ∧ xorZ a b ≤ 18446744073709551615 := by
  unfold xorZ; have := (BitVec.ofInt 64 a ^^^ BitVec.ofInt 64 b).isLt; omega
theorem andZ_le (a : Int) {b : Int} (h : 0 ≤ b) (h2 : b ≤ 18446744073709551615) : 0 ≤ andZ a b ∧ andZ a b ≤ b := by
  unfold andZ
  rw [BitVec.toNat_and]
  have h3 : (BitVec.ofInt 64 b).toNat = b.toNat := by rw [BitVec.toNat_ofInt]; omega
  have := Nat.and_le_right (n := (BitVec.ofInt 64 a).toNat) (m := (BitVec.ofInt 64 b).toNat)
  omega
section
variable {P : Program} {f : Nat → Value} {w : World} {o : Oper}
theorem x_xor {T T' : TypeId} {x y : Operand} {a b : Int} (ho : o.op = .binOp .xor T x y T') (hx : ev f x = .int .u64 a) (hy : ev f y = .int .u64 b) : Runs P f o w (.int .u64 (xorZ a b)) :=
  x_int ho hx hy (by
    have h := u64e (xorZ_bd a b) rfl
    simp only [binOp, Op.intBits]
    show (pure (Value.int .u64 (IntKind.u64.wrap (xorZ a b))) : Sem Value).run P w = _
    rw [h]; rfl)
theorem x_and {T T' : TypeId} {x y : Operand} {a b : Int} (ho : o.op = .binOp .and T x y T') (hx : ev f x = .int .u64 a) (hy : ev f y = .int .u64 b) (h0 : 0 ≤ b) (h1 : b ≤ 18446744073709551615) : Runs P f o w (.int .u64 (andZ a b)) :=
  x_int ho hx hy (by
    have h2 := andZ_le a h0 h1
    have h := u64e (c := andZ a b) ⟨h2.1, by omega⟩ rfl
    simp only [binOp, Op.intBits]
    show (pure (Value.int .u64 (IntKind.u64.wrap (andZ a b))) : Sem Value).run P w = _
    rw [h]; rfl)
theorem x_len8 {T : TypeId} {x i : Operand} {s : ByteArray} {j : Nat} (ho : o.op = .index T x i) (hx : ev f x = .string s) (hi : ev f i = .int .u8 (j : Int)) (hu : P.underlying T = some .string) (hj : j < 64)
    (ht : ∀ q, q < 64 → (s[q]?).map (·.toNat) = some (Sort.bitsLen q)) : Runs P f o w (.int .u8 (Sort.bitsLen j : Int)) := by
  obtain ⟨b, h1, h2⟩ := Option.map_eq_some_iff.1 (ht j hj)
  unfold Runs execOp
  simp only [ho, hx, hi]
  simp [Instr.index, asIntOf, underlying, hu, h1, h2]
end
end Fx
theorem Rt.bl_le {n : Nat} (h : n < 64) : Sort.bitsLen n ≤ 6 := (Sort.bitsLen_le_iff _ _).2 (by omega)
end Go.Proofs.Ytahbiajdgealnaa
namespace Go.Proofs.Ytahbiajdgealnaa
open Go.RowKit
open Rt
set_option maxRecDepth 10000
theorem s_len64 (n : Nat) (w : World) (hn : n < 64) :
    Calls Try.prog 34 #[.int .u64 ((n : Int))] w fun e w' => e = .returned (.int .i64 (Sort.bitsLen n : Int)) ∧ w' = w := by
 have hbl := bl_le hn
 refine Fx.enter Try.func34 rfl (n := 25) rfl (by rfl) ?_
 refine Fx.Ws (Fx.Wl (Fx.Lv (.int .i64 (0)) (Fx.x_assign rfl rfl) (Fx.Ln (Fx.sN (Fx.Ws (Fx.Ws (Fx.Wl (Fx.Lv (.int .u64 ((n : Int))) (Fx.x_move rfl rfl) (Fx.Lv (.bool false) (Fx.x_geqF rfl rfl rfl (by omega)) (Fx.Ln (Fx.sN (Fx.Wc (b := false) rfl (fun h => nomatch h) (fun _ => Fx.Wk (Fx.sN (Fx.Ws (Fx.Ws (Fx.Wl (Fx.Lv (.int .u64 ((n : Int))) (Fx.x_move rfl rfl) (Fx.Lv (.bool false) (Fx.x_geqF rfl rfl rfl (by omega)) (Fx.Ln (Fx.sN (Fx.Wc (b := false) rfl (fun h => nomatch h) (fun _ => Fx.Wk (Fx.sN (Fx.Ws (Fx.Ws (Fx.Wl (Fx.Lv (.int .u64 ((n : Int))) (Fx.x_move rfl rfl) (Fx.Lv (.bool false) (Fx.x_geqF rfl rfl rfl (by omega)) (Fx.Ln (Fx.sN (Fx.Wc (b := false) rfl (fun h => nomatch h) (fun _ => Fx.Wk (Fx.sN (Fx.Ws (Fx.Wl (Fx.Lv (.int .i64 (0)) (Fx.x_move rfl rfl) (Fx.Lv (.int .u64 ((n : Int))) (Fx.x_move rfl rfl) (Fx.Lv (.int .u8 ((n : Int))) (Fx.x_conv rfl rfl (by kernel_rfl) Try.underlying5 (Fx.u8e (by omega) rfl)) (Fx.Lv (.int .u8 ((Sort.bitsLen n : Int))) (Fx.x_len8 rfl rfl rfl Try.underlying9 hn (by decide +kernel)) (Fx.Lv (.int .i64 ((Sort.bitsLen n : Int))) (Fx.x_conv rfl rfl (by kernel_rfl) Try.underlying3 (Fx.i64e (by omega) rfl)) (Fx.Lv (.int .i64 (0 + (Sort.bitsLen n : Int))) (Fx.x_add rfl rfl rfl Fx.io) (Fx.Lv (.int .i64 (0 + (Sort.bitsLen n : Int))) (Fx.x_assign rfl rfl) (Fx.Ln (Fx.sN (Fx.Wr (⟨.int .i64 (0 + (Sort.bitsLen n : Int)), Fx.rV Try.results34 (by exact rfl), ?_⟩)))))))))))))))))))))))))))))))))))))))))))))))
 exact ⟨by rw [Int.zero_add], rfl⟩
theorem s_len (n : Nat) (w : World) (hn : n < 64) :
    Calls Try.prog 23 #[.int .u64 ((n : Int))] w fun e w' => e = .returned (.int .i64 (Sort.bitsLen n : Int)) ∧ w' = w := by
 have hbl := bl_le hn
 refine Fx.enter Try.func23 rfl (n := 8) rfl (by rfl) ?_
 refine Fx.Ws (Fx.Wl (Fx.Lv (.int .i64 (0)) (Fx.x_assign rfl rfl) (Fx.Ln (Fx.sN (Fx.Ws (Fx.Wc (b := false) rfl (fun h => nomatch h) (fun _ => Fx.Wk (Fx.sN (Fx.Ws (Fx.Wl (Fx.Lv (.int .u64 ((n : Int))) (Fx.x_move rfl rfl) (Fx.L.call (by rfl) (Fx.rC (args := [.int .u64 ((n : Int))]) rfl rfl Try.func34 rfl rfl) rfl ((s_len64 n _ hn).mono ?_)))))))))))))
 rintro e v1 ⟨he, hv1⟩
 subst v1
 refine ⟨.int .i64 ((Sort.bitsLen n : Int)), by rw [he], ?_⟩
 clear he
 refine Fx.Lv (.int .i64 ((Sort.bitsLen n : Int))) (Fx.x_assign rfl rfl) (Fx.Ln (Fx.sN (Fx.Wr (⟨.int .i64 ((Sort.bitsLen n : Int)), Fx.rV Try.results23 (by exact rfl), ?_⟩))))
 exact ⟨rfl, rfl⟩
theorem s_pow (n m : Nat) (w : World) (hn : n < 64) (h0 : 0 < n) (hm : m = 2 ^ Sort.bitsLen n) :
    Calls Try.prog 36 #[.int .i64 ((n : Int))] w fun e w' => e = .returned (.int .u64 (m : Int)) ∧ w' = w := by
 have hbl := bl_le hn
 have hm2 := Sort.two_pow_bitsLen_le h0
 rw [← hm] at hm2
 refine Fx.enter Try.func36 rfl (n := 7) rfl (by rfl) ?_
 refine Fx.Ws (Fx.Wl (Fx.Lv (.int .u64 (0)) (Fx.x_assign rfl rfl) (Fx.Ln (Fx.sN (Fx.Ws (Fx.Wl (Fx.Lv (.int .i64 ((n : Int))) (Fx.x_move rfl rfl) (Fx.Lv (.int .u64 ((n : Int))) (Fx.x_conv rfl rfl (by kernel_rfl) Try.underlying49 (Fx.u64e (by omega) rfl)) (Fx.L.call (by rfl) (Fx.rC (args := [.int .u64 ((n : Int))]) rfl rfl Try.func23 rfl rfl) rfl ((s_len n _ (by omega)).mono ?_))))))))))
 rintro e v1 ⟨he, hv1⟩
 subst v1
 refine ⟨.int .i64 ((Sort.bitsLen n : Int)), by rw [he], ?_⟩
 clear he
 refine Fx.Lv (.int .u64 ((m : Int))) (Fx.x_shl (b := Sort.bitsLen n) rfl rfl rfl (show _ ≤ 64 by omega) (Fx.u64e (by omega) (by rw [hm]; simp))) (Fx.Lv (.int .u64 ((m : Int))) (Fx.x_assign rfl rfl) (Fx.Ln (Fx.sN (Fx.Wr (⟨.int .u64 ((m : Int)), Fx.rV Try.results36 (by exact rfl), ?_⟩)))))
 exact ⟨rfl, rfl⟩
theorem s_next (rb : Nat) (r : Int) (w : World) (h : Fx.Blk w rb 1 (fun _ => .int .u64 r) 66) :
    Calls Try.prog 37 #[(pt rb)] w fun e w' => ∃ r2, e = .returned (.int .u64 r2) ∧ (0 ≤ r2 ∧ r2 ≤ 18446744073709551615) ∧ Fx.Stp rb w w' ∧ Fx.Blk w' rb 1 (fun _ => .int .u64 r2) 66 := by
 refine Fx.enter Try.func37 rfl (n := 33) rfl (by rfl) ?_
 refine Fx.Ws (Fx.Wl (Fx.Lv (.int .u64 (0)) (Fx.x_assign rfl rfl) (Fx.Ln (Fx.sN (Fx.Ws ?_)))))
 -- region 1 draws
 refine Fx.W.reord [0, 1, 3, 4, 2, 5, 6, 7, 8, 9] [0, 0, 4, 0, 0, 4, 0, 0, 0, 3] Fx.Mk Fx.Mk.refl Fx.Mk.trans (certs := [(9, 2, [2]), (9, 5, [5])]) (by kernel_rfl) (by kernel_rfl) (by kernel_rfl) (by kernel_rfl) (by kernel_rfl) fun wt1 hbwt1 hzwt1 => ?_
 have s1 : Fx.Stp w.heap.size w wt1 := Fx.Sb hbwt1
 have m1 := h.stp s1 h.ne
 have b1 := (Fx.Stp.refl rb w).then s1 (.inr (Fx.Stp.refl rb w).size)
 refine Fx.Rp ((pt rb)) (fun v1 => Fx.x_move rfl rfl) (Fx.Rp ((pt rb)) (fun v1 => Fx.x_nil rfl rfl) (Fx.Rp ((pt rb)) (fun v1 => Fx.x_move rfl rfl) (Fx.Rp ((pt rb)) (fun v1 => Fx.x_nil rfl rfl) (Fx.R.s (.int .u64 (r)) (Fx.x_load1 (x := fun _ => .int .u64 r) rfl rfl (by kernel_rfl) m1.cel (i := 0) (by omega) (by omega) rfl) ?_))))
 refine Fx.R.s (.int .u64 (r)) (Fx.x_load1 (x := fun _ => .int .u64 r) rfl rfl (by kernel_rfl) m1.cel (i := 0) (by omega) (by omega) rfl) ?_
 refine Fx.Rp (.int .u64 (Fx.shlZ r 13)) (fun v1 => Fx.x_shl (b := 13) rfl rfl rfl (by decide) rfl) (Fx.Rp (.int .u64 (Fx.xorZ r (Fx.shlZ r 13))) (fun v1 => Fx.x_xor rfl rfl rfl) (Fx.Rp ((pt rb)) (fun v1 => Fx.x_nil rfl rfl) (Fx.R.eff (by rfl) ?_)))
 refine Fx.L.store1 (x := fun _ => .int .u64 r) (u := .int .u64 (Fx.xorZ r (Fx.shlZ r 13))) (by rfl) rfl rfl rfl rfl (by rfl) (by kernel_rfl) m1 (i := 0) (by omega) fun w1 m2 s2 z1 => ?_
 have m3 : Fx.Blk w1 rb 1 (fun _ => .int .u64 (Fx.xorZ r (Fx.shlZ r 13))) 66 := Fx.upd_all m2
 have b2 := b1.then s2 (by omega)
 refine Fx.Ln (Fx.R.nil (Fx.sN (Fx.Ws ?_)))
 -- region 2 draws
 refine Fx.W.reord [0, 1, 3, 4, 2, 5, 6, 7, 8, 9] [0, 0, 4, 0, 0, 4, 0, 0, 0, 3] Fx.Mk Fx.Mk.refl Fx.Mk.trans (certs := [(9, 2, [2]), (9, 5, [5])]) (by kernel_rfl) (by kernel_rfl) (by kernel_rfl) (by kernel_rfl) (by kernel_rfl) fun wt2 hbwt2 hzwt2 => ?_
 have s3 : Fx.Stp w1.heap.size w1 wt2 := Fx.Sb hbwt2
 have m4 := m3.stp s3 m3.ne
 have b3 := b2.then s3 (.inr b2.size)
 refine Fx.Rp ((pt rb)) (fun v1 => Fx.x_move rfl rfl) (Fx.Rp ((pt rb)) (fun v1 => Fx.x_nil rfl rfl) (Fx.Rp ((pt rb)) (fun v1 => Fx.x_move rfl rfl) (Fx.Rp ((pt rb)) (fun v1 => Fx.x_nil rfl rfl) (Fx.R.s (.int .u64 (Fx.xorZ r (Fx.shlZ r 13))) (Fx.x_load1 (x := fun _ => .int .u64 (Fx.xorZ r (Fx.shlZ r 13))) rfl rfl (by kernel_rfl) m4.cel (i := 0) (by omega) (by omega) rfl) ?_))))
 refine Fx.R.s (.int .u64 (Fx.xorZ r (Fx.shlZ r 13))) (Fx.x_load1 (x := fun _ => .int .u64 (Fx.xorZ r (Fx.shlZ r 13))) rfl rfl (by kernel_rfl) m4.cel (i := 0) (by omega) (by omega) rfl) ?_
 refine Fx.Rp (.int .u64 ((Fx.xorZ r (Fx.shlZ r 13)) / 128)) (fun v1 => Fx.x_shr (b := 7) (q := 128) rfl rfl rfl (by decide) (by decide)) (Fx.Rp (.int .u64 (Fx.xorZ (Fx.xorZ r (Fx.shlZ r 13)) ((Fx.xorZ r (Fx.shlZ r 13)) / 128))) (fun v1 => Fx.x_xor rfl rfl rfl) (Fx.Rp ((pt rb)) (fun v1 => Fx.x_nil rfl rfl) (Fx.R.eff (by rfl) ?_)))
 refine Fx.L.store1 (x := fun _ => .int .u64 (Fx.xorZ r (Fx.shlZ r 13))) (u := .int .u64 (Fx.xorZ (Fx.xorZ r (Fx.shlZ r 13)) ((Fx.xorZ r (Fx.shlZ r 13)) / 128))) (by rfl) rfl rfl rfl rfl (by rfl) (by kernel_rfl) m4 (i := 0) (by omega) fun w2 m5 s4 z2 => ?_
 have m6 : Fx.Blk w2 rb 1 (fun _ => .int .u64 (Fx.xorZ (Fx.xorZ r (Fx.shlZ r 13)) ((Fx.xorZ r (Fx.shlZ r 13)) / 128))) 66 := Fx.upd_all m5
 have b4 := b3.then s4 (by omega)
 refine Fx.Ln (Fx.R.nil (Fx.sN (Fx.Ws ?_)))
 -- region 3 draws
 refine Fx.W.reord [0, 1, 3, 4, 2, 5, 6, 7, 8, 9] [0, 0, 4, 0, 0, 4, 0, 0, 0, 3] Fx.Mk Fx.Mk.refl Fx.Mk.trans (certs := [(9, 2, [2]), (9, 5, [5])]) (by kernel_rfl) (by kernel_rfl) (by kernel_rfl) (by kernel_rfl) (by kernel_rfl) fun wt3 hbwt3 hzwt3 => ?_
 have s5 : Fx.Stp w2.heap.size w2 wt3 := Fx.Sb hbwt3
 have m7 := m6.stp s5 m6.ne
 have b5 := b4.then s5 (.inr b4.size)
 refine Fx.Rp ((pt rb)) (fun v1 => Fx.x_move rfl rfl) (Fx.Rp ((pt rb)) (fun v1 => Fx.x_nil rfl rfl) (Fx.Rp ((pt rb)) (fun v1 => Fx.x_move rfl rfl) (Fx.Rp ((pt rb)) (fun v1 => Fx.x_nil rfl rfl) (Fx.R.s (.int .u64 (Fx.xorZ (Fx.xorZ r (Fx.shlZ r 13)) ((Fx.xorZ r (Fx.shlZ r 13)) / 128))) (Fx.x_load1 (x := fun _ => .int .u64 (Fx.xorZ (Fx.xorZ r (Fx.shlZ r 13)) ((Fx.xorZ r (Fx.shlZ r 13)) / 128))) rfl rfl (by kernel_rfl) m7.cel (i := 0) (by omega) (by omega) rfl) ?_))))
 refine Fx.R.s (.int .u64 (Fx.xorZ (Fx.xorZ r (Fx.shlZ r 13)) ((Fx.xorZ r (Fx.shlZ r 13)) / 128))) (Fx.x_load1 (x := fun _ => .int .u64 (Fx.xorZ (Fx.xorZ r (Fx.shlZ r 13)) ((Fx.xorZ r (Fx.shlZ r 13)) / 128))) rfl rfl (by kernel_rfl) m7.cel (i := 0) (by omega) (by omega) rfl) ?_
 refine Fx.Rp (.int .u64 (Fx.shlZ (Fx.xorZ (Fx.xorZ r (Fx.shlZ r 13)) ((Fx.xorZ r (Fx.shlZ r 13)) / 128)) 17)) (fun v1 => Fx.x_shl (b := 17) rfl rfl rfl (by decide) rfl) (Fx.Rp (.int .u64 (Fx.xorZ (Fx.xorZ (Fx.xorZ r (Fx.shlZ r 13)) ((Fx.xorZ r (Fx.shlZ r 13)) / 128)) (Fx.shlZ (Fx.xorZ (Fx.xorZ r (Fx.shlZ r 13)) ((Fx.xorZ r (Fx.shlZ r 13)) / 128)) 17))) (fun v1 => Fx.x_xor rfl rfl rfl) (Fx.Rp ((pt rb)) (fun v1 => Fx.x_nil rfl rfl) (Fx.R.eff (by rfl) ?_)))
 refine Fx.L.store1 (x := fun _ => .int .u64 (Fx.xorZ (Fx.xorZ r (Fx.shlZ r 13)) ((Fx.xorZ r (Fx.shlZ r 13)) / 128))) (u := .int .u64 (Fx.xorZ (Fx.xorZ (Fx.xorZ r (Fx.shlZ r 13)) ((Fx.xorZ r (Fx.shlZ r 13)) / 128)) (Fx.shlZ (Fx.xorZ (Fx.xorZ r (Fx.shlZ r 13)) ((Fx.xorZ r (Fx.shlZ r 13)) / 128)) 17))) (by rfl) rfl rfl rfl rfl (by rfl) (by kernel_rfl) m7 (i := 0) (by omega) fun w3 m8 s6 z3 => ?_
 have m9 : Fx.Blk w3 rb 1 (fun _ => .int .u64 (Fx.xorZ (Fx.xorZ (Fx.xorZ r (Fx.shlZ r 13)) ((Fx.xorZ r (Fx.shlZ r 13)) / 128)) (Fx.shlZ (Fx.xorZ (Fx.xorZ r (Fx.shlZ r 13)) ((Fx.xorZ r (Fx.shlZ r 13)) / 128)) 17))) 66 := Fx.upd_all m8
 have b6 := b5.then s6 (by omega)
 refine Fx.Ln (Fx.R.nil (Fx.sN (Fx.Ws (Fx.Wl (Fx.Lv ((pt rb)) (Fx.x_move rfl rfl) (Fx.Lv ((pt rb)) (Fx.x_nil rfl rfl) (Fx.Lv (.int .u64 (Fx.xorZ (Fx.xorZ (Fx.xorZ r (Fx.shlZ r 13)) ((Fx.xorZ r (Fx.shlZ r 13)) / 128)) (Fx.shlZ (Fx.xorZ (Fx.xorZ r (Fx.shlZ r 13)) ((Fx.xorZ r (Fx.shlZ r 13)) / 128)) 17))) (Fx.x_load1 (x := fun _ => .int .u64 (Fx.xorZ (Fx.xorZ (Fx.xorZ r (Fx.shlZ r 13)) ((Fx.xorZ r (Fx.shlZ r 13)) / 128)) (Fx.shlZ (Fx.xorZ (Fx.xorZ r (Fx.shlZ r 13)) ((Fx.xorZ r (Fx.shlZ r 13)) / 128)) 17))) rfl rfl (by kernel_rfl) m9.cel (i := 0) (by omega) (by omega) rfl) (Fx.Lv (.int .u64 (Fx.xorZ (Fx.xorZ (Fx.xorZ r (Fx.shlZ r 13)) ((Fx.xorZ r (Fx.shlZ r 13)) / 128)) (Fx.shlZ (Fx.xorZ (Fx.xorZ r (Fx.shlZ r 13)) ((Fx.xorZ r (Fx.shlZ r 13)) / 128)) 17))) (Fx.x_assign rfl rfl) (Fx.Ln (Fx.sN (Fx.Wr (⟨.int .u64 (Fx.xorZ (Fx.xorZ (Fx.xorZ r (Fx.shlZ r 13)) ((Fx.xorZ r (Fx.shlZ r 13)) / 128)) (Fx.shlZ (Fx.xorZ (Fx.xorZ r (Fx.shlZ r 13)) ((Fx.xorZ r (Fx.shlZ r 13)) / 128)) 17)), Fx.rV Try.results37 (by exact rfl), ?_⟩))))))))))))
 exact ⟨_, rfl, Fx.xorZ_bd _ _, b6, m9⟩
end Go.Proofs.Ytahbiajdgealnaa
namespace Go.Proofs.Ytahbiajdgealnaa
open Go.RowKit
open Rt
set_option maxRecDepth 10000
theorem s_powI {nI : Int} (n m : Nat) (w : World) (e : nI = (n : Int)) (hn : n < 64) (h0 : 0 < n) (hm : m = 2 ^ Sort.bitsLen n) : Calls Try.prog 36 #[.int .i64 (nI)] w fun e w' => e = .returned (.int .u64 (m : Int)) ∧ w' = w := by
  subst e; exact s_pow n m w hn h0 hm
theorem s_brk (a b : Nat) (B g n cap : Nat) (d : Array Int) (w : World) (h : Fx.Own w B 28 1 (.slice (some ⟨g, 0, none⟩) n cap) n (Fx.rv .u64 (gA d))) (hB : B ≤ w.heap.size) (hn : d.size = n) (hs : n ≤ 1000) (ha : a < b) (hb : b ≤ n) (h50 : n < 50) :
    Calls Try.prog 26 #[.slice (some ⟨g, 0, none⟩) (n) (cap), .int .i64 ((a : Int)), .int .i64 ((b : Int))] w fun e w' => ∃ d2 : Array Int, e = .returned (.tuple #[]) ∧ d2.size = n ∧ Sort.PermIn a b d d2 ∧ Fx.Own w' B 28 1 (.slice (some ⟨g, 0, none⟩) n cap) n (Fx.rv .u64 (gA d2)) ∧ Below B w w' := by
 obtain ⟨q0, hq0⟩ : ∃ q0, q0 = (b - a) / 4 := ⟨_, rfl⟩
 refine Fx.enter Try.func26 rfl (n := 65) rfl (by rfl) ?_
 refine Fx.Ws (Fx.Wl (Fx.Lv (.int .i64 ((b : Int))) (Fx.x_move rfl rfl) (Fx.Lv (.int .i64 ((a : Int))) (Fx.x_move rfl rfl) (Fx.Lv (.int .i64 ((b : Int) - (a : Int))) (Fx.x_sub rfl rfl rfl Fx.io) (Fx.Lv (.int .i64 ((b : Int) - (a : Int))) (Fx.x_assign rfl rfl) (Fx.Ln (Fx.sN (Fx.Ws (Fx.Wl (Fx.Lv (.int .i64 ((b : Int) - (a : Int))) (Fx.x_move rfl rfl) ?_))))))))))
 by_cases c15 : 8 ≤ ((b : Int) - (a : Int))
 ·refine Fx.Lv (.bool true) (Fx.x_geqT rfl rfl rfl c15) (Fx.Ln (Fx.sN (Fx.Wc (b := true) rfl (fun _ => Fx.Ws (Fx.Wl (Fx.Lv (.int .i64 ((b : Int) - (a : Int))) (Fx.x_move rfl rfl) ?_))) (fun h => nomatch h))))
  refine Fx.Lv (.int .u64 ((b : Int) - (a : Int))) (Fx.x_conv rfl rfl (by kernel_rfl) Try.underlying66 (Fx.u64e (by omega) rfl)) (Fx.L.new (m := 1) (y := Fx.rv .u64 (fun _ => 0)) (by rfl) rfl (by kernel_rfl) rfl fun g1 w1 eg1 m1 s1 z1 => ?_)
  have m2 := h.stpB s1 (Nat.ne_of_lt (h.lt))
  have b1 := s1.below (Below.refl B w) (Nat.le_trans hB (Below.refl B w).size) (Nat.le_trans hB (Below.refl B w).size)
  have lg1 : w.heap.size ≤ g1 := by rw [eg1]; exact (Below.refl B w).size
  have ng1m2 : g ≠ g1 := by rw [eg1]; exact Nat.ne_of_lt (h.lt)
  have tg1 : g1 < w1.heap.size := m1.lt
  clear eg1
  refine Fx.L.store1 (x := Fx.rv .u64 (fun _ => 0)) (u := .int .u64 ((b : Int) - (a : Int))) (by rfl) rfl rfl rfl rfl (by rfl) (by kernel_rfl) m1 (i := 0) (by omega) fun w2 m3 s2 z2 => ?_
  have m4 : Fx.Blk w2 g1 1 (fun _ => .int .u64 ((b : Int) - (a : Int))) 66 := Fx.upd_all m3
  have hct1 := Fx.ChT.of_stp s2 m1.ty
  have m5 := m2.chT hct1 (by decide)
  have b2 := s2.below b1 (Nat.le_trans hB b1.size) (by omega)
  refine Fx.Ln (Fx.sN (Fx.Ws (Fx.Wl (Fx.Lv (.int .i64 ((b : Int) - (a : Int))) (Fx.x_move rfl rfl) ?_))))
  obtain ⟨m, hm⟩ : ∃ m, m = 2 ^ Sort.bitsLen (b - a) := ⟨_, rfl⟩
  have hm2 := Sort.two_pow_bitsLen_le (show 0 < b - a by omega)
  have hm3 := Sort.lt_two_pow_bitsLen (b - a)
  rw [← hm] at hm2 hm3
  refine Fx.L.call (by rfl) (Fx.rC (args := [.int .i64 ((b : Int) - (a : Int))]) rfl rfl Try.func36 rfl rfl) rfl ((s_powI (b - a) m _ (by omega) (by omega) (by omega) hm).mono ?_)
  rintro e v1 ⟨he, hv1⟩
  subst v1
  refine ⟨.int .u64 ((m : Int)), by rw [he], ?_⟩
  clear he
  refine Fx.Lv (.int .u64 ((m : Int))) (Fx.x_assign rfl rfl) (Fx.Ln (Fx.sN (Fx.Ws (Fx.Wl (Fx.Lv (.int .i64 ((a : Int))) (Fx.x_move rfl rfl) (Fx.Lv (.int .i64 ((b : Int) - (a : Int))) (Fx.x_move rfl rfl) (Fx.Lv (.int .i64 ((q0 : Int))) (Fx.x_quo rfl rfl rfl (by omega) (Fx.i64e (by omega) (by rw [Int.tdiv_eq_ediv_of_nonneg (by omega)]; omega))) (Fx.Lv (.int .i64 ((q0 : Int) * 2)) (Fx.x_mul rfl rfl rfl Fx.io) (Fx.Lv (.int .i64 ((a : Int) + 2 * (q0 : Int))) (Fx.x_add rfl rfl rfl Fx.io) (Fx.Lv (.int .i64 ((a : Int) + 2 * (q0 : Int) - 1)) (Fx.x_sub rfl rfl rfl Fx.io) (Fx.Lv (.int .i64 ((a : Int) + 2 * (q0 : Int) - 1)) (Fx.x_assign rfl rfl) (Fx.Ln (Fx.sN (Fx.W.block (Fx.W.loop (fun f w_ => ∃ ix : Nat, ∃ rr : Int, ∃ dk : Array Int, dk.size = n ∧ Sort.PermIn a b d dk ∧ (a + 2 * q0 ≤ ix + 1 ∧ ix ≤ a + 2 * q0 + 2) ∧ f 0 = .slice (some ⟨g, 0, none⟩) (n) (cap) ∧ f 1 = .int .i64 ((a : Int)) ∧ f 2 = .int .i64 ((b : Int)) ∧ f 6 = .int .i64 ((b : Int) - (a : Int)) ∧ f 7 = (pt g1) ∧ f 8 = .int .u64 ((m : Int)) ∧ f 9 = .int .i64 ((ix : Int)) ∧ Fx.Own w_ B 28 1 (.slice (some ⟨g, 0, none⟩) n cap) n (Fx.rv .u64 (gA dk)) ∧ Fx.Blk w_ g1 1 (fun _ => .int .u64 rr) 66 ∧ Below B w w_) (fun f _ => ((a : Int) + 2 * q0 + 2 - intOf (f 9)).toNat) ⟨a + 2 * q0 - 1, ((b : Int) - (a : Int)), d, hn, (Sort.permIn_refl _ _ _), (by omega), (by rfl), Fx.ic, Fx.ic, Fx.ic, (by rfl), Fx.ic, Fx.ic, m5, m4, b2⟩ ?_)))))))))))))))
  rintro f1 w3 ⟨ix, rr, dk, hk, hP, hix, h1, h2, h3, h4, h5, h6, h7, m6, m7, b3⟩
  refine Fx.Ws (Fx.Ws (Fx.Wl (Fx.Lv (.int .i64 ((ix : Int))) (Fx.x_move rfl h7) (Fx.Lv (.int .i64 ((a : Int))) (Fx.x_move rfl h2) (Fx.Lv (.int .i64 ((b : Int) - (a : Int))) (Fx.x_move rfl h4) (Fx.Lv (.int .i64 ((q0 : Int))) (Fx.x_quo rfl rfl rfl (by omega) (Fx.i64e (by omega) (by rw [Int.tdiv_eq_ediv_of_nonneg (by omega)]; omega))) (Fx.Lv (.int .i64 ((q0 : Int) * 2)) (Fx.x_mul rfl rfl rfl Fx.io) (Fx.Lv (.int .i64 ((a : Int) + 2 * (q0 : Int))) (Fx.x_add rfl rfl rfl Fx.io) (Fx.Lv (.int .i64 ((a : Int) + 2 * (q0 : Int) + 1)) (Fx.x_add rfl rfl rfl Fx.io) ?_)))))))))
  by_cases c33 : (ix : Int) ≤ ((a : Int) + 2 * (q0 : Int) + 1)
  ·refine Fx.Lv (.bool true) (Fx.x_leqT rfl rfl rfl c33) (Fx.Ln (Fx.sN (Fx.Wc (b := true) rfl (fun _ => Fx.Wk (Fx.sN (Fx.Ws (Fx.W.block (Fx.Ws (Fx.Wl (Fx.L.call (by rfl) (Fx.rC (args := [(pt g1)]) rfl (Fx.args1 h5) Try.func37 rfl rfl) rfl ((s_next g1 rr _ m7).mono ?_)))))))) (fun h => nomatch h))))
   rintro e9 w4 ⟨r1, he, hr1, s3, m8⟩
   refine ⟨_, he, ?_⟩
   clear he
   have hct2 := Fx.ChT.of_stp s3 m7.ty
   have m9 := m6.chT hct2 (by decide)
   have b4 := s3.below b3 (Nat.le_trans hB b3.size) (by omega)
   refine Fx.Lv (.int .u64 ((m : Int))) (Fx.x_move rfl h6) (Fx.Lv (.int .u64 ((m : Int) - 1)) (Fx.x_sub rfl rfl rfl (Fx.u64e (by omega) (by omega))) ?_)
   obtain ⟨o1, ho1, ko1⟩ : ∃ o1 : Nat, (o1 : Int) = Fx.andZ r1 ((m : Int) - 1) ∧ (o1 : Int) ≤ (m : Int) - 1 := ⟨(Fx.andZ r1 ((m : Int) - 1)).toNat, by have := Fx.andZ_le r1 (show 0 ≤ (m : Int) - 1 by omega) (by omega); omega, by have := Fx.andZ_le r1 (show 0 ≤ (m : Int) - 1 by omega) (by omega); omega⟩
   refine Fx.Lv (.int .u64 ((o1 : Int))) ((by rw [ho1]; exact Fx.x_and rfl rfl rfl (by omega) (by omega))) (Fx.Lv (.int .i64 ((o1 : Int))) (Fx.x_conv rfl rfl (by kernel_rfl) Try.underlying3 (Fx.i64e (by omega) rfl)) (Fx.Lv (.int .i64 ((o1 : Int))) (Fx.x_assign rfl rfl) (Fx.Ln (Fx.sN (Fx.Ws (Fx.Ws (Fx.Wl (Fx.Lv (.int .i64 ((o1 : Int))) (Fx.x_move rfl rfl) (Fx.Lv (.int .i64 ((b : Int) - (a : Int))) (Fx.x_move rfl h4) ?_)))))))))
   by_cases c43 : ((b : Int) - (a : Int)) ≤ (o1 : Int)
   ·refine Fx.Lv (.bool true) (Fx.x_geqT rfl rfl rfl c43) (Fx.Ln (Fx.sN (Fx.Wc (b := true) rfl (fun _ => Fx.Wl (Fx.Lv (.int .i64 ((o1 : Int))) (Fx.x_move rfl rfl) ?_)) (fun h => nomatch h))))
    refine Fx.Lv (.int .i64 ((b : Int) - (a : Int))) (Fx.x_move rfl h4) (Fx.Lv (.int .i64 ((a : Int) + (o1 : Int) - (b : Int))) (Fx.x_sub rfl rfl rfl Fx.io) (Fx.Lv (.int .i64 ((a : Int) + (o1 : Int) - (b : Int))) (Fx.x_assign rfl rfl) (Fx.Ln (Fx.sN ?_))))
    -- region 10 draws
    refine Fx.W.reord [0, 1, 2, 3, 4, 5, 6, 7, 8, 9, 10, 12, 13, 14, 11, 15, 16, 17, 18, 19] [0, 0, 0, 0, 0, 0, 0, 0, 0, 0, 0, 4, 0, 0, 0, 4, 0, 3, 0, 3] Fx.Mk Fx.Mk.refl Fx.Mk.trans (certs := [(17, 11, [11]), (19, 11, [11]), (17, 15, [15]), (19, 15, [15]), (18, 17, [17]), (19, 17, [17])]) (by kernel_rfl) (by kernel_rfl) (by kernel_rfl) (by kernel_rfl) (by kernel_rfl) fun wt1 hbwt1 hzwt1 => ?_
    have s4 : Fx.Stp w4.heap.size w4 wt1 := Fx.Sb hbwt1
    have m10 := m9.stpB s4 (Nat.ne_of_lt (m9.lt))
    have m11 := m8.stp s4 m8.ne
    have b5 := s4.below b4 (Nat.le_trans hB b4.size) (Nat.le_trans hB b4.size)
    refine Fx.Rp (.slice (some ⟨g, 0, none⟩) (n) (cap)) (fun v1 => Fx.x_move rfl h1) (Fx.Rp (.int .i64 ((ix : Int))) (fun v1 => Fx.x_move rfl h7) (Fx.Rp (.slice (some ⟨g, 0, none⟩) (n) (cap)) (fun v1 => Fx.x_move rfl h1) (Fx.Rp (.int .i64 ((a : Int))) (fun v1 => Fx.x_move rfl h2) (Fx.Rp (.int .i64 ((a : Int) + (o1 : Int) - (b : Int))) (fun v1 => Fx.x_move rfl rfl) (Fx.Rp (.int .i64 (2 * (a : Int) + (o1 : Int) - (b : Int))) (fun v1 => Fx.x_add rfl rfl rfl Fx.io) (Fx.Rp (.slice (some ⟨g, 0, none⟩) (n) (cap)) (fun v1 => Fx.x_move rfl h1) (Fx.Rp (.int .i64 ((a : Int))) (fun v1 => Fx.x_move rfl h2) (Fx.Rp (.int .i64 ((a : Int) + (o1 : Int) - (b : Int))) (fun v1 => Fx.x_move rfl rfl) (Fx.Rp (.int .i64 (2 * (a : Int) + (o1 : Int) - (b : Int))) (fun v1 => Fx.x_add rfl rfl rfl Fx.io) (Fx.Rp ((pf g (2 * a + o1 - b))) (fun v1 => Fx.x_indexS rfl rfl rfl Try.underlying33 (s := 1) (by kernel_rfl) (by omega) (by omega) (by omega)) (Fx.Rp (.slice (some ⟨g, 0, none⟩) (n) (cap)) (fun v1 => Fx.x_move rfl h1) (Fx.Rp (.int .i64 ((ix : Int))) (fun v1 => Fx.x_move rfl h7) (Fx.Rp ((pf g ix)) (fun v1 => Fx.x_indexS rfl rfl rfl Try.underlying33 (s := 1) (by kernel_rfl) (by omega) (by omega) (by omega)) (Fx.R.s (.int .u64 ((gA dk) (2 * a + o1 - b))) (Fx.x_load1 (x := Fx.rv .u64 (gA dk)) rfl rfl (by kernel_rfl) m10.cel (i := 2 * a + o1 - b) (by omega) (by omega) rfl) ?_))))))))))))))
    refine Fx.R.s (.int .u64 ((gA dk) ix)) (Fx.x_load1 (x := Fx.rv .u64 (gA dk)) rfl rfl (by kernel_rfl) m10.cel (i := ix) (by omega) (by omega) rfl) ?_
    refine Fx.Rp ((pf g ix)) (fun v1 => Fx.x_indexS rfl rfl rfl Try.underlying33 (s := 1) (by kernel_rfl) (by omega) (by omega) (by omega)) (Fx.R.eff (by rfl) ?_)
    refine Fx.L.own1 (x := Fx.rv .u64 (gA dk)) (u := .int .u64 ((gA dk) (2 * a + o1 - b))) (by rfl) rfl rfl rfl rfl (by rfl) (by kernel_rfl) m10 (i := ix) (by omega) fun w5 m12 s5 z3 => ?_
    have hct3 := Fx.ChT.of_stp s5 m10.tyB
    have m13 := m11.chT hct3 (by decide)
    have b6 := s5.below b5 (Nat.le_trans hB b5.size) m10.blk.1
    refine Fx.Ln (Fx.Rp ((pf g (2 * a + o1 - b))) (fun v1 => Fx.x_indexS rfl rfl rfl Try.underlying33 (s := 1) (by kernel_rfl) (by omega) (by omega) (by omega)) (Fx.R.eff (by rfl) ?_))
    refine Fx.L.own1 (x := Fx.updV (Fx.rv .u64 (gA dk)) ix (.int .u64 ((gA dk) (2 * a + o1 - b)))) (u := .int .u64 ((gA dk) ix)) (by rfl) rfl rfl rfl rfl (by rfl) (by kernel_rfl) m12 (i := 2 * a + o1 - b) (by omega) fun w6 m14 s6 z4 => ?_
    have hct4 := Fx.ChT.of_stp s6 m12.tyB
    have m15 := m13.chT hct4 (by decide)
    have b7 := s6.below b6 (Nat.le_trans hB b6.size) m12.blk.1
    have m16 : Fx.Own w6 B 28 1 (.slice (some ⟨g, 0, none⟩) n cap) n (Fx.rv .u64 (gA (Sort.swp dk ix (2 * a + o1 - b)))) := m14.congr (swp_rv hk (by omega) (by omega))
    refine Fx.Ln (Fx.R.nil (Fx.blkN (Fx.sN (Fx.Wl (Fx.Lv (.int .i64 ((ix : Int))) (Fx.x_move rfl h7) (Fx.Lv (.int .i64 ((ix : Int) + 1)) (Fx.x_add rfl rfl rfl Fx.io) (Fx.Lv (.int .i64 ((ix : Int) + 1)) (Fx.x_assign rfl rfl) (Fx.Ln (Fx.lpN ⟨ix + 1, r1, Sort.swp dk ix (2 * a + o1 - b), (sz_swp hk _ _), (Sort.permIn_trans _ _ _ _ _ hP (Sort.swp_permIn _ _ _ _ _ (by omega) (by omega) (by omega) (by omega) (by omega))), (by omega), h1, (h2.trans Fx.ic), (h3.trans Fx.ic), (h4.trans Fx.ic), h5, (h6.trans Fx.ic), Fx.ic, m16, m15, b7⟩ ?_)))))))))
    show ((a : Int) + 2 * q0 + 2 - intOf ((.int .i64 ((ix : Int) + 1)))).toNat < _
    simp only [h7, intOf]; omega
   refine Fx.Lv (.bool false) (Fx.x_geqF rfl rfl rfl c43) (Fx.Ln (Fx.sN (Fx.Wc (b := false) rfl (fun h => nomatch h) (fun _ => Fx.Wk (Fx.sN ?_)))))
   -- region 10 draws
   refine Fx.W.reord [0, 1, 2, 3, 4, 5, 6, 7, 8, 9, 10, 12, 13, 14, 11, 15, 16, 17, 18, 19] [0, 0, 0, 0, 0, 0, 0, 0, 0, 0, 0, 4, 0, 0, 0, 4, 0, 3, 0, 3] Fx.Mk Fx.Mk.refl Fx.Mk.trans (certs := [(17, 11, [11]), (19, 11, [11]), (17, 15, [15]), (19, 15, [15]), (18, 17, [17]), (19, 17, [17])]) (by kernel_rfl) (by kernel_rfl) (by kernel_rfl) (by kernel_rfl) (by kernel_rfl) fun wt2 hbwt2 hzwt2 => ?_
   have s7 : Fx.Stp w4.heap.size w4 wt2 := Fx.Sb hbwt2
   have m17 := m9.stpB s7 (Nat.ne_of_lt (m9.lt))
   have m18 := m8.stp s7 m8.ne
   have b8 := s7.below b4 (Nat.le_trans hB b4.size) (Nat.le_trans hB b4.size)
   refine Fx.Rp (.slice (some ⟨g, 0, none⟩) (n) (cap)) (fun v1 => Fx.x_move rfl h1) (Fx.Rp (.int .i64 ((ix : Int))) (fun v1 => Fx.x_move rfl h7) (Fx.Rp (.slice (some ⟨g, 0, none⟩) (n) (cap)) (fun v1 => Fx.x_move rfl h1) (Fx.Rp (.int .i64 ((a : Int))) (fun v1 => Fx.x_move rfl h2) (Fx.Rp (.int .i64 ((o1 : Int))) (fun v1 => Fx.x_move rfl rfl) (Fx.Rp (.int .i64 ((a : Int) + (o1 : Int))) (fun v1 => Fx.x_add rfl rfl rfl Fx.io) (Fx.Rp (.slice (some ⟨g, 0, none⟩) (n) (cap)) (fun v1 => Fx.x_move rfl h1) (Fx.Rp (.int .i64 ((a : Int))) (fun v1 => Fx.x_move rfl h2) (Fx.Rp (.int .i64 ((o1 : Int))) (fun v1 => Fx.x_move rfl rfl) (Fx.Rp (.int .i64 ((a : Int) + (o1 : Int))) (fun v1 => Fx.x_add rfl rfl rfl Fx.io) (Fx.Rp ((pf g (a + o1))) (fun v1 => Fx.x_indexS rfl rfl rfl Try.underlying33 (s := 1) (by kernel_rfl) (by omega) (by omega) (by omega)) (Fx.Rp (.slice (some ⟨g, 0, none⟩) (n) (cap)) (fun v1 => Fx.x_move rfl h1) (Fx.Rp (.int .i64 ((ix : Int))) (fun v1 => Fx.x_move rfl h7) (Fx.Rp ((pf g ix)) (fun v1 => Fx.x_indexS rfl rfl rfl Try.underlying33 (s := 1) (by kernel_rfl) (by omega) (by omega) (by omega)) (Fx.R.s (.int .u64 ((gA dk) (a + o1))) (Fx.x_load1 (x := Fx.rv .u64 (gA dk)) rfl rfl (by kernel_rfl) m17.cel (i := a + o1) (by omega) (by omega) rfl) ?_))))))))))))))
   refine Fx.R.s (.int .u64 ((gA dk) ix)) (Fx.x_load1 (x := Fx.rv .u64 (gA dk)) rfl rfl (by kernel_rfl) m17.cel (i := ix) (by omega) (by omega) rfl) ?_
   refine Fx.Rp ((pf g ix)) (fun v1 => Fx.x_indexS rfl rfl rfl Try.underlying33 (s := 1) (by kernel_rfl) (by omega) (by omega) (by omega)) (Fx.R.eff (by rfl) ?_)
   refine Fx.L.own1 (x := Fx.rv .u64 (gA dk)) (u := .int .u64 ((gA dk) (a + o1))) (by rfl) rfl rfl rfl rfl (by rfl) (by kernel_rfl) m17 (i := ix) (by omega) fun w7 m19 s8 z5 => ?_
   have hct5 := Fx.ChT.of_stp s8 m17.tyB
   have m20 := m18.chT hct5 (by decide)
   have b9 := s8.below b8 (Nat.le_trans hB b8.size) m17.blk.1
   refine Fx.Ln (Fx.Rp ((pf g (a + o1))) (fun v1 => Fx.x_indexS rfl rfl rfl Try.underlying33 (s := 1) (by kernel_rfl) (by omega) (by omega) (by omega)) (Fx.R.eff (by rfl) ?_))
   refine Fx.L.own1 (x := Fx.updV (Fx.rv .u64 (gA dk)) ix (.int .u64 ((gA dk) (a + o1)))) (u := .int .u64 ((gA dk) ix)) (by rfl) rfl rfl rfl rfl (by rfl) (by kernel_rfl) m19 (i := a + o1) (by omega) fun w8 m21 s9 z6 => ?_
   have hct6 := Fx.ChT.of_stp s9 m19.tyB
   have m22 := m20.chT hct6 (by decide)
   have b10 := s9.below b9 (Nat.le_trans hB b9.size) m19.blk.1
   have m23 : Fx.Own w8 B 28 1 (.slice (some ⟨g, 0, none⟩) n cap) n (Fx.rv .u64 (gA (Sort.swp dk ix (a + o1)))) := m21.congr (swp_rv hk (by omega) (by omega))
   refine Fx.Ln (Fx.R.nil (Fx.blkN (Fx.sN (Fx.Wl (Fx.Lv (.int .i64 ((ix : Int))) (Fx.x_move rfl h7) (Fx.Lv (.int .i64 ((ix : Int) + 1)) (Fx.x_add rfl rfl rfl Fx.io) (Fx.Lv (.int .i64 ((ix : Int) + 1)) (Fx.x_assign rfl rfl) (Fx.Ln (Fx.lpN ⟨ix + 1, r1, Sort.swp dk ix (a + o1), (sz_swp hk _ _), (Sort.permIn_trans _ _ _ _ _ hP (Sort.swp_permIn _ _ _ _ _ (by omega) (by omega) (by omega) (by omega) (by omega))), (by omega), h1, (h2.trans Fx.ic), (h3.trans Fx.ic), (h4.trans Fx.ic), h5, (h6.trans Fx.ic), Fx.ic, m23, m22, b10⟩ ?_)))))))))
   show ((a : Int) + 2 * q0 + 2 - intOf ((.int .i64 ((ix : Int) + 1)))).toNat < _
   simp only [h7, intOf]; omega
  refine Fx.Lv (.bool false) (Fx.x_leqF rfl rfl rfl c33) (Fx.Ln (Fx.sN (Fx.Wc (b := false) rfl (fun h => nomatch h) (fun _ => Fx.W.exit (Fx.seqX (Fx.lpX (Fx.blkX (⟨.tuple #[], Fx.ret0 Try.results26, ?_⟩))))))))
  exact ⟨dk, rfl, hk, hP, m6, b3⟩
 refine Fx.Lv (.bool false) (Fx.x_geqF rfl rfl rfl c15) (Fx.Ln (Fx.sN (Fx.Wc (b := false) rfl (fun h => nomatch h) (fun _ => Fx.Wk (⟨.tuple #[], Fx.ret0 Try.results26, ?_⟩)))))
 exact ⟨d, rfl, hn, Sort.permIn_refl _ _ _, h, (Below.refl B w)⟩
end Go.Proofs.Ytahbiajdgealnaa
namespace Go.Proofs.Ytahbiajdgealnaa
open Go.RowKit
open Rt
set_option maxRecDepth 10000
theorem s_ord2 (a b sb : Nat) (sw : Int) (B g n cap : Nat) (d : Array Int) (w : World) (h : Fx.Own w B 28 1 (.slice (some ⟨g, 0, none⟩) n cap) n (Fx.rv .u64 (gA d))) (hB : B ≤ w.heap.size) (hn : d.size = n) (hs : n ≤ 1000) (ha : a < n) (hb : b < n) (hb1 : B ≤ sb) (hb2 : Fx.Blk w sb 1 (fun _ => .int .i64 sw) 3) (hsw : 0 ≤ sw ∧ sw ≤ 1000) :
    Calls Try.prog 41 #[.slice (some ⟨g, 0, none⟩) (n) (cap), .int .i64 ((a : Int)), .int .i64 ((b : Int)), (pt sb)] w fun e w' => ∃ (x y : Nat) (s2 : Int), e = .returned (.tuple #[.int .i64 (x : Int), .int .i64 (y : Int)]) ∧ ((x = a ∧ y = b) ∨ (x = b ∧ y = a)) ∧ (sw ≤ s2 ∧ s2 ≤ sw + 1) ∧ Fx.Blk w' sb 1 (fun _ => .int .i64 s2) 3 ∧ Fx.Own w' B 28 1 (.slice (some ⟨g, 0, none⟩) n cap) n (Fx.rv .u64 (gA d)) ∧ Below B w w' := by
 refine Fx.enter Try.func41 rfl (n := 28) rfl (by rfl) ?_
 refine Fx.Ws (Fx.Wl (Fx.Lv (.int .i64 (0)) (Fx.x_assign rfl rfl) (Fx.Lv (.int .i64 (0)) (Fx.x_assign rfl rfl) (Fx.Ln (Fx.sN (Fx.Ws (Fx.Ws ?_)))))))
 -- region 1 draws
 refine Fx.W.quiet (fun v1 => Below w.heap.size w v1) (by kernel_rfl) (by kernel_rfl) (Below.refl _ _).drew ?_
 refine Fx.Qv (.slice (some ⟨g, 0, none⟩) (n) (cap)) (fun v1 hv1 => Fx.x_move rfl rfl) (Fx.Qv (.int .i64 ((b : Int))) (fun v1 hv1 => Fx.x_move rfl rfl) (Fx.Qv ((pf g b)) (fun v1 hv1 => Fx.x_indexS rfl rfl rfl Try.underlying33 (s := 1) (by kernel_rfl) (by omega) (by omega) (by omega)) (Fx.Qv (.int .u64 ((gA d) b)) (fun v1 hv1 => Fx.x_load1 (x := Fx.rv .u64 (gA d)) rfl rfl (by kernel_rfl) (h.cel.below hv1 (by have := h.lt; omega)) (i := b) (by omega) (by omega) rfl) (Fx.Qv (.slice (some ⟨g, 0, none⟩) (n) (cap)) (fun v1 hv1 => Fx.x_move rfl rfl) (Fx.Qv (.int .i64 ((a : Int))) (fun v1 hv1 => Fx.x_move rfl rfl) (Fx.Qv ((pf g a)) (fun v1 hv1 => Fx.x_indexS rfl rfl rfl Try.underlying33 (s := 1) (by kernel_rfl) (by omega) (by omega) (by omega)) (Fx.Qv (.int .u64 ((gA d) a)) (fun v1 hv1 => Fx.x_load1 (x := Fx.rv .u64 (gA d)) rfl rfl (by kernel_rfl) (h.cel.below hv1 (by have := h.lt; omega)) (i := a) (by omega) (by omega) rfl) ?_)))))))
 by_cases c18 : (decide ((gA d) b < (gA d) a)) = true
 ·refine Fx.Qt.call (v := .bool true) (by rfl) (fun v1 hv1 => Fx.rC (args := [.int .u64 ((gA d) b), .int .u64 ((gA d) a)]) rfl rfl Try.func30 rfl rfl) rfl (fun v1 hv1 => (s_less ((gA d) b) ((gA d) a) _).mono fun e v2 h => ⟨by rw [h.1, c18], by rw [h.2]; exact hv1⟩) ?_
  refine Fx.Qt.nil ?_
  intro wb1 hbwb1
  have s1 : Fx.Stp w.heap.size w wb1 := Fx.Sb hbwb1
  have m1 := h.stpB s1 (Nat.ne_of_lt (h.lt))
  have m2 := hb2.stp s1 hb2.ne
  have b1 := s1.below (Below.refl B w) (Nat.le_trans hB (Below.refl B w).size) (Nat.le_trans hB (Below.refl B w).size)
  refine Fx.sN (Fx.Wc (b := true) rfl (fun _ => Fx.Ws (Fx.Wl (Fx.Lv ((pt sb)) (Fx.x_move rfl rfl) ?_))) (fun h => nomatch h))
  refine Fx.Lv ((pt sb)) (Fx.x_nil rfl rfl) (Fx.Lv (.int .i64 (sw)) (Fx.x_load1 (x := fun _ => .int .i64 sw) rfl rfl (by kernel_rfl) m2.cel (i := 0) (by omega) (by omega) rfl) (Fx.Lv (.int .i64 (sw + 1)) (Fx.x_add rfl rfl rfl Fx.io) (Fx.Lv ((pt sb)) (Fx.x_nil rfl rfl) (Fx.L.store1 (x := fun _ => .int .i64 sw) (u := .int .i64 (sw + 1)) (by rfl) rfl rfl rfl rfl (by rfl) (by kernel_rfl) m2 (i := 0) (by omega) fun w1 m3 s2 z1 => ?_))))
  have m4 : Fx.Blk w1 sb 1 (fun _ => .int .i64 (sw + 1)) 3 := Fx.upd_all m3
  have hct1 := Fx.ChT.of_stp s2 m2.ty
  have m5 := m1.chT hct1 (by decide)
  have b2 := s2.below b1 (Nat.le_trans hB b1.size) (by omega)
  refine Fx.Ln (Fx.sN (Fx.Ws (Fx.Wl (Fx.Lv (.int .i64 ((b : Int))) (Fx.x_move rfl rfl) (Fx.Lv (.int .i64 ((a : Int))) (Fx.x_move rfl rfl) (Fx.Lv (.int .i64 ((b : Int))) (Fx.x_assign rfl rfl) (Fx.Lv (.int .i64 ((a : Int))) (Fx.x_assign rfl rfl) (Fx.Ln (Fx.sN (Fx.Wr (Fx.sR (⟨.tuple #[.int .i64 ((b : Int)), .int .i64 ((a : Int))], Fx.retV2 Try.results41 (by exact rfl) (by exact rfl), ?_⟩))))))))))))
  exact ⟨b, a, sw + 1, rfl, .inr ⟨rfl, rfl⟩, by omega, m4, m5, b2⟩
 rw [Bool.not_eq_true] at c18
 refine Fx.Qt.call (v := .bool false) (by rfl) (fun v1 hv1 => Fx.rC (args := [.int .u64 ((gA d) b), .int .u64 ((gA d) a)]) rfl rfl Try.func30 rfl rfl) rfl (fun v1 hv1 => (s_less ((gA d) b) ((gA d) a) _).mono fun e v2 h => ⟨by rw [h.1, c18], by rw [h.2]; exact hv1⟩) ?_
 refine Fx.Qt.nil ?_
 intro wb2 hbwb2
 have s3 : Fx.Stp w.heap.size w wb2 := Fx.Sb hbwb2
 have m6 := h.stpB s3 (Nat.ne_of_lt (h.lt))
 have m7 := hb2.stp s3 hb2.ne
 have b3 := s3.below (Below.refl B w) (Nat.le_trans hB (Below.refl B w).size) (Nat.le_trans hB (Below.refl B w).size)
 refine Fx.sN (Fx.Wc (b := false) rfl (fun h => nomatch h) (fun _ => Fx.Wk (Fx.sN (Fx.Ws (Fx.Wl (Fx.Lv (.int .i64 ((a : Int))) (Fx.x_move rfl rfl) (Fx.Lv (.int .i64 ((b : Int))) (Fx.x_move rfl rfl) (Fx.Lv (.int .i64 ((a : Int))) (Fx.x_assign rfl rfl) (Fx.Lv (.int .i64 ((b : Int))) (Fx.x_assign rfl rfl) (Fx.Ln (Fx.sN (Fx.Wr (⟨.tuple #[.int .i64 ((a : Int)), .int .i64 ((b : Int))], Fx.retV2 Try.results41 (by exact rfl) (by exact rfl), ?_⟩)))))))))))))
 exact ⟨a, b, sw, rfl, .inl ⟨rfl, rfl⟩, by omega, m7, m6, b3⟩
theorem s_ord2I {aI bI : Int} (a b : Nat) (ea : aI = (a : Int)) (eb : bI = (b : Int)) (sb : Nat) (sw : Int) (B g n cap : Nat) (d : Array Int) (w : World) (h : Fx.Own w B 28 1 (.slice (some ⟨g, 0, none⟩) n cap) n (Fx.rv .u64 (gA d))) (hB : B ≤ w.heap.size) (hn : d.size = n) (hs : n ≤ 1000) (ha : a < n) (hb : b < n) (hb1 : B ≤ sb) (hb2 : Fx.Blk w sb 1 (fun _ => .int .i64 sw) 3) (hsw : 0 ≤ sw ∧ sw ≤ 1000) :
    Calls Try.prog 41 #[.slice (some ⟨g, 0, none⟩) (n) (cap), .int .i64 (aI), .int .i64 (bI), (pt sb)] w fun e w' => ∃ (x y : Nat) (s2 : Int), e = .returned (.tuple #[.int .i64 (x : Int), .int .i64 (y : Int)]) ∧ ((x = a ∧ y = b) ∨ (x = b ∧ y = a)) ∧ (sw ≤ s2 ∧ s2 ≤ sw + 1) ∧ Fx.Blk w' sb 1 (fun _ => .int .i64 s2) 3 ∧ Fx.Own w' B 28 1 (.slice (some ⟨g, 0, none⟩) n cap) n (Fx.rv .u64 (gA d)) ∧ Below B w w' := by
  subst ea eb; exact s_ord2 a b sb sw B g n cap d w h hB hn hs ha hb hb1 hb2 hsw
theorem s_med (a b c sb : Nat) (sw : Int) (B g n cap : Nat) (d : Array Int) (w : World) (h : Fx.Own w B 28 1 (.slice (some ⟨g, 0, none⟩) n cap) n (Fx.rv .u64 (gA d))) (hB : B ≤ w.heap.size) (hn : d.size = n) (hs : n ≤ 1000) (ha : a < n) (hb : b < n) (hc : c < n) (hb1 : B ≤ sb) (hb2 : Fx.Blk w sb 1 (fun _ => .int .i64 sw) 3) (hsw : 0 ≤ sw ∧ sw ≤ 100) :
    Calls Try.prog 39 #[.slice (some ⟨g, 0, none⟩) (n) (cap), .int .i64 ((a : Int)), .int .i64 ((b : Int)), .int .i64 ((c : Int)), (pt sb)] w fun e w' => ∃ (x : Nat) (s2 : Int), e = .returned (.int .i64 (x : Int)) ∧ (x = a ∨ x = b ∨ x = c) ∧ (sw ≤ s2 ∧ s2 ≤ sw + 3) ∧ Fx.Blk w' sb 1 (fun _ => .int .i64 s2) 3 ∧ Fx.Own w' B 28 1 (.slice (some ⟨g, 0, none⟩) n cap) n (Fx.rv .u64 (gA d)) ∧ Below B w w' := by
 refine Fx.enter Try.func39 rfl (n := 36) rfl (by rfl) ?_
 refine Fx.Ws (Fx.Wl (Fx.Lv (.int .i64 (0)) (Fx.x_assign rfl rfl) (Fx.Ln (Fx.sN (Fx.Ws (Fx.Wl (Fx.Lv (.slice (some ⟨g, 0, none⟩) (n) (cap)) (Fx.x_move rfl rfl) (Fx.Lv (.int .i64 ((a : Int))) (Fx.x_move rfl rfl) (Fx.Lv (.int .i64 ((b : Int))) (Fx.x_move rfl rfl) (Fx.Lv ((pt sb)) (Fx.x_move rfl rfl) (Fx.L.call (by rfl) (Fx.rC (args := [.slice (some ⟨g, 0, none⟩) (n) (cap), .int .i64 ((a : Int)), .int .i64 ((b : Int)), (pt sb)]) rfl rfl Try.func41 rfl rfl) rfl ((s_ord2I a b (by omega) (by omega) sb sw B g n cap d _ h (Nat.le_trans hB (Below.refl B w).size) hn hs (by omega) (by omega) (by omega) hb2 (by omega)).mono ?_))))))))))))
 rintro e9 w1 ⟨x1, y1, sn1, he, hx1, hs1, m1, m2, hb1⟩
 refine ⟨_, he, ?_⟩
 clear he
 have b1 := (Below.refl B w).trans hb1
 refine Fx.Lv (.tuple #[.int .i64 ((x1 : Int)), .int .i64 ((y1 : Int))]) (Fx.x_move rfl rfl) (Fx.Lv (.int .i64 ((x1 : Int))) (Fx.x_extract rfl rfl rfl) (Fx.Lv (.int .i64 ((y1 : Int))) (Fx.x_extract rfl rfl rfl) (Fx.Lv (.int .i64 ((x1 : Int))) (Fx.x_assign rfl rfl) (Fx.Lv (.int .i64 ((y1 : Int))) (Fx.x_assign rfl rfl) (Fx.Ln (Fx.sN (Fx.Ws (Fx.Wl (Fx.Lv (.slice (some ⟨g, 0, none⟩) (n) (cap)) (Fx.x_move rfl rfl) (Fx.Lv (.int .i64 ((y1 : Int))) (Fx.x_move rfl rfl) (Fx.Lv (.int .i64 ((c : Int))) (Fx.x_move rfl rfl) (Fx.Lv ((pt sb)) (Fx.x_move rfl rfl) (Fx.L.call (by rfl) (Fx.rC (args := [.slice (some ⟨g, 0, none⟩) (n) (cap), .int .i64 ((y1 : Int)), .int .i64 ((c : Int)), (pt sb)]) rfl rfl Try.func41 rfl rfl) rfl ((s_ord2I y1 c (by omega) (by omega) sb sn1 B g n cap d _ m2 (Nat.le_trans hB b1.size) hn hs (by omega) (by omega) (by omega) m1 (by omega)).mono ?_))))))))))))))
 rintro e9 w2 ⟨x2, y2, sn2, he, hx2, hs2, m3, m4, hb2⟩
 refine ⟨_, he, ?_⟩
 clear he
 have b2 := b1.trans hb2
 refine Fx.Lv (.tuple #[.int .i64 ((x2 : Int)), .int .i64 ((y2 : Int))]) (Fx.x_move rfl rfl) (Fx.Lv (.int .i64 ((x2 : Int))) (Fx.x_extract rfl rfl rfl) (Fx.Lv (.int .i64 ((y2 : Int))) (Fx.x_extract rfl rfl rfl) (Fx.Lv (.int .i64 ((x2 : Int))) (Fx.x_assign rfl rfl) (Fx.Lv (.int .i64 ((y2 : Int))) (Fx.x_assign rfl rfl) (Fx.Ln (Fx.sN (Fx.Ws (Fx.Wl (Fx.Lv (.slice (some ⟨g, 0, none⟩) (n) (cap)) (Fx.x_move rfl rfl) (Fx.Lv (.int .i64 ((x1 : Int))) (Fx.x_move rfl rfl) (Fx.Lv (.int .i64 ((x2 : Int))) (Fx.x_move rfl rfl) (Fx.Lv ((pt sb)) (Fx.x_move rfl rfl) (Fx.L.call (by rfl) (Fx.rC (args := [.slice (some ⟨g, 0, none⟩) (n) (cap), .int .i64 ((x1 : Int)), .int .i64 ((x2 : Int)), (pt sb)]) rfl rfl Try.func41 rfl rfl) rfl ((s_ord2I x1 x2 (by omega) (by omega) sb sn2 B g n cap d _ m4 (Nat.le_trans hB b2.size) hn hs (by omega) (by omega) (by omega) m3 (by omega)).mono ?_))))))))))))))
 rintro e9 w3 ⟨x3, y3, sn3, he, hx3, hs3, m5, m6, hb3⟩
 refine ⟨_, he, ?_⟩
 clear he
 have b3 := b2.trans hb3
 refine Fx.Lv (.tuple #[.int .i64 ((x3 : Int)), .int .i64 ((y3 : Int))]) (Fx.x_move rfl rfl) (Fx.Lv (.int .i64 ((x3 : Int))) (Fx.x_extract rfl rfl rfl) (Fx.Lv (.int .i64 ((y3 : Int))) (Fx.x_extract rfl rfl rfl) (Fx.Lv (.int .i64 ((x3 : Int))) (Fx.x_assign rfl rfl) (Fx.Lv (.int .i64 ((y3 : Int))) (Fx.x_assign rfl rfl) (Fx.Ln (Fx.sN (Fx.Ws (Fx.Wl (Fx.Lv (.int .i64 ((y3 : Int))) (Fx.x_move rfl rfl) (Fx.Lv (.int .i64 ((y3 : Int))) (Fx.x_assign rfl rfl) (Fx.Ln (Fx.sN (Fx.Wr (⟨.int .i64 ((y3 : Int)), Fx.rV Try.results39 (by exact rfl), ?_⟩))))))))))))))
 exact ⟨_, _, rfl, by omega, by omega, m5, m6, b3⟩
theorem s_medI {aI bI cI : Int} (a b c : Nat) (ea : aI = (a : Int)) (eb : bI = (b : Int)) (ec : cI = (c : Int)) (sb : Nat) (sw : Int) (B g n cap : Nat) (d : Array Int) (w : World) (h : Fx.Own w B 28 1 (.slice (some ⟨g, 0, none⟩) n cap) n (Fx.rv .u64 (gA d))) (hB : B ≤ w.heap.size) (hn : d.size = n) (hs : n ≤ 1000) (ha : a < n) (hb : b < n) (hc : c < n) (hb1 : B ≤ sb) (hb2 : Fx.Blk w sb 1 (fun _ => .int .i64 sw) 3) (hsw : 0 ≤ sw ∧ sw ≤ 100) :
    Calls Try.prog 39 #[.slice (some ⟨g, 0, none⟩) (n) (cap), .int .i64 (aI), .int .i64 (bI), .int .i64 (cI), (pt sb)] w fun e w' => ∃ (x : Nat) (s2 : Int), e = .returned (.int .i64 (x : Int)) ∧ (x = a ∨ x = b ∨ x = c) ∧ (sw ≤ s2 ∧ s2 ≤ sw + 3) ∧ Fx.Blk w' sb 1 (fun _ => .int .i64 s2) 3 ∧ Fx.Own w' B 28 1 (.slice (some ⟨g, 0, none⟩) n cap) n (Fx.rv .u64 (gA d)) ∧ Below B w w' := by
  subst ea eb ec; exact s_med a b c sb sw B g n cap d w h hB hn hs ha hb hc hb1 hb2 hsw
theorem s_piv (a b : Nat) (B g n cap : Nat) (d : Array Int) (w : World) (h : Fx.Own w B 28 1 (.slice (some ⟨g, 0, none⟩) n cap) n (Fx.rv .u64 (gA d))) (hB : B ≤ w.heap.size) (hn : d.size = n) (hs : n ≤ 1000) (ha : a < b) (hb : b ≤ n) (h50 : n < 50) :
    Calls Try.prog 27 #[.slice (some ⟨g, 0, none⟩) (n) (cap), .int .i64 ((a : Int)), .int .i64 ((b : Int))] w fun e w' => ∃ (p : Nat) (hint : Int), e = .returned (.tuple #[.int .i64 (p : Int), .int .i64 hint]) ∧ a ≤ p ∧ p < b ∧ Fx.Own w' B 28 1 (.slice (some ⟨g, 0, none⟩) n cap) n (Fx.rv .u64 (gA d)) ∧ Below B w w' := by
 obtain ⟨q0, hq0⟩ : ∃ q0, q0 = (b - a) / 4 := ⟨_, rfl⟩
 refine Fx.enter Try.func27 rfl (n := 57) rfl (by rfl) ?_
 refine Fx.Ws (Fx.Wl (Fx.Lv (.int .i64 (0)) (Fx.x_assign rfl rfl) (Fx.Lv (.int .i64 (0)) (Fx.x_assign rfl rfl) (Fx.Ln (Fx.sN (Fx.Ws (Fx.Wl (Fx.Lv (.int .i64 ((b : Int))) (Fx.x_move rfl rfl) (Fx.Lv (.int .i64 ((a : Int))) (Fx.x_move rfl rfl) (Fx.Lv (.int .i64 ((b : Int) - (a : Int))) (Fx.x_sub rfl rfl rfl Fx.io) (Fx.Lv (.int .i64 ((b : Int) - (a : Int))) (Fx.x_assign rfl rfl) (Fx.Ln (Fx.sN (Fx.Ws (Fx.Wl (Fx.L.new (m := 1) (y := Fx.rv .i64 (fun _ => 0)) (by rfl) rfl (by kernel_rfl) rfl fun g1 w1 eg1 m1 s1 z1 => ?_))))))))))))))))
 have m2 := h.stpB s1 (Nat.ne_of_lt (h.lt))
 have b1 := s1.below (Below.refl B w) (Nat.le_trans hB (Below.refl B w).size) (Nat.le_trans hB (Below.refl B w).size)
 have lg1 : w.heap.size ≤ g1 := by rw [eg1]; exact (Below.refl B w).size
 have ng1m2 : g ≠ g1 := by rw [eg1]; exact Nat.ne_of_lt (h.lt)
 have tg1 : g1 < w1.heap.size := m1.lt
 clear eg1
 refine Fx.Ln (Fx.sN (Fx.Ws (Fx.Wl (Fx.Lv (.int .i64 ((a : Int))) (Fx.x_move rfl rfl) (Fx.Lv (.int .i64 ((b : Int) - (a : Int))) (Fx.x_move rfl rfl) (Fx.Lv (.int .i64 ((q0 : Int))) (Fx.x_quo rfl rfl rfl (by omega) (Fx.i64e (by omega) (by rw [Int.tdiv_eq_ediv_of_nonneg (by omega)]; omega))) (Fx.Lv (.int .i64 ((q0 : Int) * 1)) (Fx.x_mul rfl rfl rfl Fx.io) (Fx.Lv (.int .i64 ((a : Int) + (q0 : Int))) (Fx.x_add rfl rfl rfl Fx.io) (Fx.Lv (.int .i64 ((a : Int) + (q0 : Int))) (Fx.x_assign rfl rfl) (Fx.Ln (Fx.sN (Fx.Ws (Fx.Wl (Fx.Lv (.int .i64 ((a : Int))) (Fx.x_move rfl rfl) (Fx.Lv (.int .i64 ((b : Int) - (a : Int))) (Fx.x_move rfl rfl) (Fx.Lv (.int .i64 ((q0 : Int))) (Fx.x_quo rfl rfl rfl (by omega) (Fx.i64e (by omega) (by rw [Int.tdiv_eq_ediv_of_nonneg (by omega)]; omega))) (Fx.Lv (.int .i64 ((q0 : Int) * 2)) (Fx.x_mul rfl rfl rfl Fx.io) (Fx.Lv (.int .i64 ((a : Int) + 2 * (q0 : Int))) (Fx.x_add rfl rfl rfl Fx.io) (Fx.Lv (.int .i64 ((a : Int) + 2 * (q0 : Int))) (Fx.x_assign rfl rfl) (Fx.Ln (Fx.sN (Fx.Ws (Fx.Wl (Fx.Lv (.int .i64 ((a : Int))) (Fx.x_move rfl rfl) (Fx.Lv (.int .i64 ((b : Int) - (a : Int))) (Fx.x_move rfl rfl) (Fx.Lv (.int .i64 ((q0 : Int))) (Fx.x_quo rfl rfl rfl (by omega) (Fx.i64e (by omega) (by rw [Int.tdiv_eq_ediv_of_nonneg (by omega)]; omega))) (Fx.Lv (.int .i64 ((q0 : Int) * 3)) (Fx.x_mul rfl rfl rfl Fx.io) (Fx.Lv (.int .i64 ((a : Int) + 3 * (q0 : Int))) (Fx.x_add rfl rfl rfl Fx.io) (Fx.Lv (.int .i64 ((a : Int) + 3 * (q0 : Int))) (Fx.x_assign rfl rfl) (Fx.Ln (Fx.sN (Fx.Ws (Fx.Ws (Fx.Wl (Fx.Lv (.int .i64 ((b : Int) - (a : Int))) (Fx.x_move rfl rfl) ?_)))))))))))))))))))))))))))))))))))
 by_cases c32 : 8 ≤ ((b : Int) - (a : Int))
 ·refine Fx.Lv (.bool true) (Fx.x_geqT rfl rfl rfl c32) (Fx.Ln (Fx.sN (Fx.Wc (b := true) rfl (fun _ => Fx.Ws (Fx.Ws (Fx.Wl (Fx.Lv (.int .i64 ((b : Int) - (a : Int))) (Fx.x_move rfl rfl) ?_)))) (fun h => nomatch h))))
  refine Fx.Lv (.bool false) (Fx.x_geqF rfl rfl rfl (by omega)) (Fx.Ln (Fx.sN (Fx.Wc (b := false) rfl (fun h => nomatch h) (fun _ => Fx.Wk (Fx.sN (Fx.Wl (Fx.Lv (.slice (some ⟨g, 0, none⟩) (n) (cap)) (Fx.x_move rfl rfl) (Fx.Lv (.int .i64 ((a : Int) + (q0 : Int))) (Fx.x_move rfl rfl) (Fx.Lv (.int .i64 ((a : Int) + 2 * (q0 : Int))) (Fx.x_move rfl rfl) (Fx.Lv (.int .i64 ((a : Int) + 3 * (q0 : Int))) (Fx.x_move rfl rfl) (Fx.L.call (by rfl) (Fx.rC (args := [.slice (some ⟨g, 0, none⟩) (n) (cap), .int .i64 ((a : Int) + (q0 : Int)), .int .i64 ((a : Int) + 2 * (q0 : Int)), .int .i64 ((a : Int) + 3 * (q0 : Int)), (pt g1)]) rfl rfl Try.func39 rfl rfl) rfl ((s_medI (a + q0) (a + 2 * q0) (a + 3 * q0) (by omega) (by omega) (by omega) g1 0 B g n cap d _ m2 (Nat.le_trans hB b1.size) hn hs (by omega) (by omega) (by omega) (by omega) m1 (by omega)).mono ?_))))))))))))
  rintro e9 w2 ⟨x1, sn1, he, hx1, hs1, m3, m4, hb1⟩
  refine ⟨_, he, ?_⟩
  clear he
  have b2 := b1.trans hb1
  refine Fx.Lv (.int .i64 ((x1 : Int))) (Fx.x_assign rfl rfl) (Fx.Ln (Fx.sN (Fx.Ws (Fx.Wl (Fx.Lv (.int .i64 (sn1)) (Fx.x_load1 (x := fun _ => .int .i64 sn1) rfl rfl (by kernel_rfl) m3.cel (i := 0) (by omega) (by omega) rfl) (Fx.Ln (Fx.sN (Fx.W.block (Fx.Ws (Fx.Wl ?_))))))))))
  by_cases c52 : sn1 = 0
  ·refine Fx.Lv (.bool true) (Fx.x_eqlT rfl rfl rfl c52) (Fx.Lv (.bool true) (Fx.x_assign rfl rfl) (Fx.Ln (Fx.sN (Fx.Wc (b := true) rfl (fun _ => Fx.Ws (Fx.Wl (Fx.Lv (.int .i64 ((x1 : Int))) (Fx.x_move rfl rfl) ?_))) (fun h => nomatch h)))))
   refine Fx.Lv (.int .i64 ((x1 : Int))) (Fx.x_assign rfl rfl) (Fx.Lv (.int .i64 (1)) (Fx.x_assign rfl rfl) (Fx.Ln (Fx.sN (Fx.Wr (Fx.blkR (⟨.tuple #[.int .i64 ((x1 : Int)), .int .i64 (1)], Fx.retV2 Try.results27 (by exact rfl) (by exact rfl), ?_⟩))))))
   exact ⟨x1, 1, congrArg (fun q => Ending.returned (.tuple #[.int .i64 q, .int .i64 1])) (by omega), by omega, by omega, m4, b2⟩
  refine Fx.Lv (.bool false) (Fx.x_eqlF rfl rfl rfl c52) (Fx.Lv (.bool false) (Fx.x_assign rfl rfl) (Fx.Ln (Fx.sN (Fx.Wc (b := false) rfl (fun h => nomatch h) (fun _ => Fx.Ws (Fx.Wl ?_))))))
  by_cases c55 : sn1 = 12
  ·refine Fx.Lv (.bool true) (Fx.x_eqlT rfl rfl rfl c55) (Fx.Lv (.bool true) (Fx.x_assign rfl rfl) (Fx.Ln (Fx.sN (Fx.Wc (b := true) rfl (fun _ => Fx.Ws (Fx.Wl (Fx.Lv (.int .i64 ((x1 : Int))) (Fx.x_move rfl rfl) ?_))) (fun h => nomatch h)))))
   refine Fx.Lv (.int .i64 ((x1 : Int))) (Fx.x_assign rfl rfl) (Fx.Lv (.int .i64 (2)) (Fx.x_assign rfl rfl) (Fx.Ln (Fx.sN (Fx.Wr (Fx.blkR (⟨.tuple #[.int .i64 ((x1 : Int)), .int .i64 (2)], Fx.retV2 Try.results27 (by exact rfl) (by exact rfl), ?_⟩))))))
   exact ⟨x1, 2, congrArg (fun q => Ending.returned (.tuple #[.int .i64 q, .int .i64 2])) (by omega), by omega, by omega, m4, b2⟩
  refine Fx.Lv (.bool false) (Fx.x_eqlF rfl rfl rfl c55) (Fx.Lv (.bool false) (Fx.x_assign rfl rfl) (Fx.Ln (Fx.sN (Fx.Wc (b := false) rfl (fun h => nomatch h) (fun _ => Fx.Ws (Fx.Wl (Fx.Lv (.int .i64 ((x1 : Int))) (Fx.x_move rfl rfl) (Fx.Lv (.int .i64 ((x1 : Int))) (Fx.x_assign rfl rfl) (Fx.Lv (.int .i64 (0)) (Fx.x_assign rfl rfl) (Fx.Ln (Fx.sN (Fx.Wr (Fx.blkR (⟨.tuple #[.int .i64 ((x1 : Int)), .int .i64 (0)], Fx.retV2 Try.results27 (by exact rfl) (by exact rfl), ?_⟩))))))))))))))
  exact ⟨x1, 0, congrArg (fun q => Ending.returned (.tuple #[.int .i64 q, .int .i64 0])) (by omega), by omega, by omega, m4, b2⟩
 refine Fx.Lv (.bool false) (Fx.x_geqF rfl rfl rfl c32) (Fx.Ln (Fx.sN (Fx.Wc (b := false) rfl (fun h => nomatch h) (fun _ => Fx.Wk (Fx.sN (Fx.Ws (Fx.Wl (Fx.Lv (.int .i64 (0)) (Fx.x_load1 (x := Fx.rv .i64 (fun _ => 0)) rfl rfl (by kernel_rfl) m1.cel (i := 0) (by omega) (by omega) rfl) (Fx.Ln (Fx.sN (Fx.W.block (Fx.Ws (Fx.Wl ?_)))))))))))))
 by_cases c52 : (0 : Int) = 0
 ·refine Fx.Lv (.bool true) (Fx.x_eqlT rfl rfl rfl c52) (Fx.Lv (.bool true) (Fx.x_assign rfl rfl) (Fx.Ln (Fx.sN (Fx.Wc (b := true) rfl (fun _ => Fx.Ws (Fx.Wl (Fx.Lv (.int .i64 ((a : Int) + 2 * (q0 : Int))) (Fx.x_move rfl rfl) ?_))) (fun h => nomatch h)))))
  refine Fx.Lv (.int .i64 ((a : Int) + 2 * (q0 : Int))) (Fx.x_assign rfl rfl) (Fx.Lv (.int .i64 (1)) (Fx.x_assign rfl rfl) (Fx.Ln (Fx.sN (Fx.Wr (Fx.blkR (⟨.tuple #[.int .i64 ((a : Int) + 2 * (q0 : Int)), .int .i64 (1)], Fx.retV2 Try.results27 (by exact rfl) (by exact rfl), ?_⟩))))))
  exact ⟨a + 2 * q0, 1, congrArg (fun q => Ending.returned (.tuple #[.int .i64 q, .int .i64 1])) (by omega), by omega, by omega, m2, b1⟩
 refine Fx.Lv (.bool false) (Fx.x_eqlF rfl rfl rfl c52) (Fx.Lv (.bool false) (Fx.x_assign rfl rfl) (Fx.Ln (Fx.sN (Fx.Wc (b := false) rfl (fun h => nomatch h) (fun _ => Fx.Ws (Fx.Wl ?_))))))
 by_cases c55 : (0 : Int) = 12
 ·refine Fx.Lv (.bool true) (Fx.x_eqlT rfl rfl rfl c55) (Fx.Lv (.bool true) (Fx.x_assign rfl rfl) (Fx.Ln (Fx.sN (Fx.Wc (b := true) rfl (fun _ => Fx.Ws (Fx.Wl (Fx.Lv (.int .i64 ((a : Int) + 2 * (q0 : Int))) (Fx.x_move rfl rfl) ?_))) (fun h => nomatch h)))))
  refine Fx.Lv (.int .i64 ((a : Int) + 2 * (q0 : Int))) (Fx.x_assign rfl rfl) (Fx.Lv (.int .i64 (2)) (Fx.x_assign rfl rfl) (Fx.Ln (Fx.sN (Fx.Wr (Fx.blkR (⟨.tuple #[.int .i64 ((a : Int) + 2 * (q0 : Int)), .int .i64 (2)], Fx.retV2 Try.results27 (by exact rfl) (by exact rfl), ?_⟩))))))
  exact ⟨a + 2 * q0, 2, congrArg (fun q => Ending.returned (.tuple #[.int .i64 q, .int .i64 2])) (by omega), by omega, by omega, m2, b1⟩
 refine Fx.Lv (.bool false) (Fx.x_eqlF rfl rfl rfl c55) (Fx.Lv (.bool false) (Fx.x_assign rfl rfl) (Fx.Ln (Fx.sN (Fx.Wc (b := false) rfl (fun h => nomatch h) (fun _ => Fx.Ws (Fx.Wl (Fx.Lv (.int .i64 ((a : Int) + 2 * (q0 : Int))) (Fx.x_move rfl rfl) (Fx.Lv (.int .i64 ((a : Int) + 2 * (q0 : Int))) (Fx.x_assign rfl rfl) (Fx.Lv (.int .i64 (0)) (Fx.x_assign rfl rfl) (Fx.Ln (Fx.sN (Fx.Wr (Fx.blkR (⟨.tuple #[.int .i64 ((a : Int) + 2 * (q0 : Int)), .int .i64 (0)], Fx.retV2 Try.results27 (by exact rfl) (by exact rfl), ?_⟩))))))))))))))
 exact ⟨a + 2 * q0, 0, congrArg (fun q => Ending.returned (.tuple #[.int .i64 q, .int .i64 0])) (by omega), by omega, by omega, m2, b1⟩
end Go.Proofs.Ytahbiajdgealnaa
namespace Go.Proofs.Ytahbiajdgealnaa
open Go.RowKit
open Rt
set_option maxRecDepth 10000
theorem s_pins (a b : Nat) (B g n cap : Nat) (d : Array Int) (w : World) (h : Fx.Own w B 28 1 (.slice (some ⟨g, 0, none⟩) n cap) n (Fx.rv .u64 (gA d))) (hB : B ≤ w.heap.size) (hn : d.size = n) (hs : n ≤ 1000) (ha : a < b) (hb : b ≤ n) (h50 : n < 50) :
    Calls Try.prog 29 #[.slice (some ⟨g, 0, none⟩) (n) (cap), .int .i64 ((a : Int)), .int .i64 ((b : Int))] w fun e w' => ∃ r : Bool, e = .returned (.bool r) ∧ (r = true → Sort.SortedIn Sort.ltInt a b d) ∧ Fx.Own w' B 28 1 (.slice (some ⟨g, 0, none⟩) n cap) n (Fx.rv .u64 (gA d)) ∧ Below B w w' := by
 refine Fx.enter Try.func29 rfl (n := 133) rfl (by rfl) ?_
 refine Fx.Ws (Fx.Wl (Fx.Lv (.bool false) (Fx.x_assign rfl rfl) (Fx.Ln (Fx.sN (Fx.Ws (Fx.Wl (Fx.Lv (.int .i64 ((a : Int))) (Fx.x_move rfl rfl) (Fx.Lv (.int .i64 ((a : Int) + 1)) (Fx.x_add rfl rfl rfl Fx.io) (Fx.Lv (.int .i64 ((a : Int) + 1)) (Fx.x_assign rfl rfl) (Fx.Ln (Fx.sN (Fx.Ws (Fx.Ws (Fx.Wl (Fx.Lv (.int .i64 (0)) (Fx.x_assign rfl rfl) (Fx.Ln (Fx.sN (Fx.W.block (Fx.W.loop (fun f w_ => f 0 = .slice (some ⟨g, 0, none⟩) (n) (cap) ∧ f 1 = .int .i64 ((a : Int)) ∧ f 2 = .int .i64 ((b : Int)) ∧ f 7 = .int .i64 ((a : Int) + 1) ∧ f 8 = .int .i64 (0) ∧ Fx.Own w_ B 28 1 (.slice (some ⟨g, 0, none⟩) n cap) n (Fx.rv .u64 (gA d)) ∧ Below B w w_) (fun f _ => (5 - intOf (f 8)).toNat) ⟨(by rfl), Fx.ic, Fx.ic, Fx.ic, Fx.ic, h, (Below.refl B w)⟩ ?_)))))))))))))))))))
 rintro f1 w1 ⟨h1, h2, h3, h4, h5, m1, b1⟩
 refine Fx.Ws (Fx.Ws (Fx.Wl (Fx.Lv (.int .i64 (0)) (Fx.x_move rfl h5) (Fx.Lv (.bool true) (Fx.x_lssT rfl rfl rfl (by omega)) (Fx.Ln (Fx.sN (Fx.Wc (b := true) rfl (fun _ => Fx.Wk (Fx.sN (Fx.Ws (Fx.W.block (Fx.Ws (Fx.W.block (Fx.W.loop (fun f w_ => ∃ i : Nat, Sort.SortedIn Sort.ltInt a i d ∧ (a < i ∧ i ≤ b) ∧ f 0 = .slice (some ⟨g, 0, none⟩) (n) (cap) ∧ f 1 = .int .i64 ((a : Int)) ∧ f 2 = .int .i64 ((b : Int)) ∧ f 7 = .int .i64 ((i : Int)) ∧ f 8 = .int .i64 (0) ∧ Fx.Own w_ B 28 1 (.slice (some ⟨g, 0, none⟩) n cap) n (Fx.rv .u64 (gA d)) ∧ Below B w w_) (fun f _ => ((b : Int) - intOf (f 7)).toNat) ⟨a + 1, (sorted_one _ _), (by omega), h1, (h2.trans Fx.ic), (h3.trans Fx.ic), (h4.trans Fx.ic), (h5.trans Fx.ic), m1, b1⟩ ?_))))))) (fun h => nomatch h))))))))
 rintro f2 w2 ⟨i, hS, hi, h6, h7, h8, h9, h10, m2, b2⟩
 refine Fx.Ws (Fx.Ws ?_)
 -- region 5 draws
 refine Fx.W.quiet (fun v1 => Below w2.heap.size w2 v1) (by kernel_rfl) (by kernel_rfl) (Below.refl _ _).drew ?_
 refine Fx.Qv (.int .i64 ((i : Int))) (fun v1 hv1 => Fx.x_move rfl h9) (Fx.Qv (.int .i64 ((b : Int))) (fun v1 hv1 => Fx.x_move rfl h8) ?_)
 by_cases c19 : (i : Int) < (b : Int)
 ·refine Fx.Qv (.bool true) (fun v1 hv1 => Fx.x_lssT rfl rfl rfl c19) (Fx.Qv (.bool true) (fun v1 hv1 => Fx.x_move rfl rfl) (Fx.Qv (.slice (some ⟨g, 0, none⟩) (n) (cap)) (fun v1 hv1 => Fx.x_move rfl h6) (Fx.Qv (.int .i64 ((i : Int))) (fun v1 hv1 => Fx.x_move rfl h9) (Fx.Qv ((pf g i)) (fun v1 hv1 => Fx.x_indexS rfl rfl rfl Try.underlying33 (s := 1) (by kernel_rfl) (by omega) (by omega) (by omega)) (Fx.Qv (.int .u64 ((gA d) i)) (fun v1 hv1 => Fx.x_load1 (x := Fx.rv .u64 (gA d)) rfl rfl (by kernel_rfl) (m2.cel.below hv1 (by have := m2.lt; omega)) (i := i) (by omega) (by omega) rfl) (Fx.Qv (.slice (some ⟨g, 0, none⟩) (n) (cap)) (fun v1 hv1 => Fx.x_move rfl h6) (Fx.Qv (.int .i64 ((i : Int))) (fun v1 hv1 => Fx.x_move rfl h9) (Fx.Qv (.int .i64 ((i : Int) - 1)) (fun v1 hv1 => Fx.x_sub rfl rfl rfl Fx.io) (Fx.Qv ((pf g (i - 1))) (fun v1 hv1 => Fx.x_indexS rfl rfl rfl Try.underlying33 (s := 1) (by kernel_rfl) (by omega) (by omega) (by omega)) (Fx.Qv (.int .u64 ((gA d) (i - 1))) (fun v1 hv1 => Fx.x_load1 (x := Fx.rv .u64 (gA d)) rfl rfl (by kernel_rfl) (m2.cel.below hv1 (by have := m2.lt; omega)) (i := i - 1) (by omega) (by omega) rfl) ?_))))))))))
  by_cases c30 : (decide ((gA d) i < (gA d) (i - 1))) = true
  ·refine Fx.Qt.call (v := .bool true) (by rfl) (fun v1 hv1 => Fx.rC (args := [.int .u64 ((gA d) i), .int .u64 ((gA d) (i - 1))]) rfl rfl Try.func30 rfl rfl) rfl (fun v1 hv1 => (s_less ((gA d) i) ((gA d) (i - 1)) _).mono fun e v2 h => ⟨by rw [h.1, c30], by rw [h.2]; exact hv1⟩) ?_
   refine Fx.Qv (.bool false) (fun v1 hv1 => Fx.x_notF rfl rfl) (Fx.Qv (.bool false) (fun v1 hv1 => Fx.x_pickT rfl rfl rfl) (Fx.Qt.nil ?_))
   intro wb1 hbwb1
   have s1 : Fx.Stp w2.heap.size w2 wb1 := Fx.Sb hbwb1
   have m3 := m2.stpB s1 (Nat.ne_of_lt (m2.lt))
   have b3 := s1.below b2 (Nat.le_trans hB b2.size) (Nat.le_trans hB b2.size)
   refine Fx.sN (Fx.Wc (b := false) rfl (fun h => nomatch h) (fun _ => Fx.W.exit (Fx.seqX (Fx.lpX (Fx.blkX (Fx.sN (Fx.Ws (Fx.Ws (Fx.Wl (Fx.Lv (.int .i64 ((i : Int))) (Fx.x_move rfl h9) (Fx.Lv (.int .i64 ((b : Int))) (Fx.x_move rfl h8) ?_)))))))))))
   by_cases c37 : (i : Int) = (b : Int)
   ·refine Fx.Lv (.bool true) (Fx.x_eqlT rfl rfl rfl c37) (Fx.Ln (Fx.sN (Fx.Wc (b := true) rfl (fun _ => Fx.Ws (Fx.Wl (Fx.Lv (.bool true) (Fx.x_assign rfl rfl) ?_))) (fun h => nomatch h))))
    refine Fx.Ln (Fx.sN (Fx.Wr (Fx.sR (Fx.blkR (Fx.sR (Fx.lpR (Fx.blkR (Fx.sR (⟨.bool true, Fx.rV Try.results29 (by exact rfl), ?_⟩)))))))))
    exact ⟨true, rfl, (fun _ => by rw [show b = i by omega]; exact hS), m3, b3⟩
   refine Fx.Lv (.bool false) (Fx.x_eqlF rfl rfl rfl c37) (Fx.Ln (Fx.sN (Fx.Wc (b := false) rfl (fun h => nomatch h) (fun _ => Fx.Wk (Fx.sN (Fx.Ws (Fx.Ws (Fx.Wl (Fx.Lv (.int .i64 ((b : Int))) (Fx.x_move rfl h8) (Fx.Lv (.int .i64 ((a : Int))) (Fx.x_move rfl h7) (Fx.Lv (.int .i64 ((b : Int) - (a : Int))) (Fx.x_sub rfl rfl rfl Fx.io) (Fx.Lv (.bool true) (Fx.x_lssT rfl rfl rfl (by omega)) (Fx.Ln (Fx.sN (Fx.Wc (b := true) rfl (fun _ => Fx.Ws (Fx.Wl (Fx.Lv (.bool false) (Fx.x_assign rfl rfl) ?_))) (fun h => nomatch h))))))))))))))))
   refine Fx.Ln (Fx.sN (Fx.Wr (Fx.sR (Fx.blkR (Fx.sR (Fx.lpR (Fx.blkR (Fx.sR (⟨.bool false, Fx.rV Try.results29 (by exact rfl), ?_⟩)))))))))
   exact ⟨false, rfl, (fun h => nomatch h), m3, b3⟩
  rw [Bool.not_eq_true] at c30
  refine Fx.Qt.call (v := .bool false) (by rfl) (fun v1 hv1 => Fx.rC (args := [.int .u64 ((gA d) i), .int .u64 ((gA d) (i - 1))]) rfl rfl Try.func30 rfl rfl) rfl (fun v1 hv1 => (s_less ((gA d) i) ((gA d) (i - 1)) _).mono fun e v2 h => ⟨by rw [h.1, c30], by rw [h.2]; exact hv1⟩) ?_
  refine Fx.Qv (.bool true) (fun v1 hv1 => Fx.x_notT rfl rfl) (Fx.Qv (.bool true) (fun v1 hv1 => Fx.x_pickT rfl rfl rfl) (Fx.Qt.nil ?_))
  intro wb2 hbwb2
  have s2 : Fx.Stp w2.heap.size w2 wb2 := Fx.Sb hbwb2
  have m4 := m2.stpB s2 (Nat.ne_of_lt (m2.lt))
  have b4 := s2.below b2 (Nat.le_trans hB b2.size) (Nat.le_trans hB b2.size)
  refine Fx.sN (Fx.Wc (b := true) rfl (fun _ => Fx.Wk (Fx.sN (Fx.W.block (Fx.Wl (Fx.Lv (.int .i64 ((i : Int))) (Fx.x_move rfl h9) ?_))))) (fun h => nomatch h))
  refine Fx.Lv (.int .i64 ((i : Int) + 1)) (Fx.x_add rfl rfl rfl Fx.io) (Fx.Lv (.int .i64 ((i : Int) + 1)) (Fx.x_assign rfl rfl) (Fx.Ln (Fx.blkN (Fx.lpN ⟨i + 1, (Sort.SortedIn.snoc Sort.swo_ltInt hS (lt_no (of_decide_eq_false c30))), (by omega), h6, (h7.trans Fx.ic), (h8.trans Fx.ic), Fx.ic, (h10.trans Fx.ic), m4, b4⟩ ?_))))
  show ((b : Int) - intOf ((.int .i64 ((i : Int) + 1)))).toNat < _
  simp only [h9, intOf]; omega
 refine Fx.Qv (.bool false) (fun v1 hv1 => Fx.x_lssF rfl rfl rfl c19) (Fx.Qv (.bool false) (fun v1 hv1 => Fx.x_move rfl rfl) (Fx.Qs (by rfl) rfl (Fx.Qs (by rfl) rfl (Fx.Qs (by rfl) rfl (Fx.Qs (by rfl) rfl (Fx.Qs (by rfl) rfl (Fx.Qs (by rfl) rfl (Fx.Qs (by rfl) rfl (Fx.Qs (by rfl) rfl (Fx.Qs (by rfl) rfl (Fx.Qs (by rfl) rfl (Fx.Qs (by rfl) rfl (Fx.Qv (.bool false) (fun v1 hv1 => Fx.x_pickF rfl rfl rfl) (Fx.Qt.nil ?_))))))))))))))
 intro wb3 hbwb3
 have s3 : Fx.Stp w2.heap.size w2 wb3 := Fx.Sb hbwb3
 have m5 := m2.stpB s3 (Nat.ne_of_lt (m2.lt))
 have b5 := s3.below b2 (Nat.le_trans hB b2.size) (Nat.le_trans hB b2.size)
 refine Fx.sN (Fx.Wc (b := false) rfl (fun h => nomatch h) (fun _ => Fx.W.exit (Fx.seqX (Fx.lpX (Fx.blkX (Fx.sN (Fx.Ws (Fx.Ws (Fx.Wl (Fx.Lv (.int .i64 ((i : Int))) (Fx.x_move rfl h9) (Fx.Lv (.int .i64 ((b : Int))) (Fx.x_move rfl h8) ?_)))))))))))
 by_cases c37 : (i : Int) = (b : Int)
 ·refine Fx.Lv (.bool true) (Fx.x_eqlT rfl rfl rfl c37) (Fx.Ln (Fx.sN (Fx.Wc (b := true) rfl (fun _ => Fx.Ws (Fx.Wl (Fx.Lv (.bool true) (Fx.x_assign rfl rfl) ?_))) (fun h => nomatch h))))
  refine Fx.Ln (Fx.sN (Fx.Wr (Fx.sR (Fx.blkR (Fx.sR (Fx.lpR (Fx.blkR (Fx.sR (⟨.bool true, Fx.rV Try.results29 (by exact rfl), ?_⟩)))))))))
  exact ⟨true, rfl, (fun _ => by rw [show b = i by omega]; exact hS), m5, b5⟩
 refine Fx.Lv (.bool false) (Fx.x_eqlF rfl rfl rfl c37) (Fx.Ln (Fx.sN (Fx.Wc (b := false) rfl (fun h => nomatch h) (fun _ => Fx.Wk (Fx.sN (Fx.Ws (Fx.Ws (Fx.Wl (Fx.Lv (.int .i64 ((b : Int))) (Fx.x_move rfl h8) (Fx.Lv (.int .i64 ((a : Int))) (Fx.x_move rfl h7) (Fx.Lv (.int .i64 ((b : Int) - (a : Int))) (Fx.x_sub rfl rfl rfl Fx.io) (Fx.Lv (.bool true) (Fx.x_lssT rfl rfl rfl (by omega)) (Fx.Ln (Fx.sN (Fx.Wc (b := true) rfl (fun _ => Fx.Ws (Fx.Wl (Fx.Lv (.bool false) (Fx.x_assign rfl rfl) ?_))) (fun h => nomatch h))))))))))))))))
 refine Fx.Ln (Fx.sN (Fx.Wr (Fx.sR (Fx.blkR (Fx.sR (Fx.lpR (Fx.blkR (Fx.sR (⟨.bool false, Fx.rV Try.results29 (by exact rfl), ?_⟩)))))))))
 exact ⟨false, rfl, (fun h => nomatch h), m5, b5⟩
theorem s_pe (a b p : Nat) (B g n cap : Nat) (d : Array Int) (w : World) (h : Fx.Own w B 28 1 (.slice (some ⟨g, 0, none⟩) n cap) n (Fx.rv .u64 (gA d))) (hB : B ≤ w.heap.size) (hn : d.size = n) (hs : n ≤ 1000) (ha : a ≤ p) (hp : p < b) (hb : b ≤ n) :
    Calls Try.prog 31 #[.slice (some ⟨g, 0, none⟩) (n) (cap), .int .i64 ((a : Int)), .int .i64 ((b : Int)), .int .i64 ((p : Int))] w fun e w' => ∃ (mid : Nat) (d4 : Array Int), e = .returned (.int .i64 (mid : Int)) ∧ Sort.partitionEqual Sort.ltInt d a b p = (mid, d4) ∧ d4.size = n ∧ Fx.Own w' B 28 1 (.slice (some ⟨g, 0, none⟩) n cap) n (Fx.rv .u64 (gA d4)) ∧ Below B w w' := by
 refine Fx.enter Try.func31 rfl (n := 84) rfl (by rfl) ?_
 refine Fx.Ws (Fx.Wl (Fx.Lv (.int .i64 (0)) (Fx.x_assign rfl rfl) (Fx.Ln (Fx.sN (Fx.Ws ?_)))))
 -- region 1 draws
 refine Fx.W.reord [0, 1, 2, 3, 4, 5, 6, 8, 9, 10, 7, 11, 12, 13, 14, 15] [0, 0, 0, 0, 0, 0, 0, 4, 0, 0, 0, 4, 0, 3, 0, 3] Fx.Mk Fx.Mk.refl Fx.Mk.trans (certs := [(13, 7, [7]), (15, 7, [7]), (13, 11, [11]), (15, 11, [11]), (14, 13, [13]), (15, 13, [13])]) (by kernel_rfl) (by kernel_rfl) (by kernel_rfl) (by kernel_rfl) (by kernel_rfl) fun wt1 hbwt1 hzwt1 => ?_
 have s1 : Fx.Stp w.heap.size w wt1 := Fx.Sb hbwt1
 have m1 := h.stpB s1 (Nat.ne_of_lt (h.lt))
 have b1 := s1.below (Below.refl B w) (Nat.le_trans hB (Below.refl B w).size) (Nat.le_trans hB (Below.refl B w).size)
 refine Fx.Rp (.slice (some ⟨g, 0, none⟩) (n) (cap)) (fun v1 => Fx.x_move rfl rfl) (Fx.Rp (.int .i64 ((a : Int))) (fun v1 => Fx.x_move rfl rfl) (Fx.Rp (.slice (some ⟨g, 0, none⟩) (n) (cap)) (fun v1 => Fx.x_move rfl rfl) (Fx.Rp (.int .i64 ((p : Int))) (fun v1 => Fx.x_move rfl rfl) (Fx.Rp (.slice (some ⟨g, 0, none⟩) (n) (cap)) (fun v1 => Fx.x_move rfl rfl) (Fx.Rp (.int .i64 ((p : Int))) (fun v1 => Fx.x_move rfl rfl) (Fx.Rp ((pf g p)) (fun v1 => Fx.x_indexS rfl rfl rfl Try.underlying33 (s := 1) (by kernel_rfl) (by omega) (by omega) (by omega)) (Fx.Rp (.slice (some ⟨g, 0, none⟩) (n) (cap)) (fun v1 => Fx.x_move rfl rfl) (Fx.Rp (.int .i64 ((a : Int))) (fun v1 => Fx.x_move rfl rfl) (Fx.Rp ((pf g a)) (fun v1 => Fx.x_indexS rfl rfl rfl Try.underlying33 (s := 1) (by kernel_rfl) (by omega) (by omega) (by omega)) (Fx.R.s (.int .u64 ((gA d) p)) (Fx.x_load1 (x := Fx.rv .u64 (gA d)) rfl rfl (by kernel_rfl) m1.cel (i := p) (by omega) (by omega) rfl) ?_))))))))))
 refine Fx.R.s (.int .u64 ((gA d) a)) (Fx.x_load1 (x := Fx.rv .u64 (gA d)) rfl rfl (by kernel_rfl) m1.cel (i := a) (by omega) (by omega) rfl) ?_
 refine Fx.Rp ((pf g a)) (fun v1 => Fx.x_indexS rfl rfl rfl Try.underlying33 (s := 1) (by kernel_rfl) (by omega) (by omega) (by omega)) (Fx.R.eff (by rfl) ?_)
 refine Fx.L.own1 (x := Fx.rv .u64 (gA d)) (u := .int .u64 ((gA d) p)) (by rfl) rfl rfl rfl rfl (by rfl) (by kernel_rfl) m1 (i := a) (by omega) fun w1 m2 s2 z1 => ?_
 have b2 := s2.below b1 (Nat.le_trans hB b1.size) m1.blk.1
 refine Fx.Ln (Fx.Rp ((pf g p)) (fun v1 => Fx.x_indexS rfl rfl rfl Try.underlying33 (s := 1) (by kernel_rfl) (by omega) (by omega) (by omega)) (Fx.R.eff (by rfl) ?_))
 refine Fx.L.own1 (x := Fx.updV (Fx.rv .u64 (gA d)) a (.int .u64 ((gA d) p))) (u := .int .u64 ((gA d) a)) (by rfl) rfl rfl rfl rfl (by rfl) (by kernel_rfl) m2 (i := p) (by omega) fun w2 m3 s3 z2 => ?_
 have b3 := s3.below b2 (Nat.le_trans hB b2.size) m2.blk.1
 have m4 : Fx.Own w2 B 28 1 (.slice (some ⟨g, 0, none⟩) n cap) n (Fx.rv .u64 (gA (Sort.swp d a p))) := m3.congr (swp_rv hn (by omega) (by omega))
 refine Fx.Ln (Fx.R.nil (Fx.sN (Fx.Ws (Fx.Wl (Fx.Lv (.int .i64 ((a : Int))) (Fx.x_move rfl rfl) (Fx.Lv (.int .i64 ((a : Int) + 1)) (Fx.x_add rfl rfl rfl Fx.io) (Fx.Lv (.int .i64 ((b : Int))) (Fx.x_move rfl rfl) (Fx.Lv (.int .i64 ((b : Int) - 1)) (Fx.x_sub rfl rfl rfl Fx.io) (Fx.Lv (.int .i64 ((a : Int) + 1)) (Fx.x_assign rfl rfl) (Fx.Lv (.int .i64 ((b : Int) - 1)) (Fx.x_assign rfl rfl) (Fx.Ln (Fx.sN (Fx.Ws (Fx.W.block (Fx.W.loop (fun f w_ => ∃ i : Nat, ∃ j : Nat, ∃ dk : Array Int, dk.size = n ∧ Sort.partEqLoop Sort.ltInt a i j dk = Sort.partEqLoop Sort.ltInt a (a + 1) (b - 1) (Sort.swp d a p) ∧ (a < i ∧ j < b ∧ i ≤ b) ∧ f 0 = .slice (some ⟨g, 0, none⟩) (n) (cap) ∧ f 1 = .int .i64 ((a : Int)) ∧ f 2 = .int .i64 ((b : Int)) ∧ f 9 = .int .i64 ((i : Int)) ∧ f 10 = .int .i64 ((j : Int)) ∧ Fx.Own w_ B 28 1 (.slice (some ⟨g, 0, none⟩) n cap) n (Fx.rv .u64 (gA dk)) ∧ Below B w w_) (fun f _ => ((b : Int) - intOf (f 9)).toNat) ⟨a + 1, b - 1, Sort.swp d a p, (sz_swp hn _ _), rfl, (by omega), (by rfl), Fx.ic, Fx.ic, Fx.ic, Fx.ic, m4, b3⟩ ?_)))))))))))))))
 rintro f1 w3 ⟨i, j, dk, hk, hX, hij, h1, h2, h3, h4, h5, m5, b4⟩
 refine Fx.W.block (Fx.Ws (Fx.W.block (Fx.W.loop (fun f w_ => ∃ i2 : Nat, Sort.partEqLoop Sort.ltInt a i2 j dk = Sort.partEqLoop Sort.ltInt a i j dk ∧ (i ≤ i2 ∧ i2 ≤ b) ∧ f 0 = .slice (some ⟨g, 0, none⟩) (n) (cap) ∧ f 1 = .int .i64 ((a : Int)) ∧ f 2 = .int .i64 ((b : Int)) ∧ f 9 = .int .i64 ((i2 : Int)) ∧ f 10 = .int .i64 ((j : Int)) ∧ Fx.Own w_ B 28 1 (.slice (some ⟨g, 0, none⟩) n cap) n (Fx.rv .u64 (gA dk)) ∧ Below B w w_) (fun f _ => ((j : Int) + 1 - intOf (f 9)).toNat) ⟨i, rfl, (by omega), h1, (h2.trans Fx.ic), (h3.trans Fx.ic), (h4.trans Fx.ic), (h5.trans Fx.ic), m5, b4⟩ ?_)))
 rintro f2 w4 ⟨i2, hX1, hi2, h6, h7, h8, h9, h10, m6, b5⟩
 refine Fx.Ws (Fx.Ws ?_)
 -- region 3 draws
 refine Fx.W.quiet (fun v1 => Below w4.heap.size w4 v1) (by kernel_rfl) (by kernel_rfl) (Below.refl _ _).drew ?_
 refine Fx.Qv (.int .i64 ((i2 : Int))) (fun v1 hv1 => Fx.x_move rfl h9) (Fx.Qv (.int .i64 ((j : Int))) (fun v1 hv1 => Fx.x_move rfl h10) ?_)
 by_cases c31 : (i2 : Int) ≤ (j : Int)
 ·refine Fx.Qv (.bool true) (fun v1 hv1 => Fx.x_leqT rfl rfl rfl c31) (Fx.Qv (.bool true) (fun v1 hv1 => Fx.x_move rfl rfl) (Fx.Qv (.slice (some ⟨g, 0, none⟩) (n) (cap)) (fun v1 hv1 => Fx.x_move rfl h6) (Fx.Qv (.int .i64 ((a : Int))) (fun v1 hv1 => Fx.x_move rfl h7) (Fx.Qv ((pf g a)) (fun v1 hv1 => Fx.x_indexS rfl rfl rfl Try.underlying33 (s := 1) (by kernel_rfl) (by omega) (by omega) (by omega)) (Fx.Qv (.int .u64 ((gA dk) a)) (fun v1 hv1 => Fx.x_load1 (x := Fx.rv .u64 (gA dk)) rfl rfl (by kernel_rfl) (m6.cel.below hv1 (by have := m6.lt; omega)) (i := a) (by omega) (by omega) rfl) (Fx.Qv (.slice (some ⟨g, 0, none⟩) (n) (cap)) (fun v1 hv1 => Fx.x_move rfl h6) (Fx.Qv (.int .i64 ((i2 : Int))) (fun v1 hv1 => Fx.x_move rfl h9) (Fx.Qv ((pf g i2)) (fun v1 hv1 => Fx.x_indexS rfl rfl rfl Try.underlying33 (s := 1) (by kernel_rfl) (by omega) (by omega) (by omega)) (Fx.Qv (.int .u64 ((gA dk) i2)) (fun v1 hv1 => Fx.x_load1 (x := Fx.rv .u64 (gA dk)) rfl rfl (by kernel_rfl) (m6.cel.below hv1 (by have := m6.lt; omega)) (i := i2) (by omega) (by omega) rfl) ?_)))))))))
  by_cases c41 : (decide ((gA dk) a < (gA dk) i2)) = true
  ·refine Fx.Qt.call (v := .bool true) (by rfl) (fun v1 hv1 => Fx.rC (args := [.int .u64 ((gA dk) a), .int .u64 ((gA dk) i2)]) rfl rfl Try.func30 rfl rfl) rfl (fun v1 hv1 => (s_less ((gA dk) a) ((gA dk) i2) _).mono fun e v2 h => ⟨by rw [h.1, c41], by rw [h.2]; exact hv1⟩) ?_
   refine Fx.Qv (.bool false) (fun v1 hv1 => Fx.x_notF rfl rfl) (Fx.Qv (.bool false) (fun v1 hv1 => Fx.x_pickT rfl rfl rfl) (Fx.Qt.nil ?_))
   intro wb1 hbwb1
   have s4 : Fx.Stp w4.heap.size w4 wb1 := Fx.Sb hbwb1
   have m7 := m6.stpB s4 (Nat.ne_of_lt (m6.lt))
   have b6 := s4.below b5 (Nat.le_trans hB b5.size) (Nat.le_trans hB b5.size)
   refine Fx.sN (Fx.Wc (b := false) rfl (fun h => nomatch h) (fun _ => Fx.W.exit (Fx.seqX (Fx.lpX (Fx.blkX (Fx.sN (Fx.Ws (Fx.W.block (Fx.W.loop (fun f w_ => ∃ j2 : Nat, Sort.partEqLoop Sort.ltInt a i2 j2 dk = Sort.partEqLoop Sort.ltInt a i2 j dk ∧ ((j2 < i2 ∨ gA dk a < gA dk i2)) ∧ j2 ≤ j ∧ f 0 = .slice (some ⟨g, 0, none⟩) (n) (cap) ∧ f 1 = .int .i64 ((a : Int)) ∧ f 2 = .int .i64 ((b : Int)) ∧ f 9 = .int .i64 ((i2 : Int)) ∧ f 10 = .int .i64 ((j2 : Int)) ∧ Fx.Own w_ B 28 1 (.slice (some ⟨g, 0, none⟩) n cap) n (Fx.rv .u64 (gA dk)) ∧ Below B w w_) (fun f _ => (intOf (f 10)).toNat) ⟨j, rfl, (.inr (of_decide_eq_true c41)), (by omega), h6, (h7.trans Fx.ic), (h8.trans Fx.ic), (h9.trans Fx.ic), (h10.trans Fx.ic), m7, b6⟩ ?_)))))))))
   rintro f3 w5 ⟨j2, hX2, hst, hj2, h11, h12, h13, h14, h15, m8, b7⟩
   refine Fx.Ws (Fx.Ws ?_)
   -- region 5 draws
   refine Fx.W.quiet (fun v1 => Below w5.heap.size w5 v1) (by kernel_rfl) (by kernel_rfl) (Below.refl _ _).drew ?_
   refine Fx.Qv (.int .i64 ((i2 : Int))) (fun v1 hv1 => Fx.x_move rfl h14) (Fx.Qv (.int .i64 ((j2 : Int))) (fun v1 hv1 => Fx.x_move rfl h15) ?_)
   by_cases c48 : (i2 : Int) ≤ (j2 : Int)
   ·refine Fx.Qv (.bool true) (fun v1 hv1 => Fx.x_leqT rfl rfl rfl c48) (Fx.Qv (.bool true) (fun v1 hv1 => Fx.x_move rfl rfl) (Fx.Qv (.slice (some ⟨g, 0, none⟩) (n) (cap)) (fun v1 hv1 => Fx.x_move rfl h11) (Fx.Qv (.int .i64 ((a : Int))) (fun v1 hv1 => Fx.x_move rfl h12) (Fx.Qv ((pf g a)) (fun v1 hv1 => Fx.x_indexS rfl rfl rfl Try.underlying33 (s := 1) (by kernel_rfl) (by omega) (by omega) (by omega)) (Fx.Qv (.int .u64 ((gA dk) a)) (fun v1 hv1 => Fx.x_load1 (x := Fx.rv .u64 (gA dk)) rfl rfl (by kernel_rfl) (m8.cel.below hv1 (by have := m8.lt; omega)) (i := a) (by omega) (by omega) rfl) (Fx.Qv (.slice (some ⟨g, 0, none⟩) (n) (cap)) (fun v1 hv1 => Fx.x_move rfl h11) (Fx.Qv (.int .i64 ((j2 : Int))) (fun v1 hv1 => Fx.x_move rfl h15) (Fx.Qv ((pf g j2)) (fun v1 hv1 => Fx.x_indexS rfl rfl rfl Try.underlying33 (s := 1) (by kernel_rfl) (by omega) (by omega) (by omega)) (Fx.Qv (.int .u64 ((gA dk) j2)) (fun v1 hv1 => Fx.x_load1 (x := Fx.rv .u64 (gA dk)) rfl rfl (by kernel_rfl) (m8.cel.below hv1 (by have := m8.lt; omega)) (i := j2) (by omega) (by omega) rfl) ?_)))))))))
    by_cases c58 : (decide ((gA dk) a < (gA dk) j2)) = true
    ·refine Fx.Qt.call (v := .bool true) (by rfl) (fun v1 hv1 => Fx.rC (args := [.int .u64 ((gA dk) a), .int .u64 ((gA dk) j2)]) rfl rfl Try.func30 rfl rfl) rfl (fun v1 hv1 => (s_less ((gA dk) a) ((gA dk) j2) _).mono fun e v2 h => ⟨by rw [h.1, c58], by rw [h.2]; exact hv1⟩) ?_
     refine Fx.Qv (.bool true) (fun v1 hv1 => Fx.x_pickT rfl rfl rfl) (Fx.Qt.nil ?_)
     intro wb2 hbwb2
     have s5 : Fx.Stp w5.heap.size w5 wb2 := Fx.Sb hbwb2
     have m9 := m8.stpB s5 (Nat.ne_of_lt (m8.lt))
     have b8 := s5.below b7 (Nat.le_trans hB b7.size) (Nat.le_trans hB b7.size)
     refine Fx.sN (Fx.Wc (b := true) rfl (fun _ => Fx.Wk (Fx.sN (Fx.W.block (Fx.Wl (Fx.Lv (.int .i64 ((j2 : Int))) (Fx.x_move rfl h15) ?_))))) (fun h => nomatch h))
     refine Fx.Lv (.int .i64 ((j2 : Int) - 1)) (Fx.x_sub rfl rfl rfl Fx.io) (Fx.Lv (.int .i64 ((j2 : Int) - 1)) (Fx.x_assign rfl rfl) (Fx.Ln (Fx.blkN (Fx.lpN ⟨j2 - 1, ((eq_dn (by omega) (by omega) (hst.resolve_left (by omega)) (of_decide_eq_true c58)).trans hX2), (hst.elim (fun h => .inl (by omega)) .inr), (by omega), h11, (h12.trans Fx.ic), (h13.trans Fx.ic), (h14.trans Fx.ic), Fx.ic, m9, b8⟩ ?_))))
     show (intOf ((.int .i64 ((j2 : Int) - 1)))).toNat < _
     simp only [h15, intOf]; omega
    rw [Bool.not_eq_true] at c58
    refine Fx.Qt.call (v := .bool false) (by rfl) (fun v1 hv1 => Fx.rC (args := [.int .u64 ((gA dk) a), .int .u64 ((gA dk) j2)]) rfl rfl Try.func30 rfl rfl) rfl (fun v1 hv1 => (s_less ((gA dk) a) ((gA dk) j2) _).mono fun e v2 h => ⟨by rw [h.1, c58], by rw [h.2]; exact hv1⟩) ?_
    refine Fx.Qv (.bool false) (fun v1 hv1 => Fx.x_pickT rfl rfl rfl) (Fx.Qt.nil ?_)
    intro wb3 hbwb3
    have s6 : Fx.Stp w5.heap.size w5 wb3 := Fx.Sb hbwb3
    have m10 := m8.stpB s6 (Nat.ne_of_lt (m8.lt))
    have b9 := s6.below b7 (Nat.le_trans hB b7.size) (Nat.le_trans hB b7.size)
    refine Fx.sN (Fx.Wc (b := false) rfl (fun h => nomatch h) (fun _ => Fx.W.exit (Fx.seqX (Fx.lpX (Fx.blkX (Fx.sN (Fx.Ws (Fx.Ws (Fx.Wl (Fx.Lv (.int .i64 ((i2 : Int))) (Fx.x_move rfl h14) (Fx.Lv (.int .i64 ((j2 : Int))) (Fx.x_move rfl h15) (Fx.Lv (.bool false) (Fx.x_gtrF rfl rfl rfl (by omega)) (Fx.Ln (Fx.sN (Fx.Wc (b := false) rfl (fun h => nomatch h) (fun _ => Fx.Wk (Fx.sN (Fx.Ws ?_))))))))))))))))))
    -- region 8 draws
    refine Fx.W.reord [0, 1, 2, 3, 4, 5, 6, 8, 9, 10, 7, 11, 12, 13, 14, 15] [0, 0, 0, 0, 0, 0, 0, 4, 0, 0, 0, 4, 0, 3, 0, 3] Fx.Mk Fx.Mk.refl Fx.Mk.trans (certs := [(13, 7, [7]), (15, 7, [7]), (13, 11, [11]), (15, 11, [11]), (14, 13, [13]), (15, 13, [13])]) (by kernel_rfl) (by kernel_rfl) (by kernel_rfl) (by kernel_rfl) (by kernel_rfl) fun wt2 hbwt2 hzwt2 => ?_
    have s7 : Fx.Stp wb3.heap.size wb3 wt2 := Fx.Sb hbwt2
    have m11 := m10.stpB s7 (Nat.ne_of_lt (m10.lt))
    have b10 := s7.below b9 (Nat.le_trans hB b9.size) (Nat.le_trans hB b9.size)
    refine Fx.Rp (.slice (some ⟨g, 0, none⟩) (n) (cap)) (fun v1 => Fx.x_move rfl h11) (Fx.Rp (.int .i64 ((i2 : Int))) (fun v1 => Fx.x_move rfl h14) (Fx.Rp (.slice (some ⟨g, 0, none⟩) (n) (cap)) (fun v1 => Fx.x_move rfl h11) (Fx.Rp (.int .i64 ((j2 : Int))) (fun v1 => Fx.x_move rfl h15) (Fx.Rp (.slice (some ⟨g, 0, none⟩) (n) (cap)) (fun v1 => Fx.x_move rfl h11) (Fx.Rp (.int .i64 ((j2 : Int))) (fun v1 => Fx.x_move rfl h15) (Fx.Rp ((pf g j2)) (fun v1 => Fx.x_indexS rfl rfl rfl Try.underlying33 (s := 1) (by kernel_rfl) (by omega) (by omega) (by omega)) (Fx.Rp (.slice (some ⟨g, 0, none⟩) (n) (cap)) (fun v1 => Fx.x_move rfl h11) (Fx.Rp (.int .i64 ((i2 : Int))) (fun v1 => Fx.x_move rfl h14) (Fx.Rp ((pf g i2)) (fun v1 => Fx.x_indexS rfl rfl rfl Try.underlying33 (s := 1) (by kernel_rfl) (by omega) (by omega) (by omega)) (Fx.R.s (.int .u64 ((gA dk) j2)) (Fx.x_load1 (x := Fx.rv .u64 (gA dk)) rfl rfl (by kernel_rfl) m11.cel (i := j2) (by omega) (by omega) rfl) ?_))))))))))
    refine Fx.R.s (.int .u64 ((gA dk) i2)) (Fx.x_load1 (x := Fx.rv .u64 (gA dk)) rfl rfl (by kernel_rfl) m11.cel (i := i2) (by omega) (by omega) rfl) ?_
    refine Fx.Rp ((pf g i2)) (fun v1 => Fx.x_indexS rfl rfl rfl Try.underlying33 (s := 1) (by kernel_rfl) (by omega) (by omega) (by omega)) (Fx.R.eff (by rfl) ?_)
    refine Fx.L.own1 (x := Fx.rv .u64 (gA dk)) (u := .int .u64 ((gA dk) j2)) (by rfl) rfl rfl rfl rfl (by rfl) (by kernel_rfl) m11 (i := i2) (by omega) fun w6 m12 s8 z3 => ?_
    have b11 := s8.below b10 (Nat.le_trans hB b10.size) m11.blk.1
    refine Fx.Ln (Fx.Rp ((pf g j2)) (fun v1 => Fx.x_indexS rfl rfl rfl Try.underlying33 (s := 1) (by kernel_rfl) (by omega) (by omega) (by omega)) (Fx.R.eff (by rfl) ?_))
    refine Fx.L.own1 (x := Fx.updV (Fx.rv .u64 (gA dk)) i2 (.int .u64 ((gA dk) j2))) (u := .int .u64 ((gA dk) i2)) (by rfl) rfl rfl rfl rfl (by rfl) (by kernel_rfl) m12 (i := j2) (by omega) fun w7 m13 s9 z4 => ?_
    have b12 := s9.below b11 (Nat.le_trans hB b11.size) m12.blk.1
    have m14 : Fx.Own w7 B 28 1 (.slice (some ⟨g, 0, none⟩) n cap) n (Fx.rv .u64 (gA (Sort.swp dk i2 j2))) := m13.congr (swp_rv hk (by omega) (by omega))
    refine Fx.Ln (Fx.R.nil (Fx.sN (Fx.Ws (Fx.Wl (Fx.Lv (.int .i64 ((i2 : Int))) (Fx.x_move rfl h14) (Fx.Lv (.int .i64 ((i2 : Int) + 1)) (Fx.x_add rfl rfl rfl Fx.io) (Fx.Lv (.int .i64 ((i2 : Int) + 1)) (Fx.x_assign rfl rfl) (Fx.Ln (Fx.sN (Fx.Wl (Fx.Lv (.int .i64 ((j2 : Int))) (Fx.x_move rfl h15) (Fx.Lv (.int .i64 ((j2 : Int) - 1)) (Fx.x_sub rfl rfl rfl Fx.io) (Fx.Lv (.int .i64 ((j2 : Int) - 1)) (Fx.x_assign rfl rfl) (Fx.Ln (Fx.blkN (Fx.lpN ⟨i2 + 1, j2 - 1, Sort.swp dk i2 j2, (sz_swp hk _ _), ((eq_sw (by omega) (hst.resolve_left (by omega)) (of_decide_eq_false c58)).trans (hX2.trans (hX1.trans hX))), (by omega), h11, (h12.trans Fx.ic), (h13.trans Fx.ic), Fx.ic, Fx.ic, m14, b12⟩ ?_))))))))))))))))
    show ((b : Int) - intOf ((.int .i64 ((i2 : Int) + 1)))).toNat < _
    simp only [h4, intOf]; omega
   refine Fx.Qv (.bool false) (fun v1 hv1 => Fx.x_leqF rfl rfl rfl c48) (Fx.Qv (.bool false) (fun v1 hv1 => Fx.x_move rfl rfl) (Fx.Qs (by rfl) rfl (Fx.Qs (by rfl) rfl (Fx.Qs (by rfl) rfl (Fx.Qs (by rfl) rfl (Fx.Qs (by rfl) rfl (Fx.Qs (by rfl) rfl (Fx.Qs (by rfl) rfl (Fx.Qs (by rfl) rfl (Fx.Qs (by rfl) rfl (Fx.Qv (.bool false) (fun v1 hv1 => Fx.x_pickF rfl rfl rfl) (Fx.Qt.nil ?_))))))))))))
   intro wb4 hbwb4
   have s10 : Fx.Stp w5.heap.size w5 wb4 := Fx.Sb hbwb4
   have m15 := m8.stpB s10 (Nat.ne_of_lt (m8.lt))
   have b13 := s10.below b7 (Nat.le_trans hB b7.size) (Nat.le_trans hB b7.size)
   refine Fx.sN (Fx.Wc (b := false) rfl (fun h => nomatch h) (fun _ => Fx.W.exit (Fx.seqX (Fx.lpX (Fx.blkX (Fx.sN (Fx.Ws (Fx.Ws (Fx.Wl (Fx.Lv (.int .i64 ((i2 : Int))) (Fx.x_move rfl h14) (Fx.Lv (.int .i64 ((j2 : Int))) (Fx.x_move rfl h15) (Fx.Lv (.bool true) (Fx.x_gtrT rfl rfl rfl (by omega)) (Fx.Ln (Fx.sN (Fx.Wc (b := true) rfl (fun _ => Fx.W.exit (Fx.seqX (Fx.blkO rfl (Fx.lpX (Fx.blkX (Fx.sN (Fx.Ws (Fx.Wl (Fx.Lv (.int .i64 ((i2 : Int))) (Fx.x_move rfl h14) ?_))))))))) (fun h => nomatch h))))))))))))))))
   refine Fx.Lv (.int .i64 ((i2 : Int))) (Fx.x_assign rfl rfl) (Fx.Ln (Fx.sN (Fx.Wr (⟨.int .i64 ((i2 : Int)), Fx.rV Try.results31 (by exact rfl), ?_⟩))))
   exact ⟨i2, dk, rfl, hX.symm.trans (hX1.symm.trans (hX2.symm.trans (eq_end (by omega)))), hk, m15, b13⟩
  rw [Bool.not_eq_true] at c41
  refine Fx.Qt.call (v := .bool false) (by rfl) (fun v1 hv1 => Fx.rC (args := [.int .u64 ((gA dk) a), .int .u64 ((gA dk) i2)]) rfl rfl Try.func30 rfl rfl) rfl (fun v1 hv1 => (s_less ((gA dk) a) ((gA dk) i2) _).mono fun e v2 h => ⟨by rw [h.1, c41], by rw [h.2]; exact hv1⟩) ?_
  refine Fx.Qv (.bool true) (fun v1 hv1 => Fx.x_notT rfl rfl) (Fx.Qv (.bool true) (fun v1 hv1 => Fx.x_pickT rfl rfl rfl) (Fx.Qt.nil ?_))
  intro wb5 hbwb5
  have s11 : Fx.Stp w4.heap.size w4 wb5 := Fx.Sb hbwb5
  have m16 := m6.stpB s11 (Nat.ne_of_lt (m6.lt))
  have b14 := s11.below b5 (Nat.le_trans hB b5.size) (Nat.le_trans hB b5.size)
  refine Fx.sN (Fx.Wc (b := true) rfl (fun _ => Fx.Wk (Fx.sN (Fx.W.block (Fx.Wl (Fx.Lv (.int .i64 ((i2 : Int))) (Fx.x_move rfl h9) ?_))))) (fun h => nomatch h))
  refine Fx.Lv (.int .i64 ((i2 : Int) + 1)) (Fx.x_add rfl rfl rfl Fx.io) (Fx.Lv (.int .i64 ((i2 : Int) + 1)) (Fx.x_assign rfl rfl) (Fx.Ln (Fx.blkN (Fx.lpN ⟨i2 + 1, ((eq_up (by omega) (of_decide_eq_false c41)).trans hX1), (by omega), h6, (h7.trans Fx.ic), (h8.trans Fx.ic), Fx.ic, (h10.trans Fx.ic), m16, b14⟩ ?_))))
  show ((j : Int) + 1 - intOf ((.int .i64 ((i2 : Int) + 1)))).toNat < _
  simp only [h9, intOf]; omega
 refine Fx.Qv (.bool false) (fun v1 hv1 => Fx.x_leqF rfl rfl rfl c31) (Fx.Qv (.bool false) (fun v1 hv1 => Fx.x_move rfl rfl) (Fx.Qs (by rfl) rfl (Fx.Qs (by rfl) rfl (Fx.Qs (by rfl) rfl (Fx.Qs (by rfl) rfl (Fx.Qs (by rfl) rfl (Fx.Qs (by rfl) rfl (Fx.Qs (by rfl) rfl (Fx.Qs (by rfl) rfl (Fx.Qs (by rfl) rfl (Fx.Qs (by rfl) rfl (Fx.Qv (.bool false) (fun v1 hv1 => Fx.x_pickF rfl rfl rfl) (Fx.Qt.nil ?_)))))))))))))
 intro wb6 hbwb6
 have s12 : Fx.Stp w4.heap.size w4 wb6 := Fx.Sb hbwb6
 have m17 := m6.stpB s12 (Nat.ne_of_lt (m6.lt))
 have b15 := s12.below b5 (Nat.le_trans hB b5.size) (Nat.le_trans hB b5.size)
 refine Fx.sN (Fx.Wc (b := false) rfl (fun h => nomatch h) (fun _ => Fx.W.exit (Fx.seqX (Fx.lpX (Fx.blkX (Fx.sN (Fx.Ws (Fx.W.block (Fx.W.loop (fun f w_ => ∃ j2 : Nat, Sort.partEqLoop Sort.ltInt a i2 j2 dk = Sort.partEqLoop Sort.ltInt a i2 j dk ∧ ((j2 < i2 ∨ gA dk a < gA dk i2)) ∧ j2 ≤ j ∧ f 0 = .slice (some ⟨g, 0, none⟩) (n) (cap) ∧ f 1 = .int .i64 ((a : Int)) ∧ f 2 = .int .i64 ((b : Int)) ∧ f 9 = .int .i64 ((i2 : Int)) ∧ f 10 = .int .i64 ((j2 : Int)) ∧ Fx.Own w_ B 28 1 (.slice (some ⟨g, 0, none⟩) n cap) n (Fx.rv .u64 (gA dk)) ∧ Below B w w_) (fun f _ => (intOf (f 10)).toNat) ⟨j, rfl, (.inl (by omega)), (by omega), h6, (h7.trans Fx.ic), (h8.trans Fx.ic), (h9.trans Fx.ic), (h10.trans Fx.ic), m17, b15⟩ ?_)))))))))
 rintro f4 w8 ⟨j2, hX2, hst, hj2, h16, h17, h18, h19, h20, m18, b16⟩
 refine Fx.Ws (Fx.Ws ?_)
 -- region 5 draws
 refine Fx.W.quiet (fun v1 => Below w8.heap.size w8 v1) (by kernel_rfl) (by kernel_rfl) (Below.refl _ _).drew ?_
 refine Fx.Qv (.int .i64 ((i2 : Int))) (fun v1 hv1 => Fx.x_move rfl h19) (Fx.Qv (.int .i64 ((j2 : Int))) (fun v1 hv1 => Fx.x_move rfl h20) ?_)
 by_cases c48 : (i2 : Int) ≤ (j2 : Int)
 ·refine Fx.Qv (.bool true) (fun v1 hv1 => Fx.x_leqT rfl rfl rfl c48) (Fx.Qv (.bool true) (fun v1 hv1 => Fx.x_move rfl rfl) (Fx.Qv (.slice (some ⟨g, 0, none⟩) (n) (cap)) (fun v1 hv1 => Fx.x_move rfl h16) (Fx.Qv (.int .i64 ((a : Int))) (fun v1 hv1 => Fx.x_move rfl h17) (Fx.Qv ((pf g a)) (fun v1 hv1 => Fx.x_indexS rfl rfl rfl Try.underlying33 (s := 1) (by kernel_rfl) (by omega) (by omega) (by omega)) (Fx.Qv (.int .u64 ((gA dk) a)) (fun v1 hv1 => Fx.x_load1 (x := Fx.rv .u64 (gA dk)) rfl rfl (by kernel_rfl) (m18.cel.below hv1 (by have := m18.lt; omega)) (i := a) (by omega) (by omega) rfl) (Fx.Qv (.slice (some ⟨g, 0, none⟩) (n) (cap)) (fun v1 hv1 => Fx.x_move rfl h16) (Fx.Qv (.int .i64 ((j2 : Int))) (fun v1 hv1 => Fx.x_move rfl h20) (Fx.Qv ((pf g j2)) (fun v1 hv1 => Fx.x_indexS rfl rfl rfl Try.underlying33 (s := 1) (by kernel_rfl) (by omega) (by omega) (by omega)) (Fx.Qv (.int .u64 ((gA dk) j2)) (fun v1 hv1 => Fx.x_load1 (x := Fx.rv .u64 (gA dk)) rfl rfl (by kernel_rfl) (m18.cel.below hv1 (by have := m18.lt; omega)) (i := j2) (by omega) (by omega) rfl) ?_)))))))))
  by_cases c58 : (decide ((gA dk) a < (gA dk) j2)) = true
  ·refine Fx.Qt.call (v := .bool true) (by rfl) (fun v1 hv1 => Fx.rC (args := [.int .u64 ((gA dk) a), .int .u64 ((gA dk) j2)]) rfl rfl Try.func30 rfl rfl) rfl (fun v1 hv1 => (s_less ((gA dk) a) ((gA dk) j2) _).mono fun e v2 h => ⟨by rw [h.1, c58], by rw [h.2]; exact hv1⟩) ?_
   refine Fx.Qv (.bool true) (fun v1 hv1 => Fx.x_pickT rfl rfl rfl) (Fx.Qt.nil ?_)
   intro wb7 hbwb7
   have s13 : Fx.Stp w8.heap.size w8 wb7 := Fx.Sb hbwb7
   have m19 := m18.stpB s13 (Nat.ne_of_lt (m18.lt))
   have b17 := s13.below b16 (Nat.le_trans hB b16.size) (Nat.le_trans hB b16.size)
   refine Fx.sN (Fx.Wc (b := true) rfl (fun _ => Fx.Wk (Fx.sN (Fx.W.block (Fx.Wl (Fx.Lv (.int .i64 ((j2 : Int))) (Fx.x_move rfl h20) ?_))))) (fun h => nomatch h))
   refine Fx.Lv (.int .i64 ((j2 : Int) - 1)) (Fx.x_sub rfl rfl rfl Fx.io) (Fx.Lv (.int .i64 ((j2 : Int) - 1)) (Fx.x_assign rfl rfl) (Fx.Ln (Fx.blkN (Fx.lpN ⟨j2 - 1, ((eq_dn (by omega) (by omega) (hst.resolve_left (by omega)) (of_decide_eq_true c58)).trans hX2), (hst.elim (fun h => .inl (by omega)) .inr), (by omega), h16, (h17.trans Fx.ic), (h18.trans Fx.ic), (h19.trans Fx.ic), Fx.ic, m19, b17⟩ ?_))))
   show (intOf ((.int .i64 ((j2 : Int) - 1)))).toNat < _
   simp only [h20, intOf]; omega
  rw [Bool.not_eq_true] at c58
  refine Fx.Qt.call (v := .bool false) (by rfl) (fun v1 hv1 => Fx.rC (args := [.int .u64 ((gA dk) a), .int .u64 ((gA dk) j2)]) rfl rfl Try.func30 rfl rfl) rfl (fun v1 hv1 => (s_less ((gA dk) a) ((gA dk) j2) _).mono fun e v2 h => ⟨by rw [h.1, c58], by rw [h.2]; exact hv1⟩) ?_
  refine Fx.Qv (.bool false) (fun v1 hv1 => Fx.x_pickT rfl rfl rfl) (Fx.Qt.nil ?_)
  intro wb8 hbwb8
  have s14 : Fx.Stp w8.heap.size w8 wb8 := Fx.Sb hbwb8
  have m20 := m18.stpB s14 (Nat.ne_of_lt (m18.lt))
  have b18 := s14.below b16 (Nat.le_trans hB b16.size) (Nat.le_trans hB b16.size)
  refine Fx.sN (Fx.Wc (b := false) rfl (fun h => nomatch h) (fun _ => Fx.W.exit (Fx.seqX (Fx.lpX (Fx.blkX (Fx.sN (Fx.Ws (Fx.Ws (Fx.Wl (Fx.Lv (.int .i64 ((i2 : Int))) (Fx.x_move rfl h19) (Fx.Lv (.int .i64 ((j2 : Int))) (Fx.x_move rfl h20) (Fx.Lv (.bool false) (Fx.x_gtrF rfl rfl rfl (by omega)) (Fx.Ln (Fx.sN (Fx.Wc (b := false) rfl (fun h => nomatch h) (fun _ => Fx.Wk (Fx.sN (Fx.Ws ?_))))))))))))))))))
  -- region 8 draws
  refine Fx.W.reord [0, 1, 2, 3, 4, 5, 6, 8, 9, 10, 7, 11, 12, 13, 14, 15] [0, 0, 0, 0, 0, 0, 0, 4, 0, 0, 0, 4, 0, 3, 0, 3] Fx.Mk Fx.Mk.refl Fx.Mk.trans (certs := [(13, 7, [7]), (15, 7, [7]), (13, 11, [11]), (15, 11, [11]), (14, 13, [13]), (15, 13, [13])]) (by kernel_rfl) (by kernel_rfl) (by kernel_rfl) (by kernel_rfl) (by kernel_rfl) fun wt3 hbwt3 hzwt3 => ?_
  have s15 : Fx.Stp wb8.heap.size wb8 wt3 := Fx.Sb hbwt3
  have m21 := m20.stpB s15 (Nat.ne_of_lt (m20.lt))
  have b19 := s15.below b18 (Nat.le_trans hB b18.size) (Nat.le_trans hB b18.size)
  refine Fx.Rp (.slice (some ⟨g, 0, none⟩) (n) (cap)) (fun v1 => Fx.x_move rfl h16) (Fx.Rp (.int .i64 ((i2 : Int))) (fun v1 => Fx.x_move rfl h19) (Fx.Rp (.slice (some ⟨g, 0, none⟩) (n) (cap)) (fun v1 => Fx.x_move rfl h16) (Fx.Rp (.int .i64 ((j2 : Int))) (fun v1 => Fx.x_move rfl h20) (Fx.Rp (.slice (some ⟨g, 0, none⟩) (n) (cap)) (fun v1 => Fx.x_move rfl h16) (Fx.Rp (.int .i64 ((j2 : Int))) (fun v1 => Fx.x_move rfl h20) (Fx.Rp ((pf g j2)) (fun v1 => Fx.x_indexS rfl rfl rfl Try.underlying33 (s := 1) (by kernel_rfl) (by omega) (by omega) (by omega)) (Fx.Rp (.slice (some ⟨g, 0, none⟩) (n) (cap)) (fun v1 => Fx.x_move rfl h16) (Fx.Rp (.int .i64 ((i2 : Int))) (fun v1 => Fx.x_move rfl h19) (Fx.Rp ((pf g i2)) (fun v1 => Fx.x_indexS rfl rfl rfl Try.underlying33 (s := 1) (by kernel_rfl) (by omega) (by omega) (by omega)) (Fx.R.s (.int .u64 ((gA dk) j2)) (Fx.x_load1 (x := Fx.rv .u64 (gA dk)) rfl rfl (by kernel_rfl) m21.cel (i := j2) (by omega) (by omega) rfl) ?_))))))))))
  refine Fx.R.s (.int .u64 ((gA dk) i2)) (Fx.x_load1 (x := Fx.rv .u64 (gA dk)) rfl rfl (by kernel_rfl) m21.cel (i := i2) (by omega) (by omega) rfl) ?_
  refine Fx.Rp ((pf g i2)) (fun v1 => Fx.x_indexS rfl rfl rfl Try.underlying33 (s := 1) (by kernel_rfl) (by omega) (by omega) (by omega)) (Fx.R.eff (by rfl) ?_)
  refine Fx.L.own1 (x := Fx.rv .u64 (gA dk)) (u := .int .u64 ((gA dk) j2)) (by rfl) rfl rfl rfl rfl (by rfl) (by kernel_rfl) m21 (i := i2) (by omega) fun w9 m22 s16 z5 => ?_
  have b20 := s16.below b19 (Nat.le_trans hB b19.size) m21.blk.1
  refine Fx.Ln (Fx.Rp ((pf g j2)) (fun v1 => Fx.x_indexS rfl rfl rfl Try.underlying33 (s := 1) (by kernel_rfl) (by omega) (by omega) (by omega)) (Fx.R.eff (by rfl) ?_))
  refine Fx.L.own1 (x := Fx.updV (Fx.rv .u64 (gA dk)) i2 (.int .u64 ((gA dk) j2))) (u := .int .u64 ((gA dk) i2)) (by rfl) rfl rfl rfl rfl (by rfl) (by kernel_rfl) m22 (i := j2) (by omega) fun w10 m23 s17 z6 => ?_
  have b21 := s17.below b20 (Nat.le_trans hB b20.size) m22.blk.1
  have m24 : Fx.Own w10 B 28 1 (.slice (some ⟨g, 0, none⟩) n cap) n (Fx.rv .u64 (gA (Sort.swp dk i2 j2))) := m23.congr (swp_rv hk (by omega) (by omega))
  refine Fx.Ln (Fx.R.nil (Fx.sN (Fx.Ws (Fx.Wl (Fx.Lv (.int .i64 ((i2 : Int))) (Fx.x_move rfl h19) (Fx.Lv (.int .i64 ((i2 : Int) + 1)) (Fx.x_add rfl rfl rfl Fx.io) (Fx.Lv (.int .i64 ((i2 : Int) + 1)) (Fx.x_assign rfl rfl) (Fx.Ln (Fx.sN (Fx.Wl (Fx.Lv (.int .i64 ((j2 : Int))) (Fx.x_move rfl h20) (Fx.Lv (.int .i64 ((j2 : Int) - 1)) (Fx.x_sub rfl rfl rfl Fx.io) (Fx.Lv (.int .i64 ((j2 : Int) - 1)) (Fx.x_assign rfl rfl) (Fx.Ln (Fx.blkN (Fx.lpN ⟨i2 + 1, j2 - 1, Sort.swp dk i2 j2, (sz_swp hk _ _), ((eq_sw (by omega) (hst.resolve_left (by omega)) (of_decide_eq_false c58)).trans (hX2.trans (hX1.trans hX))), (by omega), h16, (h17.trans Fx.ic), (h18.trans Fx.ic), Fx.ic, Fx.ic, m24, b21⟩ ?_))))))))))))))))
  show ((b : Int) - intOf ((.int .i64 ((i2 : Int) + 1)))).toNat < _
  simp only [h4, intOf]; omega
 refine Fx.Qv (.bool false) (fun v1 hv1 => Fx.x_leqF rfl rfl rfl c48) (Fx.Qv (.bool false) (fun v1 hv1 => Fx.x_move rfl rfl) (Fx.Qs (by rfl) rfl (Fx.Qs (by rfl) rfl (Fx.Qs (by rfl) rfl (Fx.Qs (by rfl) rfl (Fx.Qs (by rfl) rfl (Fx.Qs (by rfl) rfl (Fx.Qs (by rfl) rfl (Fx.Qs (by rfl) rfl (Fx.Qs (by rfl) rfl (Fx.Qv (.bool false) (fun v1 hv1 => Fx.x_pickF rfl rfl rfl) (Fx.Qt.nil ?_))))))))))))
 intro wb9 hbwb9
 have s18 : Fx.Stp w8.heap.size w8 wb9 := Fx.Sb hbwb9
 have m25 := m18.stpB s18 (Nat.ne_of_lt (m18.lt))
 have b22 := s18.below b16 (Nat.le_trans hB b16.size) (Nat.le_trans hB b16.size)
 refine Fx.sN (Fx.Wc (b := false) rfl (fun h => nomatch h) (fun _ => Fx.W.exit (Fx.seqX (Fx.lpX (Fx.blkX (Fx.sN (Fx.Ws (Fx.Ws (Fx.Wl (Fx.Lv (.int .i64 ((i2 : Int))) (Fx.x_move rfl h19) (Fx.Lv (.int .i64 ((j2 : Int))) (Fx.x_move rfl h20) (Fx.Lv (.bool true) (Fx.x_gtrT rfl rfl rfl (by omega)) (Fx.Ln (Fx.sN (Fx.Wc (b := true) rfl (fun _ => Fx.W.exit (Fx.seqX (Fx.blkO rfl (Fx.lpX (Fx.blkX (Fx.sN (Fx.Ws (Fx.Wl (Fx.Lv (.int .i64 ((i2 : Int))) (Fx.x_move rfl h19) ?_))))))))) (fun h => nomatch h))))))))))))))))
 refine Fx.Lv (.int .i64 ((i2 : Int))) (Fx.x_assign rfl rfl) (Fx.Ln (Fx.sN (Fx.Wr (⟨.int .i64 ((i2 : Int)), Fx.rV Try.results31 (by exact rfl), ?_⟩))))
 exact ⟨i2, dk, rfl, hX.symm.trans (hX1.symm.trans (hX2.symm.trans (eq_end (by omega)))), hk, m25, b22⟩
theorem s_pt (a b p : Nat) (B g n cap : Nat) (d : Array Int) (w : World) (h : Fx.Own w B 28 1 (.slice (some ⟨g, 0, none⟩) n cap) n (Fx.rv .u64 (gA d))) (hB : B ≤ w.heap.size) (hn : d.size = n) (hs : n ≤ 1000) (ha : a ≤ p) (hp : p < b) (hb : b ≤ n) :
    Calls Try.prog 32 #[.slice (some ⟨g, 0, none⟩) (n) (cap), .int .i64 ((a : Int)), .int .i64 ((b : Int)), .int .i64 ((p : Int))] w fun e w' => ∃ (mid : Nat) (ap : Bool) (d4 : Array Int), e = .returned (.tuple #[.int .i64 (mid : Int), .bool ap]) ∧ (Sort.partition Sort.ltInt d a b p).1 = mid ∧ (Sort.partition Sort.ltInt d a b p).2.2 = d4 ∧ d4.size = n ∧ Fx.Own w' B 28 1 (.slice (some ⟨g, 0, none⟩) n cap) n (Fx.rv .u64 (gA d4)) ∧ Below B w w' := by
 refine Fx.enter Try.func32 rfl (n := 168) rfl (by rfl) ?_
 refine Fx.Ws (Fx.Wl (Fx.Lv (.int .i64 (0)) (Fx.x_assign rfl rfl) (Fx.Lv (.bool false) (Fx.x_assign rfl rfl) (Fx.Ln (Fx.sN (Fx.Ws ?_))))))
 -- region 1 draws
 refine Fx.W.reord [0, 1, 2, 3, 4, 5, 6, 8, 9, 10, 7, 11, 12, 13, 14, 15] [0, 0, 0, 0, 0, 0, 0, 4, 0, 0, 0, 4, 0, 3, 0, 3] Fx.Mk Fx.Mk.refl Fx.Mk.trans (certs := [(13, 7, [7]), (15, 7, [7]), (13, 11, [11]), (15, 11, [11]), (14, 13, [13]), (15, 13, [13])]) (by kernel_rfl) (by kernel_rfl) (by kernel_rfl) (by kernel_rfl) (by kernel_rfl) fun wt1 hbwt1 hzwt1 => ?_
 have s1 : Fx.Stp w.heap.size w wt1 := Fx.Sb hbwt1
 have m1 := h.stpB s1 (Nat.ne_of_lt (h.lt))
 have b1 := s1.below (Below.refl B w) (Nat.le_trans hB (Below.refl B w).size) (Nat.le_trans hB (Below.refl B w).size)
 refine Fx.Rp (.slice (some ⟨g, 0, none⟩) (n) (cap)) (fun v1 => Fx.x_move rfl rfl) (Fx.Rp (.int .i64 ((a : Int))) (fun v1 => Fx.x_move rfl rfl) (Fx.Rp (.slice (some ⟨g, 0, none⟩) (n) (cap)) (fun v1 => Fx.x_move rfl rfl) (Fx.Rp (.int .i64 ((p : Int))) (fun v1 => Fx.x_move rfl rfl) (Fx.Rp (.slice (some ⟨g, 0, none⟩) (n) (cap)) (fun v1 => Fx.x_move rfl rfl) (Fx.Rp (.int .i64 ((p : Int))) (fun v1 => Fx.x_move rfl rfl) (Fx.Rp ((pf g p)) (fun v1 => Fx.x_indexS rfl rfl rfl Try.underlying33 (s := 1) (by kernel_rfl) (by omega) (by omega) (by omega)) (Fx.Rp (.slice (some ⟨g, 0, none⟩) (n) (cap)) (fun v1 => Fx.x_move rfl rfl) (Fx.Rp (.int .i64 ((a : Int))) (fun v1 => Fx.x_move rfl rfl) (Fx.Rp ((pf g a)) (fun v1 => Fx.x_indexS rfl rfl rfl Try.underlying33 (s := 1) (by kernel_rfl) (by omega) (by omega) (by omega)) (Fx.R.s (.int .u64 ((gA d) p)) (Fx.x_load1 (x := Fx.rv .u64 (gA d)) rfl rfl (by kernel_rfl) m1.cel (i := p) (by omega) (by omega) rfl) ?_))))))))))
 refine Fx.R.s (.int .u64 ((gA d) a)) (Fx.x_load1 (x := Fx.rv .u64 (gA d)) rfl rfl (by kernel_rfl) m1.cel (i := a) (by omega) (by omega) rfl) ?_
 refine Fx.Rp ((pf g a)) (fun v1 => Fx.x_indexS rfl rfl rfl Try.underlying33 (s := 1) (by kernel_rfl) (by omega) (by omega) (by omega)) (Fx.R.eff (by rfl) ?_)
 refine Fx.L.own1 (x := Fx.rv .u64 (gA d)) (u := .int .u64 ((gA d) p)) (by rfl) rfl rfl rfl rfl (by rfl) (by kernel_rfl) m1 (i := a) (by omega) fun w1 m2 s2 z1 => ?_
 have b2 := s2.below b1 (Nat.le_trans hB b1.size) m1.blk.1
 refine Fx.Ln (Fx.Rp ((pf g p)) (fun v1 => Fx.x_indexS rfl rfl rfl Try.underlying33 (s := 1) (by kernel_rfl) (by omega) (by omega) (by omega)) (Fx.R.eff (by rfl) ?_))
 refine Fx.L.own1 (x := Fx.updV (Fx.rv .u64 (gA d)) a (.int .u64 ((gA d) p))) (u := .int .u64 ((gA d) a)) (by rfl) rfl rfl rfl rfl (by rfl) (by kernel_rfl) m2 (i := p) (by omega) fun w2 m3 s3 z2 => ?_
 have b3 := s3.below b2 (Nat.le_trans hB b2.size) m2.blk.1
 have m4 : Fx.Own w2 B 28 1 (.slice (some ⟨g, 0, none⟩) n cap) n (Fx.rv .u64 (gA (Sort.swp d a p))) := m3.congr (swp_rv hn (by omega) (by omega))
 refine Fx.Ln (Fx.R.nil (Fx.sN (Fx.Ws (Fx.Wl (Fx.Lv (.int .i64 ((a : Int))) (Fx.x_move rfl rfl) (Fx.Lv (.int .i64 ((a : Int) + 1)) (Fx.x_add rfl rfl rfl Fx.io) (Fx.Lv (.int .i64 ((b : Int))) (Fx.x_move rfl rfl) (Fx.Lv (.int .i64 ((b : Int) - 1)) (Fx.x_sub rfl rfl rfl Fx.io) (Fx.Lv (.int .i64 ((a : Int) + 1)) (Fx.x_assign rfl rfl) (Fx.Lv (.int .i64 ((b : Int) - 1)) (Fx.x_assign rfl rfl) (Fx.Ln (Fx.sN (Fx.Ws (Fx.W.block (Fx.W.loop (fun f w_ => ∃ i0 : Nat, Sort.partLoop Sort.ltInt a i0 (b - 1) (Sort.swp d a p) = Sort.partLoop Sort.ltInt a (a + 1) (b - 1) (Sort.swp d a p) ∧ (a + 1 ≤ i0 ∧ i0 ≤ b) ∧ f 0 = .slice (some ⟨g, 0, none⟩) (n) (cap) ∧ f 1 = .int .i64 ((a : Int)) ∧ f 2 = .int .i64 ((b : Int)) ∧ f 10 = .int .i64 ((i0 : Int)) ∧ f 11 = .int .i64 ((b : Int) - 1) ∧ Fx.Own w_ B 28 1 (.slice (some ⟨g, 0, none⟩) n cap) n (Fx.rv .u64 (gA (Sort.swp d a p))) ∧ Below B w w_) (fun f _ => ((b : Int) - intOf (f 10)).toNat) ⟨a + 1, rfl, (by omega), (by rfl), Fx.ic, Fx.ic, Fx.ic, Fx.ic, m4, b3⟩ ?_)))))))))))))))
 rintro f1 w3 ⟨i0, hY0, lhY0, h1, h2, h3, h4, h5, m5, b4⟩
 refine Fx.Ws (Fx.Ws ?_)
 -- region 3 draws
 refine Fx.W.quiet (fun v1 => Below w3.heap.size w3 v1) (by kernel_rfl) (by kernel_rfl) (Below.refl _ _).drew ?_
 refine Fx.Qv (.int .i64 ((i0 : Int))) (fun v1 hv1 => Fx.x_move rfl h4) (Fx.Qv (.int .i64 ((b : Int) - 1)) (fun v1 hv1 => Fx.x_move rfl h5) ?_)
 by_cases c32 : (i0 : Int) ≤ ((b : Int) - 1)
 ·refine Fx.Qv (.bool true) (fun v1 hv1 => Fx.x_leqT rfl rfl rfl c32) (Fx.Qv (.bool true) (fun v1 hv1 => Fx.x_move rfl rfl) (Fx.Qv (.slice (some ⟨g, 0, none⟩) (n) (cap)) (fun v1 hv1 => Fx.x_move rfl h1) (Fx.Qv (.int .i64 ((i0 : Int))) (fun v1 hv1 => Fx.x_move rfl h4) (Fx.Qv ((pf g i0)) (fun v1 hv1 => Fx.x_indexS rfl rfl rfl Try.underlying33 (s := 1) (by kernel_rfl) (by omega) (by omega) (by omega)) (Fx.Qv (.int .u64 ((gA (Sort.swp d a p)) i0)) (fun v1 hv1 => Fx.x_load1 (x := Fx.rv .u64 (gA (Sort.swp d a p))) rfl rfl (by kernel_rfl) (m5.cel.below hv1 (by have := m5.lt; omega)) (i := i0) (by omega) (by omega) rfl) (Fx.Qv (.slice (some ⟨g, 0, none⟩) (n) (cap)) (fun v1 hv1 => Fx.x_move rfl h1) (Fx.Qv (.int .i64 ((a : Int))) (fun v1 hv1 => Fx.x_move rfl h2) (Fx.Qv ((pf g a)) (fun v1 hv1 => Fx.x_indexS rfl rfl rfl Try.underlying33 (s := 1) (by kernel_rfl) (by omega) (by omega) (by omega)) (Fx.Qv (.int .u64 ((gA (Sort.swp d a p)) a)) (fun v1 hv1 => Fx.x_load1 (x := Fx.rv .u64 (gA (Sort.swp d a p))) rfl rfl (by kernel_rfl) (m5.cel.below hv1 (by have := m5.lt; omega)) (i := a) (by omega) (by omega) rfl) ?_)))))))))
  by_cases c42 : (decide ((gA (Sort.swp d a p)) i0 < (gA (Sort.swp d a p)) a)) = true
  ·refine Fx.Qt.call (v := .bool true) (by rfl) (fun v1 hv1 => Fx.rC (args := [.int .u64 ((gA (Sort.swp d a p)) i0), .int .u64 ((gA (Sort.swp d a p)) a)]) rfl rfl Try.func30 rfl rfl) rfl (fun v1 hv1 => (s_less ((gA (Sort.swp d a p)) i0) ((gA (Sort.swp d a p)) a) _).mono fun e v2 h => ⟨by rw [h.1, c42], by rw [h.2]; exact hv1⟩) ?_
   refine Fx.Qv (.bool true) (fun v1 hv1 => Fx.x_pickT rfl rfl rfl) (Fx.Qt.nil ?_)
   intro wb1 hbwb1
   have s4 : Fx.Stp w3.heap.size w3 wb1 := Fx.Sb hbwb1
   have m6 := m5.stpB s4 (Nat.ne_of_lt (m5.lt))
   have b5 := s4.below b4 (Nat.le_trans hB b4.size) (Nat.le_trans hB b4.size)
   refine Fx.sN (Fx.Wc (b := true) rfl (fun _ => Fx.Wk (Fx.sN (Fx.W.block (Fx.Wl (Fx.Lv (.int .i64 ((i0 : Int))) (Fx.x_move rfl h4) ?_))))) (fun h => nomatch h))
   refine Fx.Lv (.int .i64 ((i0 : Int) + 1)) (Fx.x_add rfl rfl rfl Fx.io) (Fx.Lv (.int .i64 ((i0 : Int) + 1)) (Fx.x_assign rfl rfl) (Fx.Ln (Fx.blkN (Fx.lpN ⟨i0 + 1, ((pt_up (by omega) (of_decide_eq_true c42)).trans hY0), (by omega), h1, (h2.trans Fx.ic), (h3.trans Fx.ic), Fx.ic, (h5.trans Fx.ic), m6, b5⟩ ?_))))
   show ((b : Int) - intOf ((.int .i64 ((i0 : Int) + 1)))).toNat < _
   simp only [h4, intOf]; omega
  rw [Bool.not_eq_true] at c42
  refine Fx.Qt.call (v := .bool false) (by rfl) (fun v1 hv1 => Fx.rC (args := [.int .u64 ((gA (Sort.swp d a p)) i0), .int .u64 ((gA (Sort.swp d a p)) a)]) rfl rfl Try.func30 rfl rfl) rfl (fun v1 hv1 => (s_less ((gA (Sort.swp d a p)) i0) ((gA (Sort.swp d a p)) a) _).mono fun e v2 h => ⟨by rw [h.1, c42], by rw [h.2]; exact hv1⟩) ?_
  refine Fx.Qv (.bool false) (fun v1 hv1 => Fx.x_pickT rfl rfl rfl) (Fx.Qt.nil ?_)
  intro wb2 hbwb2
  have s5 : Fx.Stp w3.heap.size w3 wb2 := Fx.Sb hbwb2
  have m7 := m5.stpB s5 (Nat.ne_of_lt (m5.lt))
  have b6 := s5.below b4 (Nat.le_trans hB b4.size) (Nat.le_trans hB b4.size)
  refine Fx.sN (Fx.Wc (b := false) rfl (fun h => nomatch h) (fun _ => Fx.W.exit (Fx.seqX (Fx.lpX (Fx.blkX (Fx.sN (Fx.Ws (Fx.W.block (Fx.W.loop (fun f w_ => ∃ j0 : Nat, Sort.partLoop Sort.ltInt a i0 j0 (Sort.swp d a p) = Sort.partLoop Sort.ltInt a (a + 1) (b - 1) (Sort.swp d a p) ∧ ((j0 < i0 ∨ ¬ gA (Sort.swp d a p) i0 < gA (Sort.swp d a p) a)) ∧ (j0 < b ∧ j0 ≤ b) ∧ f 0 = .slice (some ⟨g, 0, none⟩) (n) (cap) ∧ f 1 = .int .i64 ((a : Int)) ∧ f 2 = .int .i64 ((b : Int)) ∧ f 10 = .int .i64 ((i0 : Int)) ∧ f 11 = .int .i64 ((j0 : Int)) ∧ Fx.Own w_ B 28 1 (.slice (some ⟨g, 0, none⟩) n cap) n (Fx.rv .u64 (gA (Sort.swp d a p))) ∧ Below B w w_) (fun f _ => (intOf (f 11)).toNat) ⟨b - 1, hY0, (.inr (of_decide_eq_false c42)), (by omega), h1, (h2.trans Fx.ic), (h3.trans Fx.ic), (h4.trans Fx.ic), (h5.trans Fx.ic), m7, b6⟩ ?_)))))))))
  rintro f2 w4 ⟨j0, hY1, hst0, lhY1, h6, h7, h8, h9, h10, m8, b7⟩
  refine Fx.Ws (Fx.Ws ?_)
  -- region 5 draws
  refine Fx.W.quiet (fun v1 => Below w4.heap.size w4 v1) (by kernel_rfl) (by kernel_rfl) (Below.refl _ _).drew ?_
  refine Fx.Qv (.int .i64 ((i0 : Int))) (fun v1 hv1 => Fx.x_move rfl h9) (Fx.Qv (.int .i64 ((j0 : Int))) (fun v1 hv1 => Fx.x_move rfl h10) ?_)
  by_cases c48 : (i0 : Int) ≤ (j0 : Int)
  ·refine Fx.Qv (.bool true) (fun v1 hv1 => Fx.x_leqT rfl rfl rfl c48) (Fx.Qv (.bool true) (fun v1 hv1 => Fx.x_move rfl rfl) (Fx.Qv (.slice (some ⟨g, 0, none⟩) (n) (cap)) (fun v1 hv1 => Fx.x_move rfl h6) (Fx.Qv (.int .i64 ((j0 : Int))) (fun v1 hv1 => Fx.x_move rfl h10) (Fx.Qv ((pf g j0)) (fun v1 hv1 => Fx.x_indexS rfl rfl rfl Try.underlying33 (s := 1) (by kernel_rfl) (by omega) (by omega) (by omega)) (Fx.Qv (.int .u64 ((gA (Sort.swp d a p)) j0)) (fun v1 hv1 => Fx.x_load1 (x := Fx.rv .u64 (gA (Sort.swp d a p))) rfl rfl (by kernel_rfl) (m8.cel.below hv1 (by have := m8.lt; omega)) (i := j0) (by omega) (by omega) rfl) (Fx.Qv (.slice (some ⟨g, 0, none⟩) (n) (cap)) (fun v1 hv1 => Fx.x_move rfl h6) (Fx.Qv (.int .i64 ((a : Int))) (fun v1 hv1 => Fx.x_move rfl h7) (Fx.Qv ((pf g a)) (fun v1 hv1 => Fx.x_indexS rfl rfl rfl Try.underlying33 (s := 1) (by kernel_rfl) (by omega) (by omega) (by omega)) (Fx.Qv (.int .u64 ((gA (Sort.swp d a p)) a)) (fun v1 hv1 => Fx.x_load1 (x := Fx.rv .u64 (gA (Sort.swp d a p))) rfl rfl (by kernel_rfl) (m8.cel.below hv1 (by have := m8.lt; omega)) (i := a) (by omega) (by omega) rfl) ?_)))))))))
   by_cases c58 : (decide ((gA (Sort.swp d a p)) j0 < (gA (Sort.swp d a p)) a)) = true
   ·refine Fx.Qt.call (v := .bool true) (by rfl) (fun v1 hv1 => Fx.rC (args := [.int .u64 ((gA (Sort.swp d a p)) j0), .int .u64 ((gA (Sort.swp d a p)) a)]) rfl rfl Try.func30 rfl rfl) rfl (fun v1 hv1 => (s_less ((gA (Sort.swp d a p)) j0) ((gA (Sort.swp d a p)) a) _).mono fun e v2 h => ⟨by rw [h.1, c58], by rw [h.2]; exact hv1⟩) ?_
    refine Fx.Qv (.bool false) (fun v1 hv1 => Fx.x_notF rfl rfl) (Fx.Qv (.bool false) (fun v1 hv1 => Fx.x_pickT rfl rfl rfl) (Fx.Qt.nil ?_))
    intro wb3 hbwb3
    have s6 : Fx.Stp w4.heap.size w4 wb3 := Fx.Sb hbwb3
    have m9 := m8.stpB s6 (Nat.ne_of_lt (m8.lt))
    have b8 := s6.below b7 (Nat.le_trans hB b7.size) (Nat.le_trans hB b7.size)
    refine Fx.sN (Fx.Wc (b := false) rfl (fun h => nomatch h) (fun _ => Fx.W.exit (Fx.seqX (Fx.lpX (Fx.blkX (Fx.sN (Fx.Ws (Fx.Ws (Fx.Wl (Fx.Lv (.int .i64 ((i0 : Int))) (Fx.x_move rfl h9) (Fx.Lv (.int .i64 ((j0 : Int))) (Fx.x_move rfl h10) (Fx.Lv (.bool false) (Fx.x_gtrF rfl rfl rfl (by omega)) (Fx.Ln (Fx.sN (Fx.Wc (b := false) rfl (fun h => nomatch h) (fun _ => Fx.Wk (Fx.sN (Fx.Ws ?_))))))))))))))))))
    -- region 10 draws
    refine Fx.W.reord [0, 1, 2, 3, 4, 5, 6, 8, 9, 10, 7, 11, 12, 13, 14, 15] [0, 0, 0, 0, 0, 0, 0, 4, 0, 0, 0, 4, 0, 3, 0, 3] Fx.Mk Fx.Mk.refl Fx.Mk.trans (certs := [(13, 7, [7]), (15, 7, [7]), (13, 11, [11]), (15, 11, [11]), (14, 13, [13]), (15, 13, [13])]) (by kernel_rfl) (by kernel_rfl) (by kernel_rfl) (by kernel_rfl) (by kernel_rfl) fun wt2 hbwt2 hzwt2 => ?_
    have s7 : Fx.Stp wb3.heap.size wb3 wt2 := Fx.Sb hbwt2
    have m10 := m9.stpB s7 (Nat.ne_of_lt (m9.lt))
    have b9 := s7.below b8 (Nat.le_trans hB b8.size) (Nat.le_trans hB b8.size)
    refine Fx.Rp (.slice (some ⟨g, 0, none⟩) (n) (cap)) (fun v1 => Fx.x_move rfl h6) (Fx.Rp (.int .i64 ((i0 : Int))) (fun v1 => Fx.x_move rfl h9) (Fx.Rp (.slice (some ⟨g, 0, none⟩) (n) (cap)) (fun v1 => Fx.x_move rfl h6) (Fx.Rp (.int .i64 ((j0 : Int))) (fun v1 => Fx.x_move rfl h10) (Fx.Rp (.slice (some ⟨g, 0, none⟩) (n) (cap)) (fun v1 => Fx.x_move rfl h6) (Fx.Rp (.int .i64 ((j0 : Int))) (fun v1 => Fx.x_move rfl h10) (Fx.Rp ((pf g j0)) (fun v1 => Fx.x_indexS rfl rfl rfl Try.underlying33 (s := 1) (by kernel_rfl) (by omega) (by omega) (by omega)) (Fx.Rp (.slice (some ⟨g, 0, none⟩) (n) (cap)) (fun v1 => Fx.x_move rfl h6) (Fx.Rp (.int .i64 ((i0 : Int))) (fun v1 => Fx.x_move rfl h9) (Fx.Rp ((pf g i0)) (fun v1 => Fx.x_indexS rfl rfl rfl Try.underlying33 (s := 1) (by kernel_rfl) (by omega) (by omega) (by omega)) (Fx.R.s (.int .u64 ((gA (Sort.swp d a p)) j0)) (Fx.x_load1 (x := Fx.rv .u64 (gA (Sort.swp d a p))) rfl rfl (by kernel_rfl) m10.cel (i := j0) (by omega) (by omega) rfl) ?_))))))))))
    refine Fx.R.s (.int .u64 ((gA (Sort.swp d a p)) i0)) (Fx.x_load1 (x := Fx.rv .u64 (gA (Sort.swp d a p))) rfl rfl (by kernel_rfl) m10.cel (i := i0) (by omega) (by omega) rfl) ?_
    refine Fx.Rp ((pf g i0)) (fun v1 => Fx.x_indexS rfl rfl rfl Try.underlying33 (s := 1) (by kernel_rfl) (by omega) (by omega) (by omega)) (Fx.R.eff (by rfl) ?_)
    refine Fx.L.own1 (x := Fx.rv .u64 (gA (Sort.swp d a p))) (u := .int .u64 ((gA (Sort.swp d a p)) j0)) (by rfl) rfl rfl rfl rfl (by rfl) (by kernel_rfl) m10 (i := i0) (by omega) fun w5 m11 s8 z3 => ?_
    have b10 := s8.below b9 (Nat.le_trans hB b9.size) m10.blk.1
    refine Fx.Ln (Fx.Rp ((pf g j0)) (fun v1 => Fx.x_indexS rfl rfl rfl Try.underlying33 (s := 1) (by kernel_rfl) (by omega) (by omega) (by omega)) (Fx.R.eff (by rfl) ?_))
    refine Fx.L.own1 (x := Fx.updV (Fx.rv .u64 (gA (Sort.swp d a p))) i0 (.int .u64 ((gA (Sort.swp d a p)) j0))) (u := .int .u64 ((gA (Sort.swp d a p)) i0)) (by rfl) rfl rfl rfl rfl (by rfl) (by kernel_rfl) m11 (i := j0) (by omega) fun w6 m12 s9 z4 => ?_
    have b11 := s9.below b10 (Nat.le_trans hB b10.size) m11.blk.1
    have m13 : Fx.Own w6 B 28 1 (.slice (some ⟨g, 0, none⟩) n cap) n (Fx.rv .u64 (gA (Sort.swp (Sort.swp d a p) i0 j0))) := m12.congr (swp_rv (sz_swp hn _ _) (by omega) (by omega))
    refine Fx.Ln (Fx.R.nil (Fx.sN (Fx.Ws (Fx.Wl (Fx.Lv (.int .i64 ((i0 : Int))) (Fx.x_move rfl h9) (Fx.Lv (.int .i64 ((i0 : Int) + 1)) (Fx.x_add rfl rfl rfl Fx.io) (Fx.Lv (.int .i64 ((i0 : Int) + 1)) (Fx.x_assign rfl rfl) (Fx.Ln (Fx.sN (Fx.Ws (Fx.Wl (Fx.Lv (.int .i64 ((j0 : Int))) (Fx.x_move rfl h10) (Fx.Lv (.int .i64 ((j0 : Int) - 1)) (Fx.x_sub rfl rfl rfl Fx.io) (Fx.Lv (.int .i64 ((j0 : Int) - 1)) (Fx.x_assign rfl rfl) (Fx.Ln (Fx.sN (Fx.Ws (Fx.W.block (Fx.W.loop (fun f w_ => ∃ i : Nat, ∃ j : Nat, ∃ dk : Array Int, dk.size = n ∧ Sort.partLoop Sort.ltInt a i j dk = Sort.partLoop Sort.ltInt a (a + 1) (b - 1) (Sort.swp d a p) ∧ (a < i ∧ j < b ∧ i ≤ b) ∧ f 0 = .slice (some ⟨g, 0, none⟩) (n) (cap) ∧ f 1 = .int .i64 ((a : Int)) ∧ f 2 = .int .i64 ((b : Int)) ∧ f 10 = .int .i64 ((i : Int)) ∧ f 11 = .int .i64 ((j : Int)) ∧ Fx.Own w_ B 28 1 (.slice (some ⟨g, 0, none⟩) n cap) n (Fx.rv .u64 (gA dk)) ∧ Below B w w_) (fun f _ => ((b : Int) - intOf (f 10)).toNat) ⟨i0 + 1, j0 - 1, Sort.swp (Sort.swp d a p) i0 j0, (sz_swp (sz_swp hn _ _) _ _), ((pt_sw (by omega) (hst0.resolve_left (by omega)) (of_decide_eq_true c58)).trans hY1), (by omega), h6, (h7.trans Fx.ic), (h8.trans Fx.ic), Fx.ic, Fx.ic, m13, b11⟩ ?_)))))))))))))))))))
    rintro f3 w7 ⟨i, j, dk, hk, hX, hij, h11, h12, h13, h14, h15, m14, b12⟩
    refine Fx.W.block (Fx.Ws (Fx.W.block (Fx.W.loop (fun f w_ => ∃ i2 : Nat, Sort.partLoop Sort.ltInt a i2 j dk = Sort.partLoop Sort.ltInt a (a + 1) (b - 1) (Sort.swp d a p) ∧ (i ≤ i2 ∧ i2 ≤ b) ∧ f 0 = .slice (some ⟨g, 0, none⟩) (n) (cap) ∧ f 1 = .int .i64 ((a : Int)) ∧ f 2 = .int .i64 ((b : Int)) ∧ f 10 = .int .i64 ((i2 : Int)) ∧ f 11 = .int .i64 ((j : Int)) ∧ Fx.Own w_ B 28 1 (.slice (some ⟨g, 0, none⟩) n cap) n (Fx.rv .u64 (gA dk)) ∧ Below B w w_) (fun f _ => ((b : Int) - intOf (f 10)).toNat) ⟨i, hX, (by omega), h11, (h12.trans Fx.ic), (h13.trans Fx.ic), (h14.trans Fx.ic), (h15.trans Fx.ic), m14, b12⟩ ?_)))
    rintro f4 w8 ⟨i2, hX1, lhX1, h16, h17, h18, h19, h20, m15, b13⟩
    refine Fx.Ws (Fx.Ws ?_)
    -- region 13 draws
    refine Fx.W.quiet (fun v1 => Below w8.heap.size w8 v1) (by kernel_rfl) (by kernel_rfl) (Below.refl _ _).drew ?_
    refine Fx.Qv (.int .i64 ((i2 : Int))) (fun v1 hv1 => Fx.x_move rfl h19) (Fx.Qv (.int .i64 ((j : Int))) (fun v1 hv1 => Fx.x_move rfl h20) ?_)
    by_cases c101 : (i2 : Int) ≤ (j : Int)
    ·refine Fx.Qv (.bool true) (fun v1 hv1 => Fx.x_leqT rfl rfl rfl c101) (Fx.Qv (.bool true) (fun v1 hv1 => Fx.x_move rfl rfl) (Fx.Qv (.slice (some ⟨g, 0, none⟩) (n) (cap)) (fun v1 hv1 => Fx.x_move rfl h16) (Fx.Qv (.int .i64 ((i2 : Int))) (fun v1 hv1 => Fx.x_move rfl h19) (Fx.Qv ((pf g i2)) (fun v1 hv1 => Fx.x_indexS rfl rfl rfl Try.underlying33 (s := 1) (by kernel_rfl) (by omega) (by omega) (by omega)) (Fx.Qv (.int .u64 ((gA dk) i2)) (fun v1 hv1 => Fx.x_load1 (x := Fx.rv .u64 (gA dk)) rfl rfl (by kernel_rfl) (m15.cel.below hv1 (by have := m15.lt; omega)) (i := i2) (by omega) (by omega) rfl) (Fx.Qv (.slice (some ⟨g, 0, none⟩) (n) (cap)) (fun v1 hv1 => Fx.x_move rfl h16) (Fx.Qv (.int .i64 ((a : Int))) (fun v1 hv1 => Fx.x_move rfl h17) (Fx.Qv ((pf g a)) (fun v1 hv1 => Fx.x_indexS rfl rfl rfl Try.underlying33 (s := 1) (by kernel_rfl) (by omega) (by omega) (by omega)) (Fx.Qv (.int .u64 ((gA dk) a)) (fun v1 hv1 => Fx.x_load1 (x := Fx.rv .u64 (gA dk)) rfl rfl (by kernel_rfl) (m15.cel.below hv1 (by have := m15.lt; omega)) (i := a) (by omega) (by omega) rfl) ?_)))))))))
     by_cases c111 : (decide ((gA dk) i2 < (gA dk) a)) = true
     ·refine Fx.Qt.call (v := .bool true) (by rfl) (fun v1 hv1 => Fx.rC (args := [.int .u64 ((gA dk) i2), .int .u64 ((gA dk) a)]) rfl rfl Try.func30 rfl rfl) rfl (fun v1 hv1 => (s_less ((gA dk) i2) ((gA dk) a) _).mono fun e v2 h => ⟨by rw [h.1, c111], by rw [h.2]; exact hv1⟩) ?_
      refine Fx.Qv (.bool true) (fun v1 hv1 => Fx.x_pickT rfl rfl rfl) (Fx.Qt.nil ?_)
      intro wb4 hbwb4
      have s10 : Fx.Stp w8.heap.size w8 wb4 := Fx.Sb hbwb4
      have m16 := m15.stpB s10 (Nat.ne_of_lt (m15.lt))
      have b14 := s10.below b13 (Nat.le_trans hB b13.size) (Nat.le_trans hB b13.size)
      refine Fx.sN (Fx.Wc (b := true) rfl (fun _ => Fx.Wk (Fx.sN (Fx.W.block (Fx.Wl (Fx.Lv (.int .i64 ((i2 : Int))) (Fx.x_move rfl h19) ?_))))) (fun h => nomatch h))
      refine Fx.Lv (.int .i64 ((i2 : Int) + 1)) (Fx.x_add rfl rfl rfl Fx.io) (Fx.Lv (.int .i64 ((i2 : Int) + 1)) (Fx.x_assign rfl rfl) (Fx.Ln (Fx.blkN (Fx.lpN ⟨i2 + 1, ((pt_up (by omega) (of_decide_eq_true c111)).trans hX1), (by omega), h16, (h17.trans Fx.ic), (h18.trans Fx.ic), Fx.ic, (h20.trans Fx.ic), m16, b14⟩ ?_))))
      show ((b : Int) - intOf ((.int .i64 ((i2 : Int) + 1)))).toNat < _
      simp only [h19, intOf]; omega
     rw [Bool.not_eq_true] at c111
     refine Fx.Qt.call (v := .bool false) (by rfl) (fun v1 hv1 => Fx.rC (args := [.int .u64 ((gA dk) i2), .int .u64 ((gA dk) a)]) rfl rfl Try.func30 rfl rfl) rfl (fun v1 hv1 => (s_less ((gA dk) i2) ((gA dk) a) _).mono fun e v2 h => ⟨by rw [h.1, c111], by rw [h.2]; exact hv1⟩) ?_
     refine Fx.Qv (.bool false) (fun v1 hv1 => Fx.x_pickT rfl rfl rfl) (Fx.Qt.nil ?_)
     intro wb5 hbwb5
     have s11 : Fx.Stp w8.heap.size w8 wb5 := Fx.Sb hbwb5
     have m17 := m15.stpB s11 (Nat.ne_of_lt (m15.lt))
     have b15 := s11.below b13 (Nat.le_trans hB b13.size) (Nat.le_trans hB b13.size)
     refine Fx.sN (Fx.Wc (b := false) rfl (fun h => nomatch h) (fun _ => Fx.W.exit (Fx.seqX (Fx.lpX (Fx.blkX (Fx.sN (Fx.Ws (Fx.W.block (Fx.W.loop (fun f w_ => ∃ j2 : Nat, Sort.partLoop Sort.ltInt a i2 j2 dk = Sort.partLoop Sort.ltInt a (a + 1) (b - 1) (Sort.swp d a p) ∧ ((j2 < i2 ∨ ¬ gA dk i2 < gA dk a)) ∧ (j2 < b ∧ j2 ≤ j) ∧ f 0 = .slice (some ⟨g, 0, none⟩) (n) (cap) ∧ f 1 = .int .i64 ((a : Int)) ∧ f 2 = .int .i64 ((b : Int)) ∧ f 10 = .int .i64 ((i2 : Int)) ∧ f 11 = .int .i64 ((j2 : Int)) ∧ Fx.Own w_ B 28 1 (.slice (some ⟨g, 0, none⟩) n cap) n (Fx.rv .u64 (gA dk)) ∧ Below B w w_) (fun f _ => (intOf (f 11)).toNat) ⟨j, hX1, (.inr (of_decide_eq_false c111)), (by omega), h16, (h17.trans Fx.ic), (h18.trans Fx.ic), (h19.trans Fx.ic), (h20.trans Fx.ic), m17, b15⟩ ?_)))))))))
     rintro f5 w9 ⟨j2, hX2, hst, lhX2, h21, h22, h23, h24, h25, m18, b16⟩
     refine Fx.Ws (Fx.Ws ?_)
     -- region 15 draws
     refine Fx.W.quiet (fun v1 => Below w9.heap.size w9 v1) (by kernel_rfl) (by kernel_rfl) (Below.refl _ _).drew ?_
     refine Fx.Qv (.int .i64 ((i2 : Int))) (fun v1 hv1 => Fx.x_move rfl h24) (Fx.Qv (.int .i64 ((j2 : Int))) (fun v1 hv1 => Fx.x_move rfl h25) ?_)
     by_cases c117 : (i2 : Int) ≤ (j2 : Int)
     ·refine Fx.Qv (.bool true) (fun v1 hv1 => Fx.x_leqT rfl rfl rfl c117) (Fx.Qv (.bool true) (fun v1 hv1 => Fx.x_move rfl rfl) (Fx.Qv (.slice (some ⟨g, 0, none⟩) (n) (cap)) (fun v1 hv1 => Fx.x_move rfl h21) (Fx.Qv (.int .i64 ((j2 : Int))) (fun v1 hv1 => Fx.x_move rfl h25) (Fx.Qv ((pf g j2)) (fun v1 hv1 => Fx.x_indexS rfl rfl rfl Try.underlying33 (s := 1) (by kernel_rfl) (by omega) (by omega) (by omega)) (Fx.Qv (.int .u64 ((gA dk) j2)) (fun v1 hv1 => Fx.x_load1 (x := Fx.rv .u64 (gA dk)) rfl rfl (by kernel_rfl) (m18.cel.below hv1 (by have := m18.lt; omega)) (i := j2) (by omega) (by omega) rfl) (Fx.Qv (.slice (some ⟨g, 0, none⟩) (n) (cap)) (fun v1 hv1 => Fx.x_move rfl h21) (Fx.Qv (.int .i64 ((a : Int))) (fun v1 hv1 => Fx.x_move rfl h22) (Fx.Qv ((pf g a)) (fun v1 hv1 => Fx.x_indexS rfl rfl rfl Try.underlying33 (s := 1) (by kernel_rfl) (by omega) (by omega) (by omega)) (Fx.Qv (.int .u64 ((gA dk) a)) (fun v1 hv1 => Fx.x_load1 (x := Fx.rv .u64 (gA dk)) rfl rfl (by kernel_rfl) (m18.cel.below hv1 (by have := m18.lt; omega)) (i := a) (by omega) (by omega) rfl) ?_)))))))))
      by_cases c127 : (decide ((gA dk) j2 < (gA dk) a)) = true
      ·refine Fx.Qt.call (v := .bool true) (by rfl) (fun v1 hv1 => Fx.rC (args := [.int .u64 ((gA dk) j2), .int .u64 ((gA dk) a)]) rfl rfl Try.func30 rfl rfl) rfl (fun v1 hv1 => (s_less ((gA dk) j2) ((gA dk) a) _).mono fun e v2 h => ⟨by rw [h.1, c127], by rw [h.2]; exact hv1⟩) ?_
       refine Fx.Qv (.bool false) (fun v1 hv1 => Fx.x_notF rfl rfl) (Fx.Qv (.bool false) (fun v1 hv1 => Fx.x_pickT rfl rfl rfl) (Fx.Qt.nil ?_))
       intro wb6 hbwb6
       have s12 : Fx.Stp w9.heap.size w9 wb6 := Fx.Sb hbwb6
       have m19 := m18.stpB s12 (Nat.ne_of_lt (m18.lt))
       have b17 := s12.below b16 (Nat.le_trans hB b16.size) (Nat.le_trans hB b16.size)
       refine Fx.sN (Fx.Wc (b := false) rfl (fun h => nomatch h) (fun _ => Fx.W.exit (Fx.seqX (Fx.lpX (Fx.blkX (Fx.sN (Fx.Ws (Fx.Ws (Fx.Wl (Fx.Lv (.int .i64 ((i2 : Int))) (Fx.x_move rfl h24) (Fx.Lv (.int .i64 ((j2 : Int))) (Fx.x_move rfl h25) (Fx.Lv (.bool false) (Fx.x_gtrF rfl rfl rfl (by omega)) (Fx.Ln (Fx.sN (Fx.Wc (b := false) rfl (fun h => nomatch h) (fun _ => Fx.Wk (Fx.sN (Fx.Ws ?_))))))))))))))))))
       -- region 18 draws
       refine Fx.W.reord [0, 1, 2, 3, 4, 5, 6, 8, 9, 10, 7, 11, 12, 13, 14, 15] [0, 0, 0, 0, 0, 0, 0, 4, 0, 0, 0, 4, 0, 3, 0, 3] Fx.Mk Fx.Mk.refl Fx.Mk.trans (certs := [(13, 7, [7]), (15, 7, [7]), (13, 11, [11]), (15, 11, [11]), (14, 13, [13]), (15, 13, [13])]) (by kernel_rfl) (by kernel_rfl) (by kernel_rfl) (by kernel_rfl) (by kernel_rfl) fun wt3 hbwt3 hzwt3 => ?_
       have s13 : Fx.Stp wb6.heap.size wb6 wt3 := Fx.Sb hbwt3
       have m20 := m19.stpB s13 (Nat.ne_of_lt (m19.lt))
       have b18 := s13.below b17 (Nat.le_trans hB b17.size) (Nat.le_trans hB b17.size)
       refine Fx.Rp (.slice (some ⟨g, 0, none⟩) (n) (cap)) (fun v1 => Fx.x_move rfl h21) (Fx.Rp (.int .i64 ((i2 : Int))) (fun v1 => Fx.x_move rfl h24) (Fx.Rp (.slice (some ⟨g, 0, none⟩) (n) (cap)) (fun v1 => Fx.x_move rfl h21) (Fx.Rp (.int .i64 ((j2 : Int))) (fun v1 => Fx.x_move rfl h25) (Fx.Rp (.slice (some ⟨g, 0, none⟩) (n) (cap)) (fun v1 => Fx.x_move rfl h21) (Fx.Rp (.int .i64 ((j2 : Int))) (fun v1 => Fx.x_move rfl h25) (Fx.Rp ((pf g j2)) (fun v1 => Fx.x_indexS rfl rfl rfl Try.underlying33 (s := 1) (by kernel_rfl) (by omega) (by omega) (by omega)) (Fx.Rp (.slice (some ⟨g, 0, none⟩) (n) (cap)) (fun v1 => Fx.x_move rfl h21) (Fx.Rp (.int .i64 ((i2 : Int))) (fun v1 => Fx.x_move rfl h24) (Fx.Rp ((pf g i2)) (fun v1 => Fx.x_indexS rfl rfl rfl Try.underlying33 (s := 1) (by kernel_rfl) (by omega) (by omega) (by omega)) (Fx.R.s (.int .u64 ((gA dk) j2)) (Fx.x_load1 (x := Fx.rv .u64 (gA dk)) rfl rfl (by kernel_rfl) m20.cel (i := j2) (by omega) (by omega) rfl) ?_))))))))))
       refine Fx.R.s (.int .u64 ((gA dk) i2)) (Fx.x_load1 (x := Fx.rv .u64 (gA dk)) rfl rfl (by kernel_rfl) m20.cel (i := i2) (by omega) (by omega) rfl) ?_
       refine Fx.Rp ((pf g i2)) (fun v1 => Fx.x_indexS rfl rfl rfl Try.underlying33 (s := 1) (by kernel_rfl) (by omega) (by omega) (by omega)) (Fx.R.eff (by rfl) ?_)
       refine Fx.L.own1 (x := Fx.rv .u64 (gA dk)) (u := .int .u64 ((gA dk) j2)) (by rfl) rfl rfl rfl rfl (by rfl) (by kernel_rfl) m20 (i := i2) (by omega) fun w10 m21 s14 z5 => ?_
       have b19 := s14.below b18 (Nat.le_trans hB b18.size) m20.blk.1
       refine Fx.Ln (Fx.Rp ((pf g j2)) (fun v1 => Fx.x_indexS rfl rfl rfl Try.underlying33 (s := 1) (by kernel_rfl) (by omega) (by omega) (by omega)) (Fx.R.eff (by rfl) ?_))
       refine Fx.L.own1 (x := Fx.updV (Fx.rv .u64 (gA dk)) i2 (.int .u64 ((gA dk) j2))) (u := .int .u64 ((gA dk) i2)) (by rfl) rfl rfl rfl rfl (by rfl) (by kernel_rfl) m21 (i := j2) (by omega) fun w11 m22 s15 z6 => ?_
       have b20 := s15.below b19 (Nat.le_trans hB b19.size) m21.blk.1
       have m23 : Fx.Own w11 B 28 1 (.slice (some ⟨g, 0, none⟩) n cap) n (Fx.rv .u64 (gA (Sort.swp dk i2 j2))) := m22.congr (swp_rv hk (by omega) (by omega))
       refine Fx.Ln (Fx.R.nil (Fx.sN (Fx.Ws (Fx.Wl (Fx.Lv (.int .i64 ((i2 : Int))) (Fx.x_move rfl h24) (Fx.Lv (.int .i64 ((i2 : Int) + 1)) (Fx.x_add rfl rfl rfl Fx.io) (Fx.Lv (.int .i64 ((i2 : Int) + 1)) (Fx.x_assign rfl rfl) (Fx.Ln (Fx.sN (Fx.Wl (Fx.Lv (.int .i64 ((j2 : Int))) (Fx.x_move rfl h25) (Fx.Lv (.int .i64 ((j2 : Int) - 1)) (Fx.x_sub rfl rfl rfl Fx.io) (Fx.Lv (.int .i64 ((j2 : Int) - 1)) (Fx.x_assign rfl rfl) (Fx.Ln (Fx.blkN (Fx.lpN ⟨i2 + 1, j2 - 1, Sort.swp dk i2 j2, (sz_swp hk _ _), ((pt_sw (by omega) (hst.resolve_left (by omega)) (of_decide_eq_true c127)).trans hX2), (by omega), h21, (h22.trans Fx.ic), (h23.trans Fx.ic), Fx.ic, Fx.ic, m23, b20⟩ ?_))))))))))))))))
       show ((b : Int) - intOf ((.int .i64 ((i2 : Int) + 1)))).toNat < _
       simp only [h14, intOf]; omega
      rw [Bool.not_eq_true] at c127
      refine Fx.Qt.call (v := .bool false) (by rfl) (fun v1 hv1 => Fx.rC (args := [.int .u64 ((gA dk) j2), .int .u64 ((gA dk) a)]) rfl rfl Try.func30 rfl rfl) rfl (fun v1 hv1 => (s_less ((gA dk) j2) ((gA dk) a) _).mono fun e v2 h => ⟨by rw [h.1, c127], by rw [h.2]; exact hv1⟩) ?_
      refine Fx.Qv (.bool true) (fun v1 hv1 => Fx.x_notT rfl rfl) (Fx.Qv (.bool true) (fun v1 hv1 => Fx.x_pickT rfl rfl rfl) (Fx.Qt.nil ?_))
      intro wb7 hbwb7
      have s16 : Fx.Stp w9.heap.size w9 wb7 := Fx.Sb hbwb7
      have m24 := m18.stpB s16 (Nat.ne_of_lt (m18.lt))
      have b21 := s16.below b16 (Nat.le_trans hB b16.size) (Nat.le_trans hB b16.size)
      refine Fx.sN (Fx.Wc (b := true) rfl (fun _ => Fx.Wk (Fx.sN (Fx.W.block (Fx.Wl (Fx.Lv (.int .i64 ((j2 : Int))) (Fx.x_move rfl h25) ?_))))) (fun h => nomatch h))
      refine Fx.Lv (.int .i64 ((j2 : Int) - 1)) (Fx.x_sub rfl rfl rfl Fx.io) (Fx.Lv (.int .i64 ((j2 : Int) - 1)) (Fx.x_assign rfl rfl) (Fx.Ln (Fx.blkN (Fx.lpN ⟨j2 - 1, ((pt_dn (by omega) (by omega) (hst.resolve_left (by omega)) (of_decide_eq_false c127)).trans hX2), (hst.elim (fun h => .inl (by omega)) .inr), (by omega), h21, (h22.trans Fx.ic), (h23.trans Fx.ic), (h24.trans Fx.ic), Fx.ic, m24, b21⟩ ?_))))
      show (intOf ((.int .i64 ((j2 : Int) - 1)))).toNat < _
      simp only [h25, intOf]; omega
     refine Fx.Qv (.bool false) (fun v1 hv1 => Fx.x_leqF rfl rfl rfl c117) (Fx.Qv (.bool false) (fun v1 hv1 => Fx.x_move rfl rfl) (Fx.Qs (by rfl) rfl (Fx.Qs (by rfl) rfl (Fx.Qs (by rfl) rfl (Fx.Qs (by rfl) rfl (Fx.Qs (by rfl) rfl (Fx.Qs (by rfl) rfl (Fx.Qs (by rfl) rfl (Fx.Qs (by rfl) rfl (Fx.Qs (by rfl) rfl (Fx.Qs (by rfl) rfl (Fx.Qv (.bool false) (fun v1 hv1 => Fx.x_pickF rfl rfl rfl) (Fx.Qt.nil ?_)))))))))))))
     intro wb8 hbwb8
     have s17 : Fx.Stp w9.heap.size w9 wb8 := Fx.Sb hbwb8
     have m25 := m18.stpB s17 (Nat.ne_of_lt (m18.lt))
     have b22 := s17.below b16 (Nat.le_trans hB b16.size) (Nat.le_trans hB b16.size)
     refine Fx.sN (Fx.Wc (b := false) rfl (fun h => nomatch h) (fun _ => Fx.W.exit (Fx.seqX (Fx.lpX (Fx.blkX (Fx.sN (Fx.Ws (Fx.Ws (Fx.Wl (Fx.Lv (.int .i64 ((i2 : Int))) (Fx.x_move rfl h24) (Fx.Lv (.int .i64 ((j2 : Int))) (Fx.x_move rfl h25) (Fx.Lv (.bool true) (Fx.x_gtrT rfl rfl rfl (by omega)) (Fx.Ln (Fx.sN (Fx.Wc (b := true) rfl (fun _ => Fx.W.exit (Fx.seqX (Fx.blkO rfl (Fx.lpX (Fx.blkX (Fx.sN (Fx.Ws ?_))))))) (fun h => nomatch h))))))))))))))))
     -- region 21 draws
     refine Fx.W.reord [0, 1, 2, 3, 4, 5, 6, 8, 9, 10, 7, 11, 12, 13, 14, 15] [0, 0, 0, 0, 0, 0, 0, 4, 0, 0, 0, 4, 0, 3, 0, 3] Fx.Mk Fx.Mk.refl Fx.Mk.trans (certs := [(13, 7, [7]), (15, 7, [7]), (13, 11, [11]), (15, 11, [11]), (14, 13, [13]), (15, 13, [13])]) (by kernel_rfl) (by kernel_rfl) (by kernel_rfl) (by kernel_rfl) (by kernel_rfl) fun wt4 hbwt4 hzwt4 => ?_
     have s18 : Fx.Stp wb8.heap.size wb8 wt4 := Fx.Sb hbwt4
     have m26 := m25.stpB s18 (Nat.ne_of_lt (m25.lt))
     have b23 := s18.below b22 (Nat.le_trans hB b22.size) (Nat.le_trans hB b22.size)
     refine Fx.Rp (.slice (some ⟨g, 0, none⟩) (n) (cap)) (fun v1 => Fx.x_move rfl h21) (Fx.Rp (.int .i64 ((j2 : Int))) (fun v1 => Fx.x_move rfl h25) (Fx.Rp (.slice (some ⟨g, 0, none⟩) (n) (cap)) (fun v1 => Fx.x_move rfl h21) (Fx.Rp (.int .i64 ((a : Int))) (fun v1 => Fx.x_move rfl h22) (Fx.Rp (.slice (some ⟨g, 0, none⟩) (n) (cap)) (fun v1 => Fx.x_move rfl h21) (Fx.Rp (.int .i64 ((a : Int))) (fun v1 => Fx.x_move rfl h22) (Fx.Rp ((pf g a)) (fun v1 => Fx.x_indexS rfl rfl rfl Try.underlying33 (s := 1) (by kernel_rfl) (by omega) (by omega) (by omega)) (Fx.Rp (.slice (some ⟨g, 0, none⟩) (n) (cap)) (fun v1 => Fx.x_move rfl h21) (Fx.Rp (.int .i64 ((j2 : Int))) (fun v1 => Fx.x_move rfl h25) (Fx.Rp ((pf g j2)) (fun v1 => Fx.x_indexS rfl rfl rfl Try.underlying33 (s := 1) (by kernel_rfl) (by omega) (by omega) (by omega)) (Fx.R.s (.int .u64 ((gA dk) a)) (Fx.x_load1 (x := Fx.rv .u64 (gA dk)) rfl rfl (by kernel_rfl) m26.cel (i := a) (by omega) (by omega) rfl) ?_))))))))))
     refine Fx.R.s (.int .u64 ((gA dk) j2)) (Fx.x_load1 (x := Fx.rv .u64 (gA dk)) rfl rfl (by kernel_rfl) m26.cel (i := j2) (by omega) (by omega) rfl) ?_
     refine Fx.Rp ((pf g j2)) (fun v1 => Fx.x_indexS rfl rfl rfl Try.underlying33 (s := 1) (by kernel_rfl) (by omega) (by omega) (by omega)) (Fx.R.eff (by rfl) ?_)
     refine Fx.L.own1 (x := Fx.rv .u64 (gA dk)) (u := .int .u64 ((gA dk) a)) (by rfl) rfl rfl rfl rfl (by rfl) (by kernel_rfl) m26 (i := j2) (by omega) fun w12 m27 s19 z7 => ?_
     have b24 := s19.below b23 (Nat.le_trans hB b23.size) m26.blk.1
     refine Fx.Ln (Fx.Rp ((pf g a)) (fun v1 => Fx.x_indexS rfl rfl rfl Try.underlying33 (s := 1) (by kernel_rfl) (by omega) (by omega) (by omega)) (Fx.R.eff (by rfl) ?_))
     refine Fx.L.own1 (x := Fx.updV (Fx.rv .u64 (gA dk)) j2 (.int .u64 ((gA dk) a))) (u := .int .u64 ((gA dk) j2)) (by rfl) rfl rfl rfl rfl (by rfl) (by kernel_rfl) m27 (i := a) (by omega) fun w13 m28 s20 z8 => ?_
     have b25 := s20.below b24 (Nat.le_trans hB b24.size) m27.blk.1
     have m29 : Fx.Own w13 B 28 1 (.slice (some ⟨g, 0, none⟩) n cap) n (Fx.rv .u64 (gA (Sort.swp dk j2 a))) := m28.congr (swp_rv hk (by omega) (by omega))
     refine Fx.Ln (Fx.R.nil (Fx.sN (Fx.Ws (Fx.Wl (Fx.Lv (.int .i64 ((j2 : Int))) (Fx.x_move rfl h25) (Fx.Lv (.int .i64 ((j2 : Int))) (Fx.x_assign rfl rfl) (Fx.Lv (.bool false) (Fx.x_assign rfl rfl) (Fx.Ln (Fx.sN (Fx.Wr (⟨.tuple #[.int .i64 ((j2 : Int)), .bool false], Fx.retV2 Try.results32 (by exact rfl) (by exact rfl), ?_⟩)))))))))))
     have hR := hX2.symm.trans (pt_end (by omega))
     exact ⟨j2, false, _, rfl, by rw [Sort.partition_fst, hR], by rw [Sort.partition_arr, hR], (sz_swp hk _ _), m29, b25⟩
    refine Fx.Qv (.bool false) (fun v1 hv1 => Fx.x_leqF rfl rfl rfl c101) (Fx.Qv (.bool false) (fun v1 hv1 => Fx.x_move rfl rfl) (Fx.Qs (by rfl) rfl (Fx.Qs (by rfl) rfl (Fx.Qs (by rfl) rfl (Fx.Qs (by rfl) rfl (Fx.Qs (by rfl) rfl (Fx.Qs (by rfl) rfl (Fx.Qs (by rfl) rfl (Fx.Qs (by rfl) rfl (Fx.Qs (by rfl) rfl (Fx.Qv (.bool false) (fun v1 hv1 => Fx.x_pickF rfl rfl rfl) (Fx.Qt.nil ?_))))))))))))
    intro wb9 hbwb9
    have s21 : Fx.Stp w8.heap.size w8 wb9 := Fx.Sb hbwb9
    have m30 := m15.stpB s21 (Nat.ne_of_lt (m15.lt))
    have b26 := s21.below b13 (Nat.le_trans hB b13.size) (Nat.le_trans hB b13.size)
    refine Fx.sN (Fx.Wc (b := false) rfl (fun h => nomatch h) (fun _ => Fx.W.exit (Fx.seqX (Fx.lpX (Fx.blkX (Fx.sN (Fx.Ws (Fx.W.block (Fx.W.loop (fun f w_ => ∃ j2 : Nat, Sort.partLoop Sort.ltInt a i2 j2 dk = Sort.partLoop Sort.ltInt a (a + 1) (b - 1) (Sort.swp d a p) ∧ ((j2 < i2 ∨ ¬ gA dk i2 < gA dk a)) ∧ (j2 < b ∧ j2 ≤ j) ∧ f 0 = .slice (some ⟨g, 0, none⟩) (n) (cap) ∧ f 1 = .int .i64 ((a : Int)) ∧ f 2 = .int .i64 ((b : Int)) ∧ f 10 = .int .i64 ((i2 : Int)) ∧ f 11 = .int .i64 ((j2 : Int)) ∧ Fx.Own w_ B 28 1 (.slice (some ⟨g, 0, none⟩) n cap) n (Fx.rv .u64 (gA dk)) ∧ Below B w w_) (fun f _ => (intOf (f 11)).toNat) ⟨j, hX1, (.inl (by omega)), (by omega), h16, (h17.trans Fx.ic), (h18.trans Fx.ic), (h19.trans Fx.ic), (h20.trans Fx.ic), m30, b26⟩ ?_)))))))))
    rintro f6 w14 ⟨j2, hX2, hst, lhX2, h26, h27, h28, h29, h30, m31, b27⟩
    refine Fx.Ws (Fx.Ws ?_)
    -- region 15 draws
    refine Fx.W.quiet (fun v1 => Below w14.heap.size w14 v1) (by kernel_rfl) (by kernel_rfl) (Below.refl _ _).drew ?_
    refine Fx.Qv (.int .i64 ((i2 : Int))) (fun v1 hv1 => Fx.x_move rfl h29) (Fx.Qv (.int .i64 ((j2 : Int))) (fun v1 hv1 => Fx.x_move rfl h30) ?_)
    by_cases c117 : (i2 : Int) ≤ (j2 : Int)
    ·refine Fx.Qv (.bool true) (fun v1 hv1 => Fx.x_leqT rfl rfl rfl c117) (Fx.Qv (.bool true) (fun v1 hv1 => Fx.x_move rfl rfl) (Fx.Qv (.slice (some ⟨g, 0, none⟩) (n) (cap)) (fun v1 hv1 => Fx.x_move rfl h26) (Fx.Qv (.int .i64 ((j2 : Int))) (fun v1 hv1 => Fx.x_move rfl h30) (Fx.Qv ((pf g j2)) (fun v1 hv1 => Fx.x_indexS rfl rfl rfl Try.underlying33 (s := 1) (by kernel_rfl) (by omega) (by omega) (by omega)) (Fx.Qv (.int .u64 ((gA dk) j2)) (fun v1 hv1 => Fx.x_load1 (x := Fx.rv .u64 (gA dk)) rfl rfl (by kernel_rfl) (m31.cel.below hv1 (by have := m31.lt; omega)) (i := j2) (by omega) (by omega) rfl) (Fx.Qv (.slice (some ⟨g, 0, none⟩) (n) (cap)) (fun v1 hv1 => Fx.x_move rfl h26) (Fx.Qv (.int .i64 ((a : Int))) (fun v1 hv1 => Fx.x_move rfl h27) (Fx.Qv ((pf g a)) (fun v1 hv1 => Fx.x_indexS rfl rfl rfl Try.underlying33 (s := 1) (by kernel_rfl) (by omega) (by omega) (by omega)) (Fx.Qv (.int .u64 ((gA dk) a)) (fun v1 hv1 => Fx.x_load1 (x := Fx.rv .u64 (gA dk)) rfl rfl (by kernel_rfl) (m31.cel.below hv1 (by have := m31.lt; omega)) (i := a) (by omega) (by omega) rfl) ?_)))))))))
     by_cases c127 : (decide ((gA dk) j2 < (gA dk) a)) = true
     ·refine Fx.Qt.call (v := .bool true) (by rfl) (fun v1 hv1 => Fx.rC (args := [.int .u64 ((gA dk) j2), .int .u64 ((gA dk) a)]) rfl rfl Try.func30 rfl rfl) rfl (fun v1 hv1 => (s_less ((gA dk) j2) ((gA dk) a) _).mono fun e v2 h => ⟨by rw [h.1, c127], by rw [h.2]; exact hv1⟩) ?_
      refine Fx.Qv (.bool false) (fun v1 hv1 => Fx.x_notF rfl rfl) (Fx.Qv (.bool false) (fun v1 hv1 => Fx.x_pickT rfl rfl rfl) (Fx.Qt.nil ?_))
      intro wb10 hbwb10
      have s22 : Fx.Stp w14.heap.size w14 wb10 := Fx.Sb hbwb10
      have m32 := m31.stpB s22 (Nat.ne_of_lt (m31.lt))
      have b28 := s22.below b27 (Nat.le_trans hB b27.size) (Nat.le_trans hB b27.size)
      refine Fx.sN (Fx.Wc (b := false) rfl (fun h => nomatch h) (fun _ => Fx.W.exit (Fx.seqX (Fx.lpX (Fx.blkX (Fx.sN (Fx.Ws (Fx.Ws (Fx.Wl (Fx.Lv (.int .i64 ((i2 : Int))) (Fx.x_move rfl h29) (Fx.Lv (.int .i64 ((j2 : Int))) (Fx.x_move rfl h30) (Fx.Lv (.bool false) (Fx.x_gtrF rfl rfl rfl (by omega)) (Fx.Ln (Fx.sN (Fx.Wc (b := false) rfl (fun h => nomatch h) (fun _ => Fx.Wk (Fx.sN (Fx.Ws ?_))))))))))))))))))
      -- region 18 draws
      refine Fx.W.reord [0, 1, 2, 3, 4, 5, 6, 8, 9, 10, 7, 11, 12, 13, 14, 15] [0, 0, 0, 0, 0, 0, 0, 4, 0, 0, 0, 4, 0, 3, 0, 3] Fx.Mk Fx.Mk.refl Fx.Mk.trans (certs := [(13, 7, [7]), (15, 7, [7]), (13, 11, [11]), (15, 11, [11]), (14, 13, [13]), (15, 13, [13])]) (by kernel_rfl) (by kernel_rfl) (by kernel_rfl) (by kernel_rfl) (by kernel_rfl) fun wt5 hbwt5 hzwt5 => ?_
      have s23 : Fx.Stp wb10.heap.size wb10 wt5 := Fx.Sb hbwt5
      have m33 := m32.stpB s23 (Nat.ne_of_lt (m32.lt))
      have b29 := s23.below b28 (Nat.le_trans hB b28.size) (Nat.le_trans hB b28.size)
      refine Fx.Rp (.slice (some ⟨g, 0, none⟩) (n) (cap)) (fun v1 => Fx.x_move rfl h26) (Fx.Rp (.int .i64 ((i2 : Int))) (fun v1 => Fx.x_move rfl h29) (Fx.Rp (.slice (some ⟨g, 0, none⟩) (n) (cap)) (fun v1 => Fx.x_move rfl h26) (Fx.Rp (.int .i64 ((j2 : Int))) (fun v1 => Fx.x_move rfl h30) (Fx.Rp (.slice (some ⟨g, 0, none⟩) (n) (cap)) (fun v1 => Fx.x_move rfl h26) (Fx.Rp (.int .i64 ((j2 : Int))) (fun v1 => Fx.x_move rfl h30) (Fx.Rp ((pf g j2)) (fun v1 => Fx.x_indexS rfl rfl rfl Try.underlying33 (s := 1) (by kernel_rfl) (by omega) (by omega) (by omega)) (Fx.Rp (.slice (some ⟨g, 0, none⟩) (n) (cap)) (fun v1 => Fx.x_move rfl h26) (Fx.Rp (.int .i64 ((i2 : Int))) (fun v1 => Fx.x_move rfl h29) (Fx.Rp ((pf g i2)) (fun v1 => Fx.x_indexS rfl rfl rfl Try.underlying33 (s := 1) (by kernel_rfl) (by omega) (by omega) (by omega)) (Fx.R.s (.int .u64 ((gA dk) j2)) (Fx.x_load1 (x := Fx.rv .u64 (gA dk)) rfl rfl (by kernel_rfl) m33.cel (i := j2) (by omega) (by omega) rfl) ?_))))))))))
      refine Fx.R.s (.int .u64 ((gA dk) i2)) (Fx.x_load1 (x := Fx.rv .u64 (gA dk)) rfl rfl (by kernel_rfl) m33.cel (i := i2) (by omega) (by omega) rfl) ?_
      refine Fx.Rp ((pf g i2)) (fun v1 => Fx.x_indexS rfl rfl rfl Try.underlying33 (s := 1) (by kernel_rfl) (by omega) (by omega) (by omega)) (Fx.R.eff (by rfl) ?_)
      refine Fx.L.own1 (x := Fx.rv .u64 (gA dk)) (u := .int .u64 ((gA dk) j2)) (by rfl) rfl rfl rfl rfl (by rfl) (by kernel_rfl) m33 (i := i2) (by omega) fun w15 m34 s24 z9 => ?_
      have b30 := s24.below b29 (Nat.le_trans hB b29.size) m33.blk.1
      refine Fx.Ln (Fx.Rp ((pf g j2)) (fun v1 => Fx.x_indexS rfl rfl rfl Try.underlying33 (s := 1) (by kernel_rfl) (by omega) (by omega) (by omega)) (Fx.R.eff (by rfl) ?_))
      refine Fx.L.own1 (x := Fx.updV (Fx.rv .u64 (gA dk)) i2 (.int .u64 ((gA dk) j2))) (u := .int .u64 ((gA dk) i2)) (by rfl) rfl rfl rfl rfl (by rfl) (by kernel_rfl) m34 (i := j2) (by omega) fun w16 m35 s25 z10 => ?_
      have b31 := s25.below b30 (Nat.le_trans hB b30.size) m34.blk.1
      have m36 : Fx.Own w16 B 28 1 (.slice (some ⟨g, 0, none⟩) n cap) n (Fx.rv .u64 (gA (Sort.swp dk i2 j2))) := m35.congr (swp_rv hk (by omega) (by omega))
      refine Fx.Ln (Fx.R.nil (Fx.sN (Fx.Ws (Fx.Wl (Fx.Lv (.int .i64 ((i2 : Int))) (Fx.x_move rfl h29) (Fx.Lv (.int .i64 ((i2 : Int) + 1)) (Fx.x_add rfl rfl rfl Fx.io) (Fx.Lv (.int .i64 ((i2 : Int) + 1)) (Fx.x_assign rfl rfl) (Fx.Ln (Fx.sN (Fx.Wl (Fx.Lv (.int .i64 ((j2 : Int))) (Fx.x_move rfl h30) (Fx.Lv (.int .i64 ((j2 : Int) - 1)) (Fx.x_sub rfl rfl rfl Fx.io) (Fx.Lv (.int .i64 ((j2 : Int) - 1)) (Fx.x_assign rfl rfl) (Fx.Ln (Fx.blkN (Fx.lpN ⟨i2 + 1, j2 - 1, Sort.swp dk i2 j2, (sz_swp hk _ _), ((pt_sw (by omega) (hst.resolve_left (by omega)) (of_decide_eq_true c127)).trans hX2), (by omega), h26, (h27.trans Fx.ic), (h28.trans Fx.ic), Fx.ic, Fx.ic, m36, b31⟩ ?_))))))))))))))))
      show ((b : Int) - intOf ((.int .i64 ((i2 : Int) + 1)))).toNat < _
      simp only [h14, intOf]; omega
     rw [Bool.not_eq_true] at c127
     refine Fx.Qt.call (v := .bool false) (by rfl) (fun v1 hv1 => Fx.rC (args := [.int .u64 ((gA dk) j2), .int .u64 ((gA dk) a)]) rfl rfl Try.func30 rfl rfl) rfl (fun v1 hv1 => (s_less ((gA dk) j2) ((gA dk) a) _).mono fun e v2 h => ⟨by rw [h.1, c127], by rw [h.2]; exact hv1⟩) ?_
     refine Fx.Qv (.bool true) (fun v1 hv1 => Fx.x_notT rfl rfl) (Fx.Qv (.bool true) (fun v1 hv1 => Fx.x_pickT rfl rfl rfl) (Fx.Qt.nil ?_))
     intro wb11 hbwb11
     have s26 : Fx.Stp w14.heap.size w14 wb11 := Fx.Sb hbwb11
     have m37 := m31.stpB s26 (Nat.ne_of_lt (m31.lt))
     have b32 := s26.below b27 (Nat.le_trans hB b27.size) (Nat.le_trans hB b27.size)
     refine Fx.sN (Fx.Wc (b := true) rfl (fun _ => Fx.Wk (Fx.sN (Fx.W.block (Fx.Wl (Fx.Lv (.int .i64 ((j2 : Int))) (Fx.x_move rfl h30) ?_))))) (fun h => nomatch h))
     refine Fx.Lv (.int .i64 ((j2 : Int) - 1)) (Fx.x_sub rfl rfl rfl Fx.io) (Fx.Lv (.int .i64 ((j2 : Int) - 1)) (Fx.x_assign rfl rfl) (Fx.Ln (Fx.blkN (Fx.lpN ⟨j2 - 1, ((pt_dn (by omega) (by omega) (hst.resolve_left (by omega)) (of_decide_eq_false c127)).trans hX2), (hst.elim (fun h => .inl (by omega)) .inr), (by omega), h26, (h27.trans Fx.ic), (h28.trans Fx.ic), (h29.trans Fx.ic), Fx.ic, m37, b32⟩ ?_))))
     show (intOf ((.int .i64 ((j2 : Int) - 1)))).toNat < _
     simp only [h30, intOf]; omega
    refine Fx.Qv (.bool false) (fun v1 hv1 => Fx.x_leqF rfl rfl rfl c117) (Fx.Qv (.bool false) (fun v1 hv1 => Fx.x_move rfl rfl) (Fx.Qs (by rfl) rfl (Fx.Qs (by rfl) rfl (Fx.Qs (by rfl) rfl (Fx.Qs (by rfl) rfl (Fx.Qs (by rfl) rfl (Fx.Qs (by rfl) rfl (Fx.Qs (by rfl) rfl (Fx.Qs (by rfl) rfl (Fx.Qs (by rfl) rfl (Fx.Qs (by rfl) rfl (Fx.Qv (.bool false) (fun v1 hv1 => Fx.x_pickF rfl rfl rfl) (Fx.Qt.nil ?_)))))))))))))
    intro wb12 hbwb12
    have s27 : Fx.Stp w14.heap.size w14 wb12 := Fx.Sb hbwb12
    have m38 := m31.stpB s27 (Nat.ne_of_lt (m31.lt))
    have b33 := s27.below b27 (Nat.le_trans hB b27.size) (Nat.le_trans hB b27.size)
    refine Fx.sN (Fx.Wc (b := false) rfl (fun h => nomatch h) (fun _ => Fx.W.exit (Fx.seqX (Fx.lpX (Fx.blkX (Fx.sN (Fx.Ws (Fx.Ws (Fx.Wl (Fx.Lv (.int .i64 ((i2 : Int))) (Fx.x_move rfl h29) (Fx.Lv (.int .i64 ((j2 : Int))) (Fx.x_move rfl h30) (Fx.Lv (.bool true) (Fx.x_gtrT rfl rfl rfl (by omega)) (Fx.Ln (Fx.sN (Fx.Wc (b := true) rfl (fun _ => Fx.W.exit (Fx.seqX (Fx.blkO rfl (Fx.lpX (Fx.blkX (Fx.sN (Fx.Ws ?_))))))) (fun h => nomatch h))))))))))))))))
    -- region 21 draws
    refine Fx.W.reord [0, 1, 2, 3, 4, 5, 6, 8, 9, 10, 7, 11, 12, 13, 14, 15] [0, 0, 0, 0, 0, 0, 0, 4, 0, 0, 0, 4, 0, 3, 0, 3] Fx.Mk Fx.Mk.refl Fx.Mk.trans (certs := [(13, 7, [7]), (15, 7, [7]), (13, 11, [11]), (15, 11, [11]), (14, 13, [13]), (15, 13, [13])]) (by kernel_rfl) (by kernel_rfl) (by kernel_rfl) (by kernel_rfl) (by kernel_rfl) fun wt6 hbwt6 hzwt6 => ?_
    have s28 : Fx.Stp wb12.heap.size wb12 wt6 := Fx.Sb hbwt6
    have m39 := m38.stpB s28 (Nat.ne_of_lt (m38.lt))
    have b34 := s28.below b33 (Nat.le_trans hB b33.size) (Nat.le_trans hB b33.size)
    refine Fx.Rp (.slice (some ⟨g, 0, none⟩) (n) (cap)) (fun v1 => Fx.x_move rfl h26) (Fx.Rp (.int .i64 ((j2 : Int))) (fun v1 => Fx.x_move rfl h30) (Fx.Rp (.slice (some ⟨g, 0, none⟩) (n) (cap)) (fun v1 => Fx.x_move rfl h26) (Fx.Rp (.int .i64 ((a : Int))) (fun v1 => Fx.x_move rfl h27) (Fx.Rp (.slice (some ⟨g, 0, none⟩) (n) (cap)) (fun v1 => Fx.x_move rfl h26) (Fx.Rp (.int .i64 ((a : Int))) (fun v1 => Fx.x_move rfl h27) (Fx.Rp ((pf g a)) (fun v1 => Fx.x_indexS rfl rfl rfl Try.underlying33 (s := 1) (by kernel_rfl) (by omega) (by omega) (by omega)) (Fx.Rp (.slice (some ⟨g, 0, none⟩) (n) (cap)) (fun v1 => Fx.x_move rfl h26) (Fx.Rp (.int .i64 ((j2 : Int))) (fun v1 => Fx.x_move rfl h30) (Fx.Rp ((pf g j2)) (fun v1 => Fx.x_indexS rfl rfl rfl Try.underlying33 (s := 1) (by kernel_rfl) (by omega) (by omega) (by omega)) (Fx.R.s (.int .u64 ((gA dk) a)) (Fx.x_load1 (x := Fx.rv .u64 (gA dk)) rfl rfl (by kernel_rfl) m39.cel (i := a) (by omega) (by omega) rfl) ?_))))))))))
    refine Fx.R.s (.int .u64 ((gA dk) j2)) (Fx.x_load1 (x := Fx.rv .u64 (gA dk)) rfl rfl (by kernel_rfl) m39.cel (i := j2) (by omega) (by omega) rfl) ?_
    refine Fx.Rp ((pf g j2)) (fun v1 => Fx.x_indexS rfl rfl rfl Try.underlying33 (s := 1) (by kernel_rfl) (by omega) (by omega) (by omega)) (Fx.R.eff (by rfl) ?_)
    refine Fx.L.own1 (x := Fx.rv .u64 (gA dk)) (u := .int .u64 ((gA dk) a)) (by rfl) rfl rfl rfl rfl (by rfl) (by kernel_rfl) m39 (i := j2) (by omega) fun w17 m40 s29 z11 => ?_
    have b35 := s29.below b34 (Nat.le_trans hB b34.size) m39.blk.1
    refine Fx.Ln (Fx.Rp ((pf g a)) (fun v1 => Fx.x_indexS rfl rfl rfl Try.underlying33 (s := 1) (by kernel_rfl) (by omega) (by omega) (by omega)) (Fx.R.eff (by rfl) ?_))
    refine Fx.L.own1 (x := Fx.updV (Fx.rv .u64 (gA dk)) j2 (.int .u64 ((gA dk) a))) (u := .int .u64 ((gA dk) j2)) (by rfl) rfl rfl rfl rfl (by rfl) (by kernel_rfl) m40 (i := a) (by omega) fun w18 m41 s30 z12 => ?_
    have b36 := s30.below b35 (Nat.le_trans hB b35.size) m40.blk.1
    have m42 : Fx.Own w18 B 28 1 (.slice (some ⟨g, 0, none⟩) n cap) n (Fx.rv .u64 (gA (Sort.swp dk j2 a))) := m41.congr (swp_rv hk (by omega) (by omega))
    refine Fx.Ln (Fx.R.nil (Fx.sN (Fx.Ws (Fx.Wl (Fx.Lv (.int .i64 ((j2 : Int))) (Fx.x_move rfl h30) (Fx.Lv (.int .i64 ((j2 : Int))) (Fx.x_assign rfl rfl) (Fx.Lv (.bool false) (Fx.x_assign rfl rfl) (Fx.Ln (Fx.sN (Fx.Wr (⟨.tuple #[.int .i64 ((j2 : Int)), .bool false], Fx.retV2 Try.results32 (by exact rfl) (by exact rfl), ?_⟩)))))))))))
    have hR := hX2.symm.trans (pt_end (by omega))
    exact ⟨j2, false, _, rfl, by rw [Sort.partition_fst, hR], by rw [Sort.partition_arr, hR], (sz_swp hk _ _), m42, b36⟩
   rw [Bool.not_eq_true] at c58
   refine Fx.Qt.call (v := .bool false) (by rfl) (fun v1 hv1 => Fx.rC (args := [.int .u64 ((gA (Sort.swp d a p)) j0), .int .u64 ((gA (Sort.swp d a p)) a)]) rfl rfl Try.func30 rfl rfl) rfl (fun v1 hv1 => (s_less ((gA (Sort.swp d a p)) j0) ((gA (Sort.swp d a p)) a) _).mono fun e v2 h => ⟨by rw [h.1, c58], by rw [h.2]; exact hv1⟩) ?_
   refine Fx.Qv (.bool true) (fun v1 hv1 => Fx.x_notT rfl rfl) (Fx.Qv (.bool true) (fun v1 hv1 => Fx.x_pickT rfl rfl rfl) (Fx.Qt.nil ?_))
   intro wb13 hbwb13
   have s31 : Fx.Stp w4.heap.size w4 wb13 := Fx.Sb hbwb13
   have m43 := m8.stpB s31 (Nat.ne_of_lt (m8.lt))
   have b37 := s31.below b7 (Nat.le_trans hB b7.size) (Nat.le_trans hB b7.size)
   refine Fx.sN (Fx.Wc (b := true) rfl (fun _ => Fx.Wk (Fx.sN (Fx.W.block (Fx.Wl (Fx.Lv (.int .i64 ((j0 : Int))) (Fx.x_move rfl h10) ?_))))) (fun h => nomatch h))
   refine Fx.Lv (.int .i64 ((j0 : Int) - 1)) (Fx.x_sub rfl rfl rfl Fx.io) (Fx.Lv (.int .i64 ((j0 : Int) - 1)) (Fx.x_assign rfl rfl) (Fx.Ln (Fx.blkN (Fx.lpN ⟨j0 - 1, ((pt_dn (by omega) (by omega) (hst0.resolve_left (by omega)) (of_decide_eq_false c58)).trans hY1), (hst0.elim (fun h => .inl (by omega)) .inr), (by omega), h6, (h7.trans Fx.ic), (h8.trans Fx.ic), (h9.trans Fx.ic), Fx.ic, m43, b37⟩ ?_))))
   show (intOf ((.int .i64 ((j0 : Int) - 1)))).toNat < _
   simp only [h10, intOf]; omega
  refine Fx.Qv (.bool false) (fun v1 hv1 => Fx.x_leqF rfl rfl rfl c48) (Fx.Qv (.bool false) (fun v1 hv1 => Fx.x_move rfl rfl) (Fx.Qs (by rfl) rfl (Fx.Qs (by rfl) rfl (Fx.Qs (by rfl) rfl (Fx.Qs (by rfl) rfl (Fx.Qs (by rfl) rfl (Fx.Qs (by rfl) rfl (Fx.Qs (by rfl) rfl (Fx.Qs (by rfl) rfl (Fx.Qs (by rfl) rfl (Fx.Qs (by rfl) rfl (Fx.Qv (.bool false) (fun v1 hv1 => Fx.x_pickF rfl rfl rfl) (Fx.Qt.nil ?_)))))))))))))
  intro wb14 hbwb14
  have s32 : Fx.Stp w4.heap.size w4 wb14 := Fx.Sb hbwb14
  have m44 := m8.stpB s32 (Nat.ne_of_lt (m8.lt))
  have b38 := s32.below b7 (Nat.le_trans hB b7.size) (Nat.le_trans hB b7.size)
  refine Fx.sN (Fx.Wc (b := false) rfl (fun h => nomatch h) (fun _ => Fx.W.exit (Fx.seqX (Fx.lpX (Fx.blkX (Fx.sN (Fx.Ws (Fx.Ws (Fx.Wl (Fx.Lv (.int .i64 ((i0 : Int))) (Fx.x_move rfl h9) (Fx.Lv (.int .i64 ((j0 : Int))) (Fx.x_move rfl h10) (Fx.Lv (.bool true) (Fx.x_gtrT rfl rfl rfl (by omega)) (Fx.Ln (Fx.sN (Fx.Wc (b := true) rfl (fun _ => Fx.Ws ?_) (fun h => nomatch h))))))))))))))))
  -- region 8 draws
  refine Fx.W.reord [0, 1, 2, 3, 4, 5, 6, 8, 9, 10, 7, 11, 12, 13, 14, 15] [0, 0, 0, 0, 0, 0, 0, 4, 0, 0, 0, 4, 0, 3, 0, 3] Fx.Mk Fx.Mk.refl Fx.Mk.trans (certs := [(13, 7, [7]), (15, 7, [7]), (13, 11, [11]), (15, 11, [11]), (14, 13, [13]), (15, 13, [13])]) (by kernel_rfl) (by kernel_rfl) (by kernel_rfl) (by kernel_rfl) (by kernel_rfl) fun wt7 hbwt7 hzwt7 => ?_
  have s33 : Fx.Stp wb14.heap.size wb14 wt7 := Fx.Sb hbwt7
  have m45 := m44.stpB s33 (Nat.ne_of_lt (m44.lt))
  have b39 := s33.below b38 (Nat.le_trans hB b38.size) (Nat.le_trans hB b38.size)
  refine Fx.Rp (.slice (some ⟨g, 0, none⟩) (n) (cap)) (fun v1 => Fx.x_move rfl h6) (Fx.Rp (.int .i64 ((j0 : Int))) (fun v1 => Fx.x_move rfl h10) (Fx.Rp (.slice (some ⟨g, 0, none⟩) (n) (cap)) (fun v1 => Fx.x_move rfl h6) (Fx.Rp (.int .i64 ((a : Int))) (fun v1 => Fx.x_move rfl h7) (Fx.Rp (.slice (some ⟨g, 0, none⟩) (n) (cap)) (fun v1 => Fx.x_move rfl h6) (Fx.Rp (.int .i64 ((a : Int))) (fun v1 => Fx.x_move rfl h7) (Fx.Rp ((pf g a)) (fun v1 => Fx.x_indexS rfl rfl rfl Try.underlying33 (s := 1) (by kernel_rfl) (by omega) (by omega) (by omega)) (Fx.Rp (.slice (some ⟨g, 0, none⟩) (n) (cap)) (fun v1 => Fx.x_move rfl h6) (Fx.Rp (.int .i64 ((j0 : Int))) (fun v1 => Fx.x_move rfl h10) (Fx.Rp ((pf g j0)) (fun v1 => Fx.x_indexS rfl rfl rfl Try.underlying33 (s := 1) (by kernel_rfl) (by omega) (by omega) (by omega)) (Fx.R.s (.int .u64 ((gA (Sort.swp d a p)) a)) (Fx.x_load1 (x := Fx.rv .u64 (gA (Sort.swp d a p))) rfl rfl (by kernel_rfl) m45.cel (i := a) (by omega) (by omega) rfl) ?_))))))))))
  refine Fx.R.s (.int .u64 ((gA (Sort.swp d a p)) j0)) (Fx.x_load1 (x := Fx.rv .u64 (gA (Sort.swp d a p))) rfl rfl (by kernel_rfl) m45.cel (i := j0) (by omega) (by omega) rfl) ?_
  refine Fx.Rp ((pf g j0)) (fun v1 => Fx.x_indexS rfl rfl rfl Try.underlying33 (s := 1) (by kernel_rfl) (by omega) (by omega) (by omega)) (Fx.R.eff (by rfl) ?_)
  refine Fx.L.own1 (x := Fx.rv .u64 (gA (Sort.swp d a p))) (u := .int .u64 ((gA (Sort.swp d a p)) a)) (by rfl) rfl rfl rfl rfl (by rfl) (by kernel_rfl) m45 (i := j0) (by omega) fun w19 m46 s34 z13 => ?_
  have b40 := s34.below b39 (Nat.le_trans hB b39.size) m45.blk.1
  refine Fx.Ln (Fx.Rp ((pf g a)) (fun v1 => Fx.x_indexS rfl rfl rfl Try.underlying33 (s := 1) (by kernel_rfl) (by omega) (by omega) (by omega)) (Fx.R.eff (by rfl) ?_))
  refine Fx.L.own1 (x := Fx.updV (Fx.rv .u64 (gA (Sort.swp d a p))) j0 (.int .u64 ((gA (Sort.swp d a p)) a))) (u := .int .u64 ((gA (Sort.swp d a p)) j0)) (by rfl) rfl rfl rfl rfl (by rfl) (by kernel_rfl) m46 (i := a) (by omega) fun w20 m47 s35 z14 => ?_
  have b41 := s35.below b40 (Nat.le_trans hB b40.size) m46.blk.1
  have m48 : Fx.Own w20 B 28 1 (.slice (some ⟨g, 0, none⟩) n cap) n (Fx.rv .u64 (gA (Sort.swp (Sort.swp d a p) j0 a))) := m47.congr (swp_rv (sz_swp hn _ _) (by omega) (by omega))
  refine Fx.Ln (Fx.R.nil (Fx.sN (Fx.Ws (Fx.Wl (Fx.Lv (.int .i64 ((j0 : Int))) (Fx.x_move rfl h10) (Fx.Lv (.int .i64 ((j0 : Int))) (Fx.x_assign rfl rfl) (Fx.Lv (.bool true) (Fx.x_assign rfl rfl) (Fx.Ln (Fx.sN (Fx.Wr (Fx.sR (⟨.tuple #[.int .i64 ((j0 : Int)), .bool true], Fx.retV2 Try.results32 (by exact rfl) (by exact rfl), ?_⟩))))))))))))
  have hR := hY1.symm.trans (pt_end (by omega))
  exact ⟨j0, true, _, rfl, by rw [Sort.partition_fst, hR], by rw [Sort.partition_arr, hR], (sz_swp (sz_swp hn _ _) _ _), m48, b41⟩
 refine Fx.Qv (.bool false) (fun v1 hv1 => Fx.x_leqF rfl rfl rfl c32) (Fx.Qv (.bool false) (fun v1 hv1 => Fx.x_move rfl rfl) (Fx.Qs (by rfl) rfl (Fx.Qs (by rfl) rfl (Fx.Qs (by rfl) rfl (Fx.Qs (by rfl) rfl (Fx.Qs (by rfl) rfl (Fx.Qs (by rfl) rfl (Fx.Qs (by rfl) rfl (Fx.Qs (by rfl) rfl (Fx.Qs (by rfl) rfl (Fx.Qv (.bool false) (fun v1 hv1 => Fx.x_pickF rfl rfl rfl) (Fx.Qt.nil ?_))))))))))))
 intro wb15 hbwb15
 have s36 : Fx.Stp w3.heap.size w3 wb15 := Fx.Sb hbwb15
 have m49 := m5.stpB s36 (Nat.ne_of_lt (m5.lt))
 have b42 := s36.below b4 (Nat.le_trans hB b4.size) (Nat.le_trans hB b4.size)
 refine Fx.sN (Fx.Wc (b := false) rfl (fun h => nomatch h) (fun _ => Fx.W.exit (Fx.seqX (Fx.lpX (Fx.blkX (Fx.sN (Fx.Ws (Fx.W.block (Fx.W.loop (fun f w_ => ∃ j0 : Nat, Sort.partLoop Sort.ltInt a i0 j0 (Sort.swp d a p) = Sort.partLoop Sort.ltInt a (a + 1) (b - 1) (Sort.swp d a p) ∧ ((j0 < i0 ∨ ¬ gA (Sort.swp d a p) i0 < gA (Sort.swp d a p) a)) ∧ (j0 < b ∧ j0 ≤ b) ∧ f 0 = .slice (some ⟨g, 0, none⟩) (n) (cap) ∧ f 1 = .int .i64 ((a : Int)) ∧ f 2 = .int .i64 ((b : Int)) ∧ f 10 = .int .i64 ((i0 : Int)) ∧ f 11 = .int .i64 ((j0 : Int)) ∧ Fx.Own w_ B 28 1 (.slice (some ⟨g, 0, none⟩) n cap) n (Fx.rv .u64 (gA (Sort.swp d a p))) ∧ Below B w w_) (fun f _ => (intOf (f 11)).toNat) ⟨b - 1, hY0, (.inl (by omega)), (by omega), h1, (h2.trans Fx.ic), (h3.trans Fx.ic), (h4.trans Fx.ic), (h5.trans Fx.ic), m49, b42⟩ ?_)))))))))
 rintro f7 w21 ⟨j0, hY1, hst0, lhY1, h31, h32, h33, h34, h35, m50, b43⟩
 refine Fx.Ws (Fx.Ws ?_)
 -- region 5 draws
 refine Fx.W.quiet (fun v1 => Below w21.heap.size w21 v1) (by kernel_rfl) (by kernel_rfl) (Below.refl _ _).drew ?_
 refine Fx.Qv (.int .i64 ((i0 : Int))) (fun v1 hv1 => Fx.x_move rfl h34) (Fx.Qv (.int .i64 ((j0 : Int))) (fun v1 hv1 => Fx.x_move rfl h35) ?_)
 by_cases c48 : (i0 : Int) ≤ (j0 : Int)
 ·refine Fx.Qv (.bool true) (fun v1 hv1 => Fx.x_leqT rfl rfl rfl c48) (Fx.Qv (.bool true) (fun v1 hv1 => Fx.x_move rfl rfl) (Fx.Qv (.slice (some ⟨g, 0, none⟩) (n) (cap)) (fun v1 hv1 => Fx.x_move rfl h31) (Fx.Qv (.int .i64 ((j0 : Int))) (fun v1 hv1 => Fx.x_move rfl h35) (Fx.Qv ((pf g j0)) (fun v1 hv1 => Fx.x_indexS rfl rfl rfl Try.underlying33 (s := 1) (by kernel_rfl) (by omega) (by omega) (by omega)) (Fx.Qv (.int .u64 ((gA (Sort.swp d a p)) j0)) (fun v1 hv1 => Fx.x_load1 (x := Fx.rv .u64 (gA (Sort.swp d a p))) rfl rfl (by kernel_rfl) (m50.cel.below hv1 (by have := m50.lt; omega)) (i := j0) (by omega) (by omega) rfl) (Fx.Qv (.slice (some ⟨g, 0, none⟩) (n) (cap)) (fun v1 hv1 => Fx.x_move rfl h31) (Fx.Qv (.int .i64 ((a : Int))) (fun v1 hv1 => Fx.x_move rfl h32) (Fx.Qv ((pf g a)) (fun v1 hv1 => Fx.x_indexS rfl rfl rfl Try.underlying33 (s := 1) (by kernel_rfl) (by omega) (by omega) (by omega)) (Fx.Qv (.int .u64 ((gA (Sort.swp d a p)) a)) (fun v1 hv1 => Fx.x_load1 (x := Fx.rv .u64 (gA (Sort.swp d a p))) rfl rfl (by kernel_rfl) (m50.cel.below hv1 (by have := m50.lt; omega)) (i := a) (by omega) (by omega) rfl) ?_)))))))))
  by_cases c58 : (decide ((gA (Sort.swp d a p)) j0 < (gA (Sort.swp d a p)) a)) = true
  ·refine Fx.Qt.call (v := .bool true) (by rfl) (fun v1 hv1 => Fx.rC (args := [.int .u64 ((gA (Sort.swp d a p)) j0), .int .u64 ((gA (Sort.swp d a p)) a)]) rfl rfl Try.func30 rfl rfl) rfl (fun v1 hv1 => (s_less ((gA (Sort.swp d a p)) j0) ((gA (Sort.swp d a p)) a) _).mono fun e v2 h => ⟨by rw [h.1, c58], by rw [h.2]; exact hv1⟩) ?_
   refine Fx.Qv (.bool false) (fun v1 hv1 => Fx.x_notF rfl rfl) (Fx.Qv (.bool false) (fun v1 hv1 => Fx.x_pickT rfl rfl rfl) (Fx.Qt.nil ?_))
   intro wb16 hbwb16
   have s37 : Fx.Stp w21.heap.size w21 wb16 := Fx.Sb hbwb16
   have m51 := m50.stpB s37 (Nat.ne_of_lt (m50.lt))
   have b44 := s37.below b43 (Nat.le_trans hB b43.size) (Nat.le_trans hB b43.size)
   refine Fx.sN (Fx.Wc (b := false) rfl (fun h => nomatch h) (fun _ => Fx.W.exit (Fx.seqX (Fx.lpX (Fx.blkX (Fx.sN (Fx.Ws (Fx.Ws (Fx.Wl (Fx.Lv (.int .i64 ((i0 : Int))) (Fx.x_move rfl h34) (Fx.Lv (.int .i64 ((j0 : Int))) (Fx.x_move rfl h35) (Fx.Lv (.bool false) (Fx.x_gtrF rfl rfl rfl (by omega)) (Fx.Ln (Fx.sN (Fx.Wc (b := false) rfl (fun h => nomatch h) (fun _ => Fx.Wk (Fx.sN (Fx.Ws ?_))))))))))))))))))
   -- region 10 draws
   refine Fx.W.reord [0, 1, 2, 3, 4, 5, 6, 8, 9, 10, 7, 11, 12, 13, 14, 15] [0, 0, 0, 0, 0, 0, 0, 4, 0, 0, 0, 4, 0, 3, 0, 3] Fx.Mk Fx.Mk.refl Fx.Mk.trans (certs := [(13, 7, [7]), (15, 7, [7]), (13, 11, [11]), (15, 11, [11]), (14, 13, [13]), (15, 13, [13])]) (by kernel_rfl) (by kernel_rfl) (by kernel_rfl) (by kernel_rfl) (by kernel_rfl) fun wt8 hbwt8 hzwt8 => ?_
   have s38 : Fx.Stp wb16.heap.size wb16 wt8 := Fx.Sb hbwt8
   have m52 := m51.stpB s38 (Nat.ne_of_lt (m51.lt))
   have b45 := s38.below b44 (Nat.le_trans hB b44.size) (Nat.le_trans hB b44.size)
   refine Fx.Rp (.slice (some ⟨g, 0, none⟩) (n) (cap)) (fun v1 => Fx.x_move rfl h31) (Fx.Rp (.int .i64 ((i0 : Int))) (fun v1 => Fx.x_move rfl h34) (Fx.Rp (.slice (some ⟨g, 0, none⟩) (n) (cap)) (fun v1 => Fx.x_move rfl h31) (Fx.Rp (.int .i64 ((j0 : Int))) (fun v1 => Fx.x_move rfl h35) (Fx.Rp (.slice (some ⟨g, 0, none⟩) (n) (cap)) (fun v1 => Fx.x_move rfl h31) (Fx.Rp (.int .i64 ((j0 : Int))) (fun v1 => Fx.x_move rfl h35) (Fx.Rp ((pf g j0)) (fun v1 => Fx.x_indexS rfl rfl rfl Try.underlying33 (s := 1) (by kernel_rfl) (by omega) (by omega) (by omega)) (Fx.Rp (.slice (some ⟨g, 0, none⟩) (n) (cap)) (fun v1 => Fx.x_move rfl h31) (Fx.Rp (.int .i64 ((i0 : Int))) (fun v1 => Fx.x_move rfl h34) (Fx.Rp ((pf g i0)) (fun v1 => Fx.x_indexS rfl rfl rfl Try.underlying33 (s := 1) (by kernel_rfl) (by omega) (by omega) (by omega)) (Fx.R.s (.int .u64 ((gA (Sort.swp d a p)) j0)) (Fx.x_load1 (x := Fx.rv .u64 (gA (Sort.swp d a p))) rfl rfl (by kernel_rfl) m52.cel (i := j0) (by omega) (by omega) rfl) ?_))))))))))
   refine Fx.R.s (.int .u64 ((gA (Sort.swp d a p)) i0)) (Fx.x_load1 (x := Fx.rv .u64 (gA (Sort.swp d a p))) rfl rfl (by kernel_rfl) m52.cel (i := i0) (by omega) (by omega) rfl) ?_
   refine Fx.Rp ((pf g i0)) (fun v1 => Fx.x_indexS rfl rfl rfl Try.underlying33 (s := 1) (by kernel_rfl) (by omega) (by omega) (by omega)) (Fx.R.eff (by rfl) ?_)
   refine Fx.L.own1 (x := Fx.rv .u64 (gA (Sort.swp d a p))) (u := .int .u64 ((gA (Sort.swp d a p)) j0)) (by rfl) rfl rfl rfl rfl (by rfl) (by kernel_rfl) m52 (i := i0) (by omega) fun w22 m53 s39 z15 => ?_
   have b46 := s39.below b45 (Nat.le_trans hB b45.size) m52.blk.1
   refine Fx.Ln (Fx.Rp ((pf g j0)) (fun v1 => Fx.x_indexS rfl rfl rfl Try.underlying33 (s := 1) (by kernel_rfl) (by omega) (by omega) (by omega)) (Fx.R.eff (by rfl) ?_))
   refine Fx.L.own1 (x := Fx.updV (Fx.rv .u64 (gA (Sort.swp d a p))) i0 (.int .u64 ((gA (Sort.swp d a p)) j0))) (u := .int .u64 ((gA (Sort.swp d a p)) i0)) (by rfl) rfl rfl rfl rfl (by rfl) (by kernel_rfl) m53 (i := j0) (by omega) fun w23 m54 s40 z16 => ?_
   have b47 := s40.below b46 (Nat.le_trans hB b46.size) m53.blk.1
   have m55 : Fx.Own w23 B 28 1 (.slice (some ⟨g, 0, none⟩) n cap) n (Fx.rv .u64 (gA (Sort.swp (Sort.swp d a p) i0 j0))) := m54.congr (swp_rv (sz_swp hn _ _) (by omega) (by omega))
   refine Fx.Ln (Fx.R.nil (Fx.sN (Fx.Ws (Fx.Wl (Fx.Lv (.int .i64 ((i0 : Int))) (Fx.x_move rfl h34) (Fx.Lv (.int .i64 ((i0 : Int) + 1)) (Fx.x_add rfl rfl rfl Fx.io) (Fx.Lv (.int .i64 ((i0 : Int) + 1)) (Fx.x_assign rfl rfl) (Fx.Ln (Fx.sN (Fx.Ws (Fx.Wl (Fx.Lv (.int .i64 ((j0 : Int))) (Fx.x_move rfl h35) (Fx.Lv (.int .i64 ((j0 : Int) - 1)) (Fx.x_sub rfl rfl rfl Fx.io) (Fx.Lv (.int .i64 ((j0 : Int) - 1)) (Fx.x_assign rfl rfl) (Fx.Ln (Fx.sN (Fx.Ws (Fx.W.block (Fx.W.loop (fun f w_ => ∃ i : Nat, ∃ j : Nat, ∃ dk : Array Int, dk.size = n ∧ Sort.partLoop Sort.ltInt a i j dk = Sort.partLoop Sort.ltInt a (a + 1) (b - 1) (Sort.swp d a p) ∧ (a < i ∧ j < b ∧ i ≤ b) ∧ f 0 = .slice (some ⟨g, 0, none⟩) (n) (cap) ∧ f 1 = .int .i64 ((a : Int)) ∧ f 2 = .int .i64 ((b : Int)) ∧ f 10 = .int .i64 ((i : Int)) ∧ f 11 = .int .i64 ((j : Int)) ∧ Fx.Own w_ B 28 1 (.slice (some ⟨g, 0, none⟩) n cap) n (Fx.rv .u64 (gA dk)) ∧ Below B w w_) (fun f _ => ((b : Int) - intOf (f 10)).toNat) ⟨i0 + 1, j0 - 1, Sort.swp (Sort.swp d a p) i0 j0, (sz_swp (sz_swp hn _ _) _ _), ((pt_sw (by omega) (hst0.resolve_left (by omega)) (of_decide_eq_true c58)).trans hY1), (by omega), h31, (h32.trans Fx.ic), (h33.trans Fx.ic), Fx.ic, Fx.ic, m55, b47⟩ ?_)))))))))))))))))))
   rintro f8 w24 ⟨i, j, dk, hk, hX, hij, h36, h37, h38, h39, h40, m56, b48⟩
   refine Fx.W.block (Fx.Ws (Fx.W.block (Fx.W.loop (fun f w_ => ∃ i2 : Nat, Sort.partLoop Sort.ltInt a i2 j dk = Sort.partLoop Sort.ltInt a (a + 1) (b - 1) (Sort.swp d a p) ∧ (i ≤ i2 ∧ i2 ≤ b) ∧ f 0 = .slice (some ⟨g, 0, none⟩) (n) (cap) ∧ f 1 = .int .i64 ((a : Int)) ∧ f 2 = .int .i64 ((b : Int)) ∧ f 10 = .int .i64 ((i2 : Int)) ∧ f 11 = .int .i64 ((j : Int)) ∧ Fx.Own w_ B 28 1 (.slice (some ⟨g, 0, none⟩) n cap) n (Fx.rv .u64 (gA dk)) ∧ Below B w w_) (fun f _ => ((b : Int) - intOf (f 10)).toNat) ⟨i, hX, (by omega), h36, (h37.trans Fx.ic), (h38.trans Fx.ic), (h39.trans Fx.ic), (h40.trans Fx.ic), m56, b48⟩ ?_)))
   rintro f9 w25 ⟨i2, hX1, lhX1, h41, h42, h43, h44, h45, m57, b49⟩
   refine Fx.Ws (Fx.Ws ?_)
   -- region 13 draws
   refine Fx.W.quiet (fun v1 => Below w25.heap.size w25 v1) (by kernel_rfl) (by kernel_rfl) (Below.refl _ _).drew ?_
   refine Fx.Qv (.int .i64 ((i2 : Int))) (fun v1 hv1 => Fx.x_move rfl h44) (Fx.Qv (.int .i64 ((j : Int))) (fun v1 hv1 => Fx.x_move rfl h45) ?_)
   by_cases c101 : (i2 : Int) ≤ (j : Int)
   ·refine Fx.Qv (.bool true) (fun v1 hv1 => Fx.x_leqT rfl rfl rfl c101) (Fx.Qv (.bool true) (fun v1 hv1 => Fx.x_move rfl rfl) (Fx.Qv (.slice (some ⟨g, 0, none⟩) (n) (cap)) (fun v1 hv1 => Fx.x_move rfl h41) (Fx.Qv (.int .i64 ((i2 : Int))) (fun v1 hv1 => Fx.x_move rfl h44) (Fx.Qv ((pf g i2)) (fun v1 hv1 => Fx.x_indexS rfl rfl rfl Try.underlying33 (s := 1) (by kernel_rfl) (by omega) (by omega) (by omega)) (Fx.Qv (.int .u64 ((gA dk) i2)) (fun v1 hv1 => Fx.x_load1 (x := Fx.rv .u64 (gA dk)) rfl rfl (by kernel_rfl) (m57.cel.below hv1 (by have := m57.lt; omega)) (i := i2) (by omega) (by omega) rfl) (Fx.Qv (.slice (some ⟨g, 0, none⟩) (n) (cap)) (fun v1 hv1 => Fx.x_move rfl h41) (Fx.Qv (.int .i64 ((a : Int))) (fun v1 hv1 => Fx.x_move rfl h42) (Fx.Qv ((pf g a)) (fun v1 hv1 => Fx.x_indexS rfl rfl rfl Try.underlying33 (s := 1) (by kernel_rfl) (by omega) (by omega) (by omega)) (Fx.Qv (.int .u64 ((gA dk) a)) (fun v1 hv1 => Fx.x_load1 (x := Fx.rv .u64 (gA dk)) rfl rfl (by kernel_rfl) (m57.cel.below hv1 (by have := m57.lt; omega)) (i := a) (by omega) (by omega) rfl) ?_)))))))))
    by_cases c111 : (decide ((gA dk) i2 < (gA dk) a)) = true
    ·refine Fx.Qt.call (v := .bool true) (by rfl) (fun v1 hv1 => Fx.rC (args := [.int .u64 ((gA dk) i2), .int .u64 ((gA dk) a)]) rfl rfl Try.func30 rfl rfl) rfl (fun v1 hv1 => (s_less ((gA dk) i2) ((gA dk) a) _).mono fun e v2 h => ⟨by rw [h.1, c111], by rw [h.2]; exact hv1⟩) ?_
     refine Fx.Qv (.bool true) (fun v1 hv1 => Fx.x_pickT rfl rfl rfl) (Fx.Qt.nil ?_)
     intro wb17 hbwb17
     have s41 : Fx.Stp w25.heap.size w25 wb17 := Fx.Sb hbwb17
     have m58 := m57.stpB s41 (Nat.ne_of_lt (m57.lt))
     have b50 := s41.below b49 (Nat.le_trans hB b49.size) (Nat.le_trans hB b49.size)
     refine Fx.sN (Fx.Wc (b := true) rfl (fun _ => Fx.Wk (Fx.sN (Fx.W.block (Fx.Wl (Fx.Lv (.int .i64 ((i2 : Int))) (Fx.x_move rfl h44) ?_))))) (fun h => nomatch h))
     refine Fx.Lv (.int .i64 ((i2 : Int) + 1)) (Fx.x_add rfl rfl rfl Fx.io) (Fx.Lv (.int .i64 ((i2 : Int) + 1)) (Fx.x_assign rfl rfl) (Fx.Ln (Fx.blkN (Fx.lpN ⟨i2 + 1, ((pt_up (by omega) (of_decide_eq_true c111)).trans hX1), (by omega), h41, (h42.trans Fx.ic), (h43.trans Fx.ic), Fx.ic, (h45.trans Fx.ic), m58, b50⟩ ?_))))
     show ((b : Int) - intOf ((.int .i64 ((i2 : Int) + 1)))).toNat < _
     simp only [h44, intOf]; omega
    rw [Bool.not_eq_true] at c111
    refine Fx.Qt.call (v := .bool false) (by rfl) (fun v1 hv1 => Fx.rC (args := [.int .u64 ((gA dk) i2), .int .u64 ((gA dk) a)]) rfl rfl Try.func30 rfl rfl) rfl (fun v1 hv1 => (s_less ((gA dk) i2) ((gA dk) a) _).mono fun e v2 h => ⟨by rw [h.1, c111], by rw [h.2]; exact hv1⟩) ?_
    refine Fx.Qv (.bool false) (fun v1 hv1 => Fx.x_pickT rfl rfl rfl) (Fx.Qt.nil ?_)
    intro wb18 hbwb18
    have s42 : Fx.Stp w25.heap.size w25 wb18 := Fx.Sb hbwb18
    have m59 := m57.stpB s42 (Nat.ne_of_lt (m57.lt))
    have b51 := s42.below b49 (Nat.le_trans hB b49.size) (Nat.le_trans hB b49.size)
    refine Fx.sN (Fx.Wc (b := false) rfl (fun h => nomatch h) (fun _ => Fx.W.exit (Fx.seqX (Fx.lpX (Fx.blkX (Fx.sN (Fx.Ws (Fx.W.block (Fx.W.loop (fun f w_ => ∃ j2 : Nat, Sort.partLoop Sort.ltInt a i2 j2 dk = Sort.partLoop Sort.ltInt a (a + 1) (b - 1) (Sort.swp d a p) ∧ ((j2 < i2 ∨ ¬ gA dk i2 < gA dk a)) ∧ (j2 < b ∧ j2 ≤ j) ∧ f 0 = .slice (some ⟨g, 0, none⟩) (n) (cap) ∧ f 1 = .int .i64 ((a : Int)) ∧ f 2 = .int .i64 ((b : Int)) ∧ f 10 = .int .i64 ((i2 : Int)) ∧ f 11 = .int .i64 ((j2 : Int)) ∧ Fx.Own w_ B 28 1 (.slice (some ⟨g, 0, none⟩) n cap) n (Fx.rv .u64 (gA dk)) ∧ Below B w w_) (fun f _ => (intOf (f 11)).toNat) ⟨j, hX1, (.inr (of_decide_eq_false c111)), (by omega), h41, (h42.trans Fx.ic), (h43.trans Fx.ic), (h44.trans Fx.ic), (h45.trans Fx.ic), m59, b51⟩ ?_)))))))))
    rintro f10 w26 ⟨j2, hX2, hst, lhX2, h46, h47, h48, h49, h50, m60, b52⟩
    refine Fx.Ws (Fx.Ws ?_)
    -- region 15 draws
    refine Fx.W.quiet (fun v1 => Below w26.heap.size w26 v1) (by kernel_rfl) (by kernel_rfl) (Below.refl _ _).drew ?_
    refine Fx.Qv (.int .i64 ((i2 : Int))) (fun v1 hv1 => Fx.x_move rfl h49) (Fx.Qv (.int .i64 ((j2 : Int))) (fun v1 hv1 => Fx.x_move rfl h50) ?_)
    by_cases c117 : (i2 : Int) ≤ (j2 : Int)
    ·refine Fx.Qv (.bool true) (fun v1 hv1 => Fx.x_leqT rfl rfl rfl c117) (Fx.Qv (.bool true) (fun v1 hv1 => Fx.x_move rfl rfl) (Fx.Qv (.slice (some ⟨g, 0, none⟩) (n) (cap)) (fun v1 hv1 => Fx.x_move rfl h46) (Fx.Qv (.int .i64 ((j2 : Int))) (fun v1 hv1 => Fx.x_move rfl h50) (Fx.Qv ((pf g j2)) (fun v1 hv1 => Fx.x_indexS rfl rfl rfl Try.underlying33 (s := 1) (by kernel_rfl) (by omega) (by omega) (by omega)) (Fx.Qv (.int .u64 ((gA dk) j2)) (fun v1 hv1 => Fx.x_load1 (x := Fx.rv .u64 (gA dk)) rfl rfl (by kernel_rfl) (m60.cel.below hv1 (by have := m60.lt; omega)) (i := j2) (by omega) (by omega) rfl) (Fx.Qv (.slice (some ⟨g, 0, none⟩) (n) (cap)) (fun v1 hv1 => Fx.x_move rfl h46) (Fx.Qv (.int .i64 ((a : Int))) (fun v1 hv1 => Fx.x_move rfl h47) (Fx.Qv ((pf g a)) (fun v1 hv1 => Fx.x_indexS rfl rfl rfl Try.underlying33 (s := 1) (by kernel_rfl) (by omega) (by omega) (by omega)) (Fx.Qv (.int .u64 ((gA dk) a)) (fun v1 hv1 => Fx.x_load1 (x := Fx.rv .u64 (gA dk)) rfl rfl (by kernel_rfl) (m60.cel.below hv1 (by have := m60.lt; omega)) (i := a) (by omega) (by omega) rfl) ?_)))))))))
     by_cases c127 : (decide ((gA dk) j2 < (gA dk) a)) = true
     ·refine Fx.Qt.call (v := .bool true) (by rfl) (fun v1 hv1 => Fx.rC (args := [.int .u64 ((gA dk) j2), .int .u64 ((gA dk) a)]) rfl rfl Try.func30 rfl rfl) rfl (fun v1 hv1 => (s_less ((gA dk) j2) ((gA dk) a) _).mono fun e v2 h => ⟨by rw [h.1, c127], by rw [h.2]; exact hv1⟩) ?_
      refine Fx.Qv (.bool false) (fun v1 hv1 => Fx.x_notF rfl rfl) (Fx.Qv (.bool false) (fun v1 hv1 => Fx.x_pickT rfl rfl rfl) (Fx.Qt.nil ?_))
      intro wb19 hbwb19
      have s43 : Fx.Stp w26.heap.size w26 wb19 := Fx.Sb hbwb19
      have m61 := m60.stpB s43 (Nat.ne_of_lt (m60.lt))
      have b53 := s43.below b52 (Nat.le_trans hB b52.size) (Nat.le_trans hB b52.size)
      refine Fx.sN (Fx.Wc (b := false) rfl (fun h => nomatch h) (fun _ => Fx.W.exit (Fx.seqX (Fx.lpX (Fx.blkX (Fx.sN (Fx.Ws (Fx.Ws (Fx.Wl (Fx.Lv (.int .i64 ((i2 : Int))) (Fx.x_move rfl h49) (Fx.Lv (.int .i64 ((j2 : Int))) (Fx.x_move rfl h50) (Fx.Lv (.bool false) (Fx.x_gtrF rfl rfl rfl (by omega)) (Fx.Ln (Fx.sN (Fx.Wc (b := false) rfl (fun h => nomatch h) (fun _ => Fx.Wk (Fx.sN (Fx.Ws ?_))))))))))))))))))
      -- region 18 draws
      refine Fx.W.reord [0, 1, 2, 3, 4, 5, 6, 8, 9, 10, 7, 11, 12, 13, 14, 15] [0, 0, 0, 0, 0, 0, 0, 4, 0, 0, 0, 4, 0, 3, 0, 3] Fx.Mk Fx.Mk.refl Fx.Mk.trans (certs := [(13, 7, [7]), (15, 7, [7]), (13, 11, [11]), (15, 11, [11]), (14, 13, [13]), (15, 13, [13])]) (by kernel_rfl) (by kernel_rfl) (by kernel_rfl) (by kernel_rfl) (by kernel_rfl) fun wt9 hbwt9 hzwt9 => ?_
      have s44 : Fx.Stp wb19.heap.size wb19 wt9 := Fx.Sb hbwt9
      have m62 := m61.stpB s44 (Nat.ne_of_lt (m61.lt))
      have b54 := s44.below b53 (Nat.le_trans hB b53.size) (Nat.le_trans hB b53.size)
      refine Fx.Rp (.slice (some ⟨g, 0, none⟩) (n) (cap)) (fun v1 => Fx.x_move rfl h46) (Fx.Rp (.int .i64 ((i2 : Int))) (fun v1 => Fx.x_move rfl h49) (Fx.Rp (.slice (some ⟨g, 0, none⟩) (n) (cap)) (fun v1 => Fx.x_move rfl h46) (Fx.Rp (.int .i64 ((j2 : Int))) (fun v1 => Fx.x_move rfl h50) (Fx.Rp (.slice (some ⟨g, 0, none⟩) (n) (cap)) (fun v1 => Fx.x_move rfl h46) (Fx.Rp (.int .i64 ((j2 : Int))) (fun v1 => Fx.x_move rfl h50) (Fx.Rp ((pf g j2)) (fun v1 => Fx.x_indexS rfl rfl rfl Try.underlying33 (s := 1) (by kernel_rfl) (by omega) (by omega) (by omega)) (Fx.Rp (.slice (some ⟨g, 0, none⟩) (n) (cap)) (fun v1 => Fx.x_move rfl h46) (Fx.Rp (.int .i64 ((i2 : Int))) (fun v1 => Fx.x_move rfl h49) (Fx.Rp ((pf g i2)) (fun v1 => Fx.x_indexS rfl rfl rfl Try.underlying33 (s := 1) (by kernel_rfl) (by omega) (by omega) (by omega)) (Fx.R.s (.int .u64 ((gA dk) j2)) (Fx.x_load1 (x := Fx.rv .u64 (gA dk)) rfl rfl (by kernel_rfl) m62.cel (i := j2) (by omega) (by omega) rfl) ?_))))))))))
      refine Fx.R.s (.int .u64 ((gA dk) i2)) (Fx.x_load1 (x := Fx.rv .u64 (gA dk)) rfl rfl (by kernel_rfl) m62.cel (i := i2) (by omega) (by omega) rfl) ?_
      refine Fx.Rp ((pf g i2)) (fun v1 => Fx.x_indexS rfl rfl rfl Try.underlying33 (s := 1) (by kernel_rfl) (by omega) (by omega) (by omega)) (Fx.R.eff (by rfl) ?_)
      refine Fx.L.own1 (x := Fx.rv .u64 (gA dk)) (u := .int .u64 ((gA dk) j2)) (by rfl) rfl rfl rfl rfl (by rfl) (by kernel_rfl) m62 (i := i2) (by omega) fun w27 m63 s45 z17 => ?_
      have b55 := s45.below b54 (Nat.le_trans hB b54.size) m62.blk.1
      refine Fx.Ln (Fx.Rp ((pf g j2)) (fun v1 => Fx.x_indexS rfl rfl rfl Try.underlying33 (s := 1) (by kernel_rfl) (by omega) (by omega) (by omega)) (Fx.R.eff (by rfl) ?_))
      refine Fx.L.own1 (x := Fx.updV (Fx.rv .u64 (gA dk)) i2 (.int .u64 ((gA dk) j2))) (u := .int .u64 ((gA dk) i2)) (by rfl) rfl rfl rfl rfl (by rfl) (by kernel_rfl) m63 (i := j2) (by omega) fun w28 m64 s46 z18 => ?_
      have b56 := s46.below b55 (Nat.le_trans hB b55.size) m63.blk.1
      have m65 : Fx.Own w28 B 28 1 (.slice (some ⟨g, 0, none⟩) n cap) n (Fx.rv .u64 (gA (Sort.swp dk i2 j2))) := m64.congr (swp_rv hk (by omega) (by omega))
      refine Fx.Ln (Fx.R.nil (Fx.sN (Fx.Ws (Fx.Wl (Fx.Lv (.int .i64 ((i2 : Int))) (Fx.x_move rfl h49) (Fx.Lv (.int .i64 ((i2 : Int) + 1)) (Fx.x_add rfl rfl rfl Fx.io) (Fx.Lv (.int .i64 ((i2 : Int) + 1)) (Fx.x_assign rfl rfl) (Fx.Ln (Fx.sN (Fx.Wl (Fx.Lv (.int .i64 ((j2 : Int))) (Fx.x_move rfl h50) (Fx.Lv (.int .i64 ((j2 : Int) - 1)) (Fx.x_sub rfl rfl rfl Fx.io) (Fx.Lv (.int .i64 ((j2 : Int) - 1)) (Fx.x_assign rfl rfl) (Fx.Ln (Fx.blkN (Fx.lpN ⟨i2 + 1, j2 - 1, Sort.swp dk i2 j2, (sz_swp hk _ _), ((pt_sw (by omega) (hst.resolve_left (by omega)) (of_decide_eq_true c127)).trans hX2), (by omega), h46, (h47.trans Fx.ic), (h48.trans Fx.ic), Fx.ic, Fx.ic, m65, b56⟩ ?_))))))))))))))))
      show ((b : Int) - intOf ((.int .i64 ((i2 : Int) + 1)))).toNat < _
      simp only [h39, intOf]; omega
     rw [Bool.not_eq_true] at c127
     refine Fx.Qt.call (v := .bool false) (by rfl) (fun v1 hv1 => Fx.rC (args := [.int .u64 ((gA dk) j2), .int .u64 ((gA dk) a)]) rfl rfl Try.func30 rfl rfl) rfl (fun v1 hv1 => (s_less ((gA dk) j2) ((gA dk) a) _).mono fun e v2 h => ⟨by rw [h.1, c127], by rw [h.2]; exact hv1⟩) ?_
     refine Fx.Qv (.bool true) (fun v1 hv1 => Fx.x_notT rfl rfl) (Fx.Qv (.bool true) (fun v1 hv1 => Fx.x_pickT rfl rfl rfl) (Fx.Qt.nil ?_))
     intro wb20 hbwb20
     have s47 : Fx.Stp w26.heap.size w26 wb20 := Fx.Sb hbwb20
     have m66 := m60.stpB s47 (Nat.ne_of_lt (m60.lt))
     have b57 := s47.below b52 (Nat.le_trans hB b52.size) (Nat.le_trans hB b52.size)
     refine Fx.sN (Fx.Wc (b := true) rfl (fun _ => Fx.Wk (Fx.sN (Fx.W.block (Fx.Wl (Fx.Lv (.int .i64 ((j2 : Int))) (Fx.x_move rfl h50) ?_))))) (fun h => nomatch h))
     refine Fx.Lv (.int .i64 ((j2 : Int) - 1)) (Fx.x_sub rfl rfl rfl Fx.io) (Fx.Lv (.int .i64 ((j2 : Int) - 1)) (Fx.x_assign rfl rfl) (Fx.Ln (Fx.blkN (Fx.lpN ⟨j2 - 1, ((pt_dn (by omega) (by omega) (hst.resolve_left (by omega)) (of_decide_eq_false c127)).trans hX2), (hst.elim (fun h => .inl (by omega)) .inr), (by omega), h46, (h47.trans Fx.ic), (h48.trans Fx.ic), (h49.trans Fx.ic), Fx.ic, m66, b57⟩ ?_))))
     show (intOf ((.int .i64 ((j2 : Int) - 1)))).toNat < _
     simp only [h50, intOf]; omega
    refine Fx.Qv (.bool false) (fun v1 hv1 => Fx.x_leqF rfl rfl rfl c117) (Fx.Qv (.bool false) (fun v1 hv1 => Fx.x_move rfl rfl) (Fx.Qs (by rfl) rfl (Fx.Qs (by rfl) rfl (Fx.Qs (by rfl) rfl (Fx.Qs (by rfl) rfl (Fx.Qs (by rfl) rfl (Fx.Qs (by rfl) rfl (Fx.Qs (by rfl) rfl (Fx.Qs (by rfl) rfl (Fx.Qs (by rfl) rfl (Fx.Qs (by rfl) rfl (Fx.Qv (.bool false) (fun v1 hv1 => Fx.x_pickF rfl rfl rfl) (Fx.Qt.nil ?_)))))))))))))
    intro wb21 hbwb21
    have s48 : Fx.Stp w26.heap.size w26 wb21 := Fx.Sb hbwb21
    have m67 := m60.stpB s48 (Nat.ne_of_lt (m60.lt))
    have b58 := s48.below b52 (Nat.le_trans hB b52.size) (Nat.le_trans hB b52.size)
    refine Fx.sN (Fx.Wc (b := false) rfl (fun h => nomatch h) (fun _ => Fx.W.exit (Fx.seqX (Fx.lpX (Fx.blkX (Fx.sN (Fx.Ws (Fx.Ws (Fx.Wl (Fx.Lv (.int .i64 ((i2 : Int))) (Fx.x_move rfl h49) (Fx.Lv (.int .i64 ((j2 : Int))) (Fx.x_move rfl h50) (Fx.Lv (.bool true) (Fx.x_gtrT rfl rfl rfl (by omega)) (Fx.Ln (Fx.sN (Fx.Wc (b := true) rfl (fun _ => Fx.W.exit (Fx.seqX (Fx.blkO rfl (Fx.lpX (Fx.blkX (Fx.sN (Fx.Ws ?_))))))) (fun h => nomatch h))))))))))))))))
    -- region 21 draws
    refine Fx.W.reord [0, 1, 2, 3, 4, 5, 6, 8, 9, 10, 7, 11, 12, 13, 14, 15] [0, 0, 0, 0, 0, 0, 0, 4, 0, 0, 0, 4, 0, 3, 0, 3] Fx.Mk Fx.Mk.refl Fx.Mk.trans (certs := [(13, 7, [7]), (15, 7, [7]), (13, 11, [11]), (15, 11, [11]), (14, 13, [13]), (15, 13, [13])]) (by kernel_rfl) (by kernel_rfl) (by kernel_rfl) (by kernel_rfl) (by kernel_rfl) fun wt10 hbwt10 hzwt10 => ?_
    have s49 : Fx.Stp wb21.heap.size wb21 wt10 := Fx.Sb hbwt10
    have m68 := m67.stpB s49 (Nat.ne_of_lt (m67.lt))
    have b59 := s49.below b58 (Nat.le_trans hB b58.size) (Nat.le_trans hB b58.size)
    refine Fx.Rp (.slice (some ⟨g, 0, none⟩) (n) (cap)) (fun v1 => Fx.x_move rfl h46) (Fx.Rp (.int .i64 ((j2 : Int))) (fun v1 => Fx.x_move rfl h50) (Fx.Rp (.slice (some ⟨g, 0, none⟩) (n) (cap)) (fun v1 => Fx.x_move rfl h46) (Fx.Rp (.int .i64 ((a : Int))) (fun v1 => Fx.x_move rfl h47) (Fx.Rp (.slice (some ⟨g, 0, none⟩) (n) (cap)) (fun v1 => Fx.x_move rfl h46) (Fx.Rp (.int .i64 ((a : Int))) (fun v1 => Fx.x_move rfl h47) (Fx.Rp ((pf g a)) (fun v1 => Fx.x_indexS rfl rfl rfl Try.underlying33 (s := 1) (by kernel_rfl) (by omega) (by omega) (by omega)) (Fx.Rp (.slice (some ⟨g, 0, none⟩) (n) (cap)) (fun v1 => Fx.x_move rfl h46) (Fx.Rp (.int .i64 ((j2 : Int))) (fun v1 => Fx.x_move rfl h50) (Fx.Rp ((pf g j2)) (fun v1 => Fx.x_indexS rfl rfl rfl Try.underlying33 (s := 1) (by kernel_rfl) (by omega) (by omega) (by omega)) (Fx.R.s (.int .u64 ((gA dk) a)) (Fx.x_load1 (x := Fx.rv .u64 (gA dk)) rfl rfl (by kernel_rfl) m68.cel (i := a) (by omega) (by omega) rfl) ?_))))))))))
    refine Fx.R.s (.int .u64 ((gA dk) j2)) (Fx.x_load1 (x := Fx.rv .u64 (gA dk)) rfl rfl (by kernel_rfl) m68.cel (i := j2) (by omega) (by omega) rfl) ?_
    refine Fx.Rp ((pf g j2)) (fun v1 => Fx.x_indexS rfl rfl rfl Try.underlying33 (s := 1) (by kernel_rfl) (by omega) (by omega) (by omega)) (Fx.R.eff (by rfl) ?_)
    refine Fx.L.own1 (x := Fx.rv .u64 (gA dk)) (u := .int .u64 ((gA dk) a)) (by rfl) rfl rfl rfl rfl (by rfl) (by kernel_rfl) m68 (i := j2) (by omega) fun w29 m69 s50 z19 => ?_
    have b60 := s50.below b59 (Nat.le_trans hB b59.size) m68.blk.1
    refine Fx.Ln (Fx.Rp ((pf g a)) (fun v1 => Fx.x_indexS rfl rfl rfl Try.underlying33 (s := 1) (by kernel_rfl) (by omega) (by omega) (by omega)) (Fx.R.eff (by rfl) ?_))
    refine Fx.L.own1 (x := Fx.updV (Fx.rv .u64 (gA dk)) j2 (.int .u64 ((gA dk) a))) (u := .int .u64 ((gA dk) j2)) (by rfl) rfl rfl rfl rfl (by rfl) (by kernel_rfl) m69 (i := a) (by omega) fun w30 m70 s51 z20 => ?_
    have b61 := s51.below b60 (Nat.le_trans hB b60.size) m69.blk.1
    have m71 : Fx.Own w30 B 28 1 (.slice (some ⟨g, 0, none⟩) n cap) n (Fx.rv .u64 (gA (Sort.swp dk j2 a))) := m70.congr (swp_rv hk (by omega) (by omega))
    refine Fx.Ln (Fx.R.nil (Fx.sN (Fx.Ws (Fx.Wl (Fx.Lv (.int .i64 ((j2 : Int))) (Fx.x_move rfl h50) (Fx.Lv (.int .i64 ((j2 : Int))) (Fx.x_assign rfl rfl) (Fx.Lv (.bool false) (Fx.x_assign rfl rfl) (Fx.Ln (Fx.sN (Fx.Wr (⟨.tuple #[.int .i64 ((j2 : Int)), .bool false], Fx.retV2 Try.results32 (by exact rfl) (by exact rfl), ?_⟩)))))))))))
    have hR := hX2.symm.trans (pt_end (by omega))
    exact ⟨j2, false, _, rfl, by rw [Sort.partition_fst, hR], by rw [Sort.partition_arr, hR], (sz_swp hk _ _), m71, b61⟩
   refine Fx.Qv (.bool false) (fun v1 hv1 => Fx.x_leqF rfl rfl rfl c101) (Fx.Qv (.bool false) (fun v1 hv1 => Fx.x_move rfl rfl) (Fx.Qs (by rfl) rfl (Fx.Qs (by rfl) rfl (Fx.Qs (by rfl) rfl (Fx.Qs (by rfl) rfl (Fx.Qs (by rfl) rfl (Fx.Qs (by rfl) rfl (Fx.Qs (by rfl) rfl (Fx.Qs (by rfl) rfl (Fx.Qs (by rfl) rfl (Fx.Qv (.bool false) (fun v1 hv1 => Fx.x_pickF rfl rfl rfl) (Fx.Qt.nil ?_))))))))))))
   intro wb22 hbwb22
   have s52 : Fx.Stp w25.heap.size w25 wb22 := Fx.Sb hbwb22
   have m72 := m57.stpB s52 (Nat.ne_of_lt (m57.lt))
   have b62 := s52.below b49 (Nat.le_trans hB b49.size) (Nat.le_trans hB b49.size)
   refine Fx.sN (Fx.Wc (b := false) rfl (fun h => nomatch h) (fun _ => Fx.W.exit (Fx.seqX (Fx.lpX (Fx.blkX (Fx.sN (Fx.Ws (Fx.W.block (Fx.W.loop (fun f w_ => ∃ j2 : Nat, Sort.partLoop Sort.ltInt a i2 j2 dk = Sort.partLoop Sort.ltInt a (a + 1) (b - 1) (Sort.swp d a p) ∧ ((j2 < i2 ∨ ¬ gA dk i2 < gA dk a)) ∧ (j2 < b ∧ j2 ≤ j) ∧ f 0 = .slice (some ⟨g, 0, none⟩) (n) (cap) ∧ f 1 = .int .i64 ((a : Int)) ∧ f 2 = .int .i64 ((b : Int)) ∧ f 10 = .int .i64 ((i2 : Int)) ∧ f 11 = .int .i64 ((j2 : Int)) ∧ Fx.Own w_ B 28 1 (.slice (some ⟨g, 0, none⟩) n cap) n (Fx.rv .u64 (gA dk)) ∧ Below B w w_) (fun f _ => (intOf (f 11)).toNat) ⟨j, hX1, (.inl (by omega)), (by omega), h41, (h42.trans Fx.ic), (h43.trans Fx.ic), (h44.trans Fx.ic), (h45.trans Fx.ic), m72, b62⟩ ?_)))))))))
   rintro f11 w31 ⟨j2, hX2, hst, lhX2, h51, h52, h53, h54, h55, m73, b63⟩
   refine Fx.Ws (Fx.Ws ?_)
   -- region 15 draws
   refine Fx.W.quiet (fun v1 => Below w31.heap.size w31 v1) (by kernel_rfl) (by kernel_rfl) (Below.refl _ _).drew ?_
   refine Fx.Qv (.int .i64 ((i2 : Int))) (fun v1 hv1 => Fx.x_move rfl h54) (Fx.Qv (.int .i64 ((j2 : Int))) (fun v1 hv1 => Fx.x_move rfl h55) ?_)
   by_cases c117 : (i2 : Int) ≤ (j2 : Int)
   ·refine Fx.Qv (.bool true) (fun v1 hv1 => Fx.x_leqT rfl rfl rfl c117) (Fx.Qv (.bool true) (fun v1 hv1 => Fx.x_move rfl rfl) (Fx.Qv (.slice (some ⟨g, 0, none⟩) (n) (cap)) (fun v1 hv1 => Fx.x_move rfl h51) (Fx.Qv (.int .i64 ((j2 : Int))) (fun v1 hv1 => Fx.x_move rfl h55) (Fx.Qv ((pf g j2)) (fun v1 hv1 => Fx.x_indexS rfl rfl rfl Try.underlying33 (s := 1) (by kernel_rfl) (by omega) (by omega) (by omega)) (Fx.Qv (.int .u64 ((gA dk) j2)) (fun v1 hv1 => Fx.x_load1 (x := Fx.rv .u64 (gA dk)) rfl rfl (by kernel_rfl) (m73.cel.below hv1 (by have := m73.lt; omega)) (i := j2) (by omega) (by omega) rfl) (Fx.Qv (.slice (some ⟨g, 0, none⟩) (n) (cap)) (fun v1 hv1 => Fx.x_move rfl h51) (Fx.Qv (.int .i64 ((a : Int))) (fun v1 hv1 => Fx.x_move rfl h52) (Fx.Qv ((pf g a)) (fun v1 hv1 => Fx.x_indexS rfl rfl rfl Try.underlying33 (s := 1) (by kernel_rfl) (by omega) (by omega) (by omega)) (Fx.Qv (.int .u64 ((gA dk) a)) (fun v1 hv1 => Fx.x_load1 (x := Fx.rv .u64 (gA dk)) rfl rfl (by kernel_rfl) (m73.cel.below hv1 (by have := m73.lt; omega)) (i := a) (by omega) (by omega) rfl) ?_)))))))))
    by_cases c127 : (decide ((gA dk) j2 < (gA dk) a)) = true
    ·refine Fx.Qt.call (v := .bool true) (by rfl) (fun v1 hv1 => Fx.rC (args := [.int .u64 ((gA dk) j2), .int .u64 ((gA dk) a)]) rfl rfl Try.func30 rfl rfl) rfl (fun v1 hv1 => (s_less ((gA dk) j2) ((gA dk) a) _).mono fun e v2 h => ⟨by rw [h.1, c127], by rw [h.2]; exact hv1⟩) ?_
     refine Fx.Qv (.bool false) (fun v1 hv1 => Fx.x_notF rfl rfl) (Fx.Qv (.bool false) (fun v1 hv1 => Fx.x_pickT rfl rfl rfl) (Fx.Qt.nil ?_))
     intro wb23 hbwb23
     have s53 : Fx.Stp w31.heap.size w31 wb23 := Fx.Sb hbwb23
     have m74 := m73.stpB s53 (Nat.ne_of_lt (m73.lt))
     have b64 := s53.below b63 (Nat.le_trans hB b63.size) (Nat.le_trans hB b63.size)
     refine Fx.sN (Fx.Wc (b := false) rfl (fun h => nomatch h) (fun _ => Fx.W.exit (Fx.seqX (Fx.lpX (Fx.blkX (Fx.sN (Fx.Ws (Fx.Ws (Fx.Wl (Fx.Lv (.int .i64 ((i2 : Int))) (Fx.x_move rfl h54) (Fx.Lv (.int .i64 ((j2 : Int))) (Fx.x_move rfl h55) (Fx.Lv (.bool false) (Fx.x_gtrF rfl rfl rfl (by omega)) (Fx.Ln (Fx.sN (Fx.Wc (b := false) rfl (fun h => nomatch h) (fun _ => Fx.Wk (Fx.sN (Fx.Ws ?_))))))))))))))))))
     -- region 18 draws
     refine Fx.W.reord [0, 1, 2, 3, 4, 5, 6, 8, 9, 10, 7, 11, 12, 13, 14, 15] [0, 0, 0, 0, 0, 0, 0, 4, 0, 0, 0, 4, 0, 3, 0, 3] Fx.Mk Fx.Mk.refl Fx.Mk.trans (certs := [(13, 7, [7]), (15, 7, [7]), (13, 11, [11]), (15, 11, [11]), (14, 13, [13]), (15, 13, [13])]) (by kernel_rfl) (by kernel_rfl) (by kernel_rfl) (by kernel_rfl) (by kernel_rfl) fun wt11 hbwt11 hzwt11 => ?_
     have s54 : Fx.Stp wb23.heap.size wb23 wt11 := Fx.Sb hbwt11
     have m75 := m74.stpB s54 (Nat.ne_of_lt (m74.lt))
     have b65 := s54.below b64 (Nat.le_trans hB b64.size) (Nat.le_trans hB b64.size)
     refine Fx.Rp (.slice (some ⟨g, 0, none⟩) (n) (cap)) (fun v1 => Fx.x_move rfl h51) (Fx.Rp (.int .i64 ((i2 : Int))) (fun v1 => Fx.x_move rfl h54) (Fx.Rp (.slice (some ⟨g, 0, none⟩) (n) (cap)) (fun v1 => Fx.x_move rfl h51) (Fx.Rp (.int .i64 ((j2 : Int))) (fun v1 => Fx.x_move rfl h55) (Fx.Rp (.slice (some ⟨g, 0, none⟩) (n) (cap)) (fun v1 => Fx.x_move rfl h51) (Fx.Rp (.int .i64 ((j2 : Int))) (fun v1 => Fx.x_move rfl h55) (Fx.Rp ((pf g j2)) (fun v1 => Fx.x_indexS rfl rfl rfl Try.underlying33 (s := 1) (by kernel_rfl) (by omega) (by omega) (by omega)) (Fx.Rp (.slice (some ⟨g, 0, none⟩) (n) (cap)) (fun v1 => Fx.x_move rfl h51) (Fx.Rp (.int .i64 ((i2 : Int))) (fun v1 => Fx.x_move rfl h54) (Fx.Rp ((pf g i2)) (fun v1 => Fx.x_indexS rfl rfl rfl Try.underlying33 (s := 1) (by kernel_rfl) (by omega) (by omega) (by omega)) (Fx.R.s (.int .u64 ((gA dk) j2)) (Fx.x_load1 (x := Fx.rv .u64 (gA dk)) rfl rfl (by kernel_rfl) m75.cel (i := j2) (by omega) (by omega) rfl) ?_))))))))))
     refine Fx.R.s (.int .u64 ((gA dk) i2)) (Fx.x_load1 (x := Fx.rv .u64 (gA dk)) rfl rfl (by kernel_rfl) m75.cel (i := i2) (by omega) (by omega) rfl) ?_
     refine Fx.Rp ((pf g i2)) (fun v1 => Fx.x_indexS rfl rfl rfl Try.underlying33 (s := 1) (by kernel_rfl) (by omega) (by omega) (by omega)) (Fx.R.eff (by rfl) ?_)
     refine Fx.L.own1 (x := Fx.rv .u64 (gA dk)) (u := .int .u64 ((gA dk) j2)) (by rfl) rfl rfl rfl rfl (by rfl) (by kernel_rfl) m75 (i := i2) (by omega) fun w32 m76 s55 z21 => ?_
     have b66 := s55.below b65 (Nat.le_trans hB b65.size) m75.blk.1
     refine Fx.Ln (Fx.Rp ((pf g j2)) (fun v1 => Fx.x_indexS rfl rfl rfl Try.underlying33 (s := 1) (by kernel_rfl) (by omega) (by omega) (by omega)) (Fx.R.eff (by rfl) ?_))
     refine Fx.L.own1 (x := Fx.updV (Fx.rv .u64 (gA dk)) i2 (.int .u64 ((gA dk) j2))) (u := .int .u64 ((gA dk) i2)) (by rfl) rfl rfl rfl rfl (by rfl) (by kernel_rfl) m76 (i := j2) (by omega) fun w33 m77 s56 z22 => ?_
     have b67 := s56.below b66 (Nat.le_trans hB b66.size) m76.blk.1
     have m78 : Fx.Own w33 B 28 1 (.slice (some ⟨g, 0, none⟩) n cap) n (Fx.rv .u64 (gA (Sort.swp dk i2 j2))) := m77.congr (swp_rv hk (by omega) (by omega))
     refine Fx.Ln (Fx.R.nil (Fx.sN (Fx.Ws (Fx.Wl (Fx.Lv (.int .i64 ((i2 : Int))) (Fx.x_move rfl h54) (Fx.Lv (.int .i64 ((i2 : Int) + 1)) (Fx.x_add rfl rfl rfl Fx.io) (Fx.Lv (.int .i64 ((i2 : Int) + 1)) (Fx.x_assign rfl rfl) (Fx.Ln (Fx.sN (Fx.Wl (Fx.Lv (.int .i64 ((j2 : Int))) (Fx.x_move rfl h55) (Fx.Lv (.int .i64 ((j2 : Int) - 1)) (Fx.x_sub rfl rfl rfl Fx.io) (Fx.Lv (.int .i64 ((j2 : Int) - 1)) (Fx.x_assign rfl rfl) (Fx.Ln (Fx.blkN (Fx.lpN ⟨i2 + 1, j2 - 1, Sort.swp dk i2 j2, (sz_swp hk _ _), ((pt_sw (by omega) (hst.resolve_left (by omega)) (of_decide_eq_true c127)).trans hX2), (by omega), h51, (h52.trans Fx.ic), (h53.trans Fx.ic), Fx.ic, Fx.ic, m78, b67⟩ ?_))))))))))))))))
     show ((b : Int) - intOf ((.int .i64 ((i2 : Int) + 1)))).toNat < _
     simp only [h39, intOf]; omega
    rw [Bool.not_eq_true] at c127
    refine Fx.Qt.call (v := .bool false) (by rfl) (fun v1 hv1 => Fx.rC (args := [.int .u64 ((gA dk) j2), .int .u64 ((gA dk) a)]) rfl rfl Try.func30 rfl rfl) rfl (fun v1 hv1 => (s_less ((gA dk) j2) ((gA dk) a) _).mono fun e v2 h => ⟨by rw [h.1, c127], by rw [h.2]; exact hv1⟩) ?_
    refine Fx.Qv (.bool true) (fun v1 hv1 => Fx.x_notT rfl rfl) (Fx.Qv (.bool true) (fun v1 hv1 => Fx.x_pickT rfl rfl rfl) (Fx.Qt.nil ?_))
    intro wb24 hbwb24
    have s57 : Fx.Stp w31.heap.size w31 wb24 := Fx.Sb hbwb24
    have m79 := m73.stpB s57 (Nat.ne_of_lt (m73.lt))
    have b68 := s57.below b63 (Nat.le_trans hB b63.size) (Nat.le_trans hB b63.size)
    refine Fx.sN (Fx.Wc (b := true) rfl (fun _ => Fx.Wk (Fx.sN (Fx.W.block (Fx.Wl (Fx.Lv (.int .i64 ((j2 : Int))) (Fx.x_move rfl h55) ?_))))) (fun h => nomatch h))
    refine Fx.Lv (.int .i64 ((j2 : Int) - 1)) (Fx.x_sub rfl rfl rfl Fx.io) (Fx.Lv (.int .i64 ((j2 : Int) - 1)) (Fx.x_assign rfl rfl) (Fx.Ln (Fx.blkN (Fx.lpN ⟨j2 - 1, ((pt_dn (by omega) (by omega) (hst.resolve_left (by omega)) (of_decide_eq_false c127)).trans hX2), (hst.elim (fun h => .inl (by omega)) .inr), (by omega), h51, (h52.trans Fx.ic), (h53.trans Fx.ic), (h54.trans Fx.ic), Fx.ic, m79, b68⟩ ?_))))
    show (intOf ((.int .i64 ((j2 : Int) - 1)))).toNat < _
    simp only [h55, intOf]; omega
   refine Fx.Qv (.bool false) (fun v1 hv1 => Fx.x_leqF rfl rfl rfl c117) (Fx.Qv (.bool false) (fun v1 hv1 => Fx.x_move rfl rfl) (Fx.Qs (by rfl) rfl (Fx.Qs (by rfl) rfl (Fx.Qs (by rfl) rfl (Fx.Qs (by rfl) rfl (Fx.Qs (by rfl) rfl (Fx.Qs (by rfl) rfl (Fx.Qs (by rfl) rfl (Fx.Qs (by rfl) rfl (Fx.Qs (by rfl) rfl (Fx.Qs (by rfl) rfl (Fx.Qv (.bool false) (fun v1 hv1 => Fx.x_pickF rfl rfl rfl) (Fx.Qt.nil ?_)))))))))))))
   intro wb25 hbwb25
   have s58 : Fx.Stp w31.heap.size w31 wb25 := Fx.Sb hbwb25
   have m80 := m73.stpB s58 (Nat.ne_of_lt (m73.lt))
   have b69 := s58.below b63 (Nat.le_trans hB b63.size) (Nat.le_trans hB b63.size)
   refine Fx.sN (Fx.Wc (b := false) rfl (fun h => nomatch h) (fun _ => Fx.W.exit (Fx.seqX (Fx.lpX (Fx.blkX (Fx.sN (Fx.Ws (Fx.Ws (Fx.Wl (Fx.Lv (.int .i64 ((i2 : Int))) (Fx.x_move rfl h54) (Fx.Lv (.int .i64 ((j2 : Int))) (Fx.x_move rfl h55) (Fx.Lv (.bool true) (Fx.x_gtrT rfl rfl rfl (by omega)) (Fx.Ln (Fx.sN (Fx.Wc (b := true) rfl (fun _ => Fx.W.exit (Fx.seqX (Fx.blkO rfl (Fx.lpX (Fx.blkX (Fx.sN (Fx.Ws ?_))))))) (fun h => nomatch h))))))))))))))))
   -- region 21 draws
   refine Fx.W.reord [0, 1, 2, 3, 4, 5, 6, 8, 9, 10, 7, 11, 12, 13, 14, 15] [0, 0, 0, 0, 0, 0, 0, 4, 0, 0, 0, 4, 0, 3, 0, 3] Fx.Mk Fx.Mk.refl Fx.Mk.trans (certs := [(13, 7, [7]), (15, 7, [7]), (13, 11, [11]), (15, 11, [11]), (14, 13, [13]), (15, 13, [13])]) (by kernel_rfl) (by kernel_rfl) (by kernel_rfl) (by kernel_rfl) (by kernel_rfl) fun wt12 hbwt12 hzwt12 => ?_
   have s59 : Fx.Stp wb25.heap.size wb25 wt12 := Fx.Sb hbwt12
   have m81 := m80.stpB s59 (Nat.ne_of_lt (m80.lt))
   have b70 := s59.below b69 (Nat.le_trans hB b69.size) (Nat.le_trans hB b69.size)
   refine Fx.Rp (.slice (some ⟨g, 0, none⟩) (n) (cap)) (fun v1 => Fx.x_move rfl h51) (Fx.Rp (.int .i64 ((j2 : Int))) (fun v1 => Fx.x_move rfl h55) (Fx.Rp (.slice (some ⟨g, 0, none⟩) (n) (cap)) (fun v1 => Fx.x_move rfl h51) (Fx.Rp (.int .i64 ((a : Int))) (fun v1 => Fx.x_move rfl h52) (Fx.Rp (.slice (some ⟨g, 0, none⟩) (n) (cap)) (fun v1 => Fx.x_move rfl h51) (Fx.Rp (.int .i64 ((a : Int))) (fun v1 => Fx.x_move rfl h52) (Fx.Rp ((pf g a)) (fun v1 => Fx.x_indexS rfl rfl rfl Try.underlying33 (s := 1) (by kernel_rfl) (by omega) (by omega) (by omega)) (Fx.Rp (.slice (some ⟨g, 0, none⟩) (n) (cap)) (fun v1 => Fx.x_move rfl h51) (Fx.Rp (.int .i64 ((j2 : Int))) (fun v1 => Fx.x_move rfl h55) (Fx.Rp ((pf g j2)) (fun v1 => Fx.x_indexS rfl rfl rfl Try.underlying33 (s := 1) (by kernel_rfl) (by omega) (by omega) (by omega)) (Fx.R.s (.int .u64 ((gA dk) a)) (Fx.x_load1 (x := Fx.rv .u64 (gA dk)) rfl rfl (by kernel_rfl) m81.cel (i := a) (by omega) (by omega) rfl) ?_))))))))))
   refine Fx.R.s (.int .u64 ((gA dk) j2)) (Fx.x_load1 (x := Fx.rv .u64 (gA dk)) rfl rfl (by kernel_rfl) m81.cel (i := j2) (by omega) (by omega) rfl) ?_
   refine Fx.Rp ((pf g j2)) (fun v1 => Fx.x_indexS rfl rfl rfl Try.underlying33 (s := 1) (by kernel_rfl) (by omega) (by omega) (by omega)) (Fx.R.eff (by rfl) ?_)
   refine Fx.L.own1 (x := Fx.rv .u64 (gA dk)) (u := .int .u64 ((gA dk) a)) (by rfl) rfl rfl rfl rfl (by rfl) (by kernel_rfl) m81 (i := j2) (by omega) fun w34 m82 s60 z23 => ?_
   have b71 := s60.below b70 (Nat.le_trans hB b70.size) m81.blk.1
   refine Fx.Ln (Fx.Rp ((pf g a)) (fun v1 => Fx.x_indexS rfl rfl rfl Try.underlying33 (s := 1) (by kernel_rfl) (by omega) (by omega) (by omega)) (Fx.R.eff (by rfl) ?_))
   refine Fx.L.own1 (x := Fx.updV (Fx.rv .u64 (gA dk)) j2 (.int .u64 ((gA dk) a))) (u := .int .u64 ((gA dk) j2)) (by rfl) rfl rfl rfl rfl (by rfl) (by kernel_rfl) m82 (i := a) (by omega) fun w35 m83 s61 z24 => ?_
   have b72 := s61.below b71 (Nat.le_trans hB b71.size) m82.blk.1
   have m84 : Fx.Own w35 B 28 1 (.slice (some ⟨g, 0, none⟩) n cap) n (Fx.rv .u64 (gA (Sort.swp dk j2 a))) := m83.congr (swp_rv hk (by omega) (by omega))
   refine Fx.Ln (Fx.R.nil (Fx.sN (Fx.Ws (Fx.Wl (Fx.Lv (.int .i64 ((j2 : Int))) (Fx.x_move rfl h55) (Fx.Lv (.int .i64 ((j2 : Int))) (Fx.x_assign rfl rfl) (Fx.Lv (.bool false) (Fx.x_assign rfl rfl) (Fx.Ln (Fx.sN (Fx.Wr (⟨.tuple #[.int .i64 ((j2 : Int)), .bool false], Fx.retV2 Try.results32 (by exact rfl) (by exact rfl), ?_⟩)))))))))))
   have hR := hX2.symm.trans (pt_end (by omega))
   exact ⟨j2, false, _, rfl, by rw [Sort.partition_fst, hR], by rw [Sort.partition_arr, hR], (sz_swp hk _ _), m84, b72⟩
  rw [Bool.not_eq_true] at c58
  refine Fx.Qt.call (v := .bool false) (by rfl) (fun v1 hv1 => Fx.rC (args := [.int .u64 ((gA (Sort.swp d a p)) j0), .int .u64 ((gA (Sort.swp d a p)) a)]) rfl rfl Try.func30 rfl rfl) rfl (fun v1 hv1 => (s_less ((gA (Sort.swp d a p)) j0) ((gA (Sort.swp d a p)) a) _).mono fun e v2 h => ⟨by rw [h.1, c58], by rw [h.2]; exact hv1⟩) ?_
  refine Fx.Qv (.bool true) (fun v1 hv1 => Fx.x_notT rfl rfl) (Fx.Qv (.bool true) (fun v1 hv1 => Fx.x_pickT rfl rfl rfl) (Fx.Qt.nil ?_))
  intro wb26 hbwb26
  have s62 : Fx.Stp w21.heap.size w21 wb26 := Fx.Sb hbwb26
  have m85 := m50.stpB s62 (Nat.ne_of_lt (m50.lt))
  have b73 := s62.below b43 (Nat.le_trans hB b43.size) (Nat.le_trans hB b43.size)
  refine Fx.sN (Fx.Wc (b := true) rfl (fun _ => Fx.Wk (Fx.sN (Fx.W.block (Fx.Wl (Fx.Lv (.int .i64 ((j0 : Int))) (Fx.x_move rfl h35) ?_))))) (fun h => nomatch h))
  refine Fx.Lv (.int .i64 ((j0 : Int) - 1)) (Fx.x_sub rfl rfl rfl Fx.io) (Fx.Lv (.int .i64 ((j0 : Int) - 1)) (Fx.x_assign rfl rfl) (Fx.Ln (Fx.blkN (Fx.lpN ⟨j0 - 1, ((pt_dn (by omega) (by omega) (hst0.resolve_left (by omega)) (of_decide_eq_false c58)).trans hY1), (hst0.elim (fun h => .inl (by omega)) .inr), (by omega), h31, (h32.trans Fx.ic), (h33.trans Fx.ic), (h34.trans Fx.ic), Fx.ic, m85, b73⟩ ?_))))
  show (intOf ((.int .i64 ((j0 : Int) - 1)))).toNat < _
  simp only [h35, intOf]; omega
 refine Fx.Qv (.bool false) (fun v1 hv1 => Fx.x_leqF rfl rfl rfl c48) (Fx.Qv (.bool false) (fun v1 hv1 => Fx.x_move rfl rfl) (Fx.Qs (by rfl) rfl (Fx.Qs (by rfl) rfl (Fx.Qs (by rfl) rfl (Fx.Qs (by rfl) rfl (Fx.Qs (by rfl) rfl (Fx.Qs (by rfl) rfl (Fx.Qs (by rfl) rfl (Fx.Qs (by rfl) rfl (Fx.Qs (by rfl) rfl (Fx.Qs (by rfl) rfl (Fx.Qv (.bool false) (fun v1 hv1 => Fx.x_pickF rfl rfl rfl) (Fx.Qt.nil ?_)))))))))))))
 intro wb27 hbwb27
 have s63 : Fx.Stp w21.heap.size w21 wb27 := Fx.Sb hbwb27
 have m86 := m50.stpB s63 (Nat.ne_of_lt (m50.lt))
 have b74 := s63.below b43 (Nat.le_trans hB b43.size) (Nat.le_trans hB b43.size)
 refine Fx.sN (Fx.Wc (b := false) rfl (fun h => nomatch h) (fun _ => Fx.W.exit (Fx.seqX (Fx.lpX (Fx.blkX (Fx.sN (Fx.Ws (Fx.Ws (Fx.Wl (Fx.Lv (.int .i64 ((i0 : Int))) (Fx.x_move rfl h34) (Fx.Lv (.int .i64 ((j0 : Int))) (Fx.x_move rfl h35) (Fx.Lv (.bool true) (Fx.x_gtrT rfl rfl rfl (by omega)) (Fx.Ln (Fx.sN (Fx.Wc (b := true) rfl (fun _ => Fx.Ws ?_) (fun h => nomatch h))))))))))))))))
 -- region 8 draws
 refine Fx.W.reord [0, 1, 2, 3, 4, 5, 6, 8, 9, 10, 7, 11, 12, 13, 14, 15] [0, 0, 0, 0, 0, 0, 0, 4, 0, 0, 0, 4, 0, 3, 0, 3] Fx.Mk Fx.Mk.refl Fx.Mk.trans (certs := [(13, 7, [7]), (15, 7, [7]), (13, 11, [11]), (15, 11, [11]), (14, 13, [13]), (15, 13, [13])]) (by kernel_rfl) (by kernel_rfl) (by kernel_rfl) (by kernel_rfl) (by kernel_rfl) fun wt13 hbwt13 hzwt13 => ?_
 have s64 : Fx.Stp wb27.heap.size wb27 wt13 := Fx.Sb hbwt13
 have m87 := m86.stpB s64 (Nat.ne_of_lt (m86.lt))
 have b75 := s64.below b74 (Nat.le_trans hB b74.size) (Nat.le_trans hB b74.size)
 refine Fx.Rp (.slice (some ⟨g, 0, none⟩) (n) (cap)) (fun v1 => Fx.x_move rfl h31) (Fx.Rp (.int .i64 ((j0 : Int))) (fun v1 => Fx.x_move rfl h35) (Fx.Rp (.slice (some ⟨g, 0, none⟩) (n) (cap)) (fun v1 => Fx.x_move rfl h31) (Fx.Rp (.int .i64 ((a : Int))) (fun v1 => Fx.x_move rfl h32) (Fx.Rp (.slice (some ⟨g, 0, none⟩) (n) (cap)) (fun v1 => Fx.x_move rfl h31) (Fx.Rp (.int .i64 ((a : Int))) (fun v1 => Fx.x_move rfl h32) (Fx.Rp ((pf g a)) (fun v1 => Fx.x_indexS rfl rfl rfl Try.underlying33 (s := 1) (by kernel_rfl) (by omega) (by omega) (by omega)) (Fx.Rp (.slice (some ⟨g, 0, none⟩) (n) (cap)) (fun v1 => Fx.x_move rfl h31) (Fx.Rp (.int .i64 ((j0 : Int))) (fun v1 => Fx.x_move rfl h35) (Fx.Rp ((pf g j0)) (fun v1 => Fx.x_indexS rfl rfl rfl Try.underlying33 (s := 1) (by kernel_rfl) (by omega) (by omega) (by omega)) (Fx.R.s (.int .u64 ((gA (Sort.swp d a p)) a)) (Fx.x_load1 (x := Fx.rv .u64 (gA (Sort.swp d a p))) rfl rfl (by kernel_rfl) m87.cel (i := a) (by omega) (by omega) rfl) ?_))))))))))
 refine Fx.R.s (.int .u64 ((gA (Sort.swp d a p)) j0)) (Fx.x_load1 (x := Fx.rv .u64 (gA (Sort.swp d a p))) rfl rfl (by kernel_rfl) m87.cel (i := j0) (by omega) (by omega) rfl) ?_
 refine Fx.Rp ((pf g j0)) (fun v1 => Fx.x_indexS rfl rfl rfl Try.underlying33 (s := 1) (by kernel_rfl) (by omega) (by omega) (by omega)) (Fx.R.eff (by rfl) ?_)
 refine Fx.L.own1 (x := Fx.rv .u64 (gA (Sort.swp d a p))) (u := .int .u64 ((gA (Sort.swp d a p)) a)) (by rfl) rfl rfl rfl rfl (by rfl) (by kernel_rfl) m87 (i := j0) (by omega) fun w36 m88 s65 z25 => ?_
 have b76 := s65.below b75 (Nat.le_trans hB b75.size) m87.blk.1
 refine Fx.Ln (Fx.Rp ((pf g a)) (fun v1 => Fx.x_indexS rfl rfl rfl Try.underlying33 (s := 1) (by kernel_rfl) (by omega) (by omega) (by omega)) (Fx.R.eff (by rfl) ?_))
 refine Fx.L.own1 (x := Fx.updV (Fx.rv .u64 (gA (Sort.swp d a p))) j0 (.int .u64 ((gA (Sort.swp d a p)) a))) (u := .int .u64 ((gA (Sort.swp d a p)) j0)) (by rfl) rfl rfl rfl rfl (by rfl) (by kernel_rfl) m88 (i := a) (by omega) fun w37 m89 s66 z26 => ?_
 have b77 := s66.below b76 (Nat.le_trans hB b76.size) m88.blk.1
 have m90 : Fx.Own w37 B 28 1 (.slice (some ⟨g, 0, none⟩) n cap) n (Fx.rv .u64 (gA (Sort.swp (Sort.swp d a p) j0 a))) := m89.congr (swp_rv (sz_swp hn _ _) (by omega) (by omega))
 refine Fx.Ln (Fx.R.nil (Fx.sN (Fx.Ws (Fx.Wl (Fx.Lv (.int .i64 ((j0 : Int))) (Fx.x_move rfl h35) (Fx.Lv (.int .i64 ((j0 : Int))) (Fx.x_assign rfl rfl) (Fx.Lv (.bool true) (Fx.x_assign rfl rfl) (Fx.Ln (Fx.sN (Fx.Wr (Fx.sR (⟨.tuple #[.int .i64 ((j0 : Int)), .bool true], Fx.retV2 Try.results32 (by exact rfl) (by exact rfl), ?_⟩))))))))))))
 have hR := hY1.symm.trans (pt_end (by omega))
 exact ⟨j0, true, _, rfl, by rw [Sort.partition_fst, hR], by rw [Sort.partition_arr, hR], (sz_swp (sz_swp hn _ _) _ _), m90, b77⟩
end Go.Proofs.Ytahbiajdgealnaa
