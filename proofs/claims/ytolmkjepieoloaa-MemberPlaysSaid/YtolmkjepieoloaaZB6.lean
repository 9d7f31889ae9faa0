/-
  What the proof of the law rests on, part 6: walks of functions, and plain laws; each says its conditions itself.
-/
import Derived.Test.YtolmkjepieoloaaZB5
namespace Go.Proofs.Ytolmkjepieoloaa
open Go.RowKit Rt
namespace Rt
def isLive (s : StM) (k : Nat) : Bool := s.inn k && !s.left k
def liveN (s : StM) : Nat → List Int
  | 0 => []
  | k + 1 => if isLive s k then liveN s k ++ [(k : Int) + 1] else liveN s k
def lsX (l : List Int) : Nat → Value := fun p => .int .i64 (l.getD p 0)
theorem live_yes {s : StM} {k : Nat} (h : isLive s k = true) : liveN s (k + 1) = liveN s k ++ [(k : Int) + 1] := by
  show (if isLive s k then _ else _) = _; rw [if_pos h]
theorem live_no {s : StM} {k : Nat} (h : isLive s k = false) : liveN s (k + 1) = liveN s k := by
  show (if isLive s k then _ else _) = _; rw [if_neg (by rw [h]; decide)]
theorem live_len (s : StM) : ∀ k, (liveN s k).length ≤ k
  | 0 => Nat.le_refl _
  | k + 1 => by
    have := live_len s k
    show (if isLive s k then _ else _ : List Int).length ≤ k + 1
    split
    · simp; omega
    · omega
theorem ls_app {l : List Int} {n : Nat} {z : Nat → Value} {v : Int} (hn : n = l.length) : ∀ j, j < (n + 1) * 1 → Fx.appX (lsX l) (n * 1) (Fx.ovr z (0 * 1) 1 (fun _ => .int .i64 v)) j = lsX (l ++ [v]) j := fun j hj => by
  subst hn
  unfold Fx.appX lsX
  by_cases h : j < l.length * 1
  · rw [if_pos h]; congr 1
    rw [List.getD_eq_getElem?_getD, List.getD_eq_getElem?_getD, List.getElem?_append_left (by omega)]
  · rw [if_neg h]
    unfold Fx.ovr
    rw [if_pos (by omega), List.getD_eq_getElem?_getD, List.getElem?_append_right (by omega), show j - l.length = 0 by omega]; rfl
def liveI (s : StM) (i : Int) : Bool := decide (1 ≤ i) && decide (i ≤ 6) && isLive s (i - 1).toNat
theorem mem_live {s : StM} {i : Int} : ∀ n, i ∈ liveN s n ↔ (1 ≤ i ∧ i ≤ (n : Int) ∧ isLive s (i - 1).toNat = true)
  | 0 => by
    constructor
    · intro h; cases h
    · rintro ⟨h1, h2, _⟩; omega
  | n + 1 => by
    have ih := mem_live (s := s) (i := i) n
    cases hl : isLive s n with
    | true =>
      rw [live_yes hl, List.mem_append, ih]
      constructor
      · rintro (⟨h1, h2, h3⟩ | h)
        · exact ⟨h1, by omega, h3⟩
        · have h' : i = (n : Int) + 1 := by simpa using h
          subst h'
          exact ⟨by omega, by omega, by rw [show ((n : Int) + 1 - 1).toNat = n by omega]; exact hl⟩
      · rintro ⟨h1, h2, h3⟩
        by_cases e : i = (n : Int) + 1
        · right; rw [e]; exact List.mem_singleton.2 rfl
        · left; exact ⟨h1, by omega, h3⟩
    | false =>
      rw [live_no hl, ih]
      constructor
      · rintro ⟨h1, h2, h3⟩; exact ⟨h1, by omega, h3⟩
      · rintro ⟨h1, h2, h3⟩
        by_cases e : i = (n : Int) + 1
        · subst e; rw [show ((n : Int) + 1 - 1).toNat = n by omega, hl] at h3; cases h3
        · exact ⟨h1, by omega, h3⟩
theorem ls_at {l : List Int} {k : Nat} (h : k < l.length) : l.getD k 0 ∈ l := by
  rw [List.getD_eq_getElem?_getD, List.getElem?_eq_getElem h]; exact List.getElem_mem h
theorem ls_mem {l : List Int} {i : Int} : 0 ≤ firstI (fun k => decide (i = l.getD k 0)) l.length ↔ i ∈ l := by
  rcases firstI_spec (fun k => decide (i = l.getD k 0)) l.length with ⟨k, hk, e, hp⟩ | ⟨e, h⟩
  · rw [e]
    have := of_decide_eq_true hp
    exact ⟨fun _ => by rw [this]; exact ls_at hk, fun _ => by omega⟩
  · rw [e]
    refine ⟨fun h => absurd h (by decide), fun hm => ?_⟩
    obtain ⟨k, hk, e2⟩ := List.getElem_of_mem hm
    have := h k hk
    rw [List.getD_eq_getElem?_getD, List.getElem?_eq_getElem hk, e2] at this
    exact absurd rfl (of_decide_eq_false this)
theorem live_has (s : StM) (i : Int) : decide (0 ≤ firstI (fun k => decide (i = (liveN s 6).getD k 0)) (liveN s 6).length) = liveI s i := by
  rw [Bool.eq_iff_iff, decide_eq_true_iff, ls_mem, mem_live]
  unfold liveI
  simp only [Bool.and_eq_true, decide_eq_true_eq]
  exact ⟨fun ⟨a, b, c⟩ => ⟨⟨a, by omega⟩, c⟩, fun ⟨⟨a, b⟩, c⟩ => ⟨a, by omega, c⟩⟩
end Rt
set_option maxRecDepth 10000 in
theorem m_live (s : StM) (w : World) :
    Calls Try.prog 30 #[.agg (Fx.varr 20 (stY s))] w fun e w' => ∃ v n, e = .returned v ∧ n = (liveN s 6).length ∧ Fx.Own w' w.heap.size 3 1 v n (lsX (liveN s 6)) ∧ Below w.heap.size w w' := by
 refine Fx.enter Try.func30 rfl (n := 26) rfl (by rfl) ?_
 refine Fx.W.seq (Fx.W.list (Fx.L.box (m := 20) (y := stY s) (by rfl) rfl rfl (Fx.cells_agg _ _) rfl fun g1 w1 eg1 m1 s1 z1 => ?_))
 have b1 := s1.below (Below.refl w.heap.size w) (Below.refl w.heap.size w).size (Below.refl w.heap.size w).size
 have lg1 : w.heap.size ≤ g1 := by rw [eg1]; exact (Below.refl w.heap.size w).size
 have tg1 : g1 < w1.heap.size := m1.lt
 clear eg1
 refine Fx.L.v (.slice none 0 0) (Fx.x_assign rfl rfl) ?_
 refine Fx.L.nil (Fx.seqN (Fx.W.seq (Fx.W.seq (Fx.W.list (Fx.L.v (.pointer (some ⟨g1, 0, none⟩)) (Fx.x_field rfl rfl Try.underlying43 rfl (s := 6) (by kernel_rfl) rfl rfl) ?_)))))
 refine Fx.L.v (.agg (Fx.varr 6 (fun q => .bool (s.inn q)))) (Fx.x_loadA (x := stY s) (y := fun q => .bool (s.inn q)) rfl rfl (by kernel_rfl) (by kernel_rfl) m1.cel (i := 0) (by omega) (by omega) (fun jq hjq => by rw [Nat.zero_add]; exact stY_in _ hjq)) ?_
 refine Fx.L.v (.int .i64 (0)) (Fx.x_move rfl rfl) ?_
 refine Fx.L.nil (Fx.seqN (Fx.W.block ?_))
 have m2 : Fx.Own w1 w.heap.size 3 1 (.slice none 0 0) 0 (lsX (liveN s 0)) := Fx.Own.nil _ _ _ _ _
 refine Fx.W.loop (fun f w_ => ∃ k : Nat, ∃ n : Nat, ∃ a : Option Addr, ∃ cap : Nat, k ≤ 6 ∧ n = (liveN s k).length ∧ f 1 = .pointer (some ⟨g1, 0, none⟩) ∧ f 6 = .agg (Fx.varr 6 (fun q => .bool (s.inn q))) ∧ f 2 = .slice a (n) (cap) ∧ f 7 = .int .i64 ((k : Int)) ∧ Fx.Blk w_ g1 20 (stY s) 43 ∧ Fx.Own w_ w.heap.size 3 1 (.slice a (n) (cap)) n (lsX (liveN s k)) ∧ Below w.heap.size w w_) (fun f _ => (6 - (intOf (f 7)).toNat)) ⟨0, 0, none, 0, by omega, rfl, (by rfl), (by rfl), (by rfl), (by first | rfl | exact congrArg (Value.int .i64) (by omega)), m1, m2, b1⟩ ?_
 rintro f1 w2 ⟨k, n, a, cap, hk, hn, h1, h2, h3, h4, m3, m4, b2⟩
 have hnl := live_len s k
 refine Fx.W.seq (Fx.W.list ?_)
 by_cases c8 : (k : Int) < 6
 ·refine Fx.L.v (.bool true) (Fx.x_lssT rfl h4 rfl c8) ?_
  refine Fx.L.nil (Fx.seqN (Fx.W.seq (Fx.W.cond (b := true) rfl (fun _ => Fx.W.skip (Fx.seqN (Fx.W.seq (Fx.W.block (Fx.W.seq (Fx.W.list (Fx.L.v (.int .i64 ((k : Int))) (Fx.x_move rfl h4) ?_))))))) (fun h => nomatch h))))
  by_cases c10 : (s.inn k) = true
  ·refine Fx.L.v (.bool true) (Fx.x_indexV (j := k) (y := fun q => .bool (s.inn q)) rfl h2 h4 Try.underlying39 (by kernel_rfl) (by kernel_rfl) (by omega) ((show _ = Value.bool (s.inn k) from rfl).trans (congrArg Value.bool c10))) ?_
   refine Fx.L.v (.int .i64 ((k : Int))) (Fx.x_assign rfl rfl) ?_
   refine Fx.L.v (.bool true) (Fx.x_assign rfl rfl) ?_
   refine Fx.L.nil (Fx.seqN (Fx.W.seq (Fx.W.list (Fx.L.v (.bool true) (Fx.x_move rfl rfl) ?_))))
   refine Fx.L.v (.bool true) (Fx.x_move rfl rfl) ?_
   refine Fx.L.v (.int .i64 ((k : Int))) (Fx.x_move rfl rfl) ?_
   refine Fx.L.v (.pointer (some ⟨g1, 6, none⟩)) (Fx.x_field rfl h1 Try.underlying43 rfl (s := 6) (by kernel_rfl) rfl (by show _ + 6 = _; omega)) ?_
   refine Fx.L.v (.pointer (some ⟨g1, k + 6, none⟩)) (Fx.x_index rfl rfl rfl Try.underlying39 (s := 1) (by kernel_rfl) (by omega) (by omega) (by omega)) ?_
   by_cases c16 : (s.left k) = true
   ·refine Fx.L.v (.bool true) (Fx.x_load1 (x := stY s) rfl rfl (by kernel_rfl) m3.cel (i := k + 6) (by omega) (by omega) ((stY_left _ (by omega) (by omega)).trans (congrArg Value.bool c16))) ?_
    refine Fx.L.v (.bool false) (Fx.x_notF rfl rfl) ?_
    refine Fx.L.v (.bool false) (Fx.x_pickT rfl rfl rfl) ?_
    refine Fx.L.nil (Fx.seqN (Fx.W.cond (b := false) rfl (fun h => nomatch h) (fun _ => Fx.W.skip (Fx.blkN (Fx.seqN ?_)))))
    have hl : isLive s k = false := by unfold isLive; rw [c16, Bool.not_true, Bool.and_false]
    refine Fx.W.list (Fx.L.v (.int .i64 ((k : Int) + 1)) (Fx.x_add rfl h4 rfl (Fx.i64e (by omega) (by omega))) ?_)
    refine Fx.L.v (.int .i64 ((k : Int) + 1)) (Fx.x_move rfl rfl) ?_
    refine Fx.L.nil ?_
    have m5 := m4.congr (y := lsX (liveN s (k + 1))) (fun j _ => by rw [live_no hl])
    skip
    refine Fx.lpN ⟨k + 1, n, a, cap, by omega, (by rw [live_no hl]; exact hn), h1, h2, h3, (by first | rfl | exact congrArg (Value.int .i64) (by omega)), m3, m5, b2⟩ ?_
    show (6 - (intOf ((.int .i64 ((k : Int) + 1)))).toNat) < _
    simp only [h4, intOf]; omega
   ·rw [Bool.not_eq_true] at c16
    refine Fx.L.v (.bool false) (Fx.x_load1 (x := stY s) rfl rfl (by kernel_rfl) m3.cel (i := k + 6) (by omega) (by omega) ((stY_left _ (by omega) (by omega)).trans (congrArg Value.bool c16))) ?_
    refine Fx.L.v (.bool true) (Fx.x_notT rfl rfl) ?_
    refine Fx.L.v (.bool true) (Fx.x_pickT rfl rfl rfl) ?_
    refine Fx.L.nil (Fx.seqN (Fx.W.cond (b := true) rfl (fun _ => ?_) (fun h => nomatch h)))
    have hl : isLive s k = true := by unfold isLive; rw [c10, c16]; rfl
    refine Fx.W.list (Fx.L.v (.slice a (n) (cap)) (Fx.x_move rfl h3) ?_)
    refine Fx.L.v (.int .i64 ((k : Int))) (Fx.x_move rfl rfl) ?_
    refine Fx.L.v (.int .i64 ((k : Int) + 1)) (Fx.x_add rfl rfl rfl (Fx.i64e (by omega) (by omega))) ?_
    refine Fx.L.bslice (vs := [(0, .int .i64 ((k : Int) + 1))]) (s := 1) (zc := Fx.rv .i64 (fun _ => 0)) (y := Fx.ovr (fun j => (Fx.rv .i64 (fun _ => 0)) (j % 1)) (0 * 1) 1 (fun _ => .int .i64 ((k : Int) + 1))) (by rfl) rfl rfl Try.underlying23 (by kernel_rfl) (by rfl) (by rfl) (by kernel_rfl) (by rw [Fx.fill_step (off := 0 * 1) (s := 1) (y := fun _ => .int .i64 ((k : Int) + 1)) rfl (Fx.cells_one (by rfl)) (by rfl)]; rfl) rfl fun g2 w3 eg2 m6 s2 z2 => ?_
    have m7 := m3.stp s2 (Nat.ne_of_lt (m3.lt))
    have m8 := m4.stp s2 (m4.notNew (Nat.le_refl _))
    have b3 := s2.below b2 b2.size b2.size
    have lg2 : w.heap.size ≤ g2 := by rw [eg2]; exact b2.size
    have ng2m7 : g1 ≠ g2 := by rw [eg2]; exact Nat.ne_of_lt (m3.lt)
    have ng2m8 : (.slice a (n) (cap) : Value).ownBlock ≠ some g2 := by rw [eg2]; exact m4.notNew (Nat.le_refl _)
    have tg2 : g2 < w3.heap.size := m6.lt
    clear eg2
    refine Fx.L.app (B := w.heap.size) (s := 1) (bytes := 8) (k := n) (m := 1) (v := .slice a (n) (cap)) (x := lsX (liveN s k)) (by rfl) rfl rfl rfl Try.underlying23 (by kernel_rfl) (by kernel_rfl) rfl rfl m8 m6.cel (ovr_one (fun _ => rfl)) (by omega) (by omega) (by omega) b3.size fun g3 cap1 w4 ho1 hg1 hgv1 hlt1 => ?_
    have hct1 := Fx.ChT.of_grown hg1 m8
    have m10 := m7.chT hct1 (by decide)
    have m9 : Fx.Own w4 w.heap.size 3 1 (.slice (some ⟨g3, 0, none⟩) (n + 1) cap1) (n + 1) (lsX (liveN s (k + 1))) := (ho1.congr (fun j hj => by rw [live_yes hl]; exact ls_app hn j hj))
    have b4 : Below w.heap.size w w4 := Fx.Below.grow b3 hg1 b3.size (fun q hq => (m8.ge hq).1)
    refine Fx.L.v (.slice (some ⟨g3, 0, none⟩) (n + 1) (cap1)) (Fx.x_assign rfl rfl) ?_
    refine Fx.L.nil (Fx.blkN (Fx.seqN (Fx.W.list (Fx.L.v (.int .i64 ((k : Int) + 1)) (Fx.x_add rfl h4 rfl (Fx.i64e (by omega) (by omega))) ?_))))
    refine Fx.L.v (.int .i64 ((k : Int) + 1)) (Fx.x_move rfl rfl) ?_
    refine Fx.L.nil ?_
    skip
    refine Fx.lpN ⟨k + 1, n + 1, (some ⟨g3, 0, none⟩), cap1, by omega, (by rw [live_yes hl, List.length_append, ← hn]; rfl), h1, h2, (by rfl), (by first | rfl | exact congrArg (Value.int .i64) (by omega)), m10, m9, b4⟩ ?_
    show (6 - (intOf ((.int .i64 ((k : Int) + 1)))).toNat) < _
    simp only [h4, intOf]; omega
  ·rw [Bool.not_eq_true] at c10
   refine Fx.L.v (.bool false) (Fx.x_indexV (j := k) (y := fun q => .bool (s.inn q)) rfl h2 h4 Try.underlying39 (by kernel_rfl) (by kernel_rfl) (by omega) ((show _ = Value.bool (s.inn k) from rfl).trans (congrArg Value.bool c10))) ?_
   refine Fx.L.v (.int .i64 ((k : Int))) (Fx.x_assign rfl rfl) ?_
   refine Fx.L.v (.bool false) (Fx.x_assign rfl rfl) ?_
   refine Fx.L.nil (Fx.seqN (Fx.W.seq (Fx.W.list (Fx.L.v (.bool false) (Fx.x_move rfl rfl) ?_))))
   refine Fx.L.v (.bool false) (Fx.x_move rfl rfl) ?_
   refine Fx.L.skip (by rfl) rfl ?_
   refine Fx.L.skip (by rfl) rfl ?_
   refine Fx.L.skip (by rfl) rfl ?_
   refine Fx.L.skip (by rfl) rfl ?_
   refine Fx.L.skip (by rfl) rfl ?_
   refine Fx.L.v (.bool false) (Fx.x_pickF rfl rfl rfl) ?_
   refine Fx.L.nil (Fx.seqN (Fx.W.cond (b := false) rfl (fun h => nomatch h) (fun _ => Fx.W.skip (Fx.blkN (Fx.seqN ?_)))))
   have hl : isLive s k = false := by unfold isLive; rw [c10]; rfl
   refine Fx.W.list (Fx.L.v (.int .i64 ((k : Int) + 1)) (Fx.x_add rfl h4 rfl (Fx.i64e (by omega) (by omega))) ?_)
   refine Fx.L.v (.int .i64 ((k : Int) + 1)) (Fx.x_move rfl rfl) ?_
   refine Fx.L.nil ?_
   have m11 := m4.congr (y := lsX (liveN s (k + 1))) (fun j _ => by rw [live_no hl])
   skip
   refine Fx.lpN ⟨k + 1, n, a, cap, by omega, (by rw [live_no hl]; exact hn), h1, h2, h3, (by first | rfl | exact congrArg (Value.int .i64) (by omega)), m3, m11, b2⟩ ?_
   show (6 - (intOf ((.int .i64 ((k : Int) + 1)))).toNat) < _
   simp only [h4, intOf]; omega
 ·refine Fx.L.v (.bool false) (Fx.x_lssF rfl h4 rfl c8) ?_
  refine Fx.L.nil (Fx.seqN (Fx.W.seq (Fx.W.cond (b := false) rfl (fun h => nomatch h) (fun _ => Fx.W.exit (Fx.seqX (Fx.lpX (Fx.blkX (Fx.seqN (Fx.W.seq (Fx.W.list (Fx.L.v (.slice a (n) (cap)) (Fx.x_move rfl h3) ?_)))))))))))
  refine Fx.L.v (.slice a (n) (cap)) (Fx.x_assign rfl rfl) ?_
  refine Fx.L.nil (Fx.seqN (Fx.W.ret (⟨.slice a (n) (cap), Fx.retV1 Try.results30 (by exact rfl), ?_⟩)))
  obtain rfl : k = 6 := by omega
  exact ⟨_, n, rfl, hn, m4, b2⟩
theorem r_live1 (s : StM) (i : Int) (w : World) :
    Calls Try.prog 74 #[.agg (Fx.varr 20 (stY s)), .int .i64 (i)] w fun e w' => e = .returned (.bool (liveI s i)) ∧ Below w.heap.size w w' := by
 refine Fx.enter Try.func74 rfl (n := 26) rfl (by rfl) ?_
 refine Fx.W.seq (Fx.W.list (Fx.L.box (m := 20) (y := stY s) (by rfl) rfl rfl (Fx.cells_agg _ _) rfl fun g1 w1 eg1 m1 s1 z1 => ?_))
 have b1 := s1.below (Below.refl w.heap.size w) (Below.refl w.heap.size w).size (Below.refl w.heap.size w).size
 have lg1 : w.heap.size ≤ g1 := by rw [eg1]; exact (Below.refl w.heap.size w).size
 have tg1 : g1 < w1.heap.size := m1.lt
 clear eg1
 refine Fx.L.v (.bool false) (Fx.x_assign rfl rfl) ?_
 refine Fx.L.nil (Fx.seqN (Fx.W.seq (Fx.W.list (Fx.L.v (.int .i64 (i)) (Fx.x_move rfl rfl) ?_))))
 by_cases c6 : 1 ≤ i
 ·refine Fx.L.v (.bool true) (Fx.x_geqT rfl rfl rfl c6) ?_
  refine Fx.L.v (.bool true) (Fx.x_move rfl rfl) ?_
  refine Fx.L.v (.int .i64 (i)) (Fx.x_move rfl rfl) ?_
  by_cases c9 : i ≤ 6
  ·obtain ⟨a, ha, ea⟩ : ∃ a : Nat, a < 6 ∧ i = (a : Int) + 1 := ⟨(i - 1).toNat, by omega, by omega⟩
   refine Fx.L.v (.bool true) (Fx.x_leqT rfl rfl rfl c9) ?_
   refine Fx.L.v (.bool true) (Fx.x_pickT rfl rfl rfl) ?_
   refine Fx.L.v (.bool true) (Fx.x_move rfl rfl) ?_
   refine Fx.L.v (.int .i64 (i)) (Fx.x_move rfl rfl) ?_
   refine Fx.L.v (.int .i64 ((a : Int))) (Fx.x_sub rfl rfl rfl (Fx.i64e (by omega) (by omega))) ?_
   refine Fx.L.v (.pointer (some ⟨g1, 0, none⟩)) (Fx.x_field rfl rfl Try.underlying43 rfl (s := 6) (by kernel_rfl) rfl rfl) ?_
   refine Fx.L.v (.pointer (some ⟨g1, a, none⟩)) (Fx.x_index rfl rfl rfl Try.underlying39 (s := 1) (by kernel_rfl) (by omega) (by omega) (by omega)) ?_
   by_cases c16 : (s.inn a) = true
   ·refine Fx.L.v (.bool true) (Fx.x_load1 (x := stY s) rfl rfl (by kernel_rfl) m1.cel (i := a) (by omega) (by omega) ((stY_in _ (by omega)).trans (congrArg Value.bool c16))) ?_
    refine Fx.L.v (.bool true) (Fx.x_pickT rfl rfl rfl) ?_
    refine Fx.L.v (.bool true) (Fx.x_move rfl rfl) ?_
    refine Fx.L.v (.int .i64 (i)) (Fx.x_move rfl rfl) ?_
    refine Fx.L.v (.int .i64 ((a : Int))) (Fx.x_sub rfl rfl rfl (Fx.i64e (by omega) (by omega))) ?_
    refine Fx.L.v (.pointer (some ⟨g1, 6, none⟩)) (Fx.x_field rfl rfl Try.underlying43 rfl (s := 6) (by kernel_rfl) rfl (by show _ + 6 = _; omega)) ?_
    refine Fx.L.v (.pointer (some ⟨g1, a + 6, none⟩)) (Fx.x_index rfl rfl rfl Try.underlying39 (s := 1) (by kernel_rfl) (by omega) (by omega) (by omega)) ?_
    by_cases c23 : (s.left a) = true
    ·refine Fx.L.v (.bool true) (Fx.x_load1 (x := stY s) rfl rfl (by kernel_rfl) m1.cel (i := a + 6) (by omega) (by omega) ((stY_left _ (by omega) (by omega)).trans (congrArg Value.bool c23))) ?_
     refine Fx.L.v (.bool false) (Fx.x_notF rfl rfl) ?_
     refine Fx.L.v (.bool false) (Fx.x_pickT rfl rfl rfl) ?_
     refine Fx.L.v (.bool false) (Fx.x_assign rfl rfl) ?_
     refine Fx.L.nil (Fx.seqN (Fx.W.ret (⟨.bool false, Fx.retV1 Try.results74 (by exact rfl), ?_⟩)))
     exact ⟨congrArg (fun q => Ending.returned (Value.bool q)) (Eq.symm (by unfold liveI; rw [decide_eq_true c6, decide_eq_true c9, show (i - 1).toNat = a by omega]; unfold isLive; rw [c16, c23]; rfl)), b1⟩
    ·rw [Bool.not_eq_true] at c23
     refine Fx.L.v (.bool false) (Fx.x_load1 (x := stY s) rfl rfl (by kernel_rfl) m1.cel (i := a + 6) (by omega) (by omega) ((stY_left _ (by omega) (by omega)).trans (congrArg Value.bool c23))) ?_
     refine Fx.L.v (.bool true) (Fx.x_notT rfl rfl) ?_
     refine Fx.L.v (.bool true) (Fx.x_pickT rfl rfl rfl) ?_
     refine Fx.L.v (.bool true) (Fx.x_assign rfl rfl) ?_
     refine Fx.L.nil (Fx.seqN (Fx.W.ret (⟨.bool true, Fx.retV1 Try.results74 (by exact rfl), ?_⟩)))
     exact ⟨congrArg (fun q => Ending.returned (Value.bool q)) (Eq.symm (by unfold liveI; rw [decide_eq_true c6, decide_eq_true c9, show (i - 1).toNat = a by omega]; unfold isLive; rw [c16, c23]; rfl)), b1⟩
   ·rw [Bool.not_eq_true] at c16
    refine Fx.L.v (.bool false) (Fx.x_load1 (x := stY s) rfl rfl (by kernel_rfl) m1.cel (i := a) (by omega) (by omega) ((stY_in _ (by omega)).trans (congrArg Value.bool c16))) ?_
    refine Fx.L.v (.bool false) (Fx.x_pickT rfl rfl rfl) ?_
    refine Fx.L.v (.bool false) (Fx.x_move rfl rfl) ?_
    refine Fx.L.skip (by rfl) rfl ?_
    refine Fx.L.skip (by rfl) rfl ?_
    refine Fx.L.skip (by rfl) rfl ?_
    refine Fx.L.skip (by rfl) rfl ?_
    refine Fx.L.skip (by rfl) rfl ?_
    refine Fx.L.skip (by rfl) rfl ?_
    refine Fx.L.v (.bool false) (Fx.x_pickF rfl rfl rfl) ?_
    refine Fx.L.v (.bool false) (Fx.x_assign rfl rfl) ?_
    refine Fx.L.nil (Fx.seqN (Fx.W.ret (⟨.bool false, Fx.retV1 Try.results74 (by exact rfl), ?_⟩)))
    exact ⟨congrArg (fun q => Ending.returned (Value.bool q)) (Eq.symm (by unfold liveI; rw [decide_eq_true c6, decide_eq_true c9, show (i - 1).toNat = a by omega]; unfold isLive; rw [c16]; rfl)), b1⟩
  ·refine Fx.L.v (.bool false) (Fx.x_leqF rfl rfl rfl c9) ?_
   refine Fx.L.v (.bool false) (Fx.x_pickT rfl rfl rfl) ?_
   refine Fx.L.v (.bool false) (Fx.x_move rfl rfl) ?_
   refine Fx.L.skip (by rfl) rfl ?_
   refine Fx.L.skip (by rfl) rfl ?_
   refine Fx.L.skip (by rfl) rfl ?_
   refine Fx.L.skip (by rfl) rfl ?_
   refine Fx.L.skip (by rfl) rfl ?_
   refine Fx.L.v (.bool false) (Fx.x_pickF rfl rfl rfl) ?_
   refine Fx.L.v (.bool false) (Fx.x_move rfl rfl) ?_
   refine Fx.L.skip (by rfl) rfl ?_
   refine Fx.L.skip (by rfl) rfl ?_
   refine Fx.L.skip (by rfl) rfl ?_
   refine Fx.L.skip (by rfl) rfl ?_
   refine Fx.L.skip (by rfl) rfl ?_
   refine Fx.L.skip (by rfl) rfl ?_
   refine Fx.L.v (.bool false) (Fx.x_pickF rfl rfl rfl) ?_
   refine Fx.L.v (.bool false) (Fx.x_assign rfl rfl) ?_
   refine Fx.L.nil (Fx.seqN (Fx.W.ret (⟨.bool false, Fx.retV1 Try.results74 (by exact rfl), ?_⟩)))
   exact ⟨congrArg (fun q => Ending.returned (Value.bool q)) (Eq.symm (by unfold liveI; rw [decide_eq_false c9, Bool.and_false]; rfl)), b1⟩
 ·refine Fx.L.v (.bool false) (Fx.x_geqF rfl rfl rfl c6) ?_
  refine Fx.L.v (.bool false) (Fx.x_move rfl rfl) ?_
  refine Fx.L.skip (by rfl) rfl ?_
  refine Fx.L.skip (by rfl) rfl ?_
  refine Fx.L.v (.bool false) (Fx.x_pickF rfl rfl rfl) ?_
  refine Fx.L.v (.bool false) (Fx.x_move rfl rfl) ?_
  refine Fx.L.skip (by rfl) rfl ?_
  refine Fx.L.skip (by rfl) rfl ?_
  refine Fx.L.skip (by rfl) rfl ?_
  refine Fx.L.skip (by rfl) rfl ?_
  refine Fx.L.skip (by rfl) rfl ?_
  refine Fx.L.v (.bool false) (Fx.x_pickF rfl rfl rfl) ?_
  refine Fx.L.v (.bool false) (Fx.x_move rfl rfl) ?_
  refine Fx.L.skip (by rfl) rfl ?_
  refine Fx.L.skip (by rfl) rfl ?_
  refine Fx.L.skip (by rfl) rfl ?_
  refine Fx.L.skip (by rfl) rfl ?_
  refine Fx.L.skip (by rfl) rfl ?_
  refine Fx.L.skip (by rfl) rfl ?_
  refine Fx.L.v (.bool false) (Fx.x_pickF rfl rfl rfl) ?_
  refine Fx.L.v (.bool false) (Fx.x_assign rfl rfl) ?_
  refine Fx.L.nil (Fx.seqN (Fx.W.ret (⟨.bool false, Fx.retV1 Try.results74 (by exact rfl), ?_⟩)))
  exact ⟨congrArg (fun q => Ending.returned (Value.bool q)) (Eq.symm (by unfold liveI; rw [decide_eq_false c6]; rfl)), b1⟩
theorem Rt.liveI_k {s : StM} {k : Nat} (h : (k : Int) < 6) {b : Bool} (e : liveI s ((k : Int) + 1) = b) : isLive s k = b := by
  unfold liveI at e; rw [decide_eq_true (by omega), decide_eq_true (by omega), show ((k : Int) + 1 - 1).toNat = k by omega] at e; exact e
set_option maxRecDepth 10000 in
theorem r_live (s : StM) (w : World) :
    Calls Try.prog 31 #[.agg (Fx.varr 20 (stY s))] w fun e w' => ∃ v n, e = .returned v ∧ n = (liveN s 6).length ∧ Fx.Own w' w.heap.size 3 1 v n (lsX (liveN s 6)) ∧ Below w.heap.size w w' := by
 refine Fx.enter Try.func31 rfl (n := 17) rfl (by rfl) ?_
 refine Fx.W.seq (Fx.W.list (Fx.L.box (m := 20) (y := stY s) (by rfl) rfl rfl (Fx.cells_agg _ _) rfl fun g1 w1 eg1 m1 s1 z1 => ?_))
 have b1 := s1.below (Below.refl w.heap.size w) (Below.refl w.heap.size w).size (Below.refl w.heap.size w).size
 have lg1 : w.heap.size ≤ g1 := by rw [eg1]; exact (Below.refl w.heap.size w).size
 have tg1 : g1 < w1.heap.size := m1.lt
 clear eg1
 refine Fx.L.v (.slice none 0 0) (Fx.x_assign rfl rfl) ?_
 refine Fx.L.nil (Fx.seqN (Fx.W.seq (Fx.W.list (Fx.L.v (.slice none 0 0) (Fx.x_assign rfl rfl) ?_))))
 refine Fx.L.nil (Fx.seqN (Fx.W.seq (Fx.W.seq (Fx.W.list (Fx.L.v (.int .i64 (1)) (Fx.x_assign rfl rfl) ?_)))))
 refine Fx.L.nil (Fx.seqN (Fx.W.block ?_))
 have m2 : Fx.Own w1 w.heap.size 3 1 (.slice none 0 0) 0 (lsX (liveN s 0)) := Fx.Own.nil _ _ _ _ _
 refine Fx.W.loop (fun f w_ => ∃ k : Nat, ∃ n : Nat, ∃ a : Option Addr, ∃ cap : Nat, k ≤ 6 ∧ n = (liveN s k).length ∧ f 1 = .pointer (some ⟨g1, 0, none⟩) ∧ f 3 = .slice a (n) (cap) ∧ f 4 = .int .i64 ((k : Int) + 1) ∧ Fx.Blk w_ g1 20 (stY s) 43 ∧ Fx.Own w_ w.heap.size 3 1 (.slice a (n) (cap)) n (lsX (liveN s k)) ∧ Below w.heap.size w w_) (fun f _ => (7 - (intOf (f 4)).toNat)) ⟨0, 0, none, 0, by omega, rfl, (by rfl), (by rfl), (by first | rfl | exact congrArg (Value.int .i64) (by omega)), m1, m2, b1⟩ ?_
 rintro f1 w2 ⟨k, n, a, cap, hk, hn, h1, h2, h3, m3, m4, b2⟩
 have hnl := live_len s k
 refine Fx.W.seq (Fx.W.seq (Fx.W.list (Fx.L.v (.int .i64 ((k : Int) + 1)) (Fx.x_move rfl h3) ?_)))
 by_cases c6 : ((k : Int) + 1) ≤ 6
 ·refine Fx.L.v (.bool true) (Fx.x_leqT rfl rfl rfl c6) ?_
  refine Fx.L.nil (Fx.seqN (Fx.W.cond (b := true) rfl (fun _ => Fx.W.skip (Fx.seqN (Fx.W.seq (Fx.W.block (Fx.W.seq (Fx.W.list (Fx.L.v (.agg (Fx.varr 20 (stY s))) (Fx.x_loadA (x := stY s) (y := stY s) rfl h1 (by kernel_rfl) (by kernel_rfl) m3.cel (i := 0) (by omega) (by omega) (fun j _ => by rw [Nat.zero_add])) ?_))))))) (fun h => nomatch h)))
  refine Fx.L.v (.int .i64 ((k : Int) + 1)) (Fx.x_move rfl h3) ?_
  by_cases c11 : (liveI s ((k : Int) + 1)) = true
  ·refine Fx.L.call (by rfl) (Fx.r_call (args := [.agg (Fx.varr 20 (stY s)), .int .i64 ((k : Int) + 1)]) rfl rfl Try.func74 rfl rfl) rfl ((r_live1 s ((k : Int) + 1) _).mono ?_)
   rintro e w3 ⟨he, hb1⟩
   refine ⟨.bool true, by rw [he, c11], ?_⟩
   clear he
   have s2 := Fx.Stp.of_below hb1
   have m5 := m3.stp s2 (Nat.ne_of_lt (m3.lt))
   have m6 := m4.stp s2 (m4.notNew (Nat.le_refl _))
   have b3 := s2.below b2 b2.size b2.size
   refine Fx.L.nil (Fx.seqN (Fx.W.cond (b := true) rfl (fun _ => ?_) (fun h => nomatch h)))
   have hl := liveI_k (by omega) c11
   refine Fx.W.list (Fx.L.v (.slice a (n) (cap)) (Fx.x_move rfl h2) ?_)
   refine Fx.L.v (.int .i64 ((k : Int) + 1)) (Fx.x_move rfl h3) ?_
   refine Fx.L.bslice (vs := [(0, .int .i64 ((k : Int) + 1))]) (s := 1) (zc := Fx.rv .i64 (fun _ => 0)) (y := Fx.ovr (fun j => (Fx.rv .i64 (fun _ => 0)) (j % 1)) (0 * 1) 1 (fun _ => .int .i64 ((k : Int) + 1))) (by rfl) rfl rfl Try.underlying23 (by kernel_rfl) (by rfl) (by rfl) (by kernel_rfl) (by rw [Fx.fill_step (off := 0 * 1) (s := 1) (y := fun _ => .int .i64 ((k : Int) + 1)) rfl (Fx.cells_one (by rfl)) (by rfl)]; rfl) rfl fun g2 w4 eg2 m7 s3 z2 => ?_
   have m8 := m5.stp s3 (Nat.ne_of_lt (m5.lt))
   have m9 := m6.stp s3 (m6.notNew (Nat.le_refl _))
   have b4 := s3.below b3 b3.size b3.size
   have lg2 : w.heap.size ≤ g2 := by rw [eg2]; exact b3.size
   have ng2m8 : g1 ≠ g2 := by rw [eg2]; exact Nat.ne_of_lt (m5.lt)
   have ng2m9 : (.slice a (n) (cap) : Value).ownBlock ≠ some g2 := by rw [eg2]; exact m6.notNew (Nat.le_refl _)
   have tg2 : g2 < w4.heap.size := m7.lt
   clear eg2
   refine Fx.L.app (B := w.heap.size) (s := 1) (bytes := 8) (k := n) (m := 1) (v := .slice a (n) (cap)) (x := lsX (liveN s k)) (by rfl) rfl rfl rfl Try.underlying23 (by kernel_rfl) (by kernel_rfl) rfl rfl m9 m7.cel (ovr_one (fun _ => rfl)) (by omega) (by omega) (by omega) b4.size fun g3 cap1 w5 ho1 hg1 hgv1 hlt1 => ?_
   have hct1 := Fx.ChT.of_grown hg1 m9
   have m11 := m8.chT hct1 (by decide)
   have m10 : Fx.Own w5 w.heap.size 3 1 (.slice (some ⟨g3, 0, none⟩) (n + 1) cap1) (n + 1) (lsX (liveN s (k + 1))) := (ho1.congr (fun j hj => by rw [live_yes hl]; exact ls_app hn j hj))
   have b5 : Below w.heap.size w w5 := Fx.Below.grow b4 hg1 b4.size (fun q hq => (m9.ge hq).1)
   refine Fx.L.v (.slice (some ⟨g3, 0, none⟩) (n + 1) (cap1)) (Fx.x_assign rfl rfl) ?_
   refine Fx.L.nil (Fx.blkN (Fx.seqN (Fx.W.list (Fx.L.v (.int .i64 ((k : Int) + 1)) (Fx.x_move rfl h3) ?_))))
   refine Fx.L.v (.int .i64 ((k : Int) + 2)) (Fx.x_add rfl rfl rfl (Fx.i64e (by omega) (by omega))) ?_
   refine Fx.L.v (.int .i64 ((k : Int) + 2)) (Fx.x_assign rfl rfl) ?_
   refine Fx.L.nil ?_
   skip
   refine Fx.lpN ⟨k + 1, n + 1, (some ⟨g3, 0, none⟩), cap1, by omega, (by rw [live_yes hl, List.length_append, ← hn]; rfl), h1, (by rfl), (by first | rfl | exact congrArg (Value.int .i64) (by omega)), m11, m10, b5⟩ ?_
   show (7 - (intOf ((.int .i64 ((k : Int) + 2)))).toNat) < _
   simp only [h3, intOf]; omega
  ·rw [Bool.not_eq_true] at c11
   refine Fx.L.call (by rfl) (Fx.r_call (args := [.agg (Fx.varr 20 (stY s)), .int .i64 ((k : Int) + 1)]) rfl rfl Try.func74 rfl rfl) rfl ((r_live1 s ((k : Int) + 1) _).mono ?_)
   rintro e w6 ⟨he, hb2⟩
   refine ⟨.bool false, by rw [he, c11], ?_⟩
   clear he
   have s4 := Fx.Stp.of_below hb2
   have m12 := m3.stp s4 (Nat.ne_of_lt (m3.lt))
   have m13 := m4.stp s4 (m4.notNew (Nat.le_refl _))
   have b6 := s4.below b2 b2.size b2.size
   refine Fx.L.nil (Fx.seqN (Fx.W.cond (b := false) rfl (fun h => nomatch h) (fun _ => Fx.W.skip (Fx.blkN (Fx.seqN ?_)))))
   have hl := liveI_k (by omega) c11
   refine Fx.W.list (Fx.L.v (.int .i64 ((k : Int) + 1)) (Fx.x_move rfl h3) ?_)
   refine Fx.L.v (.int .i64 ((k : Int) + 2)) (Fx.x_add rfl rfl rfl (Fx.i64e (by omega) (by omega))) ?_
   refine Fx.L.v (.int .i64 ((k : Int) + 2)) (Fx.x_assign rfl rfl) ?_
   refine Fx.L.nil ?_
   have m14 := m13.congr (y := lsX (liveN s (k + 1))) (fun j _ => by rw [live_no hl])
   skip
   refine Fx.lpN ⟨k + 1, n, a, cap, by omega, (by rw [live_no hl]; exact hn), h1, h2, (by first | rfl | exact congrArg (Value.int .i64) (by omega)), m12, m14, b6⟩ ?_
   show (7 - (intOf ((.int .i64 ((k : Int) + 2)))).toNat) < _
   simp only [h3, intOf]; omega
 ·refine Fx.L.v (.bool false) (Fx.x_leqF rfl rfl rfl c6) ?_
  refine Fx.L.nil (Fx.seqN (Fx.W.cond (b := false) rfl (fun h => nomatch h) (fun _ => Fx.W.exit (Fx.seqX (Fx.lpX (Fx.blkX (Fx.seqN (Fx.W.seq (Fx.W.list (Fx.L.v (.slice a (n) (cap)) (Fx.x_move rfl h2) ?_))))))))))
  refine Fx.L.v (.slice a (n) (cap)) (Fx.x_assign rfl rfl) ?_
  refine Fx.L.nil (Fx.seqN (Fx.W.ret (⟨.slice a (n) (cap), Fx.retV1 Try.results31 (by exact rfl), ?_⟩)))
  obtain rfl : k = 6 := by omega
  exact ⟨_, n, rfl, hn, m4, b2⟩
theorem g_index (a : Option Addr) (n cap : Nat) (l : List Int) (x : Int) (w : World) (hl : Fx.Arr w a n 1 (lsX l)) (hn : n ≤ 1000000) :
    Calls Try.prog 111 #[.slice a (n) (cap), .int .i64 (x)] w fun e w' => e = .returned (.int .i64 (firstI (fun k => decide (x = l.getD k 0)) n)) ∧ Below w.heap.size w w' := by
 refine Fx.enter Try.func111 rfl (n := 19) rfl (by rfl) ?_
 refine Fx.W.seq (Fx.W.list (Fx.L.v (.int .i64 (0)) (Fx.x_assign rfl rfl) ?_))
 refine Fx.L.nil (Fx.seqN (Fx.W.seq (Fx.W.seq (Fx.W.list (Fx.L.v (.slice a (n) (cap)) (Fx.x_move rfl rfl) ?_)))))
 refine Fx.L.v (.int .i64 ((n : Int))) (Fx.x_len rfl rfl rfl (by kernel_rfl)) ?_
 refine Fx.L.v (.int .i64 (0)) (Fx.x_move rfl rfl) ?_
 refine Fx.L.nil (Fx.seqN (Fx.W.block (Fx.W.loop (fun f w_ => ∃ k : Nat, k ≤ n ∧ (∀ i, i < k → (fun k => decide (x = l.getD k 0)) i = false) ∧ f 0 = .slice a (n) (cap) ∧ f 1 = .int .i64 (x) ∧ f 7 = .int .i64 ((n : Int)) ∧ f 8 = .int .i64 ((k : Int)) ∧ Below w.heap.size w w_) (fun f _ => (n - (intOf (f 8)).toNat)) ⟨0, by omega, (fun i h => absurd h (by omega)), (by rfl), (by first | rfl | exact congrArg (Value.int .i64) (by omega)), (by first | rfl | exact congrArg (Value.int .i64) (by omega)), (by first | rfl | exact congrArg (Value.int .i64) (by omega)), (Below.refl w.heap.size w)⟩ ?_)))
 rintro f1 w1 ⟨k, hk, hall, h1, h2, h3, h4, b1⟩
 refine Fx.W.seq (Fx.W.list ?_)
 by_cases c9 : (k : Int) < (n : Int)
 ·refine Fx.L.v (.bool true) (Fx.x_lssT rfl h4 h3 c9) ?_
  refine Fx.L.nil (Fx.seqN (Fx.W.seq (Fx.W.cond (b := true) rfl (fun _ => Fx.W.skip (Fx.seqN (Fx.W.seq (Fx.W.block (Fx.W.seq (Fx.W.list (Fx.L.v (.int .i64 ((k : Int))) (Fx.x_move rfl h4) ?_))))))) (fun h => nomatch h))))
  refine Fx.L.v (.int .i64 ((k : Int))) (Fx.x_assign rfl rfl) ?_
  refine Fx.L.nil (Fx.seqN (Fx.W.seq (Fx.W.list (Fx.L.v (.int .i64 (x)) (Fx.x_move rfl h2) ?_))))
  refine Fx.L.v (.slice a (n) (cap)) (Fx.x_move rfl h1) ?_
  refine Fx.L.v (.int .i64 ((k : Int))) (Fx.x_move rfl rfl) ?_
  obtain ⟨bq1, oq1, eq1, m1⟩ := (hl.up b1 rfl) (by omega)
  have lbq1 : bq1 < w1.heap.size := m1.lt (by omega)
  refine Fx.L.v (.pointer (some ⟨bq1, k + oq1, none⟩)) (Fx.x_indexS rfl (rfl.trans (congrArg (fun q => Value.slice q (n) (cap)) eq1)) rfl Try.underlying23 (s := 1) (by kernel_rfl) (by omega) (by omega) (by omega)) ?_
  refine Fx.L.v (.int .i64 (l.getD k 0)) (Fx.x_load1 (x := lsX l) rfl rfl (by kernel_rfl) m1 (i := k) (by omega) (by omega) rfl) ?_
  by_cases c16 : x = (l.getD k 0)
  ·refine Fx.L.v (.bool true) (Fx.x_eqlT rfl rfl rfl c16) ?_
   refine Fx.L.nil (Fx.seqN (Fx.W.cond (b := true) rfl (fun _ => Fx.W.seq (Fx.W.list (Fx.L.v (.int .i64 ((k : Int))) (Fx.x_move rfl rfl) ?_))) (fun h => nomatch h)))
   refine Fx.L.v (.int .i64 ((k : Int))) (Fx.x_assign rfl rfl) ?_
   refine Fx.L.nil (Fx.seqN (Fx.W.ret (Fx.blkR (Fx.seqR (Fx.lpR (Fx.blkR (Fx.seqR (⟨.int .i64 ((k : Int)), Fx.retV1 Try.results111 (by exact rfl), ?_⟩))))))))
   exact ⟨congrArg (fun q => Ending.returned (Value.int .i64 q)) (Eq.symm (firstI_hit hall (decide_eq_true c16) (by omega))), b1⟩
  ·refine Fx.L.v (.bool false) (Fx.x_eqlF rfl rfl rfl c16) ?_
   refine Fx.L.nil (Fx.seqN (Fx.W.cond (b := false) rfl (fun h => nomatch h) (fun _ => Fx.W.skip (Fx.blkN (Fx.seqN (Fx.W.list (Fx.L.v (.int .i64 ((k : Int) + 1)) (Fx.x_add rfl h4 rfl (Fx.i64e (by omega) (by omega))) ?_)))))))
   refine Fx.L.v (.int .i64 ((k : Int) + 1)) (Fx.x_move rfl rfl) ?_
   refine Fx.L.nil (Fx.lpN ⟨k + 1, by omega, (none_step hall (decide_eq_false c16)), h1, (h2.trans (by first | rfl | exact congrArg (Value.int .i64) (by omega))), (h3.trans (by first | rfl | exact congrArg (Value.int .i64) (by omega))), (by first | rfl | exact congrArg (Value.int .i64) (by omega)), b1⟩ ?_)
   show (n - (intOf ((.int .i64 ((k : Int) + 1)))).toNat) < _
   simp only [h4, intOf]; omega
 ·refine Fx.L.v (.bool false) (Fx.x_lssF rfl h4 h3 c9) ?_
  refine Fx.L.nil (Fx.seqN (Fx.W.seq (Fx.W.cond (b := false) rfl (fun h => nomatch h) (fun _ => Fx.W.exit (Fx.seqX (Fx.lpX (Fx.blkX (Fx.seqN (Fx.W.seq (Fx.W.list (Fx.L.v (.int .i64 (-1)) (Fx.x_assign rfl rfl) ?_)))))))))))
  refine Fx.L.nil (Fx.seqN (Fx.W.ret (⟨.int .i64 (-1), Fx.retV1 Try.results111 (by exact rfl), ?_⟩)))
  exact ⟨congrArg (fun q => Ending.returned (Value.int .i64 q)) (Eq.symm (firstI_none (fun i hi => hall i (by omega)))), b1⟩
theorem g_contains (a : Option Addr) (n cap : Nat) (l : List Int) (x : Int) (w : World) (hl : Fx.Arr w a n 1 (lsX l)) (hn : n ≤ 1000000) :
    Calls Try.prog 75 #[.slice a (n) (cap), .int .i64 (x)] w fun e w' => e = .returned (.bool (decide (0 ≤ firstI (fun k => decide (x = l.getD k 0)) n))) ∧ Below w.heap.size w w' := by
 refine Fx.enter Try.func75 rfl (n := 9) rfl (by rfl) ?_
 refine Fx.W.seq (Fx.W.list (Fx.L.v (.bool false) (Fx.x_assign rfl rfl) ?_))
 refine Fx.L.nil (Fx.seqN (Fx.W.seq (Fx.W.list (Fx.L.v (.slice a (n) (cap)) (Fx.x_move rfl rfl) ?_))))
 refine Fx.L.v (.int .i64 (x)) (Fx.x_move rfl rfl) ?_
 refine Fx.L.call (by rfl) (Fx.r_call (args := [.slice a (n) (cap), .int .i64 (x)]) rfl rfl Try.func111 rfl rfl) rfl ((g_index a n cap l x _ (hl.up (Below.refl w.heap.size w) rfl) hn).mono ?_)
 rintro e w1 ⟨he, hb1⟩
 refine ⟨.int .i64 (firstI (fun k => decide (x = l.getD k 0)) n), by rw [he], ?_⟩
 clear he
 have s1 := Fx.Stp.of_below hb1
 have b1 := s1.below (Below.refl w.heap.size w) (Below.refl w.heap.size w).size (Below.refl w.heap.size w).size
 by_cases c8 : 0 ≤ (firstI (fun k => decide (x = l.getD k 0)) n)
 ·refine Fx.L.v (.bool true) (Fx.x_geqT rfl rfl rfl c8) ?_
  refine Fx.L.v (.bool true) (Fx.x_assign rfl rfl) ?_
  refine Fx.L.nil (Fx.seqN (Fx.W.ret (⟨.bool true, Fx.retV1 Try.results75 (by exact rfl), ?_⟩)))
  exact ⟨congrArg (fun q => Ending.returned (Value.bool q)) (Eq.symm (decide_eq_true c8)), b1⟩
 ·refine Fx.L.v (.bool false) (Fx.x_geqF rfl rfl rfl c8) ?_
  refine Fx.L.v (.bool false) (Fx.x_assign rfl rfl) ?_
  refine Fx.L.nil (Fx.seqN (Fx.W.ret (⟨.bool false, Fx.retV1 Try.results75 (by exact rfl), ?_⟩)))
  exact ⟨congrArg (fun q => Ending.returned (Value.bool q)) (Eq.symm (decide_eq_false c8)), b1⟩
end Go.Proofs.Ytolmkjepieoloaa
namespace Go.Proofs.Ytolmkjepieoloaa
open Go.RowKit Rt
namespace Rt
structure AskM where
  kind : Int
  node : Int
  dst : Int
  amt : Int
  req : Int
  of : Int
def askY (x : AskM) : Nat → Value := fun p => if p = 0 then .int .u8 x.kind else if p = 1 then .int .u64 x.node else if p = 2 then .int .i64 x.dst else if p = 3 then .int .i64 x.amt else if p = 4 then .int .u64 x.req else .int .u64 x.of
def ask0 : AskM := ⟨0, 0, 0, 0, 0, 0⟩
def asX (l : List AskM) : Nat → Value := Fx.flat 6 fun k => askY (l.getD k ask0)
theorem as_app {l : List AskM} {n : Nat} {y z : Nat → Value} {x : AskM} (hn : n = l.length) (hy : ∀ j, j < 6 → y j = askY x j) : ∀ j, j < (n + 1) * 6 → Fx.appX (asX l) (n * 6) (Fx.ovr z (0 * 6) 6 y) j = asX (l ++ [x]) j := fun j hj =>
  (Fx.app_flat j hj).trans (Fx.flat_cong (fun i hi q hq => by
    subst hn
    unfold Fx.updF
    by_cases h : i = l.length
    · subst h; rw [if_pos rfl, hy q hq, List.getD_eq_getElem?_getD, List.getElem?_append_right (by omega), Nat.sub_self]; rfl
    · rw [if_neg h]; show askY (l.getD i ask0) q = _; rw [List.getD_eq_getElem?_getD, List.getD_eq_getElem?_getD, List.getElem?_append_left (by omega)]) j hj)
def askMv (id tj x : Int) : AskM := ⟨5, id, tj, mnI x 1125899906842624, 0, 0⟩
def askLv : AskM := ⟨7, 0, 0, 0, 0, 0⟩
def leave1 (l : List AskM) (id tj x : Int) : List AskM := if 0 < x then l ++ [askMv id tj x] else l
def leaveN (id : Nat → Int) (R : Nat → Nat → Int) (i tj : Int) : Nat → List AskM
  | 0 => []
  | k + 1 => leave1 (leaveN id R i tj k) (id k) tj (localV (R k) i)
theorem leave1_len {l : List AskM} {id tj x : Int} {n : Nat} (h : n = l.length) : (leave1 l id tj x).length ≤ n + 1 := by
  unfold leave1
  split
  · simp; omega
  · omega
theorem leaveN_len (id : Nat → Int) (R : Nat → Nat → Int) (i tj : Int) : ∀ k, (leaveN id R i tj k).length ≤ k
  | 0 => Nat.le_refl _
  | k + 1 => Nat.le_trans (leave1_len rfl) (by have := leaveN_len id R i tj k; omega)
def leaveE (s : StM) (i tj : Int) : Int := if liveI s i = false ∨ liveI s tj = false ∨ i = tj then 10 else 0
def leaveL (s : StM) (id : Nat → Int) (R : Nat → Nat → Int) (i tj : Int) : List AskM := if liveI s i = false ∨ liveI s tj = false ∨ i = tj then [] else leaveN id R i tj s.nn ++ [askLv]
end Rt
theorem Rt.one6 {z y : Nat → Value} (hy : ∀ j, j < 6 → (y j).oneCell' = true) : ∀ j, j < 1 * 6 → (Fx.ovr z (0 * 6) 6 y j).oneCell' = true := fun j hj => by
  unfold Fx.ovr; rw [if_pos (by omega)]; exact hy _ (by omega)
set_option maxRecDepth 10000 in
theorem m_leave1 (B : Nat) (idv parv : Int) (Rv : Nat → Int) (gi gl gt : Nat) (i tj : Int) (a : Option Addr) (n cap : Nat) (l : List AskM) (w : World) (hB : B ≤ w.heap.size) (hi : -9223372036854775808 ≤ i ∧ i ≤ 9223372036854775807) (hgi : Fx.Blk w gi 1 (fun _ => .int .i64 (i)) 3) (hgl : Fx.Blk w gl 1 (fun _ => .slice a n cap) 76) (hgt : Fx.Blk w gt 1 (fun _ => .int .i64 (tj)) 3) (hoa : Fx.Own w B 116 6 (.slice a n cap) n (asX l)) (hn : n = l.length) (hn2 : n ≤ 1000000) (hglB : B ≤ gl) :
    Calls Try.prog 76 #[.agg (Fx.varr 56 (ndY (idv) (parv) (Rv))), .pointer (some ⟨gi, 0, none⟩), .pointer (some ⟨gl, 0, none⟩), .pointer (some ⟨gt, 0, none⟩)] w fun e w' => ∃ a' n' cap', e = .returned (.tuple #[]) ∧ n' = (leave1 l idv tj (localV Rv i)).length ∧ Fx.Blk w' gl 1 (fun _ => .slice a' n' cap') 76 ∧ Fx.Own w' B 116 6 (.slice a' n' cap') n' (asX (leave1 l idv tj (localV Rv i))) ∧ Fx.ChT [76, 116] w w' ∧ Below B w w' := by
 have lgi := hgi.lt
 have lgl := hgl.lt
 have lgt := hgt.lt
 refine Fx.enter Try.func76 rfl (n := 21) rfl (by rfl) ?_
 refine Fx.W.seq (Fx.W.list (Fx.L.box (m := 56) (y := ndY (idv) (parv) (Rv)) (by rfl) rfl rfl (Fx.cells_agg _ _) rfl fun g1 w1 eg1 m1 s1 z1 => ?_))
 have m2 := hgi.stp s1 (Nat.ne_of_lt (hgi.lt))
 have m3 := hgl.stp s1 (Nat.ne_of_lt (hgl.lt))
 have m4 := hgt.stp s1 (Nat.ne_of_lt (hgt.lt))
 have m5 := hoa.stp s1 (hoa.notNew (Nat.le_refl _))
 have b1 := s1.below (Below.refl B w) (Nat.le_trans hB (Below.refl B w).size) (Nat.le_trans hB (Below.refl B w).size)
 have ct1 := Fx.ChT.trans _ _ _ (Fx.ChT.refl w : Fx.ChT [76, 116] w w) (Fx.ChT.of_below s1.old)
 have lg1 : w.heap.size ≤ g1 := by rw [eg1]; exact (Below.refl B w).size
 have ng1m2 : gi ≠ g1 := by rw [eg1]; exact Nat.ne_of_lt (hgi.lt)
 have ng1m3 : gl ≠ g1 := by rw [eg1]; exact Nat.ne_of_lt (hgl.lt)
 have ng1m4 : gt ≠ g1 := by rw [eg1]; exact Nat.ne_of_lt (hgt.lt)
 have tg1 : g1 < w1.heap.size := m1.lt
 clear eg1
 refine Fx.L.nil (Fx.seqN (Fx.W.seq (Fx.W.list (Fx.L.v (.pointer (some ⟨g1, 2, none⟩)) (Fx.x_field rfl rfl Try.underlying50 rfl (s := 54) (by kernel_rfl) rfl (by show _ + 2 = _; omega)) ?_))))
 refine Fx.L.v (.agg (Fx.varr 54 (Fx.rv .i64 Rv))) (Fx.x_loadA (x := ndY (idv) (parv) (Rv)) (y := Fx.rv .i64 Rv) rfl rfl (by kernel_rfl) (by kernel_rfl) m1.cel (i := 2) (by omega) (by omega) (fun q _ => ndY_row _ _ _ q)) ?_
 refine Fx.L.v (.int .i64 (i)) (Fx.x_load1 (x := fun _ => .int .i64 (i)) rfl rfl (by kernel_rfl) m2.cel (i := 0) (by omega) (by omega) rfl) ?_
 refine Fx.L.call (by rfl) (Fx.r_call (args := [.agg (Fx.varr 54 (Fx.rv .i64 Rv)), .int .i64 (i)]) rfl rfl Try.func43 rfl rfl) rfl ((localV_any Rv i _ hi).mono ?_)
 rintro e w2 ⟨he, hb1⟩
 refine ⟨.int .i64 (localV Rv i), by rw [he], ?_⟩
 clear he
 have s2 := Fx.Stp.of_below hb1
 have m6 := m2.stp s2 (Nat.ne_of_lt (m2.lt))
 have m7 := m3.stp s2 (Nat.ne_of_lt (m3.lt))
 have m8 := m4.stp s2 (Nat.ne_of_lt (m4.lt))
 have m9 := m5.stp s2 (m5.notNew (Nat.le_refl _))
 have m10 := m1.stp s2 (Nat.ne_of_lt (m1.lt))
 have b2 := s2.below b1 (Nat.le_trans hB b1.size) (Nat.le_trans hB b1.size)
 have ct2 := Fx.ChT.trans _ _ _ ct1 (Fx.ChT.of_below s2.old)
 refine Fx.L.v (.int .i64 (localV Rv i)) (Fx.x_assign rfl rfl) ?_
 refine Fx.L.nil (Fx.seqN (Fx.W.seq (Fx.W.list (Fx.L.v (.int .i64 (localV Rv i)) (Fx.x_move rfl rfl) ?_))))
 by_cases c11 : 0 < (localV Rv i)
 ·refine Fx.L.v (.bool true) (Fx.x_gtrT rfl rfl rfl c11) ?_
  refine Fx.L.nil (Fx.seqN (Fx.W.cond (b := true) rfl (fun _ => Fx.W.list (Fx.L.v (.slice a (n) (cap)) (Fx.x_load1 (x := fun _ => .slice a n cap) rfl rfl (by kernel_rfl) m7.cel (i := 0) (by omega) (by omega) rfl) ?_)) (fun h => nomatch h)))
  refine Fx.L.v (.pointer (some ⟨g1, 0, none⟩)) (Fx.x_field rfl rfl Try.underlying50 rfl (s := 1) (by kernel_rfl) rfl rfl) ?_
  refine Fx.L.v (.int .u64 (idv)) (Fx.x_load1 (x := ndY (idv) (parv) (Rv)) rfl rfl (by kernel_rfl) m10.cel (i := 0) (by omega) (by omega) rfl) ?_
  refine Fx.L.v (.int .i64 (tj)) (Fx.x_load1 (x := fun _ => .int .i64 (tj)) rfl rfl (by kernel_rfl) m8.cel (i := 0) (by omega) (by omega) rfl) ?_
  refine Fx.L.v (.int .i64 (localV Rv i)) (Fx.x_move rfl rfl) ?_
  refine Fx.L.v (.int .i64 (mnI (localV Rv i) 1125899906842624)) (Fx.x_min rfl rfl rfl) ?_
  refine Fx.L.v (.agg (Fx.varr 6 (Fx.ovr (Fx.ovr (Fx.ovr (Fx.ovr (fun zq => if zq < 1 then .int .u8 (0) else if zq < 2 then .int .u64 (0) else if zq < 4 then .int .i64 (0) else .int .u64 (0)) 0 1 (fun _ => .int .u8 (5))) 1 1 (fun _ => .int .u64 (idv))) 2 1 (fun _ => .int .i64 (tj))) 3 1 (fun _ => .int .i64 (mnI (localV Rv i) 1125899906842624))))) (Fx.x_build (vs := [(0, .int .u8 (5)), (1, .int .u64 (idv)), (2, .int .i64 (tj)), (3, .int .i64 (mnI (localV Rv i) 1125899906842624))]) (places := #[(0, 1), (1, 1), (2, 1), (3, 1), (4, 1), (5, 1)]) (m := 6) (x := fun zq => if zq < 1 then .int .u8 (0) else if zq < 2 then .int .u64 (0) else if zq < 4 then .int .i64 (0) else .int .u64 (0)) rfl rfl Try.underlying116 (by kernel_rfl) (by kernel_rfl) (by rw [Fx.fill_step (off := 0) (s := 1) (y := fun _ => .int .u8 (5)) (by kernel_rfl) (Fx.cells_one (by rfl)) (by rfl)]; rw [Fx.fill_step (off := 1) (s := 1) (y := fun _ => .int .u64 (idv)) (by kernel_rfl) (Fx.cells_one (by rfl)) (by rfl)]; rw [Fx.fill_step (off := 2) (s := 1) (y := fun _ => .int .i64 (tj)) (by kernel_rfl) (Fx.cells_one (by rfl)) (by rfl)]; rw [Fx.fill_step (off := 3) (s := 1) (y := fun _ => .int .i64 (mnI (localV Rv i) 1125899906842624)) (by kernel_rfl) (Fx.cells_one (by rfl)) (by rfl)]; rfl)) ?_
  refine Fx.L.bslice (vs := [(0, .agg (Fx.varr 6 (Fx.ovr (Fx.ovr (Fx.ovr (Fx.ovr (fun zq => if zq < 1 then .int .u8 (0) else if zq < 2 then .int .u64 (0) else if zq < 4 then .int .i64 (0) else .int .u64 (0)) 0 1 (fun _ => .int .u8 (5))) 1 1 (fun _ => .int .u64 (idv))) 2 1 (fun _ => .int .i64 (tj))) 3 1 (fun _ => .int .i64 (mnI (localV Rv i) 1125899906842624)))))]) (s := 6) (zc := fun zq => if zq < 1 then .int .u8 (0) else if zq < 2 then .int .u64 (0) else if zq < 4 then .int .i64 (0) else .int .u64 (0)) (y := Fx.ovr (fun j => (fun zq => if zq < 1 then .int .u8 (0) else if zq < 2 then .int .u64 (0) else if zq < 4 then .int .i64 (0) else .int .u64 (0)) (j % 6)) (0 * 6) 6 (Fx.ovr (Fx.ovr (Fx.ovr (Fx.ovr (fun zq => if zq < 1 then .int .u8 (0) else if zq < 2 then .int .u64 (0) else if zq < 4 then .int .i64 (0) else .int .u64 (0)) 0 1 (fun _ => .int .u8 (5))) 1 1 (fun _ => .int .u64 (idv))) 2 1 (fun _ => .int .i64 (tj))) 3 1 (fun _ => .int .i64 (mnI (localV Rv i) 1125899906842624)))) (by rfl) rfl rfl Try.underlying76 (by kernel_rfl) (by rfl) (by rfl) (by kernel_rfl) (by rw [Fx.fill_step (off := 0 * 6) (s := 6) (y := Fx.ovr (Fx.ovr (Fx.ovr (Fx.ovr (fun zq => if zq < 1 then .int .u8 (0) else if zq < 2 then .int .u64 (0) else if zq < 4 then .int .i64 (0) else .int .u64 (0)) 0 1 (fun _ => .int .u8 (5))) 1 1 (fun _ => .int .u64 (idv))) 2 1 (fun _ => .int .i64 (tj))) 3 1 (fun _ => .int .i64 (mnI (localV Rv i) 1125899906842624))) rfl (Fx.cells_agg _ _) (by rfl)]; rfl) rfl fun g2 w3 eg2 m11 s3 z2 => ?_
  have m12 := m6.stp s3 (Nat.ne_of_lt (m6.lt))
  have m13 := m7.stp s3 (Nat.ne_of_lt (m7.lt))
  have m14 := m8.stp s3 (Nat.ne_of_lt (m8.lt))
  have m15 := m9.stp s3 (m9.notNew (Nat.le_refl _))
  have m16 := m10.stp s3 (Nat.ne_of_lt (m10.lt))
  have b3 := s3.below b2 (Nat.le_trans hB b2.size) (Nat.le_trans hB b2.size)
  have ct3 := Fx.ChT.trans _ _ _ ct2 (Fx.ChT.of_below s3.old)
  have lg2 : w.heap.size ≤ g2 := by rw [eg2]; exact b2.size
  have ng2m12 : gi ≠ g2 := by rw [eg2]; exact Nat.ne_of_lt (m6.lt)
  have ng2m13 : gl ≠ g2 := by rw [eg2]; exact Nat.ne_of_lt (m7.lt)
  have ng2m14 : gt ≠ g2 := by rw [eg2]; exact Nat.ne_of_lt (m8.lt)
  have ng2m15 : (.slice a (n) (cap) : Value).ownBlock ≠ some g2 := by rw [eg2]; exact m9.notNew (Nat.le_refl _)
  have ng2m16 : g1 ≠ g2 := by rw [eg2]; exact Nat.ne_of_lt (m10.lt)
  have tg2 : g2 < w3.heap.size := m11.lt
  clear eg2
  refine Fx.L.app (B := B) (s := 6) (bytes := 48) (k := n) (m := 1) (v := .slice a (n) (cap)) (x := asX l) (by rfl) rfl rfl rfl Try.underlying76 (by kernel_rfl) (by kernel_rfl) rfl rfl m15 m11.cel (one6 (fun j hj => by rcases j with _|_|_|_|_|_|j <;> first | rfl | omega)) (by omega) (by omega) (by omega) (Nat.le_trans hB b3.size) fun g3 cap1 w4 ho1 hg1 hgv1 hlt1 => ?_
  have hct1 := Fx.ChT.of_grown hg1 m15
  have m18 := m12.chT hct1 (by decide)
  have m19 := m13.chT hct1 (by decide)
  have m20 := m14.chT hct1 (by decide)
  have m21 := m16.chT hct1 (by decide)
  have m17 : Fx.Own w4 B 116 6 (.slice (some ⟨g3, 0, none⟩) (n + 1) cap1) (n + 1) (asX (l ++ [askMv idv tj (localV Rv i)])) := (ho1.congr (fun j hj => as_app hn (fun j hj => by rcases j with _|_|_|_|_|_|j <;> first | rfl | omega) j hj))
  have b4 : Below B w w4 := Fx.Below.grow b3 hg1 (Nat.le_trans hB b3.size) (fun q hq => (m15.ge hq).1)
  have ct4 := Fx.ChT.trans _ _ _ ct3 (hct1.wide (by decide))
  refine Fx.L.store1 (x := fun _ => .slice a n cap) (u := .slice (some ⟨g3, 0, none⟩) (n + 1) (cap1)) (by rfl) rfl rfl rfl rfl (by rfl) (by kernel_rfl) m19 (i := 0) (by omega) fun w5 m22 s4 z3 => ?_
  have m23 : Fx.Blk w5 gl 1 (fun _ => .slice (some ⟨g3, 0, none⟩) (n + 1) (cap1)) 76 := Fx.upd_all m22
  have hct2 := Fx.ChT.of_stp s4 m19.ty
  have m24 := m18.chT hct2 (by decide)
  have m25 := m20.chT hct2 (by decide)
  have m26 := m21.chT hct2 (by decide)
  have m27 := m17.chT hct2 (by decide)
  have b5 := s4.below b4 (Nat.le_trans hB b4.size) (by omega)
  have ct5 := Fx.ChT.trans _ _ _ ct4 ((Fx.ChT.of_stp s4 m19.ty).wide (by decide))
  refine Fx.L.nil (⟨.tuple #[], Fx.ret0 Try.results76, ?_⟩)
  exact ⟨some ⟨g3, 0, none⟩, n + 1, cap1, rfl, by unfold leave1; rw [if_pos c11, List.length_append, ← hn]; rfl, m23, by unfold leave1; rw [if_pos c11]; exact m27, ct5, b5⟩
 ·refine Fx.L.v (.bool false) (Fx.x_gtrF rfl rfl rfl c11) ?_
  refine Fx.L.nil (Fx.seqN (Fx.W.cond (b := false) rfl (fun h => nomatch h) (fun _ => Fx.W.skip (⟨.tuple #[], Fx.ret0 Try.results76, ?_⟩))))
  exact ⟨a, n, cap, rfl, by unfold leave1; rw [if_neg c11]; exact hn, m7, by unfold leave1; rw [if_neg c11]; exact m9, ct2, b2⟩
end Go.Proofs.Ytolmkjepieoloaa
namespace Go.Proofs.Ytolmkjepieoloaa
open Go.RowKit Rt
namespace Rt
structure AskWf (x : AskM) : Prop where
  kind : 0 ≤ x.kind ∧ x.kind ≤ 255
  node : U64r x.node
  dst : I64r x.dst
  amt : I64r x.amt
  req : U64r x.req
  of : U64r x.of
theorem kd_ask {x : AskM} (h : AskWf x) : Fx.Kd [(some .u8), (some .u64), (some .i64), (some .i64), (some .u64), (some .u64)] (askY x) := by
  have one : ∀ (k : IntKind) (n : Int), (Lit.int k n).wf = true → ∃ l, litOf (some k) (.int k n) = some l := fun k n hw => by
    obtain ⟨l, hl⟩ := Fx.kd_rv (k := k) (n := 1) (x := fun _ => n) (fun _ _ => hw) 0 (by simp)
    exact ⟨l, hl⟩
  intro i hi
  have hi' : i < 6 := hi
  rcases i with _|_|_|_|_|_|i
  · exact one .u8 x.kind (Fx.wfu8 h.kind)
  · exact one .u64 x.node (Fx.wfu64 h.node)
  · exact one .i64 x.dst (Fx.wf64 h.dst)
  · exact one .i64 x.amt (Fx.wf64 h.amt)
  · exact one .u64 x.req (Fx.wfu64 h.req)
  · exact one .u64 x.of (Fx.wfu64 h.of)
  · omega
theorem leave_wf {id : Nat → Int} {R : Nat → Nat → Int} {i tj : Int} (ht : I64r tj) : ∀ n, (∀ k, k < n → U64r (id k)) → ∀ x ∈ leaveN id R i tj n, AskWf x
  | 0, _, _, h => absurd h (List.not_mem_nil)
  | n + 1, hid, x, h => by
    unfold leaveN leave1 at h
    have ih := leave_wf (R := R) (i := i) ht n (fun k hk => hid k (by omega))
    split at h
    · rename_i hx
      rcases List.mem_append.1 h with h | h
      · exact ih x h
      · obtain rfl : x = askMv (id n) tj (localV (R n) i) := by simpa using h
        have z : U64r (0 : Int) := ⟨by decide, by decide⟩
        refine ⟨by show (0 : Int) ≤ 5 ∧ (5 : Int) ≤ 255; omega, hid n (by omega), ht, ?_, z, z⟩
        show I64r (mnI (localV (R n) i) 1125899906842624)
        have := localV_bd (R n) i
        unfold I64r mnI; split <;> omega
    · exact ih x h
theorem leaveL_wf {s : StM} {id : Nat → Int} {R : Nat → Nat → Int} {i tj : Int} (ht : I64r tj) (hid : ∀ k, k < s.nn → U64r (id k)) : ∀ x ∈ leaveL s id R i tj, AskWf x := fun x h => by
  unfold leaveL at h
  split at h
  · cases h
  · rcases List.mem_append.1 h with h | h
    · exact leave_wf ht s.nn hid x h
    · obtain rfl : x = askLv := by simpa using h
      exact ⟨by decide, ⟨by decide, by decide⟩, ⟨by decide, by decide⟩, ⟨by decide, by decide⟩, ⟨by decide, by decide⟩, ⟨by decide, by decide⟩⟩
theorem as_at {l : List AskM} {k : Nat} (h : k < l.length) : l.getD k ask0 ∈ l := by
  rw [List.getD_eq_getElem?_getD, List.getElem?_eq_getElem h]; exact List.getElem_mem h
theorem leave_no {s : StM} {id : Nat → Int} {R : Nat → Nat → Int} {i tj : Int} (h : liveI s i = false ∨ liveI s tj = false ∨ i = tj) : leaveE s i tj = 10 ∧ leaveL s id R i tj = [] := ⟨if_pos h, if_pos h⟩
theorem leave_ok {s : StM} {id : Nat → Int} {R : Nat → Nat → Int} {i tj : Int} (h1 : liveI s i = true) (h2 : liveI s tj = true) (h3 : ¬ i = tj) : leaveE s i tj = 0 ∧ leaveL s id R i tj = leaveN id R i tj s.nn ++ [askLv] := by
  have h : ¬ (liveI s i = false ∨ liveI s tj = false ∨ i = tj) := by rw [h1, h2]; exact fun h => h.elim (fun h => by cases h) (fun h => h.elim (fun h => by cases h) h3)
  exact ⟨if_neg h, if_neg h⟩
end Rt
set_option maxRecDepth 10000 in
theorem m_leave (s : StM) (id par : Nat → Int) (R : Nat → Nat → Int) (i tj : Int) (w : World) (hnn : s.nn ≤ 900000) (hnd : Nds w s.na s.nn id par R) (hi : -9223372036854775808 ≤ i ∧ i ≤ 9223372036854775807) :
    Calls Try.prog 32 #[.agg (Fx.varr 20 (stY s)), .int .i64 (i), .int .i64 (tj)] w fun e w' => ∃ v n, e = .returned (.tuple #[v, .int .i64 (leaveE s i tj)]) ∧ n = (leaveL s id R i tj).length ∧ Fx.Own w' w.heap.size 116 6 v n (asX (leaveL s id R i tj)) ∧ Below w.heap.size w w' := by
 refine Fx.enter Try.func32 rfl (n := 46) rfl (by rfl) ?_
 refine Fx.W.seq (Fx.W.list (Fx.L.box (m := 20) (y := stY s) (by rfl) rfl rfl (Fx.cells_agg _ _) rfl fun g1 w1 eg1 m1 s1 z1 => ?_))
 have b1 := s1.below (Below.refl w.heap.size w) (Below.refl w.heap.size w).size (Below.refl w.heap.size w).size
 have lg1 : w.heap.size ≤ g1 := by rw [eg1]; exact (Below.refl w.heap.size w).size
 have tg1 : g1 < w1.heap.size := m1.lt
 clear eg1
 refine Fx.L.box (m := 1) (y := fun _ => .int .i64 (i)) (by rfl) rfl rfl (Fx.cells_one (by rfl)) rfl fun g2 w2 eg2 m2 s2 z2 => ?_
 have m3 := m1.stp s2 (Nat.ne_of_lt (m1.lt))
 have b2 := s2.below b1 b1.size b1.size
 have lg2 : w.heap.size ≤ g2 := by rw [eg2]; exact b1.size
 have ng2m3 : g1 ≠ g2 := by rw [eg2]; exact Nat.ne_of_lt (m1.lt)
 have tg2 : g2 < w2.heap.size := m2.lt
 clear eg2
 refine Fx.L.box (m := 1) (y := fun _ => .int .i64 (tj)) (by rfl) rfl rfl (Fx.cells_one (by rfl)) rfl fun g3 w3 eg3 m4 s3 z3 => ?_
 have m5 := m3.stp s3 (Nat.ne_of_lt (m3.lt))
 have m6 := m2.stp s3 (Nat.ne_of_lt (m2.lt))
 have b3 := s3.below b2 b2.size b2.size
 have lg3 : w.heap.size ≤ g3 := by rw [eg3]; exact b2.size
 have ng3m5 : g1 ≠ g3 := by rw [eg3]; exact Nat.ne_of_lt (m3.lt)
 have ng3m6 : g2 ≠ g3 := by rw [eg3]; exact Nat.ne_of_lt (m2.lt)
 have tg3 : g3 < w3.heap.size := m4.lt
 clear eg3
 refine Fx.L.v (.slice none 0 0) (Fx.x_assign rfl rfl) ?_
 refine Fx.L.v (.int .i64 (0)) (Fx.x_assign rfl rfl) ?_
 refine Fx.L.nil (Fx.seqN (Fx.W.seq (Fx.W.list (Fx.L.v (.agg (Fx.varr 20 (stY s))) (Fx.x_loadA (x := stY s) (y := stY s) rfl rfl (by kernel_rfl) (by kernel_rfl) m5.cel (i := 0) (by omega) (by omega) (fun j _ => by rw [Nat.zero_add])) ?_))))
 refine Fx.L.call (by rfl) (Fx.r_call (args := [.agg (Fx.varr 20 (stY s))]) rfl rfl Try.func30 rfl rfl) rfl ((m_live s _).mono ?_)
 rintro e9 w4 ⟨v9, n9, he, hn9, hO9, hb9⟩
 obtain ⟨a9, cap9, rfl⟩ := hO9.val
 refine ⟨.slice a9 n9 cap9, he, ?_⟩
 clear he
 have s4 := Fx.Stp.of_below hb9
 have m7 := m5.stp s4 (Nat.ne_of_lt (m5.lt))
 have m8 := m6.stp s4 (Nat.ne_of_lt (m6.lt))
 have m9 := m4.stp s4 (Nat.ne_of_lt (m4.lt))
 have b4 := s4.below b3 b3.size b3.size
 have hn9l : n9 ≤ 6 := by rw [hn9]; exact live_len s 6
 refine Fx.L.v (.slice a9 (n9) (cap9)) (Fx.x_assign rfl rfl) ?_
 refine Fx.L.nil (Fx.seqN (Fx.W.seq (Fx.W.seq (Fx.W.list (Fx.L.v (.slice a9 (n9) (cap9)) (Fx.x_move rfl rfl) ?_)))))
 refine Fx.L.v (.int .i64 (i)) (Fx.x_load1 (x := fun _ => .int .i64 (i)) rfl rfl (by kernel_rfl) m8.cel (i := 0) (by omega) (by omega) rfl) ?_
 by_cases c17 : (liveI s i) = true
 ·refine Fx.L.call (by rfl) (Fx.r_call (args := [.slice a9 (n9) (cap9), .int .i64 (i)]) rfl rfl Try.func75 rfl rfl) rfl (((g_contains a9 n9 cap9 (liveN s 6) i _ hO9.arr (by omega)).mono (fun e w2 h2 => (⟨h2.1.trans (by rw [hn9, live_has]), h2.2⟩ : e = .returned (.bool (liveI s i)) ∧ _))).mono ?_)
  rintro e w5 ⟨he, hb1⟩
  refine ⟨.bool true, by rw [he, c17], ?_⟩
  clear he
  have s5 := Fx.Stp.of_below hb1
  have m10 := m7.stp s5 (Nat.ne_of_lt (m7.lt))
  have m11 := m8.stp s5 (Nat.ne_of_lt (m8.lt))
  have m12 := m9.stp s5 (Nat.ne_of_lt (m9.lt))
  have m13 := hO9.stp s5 (hO9.notNew (Nat.le_refl _))
  have b5 := s5.below b4 b4.size b4.size
  refine Fx.L.v (.bool false) (Fx.x_notF rfl rfl) ?_
  refine Fx.L.v (.bool false) (Fx.x_move rfl rfl) ?_
  refine Fx.L.v (.slice a9 (n9) (cap9)) (Fx.x_move rfl rfl) ?_
  refine Fx.L.v (.int .i64 (tj)) (Fx.x_load1 (x := fun _ => .int .i64 (tj)) rfl rfl (by kernel_rfl) m12.cel (i := 0) (by omega) (by omega) rfl) ?_
  by_cases c22 : (liveI s tj) = true
  ·refine Fx.L.call (by rfl) (Fx.r_call (args := [.slice a9 (n9) (cap9), .int .i64 (tj)]) rfl rfl Try.func75 rfl rfl) rfl (((g_contains a9 n9 cap9 (liveN s 6) tj _ m13.arr (by omega)).mono (fun e w2 h2 => (⟨h2.1.trans (by rw [hn9, live_has]), h2.2⟩ : e = .returned (.bool (liveI s tj)) ∧ _))).mono ?_)
   rintro e w6 ⟨he, hb2⟩
   refine ⟨.bool true, by rw [he, c22], ?_⟩
   clear he
   have s6 := Fx.Stp.of_below hb2
   have m14 := m10.stp s6 (Nat.ne_of_lt (m10.lt))
   have m15 := m11.stp s6 (Nat.ne_of_lt (m11.lt))
   have m16 := m12.stp s6 (Nat.ne_of_lt (m12.lt))
   have m17 := m13.stp s6 (m13.notNew (Nat.le_refl _))
   have b6 := s6.below b5 b5.size b5.size
   refine Fx.L.v (.bool false) (Fx.x_notF rfl rfl) ?_
   refine Fx.L.v (.bool false) (Fx.x_pickF rfl rfl rfl) ?_
   refine Fx.L.v (.bool false) (Fx.x_move rfl rfl) ?_
   refine Fx.L.v (.int .i64 (i)) (Fx.x_load1 (x := fun _ => .int .i64 (i)) rfl rfl (by kernel_rfl) m15.cel (i := 0) (by omega) (by omega) rfl) ?_
   refine Fx.L.v (.int .i64 (tj)) (Fx.x_load1 (x := fun _ => .int .i64 (tj)) rfl rfl (by kernel_rfl) m16.cel (i := 0) (by omega) (by omega) rfl) ?_
   by_cases c28 : i = tj
   ·refine Fx.L.v (.bool true) (Fx.x_eqlT rfl rfl rfl c28) ?_
    refine Fx.L.v (.bool true) (Fx.x_pickF rfl rfl rfl) ?_
    refine Fx.L.nil (Fx.seqN (Fx.W.cond (b := true) rfl (fun _ => Fx.W.seq (Fx.W.list (Fx.L.v (.slice none 0 0) (Fx.x_assign rfl rfl) ?_))) (fun h => nomatch h)))
    refine Fx.L.v (.int .i64 (10)) (Fx.x_assign rfl rfl) ?_
    refine Fx.L.nil (Fx.seqN (Fx.W.ret (Fx.seqR (⟨.tuple #[.slice none 0 0, .int .i64 (10)], Fx.retV2 Try.results32 (by exact rfl) (by exact rfl), ?_⟩))))
    have hz := leave_no (s := s) (i := i) (tj := tj) (id := id) (R := R) (.inr (.inr c28))
    exact ⟨.slice none 0 0, 0, by rw [hz.1], by rw [hz.2]; rfl, by rw [hz.2]; exact Fx.Own.nil _ _ _ _ _, b6⟩
   ·refine Fx.L.v (.bool false) (Fx.x_eqlF rfl rfl rfl c28) ?_
    refine Fx.L.v (.bool false) (Fx.x_pickF rfl rfl rfl) ?_
    refine Fx.L.nil (Fx.seqN (Fx.W.cond (b := false) rfl (fun h => nomatch h) (fun _ => Fx.W.skip (Fx.seqN (Fx.W.seq (Fx.W.list (Fx.L.new (m := 1) (y := fun _ => .slice none 0 0) (by rfl) rfl (by kernel_rfl) rfl fun g4 w7 eg4 m18 s7 z4 => ?_)))))))
    have m19 := m14.stp s7 (Nat.ne_of_lt (m14.lt))
    have m20 := m15.stp s7 (Nat.ne_of_lt (m15.lt))
    have m21 := m16.stp s7 (Nat.ne_of_lt (m16.lt))
    have m22 := m17.stp s7 (m17.notNew (Nat.le_refl _))
    have b7 := s7.below b6 b6.size b6.size
    have lg4 : w.heap.size ≤ g4 := by rw [eg4]; exact b6.size
    have ng4m19 : g1 ≠ g4 := by rw [eg4]; exact Nat.ne_of_lt (m14.lt)
    have ng4m20 : g2 ≠ g4 := by rw [eg4]; exact Nat.ne_of_lt (m15.lt)
    have ng4m21 : g3 ≠ g4 := by rw [eg4]; exact Nat.ne_of_lt (m16.lt)
    have tg4 : g4 < w7.heap.size := m18.lt
    clear eg4
    refine Fx.L.nil (Fx.seqN (Fx.W.seq (Fx.W.list (Fx.L.v (.func (.func 76) #[] #[.pointer (some ⟨g2, 0, none⟩), .pointer (some ⟨g4, 0, none⟩), .pointer (some ⟨g3, 0, none⟩)]) (Fx.x_func (us := []) (vs := [.pointer (some ⟨g2, 0, none⟩), .pointer (some ⟨g4, 0, none⟩), .pointer (some ⟨g3, 0, none⟩)]) rfl rfl rfl) ?_))))
    refine Fx.L.v (.func (.func 76) #[] #[.pointer (some ⟨g2, 0, none⟩), .pointer (some ⟨g4, 0, none⟩), .pointer (some ⟨g3, 0, none⟩)]) (Fx.x_assign rfl rfl) ?_
    refine Fx.L.nil (Fx.seqN (Fx.W.seq (Fx.W.seq (Fx.W.list (Fx.L.v (.pointer (some ⟨g1, 18, none⟩)) (Fx.x_field rfl rfl Try.underlying43 rfl (s := 1) (by kernel_rfl) rfl (by show _ + 18 = _; omega)) ?_)))))
    refine Fx.L.v (.slice s.na (s.nn) (s.nc)) (Fx.x_load1 (x := stY s) rfl rfl (by kernel_rfl) m19.cel (i := 18) (by omega) (by omega) rfl) ?_
    refine Fx.L.v (.int .i64 ((s.nn : Int))) (Fx.x_len rfl rfl rfl (by kernel_rfl)) ?_
    refine Fx.L.v (.int .i64 (0)) (Fx.x_move rfl rfl) ?_
    refine Fx.L.nil (Fx.seqN (Fx.W.block ?_))
    have m23 : Fx.Own w7 w.heap.size 116 6 (.slice none 0 0) 0 (asX (leaveN id R i tj 0)) := Fx.Own.nil _ _ _ _ _
    refine Fx.W.loop (fun f w_ => ∃ k : Nat, ∃ n : Nat, ∃ a : Option Addr, ∃ cap : Nat, k ≤ s.nn ∧ n = (leaveN id R i tj k).length ∧ f 3 = .pointer (some ⟨g1, 0, none⟩) ∧ f 9 = .pointer (some ⟨g4, 0, none⟩) ∧ f 10 = .func (.func 76) #[] #[.pointer (some ⟨g2, 0, none⟩), .pointer (some ⟨g4, 0, none⟩), .pointer (some ⟨g3, 0, none⟩)] ∧ f 32 = .slice s.na (s.nn) (s.nc) ∧ f 33 = .int .i64 ((s.nn : Int)) ∧ f 34 = .int .i64 ((k : Int)) ∧ Fx.Blk w_ g1 20 (stY s) 43 ∧ Fx.Blk w_ g2 1 (fun _ => .int .i64 (i)) 3 ∧ Fx.Blk w_ g3 1 (fun _ => .int .i64 (tj)) 3 ∧ Fx.Blk w_ g4 1 (fun _ => .slice a n cap) 76 ∧ Fx.Own w_ w.heap.size 116 6 (.slice a (n) (cap)) n (asX (leaveN id R i tj k)) ∧ Below w.heap.size w w_) (fun f _ => (s.nn - (intOf (f 34)).toNat)) ⟨0, 0, none, 0, by omega, rfl, (by rfl), (by rfl), (by rfl), (by rfl), (by first | rfl | exact congrArg (Value.int .i64) (by omega)), (by first | rfl | exact congrArg (Value.int .i64) (by omega)), m19, m20, m21, m18, m23, b7⟩ ?_
    rintro f1 w8 ⟨k, n, a, cap, hk, hn, h1, h2, h3, h4, h5, h6, m25, m26, m27, m28, m29, b8⟩
    have hnl := leaveN_len id R i tj k
    refine Fx.W.seq (Fx.W.list ?_)
    by_cases c35 : (k : Int) < (s.nn : Int)
    ·refine Fx.L.v (.bool true) (Fx.x_lssT rfl h6 h5 c35) ?_
     refine Fx.L.nil (Fx.seqN (Fx.W.seq (Fx.W.cond (b := true) rfl (fun _ => Fx.W.skip (Fx.seqN (Fx.W.seq (Fx.W.block (Fx.W.seq ?_))))) (fun h => nomatch h))))
     obtain ⟨b9, off1, ea1, hcn1⟩ := hnd k (by omega)
     have lb9 : b9 < w.heap.size := hcn1.lt (by omega)
     have m30 := hcn1.below b8 lb9
     refine Fx.W.list (Fx.L.v (.pointer (some ⟨b9, 56 * k + off1, none⟩)) (Fx.x_indexS rfl (h4.trans (congrArg (fun q => Value.slice q (s.nn) (s.nc)) ea1)) h6 Try.underlying40 (s := 56) (by kernel_rfl) (by omega) (by omega) (by omega)) ?_)
     refine Fx.L.v (.agg (Fx.varr 56 (ndY (id k) (par k) (R k)))) (Fx.x_loadA (x := ndY (id k) (par k) (R k)) (y := ndY (id k) (par k) (R k)) rfl rfl (by kernel_rfl) (by kernel_rfl) m30 (i := 0) (by omega) (by omega) (fun j _ => by rw [Nat.zero_add])) ?_
     refine Fx.L.new (m := 56) (y := fun zq => if zq < 2 then .int .u64 (0) else .int .i64 (0)) (by rfl) rfl (by kernel_rfl) rfl fun g5 w9 eg5 m31 s8 z5 => ?_
     have m32 := m25.stp s8 (Nat.ne_of_lt (m25.lt))
     have m33 := m26.stp s8 (Nat.ne_of_lt (m26.lt))
     have m34 := m27.stp s8 (Nat.ne_of_lt (m27.lt))
     have m35 := m28.stp s8 (Nat.ne_of_lt (m28.lt))
     have m36 := m29.stp s8 (m29.notNew (Nat.le_refl _))
     have m37 := m30.stp s8 (Nat.ne_of_lt (m30.lt (by omega)))
     have b10 := s8.below b8 b8.size b8.size
     have lg5 : w.heap.size ≤ g5 := by rw [eg5]; exact b8.size
     have ng5m32 : g1 ≠ g5 := by rw [eg5]; exact Nat.ne_of_lt (m25.lt)
     have ng5m33 : g2 ≠ g5 := by rw [eg5]; exact Nat.ne_of_lt (m26.lt)
     have ng5m34 : g3 ≠ g5 := by rw [eg5]; exact Nat.ne_of_lt (m27.lt)
     have ng5m35 : g4 ≠ g5 := by rw [eg5]; exact Nat.ne_of_lt (m28.lt)
     have ng5m37 : b9 ≠ g5 := by rw [eg5]; exact Nat.ne_of_lt (m30.lt (by omega))
     have tg5 : g5 < w9.heap.size := m31.lt
     clear eg5
     refine Fx.L.storeA (x := fun zq => if zq < 2 then .int .u64 (0) else .int .i64 (0)) (y := ndY (id k) (par k) (R k)) (by rfl) rfl rfl rfl rfl (fun j _ => ndY_one' _ _ _ j) (by kernel_rfl) m31 (i := 0) (by omega) fun w10 m38 s9 z6 => ?_
     have m39 : Fx.Blk w10 g5 56 (ndY (id k) (par k) (R k)) 50 := Fx.ovr_all m38
     have hct1 := Fx.ChT.of_stp s9 m31.ty
     have m40 := m32.chT hct1 (by decide)
     have m41 := m33.chT hct1 (by decide)
     have m42 := m34.chT hct1 (by decide)
     have m43 := m35.chT hct1 (by decide)
     have m44 := m36.chT hct1 (by decide)
     have m45 := m37.stp s9 (by omega)
     have b11 := s9.below b10 b10.size (by omega)
     refine Fx.L.nil (Fx.seqN (Fx.W.list (Fx.L.v (.func (.func 76) #[] #[.pointer (some ⟨g2, 0, none⟩), .pointer (some ⟨g4, 0, none⟩), .pointer (some ⟨g3, 0, none⟩)]) (Fx.x_move rfl h3) ?_)))
     refine Fx.L.v (.agg (Fx.varr 56 (ndY (id k) (par k) (R k)))) (Fx.x_loadA (x := ndY (id k) (par k) (R k)) (y := ndY (id k) (par k) (R k)) rfl rfl (by kernel_rfl) (by kernel_rfl) m39.cel (i := 0) (by omega) (by omega) (fun j _ => by rw [Nat.zero_add])) ?_
     refine Fx.L.call (by rfl) (Fx.r_clo (args := [.agg (Fx.varr 56 (ndY (id k) (par k) (R k)))]) rfl rfl rfl (all := #[.agg (Fx.varr 56 (ndY (id k) (par k) (R k))), .pointer (some ⟨g2, 0, none⟩), .pointer (some ⟨g4, 0, none⟩), .pointer (some ⟨g3, 0, none⟩)]) rfl Try.func76 rfl rfl) rfl ((m_leave1 w.heap.size (id k) (par k) (R k) g2 g4 g3 i tj a n cap (leaveN id R i tj k) _ b11.size hi m41 m43 m42 m44 hn (by omega) lg4).mono ?_)
     rintro e9 w11 ⟨a2, n2, cap2, he, hn2, hgl2, ho2, hct2, hb3⟩
     refine ⟨.tuple #[], he, ?_⟩
     clear he
     have m46 := m40.chT hct2 (by decide)
     have m47 := m41.chT hct2 (by decide)
     have m48 := m42.chT hct2 (by decide)
     have m49 := m39.chT hct2 (by decide)
     have b12 := b11.trans hb3
     refine Fx.L.nil (Fx.blkN (Fx.seqN (Fx.W.list (Fx.L.v (.int .i64 ((k : Int) + 1)) (Fx.x_add rfl h6 rfl (Fx.i64e (by omega) (by omega))) ?_))))
     refine Fx.L.v (.int .i64 ((k : Int) + 1)) (Fx.x_move rfl rfl) ?_
     refine Fx.L.nil (Fx.lpN ⟨k + 1, n2, a2, cap2, by omega, hn2, h1, h2, h3, h4, (h5.trans (by first | rfl | exact congrArg (Value.int .i64) (by omega))), (by first | rfl | exact congrArg (Value.int .i64) (by omega)), m46, m47, m48, hgl2, ho2, b12⟩ ?_)
     show (s.nn - (intOf ((.int .i64 ((k : Int) + 1)))).toNat) < _
     simp only [h6, intOf]; omega
    ·refine Fx.L.v (.bool false) (Fx.x_lssF rfl h6 h5 c35) ?_
     refine Fx.L.nil (Fx.seqN (Fx.W.seq (Fx.W.cond (b := false) rfl (fun h => nomatch h) (fun _ => Fx.W.exit (Fx.seqX (Fx.lpX (Fx.blkX (Fx.seqN (Fx.W.seq (Fx.W.list (Fx.L.v (.slice a (n) (cap)) (Fx.x_load1 (x := fun _ => .slice a n cap) rfl h2 (by kernel_rfl) m28.cel (i := 0) (by omega) (by omega) rfl) ?_)))))))))))
     refine Fx.L.v (.agg (Fx.varr 6 (Fx.ovr (fun zq => if zq < 1 then .int .u8 (0) else if zq < 2 then .int .u64 (0) else if zq < 4 then .int .i64 (0) else .int .u64 (0)) 0 1 (fun _ => .int .u8 (7))))) (Fx.x_build (vs := [(0, .int .u8 (7))]) (places := #[(0, 1), (1, 1), (2, 1), (3, 1), (4, 1), (5, 1)]) (m := 6) (x := fun zq => if zq < 1 then .int .u8 (0) else if zq < 2 then .int .u64 (0) else if zq < 4 then .int .i64 (0) else .int .u64 (0)) rfl rfl Try.underlying116 (by kernel_rfl) (by kernel_rfl) (by rw [Fx.fill_step (off := 0) (s := 1) (y := fun _ => .int .u8 (7)) (by kernel_rfl) (Fx.cells_one (by rfl)) (by rfl)]; rfl)) ?_
     refine Fx.L.bslice (vs := [(0, .agg (Fx.varr 6 (Fx.ovr (fun zq => if zq < 1 then .int .u8 (0) else if zq < 2 then .int .u64 (0) else if zq < 4 then .int .i64 (0) else .int .u64 (0)) 0 1 (fun _ => .int .u8 (7)))))]) (s := 6) (zc := fun zq => if zq < 1 then .int .u8 (0) else if zq < 2 then .int .u64 (0) else if zq < 4 then .int .i64 (0) else .int .u64 (0)) (y := Fx.ovr (fun j => (fun zq => if zq < 1 then .int .u8 (0) else if zq < 2 then .int .u64 (0) else if zq < 4 then .int .i64 (0) else .int .u64 (0)) (j % 6)) (0 * 6) 6 (Fx.ovr (fun zq => if zq < 1 then .int .u8 (0) else if zq < 2 then .int .u64 (0) else if zq < 4 then .int .i64 (0) else .int .u64 (0)) 0 1 (fun _ => .int .u8 (7)))) (by rfl) rfl rfl Try.underlying76 (by kernel_rfl) (by rfl) (by rfl) (by kernel_rfl) (by rw [Fx.fill_step (off := 0 * 6) (s := 6) (y := Fx.ovr (fun zq => if zq < 1 then .int .u8 (0) else if zq < 2 then .int .u64 (0) else if zq < 4 then .int .i64 (0) else .int .u64 (0)) 0 1 (fun _ => .int .u8 (7))) rfl (Fx.cells_agg _ _) (by rfl)]; rfl) rfl fun g6 w12 eg6 m50 s10 z7 => ?_
     have m51 := m25.stp s10 (Nat.ne_of_lt (m25.lt))
     have m52 := m26.stp s10 (Nat.ne_of_lt (m26.lt))
     have m53 := m27.stp s10 (Nat.ne_of_lt (m27.lt))
     have m54 := m28.stp s10 (Nat.ne_of_lt (m28.lt))
     have m55 := m29.stp s10 (m29.notNew (Nat.le_refl _))
     have b13 := s10.below b8 b8.size b8.size
     have lg6 : w.heap.size ≤ g6 := by rw [eg6]; exact b8.size
     have ng6m51 : g1 ≠ g6 := by rw [eg6]; exact Nat.ne_of_lt (m25.lt)
     have ng6m52 : g2 ≠ g6 := by rw [eg6]; exact Nat.ne_of_lt (m26.lt)
     have ng6m53 : g3 ≠ g6 := by rw [eg6]; exact Nat.ne_of_lt (m27.lt)
     have ng6m54 : g4 ≠ g6 := by rw [eg6]; exact Nat.ne_of_lt (m28.lt)
     have ng6m55 : (.slice a (n) (cap) : Value).ownBlock ≠ some g6 := by rw [eg6]; exact m29.notNew (Nat.le_refl _)
     have tg6 : g6 < w12.heap.size := m50.lt
     clear eg6
     refine Fx.L.app (B := w.heap.size) (s := 6) (bytes := 48) (k := n) (m := 1) (v := .slice a (n) (cap)) (x := asX (leaveN id R i tj k)) (by rfl) rfl rfl rfl Try.underlying76 (by kernel_rfl) (by kernel_rfl) rfl rfl m55 m50.cel (one6 (fun j hj => by rcases j with _|_|_|_|_|_|j <;> first | rfl | omega)) (by omega) (by omega) (by omega) b13.size fun g7 cap1 w13 ho1 hg1 hgv1 hlt1 => ?_
     have hct3 := Fx.ChT.of_grown hg1 m55
     have m57 := m51.chT hct3 (by decide)
     have m58 := m52.chT hct3 (by decide)
     have m59 := m53.chT hct3 (by decide)
     have m60 := m54.chT hct3 (by decide)
     have m56 : Fx.Own w13 w.heap.size 116 6 (.slice (some ⟨g7, 0, none⟩) (n + 1) cap1) (n + 1) (asX (leaveN id R i tj k ++ [askLv])) := (ho1.congr (fun j hj => as_app hn (fun j hj => by rcases j with _|_|_|_|_|_|j <;> first | rfl | omega) j hj))
     have b14 : Below w.heap.size w w13 := Fx.Below.grow b13 hg1 b13.size (fun q hq => (m55.ge hq).1)
     refine Fx.L.v (.slice (some ⟨g7, 0, none⟩) (n + 1) (cap1)) (Fx.x_assign rfl rfl) ?_
     refine Fx.L.v (.int .i64 (0)) (Fx.x_assign rfl rfl) ?_
     refine Fx.L.nil (Fx.seqN (Fx.W.ret (⟨.tuple #[.slice (some ⟨g7, 0, none⟩) (n + 1) (cap1), .int .i64 (0)], Fx.retV2 Try.results32 (by exact rfl) (by exact rfl), ?_⟩)))
     have hz := leave_ok (s := s) (i := i) (tj := tj) (id := id) (R := R) c17 c22 c28
     obtain ek : k = s.nn := by omega
     exact ⟨_, n + 1, by rw [hz.1], by rw [hz.2, List.length_append, ← ek, ← hn]; rfl, by rw [hz.2, ← ek]; exact m56, b14⟩
  ·rw [Bool.not_eq_true] at c22
   refine Fx.L.call (by rfl) (Fx.r_call (args := [.slice a9 (n9) (cap9), .int .i64 (tj)]) rfl rfl Try.func75 rfl rfl) rfl (((g_contains a9 n9 cap9 (liveN s 6) tj _ m13.arr (by omega)).mono (fun e w2 h2 => (⟨h2.1.trans (by rw [hn9, live_has]), h2.2⟩ : e = .returned (.bool (liveI s tj)) ∧ _))).mono ?_)
   rintro e w14 ⟨he, hb4⟩
   refine ⟨.bool false, by rw [he, c22], ?_⟩
   clear he
   have s11 := Fx.Stp.of_below hb4
   have m61 := m10.stp s11 (Nat.ne_of_lt (m10.lt))
   have m62 := m11.stp s11 (Nat.ne_of_lt (m11.lt))
   have m63 := m12.stp s11 (Nat.ne_of_lt (m12.lt))
   have m64 := m13.stp s11 (m13.notNew (Nat.le_refl _))
   have b15 := s11.below b5 b5.size b5.size
   refine Fx.L.v (.bool true) (Fx.x_notT rfl rfl) ?_
   refine Fx.L.v (.bool true) (Fx.x_pickF rfl rfl rfl) ?_
   refine Fx.L.v (.bool true) (Fx.x_move rfl rfl) ?_
   refine Fx.L.skip (by rfl) rfl ?_
   refine Fx.L.skip (by rfl) rfl ?_
   refine Fx.L.skip (by rfl) rfl ?_
   refine Fx.L.v (.bool true) (Fx.x_pickT rfl rfl rfl) ?_
   refine Fx.L.nil (Fx.seqN (Fx.W.cond (b := true) rfl (fun _ => Fx.W.seq (Fx.W.list (Fx.L.v (.slice none 0 0) (Fx.x_assign rfl rfl) ?_))) (fun h => nomatch h)))
   refine Fx.L.v (.int .i64 (10)) (Fx.x_assign rfl rfl) ?_
   refine Fx.L.nil (Fx.seqN (Fx.W.ret (Fx.seqR (⟨.tuple #[.slice none 0 0, .int .i64 (10)], Fx.retV2 Try.results32 (by exact rfl) (by exact rfl), ?_⟩))))
   have hz := leave_no (s := s) (i := i) (tj := tj) (id := id) (R := R) (.inr (.inl c22))
   exact ⟨.slice none 0 0, 0, by rw [hz.1], by rw [hz.2]; rfl, by rw [hz.2]; exact Fx.Own.nil _ _ _ _ _, b15⟩
 ·rw [Bool.not_eq_true] at c17
  refine Fx.L.call (by rfl) (Fx.r_call (args := [.slice a9 (n9) (cap9), .int .i64 (i)]) rfl rfl Try.func75 rfl rfl) rfl (((g_contains a9 n9 cap9 (liveN s 6) i _ hO9.arr (by omega)).mono (fun e w2 h2 => (⟨h2.1.trans (by rw [hn9, live_has]), h2.2⟩ : e = .returned (.bool (liveI s i)) ∧ _))).mono ?_)
  rintro e w15 ⟨he, hb5⟩
  refine ⟨.bool false, by rw [he, c17], ?_⟩
  clear he
  have s12 := Fx.Stp.of_below hb5
  have m65 := m7.stp s12 (Nat.ne_of_lt (m7.lt))
  have m66 := m8.stp s12 (Nat.ne_of_lt (m8.lt))
  have m67 := m9.stp s12 (Nat.ne_of_lt (m9.lt))
  have m68 := hO9.stp s12 (hO9.notNew (Nat.le_refl _))
  have b16 := s12.below b4 b4.size b4.size
  refine Fx.L.v (.bool true) (Fx.x_notT rfl rfl) ?_
  refine Fx.L.v (.bool true) (Fx.x_move rfl rfl) ?_
  refine Fx.L.skip (by rfl) rfl ?_
  refine Fx.L.skip (by rfl) rfl ?_
  refine Fx.L.skip (by rfl) rfl ?_
  refine Fx.L.skip (by rfl) rfl ?_
  refine Fx.L.v (.bool true) (Fx.x_pickT rfl rfl rfl) ?_
  refine Fx.L.v (.bool true) (Fx.x_move rfl rfl) ?_
  refine Fx.L.skip (by rfl) rfl ?_
  refine Fx.L.skip (by rfl) rfl ?_
  refine Fx.L.skip (by rfl) rfl ?_
  refine Fx.L.v (.bool true) (Fx.x_pickT rfl rfl rfl) ?_
  refine Fx.L.nil (Fx.seqN (Fx.W.cond (b := true) rfl (fun _ => Fx.W.seq (Fx.W.list (Fx.L.v (.slice none 0 0) (Fx.x_assign rfl rfl) ?_))) (fun h => nomatch h)))
  refine Fx.L.v (.int .i64 (10)) (Fx.x_assign rfl rfl) ?_
  refine Fx.L.nil (Fx.seqN (Fx.W.ret (Fx.seqR (⟨.tuple #[.slice none 0 0, .int .i64 (10)], Fx.retV2 Try.results32 (by exact rfl) (by exact rfl), ?_⟩))))
  have hz := leave_no (s := s) (i := i) (tj := tj) (id := id) (R := R) (.inl c17)
  exact ⟨.slice none 0 0, 0, by rw [hz.1], by rw [hz.2]; rfl, by rw [hz.2]; exact Fx.Own.nil _ _ _ _ _, b16⟩
set_option maxRecDepth 10000 in
theorem r_leave (s : StM) (id par : Nat → Int) (R : Nat → Nat → Int) (i tj : Int) (w : World) (hnn : s.nn ≤ 900000) (hnd : Nds w s.na s.nn id par R) (hi : -9223372036854775808 ≤ i ∧ i ≤ 9223372036854775807) :
    Calls Try.prog 33 #[.agg (Fx.varr 20 (stY s)), .int .i64 (i), .int .i64 (tj)] w fun e w' => ∃ v n, e = .returned (.tuple #[v, .int .i64 (leaveE s i tj)]) ∧ n = (leaveL s id R i tj).length ∧ Fx.Own w' w.heap.size 116 6 v n (asX (leaveL s id R i tj)) ∧ Below w.heap.size w w' := by
 refine Fx.enter Try.func33 rfl (n := 60) rfl (by rfl) ?_
 refine Fx.W.seq (Fx.W.list (Fx.L.box (m := 20) (y := stY s) (by rfl) rfl rfl (Fx.cells_agg _ _) rfl fun g1 w1 eg1 m1 s1 z1 => ?_))
 have b1 := s1.below (Below.refl w.heap.size w) (Below.refl w.heap.size w).size (Below.refl w.heap.size w).size
 have lg1 : w.heap.size ≤ g1 := by rw [eg1]; exact (Below.refl w.heap.size w).size
 have tg1 : g1 < w1.heap.size := m1.lt
 clear eg1
 refine Fx.L.v (.slice none 0 0) (Fx.x_assign rfl rfl) ?_
 refine Fx.L.v (.int .i64 (0)) (Fx.x_assign rfl rfl) ?_
 refine Fx.L.nil (Fx.seqN (Fx.W.seq (Fx.W.seq (Fx.W.list (Fx.L.v (.agg (Fx.varr 20 (stY s))) (Fx.x_loadA (x := stY s) (y := stY s) rfl rfl (by kernel_rfl) (by kernel_rfl) m1.cel (i := 0) (by omega) (by omega) (fun j _ => by rw [Nat.zero_add])) ?_)))))
 refine Fx.L.v (.int .i64 (i)) (Fx.x_move rfl rfl) ?_
 by_cases c13 : (liveI s i) = true
 ·refine Fx.L.call (by rfl) (Fx.r_call (args := [.agg (Fx.varr 20 (stY s)), .int .i64 (i)]) rfl rfl Try.func74 rfl rfl) rfl ((r_live1 s i _).mono ?_)
  rintro e w2 ⟨he, hb1⟩
  refine ⟨.bool true, by rw [he, c13], ?_⟩
  clear he
  have s2 := Fx.Stp.of_below hb1
  have m2 := m1.stp s2 (Nat.ne_of_lt (m1.lt))
  have b2 := s2.below b1 b1.size b1.size
  refine Fx.L.v (.bool false) (Fx.x_notF rfl rfl) ?_
  refine Fx.L.v (.bool false) (Fx.x_move rfl rfl) ?_
  refine Fx.L.v (.agg (Fx.varr 20 (stY s))) (Fx.x_loadA (x := stY s) (y := stY s) rfl rfl (by kernel_rfl) (by kernel_rfl) m2.cel (i := 0) (by omega) (by omega) (fun j _ => by rw [Nat.zero_add])) ?_
  refine Fx.L.v (.int .i64 (tj)) (Fx.x_move rfl rfl) ?_
  by_cases c18 : (liveI s tj) = true
  ·refine Fx.L.call (by rfl) (Fx.r_call (args := [.agg (Fx.varr 20 (stY s)), .int .i64 (tj)]) rfl rfl Try.func74 rfl rfl) rfl ((r_live1 s tj _).mono ?_)
   rintro e w3 ⟨he, hb2⟩
   refine ⟨.bool true, by rw [he, c18], ?_⟩
   clear he
   have s3 := Fx.Stp.of_below hb2
   have m3 := m2.stp s3 (Nat.ne_of_lt (m2.lt))
   have b3 := s3.below b2 b2.size b2.size
   refine Fx.L.v (.bool false) (Fx.x_notF rfl rfl) ?_
   refine Fx.L.v (.bool false) (Fx.x_pickF rfl rfl rfl) ?_
   refine Fx.L.v (.bool false) (Fx.x_move rfl rfl) ?_
   refine Fx.L.v (.int .i64 (i)) (Fx.x_move rfl rfl) ?_
   refine Fx.L.v (.int .i64 (tj)) (Fx.x_move rfl rfl) ?_
   by_cases c24 : i = tj
   ·refine Fx.L.v (.bool true) (Fx.x_eqlT rfl rfl rfl c24) ?_
    refine Fx.L.v (.bool true) (Fx.x_pickF rfl rfl rfl) ?_
    refine Fx.L.nil (Fx.seqN (Fx.W.cond (b := true) rfl (fun _ => Fx.W.seq (Fx.W.list (Fx.L.v (.slice none 0 0) (Fx.x_assign rfl rfl) ?_))) (fun h => nomatch h)))
    refine Fx.L.v (.int .i64 (10)) (Fx.x_assign rfl rfl) ?_
    refine Fx.L.nil (Fx.seqN (Fx.W.ret (Fx.seqR (⟨.tuple #[.slice none 0 0, .int .i64 (10)], Fx.retV2 Try.results33 (by exact rfl) (by exact rfl), ?_⟩))))
    have hz := leave_no (s := s) (i := i) (tj := tj) (id := id) (R := R) (.inr (.inr c24))
    exact ⟨.slice none 0 0, 0, by rw [hz.1], by rw [hz.2]; rfl, by rw [hz.2]; exact Fx.Own.nil _ _ _ _ _, b3⟩
   ·refine Fx.L.v (.bool false) (Fx.x_eqlF rfl rfl rfl c24) ?_
    refine Fx.L.v (.bool false) (Fx.x_pickF rfl rfl rfl) ?_
    refine Fx.L.nil (Fx.seqN (Fx.W.cond (b := false) rfl (fun h => nomatch h) (fun _ => Fx.W.skip (Fx.seqN (Fx.W.seq (Fx.W.list (Fx.L.v (.slice none 0 0) (Fx.x_assign rfl rfl) ?_)))))))
    refine Fx.L.nil (Fx.seqN (Fx.W.seq (Fx.W.seq (Fx.W.list (Fx.L.v (.int .i64 (0)) (Fx.x_assign rfl rfl) ?_)))))
    refine Fx.L.nil (Fx.seqN (Fx.W.block ?_))
    have m4 : Fx.Own w3 w.heap.size 116 6 (.slice none 0 0) 0 (asX (leaveN id R i tj 0)) := Fx.Own.nil _ _ _ _ _
    refine Fx.W.loop (fun f w_ => ∃ k : Nat, ∃ n : Nat, ∃ a : Option Addr, ∃ cap : Nat, k ≤ s.nn ∧ n = (leaveN id R i tj k).length ∧ f 1 = .int .i64 (i) ∧ f 2 = .int .i64 (tj) ∧ f 3 = .pointer (some ⟨g1, 0, none⟩) ∧ f 8 = .slice a (n) (cap) ∧ f 9 = .int .i64 ((k : Int)) ∧ Fx.Blk w_ g1 20 (stY s) 43 ∧ Fx.Own w_ w.heap.size 116 6 (.slice a (n) (cap)) n (asX (leaveN id R i tj k)) ∧ Below w.heap.size w w_) (fun f _ => (s.nn - (intOf (f 9)).toNat)) ⟨0, 0, none, 0, by omega, rfl, (by first | rfl | exact congrArg (Value.int .i64) (by omega)), (by first | rfl | exact congrArg (Value.int .i64) (by omega)), (by rfl), (by rfl), (by first | rfl | exact congrArg (Value.int .i64) (by omega)), m3, m4, b3⟩ ?_
    rintro f1 w4 ⟨k, n, a, cap, hk, hn, h1, h2, h3, h4, h5, m5, m6, b4⟩
    have hnl := leaveN_len id R i tj k
    refine Fx.W.seq (Fx.W.seq (Fx.W.list (Fx.L.v (.int .i64 ((k : Int))) (Fx.x_move rfl h5) ?_)))
    refine Fx.L.v (.pointer (some ⟨g1, 18, none⟩)) (Fx.x_field rfl h3 Try.underlying43 rfl (s := 1) (by kernel_rfl) rfl (by show _ + 18 = _; omega)) ?_
    refine Fx.L.v (.slice s.na (s.nn) (s.nc)) (Fx.x_load1 (x := stY s) rfl rfl (by kernel_rfl) m5.cel (i := 18) (by omega) (by omega) rfl) ?_
    refine Fx.L.v (.int .i64 ((s.nn : Int))) (Fx.x_len rfl rfl rfl (by kernel_rfl)) ?_
    by_cases c30 : (k : Int) < (s.nn : Int)
    ·refine Fx.L.v (.bool true) (Fx.x_lssT rfl rfl rfl c30) ?_
     refine Fx.L.nil (Fx.seqN (Fx.W.cond (b := true) rfl (fun _ => Fx.W.skip (Fx.seqN (Fx.W.seq (Fx.W.block (Fx.W.seq ?_))))) (fun h => nomatch h)))
     obtain ⟨b5, off1, ea1, hcn1⟩ := hnd k (by omega)
     have lb5 : b5 < w.heap.size := hcn1.lt (by omega)
     have m7 := hcn1.below b4 lb5
     refine Fx.W.list (Fx.L.v (.pointer (some ⟨g1, 18, none⟩)) (Fx.x_field rfl h3 Try.underlying43 rfl (s := 1) (by kernel_rfl) rfl (by show _ + 18 = _; omega)) ?_)
     refine Fx.L.v (.slice s.na (s.nn) (s.nc)) (Fx.x_load1 (x := stY s) rfl rfl (by kernel_rfl) m5.cel (i := 18) (by omega) (by omega) rfl) ?_
     refine Fx.L.v (.int .i64 ((k : Int))) (Fx.x_move rfl h5) ?_
     refine Fx.L.v (.pointer (some ⟨b5, 56 * k + off1, none⟩)) (Fx.x_indexS rfl (rfl.trans (congrArg (fun q => Value.slice q (s.nn) (s.nc)) ea1)) rfl Try.underlying40 (s := 56) (by kernel_rfl) (by omega) (by omega) (by omega)) ?_
     refine Fx.L.v (.pointer (some ⟨b5, 56 * k + off1 + 2, none⟩)) (Fx.x_field rfl rfl Try.underlying50 rfl (s := 54) (by kernel_rfl) rfl (by show _ + 2 = _; omega)) ?_
     refine Fx.L.v (.agg (Fx.varr 54 (Fx.rv .i64 (R k)))) (Fx.x_loadA (x := ndY (id k) (par k) (R k)) (y := Fx.rv .i64 (R k)) rfl rfl (by kernel_rfl) (by kernel_rfl) m7 (i := 2) (by omega) (by omega) (fun q _ => ndY_row _ _ _ q)) ?_
     refine Fx.L.v (.int .i64 (i)) (Fx.x_move rfl h1) ?_
     refine Fx.L.call (by rfl) (Fx.r_call (args := [.agg (Fx.varr 54 (Fx.rv .i64 (R k))), .int .i64 (i)]) rfl rfl Try.func52 rfl rfl) rfl ((f7_localV (R k) i _).mono ?_)
     rintro e w5 ⟨he, hb3⟩
     refine ⟨.int .i64 (localV (R k) i), by rw [he], ?_⟩
     clear he
     have s4 := Fx.Stp.of_below hb3
     have m8 := m5.stp s4 (Nat.ne_of_lt (m5.lt))
     have m9 := m6.stp s4 (m6.notNew (Nat.le_refl _))
     have m10 := m7.stp s4 (Nat.ne_of_lt (m7.lt (by omega)))
     have b6 := s4.below b4 b4.size b4.size
     refine Fx.L.v (.int .i64 (localV (R k) i)) (Fx.x_assign rfl rfl) ?_
     refine Fx.L.nil (Fx.seqN (Fx.W.seq (Fx.W.list (Fx.L.v (.int .i64 (localV (R k) i)) (Fx.x_move rfl rfl) ?_))))
     by_cases c42 : 0 < (localV (R k) i)
     ·refine Fx.L.v (.bool true) (Fx.x_gtrT rfl rfl rfl c42) ?_
      refine Fx.L.nil (Fx.seqN (Fx.W.cond (b := true) rfl (fun _ => Fx.W.list (Fx.L.v (.slice a (n) (cap)) (Fx.x_move rfl h4) ?_)) (fun h => nomatch h)))
      refine Fx.L.v (.pointer (some ⟨g1, 18, none⟩)) (Fx.x_field rfl h3 Try.underlying43 rfl (s := 1) (by kernel_rfl) rfl (by show _ + 18 = _; omega)) ?_
      refine Fx.L.v (.slice s.na (s.nn) (s.nc)) (Fx.x_load1 (x := stY s) rfl rfl (by kernel_rfl) m8.cel (i := 18) (by omega) (by omega) rfl) ?_
      refine Fx.L.v (.int .i64 ((k : Int))) (Fx.x_move rfl h5) ?_
      refine Fx.L.v (.pointer (some ⟨b5, 56 * k + off1, none⟩)) (Fx.x_indexS rfl (rfl.trans (congrArg (fun q => Value.slice q (s.nn) (s.nc)) ea1)) rfl Try.underlying40 (s := 56) (by kernel_rfl) (by omega) (by omega) (by omega)) ?_
      refine Fx.L.v (.pointer (some ⟨b5, 56 * k + off1, none⟩)) (Fx.x_field rfl rfl Try.underlying50 rfl (s := 1) (by kernel_rfl) rfl rfl) ?_
      refine Fx.L.v (.int .u64 (id k)) (Fx.x_load1 (x := ndY (id k) (par k) (R k)) rfl rfl (by kernel_rfl) m10 (i := 0) (by omega) (by omega) rfl) ?_
      refine Fx.L.v (.int .i64 (tj)) (Fx.x_move rfl h2) ?_
      refine Fx.L.v (.int .i64 (localV (R k) i)) (Fx.x_move rfl rfl) ?_
      refine Fx.L.v (.int .i64 (mnI (localV (R k) i) 1125899906842624)) (Fx.x_min rfl rfl rfl) ?_
      refine Fx.L.v (.agg (Fx.varr 6 (Fx.ovr (Fx.ovr (Fx.ovr (Fx.ovr (fun zq => if zq < 1 then .int .u8 (0) else if zq < 2 then .int .u64 (0) else if zq < 4 then .int .i64 (0) else .int .u64 (0)) 0 1 (fun _ => .int .u8 (5))) 1 1 (fun _ => .int .u64 (id k))) 2 1 (fun _ => .int .i64 (tj))) 3 1 (fun _ => .int .i64 (mnI (localV (R k) i) 1125899906842624))))) (Fx.x_build (vs := [(0, .int .u8 (5)), (1, .int .u64 (id k)), (2, .int .i64 (tj)), (3, .int .i64 (mnI (localV (R k) i) 1125899906842624))]) (places := #[(0, 1), (1, 1), (2, 1), (3, 1), (4, 1), (5, 1)]) (m := 6) (x := fun zq => if zq < 1 then .int .u8 (0) else if zq < 2 then .int .u64 (0) else if zq < 4 then .int .i64 (0) else .int .u64 (0)) rfl rfl Try.underlying116 (by kernel_rfl) (by kernel_rfl) (by rw [Fx.fill_step (off := 0) (s := 1) (y := fun _ => .int .u8 (5)) (by kernel_rfl) (Fx.cells_one (by rfl)) (by rfl)]; rw [Fx.fill_step (off := 1) (s := 1) (y := fun _ => .int .u64 (id k)) (by kernel_rfl) (Fx.cells_one (by rfl)) (by rfl)]; rw [Fx.fill_step (off := 2) (s := 1) (y := fun _ => .int .i64 (tj)) (by kernel_rfl) (Fx.cells_one (by rfl)) (by rfl)]; rw [Fx.fill_step (off := 3) (s := 1) (y := fun _ => .int .i64 (mnI (localV (R k) i) 1125899906842624)) (by kernel_rfl) (Fx.cells_one (by rfl)) (by rfl)]; rfl)) ?_
      refine Fx.L.bslice (vs := [(0, .agg (Fx.varr 6 (Fx.ovr (Fx.ovr (Fx.ovr (Fx.ovr (fun zq => if zq < 1 then .int .u8 (0) else if zq < 2 then .int .u64 (0) else if zq < 4 then .int .i64 (0) else .int .u64 (0)) 0 1 (fun _ => .int .u8 (5))) 1 1 (fun _ => .int .u64 (id k))) 2 1 (fun _ => .int .i64 (tj))) 3 1 (fun _ => .int .i64 (mnI (localV (R k) i) 1125899906842624)))))]) (s := 6) (zc := fun zq => if zq < 1 then .int .u8 (0) else if zq < 2 then .int .u64 (0) else if zq < 4 then .int .i64 (0) else .int .u64 (0)) (y := Fx.ovr (fun j => (fun zq => if zq < 1 then .int .u8 (0) else if zq < 2 then .int .u64 (0) else if zq < 4 then .int .i64 (0) else .int .u64 (0)) (j % 6)) (0 * 6) 6 (Fx.ovr (Fx.ovr (Fx.ovr (Fx.ovr (fun zq => if zq < 1 then .int .u8 (0) else if zq < 2 then .int .u64 (0) else if zq < 4 then .int .i64 (0) else .int .u64 (0)) 0 1 (fun _ => .int .u8 (5))) 1 1 (fun _ => .int .u64 (id k))) 2 1 (fun _ => .int .i64 (tj))) 3 1 (fun _ => .int .i64 (mnI (localV (R k) i) 1125899906842624)))) (by rfl) rfl rfl Try.underlying76 (by kernel_rfl) (by rfl) (by rfl) (by kernel_rfl) (by rw [Fx.fill_step (off := 0 * 6) (s := 6) (y := Fx.ovr (Fx.ovr (Fx.ovr (Fx.ovr (fun zq => if zq < 1 then .int .u8 (0) else if zq < 2 then .int .u64 (0) else if zq < 4 then .int .i64 (0) else .int .u64 (0)) 0 1 (fun _ => .int .u8 (5))) 1 1 (fun _ => .int .u64 (id k))) 2 1 (fun _ => .int .i64 (tj))) 3 1 (fun _ => .int .i64 (mnI (localV (R k) i) 1125899906842624))) rfl (Fx.cells_agg _ _) (by rfl)]; rfl) rfl fun g2 w6 eg2 m11 s5 z2 => ?_
      have m12 := m8.stp s5 (Nat.ne_of_lt (m8.lt))
      have m13 := m9.stp s5 (m9.notNew (Nat.le_refl _))
      have m14 := m10.stp s5 (Nat.ne_of_lt (m10.lt (by omega)))
      have b7 := s5.below b6 b6.size b6.size
      have lg2 : w.heap.size ≤ g2 := by rw [eg2]; exact b6.size
      have ng2m12 : g1 ≠ g2 := by rw [eg2]; exact Nat.ne_of_lt (m8.lt)
      have ng2m13 : (.slice a (n) (cap) : Value).ownBlock ≠ some g2 := by rw [eg2]; exact m9.notNew (Nat.le_refl _)
      have ng2m14 : b5 ≠ g2 := by rw [eg2]; exact Nat.ne_of_lt (m10.lt (by omega))
      have tg2 : g2 < w6.heap.size := m11.lt
      clear eg2
      refine Fx.L.app (B := w.heap.size) (s := 6) (bytes := 48) (k := n) (m := 1) (v := .slice a (n) (cap)) (x := asX (leaveN id R i tj k)) (by rfl) rfl rfl rfl Try.underlying76 (by kernel_rfl) (by kernel_rfl) rfl rfl m13 m11.cel (one6 (fun j hj => by rcases j with _|_|_|_|_|_|j <;> first | rfl | omega)) (by omega) (by omega) (by omega) b7.size fun g3 cap1 w7 ho1 hg1 hgv1 hlt1 => ?_
      have hct1 := Fx.ChT.of_grown hg1 m13
      have m16 := m12.chT hct1 (by decide)
      have m17 := m14.grown hg1 (m13.not (by omega))
      have m15 : Fx.Own w7 w.heap.size 116 6 (.slice (some ⟨g3, 0, none⟩) (n + 1) cap1) (n + 1) (asX (leaveN id R i tj (k + 1))) := (ho1.congr (fun j hj => by rw [leaveN, leave1, if_pos c42]; exact as_app hn (fun j hj => by rcases j with _|_|_|_|_|_|j <;> first | rfl | omega) j hj))
      have b8 : Below w.heap.size w w7 := Fx.Below.grow b7 hg1 b7.size (fun q hq => (m13.ge hq).1)
      refine Fx.L.v (.slice (some ⟨g3, 0, none⟩) (n + 1) (cap1)) (Fx.x_assign rfl rfl) ?_
      refine Fx.L.nil (Fx.blkN (Fx.seqN (Fx.W.list (Fx.L.v (.int .i64 ((k : Int))) (Fx.x_move rfl h5) ?_))))
      refine Fx.L.v (.int .i64 ((k : Int) + 1)) (Fx.x_add rfl rfl rfl (Fx.i64e (by omega) (by omega))) ?_
      refine Fx.L.v (.int .i64 ((k : Int) + 1)) (Fx.x_assign rfl rfl) ?_
      refine Fx.L.nil ?_
      skip
      refine Fx.lpN ⟨k + 1, n + 1, (some ⟨g3, 0, none⟩), cap1, by omega, (by rw [leaveN, leave1, if_pos c42, List.length_append, ← hn]; rfl), (h1.trans (by first | rfl | exact congrArg (Value.int .i64) (by omega))), (h2.trans (by first | rfl | exact congrArg (Value.int .i64) (by omega))), h3, (by rfl), (by first | rfl | exact congrArg (Value.int .i64) (by omega)), m16, m15, b8⟩ ?_
      show (s.nn - (intOf ((.int .i64 ((k : Int) + 1)))).toNat) < _
      simp only [h5, intOf]; omega
     ·refine Fx.L.v (.bool false) (Fx.x_gtrF rfl rfl rfl c42) ?_
      refine Fx.L.nil (Fx.seqN (Fx.W.cond (b := false) rfl (fun h => nomatch h) (fun _ => Fx.W.skip (Fx.blkN (Fx.seqN (Fx.W.list (Fx.L.v (.int .i64 ((k : Int))) (Fx.x_move rfl h5) ?_)))))))
      refine Fx.L.v (.int .i64 ((k : Int) + 1)) (Fx.x_add rfl rfl rfl (Fx.i64e (by omega) (by omega))) ?_
      refine Fx.L.v (.int .i64 ((k : Int) + 1)) (Fx.x_assign rfl rfl) ?_
      refine Fx.L.nil ?_
      have m18 := m9.congr (y := asX (leaveN id R i tj (k + 1))) (fun j _ => by rw [leaveN, leave1, if_neg c42])
      skip
      refine Fx.lpN ⟨k + 1, n, a, cap, by omega, (by rw [leaveN, leave1, if_neg c42]; exact hn), (h1.trans (by first | rfl | exact congrArg (Value.int .i64) (by omega))), (h2.trans (by first | rfl | exact congrArg (Value.int .i64) (by omega))), h3, h4, (by first | rfl | exact congrArg (Value.int .i64) (by omega)), m8, m18, b6⟩ ?_
      show (s.nn - (intOf ((.int .i64 ((k : Int) + 1)))).toNat) < _
      simp only [h5, intOf]; omega
    ·refine Fx.L.v (.bool false) (Fx.x_lssF rfl rfl rfl c30) ?_
     refine Fx.L.nil (Fx.seqN (Fx.W.cond (b := false) rfl (fun h => nomatch h) (fun _ => Fx.W.exit (Fx.seqX (Fx.lpX (Fx.blkX (Fx.seqN (Fx.W.seq (Fx.W.list (Fx.L.v (.slice a (n) (cap)) (Fx.x_move rfl h4) ?_))))))))))
     refine Fx.L.v (.agg (Fx.varr 6 (Fx.ovr (fun zq => if zq < 1 then .int .u8 (0) else if zq < 2 then .int .u64 (0) else if zq < 4 then .int .i64 (0) else .int .u64 (0)) 0 1 (fun _ => .int .u8 (7))))) (Fx.x_build (vs := [(0, .int .u8 (7))]) (places := #[(0, 1), (1, 1), (2, 1), (3, 1), (4, 1), (5, 1)]) (m := 6) (x := fun zq => if zq < 1 then .int .u8 (0) else if zq < 2 then .int .u64 (0) else if zq < 4 then .int .i64 (0) else .int .u64 (0)) rfl rfl Try.underlying116 (by kernel_rfl) (by kernel_rfl) (by rw [Fx.fill_step (off := 0) (s := 1) (y := fun _ => .int .u8 (7)) (by kernel_rfl) (Fx.cells_one (by rfl)) (by rfl)]; rfl)) ?_
     refine Fx.L.bslice (vs := [(0, .agg (Fx.varr 6 (Fx.ovr (fun zq => if zq < 1 then .int .u8 (0) else if zq < 2 then .int .u64 (0) else if zq < 4 then .int .i64 (0) else .int .u64 (0)) 0 1 (fun _ => .int .u8 (7)))))]) (s := 6) (zc := fun zq => if zq < 1 then .int .u8 (0) else if zq < 2 then .int .u64 (0) else if zq < 4 then .int .i64 (0) else .int .u64 (0)) (y := Fx.ovr (fun j => (fun zq => if zq < 1 then .int .u8 (0) else if zq < 2 then .int .u64 (0) else if zq < 4 then .int .i64 (0) else .int .u64 (0)) (j % 6)) (0 * 6) 6 (Fx.ovr (fun zq => if zq < 1 then .int .u8 (0) else if zq < 2 then .int .u64 (0) else if zq < 4 then .int .i64 (0) else .int .u64 (0)) 0 1 (fun _ => .int .u8 (7)))) (by rfl) rfl rfl Try.underlying76 (by kernel_rfl) (by rfl) (by rfl) (by kernel_rfl) (by rw [Fx.fill_step (off := 0 * 6) (s := 6) (y := Fx.ovr (fun zq => if zq < 1 then .int .u8 (0) else if zq < 2 then .int .u64 (0) else if zq < 4 then .int .i64 (0) else .int .u64 (0)) 0 1 (fun _ => .int .u8 (7))) rfl (Fx.cells_agg _ _) (by rfl)]; rfl) rfl fun g4 w8 eg4 m19 s6 z3 => ?_
     have m20 := m5.stp s6 (Nat.ne_of_lt (m5.lt))
     have m21 := m6.stp s6 (m6.notNew (Nat.le_refl _))
     have b9 := s6.below b4 b4.size b4.size
     have lg4 : w.heap.size ≤ g4 := by rw [eg4]; exact b4.size
     have ng4m20 : g1 ≠ g4 := by rw [eg4]; exact Nat.ne_of_lt (m5.lt)
     have ng4m21 : (.slice a (n) (cap) : Value).ownBlock ≠ some g4 := by rw [eg4]; exact m6.notNew (Nat.le_refl _)
     have tg4 : g4 < w8.heap.size := m19.lt
     clear eg4
     refine Fx.L.app (B := w.heap.size) (s := 6) (bytes := 48) (k := n) (m := 1) (v := .slice a (n) (cap)) (x := asX (leaveN id R i tj k)) (by rfl) rfl rfl rfl Try.underlying76 (by kernel_rfl) (by kernel_rfl) rfl rfl m21 m19.cel (one6 (fun j hj => by rcases j with _|_|_|_|_|_|j <;> first | rfl | omega)) (by omega) (by omega) (by omega) b9.size fun g5 cap2 w9 ho2 hg2 hgv2 hlt2 => ?_
     have hct2 := Fx.ChT.of_grown hg2 m21
     have m23 := m20.chT hct2 (by decide)
     have m22 : Fx.Own w9 w.heap.size 116 6 (.slice (some ⟨g5, 0, none⟩) (n + 1) cap2) (n + 1) (asX (leaveN id R i tj k ++ [askLv])) := (ho2.congr (fun j hj => as_app hn (fun j hj => by rcases j with _|_|_|_|_|_|j <;> first | rfl | omega) j hj))
     have b10 : Below w.heap.size w w9 := Fx.Below.grow b9 hg2 b9.size (fun q hq => (m21.ge hq).1)
     refine Fx.L.v (.slice (some ⟨g5, 0, none⟩) (n + 1) (cap2)) (Fx.x_assign rfl rfl) ?_
     refine Fx.L.v (.int .i64 (0)) (Fx.x_assign rfl rfl) ?_
     refine Fx.L.nil (Fx.seqN (Fx.W.ret (⟨.tuple #[.slice (some ⟨g5, 0, none⟩) (n + 1) (cap2), .int .i64 (0)], Fx.retV2 Try.results33 (by exact rfl) (by exact rfl), ?_⟩)))
     have hz := leave_ok (s := s) (i := i) (tj := tj) (id := id) (R := R) c13 c18 c24
     obtain ek : k = s.nn := by omega
     exact ⟨_, n + 1, by rw [hz.1], by rw [hz.2, List.length_append, ← ek, ← hn]; rfl, by rw [hz.2, ← ek]; exact m22, b10⟩
  ·rw [Bool.not_eq_true] at c18
   refine Fx.L.call (by rfl) (Fx.r_call (args := [.agg (Fx.varr 20 (stY s)), .int .i64 (tj)]) rfl rfl Try.func74 rfl rfl) rfl ((r_live1 s tj _).mono ?_)
   rintro e w10 ⟨he, hb4⟩
   refine ⟨.bool false, by rw [he, c18], ?_⟩
   clear he
   have s7 := Fx.Stp.of_below hb4
   have m24 := m2.stp s7 (Nat.ne_of_lt (m2.lt))
   have b11 := s7.below b2 b2.size b2.size
   refine Fx.L.v (.bool true) (Fx.x_notT rfl rfl) ?_
   refine Fx.L.v (.bool true) (Fx.x_pickF rfl rfl rfl) ?_
   refine Fx.L.v (.bool true) (Fx.x_move rfl rfl) ?_
   refine Fx.L.skip (by rfl) rfl ?_
   refine Fx.L.skip (by rfl) rfl ?_
   refine Fx.L.skip (by rfl) rfl ?_
   refine Fx.L.v (.bool true) (Fx.x_pickT rfl rfl rfl) ?_
   refine Fx.L.nil (Fx.seqN (Fx.W.cond (b := true) rfl (fun _ => Fx.W.seq (Fx.W.list (Fx.L.v (.slice none 0 0) (Fx.x_assign rfl rfl) ?_))) (fun h => nomatch h)))
   refine Fx.L.v (.int .i64 (10)) (Fx.x_assign rfl rfl) ?_
   refine Fx.L.nil (Fx.seqN (Fx.W.ret (Fx.seqR (⟨.tuple #[.slice none 0 0, .int .i64 (10)], Fx.retV2 Try.results33 (by exact rfl) (by exact rfl), ?_⟩))))
   have hz := leave_no (s := s) (i := i) (tj := tj) (id := id) (R := R) (.inr (.inl c18))
   exact ⟨.slice none 0 0, 0, by rw [hz.1], by rw [hz.2]; rfl, by rw [hz.2]; exact Fx.Own.nil _ _ _ _ _, b11⟩
 ·rw [Bool.not_eq_true] at c13
  refine Fx.L.call (by rfl) (Fx.r_call (args := [.agg (Fx.varr 20 (stY s)), .int .i64 (i)]) rfl rfl Try.func74 rfl rfl) rfl ((r_live1 s i _).mono ?_)
  rintro e w11 ⟨he, hb5⟩
  refine ⟨.bool false, by rw [he, c13], ?_⟩
  clear he
  have s8 := Fx.Stp.of_below hb5
  have m25 := m1.stp s8 (Nat.ne_of_lt (m1.lt))
  have b12 := s8.below b1 b1.size b1.size
  refine Fx.L.v (.bool true) (Fx.x_notT rfl rfl) ?_
  refine Fx.L.v (.bool true) (Fx.x_move rfl rfl) ?_
  refine Fx.L.skip (by rfl) rfl ?_
  refine Fx.L.skip (by rfl) rfl ?_
  refine Fx.L.skip (by rfl) rfl ?_
  refine Fx.L.skip (by rfl) rfl ?_
  refine Fx.L.v (.bool true) (Fx.x_pickT rfl rfl rfl) ?_
  refine Fx.L.v (.bool true) (Fx.x_move rfl rfl) ?_
  refine Fx.L.skip (by rfl) rfl ?_
  refine Fx.L.skip (by rfl) rfl ?_
  refine Fx.L.skip (by rfl) rfl ?_
  refine Fx.L.v (.bool true) (Fx.x_pickT rfl rfl rfl) ?_
  refine Fx.L.nil (Fx.seqN (Fx.W.cond (b := true) rfl (fun _ => Fx.W.seq (Fx.W.list (Fx.L.v (.slice none 0 0) (Fx.x_assign rfl rfl) ?_))) (fun h => nomatch h)))
  refine Fx.L.v (.int .i64 (10)) (Fx.x_assign rfl rfl) ?_
  refine Fx.L.nil (Fx.seqN (Fx.W.ret (Fx.seqR (⟨.tuple #[.slice none 0 0, .int .i64 (10)], Fx.retV2 Try.results33 (by exact rfl) (by exact rfl), ?_⟩))))
  have hz := leave_no (s := s) (i := i) (tj := tj) (id := id) (R := R) (.inl c13)
  exact ⟨.slice none 0 0, 0, by rw [hz.1], by rw [hz.2]; rfl, by rw [hz.2]; exact Fx.Own.nil _ _ _ _ _, b12⟩
end Go.Proofs.Ytolmkjepieoloaa
namespace Go.Proofs.Ytolmkjepieoloaa
open Go.RowKit Rt
namespace Rt
theorem kd_congr {ks : List (Option IntKind)} {X Y : Nat → Value} (h : Fx.Kd ks X) (e : ∀ i, i < ks.length → X i = Y i) : Fx.Kd ks Y := fun i hi => by
  obtain ⟨l, hl⟩ := h i hi; exact ⟨l, by rw [← e i hi]; exact hl⟩
def wR : Nat → Int := upd (fun _ => 0) 0 6
def wst (g cap : Nat) : StM := ⟨fun i => decide (i < 2), fun _ => false, fun _ => 0, some ⟨g, 0, none⟩, 1, cap, none, 0, 0⟩
theorem wk_app {x z : Nat → Value} : ∀ j, j < (0 + 1) * 56 → Fx.appX x (0 * 56) (Fx.ovr z (0 * 56) 56 (ndY 9 0 wR)) j = Fx.flat 56 (fun _ => ndY 9 0 wR) j := fun j hj => by
  rw [app0]
  unfold Fx.ovr
  rw [if_pos (by omega), show j - 0 * 56 = j by omega]
  exact (Fx.flat_at (F := fun _ => ndY 9 0 wR) (k := 0) (by omega) (by omega)).symm
theorem wk_leave : ∀ g cap : Nat, leaveE (wst g cap) 1 2 = 0 ∧ leaveE (wst g cap) 1 3 = 10 := fun g cap => ⟨by kernel_rfl, by kernel_rfl⟩
theorem wk_loc : localV wR 1 = 6 := by kernel_rfl
theorem wk_list (g cap : Nat) : leaveL (wst g cap) (fun _ => 9) (fun _ => wR) 1 2 = [askMv 9 2 6, askLv] := by
  rw [(leave_ok (s := wst g cap) (by kernel_rfl) (by kernel_rfl) (by decide)).2]
  show leave1 [] 9 2 (localV wR 1) ++ [askLv] = _
  rw [wk_loc]; rfl
theorem wk_nil (g cap : Nat) : leaveL (wst g cap) (fun _ => 9) (fun _ => wR) 1 3 = [] := (leave_no (.inr (.inl (by kernel_rfl)))).2
theorem wk_live (g cap : Nat) : (liveN (wst g cap) 6).length = 2 := by kernel_rfl
end Rt
theorem r_same (a a2 : Option Addr) (n c c2 : Nat) (l : List AskM) (w : World) (hA1 : Fx.Arr w a n 6 (asX l)) (hA2 : Fx.Arr w a2 n 6 (asX l)) (hn : n = l.length) (hn2 : n ≤ 1000000) (hwf : ∀ x ∈ l, AskWf x) :
    Calls Try.prog 34 #[.slice a (n) (c), .slice a2 (n) (c2)] w fun e w' => e = .returned (.bool true) ∧ Below w.heap.size w w' := by
 refine Fx.enter Try.func34 rfl (n := 26) rfl (by rfl) ?_
 refine Fx.W.seq (Fx.W.list (Fx.L.v (.bool false) (Fx.x_assign rfl rfl) ?_))
 refine Fx.L.nil (Fx.seqN (Fx.W.seq (Fx.W.seq (Fx.W.list (Fx.L.v (.slice a (n) (c)) (Fx.x_move rfl rfl) ?_)))))
 refine Fx.L.v (.int .i64 ((n : Int))) (Fx.x_len rfl rfl rfl (by kernel_rfl)) ?_
 refine Fx.L.v (.slice a2 (n) (c2)) (Fx.x_move rfl rfl) ?_
 refine Fx.L.v (.int .i64 ((n : Int))) (Fx.x_len rfl rfl rfl (by kernel_rfl)) ?_
 refine Fx.L.v (.bool false) (Fx.x_neqF rfl rfl rfl rfl) ?_
 refine Fx.L.nil (Fx.seqN (Fx.W.cond (b := false) rfl (fun h => nomatch h) (fun _ => Fx.W.skip (Fx.seqN (Fx.W.seq (Fx.W.seq (Fx.W.list (Fx.L.v (.int .i64 (0)) (Fx.x_assign rfl rfl) ?_))))))))
 refine Fx.L.nil (Fx.seqN (Fx.W.block (Fx.W.loop (fun f w_ => ∃ k : Nat, k ≤ n ∧ f 0 = .slice a (n) (c) ∧ f 1 = .slice a2 (n) (c2) ∧ f 5 = .int .i64 ((k : Int)) ∧ Below w.heap.size w w_) (fun f _ => (n - (intOf (f 5)).toNat)) ⟨0, by omega, (by rfl), (by rfl), (by first | rfl | exact congrArg (Value.int .i64) (by omega)), (Below.refl w.heap.size w)⟩ ?_)))
 rintro f1 w1 ⟨k, hk, h1, h2, h3, b1⟩
 refine Fx.W.seq (Fx.W.seq (Fx.W.list (Fx.L.v (.int .i64 ((k : Int))) (Fx.x_move rfl h3) ?_)))
 refine Fx.L.v (.slice a (n) (c)) (Fx.x_move rfl h1) ?_
 refine Fx.L.v (.int .i64 ((n : Int))) (Fx.x_len rfl rfl rfl (by kernel_rfl)) ?_
 by_cases c14 : (k : Int) < (n : Int)
 ·refine Fx.L.v (.bool true) (Fx.x_lssT rfl rfl rfl c14) ?_
  refine Fx.L.nil (Fx.seqN (Fx.W.cond (b := true) rfl (fun _ => Fx.W.skip (Fx.seqN (Fx.W.seq (Fx.W.block (Fx.W.seq ?_))))) (fun h => nomatch h)))
  -- region 6 draws
  refine Fx.W.quiet (fun v1 => ∃ q, v1 = World.drewN w1 q) (by kernel_rfl) (by kernel_rfl) ⟨1, rfl⟩ ?_
  refine Fx.Qt.v (.slice a (n) (c)) (fun v1 hv1 => Fx.x_move rfl h1) ?_
  refine Fx.Qt.v (.int .i64 ((k : Int))) (fun v1 hv1 => Fx.x_move rfl h3) ?_
  obtain ⟨bq1, oq1, eq1, m1⟩ := (hA1.up b1 rfl) (by omega)
  have lbq1 : bq1 < w1.heap.size := m1.lt (by omega)
  refine Fx.Qt.v (.pointer (some ⟨bq1, 6 * k + oq1, none⟩)) (fun v1 hv1 => Fx.x_indexS rfl (rfl.trans (congrArg (fun q => Value.slice q (n) (c)) eq1)) rfl Try.underlying76 (s := 6) (by kernel_rfl) (by omega) (by omega) (by omega)) ?_
  refine Fx.Qt.v (.agg (Fx.varr 6 (askY (l.getD k ask0)))) (fun v1 hv1 => Fx.x_loadA (x := asX l) (y := askY (l.getD k ask0)) rfl rfl (by kernel_rfl) (by kernel_rfl) (by obtain ⟨qd, rfl⟩ := hv1; exact m1) (i := 6 * k) (by omega) (by omega) (fun jq hjq => Fx.flat_at (k := k) (by omega) hjq)) ?_
  refine Fx.Qt.v (.slice a2 (n) (c2)) (fun v1 hv1 => Fx.x_move rfl h2) ?_
  refine Fx.Qt.v (.int .i64 ((k : Int))) (fun v1 hv1 => Fx.x_move rfl h3) ?_
  obtain ⟨bq2, oq2, eq2, m2⟩ := (hA2.up b1 rfl) (by omega)
  have lbq2 : bq2 < w1.heap.size := m2.lt (by omega)
  refine Fx.Qt.v (.pointer (some ⟨bq2, 6 * k + oq2, none⟩)) (fun v1 hv1 => Fx.x_indexS rfl (rfl.trans (congrArg (fun q => Value.slice q (n) (c2)) eq2)) rfl Try.underlying76 (s := 6) (by kernel_rfl) (by omega) (by omega) (by omega)) ?_
  refine Fx.Qt.v (.agg (Fx.varr 6 (askY (l.getD k ask0)))) (fun v1 hv1 => Fx.x_loadA (x := asX l) (y := askY (l.getD k ask0)) rfl rfl (by kernel_rfl) (by kernel_rfl) (by obtain ⟨qd, rfl⟩ := hv1; exact m2) (i := 6 * k) (by omega) (by omega) (fun jq hjq => Fx.flat_at (k := k) (by omega) hjq)) ?_
  refine Fx.Qt.v (.bool false) (fun v1 hv1 => Fx.x_neqA (n := 6) (ks := [(some .u8), (some .u64), (some .i64), (some .i64), (some .u64), (some .u64)]) (X := askY (l.getD k ask0)) (Y := askY (l.getD k ask0)) 12 true rfl rfl rfl (Fx.yesb (fun _ _ => rfl)) (kd_ask (hwf _ (as_at (by omega)))) (kd_ask (hwf _ (as_at (by omega)))) rfl (by kernel_rfl) (by kernel_rfl) (by kernel_rfl) (by kernel_rfl) (by kernel_rfl)) ?_
  refine Fx.Qt.nil ?_
  rintro _ ⟨qd, rfl⟩
  obtain ⟨wq1, ewq1⟩ : ∃ v1, v1 = World.drewN w1 qd := ⟨_, rfl⟩
  rw [← ewq1]
  have s1 : Fx.Stp w1.heap.size w1 wq1 := by rw [ewq1]; exact Fx.Stp.of_below (bdrN w1 qd)
  have m3 := m1.stp s1 (Nat.ne_of_lt (m1.lt (by omega)))
  have m4 := m2.stp s1 (Nat.ne_of_lt (m2.lt (by omega)))
  have b2 := s1.below b1 b1.size b1.size
  clear ewq1
  refine Fx.seqN (Fx.W.cond (b := false) rfl (fun h => nomatch h) (fun _ => Fx.W.skip (Fx.blkN (Fx.seqN (Fx.W.list (Fx.L.v (.int .i64 ((k : Int))) (Fx.x_move rfl h3) ?_))))))
  refine Fx.L.v (.int .i64 ((k : Int) + 1)) (Fx.x_add rfl rfl rfl (Fx.i64e (by omega) (by omega))) ?_
  refine Fx.L.v (.int .i64 ((k : Int) + 1)) (Fx.x_assign rfl rfl) ?_
  refine Fx.L.nil (Fx.lpN ⟨k + 1, by omega, h1, h2, (by first | rfl | exact congrArg (Value.int .i64) (by omega)), b2⟩ ?_)
  show (n - (intOf ((.int .i64 ((k : Int) + 1)))).toNat) < _
  simp only [h3, intOf]; omega
 ·refine Fx.L.v (.bool false) (Fx.x_lssF rfl rfl rfl c14) ?_
  refine Fx.L.nil (Fx.seqN (Fx.W.cond (b := false) rfl (fun h => nomatch h) (fun _ => Fx.W.exit (Fx.seqX (Fx.lpX (Fx.blkX (Fx.seqN (Fx.W.seq (Fx.W.list (Fx.L.v (.bool true) (Fx.x_assign rfl rfl) ?_))))))))))
  refine Fx.L.nil (Fx.seqN (Fx.W.ret (⟨.bool true, Fx.retV1 Try.results34 (by exact rfl), ?_⟩)))
  exact ⟨rfl, b1⟩
theorem Rt.wk_nd (j : Nat) : Fx.updV (Fx.ovr (fun zq => if zq < 2 then .int .u64 (0) else .int .i64 (0)) 0 1 (fun _ => .int .u64 (9))) 2 (.int .i64 (6)) j = ndY 9 0 wR j := by
  unfold Fx.updV Fx.ovr ndY wR upd
  by_cases h0 : j = 0
  · subst h0; rfl
  · by_cases h1 : j = 1
    · subst h1; rfl
    · by_cases h2 : j = 2
      · subst h2; rfl
      · rw [if_neg h2, if_neg (by omega), if_neg h0, if_neg h1, if_neg (by omega)]
        show (if j < 2 then _ else _) = _
        rw [if_neg (by omega)]
set_option maxRecDepth 20000 in
set_option maxHeartbeats 1000000 in
theorem works19_any (w : World) :
    Calls Try.prog 29 #[] w fun e w' => e = .returned (.bool true) ∧ Below w.heap.size w w' := by
 refine Fx.enter Try.func29 rfl (n := 60) rfl (by rfl) ?_
 refine Fx.W.seq (Fx.W.list (Fx.L.v (.bool false) (Fx.x_assign rfl rfl) ?_))
 refine Fx.L.nil (Fx.seqN (Fx.W.seq (Fx.W.list (Fx.L.v (.agg (Fx.varr 6 (Fx.ovr (Fx.ovr (fun _ => .bool false) 0 1 (fun _ => .bool true)) 1 1 (fun _ => .bool true)))) (Fx.x_buildArr (vs := [(0, .bool true), (1, .bool true)]) (s := 1) (m := 6) (x := fun _ => .bool false) rfl rfl Try.underlying39 (by kernel_rfl) (by kernel_rfl) (by rw [Fx.fill_step (off := 0) (s := 1) (y := fun _ => .bool true) (by kernel_rfl) (Fx.cells_one (by rfl)) (by rfl)]; rw [Fx.fill_step (off := 1) (s := 1) (y := fun _ => .bool true) (by kernel_rfl) (Fx.cells_one (by rfl)) (by rfl)]; rfl)) ?_))))
 refine Fx.L.v (.agg (Fx.varr 20 (Fx.ovr (fun zq => if zq < 12 then .bool false else if zq < 18 then .int .u64 (0) else .slice none 0 0) 0 6 (Fx.ovr (Fx.ovr (fun _ => .bool false) 0 1 (fun _ => .bool true)) 1 1 (fun _ => .bool true))))) (Fx.x_build (vs := [(0, .agg (Fx.varr 6 (Fx.ovr (Fx.ovr (fun _ => .bool false) 0 1 (fun _ => .bool true)) 1 1 (fun _ => .bool true))))]) (places := #[(0, 6), (6, 6), (12, 6), (18, 1), (19, 1)]) (m := 20) (x := fun zq => if zq < 12 then .bool false else if zq < 18 then .int .u64 (0) else .slice none 0 0) rfl rfl Try.underlying43 (by kernel_rfl) (by kernel_rfl) (by rw [Fx.fill_step (off := 0) (s := 6) (y := Fx.ovr (Fx.ovr (fun _ => .bool false) 0 1 (fun _ => .bool true)) 1 1 (fun _ => .bool true)) (by kernel_rfl) (Fx.cells_agg _ _) (by rfl)]; rfl)) ?_
 refine Fx.L.new (m := 20) (y := fun zq => if zq < 12 then .bool false else if zq < 18 then .int .u64 (0) else .slice none 0 0) (by rfl) rfl (by kernel_rfl) rfl fun g1 w1 eg1 m1 s1 z1 => ?_
 have b1 := s1.below (Below.refl w.heap.size w) (Below.refl w.heap.size w).size (Below.refl w.heap.size w).size
 have lg1 : w.heap.size ≤ g1 := by rw [eg1]; exact (Below.refl w.heap.size w).size
 have tg1 : g1 < w1.heap.size := m1.lt
 clear eg1
 refine Fx.L.storeA (x := fun zq => if zq < 12 then .bool false else if zq < 18 then .int .u64 (0) else .slice none 0 0) (y := Fx.ovr (fun zq => if zq < 12 then .bool false else if zq < 18 then .int .u64 (0) else .slice none 0 0) 0 6 (Fx.ovr (Fx.ovr (fun _ => .bool false) 0 1 (fun _ => .bool true)) 1 1 (fun _ => .bool true))) (by rfl) rfl rfl rfl rfl (Fx.ovr_ones (fun jq _ => by show ((fun zq => if zq < 12 then .bool false else if zq < 18 then .int .u64 (0) else .slice none 0 0 : Nat → Value) jq).oneCell' = true; simp only []; repeat (first | rfl | split)) (Fx.ovr_ones (Fx.ovr_ones (fun jq _ => by show ((fun _ => .bool false : Nat → Value) jq).oneCell' = true; simp only []; repeat (first | rfl | split)) (fun _ _ => rfl)) (fun _ _ => rfl))) (by kernel_rfl) m1 (i := 0) (by omega) fun w2 m2 s2 z2 => ?_
 have m3 : Fx.Blk w2 g1 20 (Fx.ovr (fun zq => if zq < 12 then .bool false else if zq < 18 then .int .u64 (0) else .slice none 0 0) 0 6 (Fx.ovr (Fx.ovr (fun _ => .bool false) 0 1 (fun _ => .bool true)) 1 1 (fun _ => .bool true))) 43 := Fx.ovr_all m2
 have b2 := s2.below b1 b1.size (by omega)
 refine Fx.L.nil (Fx.seqN (Fx.W.seq (Fx.W.list (Fx.L.v (.agg (Fx.varr 56 (Fx.ovr (fun zq => if zq < 2 then .int .u64 (0) else .int .i64 (0)) 0 1 (fun _ => .int .u64 (9))))) (Fx.x_build (vs := [(0, .int .u64 (9))]) (places := #[(0, 1), (1, 1), (2, 54)]) (m := 56) (x := fun zq => if zq < 2 then .int .u64 (0) else .int .i64 (0)) rfl rfl Try.underlying50 (by kernel_rfl) (by kernel_rfl) (by rw [Fx.fill_step (off := 0) (s := 1) (y := fun _ => .int .u64 (9)) (by kernel_rfl) (Fx.cells_one (by rfl)) (by rfl)]; rfl)) ?_))))
 refine Fx.L.new (m := 56) (y := fun zq => if zq < 2 then .int .u64 (0) else .int .i64 (0)) (by rfl) rfl (by kernel_rfl) rfl fun g2 w3 eg2 m4 s3 z3 => ?_
 have m5 := m3.stp s3 (Nat.ne_of_lt (m3.lt))
 have b3 := s3.below b2 b2.size b2.size
 have lg2 : w.heap.size ≤ g2 := by rw [eg2]; exact b2.size
 have ng2m5 : g1 ≠ g2 := by rw [eg2]; exact Nat.ne_of_lt (m3.lt)
 have tg2 : g2 < w3.heap.size := m4.lt
 clear eg2
 refine Fx.L.storeA (x := fun zq => if zq < 2 then .int .u64 (0) else .int .i64 (0)) (y := Fx.ovr (fun zq => if zq < 2 then .int .u64 (0) else .int .i64 (0)) 0 1 (fun _ => .int .u64 (9))) (by rfl) rfl rfl rfl rfl (Fx.ovr_ones (fun jq _ => by show ((fun zq => if zq < 2 then .int .u64 (0) else .int .i64 (0) : Nat → Value) jq).oneCell' = true; simp only []; repeat (first | rfl | split)) (fun _ _ => rfl)) (by kernel_rfl) m4 (i := 0) (by omega) fun w4 m6 s4 z4 => ?_
 have m7 : Fx.Blk w4 g2 56 (Fx.ovr (fun zq => if zq < 2 then .int .u64 (0) else .int .i64 (0)) 0 1 (fun _ => .int .u64 (9))) 50 := Fx.ovr_all m6
 have hct1 := Fx.ChT.of_stp s4 m4.ty
 have m8 := m5.chT hct1 (by decide)
 have b4 := s4.below b3 b3.size (by omega)
 refine Fx.L.nil (Fx.seqN (Fx.W.seq (Fx.W.list (Fx.L.v (.pointer (some ⟨g2, 2, none⟩)) (Fx.x_field rfl rfl Try.underlying50 rfl (s := 54) (by kernel_rfl) rfl (by show _ + 2 = _; omega)) ?_))))
 refine Fx.L.v (.pointer (some ⟨g2, 2, none⟩)) (Fx.x_field rfl rfl Try.underlying48 rfl (s := 6) (by kernel_rfl) rfl rfl) ?_
 refine Fx.L.v (.pointer (some ⟨g2, 2, none⟩)) (Fx.x_index rfl rfl rfl Try.underlying45 (s := 1) (by kernel_rfl) (by omega) (by omega) (by omega)) ?_
 refine Fx.L.store1 (x := Fx.ovr (fun zq => if zq < 2 then .int .u64 (0) else .int .i64 (0)) 0 1 (fun _ => .int .u64 (9))) (u := .int .i64 (6)) (by rfl) rfl rfl rfl rfl (by rfl) (by kernel_rfl) m7 (i := 2) (by omega) fun w5 m9 s5 z5 => ?_
 have hct2 := Fx.ChT.of_stp s5 m7.ty
 have m10 := m8.chT hct2 (by decide)
 have b5 := s5.below b4 b4.size (by omega)
 refine Fx.L.nil (Fx.seqN (Fx.W.seq ?_))
 have m11 : Fx.Blk w5 g2 56 (ndY 9 0 wR) 50 := m9.congr (fun j hj => wk_nd j)
 refine Fx.W.list (Fx.L.v (.pointer (some ⟨g1, 18, none⟩)) (Fx.x_field rfl rfl Try.underlying43 rfl (s := 1) (by kernel_rfl) rfl (by show _ + 18 = _; omega)) ?_)
 refine Fx.L.v (.slice none 0 0) (Fx.x_load1 (x := Fx.ovr (fun zq => if zq < 12 then .bool false else if zq < 18 then .int .u64 (0) else .slice none 0 0) 0 6 (Fx.ovr (Fx.ovr (fun _ => .bool false) 0 1 (fun _ => .bool true)) 1 1 (fun _ => .bool true))) rfl rfl (by kernel_rfl) m10.cel (i := 18) (by omega) (by omega) (Fx.ovr_out (by omega) rfl)) ?_
 refine Fx.L.v (.agg (Fx.varr 56 (ndY 9 0 wR))) (Fx.x_loadA (x := ndY 9 0 wR) (y := ndY 9 0 wR) rfl rfl (by kernel_rfl) (by kernel_rfl) m11.cel (i := 0) (by omega) (by omega) (fun j _ => by rw [Nat.zero_add])) ?_
 refine Fx.L.bslice (vs := [(0, .agg (Fx.varr 56 (ndY 9 0 wR)))]) (s := 56) (zc := fun zq => if zq < 2 then .int .u64 (0) else .int .i64 (0)) (y := Fx.ovr (fun j => (fun zq => if zq < 2 then .int .u64 (0) else .int .i64 (0)) (j % 56)) (0 * 56) 56 (ndY 9 0 wR)) (by rfl) rfl rfl Try.underlying40 (by kernel_rfl) (by rfl) (by rfl) (by kernel_rfl) (by rw [Fx.fill_step (off := 0 * 56) (s := 56) (y := ndY 9 0 wR) rfl (Fx.cells_agg _ _) (by rfl)]; rfl) rfl fun g3 w6 eg3 m12 s6 z6 => ?_
 have m13 := m10.stp s6 (Nat.ne_of_lt (m10.lt))
 have m14 := m11.stp s6 (Nat.ne_of_lt (m11.lt))
 have b6 := s6.below b5 b5.size b5.size
 have lg3 : w.heap.size ≤ g3 := by rw [eg3]; exact b5.size
 have ng3m13 : g1 ≠ g3 := by rw [eg3]; exact Nat.ne_of_lt (m10.lt)
 have ng3m14 : g2 ≠ g3 := by rw [eg3]; exact Nat.ne_of_lt (m11.lt)
 have tg3 : g3 < w6.heap.size := m12.lt
 clear eg3
 refine Fx.L.app (B := w.heap.size) (s := 56) (bytes := 448) (k := 0) (m := 1) (v := .slice none 0 0) (x := fun _ => undef) (by rfl) rfl rfl rfl Try.underlying40 (by kernel_rfl) (by kernel_rfl) rfl rfl (Fx.Own.nil w6 w.heap.size 50 56 (fun _ => undef)) m12.cel (ovr_one (ndY_one' _ _ _)) (by omega) (by omega) (by omega) b6.size fun g4 cap1 w7 ho1 hg1 hgv1 hlt1 => ?_
 have hct3 := Fx.ChT.of_grown hg1 (Fx.Own.nil w6 w.heap.size 50 56 (fun _ => undef))
 have m16 := m13.chT hct3 (by decide)
 have hq1 : Below w6.heap.size w6 w7 := ⟨hg1.os, hg1.tape, hg1.output, hg1.size, fun q hq => hg1.block q hq (fun e => by cases e)⟩
 have m17 := m14.stp (Fx.Stp.of_below hq1) (Nat.ne_of_lt (m14.lt))
 have m15 : Fx.Own w7 w.heap.size 50 56 (.slice (some ⟨g4, 0, none⟩) 1 cap1) 1 (Fx.flat 56 (fun _ => ndY 9 0 wR)) := (ho1.congr (fun j hj => wk_app j hj))
 have b7 : Below w.heap.size w w7 := Fx.Below.grow b6 hg1 b6.size (fun q hq => ((Fx.Own.nil w6 w.heap.size 50 56 (fun _ => undef)).ge hq).1)
 refine Fx.L.v (.pointer (some ⟨g1, 18, none⟩)) (Fx.x_field rfl rfl Try.underlying43 rfl (s := 1) (by kernel_rfl) rfl (by show _ + 18 = _; omega)) ?_
 refine Fx.L.store1 (x := Fx.ovr (fun zq => if zq < 12 then .bool false else if zq < 18 then .int .u64 (0) else .slice none 0 0) 0 6 (Fx.ovr (Fx.ovr (fun _ => .bool false) 0 1 (fun _ => .bool true)) 1 1 (fun _ => .bool true))) (u := .slice (some ⟨g4, 0, none⟩) (1) (cap1)) (by rfl) rfl rfl rfl rfl (by rfl) (by kernel_rfl) m16 (i := 18) (by omega) fun w8 m18 s7 z7 => ?_
 have hct4 := Fx.ChT.of_stp s7 m16.ty
 have m19 := m17.chT hct4 (by decide)
 have m20 := m15.chT hct4 (by decide)
 have b8 := s7.below b7 b7.size (by omega)
 refine Fx.L.nil (Fx.seqN (Fx.W.seq ?_))
 have m21 : Fx.Blk w8 g1 20 (stY (wst g4 cap1)) 43 := m18.congr (fun j hj => by rcases j with _|_|_|_|_|_|_|_|_|_|_|_|_|_|_|_|_|_|_|_|j <;> first | rfl | omega)
 refine Fx.W.list (Fx.L.v (.agg (Fx.varr 20 (stY (wst g4 cap1)))) (Fx.x_loadA (x := stY (wst g4 cap1)) (y := stY (wst g4 cap1)) rfl rfl (by kernel_rfl) (by kernel_rfl) m21.cel (i := 0) (by omega) (by omega) (fun j _ => by rw [Nat.zero_add])) ?_)
 refine Fx.L.call (by rfl) (Fx.r_call (args := [.agg (Fx.varr 20 (stY (wst g4 cap1))), .int .i64 (1), .int .i64 (2)]) rfl rfl Try.func32 rfl rfl) rfl ((m_leave (wst g4 cap1) (fun _ => 9) (fun _ => 0) (fun _ => wR) 1 2 _ (by show 1 ≤ 900000; omega) (fun k hk => m20.arr.at hk) (by omega)).mono ?_)
 rintro e9 w9 ⟨vq1, nq1, he, hnq1, hOq1, hbq1⟩
 obtain ⟨aq1, capq1, rfl⟩ := hOq1.val
 rw [(wk_leave g4 cap1).1] at he
 rw [wk_list] at hnq1 hOq1
 obtain rfl : nq1 = 2 := hnq1
 refine ⟨_, he, ?_⟩
 clear he
 have s8 := Fx.Stp.of_below hbq1
 have m22 := m19.stp s8 (Nat.ne_of_lt (m19.lt))
 have m23 := m20.stpB s8 (Nat.ne_of_lt (m20.lt))
 have m24 := m21.stp s8 (Nat.ne_of_lt (m21.lt))
 have b9 := s8.below b8 b8.size b8.size
 refine Fx.L.v (.tuple #[.slice aq1 (2) (capq1), .int .i64 (0)]) (Fx.x_move rfl rfl) ?_
 refine Fx.L.v (.slice aq1 (2) (capq1)) (Fx.x_extract rfl rfl rfl) ?_
 refine Fx.L.v (.int .i64 (0)) (Fx.x_extract rfl rfl rfl) ?_
 refine Fx.L.v (.slice aq1 (2) (capq1)) (Fx.x_assign rfl rfl) ?_
 refine Fx.L.v (.int .i64 (0)) (Fx.x_assign rfl rfl) ?_
 refine Fx.L.nil (Fx.seqN (Fx.W.seq (Fx.W.list (Fx.L.v (.agg (Fx.varr 20 (stY (wst g4 cap1)))) (Fx.x_loadA (x := stY (wst g4 cap1)) (y := stY (wst g4 cap1)) rfl rfl (by kernel_rfl) (by kernel_rfl) m24.cel (i := 0) (by omega) (by omega) (fun j _ => by rw [Nat.zero_add])) ?_))))
 refine Fx.L.call (by rfl) (Fx.r_call (args := [.agg (Fx.varr 20 (stY (wst g4 cap1))), .int .i64 (1), .int .i64 (3)]) rfl rfl Try.func32 rfl rfl) rfl ((m_leave (wst g4 cap1) (fun _ => 9) (fun _ => 0) (fun _ => wR) 1 3 _ (by show 1 ≤ 900000; omega) (fun k hk => m23.arr.at hk) (by omega)).mono ?_)
 rintro e9 w10 ⟨vq2, nq2, he, hnq2, hOq2, hbq2⟩
 obtain ⟨aq2, capq2, rfl⟩ := hOq2.val
 rw [(wk_leave g4 cap1).2] at he
 rw [wk_nil] at hnq2 hOq2
 obtain rfl : nq2 = 0 := hnq2
 refine ⟨_, he, ?_⟩
 clear he
 have s9 := Fx.Stp.of_below hbq2
 have m25 := m22.stp s9 (Nat.ne_of_lt (m22.lt))
 have m26 := m23.stpB s9 (Nat.ne_of_lt (m23.lt))
 have m27 := m24.stp s9 (Nat.ne_of_lt (m24.lt))
 have m28 := hOq1.stp s9 (hOq1.notNew (Nat.le_refl _))
 have b10 := s9.below b9 b9.size b9.size
 refine Fx.L.v (.tuple #[.slice aq2 (0) (capq2), .int .i64 (10)]) (Fx.x_move rfl rfl) ?_
 refine Fx.L.v (.slice aq2 (0) (capq2)) (Fx.x_extract rfl rfl rfl) ?_
 refine Fx.L.v (.int .i64 (10)) (Fx.x_extract rfl rfl rfl) ?_
 refine Fx.L.v (.slice aq2 (0) (capq2)) (Fx.x_assign rfl rfl) ?_
 refine Fx.L.v (.int .i64 (10)) (Fx.x_assign rfl rfl) ?_
 refine Fx.L.nil (Fx.seqN (Fx.W.seq (Fx.W.list (Fx.L.v (.int .i64 (0)) (Fx.x_move rfl rfl) ?_))))
 refine Fx.L.v (.bool true) (Fx.x_eqlT rfl rfl rfl rfl) ?_
 refine Fx.L.v (.bool true) (Fx.x_move rfl rfl) ?_
 refine Fx.L.v (.slice aq1 (2) (capq1)) (Fx.x_move rfl rfl) ?_
 refine Fx.L.v (.int .i64 (2)) (Fx.x_len rfl rfl rfl (by kernel_rfl)) ?_
 refine Fx.L.v (.bool true) (Fx.x_eqlT rfl rfl rfl rfl) ?_
 refine Fx.L.v (.bool true) (Fx.x_pickT rfl rfl rfl) ?_
 refine Fx.L.v (.bool true) (Fx.x_move rfl rfl) ?_
 refine Fx.L.v (.slice aq1 (2) (capq1)) (Fx.x_move rfl rfl) ?_
 obtain ⟨gq1, eq1⟩ := m28.addr (by omega)
 have m29 : Fx.Own w10 w8.heap.size 116 6 (.slice (some ⟨gq1, 0, none⟩) 2 capq1) 2 (asX [askMv 9 2 6, askLv]) := m28.congV (congrArg (fun q => Value.slice q 2 capq1) eq1)
 refine Fx.L.v (.pointer (some ⟨gq1, 0, none⟩)) (Fx.x_indexS rfl (rfl.trans (congrArg (fun q => Value.slice q (2) (capq1)) eq1)) rfl Try.underlying76 (s := 6) (by kernel_rfl) (by omega) (by omega) (by omega)) ?_
 refine Fx.L.v (.agg (Fx.varr 6 (askY ([askMv 9 2 6, askLv].getD 0 ask0)))) (Fx.x_loadA (x := asX [askMv 9 2 6, askLv]) (y := askY ([askMv 9 2 6, askLv].getD 0 ask0)) rfl rfl (by kernel_rfl) (by kernel_rfl) m29.cel (i := 0) (by omega) (by omega) (fun jq hjq => Fx.flat_at (k := 0) (by omega) hjq)) ?_
 refine Fx.L.v (.agg (Fx.varr 6 (Fx.ovr (Fx.ovr (Fx.ovr (Fx.ovr (fun zq => if zq < 1 then .int .u8 (0) else if zq < 2 then .int .u64 (0) else if zq < 4 then .int .i64 (0) else .int .u64 (0)) 0 1 (fun _ => .int .u8 (5))) 1 1 (fun _ => .int .u64 (9))) 2 1 (fun _ => .int .i64 (2))) 3 1 (fun _ => .int .i64 (6))))) (Fx.x_build (vs := [(0, .int .u8 (5)), (1, .int .u64 (9)), (2, .int .i64 (2)), (3, .int .i64 (6))]) (places := #[(0, 1), (1, 1), (2, 1), (3, 1), (4, 1), (5, 1)]) (m := 6) (x := fun zq => if zq < 1 then .int .u8 (0) else if zq < 2 then .int .u64 (0) else if zq < 4 then .int .i64 (0) else .int .u64 (0)) rfl rfl Try.underlying116 (by kernel_rfl) (by kernel_rfl) (by rw [Fx.fill_step (off := 0) (s := 1) (y := fun _ => .int .u8 (5)) (by kernel_rfl) (Fx.cells_one (by rfl)) (by rfl)]; rw [Fx.fill_step (off := 1) (s := 1) (y := fun _ => .int .u64 (9)) (by kernel_rfl) (Fx.cells_one (by rfl)) (by rfl)]; rw [Fx.fill_step (off := 2) (s := 1) (y := fun _ => .int .i64 (2)) (by kernel_rfl) (Fx.cells_one (by rfl)) (by rfl)]; rw [Fx.fill_step (off := 3) (s := 1) (y := fun _ => .int .i64 (6)) (by kernel_rfl) (Fx.cells_one (by rfl)) (by rfl)]; rfl)) ?_
 refine Fx.L.v (.bool true) (Fx.x_eqlA (n := 6) (ks := [(some .u8), (some .u64), (some .i64), (some .i64), (some .u64), (some .u64)]) (X := askY ([askMv 9 2 6, askLv].getD 0 ask0)) (Y := Fx.ovr (Fx.ovr (Fx.ovr (Fx.ovr (fun zq => if zq < 1 then .int .u8 (0) else if zq < 2 then .int .u64 (0) else if zq < 4 then .int .i64 (0) else .int .u64 (0)) 0 1 (fun _ => .int .u8 (5))) 1 1 (fun _ => .int .u64 (9))) 2 1 (fun _ => .int .i64 (2))) 3 1 (fun _ => .int .i64 (6))) 12 true rfl rfl rfl (Fx.yesb (fun i hi => by rcases i with _|_|_|_|_|_|i <;> first | rfl | omega)) (kd_congr (kd_ask ⟨by decide, ⟨by decide, by decide⟩, ⟨by decide, by decide⟩, ⟨by decide, by decide⟩, ⟨by decide, by decide⟩, ⟨by decide, by decide⟩⟩ : Fx.Kd _ (askY (askMv 9 2 6))) (fun i hi => by rcases i with _|_|_|_|_|_|i <;> first | rfl | exact absurd hi (by simp))) (kd_congr (kd_ask ⟨by decide, ⟨by decide, by decide⟩, ⟨by decide, by decide⟩, ⟨by decide, by decide⟩, ⟨by decide, by decide⟩, ⟨by decide, by decide⟩⟩ : Fx.Kd _ (askY (askMv 9 2 6))) (fun i hi => by rcases i with _|_|_|_|_|_|i <;> first | rfl | exact absurd hi (by simp))) rfl (by kernel_rfl) (by kernel_rfl) (by kernel_rfl) (by kernel_rfl) (by kernel_rfl)) ?_
 refine Fx.L.v (.bool true) (Fx.x_pickT rfl rfl rfl) ?_
 refine Fx.L.v (.bool true) (Fx.x_move rfl rfl) ?_
 refine Fx.L.v (.slice aq1 (2) (capq1)) (Fx.x_move rfl rfl) ?_
 refine Fx.L.v (.pointer (some ⟨gq1, 6, none⟩)) (Fx.x_indexS rfl (rfl.trans (congrArg (fun q => Value.slice q (2) (capq1)) eq1)) rfl Try.underlying76 (s := 6) (by kernel_rfl) (by omega) (by omega) (by omega)) ?_
 refine Fx.L.v (.pointer (some ⟨gq1, 6, none⟩)) (Fx.x_field rfl rfl Try.underlying116 rfl (s := 1) (by kernel_rfl) rfl rfl) ?_
 refine Fx.L.v (.int .u8 (([askMv 9 2 6, askLv].getD 1 ask0).kind)) (Fx.x_load1 (x := asX [askMv 9 2 6, askLv]) rfl rfl (by kernel_rfl) m29.cel (i := 6) (by omega) (by omega) (Fx.flat_cell (k := 1) (j := 0) (by omega) (by omega) rfl)) ?_
 refine Fx.L.v (.bool true) (Fx.x_eqlT rfl rfl rfl rfl) ?_
 refine Fx.L.v (.bool true) (Fx.x_pickT rfl rfl rfl) ?_
 refine Fx.L.v (.bool true) (Fx.x_move rfl rfl) ?_
 refine Fx.L.v (.int .i64 (10)) (Fx.x_move rfl rfl) ?_
 refine Fx.L.v (.bool true) (Fx.x_eqlT rfl rfl rfl rfl) ?_
 refine Fx.L.v (.bool true) (Fx.x_pickT rfl rfl rfl) ?_
 refine Fx.L.v (.bool true) (Fx.x_move rfl rfl) ?_
 refine Fx.L.v (.agg (Fx.varr 20 (stY (wst g4 cap1)))) (Fx.x_loadA (x := stY (wst g4 cap1)) (y := stY (wst g4 cap1)) rfl rfl (by kernel_rfl) (by kernel_rfl) m27.cel (i := 0) (by omega) (by omega) (fun j _ => by rw [Nat.zero_add])) ?_
 refine Fx.L.call (by rfl) (Fx.r_call (args := [.agg (Fx.varr 20 (stY (wst g4 cap1)))]) rfl rfl Try.func30 rfl rfl) rfl ((m_live (wst g4 cap1) _).mono ?_)
 rintro e9 w11 ⟨vq3, nq3, he, hnq3, hOq3, hbq3⟩
 obtain ⟨aq3, capq3, rfl⟩ := hOq3.val
 rw [wk_live] at hnq3
 subst hnq3
 refine ⟨_, he, ?_⟩
 clear he
 have s10 := Fx.Stp.of_below hbq3
 have m30 := m25.stp s10 (Nat.ne_of_lt (m25.lt))
 have m31 := m26.stpB s10 (Nat.ne_of_lt (m26.lt))
 have m32 := m27.stp s10 (Nat.ne_of_lt (m27.lt))
 have m33 := m29.stpB s10 (Nat.ne_of_lt (m29.lt))
 have b11 := s10.below b10 b10.size b10.size
 refine Fx.L.v (.int .i64 (2)) (Fx.x_len rfl rfl rfl (by kernel_rfl)) ?_
 refine Fx.L.v (.bool true) (Fx.x_eqlT rfl rfl rfl rfl) ?_
 refine Fx.L.v (.bool true) (Fx.x_pickT rfl rfl rfl) ?_
 refine Fx.L.v (.bool true) (Fx.x_assign rfl rfl) ?_
 refine Fx.L.nil (Fx.seqN (Fx.W.ret (⟨.bool true, Fx.retV1 Try.results29 (by exact rfl), ?_⟩)))
 exact ⟨rfl, b11⟩
end Go.Proofs.Ytolmkjepieoloaa
namespace Go.Proofs.Ytolmkjepieoloaa
open Go.RowKit Rt
theorem l_newWorld2 (n : Nat) (m : Int) (w : World) (hm : m = (n : Int)) (hn1 : 1 ≤ n) (hn6 : n ≤ 6) :
    Calls Try.prog 22 #[.int .i64 m] w fun e w' => ∃ p M, e = .returned (.pointer (some ⟨p, 0, none⟩)) ∧ M.n = n ∧ M.an = 0 ∧ WldO w' w.heap.size p M 0 ∧ Below w.heap.size w w' := by
  subst hm; exact l_newWorld n w hn1 hn6
theorem Fx.Blk.belowB {w w' : World} {B g n : Nat} {x : Nat → Value} {T : TypeId} (h : Fx.Blk w g n x T) (hb : Below B w w') (hg : g < B) : Fx.Blk w' g n x T := (hb.block g hg).trans h
theorem bchB {B : Nat} {w0 w1 w2 : World} (h : Below w0.heap.size w0 w1) (hb : Below B w1 w2) (hB : w0.heap.size ≤ B) : Below w0.heap.size w0 w2 := h.trans (hb.mono hB)
end Go.Proofs.Ytolmkjepieoloaa
namespace Go.Proofs.Ytolmkjepieoloaa
open Go.RowKit Rt
def Rt.two {α : Type} (a b : α) : Nat → α | 0 => a | _ + 1 => b
theorem Rt.two_flat {s t : StM} {z : Nat → Value} : ∀ j, j < 2 * 20 → Fx.ovr (Fx.ovr z (0 * 20) 20 (stY s)) (1 * 20) 20 (stY t) j = Fx.flat 20 (fun q => stY (two s t q)) j := fun j hj => by
  unfold Fx.ovr
  by_cases h : j < 20
  · rw [if_neg (by omega), if_pos (by omega), Fx.flat_at (F := fun q => stY (two s t q)) (k := 0) (j := j) (by omega) h]
    show stY s _ = stY s j; congr 1
  · rw [if_pos (by omega), Fx.flat_at (F := fun q => stY (two s t q)) (k := 1) (j := j - 20) (by omega) (by omega)]
    show stY t _ = stY t _; congr 1
theorem Rt.two_nds {w : World} {s t : StM} {id id2 par par2 : Nat → Int} {R R2 : Nat → Nat → Int} (h1 : Nds w s.na s.nn id par R) (h2 : Nds w t.na t.nn id2 par2 R2) : ∀ k, k < 2 → Nds w (two s t k).na (two s t k).nn (two id id2 k) (two par par2 k) (two R R2 k)
  | 0, _ => h1
  | 1, _ => h2
theorem Rt.two_le {s t : StM} {N : Nat} (h1 : s.nn ≤ N) (h2 : t.nn ≤ N) : ∀ k, k < 2 → (two s t k).nn ≤ N
  | 0, _ => h1
  | 1, _ => h2
theorem Rt.two_u {s t : StM} {id id2 : Nat → Int} (h1 : ∀ q, q < s.nn → U64r (id q)) (h2 : ∀ q, q < t.nn → U64r (id2 q)) : ∀ k, k < 2 → ∀ q, q < (two s t k).nn → U64r (two id id2 k q)
  | 0, _ => h1
  | 1, _ => h2
theorem Rt.leaveL_len {s : StM} {id : Nat → Int} {R : Nat → Nat → Int} {i tj : Int} (h : s.nn ≤ 900000) : (leaveL s id R i tj).length ≤ 1000000 := by
  unfold leaveL
  split
  · exact Nat.zero_le _
  · have := leaveN_len id R i tj s.nn
    rw [List.length_append]; show _ + 1 ≤ _; omega
set_option maxRecDepth 20000 in
set_option maxHeartbeats 2000000 in
theorem plays19_any (rb : Nat) (aa0 : Option Addr) (na ca : Nat) (xa : Nat → ActM) (pk : Nat) (s : StM) (id par : Nat → Int) (R g : Nat → Nat → Int) (i tj : Int) (w : World) (hrb : rb ≤ 255) (hpk : pk ≤ 255) (hxa : ∀ k, k < na → ActOk (xa k)) (hacts : Fx.Arr w aa0 na 9 (Fx.flat 9 fun k => actY (xa k))) (hs : StA w s id par R g) (hi : -9223372036854775808 ≤ i ∧ i ≤ 9223372036854775807) (ht : I64r tj) :
    Calls Try.prog 6 #[.int .u8 ((rb : Int)), .slice aa0 (na) (ca), .int .u8 ((pk : Int)), .agg (Fx.varr 20 (stY s)), .int .i64 (i), .int .i64 (tj)] w fun e w' => e = .returned (.bool true) ∧ Below w.heap.size w w' := by
 have hsn := hs.an
 have bns := hs.bn
 have bns : s.nn ≤ 9223372036854775807 := bns
 refine Fx.enter Try.func6 rfl (n := 134) rfl (by rfl) ?_
 refine Fx.W.seq (Fx.W.list (Fx.L.box (m := 20) (y := stY s) (by rfl) rfl rfl (Fx.cells_agg _ _) rfl fun g1 w1 eg1 m1 s1 z1 => ?_))
 have b1 := s1.below (Below.refl w.heap.size w) (Below.refl w.heap.size w).size (Below.refl w.heap.size w).size
 have lg1 : w.heap.size ≤ g1 := by rw [eg1]; exact (Below.refl w.heap.size w).size
 have tg1 : g1 < w1.heap.size := m1.lt
 clear eg1
 refine Fx.L.v (.bool false) (Fx.x_assign rfl rfl) ?_
 refine Fx.L.nil (Fx.seqN (Fx.W.seq (Fx.W.seq (Fx.W.list (Fx.L.v (.slice aa0 (na) (ca)) (Fx.x_move rfl rfl) ?_)))))
 by_cases c25 : (decide ((na : Int) ≤ 60)) = true
 ·refine Fx.L.call (by rfl) (Fx.r_call (args := [.slice aa0 (na) (ca)]) rfl rfl Try.func20 rfl rfl) rfl ((l_few _ _ _ _).mono ?_)
  rintro e v1 ⟨he, hv1⟩
  subst v1
  refine ⟨.bool true, by rw [he, c25], ?_⟩
  clear he
  refine Fx.L.v (.bool false) (Fx.x_notF rfl rfl) ?_
  refine Fx.L.v (.bool false) (Fx.x_move rfl rfl) ?_
  refine Fx.L.v (.pointer (some ⟨g1, 18, none⟩)) (Fx.x_field rfl rfl Try.underlying43 rfl (s := 1) (by kernel_rfl) rfl (by show _ + 18 = _; omega)) ?_
  refine Fx.L.v (.slice s.na (s.nn) (s.nc)) (Fx.x_load1 (x := stY s) rfl rfl (by kernel_rfl) m1.cel (i := 18) (by omega) (by omega) rfl) ?_
  refine Fx.L.v (.int .i64 ((s.nn : Int))) (Fx.x_len rfl rfl rfl (by kernel_rfl)) ?_
  by_cases c31 : 20 < (s.nn : Int)
  ·refine Fx.L.v (.bool true) (Fx.x_gtrT rfl rfl rfl c31) ?_
   refine Fx.L.v (.bool true) (Fx.x_pickF rfl rfl rfl) ?_
   refine Fx.L.nil (Fx.seqN (Fx.W.cond (b := true) rfl (fun _ => Fx.W.seq (Fx.W.list (Fx.L.call (by rfl) (Fx.r_call (args := []) rfl rfl Try.func29 rfl rfl) rfl ((works19_any _).mono ?_)))) (fun h => nomatch h)))
   rintro e w2 ⟨he, hb1⟩
   refine ⟨.bool true, by rw [he], ?_⟩
   clear he
   have s2 := Fx.Stp.of_below hb1
   have m2 := m1.stp s2 (Nat.ne_of_lt (m1.lt))
   have b2 := s2.below b1 b1.size b1.size
   refine Fx.L.v (.bool true) (Fx.x_assign rfl rfl) ?_
   refine Fx.L.nil (Fx.seqN (Fx.W.ret (Fx.seqR (⟨.bool true, Fx.retV1 Try.results6 (by exact rfl), ?_⟩))))
   exact ⟨rfl, b2⟩
  ·refine Fx.L.v (.bool false) (Fx.x_gtrF rfl rfl rfl c31) ?_
   refine Fx.L.v (.bool false) (Fx.x_pickF rfl rfl rfl) ?_
   refine Fx.L.nil (Fx.seqN (Fx.W.cond (b := false) rfl (fun h => nomatch h) (fun _ => Fx.W.skip (Fx.seqN (Fx.W.seq ?_)))))
   have hna := of_decide_eq_true c25
   obtain ⟨rn, ern⟩ : ∃ r, r = rb % 6 := ⟨_, rfl⟩
   have hrn : rn < 6 := by rw [ern]; exact Nat.mod_lt _ (by omega)
   refine Fx.W.list (Fx.L.v (.int .u8 ((rb : Int))) (Fx.x_move rfl rfl) ?_)
   refine Fx.L.v (.int .i64 ((rb : Int))) (Fx.x_conv rfl rfl (by kernel_rfl) Try.underlying3 (Fx.i64e (by omega) rfl)) ?_
   refine Fx.L.v (.int .i64 ((rn : Int))) (Fx.x_rem rfl rfl rfl (by omega) (remL ern)) ?_
   refine Fx.L.v (.int .i64 ((rn : Int) + 1)) (Fx.x_add rfl rfl rfl (Fx.i64e (by omega) (by omega))) ?_
   refine Fx.L.call (by rfl) (Fx.r_call (args := [.int .i64 ((rn : Int) + 1)]) rfl rfl Try.func22 rfl rfl) rfl ((l_newWorld2 (rn + 1) _ _ (by omega) (by omega) (by omega)).mono ?_)
   rintro e9 w3 ⟨pw, M0, he, hMn, hMa, hW0, hbw⟩
   refine ⟨.pointer (some ⟨pw, 0, none⟩), he, ?_⟩
   clear he
   have sB := b1.size
   have lBg1 : g1 < w1.heap.size := m1.lt
   have s3 := Fx.Stp.of_below hbw
   have m3 := m1.stp s3 (Nat.ne_of_lt (m1.lt))
   have b3 := s3.below b1 b1.size b1.size
   have sW : w1.heap.size ≤ w3.heap.size := hbw.size
   refine Fx.L.v (.pointer (some ⟨pw, 0, none⟩)) (Fx.x_assign rfl rfl) ?_
   refine Fx.L.nil (Fx.seqN (Fx.W.seq (Fx.W.seq (Fx.W.list (Fx.L.v (.int .i64 (0)) (Fx.x_assign rfl rfl) ?_)))))
   refine Fx.L.nil (Fx.seqN (Fx.W.block (Fx.W.loop (fun f w_ => ∃ k : Nat, ∃ M9 : WM, ∃ T9 : Nat, k ≤ na ∧ T9 ≤ 3660 * k ∧ M9.n = M0.n ∧ M9.an ≤ k ∧ w1.heap.size ≤ w_.heap.size ∧ f 1 = .slice aa0 (na) (ca) ∧ f 2 = .int .u8 ((pk : Int)) ∧ f 4 = .int .i64 (i) ∧ f 5 = .int .i64 (tj) ∧ f 9 = .pointer (some ⟨g1, 0, none⟩) ∧ f 13 = .pointer (some ⟨pw, 0, none⟩) ∧ f 14 = .int .i64 ((k : Int)) ∧ Fx.Blk w_ g1 20 (stY s) 43 ∧ WldO w_ w1.heap.size pw M9 T9 ∧ Below w.heap.size w w_) (fun f _ => (na - (intOf (f 14)).toNat)) ⟨0, M0, 0, by omega, by omega, rfl, by omega, sW, (by rfl), (by first | rfl | exact congrArg (Value.int .u8) (by omega)), (by first | rfl | exact congrArg (Value.int .i64) (by omega)), (by first | rfl | exact congrArg (Value.int .i64) (by omega)), (by rfl), (by rfl), (by first | rfl | exact congrArg (Value.int .i64) (by omega)), m3, hW0, b3⟩ ?_)))
   rintro f1 w4 ⟨k, M9, T9, hk, hTk, hMn9, hMa9, sWk, h1, h2, h3, h4, h5, h6, h7, m4, m5, b4⟩
   refine Fx.W.seq (Fx.W.seq (Fx.W.list (Fx.L.v (.int .i64 ((k : Int))) (Fx.x_move rfl h7) ?_)))
   refine Fx.L.v (.slice aa0 (na) (ca)) (Fx.x_move rfl h1) ?_
   refine Fx.L.v (.int .i64 ((na : Int))) (Fx.x_len rfl rfl rfl (by kernel_rfl)) ?_
   by_cases c42 : (k : Int) < (na : Int)
   ·refine Fx.L.v (.bool true) (Fx.x_lssT rfl rfl rfl c42) ?_
    refine Fx.L.nil (Fx.seqN (Fx.W.cond (b := true) rfl (fun _ => Fx.W.skip (Fx.seqN (Fx.W.seq (Fx.W.block (Fx.W.list (Fx.L.v (.pointer (some ⟨pw, 0, none⟩)) (Fx.x_move rfl h6) ?_)))))) (fun h => nomatch h)))
    refine Fx.L.v (.slice aa0 (na) (ca)) (Fx.x_move rfl h1) ?_
    refine Fx.L.v (.int .i64 ((k : Int))) (Fx.x_move rfl h7) ?_
    obtain ⟨bq1, oq1, eq1, m6⟩ := (hacts.up b4 rfl) (by omega)
    have lbq1 : bq1 < w4.heap.size := m6.lt (by omega)
    refine Fx.L.v (.pointer (some ⟨bq1, 9 * k + oq1, none⟩)) (Fx.x_indexS rfl (rfl.trans (congrArg (fun q => Value.slice q (na) (ca)) eq1)) rfl Try.underlying38 (s := 9) (by kernel_rfl) (by omega) (by omega) (by omega)) ?_
    refine Fx.L.v (.agg (Fx.varr 9 (actY (xa k)))) (Fx.x_loadA (x := Fx.flat 9 fun k => actY (xa k)) (y := actY (xa k)) rfl rfl (by kernel_rfl) (by kernel_rfl) m6 (i := 9 * k) (by omega) (by omega) (fun jq hjq => Fx.flat_at (k := k) (by omega) hjq)) ?_
    refine Fx.L.call (by rfl) (Fx.r_call (args := [.pointer (some ⟨pw, 0, none⟩), .agg (Fx.varr 9 (actY (xa k)))]) rfl rfl Try.func23 rfl rfl) rfl ((l_do M9 w1.heap.size pw T9 (xa k) _ m5 sWk (hxa k (by omega)) (by omega) (by omega)).mono ?_)
    rintro e9 w5 ⟨⟨v9, he⟩, M2, hW1, hM2n, hM2a, hb2⟩
    refine ⟨v9, he, ?_⟩
    clear he
    have m7 : Fx.Blk w5 g1 20 (stY s) 43 := m4.belowB hb2 lBg1
    have b5 : Below w.heap.size w w5 := bchB b4 hb2 sB
    have sW1 : w1.heap.size ≤ w5.heap.size := by have := hb2.size; omega
    have sWn : w1.heap.size ≤ w5.heap.size := by have := hb2.size; omega
    refine Fx.L.nil (Fx.blkN (Fx.seqN (Fx.W.list (Fx.L.v (.int .i64 ((k : Int))) (Fx.x_move rfl h7) ?_))))
    refine Fx.L.v (.int .i64 ((k : Int) + 1)) (Fx.x_add rfl rfl rfl (Fx.i64e (by omega) (by omega))) ?_
    refine Fx.L.v (.int .i64 ((k : Int) + 1)) (Fx.x_assign rfl rfl) ?_
    refine Fx.L.nil (Fx.lpN ⟨k + 1, M2, (T9 + 3660), by omega, by omega, (hM2n.trans hMn9), by omega, sWn, h1, (h2.trans (by first | rfl | exact congrArg (Value.int .u8) (by omega))), (h3.trans (by first | rfl | exact congrArg (Value.int .i64) (by omega))), (h4.trans (by first | rfl | exact congrArg (Value.int .i64) (by omega))), h5, h6, (by first | rfl | exact congrArg (Value.int .i64) (by omega)), m7, hW1, b5⟩ ?_)
    show (na - (intOf ((.int .i64 ((k : Int) + 1)))).toNat) < _
    simp only [h7, intOf]; omega
   ·refine Fx.L.v (.bool false) (Fx.x_lssF rfl rfl rfl c42) ?_
    refine Fx.L.nil (Fx.seqN (Fx.W.cond (b := false) rfl (fun h => nomatch h) (fun _ => Fx.W.exit (Fx.seqX (Fx.lpX (Fx.blkX (Fx.seqN (Fx.W.seq ?_))))))))
    have hMn1 : M9.n = rn + 1 := hMn9.trans hMn
    obtain ⟨qw, eqw⟩ : ∃ r, r = pk % M9.n := ⟨_, rfl⟩
    have hqw : qw < M9.n := by rw [eqw]; exact Nat.mod_lt _ (by omega)
    have hWc := m5.c
    have hWl := m5.l
    have hWa := m5.a
    have hWg := m5.g
    have hLo := m5.g qw (by omega)
    have hLoc := hLo.c
    have hLob := hLo.bn
    have hWi := m5.inv qw (by omega)
    have hLoi : ∀ z, z < (M9.ml qw).s.nn → U64r ((M9.ml qw).id z) := fun z hz => by have h1 : 1 ≤ (M9.ml qw).id z := hWi.pos z hz; have h2 : (M9.ml qw).id z < 7696581394432 := hWi.top z hz; exact ⟨by omega, by omega⟩
    -- region 8 draws
    refine Fx.W.tail 18 (by kernel_rfl) (by kernel_rfl) fun wt1 hbwt1 hzwt1 => ?_
    have s4 : Fx.Stp w4.heap.size w4 wt1 := Fx.Stp.of_below hbwt1
    have m8 := m4.stp s4 (Nat.ne_of_lt (m4.lt))
    have m9 := hWc.stp s4 (Nat.ne_of_lt (hWc.lt))
    have m10 := hWl.stp s4 (hWl.notNew (Nat.le_refl _))
    have m11 := hWa.stp s4 (hWa.notNew (Nat.le_refl _))
    have m12 := hLoc.stp s4 (Nat.ne_of_lt (hLoc.lt))
    have m13 := hLo.up s4.old
    have b6 := s4.below b4 b4.size b4.size
    refine Fx.St.v (.agg (Fx.varr 20 (stY s))) (Fx.x_loadA (x := stY s) (y := stY s) rfl h5 (by kernel_rfl) (by kernel_rfl) m8.cel (i := 0) (by omega) (by omega) (fun j _ => by rw [Nat.zero_add])) ?_
    refine Fx.St.v (.pointer (some ⟨pw, 0, none⟩)) (Fx.x_move rfl h6) ?_
    refine Fx.St.v (.pointer (some ⟨pw, 0, none⟩)) (Fx.x_nil rfl rfl) ?_
    refine Fx.St.v (.pointer (some ⟨pw, 0, none⟩)) (Fx.x_field rfl rfl Try.underlying63 rfl (s := 1) (by kernel_rfl) rfl rfl) ?_
    refine Fx.St.v (.slice M9.la (M9.n) (M9.lc)) (Fx.x_load1 (x := wdY (.slice M9.la (M9.n) (M9.lc)) (.slice M9.aa (M9.an) (M9.ac))) rfl rfl (by kernel_rfl) m9.cel (i := 0) (by omega) (by omega) rfl) ?_
    refine Fx.St.v (.int .u8 ((pk : Int))) (Fx.x_move rfl h2) ?_
    refine Fx.St.v (.int .i64 ((pk : Int))) (Fx.x_conv rfl rfl (by kernel_rfl) Try.underlying3 (Fx.i64e (by omega) rfl)) ?_
    refine Fx.St.v (.pointer (some ⟨pw, 0, none⟩)) (Fx.x_move rfl h6) ?_
    refine Fx.St.v (.pointer (some ⟨pw, 0, none⟩)) (Fx.x_nil rfl rfl) ?_
    refine Fx.St.v (.pointer (some ⟨pw, 0, none⟩)) (Fx.x_field rfl rfl Try.underlying63 rfl (s := 1) (by kernel_rfl) rfl rfl) ?_
    refine Fx.St.v (.slice M9.la (M9.n) (M9.lc)) (Fx.x_load1 (x := wdY (.slice M9.la (M9.n) (M9.lc)) (.slice M9.aa (M9.an) (M9.ac))) rfl rfl (by kernel_rfl) m9.cel (i := 0) (by omega) (by omega) rfl) ?_
    refine Fx.St.v (.int .i64 ((M9.n : Int))) (Fx.x_len rfl rfl rfl (by kernel_rfl)) ?_
    refine Fx.St.v (.int .i64 ((qw : Int))) (Fx.x_rem rfl rfl rfl (by omega) (remL eqw)) ?_
    obtain ⟨gq1, eq2⟩ := m10.addr (by omega)
    have m14 : Fx.Own wt1 w1.heap.size 59 1 (.slice (some ⟨gq1, 0, none⟩) M9.n M9.lc) M9.n (ptX M9.pl) := m10.congV (congrArg (fun q => Value.slice q M9.n M9.lc) eq2)
    refine Fx.St.v (.pointer (some ⟨gq1, qw, none⟩)) (Fx.x_indexS rfl (rfl.trans (congrArg (fun q => Value.slice q (M9.n) (M9.lc)) eq2)) rfl Try.underlying60 (s := 1) (by kernel_rfl) (by omega) (by omega) (by omega)) ?_
    refine Fx.St.v (.pointer (some ⟨(M9.pl qw), 0, none⟩)) (Fx.x_load1 (x := ptX M9.pl) rfl rfl (by kernel_rfl) m14.cel (i := qw) (by omega) (by omega) rfl) ?_
    refine Fx.St.v (.pointer (some ⟨(M9.pl qw), 0, none⟩)) (Fx.x_nil rfl rfl) ?_
    refine Fx.St.v (.pointer (some ⟨(M9.pl qw), 0, none⟩)) (Fx.x_field rfl rfl Try.underlying71 rfl (s := 20) (by kernel_rfl) rfl rfl) ?_
    refine Fx.St.v (.agg (Fx.varr 20 (stY (M9.ml qw).s))) (Fx.x_loadA (x := ldY (M9.ml qw)) (y := stY (M9.ml qw).s) rfl rfl (by kernel_rfl) (by kernel_rfl) m12.cel (i := 0) (by omega) (by omega) (fun jq hjq => (show ldY _ (0 + jq) = stY _ jq by rw [Nat.zero_add]; exact ldY_st _ hjq rfl))) ?_
    refine Fx.St.nil ?_
    refine Fx.L.bslice (vs := [(0, .agg (Fx.varr 20 (stY s))), (1, .agg (Fx.varr 20 (stY (M9.ml qw).s)))]) (s := 20) (zc := fun zq => if zq < 12 then .bool false else if zq < 18 then .int .u64 (0) else .slice none 0 0) (y := Fx.ovr (Fx.ovr (fun j => if (j % 20) < 12 then .bool false else if (j % 20) < 18 then .int .u64 (0) else .slice none 0 0) (0 * 20) 20 (stY s)) (1 * 20) 20 (stY (M9.ml qw).s)) (by rfl) rfl rfl Try.underlying74 (by kernel_rfl) (by rfl) (by rfl) (by kernel_rfl) (by rw [Fx.fill_step (off := 0 * 20) (s := 20) (y := stY s) rfl (Fx.cells_agg _ _) (by rfl)]; rw [Fx.fill_step (off := 1 * 20) (s := 20) (y := stY (M9.ml qw).s) rfl (Fx.cells_agg _ _) (by rfl)]; rfl) rfl fun g2 w6 eg2 m15 s5 z2 => ?_
    have m16 := m8.stp s5 (Nat.ne_of_lt (m8.lt))
    have m17 := m9.stp s5 (Nat.ne_of_lt (m9.lt))
    have m18 := m11.stp s5 (m11.notNew (Nat.le_refl _))
    have m19 := m12.stp s5 (Nat.ne_of_lt (m12.lt))
    have m20 := m13.up s5.old
    have m21 := m14.stpB s5 (Nat.ne_of_lt (m14.lt))
    have b7 := s5.below b6 b6.size b6.size
    have lg2 : w.heap.size ≤ g2 := by rw [eg2]; exact b6.size
    have ng2m16 : g1 ≠ g2 := by rw [eg2]; exact Nat.ne_of_lt (m8.lt)
    have ng2m17 : pw ≠ g2 := by rw [eg2]; exact Nat.ne_of_lt (m9.lt)
    have ng2m19 : (M9.pl qw) ≠ g2 := by rw [eg2]; exact Nat.ne_of_lt (m12.lt)
    have ng2m21 : gq1 ≠ g2 := by rw [eg2]; exact Nat.ne_of_lt (m14.lt)
    have tg2 : g2 < w6.heap.size := m15.lt
    clear eg2
    refine Fx.L.v (.slice (some ⟨g2, 0, none⟩) (2) (2)) (Fx.x_assign rfl rfl) ?_
    refine Fx.L.nil (Fx.seqN (Fx.W.seq (Fx.W.seq ?_)))
    have m22 : Fx.Blk w6 g2 (2 * 20) (Fx.flat 20 (fun kq => stY (two s (M9.ml qw).s kq))) 43 := m15.congr (fun j hj => two_flat j hj)
    have hU := two_u (s := s) (t := (M9.ml qw).s) (id := id) (id2 := (M9.ml qw).id) (fun q hq => (hs.wn q hq).1) (fun q hq => hLoi q hq)
    have hN9 := two_le (s := s) (t := (M9.ml qw).s) (N := 900000) (by omega) (by omega)
    refine Fx.W.list (Fx.L.v (.int .i64 (0)) (Fx.x_assign rfl rfl) ?_)
    refine Fx.L.nil (Fx.seqN (Fx.W.block (Fx.W.loop (fun f w_ => ∃ k : Nat, k ≤ 2 ∧ f 4 = .int .i64 (i) ∧ f 5 = .int .i64 (tj) ∧ f 15 = .slice (some ⟨g2, 0, none⟩) (2) (2) ∧ f 16 = .int .i64 ((k : Int)) ∧ LdO w_ w1.heap.size (M9.pl qw) (M9.ml qw) ∧ Fx.Blk w_ g2 (2 * 20) (Fx.flat 20 (fun kq => stY (two s (M9.ml qw).s kq))) 43 ∧ Below w.heap.size w w_) (fun f _ => (2 - (intOf (f 16)).toNat)) ⟨0, by omega, (h3.trans (by first | rfl | exact congrArg (Value.int .i64) (by omega))), (h4.trans (by first | rfl | exact congrArg (Value.int .i64) (by omega))), (by rfl), (by first | rfl | exact congrArg (Value.int .i64) (by omega)), m20, m22, b7⟩ ?_)))
    rintro f2 w7 ⟨k, hk, h8, h9, h10, h11, m23, m24, b8⟩
    refine Fx.W.seq (Fx.W.seq (Fx.W.list (Fx.L.v (.int .i64 ((k : Int))) (Fx.x_move rfl h11) ?_)))
    by_cases c71 : (k : Int) < 2
    ·refine Fx.L.v (.bool true) (Fx.x_lssT rfl rfl rfl c71) ?_
     refine Fx.L.nil (Fx.seqN (Fx.W.cond (b := true) rfl (fun _ => Fx.W.skip (Fx.seqN (Fx.W.seq (Fx.W.block (Fx.W.seq (Fx.W.list (Fx.L.v (.slice (some ⟨g2, 0, none⟩) (2) (2)) (Fx.x_move rfl h10) ?_))))))) (fun h => nomatch h)))
     refine Fx.L.v (.int .i64 ((k : Int))) (Fx.x_move rfl h11) ?_
     refine Fx.L.v (.pointer (some ⟨g2, 20 * k, none⟩)) (Fx.x_indexS rfl rfl rfl Try.underlying74 (s := 20) (by kernel_rfl) (by omega) (by omega) (by omega)) ?_
     refine Fx.L.v (.agg (Fx.varr 20 (stY (two s (M9.ml qw).s k)))) (Fx.x_loadA (x := Fx.flat 20 (fun kq => stY (two s (M9.ml qw).s kq))) (y := stY (two s (M9.ml qw).s k)) rfl rfl (by kernel_rfl) (by kernel_rfl) m24.cel (i := 20 * k) (by omega) (by omega) (fun jq hjq => Fx.flat_at (k := k) (by omega) hjq)) ?_
     refine Fx.L.call (by rfl) (Fx.r_call (args := [.agg (Fx.varr 20 (stY (two s (M9.ml qw).s k)))]) rfl rfl Try.func30 rfl rfl) rfl ((m_live (two s (M9.ml qw).s k) _).mono ?_)
     rintro e9 w8 ⟨vq1, nq1, he, hnq1, hOq1, hbq1⟩
     obtain ⟨aq1, capq1, rfl⟩ := hOq1.val
     refine ⟨_, he, ?_⟩
     clear he
     have s6 := Fx.Stp.of_below hbq1
     have m25 := m23.up s6.old
     have m26 := m24.stp s6 (Nat.ne_of_lt (m24.lt))
     have b9 := s6.below b8 b8.size b8.size
     have hnL : nq1 ≤ 6 := by rw [hnq1]; exact live_len _ 6
     refine Fx.L.v (.slice aq1 (nq1) (capq1)) (Fx.x_assign rfl rfl) ?_
     refine Fx.L.nil (Fx.seqN (Fx.W.seq (Fx.W.list (Fx.L.v (.slice (some ⟨g2, 0, none⟩) (2) (2)) (Fx.x_move rfl h10) ?_))))
     refine Fx.L.v (.int .i64 ((k : Int))) (Fx.x_move rfl h11) ?_
     refine Fx.L.v (.pointer (some ⟨g2, 20 * k, none⟩)) (Fx.x_indexS rfl rfl rfl Try.underlying74 (s := 20) (by kernel_rfl) (by omega) (by omega) (by omega)) ?_
     refine Fx.L.v (.agg (Fx.varr 20 (stY (two s (M9.ml qw).s k)))) (Fx.x_loadA (x := Fx.flat 20 (fun kq => stY (two s (M9.ml qw).s kq))) (y := stY (two s (M9.ml qw).s k)) rfl rfl (by kernel_rfl) (by kernel_rfl) m26.cel (i := 20 * k) (by omega) (by omega) (fun jq hjq => Fx.flat_at (k := k) (by omega) hjq)) ?_
     refine Fx.L.call (by rfl) (Fx.r_call (args := [.agg (Fx.varr 20 (stY (two s (M9.ml qw).s k)))]) rfl rfl Try.func31 rfl rfl) rfl ((r_live (two s (M9.ml qw).s k) _).mono ?_)
     rintro e9 w9 ⟨vq2, nq2, he, hnq2, hOq2, hbq2⟩
     obtain ⟨aq2, capq2, rfl⟩ := hOq2.val
     obtain rfl : nq1 = nq2 := hnq1.trans hnq2.symm
     refine ⟨_, he, ?_⟩
     clear he
     have s7 := Fx.Stp.of_below hbq2
     have m27 := m25.up s7.old
     have m28 := m26.stp s7 (Nat.ne_of_lt (m26.lt))
     have m29 := hOq1.stp s7 (hOq1.notNew (Nat.le_refl _))
     have b10 := s7.below b9 b9.size b9.size
     refine Fx.L.v (.slice aq2 (nq1) (capq2)) (Fx.x_assign rfl rfl) ?_
     refine Fx.L.nil (Fx.seqN (Fx.W.seq (Fx.W.seq (Fx.W.list (Fx.L.v (.slice aq1 (nq1) (capq1)) (Fx.x_move rfl rfl) ?_)))))
     refine Fx.L.v (.int .i64 ((nq1 : Int))) (Fx.x_len rfl rfl rfl (by kernel_rfl)) ?_
     refine Fx.L.v (.slice aq2 (nq1) (capq2)) (Fx.x_move rfl rfl) ?_
     refine Fx.L.v (.int .i64 ((nq1 : Int))) (Fx.x_len rfl rfl rfl (by kernel_rfl)) ?_
     refine Fx.L.v (.bool false) (Fx.x_neqF rfl rfl rfl rfl) ?_
     refine Fx.L.nil (Fx.seqN (Fx.W.cond (b := false) rfl (fun h => nomatch h) (fun _ => Fx.W.skip (Fx.seqN (Fx.W.seq (Fx.W.seq (Fx.W.list (Fx.L.v (.int .i64 (0)) (Fx.x_assign rfl rfl) ?_))))))))
     refine Fx.L.nil (Fx.seqN (Fx.W.block (Fx.W.loop (fun f w_ => ∃ j : Nat, j ≤ nq1 ∧ f 4 = .int .i64 (i) ∧ f 5 = .int .i64 (tj) ∧ f 15 = .slice (some ⟨g2, 0, none⟩) (2) (2) ∧ f 16 = .int .i64 ((k : Int)) ∧ f 17 = .slice aq1 (nq1) (capq1) ∧ f 18 = .slice aq2 (nq1) (capq2) ∧ f 19 = .int .i64 ((j : Int)) ∧ LdO w_ w1.heap.size (M9.pl qw) (M9.ml qw) ∧ Fx.Blk w_ g2 (2 * 20) (Fx.flat 20 (fun kq => stY (two s (M9.ml qw).s kq))) 43 ∧ Fx.Own w_ w7.heap.size 3 1 (.slice aq1 (nq1) (capq1)) nq1 (lsX (liveN (two s (M9.ml qw).s k) 6)) ∧ Fx.Own w_ w8.heap.size 3 1 (.slice aq2 (nq1) (capq2)) nq1 (lsX (liveN (two s (M9.ml qw).s k) 6)) ∧ Below w.heap.size w w_) (fun f _ => (nq1 - (intOf (f 19)).toNat)) ⟨0, by omega, (h8.trans (by first | rfl | exact congrArg (Value.int .i64) (by omega))), (h9.trans (by first | rfl | exact congrArg (Value.int .i64) (by omega))), h10, (h11.trans (by first | rfl | exact congrArg (Value.int .i64) (by omega))), (by rfl), (by rfl), (by first | rfl | exact congrArg (Value.int .i64) (by omega)), m27, m28, m29, hOq2, b10⟩ ?_)))
     rintro f3 w10 ⟨j, hj, h12, h13, h14, h15, h16, h17, h18, m30, m31, m32, m33, b11⟩
     refine Fx.W.seq (Fx.W.seq (Fx.W.list (Fx.L.v (.int .i64 ((j : Int))) (Fx.x_move rfl h18) ?_)))
     refine Fx.L.v (.slice aq1 (nq1) (capq1)) (Fx.x_move rfl h16) ?_
     refine Fx.L.v (.int .i64 ((nq1 : Int))) (Fx.x_len rfl rfl rfl (by kernel_rfl)) ?_
     by_cases c92 : (j : Int) < (nq1 : Int)
     ·refine Fx.L.v (.bool true) (Fx.x_lssT rfl rfl rfl c92) ?_
      refine Fx.L.nil (Fx.seqN (Fx.W.cond (b := true) rfl (fun _ => Fx.W.skip (Fx.seqN (Fx.W.seq (Fx.W.block (Fx.W.seq ?_))))) (fun h => nomatch h)))
      -- region 19 draws
      refine Fx.W.quiet (fun v1 => ∃ q, v1 = World.drewN w10 q) (by kernel_rfl) (by kernel_rfl) ⟨1, rfl⟩ ?_
      refine Fx.Qt.v (.slice aq1 (nq1) (capq1)) (fun v1 hv1 => Fx.x_move rfl h16) ?_
      refine Fx.Qt.v (.int .i64 ((j : Int))) (fun v1 hv1 => Fx.x_move rfl h18) ?_
      obtain ⟨gq2, eq3⟩ := m32.addr (by omega)
      have m34 : Fx.Own w10 w7.heap.size 3 1 (.slice (some ⟨gq2, 0, none⟩) nq1 capq1) nq1 (lsX (liveN (two s (M9.ml qw).s k) 6)) := m32.congV (congrArg (fun q => Value.slice q nq1 capq1) eq3)
      refine Fx.Qt.v (.pointer (some ⟨gq2, j, none⟩)) (fun v1 hv1 => Fx.x_indexS rfl (rfl.trans (congrArg (fun q => Value.slice q (nq1) (capq1)) eq3)) rfl Try.underlying23 (s := 1) (by kernel_rfl) (by omega) (by omega) (by omega)) ?_
      refine Fx.Qt.v (.int .i64 ((liveN (two s (M9.ml qw).s k) 6).getD j 0)) (fun v1 hv1 => Fx.x_load1 (x := lsX (liveN (two s (M9.ml qw).s k) 6)) rfl rfl (by kernel_rfl) (by obtain ⟨qd, rfl⟩ := hv1; exact m34.cel) (i := j) (by omega) (by omega) rfl) ?_
      refine Fx.Qt.v (.slice aq2 (nq1) (capq2)) (fun v1 hv1 => Fx.x_move rfl h17) ?_
      refine Fx.Qt.v (.int .i64 ((j : Int))) (fun v1 hv1 => Fx.x_move rfl h18) ?_
      obtain ⟨gq3, eq4⟩ := m33.addr (by omega)
      have m35 : Fx.Own w10 w8.heap.size 3 1 (.slice (some ⟨gq3, 0, none⟩) nq1 capq2) nq1 (lsX (liveN (two s (M9.ml qw).s k) 6)) := m33.congV (congrArg (fun q => Value.slice q nq1 capq2) eq4)
      refine Fx.Qt.v (.pointer (some ⟨gq3, j, none⟩)) (fun v1 hv1 => Fx.x_indexS rfl (rfl.trans (congrArg (fun q => Value.slice q (nq1) (capq2)) eq4)) rfl Try.underlying23 (s := 1) (by kernel_rfl) (by omega) (by omega) (by omega)) ?_
      refine Fx.Qt.v (.int .i64 ((liveN (two s (M9.ml qw).s k) 6).getD j 0)) (fun v1 hv1 => Fx.x_load1 (x := lsX (liveN (two s (M9.ml qw).s k) 6)) rfl rfl (by kernel_rfl) (by obtain ⟨qd, rfl⟩ := hv1; exact m35.cel) (i := j) (by omega) (by omega) rfl) ?_
      refine Fx.Qt.v (.bool false) (fun v1 hv1 => Fx.x_neqF rfl rfl rfl rfl) ?_
      refine Fx.Qt.nil ?_
      rintro _ ⟨qd, rfl⟩
      obtain ⟨wq1, ewq1⟩ : ∃ v1, v1 = World.drewN w10 qd := ⟨_, rfl⟩
      rw [← ewq1]
      have s8 : Fx.Stp w10.heap.size w10 wq1 := by rw [ewq1]; exact Fx.Stp.of_below (bdrN w10 qd)
      have m36 := m30.up s8.old
      have m37 := m31.stp s8 (Nat.ne_of_lt (m31.lt))
      have m38 := m34.stpB s8 (Nat.ne_of_lt (m34.lt))
      have m39 := m35.stpB s8 (Nat.ne_of_lt (m35.lt))
      have b12 := s8.below b11 b11.size b11.size
      clear ewq1
      refine Fx.seqN (Fx.W.cond (b := false) rfl (fun h => nomatch h) (fun _ => Fx.W.skip (Fx.blkN (Fx.seqN (Fx.W.list (Fx.L.v (.int .i64 ((j : Int))) (Fx.x_move rfl h18) ?_))))))
      refine Fx.L.v (.int .i64 ((j : Int) + 1)) (Fx.x_add rfl rfl rfl (Fx.i64e (by omega) (by omega))) ?_
      refine Fx.L.v (.int .i64 ((j : Int) + 1)) (Fx.x_assign rfl rfl) ?_
      refine Fx.L.nil ?_
      have m40 : Fx.Own wq1 w7.heap.size 3 1 (.slice aq1 (nq1) (capq1)) nq1 (lsX (liveN (two s (M9.ml qw).s k) 6)) := m38.congV (congrArg (fun q => Value.slice q nq1 capq1) eq3.symm)
      have m41 : Fx.Own wq1 w8.heap.size 3 1 (.slice aq2 (nq1) (capq2)) nq1 (lsX (liveN (two s (M9.ml qw).s k) 6)) := m39.congV (congrArg (fun q => Value.slice q nq1 capq2) eq4.symm)
      refine Fx.lpN ⟨j + 1, by omega, (h12.trans (by first | rfl | exact congrArg (Value.int .i64) (by omega))), (h13.trans (by first | rfl | exact congrArg (Value.int .i64) (by omega))), h14, (h15.trans (by first | rfl | exact congrArg (Value.int .i64) (by omega))), h16, h17, (by first | rfl | exact congrArg (Value.int .i64) (by omega)), m36, m37, m40, m41, b12⟩ ?_
      show (nq1 - (intOf ((.int .i64 ((j : Int) + 1)))).toNat) < _
      simp only [h18, intOf]; omega
     ·refine Fx.L.v (.bool false) (Fx.x_lssF rfl rfl rfl c92) ?_
      refine Fx.L.nil (Fx.seqN (Fx.W.cond (b := false) rfl (fun h => nomatch h) (fun _ => Fx.W.exit (Fx.seqX (Fx.lpX (Fx.blkX (Fx.seqN (Fx.W.seq (Fx.W.list (Fx.L.v (.slice (some ⟨g2, 0, none⟩) (2) (2)) (Fx.x_move rfl h14) ?_))))))))))
      refine Fx.L.v (.int .i64 ((k : Int))) (Fx.x_move rfl h15) ?_
      refine Fx.L.v (.pointer (some ⟨g2, 20 * k, none⟩)) (Fx.x_indexS rfl rfl rfl Try.underlying74 (s := 20) (by kernel_rfl) (by omega) (by omega) (by omega)) ?_
      refine Fx.L.v (.agg (Fx.varr 20 (stY (two s (M9.ml qw).s k)))) (Fx.x_loadA (x := Fx.flat 20 (fun kq => stY (two s (M9.ml qw).s kq))) (y := stY (two s (M9.ml qw).s k)) rfl rfl (by kernel_rfl) (by kernel_rfl) m31.cel (i := 20 * k) (by omega) (by omega) (fun jq hjq => Fx.flat_at (k := k) (by omega) hjq)) ?_
      refine Fx.L.v (.int .i64 (i)) (Fx.x_move rfl h12) ?_
      refine Fx.L.v (.int .i64 (tj)) (Fx.x_move rfl h13) ?_
      refine Fx.L.call (by rfl) (Fx.r_call (args := [.agg (Fx.varr 20 (stY (two s (M9.ml qw).s k))), .int .i64 (i), .int .i64 (tj)]) rfl rfl Try.func32 rfl rfl) rfl ((m_leave (two s (M9.ml qw).s k) (two id (M9.ml qw).id k) (two par (M9.ml qw).par k) (two R (M9.ml qw).R k) i tj _ (hN9 k (by omega)) (two_nds (hs.nds.below b11) m30.ldg.n k (by omega)) hi).mono ?_)
      rintro e9 w11 ⟨vq3, nq3, he, hnq3, hOq3, hbq3⟩
      obtain ⟨aq3, capq3, rfl⟩ := hOq3.val
      refine ⟨_, he, ?_⟩
      clear he
      have s9 := Fx.Stp.of_below hbq3
      have m42 := m30.up s9.old
      have m43 := m31.stp s9 (Nat.ne_of_lt (m31.lt))
      have m44 := m32.stp s9 (m32.notNew (Nat.le_refl _))
      have m45 := m33.stp s9 (m33.notNew (Nat.le_refl _))
      have b13 := s9.below b11 b11.size b11.size
      have hnM : nq3 ≤ 1000000 := by rw [hnq3]; exact leaveL_len (hN9 k (by omega))
      refine Fx.L.v (.tuple #[.slice aq3 (nq3) (capq3), .int .i64 (leaveE (two s (M9.ml qw).s k) i tj)]) (Fx.x_move rfl rfl) ?_
      refine Fx.L.v (.slice aq3 (nq3) (capq3)) (Fx.x_extract rfl rfl rfl) ?_
      refine Fx.L.v (.int .i64 (leaveE (two s (M9.ml qw).s k) i tj)) (Fx.x_extract rfl rfl rfl) ?_
      refine Fx.L.v (.slice aq3 (nq3) (capq3)) (Fx.x_assign rfl rfl) ?_
      refine Fx.L.v (.int .i64 (leaveE (two s (M9.ml qw).s k) i tj)) (Fx.x_assign rfl rfl) ?_
      refine Fx.L.nil (Fx.seqN (Fx.W.seq (Fx.W.list (Fx.L.v (.slice (some ⟨g2, 0, none⟩) (2) (2)) (Fx.x_move rfl h14) ?_))))
      refine Fx.L.v (.int .i64 ((k : Int))) (Fx.x_move rfl h15) ?_
      refine Fx.L.v (.pointer (some ⟨g2, 20 * k, none⟩)) (Fx.x_indexS rfl rfl rfl Try.underlying74 (s := 20) (by kernel_rfl) (by omega) (by omega) (by omega)) ?_
      refine Fx.L.v (.agg (Fx.varr 20 (stY (two s (M9.ml qw).s k)))) (Fx.x_loadA (x := Fx.flat 20 (fun kq => stY (two s (M9.ml qw).s kq))) (y := stY (two s (M9.ml qw).s k)) rfl rfl (by kernel_rfl) (by kernel_rfl) m43.cel (i := 20 * k) (by omega) (by omega) (fun jq hjq => Fx.flat_at (k := k) (by omega) hjq)) ?_
      refine Fx.L.v (.int .i64 (i)) (Fx.x_move rfl h12) ?_
      refine Fx.L.v (.int .i64 (tj)) (Fx.x_move rfl h13) ?_
      refine Fx.L.call (by rfl) (Fx.r_call (args := [.agg (Fx.varr 20 (stY (two s (M9.ml qw).s k))), .int .i64 (i), .int .i64 (tj)]) rfl rfl Try.func33 rfl rfl) rfl ((r_leave (two s (M9.ml qw).s k) (two id (M9.ml qw).id k) (two par (M9.ml qw).par k) (two R (M9.ml qw).R k) i tj _ (hN9 k (by omega)) (two_nds (hs.nds.below b13) m42.ldg.n k (by omega)) hi).mono ?_)
      rintro e9 w12 ⟨vq4, nq4, he, hnq4, hOq4, hbq4⟩
      obtain ⟨aq4, capq4, rfl⟩ := hOq4.val
      obtain rfl : nq3 = nq4 := hnq3.trans hnq4.symm
      refine ⟨_, he, ?_⟩
      clear he
      have s10 := Fx.Stp.of_below hbq4
      have m46 := m42.up s10.old
      have m47 := m43.stp s10 (Nat.ne_of_lt (m43.lt))
      have m48 := m44.stp s10 (m44.notNew (Nat.le_refl _))
      have m49 := m45.stp s10 (m45.notNew (Nat.le_refl _))
      have m50 := hOq3.stp s10 (hOq3.notNew (Nat.le_refl _))
      have b14 := s10.below b13 b13.size b13.size
      refine Fx.L.v (.tuple #[.slice aq4 (nq3) (capq4), .int .i64 (leaveE (two s (M9.ml qw).s k) i tj)]) (Fx.x_move rfl rfl) ?_
      refine Fx.L.v (.slice aq4 (nq3) (capq4)) (Fx.x_extract rfl rfl rfl) ?_
      refine Fx.L.v (.int .i64 (leaveE (two s (M9.ml qw).s k) i tj)) (Fx.x_extract rfl rfl rfl) ?_
      refine Fx.L.v (.slice aq4 (nq3) (capq4)) (Fx.x_assign rfl rfl) ?_
      refine Fx.L.v (.int .i64 (leaveE (two s (M9.ml qw).s k) i tj)) (Fx.x_assign rfl rfl) ?_
      refine Fx.L.nil (Fx.seqN (Fx.W.seq (Fx.W.list (Fx.L.v (.int .i64 (leaveE (two s (M9.ml qw).s k) i tj)) (Fx.x_move rfl rfl) ?_))))
      refine Fx.L.v (.int .i64 (leaveE (two s (M9.ml qw).s k) i tj)) (Fx.x_move rfl rfl) ?_
      refine Fx.L.v (.bool false) (Fx.x_neqF rfl rfl rfl rfl) ?_
      refine Fx.L.v (.bool false) (Fx.x_move rfl rfl) ?_
      refine Fx.L.v (.slice aq3 (nq3) (capq3)) (Fx.x_move rfl rfl) ?_
      refine Fx.L.v (.slice aq4 (nq3) (capq4)) (Fx.x_move rfl rfl) ?_
      refine Fx.L.call (by rfl) (Fx.r_call (args := [.slice aq3 (nq3) (capq3), .slice aq4 (nq3) (capq4)]) rfl rfl Try.func34 rfl rfl) rfl ((r_same aq3 aq4 nq3 capq3 capq4 (leaveL (two s (M9.ml qw).s k) (two id (M9.ml qw).id k) (two R (M9.ml qw).R k) i tj) _ m50.arr hOq4.arr hnq3 (by omega) (leaveL_wf ht (hU k (by omega)))).mono ?_)
      rintro e w13 ⟨he, hb3⟩
      refine ⟨.bool true, by rw [he], ?_⟩
      clear he
      have s11 := Fx.Stp.of_below hb3
      have m51 := m46.up s11.old
      have m52 := m47.stp s11 (Nat.ne_of_lt (m47.lt))
      have m53 := m48.stp s11 (m48.notNew (Nat.le_refl _))
      have m54 := m49.stp s11 (m49.notNew (Nat.le_refl _))
      have m55 := m50.stp s11 (m50.notNew (Nat.le_refl _))
      have m56 := hOq4.stp s11 (hOq4.notNew (Nat.le_refl _))
      have b15 := s11.below b14 b14.size b14.size
      refine Fx.L.v (.bool false) (Fx.x_notF rfl rfl) ?_
      refine Fx.L.v (.bool false) (Fx.x_pickF rfl rfl rfl) ?_
      refine Fx.L.nil (Fx.seqN (Fx.W.cond (b := false) rfl (fun h => nomatch h) (fun _ => Fx.W.skip (Fx.blkN (Fx.seqN (Fx.W.list (Fx.L.v (.int .i64 ((k : Int))) (Fx.x_move rfl h15) ?_)))))))
      refine Fx.L.v (.int .i64 ((k : Int) + 1)) (Fx.x_add rfl rfl rfl (Fx.i64e (by omega) (by omega))) ?_
      refine Fx.L.v (.int .i64 ((k : Int) + 1)) (Fx.x_assign rfl rfl) ?_
      refine Fx.L.nil (Fx.lpN ⟨k + 1, by omega, (h12.trans (by first | rfl | exact congrArg (Value.int .i64) (by omega))), (h13.trans (by first | rfl | exact congrArg (Value.int .i64) (by omega))), h14, (by first | rfl | exact congrArg (Value.int .i64) (by omega)), m51, m52, b15⟩ ?_)
      show (2 - (intOf ((.int .i64 ((k : Int) + 1)))).toNat) < _
      simp only [h11, intOf]; omega
    ·refine Fx.L.v (.bool false) (Fx.x_lssF rfl rfl rfl c71) ?_
     refine Fx.L.nil (Fx.seqN (Fx.W.cond (b := false) rfl (fun h => nomatch h) (fun _ => Fx.W.exit (Fx.seqX (Fx.lpX (Fx.blkX (Fx.seqN (Fx.W.seq (Fx.W.list (Fx.L.call (by rfl) (Fx.r_call (args := []) rfl rfl Try.func29 rfl rfl) rfl ((works19_any _).mono ?_)))))))))))
     rintro e w14 ⟨he, hb4⟩
     refine ⟨.bool true, by rw [he], ?_⟩
     clear he
     have s12 := Fx.Stp.of_below hb4
     have m57 := m23.up s12.old
     have m58 := m24.stp s12 (Nat.ne_of_lt (m24.lt))
     have b16 := s12.below b8 b8.size b8.size
     refine Fx.L.v (.bool true) (Fx.x_assign rfl rfl) ?_
     refine Fx.L.nil (Fx.seqN (Fx.W.ret (⟨.bool true, Fx.retV1 Try.results6 (by exact rfl), ?_⟩)))
     exact ⟨rfl, b16⟩
 ·rw [Bool.not_eq_true] at c25
  refine Fx.L.call (by rfl) (Fx.r_call (args := [.slice aa0 (na) (ca)]) rfl rfl Try.func20 rfl rfl) rfl ((l_few _ _ _ _).mono ?_)
  rintro e v1 ⟨he, hv1⟩
  subst v1
  refine ⟨.bool false, by rw [he, c25], ?_⟩
  clear he
  refine Fx.L.v (.bool true) (Fx.x_notT rfl rfl) ?_
  refine Fx.L.v (.bool true) (Fx.x_move rfl rfl) ?_
  refine Fx.L.skip (by rfl) rfl ?_
  refine Fx.L.skip (by rfl) rfl ?_
  refine Fx.L.skip (by rfl) rfl ?_
  refine Fx.L.skip (by rfl) rfl ?_
  refine Fx.L.v (.bool true) (Fx.x_pickT rfl rfl rfl) ?_
  refine Fx.L.nil (Fx.seqN (Fx.W.cond (b := true) rfl (fun _ => Fx.W.seq (Fx.W.list (Fx.L.call (by rfl) (Fx.r_call (args := []) rfl rfl Try.func29 rfl rfl) rfl ((works19_any _).mono ?_)))) (fun h => nomatch h)))
  rintro e w15 ⟨he, hb5⟩
  refine ⟨.bool true, by rw [he], ?_⟩
  clear he
  have s13 := Fx.Stp.of_below hb5
  have m59 := m1.stp s13 (Nat.ne_of_lt (m1.lt))
  have b17 := s13.below b1 b1.size b1.size
  refine Fx.L.v (.bool true) (Fx.x_assign rfl rfl) ?_
  refine Fx.L.nil (Fx.seqN (Fx.W.ret (Fx.seqR (⟨.bool true, Fx.retV1 Try.results6 (by exact rfl), ?_⟩))))
  exact ⟨rfl, b17⟩
end Go.Proofs.Ytolmkjepieoloaa
