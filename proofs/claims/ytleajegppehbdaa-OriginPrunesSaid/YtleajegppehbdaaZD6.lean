/-
  What the proof of the law rests on, part 6: walks of functions, and plain laws; each says its conditions itself.
-/
import Derived.Deep.Slices
import Derived.Lib.SmallJoins
import Derived.ChangeArms
import Derived.Test.YtleajegppehbdaaZD5
namespace Go.Proofs.Ytleajegppehbdaa
open Go.RowKit Rt
open Fx (x_move x_assign x_field x_load1 x_pickF x_pickT x_nil x_conv x_indexS x_index x_leqF x_loadA x_len x_gtrF x_build x_eqlF x_eqlT Lv sN Ln Ws Qv Wl Rp Wc Qs Wr Sb Lk Wk rC rV sR)
section
set_option linter.unusedVariables false
namespace Rt
def bump (K : Nat → Int) (r : Nat) : Nat → Int := updA K r (K r + 1)
def Chain : (Nat → Int) → List EvM → Prop
  | _, [] => True
  | K, e :: l => readyE K e = true ∧ Chain (bump K (regN e)) l
def endK : (Nat → Int) → List EvM → (Nat → Int)
  | K, [] => K
  | K, e :: l => endK (bump K (regN e)) l
def mnK (K u : Nat → Int) : Nat → Int := fun j => if K j ≤ u j then K j else u j
def mxK (K u : Nat → Int) : Nat → Int := fun j => if u j ≤ K j then K j else u j
def inU (u : Nat → Int) (e : EvM) : Bool := decide (e.seq ≤ u (regN e))
def tr6 (K : Nat → Int) : Nat → Int := fun j => if j < 6 then K j else 0
def evs (ev : Nat → EvM) (n : Nat) : List EvM := (List.range n).map ev
section
variable {K K' u : Nat → Int} {e : EvM} {l A : List EvM} {t : Nat}
theorem bump_ge (r j : Nat) : K j ≤ bump K r j := by unfold bump updA; split <;> (try subst_vars) <;> omega
theorem bump_at (r : Nat) : bump K r r = K r + 1 := by unfold bump updA; rw [if_pos rfl]
theorem bump_ne {r j : Nat} (h : j ≠ r) : bump K r j = K j := by unfold bump updA; rw [if_neg h]
theorem endK_ge : ∀ (l : List EvM) (K : Nat → Int) (j : Nat), K j ≤ endK K l j
  | [], _, _ => Int.le_refl _
  | e :: l, K, j => Int.le_trans (bump_ge (regN e) j) (endK_ge l _ j)
theorem endK_snoc : ∀ (l : List EvM) (K : Nat → Int) (e : EvM), endK K (l ++ [e]) = bump (endK K l) (regN e)
  | [], _, _ => rfl
  | x :: l, K, e => endK_snoc l (bump K (regN x)) e
theorem Chain.snoc : ∀ (l : List EvM) (K : Nat → Int) (e : EvM), Chain K l → readyE (endK K l) e = true → Chain K (l ++ [e])
  | [], _, _, _, h => ⟨h, trivial⟩
  | x :: l, K, e, h, h2 => ⟨h.1, Chain.snoc l (bump K (regN x)) e h.2 h2⟩
theorem Chain.app : ∀ (l l2 : List EvM) (K : Nat → Int), Chain K l → Chain (endK K l) l2 → Chain K (l ++ l2)
  | [], _, _, _, h => h
  | x :: l, l2, K, h, h2 => ⟨h.1, Chain.app l l2 (bump K (regN x)) h.2 h2⟩
theorem Chain.take : ∀ (l : List EvM) (K : Nat → Int) (t : Nat), Chain K l → Chain K (l.take t)
  | [], _, t, _ => by rw [List.take_nil]; trivial
  | x :: l, K, 0, _ => trivial
  | x :: l, K, t + 1, h => ⟨h.1, Chain.take l _ t h.2⟩
theorem Chain.gt : ∀ (l : List EvM) (K : Nat → Int), Chain K l → ∀ x ∈ l, K (regN x) < x.seq
  | [], _, _, _, h => by cases h
  | e :: l, K, h, x, hx => by
    rcases List.mem_cons.1 hx with rfl | hx
    · have := (rdy h.1).2.1; omega
    · exact Int.lt_of_le_of_lt (bump_ge (regN e) (regN x)) (Chain.gt l _ h.2 x hx)
theorem Chain.get : ∀ (l : List EvM) (K : Nat → Int) (t : Nat), Chain K l → t < l.length → readyE (endK K (l.take t)) (l.getD t zeroE) = true
  | [], _, _, _, h => absurd h (Nat.not_lt_zero _)
  | e :: l, K, 0, h, _ => h.1
  | e :: l, K, t + 1, h, ht => Chain.get l _ t h.2 (Nat.lt_of_succ_lt_succ ht)
theorem Chain.drop : ∀ (l : List EvM) (K : Nat → Int) (t : Nat), Chain K l → l.filter (keepE (endK K (l.take t))) = l.drop t
  | [], _, t, _ => by rw [List.drop_nil]; rfl
  | e :: l, K, 0, h => List.filter_eq_self.2 fun x hx => decide_eq_true (Chain.gt (e :: l) K h x hx)
  | e :: l, K, t + 1, h => by
    show (e :: l).filter (keepE (endK (bump K (regN e)) (l.take t))) = l.drop t
    rw [List.filter_cons, if_neg, Chain.drop l _ t h.2]
    have h1 := (rdy h.1).2.1
    have h2 := endK_ge (l.take t) (bump K (regN e)) (regN e)
    rw [bump_at] at h2
    unfold keepE
    rw [decide_eq_true_eq]
    omega
theorem mx_bump {r : Nat} (h : u r ≤ K r) : mxK (bump K r) u = bump (mxK K u) r := by
  funext j
  by_cases e : j = r
  · subst e; unfold mxK; rw [bump_at, bump_at, if_pos (by omega), if_pos h]
  unfold mxK; rw [bump_ne e, bump_ne e]
theorem mx_low {r : Nat} (h : K r + 1 ≤ u r) : mxK (bump K r) u = mxK K u := by
  funext j
  by_cases e : j = r
  · subst e; unfold mxK; rw [bump_at, if_neg (c := u j ≤ K j) (by omega)]; split <;> omega
  unfold mxK; rw [bump_ne e]
theorem mn_bump {r : Nat} (h : K r + 1 ≤ u r) : mnK (bump K r) u = bump (mnK K u) r := by
  funext j
  by_cases e : j = r
  · subst e; unfold mnK; rw [bump_at, bump_at, if_pos h, if_pos (by omega)]
  unfold mnK; rw [bump_ne e, bump_ne e]
theorem mn_high {r : Nat} (h : u r ≤ K r) : mnK (bump K r) u = mnK K u := by
  funext j
  by_cases e : j = r
  · subst e; unfold mnK; rw [bump_at, if_neg (by omega)]; split <;> omega
  unfold mnK; rw [bump_ne e]
theorem Chain.high : ∀ (l : List EvM) (K : Nat → Int), Chain K l → Chain (mxK K u) (l.filter (keepE u)) ∧ endK (mxK K u) (l.filter (keepE u)) = mxK (endK K l) u
  | [], _, _ => ⟨trivial, rfl⟩
  | e :: l, K, h => by
    obtain ⟨r1, r2, r3⟩ := rdy h.1
    obtain ⟨i1, i2⟩ := Chain.high l (bump K (regN e)) h.2
    rw [List.filter_cons]
    by_cases c : u (regN e) < e.seq
    · rw [if_pos (show keepE u e = true from decide_eq_true c)]
      rw [mx_bump (by omega)] at i1 i2
      refine ⟨⟨rdy_mk r1 ?_ fun i hi => ?_, i1⟩, i2⟩
      · unfold mxK; rw [if_pos (by omega)]; exact r2
      · have := r3 i hi; unfold mxK; split <;> omega
    · rw [if_neg (by unfold keepE; rw [decide_eq_true_eq]; exact c)]
      rw [mx_low (by omega)] at i1 i2
      exact ⟨i1, i2⟩
theorem readyE_late (h : readyE K e = true) : lateE K e = false := by
  have h1 := (rdy h).2.1
  show (mayE e && decide (e.seq ≤ K (regN e))) = false
  rw [decide_eq_false (by omega), Bool.and_false]
theorem addG_rdy {m : LgM} (h : readyE m.K e = true) : addG m e = 0 := by
  have h1 := (rdy h).1
  unfold addG
  rw [if_neg (by rw [h1]; decide), if_neg (by rw [readyE_late h]; decide), if_neg (by rw [h]; decide)]
theorem evs_s (ev : Nat → EvM) (n : Nat) : evs ev (n + 1) = evs ev n ++ [ev n] := by unfold evs; rw [List.range_succ, List.map_append]; rfl
theorem evs_len (ev : Nat → EvM) (n : Nat) : (evs ev n).length = n := by unfold evs; rw [List.length_map, List.length_range]
theorem cnt_bump (ev : Nat → EvM) (i : Nat) : bump (cntE ev i) (regN (ev i)) = cntE ev (i + 1) := by
  funext j
  show _ = cntE ev i j + if regN (ev i) = j then 1 else 0
  by_cases e : j = regN (ev i)
  · subst e; rw [bump_at, if_pos rfl]
  rw [bump_ne e, if_neg (fun h => e h.symm), Int.add_zero]
theorem evs_chain {ev : Nat → EvM} {an : Nat} (h : ∀ k, k < an → readyE (cntE ev k) (ev k) = true) : ∀ i, i ≤ an → Chain (fun _ => 0) (evs ev i) ∧ endK (fun _ => 0) (evs ev i) = cntE ev i
  | 0, _ => ⟨trivial, rfl⟩
  | i + 1, hi => by
    obtain ⟨h1, h2⟩ := evs_chain h i (by omega)
    rw [evs_s]
    exact ⟨Chain.snoc _ _ _ h1 (by rw [h2]; exact h i (by omega)), by rw [endK_snoc, h2, cnt_bump]⟩
theorem keep_keep (h : ∀ j, u j ≤ K j) (l : List EvM) : l.filter (keepE K) = (l.filter (keepE u)).filter (keepE K) := by
  rw [List.filter_filter]
  refine List.filter_congr fun x _ => ?_
  have := h (regN x)
  unfold keepE
  by_cases c : K (regN x) < x.seq
  · rw [decide_eq_true c, decide_eq_true (show u (regN x) < x.seq by omega)]; rfl
  rw [decide_eq_false c]; rfl
end
def LgE (m : LgM) (E : List EvM) : Prop := ∃ G, Gs m G ∧ G.map ItM.e = E
section
variable {m m' : LgM} {E : List EvM} {v : EvM} {V : Nat → Int}
theorem LgE.new : LgE newL [] := ⟨[], Gs.new, rfl⟩
theorem LgE.add (h : LgE m E) (ha : addG m v = 0) (hr : AddR m m' v) (hv : EvWf v) : LgE m' (E ++ [v]) ∧ m'.K = bump m.K (regN v) := by
  obtain ⟨G, h1, rfl⟩ := h
  refine ⟨⟨_, h1.add ha hr hv, by rw [List.map_append]; rfl⟩, ?_⟩
  rw [hr.1, (ready_seq (addG_ok ha).2).1]; rfl
theorem LgE.up (h : LgE m E) : ∀ i, i < 6 → SeqUp (m.L i) := let ⟨_, h1, _⟩ := h; h1.seqUp
theorem LgE.prune (h : LgE m E) (hp : PruneR m m' V) : LgE m' (E.filter (keepE V)) := by
  obtain ⟨G, h1, rfl⟩ := h
  exact ⟨_, h1.prune hp, keep_map V G⟩
theorem LgE.gone (h : LgE m E) (V : Nat → Int) : ((goneN m V 6 : Nat) : Int) = (E.length : Int) - ((E.filter (keepE V)).length : Int) := by
  obtain ⟨G, h1, rfl⟩ := h
  rw [h1.gone, ← keep_map, List.length_map, List.length_map]
  have := List.length_filter_le (keepB V) G
  omega
theorem LgE.len (h : LgE m E) : ((lenN m 6 : Nat) : Int) = ((E.length : Nat) : Int) := by obtain ⟨G, h1, rfl⟩ := h; rw [h1.len, List.length_map]
theorem LgE.wf (h : LgE m E) : ∀ x ∈ E, EvWf x := by
  obtain ⟨G, h1, rfl⟩ := h
  intro x hx; obtain ⟨y, hy, rfl⟩ := List.mem_map.1 hx; exact h1.wf y hy
end
end Rt
open Rt
theorem e_since (V : Nat → Int) (most : Int) {m : LgM} {B p T : Nat} {w : World} {E X : List EvM} (h : LgO w B p m T) (hT : T ≤ 100000) (hE : LgE m E) (hX : (E.filter (keepE V)).take most.toNat = X) :
    Calls Try.prog 29 #[.pointer (some ⟨p, 0, none⟩), .agg (Fx.varr 6 (Fx.rv .u64 V)), .int .i64 (most)] w fun e w' => ∃ a c, e = .returned (.slice a X.length c) ∧ Fx.Own w' w.heap.size 50 14 (.slice a X.length c) X.length (evL X) ∧ Below w.heap.size w w' := by
  obtain ⟨G, hG, rfl⟩ := hE
  subst hX
  exact t_since V most h hT (r := ⟨none, 0, G.map ItM.e, m.K⟩) ⟨hG, rfl, rfl⟩
theorem e_add {m : LgM} {B p T : Nat} {w : World} {E : List EvM} {v : EvM} (h : LgO w B p m T) (hB : B ≤ w.heap.size) (hT : T ≤ 900000) (hE : LgE m E) (hv : EvWf v) (hr : readyE m.K v = true) :
    Calls Try.prog 19 #[.pointer (some ⟨p, 0, none⟩), .agg (Fx.varr 14 (evY v))] w fun e w' => e = .returned (.int .i64 0) ∧ Fx.Chg (lgS p m) w w' ∧ ∃ m', LgO w' B p m' (T + 1) ∧ LgE m' (E ++ [v]) ∧ m'.K = bump m.K (regN v) ∧ SepS w p m m' :=
  (o_add v m B p T w h hB hT hv).mono fun e w' ⟨h1, h2, h3, _⟩ => by
    have h0 := addG_rdy (m := m) hr
    obtain ⟨m', q1, q2, q3⟩ := h3 h0
    obtain ⟨q4, q5⟩ := hE.add h0 q2 hv
    exact ⟨by rw [h1, h0], h2, m', q1, q4, q5, q3⟩
theorem e_prune (V : Nat → Int) {m : LgM} {B p T : Nat} {w : World} {E : List EvM} (h : LgO w B p m T) (hB : B ≤ w.heap.size) (hT : T ≤ 1000000) (hE : LgE m E) :
    Calls Try.prog 28 #[.pointer (some ⟨p, 0, none⟩), .agg (Fx.varr 6 (Fx.rv .u64 V))] w fun e w' => e = .returned (.int .i64 ((E.length : Int) - ((E.filter (keepE V)).length : Int))) ∧ Fx.Chg (lgS p m) w w' ∧ ∃ m', LgO w' B p m' T ∧ LgE m' (E.filter (keepE V)) ∧ m'.K = m.K ∧ SepS w p m m' :=
  (o_prune V m B p T w h hB hT hE.up).mono fun e w' ⟨h1, h2, m', h3, h4, h5⟩ => ⟨by rw [h1, hE.gone], h2, m', h3, hE.prune h4, h4.K, h5⟩
end
section
set_option linter.unusedVariables false
namespace Rt
structure LoU (m : LgM) (ev : Nat → EvM) (c : Nat) (u : Nat → Int) : Prop where
  E : LgE m ((evs ev c).filter (inU u))
  K : m.K = mnK (cntE ev c) u
def nx (c j : Nat) : Nat := if c = j then j + 1 else c
section
variable {m m' : LgM} {ev : Nat → EvM} {an c j : Nat} {u : Nat → Int}
theorem LoU.new (h : ∀ j, 0 ≤ u j) : LoU newL ev 0 u := ⟨LgE.new, by
  show (fun _ => (0 : Int)) = mnK (fun _ => 0) u
  funext j; unfold mnK; have := h j; rw [if_pos this]⟩
theorem LoU.skip (h : LoU m ev c u) (hr : readyE (cntE ev j) (ev j) = true) (hs : ¬ (ev j).seq ≤ u (regN (ev j))) : LoU m ev (nx c j) u := by
  unfold nx
  split
  · rename_i e; subst e
    have h1 := (rdy hr).2.1
    refine ⟨?_, ?_⟩
    · rw [evs_s, List.filter_append, List.filter_cons, if_neg (by unfold inU; rw [decide_eq_true_eq]; exact hs), List.filter_nil, List.append_nil]; exact h.E
    rw [← cnt_bump, mn_high (by omega)]; exact h.K
  exact h
theorem LoU.rdy (h : LoU m ev j u) (hr : readyE (cntE ev j) (ev j) = true) (hcl : ∀ i, i < 6 → (ev j).deps i ≤ u i) (hs : (ev j).seq ≤ u (regN (ev j))) : readyE m.K (ev j) = true := by
  obtain ⟨r1, r2, r3⟩ := Rt.rdy hr
  rw [h.K]
  refine rdy_mk r1 ?_ fun i hi => ?_
  · unfold mnK; rw [if_pos (by omega)]; exact r2
  have h1 := r3 i hi; have h2 := hcl i hi; unfold mnK; split <;> assumption
theorem LoU.add (h : LoU m ev j u) (hr : readyE (cntE ev j) (ev j) = true) (hs : (ev j).seq ≤ u (regN (ev j))) (h1 : LgE m' ((evs ev j).filter (inU u) ++ [ev j])) (h2 : m'.K = bump m.K (regN (ev j))) : LoU m' ev (j + 1) u := by
  have r2 := (Rt.rdy hr).2.1
  refine ⟨?_, ?_⟩
  · rw [evs_s, List.filter_append, List.filter_cons, if_pos (show inU u (ev j) = true from decide_eq_true hs), List.filter_nil]; exact h1
  rw [← cnt_bump, mn_bump (by omega), h2, h.K]
theorem mn_all (h : ∀ j, u j ≤ cntE ev an j) : mnK (cntE ev an) u = u := by
  funext j; unfold mnK; have := h j; split <;> omega
theorem mx_zero (h : ∀ j, 0 ≤ u j) : mxK (fun _ => 0) u = u := by
  funext j; have := h j; show (if u j ≤ (0 : Int) then (0 : Int) else u j) = u j; split <;> omega
theorem mx_all {K : Nat → Int} (h : ∀ j, u j ≤ K j) : mxK K u = K := by
  funext j; unfold mxK; have := h j; rw [if_pos this]
structure KnU (ev : Nat → EvM) (an : Nat) (u : Nat → Int) : Prop where
  pos : ∀ j, 0 ≤ u j
  le : ∀ j, u j ≤ cntE ev an j
  cl : ∀ k, k < an → (ev k).seq ≤ u (regN (ev k)) → ∀ i, i < 6 → (ev k).deps i ≤ u i
theorem tr6_lt {K : Nat → Int} {j : Nat} (h : j < 6) : tr6 K j = K j := if_pos h
theorem KnU.of {n : Nat} {kn : Nat → Nat → Int} (h : Cz n an ev kn) {o : Nat} (ho : o < n) (hk : KnOk (kn o)) : KnU ev an (tr6 (kn o)) := by
  refine ⟨fun j => ?_, fun j => ?_, fun k hk2 hs i hi => ?_⟩
  · unfold tr6; split
    · rename_i hj; exact (hk j hj).1
    exact Int.le_refl _
  · unfold tr6; split
    · rename_i hj; exact (h.kc o ho).le j hj
    exact cnt_nonneg _ _
  have h6 : regN (ev k) < 6 := (regN_may (Rt.rdy (h.rd k hk2)).1).1
  rw [tr6_lt h6] at hs
  rw [tr6_lt hi]
  exact (h.kc o ho).cl k hk2 hs i hi
theorem KnU.chain (h : KnU ev an u) (hr : ∀ k, k < an → readyE (cntE ev k) (ev k) = true) : Chain u ((evs ev an).filter (keepE u)) ∧ endK u ((evs ev an).filter (keepE u)) = cntE ev an := by
  obtain ⟨h1, h2⟩ := evs_chain hr an (Nat.le_refl _)
  obtain ⟨h3, h4⟩ := Chain.high (u := u) _ _ h1
  rw [mx_zero h.pos] at h3 h4
  rw [h2, mx_all h.le] at h4
  exact ⟨h3, h4⟩
end
end Rt
open Rt
end
section
namespace Rt
def SepL (p : Nat) (m : LgM) (q : Nat) (n : LgM) : Prop := ∀ k, lgS p m k → ¬ lgS q n k
section
variable {w w' : World} {B p q T T' : Nat} {m n n' : LgM}
theorem SepL.symm (h : SepL p m q n) : SepL q n p m := fun k h1 h2 => h k h2 h1
theorem SepL.step (h : SepL p m q n) (hS : SepS w q n n') (hp : LgO w B p m T) : SepL p m q n' := fun k h1 h2 => by
  rcases hS k h2 with h3 | h3
  · exact h k h1 h3
  · have := (hp.ge k h1).2; omega
theorem SepL.of_new (ha : LgO w B p m T) (hb : LgO w' w.heap.size q n T') : SepL p m q n := fun k h1 h2 => by
  have := (ha.ge k h1).2; have := (hb.ge k h2).1; omega
theorem getD_drop {A X : List EvM} {t n i : Nat} (e : X = (A.drop t).take n) (hi : i < X.length) : X.getD i zeroE = A.getD (t + i) zeroE := by
  subst e
  have h1 : i < n := by rw [List.length_take] at hi; omega
  rw [List.getD_eq_getElem?_getD, List.getD_eq_getElem?_getD, List.getElem?_take, if_pos h1, List.getElem?_drop]
theorem len_drop {A X : List EvM} {t n : Nat} (e : X = (A.drop t).take n) : X.length = min n (A.length - t) := by rw [e, List.length_take, List.length_drop]
section
variable {A X E0 : List EvM} {u : Nat → Int} {t i k : Nat} {v : EvM}
theorem tell_E (h : LgE m (E0 ++ A.take k ++ [v])) (hv : v = A.getD k zeroE) (hk : k < A.length) : LgE m (E0 ++ A.take (k + 1)) := by
  rw [take_next hk, ← List.append_assoc, ← hv]; exact h
theorem tell_K {mb : LgM} (h : m.K = bump mb.K (regN v)) (hb : mb.K = endK u (A.take k)) (hv : v = A.getD k zeroE) (hk : k < A.length) : m.K = endK u (A.take (k + 1)) := by
  rw [take_next hk, endK_snoc, h, hb, hv]
end
end
end Rt
open Rt
theorem e_len {m : LgM} {B p T : Nat} {w : World} {E : List EvM} (h : LgO w B p m T) (hT : T ≤ 1000000) (hE : LgE m E) :
    Calls Try.prog 30 #[.pointer (some ⟨p, 0, none⟩)] w fun e w' => e = .returned (.int .i64 (E.length : Int)) ∧ Below w.heap.size w w' :=
  (o_len m B p T w h hT).mono fun e w' h => ⟨by rw [h.1, hE.len], h.2⟩
end
section
namespace Rt
section
variable {ev : Nat → EvM} {i gn an : Nat} {u : Nat → Int}
theorem nx_self (c : Nat) : nx c c = c + 1 := if_pos rfl
theorem gone_yes (h : gn = ((evs ev i).filter (inU u)).length) (hs : (ev i).seq ≤ u (regN (ev i))) : gn + 1 = ((evs ev (i + 1)).filter (inU u)).length := by
  rw [evs_s, List.filter_append, List.filter_cons, if_pos (show inU u (ev i) = true from decide_eq_true hs), List.filter_nil, List.length_append, h]; rfl
theorem gone_no (h : gn = ((evs ev i).filter (inU u)).length) (hs : ¬ (ev i).seq ≤ u (regN (ev i))) : gn = ((evs ev (i + 1)).filter (inU u)).length := by
  rw [evs_s, List.filter_append, List.filter_cons, if_neg (by unfold inU; rw [decide_eq_true_eq]; exact hs), List.filter_nil, List.append_nil, h]
theorem part_len (u : Nat → Int) : ∀ l : List EvM, l.length = (l.filter (inU u)).length + (l.filter (keepE u)).length
  | [] => rfl
  | x :: l => by
    have ih := part_len u l
    rw [List.filter_cons, List.filter_cons]
    by_cases c : x.seq ≤ u (regN x)
    · rw [if_pos (show inU u x = true from decide_eq_true c), if_neg (by unfold keepE; rw [decide_eq_true_eq]; omega)]
      simp only [List.length_cons]; omega
    · rw [if_neg (by unfold inU; rw [decide_eq_true_eq]; exact c), if_pos (show keepE u x = true from decide_eq_true (by omega))]
      simp only [List.length_cons]; omega
theorem gone_all (h : gn = ((evs ev an).filter (inU u)).length) : ((evs ev an).length : Int) - (((evs ev an).filter (keepE u)).length : Int) = (gn : Int) := by
  have := part_len u (evs ev an); omega
theorem keep_self (l : List EvM) : (l.filter (keepE u)).filter (keepE u) = l.filter (keepE u) := (keep_keep (fun _ => Int.le_refl _) l).symm
end
end Rt
set_option maxRecDepth 20000 in
set_option maxHeartbeats 2000000 in
theorem prunes16_any (rb : Nat) (aa0 : Option Addr) (na ca : Nat) (xa : Nat → ActM) (wh mo : Nat) (w : World) (hrb : rb ≤ 255) (hwh : wh ≤ 255) (hmo : mo ≤ 255) (hxa : ∀ k, k < na → ActOk (xa k)) (hacts : Fx.Arr w aa0 na 9 (Fx.flat 9 fun k => actY (xa k))) :
    Calls Try.prog 5 #[.int .u8 ((rb : Int)), .slice aa0 (na) (ca), .int .u8 ((wh : Int)), .int .u8 ((mo : Int))] w fun e w' => e = .returned (.bool true) ∧ Below w.heap.size w w' := by
 refine Fx.enter Try.func5 rfl (n := 187) rfl (by rfl) ?_
 refine Ws (Wl (Lv (.bool false) (x_assign rfl rfl) (Ln (sN (Ws (Ws (Wl (Lv (.slice aa0 (na) (ca)) (x_move rfl rfl) ?_))))))))
 by_cases c25 : (decide ((na : Int) ≤ 60)) = true
 ·refine Fx.L.call (by rfl) (rC (args := [.slice aa0 (na) (ca)]) rfl rfl Try.func9 rfl rfl) rfl ((l_few _ _ _ _).mono ?_)
  rintro e v1 ⟨he, hv1⟩
  subst v1
  refine ⟨.bool true, by rw [he, c25], ?_⟩
  clear he
  refine Lv (.bool false) (Fx.x_notF rfl rfl) (Ln (sN (Wc (b := false) rfl (fun h => nomatch h) (fun _ => Wk (sN (Ws ?_))))))
  have hna := of_decide_eq_true c25
  obtain ⟨rn, ern⟩ : ∃ r, r = rb % 6 := ⟨_, rfl⟩
  have hrn : rn < 6 := by rw [ern]; exact Nat.mod_lt _ (by omega)
  refine Wl (Lv (.int .u8 ((rb : Int))) (x_move rfl rfl) (Lv (.int .i64 ((rb : Int))) (x_conv rfl rfl (by kernel_rfl) Try.underlying3 (Fx.i64e (by omega) rfl)) (Lv (.int .i64 ((rn : Int))) (Fx.x_rem rfl rfl rfl (by omega) (remL ern)) (Lv (.int .i64 ((rn : Int) + 1)) (Fx.x_add rfl rfl rfl (Fx.i64e (by omega) (by omega))) (Lv (.int .i64 ((rn : Int) + 1)) (x_assign rfl rfl) (Ln (sN (Ws (Wl (Lv (.int .i64 ((rn : Int) + 1)) (x_move rfl rfl) (Fx.L.call (by rfl) (rC (args := [.int .i64 ((rn : Int) + 1)]) rfl rfl Try.func16 rfl rfl) rfl ((l_newWorld2 (rn + 1) _ _ (by omega) (by omega) (by omega)).mono ?_))))))))))))
  rintro e9 w1 ⟨pw, M0, he, hMn, hMa, hW0, hbw⟩
  refine ⟨.pointer (some ⟨pw, 0, none⟩), he, ?_⟩
  clear he
  have sB := (Below.refl w.heap.size w).size
  have s1 := Sb hbw
  have b1 := s1.below (Below.refl w.heap.size w) (Below.refl w.heap.size w).size (Below.refl w.heap.size w).size
  have sW : w.heap.size ≤ w1.heap.size := hbw.size
  refine Lv (.pointer (some ⟨pw, 0, none⟩)) (x_assign rfl rfl) (Ln (sN (Ws (Ws (Wl (Lv (.int .i64 (0)) (x_assign rfl rfl) (Ln (sN (Fx.W.block (Fx.W.loop (fun f w_ => ∃ k : Nat, ∃ M9 : WM, ∃ T9 : Nat, k ≤ na ∧ T9 ≤ 3660 * k ∧ M9.n = M0.n ∧ M9.an ≤ k ∧ w.heap.size ≤ w_.heap.size ∧ f 1 = .slice aa0 (na) (ca) ∧ f 2 = .int .u8 ((wh : Int)) ∧ f 3 = .int .u8 ((mo : Int)) ∧ f 9 = .int .i64 ((rn : Int) + 1) ∧ f 10 = .pointer (some ⟨pw, 0, none⟩) ∧ f 11 = .int .i64 ((k : Int)) ∧ WldO w_ w.heap.size pw M9 T9 ∧ Below w.heap.size w w_) (fun f _ => (na - (intOf (f 11)).toNat)) ⟨0, M0, 0, by omega, by omega, rfl, by omega, sW, (by rfl), (by first | rfl | exact congrArg (Value.int .u8) (by omega)), (by first | rfl | exact congrArg (Value.int .u8) (by omega)), (by first | rfl | exact congrArg (Value.int .i64) (by omega)), (by rfl), (by first | rfl | exact congrArg (Value.int .i64) (by omega)), hW0, b1⟩ ?_))))))))))
  rintro f1 w2 ⟨k, M9, T9, hk, hTk, hMn9, hMa9, sWk, h1, h2, h3, h4, h5, h6, m1, b2⟩
  refine Ws (Ws (Wl (Lv (.int .i64 ((k : Int))) (x_move rfl h6) (Lv (.slice aa0 (na) (ca)) (x_move rfl h1) (Lv (.int .i64 ((na : Int))) (x_len rfl rfl rfl (by kernel_rfl)) ?_)))))
  by_cases c37 : (k : Int) < (na : Int)
  ·refine Lv (.bool true) (Fx.x_lssT rfl rfl rfl c37) (Ln (sN (Wc (b := true) rfl (fun _ => Wk (sN (Ws (Fx.W.block (Wl (Lv (.pointer (some ⟨pw, 0, none⟩)) (x_move rfl h5) ?_)))))) (fun h => nomatch h))))
   refine Lv (.slice aa0 (na) (ca)) (x_move rfl h1) (Lv (.int .i64 ((k : Int))) (x_move rfl h6) ?_)
   obtain ⟨bq1, oq1, eq1, m2⟩ := (hacts.up b2 rfl) (by omega)
   have lbq1 : bq1 < w2.heap.size := m2.lt (by omega)
   refine Lv (.pointer (some ⟨bq1, 9 * k + oq1, none⟩)) (x_indexS rfl (rfl.trans (congrArg (fun q => Value.slice q (na) (ca)) eq1)) rfl Try.underlying24 (s := 9) (by kernel_rfl) (by omega) (by omega) (by omega)) (Lv (.agg (Fx.varr 9 (actY (xa k)))) (x_loadA (x := Fx.flat 9 fun k => actY (xa k)) (y := actY (xa k)) rfl rfl (by kernel_rfl) (by kernel_rfl) m2 (i := 9 * k) (by omega) (by omega) (fun jq hjq => Fx.flat_at (k := k) (by omega) hjq)) (Fx.L.call (by rfl) (rC (args := [.pointer (some ⟨pw, 0, none⟩), .agg (Fx.varr 9 (actY (xa k)))]) rfl rfl Try.func18 rfl rfl) rfl ((l_doM M9 w.heap.size pw T9 (xa k) _ m1 sWk (hxa k (by omega)) (by omega) (by omega)).mono ?_)))
   rintro e9 w3 ⟨v9, he, hv9, M2, hW1, hM2, hM2a, hM2m, hb1⟩
   refine ⟨_, he, ?_⟩
   clear he
   have hM2n := hM2.n
   have b3 : Below w.heap.size w w3 := bchB b2 hb1 sB
   have sW1 : w.heap.size ≤ w3.heap.size := by have := hb1.size; omega
   have sWn : w.heap.size ≤ w3.heap.size := by have := hb1.size; omega
   refine Ln (Fx.blkN (sN (Wl (Lv (.int .i64 ((k : Int))) (x_move rfl h6) (Lv (.int .i64 ((k : Int) + 1)) (Fx.x_add rfl rfl rfl (Fx.i64e (by omega) (by omega))) (Lv (.int .i64 ((k : Int) + 1)) (x_assign rfl rfl) (Ln (Fx.lpN ⟨k + 1, M2, (T9 + 3660), by omega, by omega, (hM2n.trans hMn9), by omega, sWn, h1, (h2.trans (by first | rfl | exact congrArg (Value.int .u8) (by omega))), (h3.trans (by first | rfl | exact congrArg (Value.int .u8) (by omega))), (h4.trans (by first | rfl | exact congrArg (Value.int .i64) (by omega))), h5, (by first | rfl | exact congrArg (Value.int .i64) (by omega)), hW1, b3⟩ ?_))))))))
   show (na - (intOf ((.int .i64 ((k : Int) + 1)))).toNat) < _
   simp only [h6, intOf]; omega
  refine Lv (.bool false) (Fx.x_lssF rfl rfl rfl c37) (Ln (sN (Wc (b := false) rfl (fun h => nomatch h) (fun _ => Fx.W.exit (Fx.seqX (Fx.lpX (Fx.blkX (sN (Ws ?_)))))))))
  have hWc := m1.c
  have hWa := m1.a
  have hevw := m1.wf
  have hevm := m1.may
  have hcz := m1.cz
  have hWw := m1
  have haA : Fx.Arr w2 M9.aa M9.an 14 (evX M9.ev) := hWa.arr
  have lpw : pw < w2.heap.size := hWc.lt
  have hMn1 : M9.n = rn + 1 := hMn9.trans hMn
  obtain ⟨qo, eqo⟩ : ∃ r, r = wh % M9.n := ⟨_, rfl⟩
  have hqo : qo < M9.n := by rw [eqo]; exact Nat.mod_lt _ (by omega)
  have haL : Fx.Arr w2 M9.la M9.n 1 (ptX M9.pl) := m1.l.arr
  have hLoc := (m1.g qo hqo).c
  have lpl : M9.pl qo < w2.heap.size := hLoc.lt
  obtain ⟨u, eu⟩ : ∃ u, u = tr6 (M9.ml qo).s.known := ⟨_, rfl⟩
  have hU : KnU M9.ev M9.an u := by rw [eu]; exact KnU.of hcz hqo (m1.inv qo hqo).kn
  have hM60 : M9.an ≤ 60 := by omega
  refine Wl (Fx.L.call (by rfl) (rC (args := []) rfl rfl Try.func17 rfl rfl) rfl ((o_new 0 _).mono ?_))
  rintro e9 w4 ⟨pa, he, hl1, hb2⟩
  refine ⟨_, he, ?_⟩
  clear he
  have s2 := Sb hb2
  have hl2 := hl1.weak (Below.refl w2.heap.size w2).size
  have m3 := hWc.stp s2 (Nat.ne_of_lt (hWc.lt))
  have m4 := hLoc.stp s2 (Nat.ne_of_lt (hLoc.lt))
  have b4 := s2.below (Below.refl w2.heap.size w2) (Below.refl w2.heap.size w2).size (Below.refl w2.heap.size w2).size
  refine Lv (.pointer (some ⟨pa, 0, none⟩)) (x_assign rfl rfl) (Ln (sN (Ws (Wl (Fx.L.call (by rfl) (rC (args := []) rfl rfl Try.func17 rfl rfl) rfl ((o_new 0 _).mono ?_))))))
  rintro e9 w5 ⟨pb, he, hl3, hb3⟩
  refine ⟨_, he, ?_⟩
  clear he
  have s3 := Sb hb3
  have hl4 := hl3.weak b4.size
  have hsp1 := SepL.of_new hl2 hl3
  have m5 := m3.stp s3 (Nat.ne_of_lt (m3.lt))
  have m6 := m4.stp s3 (Nat.ne_of_lt (m4.lt))
  have m7 := hl2.up s3.old
  have b5 := s3.below b4 b4.size b4.size
  refine Lv (.pointer (some ⟨pb, 0, none⟩)) (x_assign rfl rfl) (Ln (sN (Ws (Wl (Fx.L.call (by rfl) (rC (args := []) rfl rfl Try.func17 rfl rfl) rfl ((o_new 0 _).mono ?_))))))
  rintro e9 w6 ⟨pc, he, hl5, hb4⟩
  refine ⟨_, he, ?_⟩
  clear he
  have s4 := Sb hb4
  have hl6 := hl5.weak b5.size
  have hsp2 := SepL.of_new m7 hl5
  have hsp3 := SepL.of_new hl4 hl5
  have m8 := m5.stp s4 (Nat.ne_of_lt (m5.lt))
  have m9 := m6.stp s4 (Nat.ne_of_lt (m6.lt))
  have m10 := m7.up s4.old
  have m11 := hl4.up s4.old
  have b6 := s4.below b5 b5.size b5.size
  refine Lv (.pointer (some ⟨pc, 0, none⟩)) (x_assign rfl rfl) (Ln (sN (Ws ?_)))
  -- region 12 draws
  refine Fx.W.reord [0, 1, 2, 4, 5, 6, 7, 3, 8, 9, 10, 11, 12, 13, 14, 15] [0, 0, 0, 1, 0, 0, 0, 0, 0, 1, 0, 0, 0, 1, 2, 3] Fx.Mk Fx.Mk.refl Fx.Mk.trans (certs := [(15, 3, [3]), (15, 9, [9]), (15, 13, [13]), (15, 14, [14])]) (by kernel_rfl) (by kernel_rfl) (by kernel_rfl) (by kernel_rfl) (by kernel_rfl) fun wt1 hbwt1 hzwt1 => ?_
  have s5 : Fx.Stp w6.heap.size w6 wt1 := Sb hbwt1
  have m12 := m8.stp s5 (Nat.ne_of_lt (m8.lt))
  have m13 := m9.stp s5 (Nat.ne_of_lt (m9.lt))
  have m14 := m10.up s5.old
  have m15 := m11.up s5.old
  have m16 := hl6.up s5.old
  have b7 := s5.below b6 b6.size b6.size
  refine Rp (.pointer (some ⟨pw, 0, none⟩)) (fun v1 => x_move rfl h5) (Rp (.pointer (some ⟨pw, 0, none⟩)) (fun v1 => x_nil rfl rfl) (Rp (.pointer (some ⟨pw, 0, none⟩)) (fun v1 => x_field rfl rfl Try.underlying74 rfl (s := 1) (by kernel_rfl) rfl rfl) (Rp (.int .u8 ((wh : Int))) (fun v1 => x_move rfl h2) (Rp (.int .i64 ((wh : Int))) (fun v1 => x_conv rfl rfl (by kernel_rfl) Try.underlying3 (Fx.i64e (by omega) rfl)) (Rp (.int .i64 ((rn : Int) + 1)) (fun v1 => x_move rfl h4) (Rp (.int .i64 ((qo : Int))) (fun v1 => Fx.x_rem rfl rfl rfl (by omega) (by rw [show ((rn : Int) + 1) = ((M9.n : Nat) : Int) by omega]; exact remL eqo)) (Fx.R.read (v := .slice M9.la (M9.n) (M9.lc)) (by rfl) (by rfl) (Fx.Mk.refl _) (fun v1 hv1 => x_load1 (x := wdY (.slice M9.la (M9.n) (M9.lc)) (.slice M9.aa (M9.an) (M9.ac))) rfl rfl (by kernel_rfl) (m12.cel.below hv1 (by have := m12.lt; omega)) (i := 0) (by omega) (by omega) rfl) ?_)))))))
  obtain ⟨bq2, oq2, eq2, m17z⟩ := haL (by omega)
  have lbq2z : bq2 < w2.heap.size := m17z.lt (by omega)
  have m17 := m17z.below b7 lbq2z
  have lbq2 : bq2 < wt1.heap.size := m17.lt (by omega)
  refine Rp (.pointer (some ⟨bq2, oq2 + qo, none⟩)) (fun v1 => x_indexS rfl (rfl.trans (congrArg (fun q => Value.slice q (M9.n) (M9.lc)) eq2)) rfl Try.underlying72 (s := 1) (by kernel_rfl) (by omega) (by omega) (by omega)) (Fx.R.read (v := .pointer (some ⟨(M9.pl qo), 0, none⟩)) (by rfl) (by rfl) (Fx.Mk.refl _) (fun v1 hv1 => x_load1 (x := ptX M9.pl) rfl rfl (by kernel_rfl) (m17.below hv1 (m17.lt (by omega))) (i := qo) (by omega) (by omega) rfl) ?_)
  refine Rp (.pointer (some ⟨(M9.pl qo), 0, none⟩)) (fun v1 => x_nil rfl rfl) (Rp (.pointer (some ⟨(M9.pl qo), 0, none⟩)) (fun v1 => x_field rfl rfl Try.underlying70 rfl (s := 20) (by kernel_rfl) rfl rfl) (Rp (.pointer (some ⟨(M9.pl qo), 12, none⟩)) (fun v1 => x_field rfl rfl Try.underlying65 rfl (s := 6) (by kernel_rfl) rfl (by show _ + 12 = _; omega)) (Fx.R.read (v := .agg (Fx.varr 6 (Fx.rv .u64 u))) (by rfl) (by rfl) (Fx.Mk.refl _) (fun v1 hv1 => x_loadA (x := ldY (M9.ml qo)) (y := Fx.rv .u64 u) rfl rfl (by kernel_rfl) (by kernel_rfl) (m13.cel.below hv1 (by have := m13.lt; omega)) (i := 12) (by omega) (by omega) (fun jq hjq => (ldY_st _ (by omega) (stY_known _ hjq (by omega))).trans (by rw [eu]; exact congrArg (Value.int .u64) (tr6_lt hjq).symm))) ?_)))
  refine Fx.R.make (by rfl) ?_
  refine Fx.L.new (m := 6) (y := Fx.rv .u64 (fun _ => 0)) (by rfl) rfl (by kernel_rfl) rfl fun g1 w7 eg1 m18 s6 z1 => ?_
  have m19 := m12.stp s6 (Nat.ne_of_lt (m12.lt))
  have m21 := m14.up s6.old
  have m22 := m15.up s6.old
  have m23 := m16.up s6.old
  have m24 := m17.stp s6 (Nat.ne_of_lt (m17.lt (by omega)))
  have b8 := s6.below b7 b7.size b7.size
  have lg1 : w2.heap.size ≤ g1 := by rw [eg1]; exact b7.size
  have ng1m19 : pw ≠ g1 := by rw [eg1]; exact Nat.ne_of_lt (m12.lt)
  have ng1m20 : (M9.pl qo) ≠ g1 := by rw [eg1]; exact Nat.ne_of_lt (m13.lt)
  have ng1m24 : bq2 ≠ g1 := by rw [eg1]; exact Nat.ne_of_lt (m17.lt (by omega))
  have tg1 : g1 < w7.heap.size := m18.lt
  clear eg1
  refine Ln ⟨s6.old, ?_⟩
  refine Fx.R.eff (by rfl) ?_
  refine Fx.L.storeA (x := Fx.rv .u64 (fun _ => 0)) (y := Fx.rv .u64 u) (by rfl) rfl rfl rfl rfl (fun _ _ => rfl) (by kernel_rfl) m18 (i := 0) (by omega) fun w8 m25 s7 z2 => ?_
  have m26 : Fx.Blk w8 g1 6 (Fx.rv .u64 u) 32 := Fx.ovr_all m25
  have hct1 := Fx.ChT.of_stp s7 m18.ty
  have m27 := m19.chT hct1 (by decide)
  have m29 := m21.chT hct1 (by decide)
  have m30 := m22.chT hct1 (by decide)
  have m31 := m23.chT hct1 (by decide)
  have m32 := m24.stp s7 (by omega)
  have b9 := s7.below b8 b8.size (by omega)
  refine Ln (Fx.R.nil (sN (Ws (Wl (Lv (.int .i64 (0)) (x_assign rfl rfl) (Ln (sN (Ws (Ws (Wl (Lv (.int .i64 (0)) (x_assign rfl rfl) (Ln (sN (Fx.W.block (Fx.W.loop (fun f w_ => ∃ i : Nat, ∃ ma : LgM, ∃ mb : LgM, ∃ mc : LgM, ∃ gn : Nat, i ≤ M9.an ∧ LgE ma (evs M9.ev i) ∧ ma.K = cntE M9.ev i ∧ LgE mb (evs M9.ev i) ∧ mb.K = cntE M9.ev i ∧ LoU mc M9.ev i u ∧ gn = ((evs M9.ev i).filter (inU u)).length ∧ SepL pa ma pb mb ∧ SepL pa ma pc mc ∧ SepL pb mb pc mc ∧ f 3 = .int .u8 ((mo : Int)) ∧ f 10 = .pointer (some ⟨pw, 0, none⟩) ∧ f 12 = .pointer (some ⟨pa, 0, none⟩) ∧ f 13 = .pointer (some ⟨pb, 0, none⟩) ∧ f 14 = .pointer (some ⟨pc, 0, none⟩) ∧ f 15 = .pointer (some ⟨g1, 0, none⟩) ∧ f 16 = .int .i64 (((gn : Nat) : Int)) ∧ f 17 = .int .i64 ((i : Int)) ∧ Fx.Blk w_ pw 2 (wdY (.slice M9.la (M9.n) (M9.lc)) (.slice M9.aa (M9.an) (M9.ac))) 74 ∧ Fx.Blk w_ g1 6 (Fx.rv .u64 u) 32 ∧ LgO w_ w2.heap.size pa ma i ∧ LgO w_ w2.heap.size pb mb i ∧ LgO w_ w2.heap.size pc mc i ∧ Below w2.heap.size w2 w_) (fun f _ => (M9.an - (intOf (f 17)).toNat)) ⟨0, newL, newL, newL, 0, by omega, LgE.new, rfl, LgE.new, rfl, LoU.new hU.pos, rfl, hsp1, hsp2, hsp3, (h3.trans (by first | rfl | exact congrArg (Value.int .u8) (by omega))), h5, (by rfl), (by rfl), (by rfl), (by rfl), (by first | rfl | exact congrArg (Value.int .i64) (by omega)), (by first | rfl | exact congrArg (Value.int .i64) (by omega)), m27, m26, m29, m30, m31, b9⟩ ?_)))))))))))))))
  rintro f2 w9 ⟨i, ma, mb, mc, gn, hi, hEa, hKa, hEb, hKb, hLo, hgn, hsab, hsac, hsbc, h7, h8, h9, h10, h11, h12, h13, h14, m33, m34, m35, m36, m37, b10⟩
  refine Ws (Ws (Wl (Lv (.int .i64 ((i : Int))) (x_move rfl h14) (Lv (.pointer (some ⟨pw, 0, none⟩)) (x_move rfl h8) (Lv (.pointer (some ⟨pw, 0, none⟩)) (x_nil rfl rfl) (Lv (.pointer (some ⟨pw, 1, none⟩)) (x_field rfl rfl Try.underlying74 rfl (s := 1) (by kernel_rfl) rfl (by show _ + 1 = _; omega)) (Lv (.slice M9.aa (M9.an) (M9.ac)) (x_load1 (x := wdY (.slice M9.la (M9.n) (M9.lc)) (.slice M9.aa (M9.an) (M9.ac))) rfl rfl (by kernel_rfl) m33.cel (i := 1) (by omega) (by omega) rfl) (Lv (.int .i64 ((M9.an : Int))) (x_len rfl rfl rfl (by kernel_rfl)) ?_))))))))
  by_cases c69 : (i : Int) < (M9.an : Int)
  ·refine Lv (.bool true) (Fx.x_lssT rfl rfl rfl c69) (Ln (sN (Wc (b := true) rfl (fun _ => Wk (sN (Ws (Fx.W.block (Ws (Wl (Lv (.pointer (some ⟨pw, 0, none⟩)) (x_move rfl h8) ?_))))))) (fun h => nomatch h))))
   refine Lv (.pointer (some ⟨pw, 0, none⟩)) (x_nil rfl rfl) (Lv (.pointer (some ⟨pw, 1, none⟩)) (x_field rfl rfl Try.underlying74 rfl (s := 1) (by kernel_rfl) rfl (by show _ + 1 = _; omega)) (Lv (.slice M9.aa (M9.an) (M9.ac)) (x_load1 (x := wdY (.slice M9.la (M9.n) (M9.lc)) (.slice M9.aa (M9.an) (M9.ac))) rfl rfl (by kernel_rfl) m33.cel (i := 1) (by omega) (by omega) rfl) (Lv (.int .i64 ((i : Int))) (x_move rfl h14) ?_)))
   obtain ⟨bq3, oq3, eq3, m38z⟩ := haA (by omega)
   have lbq3z : bq3 < w2.heap.size := m38z.lt (by omega)
   have m38 := m38z.below b10 lbq3z
   have lbq3 : bq3 < w9.heap.size := m38.lt (by omega)
   refine Lv (.pointer (some ⟨bq3, 14 * i + oq3, none⟩)) (x_indexS rfl (rfl.trans (congrArg (fun q => Value.slice q (M9.an) (M9.ac)) eq3)) rfl Try.underlying46 (s := 14) (by kernel_rfl) (by omega) (by omega) (by omega)) (Lv (.agg (Fx.varr 14 (evY (M9.ev i)))) (x_loadA (x := evX M9.ev) (y := evY (M9.ev i)) rfl rfl (by kernel_rfl) (by kernel_rfl) m38 (i := 14 * i) (by omega) (by omega) (fun jq hjq => Fx.flat_at (k := i) (by omega) hjq)) (Fx.L.new (m := 14) (y := evY zeroE) (by rfl) rfl (by kernel_rfl) rfl fun g2 w10 eg2 m39 s8 z3 => ?_))
   have m40 := m33.stp s8 (Nat.ne_of_lt (m33.lt))
   have m41 := m34.stp s8 (Nat.ne_of_lt (m34.lt))
   have m42 := m35.up s8.old
   have m43 := m36.up s8.old
   have m44 := m37.up s8.old
   have m45 := m38.stp s8 (Nat.ne_of_lt (m38.lt (by omega)))
   have b11 := s8.below b10 b10.size b10.size
   have lg2 : w2.heap.size ≤ g2 := by rw [eg2]; exact b10.size
   have ng2m40 : pw ≠ g2 := by rw [eg2]; exact Nat.ne_of_lt (m33.lt)
   have ng2m41 : g1 ≠ g2 := by rw [eg2]; exact Nat.ne_of_lt (m34.lt)
   have ng2m45 : bq3 ≠ g2 := by rw [eg2]; exact Nat.ne_of_lt (m38.lt (by omega))
   have tg2 : g2 < w10.heap.size := m39.lt
   clear eg2
   refine Fx.L.storeA (x := evY zeroE) (y := evY (M9.ev i)) (by rfl) rfl rfl rfl rfl (evY_one _) (by kernel_rfl) m39 (i := 0) (by omega) fun w11 m46 s9 z4 => ?_
   have m47 : Fx.Blk w11 g2 14 (evY (M9.ev i)) 50 := Fx.ovr_all m46
   have hct2 := Fx.ChT.of_stp s9 m39.ty
   have m48 := m40.chT hct2 (by decide)
   have m49 := m41.chT hct2 (by decide)
   have m50 := m42.chT hct2 (by decide)
   have m51 := m43.chT hct2 (by decide)
   have m52 := m44.chT hct2 (by decide)
   have m53 := m45.stp s9 (by omega)
   have b12 := s9.below b11 b11.size (by omega)
   refine Ln (sN (Ws (Ws ?_)))
   obtain ⟨ai, hai, eai⟩ := regE_nat (may_reg (hevm i (by omega)))
   have haN : regN (M9.ev i) = ai := by unfold regN; omega
   have hgle : gn ≤ i := by rw [hgn]; have := List.length_filter_le (inU u) (evs M9.ev i); rw [evs_len] at this; exact this
   refine Wl (Lv (.pointer (some ⟨pa, 0, none⟩)) (x_move rfl h9) (Lv (.agg (Fx.varr 14 (evY (M9.ev i)))) (x_loadA (x := evY (M9.ev i)) (y := evY (M9.ev i)) rfl rfl (by kernel_rfl) (by kernel_rfl) m47.cel (i := 0) (by omega) (by omega) (fun j _ => by rw [Nat.zero_add])) (Fx.L.call (by rfl) (rC (args := [.pointer (some ⟨pa, 0, none⟩), .agg (Fx.varr 14 (evY (M9.ev i)))]) rfl rfl Try.func19 rfl rfl) rfl ((e_add (v := (M9.ev i)) m50 b12.size (by omega) hEa (hevw i (by omega)) (by rw [hKa]; exact hcz.rd i (by omega))).mono ?_))))
   rintro e9 w12 ⟨he, hc1, ml1, hl7, hE1, hK1, hS1⟩
   refine ⟨_, he, ?_⟩
   clear he
   have ct1 := m50.chm hc1
   have b13 := b12.trans (m50.below b12.size hc1)
   have m54 := m48.chT ct1 (by decide)
   have m55 := m49.chT ct1 (by decide)
   have m56 := m51.chg hc1 hsab.symm
   have hsp4 := SepL.step hsab.symm hS1 m51
   have m57 := m52.chg hc1 hsac.symm
   have hsp5 := SepL.step hsac.symm hS1 m52
   have m58 := m47.chT ct1 (by decide)
   refine Lv (.bool false) (Fx.x_neqF rfl rfl rfl rfl) (Lv (.bool false) (x_move rfl rfl) (Lv (.pointer (some ⟨pb, 0, none⟩)) (x_move rfl h10) (Lv (.agg (Fx.varr 14 (evY (M9.ev i)))) (x_loadA (x := evY (M9.ev i)) (y := evY (M9.ev i)) rfl rfl (by kernel_rfl) (by kernel_rfl) m58.cel (i := 0) (by omega) (by omega) (fun j _ => by rw [Nat.zero_add])) (Fx.L.call (by rfl) (rC (args := [.pointer (some ⟨pb, 0, none⟩), .agg (Fx.varr 14 (evY (M9.ev i)))]) rfl rfl Try.func19 rfl rfl) rfl ((e_add (v := (M9.ev i)) m56 b13.size (by omega) hEb (hevw i (by omega)) (by rw [hKb]; exact hcz.rd i (by omega))).mono ?_)))))
   rintro e9 w13 ⟨he, hc2, ml2, hl8, hE2, hK2, hS2⟩
   refine ⟨_, he, ?_⟩
   clear he
   have ct2 := m56.chm hc2
   have b14 := b13.trans (m56.below b13.size hc2)
   have m59 := m54.chT ct2 (by decide)
   have m60 := m55.chT ct2 (by decide)
   have m61 := m57.chg hc2 hsbc.symm
   have hsp6 := SepL.step hsbc.symm hS2 m57
   have m62 := m58.chT ct2 (by decide)
   have m63 := hl7.chg hc2 hsp4.symm
   have hsp7 := SepL.step hsp4.symm hS2 hl7
   refine Lv (.bool false) (Fx.x_neqF rfl rfl rfl rfl) (Lv (.bool false) (x_pickF rfl rfl rfl) (Ln (sN (Wc (b := false) rfl (fun h => nomatch h) (fun _ => Wk (sN (Ws ?_)))))))
   -- region 20 draws
   refine Fx.W.quiet (fun v1 => ∃ q, v1 = World.drewN w13 q) (by kernel_rfl) (by kernel_rfl) ⟨1, rfl⟩ ?_
   refine Qv (.pointer (some ⟨g2, 1, none⟩)) (fun v1 hv1 => x_field rfl rfl Try.underlying50 rfl (s := 1) (by kernel_rfl) rfl (by show _ + 1 = _; omega)) (Qv (.int .u64 ((M9.ev i).seq)) (fun v1 hv1 => x_load1 (x := evY (M9.ev i)) rfl rfl (by kernel_rfl) (by obtain ⟨qd, rfl⟩ := hv1; exact m62.cel) (i := 1) (by omega) (by omega) rfl) (Qv (.pointer (some ⟨g2, 0, none⟩)) (fun v1 hv1 => x_field rfl rfl Try.underlying50 rfl (s := 1) (by kernel_rfl) rfl rfl) (Qv (.int .i64 ((M9.ev i).o)) (fun v1 hv1 => x_load1 (x := evY (M9.ev i)) rfl rfl (by kernel_rfl) (by obtain ⟨qd, rfl⟩ := hv1; exact m62.cel) (i := 0) (by omega) (by omega) rfl) (Qv (.int .i64 ((ai : Int))) (fun v1 hv1 => Fx.x_sub rfl rfl rfl (Fx.i64e (by omega) (by omega))) (Qv (.pointer (some ⟨g1, ai, none⟩)) (fun v1 hv1 => x_index rfl h12 rfl Try.underlying32 (s := 1) (by kernel_rfl) (by omega) (by omega) (by omega)) (Qv (.int .u64 (u ai)) (fun v1 hv1 => x_load1 (x := Fx.rv .u64 u) rfl rfl (by kernel_rfl) (by obtain ⟨qd, rfl⟩ := hv1; exact m60.cel) (i := ai) (by omega) (by omega) rfl) ?_))))))
   by_cases c96 : ((M9.ev i).seq) ≤ (u ai)
   ·refine Qv (.bool true) (fun v1 hv1 => Fx.x_leqT rfl rfl rfl c96) (Fx.Qt.nil ?_)
    rintro _ ⟨qd, rfl⟩
    obtain ⟨wq1, ewq1⟩ : ∃ v1, v1 = World.drewN w13 qd := ⟨_, rfl⟩
    rw [← ewq1]
    have s10 : Fx.Stp w13.heap.size w13 wq1 := by rw [ewq1]; exact Sb (bdrN w13 qd)
    have m64 := m59.stp s10 (Nat.ne_of_lt (m59.lt))
    have m65 := m60.stp s10 (Nat.ne_of_lt (m60.lt))
    have m66 := m61.up s10.old
    have m67 := m62.stp s10 (Nat.ne_of_lt (m62.lt))
    have m68 := m63.up s10.old
    have m69 := hl8.up s10.old
    have b15 := s10.below b14 b14.size b14.size
    clear ewq1
    refine sN (Wc (b := true) rfl (fun _ => Ws (Wl (Lv (.int .i64 (((gn : Nat) : Int))) (x_move rfl h13) ?_))) (fun h => nomatch h))
    refine Lv (.int .i64 (((gn : Nat) : Int) + 1)) (Fx.x_add rfl rfl rfl (Fx.i64e (by omega) (by omega))) (Lv (.int .i64 (((gn : Nat) : Int) + 1)) (x_assign rfl rfl) (Ln (sN (Ws (Wl (Lv (.pointer (some ⟨pc, 0, none⟩)) (x_move rfl h11) (Lv (.agg (Fx.varr 14 (evY (M9.ev i)))) (x_loadA (x := evY (M9.ev i)) (y := evY (M9.ev i)) rfl rfl (by kernel_rfl) (by kernel_rfl) m67.cel (i := 0) (by omega) (by omega) (fun j _ => by rw [Nat.zero_add])) (Fx.L.call (by rfl) (rC (args := [.pointer (some ⟨pc, 0, none⟩), .agg (Fx.varr 14 (evY (M9.ev i)))]) rfl rfl Try.func19 rfl rfl) rfl ((e_add (v := (M9.ev i)) m66 b15.size (by omega) hLo.E (hevw i (by omega)) (hLo.rdy (hcz.rd i (by omega)) (hU.cl i (by omega) (by rw [haN]; exact c96)) (by rw [haN]; exact c96))).mono ?_)))))))))
    rintro e9 w14 ⟨he, hc3, ml3, hl9, hE3, hK3, hS3⟩
    refine ⟨_, he, ?_⟩
    clear he
    have ct3 := m66.chm hc3
    have b16 := b15.trans (m66.below b15.size hc3)
    have m70 := m64.chT ct3 (by decide)
    have m71 := m65.chT ct3 (by decide)
    have m73 := m68.chg hc3 hsp5.symm
    have hsp8 := SepL.step hsp5.symm hS3 m68
    have m74 := m69.chg hc3 hsp6.symm
    have hsp9 := SepL.step hsp6.symm hS3 m69
    refine Lv (.bool false) (Fx.x_neqF rfl rfl rfl rfl) (Ln (sN (Wc (b := false) rfl (fun h => nomatch h) (fun _ => Wk (Fx.blkN (sN (Wl (Lv (.int .i64 ((i : Int))) (x_move rfl h14) (Lv (.int .i64 ((i : Int) + 1)) (Fx.x_add rfl rfl rfl (Fx.i64e (by omega) (by omega))) (Lv (.int .i64 ((i : Int) + 1)) (x_assign rfl rfl) (Ln ?_)))))))))))
    skip
    refine Fx.lpN ⟨i + 1, ml1, ml2, ml3, gn + 1, by omega, (by rw [evs_s]; exact hE1), (by rw [hK1, hKa, cnt_bump]), (by rw [evs_s]; exact hE2), (by rw [hK2, hKb, cnt_bump]), (hLo.add (hcz.rd i (by omega)) (by rw [haN]; exact c96) hE3 hK3), (gone_yes hgn (by rw [haN]; exact c96)), hsp7, hsp8, hsp9, (h7.trans (by first | rfl | exact congrArg (Value.int .u8) (by omega))), h8, h9, h10, h11, h12, (by first | rfl | exact congrArg (Value.int .i64) (by omega)), (by first | rfl | exact congrArg (Value.int .i64) (by omega)), m70, m71, m73, m74, hl9, b16⟩ ?_
    show (M9.an - (intOf ((.int .i64 ((i : Int) + 1)))).toNat) < _
    simp only [h14, intOf]; omega
   refine Qv (.bool false) (fun v1 hv1 => x_leqF rfl rfl rfl c96) (Fx.Qt.nil ?_)
   rintro _ ⟨qd, rfl⟩
   obtain ⟨wq2, ewq2⟩ : ∃ v1, v1 = World.drewN w13 qd := ⟨_, rfl⟩
   rw [← ewq2]
   have s11 : Fx.Stp w13.heap.size w13 wq2 := by rw [ewq2]; exact Sb (bdrN w13 qd)
   have m75 := m59.stp s11 (Nat.ne_of_lt (m59.lt))
   have m76 := m60.stp s11 (Nat.ne_of_lt (m60.lt))
   have m77 := m61.up s11.old
   have m79 := m63.up s11.old
   have m80 := hl8.up s11.old
   have b17 := s11.below b14 b14.size b14.size
   clear ewq2
   refine sN (Wc (b := false) rfl (fun h => nomatch h) (fun _ => Wk (Fx.blkN (sN (Wl (Lv (.int .i64 ((i : Int))) (x_move rfl h14) (Lv (.int .i64 ((i : Int) + 1)) (Fx.x_add rfl rfl rfl (Fx.i64e (by omega) (by omega))) (Lv (.int .i64 ((i : Int) + 1)) (x_assign rfl rfl) (Ln ?_)))))))))
   have m81 := m77.mono (Nat.le_succ _)
   skip
   refine Fx.lpN ⟨i + 1, ml1, ml2, mc, gn, by omega, (by rw [evs_s]; exact hE1), (by rw [hK1, hKa, cnt_bump]), (by rw [evs_s]; exact hE2), (by rw [hK2, hKb, cnt_bump]), (nx_self i ▸ hLo.skip (hcz.rd i (by omega)) (by rw [haN]; exact c96)), (gone_no hgn (by rw [haN]; exact c96)), hsp7, hsp5.symm, hsp6.symm, (h7.trans (by first | rfl | exact congrArg (Value.int .u8) (by omega))), h8, h9, h10, h11, h12, (h13.trans (by first | rfl | exact congrArg (Value.int .i64) (by omega))), (by first | rfl | exact congrArg (Value.int .i64) (by omega)), m75, m76, m79, m80, m81, b17⟩ ?_
   show (M9.an - (intOf ((.int .i64 ((i : Int) + 1)))).toNat) < _
   simp only [h14, intOf]; omega
  refine Lv (.bool false) (Fx.x_lssF rfl rfl rfl c69) (Ln (sN (Wc (b := false) rfl (fun h => nomatch h) (fun _ => Fx.W.exit (Fx.seqX (Fx.lpX (Fx.blkX (sN (Ws (Ws ?_))))))))))
  have eia : i = M9.an := by omega
  subst eia
  have hKcf : mc.K = u := by rw [hLo.K, mn_all hU.le]
  have hkrc := m37.kr
  have hkra := m35.kr
  have hEc := hLo.E
  obtain ⟨E0, eE0⟩ : ∃ E0, E0 = (evs M9.ev M9.an).filter (inU u) := ⟨_, rfl⟩
  rw [← eE0] at hEc
  obtain ⟨A, eA⟩ : ∃ A, A = (evs M9.ev M9.an).filter (keepE u) := ⟨_, rfl⟩
  have hAl : A.length ≤ M9.an := by rw [eA]; have := List.length_filter_le (keepE u) (evs M9.ev M9.an); rw [evs_len] at this; exact this
  have hgA : (gn : Int) + (A.length : Int) = (M9.an : Int) := by have := gone_all hgn; rw [evs_len, ← eA] at this; omega
  have hch : Chain u A ∧ endK u A = cntE M9.ev M9.an := by rw [eA]; exact hU.chain hcz.rd
  -- region 24 draws
  refine Fx.W.reord [0, 3, 1, 2, 4, 5, 6, 8, 9, 10, 13, 11, 12, 14, 7, 15, 16, 17, 18, 20, 19, 21, 22, 23, 24, 25, 27, 26, 28, 29] [0, 4, 2, 0, 0, 0, 0, 2, 0, 0, 0, 1, 0, 0, 0, 0, 0, 0, 0, 2, 0, 2, 0, 0, 0, 0, 2, 1, 0, 0] (Fx.ChX [106, 100]) Fx.ChX.refl Fx.ChX.trans (certs := [(2, 1, [1]), (7, 1, [5, 2, 1]), (19, 1, [17, 16, 5, 2, 1]), (21, 1, [17, 16, 5, 2, 1]), (26, 1, [24, 23, 17, 16, 5, 2, 1]), (4, 2, [2]), (5, 2, [2]), (6, 2, [5, 2]), (8, 2, [5, 2]), (9, 2, [5, 2]), (10, 2, [5, 2]), (13, 2, [5, 2]), (11, 2, [5, 2]), (12, 2, [5, 2]), (14, 2, [5, 2]), (7, 2, [5, 2]), (15, 2, [5, 2]), (16, 2, [5, 2]), (17, 2, [16, 5, 2]), (18, 2, [17, 16, 5, 2]), (20, 2, [17, 16, 5, 2]), (19, 2, [17, 16, 5, 2]), (21, 2, [17, 16, 5, 2]), (22, 2, [17, 16, 5, 2]), (23, 2, [17, 16, 5, 2]), (24, 2, [23, 17, 16, 5, 2]), (25, 2, [24, 23, 17, 16, 5, 2]), (27, 2, [24, 23, 17, 16, 5, 2]), (26, 2, [24, 23, 17, 16, 5, 2]), (28, 2, [24, 23, 17, 16, 5, 2]), (29, 2, [24, 23, 17, 16, 5, 2]), (15, 7, [7]), (16, 7, [15, 7]), (17, 7, [7]), (18, 7, [17, 7]), (20, 7, [17, 7]), (19, 7, [17, 7]), (21, 7, [17, 7]), (22, 7, [17, 7]), (23, 7, [17, 7]), (24, 7, [23, 17, 7]), (25, 7, [24, 23, 17, 7]), (27, 7, [24, 23, 17, 7]), (26, 7, [24, 23, 17, 7]), (28, 7, [24, 23, 17, 7]), (29, 7, [24, 23, 17, 7]), (21, 19, [19]), (22, 19, [19]), (23, 19, [22, 19]), (24, 19, [21, 19]), (25, 19, [24, 21, 19]), (27, 19, [24, 21, 19]), (26, 19, [24, 21, 19]), (28, 19, [24, 21, 19]), (29, 19, [24, 21, 19]), (22, 21, [21]), (23, 21, [22, 21]), (24, 21, [21]), (25, 21, [24, 21]), (27, 21, [24, 21]), (26, 21, [24, 21]), (28, 21, [24, 21]), (29, 21, [24, 21]), (28, 26, [26]), (29, 26, [28, 26])]) (by kernel_rfl) (by kernel_rfl) (by kernel_rfl) (by kernel_rfl) (by kernel_rfl) fun wt2 hbwt2 hzwt2 => ?_
  have s12 : Fx.Stp w9.heap.size w9 wt2 := Sb hbwt2
  have m82 := m33.stp s12 (Nat.ne_of_lt (m33.lt))
  have m83 := m34.stp s12 (Nat.ne_of_lt (m34.lt))
  have m84 := m35.up s12.old
  have m85 := m36.up s12.old
  have m86 := m37.up s12.old
  have b18 := s12.below b10 b10.size b10.size
  refine Rp (.pointer (some ⟨pb, 0, none⟩)) (fun v1 => x_move rfl h10) (Rp (.int .i64 (((gn : Nat) : Int))) (fun v1 => x_move rfl h13) (Fx.R.s (.agg (Fx.varr 6 (Fx.rv .u64 u))) (x_loadA (x := Fx.rv .u64 u) (y := Fx.rv .u64 u) rfl h12 (by kernel_rfl) (by kernel_rfl) m83.cel (i := 0) (by omega) (by omega) (fun j _ => by rw [Nat.zero_add])) ?_))
  refine Fx.R.make (by rfl) ?_
  refine Fx.L.call (by rfl) (rC (args := [.pointer (some ⟨pb, 0, none⟩), .agg (Fx.varr 6 (Fx.rv .u64 u))]) rfl rfl Try.func28 rfl rfl) rfl ((e_prune u m85 b18.size (by omega) hEb).mono ?_)
  rintro e9 w15 ⟨he, hc4, ml4, hl10, hE4, hK4, hS4⟩
  refine ⟨_, he, ?_⟩
  clear he
  have ct4 := m85.chm hc4
  have b19 := b18.trans (m85.below b18.size hc4)
  have m87 := m82.chT ct4 (by decide)
  have m88 := m83.chT ct4 (by decide)
  have m89 := m84.chg hc4 hsab
  have hsp10 := SepL.step hsab hS4 m84
  have m90 := m86.chg hc4 hsbc.symm
  have hsp11 := SepL.step hsbc.symm hS4 m86
  have hEbP := hE4
  rw [← eA] at hEbP
  have hKbP : ml4.K = cntE M9.ev M9.an := hK4.trans hKb
  have hwA := hEbP.wf
  refine Ln ⟨(Fx.ChX.of_chT ct4), ?_⟩
  refine Rp (.bool false) (fun v1 => Fx.x_neqF rfl rfl rfl (gone_all hgn)) (Rp (.bool false) (fun v1 => x_move rfl rfl) (Rp (.pointer (some ⟨pb, 0, none⟩)) (fun v1 => x_move rfl h10) (Rp (.pointer (some ⟨pw, 0, none⟩)) (fun v1 => x_move rfl h8) (Rp (.pointer (some ⟨pw, 0, none⟩)) (fun v1 => x_nil rfl rfl) (Rp (.pointer (some ⟨pw, 1, none⟩)) (fun v1 => x_field rfl rfl Try.underlying74 rfl (s := 1) (by kernel_rfl) rfl (by show _ + 1 = _; omega)) (Rp (.int .i64 (((gn : Nat) : Int))) (fun v1 => x_move rfl h13) (Fx.R.read (v := .slice M9.aa (M9.an) (M9.ac)) (by rfl) (by rfl) (Fx.ChX.refl _) (fun v1 hv1 => x_load1 (x := wdY (.slice M9.la (M9.n) (M9.lc)) (.slice M9.aa (M9.an) (M9.ac))) rfl rfl (by kernel_rfl) (m87.chX hv1 (by decide)).cel (i := 1) (by omega) (by omega) rfl) ?_)))))))
  refine Rp (.int .i64 ((M9.an : Int))) (fun v1 => x_len rfl rfl rfl (by kernel_rfl)) (Rp (.int .i64 ((M9.an : Int) - ((gn : Nat) : Int))) (fun v1 => Fx.x_sub rfl rfl rfl (Fx.i64e (by omega) (by omega))) (Fx.R.make (by rfl) ?_))
  refine Fx.L.call (by rfl) (rC (args := [.pointer (some ⟨pb, 0, none⟩)]) rfl rfl Try.func30 rfl rfl) rfl ((e_len hl10 (by omega) hEbP).mono ?_)
  rintro e w16 ⟨he, hb5⟩
  refine ⟨.int .i64 (((A).length : Int)), by rw [he], ?_⟩
  clear he
  have s13 := Sb hb5
  have m91 := m87.stp s13 (Nat.ne_of_lt (m87.lt))
  have m92 := m88.stp s13 (Nat.ne_of_lt (m88.lt))
  have m93 := m89.up s13.old
  have m94 := m90.up s13.old
  have m95 := hl10.up s13.old
  have b20 := s13.below b19 b19.size b19.size
  refine Ln ⟨Fx.ChX.of_below s13.old, ?_⟩
  refine Rp (.bool false) (fun v1 => Fx.x_neqF rfl rfl rfl (by omega)) (Rp (.bool false) (fun v1 => x_pickF rfl rfl rfl) (Rp (.bool false) (fun v1 => x_move rfl rfl) (Rp (.pointer (some ⟨pb, 0, none⟩)) (fun v1 => x_move rfl h10) (Rp (.pointer (some ⟨pa, 0, none⟩)) (fun v1 => x_move rfl h9) (Fx.R.make (by rfl) ?_)))))
  refine Fx.L.call (by rfl) (rC (args := [.pointer (some ⟨pb, 0, none⟩)]) rfl rfl Try.func27 rfl rfl) rfl ((o_known ml4 _ _ _ _ m95).mono ?_)
  rintro e w17 ⟨he, hb6⟩
  refine ⟨.agg (Fx.varr 6 (Fx.rv .u64 ml4.K)), by rw [he], ?_⟩
  clear he
  have s14 := Sb hb6
  have m96 := m91.stp s14 (Nat.ne_of_lt (m91.lt))
  have m97 := m92.stp s14 (Nat.ne_of_lt (m92.lt))
  have m98 := m93.up s14.old
  have m99 := m94.up s14.old
  have m100 := m95.up s14.old
  have b21 := s14.below b20 b20.size b20.size
  refine Ln ⟨Fx.ChX.of_below s14.old, ?_⟩
  refine Fx.R.make (by rfl) ?_
  refine Fx.L.call (by rfl) (rC (args := [.pointer (some ⟨pa, 0, none⟩)]) rfl rfl Try.func27 rfl rfl) rfl ((o_known ma _ _ _ _ m98).mono ?_)
  rintro e w18 ⟨he, hb7⟩
  refine ⟨.agg (Fx.varr 6 (Fx.rv .u64 ma.K)), by rw [he], ?_⟩
  clear he
  have s15 := Sb hb7
  have m101 := m96.stp s15 (Nat.ne_of_lt (m96.lt))
  have m102 := m97.stp s15 (Nat.ne_of_lt (m97.lt))
  have m103 := m98.up s15.old
  have m104 := m99.up s15.old
  have m105 := m100.up s15.old
  have b22 := s15.below b21 b21.size b21.size
  refine Ln ⟨Fx.ChX.of_below s15.old, ?_⟩
  refine Rp (.bool false) (fun v1 => Fx.x_neqA (n := 6) (ks := List.replicate 6 (some .u64)) (X := Fx.rv .u64 ml4.K) (Y := Fx.rv .u64 ma.K) 12 true rfl rfl rfl (Fx.yesb (fun j _ => by rw [hKbP, hKa])) (by rw [hKbP, ← hKa]; exact hkra.kd) (hkra.kd) rfl (by kernel_rfl) (by kernel_rfl) (by kernel_rfl) (by kernel_rfl) (by kernel_rfl)) (Rp (.bool false) (fun v1 => x_pickF rfl rfl rfl) (Rp (.bool false) (fun v1 => x_move rfl rfl) (Rp (.pointer (some ⟨pc, 0, none⟩)) (fun v1 => x_move rfl h11) (Fx.R.read (v := .agg (Fx.varr 6 (Fx.rv .u64 u))) (by rfl) (by rfl) (Fx.ChX.refl _) (fun v1 hv1 => x_loadA (x := Fx.rv .u64 u) (y := Fx.rv .u64 u) rfl h12 (by kernel_rfl) (by kernel_rfl) (m102.chX hv1 (by decide)).cel (i := 0) (by omega) (by omega) (fun j _ => by rw [Nat.zero_add])) ?_))))
  refine Fx.R.make (by rfl) ?_
  refine Fx.L.call (by rfl) (rC (args := [.pointer (some ⟨pc, 0, none⟩)]) rfl rfl Try.func27 rfl rfl) rfl ((o_known mc _ _ _ _ m104).mono ?_)
  rintro e w19 ⟨he, hb8⟩
  refine ⟨.agg (Fx.varr 6 (Fx.rv .u64 mc.K)), by rw [he], ?_⟩
  clear he
  have s16 := Sb hb8
  have m106 := m101.stp s16 (Nat.ne_of_lt (m101.lt))
  have m107 := m102.stp s16 (Nat.ne_of_lt (m102.lt))
  have m108 := m103.up s16.old
  have m109 := m104.up s16.old
  have m110 := m105.up s16.old
  have b23 := s16.below b22 b22.size b22.size
  refine Ln ⟨Fx.ChX.of_below s16.old, ?_⟩
  refine Rp (.bool false) (fun v1 => Fx.x_neqA (n := 6) (ks := List.replicate 6 (some .u64)) (X := Fx.rv .u64 mc.K) (Y := Fx.rv .u64 u) 12 true rfl rfl rfl (Fx.yesb (fun j _ => by rw [hKcf])) (hkrc.kd) (by rw [← hKcf]; exact hkrc.kd) rfl (by kernel_rfl) (by kernel_rfl) (by kernel_rfl) (by kernel_rfl) (by kernel_rfl)) (Rp (.bool false) (fun v1 => x_pickF rfl rfl rfl) (Fx.R.nil (sN (Wc (b := false) rfl (fun h => nomatch h) (fun _ => Wk (sN (Ws ?_)))))))
  obtain ⟨mm, emm⟩ : ∃ r, r = mo % 16 := ⟨_, rfl⟩
  have hmm : mm < 16 := by rw [emm]; exact Nat.mod_lt _ (by omega)
  have m111 := m109.mono (T' := M9.an + 0) (by omega)
  refine Wl (Lv (.int .u8 ((mo : Int))) (x_move rfl h7) (Lv (.int .i64 ((mo : Int))) (x_conv rfl rfl (by kernel_rfl) Try.underlying3 (Fx.i64e (by omega) rfl)) (Lv (.int .i64 ((mm : Int))) (Fx.x_rem rfl rfl rfl (by omega) (remL emm)) (Lv (.int .i64 ((mm : Int) + 1)) (Fx.x_add rfl rfl rfl (Fx.i64e (by omega) (by omega))) (Lv (.int .i64 ((mm : Int) + 1)) (x_assign rfl rfl) (Ln (sN (Ws (Ws (Wl (Lv (.int .i64 (0)) (x_assign rfl rfl) (Ln (sN (Fx.W.block (Fx.W.loop (fun f w_ => ∃ rd4 : Nat, ∃ mc4 : LgM, ∃ t4 : Nat, rd4 ≤ M9.an + 1 ∧ t4 ≤ A.length ∧ ((rd4 ≤ t4 ∨ t4 = A.length)) ∧ LgE mc4 (E0 ++ A.take t4) ∧ mc4.K = endK u (A.take t4) ∧ SepL pa ma pc mc4 ∧ SepL pb ml4 pc mc4 ∧ f 10 = .pointer (some ⟨pw, 0, none⟩) ∧ f 12 = .pointer (some ⟨pa, 0, none⟩) ∧ f 13 = .pointer (some ⟨pb, 0, none⟩) ∧ f 14 = .pointer (some ⟨pc, 0, none⟩) ∧ f 15 = .pointer (some ⟨g1, 0, none⟩) ∧ f 19 = .int .i64 ((mm : Int) + 1) ∧ f 20 = .int .i64 ((rd4 : Int)) ∧ Fx.Blk w_ pw 2 (wdY (.slice M9.la (M9.n) (M9.lc)) (.slice M9.aa (M9.an) (M9.ac))) 74 ∧ Fx.Blk w_ g1 6 (Fx.rv .u64 u) 32 ∧ LgO w_ w2.heap.size pa ma M9.an ∧ LgO w_ w2.heap.size pb ml4 M9.an ∧ LgO w_ w2.heap.size pc mc4 (M9.an + t4) ∧ Below w2.heap.size w2 w_) (fun f _ => (M9.an + 1 - (intOf (f 20)).toNat)) ⟨0, mc, 0, by omega, by omega, .inl (Nat.le_refl _), (by rw [List.take_zero, List.append_nil]; exact hEc), (by rw [List.take_zero]; exact hKcf), hsac, hsp11.symm, h8, h9, h10, h11, h12, (by first | rfl | exact congrArg (Value.int .i64) (by omega)), (by first | rfl | exact congrArg (Value.int .i64) (by omega)), m106, m107, m108, m110, m111, b23⟩ ?_)))))))))))))))
  rintro f3 w20 ⟨rd4, mc4, t4, hrd4, ht4, hpr, hEc4, hKc4, hsac4, hsbc4, h15, h16, h17, h18, h19, h20, h21, m112, m113, m114, m115, m116, b24⟩
  refine Ws (Ws (Wl (Lv (.int .i64 ((rd4 : Int))) (x_move rfl h21) (Lv (.pointer (some ⟨pw, 0, none⟩)) (x_move rfl h15) (Lv (.pointer (some ⟨pw, 0, none⟩)) (x_nil rfl rfl) (Lv (.pointer (some ⟨pw, 1, none⟩)) (x_field rfl rfl Try.underlying74 rfl (s := 1) (by kernel_rfl) rfl (by show _ + 1 = _; omega)) (Lv (.slice M9.aa (M9.an) (M9.ac)) (x_load1 (x := wdY (.slice M9.la (M9.n) (M9.lc)) (.slice M9.aa (M9.an) (M9.ac))) rfl rfl (by kernel_rfl) m112.cel (i := 1) (by omega) (by omega) rfl) (Lv (.int .i64 ((M9.an : Int))) (x_len rfl rfl rfl (by kernel_rfl)) ?_))))))))
  by_cases c143 : (rd4 : Int) ≤ (M9.an : Int)
  ·refine Lv (.bool true) (Fx.x_leqT rfl rfl rfl c143) (Ln (sN (Wc (b := true) rfl (fun _ => Wk (sN (Ws (Fx.W.block (Ws ?_))))) (fun h => nomatch h))))
   obtain ⟨X, eX⟩ : ∃ X, X = (A.drop t4).take (mm + 1) := ⟨_, rfl⟩
   have hXl := len_drop eX
   refine Wl (Lv (.pointer (some ⟨pa, 0, none⟩)) (x_move rfl h16) (Lv (.pointer (some ⟨pc, 0, none⟩)) (x_move rfl h18) (Fx.L.call (by rfl) (rC (args := [.pointer (some ⟨pc, 0, none⟩)]) rfl rfl Try.func27 rfl rfl) rfl ((o_known mc4 _ _ _ _ m116).mono ?_))))
   rintro e w21 ⟨he, hb9⟩
   refine ⟨.agg (Fx.varr 6 (Fx.rv .u64 mc4.K)), by rw [he], ?_⟩
   clear he
   have s17 := Sb hb9
   have m117 := m112.stp s17 (Nat.ne_of_lt (m112.lt))
   have m118 := m113.stp s17 (Nat.ne_of_lt (m113.lt))
   have m119 := m114.up s17.old
   have m120 := m115.up s17.old
   have m121 := m116.up s17.old
   have b25 := s17.below b24 b24.size b24.size
   refine Lv (.int .i64 ((mm : Int) + 1)) (x_move rfl h20) (Fx.L.call (by rfl) (rC (args := [.pointer (some ⟨pa, 0, none⟩), .agg (Fx.varr 6 (Fx.rv .u64 mc4.K)), .int .i64 ((mm : Int) + 1)]) rfl rfl Try.func29 rfl rfl) rfl ((e_since mc4.K ((mm : Int) + 1) (X := X) m119 (by omega) hEa (by rw [hKc4, keep_keep (fun j => endK_ge (A.take t4) u j), ← eA, Chain.drop _ _ _ hch.1, eX, show ((mm : Int) + 1).toNat = mm + 1 by omega])).mono ?_))
   rintro e9 w22 ⟨a1, c1, he, ho1, hb10⟩
   refine ⟨_, he, ?_⟩
   clear he
   have s18 := Sb hb10
   have m122 := m117.stp s18 (Nat.ne_of_lt (m117.lt))
   have m123 := m118.stp s18 (Nat.ne_of_lt (m118.lt))
   have m124 := m119.up s18.old
   have m125 := m120.up s18.old
   have m126 := m121.up s18.old
   have b26 := s18.below b25 b25.size b25.size
   refine Lv (.slice a1 (X.length) (c1)) (x_assign rfl rfl) (Ln (sN (Ws (Wl (Lv (.pointer (some ⟨pb, 0, none⟩)) (x_move rfl h17) (Lv (.pointer (some ⟨pc, 0, none⟩)) (x_move rfl h18) (Fx.L.call (by rfl) (rC (args := [.pointer (some ⟨pc, 0, none⟩)]) rfl rfl Try.func27 rfl rfl) rfl ((o_known mc4 _ _ _ _ m126).mono ?_))))))))
   rintro e w23 ⟨he, hb11⟩
   refine ⟨.agg (Fx.varr 6 (Fx.rv .u64 mc4.K)), by rw [he], ?_⟩
   clear he
   have s19 := Sb hb11
   have m127 := m122.stp s19 (Nat.ne_of_lt (m122.lt))
   have m128 := m123.stp s19 (Nat.ne_of_lt (m123.lt))
   have m129 := m124.up s19.old
   have m130 := m125.up s19.old
   have m131 := m126.up s19.old
   have m132 := ho1.stp s19 (ho1.notNew (Nat.le_refl _))
   have b27 := s19.below b26 b26.size b26.size
   refine Lv (.int .i64 ((mm : Int) + 1)) (x_move rfl h20) (Fx.L.call (by rfl) (rC (args := [.pointer (some ⟨pb, 0, none⟩), .agg (Fx.varr 6 (Fx.rv .u64 mc4.K)), .int .i64 ((mm : Int) + 1)]) rfl rfl Try.func29 rfl rfl) rfl ((e_since mc4.K ((mm : Int) + 1) (X := X) m130 (by omega) hEbP (by rw [hKc4, Chain.drop _ _ _ hch.1, eX, show ((mm : Int) + 1).toNat = mm + 1 by omega])).mono ?_))
   rintro e9 w24 ⟨a2, c2, he, ho2, hb12⟩
   refine ⟨_, he, ?_⟩
   clear he
   have s20 := Sb hb12
   have m133 := m127.stp s20 (Nat.ne_of_lt (m127.lt))
   have m134 := m128.stp s20 (Nat.ne_of_lt (m128.lt))
   have m135 := m129.up s20.old
   have m136 := m130.up s20.old
   have m137 := m131.up s20.old
   have m138 := m132.stp s20 (m132.notNew (Nat.le_refl _))
   have b28 := s20.below b27 b27.size b27.size
   refine Lv (.slice a2 (X.length) (c2)) (x_assign rfl rfl) (Ln (sN (Ws (Ws (Wl (Lv (.slice a1 (X.length) (c1)) (x_move rfl rfl) (Lv (.slice a2 (X.length) (c2)) (x_move rfl rfl) (Fx.L.call (by rfl) (rC (args := [.slice a1 (X.length) (c1), .slice a2 (X.length) (c2)]) rfl rfl Try.func23 rfl rfl) rfl ((r_same X.length (fun q => X.getD q zeroE) (fun q => X.getD q zeroE) a1 a2 c1 c2 _ (by omega) (fun _ _ => rfl) (fun i hi => hwA _ (by rw [getD_drop eX hi]; exact getD_mem (by omega))) m138.arr ho2.arr).mono ?_)))))))))
   rintro e w25 ⟨he, hb13⟩
   refine ⟨.bool true, by rw [he], ?_⟩
   clear he
   have s21 := Sb hb13
   have m139 := m133.stp s21 (Nat.ne_of_lt (m133.lt))
   have m140 := m134.stp s21 (Nat.ne_of_lt (m134.lt))
   have m141 := m135.up s21.old
   have m142 := m136.up s21.old
   have m143 := m137.up s21.old
   have m145 := ho2.stp s21 (ho2.notNew (Nat.le_refl _))
   have b29 := s21.below b28 b28.size b28.size
   refine Lv (.bool false) (Fx.x_notF rfl rfl) (Ln (sN (Wc (b := false) rfl (fun h => nomatch h) (fun _ => Wk (sN (Ws (Wl (Lv (.int .i64 (0)) (x_assign rfl rfl) (Ln (sN (Fx.W.block (Fx.W.loop (fun f w_ => ∃ i5 : Nat, ∃ mc5 : LgM, i5 ≤ X.length ∧ LgE mc5 (E0 ++ A.take (t4 + i5)) ∧ mc5.K = endK u (A.take (t4 + i5)) ∧ SepL pa ma pc mc5 ∧ SepL pb ml4 pc mc5 ∧ f 10 = .pointer (some ⟨pw, 0, none⟩) ∧ f 12 = .pointer (some ⟨pa, 0, none⟩) ∧ f 13 = .pointer (some ⟨pb, 0, none⟩) ∧ f 14 = .pointer (some ⟨pc, 0, none⟩) ∧ f 15 = .pointer (some ⟨g1, 0, none⟩) ∧ f 19 = .int .i64 ((mm : Int) + 1) ∧ f 20 = .int .i64 ((rd4 : Int)) ∧ f 22 = .slice a2 (X.length) (c2) ∧ f 23 = .int .i64 ((i5 : Int)) ∧ Fx.Blk w_ pw 2 (wdY (.slice M9.la (M9.n) (M9.lc)) (.slice M9.aa (M9.an) (M9.ac))) 74 ∧ Fx.Blk w_ g1 6 (Fx.rv .u64 u) 32 ∧ Fx.Own w_ w23.heap.size 50 14 (.slice a2 (X.length) (c2)) X.length (evL X) ∧ LgO w_ w2.heap.size pa ma M9.an ∧ LgO w_ w2.heap.size pb ml4 M9.an ∧ LgO w_ w2.heap.size pc mc5 (M9.an + t4 + i5) ∧ Below w2.heap.size w2 w_) (fun f _ => (X.length - (intOf (f 23)).toNat)) ⟨0, mc4, by omega, hEc4, hKc4, hsac4, hsbc4, h15, h16, h17, h18, h19, (h20.trans (by first | rfl | exact congrArg (Value.int .i64) (by omega))), (h21.trans (by first | rfl | exact congrArg (Value.int .i64) (by omega))), (by rfl), (by first | rfl | exact congrArg (Value.int .i64) (by omega)), m139, m140, m145, m141, m142, m143, b29⟩ ?_))))))))))))
   rintro f4 w26 ⟨i5, mc5, hi5, hEc5, hKc5, hsac5, hsbc5, h22, h23, h24, h25, h26, h27, h28, h29, h30, m146, m147, m148, m149, m150, m151, b30⟩
   refine Ws (Ws (Wl (Lv (.int .i64 ((i5 : Int))) (x_move rfl h30) (Lv (.slice a2 (X.length) (c2)) (x_move rfl h29) (Lv (.int .i64 ((X.length : Int))) (x_len rfl rfl rfl (by kernel_rfl)) ?_)))))
   by_cases c163 : (i5 : Int) < (X.length : Int)
   ·refine Lv (.bool true) (Fx.x_lssT rfl rfl rfl c163) (Ln (sN (Wc (b := true) rfl (fun _ => Wk (sN (Ws (Fx.W.block (Ws (Wl (Lv (.pointer (some ⟨pc, 0, none⟩)) (x_move rfl h25) ?_))))))) (fun h => nomatch h))))
    refine Lv (.slice a2 (X.length) (c2)) (x_move rfl h29) (Lv (.int .i64 ((i5 : Int))) (x_move rfl h30) ?_)
    obtain ⟨gq1, eq4⟩ := m148.addr (by omega)
    have m152 : Fx.Own w26 w23.heap.size 50 14 (.slice (some ⟨gq1, 0, none⟩) X.length c2) X.length (evL X) := m148.congV (congrArg (fun q => Value.slice q X.length c2) eq4)
    refine Lv (.pointer (some ⟨gq1, 14 * i5, none⟩)) (x_indexS rfl (rfl.trans (congrArg (fun q => Value.slice q (X.length) (c2)) eq4)) rfl Try.underlying46 (s := 14) (by kernel_rfl) (by omega) (by omega) (by omega)) (Lv (.agg (Fx.varr 14 (evY ((X).getD i5 zeroE)))) (x_loadA (x := evL X) (y := evY ((X).getD i5 zeroE)) rfl rfl (by kernel_rfl) (by kernel_rfl) m152.cel (i := 14 * i5) (by omega) (by omega) (fun jq hjq => Fx.flat_at (k := i5) (by omega) hjq)) (Fx.L.call (by rfl) (rC (args := [.pointer (some ⟨pc, 0, none⟩), .agg (Fx.varr 14 (evY ((X).getD i5 zeroE)))]) rfl rfl Try.func19 rfl rfl) rfl ((e_add (v := (X.getD i5 zeroE)) m151 b30.size (by omega) hEc5 (hwA _ (by rw [getD_drop eX (by omega)]; exact getD_mem (by omega))) (by rw [hKc5, getD_drop eX (by omega)]; exact Chain.get _ _ _ hch.1 (by omega))).mono ?_)))
    rintro e9 w27 ⟨he, hc5, ml5, hl11, hE5, hK5, hS5⟩
    refine ⟨_, he, ?_⟩
    clear he
    have ct5 := m151.chm hc5
    have b31 := b30.trans (m151.below b30.size hc5)
    have m153 := m146.chT ct5 (by decide)
    have m154 := m147.chT ct5 (by decide)
    have m155 := m149.chg hc5 hsac5
    have hsp12 := SepL.step hsac5 hS5 m149
    have m156 := m150.chg hc5 hsbc5
    have hsp13 := SepL.step hsbc5 hS5 m150
    have m157 := m152.chT ct5 (by decide)
    refine Lv (.bool false) (Fx.x_neqF rfl rfl rfl rfl) (Ln (sN (Wc (b := false) rfl (fun h => nomatch h) (fun _ => Wk (Fx.blkN (sN (Wl (Lv (.int .i64 ((i5 : Int))) (x_move rfl h30) (Lv (.int .i64 ((i5 : Int) + 1)) (Fx.x_add rfl rfl rfl (Fx.i64e (by omega) (by omega))) (Lv (.int .i64 ((i5 : Int) + 1)) (x_assign rfl rfl) (Ln ?_)))))))))))
    have m158 : Fx.Own w27 w23.heap.size 50 14 (.slice a2 (X.length) (c2)) X.length (evL X) := m157.congV (congrArg (fun q => Value.slice q X.length c2) eq4.symm)
    refine Fx.lpN ⟨i5 + 1, ml5, by omega, (tell_E (k := t4 + i5) hE5 (getD_drop eX (by omega)) (by omega)), (tell_K (k := t4 + i5) hK5 hKc5 (getD_drop eX (by omega)) (by omega)), hsp12, hsp13, h22, h23, h24, h25, h26, (h27.trans (by first | rfl | exact congrArg (Value.int .i64) (by omega))), (h28.trans (by first | rfl | exact congrArg (Value.int .i64) (by omega))), h29, (by first | rfl | exact congrArg (Value.int .i64) (by omega)), m153, m154, m158, m155, m156, hl11, b31⟩ ?_
    show (X.length - (intOf ((.int .i64 ((i5 : Int) + 1)))).toNat) < _
    simp only [h30, intOf]; omega
   refine Lv (.bool false) (Fx.x_lssF rfl rfl rfl c163) (Ln (sN (Wc (b := false) rfl (fun h => nomatch h) (fun _ => Fx.W.exit (Fx.seqX (Fx.lpX (Fx.blkX (Fx.blkN (sN (Wl (Lv (.int .i64 ((rd4 : Int))) (x_move rfl h28) (Lv (.int .i64 ((rd4 : Int) + 1)) (Fx.x_add rfl rfl rfl (Fx.i64e (by omega) (by omega))) (Lv (.int .i64 ((rd4 : Int) + 1)) (x_assign rfl rfl) (Ln ?_))))))))))))))
   have m159 := m151.mono (T' := M9.an + (t4 + X.length)) (by omega)
   skip
   refine Fx.lpN ⟨rd4 + 1, mc5, (t4 + X.length), by omega, by omega, (by omega), (by have e : i5 = X.length := (by omega); rw [← e]; exact hEc5), (by have e : i5 = X.length := (by omega); rw [← e]; exact hKc5), hsac5, hsbc5, h22, h23, h24, h25, h26, (h27.trans (by first | rfl | exact congrArg (Value.int .i64) (by omega))), (by first | rfl | exact congrArg (Value.int .i64) (by omega)), m146, m147, m149, m150, m159, b30⟩ ?_
   show (M9.an + 1 - (intOf ((.int .i64 ((rd4 : Int) + 1)))).toNat) < _
   simp only [h21, intOf]; omega
  refine Lv (.bool false) (x_leqF rfl rfl rfl c143) (Ln (sN (Wc (b := false) rfl (fun h => nomatch h) (fun _ => Fx.W.exit (Fx.seqX (Fx.lpX (Fx.blkX (sN (Ws ?_)))))))))
  have et : t4 = A.length := by omega
  have hKend : mc4.K = ma.K := by rw [hKa, ← hch.2, hKc4, et, List.take_length]
  have hkrc := m116.kr
  have hAA : (A.length : Int) - ((A.filter (keepE u)).length : Int) = 0 := by rw [show A.filter (keepE u) = A by rw [eA]; exact keep_self _]; omega
  refine Wl (Lv (.pointer (some ⟨pc, 0, none⟩)) (x_move rfl h18) (Fx.L.call (by rfl) (rC (args := [.pointer (some ⟨pc, 0, none⟩)]) rfl rfl Try.func27 rfl rfl) rfl ((o_known mc4 _ _ _ _ m116).mono ?_)))
  rintro e w28 ⟨he, hb14⟩
  refine ⟨.agg (Fx.varr 6 (Fx.rv .u64 mc4.K)), by rw [he], ?_⟩
  clear he
  have s22 := Sb hb14
  have m161 := m113.stp s22 (Nat.ne_of_lt (m113.lt))
  have m162 := m114.up s22.old
  have m163 := m115.up s22.old
  have m164 := m116.up s22.old
  have b32 := s22.below b24 b24.size b24.size
  refine Lv (.pointer (some ⟨pa, 0, none⟩)) (x_move rfl h16) (Fx.L.call (by rfl) (rC (args := [.pointer (some ⟨pa, 0, none⟩)]) rfl rfl Try.func27 rfl rfl) rfl ((o_known ma _ _ _ _ m162).mono ?_))
  rintro e w29 ⟨he, hb15⟩
  refine ⟨.agg (Fx.varr 6 (Fx.rv .u64 ma.K)), by rw [he], ?_⟩
  clear he
  have s23 := Sb hb15
  have m166 := m161.stp s23 (Nat.ne_of_lt (m161.lt))
  have m167 := m162.up s23.old
  have m168 := m163.up s23.old
  have m169 := m164.up s23.old
  have b33 := s23.below b32 b32.size b32.size
  refine Lv (.bool true) (Fx.x_eqlA (n := 6) (ks := List.replicate 6 (some .u64)) (X := Fx.rv .u64 mc4.K) (Y := Fx.rv .u64 ma.K) 12 true rfl rfl rfl (Fx.yesb (fun j _ => by rw [hKend])) (hkrc.kd) (hkra.kd) rfl (by kernel_rfl) (by kernel_rfl) (by kernel_rfl) (by kernel_rfl) (by kernel_rfl)) (Lv (.bool true) (x_move rfl rfl) (Lv (.pointer (some ⟨pb, 0, none⟩)) (x_move rfl h17) (Lv (.agg (Fx.varr 6 (Fx.rv .u64 u))) (x_loadA (x := Fx.rv .u64 u) (y := Fx.rv .u64 u) rfl h19 (by kernel_rfl) (by kernel_rfl) m166.cel (i := 0) (by omega) (by omega) (fun j _ => by rw [Nat.zero_add])) (Fx.L.call (by rfl) (rC (args := [.pointer (some ⟨pb, 0, none⟩), .agg (Fx.varr 6 (Fx.rv .u64 u))]) rfl rfl Try.func28 rfl rfl) rfl ((e_prune u m168 b33.size (by omega) hEbP).mono ?_)))))
  rintro e9 w30 ⟨he, hc6, ml6, hl12, hE6, hK6, hS6⟩
  refine ⟨_, he, ?_⟩
  clear he
  have ct6 := m168.chm hc6
  have b34 := b33.trans (m168.below b33.size hc6)
  have m172 := m167.chg hc6 hsp10
  have hsp14 := SepL.step hsp10 hS6 m167
  have m173 := m169.chg hc6 hsbc4.symm
  have hsp15 := SepL.step hsbc4.symm hS6 m169
  refine Lv (.bool true) (x_eqlT rfl rfl rfl hAA) (Lv (.bool true) (x_pickT rfl rfl rfl) (Lv (.bool true) (x_move rfl rfl) (Fx.L.call (by rfl) (rC (args := []) rfl rfl Try.func26 rfl rfl) rfl ((works16_any _).mono ?_))))
  rintro e w31 ⟨he, hb16⟩
  refine ⟨.bool true, by rw [he], ?_⟩
  clear he
  have s24 := Sb hb16
  have b35 := s24.below b34 b34.size b34.size
  refine Lv (.bool true) (x_pickT rfl rfl rfl) (Lv (.bool true) (x_assign rfl rfl) (Ln (sN (Wr (⟨.bool true, rV Try.results5 (by exact rfl), ?_⟩)))))
  exact ⟨rfl, (bchB b2 b35 b2.size)⟩
 rw [Bool.not_eq_true] at c25
 refine Fx.L.call (by rfl) (rC (args := [.slice aa0 (na) (ca)]) rfl rfl Try.func9 rfl rfl) rfl ((l_few _ _ _ _).mono ?_)
 rintro e v1 ⟨he, hv1⟩
 subst v1
 refine ⟨.bool false, by rw [he, c25], ?_⟩
 clear he
 refine Lv (.bool true) (Fx.x_notT rfl rfl) (Ln (sN (Wc (b := true) rfl (fun _ => Ws (Wl (Fx.L.call (by rfl) (rC (args := []) rfl rfl Try.func26 rfl rfl) rfl ((works16_any _).mono ?_)))) (fun h => nomatch h))))
 rintro e w32 ⟨he, hb17⟩
 refine ⟨.bool true, by rw [he], ?_⟩
 clear he
 have s25 := Sb hb17
 have b36 := s25.below (Below.refl w.heap.size w) (Below.refl w.heap.size w).size (Below.refl w.heap.size w).size
 refine Lv (.bool true) (x_assign rfl rfl) (Ln (sN (Wr (sR (⟨.bool true, rV Try.results5 (by exact rfl), ?_⟩)))))
 exact ⟨rfl, b36⟩
end
end Go.Proofs.Ytleajegppehbdaa
namespace Go.Proofs.Ytleajegppehbdaa
open Go.RowKit Go.WideShapes Go.ChangeShapes Go.Deep
theorem spotless1 {w : World} {x : Addr} {v : Value} (h : w.cell? x = some v) : ∃ b off, x = ⟨b, off, none⟩ := by
  obtain ⟨b, off, spot⟩ := x
  cases spot with
  | none => exact ⟨b, off, rfl⟩
  | some q =>
    unfold World.cell? at h
    simp at h
    split at h <;> cases h
def At4 (k0 k1 k2 k3 : IntKind) (w : World) (b off : Nat) (x0 x1 x2 x3 : Int) : Prop :=
  w.cell? ⟨b, off, none⟩ = some (.int k0 x0) ∧ w.cell? ⟨b, off + 1, none⟩ = some (.int k1 x1) ∧ w.cell? ⟨b, off + 2, none⟩ = some (.int k2 x2) ∧ w.cell? ⟨b, off + 3, none⟩ = some (.int k3 x3)
def Wf4 (k0 k1 k2 k3 : IntKind) (x0 x1 x2 x3 : Int) : Prop := (Lit.int k0 x0).wf = true ∧ (Lit.int k1 x1).wf = true ∧ (Lit.int k2 x2).wf = true ∧ (Lit.int k3 x3).wf = true
def Sl4 (k0 k1 k2 k3 : IntKind) (w : World) (a : Option Addr) (len : Nat) (X0 X1 X2 X3 : Nat → Int) : Prop :=
  ∀ i, i < len → (∃ b off, a = some ⟨b, off, none⟩ ∧ At4 k0 k1 k2 k3 w b (off + i * 4) (X0 i) (X1 i) (X2 i) (X3 i)) ∧ Wf4 k0 k1 k2 k3 (X0 i) (X1 i) (X2 i) (X3 i)
theorem Sl4.up {k0 k1 k2 k3 : IntKind} {w w' : World} {a : Option Addr} {len : Nat} {X0 X1 X2 X3 : Nat → Int} (h : Sl4 k0 k1 k2 k3 w a len X0 X1 X2 X3) (hb : Below w.heap.size w w') : Sl4 k0 k1 k2 k3 w' a len X0 X1 X2 X3 := by
  intro i hi
  obtain ⟨⟨b, off, e, q0, q1, q2, q3⟩, hw⟩ := h i hi
  have hlt := block_lt_of_cell q0
  dsimp only at hlt
  exact ⟨⟨b, off, e, (hb.cell (p := ⟨b, off + i * 4, none⟩) hlt).trans q0, (hb.cell (p := ⟨b, off + i * 4 + 1, none⟩) hlt).trans q1, (hb.cell (p := ⟨b, off + i * 4 + 2, none⟩) hlt).trans q2, (hb.cell (p := ⟨b, off + i * 4 + 3, none⟩) hlt).trans q3⟩, hw⟩
end Go.Proofs.Ytleajegppehbdaa
namespace Go.Proofs.Ytleajegppehbdaa
open Go.RowKit Go.WideShapes Go.ChangeShapes Go.Deep
def flatKb (P : Program) : Nat → TypeId → Option (List (Option IntKind))
  | 0, _ => none
  | d + 1, t => match P.underlying t with
    | some (.int k) => some [some k]
    | some .bool => some [none]
    | some (.array n e) => (flatKb P d e).bind fun ks => if P.cellsOf e = ks.length ∧ P.cellsOf t = n * ks.length then some (List.replicate n ks).flatten else none
    | some (.struct fs) => (fs.toList.foldlM (fun l f => (flatKb P d f.type).bind fun ks => if f.offset = l.length ∧ P.cellsOf f.type = ks.length then some (l ++ ks) else none) []).bind fun l => if P.cellsOf t = l.length then some l else none
    | _ => none
def OkV (k : Option IntKind) (v : Value) : Prop := match k with | some k => ∃ n, v = .int k n ∧ (Lit.int k n).wf = true | none => ∃ b, v = .bool b
def FlatV (ks : List (Option IntKind)) (cs : List Value) : Prop := cs.length = ks.length ∧ ∀ (j : Nat) (k : Option IntKind), ks[j]? = some k → ∃ v, cs[j]? = some v ∧ OkV k v
theorem flatb_rep {ks : List (Option IntKind)} {k : Option IntKind} : ∀ (n j : Nat), (List.replicate n ks).flatten[j]? = some k → ks[j % ks.length]? = some k ∧ j / ks.length < n
  | 0, j, h => by simp at h
  | n + 1, j, h => by
    rw [List.replicate_succ, List.flatten_cons] at h
    by_cases hj : j < ks.length
    · rw [List.getElem?_append_left hj] at h
      rw [Nat.mod_eq_of_lt hj, Nat.div_eq_of_lt hj]; exact ⟨h, by omega⟩
    · rw [List.getElem?_append_right (by omega)] at h
      have hs : 0 < ks.length := by
        rcases Nat.eq_zero_or_pos ks.length with e | e
        · obtain ⟨h1, _⟩ := flatb_rep n _ h
          have := (List.getElem?_eq_some_iff.1 h1).1; omega
        · exact e
      obtain ⟨h1, h2⟩ := flatb_rep n _ h
      rw [Nat.mod_eq_sub_mod (by omega), Nat.div_eq_sub_div hs (by omega)]
      exact ⟨h1, by omega⟩
section
variable {H : Type} {enc : TypeId × Value → H} {P : Program} {w : World} {base : Nat} {spare : Nat → Bool} {held : Bool}
theorem flatb_part {ks : List (Option IntKind)} {cs : List Value} {o s j : Nat} {k : Option IntKind} (h : FlatV ks ((cs.drop o).take s)) (hs : s = ks.length) (hk : ks[j]? = some k) : ∃ v, cs[o + j]? = some v ∧ OkV k v := by
  obtain ⟨n, h1, h2⟩ := h.2 j k hk
  have hj := (List.getElem?_eq_some_iff.1 hk).1
  rw [List.getElem?_take_of_lt (by omega), List.getElem?_drop] at h1
  exact ⟨n, h1, h2⟩
theorem flatKb_ok : ∀ (d : Nat) (t : TypeId) (ks : List (Option IntKind)), flatKb P d t = some ks → ∀ (fuel : Nat) (cs : List Value) (x : DataW H × List MemPlace), DataW.trod enc P w base spare held fuel t cs = some x → FlatV ks cs
  | 0, _, _, h => by simp [flatKb] at h
  | d + 1, t, ks, h => by
    intro fuel cs x hx
    unfold flatKb at h
    split at h
    · rename_i k hu
      simp only [Option.some.injEq] at h; subst h
      obtain ⟨n, rfl, _, hw⟩ := DataW.trod_int hu hx
      refine ⟨rfl, fun j k' hk => ?_⟩
      match j, hk with
      | 0, hk => simp at hk; subst hk; exact ⟨_, rfl, n, rfl, hw⟩
      | j + 1, hk => simp at hk
    · rename_i hu
      simp only [Option.some.injEq] at h; subst h
      obtain ⟨b, rfl, _⟩ := DataW.trod_bool hu hx
      refine ⟨rfl, fun j k' hk => ?_⟩
      match j, hk with
      | 0, hk => simp at hk; subst hk; exact ⟨_, rfl, b, rfl⟩
      | j + 1, hk => simp at hk
    · rename_i n e hu
      obtain ⟨ks', hks, h⟩ := Option.bind_eq_some_iff.1 h
      split at h
      · rename_i hc
        simp only [Option.some.injEq] at h; subst h
        obtain ⟨xs, m, _, _, hl, hlen, hel⟩ := DataW.trod_array hu hx
        refine ⟨by rw [hl, hc.2]; simp, fun j k hk => ?_⟩
        obtain ⟨h1, h2⟩ := flatb_rep n j hk
        have hi := hel (j / ks'.length) h2
        rw [List.getElem?_eq_getElem (by omega), hc.1] at hi
        have := flatb_part (flatKb_ok d e ks' hks _ _ _ hi) rfl h1
        rw [Nat.mul_comm, Nat.div_add_mod] at this
        exact this
      · cases h
    · rename_i fs hu
      obtain ⟨l, hl, h⟩ := Option.bind_eq_some_iff.1 h
      split at h
      · rename_i hc
        simp only [Option.some.injEq] at h; subst h
        obtain ⟨xs, m, _, _, hlc, hlen, hf⟩ := DataW.trod_struct hu hx
        refine ⟨by rw [hlc, hc], ?_⟩
        have hf' : ∀ f, f ∈ fs.toList → ∃ y, DataW.trod enc P w base spare held m f.type ((cs.drop f.offset).take (P.cellsOf f.type)) = some y := by
          intro f hfm
          obtain ⟨i, hi, e⟩ := List.mem_iff_getElem.1 hfm
          have hi' : i < fs.size := by simpa using hi
          have h1 : fs[i]? = some f := by rw [Array.getElem?_eq_getElem hi']; simpa using e
          have := hf i f h1
          rw [List.getElem?_eq_getElem (by rw [hlen]; exact hi')] at this
          exact ⟨_, this⟩
        have key : ∀ (L : List Field) (acc : List (Option IntKind)), (∀ f, f ∈ L → ∃ y, DataW.trod enc P w base spare held m f.type ((cs.drop f.offset).take (P.cellsOf f.type)) = some y) → (∀ (j : Nat) (k : Option IntKind), acc[j]? = some k → ∃ v, cs[j]? = some v ∧ OkV k v) → ∀ l, L.foldlM (fun l f => (flatKb P d f.type).bind fun ks => if f.offset = l.length ∧ P.cellsOf f.type = ks.length then some (l ++ ks) else none) acc = some l → ∀ (j : Nat) (k : Option IntKind), l[j]? = some k → ∃ v, cs[j]? = some v ∧ OkV k v := by
          intro L
          induction L with
          | nil => intro acc _ ha l hl; simp at hl; subst hl; exact ha
          | cons f L ih =>
            intro acc hL ha l hl
            rw [List.foldlM_cons] at hl
            obtain ⟨l1, h1, h2⟩ := Option.bind_eq_some_iff.1 hl
            obtain ⟨kf, hkf, h3⟩ := Option.bind_eq_some_iff.1 h1
            split at h3
            · rename_i hcc
              simp only [Option.some.injEq] at h3; subst h3
              refine ih (acc ++ kf) (fun g hg => hL g (List.mem_cons_of_mem _ hg)) (fun j k hk => ?_) l h2
              by_cases hj : j < acc.length
              · rw [List.getElem?_append_left hj] at hk; exact ha j k hk
              · rw [List.getElem?_append_right (by omega)] at hk
                obtain ⟨y, hy⟩ := hL f (List.mem_cons_self ..)
                have := flatb_part (flatKb_ok d f.type kf hkf _ _ _ hy) hcc.2 hk
                rw [hcc.1, show acc.length + (j - acc.length) = j by omega] at this
                exact this
            · cases h3
        exact key fs.toList [] hf' (fun j k hk => by simp at hk) l hl
      · cases h
    · cases h
end
section
variable {H : Type} {enc : TypeId × Value → H} {P : Program} {w : World} {base : Nat} {spare : Nat → Bool} {held : Bool}
theorem open_rows {t e : TypeId} {ks : List (Option IntKind)} {fuel D : Nat} {cs : List Value} {x : DataW H × List MemPlace} (ht : P.underlying t = some (.slice e)) (hk : flatKb P D e = some ks) (ce : P.cellsOf e = ks.length) (hs : 0 < ks.length)
    (h : DataW.trod enc P w base spare held fuel t cs = some x) : ∃ a len cap, cs = [.slice a len cap] ∧ len ≤ maxLen ∧ len ≤ cap ∧ ∃ X : Nat → Nat → Value, (∀ i, i < len → ∀ (j : Nat) (k : Option IntKind), ks[j]? = some k → OkV k (X i j)) ∧ Fx.Arr w a len ks.length (Fx.flat ks.length X) := by
  rcases open_slice ht h with ⟨rfl, _⟩ | ⟨a', len, cap, m, n, D', Pl, rfl, _, hl, hm, hmm, _, hx⟩
  · exact ⟨none, 0, 0, rfl, by unfold maxLen; omega, Nat.le_refl _, fun _ _ => undef, fun i hi => absurd hi (by omega), fun h => absurd h (by omega)⟩
  have hlm : len ≤ m := by rw [hmm]; split <;> omega
  have each : ∀ i j : Nat, ∃ q : Value, i < len → ∀ k, ks[j]? = some k → w.cell? (a'.add (i * ks.length + j)) = some q ∧ OkV k q := by
    intro i j
    by_cases hi : i < len ∧ j < ks.length
    · obtain ⟨cs', g1, g2⟩ := hx i (by omega)
      rw [ce] at g1
      obtain ⟨_, hlen, hcell⟩ := World.cells?_some g1
      obtain ⟨q, h1, h2⟩ := (flatKb_ok _ _ _ hk _ _ _ g2).2 j _ (List.getElem?_eq_getElem hi.2)
      refine ⟨q, fun _ k hkj => ?_⟩
      rw [List.getElem?_eq_getElem hi.2, Option.some.injEq] at hkj
      subst hkj
      have q0 := hcell j (by omega)
      rw [add_add] at q0
      exact ⟨by rw [← h1]; simpa using q0, h2⟩
    · refine ⟨undef, fun h1 k h2 => absurd ⟨h1, (List.getElem?_eq_some_iff.1 h2).1⟩ hi⟩
  refine ⟨some a', len, cap, rfl, by omega, hl, fun i j => Classical.choose (each i j), fun i hi j k hkj => (Classical.choose_spec (each i j) hi k hkj).2, fun h0 => ?_⟩
  have e0 : a'.add (0 * ks.length + 0) = a' := by unfold Addr.add; simp
  obtain ⟨q00, h00⟩ := each 0 0
  have hk0 := List.getElem?_eq_getElem hs
  have h00' := (h00 h0 _ hk0)
  have h01 := h00'.1
  rw [e0] at h01
  have e1 : ∃ b off, a' = ⟨b, off, none⟩ := by
    have h02 := h00'.2
    unfold OkV at h02
    split at h02
    · obtain ⟨nn, rfl, _⟩ := h02; exact spotless1 h01
    · obtain ⟨bb, rfl⟩ := h02
      unfold World.cell? at h01
      cases a' with
      | mk b off sp =>
        cases sp with
        | none => exact ⟨b, off, rfl⟩
        | some s => simp at h01; split at h01 <;> simp_all
  obtain ⟨b, off, e1⟩ := e1
  refine ⟨b, off, by rw [e1], fun p hp => ?_⟩
  have hj : p % ks.length < ks.length := Nat.mod_lt _ hs
  have hi : p / ks.length < len := Nat.div_lt_of_lt_mul (by rw [Nat.mul_comm]; exact hp)
  have := (Classical.choose_spec (each (p / ks.length) (p % ks.length)) hi _ (List.getElem?_eq_getElem hj)).1
  have ea : a'.add (p / ks.length * ks.length + p % ks.length) = ⟨b, off + p, none⟩ := by rw [e1, addr_add, Nat.mul_comm, Nat.div_add_mod]
  exact (congrArg w.cell? ea).symm.trans this
end
end Go.Proofs.Ytleajegppehbdaa
namespace Go.Proofs.Ytleajegppehbdaa
open Go.RowKit Go.WideShapes Go.ChangeShapes Go.Deep Rt
def boolOf : Value → Bool | .bool b => b | _ => false
theorem OkV.int {k : IntKind} {v : Value} (h : OkV (some k) v) : v = .int k (intOf v) ∧ (Lit.int k (intOf v)).wf = true := by
  obtain ⟨n, rfl, hw⟩ := h; exact ⟨rfl, hw⟩
theorem OkV.bool {v : Value} (h : OkV none v) : v = .bool (boolOf v) := by
  obtain ⟨b, rfl⟩ := h; rfl
theorem wf_u8 {n : Int} (h : (Lit.int .u8 n).wf = true) : 0 ≤ n ∧ n ≤ 255 := by simp [Lit.wf, IntKind.min, IntKind.max, IntKind.bits, IntKind.signed] at h; omega
theorem wf_u16 {n : Int} (h : (Lit.int .u16 n).wf = true) : 0 ≤ n ∧ n ≤ 65535 := by simp [Lit.wf, IntKind.min, IntKind.max, IntKind.bits, IntKind.signed] at h; omega
theorem nat_u8 {n : Int} (h : (Lit.int .u8 n).wf = true) : ∃ m : Nat, n = (m : Int) ∧ m ≤ 255 := by
  have := wf_u8 h; exact ⟨n.toNat, by omega, by omega⟩
theorem Fx.Arr.congr {w : World} {a : Option Addr} {n s : Nat} {x y : Nat → Value} (h : Fx.Arr w a n s x) (e : ∀ p, p < n * s → x p = y p) : Fx.Arr w a n s y := fun h0 => by
  obtain ⟨b, off, ea, hc⟩ := h h0
  exact ⟨b, off, ea, fun i hi => by rw [← e i hi]; exact hc i hi⟩
def actKs : List (Option IntKind) := [some .u8, none, some .u8, some .u8, some .u8, some .u8, some .u16, some .u8, some .u8]
def actOf (X : Nat → Value) : ActM := ⟨(intOf (X 0)).toNat, boolOf (X 1), (intOf (X 2)).toNat, (intOf (X 3)).toNat, (intOf (X 4)).toNat, (intOf (X 5)).toNat, (intOf (X 6)).toNat, (intOf (X 7)).toNat, (intOf (X 8)).toNat⟩
theorem actOf_ok {X : Nat → Value} (h : ∀ (j : Nat) (k : Option IntKind), actKs[j]? = some k → OkV k (X j)) : ActOk (actOf X) ∧ ∀ j, j < 9 → X j = actY (actOf X) j := by
  have u8 : ∀ j, actKs[j]? = some (some .u8) → X j = .int .u8 ((intOf (X j)).toNat : Int) ∧ (intOf (X j)).toNat ≤ 255 := fun j hj => by
    obtain ⟨e, hw⟩ := (h j _ hj).int
    have := wf_u8 hw
    exact ⟨by rw [Int.toNat_of_nonneg this.1]; exact e, by omega⟩
  have h6 : X 6 = .int .u16 ((intOf (X 6)).toNat : Int) ∧ (intOf (X 6)).toNat ≤ 65535 := by
    obtain ⟨e, hw⟩ := (h 6 (some .u16) rfl).int
    have := wf_u16 hw
    exact ⟨by rw [Int.toNat_of_nonneg this.1]; exact e, by omega⟩
  refine ⟨⟨(u8 0 rfl).2, (u8 2 rfl).2, (u8 3 rfl).2, (u8 4 rfl).2, (u8 5 rfl).2, h6.2, (u8 7 rfl).2, (u8 8 rfl).2⟩, fun j hj => ?_⟩
  rcases j with _|_|_|_|_|_|_|_|_|j
  · exact (u8 0 rfl).1
  · exact (h 1 none rfl).bool
  · exact (u8 2 rfl).1
  · exact (u8 3 rfl).1
  · exact (u8 4 rfl).1
  · exact (u8 5 rfl).1
  · exact h6.1
  · exact (u8 7 rfl).1
  · exact (u8 8 rfl).1
  omega
section
variable {H : Type} {enc : TypeId × Value → H} {P : Program} {w : World}
theorem open_acts {t e : TypeId} {a : Option Addr} {len cap D : Nat} {d : DataW H} {ps : List MemPlace} (ht : P.underlying t = some (.slice e)) (hk : flatKb P D e = some actKs) (ce : P.cellsOf e = 9)
    (h : DataW.Trod enc P w 0 (fun _ => true) true t (.slice a len cap) d ps) : ∃ xa : Nat → ActM, (∀ i, i < len → ActOk (xa i)) ∧ Fx.Arr w a len 9 (Fx.flat 9 fun k => actY (xa k)) := by
  obtain ⟨fuel, hf⟩ := h
  obtain ⟨a', l', c', hcs, _, _, X, hX, hA⟩ := open_rows ht hk ce (by decide) hf
  simp [Value.cells] at hcs
  obtain ⟨rfl, rfl, rfl⟩ := hcs
  exact ⟨fun i => actOf (X i), fun i hi => (actOf_ok (hX i hi)).1, hA.congr (Fx.flat_cong fun k hk j hj => (actOf_ok (hX k hk)).2 j hj)⟩
end
end Go.Proofs.Ytleajegppehbdaa
