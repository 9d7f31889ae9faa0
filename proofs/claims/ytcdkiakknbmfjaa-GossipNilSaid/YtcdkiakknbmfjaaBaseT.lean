/-
  Regions that draw their order, whose stores come after all their loads: S holds until the first operation of T.
-/
import Derived.Test.YtcdkiakknbmfjaaBase
namespace Go.Proofs.Ytcdkiakknbmfjaa
open Go.RowKit
def Clo (ops : Array Oper) (md : Region.Mode) (l : Array Bool) : Prop := ∀ j o, ops[j]? = some o → l.getD j false = true → ∀ e ∈ o.after, Region.binds md e = true → l.getD e.on false = true
def begun (T : List Nat) (l : Array Bool) : Bool := T.any fun t => l.getD t false
def reach (ops : Array Oper) (md : Region.Mode) : Nat → Nat → Nat → Bool
  | 0, t, i => t == i
  | n + 1, t, i => t == i || (match ops[t]? with | some o => o.after.any (fun e => Region.binds md e && reach ops md n e.on i) | none => false)
def depAll (ops : Array Oper) (md : Region.Mode) (T : List Nat) (i : Nat) : Bool := T.all fun t => reach ops md 5 t i
theorem getD_setIf_false (l : Array Bool) (i j : Nat) : (l.setIfInBounds i true).getD j false = (if i = j ∧ j < l.size then true else l.getD j false) := by
  simp only [Array.getD_eq_getD_getElem?, Array.getElem?_setIfInBounds]
  by_cases h : i = j
  · subst h
    by_cases h2 : i < l.size
    · simp [h2]
    · simp [h2, Array.getElem?_eq_none (Nat.le_of_not_lt h2)]
  · simp [h]
theorem Clo.set {ops : Array Oper} {md : Region.Mode} {l : Array Bool} (h : Clo ops md l) {i : Nat} (hi : i ∈ Region.ready md ops l) : Clo ops md (l.setIfInBounds i true) := by
  obtain ⟨_, o', ho', hall⟩ := mem_ready.1 hi
  intro j o ho hj e he hb
  rw [getD_setIf_false]
  split
  · rfl
  · rw [getD_setIf_false] at hj
    split at hj
    · rename_i hij
      obtain ⟨rfl, _⟩ := hij
      rw [ho'] at ho
      obtain rfl := Option.some.inj ho
      exact hall e he hb
    · exact h j o ho hj e he hb
theorem Clo.start (ops : Array Oper) (md : Region.Mode) (n : Nat) : Clo ops md (Array.replicate n false) := by
  intro j o _ hj
  rw [Array.getD_eq_getD_getElem?] at hj
  by_cases h : j < n
  · simp [h] at hj
  · simp [h] at hj
theorem Clo.reach {ops : Array Oper} {md : Region.Mode} {l : Array Bool} {i : Nat} (h : Clo ops md l) : ∀ n t, reach ops md n t i = true → l.getD t false = true → l.getD i false = true
  | 0, t, hr, ht => by
    have e : t = i := by unfold Ytcdkiakknbmfjaa.reach at hr; simpa using hr
    rw [← e]; exact ht
  | n + 1, t, hr, ht => by
    unfold Ytcdkiakknbmfjaa.reach at hr
    rw [Bool.or_eq_true] at hr
    rcases hr with hr | hr
    · have e : t = i := by simpa using hr
      rw [← e]; exact ht
    · cases ho : ops[t]? with
      | none => simp [ho] at hr
      | some o =>
        simp only [ho] at hr
        rw [Array.any_eq_true'] at hr
        obtain ⟨e, he, h2⟩ := hr
        rw [Bool.and_eq_true] at h2
        exact Clo.reach h n e.on h2.2 (h t o ho ht e he h2.1)
theorem Clo.begun {ops : Array Oper} {md : Region.Mode} {T : List Nat} {l : Array Bool} {i : Nat} (h : Clo ops md l) (hd : depAll ops md T i = true) (hi : l.getD i false = false) : begun T l = false := by
  unfold Ytcdkiakknbmfjaa.begun
  rw [List.any_eq_false]
  intro t ht hb
  have := h.reach _ t (List.all_eq_true.1 hd t ht) hb
  rw [hi] at this
  cases this
section
variable {P : Program} {ops : Array Oper} {Q : Exit → Act → World → Prop} {md : Region.Mode} {S : Bool → World → Prop} {T : List Nat}
def wpAnyT (P : Program) (md : Region.Mode) (ops : Array Oper) (Q : Exit → Act → World → Prop) (T : List Nat) (S : Bool → World → Prop) : Nat → Array Bool → Act → World → Prop
  | 0, listed, a, w => Region.ready md ops listed = [] ∧ Q .normal a w
  | fuel + 1, listed, a, w =>
    (Region.ready md ops listed = [] → Q .normal a w) ∧
    ∀ i ∈ Region.ready md ops listed, wpOp P ops Q i (fun a' w' => S (begun T (listed.setIfInBounds i true)) w' ∧ wpAnyT P md ops Q T S fuel (listed.setIfInBounds i true) a' w') a w
theorem wpAny_of_T : ∀ (fuel : Nat) (listed : Array Bool) (a : Act) (w : World), wpAnyT P md ops Q T S fuel listed a w → wpAny P md ops Q fuel listed a w
  | 0, _, _, _, h => h
  | fuel + 1, _, _, _, h => ⟨h.1, fun i hi => wpOp_mono (fun a' w' h' => wpAny_of_T fuel _ a' w' h'.2) (h.2 i hi)⟩
theorem unl {i : Nat} {listed : Array Bool} (h : i ∈ Region.ready md ops listed) : listed.getD i false = false := by
  have := (mem_ready.1 h).1
  rw [Array.getD_eq_getD_getElem?] at this ⊢
  cases h2 : listed[i]? with
  | none => rfl
  | some b => rw [h2] at this; simpa using this
theorem begun_set {l : Array Bool} {i : Nat} (hi : T.contains i = false) : begun T (l.setIfInBounds i true) = begun T l := by
  unfold begun
  rw [Bool.eq_iff_iff, List.any_eq_true, List.any_eq_true]
  constructor
  · rintro ⟨t, ht, h⟩
    refine ⟨t, ht, ?_⟩
    rw [getD_setIf_false, if_neg] at h
    · exact h
    · rintro ⟨rfl, _⟩; simp [ht] at hi
  · rintro ⟨t, ht, h⟩
    refine ⟨t, ht, ?_⟩
    rw [getD_setIf_false]; split <;> first | rfl | exact h
/-- what i yields hangs on the world only as far as S says at all times, or every t of T waits for i -/
theorem wpAnyT_first {i : Nat} {oi : Oper} {v : Value} {S0 : World → Prop} (hi : ops[i]? = some oi) (hsel : ∀ (j : Nat) (o : Oper) cs b, ops[j]? = some o → o.op ≠ .select cs b)
    (hQ : ∀ c a w, Q (.panic c) (a.put oi.dst v) w → Q (.panic c) a w) (hT : T.contains i = false)
    (hd : (∀ b w, S b w → S0 w) ∨ ((∀ w, S false w → S0 w) ∧ depAll ops md T i = true)) :
    ∀ (fuel : Nat) (listed : Array Bool) (a : Act) (w : World), Clo ops md listed →
      (∀ j oj, ops[j]? = some oj → j ≠ i → listed.getD j true = false → (∀ e ∈ oj.after, Region.binds md e = true → e.on ≠ i) → oi.apart ops oj = true) →
      i ∈ Region.ready md ops listed → YieldsIf P ops S0 oi v a → S (begun T listed) w →
      wpAnyT P md ops Q T S fuel (listed.setIfInBounds i true) (a.put oi.dst v) w → wpAnyT P md ops Q T S (fuel + 1) listed a w := by
  have hS0 : ∀ (l : Array Bool) (w : World), Clo ops md l → i ∈ Region.ready md ops l → S (begun T l) w → S0 w := fun l w hC hr hS => by
    rcases hd with h | ⟨h1, h⟩
    · exact h _ w hS
    · rw [hC.begun h (unl hr)] at hS; exact h1 w hS
  intro fuel
  induction fuel with
  | zero =>
    intro listed a w hC _ hr hy hS H
    refine ⟨fun h => (by rw [h] at hr; cases hr), fun j hj => ?_⟩
    by_cases hji : j = i
    · subst hji; exact hy.wpOp hi (hS0 _ _ hC hr hS) ⟨by rw [begun_set hT]; exact hS, H⟩
    · have := ready_mono hj hji
      rw [H.1] at this
      cases this
  | succ fuel ih =>
    intro listed a w hC hfree hr hy hS H
    refine ⟨fun h => (by rw [h] at hr; cases hr), fun j hj => ?_⟩
    by_cases hji : j = i
    · subst hji; exact hy.wpOp hi (hS0 _ _ hC hr hS) ⟨by rw [begun_set hT]; exact hS, H⟩
    · have h1 := H.2 j (ready_mono hj hji)
      obtain ⟨hjun, oj, hoj, hall⟩ := mem_ready.1 hj
      have hnot : ∀ e ∈ oj.after, Region.binds md e = true → e.on ≠ i := fun e he hb heq => by
        have h1 := hall e he hb
        rw [heq, unl hr] at h1
        cases h1
      have h2 := wpOp_putIf hoj (hfree j oj hoj hji hjun hnot) (fun cs b => hsel i oi cs b hi) (fun cs b => hsel j oj cs b hoj) hQ hy h1
      have hfree' : ∀ k ok, ops[k]? = some ok → k ≠ i → (listed.setIfInBounds j true).getD k true = false →
          (∀ e ∈ ok.after, Region.binds md e = true → e.on ≠ i) → oi.apart ops ok = true := fun k ok hk hki hun hno => by
        refine hfree k ok hk hki ?_ hno
        by_cases hjk : j = k
        · subst hjk; exact hjun
        · rw [getD_set_ne true hjk] at hun; exact hun
      refine wpOp_mono (fun a' w' h3 => ?_) h2
      have hs : S (begun T (listed.setIfInBounds j true)) w' := by
        have := h3.2.1
        rw [Array.setIfInBounds_comm _ _ (Ne.symm hji), begun_set hT] at this
        exact this
      refine ⟨hs, ih (listed.setIfInBounds j true) a' w' (hC.set hj) hfree' (ready_mono hr (Ne.symm hji)) h3.1 hs ?_⟩
      rw [Array.setIfInBounds_comm _ _ hji]
      exact h3.2.2
/-- a load, under S as long as no operation of T has come up -/
theorem wpAnyT_load {i : Nat} {oi : Oper} {d : Option Tmp} {v : Value} {b : Bool} {fuel : Nat} {listed : Array Bool} {a : Act} {w : World} (hi : ops[i]? = some oi) (hd : oi.dst = d)
    (hs : Region.noSelect ops = true) (hf : Region.free md ops listed i = true) (hr : (Region.ready md ops listed).contains i = true) (hT : T.contains i = false) (hb : begun T listed = b) (hw : depAll ops md T i = true)
    (hC : Clo ops md listed) (hQ : ∀ c a w, Q (.panic c) (a.put d v) w → Q (.panic c) a w) (hy : YieldsIf P ops (S false) oi v a) (hS : S b w)
    (h : Clo ops md (listed.setIfInBounds i true) → wpAnyT P md ops Q T S fuel (listed.setIfInBounds i true) (a.put d v) w) : wpAnyT P md ops Q T S (fuel + 1) listed a w := by
  subst hd hb
  have hr' : i ∈ Region.ready md ops listed := by simpa using hr
  exact wpAnyT_first hi (Region.noSelect_spec hs) hQ hT (.inr ⟨fun _ h => h, hw⟩) fuel listed a w hC (Region.free_spec hi hf) hr' hy hS (h (hC.set hr'))
/-- a load, under S at whatever time -/
theorem wpAnyT_ever {i : Nat} {oi : Oper} {d : Option Tmp} {v : Value} {b : Bool} {fuel : Nat} {listed : Array Bool} {a : Act} {w : World} (hi : ops[i]? = some oi) (hd : oi.dst = d)
    (hs : Region.noSelect ops = true) (hf : Region.free md ops listed i = true) (hr : (Region.ready md ops listed).contains i = true) (hT : T.contains i = false) (hb : begun T listed = b)
    (hC : Clo ops md listed) (hQ : ∀ c a w, Q (.panic c) (a.put d v) w → Q (.panic c) a w) (hy : YieldsIf P ops (fun w => ∃ b, S b w) oi v a) (hS : S b w)
    (h : Clo ops md (listed.setIfInBounds i true) → wpAnyT P md ops Q T S fuel (listed.setIfInBounds i true) (a.put d v) w) : wpAnyT P md ops Q T S (fuel + 1) listed a w := by
  subst hd hb
  have hr' : i ∈ Region.ready md ops listed := by simpa using hr
  exact wpAnyT_first hi (Region.noSelect_spec hs) hQ hT (.inl fun b _ h => ⟨b, h⟩) fuel listed a w hC (Region.free_spec hi hf) hr' hy hS (h (hC.set hr'))
/-- what yields its value in whatever world -/
theorem wpAnyT_pure {i : Nat} {oi : Oper} {d : Option Tmp} {v : Value} {b : Bool} {fuel : Nat} {listed : Array Bool} {a : Act} {w : World} (hi : ops[i]? = some oi) (hd : oi.dst = d)
    (hs : Region.noSelect ops = true) (hf : Region.free md ops listed i = true) (hr : (Region.ready md ops listed).contains i = true) (hT : T.contains i = false) (hb : begun T listed = b)
    (hC : Clo ops md listed) (hQ : ∀ c a w, Q (.panic c) (a.put d v) w → Q (.panic c) a w) (hy : YieldsIf P ops (fun _ => True) oi v a) (hS : S b w)
    (h : Clo ops md (listed.setIfInBounds i true) → wpAnyT P md ops Q T S fuel (listed.setIfInBounds i true) (a.put d v) w) : wpAnyT P md ops Q T S (fuel + 1) listed a w := by
  subst hd hb
  have hr' : i ∈ Region.ready md ops listed := by simpa using hr
  exact wpAnyT_first hi (Region.noSelect_spec hs) hQ hT (.inl fun _ _ _ => trivial) fuel listed a w hC (Region.free_spec hi hf) hr' hy hS (h (hC.set hr'))
/-- the only operation that may come up -/
theorem wpAnyT_one {i : Nat} {o : Oper} {b : Bool} {fuel : Nat} {listed : Array Bool} {a : Act} {w : World} (hr : Region.ready md ops listed = [i]) (hb : begun T (listed.setIfInBounds i true) = b) (ho : ops[i]? = some o) (hg : o.guard = none)
    (hC : Clo ops md listed) (h : ∀ K : Act → World → Prop, (∀ a' w', (S b w' ∧ (Clo ops md (listed.setIfInBounds i true) → wpAnyT P md ops Q T S fuel (listed.setIfInBounds i true) a' w')) → K a' w') → o.wp P a w K Q) : wpAnyT P md ops Q T S (fuel + 1) listed a w := by
  subst hb
  refine ⟨fun h0 => (by rw [h0] at hr; cases hr), fun j hj => ?_⟩
  rw [hr] at hj
  obtain rfl : j = i := by simpa using hj
  have hc := hC.set (i := j) (by rw [hr]; simp)
  exact wpOp_plain ho hg fun K hK => h K fun a' w' h' => hK a' w' ⟨h'.1, h'.2 hc⟩
theorem wpAnyT_done {listed : Array Bool} {a : Act} {w : World} (hr : Region.ready md ops listed = []) (h : Q .normal a w) : ∀ fuel, wpAnyT P md ops Q T S fuel listed a w
  | 0 => ⟨hr, h⟩
  | _ + 1 => ⟨fun _ => h, by rw [hr]; simp⟩
theorem wp_region_T {id : Nat} {a : Act} {w : World} (T : List Nat) (S : Bool → World → Prop) (hm : P.follows .mixedOrders = true)
    (h : Clo ops .any (Array.replicate ops.size false) → wpAnyT P .any ops (NoPanic Q) T S ops.size (Array.replicate ops.size false) a w.drew) : (Code.region id ops true).wp P Q a w :=
  wp_region_noPanic (wp_region_any hm (wpAny_of_T _ _ _ _ (h (Clo.start _ _ _))))
end
theorem wp_store_cell {P : Program} {op : Oper} {a : Act} {w : World} {K : Act → World → Prop} {Q : Exit → Act → World → Prop} (ty : TypeId) (x y : Operand) (ho : op.op = .store ty x y) (hd : op.dst = none)
    (g o : Nat) (v old : Value) (hx : a.eval x = .pointer (some ⟨g, o, none⟩)) (hy : a.eval y = v) (hi : (P.info? ty).map (·.size) = some 1) (h1 : v.oneCell' = true) (hc : w.cell? ⟨g, o, none⟩ = some old) (hf : w.frozen? ⟨g, o, none⟩ = false)
    (h : K a (w.setCell ⟨g, o, none⟩ v)) : op.wp P a w K Q :=
  wp_store_one ty x y ho g o v old hx hy hi h1 hc hf (by rw [hd]; exact h)
/-- a row into a new block -/
theorem wpList_store_new {P : Program} {ops : Array Oper} {rest : List Oper} {o : Oper} {a : Act} {w : World} {Q : Exit → Act → World → Prop} {old : Array Value} {t : TypeId} (hgd : o.guard = none) (ty : TypeId) (x y : Operand) (ho : o.op = .store ty x y)
    (cells : Array Value) (hx : a.eval x = .pointer (some ⟨w.heap.size, 0, none⟩)) (hy : a.eval y = .agg cells) (hi : (P.info? ty).map (·.size) = some cells.size) (hold : old.size = cells.size) (h1 : cells.all (·.oneCell') = true)
    (h : ∀ w', w'.heap[w.heap.size]? = some (.cells cells t (0, 0)) → Below w.heap.size w w' → wpList P ops Q rest (a.put o.dst undef) w') : wpList P ops Q (o :: rest) a (w.alloc (.cells old t)) :=
  wpList_store_row hgd ty x y ho w.heap.size cells hx hy t old (heap_alloc_new w _) hi hold h1 (h _ (setRow_heap _ _ _ _ _ _ (heap_alloc_new w _)) (brow ((Below.refl _ _).alloc (Nat.le_refl _) _) (Nat.le_refl _)))
/-- a row that was there before -/
theorem row_kept {w w' : World} {g : Nat} {c : Obj} (h : w.heap[g]? = some c) (hb : Below w.heap.size w w') : w'.heap[g]? = some c :=
  (hb.block g (Array.getElem?_eq_some_iff.1 h).1).trans h
end Go.Proofs.Ytcdkiakknbmfjaa
