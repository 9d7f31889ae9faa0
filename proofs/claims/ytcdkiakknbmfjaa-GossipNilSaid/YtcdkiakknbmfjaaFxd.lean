/-
  Regions that draw their order, by facts: operations that only read or call, and a chain of effects; one obligation an operation.
-/
import Derived.Test.YtcdkiakknbmfjaaFxe
import Derived.Test.YtcdkiakknbmfjaaBaseT
namespace Go.Proofs.Ytcdkiakknbmfjaa
open Go.RowKit
namespace Fx
abbrev Gh := Nat → Nat × Nat
def updr (r : Gh) (k : Nat) (p : Nat × Nat) : Gh := fun j => bif Nat.beq j k then p else r j
theorem updr_same (r : Gh) (k : Nat) (p : Nat × Nat) : updr r k p k = p := by unfold updr; rw [Nat.beq_refl]; rfl
theorem updr_ne {r : Gh} {k j : Nat} {p : Nat × Nat} (h : j < k) : updr r k p j = r j := by
  unfold updr
  have : Nat.beq j k = false := by
    cases hq : Nat.beq j k
    · rfl
    · exact absurd (Nat.eq_of_beq_eq_true hq) (by omega)
  rw [this]; rfl
def opAt (ops : List Oper) (i : Nat) : Oper := ops.getD i default
def dstIs (s : Nat) : Option Nat → Bool | none => false | some d => Nat.beq d s
def writerFrom (s : Nat) : List Oper → Nat → Option Nat
  | [], _ => none
  | o :: l, i => bif dstIs s o.dst then some i else writerFrom s l (i + 1)
def writer (ops : List Oper) (s : Nat) : Option Nat := writerFrom s ops 0
def over (ops : List Oper) (f : Nat → Value) (v : Nat → Value) (listed : Array Bool) : Nat → Value := fun s => match writer ops s with | some i => (if listed.getD i false then v i else f s) | none => f s
def full (ops : List Oper) (f : Nat → Value) (v : Nat → Value) : Nat → Value := fun s => match writer ops s with | some i => v i | none => f s
def isAfter (o : Oper) (j : Nat) : Bool := o.after.any fun e => Region.binds .any e && Nat.beq e.on j
def opsOk (n : Nat) (ops : List Oper) : Bool :=
  (List.range ops.length).all fun i =>
    let o := opAt ops i
    (match o.dst with | none => true | some d => (match writer ops d with | some j => Nat.beq j i | none => false) && Nat.blt d n) &&
    (o.op.operands.all fun x => match x with | .tmp t => (match writer ops t with | some j => isAfter o j | none => true) | _ => true) &&
    (match o.guard with | none => true | some (j, _) => isAfter o j) && (o.after.all fun e => !Region.binds .any e || Nat.blt e.on i)
theorem writerFrom_spec {s : Nat} : ∀ {l : List Oper} {k i : Nat}, writerFrom s l k = some i → k ≤ i ∧ (opAt l (i - k)).dst = some s ∧ i - k < l.length
  | [], _, _, h => by cases h
  | o :: l, k, i, h => by
    unfold writerFrom at h
    cases hd : dstIs s o.dst
    · rw [hd] at h
      have := writerFrom_spec (l := l) (k := k + 1) (i := i) h
      refine ⟨by omega, ?_, by simp; omega⟩
      have e : i - k = (i - (k + 1)) + 1 := by omega
      rw [e]
      exact this.2.1
    · rw [hd] at h
      have : k = i := by simpa using h
      subst this
      refine ⟨Nat.le_refl _, ?_, by simp⟩
      simp only [Nat.sub_self, opAt, List.getD_cons_zero]
      cases hq : o.dst with
      | none => rw [hq] at hd; cases hd
      | some d => rw [hq] at hd; rw [Nat.eq_of_beq_eq_true hd]
theorem writer_spec {ops : List Oper} {s i : Nat} (h : writer ops s = some i) : (opAt ops i).dst = some s ∧ i < ops.length := by
  have := writerFrom_spec h; simpa using this.2
section
variable {ops : List Oper} {f : Nat → Value} {n : Nat}
theorem opsOk_at (h : opsOk n ops = true) {i : Nat} (hi : i < ops.length) :
    (∀ d, (opAt ops i).dst = some d → writer ops d = some i ∧ d < n) ∧ (∀ t j, .tmp t ∈ (opAt ops i).op.operands → writer ops t = some j → isAfter (opAt ops i) j = true) ∧ (∀ j b, (opAt ops i).guard = some (j, b) → isAfter (opAt ops i) j = true) ∧ (∀ j, isAfter (opAt ops i) j = true → j < i) := by
  unfold opsOk at h
  rw [List.all_eq_true] at h
  have := h i (by simpa using hi)
  simp only [Bool.and_eq_true] at this
  obtain ⟨⟨⟨h1, h2⟩, h3⟩, h4⟩ := this
  refine ⟨fun d hd => ?_, fun t j ht hj => ?_, fun j b hg => ?_, fun j hj => ?_⟩
  · rw [hd] at h1
    simp only [Bool.and_eq_true] at h1
    cases hw : writer ops d with
    | none => rw [hw] at h1; simp at h1
    | some j => rw [hw] at h1; simp only at h1; rw [Nat.eq_of_beq_eq_true h1.1]; exact ⟨rfl, by simpa [Nat.blt_eq] using h1.2⟩
  · rw [Array.all_eq_true'] at h2
    have := h2 _ ht
    simp only [hj] at this
    exact this
  · rw [hg] at h3; exact h3
  · unfold isAfter at hj
    rw [Array.any_eq_true'] at hj
    obtain ⟨e, he, h5⟩ := hj
    rw [Bool.and_eq_true] at h5
    rw [Array.all_eq_true'] at h4
    have := h4 e he
    rw [h5.1] at this
    rw [← Nat.eq_of_beq_eq_true h5.2]
    simpa [Nat.blt_eq] using this
theorem set_self {listed : Array Bool} {i : Nat} (h : i < listed.size) : (listed.setIfInBounds i true).getD i false = true := by rw [getD_setIf_false, if_pos ⟨rfl, h⟩]
theorem set_other {listed : Array Bool} {i j : Nat} (h : i ≠ j) : (listed.setIfInBounds i true).getD j false = listed.getD j false := by rw [getD_setIf_false, if_neg (fun q => h q.1)]
theorem over_set (h : opsOk n ops = true) {v : Nat → Value} {listed : Array Bool} (hs : listed.size = ops.length) {i : Nat} (hi : i < ops.length) : put (over ops f v listed) (opAt ops i).dst (v i) = over ops f v (listed.setIfInBounds i true) := by
  have hsp := (opsOk_at h hi).1
  funext s
  unfold over
  cases hd : (opAt ops i).dst with
  | none =>
    simp only [put]
    cases hw : writer ops s with
    | none => rfl
    | some j =>
      simp only
      by_cases e : i = j
      · subst e; rw [(writer_spec hw).1] at hd; cases hd
      · rw [set_other e]
  | some d =>
    simp only [put]
    by_cases e : s = d
    · subst e
      rw [Nat.beq_refl, (hsp s hd).1]
      simp only [cond_true]
      rw [set_self (by omega), if_pos rfl]
    · have hb : Nat.beq s d = false := by
        cases hq : Nat.beq s d
        · rfl
        · exact absurd (Nat.eq_of_beq_eq_true hq) e
      rw [hb]
      simp only [cond_false]
      cases hw : writer ops s with
      | none => rfl
      | some j =>
        simp only
        by_cases e2 : i = j
        · subst e2; rw [(writer_spec hw).1] at hd; exact absurd (Option.some.inj hd) e
        · rw [set_other e2]
theorem ready_after {i : Nat} {listed : Array Bool} (hr : i ∈ Region.ready .any ops.toArray listed) : listed.getD i false = false ∧ i < ops.length ∧ ops.toArray[i]? = some (opAt ops i) ∧ ∀ j, isAfter (opAt ops i) j = true → listed.getD j false = true := by
  obtain ⟨h1, o, ho, hall⟩ := mem_ready.1 hr
  have hi : i < ops.length := by
    have := (Array.getElem?_eq_some_iff.1 ho).1; simpa using this
  have he : opAt ops i = o := by
    unfold opAt
    rw [List.getElem?_toArray] at ho
    rw [List.getD_eq_getElem?_getD, ho]; rfl
  refine ⟨getD_both h1, hi, by rw [he]; exact ho, fun j hj => ?_⟩
  rw [he] at hj
  unfold isAfter at hj
  rw [Array.any_eq_true'] at hj
  obtain ⟨e, hem, h2⟩ := hj
  rw [Bool.and_eq_true] at h2
  rw [← Nat.eq_of_beq_eq_true h2.2]
  exact hall e hem h2.1
theorem over_ev (h : opsOk n ops = true) {v : Nat → Value} {listed : Array Bool} {i : Nat} (hr : i ∈ Region.ready .any ops.toArray listed) : ∀ x ∈ (opAt ops i).op.operands, ev (over ops f v listed) x = ev (full ops f v) x := by
  obtain ⟨_, hi, _, hall⟩ := ready_after hr
  intro x hx
  cases x with
  | tmp t =>
    show over ops f v listed t = full ops f v t
    unfold over full
    cases hw : writer ops t with
    | none => rfl
    | some j => simp only; rw [if_pos (hall j ((opsOk_at h hi).2.1 t j hx hw))]
  | _ => rfl
theorem over_wanted (h : opsOk n ops = true) {v : Nat → Value} {listed : Array Bool} {i : Nat} (hr : i ∈ Region.ready .any ops.toArray listed) : Region.wanted (opAt ops i) (yf ops.toArray (over ops f v listed)) = Region.wanted (opAt ops i) (yf ops.toArray (full ops f v)) := by
  obtain ⟨_, hi, _, hall⟩ := ready_after hr
  unfold Region.wanted
  cases hg : (opAt ops i).guard with
  | none => rfl
  | some jb =>
    obtain ⟨j, b⟩ := jb
    simp only
    have hl := hall j ((opsOk_at h hi).2.2.1 j b hg)
    congr 1
    unfold yf
    cases hd : (ops.toArray[j]?).bind (·.dst) with
    | none => rfl
    | some d =>
      simp only
      have hj : j < ops.length := by
        cases hq : ops.toArray[j]? with
        | none => rw [hq] at hd; cases hd
        | some o => have := (Array.getElem?_eq_some_iff.1 hq).1; simpa using this
      have hdd : (opAt ops j).dst = some d := by
        unfold opAt
        rw [List.getElem?_toArray] at hd
        rw [List.getD_eq_getElem?_getD]
        cases hq : ops[j]? with
        | none => rw [hq] at hd; cases hd
        | some o => rw [hq] at hd; exact hd
      have hw := ((opsOk_at h hj).1 d hdd).1
      have e : over ops f v listed d = full ops f v d := by unfold over full; rw [hw]; simp only; rw [if_pos hl]
      rw [e]
end
/-- a way along what operations wait for, from t to i -/
def pathB (ops : List Oper) : Nat → List Nat → Nat → Bool
  | t, [], i => Nat.beq t i
  | t, j :: l, i => isAfter (opAt ops t) j && pathB ops j l i
theorem pathB_reach {ops : List Oper} : ∀ {p : List Nat} {t i : Nat}, pathB ops t p i = true → ∃ m, reach ops.toArray .any m t i = true
  | [], t, i, h => ⟨0, by unfold reach; rw [Nat.eq_of_beq_eq_true h]; simp⟩
  | j :: l, t, i, h => by
    unfold pathB at h
    rw [Bool.and_eq_true] at h
    obtain ⟨m, hm⟩ := pathB_reach h.2
    refine ⟨m + 1, ?_⟩
    unfold reach
    rw [Bool.or_eq_true]
    right
    have h1 := h.1
    unfold isAfter at h1
    rw [Array.any_eq_true'] at h1
    obtain ⟨e, he, h2⟩ := h1
    rw [Bool.and_eq_true] at h2
    have ho : ops.toArray[t]? = some (opAt ops t) := by
      unfold opAt at he ⊢
      rw [List.getElem?_toArray, List.getD_eq_getElem?_getD]
      cases hq : ops[t]? with
      | none =>
        rw [List.getD_eq_getElem?_getD, hq] at he
        exact absurd he (by simp [show (default : Oper).after = #[] from rfl])
      | some o => rfl
    rw [ho]
    simp only
    rw [Array.any_eq_true']
    exact ⟨e, he, by rw [h2.1, Nat.eq_of_beq_eq_true h2.2, hm]; rfl⟩
/-- the effects' places in the chain: es; what an operation waits for, and what waits for it -/
abbrev Span := Nat × Nat × List Nat × List Nat
def noSpan : Span := (0, 0, [], [])
def loOk (ops : List Oper) (es : List Nat) (i lo : Nat) (p : List Nat) : Bool := match lo with | 0 => true | k + 1 => (match es[k]? with | some e => pathB ops i p e | none => false)
def hiOk (ops : List Oper) (es : List Nat) (i hi : Nat) (p : List Nat) : Bool := match es[hi]? with | some e => pathB ops e p i | none => true
def chainOk (ops : List Oper) : List Nat → Bool
  | [] => true
  | [_] => true
  | a :: b :: l => reach ops.toArray .any 5 b a && !Nat.beq b a && chainOk ops (b :: l)
/-- where an operation may stand: (lo, hi) -/
def spanOk (ops : List Oper) (es : List Nat) (sp : List Span) : Bool := Nat.beq sp.length ops.length && (List.range ops.length).all fun i => es.contains i || (loOk ops es i (sp.getD i noSpan).1 (sp.getD i noSpan).2.2.1 && hiOk ops es i (sp.getD i noSpan).2.1 (sp.getD i noSpan).2.2.2)
section
variable {P : Program} {n : Nat} {Q : Post} {f : Nat → Value} {w : World} {ops : List Oper}
/-- what is owed of an operation that is no effect -/
def QOk (P : Program) (ops : List Oper) (f : Nat → Value) (vals : Gh → Nat → Value) (S : Nat → Gh → World → Prop) (i lo hi : Nat) : Prop :=
  ∀ r k w, lo ≤ k → k ≤ hi → S k r w → if Region.wanted (opAt ops i) (yf ops.toArray (full ops f (vals r))) then Oper.quietUpon P (S k r) w (vals r i) ((execOp (ev (full ops f (vals r))) (opAt ops i)).run P w) else vals r i = undef
def EOk (P : Program) (ops : List Oper) (f : Nat → Value) (vals : Gh → Nat → Value) (S : Nat → Gh → World → Prop) (Q' : Exit → Act → World → Prop) (i k : Nat) : Prop :=
  ∀ r w (a : Act) (K : Act → World → Prop), S k r w → (∀ x ∈ (opAt ops i).op.operands, a.eval x = ev (full ops f (vals r)) x) → (∀ p w', S (k + 1) (updr r k p) w' → K (a.put (opAt ops i).dst (vals (updr r k p) i)) w') → (opAt ops i).wp P a w K Q'
def DOk (vals : Gh → Nat → Value) (i d : Nat) : Prop := ∀ k r p, d ≤ k → vals (updr r k p) i = vals r i
def pos? (es : List Nat) (i : Nat) : Option Nat := es.idxOf? i
theorem chain_prefix {es : List Nat} {listed : Array Bool} (hc : Clo ops.toArray .any listed) : ∀ {l : List Nat}, chainOk ops l = true → ∀ k e e', l[k]? = some e' → l[k + 1]? = some e → listed.getD e false = true → listed.getD e' false = true
  | [], _, k, e, e', h, _, _ => by simp at h
  | [_], _, k, e, e', _, h2, _ => by cases k <;> simp at h2
  | a :: b :: l, hk, 0, e, e', h1, h2, hl => by
    simp at h1 h2; subst h1 h2
    unfold chainOk at hk; simp only [Bool.and_eq_true] at hk
    exact hc.reach _ _ hk.1.1 hl
  | a :: b :: l, hk, k + 1, e, e', h1, h2, hl => by
    unfold chainOk at hk; simp only [Bool.and_eq_true] at hk
    exact chain_prefix (es := es) hc (l := b :: l) hk.2 k e e' (by simpa using h1) (by simpa using h2) hl
theorem W.drawn {id : Nat} (es : List Nat) (sp : List Span) (vals : Gh → Nat → Value) (S : Nat → Gh → World → Prop) (hm : P.follows .mixedOrders = true) (hok : opsOk n ops = true) (hsel : Region.noSelect ops.toArray = true) (hch : chainOk ops es = true) (hsp : spanOk ops es sp = true)
    (hes : es.all (fun e => Nat.blt e ops.length && (match (opAt ops e).guard with | none => true | _ => false)) = true) (hnd : es.Nodup)
    (h0 : ∀ w1, Below w.heap.size w w1 → w1.heap.size = w.heap.size → ∃ r, S 0 r w1)
    (hq : ∀ i, i < ops.length → es.contains i = false → QOk P ops f vals S i (sp.getD i noSpan).1 (sp.getD i noSpan).2.1)
    (he : ∀ k i, es[k]? = some i → EOk P ops f vals S (lift n Q) i k)
    (hdq : ∀ i, i < ops.length → es.contains i = false → DOk vals i (sp.getD i noSpan).1)
    (hde : ∀ k i, es[k]? = some i → DOk vals i (k + 1))
    (h : ∀ r w', S es.length r w' → Q .normal (full ops f (vals r)) w') : W P n (.region id ops.toArray true) Q f w := fun a ha => by
  refine wp_region_any hm ?_
  have hspan : ∀ i, i < ops.length → es.contains i = false → loOk ops es i (sp.getD i noSpan).1 (sp.getD i noSpan).2.2.1 = true ∧ hiOk ops es i (sp.getD i noSpan).2.1 (sp.getD i noSpan).2.2.2 = true := fun i hi hne => by
    unfold spanOk at hsp
    rw [Bool.and_eq_true, List.all_eq_true] at hsp
    have := hsp.2 i (by simpa using hi)
    rw [hne, Bool.false_or, Bool.and_eq_true] at this
    exact this
  have hesl : ∀ k i, es[k]? = some i → i < ops.length ∧ (opAt ops i).guard = none := fun k i hk => by
    rw [List.all_eq_true] at hes
    have := hes i (List.mem_of_getElem? hk)
    rw [Bool.and_eq_true] at this
    refine ⟨by simpa [Nat.blt_eq] using this.1, ?_⟩
    cases hg : (opAt ops i).guard with
    | none => rfl
    | some _ => rw [hg] at this; exact absurd this.2 (by simp)
  -- the invariant
  have key : ∀ (fuel : Nat) (listed : Array Bool) (a : Act) (w1 : World) (r : Gh) (k : Nat), listed.size = ops.length → Clo ops.toArray .any listed → (∀ j e, es[j]? = some e → listed.getD e false = decide (j < k)) → k ≤ es.length → Fr a n (over ops f (vals r) listed) → S k r w1 →
      (∀ fl : List Nat, fl = (List.range ops.length).filter (fun i => !listed.getD i false) → fl.length = fuel) → wpAny P .any ops.toArray (lift n Q) fuel listed a w1 := by
    intro fuel
    induction fuel with
    | zero =>
      intro listed a w1 r k hsz hclo hpre hk ha hS hfl
      have hall : ∀ i, i < ops.length → listed.getD i false = true := fun i hi => by
        have h1 := List.eq_nil_of_length_eq_zero (hfl _ rfl)
        cases hq : listed.getD i false
        · have : i ∈ (List.range ops.length).filter (fun i => !listed.getD i false) := by simp only [List.mem_filter, List.mem_range]; exact ⟨hi, by rw [hq]; rfl⟩
          rw [h1] at this; cases this
        · rfl
      have hkk : k = es.length := by
        by_cases hlt : k < es.length
        · have := hpre k es[k] (List.getElem?_eq_getElem hlt)
          rw [hall _ (hesl k _ (List.getElem?_eq_getElem hlt)).1] at this
          simp at this
        · omega
      have hnone : Region.ready .any ops.toArray listed = [] := by
        cases hq : Region.ready .any ops.toArray listed with
        | nil => rfl
        | cons i l =>
          have hr : i ∈ Region.ready .any ops.toArray listed := by rw [hq]; exact List.mem_cons_self
          obtain ⟨h1, h2, _, _⟩ := ready_after hr
          rw [hall i h2] at h1; cases h1
      refine ⟨hnone, full ops f (vals r), ?_, h r w1 (hkk ▸ hS)⟩
      have : over ops f (vals r) listed = full ops f (vals r) := by
        funext s
        unfold over full
        cases hw : writer ops s with
        | none => rfl
        | some i => simp only; rw [if_pos (hall i (writer_spec hw).2)]
      exact this ▸ ha
    | succ fuel ih =>
      intro listed a w1 r k hsz hclo hpre hk ha hS hfl
      have hcount : ∀ i, i ∈ Region.ready .any ops.toArray listed → ∀ fl : List Nat, fl = (List.range ops.length).filter (fun j => !(listed.setIfInBounds i true).getD j false) → fl.length = fuel := by
        intro i hr fl hfl2
        obtain ⟨h1, h2, _, _⟩ := ready_after hr
        subst hfl2
        have e : (List.range ops.length).filter (fun j => !(listed.setIfInBounds i true).getD j false) = ((List.range ops.length).filter (fun i => !listed.getD i false)).erase i := by
          rw [List.Nodup.erase_eq_filter (List.Nodup.sublist List.filter_sublist List.nodup_range), List.filter_filter]
          apply List.filter_congr
          intro j hj
          by_cases e : i = j
          · subst e; rw [set_self (by rw [hsz]; exact h2)]; simp
          · rw [set_other e]
            have : (j != i) = true := by simp; exact fun q => e q.symm
            rw [this, Bool.true_and]
        rw [e, List.length_erase_of_mem (by simp only [List.mem_filter, List.mem_range]; exact ⟨h2, by rw [h1]; rfl⟩), hfl _ rfl]
        rfl
      refine ⟨fun hnone => ?_, fun i hr => ?_⟩
      · -- something must be ready: the first that is not listed
        exfalso
        have hlen := hfl _ rfl
        -- least unlisted index by position waits only for smaller ones?  not known: use that every unlisted op waits for an unlisted one is impossible when the region can be linearised
        exact (by
          have : ∃ i, i ∈ Region.ready .any ops.toArray listed := by
            obtain ⟨q, hq⟩ : ∃ q, q ∈ (List.range ops.length).filter (fun i => !listed.getD i false) := by
              cases hfe : (List.range ops.length).filter (fun i => !listed.getD i false) with
              | nil => rw [hfe] at hlen; cases hlen
              | cons q l => exact ⟨q, List.mem_cons_self⟩
            have hleast : ∀ m q, q ≤ m → q < ops.length → listed.getD q false = false → ∃ i, i < ops.length ∧ listed.getD i false = false ∧ ∀ j, j < i → listed.getD j false = true := by
              intro m
              induction m with
              | zero => intro q hm hq1 hq2; exact ⟨q, hq1, hq2, fun j hj => by omega⟩
              | succ m ihm =>
                intro q hm hq1 hq2
                by_cases hall : ∀ j, j < q → listed.getD j false = true
                · exact ⟨q, hq1, hq2, hall⟩
                · obtain ⟨j, hj⟩ := Classical.not_forall.1 hall
                  obtain ⟨hj1, hj2⟩ := Classical.not_imp.1 hj
                  exact ihm j (by omega) (by omega) (by simpa using hj2)
            simp only [List.mem_filter, List.mem_range] at hq
            obtain ⟨i, hi, hi1, hi2⟩ := hleast q q (Nat.le_refl _) hq.1 (by simpa using hq.2)
            refine ⟨i, mem_ready.2 ⟨getD_in (by rw [hsz]; exact hi) hi1, opAt ops i, ?_, fun e he hb => hi2 e.on ((opsOk_at hok hi).2.2.2 e.on ?_)⟩⟩
            · unfold opAt; rw [List.getElem?_toArray, List.getD_eq_getElem?_getD, List.getElem?_eq_getElem hi]; rfl
            · unfold isAfter; rw [Array.any_eq_true']; exact ⟨e, he, by rw [hb, Nat.beq_refl]; rfl⟩
          obtain ⟨i, hi⟩ := this
          rw [hnone] at hi; cases hi)
      · obtain ⟨h1, hi, hop, hall⟩ := ready_after hr
        have hsz' : (listed.setIfInBounds i true).size = ops.length := by simpa using hsz
        have hclo' := hclo.set hr
        have hev := over_ev (f := f) hok (v := vals r) hr
        have hae : ∀ x ∈ (opAt ops i).op.operands, a.eval x = ev (full ops f (vals r)) x := fun x hx => by rw [ha.ev]; exact hev x hx
        have hex : execOp a.eval (opAt ops i) = execOp (ev (full ops f (vals r))) (opAt ops i) := execOp_congr _ (Region.noSelect_spec hsel i _ · · hop) hae
        have hwant : Region.wanted (opAt ops i) (yielded ops.toArray a.tmps) = Region.wanted (opAt ops i) (yf ops.toArray (full ops f (vals r))) := by rw [ha.yf]; exact over_wanted hok hr
        unfold wpOp
        simp only [hop]
        rw [hwant]
        by_cases hne : es.contains i = true
        · -- an effect
          have hmem : i ∈ es := by simpa using hne
          obtain ⟨j, hj⟩ := List.getElem?_of_mem hmem
          have hg := (hesl j i hj).2
          have hjk : j = k := by
            have h3 := hpre j i hj
            rw [h1] at h3
            have h4 : ¬ j < k := by simpa using h3.symm
            by_cases hlt : k < j
            · -- the one ahead of it is listed
              exfalso
              obtain ⟨j', rfl⟩ : ∃ j', j = j' + 1 := ⟨j - 1, by omega⟩
              have hj' : j' < es.length := by have := (List.getElem?_eq_some_iff.1 hj).1; omega
              have hreach : ∀ {l : List Nat}, chainOk ops l = true → ∀ k e e', l[k]? = some e' → l[k + 1]? = some e → reach ops.toArray .any 5 e e' = true ∧ e ≠ e' := by
                intro l
                induction l with
                | nil => intro _ k e e' h _; simp at h
                | cons a l ih2 =>
                  intro hk k e e' h1 h2
                  cases l with
                  | nil => cases k <;> simp at h2
                  | cons b l =>
                    unfold chainOk at hk
                    simp only [Bool.and_eq_true] at hk
                    cases k with
                    | zero =>
                      simp at h1 h2; subst h1 h2
                      refine ⟨hk.1.1, fun e => ?_⟩
                      rw [e, Nat.beq_refl] at hk; exact absurd hk.1.2 (by simp)
                    | succ k => exact ih2 hk.2 k e e' (by simpa using h1) (by simpa using h2)
              obtain ⟨hr1, hne1⟩ := hreach hch j' i es[j'] (List.getElem?_eq_getElem hj') hj
              have hl : listed.getD es[j'] false = true := by
                unfold reach at hr1
                rw [Bool.or_eq_true] at hr1
                rcases hr1 with hr1 | hr1
                · exact absurd (by simpa using hr1) hne1
                · rw [hop] at hr1
                  simp only at hr1
                  rw [Array.any_eq_true'] at hr1
                  obtain ⟨e, he1, he2⟩ := hr1
                  rw [Bool.and_eq_true] at he2
                  refine hclo.reach _ _ he2.2 (hall e.on ?_)
                  unfold isAfter
                  rw [Array.any_eq_true']
                  exact ⟨e, he1, by rw [he2.1, Nat.beq_refl]; rfl⟩
              have h5 := hpre j' es[j'] (List.getElem?_eq_getElem hj')
              rw [hl] at h5
              have : j' < k := by simpa using h5.symm
              omega
            · omega
          subst hjk
          have hjl : j < es.length := (List.getElem?_eq_some_iff.1 hj).1
          rw [if_pos (by unfold Region.wanted; rw [hg])]
          refine .inl (he j i hj r w1 a _ hS hae fun p w' hS' => ?_)
          -- the values that are listed stay
          have hsame : over ops f (vals r) listed = over ops f (vals (updr r j p)) listed := by
            funext s
            unfold over
            cases hw : writer ops s with
            | none => rfl
            | some q =>
              simp only
              cases hlq : listed.getD q false
              · rfl
              · simp only [if_true]
                by_cases hqe : es.contains q = true
                · obtain ⟨jq, hjq⟩ := List.getElem?_of_mem (show q ∈ es by simpa using hqe)
                  have h6 := hpre jq q hjq
                  rw [hlq] at h6
                  have h7 : jq < j := by simpa using h6.symm
                  exact (hde jq q hjq j r p (by omega)).symm
                · have hqe' : es.contains q = false := by simpa using hqe
                  have hqi := (writer_spec hw).2
                  refine (hdq q hqi hqe' j r p ?_).symm
                  have hlo := (hspan q hqi hqe').1
                  unfold loOk at hlo
                  split at hlo
                  · rename_i hz; rw [hz]; exact Nat.zero_le _
                  · rename_i k' hz
                    rw [hz]
                    cases hek : es[k']? with
                    | none => rw [hek] at hlo; cases hlo
                    | some e =>
                      rw [hek] at hlo
                      obtain ⟨mm, hlo⟩ := pathB_reach hlo
                      have h8 := hclo.reach _ _ hlo hlq
                      rw [hpre k' e hek] at h8
                      have : k' < j := by simpa using h8
                      omega
          refine ih _ _ _ (updr r j p) (j + 1) hsz' hclo' ?_ hjl ?_ hS' (hcount i hr)
          · intro q e hqe
            by_cases eq : i = e
            · subst eq
              have : q = j := by
                have h9 := (List.getElem?_eq_some_iff.1 hqe)
                have h10 := (List.getElem?_eq_some_iff.1 hj)
                exact (List.getElem_inj hnd).1 (h9.2.trans h10.2.symm)
              rw [set_self (by rw [hsz]; exact hi), this]
              simp
            · rw [set_other eq, hpre q e hqe]
              have : q ≠ j := fun z => by subst z; rw [hj] at hqe; exact eq (Option.some.inj hqe)
              by_cases c : q < j
              · rw [decide_eq_true c, decide_eq_true (by omega)]
              · rw [decide_eq_false c, decide_eq_false (by omega)]
          · have := (hsame ▸ ha).put (d := (opAt ops i).dst) (by
              cases hd : (opAt ops i).dst with
              | none => rfl
              | some d => simp [inn, Nat.blt_eq, ((opsOk_at hok hi).1 d hd).2]) (vals (updr r j p) i)
            rwa [over_set hok hsz hi] at this
        · have hne' : es.contains i = false := by simpa using hne
          obtain ⟨hlo, hhi⟩ := hspan i hi hne'
          have hl1 : (sp.getD i noSpan).1 ≤ k := by
            unfold loOk at hlo
            split at hlo
            · rename_i hz; rw [hz]; exact Nat.zero_le _
            · rename_i k' hz
              rw [hz]
              cases hek : es[k']? with
              | none => rw [hek] at hlo; cases hlo
              | some e =>
                rw [hek] at hlo
                have hne2 : i ≠ e := fun q => by subst q; exact absurd (show es.contains i = true by simpa using List.mem_of_getElem? hek) hne
                have hl : listed.getD e false = true := by
                  obtain ⟨mm, hlo⟩ := pathB_reach hlo
                  cases mm with
                  | zero => unfold reach at hlo; exact absurd (by simpa using hlo) hne2
                  | succ mm =>
                  unfold reach at hlo
                  rw [Bool.or_eq_true] at hlo
                  rcases hlo with hr1 | hr1
                  · exact absurd (by simpa using hr1) hne2
                  · rw [hop] at hr1
                    simp only at hr1
                    rw [Array.any_eq_true'] at hr1
                    obtain ⟨e2, he1, he2⟩ := hr1
                    rw [Bool.and_eq_true] at he2
                    refine hclo.reach _ _ he2.2 (hall e2.on ?_)
                    unfold isAfter
                    rw [Array.any_eq_true']
                    exact ⟨e2, he1, by rw [he2.1, Nat.beq_refl]; rfl⟩
                rw [hpre k' e hek] at hl
                have : k' < k := by simpa using hl
                omega
          have hl2 : k ≤ (sp.getD i noSpan).2.1 ∨ es.length ≤ (sp.getD i noSpan).2.1 := by
            unfold hiOk at hhi
            cases hek : es[(sp.getD i noSpan).2.1]? with
            | none => right; exact List.getElem?_eq_none_iff.1 hek
            | some e =>
              left
              rw [hek] at hhi
              have h3 := hpre _ e hek
              cases hle : listed.getD e false
              · rw [hle] at h3
                have : ¬ (sp.getD i noSpan).2.1 < k := by simpa using h3.symm
                omega
              · obtain ⟨mm, hhi⟩ := pathB_reach hhi
                have := hclo.reach _ _ hhi hle
                rw [h1] at this; cases this
          have hq1 := hq i hi hne' r k w1 hl1 (by rcases hl2 with q | q <;> omega) hS
          have hfin : ∀ w', S k r w' → wpAny P .any ops.toArray (lift n Q) fuel (listed.setIfInBounds i true) (a.put (opAt ops i).dst (vals r i)) w' := fun w' hS' => by
            refine ih _ _ _ r k hsz' hclo' ?_ hk ?_ hS' (hcount i hr)
            · intro q e hqe
              have : i ≠ e := fun z => by subst z; exact absurd (show es.contains i = true by simpa using List.mem_of_getElem? hqe) hne
              rw [set_other this]
              exact hpre q e hqe
            · have := ha.put (d := (opAt ops i).dst) (by
                cases hd : (opAt ops i).dst with
                | none => rfl
                | some d => simp [inn, Nat.blt_eq, ((opsOk_at hok hi).1 d hd).2]) (vals r i)
              rwa [over_set hok hsz hi] at this
          by_cases hwt : Region.wanted (opAt ops i) (yf ops.toArray (full ops f (vals r))) = true
          · rw [if_pos hwt] at hq1 ⊢
            refine .inl ?_
            unfold Oper.wp
            rw [hex]
            generalize (execOp (ev (full ops f (vals r))) (opAt ops i)).run P w1 = res at hq1
            cases res with
            | ok nx w' =>
              cases nx <;> simp only [Oper.quietUpon] at hq1 <;> simp only [Oper.upon]
              case value u => obtain ⟨e1, e2⟩ := hq1; subst e1 e2; exact hfin _ hS
              case skip => obtain ⟨e1, e2⟩ := hq1; subst e1; rw [← e2]; exact hfin _ hS
              case enter g args =>
                obtain ⟨e1, hc⟩ := hq1
                subst e1
                exact hc.mono fun e w'' ⟨he', hw''⟩ => by subst he'; exact hfin _ hw''
            | halt x w' => simp only [Oper.quietUpon] at hq1
          · rw [if_neg hwt] at hq1 ⊢
            rw [← hq1]
            exact hfin _ hS
  obtain ⟨r, hr⟩ := h0 { w with drawn := w.drawn + 1 } (Below.refl _ _).drew rfl
  have hstart : over ops f (vals r) (Array.replicate ops.toArray.size false) = f := by
    funext s
    unfold over
    cases writer ops s with
    | none => rfl
    | some i =>
      simp only
      rw [show (Array.replicate ops.toArray.size false).getD i false = false from by
        rw [Array.getD_eq_getD_getElem?]
        by_cases hi : i < ops.length
        · simp [hi]
        · simp [hi]]
      simp
  have hrep : ∀ i, (Array.replicate ops.toArray.size false).getD i false = false := fun i => by
    rw [Array.getD_eq_getD_getElem?]
    by_cases hi : i < ops.length
    · simp [hi]
    · simp [hi]
  have := key ops.toArray.size (Array.replicate ops.toArray.size false) a { w with drawn := w.drawn + 1 } r 0 (by simp) (Clo.start _ _ _) (fun j e _ => by rw [hrep]; simp) (Nat.zero_le _) (by rw [hstart]; exact ha) hr (fun fl hfl => by
    subst hfl
    have : (List.range ops.length).filter (fun i => !(Array.replicate ops.toArray.size false).getD i false) = List.range ops.length := List.filter_eq_self.2 fun i _ => by rw [hrep]; rfl
    rw [this]; simp)
  exact this
end
end Fx
end Go.Proofs.Ytcdkiakknbmfjaa
