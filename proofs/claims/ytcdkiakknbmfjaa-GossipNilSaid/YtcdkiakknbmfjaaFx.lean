/-
  A walk by facts: the frame as a function of the slot, one law an operation; nothing of a program.
-/
import Derived.Test.YtcdkiakknbmfjaaBase
import Derived.StillTail
namespace Go.Proofs.Ytcdkiakknbmfjaa
open Go.RowKit
namespace Fx
def put (f : Nat → Value) (d : Option Nat) (v : Value) : Nat → Value :=
  match d with
  | none => f
  | some d => fun i => bif Nat.beq i d then v else f i
def ev (f : Nat → Value) : Operand → Value
  | .tmp t => f t
  | .const v => v
  | .global g => .pointer (some ⟨g, 0, none⟩)
  | .func g => .func (.func g) #[] #[]
structure Fr (a : Act) (n : Nat) (f : Nat → Value) : Prop where
  size : a.tmps.size = n
  defers : a.defers = []
  get : ∀ i, a.tmps.getD i undef = f i
def inn (n : Nat) (d : Option Nat) : Bool := match d with | none => true | some d => Nat.blt d n
theorem Fr.ev {a : Act} {n : Nat} {f : Nat → Value} (h : Fr a n f) : a.eval = Fx.ev f := by
  funext x
  cases x <;> simp only [Act.eval, Fx.ev]
  exact h.get _
theorem Fr.put {a : Act} {n : Nat} {f : Nat → Value} (h : Fr a n f) {d : Option Nat} (hd : inn n d = true) (v : Value) : Fr (a.put d v) n (Fx.put f d v) := by
  cases d with
  | none => exact h
  | some d =>
    have hd' : d < n := by simpa [inn, Nat.blt_eq] using hd
    refine ⟨by simp [Act.put, h.size], h.defers, fun i => ?_⟩
    have hi := h.get i
    simp only [Act.put, Fx.put, Array.getD_eq_getD_getElem?, Array.getElem?_setIfInBounds] at hi ⊢
    by_cases e : d = i
    · subst e; simp [h.size, hd']
    · have e' : Nat.beq i d = false := by
        cases hq : Nat.beq i d
        · rfl
        · exact absurd (Nat.eq_of_beq_eq_true hq).symm e
      simp [e, e', hi]
def yf (ops : Array Oper) (f : Nat → Value) (j : Nat) : Option Bool :=
  match (ops[j]?).bind (·.dst) with
  | some d => (match f d with | .bool b => some b | _ => none)
  | none => none
theorem Fr.yf {a : Act} {n : Nat} {f : Nat → Value} (h : Fr a n f) (ops : Array Oper) : yielded ops a.tmps = Fx.yf ops f := by
  funext j
  unfold yielded Fx.yf
  cases hd : (ops[j]?).bind (·.dst) with
  | none => rfl
  | some d =>
    simp only [Option.bind_some]
    have hi := h.get d
    rw [Array.getD_eq_getD_getElem?] at hi
    cases hq : a.tmps[d]? with
    | none =>
      rw [hq] at hi
      rw [← hi]
      rfl
    | some v => rw [hq] at hi; rw [← hi]; cases v <;> rfl
/-! ### codes -/
abbrev Post := Exit → (Nat → Value) → World → Prop
def lift (n : Nat) (Q : Post) : Exit → Act → World → Prop := fun e a w => ∃ f, Fr a n f ∧ Q e f w
def W (P : Program) (n : Nat) (c : Code) (Q : Post) (f : Nat → Value) (w : World) : Prop := ∀ a, Fr a n f → Code.wp P c (lift n Q) a w
def seqK (P : Program) (n : Nat) (y : Code) (Q : Post) : Post := fun e f w => match e with | .normal => W P n y Q f w | e => Q e f w
def blockK (id : Nat) (Q : Post) : Post := fun e f w => match e with | .exit id' => if id' = id then Q .normal f w else Q (.exit id') f w | e => Q e f w
def loopK (I : (Nat → Value) → World → Prop) (m : (Nat → Value) → World → Nat) (k : Nat) (Q : Post) : Post := fun e f w => match e with | .normal => I f w ∧ m f w < k | e => Q e f w
section
variable {P : Program} {n : Nat} {Q : Post} {f : Nat → Value} {w : World}
theorem W.seq {x y : Code} (h : W P n x (seqK P n y Q) f w) : W P n (.seq x y) Q f w := fun a ha =>
  wp_seq (Code.wp_mono (fun e a' w' hq => by
    obtain ⟨f', hf', hq⟩ := hq
    cases e <;> first | exact hq a' hf' | exact ⟨f', hf', hq⟩) (h a ha))
theorem W.skip (h : Q .normal f w) : W P n .skip Q f w := fun _ ha => wp_skip ⟨f, ha, h⟩
theorem W.ret (h : Q .ret f w) : W P n .ret Q f w := fun _ ha => wp_ret ⟨f, ha, h⟩
theorem W.exit {id : Nat} (h : Q (.exit id) f w) : W P n (.exit id) Q f w := fun _ ha => wp_exit ⟨f, ha, h⟩
theorem W.block {id : Nat} {c : Code} (h : W P n c (blockK id Q) f w) : W P n (.block id c) Q f w := fun a ha =>
  wp_block (Code.wp_mono (fun e a' w' hq => by
    obtain ⟨f', hf', hq⟩ := hq
    cases e <;> first
      | exact ⟨f', hf', hq⟩
      | (simp only [blockK] at hq; simp only [Exit.inBlock]; split at hq <;> rename_i hid <;> simp only [hid, if_true, if_false] <;> exact ⟨f', hf', hq⟩)) (h a ha))
theorem W.cond {c : Operand} {x y : Code} {b : Bool} (hc : ev f c = .bool b) (ht : b = true → W P n x Q f w) (hf : b = false → W P n y Q f w) : W P n (.cond c x y) Q f w := fun a ha =>
  wp_cond_split (t := b) (by rw [ha.ev]; exact hc) (fun e => ht e a ha) (fun e => hf e a ha)
theorem W.loop {c : Code} (I : (Nat → Value) → World → Prop) (m : (Nat → Value) → World → Nat) (h0 : I f w) (hr : ∀ f w, I f w → W P n c (loopK I m (m f w) Q) f w) : W P n (.loop c) Q f w := fun a ha =>
  wp_loop (fun a w => ∃ f, Fr a n f ∧ I f w) (fun a w => m (fun i => a.tmps.getD i undef) w) ⟨f, ha, h0⟩ (fun a w hI => by
    obtain ⟨f, hf, hI⟩ := hI
    have e : (fun i => a.tmps.getD i undef) = f := funext hf.get
    refine Code.wp_mono (fun e' a' w' hq => ?_) (hr f w hI a hf)
    obtain ⟨f', hf', hq⟩ := hq
    cases e' <;> first
      | exact ⟨f', hf', hq⟩
      | (have e'' : (fun i => a'.tmps.getD i undef) = f' := funext hf'.get
         exact ⟨⟨f', hf', hq.1⟩, by rw [e, e'']; exact hq.2⟩))
/-- whatever it does, it does for what is weaker -/
theorem W.mono {c : Code} {Q' : Post} (h : W P n c Q f w) (hq : ∀ e f w, Q e f w → Q' e f w) : W P n c Q' f w := fun a ha =>
  Code.wp_mono (fun _ _ _ ⟨f', hf', q⟩ => ⟨f', hf', hq _ _ _ q⟩) (h a ha)
/-! ### regions in the text's order -/
def L (P : Program) (n : Nat) (ops : Array Oper) (Q : Post) (rest : List Oper) (f : Nat → Value) (w : World) : Prop := ∀ a, Fr a n f → wpList P ops (lift n Q) rest a w
theorem W.list {id : Nat} {ops : List Oper} (h : L P n ops.toArray Q ops f w) : W P n (.region id ops.toArray false) Q f w := fun a ha => wp_region_lit (h a ha)
variable {ops : Array Oper} {rest : List Oper} {o : Oper}
theorem L.nil (h : Q .normal f w) : L P n ops Q [] f w := fun _ ha => ⟨f, ha, h⟩
abbrev Runs (P : Program) (f : Nat → Value) (o : Oper) (w : World) (v : Value) : Prop := (execOp (ev f) o).run P w = .ok (.value v) w
theorem L.val {v : Value} {w' : World} (hw : Region.wanted o (yf ops f) = true) (hr : (execOp (ev f) o).run P w = .ok (.value v) w') (hd : inn n o.dst = true) (h : L P n ops Q rest (put f o.dst v) w') : L P n ops Q (o :: rest) f w := fun a ha => by
  unfold wpList
  rw [ha.yf, if_pos hw]
  refine .inl ?_
  unfold Oper.wp
  rw [ha.ev, hr]
  exact h _ (ha.put hd v)
theorem L.unit {w' : World} (hw : Region.wanted o (yf ops f) = true) (hr : (execOp (ev f) o).run P w = .ok .skip w') (hd : inn n o.dst = true) (h : L P n ops Q rest (put f o.dst undef) w') : L P n ops Q (o :: rest) f w := fun a ha => by
  unfold wpList
  rw [ha.yf, if_pos hw]
  refine .inl ?_
  unfold Oper.wp
  rw [ha.ev, hr]
  exact h _ (ha.put hd undef)
theorem L.skip (hw : Region.wanted o (yf ops f) = false) (hd : inn n o.dst = true) (h : L P n ops Q rest (put f o.dst undef) w) : L P n ops Q (o :: rest) f w := fun a ha => by
  unfold wpList
  rw [ha.yf, if_neg (by rw [hw]; decide)]
  exact h _ (ha.put hd undef)
theorem L.call {g : FuncId} {args : Array Value} (hw : Region.wanted o (yf ops f) = true) (hr : (execOp (ev f) o).run P w = .ok (.enter g args) w) (hd : inn n o.dst = true)
    (h : Calls P g args w fun e w' => ∃ v, e = .returned v ∧ L P n ops Q rest (put f o.dst v) w') : L P n ops Q (o :: rest) f w := fun a ha => by
  unfold wpList
  rw [ha.yf, if_pos hw]
  refine .inl ?_
  unfold Oper.wp
  rw [ha.ev, hr]
  exact h.mono fun e w' ⟨v, he, hl⟩ => by subst he; exact hl _ (ha.put hd v)
/-- a law of the kit, at the list -/
theorem L.kit (h : ∀ a, Fr a n f → wpList P ops (lift n Q) (o :: rest) a w) : L P n ops Q (o :: rest) f w := h
theorem L.back (h : ∀ a, Fr a n f → wpList P ops (lift n Q) rest a w) : L P n ops Q rest f w := h
/-! ### regions that draw their order, quiet in a class of worlds -/
def Qt (P : Program) (n : Nat) (ops : Array Oper) (C : World → Prop) (Q : (Nat → Value) → Prop) (rest : List Oper) (f : Nat → Value) : Prop := ∀ a, Fr a n f → wpQuiet P ops C (fun a' => ∃ f', Fr a' n f' ∧ Q f') rest a
variable {C : World → Prop} {R : (Nat → Value) → Prop}
theorem W.quiet {id : Nat} {ops : List Oper} (C : World → Prop) (hm : P.follows .mixedOrders = true) (hB : Region.lexB .any ops.toArray = true) (hC : C w.drew)
    (h : Qt P n ops.toArray C (fun f' => ∀ w', C w' → Q .normal f' w') ops f) : W P n (.region id ops.toArray true) Q f w := fun a ha => by
  refine wp_region_quiet (C := C) hm hB hC ?_
  have := h a ha
  have key : ∀ (l : List Oper) (a : Act), wpQuiet P ops.toArray C (fun a' => ∃ f', Fr a' n f' ∧ ∀ w', C w' → Q .normal f' w') l a → wpQuiet P ops.toArray C (fun a' => ∀ w', C w' → lift n Q .normal a' w') l a := by
    intro l
    induction l with
    | nil => intro a h; obtain ⟨f', hf', hq⟩ := h; exact fun w' hw' => ⟨f', hf', hq w' hw'⟩
    | cons o l ih =>
      intro a h
      unfold wpQuiet at h ⊢
      split
      · rename_i hw; rw [if_pos hw] at h; obtain ⟨v, h1, h2⟩ := h; exact ⟨v, h1, ih _ h2⟩
      · rename_i hw; rw [if_neg hw] at h; exact ih _ h
  exact key _ _ this
theorem Qt.nil (h : R f) : Qt P n ops C R [] f := fun _ ha => ⟨f, ha, h⟩
theorem Qt.val {v : Value} (hw : Region.wanted o (yf ops f) = true) (hr : ∀ w, C w → (execOp (ev f) o).run P w = .ok (.value v) w) (hd : inn n o.dst = true) (h : Qt P n ops C R rest (put f o.dst v)) : Qt P n ops C R (o :: rest) f := fun a ha => by
  unfold wpQuiet
  rw [ha.yf, if_pos hw]
  refine ⟨v, fun w hc => ?_, h _ (ha.put hd v)⟩
  unfold Oper.quietAt
  rw [ha.ev, hr w hc]
  exact ⟨rfl, rfl⟩
theorem Qt.skip (hw : Region.wanted o (yf ops f) = false) (hd : inn n o.dst = true) (h : Qt P n ops C R rest (put f o.dst undef)) : Qt P n ops C R (o :: rest) f := fun a ha => by
  unfold wpQuiet
  rw [ha.yf, if_neg (by rw [hw]; decide)]
  exact h _ (ha.put hd undef)
theorem Qt.call {v : Value} {g : FuncId} {args : Array Value} (hw : Region.wanted o (yf ops f) = true) (hr : ∀ w, C w → (execOp (ev f) o).run P w = .ok (.enter g args) w) (hd : inn n o.dst = true)
    (hc : ∀ w, C w → Calls P g args w fun e w' => e = .returned v ∧ C w') (h : Qt P n ops C R rest (put f o.dst v)) : Qt P n ops C R (o :: rest) f := fun a ha => by
  unfold wpQuiet
  rw [ha.yf, if_pos hw]
  refine ⟨v, fun w hcw => ?_, h _ (ha.put hd v)⟩
  unfold Oper.quietAt
  rw [ha.ev, hr w hcw]
  exact ⟨rfl, hc w hcw⟩
/-! ### regions that draw their order: a head that only reads, then a tail in the text's order -/
def St (P : Program) (n : Nat) (ops : Array Oper) (w : World) (Q : (Nat → Value) → Prop) (rest : List Oper) (f : Nat → Value) : Prop := ∀ a, Fr a n f → wpStill P ops w (fun a' => ∃ f', Fr a' n f' ∧ Q f') rest a
theorem St.nil (h : R f) : St P n ops w R [] f := fun _ ha => ⟨f, ha, h⟩
theorem St.val {v : Value} (hw : Region.wanted o (yf ops f) = true) (hr : (execOp (ev f) o).run P w = .ok (.value v) w) (hd : inn n o.dst = true) (h : St P n ops w R rest (put f o.dst v)) : St P n ops w R (o :: rest) f := fun a ha => by
  unfold wpStill
  rw [ha.yf, if_pos hw]
  unfold Oper.still
  rw [ha.ev, hr]
  exact ⟨rfl, h _ (ha.put hd v)⟩
theorem St.skip (hw : Region.wanted o (yf ops f) = false) (hd : inn n o.dst = true) (h : St P n ops w R rest (put f o.dst undef)) : St P n ops w R (o :: rest) f := fun a ha => by
  unfold wpStill
  rw [ha.yf, if_neg (by rw [hw]; decide)]
  exact h _ (ha.put hd undef)
theorem St.call {v : Value} {g : FuncId} {args : Array Value} (hw : Region.wanted o (yf ops f) = true) (hr : (execOp (ev f) o).run P w = .ok (.enter g args) w) (hd : inn n o.dst = true)
    (hc : Calls P g args w fun e w' => e = .returned v ∧ w' = w) (h : St P n ops w R rest (put f o.dst v)) : St P n ops w R (o :: rest) f := fun a ha => by
  unfold wpStill
  rw [ha.yf, if_pos hw]
  unfold Oper.still
  rw [ha.ev, hr]
  exact ⟨rfl, v, hc, h _ (ha.put hd v)⟩
theorem W.tail {id : Nat} {ops : List Oper} (k : Nat) (hm : P.follows .mixedOrders = true) (hB : Region.lexTailB .any ops.toArray k = true)
    (h : ∀ w1, Below w.heap.size w w1 → w1.heap.size = w.heap.size → St P n ops.toArray w1 (fun f' => L P n ops.toArray Q (ops.drop k) f' w1) (ops.take k) f) : W P n (.region id ops.toArray true) Q f w := fun a ha => by
  refine wp_region_still_tail k hm hB ?_
  have := h { w with drawn := w.drawn + 1 } (Below.refl _ _).drew rfl a ha
  have key : ∀ (l : List Oper) (a : Act), wpStill P ops.toArray { w with drawn := w.drawn + 1 } (fun a' => ∃ f', Fr a' n f' ∧ L P n ops.toArray Q (ops.drop k) f' { w with drawn := w.drawn + 1 }) l a →
      wpStill P ops.toArray { w with drawn := w.drawn + 1 } (fun a' => wpList P ops.toArray (lift n Q) (ops.drop k) a' { w with drawn := w.drawn + 1 }) l a := by
    intro l
    induction l with
    | nil => intro a h; obtain ⟨f', hf', hq⟩ := h; exact hq a hf'
    | cons o l ih =>
      intro a h
      unfold wpStill at h ⊢
      split
      · rename_i hw
        rw [if_pos hw] at h
        unfold Oper.still Oper.stillUpon at h ⊢
        split <;> rename_i hr <;> simp only [hr] at h
        · exact ⟨h.1, ih _ h.2⟩
        · exact ⟨h.1, ih _ h.2⟩
        · obtain ⟨h1, v, h2, h3⟩ := h; exact ⟨h1, v, h2, ih _ h3⟩
      · rename_i hw; rw [if_neg hw] at h; exact ih _ h
  exact key _ _ this
/-! ### the way in -/
def rdF (f : Nat → Value) : ResultVar → Sem Value
  | .tmp t => pure (f t)
  | .cell a t => do loadVar t (← asAddr (f a))
def resF (fn : Func) (f : Nat → Value) : Sem Value := do
  let vs ← fn.results.mapM (rdF f)
  pure (if h : vs.size = 1 then vs[0] else .tuple vs)
def retK (P : Program) (fn : Func) (R : Ending → World → Prop) : Post := fun e f w => match e with
  | .normal => ∃ v, (resF fn f).run P w = .ok v w ∧ R (.returned v) w
  | .ret => ∃ v, (resF fn f).run P w = .ok v w ∧ R (.returned v) w
  | .outgrown => R .outgrown w
  | _ => False
theorem resF_eq {a : Act} {n : Nat} {f : Nat → Value} (h : Fr a n f) (fn : Func) : results fn a.tmps = resF fn f := by
  unfold results resF
  congr 1
  congr 1
  funext x
  cases x <;> simp only [h.get, rdF]
def start (args : Array Value) : Nat → Value := fun i => args.getD i undef
theorem enter {g : FuncId} {fn : Func} {c : Code} {args : Array Value} {R : Ending → World → Prop} (hf : P.funcs[g]? = some fn) (hb : fn.body = some c) (hn : fn.ntmps = n) (ha : Nat.ble args.size n = true)
    (h : W P n c (retK P fn R) (start args) w) : Calls P g args w R := by
  have ha' : args.size ≤ n := Nat.le_of_ble_eq_true ha
  refine calls_of_wp hf hb ?_
  refine Code.wp_mono (fun e a w' hq => ?_) (h _ ⟨?_, rfl, ?_⟩)
  · obtain ⟨f', hf', hq⟩ := hq
    cases e <;> first
      | exact hq.elim
      | (obtain ⟨v, h1, h2⟩ := hq; exact ⟨hf'.defers, v, by rw [resF_eq hf']; exact h1, h2⟩)
      | exact hq
  · simp [hn]; omega
  · intro i
    simp only [start, Array.getD_eq_getD_getElem?, Array.getElem?_append, Array.getElem?_replicate]
    by_cases hi : i < args.size
    · simp [hi]
    · simp [hi]
      by_cases h2 : i - args.size < fn.ntmps - args.size
      · simp [h2]
      · simp [h2]
theorem ret1 {fn : Func} {t : Tmp} {v : Value} (hr : fn.results = #[.tmp t]) (h : f t = v) : (resF fn f).run P w = .ok v w := by
  unfold resF; simp [hr, h, rdF]
theorem ret2 {fn : Func} {s t : Tmp} {u v : Value} (hr : fn.results = #[.tmp s, .tmp t]) (h : f s = u) (h' : f t = v) : (resF fn f).run P w = .ok (.tuple #[u, v]) w := by
  unfold resF; simp [hr, h, h', rdF]
theorem ret3 {fn : Func} {s t q : Tmp} {u v x : Value} (hr : fn.results = #[.tmp s, .tmp t, .tmp q]) (h : f s = u) (h' : f t = v) (h'' : f q = x) : (resF fn f).run P w = .ok (.tuple #[u, v, x]) w := by
  unfold resF; simp [hr, h, h', h'', rdF]
theorem ret0 {fn : Func} (hr : fn.results = #[]) : (resF fn f).run P w = .ok (.tuple #[]) w := by
  unfold resF; simp [hr]
/-! ### where a piece of code ends -/
theorem seqN {y : Code} (h : W P n y Q f w) : seqK P n y Q .normal f w := h
theorem seqX {y : Code} {id : Nat} (h : Q (.exit id) f w) : seqK P n y Q (.exit id) f w := h
theorem seqR {y : Code} (h : Q .ret f w) : seqK P n y Q .ret f w := h
theorem blkN {id : Nat} (h : Q .normal f w) : blockK id Q .normal f w := h
theorem blkR {id : Nat} (h : Q .ret f w) : blockK id Q .ret f w := h
theorem blkX {id : Nat} (h : Q .normal f w) : blockK id Q (.exit id) f w := by simp only [blockK, if_true]; exact h
theorem blkO {id id' : Nat} (hne : Nat.beq id' id = false) (h : Q (.exit id') f w) : blockK id Q (.exit id') f w := by
  have : id' ≠ id := fun e => by subst e; rw [Nat.beq_refl] at hne; cases hne
  simp only [blockK, this, if_false]; exact h
theorem lpX {I : (Nat → Value) → World → Prop} {m : (Nat → Value) → World → Nat} {k id : Nat} (h : Q (.exit id) f w) : loopK I m k Q (.exit id) f w := h
theorem lpR {I : (Nat → Value) → World → Prop} {m : (Nat → Value) → World → Nat} {k : Nat} (h : Q .ret f w) : loopK I m k Q .ret f w := h
theorem lpN {I : (Nat → Value) → World → Prop} {m : (Nat → Value) → World → Nat} {k : Nat} (h : I f w) (hm : m f w < k) : loopK I m k Q .normal f w := ⟨h, hm⟩
theorem args1 {x1 : Operand} {v1 : Value} (h1 : ev f x1 = v1) : [x1].map (ev f) = [v1] := by rw [List.map_cons, h1]; rfl
theorem args2 {x1 x2 : Operand} {v1 v2 : Value} (h1 : ev f x1 = v1) (h2 : ev f x2 = v2) : [x1, x2].map (ev f) = [v1, v2] := by rw [List.map_cons, h1, args1 h2]
theorem args3 {x1 x2 x3 : Operand} {v1 v2 v3 : Value} (h1 : ev f x1 = v1) (h2 : ev f x2 = v2) (h3 : ev f x3 = v3) : [x1, x2, x3].map (ev f) = [v1, v2, v3] := by rw [List.map_cons, h1, args2 h2 h3]
theorem args4 {x1 x2 x3 x4 : Operand} {v1 v2 v3 v4 : Value} (h1 : ev f x1 = v1) (h2 : ev f x2 = v2) (h3 : ev f x3 = v3) (h4 : ev f x4 = v4) : [x1, x2, x3, x4].map (ev f) = [v1, v2, v3, v4] := by rw [List.map_cons, h1, args3 h2 h3 h4]
theorem args5 {x1 x2 x3 x4 x5 : Operand} {v1 v2 v3 v4 v5 : Value} (h1 : ev f x1 = v1) (h2 : ev f x2 = v2) (h3 : ev f x3 = v3) (h4 : ev f x4 = v4) (h5 : ev f x5 = v5) : [x1, x2, x3, x4, x5].map (ev f) = [v1, v2, v3, v4, v5] := by rw [List.map_cons, h1, args4 h2 h3 h4 h5]
end
end Fx
end Go.Proofs.Ytcdkiakknbmfjaa
