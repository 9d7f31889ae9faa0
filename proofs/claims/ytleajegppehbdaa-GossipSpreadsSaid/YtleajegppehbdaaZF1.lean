/-
  What the proof of the law rests on, part 1: walks of functions, and plain laws; each says its conditions itself.
-/
import Derived.WalkKit
import Derived.WalkSpells
import Derived.Laws.AppendOwnNone
import Derived.Deep.QuietTactic
import Derived.BigQuiet
import Derived.RegionTactic
import Derived.Deep.RegionWith
import Derived.Deep.RegionLaw
import Derived.Deep.AppendLies
import Derived.Deep.Cut
import Derived.Deep.OwnRows
import Derived.StillTailTactics
import Derived.Deep.RegionHeld3
import Derived.Deep.MidRow
import Derived.StillTail
import Derived.DeepKeys
import Derived.Test.YtleajegppehbdaaRows
namespace Go.Proofs.Ytleajegppehbdaa
open Go.RowKit
def iarr (k : IntKind) (n : Nat) (x : Nat → Int) : Array Value := Array.ofFn (fun i : Fin n => .int k (x i))
theorem iarr_size (k : IntKind) (n : Nat) (x : Nat → Int) : (iarr k n x).size = n := by unfold iarr; simp
theorem iarr_get (k : IntKind) (n : Nat) (x : Nat → Int) (i : Nat) (h : i < n) : (iarr k n x)[i]? = some (.int k (x i)) := by unfold iarr; simp [h]
theorem iarr_cell {k : IntKind} {n : Nat} {x : Nat → Int} {w : World} {b : Nat} {t : TypeId} {fz : Nat × Nat} (h : w.heap[b]? = some (.cells (iarr k n x) t fz)) (i : Nat) (hi : i < n) :
    w.cell? ⟨b, i, none⟩ = some (.int k (x i)) := by
  rw [cell_of_row w b i _ _ _ h]; exact iarr_get k n x i hi
def upd (x : Nat → Int) (i : Nat) (v : Int) : Nat → Int := fun j => if j = i then v else x j
theorem upd_other (x : Nat → Int) (i j : Nat) (v : Int) (h : j ≠ i) : upd x i v j = x j := by unfold upd; rw [if_neg h]
theorem iarr_set (k : IntKind) (n : Nat) (x : Nat → Int) (i : Nat) (v : Int) : (iarr k n x).setIfInBounds i (.int k v) = iarr k n (upd x i v) := by
  apply Array.ext_getElem?
  intro j
  by_cases hj : j < n
  · rw [iarr_get _ _ _ j hj, Array.getElem?_setIfInBounds, iarr_size]
    unfold upd
    by_cases h : i = j
    · subst h; simp [hj]
    have h' : ¬ j = i := fun e => h e.symm
    simp [h, h', iarr_get k n x j hj]
  rw [Array.getElem?_eq_none (by rw [Array.size_setIfInBounds, iarr_size]; omega), Array.getElem?_eq_none (by rw [iarr_size]; omega)]
theorem iarr_congr {k : IntKind} {n : Nat} {x y : Nat → Int} (h : ∀ i, i < n → x i = y i) : iarr k n x = iarr k n y := by
  unfold iarr; congr 1; funext i; rw [h i.1 i.2]
theorem addr_add (b off j : Nat) : (⟨b, off, none⟩ : Addr).add j = ⟨b, off + j, none⟩ := by unfold Addr.add; split <;> simp_all
theorem bch {w w1 w2 : World} (h : Below w.heap.size w w1) (h2 : Below w1.heap.size w1 w2) : Below w.heap.size w w2 := h.trans (h2.mono h.size)
theorem bdrN (w : World) (n : Nat) : Below w.heap.size w (w.drewN n) := ⟨rfl, rfl, rfl, Nat.le_refl _, fun _ _ => rfl⟩
theorem bN {B : Nat} {w w' : World} (h : Below B w w') (n : Nat) : Below B w (w'.drewN n) := ⟨h.os, h.tape, h.output, h.size, h.block⟩
theorem run_enter {P : Program} {f : FuncId} {fn : Func} {c : Code} (hf : P.funcs[f]? = some fn) (hname : (fn.name == "runtime.NumGoroutine") = false) (hb : fn.body = some c) (args : Array Value) (w : World) :
    (callFunc f args).run P w = .ok (.enter f args) w := by
  have hn : ¬ fn.name = "runtime.NumGoroutine" := by simpa using hname
  unfold callFunc
  simp [Sem.run_bind, hf, hn, hb]
theorem alloc_at (w : World) (o : Obj) (k : Nat) : (w.alloc o).heap[k]? = if k = w.heap.size then some o else w.heap[k]? := by
  show (w.heap.push o)[k]? = _
  rw [Array.getElem?_push]
theorem run_storeVar_one {P : Program} (w : World) (g o : Nat) (ty : TypeId) (v old : Value) (hi : (P.info? ty).map (·.size) = some 1) (h1 : v.oneCell' = true) (hc : w.cell? ⟨g, o, none⟩ = some old) (hf : w.frozen? ⟨g, o, none⟩ = false) :
    (storeVar ty ⟨g, o, none⟩ v).run P w = .ok () (w.setCell ⟨g, o, none⟩ v) := by
  have hv : v.cells = #[v] := by cases v <;> first | rfl | (simp [Value.oneCell'] at h1)
  have := run_storeCells_cells (P := P) g o [v] 0 w (fun j hj => by simp at hj; subst hj; simp [hc]) (fun j hj => by simp at hj; subst hj; simpa using hf) (fun u hu => by simp at hu; subst hu; exact h1)
  cases hq : P.info? ty with
  | none => simp [hq] at hi
  | some i =>
    have hs : i.size = 1 := by simp [hq] at hi; omega
    simp only [Nat.add_zero] at this
    simp [storeVar, sizeOf, typeInfo, hq, hv, hs, this, World.setCells]
end Go.Proofs.Ytleajegppehbdaa
namespace Go.Proofs.Ytleajegppehbdaa
open Go.RowKit
namespace Fx
def put (f : Nat → Value) (d : Option Nat) (v : Value) : Nat → Value :=
  match d with
  | none => f
  | some d => fun i => bif Nat.beq i d then v else f i
def ev (f : Nat → Value) : Operand → Value
  | .tmp t => f t
  | .const v => v
  | .global g => .pointer (some ⟨g, 0, none⟩)
  | .func g => .func (.func g) #[] #[]
structure Fr (a : Act) (n : Nat) (f : Nat → Value) : Prop where
  size : a.tmps.size = n
  defers : a.defers = []
  get : ∀ i, a.tmps.getD i undef = f i
def inn (n : Nat) (d : Option Nat) : Bool := match d with | none => true | some d => Nat.blt d n
theorem Fr.ev {a : Act} {n : Nat} {f : Nat → Value} (h : Fr a n f) : a.eval = Fx.ev f := by
  funext x
  cases x <;> simp only [Act.eval, Fx.ev]
  exact h.get _
theorem Fr.put {a : Act} {n : Nat} {f : Nat → Value} (h : Fr a n f) {d : Option Nat} (hd : inn n d = true) (v : Value) : Fr (a.put d v) n (Fx.put f d v) := by
  cases d with
  | none => exact h
  | some d =>
    have hd' : d < n := by simpa [inn, Nat.blt_eq] using hd
    refine ⟨by simp [Act.put, h.size], h.defers, fun i => ?_⟩
    have hi := h.get i
    simp only [Act.put, Fx.put, Array.getD_eq_getD_getElem?, Array.getElem?_setIfInBounds] at hi ⊢
    by_cases e : d = i
    · subst e; simp [h.size, hd']
    · have e' : Nat.beq i d = false := by
        cases hq : Nat.beq i d
        · rfl
        · exact absurd (Nat.eq_of_beq_eq_true hq).symm e
      simp [e, e', hi]
def yf (ops : Array Oper) (f : Nat → Value) (j : Nat) : Option Bool :=
  match (ops[j]?).bind (·.dst) with
  | some d => (match f d with | .bool b => some b | _ => none)
  | none => none
theorem Fr.yf {a : Act} {n : Nat} {f : Nat → Value} (h : Fr a n f) (ops : Array Oper) : yielded ops a.tmps = Fx.yf ops f := by
  funext j
  unfold yielded Fx.yf
  cases hd : (ops[j]?).bind (·.dst) with
  | none => rfl
  | some d =>
    simp only [Option.bind_some]
    have hi := h.get d
    rw [Array.getD_eq_getD_getElem?] at hi
    cases hq : a.tmps[d]? with
    | none =>
      rw [hq] at hi
      rw [← hi]
      rfl
    | some v => rw [hq] at hi; rw [← hi]; cases v <;> rfl
abbrev Post := Exit → (Nat → Value) → World → Prop
def lift (n : Nat) (Q : Post) : Exit → Act → World → Prop := fun e a w => ∃ f, Fr a n f ∧ Q e f w
def W (P : Program) (n : Nat) (c : Code) (Q : Post) (f : Nat → Value) (w : World) : Prop := ∀ a, Fr a n f → Code.wp P c (lift n Q) a w
def seqK (P : Program) (n : Nat) (y : Code) (Q : Post) : Post := fun e f w => match e with | .normal => W P n y Q f w | e => Q e f w
def blockK (id : Nat) (Q : Post) : Post := fun e f w => match e with | .exit id' => if id' = id then Q .normal f w else Q (.exit id') f w | e => Q e f w
def loopK (I : (Nat → Value) → World → Prop) (m : (Nat → Value) → World → Nat) (k : Nat) (Q : Post) : Post := fun e f w => match e with | .normal => I f w ∧ m f w < k | e => Q e f w
section
variable {P : Program} {n : Nat} {Q : Post} {f : Nat → Value} {w : World}
theorem Ws {x y : Code} (h : W P n x (seqK P n y Q) f w) : W P n (.seq x y) Q f w := fun a ha =>
  wp_seq (Code.wp_mono (fun e a' w' hq => by
    obtain ⟨f', hf', hq⟩ := hq
    cases e <;> first | exact hq a' hf' | exact ⟨f', hf', hq⟩) (h a ha))
theorem Wk (h : Q .normal f w) : W P n .skip Q f w := fun _ ha => wp_skip ⟨f, ha, h⟩
theorem Wr (h : Q .ret f w) : W P n .ret Q f w := fun _ ha => wp_ret ⟨f, ha, h⟩
theorem W.exit {id : Nat} (h : Q (.exit id) f w) : W P n (.exit id) Q f w := fun _ ha => wp_exit ⟨f, ha, h⟩
theorem W.block {id : Nat} {c : Code} (h : W P n c (blockK id Q) f w) : W P n (.block id c) Q f w := fun a ha =>
  wp_block (Code.wp_mono (fun e a' w' hq => by
    obtain ⟨f', hf', hq⟩ := hq
    cases e <;> first
      | exact ⟨f', hf', hq⟩
      | (simp only [blockK] at hq; simp only [Exit.inBlock]; split at hq <;> rename_i hid <;> simp only [hid, if_true, if_false] <;> exact ⟨f', hf', hq⟩)) (h a ha))
theorem Wc {c : Operand} {x y : Code} {b : Bool} (hc : ev f c = .bool b) (ht : b = true → W P n x Q f w) (hf : b = false → W P n y Q f w) : W P n (.cond c x y) Q f w := fun a ha =>
  wp_cond_split (t := b) (by rw [ha.ev]; exact hc) (fun e => ht e a ha) (fun e => hf e a ha)
theorem W.loop {c : Code} (I : (Nat → Value) → World → Prop) (m : (Nat → Value) → World → Nat) (h0 : I f w) (hr : ∀ f w, I f w → W P n c (loopK I m (m f w) Q) f w) : W P n (.loop c) Q f w := fun a ha =>
  wp_loop (fun a w => ∃ f, Fr a n f ∧ I f w) (fun a w => m (fun i => a.tmps.getD i undef) w) ⟨f, ha, h0⟩ (fun a w hI => by
    obtain ⟨f, hf, hI⟩ := hI
    have e : (fun i => a.tmps.getD i undef) = f := funext hf.get
    refine Code.wp_mono (fun e' a' w' hq => ?_) (hr f w hI a hf)
    obtain ⟨f', hf', hq⟩ := hq
    cases e' <;> first
      | exact ⟨f', hf', hq⟩
      | (have e'' : (fun i => a'.tmps.getD i undef) = f' := funext hf'.get
         exact ⟨⟨f', hf', hq.1⟩, by rw [e, e'']; exact hq.2⟩))
theorem W.mono {c : Code} {Q' : Post} (h : W P n c Q f w) (hq : ∀ e f w, Q e f w → Q' e f w) : W P n c Q' f w := fun a ha =>
  Code.wp_mono (fun _ _ _ ⟨f', hf', q⟩ => ⟨f', hf', hq _ _ _ q⟩) (h a ha)
def Out (P : Program) (f : Nat → Value) (o : Oper) (w : World) (K : Value → World → Prop) : Prop :=
  (∃ v w', (execOp (ev f) o).run P w = .ok (.value v) w' ∧ K v w') ∨ (∃ w', (execOp (ev f) o).run P w = .ok .skip w' ∧ K undef w') ∨
  ∃ g args, (execOp (ev f) o).run P w = .ok (.enter g args) w ∧ Calls P g args w fun e w' => ∃ v, e = .returned v ∧ K v w'
def L (P : Program) (n : Nat) (ops : Array Oper) (Q : Post) : List Oper → (Nat → Value) → World → Prop
  | [], f, w => Q .normal f w
  | o :: rest, f, w => inn n o.dst = true ∧ ((Region.wanted o (yf ops f) = true ∧ Out P f o w fun v w' => L P n ops Q rest (put f o.dst v) w') ∨ (Region.wanted o (yf ops f) = false ∧ L P n ops Q rest (put f o.dst undef) w))
variable {ops : Array Oper} {rest : List Oper} {o : Oper}
theorem Out.wp {a : Act} {K : Value → World → Prop} {K' : Act → World → Prop} {Q' : Exit → Act → World → Prop} (ha : Fr a n f) (h : Out P f o w K) (hk : ∀ v w', K v w' → K' (a.put o.dst v) w') : o.wp P a w K' Q' := by
  unfold Oper.wp
  rw [ha.ev]
  rcases h with ⟨v, w', hr, h⟩ | ⟨w', hr, h⟩ | ⟨g, args, hr, h⟩
  · rw [hr]; exact hk v w' h
  · rw [hr]; exact hk undef w' h
  rw [hr]; exact h.mono fun e w' ⟨v, he, hl⟩ => by subst he; exact hk v w' hl
theorem L.to : ∀ {l : List Oper} {f : Nat → Value} {w : World}, L P n ops Q l f w → ∀ a, Fr a n f → wpList P ops (lift n Q) l a w
  | [], f, w, h, a, ha => ⟨f, ha, h⟩
  | o :: rest, f, w, ⟨hd, h⟩, a, ha => by
    unfold wpList
    rw [ha.yf]
    rcases h with ⟨hw, h⟩ | ⟨hw, h⟩
    · rw [if_pos hw]
      exact .inl (h.wp ha fun v w' hl => L.to hl _ (ha.put hd v))
    · rw [if_neg (by rw [hw]; decide)]
      exact L.to h _ (ha.put hd undef)
theorem Wl {id : Nat} {ops : List Oper} (h : L P n ops.toArray Q ops f w) : W P n (.region id ops.toArray false) Q f w := fun a ha => wp_region_lit (h.to a ha)
theorem Ln (h : Q .normal f w) : L P n ops Q [] f w := h
abbrev Runs (P : Program) (f : Nat → Value) (o : Oper) (w : World) (v : Value) : Prop := (execOp (ev f) o).run P w = .ok (.value v) w
theorem L.val {v : Value} {w' : World} (hw : Region.wanted o (yf ops f) = true) (hr : (execOp (ev f) o).run P w = .ok (.value v) w') (hd : inn n o.dst = true) (h : L P n ops Q rest (put f o.dst v) w') : L P n ops Q (o :: rest) f w :=
  ⟨hd, .inl ⟨hw, .inl ⟨v, w', hr, h⟩⟩⟩
theorem Lv (v : Value) (hr : Runs P f o w v) (h : L P n ops Q rest (put f o.dst v) w) (hw : Region.wanted o (yf ops f) = true := by rfl) (hd : inn n o.dst = true := by rfl) : L P n ops Q (o :: rest) f w := L.val hw hr hd h
theorem L.unit {w' : World} (hw : Region.wanted o (yf ops f) = true) (hr : (execOp (ev f) o).run P w = .ok .skip w') (hd : inn n o.dst = true) (h : L P n ops Q rest (put f o.dst undef) w') : L P n ops Q (o :: rest) f w :=
  ⟨hd, .inl ⟨hw, .inr (.inl ⟨w', hr, h⟩)⟩⟩
theorem Lk (hw : Region.wanted o (yf ops f) = false) (hd : inn n o.dst = true) (h : L P n ops Q rest (put f o.dst undef) w) : L P n ops Q (o :: rest) f w :=
  ⟨hd, .inr ⟨hw, h⟩⟩
theorem L.call {g : FuncId} {args : Array Value} (hw : Region.wanted o (yf ops f) = true) (hr : (execOp (ev f) o).run P w = .ok (.enter g args) w) (hd : inn n o.dst = true)
    (h : Calls P g args w fun e w' => ∃ v, e = .returned v ∧ L P n ops Q rest (put f o.dst v) w') : L P n ops Q (o :: rest) f w :=
  ⟨hd, .inl ⟨hw, .inr (.inr ⟨g, args, hr, h⟩)⟩⟩
def Qt (P : Program) (n : Nat) (ops : Array Oper) (C : World → Prop) (Q : (Nat → Value) → Prop) (rest : List Oper) (f : Nat → Value) : Prop := ∀ a, Fr a n f → wpQuiet P ops C (fun a' => ∃ f', Fr a' n f' ∧ Q f') rest a
variable {C : World → Prop} {R : (Nat → Value) → Prop}
theorem W.quiet {id : Nat} {ops : List Oper} (C : World → Prop) (hm : P.follows .mixedOrders = true) (hB : Region.lexB .any ops.toArray = true) (hC : C w.drew)
    (h : Qt P n ops.toArray C (fun f' => ∀ w', C w' → Q .normal f' w') ops f) : W P n (.region id ops.toArray true) Q f w := fun a ha => by
  refine wp_region_quiet (C := C) hm hB hC ?_
  have := h a ha
  have key : ∀ (l : List Oper) (a : Act), wpQuiet P ops.toArray C (fun a' => ∃ f', Fr a' n f' ∧ ∀ w', C w' → Q .normal f' w') l a → wpQuiet P ops.toArray C (fun a' => ∀ w', C w' → lift n Q .normal a' w') l a := by
    intro l
    induction l with
    | nil => intro a h; obtain ⟨f', hf', hq⟩ := h; exact fun w' hw' => ⟨f', hf', hq w' hw'⟩
    | cons o l ih =>
      intro a h
      unfold wpQuiet at h ⊢
      split
      · rename_i hw; rw [if_pos hw] at h; obtain ⟨v, h1, h2⟩ := h; exact ⟨v, h1, ih _ h2⟩
      · rename_i hw; rw [if_neg hw] at h; exact ih _ h
  exact key _ _ this
theorem Qt.nil (h : R f) : Qt P n ops C R [] f := fun _ ha => ⟨f, ha, h⟩
theorem Qt.val {v : Value} (hw : Region.wanted o (yf ops f) = true) (hr : ∀ w, C w → (execOp (ev f) o).run P w = .ok (.value v) w) (hd : inn n o.dst = true) (h : Qt P n ops C R rest (put f o.dst v)) : Qt P n ops C R (o :: rest) f := fun a ha => by
  unfold wpQuiet
  rw [ha.yf, if_pos hw]
  refine ⟨v, fun w hc => ?_, h _ (ha.put hd v)⟩
  unfold Oper.quietAt
  rw [ha.ev, hr w hc]
  exact ⟨rfl, rfl⟩
theorem Qv (v : Value) (hr : ∀ w, C w → Runs P f o w v) (h : Qt P n ops C R rest (put f o.dst v)) (hw : Region.wanted o (yf ops f) = true := by rfl) (hd : inn n o.dst = true := by rfl) : Qt P n ops C R (o :: rest) f := Qt.val hw hr hd h
theorem Qs (hw : Region.wanted o (yf ops f) = false) (hd : inn n o.dst = true) (h : Qt P n ops C R rest (put f o.dst undef)) : Qt P n ops C R (o :: rest) f := fun a ha => by
  unfold wpQuiet
  rw [ha.yf, if_neg (by rw [hw]; decide)]
  exact h _ (ha.put hd undef)
theorem Qt.call {v : Value} {g : FuncId} {args : Array Value} (hw : Region.wanted o (yf ops f) = true) (hr : ∀ w, C w → (execOp (ev f) o).run P w = .ok (.enter g args) w) (hd : inn n o.dst = true)
    (hc : ∀ w, C w → Calls P g args w fun e w' => e = .returned v ∧ C w') (h : Qt P n ops C R rest (put f o.dst v)) : Qt P n ops C R (o :: rest) f := fun a ha => by
  unfold wpQuiet
  rw [ha.yf, if_pos hw]
  refine ⟨v, fun w hcw => ?_, h _ (ha.put hd v)⟩
  unfold Oper.quietAt
  rw [ha.ev, hr w hcw]
  exact ⟨rfl, hc w hcw⟩
def St (P : Program) (n : Nat) (ops : Array Oper) (w : World) (Q : (Nat → Value) → Prop) (rest : List Oper) (f : Nat → Value) : Prop := ∀ a, Fr a n f → wpStill P ops w (fun a' => ∃ f', Fr a' n f' ∧ Q f') rest a
theorem St.nil (h : R f) : St P n ops w R [] f := fun _ ha => ⟨f, ha, h⟩
theorem St.val {v : Value} (hw : Region.wanted o (yf ops f) = true) (hr : (execOp (ev f) o).run P w = .ok (.value v) w) (hd : inn n o.dst = true) (h : St P n ops w R rest (put f o.dst v)) : St P n ops w R (o :: rest) f := fun a ha => by
  unfold wpStill
  rw [ha.yf, if_pos hw]
  unfold Oper.still
  rw [ha.ev, hr]
  exact ⟨rfl, h _ (ha.put hd v)⟩
theorem St.v (v : Value) (hr : Runs P f o w v) (h : St P n ops w R rest (put f o.dst v)) (hw : Region.wanted o (yf ops f) = true := by rfl) (hd : inn n o.dst = true := by rfl) : St P n ops w R (o :: rest) f := St.val hw hr hd h
theorem St.skip (hw : Region.wanted o (yf ops f) = false) (hd : inn n o.dst = true) (h : St P n ops w R rest (put f o.dst undef)) : St P n ops w R (o :: rest) f := fun a ha => by
  unfold wpStill
  rw [ha.yf, if_neg (by rw [hw]; decide)]
  exact h _ (ha.put hd undef)
theorem St.call {v : Value} {g : FuncId} {args : Array Value} (hw : Region.wanted o (yf ops f) = true) (hr : (execOp (ev f) o).run P w = .ok (.enter g args) w) (hd : inn n o.dst = true)
    (hc : Calls P g args w fun e w' => e = .returned v ∧ w' = w) (h : St P n ops w R rest (put f o.dst v)) : St P n ops w R (o :: rest) f := fun a ha => by
  unfold wpStill
  rw [ha.yf, if_pos hw]
  unfold Oper.still
  rw [ha.ev, hr]
  exact ⟨rfl, v, hc, h _ (ha.put hd v)⟩
theorem W.tail {id : Nat} {ops : List Oper} (k : Nat) (hm : P.follows .mixedOrders = true) (hB : Region.lexTailB .any ops.toArray k = true)
    (h : ∀ w1, Below w.heap.size w w1 → w1.heap.size = w.heap.size → St P n ops.toArray w1 (fun f' => L P n ops.toArray Q (ops.drop k) f' w1) (ops.take k) f) : W P n (.region id ops.toArray true) Q f w := fun a ha => by
  refine wp_region_still_tail k hm hB ?_
  have := h { w with drawn := w.drawn + 1 } (Below.refl _ _).drew rfl a ha
  have key : ∀ (l : List Oper) (a : Act), wpStill P ops.toArray { w with drawn := w.drawn + 1 } (fun a' => ∃ f', Fr a' n f' ∧ L P n ops.toArray Q (ops.drop k) f' { w with drawn := w.drawn + 1 }) l a →
      wpStill P ops.toArray { w with drawn := w.drawn + 1 } (fun a' => wpList P ops.toArray (lift n Q) (ops.drop k) a' { w with drawn := w.drawn + 1 }) l a := by
    intro l
    induction l with
    | nil => intro a h; obtain ⟨f', hf', hq⟩ := h; exact hq.to a hf'
    | cons o l ih =>
      intro a h
      unfold wpStill at h ⊢
      split
      · rename_i hw
        rw [if_pos hw] at h
        unfold Oper.still Oper.stillUpon at h ⊢
        split <;> rename_i hr <;> simp only [hr] at h
        · exact ⟨h.1, ih _ h.2⟩
        · exact ⟨h.1, ih _ h.2⟩
        · obtain ⟨h1, v, h2, h3⟩ := h; exact ⟨h1, v, h2, ih _ h3⟩
      · rename_i hw; rw [if_neg hw] at h; exact ih _ h
  exact key _ _ this
def rdF (f : Nat → Value) : ResultVar → Sem Value
  | .tmp t => pure (f t)
  | .cell a t => do loadVar t (← asAddr (f a))
def resF (fn : Func) (f : Nat → Value) : Sem Value := do
  let vs ← fn.results.mapM (rdF f)
  pure (if h : vs.size = 1 then vs[0] else .tuple vs)
def retK (P : Program) (fn : Func) (R : Ending → World → Prop) : Post := fun e f w => match e with
  | .normal => ∃ v, (resF fn f).run P w = .ok v w ∧ R (.returned v) w
  | .ret => ∃ v, (resF fn f).run P w = .ok v w ∧ R (.returned v) w
  | .outgrown => R .outgrown w
  | _ => False
theorem resF_eq {a : Act} {n : Nat} {f : Nat → Value} (h : Fr a n f) (fn : Func) : results fn a.tmps = resF fn f := by
  unfold results resF
  congr 1
  congr 1
  funext x
  cases x <;> simp only [h.get, rdF]
def start (args : Array Value) : Nat → Value := fun i => args.getD i undef
theorem enter {g : FuncId} {fn : Func} {c : Code} {args : Array Value} {R : Ending → World → Prop} (hf : P.funcs[g]? = some fn) (hb : fn.body = some c) (hn : fn.ntmps = n) (ha : Nat.ble args.size n = true)
    (h : W P n c (retK P fn R) (start args) w) : Calls P g args w R := by
  have ha' : args.size ≤ n := Nat.le_of_ble_eq_true ha
  refine calls_of_wp hf hb ?_
  refine Code.wp_mono (fun e a w' hq => ?_) (h _ ⟨?_, rfl, ?_⟩)
  · obtain ⟨f', hf', hq⟩ := hq
    cases e <;> first
      | exact hq.elim
      | (obtain ⟨v, h1, h2⟩ := hq; exact ⟨hf'.defers, v, by rw [resF_eq hf']; exact h1, h2⟩)
      | exact hq
  · simp [hn]; omega
  intro i
  simp only [start, Array.getD_eq_getD_getElem?, Array.getElem?_append, Array.getElem?_replicate]
  by_cases hi : i < args.size
  · simp [hi]
  simp [hi]
  by_cases h2 : i - args.size < fn.ntmps - args.size
  · simp [h2]
  simp [h2]
theorem sN {y : Code} (h : W P n y Q f w) : seqK P n y Q .normal f w := h
theorem seqX {y : Code} {id : Nat} (h : Q (.exit id) f w) : seqK P n y Q (.exit id) f w := h
theorem sR {y : Code} (h : Q .ret f w) : seqK P n y Q .ret f w := h
theorem blkN {id : Nat} (h : Q .normal f w) : blockK id Q .normal f w := h
theorem blkR {id : Nat} (h : Q .ret f w) : blockK id Q .ret f w := h
theorem blkX {id : Nat} (h : Q .normal f w) : blockK id Q (.exit id) f w := by simp only [blockK, if_true]; exact h
theorem lpX {I : (Nat → Value) → World → Prop} {m : (Nat → Value) → World → Nat} {k id : Nat} (h : Q (.exit id) f w) : loopK I m k Q (.exit id) f w := h
theorem lpR {I : (Nat → Value) → World → Prop} {m : (Nat → Value) → World → Nat} {k : Nat} (h : Q .ret f w) : loopK I m k Q .ret f w := h
theorem lpN {I : (Nat → Value) → World → Prop} {m : (Nat → Value) → World → Nat} {k : Nat} (h : I f w) (hm : m f w < k) : loopK I m k Q .normal f w := ⟨h, hm⟩
theorem args1 {x1 : Operand} {v1 : Value} (h1 : ev f x1 = v1) : [x1].map (ev f) = [v1] := by rw [List.map_cons, h1]; rfl
theorem args2 {x1 x2 : Operand} {v1 v2 : Value} (h1 : ev f x1 = v1) (h2 : ev f x2 = v2) : [x1, x2].map (ev f) = [v1, v2] := by rw [List.map_cons, h1, args1 h2]
theorem args3 {x1 x2 x3 : Operand} {v1 v2 v3 : Value} (h1 : ev f x1 = v1) (h2 : ev f x2 = v2) (h3 : ev f x3 = v3) : [x1, x2, x3].map (ev f) = [v1, v2, v3] := by rw [List.map_cons, h1, args2 h2 h3]
theorem args4 {x1 x2 x3 x4 : Operand} {v1 v2 v3 v4 : Value} (h1 : ev f x1 = v1) (h2 : ev f x2 = v2) (h3 : ev f x3 = v3) (h4 : ev f x4 = v4) : [x1, x2, x3, x4].map (ev f) = [v1, v2, v3, v4] := by rw [List.map_cons, h1, args3 h2 h3 h4]
end
end Fx
end Go.Proofs.Ytleajegppehbdaa
namespace Go.Proofs.Ytleajegppehbdaa
open Go.RowKit
namespace Fx
section
variable {P : Program} {f : Nat → Value} {w : World} {o : Oper}
theorem x_move {x : Operand} {v : Value} (ho : o.op = .move x) (hx : ev f x = v) : Runs P f o w v := by
  unfold Runs execOp; simp [ho, hx]
theorem x_assign {x : Operand} {v : Value} (ho : o.op = .assign x) (hx : ev f x = v) : Runs P f o w v := by
  unfold Runs execOp; simp [ho, hx]
theorem x_pick {c x y : Operand} {b : Bool} {u v : Value} (ho : o.op = .pick c x y) (hc : ev f c = .bool b) (hx : ev f x = u) (hy : ev f y = v) : Runs P f o w (if b then u else v) := by
  unfold Runs execOp; simp [ho, hc, hx, hy, asBool]
theorem x_pickT {c x y : Operand} {u : Value} (ho : o.op = .pick c x y) (hc : ev f c = .bool true) (hx : ev f x = u) : Runs P f o w u := x_pick ho hc hx rfl
theorem x_pickF {c x y : Operand} {v : Value} (ho : o.op = .pick c x y) (hc : ev f c = .bool false) (hy : ev f y = v) : Runs P f o w v := x_pick ho hc rfl hy
theorem run_eqGuard_ints {P : Program} {w : World} (op : BinOp) (t : TypeId) (x y : Operand) (k k' : IntKind) (a b : Int) : (eqGuard op t x y (.int k a) (.int k' b)).run P w = .ok () w := by
  unfold eqGuard; cases op <;> rfl
theorem x_int {op : BinOp} {T T' : TypeId} {x y : Operand} {k : IntKind} {a b : Int} {v : Value} (ho : o.op = .binOp op T x y T') (hx : ev f x = .int k a) (hy : ev f y = .int k b) (h : (binOp op T (.int k a) (.int k b)).run P w = .ok v w) : Runs P f o w v := by
  unfold Runs execOp
  simp only [ho, hx, hy]
  simp only [Sem.run_bind, run_eqGuard_ints, Result.andThen_ok, h, Sem.run_pure]
theorem x_add {T T' : TypeId} {x y : Operand} {k : IntKind} {a b c : Int} (ho : o.op = .binOp .add T x y T') (hx : ev f x = .int k a) (hy : ev f y = .int k b) (hc : k.wrap (a + b) = c) : Runs P f o w (.int k c) :=
  x_int ho hx hy (by simp [binOp, Op.intArith, hc])
theorem x_sub {T T' : TypeId} {x y : Operand} {k : IntKind} {a b c : Int} (ho : o.op = .binOp .sub T x y T') (hx : ev f x = .int k a) (hy : ev f y = .int k b) (hc : k.wrap (a - b) = c) : Runs P f o w (.int k c) :=
  x_int ho hx hy (by simp [binOp, Op.intArith, hc])
theorem x_rem {T T' : TypeId} {x y : Operand} {k : IntKind} {a b c : Int} (ho : o.op = .binOp .rem T x y T') (hx : ev f x = .int k a) (hy : ev f y = .int k b) (h0 : b ≠ 0) (hc : a.tmod b = c) : Runs P f o w (.int k c) :=
  x_int ho hx hy (by simp [binOp, Op.intDiv, hc, h0])
theorem x_lss {T T' : TypeId} {x y : Operand} {k : IntKind} {a b : Int} (ho : o.op = .binOp .lss T x y T') (hx : ev f x = .int k a) (hy : ev f y = .int k b) : Runs P f o w (.bool (decide (a < b))) :=
  x_int ho hx hy (by simp [binOp, Op.intCmp])
theorem x_leq {T T' : TypeId} {x y : Operand} {k : IntKind} {a b : Int} (ho : o.op = .binOp .leq T x y T') (hx : ev f x = .int k a) (hy : ev f y = .int k b) : Runs P f o w (.bool (decide (a ≤ b))) :=
  x_int ho hx hy (by simp [binOp, Op.intCmp])
theorem x_gtr {T T' : TypeId} {x y : Operand} {k : IntKind} {a b : Int} (ho : o.op = .binOp .gtr T x y T') (hx : ev f x = .int k a) (hy : ev f y = .int k b) : Runs P f o w (.bool (decide (b < a))) :=
  x_int ho hx hy (by simp [binOp, Op.intCmp])
theorem x_geq {T T' : TypeId} {x y : Operand} {k : IntKind} {a b : Int} (ho : o.op = .binOp .geq T x y T') (hx : ev f x = .int k a) (hy : ev f y = .int k b) : Runs P f o w (.bool (decide (b ≤ a))) :=
  x_int ho hx hy (by simp [binOp, Op.intCmp])
theorem x_eql {T T' : TypeId} {x y : Operand} {k : IntKind} {a b : Int} (ho : o.op = .binOp .eql T x y T') (hx : ev f x = .int k a) (hy : ev f y = .int k b) : Runs P f o w (.bool (decide (a = b))) :=
  x_int ho hx hy (by simp [binOp, Op.intCmp]; rfl)
theorem x_neq {T T' : TypeId} {x y : Operand} {k : IntKind} {a b : Int} (ho : o.op = .binOp .neq T x y T') (hx : ev f x = .int k a) (hy : ev f y = .int k b) : Runs P f o w (.bool (!decide (a = b))) :=
  x_int ho hx hy (by simp [binOp, Op.intCmp]; rfl)
theorem x_not {T : TypeId} {x : Operand} {b : Bool} (ho : o.op = .unOp .not T x) (hx : ev f x = .bool b) : Runs P f o w (.bool (!b)) := by
  unfold Runs execOp; simp [ho, hx, Op.unary]
theorem x_lssT {T T' : TypeId} {x y : Operand} {k : IntKind} {a b : Int} (ho : o.op = .binOp .lss T x y T') (hx : ev f x = .int k a) (hy : ev f y = .int k b) (h : a < b) : Runs P f o w (.bool true) := by
  have := x_lss (P := P) (w := w) ho hx hy; rwa [decide_eq_true h] at this
theorem x_lssF {T T' : TypeId} {x y : Operand} {k : IntKind} {a b : Int} (ho : o.op = .binOp .lss T x y T') (hx : ev f x = .int k a) (hy : ev f y = .int k b) (h : ¬ (a < b)) : Runs P f o w (.bool false) := by
  have := x_lss (P := P) (w := w) ho hx hy; rwa [decide_eq_false h] at this
theorem x_leqT {T T' : TypeId} {x y : Operand} {k : IntKind} {a b : Int} (ho : o.op = .binOp .leq T x y T') (hx : ev f x = .int k a) (hy : ev f y = .int k b) (h : a ≤ b) : Runs P f o w (.bool true) := by
  have := x_leq (P := P) (w := w) ho hx hy; rwa [decide_eq_true h] at this
theorem x_leqF {T T' : TypeId} {x y : Operand} {k : IntKind} {a b : Int} (ho : o.op = .binOp .leq T x y T') (hx : ev f x = .int k a) (hy : ev f y = .int k b) (h : ¬ (a ≤ b)) : Runs P f o w (.bool false) := by
  have := x_leq (P := P) (w := w) ho hx hy; rwa [decide_eq_false h] at this
theorem x_gtrT {T T' : TypeId} {x y : Operand} {k : IntKind} {a b : Int} (ho : o.op = .binOp .gtr T x y T') (hx : ev f x = .int k a) (hy : ev f y = .int k b) (h : b < a) : Runs P f o w (.bool true) := by
  have := x_gtr (P := P) (w := w) ho hx hy; rwa [decide_eq_true h] at this
theorem x_gtrF {T T' : TypeId} {x y : Operand} {k : IntKind} {a b : Int} (ho : o.op = .binOp .gtr T x y T') (hx : ev f x = .int k a) (hy : ev f y = .int k b) (h : ¬ (b < a)) : Runs P f o w (.bool false) := by
  have := x_gtr (P := P) (w := w) ho hx hy; rwa [decide_eq_false h] at this
theorem x_geqT {T T' : TypeId} {x y : Operand} {k : IntKind} {a b : Int} (ho : o.op = .binOp .geq T x y T') (hx : ev f x = .int k a) (hy : ev f y = .int k b) (h : b ≤ a) : Runs P f o w (.bool true) := by
  have := x_geq (P := P) (w := w) ho hx hy; rwa [decide_eq_true h] at this
theorem x_geqF {T T' : TypeId} {x y : Operand} {k : IntKind} {a b : Int} (ho : o.op = .binOp .geq T x y T') (hx : ev f x = .int k a) (hy : ev f y = .int k b) (h : ¬ (b ≤ a)) : Runs P f o w (.bool false) := by
  have := x_geq (P := P) (w := w) ho hx hy; rwa [decide_eq_false h] at this
theorem x_eqlT {T T' : TypeId} {x y : Operand} {k : IntKind} {a b : Int} (ho : o.op = .binOp .eql T x y T') (hx : ev f x = .int k a) (hy : ev f y = .int k b) (h : a = b) : Runs P f o w (.bool true) := by
  have := x_eql (P := P) (w := w) ho hx hy; rwa [decide_eq_true h] at this
theorem x_eqlF {T T' : TypeId} {x y : Operand} {k : IntKind} {a b : Int} (ho : o.op = .binOp .eql T x y T') (hx : ev f x = .int k a) (hy : ev f y = .int k b) (h : ¬ (a = b)) : Runs P f o w (.bool false) := by
  have := x_eql (P := P) (w := w) ho hx hy; rwa [decide_eq_false h] at this
theorem x_neqT {T T' : TypeId} {x y : Operand} {k : IntKind} {a b : Int} (ho : o.op = .binOp .neq T x y T') (hx : ev f x = .int k a) (hy : ev f y = .int k b) (h : ¬ (a = b)) : Runs P f o w (.bool true) := by
  have := x_neq (P := P) (w := w) ho hx hy; rwa [decide_eq_false h] at this
theorem x_neqF {T T' : TypeId} {x y : Operand} {k : IntKind} {a b : Int} (ho : o.op = .binOp .neq T x y T') (hx : ev f x = .int k a) (hy : ev f y = .int k b) (h : a = b) : Runs P f o w (.bool false) := by
  have := x_neq (P := P) (w := w) ho hx hy; rwa [decide_eq_true h] at this
theorem x_notT {T : TypeId} {x : Operand} (ho : o.op = .unOp .not T x) (hx : ev f x = .bool false) : Runs P f o w (.bool true) := x_not ho hx
theorem x_notF {T : TypeId} {x : Operand} (ho : o.op = .unOp .not T x) (hx : ev f x = .bool true) : Runs P f o w (.bool false) := x_not ho hx
theorem i64e {a c : Int} (h : -9223372036854775808 ≤ c ∧ c ≤ 9223372036854775807) (e : a = c) : IntKind.i64.wrap a = c := by subst e; exact IntWalk.i64_in _ h
theorem u64e {a c : Int} (h : 0 ≤ c ∧ c ≤ 18446744073709551615) (e : a = c) : IntKind.u64.wrap a = c := by subst e; exact IntWalk.u64_in _ h
theorem x_nil {x : Operand} {a : Addr} (ho : o.op = .nilCheck x) (hx : ev f x = .pointer (some a)) : Runs P f o w (.pointer (some a)) := by
  unfold Runs execOp; simp [ho, hx]
theorem x_conv {S T : TypeId} {x : Operand} {k k' : IntKind} {a c : Int} (ho : o.op = .convert S T x) (hx : ev f x = .int k' a) (hs : (P.underlying S).isSome = true) (hd : P.underlying T = some (.int k)) (hc : k.wrap a = c) : Runs P f o w (.int k c) := by
  unfold Runs execOp
  simp only [ho, hx]
  have hk : P.intKind T = k := by unfold Program.intKind; rw [hd]
  have := run_convert_int w S T k' a hs (hk.symm ▸ hd)
  rw [hk, hc] at this
  simp only [Sem.run_bind, this, Result.andThen_ok, Sem.run_pure]
theorem x_extract {x : Operand} {vs : Array Value} {i : Nat} {v : Value} (ho : o.op = .extract x i) (hx : ev f x = .tuple vs) (hv : vs[i]? = some v) : Runs P f o w v := by
  unfold Runs execOp; simp [ho, hx, Instr.extract, hv]
theorem x_len {T : TypeId} {x : Operand} {b : Option Addr} {n c : Nat} {Ts : Array TypeId} (ho : o.op = .call { callee := .builtin .len, args := #[x], argTypes := Ts }) (hT : Ts = #[T]) (hx : ev f x = .slice b n c) (hu : P.underlying T = some (.slice (P.elem T))) : Runs P f o w (.int .i64 n) := by
  unfold Runs execOp
  simp only [ho]
  unfold resolve invoke
  simp only [hT, List.map_toArray, List.map_cons, List.map_nil, hx]
  unfold builtin
  simp only [Sem.run_bind, Sem.run_pure, Result.andThen_ok, run_len_slice w T o.type b n c hu, goInt]
theorem x_max {x y : Operand} {Ts : Array TypeId} {k k' : IntKind} {a b : Int} (ho : o.op = .call { callee := .builtin .max, args := #[x, y], argTypes := Ts }) (hx : ev f x = .int k a) (hy : ev f y = .int k' b) : Runs P f o w (.int k (if b > a then b else a)) := by
  unfold Runs execOp
  simp only [ho]
  unfold resolve invoke
  simp only [List.map_toArray, List.map_cons, List.map_nil, hx, hy]
  unfold builtin
  simp only [Sem.run_bind, Sem.run_pure, Result.andThen_ok, run_max_int2]
theorem x_min {x y : Operand} {Ts : Array TypeId} {k k' : IntKind} {a b : Int} (ho : o.op = .call { callee := .builtin .min, args := #[x, y], argTypes := Ts }) (hx : ev f x = .int k a) (hy : ev f y = .int k' b) : Runs P f o w (.int k (if b < a then b else a)) := by
  unfold Runs execOp
  simp only [ho]
  unfold resolve invoke
  simp only [List.map_toArray, List.map_cons, List.map_nil, hx, hy]
  unfold builtin
  simp only [Sem.run_bind, Sem.run_pure, Result.andThen_ok, run_min_int2]
theorem x_field {S : TypeId} {x : Operand} {i : Nat} {b off off' : Nat} {fs : Array Field} {fd : Field} {s : Nat} (ho : o.op = .fieldAddr S x i) (hx : ev f x = .pointer (some ⟨b, off, none⟩)) (hs : P.underlying S = some (.struct fs))
    (hf : fs[i]? = some fd) (hz : (P.info? fd.type).map (·.size) = some s) (h0 : Nat.beq s 0 = false) (he : off + fd.offset = off') : Runs P f o w (.pointer (some ⟨b, off', none⟩)) := by
  have h0' : s ≠ 0 := fun e => by rw [e] at h0; exact absurd h0 (by decide)
  obtain ⟨z, hz1, hz2⟩ := Option.map_eq_some_iff.1 hz
  rw [← hz2] at h0'
  unfold Runs execOp
  simp only [ho, hx]
  simp [Instr.fieldAt, underlying, hs, hf, Instr.sureAddr, fieldPlace, sizeOf, typeInfo, hz1, h0', addr_add, he]
theorem x_index {T : TypeId} {x i : Operand} {b off off' : Nat} {k : IntKind} {j : Int} {m s : Nat} {E : TypeId} (ho : o.op = .indexAddr T x i) (hx : ev f x = .pointer (some ⟨b, off, none⟩)) (hi : ev f i = .int k j)
    (hu : P.underlying T = some (.array m E)) (hz : (P.info? E).map (·.size) = some s) (h0 : 0 ≤ j) (h1 : j < (m : Int)) (he : off + j.toNat * s = off') : Runs P f o w (.pointer (some ⟨b, off', none⟩)) := by
  obtain ⟨z, hz1, hz2⟩ := Option.map_eq_some_iff.1 hz
  unfold Runs execOp
  simp only [ho, hx, hi]
  simp [Instr.indexAt, asIntOf, underlying, hu, Instr.sureAddr, h0, h1, sizeOf, typeInfo, hz1, hz2, addr_add, he]
theorem x_indexS {T : TypeId} {x i : Operand} {b off off' len cap : Nat} {k : IntKind} {j : Int} {s : Nat} {E : TypeId} (ho : o.op = .indexAddr T x i) (hx : ev f x = .slice (some ⟨b, off, none⟩) len cap) (hi : ev f i = .int k j)
    (hu : P.underlying T = some (.slice E)) (hz : (P.info? E).map (·.size) = some s) (h0 : 0 ≤ j) (h1 : j < (len : Int)) (he : off + j.toNat * s = off') : Runs P f o w (.pointer (some ⟨b, off', none⟩)) := by
  obtain ⟨z, hz1, hz2⟩ := Option.map_eq_some_iff.1 hz
  unfold Runs execOp
  simp only [ho, hx, hi]
  simp [Instr.indexAt, asIntOf, underlying, hu, h0, h1, sizeOf, typeInfo, hz1, hz2, addr_add, he]
end
end Fx
end Go.Proofs.Ytleajegppehbdaa
namespace Go.Proofs.Ytleajegppehbdaa
open Go.RowKit
namespace Fx
def varr (n : Nat) (x : Nat → Value) : Array Value := Array.ofFn (fun i : Fin n => x i)
theorem varr_size (n : Nat) (x : Nat → Value) : (varr n x).size = n := by unfold varr; simp
theorem varr_get {n : Nat} (x : Nat → Value) {i : Nat} (h : i < n) : (varr n x)[i]? = some (x i) := by unfold varr; simp [h]
theorem varr_none {n : Nat} (x : Nat → Value) {i : Nat} (h : n ≤ i) : (varr n x)[i]? = none := by unfold varr; simp [h]
theorem varr_ext {n : Nat} {x : Nat → Value} {a : Array Value} (hs : a.size = n) (h : ∀ i, i < n → a[i]? = some (x i)) : a = varr n x := by
  apply Array.ext_getElem?
  intro i
  by_cases hi : i < n
  · rw [h i hi, varr_get x hi]
  rw [varr_none x (by omega), Array.getElem?_eq_none (by omega)]
theorem varr_congr {n : Nat} {x y : Nat → Value} (h : ∀ i, i < n → x i = y i) : varr n x = varr n y := by
  unfold varr; congr 1; funext i; exact h i.1 i.2
def updV (x : Nat → Value) (i : Nat) (v : Value) : Nat → Value := fun j => if j = i then v else x j
def ovr (x : Nat → Value) (o m : Nat) (y : Nat → Value) : Nat → Value := fun j => if o ≤ j ∧ j < o + m then y (j - o) else x j
theorem updV_eq {x : Nat → Value} {i j : Nat} {v : Value} (h : j = i) : updV x i v j = v := by unfold updV; rw [if_pos h]
theorem updV_ne {x : Nat → Value} {i j : Nat} {u v : Value} (h : j ≠ i) (e : x j = u) : updV x i v j = u := by unfold updV; rw [if_neg h]; exact e
theorem ovr_in {x y : Nat → Value} {o m q j : Nat} {u : Value} (h : q = o + j) (hj : j < m) (e : y j = u) : ovr x o m y q = u := by unfold ovr; rw [if_pos ⟨by omega, by omega⟩, h, Nat.add_sub_cancel_left]; exact e
def rv (k : IntKind) (x : Nat → Int) : Nat → Value := fun i => .int k (x i)
theorem updV_rv (k : IntKind) (x : Nat → Int) (i : Nat) (v : Int) : updV (rv k x) i (.int k v) = rv k (upd x i v) := by
  funext j; unfold updV rv upd; split <;> rfl
def Cel (w : World) (b off n : Nat) (x : Nat → Value) : Prop := ∀ i, i < n → w.cell? ⟨b, off + i, none⟩ = some (x i)
def Blk (w : World) (g n : Nat) (x : Nat → Value) (T : TypeId) : Prop := w.heap[g]? = some (.cells (varr n x) T (0, 0))
structure Stp (g : Nat) (w w' : World) : Prop where
  os : w'.os = w.os
  tape : w'.tape = w.tape
  output : w'.output = w.output
  size : w.heap.size ≤ w'.heap.size
  block : ∀ k, k < w.heap.size → k ≠ g → w'.heap[k]? = w.heap[k]?
theorem Stp.below {g B : Nat} {w0 w w' : World} (s : Stp g w w') (h : Below B w0 w) (hB : B ≤ w.heap.size) (hg : B ≤ g) : Below B w0 w' :=
  h.trans ⟨s.os, s.tape, s.output, s.size, fun k hk => s.block k (by omega) (by omega)⟩
theorem Sb {w w' : World} (h : Below w.heap.size w w') : Stp w.heap.size w w' := ⟨h.os, h.tape, h.output, h.size, fun k hk _ => h.block k hk⟩
theorem Stp.old {w w' : World} (s : Stp w.heap.size w w') : Below w.heap.size w w' := ⟨s.os, s.tape, s.output, s.size, fun k hk => s.block k hk (by omega)⟩
theorem Stp.drew {g : Nat} {w w' : World} (s : Stp g w w') : Stp g w w'.drew := ⟨s.os, s.tape, s.output, s.size, s.block⟩
theorem Stp.refl (g : Nat) (w : World) : Stp g w w := ⟨rfl, rfl, rfl, Nat.le_refl _, fun _ _ _ => rfl⟩
theorem Stp.alloc (w : World) (o : Obj) : Stp w.heap.size w (w.alloc o) := Sb ((Below.refl _ _).alloc (Nat.le_refl _) o)
theorem Blk.lt {w : World} {g n : Nat} {x : Nat → Value} {T : TypeId} (h : Blk w g n x T) : g < w.heap.size := (Array.getElem?_eq_some_iff.1 h).1
theorem Blk.stp {w w' : World} {g b n : Nat} {x : Nat → Value} {T : TypeId} (h : Blk w b n x T) (s : Stp g w w') (ne : b ≠ g) : Blk w' b n x T := (s.block b h.lt ne).trans h
theorem Blk.cel {w : World} {g n : Nat} {x : Nat → Value} {T : TypeId} (h : Blk w g n x T) : Cel w g 0 n x := fun i hi => by
  rw [Nat.zero_add, cell_of_row w g i _ _ _ h]; exact varr_get x hi
theorem Cel.lt {w : World} {b off n : Nat} {x : Nat → Value} (h : Cel w b off n x) (hn : 0 < n) : b < w.heap.size := block_lt_of_cell (h 0 hn)
theorem Cel.stp {w w' : World} {g b off n : Nat} {x : Nat → Value} (h : Cel w b off n x) (s : Stp g w w') (ne : b ≠ g) : Cel w' b off n x := fun i hi => by
  have hc := h i hi
  have hlt : b < w.heap.size := block_lt_of_cell hc
  rw [← hc]
  exact World.cell?_of_block (w := w) (s.block b hlt ne)
theorem Cel.below {w w' : World} {b off n B : Nat} {x : Nat → Value} (h : Cel w b off n x) (s : Below B w w') (hb : b < B) : Cel w' b off n x := fun i hi => by
  rw [← h i hi]; exact s.cell (p := ⟨b, off + i, none⟩) hb
theorem Cel.sub {w : World} {b off n : Nat} {x : Nat → Value} (h : Cel w b off n x) (o m : Nat) (hm : o + m ≤ n) : Cel w b (off + o) m (fun i => x (o + i)) := fun i hi => by
  have := h (o + i) (by omega); rwa [← Nat.add_assoc] at this
def aggT (P : Program) (T : TypeId) : Bool := match P.underlying T with | some (.struct _) => true | some (.array _ _) => true | _ => false
def oneT (P : Program) (T : TypeId) : Bool := match P.underlying T with | some (.struct _) => false | some (.array _ _) => false | some _ => true | none => false
theorem Blk.to {w : World} {g n : Nat} {x y : Nat → Value} {T : TypeId} (h : Blk w g n x T) (e : x = y) : Blk w g n y T := e ▸ h
theorem upd_all {w : World} {g : Nat} {x : Nat → Value} {v : Value} {T : TypeId} (h : Blk w g 1 (updV x 0 v) T) : Blk w g 1 (fun _ => v) T := by
  unfold Blk at *
  rw [h, varr_congr (y := fun _ => v) fun i hi => by simp [updV]; omega]
theorem ovr_all {w : World} {g n : Nat} {x y : Nat → Value} {T : TypeId} (h : Blk w g n (ovr x 0 n y) T) : Blk w g n y T := by
  unfold Blk at *
  rw [h, varr_congr (y := y) fun i hi => by simp [ovr, hi]]
section
variable {P : Program} {n : Nat} {Q : Post} {f : Nat → Value} {w : World} {ops : Array Oper} {rest : List Oper} {o : Oper}
theorem x_load1 {T : TypeId} {a : Operand} {b off m i p : Nat} {x : Nat → Value} {v : Value} (ho : o.op = .load T a) (ha : ev f a = .pointer (some ⟨b, p, none⟩)) (hT : oneT P T = true) (hc : Cel w b off m x) (hi : i < m) (he : p = off + i) (hv : x i = v) : Runs P f o w v := by
  subst he
  subst hv
  have h1 := hc i hi
  unfold Runs execOp
  simp only [ho, ha]
  unfold oneT at hT
  cases hu : P.underlying T with
  | none => rw [hu] at hT; cases hT
  | some d =>
    rw [hu] at hT
    cases d <;> first
      | (cases hT; done)
      | simp [Instr.loadAt, Instr.sureAddr, loadVar, isAgg, underlying, hu, h1]
theorem x_loadA {T : TypeId} {a : Operand} {b off m i p s : Nat} {x y : Nat → Value} (ho : o.op = .load T a) (ha : ev f a = .pointer (some ⟨b, p, none⟩)) (hT : aggT P T = true) (hz : (P.info? T).map (·.size) = some s) (hc : Cel w b off m x) (hi : i + s ≤ m) (he : p = off + i) (hy : ∀ j, j < s → x (i + j) = y j) :
    Runs P f o w (.agg (varr s y)) := by
  subst he
  rw [← varr_congr hy]
  have hl : (varr s (fun j => x (i + j))).toList.length = s := by simp [varr_size]
  have hr : w.rangeAt b (off + i) (varr s (fun j => x (i + j))).toList := fun j v hv => by
    have hj : j < s := by have := (List.getElem?_eq_some_iff.1 hv).1; simpa [varr_size] using this
    rw [Array.getElem?_toList, varr_get _ hj] at hv
    rw [← Option.some.inj hv, Nat.add_assoc]
    exact hc (i + j) (by omega)
  unfold aggT at hT
  cases hu : P.underlying T with
  | none => rw [hu] at hT; cases hT
  | some d =>
    rw [hu] at hT
    have hd : d.isRow = true := by cases d <;> first | (cases hT; done) | rfl
    have := run_loadAt_mid (P := P) w b (off + i) T (varr s (fun j => x (i + j))).toList d hr hu hd (by rw [hl]; exact hz)
    unfold Runs execOp
    simp only [ho, ha, Sem.run_bind, this, Result.andThen_ok, Sem.run_pure, Array.toArray_toList]
theorem setRow_stp {g : Nat} {old cs : Array Value} {T : TypeId} (hg : w.heap[g]? = some (.cells old T (0, 0))) : Stp g w (w.setRow g cs) ∧ (w.setRow g cs).heap[g]? = some (.cells cs T (0, 0)) ∧ (w.setRow g cs).heap.size = w.heap.size := by
  refine ⟨⟨rfl, rfl, rfl, by simp, fun k _ hne => setRow_other _ _ _ _ (by omega)⟩, ?_, by simp⟩
  rw [setRow_heap w g old cs T (0, 0) hg]
theorem L.store1 {T TB : TypeId} {a v : Operand} {g m i : Nat} {x : Nat → Value} {u : Value} (hw : Region.wanted o (yf ops f) = true) (hd : o.dst = none) (ho : o.op = .store T a v) (ha : ev f a = .pointer (some ⟨g, i, none⟩)) (hv : ev f v = u) (h1 : u.oneCell' = true) (hT : (P.info? T).map (·.size) = some 1)
    (hb : Blk w g m x TB) (hi : i < m) (h : ∀ w', Blk w' g m (updV x i u) TB → Stp g w w' → w'.heap.size = w.heap.size → L P n ops Q rest f w') : L P n ops Q (o :: rest) f w := by
  have hcell : w.cell? ⟨g, i, none⟩ = some (x i) := by have := hb.cel i hi; rwa [Nat.zero_add] at this
  have hfz : w.frozen? ⟨g, i, none⟩ = false := by
    unfold World.frozen?
    simp only [show w.heap[g]? = _ from hb]
    simp
  have hr := run_storeVar_one (P := P) w g i T u (x i) hT h1 hcell hfz
  have hrun : (execOp (ev f) o).run P w = .ok .skip (w.setCell ⟨g, i, none⟩ u) := by
    unfold execOp
    simp only [ho, ha, hv, Instr.storeAt, Instr.sureAddr, Sem.run_bind, Sem.run_pure, Result.andThen_ok, hr]
  refine L.unit hw hrun (by rw [hd]; rfl) ?_
  rw [hd]
  refine h _ ?_ ⟨rfl, rfl, rfl, by simp [World.setCell], fun k _ hne => Below.heap_setCell _ _ _ _ (by simpa using hne)⟩ (by simp [World.setCell])
  show (w.setCell ⟨g, i, none⟩ u).heap[g]? = _
  have hg : w.heap[g]? = some (.cells (varr m x) TB (0, 0)) := hb
  simp only [World.setCell, Array.getElem?_modify, if_true, hg, Option.map_some, Option.isSome_none]
  congr 2
  refine varr_ext (by simp [varr_size]) fun j hj => ?_
  simp only [Bool.false_eq_true, if_false, Array.getElem?_setIfInBounds, updV]
  by_cases e : i = j
  · subst e; simp [varr_size, hj]
  rw [if_neg e, varr_get x hj, if_neg (fun h => e h.symm)]
theorem L.storeA {T TB : TypeId} {a v : Operand} {g m i s : Nat} {x y : Nat → Value} (hw : Region.wanted o (yf ops f) = true) (hd : o.dst = none) (ho : o.op = .store T a v) (ha : ev f a = .pointer (some ⟨g, i, none⟩)) (hv : ev f v = .agg (varr s y)) (h1 : ∀ j, j < s → (y j).oneCell' = true) (hT : (P.info? T).map (·.size) = some s)
    (hb : Blk w g m x TB) (hi : i + s ≤ m) (h : ∀ w', Blk w' g m (ovr x i s y) TB → Stp g w w' → w'.heap.size = w.heap.size → L P n ops Q rest f w') : L P n ops Q (o :: rest) f w := by
  have hg : w.heap[g]? = some (.cells (varr m x) TB (0, 0)) := hb
  have hall : ∀ u ∈ (varr s y).toList, u.oneCell' = true := fun u hu => by
    obtain ⟨j, hj, he⟩ := List.getElem_of_mem hu
    have hj' : j < s := by simpa [varr_size] using hj
    have := varr_get y hj'
    rw [← Array.getElem?_toList, List.getElem?_eq_getElem hj, he] at this
    rw [Option.some.inj this]; exact h1 j hj'
  have hr := run_storeCells_at (P := P) g i TB (varr s y).toList 0 (varr m x) w hg (by simp [varr_size]; omega) hall
  have hrun : (execOp (ev f) o).run P w = .ok .skip (w.setRow g ((varr m x).toList.take (i + 0) ++ (varr s y).toList ++ (varr m x).toList.drop (i + 0 + (varr s y).toList.length)).toArray) := by
    unfold execOp
    cases hq : P.info? T with
    | none => simp [hq] at hT
    | some z =>
      have hz : z.size = s := by simp [hq] at hT; omega
      have hsz : (Value.agg (varr s y)).cells = varr s y := rfl
      simp only [ho, ha, hv, Instr.storeAt, Instr.sureAddr, Sem.run_bind, Sem.run_pure, Result.andThen_ok, storeVar, sizeOf, typeInfo, run_program, hq, hsz, varr_size, hz, ne_eq, not_true_eq_false, if_false, hr]
  refine L.unit hw hrun (by rw [hd]; rfl) ?_
  rw [hd]
  obtain ⟨s1, s2, s3⟩ := setRow_stp (w := w) (cs := ((varr m x).toList.take (i + 0) ++ (varr s y).toList ++ (varr m x).toList.drop (i + 0 + (varr s y).toList.length)).toArray) hg
  refine h _ ?_ s1 s3
  show _ = _
  rw [s2]
  congr 2
  refine varr_ext (by simp [varr_size]; omega) fun j hj => ?_
  rw [List.getElem?_toArray, List.append_assoc]
  simp only [Nat.add_zero, ovr]
  by_cases c1 : j < i
  · rw [List.getElem?_append_left (by simp [varr_size]; omega), if_neg (by omega), List.getElem?_take, if_pos c1, Array.getElem?_toList, varr_get x hj]
  rw [List.getElem?_append_right (by simp [varr_size]; omega)]
  have hl : (List.take i (varr m x).toList).length = i := by simp [varr_size]; omega
  rw [hl]
  by_cases c2 : j < i + s
  · rw [List.getElem?_append_left (by simp [varr_size]; omega), if_pos ⟨by omega, c2⟩, Array.getElem?_toList, varr_get y (by omega)]
  rw [List.getElem?_append_right (by simp [varr_size]; omega), if_neg (by omega), List.getElem?_drop, Array.getElem?_toList]
  simp only [Array.length_toList, varr_size]
  rw [show i + s + (j - i - s) = j by omega, varr_get x hj]
theorem L.box {T : TypeId} {x : Operand} {v : Value} {m : Nat} {y : Nat → Value} (hw : Region.wanted o (yf ops f) = true) (ho : o.op = .box T x) (hx : ev f x = v) (hc : v.cells = varr m y) (hd : inn n o.dst = true)
    (h : ∀ g w', g = w.heap.size → Blk w' g m y T → Stp w.heap.size w w' → w'.heap.size = w.heap.size + 1 → L P n ops Q rest (put f o.dst (.pointer (some ⟨g, 0, none⟩))) w') : L P n ops Q (o :: rest) f w := by
  have hrun : (execOp (ev f) o).run P w = .ok (.value (.pointer (some ⟨w.heap.size, 0, none⟩))) (w.alloc (.cells v.cells T)) := by
    unfold execOp
    simp [ho, hx, Instr.box, newVar, newRow]
  refine L.val hw hrun hd (h _ _ rfl ?_ (Stp.alloc _ _) (by simp))
  show (w.alloc _).heap[w.heap.size]? = _
  rw [alloc_at, if_pos rfl, hc]
theorem cells_agg (m : Nat) (y : Nat → Value) : (Value.agg (varr m y)).cells = varr m y := rfl
theorem cells_one {v : Value} (h : v.oneCell' = true) : v.cells = varr 1 (fun _ => v) := by
  cases v <;> first | rfl | (simp [Value.oneCell'] at h)
theorem L.new {T : TypeId} {m : Nat} {y : Nat → Value} (hw : Region.wanted o (yf ops f) = true) (ho : o.op = .alloc T) (hz : ((P.info? T).bind (·.zero)).map (·.cells) = some (varr m y)) (hd : inn n o.dst = true)
    (h : ∀ g w', g = w.heap.size → Blk w' g m y T → Stp w.heap.size w w' → w'.heap.size = w.heap.size + 1 → L P n ops Q rest (put f o.dst (.pointer (some ⟨g, 0, none⟩))) w') : L P n ops Q (o :: rest) f w := by
  obtain ⟨z, hz1, hz2⟩ := Option.map_eq_some_iff.1 hz
  obtain ⟨i, hi, hz⟩ := Option.bind_eq_some_iff.1 hz1
  have hrun : (execOp (ev f) o).run P w = .ok (.value (.pointer (some ⟨w.heap.size, 0, none⟩))) (w.alloc (.cells z.cells T)) := by
    unfold execOp
    simp [ho, Instr.alloc, zeroValue, typeInfo, hi, hz, newVar, newRow]
  refine L.val hw hrun hd (h _ _ rfl ?_ (Stp.alloc _ _) (by simp))
  show (w.alloc _).heap[w.heap.size]? = _
  rw [alloc_at, if_pos rfl, hz2]
theorem fill_step {place : Nat → Option (Nat × Nat)} {m i off s : Nat} {v : Value} {x y : Nat → Value} {rest : List (Nat × Value)} (hp : place i = some (off, s)) (hv : v.cells = varr s y) (hle : Nat.ble (off + s) m = true) :
    Instr.fill place (varr m x) ((i, v) :: rest) = Instr.fill place (varr m (ovr x off s y)) rest := by
  have hle' : off + s ≤ m := Nat.le_of_ble_eq_true hle
  have key : ∀ (l : List Value) (k : Nat) (a : Array Value), (l.zipIdx k).foldl (fun cs (c, j) => cs.setIfInBounds (off + j) c) a = Array.ofFn (fun q : Fin a.size => if off + k ≤ q.1 ∧ q.1 < off + k + l.length then l.getD (q.1 - off - k) undef else a[q.1]) := by
    intro l
    induction l with
    | nil => intro k a; apply Array.ext <;> simp; intro i h1 h2; omega
    | cons c l ih =>
      intro k a
      rw [List.zipIdx_cons, List.foldl_cons, ih]
      apply Array.ext
      · simp
      · intro q h1 h2
        simp only [Array.size_ofFn, Array.size_setIfInBounds] at h1 h2
        simp only [Array.getElem_ofFn, List.length_cons]
        by_cases c1 : off + (k + 1) ≤ q ∧ q < off + (k + 1) + l.length
        · rw [if_pos c1, if_pos (by omega), show q - off - k = (q - off - (k + 1)) + 1 by omega, List.getD_cons_succ]
        · rw [if_neg c1, Array.getElem_setIfInBounds]
          by_cases c2 : off + k = q
          · rw [if_pos c2, if_pos (by omega), show q - off - k = 0 by omega]; rfl
          · rw [if_neg c2, if_neg (by omega)]
  conv => lhs; unfold Instr.fill
  simp only [hp, hv, varr_size]
  rw [if_neg (by rw [show decide (s ≠ s) = false from decide_eq_false (fun h => h rfl), Bool.false_or]; simpa using hle')]
  congr 1
  rw [← Array.foldl_toList, Array.toList_zipIdx, key]
  refine varr_ext (by simp [varr_size]) fun j hj => ?_
  have hj2 : j < (varr m x).size := by rw [varr_size]; exact hj
  rw [Array.getElem?_ofFn, dif_pos hj2]
  simp only [Array.length_toList, varr_size, ovr, Nat.add_zero, Nat.sub_zero]
  by_cases c : off ≤ j ∧ j < off + s
  · rw [if_pos c, if_pos c, List.getD_eq_getElem?_getD, Array.getElem?_toList, varr_get y (by omega)]; rfl
  rw [if_neg c, if_neg c]
  have := varr_get x hj
  rw [Array.getElem?_eq_getElem hj2] at this
  exact this
theorem x_build {T : TypeId} {parts : List (Nat × Operand)} {vs : List (Nat × Value)} {fs : Array Field} {places : Array (Nat × Nat)} {m : Nat} {x y : Nat → Value} (ho : o.op = .build T parts.toArray) (hp : parts.map (fun p => (p.1, ev f p.2)) = vs) (hs : P.underlying T = some (.struct fs))
    (hpl : fs.mapM (fun fd => (P.info? fd.type).map fun i => (fd.offset, i.size)) = some places) (hz : ((P.info? T).bind (·.zero)).map (·.cells) = some (varr m x)) (hf : Instr.fill (places[·]?) (varr m x) vs = some (varr m y)) : Runs P f o w (.agg (varr m y)) := by
  obtain ⟨z, hz1, hz2⟩ := Option.map_eq_some_iff.1 hz
  obtain ⟨i, hi, hz⟩ := Option.bind_eq_some_iff.1 hz1
  have key : ∀ (g : Field → Sem (Nat × Nat)) (hg : ∀ d x, (P.info? d.type).map (fun i => (d.offset, i.size)) = some x → (g d).run P w = .ok x w) (l : List Field) (r : List (Nat × Nat)), l.mapM (fun fd => (P.info? fd.type).map fun i => (fd.offset, i.size)) = some r → (l.mapM g).run P w = .ok r w := by
    intro g hg l
    induction l with
    | nil => intro r h; simp at h; subst h; simp
    | cons d l ih =>
      intro r h
      rw [List.mapM_cons] at h
      cases h1 : (P.info? d.type).map (fun i => (d.offset, i.size)) with
      | none => rw [h1] at h; cases h
      | some i1 =>
        cases h2 : l.mapM (fun fd => (P.info? fd.type).map fun i => (fd.offset, i.size)) with
        | none => rw [h1, h2] at h; cases h
        | some r2 =>
          rw [h1, h2] at h
          have h3 : i1 :: r2 = r := by simpa using h
          subst h3
          rw [List.mapM_cons]
          simp only [Sem.run_bind, hg d i1 h1, Result.andThen_ok, ih r2 h2, Sem.run_pure]
  have hl : fs.toList.mapM (fun fd => (P.info? fd.type).map fun i => (fd.offset, i.size)) = some places.toList := by
    rw [Array.mapM_eq_mapM_toList] at hpl
    cases hq : fs.toList.mapM (fun fd => (P.info? fd.type).map fun i => (fd.offset, i.size)) with
    | none => rw [hq] at hpl; simp at hpl
    | some r => rw [hq] at hpl; simp at hpl; rw [← hpl]
  have hm : ∀ (g : Field → Sem (Nat × Nat)), (∀ d x, (P.info? d.type).map (fun i => (d.offset, i.size)) = some x → (g d).run P w = .ok x w) → (fs.mapM g).run P w = .ok places w := fun g hg => by
    rw [Array.mapM_eq_mapM_toList]
    simp [key g hg _ _ hl]
  have hg : ∀ (d : Field) (x : Nat × Nat), (P.info? d.type).map (fun i => (d.offset, i.size)) = some x → (do pure (d.offset, ← sizeOf d.type) : Sem (Nat × Nat)).run P w = .ok x w := fun d x h => by
    cases h1 : P.info? d.type with
    | none => rw [h1] at h; cases h
    | some i1 => rw [h1] at h; simp at h; subst h; simp [sizeOf, typeInfo, h1]
  unfold Runs execOp
  simp only [ho, List.map_toArray, hp]
  unfold Instr.build
  simp only [zeroValue, typeInfo, underlying, Sem.run_bind, run_program, Result.andThen_ok, hi, hz, hs, Sem.run_pure, hm _ hg, hz2, hf]
theorem rC {g : FuncId} {fn : Func} {c : Code} {xs : List Operand} {args : List Value} {Ts : Array TypeId} (ho : o.op = .call { callee := .value (.func g), args := xs.toArray, argTypes := Ts }) (hx : xs.map (ev f) = args) (hf : P.funcs[g]? = some fn)
    (hn : (fn.name == "runtime.NumGoroutine") = false) (hb : fn.body = some c) : (execOp (ev f) o).run P w = .ok (.enter g args.toArray) w := by
  unfold execOp
  simp only [ho]
  unfold resolve
  simp only [Sem.run_bind, List.map_toArray, hx, ev, Deferred.ofValue, Sem.run_pure, Result.andThen_ok]
  unfold invoke
  have e : (#[] ++ args.toArray ++ #[] : Array Value) = args.toArray := by simp
  show (callFunc g (#[] ++ args.toArray ++ #[])).run P w = _
  rw [e]
  exact run_enter hf hn hb args.toArray w
theorem r_clo {g : FuncId} {fn : Func} {c : Code} {t : Operand} {xs : List Operand} {args : List Value} {Ts : Array TypeId} {first cap : Array Value} {all : Array Value} (ho : o.op = .call { callee := .value t, args := xs.toArray, argTypes := Ts }) (ht : ev f t = .func (.func g) first cap) (hx : xs.map (ev f) = args) (hall : first ++ args.toArray ++ cap = all)
    (hf : P.funcs[g]? = some fn) (hn : (fn.name == "runtime.NumGoroutine") = false) (hb : fn.body = some c) : (execOp (ev f) o).run P w = .ok (.enter g all) w := by
  unfold execOp
  simp only [ho]
  unfold resolve
  simp only [Sem.run_bind, List.map_toArray, hx, ht, Deferred.ofValue, Sem.run_pure, Result.andThen_ok]
  unfold invoke
  simp only [hall]
  exact run_enter hf hn hb all w
theorem x_func {fn : Fn} {xs ys : List Operand} {us vs : List Value} (ho : o.op = .makeFunc fn xs.toArray ys.toArray) (hx : xs.map (ev f) = us) (hy : ys.map (ev f) = vs) : Runs P f o w (.func fn us.toArray vs.toArray) := by
  unfold Runs execOp
  simp [ho, Instr.makeFunc, hx, hy]
end
end Fx
end Go.Proofs.Ytleajegppehbdaa
namespace Go.Proofs.Ytleajegppehbdaa
open Go.RowKit
def litOf : Option IntKind → Value → Option Lit
  | none, .bool b => some (.bool b)
  | some q, .int q' n => if q' = q ∧ (Lit.int q n).wf = true then some (.int q n) else none
  | _, _ => none
def Fit : List (Option IntKind) → List Value → List Lit → Prop
  | [], [], [] => True
  | k :: ks, c :: cs, l :: ls => litOf k c = some l ∧ Fit ks cs ls
  | _, _, _ => False
theorem Fit.lengths : ∀ {ks : List (Option IntKind)} {cs : List Value} {ls : List Lit}, Fit ks cs ls → cs.length = ks.length ∧ ls.length = ks.length
  | [], [], [], _ => ⟨rfl, rfl⟩
  | _ :: _, _ :: _, _ :: _, h => by have := Fit.lengths h.2; simp [this.1, this.2]
  | [], _ :: _, _, h => h.elim
  | [], [], _ :: _, h => h.elim
  | _ :: _, [], _, h => h.elim
  | _ :: _, _ :: _, [], h => h.elim
theorem Fit.split : ∀ {a b : List (Option IntKind)} {cs : List Value} {ls : List Lit}, Fit (a ++ b) cs ls → Fit a (cs.take a.length) (ls.take a.length) ∧ Fit b (cs.drop a.length) (ls.drop a.length)
  | [], b, cs, ls, h => by simpa using ⟨trivial, h⟩
  | k :: a, b, c :: cs, l :: ls, h => by
    have := Fit.split (a := a) h.2
    exact ⟨⟨h.1, by simpa using this.1⟩, by simpa using this.2⟩
  | _ :: _, _, [], _, h => h.elim
  | _ :: _, _, _ :: _, [], h => h.elim
theorem Fit.one {k : Option IntKind} {cs : List Value} {ls : List Lit} (h : Fit [k] cs ls) : ∃ c l, cs = [c] ∧ ls = [l] ∧ litOf k c = some l := by
  have hl := h.lengths
  match cs, ls, hl, h with
  | [c], [l], _, h => exact ⟨c, l, rfl, rfl, h.1⟩
def flatFs (cellsOf : TypeId → Nat) (rec : TypeId → Option (List (Option IntKind))) : List Field → Nat → Option (List (Option IntKind))
  | [], _ => some []
  | f :: fs, o => if f.offset = o ∧ (f.name != "_") = true then
      match rec f.type with
      | some l => if l.length = cellsOf f.type then (flatFs cellsOf rec fs (o + l.length)).map (l ++ ·) else none
      | none => none
    else none
def flatK (P : Program) : Nat → TypeId → Option (List (Option IntKind))
  | 0, _ => none
  | d + 1, t =>
    match P.underlying t with
    | some .bool => some [none]
    | some (.int q) => some [some q]
    | some (.array n e) => match flatK P d e with
      | some l => if l.length = P.cellsOf e ∧ n * l.length = P.cellsOf t then some (List.replicate n l).flatten else none
      | none => none
    | some (.struct fs) => match flatFs P.cellsOf (flatK P d) fs.toList 0 with
      | some l => if l.length = P.cellsOf t then some l else none
      | none => none
    | _ => none
theorem mapM_range {α : Type} (n : Nat) (f : Nat → Option α) (g : Nat → α) (h : ∀ i, i < n → f i = some (g i)) : (List.range n).mapM f = some ((List.range n).map g) := by
  induction n with
  | zero => rfl
  | succ n ih =>
    rw [List.range_succ, List.mapM_append, ih (fun i hi => h i (by omega)), List.map_append]
    simp [h n (by omega)]
theorem chunks {α : Type} (c : Nat) : ∀ (n : Nat) (ls : List α), ls.length = n * c → ((List.range n).map fun i => (ls.drop (i * c)).take c).flatten = ls
  | 0, ls, h => by simp at h; subst h; rfl
  | n + 1, ls, h => by
    rw [List.range_succ_eq_map, List.map_cons, List.flatten_cons, List.map_map]
    have h2 : (ls.drop c).length = n * c := by rw [List.length_drop, h, Nat.add_mul]; omega
    have ih := chunks c n (ls.drop c) h2
    have e : ((fun i => (ls.drop (i * c)).take c) ∘ Nat.succ) = fun i => ((ls.drop c).drop (i * c)).take c := by
      funext i
      simp only [Function.comp, List.drop_drop]
      congr 2
      rw [Nat.succ_mul]; omega
    rw [e, ih]
    simp
theorem Fit.block {l : List (Option IntKind)} : ∀ {n : Nat} {cs : List Value} {ls : List Lit}, Fit (List.replicate n l).flatten cs ls → ∀ i, i < n → Fit l ((cs.drop (i * l.length)).take l.length) ((ls.drop (i * l.length)).take l.length)
  | 0, _, _, _, i, hi => absurd hi (by omega)
  | n + 1, cs, ls, h, i, hi => by
    rw [List.replicate_succ, List.flatten_cons] at h
    have hs := Fit.split h
    cases i with
    | zero => simpa using hs.1
    | succ i =>
      have := Fit.block hs.2 i (by omega)
      rw [List.drop_drop, List.drop_drop] at this
      rw [Nat.succ_mul, Nat.add_comm]
      exact this
theorem flatten_length {α : Type} (n : Nat) (l : List α) : (List.replicate n l).flatten.length = n * l.length := by
  induction n with
  | zero => simp
  | succ n ih => rw [List.replicate_succ, List.flatten_cons, List.length_append, ih, Nat.succ_mul]; omega
theorem fs_fit {P : Program} {d : Nat} (IH : ∀ t ks cs ls, flatK P d t = some ks → Fit ks cs ls → P.keyLits d t cs = some ls) (cs : List Value) (ls : List Lit) :
    ∀ (fs : List Field) (o : Nat) (ks : List (Option IntKind)), flatFs P.cellsOf (flatK P d) fs o = some ks → Fit ks (cs.drop o) (ls.drop o) →
      (∀ f ∈ fs, (f.name != "_") = true) ∧ ∃ L : List (List Lit), fs.mapM (fun f => P.keyLits d f.type ((cs.drop f.offset).take (P.cellsOf f.type))) = some L ∧ L.flatten = ls.drop o
  | [], o, ks, h, hf => by
    simp [flatFs] at h
    subst h
    have := hf.lengths
    refine ⟨by simp, [], rfl, ?_⟩
    have h2 : (ls.drop o).length = 0 := this.2
    rw [List.length_eq_zero_iff.1 h2]; rfl
  | f :: fs, o, ks, h, hf => by
    unfold flatFs at h
    by_cases h1 : f.offset = o ∧ (f.name != "_") = true
    · rw [if_pos h1] at h
      cases h2 : flatK P d f.type with
      | none => rw [h2] at h; cases h
      | some l =>
        rw [h2] at h
        simp only at h
        by_cases h3 : l.length = P.cellsOf f.type
        · rw [if_pos h3] at h
          cases h4 : flatFs P.cellsOf (flatK P d) fs (o + l.length) with
          | none => rw [h4] at h; cases h
          | some r =>
            rw [h4] at h
            simp only [Option.map_some, Option.some.injEq] at h
            subst h
            have hs := Fit.split hf
            rw [List.drop_drop, List.drop_drop] at hs
            obtain ⟨hn, L, hL, hfl⟩ := fs_fit IH cs ls fs (o + l.length) r h4 hs.2
            have hk := IH f.type l _ _ h2 hs.1
            refine ⟨?_, (ls.drop o).take l.length :: L, ?_, ?_⟩
            · intro g hg
              rcases List.mem_cons.1 hg with rfl | hg
              · exact h1.2
              · exact hn g hg
            · rw [List.mapM_cons, h1.1, ← h3, hk, hL]; rfl
            · rw [List.flatten_cons, hfl]
              conv => rhs; rw [← List.take_append_drop l.length (ls.drop o)]
              rw [List.drop_drop]
        · rw [if_neg h3] at h; cases h
    · rw [if_neg h1] at h; cases h
theorem keyLits_fit {P : Program} : ∀ (d : Nat) (t : TypeId) (ks : List (Option IntKind)) (cs : List Value) (ls : List Lit), flatK P d t = some ks → Fit ks cs ls → P.keyLits d t cs = some ls
  | 0, _, _, _, _, h, _ => by cases h
  | d + 1, t, ks, cs, ls, h, hf => by
    unfold flatK at h
    unfold Program.keyLits
    cases hu : P.underlying t with
    | none => rw [hu] at h; cases h
    | some td =>
      rw [hu] at h
      cases td with
      | bool =>
        simp only [Option.some.injEq] at h
        subst h
        obtain ⟨c, l, rfl, rfl, this⟩ := hf.one
        cases c <;> simp [litOf] at this
        subst this
        rfl
      | int q =>
        simp only [Option.some.injEq] at h
        subst h
        obtain ⟨c, l, rfl, rfl, this⟩ := hf.one
        cases c <;> simp [litOf] at this
        rename_i q' n
        obtain ⟨⟨rfl, hw⟩, rfl⟩ := this
        simp [hw]
      | array n e =>
        simp only at h
        cases h2 : flatK P d e with
        | none => rw [h2] at h; cases h
        | some l =>
          rw [h2] at h
          simp only at h
          by_cases h3 : l.length = P.cellsOf e ∧ n * l.length = P.cellsOf t
          · rw [if_pos h3] at h
            simp only [Option.some.injEq] at h
            subst h
            have hl := hf.lengths
            rw [flatten_length] at hl
            simp only
            rw [if_pos (by rw [hl.1, h3.2]), ← h3.1, mapM_range n _ (fun i => (ls.drop (i * l.length)).take l.length) (fun i hi => keyLits_fit d e l _ _ h2 (hf.block i hi))]
            rw [Option.map_some, chunks l.length n ls hl.2]
          · rw [if_neg h3] at h; cases h
      | struct fs =>
        simp only at h
        cases h2 : flatFs P.cellsOf (flatK P d) fs.toList 0 with
        | none => rw [h2] at h; cases h
        | some l =>
          rw [h2] at h
          simp only at h
          by_cases h3 : l.length = P.cellsOf t
          · rw [if_pos h3] at h
            simp only [Option.some.injEq] at h
            subst h
            obtain ⟨hn, L, hL, hfl⟩ := fs_fit (fun t ks cs ls h hf => keyLits_fit d t ks cs ls h hf) cs ls fs.toList 0 l h2 (by simpa using hf)
            have hl := hf.lengths
            simp only
            have hall : (fs.all fun f => f.name != "_") = true := by
              rw [Array.all_eq_true_iff_forall_mem]
              intro f hf'
              exact hn f (by simpa using hf')
            rw [if_pos ⟨by rw [hl.1, h3], hall⟩, hL, Option.map_some, hfl]
            rfl
          · rw [if_neg h3] at h; cases h
      | _ => cases h
theorem run_equalIn_flat {P : Program} (w : World) (m d : Nat) (t : TypeId) (ks : List (Option IntKind)) (xs ys : Array Value) (la lb : List Lit) (hkt : P.keyTypeAt m t = true) (hk : flatK P m t = some ks)
    (hwide : (match P.underlying t with | some (.array _ _) | some (.struct _) => true | _ => false) = true) (ha : Fit ks xs.toList la) (hb : Fit ks ys.toList lb) (r : Bool) (hr : r = true ↔ la = lb) :
    (Op.equalIn (d + m) t (.agg xs) (.agg ys)).run P w = .ok r w := by
  have hlen : ks.length = P.cellsOf t := by
    cases m with
    | zero => cases hk
    | succ m =>
      unfold flatK at hk
      cases hu : P.underlying t with
      | none => rw [hu] at hk; cases hk
      | some td =>
        rw [hu] at hk hwide
        cases td with
        | array n e =>
          simp only at hk
          cases h2 : flatK P m e with
          | none => rw [h2] at hk; cases hk
          | some l =>
            rw [h2] at hk
            simp only at hk
            split at hk
            · rename_i h3
              simp only [Option.some.injEq] at hk
              rw [← hk, flatten_length, h3.2]
            · cases hk
        | struct fs =>
          simp only at hk
          cases h2 : flatFs P.cellsOf (flatK P m) fs.toList 0 with
          | none => rw [h2] at hk; cases hk
          | some l =>
            rw [h2] at hk
            simp only at hk
            split at hk
            · rename_i h3
              simp only [Option.some.injEq] at hk
              rw [← hk, h3]
            · cases hk
        | _ => cases hwide
  have hf : ∀ (zs : Array Value) (l : List Lit), Fit ks zs.toList l → Value.formed P t (.agg zs) = true := by
    intro zs l h
    have hs : zs.size = P.cellsOf t := by have := h.lengths.1; rw [Array.length_toList] at this; omega
    unfold Value.formed
    cases hu : P.underlying t with
    | none => rw [hu] at hwide; cases hwide
    | some td => rw [hu] at hwide; cases td <;> first | (cases hwide; done) | simp [hs]
  obtain ⟨q, hq, hiff⟩ := run_equalIn_deep d m t hkt w m m (.agg xs) (.agg ys) la lb (hf xs la ha) (hf ys lb hb) (keyLits_fit m t ks _ _ hk (by simpa [Value.cells] using ha)) (keyLits_fit m t ks _ _ hk (by simpa [Value.cells] using hb))
  rw [hq]
  congr 1
  rw [Bool.eq_iff_iff, hiff, hr]
theorem run_eql_flat {P : Program} (w : World) (m : Nat) (hm : m ≤ 10000) (t : TypeId) (ks : List (Option IntKind)) (xs ys : Array Value) (la lb : List Lit) (hkt : P.keyTypeAt m t = true) (hk : flatK P m t = some ks)
    (hwide : (match P.underlying t with | some (.array _ _) | some (.struct _) => true | _ => false) = true) (ha : Fit ks xs.toList la) (hb : Fit ks ys.toList lb) (r : Bool) (hr : r = true ↔ la = lb) :
    (binOp .eql t (.agg xs) (.agg ys)).run P w = .ok (.bool r) w := by
  rw [run_eql_struct, show 10000 = (10000 - m) + m by omega, run_equalIn_flat w m (10000 - m) t ks xs ys la lb hkt hk hwide ha hb r hr]; rfl
theorem run_neq_flat {P : Program} (w : World) (m : Nat) (hm : m ≤ 10000) (t : TypeId) (ks : List (Option IntKind)) (xs ys : Array Value) (la lb : List Lit) (hkt : P.keyTypeAt m t = true) (hk : flatK P m t = some ks)
    (hwide : (match P.underlying t with | some (.array _ _) | some (.struct _) => true | _ => false) = true) (ha : Fit ks xs.toList la) (hb : Fit ks ys.toList lb) (r : Bool) (hr : r = true ↔ la = lb) :
    (binOp .neq t (.agg xs) (.agg ys)).run P w = .ok (.bool (!r)) w := by
  rw [run_neq_struct, show 10000 = (10000 - m) + m by omega, run_equalIn_flat w m (10000 - m) t ks xs ys la lb hkt hk hwide ha hb r hr]; rfl
end Go.Proofs.Ytleajegppehbdaa
namespace Go.Proofs.Ytleajegppehbdaa
open Go.RowKit
namespace Fx
def Kd (ks : List (Option IntKind)) (x : Nat → Value) : Prop := ∀ i, (h : i < ks.length) → ∃ l, litOf ks[i] (x i) = some l
theorem kd_rv {k : IntKind} {n : Nat} {x : Nat → Int} (h : ∀ i, i < n → (Lit.int k (x i)).wf = true) : Kd (List.replicate n (some k)) (rv k x) := fun i hi => by
  have hi' : i < n := by simpa using hi
  refine ⟨.int k (x i), ?_⟩
  rw [List.getElem_replicate]
  simp [litOf, rv, h i hi']
theorem wf64 {a : Int} (h : -9223372036854775808 ≤ a ∧ a ≤ 9223372036854775807) : (Lit.int .i64 a).wf = true := by simp [Lit.wf, IntKind.min, IntKind.max, IntKind.bits, IntKind.signed]; omega
theorem wfu64 {a : Int} (h : 0 ≤ a ∧ a ≤ 18446744073709551615) : (Lit.int .u64 a).wf = true := by simp [Lit.wf, IntKind.min, IntKind.max, IntKind.bits, IntKind.signed]; omega
theorem wfu8 {a : Int} (h : 0 ≤ a ∧ a ≤ 255) : (Lit.int .u8 a).wf = true := by simp [Lit.wf, IntKind.min, IntKind.max, IntKind.bits, IntKind.signed]; omega
theorem litOf_inj {k : Option IntKind} {u v : Value} {l : Lit} (h : litOf k u = some l) (h' : litOf k v = some l) : u = v := by
  cases k with
  | none =>
    cases u <;> cases v <;> simp_all [litOf]
    rw [← h] at h'; injection h' with h'; exact h'.symm
  | some q =>
    cases u <;> cases v <;> simp_all [litOf]
    have e := h.2.trans h'.2.symm; injection e
theorem Kd.fit {x : Nat → Value} : ∀ (ks : List (Option IntKind)) (o : Nat), (∀ i, (h : i < ks.length) → ∃ l, litOf ks[i] (x (o + i)) = some l) → ∃ ls, Fit ks ((List.range ks.length).map fun i => x (o + i)) ls
  | [], _, _ => ⟨[], trivial⟩
  | k :: ks, o, h => by
    obtain ⟨l, hl⟩ := h 0 (by simp)
    obtain ⟨ls, hls⟩ := Kd.fit ks (o + 1) (fun i hi => by
      have := h (i + 1) (by simpa using hi)
      simpa [Nat.add_assoc, Nat.add_comm 1 i] using this)
    refine ⟨l :: ls, ?_⟩
    rw [List.length_cons, List.range_succ_eq_map, List.map_cons, List.map_map]
    refine ⟨by simpa using hl, ?_⟩
    have e : (fun i => x (o + i)) ∘ Nat.succ = fun i => x (o + 1 + i) := by funext i; simp [Nat.add_assoc, Nat.add_comm 1 i]
    rw [e]
    exact hls
theorem varr_list (n : Nat) (x : Nat → Value) : (varr n x).toList = (List.range n).map x := by
  apply List.ext_getElem?
  intro i
  by_cases hi : i < n
  · rw [Array.getElem?_toList, varr_get x hi]; simp [hi]
  rw [Array.getElem?_toList, varr_none x (by omega)]; simp [hi]
theorem Fit.inj : ∀ {ks : List (Option IntKind)} {a b : List Value} {l : List Lit}, Fit ks a l → Fit ks b l → a = b
  | [], [], [], [], _, _ => rfl
  | _ :: _, _ :: _, _ :: _, _ :: _, h, h' => by rw [litOf_inj h.1 h'.1, Fit.inj h.2 h'.2]
  | [], [], _ :: _, _, _, h' => h'.elim
  | [], _ :: _, _, _, h, _ => h.elim
  | _ :: _, [], _, _, h, _ => h.elim
  | _ :: _, _ :: _, [], _, _, h' => h'.elim
  | _ :: _, _ :: _, _ :: _, [], h, _ => h.elim
  | [], [], [], _ :: _, h, _ => h.elim
theorem Fit.same : ∀ {ks : List (Option IntKind)} {a : List Value} {l l' : List Lit}, Fit ks a l → Fit ks a l' → l = l'
  | [], [], [], [], _, _ => rfl
  | _ :: _, _ :: _, _ :: _, _ :: _, h, h' => by
    have := h.1.symm.trans h'.1
    rw [Option.some.inj this, Fit.same h.2 h'.2]
  | [], [], [], _ :: _, _, h' => h'.elim
  | [], [], _ :: _, _, h, _ => h.elim
  | [], _ :: _, _, _, h, _ => h.elim
  | _ :: _, [], _, _, h, _ => h.elim
  | _ :: _, _ :: _, _ :: _, [], _, h' => h'.elim
  | _ :: _, _ :: _, [], _, h, _ => h.elim
section
variable {P : Program} {n : Nat} {Q : Post} {f : Nat → Value} {w : World} {o : Oper}
theorem run_eqA (w : World) (m : Nat) (hm : m ≤ 10000) {T : TypeId} {ks : List (Option IntKind)} {x y : Nat → Value} (hkt : P.keyTypeAt m T = true) (hk : flatK P m T = some ks) (hn : ks.length = n) (hwide : aggT P T = true) (kx : Kd ks x) (ky : Kd ks y) (b : Bool) (hb : b = true ↔ ∀ i, i < n → x i = y i) :
    (binOp .eql T (.agg (varr n x)) (.agg (varr n y))).run P w = .ok (.bool b) w ∧ (binOp .neq T (.agg (varr n x)) (.agg (varr n y))).run P w = .ok (.bool (!b)) w := by
  obtain ⟨la, ha⟩ := Kd.fit (x := x) ks 0 (fun i h => by rw [Nat.zero_add]; exact kx i h)
  obtain ⟨lb, hb'⟩ := Kd.fit (x := y) ks 0 (fun i h => by rw [Nat.zero_add]; exact ky i h)
  simp only [Nat.zero_add, hn] at ha hb'
  have hw' : (match P.underlying T with | some (.array _ _) | some (.struct _) => true | _ => false) = true := by
    unfold aggT at hwide
    cases hu : P.underlying T with
    | none => rw [hu] at hwide; cases hwide
    | some d => rw [hu] at hwide; cases d <;> first | rfl | (cases hwide)
  have hr : b = true ↔ la = lb := by
    rw [hb]
    constructor
    · intro h
      have e : (List.range n).map x = (List.range n).map y := List.map_congr_left fun i hi => h i (by simpa using hi)
      have ha2 := ha
      rw [show (fun i => x i) = x from rfl, e] at ha2
      exact Fit.same ha2 hb'
    · intro h
      subst h
      have e := Fit.inj ha hb'
      intro i hi
      have h1 := congrArg (fun l => l[i]?) e
      simpa [hi] using h1
  rw [← varr_list] at ha hb'
  exact ⟨run_eql_flat w m hm T ks _ _ la lb hkt hk hw' ha hb' b hr, run_neq_flat w m hm T ks _ _ la lb hkt hk hw' ha hb' b hr⟩
theorem x_binA {op : BinOp} {T T' : TypeId} {x y : Operand} {u v r : Value} {a b : Array Value} (ho : o.op = .binOp op T x y T') (hx : ev f x = u) (hy : ev f y = v) (hu : u = .agg a) (hv : v = .agg b) (hg : P.eqGuardType P.depth T = false) (h : (binOp op T u v).run P w = .ok r w) : Runs P f o w r := by
  subst hu hv
  unfold Runs execOp
  simp only [ho, hx, hy]
  simp only [Sem.run_bind, run_eqGuard_agg w op T x y a b hg, Result.andThen_ok, h, Sem.run_pure]
theorem x_eqlA {T T' : TypeId} {x y : Operand} {ks : List (Option IntKind)} {X Y : Nat → Value} (m : Nat) (b : Bool) (ho : o.op = .binOp .eql T x y T') (hx : ev f x = .agg (varr n X)) (hy : ev f y = .agg (varr n Y)) (hb : b = true ↔ ∀ i, i < n → X i = Y i) (kx : Kd ks X) (ky : Kd ks Y)
    (hm : Nat.ble m 10000 = true) (hkt : P.keyTypeAt m T = true) (hk : flatK P m T = some ks) (hn : ks.length = n) (hwide : aggT P T = true) (hg : P.eqGuardType P.depth T = false) : Runs P f o w (.bool b) :=
  x_binA ho hx hy rfl rfl hg (run_eqA w m (Nat.le_of_ble_eq_true hm) hkt hk hn hwide kx ky b hb).1
theorem x_neqA {T T' : TypeId} {x y : Operand} {ks : List (Option IntKind)} {X Y : Nat → Value} (m : Nat) (b : Bool) (ho : o.op = .binOp .neq T x y T') (hx : ev f x = .agg (varr n X)) (hy : ev f y = .agg (varr n Y)) (hb : b = true ↔ ∀ i, i < n → X i = Y i) (kx : Kd ks X) (ky : Kd ks Y)
    (hm : Nat.ble m 10000 = true) (hkt : P.keyTypeAt m T = true) (hk : flatK P m T = some ks) (hn : ks.length = n) (hwide : aggT P T = true) (hg : P.eqGuardType P.depth T = false) : Runs P f o w (.bool (!b)) :=
  x_binA ho hx hy rfl rfl hg (run_eqA w m (Nat.le_of_ble_eq_true hm) hkt hk hn hwide kx ky b hb).2
theorem yesb {p : Prop} (h : p) : true = true ↔ p := Iff.intro (fun _ => h) (fun _ => rfl)
theorem nob {p : Prop} (h : ¬ p) : false = true ↔ p := Iff.intro (fun e => absurd e (by decide)) (fun q => absurd q h)
theorem run_loadV {T : TypeId} {g off : Nat} {x : Nat → Value} (hc : Cel w g off n x) (hT : aggT P T = true) (hz : (P.info? T).map (·.size) = some n) : (loadVar T ⟨g, off, none⟩).run P w = .ok (.agg (varr n x)) w := by
  have hl : (varr n x).toList.length = n := by simp [varr_size]
  have hr : w.rangeAt g off (varr n x).toList := fun j v hv => by
    have hj : j < n := by have := (List.getElem?_eq_some_iff.1 hv).1; simpa [varr_size] using this
    rw [Array.getElem?_toList, varr_get _ hj] at hv
    rw [← Option.some.inj hv]
    exact hc j hj
  unfold aggT at hT
  cases hu : P.underlying T with
  | none => rw [hu] at hT; cases hT
  | some d =>
    rw [hu] at hT
    have hd : d.isRow = true := by cases d <;> first | (cases hT; done) | rfl
    have := run_loadVar_mid (P := P) w g off T (varr n x).toList d hr hu hd (by rw [hl]; exact hz)
    rw [this, Array.toArray_toList]
def resV (P : Program) (f : Nat → Value) (w : World) (r : ResultVar) (v : Value) : Prop := match r with
  | .tmp t => f t = v
  | .cell a T => ∃ ad, f a = .pointer (some ad) ∧ (loadVar T ad).run P w = .ok v w
theorem resV.run {r : ResultVar} {v : Value} (h : resV P f w r v) : (rdF f r).run P w = .ok v w := by
  cases r with
  | tmp t => simp only [resV] at h; simp [rdF, h]
  | cell a T => obtain ⟨ad, h1, h2⟩ := h; simp [rdF, h1, asAddr, h2]
theorem rV {fn : Func} {r : ResultVar} {v : Value} (hr : fn.results = #[r]) (h : resV P f w r v) : (resF fn f).run P w = .ok v w := by
  have := h.run
  unfold resF
  rw [hr]
  simp only [List.mapM_toArray, List.mapM_cons, List.mapM_nil]
  simp [this]
theorem retV2 {fn : Func} {r s : ResultVar} {u v : Value} (hr : fn.results = #[r, s]) (h : resV P f w r u) (h' : resV P f w s v) : (resF fn f).run P w = .ok (.tuple #[u, v]) w := by
  have := h.run
  have := h'.run
  unfold resF
  rw [hr]
  simp only [List.mapM_toArray, List.mapM_cons, List.mapM_nil]
  simp [*]
end
end Fx
end Go.Proofs.Ytleajegppehbdaa
namespace Go.Proofs.Ytleajegppehbdaa
open Go.RowKit
def Clo (ops : Array Oper) (md : Region.Mode) (l : Array Bool) : Prop := ∀ j o, ops[j]? = some o → l.getD j false = true → ∀ e ∈ o.after, Region.binds md e = true → l.getD e.on false = true
def reach (ops : Array Oper) (md : Region.Mode) : Nat → Nat → Nat → Bool
  | 0, t, i => t == i
  | n + 1, t, i => t == i || (match ops[t]? with | some o => o.after.any (fun e => Region.binds md e && reach ops md n e.on i) | none => false)
theorem getD_setIf_false (l : Array Bool) (i j : Nat) : (l.setIfInBounds i true).getD j false = (if i = j ∧ j < l.size then true else l.getD j false) := by
  simp only [Array.getD_eq_getD_getElem?, Array.getElem?_setIfInBounds]
  by_cases h : i = j
  · subst h
    by_cases h2 : i < l.size
    · simp [h2]
    simp [h2, Array.getElem?_eq_none (Nat.le_of_not_lt h2)]
  simp [h]
theorem Clo.set {ops : Array Oper} {md : Region.Mode} {l : Array Bool} (h : Clo ops md l) {i : Nat} (hi : i ∈ Region.ready md ops l) : Clo ops md (l.setIfInBounds i true) := by
  obtain ⟨_, o', ho', hall⟩ := mem_ready.1 hi
  intro j o ho hj e he hb
  rw [getD_setIf_false]
  split
  · rfl
  rw [getD_setIf_false] at hj
  split at hj
  · rename_i hij
    obtain ⟨rfl, _⟩ := hij
    rw [ho'] at ho
    obtain rfl := Option.some.inj ho
    exact hall e he hb
  exact h j o ho hj e he hb
theorem Clo.start (ops : Array Oper) (md : Region.Mode) (n : Nat) : Clo ops md (Array.replicate n false) := by
  intro j o _ hj
  rw [Array.getD_eq_getD_getElem?] at hj
  by_cases h : j < n
  · simp [h] at hj
  simp [h] at hj
theorem Clo.reach {ops : Array Oper} {md : Region.Mode} {l : Array Bool} {i : Nat} (h : Clo ops md l) : ∀ n t, reach ops md n t i = true → l.getD t false = true → l.getD i false = true
  | 0, t, hr, ht => by
    have e : t = i := by unfold Ytleajegppehbdaa.reach at hr; simpa using hr
    rw [← e]; exact ht
  | n + 1, t, hr, ht => by
    unfold Ytleajegppehbdaa.reach at hr
    rw [Bool.or_eq_true] at hr
    rcases hr with hr | hr
    · have e : t = i := by simpa using hr
      rw [← e]; exact ht
    · cases ho : ops[t]? with
      | none => simp [ho] at hr
      | some o =>
        simp only [ho] at hr
        rw [Array.any_eq_true'] at hr
        obtain ⟨e, he, h2⟩ := hr
        rw [Bool.and_eq_true] at h2
        exact Clo.reach h n e.on h2.2 (h t o ho ht e he h2.1)
theorem row_kept {w w' : World} {g : Nat} {c : Obj} (h : w.heap[g]? = some c) (hb : Below w.heap.size w w') : w'.heap[g]? = some c :=
  (hb.block g (Array.getElem?_eq_some_iff.1 h).1).trans h
end Go.Proofs.Ytleajegppehbdaa
namespace Go.Proofs.Ytleajegppehbdaa
open Go.RowKit
namespace Fx
abbrev Gh := Nat → Nat × Nat
def updr (r : Gh) (k : Nat) (p : Nat × Nat) : Gh := fun j => bif Nat.beq j k then p else r j
theorem updr_same (r : Gh) (k : Nat) (p : Nat × Nat) : updr r k p k = p := by unfold updr; rw [Nat.beq_refl]; rfl
theorem updr_ne {r : Gh} {k j : Nat} {p : Nat × Nat} (h : j < k) : updr r k p j = r j := by
  unfold updr
  have : Nat.beq j k = false := by
    cases hq : Nat.beq j k
    · rfl
    · exact absurd (Nat.eq_of_beq_eq_true hq) (by omega)
  rw [this]; rfl
def opAt (ops : List Oper) (i : Nat) : Oper := ops.getD i default
def dstIs (s : Nat) : Option Nat → Bool | none => false | some d => Nat.beq d s
def writerFrom (s : Nat) : List Oper → Nat → Option Nat
  | [], _ => none
  | o :: l, i => bif dstIs s o.dst then some i else writerFrom s l (i + 1)
def writer (ops : List Oper) (s : Nat) : Option Nat := writerFrom s ops 0
def over (ops : List Oper) (f : Nat → Value) (v : Nat → Value) (listed : Array Bool) : Nat → Value := fun s => match writer ops s with | some i => (if listed.getD i false then v i else f s) | none => f s
def full (ops : List Oper) (f : Nat → Value) (v : Nat → Value) : Nat → Value := fun s => match writer ops s with | some i => v i | none => f s
def isAfter (o : Oper) (j : Nat) : Bool := o.after.any fun e => Region.binds .any e && Nat.beq e.on j
def opsOk (n : Nat) (ops : List Oper) : Bool :=
  (List.range ops.length).all fun i =>
    let o := opAt ops i
    (match o.dst with | none => true | some d => (match writer ops d with | some j => Nat.beq j i | none => false) && Nat.blt d n) &&
    (o.op.operands.all fun x => match x with | .tmp t => (match writer ops t with | some j => isAfter o j | none => true) | _ => true) &&
    (match o.guard with | none => true | some (j, _) => isAfter o j) && (o.after.all fun e => !Region.binds .any e || Nat.blt e.on i)
theorem writerFrom_spec {s : Nat} : ∀ {l : List Oper} {k i : Nat}, writerFrom s l k = some i → k ≤ i ∧ (opAt l (i - k)).dst = some s ∧ i - k < l.length
  | [], _, _, h => by cases h
  | o :: l, k, i, h => by
    unfold writerFrom at h
    cases hd : dstIs s o.dst
    · rw [hd] at h
      have := writerFrom_spec (l := l) (k := k + 1) (i := i) h
      refine ⟨by omega, ?_, by simp; omega⟩
      have e : i - k = (i - (k + 1)) + 1 := by omega
      rw [e]
      exact this.2.1
    · rw [hd] at h
      have : k = i := by simpa using h
      subst this
      refine ⟨Nat.le_refl _, ?_, by simp⟩
      simp only [Nat.sub_self, opAt, List.getD_cons_zero]
      cases hq : o.dst with
      | none => rw [hq] at hd; cases hd
      | some d => rw [hq] at hd; rw [Nat.eq_of_beq_eq_true hd]
theorem writer_spec {ops : List Oper} {s i : Nat} (h : writer ops s = some i) : (opAt ops i).dst = some s ∧ i < ops.length := by
  have := writerFrom_spec h; simpa using this.2
section
variable {ops : List Oper} {f : Nat → Value} {n : Nat}
theorem opsOk_at (h : opsOk n ops = true) {i : Nat} (hi : i < ops.length) :
    (∀ d, (opAt ops i).dst = some d → writer ops d = some i ∧ d < n) ∧ (∀ t j, .tmp t ∈ (opAt ops i).op.operands → writer ops t = some j → isAfter (opAt ops i) j = true) ∧ (∀ j b, (opAt ops i).guard = some (j, b) → isAfter (opAt ops i) j = true) ∧ (∀ j, isAfter (opAt ops i) j = true → j < i) := by
  unfold opsOk at h
  rw [List.all_eq_true] at h
  have := h i (by simpa using hi)
  simp only [Bool.and_eq_true] at this
  obtain ⟨⟨⟨h1, h2⟩, h3⟩, h4⟩ := this
  refine ⟨fun d hd => ?_, fun t j ht hj => ?_, fun j b hg => ?_, fun j hj => ?_⟩
  · rw [hd] at h1
    simp only [Bool.and_eq_true] at h1
    cases hw : writer ops d with
    | none => rw [hw] at h1; simp at h1
    | some j => rw [hw] at h1; simp only at h1; rw [Nat.eq_of_beq_eq_true h1.1]; exact ⟨rfl, by simpa [Nat.blt_eq] using h1.2⟩
  · rw [Array.all_eq_true'] at h2
    have := h2 _ ht
    simp only [hj] at this
    exact this
  · rw [hg] at h3; exact h3
  unfold isAfter at hj
  rw [Array.any_eq_true'] at hj
  obtain ⟨e, he, h5⟩ := hj
  rw [Bool.and_eq_true] at h5
  rw [Array.all_eq_true'] at h4
  have := h4 e he
  rw [h5.1] at this
  rw [← Nat.eq_of_beq_eq_true h5.2]
  simpa [Nat.blt_eq] using this
theorem set_self {listed : Array Bool} {i : Nat} (h : i < listed.size) : (listed.setIfInBounds i true).getD i false = true := by rw [getD_setIf_false, if_pos ⟨rfl, h⟩]
theorem set_other {listed : Array Bool} {i j : Nat} (h : i ≠ j) : (listed.setIfInBounds i true).getD j false = listed.getD j false := by rw [getD_setIf_false, if_neg (fun q => h q.1)]
theorem over_set (h : opsOk n ops = true) {v : Nat → Value} {listed : Array Bool} (hs : listed.size = ops.length) {i : Nat} (hi : i < ops.length) : put (over ops f v listed) (opAt ops i).dst (v i) = over ops f v (listed.setIfInBounds i true) := by
  have hsp := (opsOk_at h hi).1
  funext s
  unfold over
  cases hd : (opAt ops i).dst with
  | none =>
    simp only [put]
    cases hw : writer ops s with
    | none => rfl
    | some j =>
      simp only
      by_cases e : i = j
      · subst e; rw [(writer_spec hw).1] at hd; cases hd
      · rw [set_other e]
  | some d =>
    simp only [put]
    by_cases e : s = d
    · subst e
      rw [Nat.beq_refl, (hsp s hd).1]
      simp only [cond_true]
      rw [set_self (by omega), if_pos rfl]
    · have hb : Nat.beq s d = false := by
        cases hq : Nat.beq s d
        · rfl
        · exact absurd (Nat.eq_of_beq_eq_true hq) e
      rw [hb]
      simp only [cond_false]
      cases hw : writer ops s with
      | none => rfl
      | some j =>
        simp only
        by_cases e2 : i = j
        · subst e2; rw [(writer_spec hw).1] at hd; exact absurd (Option.some.inj hd) e
        · rw [set_other e2]
theorem ready_after {i : Nat} {listed : Array Bool} (hr : i ∈ Region.ready .any ops.toArray listed) : listed.getD i false = false ∧ i < ops.length ∧ ops.toArray[i]? = some (opAt ops i) ∧ ∀ j, isAfter (opAt ops i) j = true → listed.getD j false = true := by
  obtain ⟨h1, o, ho, hall⟩ := mem_ready.1 hr
  have hi : i < ops.length := by
    have := (Array.getElem?_eq_some_iff.1 ho).1; simpa using this
  have he : opAt ops i = o := by
    unfold opAt
    rw [List.getElem?_toArray] at ho
    rw [List.getD_eq_getElem?_getD, ho]; rfl
  refine ⟨getD_both h1, hi, by rw [he]; exact ho, fun j hj => ?_⟩
  rw [he] at hj
  unfold isAfter at hj
  rw [Array.any_eq_true'] at hj
  obtain ⟨e, hem, h2⟩ := hj
  rw [Bool.and_eq_true] at h2
  rw [← Nat.eq_of_beq_eq_true h2.2]
  exact hall e hem h2.1
theorem over_ev (h : opsOk n ops = true) {v : Nat → Value} {listed : Array Bool} {i : Nat} (hr : i ∈ Region.ready .any ops.toArray listed) : ∀ x ∈ (opAt ops i).op.operands, ev (over ops f v listed) x = ev (full ops f v) x := by
  obtain ⟨_, hi, _, hall⟩ := ready_after hr
  intro x hx
  cases x with
  | tmp t =>
    show over ops f v listed t = full ops f v t
    unfold over full
    cases hw : writer ops t with
    | none => rfl
    | some j => simp only; rw [if_pos (hall j ((opsOk_at h hi).2.1 t j hx hw))]
  | _ => rfl
theorem over_wanted (h : opsOk n ops = true) {v : Nat → Value} {listed : Array Bool} {i : Nat} (hr : i ∈ Region.ready .any ops.toArray listed) : Region.wanted (opAt ops i) (yf ops.toArray (over ops f v listed)) = Region.wanted (opAt ops i) (yf ops.toArray (full ops f v)) := by
  obtain ⟨_, hi, _, hall⟩ := ready_after hr
  unfold Region.wanted
  cases hg : (opAt ops i).guard with
  | none => rfl
  | some jb =>
    obtain ⟨j, b⟩ := jb
    simp only
    have hl := hall j ((opsOk_at h hi).2.2.1 j b hg)
    congr 1
    unfold yf
    cases hd : (ops.toArray[j]?).bind (·.dst) with
    | none => rfl
    | some d =>
      simp only
      have hj : j < ops.length := by
        cases hq : ops.toArray[j]? with
        | none => rw [hq] at hd; cases hd
        | some o => have := (Array.getElem?_eq_some_iff.1 hq).1; simpa using this
      have hdd : (opAt ops j).dst = some d := by
        unfold opAt
        rw [List.getElem?_toArray] at hd
        rw [List.getD_eq_getElem?_getD]
        cases hq : ops[j]? with
        | none => rw [hq] at hd; cases hd
        | some o => rw [hq] at hd; exact hd
      have hw := ((opsOk_at h hj).1 d hdd).1
      have e : over ops f v listed d = full ops f v d := by unfold over full; rw [hw]; simp only; rw [if_pos hl]
      rw [e]
end
def pathB (ops : List Oper) : Nat → List Nat → Nat → Bool
  | t, [], i => Nat.beq t i
  | t, j :: l, i => isAfter (opAt ops t) j && pathB ops j l i
theorem pathB_reach {ops : List Oper} : ∀ {p : List Nat} {t i : Nat}, pathB ops t p i = true → ∃ m, reach ops.toArray .any m t i = true
  | [], t, i, h => ⟨0, by unfold reach; rw [Nat.eq_of_beq_eq_true h]; simp⟩
  | j :: l, t, i, h => by
    unfold pathB at h
    rw [Bool.and_eq_true] at h
    obtain ⟨m, hm⟩ := pathB_reach h.2
    refine ⟨m + 1, ?_⟩
    unfold reach
    rw [Bool.or_eq_true]
    right
    have h1 := h.1
    unfold isAfter at h1
    rw [Array.any_eq_true'] at h1
    obtain ⟨e, he, h2⟩ := h1
    rw [Bool.and_eq_true] at h2
    have ho : ops.toArray[t]? = some (opAt ops t) := by
      unfold opAt at he ⊢
      rw [List.getElem?_toArray, List.getD_eq_getElem?_getD]
      cases hq : ops[t]? with
      | none =>
        rw [List.getD_eq_getElem?_getD, hq] at he
        exact absurd he (by simp [show (default : Oper).after = #[] from rfl])
      | some o => rfl
    rw [ho]
    simp only
    rw [Array.any_eq_true']
    exact ⟨e, he, by rw [h2.1, Nat.eq_of_beq_eq_true h2.2, hm]; rfl⟩
abbrev Span := Nat × Nat × List Nat × List Nat
def noSpan : Span := (0, 0, [], [])
def loOk (ops : List Oper) (es : List Nat) (i lo : Nat) (p : List Nat) : Bool := match lo with | 0 => true | k + 1 => (match es[k]? with | some e => pathB ops i p e | none => false)
def hiOk (ops : List Oper) (es : List Nat) (i hi : Nat) (p : List Nat) : Bool := match es[hi]? with | some e => pathB ops e p i | none => true
def chainOk (ops : List Oper) : List Nat → Bool
  | [] => true
  | [_] => true
  | a :: b :: l => reach ops.toArray .any 5 b a && !Nat.beq b a && chainOk ops (b :: l)
def spanOk (ops : List Oper) (es : List Nat) (sp : List Span) : Bool := Nat.beq sp.length ops.length && (List.range ops.length).all fun i => es.contains i || (loOk ops es i (sp.getD i noSpan).1 (sp.getD i noSpan).2.2.1 && hiOk ops es i (sp.getD i noSpan).2.1 (sp.getD i noSpan).2.2.2)
section
variable {P : Program} {n : Nat} {Q : Post} {f : Nat → Value} {w : World} {ops : List Oper}
def QOk (P : Program) (ops : List Oper) (f : Nat → Value) (vals : Gh → Nat → Value) (S : Nat → Gh → World → Prop) (i lo hi : Nat) : Prop :=
  ∀ r k w, lo ≤ k → k ≤ hi → S k r w → if Region.wanted (opAt ops i) (yf ops.toArray (full ops f (vals r))) then Oper.quietUpon P (S k r) w (vals r i) ((execOp (ev (full ops f (vals r))) (opAt ops i)).run P w) else vals r i = undef
def EOk (P : Program) (ops : List Oper) (f : Nat → Value) (vals : Gh → Nat → Value) (S : Nat → Gh → World → Prop) (Q' : Exit → Act → World → Prop) (i k : Nat) : Prop :=
  ∀ r w (a : Act) (K : Act → World → Prop), S k r w → (∀ x ∈ (opAt ops i).op.operands, a.eval x = ev (full ops f (vals r)) x) → (∀ p w', S (k + 1) (updr r k p) w' → K (a.put (opAt ops i).dst (vals (updr r k p) i)) w') → (opAt ops i).wp P a w K Q'
def DOk (vals : Gh → Nat → Value) (i d : Nat) : Prop := ∀ k r p, d ≤ k → vals (updr r k p) i = vals r i
theorem W.drawn {id : Nat} (es : List Nat) (sp : List Span) (vals : Gh → Nat → Value) (S : Nat → Gh → World → Prop) (hm : P.follows .mixedOrders = true) (hok : opsOk n ops = true) (hsel : Region.noSelect ops.toArray = true) (hch : chainOk ops es = true) (hsp : spanOk ops es sp = true)
    (hes : es.all (fun e => Nat.blt e ops.length && (match (opAt ops e).guard with | none => true | _ => false)) = true) (hnd : es.Nodup)
    (h0 : ∀ w1, Below w.heap.size w w1 → w1.heap.size = w.heap.size → ∃ r, S 0 r w1)
    (hq : ∀ i, i < ops.length → es.contains i = false → QOk P ops f vals S i (sp.getD i noSpan).1 (sp.getD i noSpan).2.1)
    (he : ∀ k i, es[k]? = some i → EOk P ops f vals S (lift n Q) i k)
    (hdq : ∀ i, i < ops.length → es.contains i = false → DOk vals i (sp.getD i noSpan).1)
    (hde : ∀ k i, es[k]? = some i → DOk vals i (k + 1))
    (h : ∀ r w', S es.length r w' → Q .normal (full ops f (vals r)) w') : W P n (.region id ops.toArray true) Q f w := fun a ha => by
  refine wp_region_any hm ?_
  have hspan : ∀ i, i < ops.length → es.contains i = false → loOk ops es i (sp.getD i noSpan).1 (sp.getD i noSpan).2.2.1 = true ∧ hiOk ops es i (sp.getD i noSpan).2.1 (sp.getD i noSpan).2.2.2 = true := fun i hi hne => by
    unfold spanOk at hsp
    rw [Bool.and_eq_true, List.all_eq_true] at hsp
    have := hsp.2 i (by simpa using hi)
    rw [hne, Bool.false_or, Bool.and_eq_true] at this
    exact this
  have hesl : ∀ k i, es[k]? = some i → i < ops.length ∧ (opAt ops i).guard = none := fun k i hk => by
    rw [List.all_eq_true] at hes
    have := hes i (List.mem_of_getElem? hk)
    rw [Bool.and_eq_true] at this
    refine ⟨by simpa [Nat.blt_eq] using this.1, ?_⟩
    cases hg : (opAt ops i).guard with
    | none => rfl
    | some _ => rw [hg] at this; exact absurd this.2 (by simp)
  -- the invariant
  have key : ∀ (fuel : Nat) (listed : Array Bool) (a : Act) (w1 : World) (r : Gh) (k : Nat), listed.size = ops.length → Clo ops.toArray .any listed → (∀ j e, es[j]? = some e → listed.getD e false = decide (j < k)) → k ≤ es.length → Fr a n (over ops f (vals r) listed) → S k r w1 →
      (∀ fl : List Nat, fl = (List.range ops.length).filter (fun i => !listed.getD i false) → fl.length = fuel) → wpAny P .any ops.toArray (lift n Q) fuel listed a w1 := by
    intro fuel
    induction fuel with
    | zero =>
      intro listed a w1 r k hsz hclo hpre hk ha hS hfl
      have hall : ∀ i, i < ops.length → listed.getD i false = true := fun i hi => by
        have h1 := List.eq_nil_of_length_eq_zero (hfl _ rfl)
        cases hq : listed.getD i false
        · have : i ∈ (List.range ops.length).filter (fun i => !listed.getD i false) := by simp only [List.mem_filter, List.mem_range]; exact ⟨hi, by rw [hq]; rfl⟩
          rw [h1] at this; cases this
        · rfl
      have hkk : k = es.length := by
        by_cases hlt : k < es.length
        · have := hpre k es[k] (List.getElem?_eq_getElem hlt)
          rw [hall _ (hesl k _ (List.getElem?_eq_getElem hlt)).1] at this
          simp at this
        · omega
      have hnone : Region.ready .any ops.toArray listed = [] := by
        cases hq : Region.ready .any ops.toArray listed with
        | nil => rfl
        | cons i l =>
          have hr : i ∈ Region.ready .any ops.toArray listed := by rw [hq]; exact List.mem_cons_self
          obtain ⟨h1, h2, _, _⟩ := ready_after hr
          rw [hall i h2] at h1; cases h1
      refine ⟨hnone, full ops f (vals r), ?_, h r w1 (hkk ▸ hS)⟩
      have : over ops f (vals r) listed = full ops f (vals r) := by
        funext s
        unfold over full
        cases hw : writer ops s with
        | none => rfl
        | some i => simp only; rw [if_pos (hall i (writer_spec hw).2)]
      exact this ▸ ha
    | succ fuel ih =>
      intro listed a w1 r k hsz hclo hpre hk ha hS hfl
      have hcount : ∀ i, i ∈ Region.ready .any ops.toArray listed → ∀ fl : List Nat, fl = (List.range ops.length).filter (fun j => !(listed.setIfInBounds i true).getD j false) → fl.length = fuel := by
        intro i hr fl hfl2
        obtain ⟨h1, h2, _, _⟩ := ready_after hr
        subst hfl2
        have e : (List.range ops.length).filter (fun j => !(listed.setIfInBounds i true).getD j false) = ((List.range ops.length).filter (fun i => !listed.getD i false)).erase i := by
          rw [List.Nodup.erase_eq_filter (List.Nodup.sublist List.filter_sublist List.nodup_range), List.filter_filter]
          apply List.filter_congr
          intro j hj
          by_cases e : i = j
          · subst e; rw [set_self (by rw [hsz]; exact h2)]; simp
          · rw [set_other e]
            have : (j != i) = true := by simp; exact fun q => e q.symm
            rw [this, Bool.true_and]
        rw [e, List.length_erase_of_mem (by simp only [List.mem_filter, List.mem_range]; exact ⟨h2, by rw [h1]; rfl⟩), hfl _ rfl]
        rfl
      refine ⟨fun hnone => ?_, fun i hr => ?_⟩
      · -- something must be ready: the first that is not listed
        exfalso
        have hlen := hfl _ rfl
        -- least unlisted index by position waits only for smaller ones?  not known: use that every unlisted op waits for an unlisted one is impossible when the region can be linearised
        exact (by
          have : ∃ i, i ∈ Region.ready .any ops.toArray listed := by
            obtain ⟨q, hq⟩ : ∃ q, q ∈ (List.range ops.length).filter (fun i => !listed.getD i false) := by
              cases hfe : (List.range ops.length).filter (fun i => !listed.getD i false) with
              | nil => rw [hfe] at hlen; cases hlen
              | cons q l => exact ⟨q, List.mem_cons_self⟩
            have hleast : ∀ m q, q ≤ m → q < ops.length → listed.getD q false = false → ∃ i, i < ops.length ∧ listed.getD i false = false ∧ ∀ j, j < i → listed.getD j false = true := by
              intro m
              induction m with
              | zero => intro q hm hq1 hq2; exact ⟨q, hq1, hq2, fun j hj => by omega⟩
              | succ m ihm =>
                intro q hm hq1 hq2
                by_cases hall : ∀ j, j < q → listed.getD j false = true
                · exact ⟨q, hq1, hq2, hall⟩
                · obtain ⟨j, hj⟩ := Classical.not_forall.1 hall
                  obtain ⟨hj1, hj2⟩ := Classical.not_imp.1 hj
                  exact ihm j (by omega) (by omega) (by simpa using hj2)
            simp only [List.mem_filter, List.mem_range] at hq
            obtain ⟨i, hi, hi1, hi2⟩ := hleast q q (Nat.le_refl _) hq.1 (by simpa using hq.2)
            refine ⟨i, mem_ready.2 ⟨getD_in (by rw [hsz]; exact hi) hi1, opAt ops i, ?_, fun e he hb => hi2 e.on ((opsOk_at hok hi).2.2.2 e.on ?_)⟩⟩
            · unfold opAt; rw [List.getElem?_toArray, List.getD_eq_getElem?_getD, List.getElem?_eq_getElem hi]; rfl
            · unfold isAfter; rw [Array.any_eq_true']; exact ⟨e, he, by rw [hb, Nat.beq_refl]; rfl⟩
          obtain ⟨i, hi⟩ := this
          rw [hnone] at hi; cases hi)
      · obtain ⟨h1, hi, hop, hall⟩ := ready_after hr
        have hsz' : (listed.setIfInBounds i true).size = ops.length := by simpa using hsz
        have hclo' := hclo.set hr
        have hev := over_ev (f := f) hok (v := vals r) hr
        have hae : ∀ x ∈ (opAt ops i).op.operands, a.eval x = ev (full ops f (vals r)) x := fun x hx => by rw [ha.ev]; exact hev x hx
        have hex : execOp a.eval (opAt ops i) = execOp (ev (full ops f (vals r))) (opAt ops i) := execOp_congr _ (Region.noSelect_spec hsel i _ · · hop) hae
        have hwant : Region.wanted (opAt ops i) (yielded ops.toArray a.tmps) = Region.wanted (opAt ops i) (yf ops.toArray (full ops f (vals r))) := by rw [ha.yf]; exact over_wanted hok hr
        unfold wpOp
        simp only [hop]
        rw [hwant]
        by_cases hne : es.contains i = true
        · -- an effect
          have hmem : i ∈ es := by simpa using hne
          obtain ⟨j, hj⟩ := List.getElem?_of_mem hmem
          have hg := (hesl j i hj).2
          have hjk : j = k := by
            have h3 := hpre j i hj
            rw [h1] at h3
            have h4 : ¬ j < k := by simpa using h3.symm
            by_cases hlt : k < j
            · -- the one ahead of it is listed
              exfalso
              obtain ⟨j', rfl⟩ : ∃ j', j = j' + 1 := ⟨j - 1, by omega⟩
              have hj' : j' < es.length := by have := (List.getElem?_eq_some_iff.1 hj).1; omega
              have hreach : ∀ {l : List Nat}, chainOk ops l = true → ∀ k e e', l[k]? = some e' → l[k + 1]? = some e → reach ops.toArray .any 5 e e' = true ∧ e ≠ e' := by
                intro l
                induction l with
                | nil => intro _ k e e' h _; simp at h
                | cons a l ih2 =>
                  intro hk k e e' h1 h2
                  cases l with
                  | nil => cases k <;> simp at h2
                  | cons b l =>
                    unfold chainOk at hk
                    simp only [Bool.and_eq_true] at hk
                    cases k with
                    | zero =>
                      simp at h1 h2; subst h1 h2
                      refine ⟨hk.1.1, fun e => ?_⟩
                      rw [e, Nat.beq_refl] at hk; exact absurd hk.1.2 (by simp)
                    | succ k => exact ih2 hk.2 k e e' (by simpa using h1) (by simpa using h2)
              obtain ⟨hr1, hne1⟩ := hreach hch j' i es[j'] (List.getElem?_eq_getElem hj') hj
              have hl : listed.getD es[j'] false = true := by
                unfold reach at hr1
                rw [Bool.or_eq_true] at hr1
                rcases hr1 with hr1 | hr1
                · exact absurd (by simpa using hr1) hne1
                · rw [hop] at hr1
                  simp only at hr1
                  rw [Array.any_eq_true'] at hr1
                  obtain ⟨e, he1, he2⟩ := hr1
                  rw [Bool.and_eq_true] at he2
                  refine hclo.reach _ _ he2.2 (hall e.on ?_)
                  unfold isAfter
                  rw [Array.any_eq_true']
                  exact ⟨e, he1, by rw [he2.1, Nat.beq_refl]; rfl⟩
              have h5 := hpre j' es[j'] (List.getElem?_eq_getElem hj')
              rw [hl] at h5
              have : j' < k := by simpa using h5.symm
              omega
            · omega
          subst hjk
          have hjl : j < es.length := (List.getElem?_eq_some_iff.1 hj).1
          rw [if_pos (by unfold Region.wanted; rw [hg])]
          refine .inl (he j i hj r w1 a _ hS hae fun p w' hS' => ?_)
          -- the values that are listed stay
          have hsame : over ops f (vals r) listed = over ops f (vals (updr r j p)) listed := by
            funext s
            unfold over
            cases hw : writer ops s with
            | none => rfl
            | some q =>
              simp only
              cases hlq : listed.getD q false
              · rfl
              · simp only [if_true]
                by_cases hqe : es.contains q = true
                · obtain ⟨jq, hjq⟩ := List.getElem?_of_mem (show q ∈ es by simpa using hqe)
                  have h6 := hpre jq q hjq
                  rw [hlq] at h6
                  have h7 : jq < j := by simpa using h6.symm
                  exact (hde jq q hjq j r p (by omega)).symm
                · have hqe' : es.contains q = false := by simpa using hqe
                  have hqi := (writer_spec hw).2
                  refine (hdq q hqi hqe' j r p ?_).symm
                  have hlo := (hspan q hqi hqe').1
                  unfold loOk at hlo
                  split at hlo
                  · rename_i hz; rw [hz]; exact Nat.zero_le _
                  · rename_i k' hz
                    rw [hz]
                    cases hek : es[k']? with
                    | none => rw [hek] at hlo; cases hlo
                    | some e =>
                      rw [hek] at hlo
                      obtain ⟨mm, hlo⟩ := pathB_reach hlo
                      have h8 := hclo.reach _ _ hlo hlq
                      rw [hpre k' e hek] at h8
                      have : k' < j := by simpa using h8
                      omega
          refine ih _ _ _ (updr r j p) (j + 1) hsz' hclo' ?_ hjl ?_ hS' (hcount i hr)
          · intro q e hqe
            by_cases eq : i = e
            · subst eq
              have : q = j := by
                have h9 := (List.getElem?_eq_some_iff.1 hqe)
                have h10 := (List.getElem?_eq_some_iff.1 hj)
                exact (List.getElem_inj hnd).1 (h9.2.trans h10.2.symm)
              rw [set_self (by rw [hsz]; exact hi), this]
              simp
            · rw [set_other eq, hpre q e hqe]
              have : q ≠ j := fun z => by subst z; rw [hj] at hqe; exact eq (Option.some.inj hqe)
              by_cases c : q < j
              · rw [decide_eq_true c, decide_eq_true (by omega)]
              · rw [decide_eq_false c, decide_eq_false (by omega)]
          · have := (hsame ▸ ha).put (d := (opAt ops i).dst) (by
              cases hd : (opAt ops i).dst with
              | none => rfl
              | some d => simp [inn, Nat.blt_eq, ((opsOk_at hok hi).1 d hd).2]) (vals (updr r j p) i)
            rwa [over_set hok hsz hi] at this
        · have hne' : es.contains i = false := by simpa using hne
          obtain ⟨hlo, hhi⟩ := hspan i hi hne'
          have hl1 : (sp.getD i noSpan).1 ≤ k := by
            unfold loOk at hlo
            split at hlo
            · rename_i hz; rw [hz]; exact Nat.zero_le _
            · rename_i k' hz
              rw [hz]
              cases hek : es[k']? with
              | none => rw [hek] at hlo; cases hlo
              | some e =>
                rw [hek] at hlo
                have hne2 : i ≠ e := fun q => by subst q; exact absurd (show es.contains i = true by simpa using List.mem_of_getElem? hek) hne
                have hl : listed.getD e false = true := by
                  obtain ⟨mm, hlo⟩ := pathB_reach hlo
                  cases mm with
                  | zero => unfold reach at hlo; exact absurd (by simpa using hlo) hne2
                  | succ mm =>
                  unfold reach at hlo
                  rw [Bool.or_eq_true] at hlo
                  rcases hlo with hr1 | hr1
                  · exact absurd (by simpa using hr1) hne2
                  · rw [hop] at hr1
                    simp only at hr1
                    rw [Array.any_eq_true'] at hr1
                    obtain ⟨e2, he1, he2⟩ := hr1
                    rw [Bool.and_eq_true] at he2
                    refine hclo.reach _ _ he2.2 (hall e2.on ?_)
                    unfold isAfter
                    rw [Array.any_eq_true']
                    exact ⟨e2, he1, by rw [he2.1, Nat.beq_refl]; rfl⟩
                rw [hpre k' e hek] at hl
                have : k' < k := by simpa using hl
                omega
          have hl2 : k ≤ (sp.getD i noSpan).2.1 ∨ es.length ≤ (sp.getD i noSpan).2.1 := by
            unfold hiOk at hhi
            cases hek : es[(sp.getD i noSpan).2.1]? with
            | none => right; exact List.getElem?_eq_none_iff.1 hek
            | some e =>
              left
              rw [hek] at hhi
              have h3 := hpre _ e hek
              cases hle : listed.getD e false
              · rw [hle] at h3
                have : ¬ (sp.getD i noSpan).2.1 < k := by simpa using h3.symm
                omega
              · obtain ⟨mm, hhi⟩ := pathB_reach hhi
                have := hclo.reach _ _ hhi hle
                rw [h1] at this; cases this
          have hq1 := hq i hi hne' r k w1 hl1 (by rcases hl2 with q | q <;> omega) hS
          have hfin : ∀ w', S k r w' → wpAny P .any ops.toArray (lift n Q) fuel (listed.setIfInBounds i true) (a.put (opAt ops i).dst (vals r i)) w' := fun w' hS' => by
            refine ih _ _ _ r k hsz' hclo' ?_ hk ?_ hS' (hcount i hr)
            · intro q e hqe
              have : i ≠ e := fun z => by subst z; exact absurd (show es.contains i = true by simpa using List.mem_of_getElem? hqe) hne
              rw [set_other this]
              exact hpre q e hqe
            · have := ha.put (d := (opAt ops i).dst) (by
                cases hd : (opAt ops i).dst with
                | none => rfl
                | some d => simp [inn, Nat.blt_eq, ((opsOk_at hok hi).1 d hd).2]) (vals r i)
              rwa [over_set hok hsz hi] at this
          by_cases hwt : Region.wanted (opAt ops i) (yf ops.toArray (full ops f (vals r))) = true
          · rw [if_pos hwt] at hq1 ⊢
            refine .inl ?_
            unfold Oper.wp
            rw [hex]
            generalize (execOp (ev (full ops f (vals r))) (opAt ops i)).run P w1 = res at hq1
            cases res with
            | ok nx w' =>
              cases nx <;> simp only [Oper.quietUpon] at hq1 <;> simp only [Oper.upon]
              case value u => obtain ⟨e1, e2⟩ := hq1; subst e1 e2; exact hfin _ hS
              case skip => obtain ⟨e1, e2⟩ := hq1; subst e1; rw [← e2]; exact hfin _ hS
              case enter g args =>
                obtain ⟨e1, hc⟩ := hq1
                subst e1
                exact hc.mono fun e w'' ⟨he', hw''⟩ => by subst he'; exact hfin _ hw''
            | halt x w' => simp only [Oper.quietUpon] at hq1
          · rw [if_neg hwt] at hq1 ⊢
            rw [← hq1]
            exact hfin _ hS
  obtain ⟨r, hr⟩ := h0 { w with drawn := w.drawn + 1 } (Below.refl _ _).drew rfl
  have hstart : over ops f (vals r) (Array.replicate ops.toArray.size false) = f := by
    funext s
    unfold over
    cases writer ops s with
    | none => rfl
    | some i =>
      simp only
      rw [show (Array.replicate ops.toArray.size false).getD i false = false from by
        rw [Array.getD_eq_getD_getElem?]
        by_cases hi : i < ops.length
        · simp [hi]
        · simp [hi]]
      simp
  have hrep : ∀ i, (Array.replicate ops.toArray.size false).getD i false = false := fun i => by
    rw [Array.getD_eq_getD_getElem?]
    by_cases hi : i < ops.length
    · simp [hi]
    · simp [hi]
  have := key ops.toArray.size (Array.replicate ops.toArray.size false) a { w with drawn := w.drawn + 1 } r 0 (by simp) (Clo.start _ _ _) (fun j e _ => by rw [hrep]; simp) (Nat.zero_le _) (by rw [hstart]; exact ha) hr (fun fl hfl => by
    subst hfl
    have : (List.range ops.length).filter (fun i => !(Array.replicate ops.toArray.size false).getD i false) = List.range ops.length := List.filter_eq_self.2 fun i _ => by rw [hrep]; rfl
    rw [this]; simp)
  exact this
end
end Fx
end Go.Proofs.Ytleajegppehbdaa
namespace Go.Proofs.Ytleajegppehbdaa
open Go.RowKit
namespace Fx
section
variable {P : Program} {n : Nat} {Q : Post} {f : Nat → Value} {w : World} {ops : List Oper}
def vOne (ia : Nat) (vs : Array Value) : Gh → Nat → Value := fun r i => bif Nat.beq i ia then .pointer (some ⟨(r 0).1, 0, none⟩) else vs.getD i undef
def sOne (w : World) (m : Nat) (z y : Nat → Value) (T : TypeId) : Nat → Gh → World → Prop := fun k r w1 => Below w.heap.size w w1 ∧ (match k with | 0 => True | 1 => w.heap.size ≤ (r 0).1 ∧ Blk w1 (r 0).1 m z T | _ => w.heap.size ≤ (r 0).1 ∧ Blk w1 (r 0).1 m y T)
theorem sOne.up {m : Nat} {z y : Nat → Value} {T : TypeId} {k : Nat} {r : Gh} {w1 w2 : World} (h : sOne w m z y T k r w1) (hb : Below w1.heap.size w1 w2) : sOne w m z y T k r w2 := by
  refine ⟨bch h.1 hb, ?_⟩
  have h2 := h.2
  cases k with
  | zero => trivial
  | succ k => cases k with
    | zero => exact ⟨h2.1, h2.2.stp (Sb hb) (Nat.ne_of_lt h2.2.lt)⟩
    | succ k => exact ⟨h2.1, h2.2.stp (Sb hb) (Nat.ne_of_lt h2.2.lt)⟩
def QB (P : Program) (ρ : Operand → Value) (o : Oper) (w : World) (v : Value) : Prop := ∀ w1, Below w.heap.size w w1 → (execOp ρ o).run P w1 = .ok (.value v) w1 ∨ ∃ g args, (execOp ρ o).run P w1 = .ok (.enter g args) w1 ∧ Calls P g args w1 fun e w2 => e = .returned v ∧ Below w1.heap.size w1 w2
def qbAll (P : Program) (f' : Nat → Value) (ops : Array Oper) (w : World) (ia st : Nat) (vs : Array Value) : List Oper → Nat → Prop
  | [], _ => True
  | o :: l, i => (Nat.beq i ia = true ∨ Nat.beq i st = true ∨ (if Region.wanted o (yf ops f') then QB P (ev f') o w (vs.getD i undef) else vs.getD i undef = undef)) ∧ qbAll P f' ops w ia st vs l (i + 1)
theorem qbAll_at {f' : Nat → Value} {opsA : Array Oper} {ia st : Nat} {vs : Array Value} : ∀ {l : List Oper} {k : Nat}, qbAll P f' opsA w ia st vs l k → ∀ i, i < l.length → (k + i = ia ∨ k + i = st ∨ (if Region.wanted (opAt l i) (yf opsA f') then QB P (ev f') (opAt l i) w (vs.getD (k + i) undef) else vs.getD (k + i) undef = undef))
  | [], _, _, i, hi => absurd hi (by simp)
  | o :: l, k, h, 0, _ => by
    rcases h.1 with h1 | h1 | h1
    · exact .inl (Nat.eq_of_beq_eq_true h1)
    · exact .inr (.inl (Nat.eq_of_beq_eq_true h1))
    · exact .inr (.inr h1)
  | o :: l, k, h, i + 1, hi => by
    have := qbAll_at h.2 i (by simpa using hi)
    rwa [show k + 1 + i = k + (i + 1) by omega] at this
def fOne (ops : List Oper) (f : Nat → Value) (ia : Nat) (vs : Array Value) (g : Nat) : Nat → Value := full ops f (fun i => bif Nat.beq i ia then .pointer (some ⟨g, 0, none⟩) else vs.getD i undef)
theorem W.one {id : Nat} {T T' : TypeId} {a v : Operand} {m : Nat} {z y : Nat → Value} {u : Value} (ia st : Nat) (sp : List Span) (vs : Array Value) (hm : P.follows .mixedOrders = true) (hok : opsOk n ops = true) (hsel : Region.noSelect ops.toArray = true) (hch : chainOk ops [ia, st] = true) (hsp : spanOk ops [ia, st] sp = true)
    (hes : [ia, st].all (fun e => Nat.blt e ops.length && (match (opAt ops e).guard with | none => true | _ => false)) = true)
    (hia : (opAt ops ia).op = .alloc T) (hz : ((P.info? T).bind (·.zero)).map (·.cells) = some (varr m z))
    (hst : (opAt ops st).op = .store T' a v) (hsd : (opAt ops st).dst = none) (hsz : (P.info? T').map (·.size) = some m) (ha : ∀ g, ev (fOne ops f ia vs g) a = .pointer (some ⟨g, 0, none⟩)) (hv : ∀ g, ev (fOne ops f ia vs g) v = u) (hu : u.cells = varr m y) (h1 : ∀ j, j < m → (y j).oneCell' = true) (hvs : vs.getD st undef = undef)
    (hq : ∀ g, qbAll P (fOne ops f ia vs g) ops.toArray w ia st vs ops 0)
    (h : ∀ g w' f', f' = fOne ops f ia vs g → w.heap.size ≤ g → Blk w' g m y T → Below w.heap.size w w' → Q .normal f' w') : W P n (.region id ops.toArray true) Q f w := by
  have hne : ia ≠ st := by
    unfold chainOk at hch
    simp only [Bool.and_eq_true] at hch
    intro e; subst e; rw [Nat.beq_refl] at hch; exact absurd hch.1.2 (by simp)
  have hval : ∀ r i, vOne ia vs r i = (fun i => bif Nat.beq i ia then Value.pointer (some ⟨(r 0).1, 0, none⟩) else vs.getD i undef) i := fun _ _ => rfl
  have hbia : Nat.beq ia ia = true := Nat.beq_refl _
  have hbst : Nat.beq st ia = false := by
    cases hq : Nat.beq st ia
    · rfl
    · exact absurd (Nat.eq_of_beq_eq_true hq).symm hne
  refine W.drawn [ia, st] sp (vOne ia vs) (sOne w m z y T) hm hok hsel hch hsp hes (by simp [hne]) (fun w1 hb _ => ⟨fun _ => (0, 0), hb, trivial⟩) ?_ ?_ ?_ ?_ ?_
  · intro i hi hni r k w1 _ _ hS
    have hni' : i ≠ ia ∧ i ≠ st := by simpa using hni
    have hb : Nat.beq i ia = false := by
      cases hq : Nat.beq i ia
      · rfl
      · exact absurd (Nat.eq_of_beq_eq_true hq) hni'.1
    have hv' : vOne ia vs r i = vs.getD i undef := by unfold vOne; rw [hb]; rfl
    rcases qbAll_at (hq (r 0).1) i hi with h2 | h2 | h2
    · exact absurd h2 (by omega)
    · exact absurd h2 (by omega)
    rw [Nat.zero_add] at h2
    have hff : full ops f (vOne ia vs r) = fOne ops f ia vs (r 0).1 := rfl
    rw [hff, hv']
    by_cases hw : Region.wanted (opAt ops i) (yf ops.toArray (fOne ops f ia vs (r 0).1)) = true
    · rw [if_pos hw] at h2 ⊢
      rcases h2 w1 hS.1 with h3 | ⟨g, args, h3, h4⟩
      · rw [h3]; exact ⟨rfl, rfl⟩
      rw [h3]; exact ⟨rfl, h4.mono fun e w2 ⟨he, hb2⟩ => ⟨he, hS.up hb2⟩⟩
    rw [if_neg hw] at h2 ⊢; exact h2
  · intro k i hk
    cases k with
    | zero =>
      simp at hk; subst hk
      intro r w1 b K hS hb hK
      obtain ⟨zz, hz1, hz2⟩ := Option.map_eq_some_iff.1 hz
      obtain ⟨ti, hi1, hz3⟩ := Option.bind_eq_some_iff.1 hz1
      have hrun : (execOp b.eval (opAt ops ia)).run P w1 = .ok (.value (.pointer (some ⟨w1.heap.size, 0, none⟩))) (w1.alloc (.cells zz.cells T)) := by
        unfold execOp
        simp [hia, Instr.alloc, zeroValue, typeInfo, hi1, hz3, newVar, newRow]
      unfold Oper.wp
      rw [hrun]
      have := hK (w1.heap.size, 0) (w1.alloc (.cells zz.cells T)) ⟨bch hS.1 (Stp.alloc _ _).old, hS.1.size, by
        show (w1.alloc _).heap[w1.heap.size]? = _
        rw [alloc_at, if_pos rfl, hz2]⟩
      unfold vOne at this
      rw [hbia, updr_same] at this
      exact this
    | succ k =>
      cases k with
      | zero =>
        simp at hk; subst hk
        intro r w1 b K hS hb hK
        obtain ⟨hS1, hS2, hS3⟩ := hS
        have ea : b.eval a = .pointer (some ⟨(r 0).1, 0, none⟩) := (hb a (by rw [hst]; simp [Op.operands])).trans (ha (r 0).1)
        have ev' : b.eval v = u := (hb v (by rw [hst]; simp [Op.operands])).trans (hv (r 0).1)
        have hg : w1.heap[(r 0).1]? = some (.cells (varr m z) T (0, 0)) := hS3
        have hall : (varr m y).all (·.oneCell') = true := by
          rw [Array.all_eq_true_iff_forall_mem]
          intro q hqm
          obtain ⟨j, hj, he⟩ := Array.getElem_of_mem hqm
          have hj' : j < m := by simpa [varr_size] using hj
          have h5 := varr_get y hj'
          rw [Array.getElem?_eq_getElem hj, he] at h5
          rw [Option.some.inj h5]; exact h1 j hj'
        have hstv : (storeVar T' ⟨(r 0).1, 0, none⟩ u).run P w1 = .ok () (w1.setRow (r 0).1 (varr m y)) := by
          have h6 := run_storeCells_at (P := P) (r 0).1 0 T (varr m y).toList 0 (varr m z) w1 hg (by simp [varr_size]) (fun q hq => (Array.all_eq_true_iff_forall_mem.1 hall) q (by simpa using hq))
          have h7 : ((varr m z).toList.take (0 + 0) ++ (varr m y).toList ++ (varr m z).toList.drop (0 + 0 + (varr m y).toList.length)).toArray = varr m y := by
            rw [List.drop_eq_nil_of_le (by simp [varr_size])]; simp
          rw [h7] at h6
          cases hq : P.info? T' with
          | none => simp [hq] at hsz
          | some ti =>
            have hz' : ti.size = m := by simp [hq] at hsz; omega
            simp only [storeVar, sizeOf, typeInfo, Sem.run_bind, run_program, hq, hu, varr_size, hz', ne_eq, not_true_eq_false, if_false, Result.andThen_ok, Sem.run_pure, h6]
        have hrun : (execOp b.eval (opAt ops st)).run P w1 = .ok .skip (w1.setRow (r 0).1 (varr m y)) := by
          unfold execOp
          simp only [hst, ea, ev', Instr.storeAt, Instr.sureAddr, Sem.run_bind, Sem.run_pure, Result.andThen_ok, hstv]
        obtain ⟨s1, s2, s3⟩ := setRow_stp (w := w1) (cs := varr m y) hg
        unfold Oper.wp
        rw [hrun]
        show K (b.put (opAt ops st).dst undef) _
        rw [hsd]
        have := hK (0, 0) (w1.setRow (r 0).1 (varr m y)) ⟨s1.below hS1 hS1.size hS2, by rw [updr_ne (by omega)]; exact hS2, by rw [updr_ne (by omega)]; exact s2⟩
        rw [hsd] at this
        exact this
      | succ k => simp at hk
  · intro i hi hni k r p _
    have hni' : i ≠ ia ∧ i ≠ st := by simpa using hni
    have hb : Nat.beq i ia = false := by
      cases hq : Nat.beq i ia
      · rfl
      · exact absurd (Nat.eq_of_beq_eq_true hq) hni'.1
    unfold vOne; rw [hb]; rfl
  · intro k i hk q r p hq
    cases k with
    | zero => simp at hk; subst hk; unfold vOne; rw [hbia, updr_ne (by omega)]
    | succ k =>
      cases k with
      | zero => simp at hk; subst hk; unfold vOne; rw [hbst]; rfl
      | succ k => simp at hk
  intro r w' hS
  exact h (r 0).1 w' _ rfl hS.2.1 hS.2.2 hS.1
theorem fOne_out {ia : Nat} {vs : Array Value} {g s : Nat} (h : writer ops s = none) : ev (fOne ops f ia vs g) (.tmp s) = f s := by
  show full ops f _ s = f s
  unfold full; rw [h]
theorem qbV {ρ : Operand → Value} {o : Oper} {v : Value} (h : ∀ w1, Below w.heap.size w w1 → (execOp ρ o).run P w1 = .ok (.value v) w1) : QB P ρ o w v := fun w1 hb => .inl (h w1 hb)
theorem qbC {ρ : Operand → Value} {o : Oper} {v : Value} {g : FuncId} {args : Array Value} (h : ∀ w1, Below w.heap.size w w1 → (execOp ρ o).run P w1 = .ok (.enter g args) w1) (hc : ∀ w1, Below w.heap.size w w1 → Calls P g args w1 fun e w2 => e = .returned v ∧ Below w1.heap.size w1 w2) : QB P ρ o w v := fun w1 hb => .inr ⟨g, args, h w1 hb, hc w1 hb⟩
theorem qb_yes {o : Oper} {ops : Array Oper} {f' : Nat → Value} {v v' : Value} {p : Prop} (hw : Region.wanted o (yf ops f') = true) (e : v' = v) (h : QB P (ev f') o w v) : (if Region.wanted o (yf ops f') then QB P (ev f') o w v' else p) := by rw [if_pos hw, e]; exact h
end
end Fx
end Go.Proofs.Ytleajegppehbdaa
namespace Go.Proofs.Ytleajegppehbdaa
open Go.RowKit
namespace Fx
section
variable {P : Program} {n : Nat} {Q : Post} {f : Nat → Value} {w : World} {ops : Array Oper} {rest : List Oper} {o : Oper}
theorem L.bslice {T E : TypeId} {len s : Nat} {parts : List (Nat × Operand)} {vs : List (Nat × Value)} {zc y : Nat → Value} (hw : Region.wanted o (yf ops f) = true) (ho : o.op = .buildSlice T len parts.toArray) (hp : parts.map (fun p => (p.1, ev f p.2)) = vs) (hu : P.underlying T = some (.slice E)) (hs : (P.info? E).map (·.size) = some s)
    (hbig : Nat.ble (len * s) 16777216 = true) (hpos : Nat.beq (len * s) 0 = false) (hz : ((P.info? E).bind (·.zero)).map (·.cells) = some (varr s zc)) (hf : Instr.fill (fun i => some (i * s, s)) (varr (len * s) (fun j => zc (j % s))) vs = some (varr (len * s) y)) (hd : inn n o.dst = true)
    (h : ∀ g w', g = w.heap.size → Blk w' g (len * s) y E → Stp w.heap.size w w' → w'.heap.size = w.heap.size + 1 → L P n ops Q rest (put f o.dst (.slice (some ⟨g, 0, none⟩) len len)) w') : L P n ops Q (o :: rest) f w := by
  obtain ⟨z, hz1, hz2⟩ := Option.map_eq_some_iff.1 hz
  obtain ⟨i, hi, hz3⟩ := Option.bind_eq_some_iff.1 hz1
  have hsz : i.size = s := by rw [hi] at hs; simpa using hs
  have hb : ¬ len * s > 2 ^ 24 := by have := Nat.le_of_ble_eq_true hbig; omega
  have h0 : len * s ≠ 0 := fun e => by rw [e] at hpos; exact absurd hpos (by decide)
  have hs0 : 0 < s := Nat.pos_of_ne_zero fun e => h0 (by rw [e, Nat.mul_zero])
  have hcells : (Array.range (len * s)).map (fun j => z.cells[j % z.cells.size]!) = varr (len * s) (fun j => zc (j % s)) := by
    refine varr_ext (by simp) fun j hj => ?_
    have hjs : j % s < s := Nat.mod_lt _ hs0
    have hg := varr_get zc hjs
    rw [hz2]
    simp [hj, varr_size]
    rw [getElem!_def, hg]
  have hrun : (execOp (ev f) o).run P w = .ok (.value (.slice (some ⟨w.heap.size, 0, none⟩) len len)) (w.alloc (.cells (varr (len * s) y) E)) := by
    unfold execOp
    simp only [ho, List.map_toArray, hp]
    unfold Instr.buildSlice
    have hb' : ¬ 16777216 < len * s := by omega
    simp [underlying, sizeOf, typeInfo, zeroValue, hu, hi, hsz, hz3, hb']
    simp [h0, hcells, hf, newRow]
  refine L.val hw hrun hd (h _ _ rfl ?_ (Stp.alloc _ _) (by simp))
  show (w.alloc _).heap[w.heap.size]? = _
  rw [alloc_at, if_pos rfl]
theorem parts1 {x1 : Nat × Operand} {v1 : Value} (h1 : ev f x1.2 = v1) : [x1].map (fun p => (p.1, ev f p.2)) = [(x1.1, v1)] := by rw [List.map_cons, h1]; rfl
theorem parts2 {x1 x2 : Nat × Operand} {v1 v2 : Value} (h1 : ev f x1.2 = v1) (h2 : ev f x2.2 = v2) : [x1, x2].map (fun p => (p.1, ev f p.2)) = [(x1.1, v1), (x2.1, v2)] := by rw [List.map_cons, h1, parts1 h2]
theorem parts3 {x1 x2 x3 : Nat × Operand} {v1 v2 v3 : Value} (h1 : ev f x1.2 = v1) (h2 : ev f x2.2 = v2) (h3 : ev f x3.2 = v3) : [x1, x2, x3].map (fun p => (p.1, ev f p.2)) = [(x1.1, v1), (x2.1, v2), (x3.1, v3)] := by rw [List.map_cons, h1, parts2 h2 h3]
theorem parts4 {x1 x2 x3 x4 : Nat × Operand} {v1 v2 v3 v4 : Value} (h1 : ev f x1.2 = v1) (h2 : ev f x2.2 = v2) (h3 : ev f x3.2 = v3) (h4 : ev f x4.2 = v4) : [x1, x2, x3, x4].map (fun p => (p.1, ev f p.2)) = [(x1.1, v1), (x2.1, v2), (x3.1, v3), (x4.1, v4)] := by rw [List.map_cons, h1, parts3 h2 h3 h4]
end
end Fx
end Go.Proofs.Ytleajegppehbdaa
namespace Go.Proofs.Ytleajegppehbdaa
open Go.RowKit
namespace Fx
def Own (w : World) (B : Nat) (E : TypeId) (s : Nat) (v : Value) (n : Nat) (x : Nat → Value) : Prop := w.ownsRow B E s v n ((List.range (n * s)).map x)
theorem Own.nil (w : World) (B : Nat) (E : TypeId) (s : Nat) (x : Nat → Value) : Own w B E s (.slice none 0 0) 0 x := ⟨by simp, .inl ⟨rfl, rfl⟩⟩
theorem Stp.grown {g : Nat} {w w' : World} (h : Stp g w w') : w.grownBy w' (some g) := ⟨h.os, h.tape, h.output, h.size, fun k hk hne => h.block k hk (fun e => hne (by rw [e]))⟩
theorem Own.stp {w w' : World} {B : Nat} {E : TypeId} {s : Nat} {v : Value} {n : Nat} {x : Nat → Value} {g : Nat} (h : Own w B E s v n x) (hs : Stp g w w') (hne : v.ownBlock ≠ some g) : Own w' B E s v n x := World.ownsRow.kept h hs.grown (.inr hne)
theorem Own.up {w w' : World} {B : Nat} {E : TypeId} {s : Nat} {v : Value} {n : Nat} {x : Nat → Value} (h : Own w B E s v n x) (hb : Below w.heap.size w w') : Own w' B E s v n x := by
  refine World.ownsRow.kept h (row := none) ⟨hb.os, hb.tape, hb.output, hb.size, fun k hk _ => hb.block k hk⟩ ?_
  cases v.ownBlock <;> simp
theorem Own.ge {w : World} {B : Nat} {E : TypeId} {s : Nat} {v : Value} {n : Nat} {x : Nat → Value} (h : Own w B E s v n x) {g : Nat} (hg : v.ownBlock = some g) : B ≤ g ∧ g < w.heap.size := by
  rcases h.2 with ⟨rfl, _⟩ | ⟨g', cap, cur, rfl, hb, hgg, _⟩
  · cases hg
  simp only [Value.ownBlock, Option.some.injEq] at hg; subst hg
  exact ⟨hb, (Array.getElem?_eq_some_iff.1 hgg).1⟩
theorem Own.not {w : World} {B : Nat} {E : TypeId} {s : Nat} {v : Value} {n : Nat} {x : Nat → Value} (h : Own w B E s v n x) {b : Nat} (hb : b < B) : v.ownBlock ≠ some b := fun e => by have := (h.ge e).1; omega
theorem Own.notNew {w : World} {B : Nat} {E : TypeId} {s : Nat} {v : Value} {n : Nat} {x : Nat → Value} (h : Own w B E s v n x) {b : Nat} (hb : w.heap.size ≤ b) : v.ownBlock ≠ some b := fun e => by have := (h.ge e).2; omega
theorem Own.form {w : World} {B : Nat} {E : TypeId} {s : Nat} {v : Value} {n : Nat} {x : Nat → Value} (h : Own w B E s v n x) (hn : 0 < n) : ∃ g cap, v = .slice (some ⟨g, 0, none⟩) n cap ∧ B ≤ g ∧ g < w.heap.size ∧ n ≤ cap ∧ Cel w g 0 (n * s) x := by
  have h0 := h
  rcases h.2 with ⟨_, hz⟩ | ⟨g, cap, cur, rfl, hb, hgg, hnc, _⟩
  · omega
  refine ⟨g, cap, rfl, hb, (Array.getElem?_eq_some_iff.1 hgg).1, hnc, fun i hi => ?_⟩
  rw [Nat.zero_add, World.ownsRow.cellAt h0 i hi]
  simp [hi]
theorem Own.val {w : World} {B : Nat} {E : TypeId} {s : Nat} {v : Value} {n : Nat} {x : Nat → Value} (h : Own w B E s v n x) : ∃ a cap, v = .slice a n cap := by
  rcases h.2 with ⟨rfl, rfl⟩ | ⟨g, cap, cur, rfl, _⟩
  · exact ⟨_, _, rfl⟩
  exact ⟨_, _, rfl⟩
def appX (x : Nat → Value) (k : Nat) (y : Nat → Value) : Nat → Value := fun p => if p < k then x p else y (p - k)
theorem appX_list (x y : Nat → Value) (k m : Nat) : (List.range k).map x ++ (List.range m).map y = (List.range (k + m)).map (appX x k y) := by
  apply List.ext_getElem?
  intro i
  by_cases h : i < k
  · rw [List.getElem?_append_left (by simpa using h)]
    simp [h, appX, show i < k + m by omega]
  rw [List.getElem?_append_right (by simp; omega)]
  by_cases h2 : i < k + m
  · simp [h2, appX, h, show i - k < m by omega]
  simp [h2, show ¬ i - k < m by omega]
section
variable {P : Program} {n : Nat} {Q : Post} {f : Nat → Value} {w : World} {o : Oper}
theorem run_app {B : Nat} {E T ty : TypeId} {s bytes k m c : Nat} {v : Value} {x y : Nat → Value} {b off : Nat} (hu : P.underlying T = some (.slice E)) (hi : (P.info? E).map (fun i => (i.size, i.bytes)) = some (s, bytes)) (hz : ((P.info? E).bind (·.zero)).map (·.cells.size) = some s) (hs : Nat.blt 0 s = true)
    (hown : Own w B E s v k x) (hc : Cel w b off (m * s) y) (h1 : ∀ j, j < m * s → (y j).oneCell' = true) (hm : 0 < m) (hbytes : (k + m) * bytes ≤ 140737488355328) (h63 : k + m ≤ 140737488355328) (hB : B ≤ w.heap.size) :
    ∃ g cap w', (Builtin.append_ #[T, T] ty #[v, .slice (some ⟨b, off, none⟩) m c]).run P w = .ok (.slice (some ⟨g, 0, none⟩) (k + m) cap) w' ∧ Own w' B E s (.slice (some ⟨g, 0, none⟩) (k + m) cap) (k + m) (appX x (k * s) y) ∧ w.grownBy w' v.ownBlock ∧ (v.ownBlock = some g ∨ g = w.heap.size) ∧ g < w'.heap.size := by
  obtain ⟨i, hi1, hi2⟩ := Option.map_eq_some_iff.1 hi
  obtain ⟨z, hz1, hz2⟩ := Option.map_eq_some_iff.1 hz
  rw [hi1] at hz1
  simp only [Prod.mk.injEq] at hi2
  have hz3 : i.zero = some z := hz1
  have hs' : 0 < s := by simpa [Nat.blt_eq] using hs
  obtain ⟨g, cap, w', hr, ho, hg, hg2, hlt⟩ := run_append_lies (P := P) w T ty B E i z s bytes hu hi1 hz3 hi2.1 hi2.2 hz2 hs' v k _ hown ⟨b, off, none⟩ m c ((List.range (m * s)).map y) (by simp)
    (fun j u hj => by
      have hjl : j < m * s := by have := (List.getElem?_eq_some_iff.1 hj).1; simpa using this
      simp [hjl] at hj
      rw [addr_add, ← hj]; exact hc j hjl)
    (fun u hu => by
      obtain ⟨j, hj, rfl⟩ := List.mem_map.1 hu
      exact h1 j (by simpa using hj)) hm (by unfold maxLen; omega) hbytes hB w.heap.size rfl
  refine ⟨g, cap, w', hr, ?_, hg, hg2, hlt⟩
  unfold Own
  rw [Nat.add_mul, ← appX_list]
  exact ho
theorem r_app {B : Nat} {E T : TypeId} {s bytes k m c : Nat} {v : Value} {x y : Nat → Value} {b off : Nat} {sx xx : Operand} {ρ : Operand → Value} (ho : o.op = .call { callee := .builtin .append, args := #[sx, xx], argTypes := #[T, T] }) (hsx : ρ sx = v) (hxx : ρ xx = .slice (some ⟨b, off, none⟩) m c)
    (hu : P.underlying T = some (.slice E)) (hi : (P.info? E).map (fun i => (i.size, i.bytes)) = some (s, bytes)) (hz : ((P.info? E).bind (·.zero)).map (·.cells.size) = some s) (hs : Nat.blt 0 s = true)
    (hown : Own w B E s v k x) (hc : Cel w b off (m * s) y) (h1 : ∀ j, j < m * s → (y j).oneCell' = true) (hm : 0 < m) (hbytes : (k + m) * bytes ≤ 140737488355328) (h63 : k + m ≤ 140737488355328) (hB : B ≤ w.heap.size) :
    ∃ g cap w', (execOp ρ o).run P w = .ok (.value (.slice (some ⟨g, 0, none⟩) (k + m) cap)) w' ∧ Own w' B E s (.slice (some ⟨g, 0, none⟩) (k + m) cap) (k + m) (appX x (k * s) y) ∧ w.grownBy w' v.ownBlock ∧ (v.ownBlock = some g ∨ g = w.heap.size) ∧ g < w'.heap.size := by
  obtain ⟨g, cap, w', hr, h⟩ := run_app (ty := o.type) (c := c) hu hi hz hs hown hc h1 hm hbytes h63 hB
  refine ⟨g, cap, w', ?_, h⟩
  unfold execOp
  simp only [ho]
  unfold resolve invoke
  simp only [List.map_toArray, List.map_cons, List.map_nil, hsx, hxx]
  unfold builtin
  simp only [Sem.run_bind, Sem.run_pure, Result.andThen_ok, hr]
theorem grown_stp {w w' : World} {v : Value} (hg : w.grownBy w' v.ownBlock) {b : Nat} (hb : b < w.heap.size) (hne : v.ownBlock ≠ some b) : w'.heap[b]? = w.heap[b]? := hg.block b hb (fun e => hne e.symm)
theorem Blk.grown {w w' : World} {v : Value} {b m : Nat} {x : Nat → Value} {T : TypeId} (h : Blk w b m x T) (hg : w.grownBy w' v.ownBlock) (hne : v.ownBlock ≠ some b) : Blk w' b m x T := (grown_stp hg h.lt hne).trans h
theorem Cel.grown {w w' : World} {v : Value} {b off m : Nat} {x : Nat → Value} (h : Cel w b off m x) (hg : w.grownBy w' v.ownBlock) (hne : v.ownBlock ≠ some b) : Cel w' b off m x := fun i hi => by
  have hc := h i hi
  rw [← hc]
  exact World.cell?_of_block (w := w) (grown_stp hg (block_lt_of_cell hc) hne)
theorem Below.grow {w0 w w' : World} {v : Value} {B : Nat} (h : Below B w0 w) (hg : w.grownBy w' v.ownBlock) (hB : B ≤ w.heap.size) (hv : ∀ g, v.ownBlock = some g → B ≤ g) : Below B w0 w' := h.grown hg hB hv
theorem L.app {ops : Array Oper} {rest : List Oper} {B : Nat} {E T : TypeId} {s bytes k m c : Nat} {v : Value} {x y : Nat → Value} {b off : Nat} {sx xx : Operand} (hw : Region.wanted o (yf ops f) = true) (ho : o.op = .call { callee := .builtin .append, args := #[sx, xx], argTypes := #[T, T] }) (hsx : ev f sx = v) (hxx : ev f xx = .slice (some ⟨b, off, none⟩) m c)
    (hu : P.underlying T = some (.slice E)) (hi : (P.info? E).map (fun i => (i.size, i.bytes)) = some (s, bytes)) (hz : ((P.info? E).bind (·.zero)).map (·.cells.size) = some s) (hs : Nat.blt 0 s = true) (hd : inn n o.dst = true)
    (hown : Own w B E s v k x) (hc : Cel w b off (m * s) y) (h1 : ∀ j, j < m * s → (y j).oneCell' = true) (hm : 0 < m) (hbytes : (k + m) * bytes ≤ 140737488355328) (h63 : k + m ≤ 140737488355328) (hB : B ≤ w.heap.size)
    (h : ∀ g cap w', Own w' B E s (.slice (some ⟨g, 0, none⟩) (k + m) cap) (k + m) (appX x (k * s) y) → w.grownBy w' v.ownBlock → (v.ownBlock = some g ∨ g = w.heap.size) → g < w'.heap.size → L P n ops Q rest (put f o.dst (.slice (some ⟨g, 0, none⟩) (k + m) cap)) w') : L P n ops Q (o :: rest) f w := by
  obtain ⟨g, cap, w', hr, h2, h3, h4, h5⟩ := r_app (ρ := ev f) (c := c) ho hsx hxx hu hi hz hs hown hc h1 hm hbytes h63 hB
  exact L.val hw hr hd (h g cap w' h2 h3 h4 h5)
theorem x_sliceLo {T E : TypeId} {x lo : Operand} {b off len cap s : Nat} {k : IntKind} {j : Nat} (ho : o.op = .slice T x (some lo) none none) (hx : ev f x = .slice (some ⟨b, off, none⟩) len cap) (hl : ev f lo = .int k j) (hu : P.underlying T = some (.slice E)) (hs : (P.info? E).map (·.size) = some s) (hj : j ≤ len) :
    Runs P f o w (.slice (if cap = j then some ⟨b, off, none⟩ else some ⟨b, off + j * s, none⟩) (len - j) (cap - j)) := by
  obtain ⟨i, hi, hi2⟩ := Option.map_eq_some_iff.1 hs
  unfold Runs execOp
  simp only [ho, hx, hl, Option.map_some, Option.map_none]
  have hj' : (j : Int) ≤ (len : Int) := by omega
  simp [Instr.sliceAt, Instr.slice, underlying, hu, Instr.sliceBounds, Instr.sliceBound, asIntOf, hj', sizeOf, typeInfo, hi, hi2, addr_add]
  intro h; omega
theorem x_eqNil {T : TypeId} {x y : Operand} {T' : TypeId} {a : Addr} (ho : o.op = .binOp .eql T x y T') (hx : ev f x = .pointer (some a)) (hy : ev f y = .pointer none) (hu : P.underlying T = some (.pointer (P.pointee T))) : Runs P f o w (.bool false) := by
  unfold Runs execOp
  simp only [ho, hx, hy]
  have hg : (eqGuard .eql T x y (.pointer (some a)) (.pointer none)).run P w = .ok () w := by unfold eqGuard; rfl
  simp only [Sem.run_bind, hg, Result.andThen_ok, run_eql_pointer_nil w T (some a) hu, Sem.run_pure]
  rfl
variable {ops : List Oper} {vals : Gh → Nat → Value} {S : Nat → Gh → World → Prop}
theorem qokV {i lo hi : Nat} (V : Gh → Value) (hv : ∀ r, vals r i = V r) (hw : ∀ r, Region.wanted (opAt ops i) (yf ops.toArray (full ops f (vals r))) = true) (hr : ∀ r k w, lo ≤ k → k ≤ hi → S k r w → (execOp (ev (full ops f (vals r))) (opAt ops i)).run P w = .ok (.value (V r)) w) : QOk P ops f vals S i lo hi := fun r k w h1 h2 hS => by
  rw [if_pos (hw r), hr r k w h1 h2 hS]; exact ⟨rfl, (hv r).symm⟩
theorem qokC {i lo hi : Nat} (V : Gh → Value) (g : FuncId) (args : Gh → Array Value) (hv : ∀ r, vals r i = V r) (hw : ∀ r, Region.wanted (opAt ops i) (yf ops.toArray (full ops f (vals r))) = true) (hst : ∀ r k w w', lo ≤ k → k ≤ hi → S k r w → Below w.heap.size w w' → S k r w')
    (hr : ∀ r k w, lo ≤ k → k ≤ hi → S k r w → (execOp (ev (full ops f (vals r))) (opAt ops i)).run P w = .ok (.enter g (args r)) w) (hc : ∀ r k w, lo ≤ k → k ≤ hi → S k r w → Calls P g (args r) w fun e w' => e = .returned (V r) ∧ Below w.heap.size w w') : QOk P ops f vals S i lo hi := fun r k w h1 h2 hS => by
  rw [if_pos (hw r), hr r k w h1 h2 hS]
  exact ⟨rfl, (hc r k w h1 h2 hS).mono fun e w' ⟨he, hb⟩ => ⟨by rw [hv r]; exact he, hst r k w w' h1 h2 hS hb⟩⟩
theorem eokV {Q' : Exit → Act → World → Prop} {i k : Nat} (V : Nat × Nat → Value) (hns : ∀ cs b, (opAt ops i).op ≠ .select cs b) (hv : ∀ r p, vals (updr r k p) i = V p)
    (h : ∀ r w, S k r w → ∃ p w', (execOp (ev (full ops f (vals r))) (opAt ops i)).run P w = .ok (.value (V p)) w' ∧ S (k + 1) (updr r k p) w') : EOk P ops f vals S Q' i k := fun r w a K hS ha hK => by
  obtain ⟨p, w', hr, hS'⟩ := h r w hS
  unfold Oper.wp
  rw [execOp_congr _ hns ha, hr]
  have := hK p w' hS'
  rw [hv] at this
  exact this
theorem eokU {Q' : Exit → Act → World → Prop} {i k : Nat} (hns : ∀ cs b, (opAt ops i).op ≠ .select cs b) (hd : (opAt ops i).dst = none)
    (h : ∀ r w, S k r w → ∃ w', (execOp (ev (full ops f (vals r))) (opAt ops i)).run P w = .ok .skip w' ∧ S (k + 1) (updr r k (0, 0)) w') : EOk P ops f vals S Q' i k := fun r w a K hS ha hK => by
  obtain ⟨w', hr, hS'⟩ := h r w hS
  unfold Oper.wp
  rw [execOp_congr _ hns ha, hr]
  have := hK (0, 0) w' hS'
  rw [hd] at this
  show K (a.put (opAt ops i).dst undef) w'
  rw [hd]
  exact this
def dAll (P : Program) (ops : List Oper) (f : Nat → Value) (vals : Gh → Nat → Value) (S : Nat → Gh → World → Prop) (es : List Nat) : List Span → Nat → Prop
  | [], _ => True
  | s :: l, i => (es.contains i = true ∨ (QOk P ops f vals S i s.1 s.2.1 ∧ DOk vals i s.1)) ∧ dAll P ops f vals S es l (i + 1)
theorem dAll_at {es : List Nat} : ∀ {l : List Span} {k : Nat}, dAll P ops f vals S es l k → ∀ i, i < l.length → (es.contains (k + i) = true ∨ (QOk P ops f vals S (k + i) (l.getD i noSpan).1 (l.getD i noSpan).2.1 ∧ DOk vals (k + i) (l.getD i noSpan).1))
  | [], _, _, i, hi => absurd hi (by simp)
  | s :: l, k, h, 0, _ => h.1
  | s :: l, k, h, i + 1, hi => by
    have := dAll_at h.2 i (by simpa using hi)
    rw [show k + 1 + i = k + (i + 1) by omega] at this
    exact this
def eAll (P : Program) (ops : List Oper) (f : Nat → Value) (vals : Gh → Nat → Value) (S : Nat → Gh → World → Prop) (Q' : Exit → Act → World → Prop) : List Nat → Nat → Prop
  | [], _ => True
  | i :: l, k => (EOk P ops f vals S Q' i k ∧ DOk vals i (k + 1)) ∧ eAll P ops f vals S Q' l (k + 1)
theorem eAll_at {Q' : Exit → Act → World → Prop} : ∀ {l : List Nat} {k : Nat}, eAll P ops f vals S Q' l k → ∀ j i, l[j]? = some i → EOk P ops f vals S Q' i (k + j) ∧ DOk vals i (k + j + 1)
  | [], _, _, j, i, h => by simp at h
  | e :: l, k, h, 0, i, hj => by simp at hj; subst hj; exact h.1
  | e :: l, k, h, j + 1, i, hj => by
    have := eAll_at h.2 j i (by simpa using hj)
    rw [show k + 1 + j = k + (j + 1) by omega] at this
    exact this
theorem W.draws {id : Nat} (es : List Nat) (sp : List Span) (vals : Gh → Nat → Value) (S : Nat → Gh → World → Prop) (hm : P.follows .mixedOrders = true) (hok : opsOk n ops = true) (hsel : Region.noSelect ops.toArray = true) (hch : chainOk ops es = true) (hsp : spanOk ops es sp = true)
    (hes : es.all (fun e => Nat.blt e ops.length && (match (opAt ops e).guard with | none => true | _ => false)) = true) (hnd : decide es.Nodup = true)
    (h0 : ∀ w1, Below w.heap.size w w1 → w1.heap.size = w.heap.size → S 0 (fun _ => (0, 0)) w1) (hq : dAll P ops f vals S es sp 0) (he : eAll P ops f vals S (lift n Q) es 0)
    (h : ∀ r w' f', f' = full ops f (vals r) → S es.length r w' → Q .normal f' w') : W P n (.region id ops.toArray true) Q f w := by
  have hlen : sp.length = ops.length := by
    unfold spanOk at hsp; rw [Bool.and_eq_true] at hsp; exact Nat.eq_of_beq_eq_true hsp.1
  have hat : ∀ i, i < ops.length → es.contains i = false → QOk P ops f vals S i (sp.getD i noSpan).1 (sp.getD i noSpan).2.1 ∧ DOk vals i (sp.getD i noSpan).1 := fun i hi hne => by
    have := dAll_at hq i (by omega)
    rw [Nat.zero_add] at this
    rcases this with h1 | h1
    · rw [hne] at h1; cases h1
    · exact h1
  refine W.drawn es sp vals S hm hok hsel hch hsp hes (of_decide_eq_true hnd) (fun w1 h1 h2 => ⟨_, h0 w1 h1 h2⟩) (fun i hi hne => (hat i hi hne).1) (fun k i hk => ?_) (fun i hi hne => (hat i hi hne).2) (fun k i hk => ?_) (fun r w' hS => h r w' _ rfl hS)
  · have := (eAll_at he k i hk).1; rwa [Nat.zero_add] at this
  have := (eAll_at he k i hk).2; rwa [Nat.zero_add] at this
theorem Stp.after_below {g : Nat} {w0 w1 w2 : World} (h : Below w0.heap.size w0 w1) (hb : Stp g w1 w2) : Stp g w0 w2 := ⟨hb.os.trans h.os, hb.tape.trans h.tape, hb.output.trans h.output, Nat.le_trans h.size hb.size, fun k hk hne => (hb.block k (Nat.lt_of_lt_of_le hk h.size) hne).trans (h.block k hk)⟩
theorem Stp.then {g g' : Nat} {w0 w1 w2 : World} (h : Stp g w0 w1) (hb : Stp g' w1 w2) (hg : g' = g ∨ w0.heap.size ≤ g') : Stp g w0 w2 := ⟨hb.os.trans h.os, hb.tape.trans h.tape, hb.output.trans h.output, Nat.le_trans h.size hb.size, fun k hk hne => (hb.block k (Nat.lt_of_lt_of_le hk h.size) (by omega)).trans (h.block k hk hne)⟩
theorem e_bslice {o : Oper} {ρ : Operand → Value} {T E : TypeId} {len s : Nat} {parts : List (Nat × Operand)} {vs : List (Nat × Value)} {zc y : Nat → Value} (ho : o.op = .buildSlice T len parts.toArray) (hp : parts.map (fun p => (p.1, ρ p.2)) = vs) (hu : P.underlying T = some (.slice E)) (hs : (P.info? E).map (·.size) = some s)
    (hbig : Nat.ble (len * s) 16777216 = true) (hpos : Nat.beq (len * s) 0 = false) (hz : ((P.info? E).bind (·.zero)).map (·.cells) = some (varr s zc)) (hf : Instr.fill (fun i => some (i * s, s)) (varr (len * s) (fun j => zc (j % s))) vs = some (varr (len * s) y)) :
    ∃ w', (execOp ρ o).run P w = .ok (.value (.slice (some ⟨w.heap.size, 0, none⟩) len len)) w' ∧ Blk w' w.heap.size (len * s) y E ∧ Stp w.heap.size w w' := by
  obtain ⟨z, hz1, hz2⟩ := Option.map_eq_some_iff.1 hz
  obtain ⟨i, hi, hz3⟩ := Option.bind_eq_some_iff.1 hz1
  have hsz : i.size = s := by rw [hi] at hs; simpa using hs
  have hb : ¬ len * s > 2 ^ 24 := by have := Nat.le_of_ble_eq_true hbig; omega
  have h0 : len * s ≠ 0 := fun e => by rw [e] at hpos; exact absurd hpos (by decide)
  have hs0 : 0 < s := Nat.pos_of_ne_zero fun e => h0 (by rw [e, Nat.mul_zero])
  have hcells : (Array.range (len * s)).map (fun j => z.cells[j % z.cells.size]!) = varr (len * s) (fun j => zc (j % s)) := by
    refine varr_ext (by simp) fun j hj => ?_
    have hjs : j % s < s := Nat.mod_lt _ hs0
    have hg := varr_get zc hjs
    rw [hz2]
    simp [hj, varr_size]
    rw [getElem!_def, hg]
  refine ⟨w.alloc (.cells (varr (len * s) y) E), ?_, ?_, Stp.alloc _ _⟩
  · unfold execOp
    simp only [ho, List.map_toArray, hp]
    unfold Instr.buildSlice
    have hb' : ¬ 16777216 < len * s := by omega
    simp [underlying, sizeOf, typeInfo, zeroValue, hu, hi, hsz, hz3, hb']
    simp [h0, hcells, hf, newRow]
  show (w.alloc _).heap[w.heap.size]? = _
  rw [alloc_at, if_pos rfl]
theorem e_stA {o : Oper} {ρ : Operand → Value} {T TB : TypeId} {a v : Operand} {g m i s : Nat} {x y : Nat → Value} (ho : o.op = .store T a v) (ha : ρ a = .pointer (some ⟨g, i, none⟩)) (hv : ρ v = .agg (varr s y)) (h1 : ∀ j, j < s → (y j).oneCell' = true) (hT : (P.info? T).map (·.size) = some s) (hb : Blk w g m x TB) (hi : i + s ≤ m) :
    ∃ w', (execOp ρ o).run P w = .ok .skip w' ∧ Blk w' g m (ovr x i s y) TB ∧ Stp g w w' := by
  have hg : w.heap[g]? = some (.cells (varr m x) TB (0, 0)) := hb
  have hall : ∀ u ∈ (varr s y).toList, u.oneCell' = true := fun u hu => by
    obtain ⟨j, hj, he⟩ := List.getElem_of_mem hu
    have hj' : j < s := by simpa [varr_size] using hj
    have := varr_get y hj'
    rw [← Array.getElem?_toList, List.getElem?_eq_getElem hj, he] at this
    rw [Option.some.inj this]; exact h1 j hj'
  have hr := run_storeCells_at (P := P) g i TB (varr s y).toList 0 (varr m x) w hg (by simp [varr_size]; omega) hall
  obtain ⟨s1, s2, s3⟩ := setRow_stp (w := w) (cs := ((varr m x).toList.take (i + 0) ++ (varr s y).toList ++ (varr m x).toList.drop (i + 0 + (varr s y).toList.length)).toArray) hg
  refine ⟨_, ?_, ?_, s1⟩
  · unfold execOp
    cases hq : P.info? T with
    | none => simp [hq] at hT
    | some z =>
      have hz : z.size = s := by simp [hq] at hT; omega
      have hsz : (Value.agg (varr s y)).cells = varr s y := rfl
      simp only [ho, ha, hv, Instr.storeAt, Instr.sureAddr, Sem.run_bind, Sem.run_pure, Result.andThen_ok, storeVar, sizeOf, typeInfo, run_program, hq, hsz, varr_size, hz, ne_eq, not_true_eq_false, if_false, hr]
  show _ = _
  rw [s2]
  congr 2
  refine varr_ext (by simp [varr_size]; omega) fun j hj => ?_
  rw [List.getElem?_toArray, List.append_assoc]
  simp only [Nat.add_zero, ovr]
  by_cases c1 : j < i
  · rw [List.getElem?_append_left (by simp [varr_size]; omega), if_neg (by omega), List.getElem?_take, if_pos c1, Array.getElem?_toList, varr_get x hj]
  rw [List.getElem?_append_right (by simp [varr_size]; omega)]
  have hl : (List.take i (varr m x).toList).length = i := by simp [varr_size]; omega
  rw [hl]
  by_cases c2 : j < i + s
  · rw [List.getElem?_append_left (by simp [varr_size]; omega), if_pos ⟨by omega, c2⟩, Array.getElem?_toList, varr_get y (by omega)]
  rw [List.getElem?_append_right (by simp [varr_size]; omega), if_neg (by omega), List.getElem?_drop, Array.getElem?_toList]
  simp only [Array.length_toList, varr_size]
  rw [show i + s + (j - i - s) = j by omega, varr_get x hj]
end
end Fx
end Go.Proofs.Ytleajegppehbdaa
namespace Go.Proofs.Ytleajegppehbdaa
open Go.RowKit
namespace Rt
def mx : Int := 1125899906842624
def okN (n : Int) : Bool := decide (0 ≤ n) && decide (n ≤ 1125899906842624)
def sumOk (l : List Int) : Bool := l.all okN
def sumI (l : List Int) : Int × Bool := if sumOk l then (l.sum, true) else (0, false)
def G (x : Nat → Int) (i : Nat) : Int := x i
def C (x : Nat → Int) (i : Nat) : Int := x (6 + i)
def F (x : Nat → Int) (i : Nat) : Int := x (12 + i)
def R (x : Nat → Int) (i j : Nat) : Int := x (18 + i * 6 + j)
def outs (x : Nat → Int) (k : Nat) : Nat → List Int
  | 0 => [C x k]
  | j + 1 => outs x k j ++ [R x k j]
def ins (x : Nat → Int) (k : Nat) : Nat → List Int
  | 0 => [G x k, F x k]
  | j + 1 => ins x k j ++ [R x j k]
def localM (x : Nat → Int) (k : Nat) : Int × Bool := ((sumI (ins x k 6)).1 - (sumI (outs x k 6)).1, (sumI (outs x k 6)).2 && (sumI (ins x k 6)).2)
end Rt
end Go.Proofs.Ytleajegppehbdaa
namespace Go.Proofs.Ytleajegppehbdaa
open Go.RowKit Rt
open Fx (x_move x_assign x_field x_load1 x_pickF x_pickT x_nil x_conv x_indexS x_index x_leqF x_loadA x_len x_gtrF x_build x_eqlF x_eqlT Lv sN Ln Ws Qv Wl Wc Qs Wr Sb Lk Wk rC rV sR)
abbrev pt (g : Nat) : Value := .pointer (some ⟨g, 0, none⟩)
abbrev pf (g o : Nat) : Value := .pointer (some ⟨g, o, none⟩)
theorem Fx.ic {k : IntKind} {a b : Int} (h : a = b := by first | rfl | omega) : Value.int k a = .int k b := congrArg _ h
theorem Fx.io {a c : Int} (h : -9223372036854775808 ≤ c ∧ c ≤ 9223372036854775807 := by omega) (e : a = c := by omega) : IntKind.i64.wrap a = c := Fx.i64e h e
theorem Fx.Blk.ne {w : World} {g n : Nat} {x : Nat → Value} {T : TypeId} (h : Fx.Blk w g n x T) : g ≠ w.heap.size := Nat.ne_of_lt h.lt
namespace Rt
def regG (i : Int) : Bool := decide (1 ≤ i) && decide (i ≤ 6)
def mx6 (a b : Int) : Int := if b > a then b else a
def mn6 (a b : Int) : Int := if b < a then b else a
theorem regG_nat {i : Int} (h : regG i = true) : ∃ a : Nat, a < 6 ∧ i = (a : Int) + 1 := by
  unfold regG at h; simp at h
  obtain ⟨a, ha⟩ := Int.eq_ofNat_of_zero_le (show 0 ≤ i - 1 by omega)
  exact ⟨a, by omega, by omega⟩
def vx (X : Nat → Nat → Int) : Nat → Value := fun p => .int .u64 (X (p / 6) (p % 6))
theorem vx_row (X : Nat → Nat → Int) {i p j : Nat} (hp : p = 6 * i) (hj : j < 6) : vx X (p + j) = Fx.rv .u64 (X i) j := by
  subst hp
  show Value.int .u64 (X ((6 * i + j) / 6) ((6 * i + j) % 6)) = .int .u64 (X i j)
  rw [show (6 * i + j) / 6 = i by omega, show (6 * i + j) % 6 = j by omega]
def foldS (c : Int → Int → Int) (X : Nat → Nat → Int) : Nat → Nat → Int
  | 0 => X 0
  | k + 1 => fun p => c (foldS c X k p) (X (k + 1) p)
def foldV (c : Int → Int → Int) (X : Nat → Nat → Int) : Nat → Nat → Int
  | 0 => fun _ => 0
  | k + 1 => foldS c X k
def Vcs (w : World) (a : Option Addr) (n cap : Nat) (X : Nat → Nat → Int) : Prop := 0 < n → n ≤ cap ∧ ∃ b off, a = some ⟨b, off, none⟩ ∧ Fx.Cel w b off (6 * n) (vx X)
def eachT (x : Nat → Int) (k : Nat) : Nat → Int := fun p => if p < k then x p else 0
theorem eachT_succ (x : Nat → Int) (k : Nat) : upd (eachT x k) k (x k) = eachT x (k + 1) := by
  funext p; unfold upd eachT
  by_cases h : p = k
  · subst h; rw [if_pos rfl, if_pos (by omega)]
  rw [if_neg h]
  by_cases h2 : p < k
  · rw [if_pos h2, if_pos (by omega)]
  rw [if_neg h2, if_neg (by omega)]
theorem eachT_end (x : Nat → Int) : Fx.varr 6 (Fx.rv .u64 (eachT x 6)) = Fx.varr 6 (Fx.rv .u64 x) := Fx.varr_congr fun p hp => congrArg (Value.int .u64) (by unfold eachT; rw [if_pos hp])
end Rt
theorem g_region (n : Int) (w : World) :
    Calls Try.prog 35 #[.int .i64 (n)] w fun e w' => e = .returned (.bool (regG n)) ∧ w' = w := by
 refine Fx.enter Try.func35 rfl (n := 9) rfl (by rfl) ?_
 refine Ws (Wl (Lv (.bool false) (x_assign rfl rfl) (Ln (sN (Ws (Wl (Lv (.int .i64 (n)) (x_move rfl rfl) ?_)))))))
 by_cases c4 : 1 ≤ n
 ·refine Lv (.bool true) (Fx.x_geqT rfl rfl rfl c4) (Lv (.bool true) (x_move rfl rfl) (Lv (.int .i64 (n)) (x_move rfl rfl) ?_))
  by_cases c7 : n ≤ 6
  ·refine Lv (.bool true) (Fx.x_leqT rfl rfl rfl c7) (Lv (.bool true) (x_pickT rfl rfl rfl) (Lv (.bool true) (x_assign rfl rfl) (Ln (sN (Wr (⟨.bool true, rV Try.results35 (by exact rfl), ?_⟩))))))
   exact ⟨congrArg (fun q => Ending.returned (Value.bool q)) (by simp only [regG]; first | (symm; simp; omega) | (symm; simp; done)), rfl⟩
  refine Lv (.bool false) (x_leqF rfl rfl rfl c7) (Lv (.bool false) (x_pickT rfl rfl rfl) (Lv (.bool false) (x_assign rfl rfl) (Ln (sN (Wr (⟨.bool false, rV Try.results35 (by exact rfl), ?_⟩))))))
  exact ⟨congrArg (fun q => Ending.returned (Value.bool q)) (by simp only [regG]; first | (symm; simp; omega) | (symm; simp; done)), rfl⟩
 refine Lv (.bool false) (Fx.x_geqF rfl rfl rfl c4) (Lv (.bool false) (x_move rfl rfl) (Lk (by rfl) rfl (Lk (by rfl) rfl (Lv (.bool false) (x_pickF rfl rfl rfl) (Lv (.bool false) (x_assign rfl rfl) (Ln (sN (Wr (⟨.bool false, rV Try.results35 (by exact rfl), ?_⟩)))))))))
 exact ⟨congrArg (fun q => Ending.returned (Value.bool q)) (by simp only [regG]; first | (symm; simp; omega) | (symm; simp; done)), rfl⟩
theorem g_max (a b : Int) (w : World) :
    Calls Try.prog 55 #[.int .u64 (a), .int .u64 (b)] w fun e w' => e = .returned (.int .u64 (mx6 a b)) ∧ w' = w := by
 refine Fx.enter Try.func55 rfl (n := 8) rfl (by rfl) ?_
 refine Ws (Wl (Lv (.int .u64 (0)) (x_assign rfl rfl) (Ln (sN (Ws (Wl (Lv (.int .u64 (a)) (x_move rfl rfl) (Lv (.int .u64 (b)) (x_move rfl rfl) (Lv (.int .u64 (mx6 a b)) (Fx.x_max rfl rfl rfl) (Lv (.int .u64 (mx6 a b)) (x_assign rfl rfl) (Ln (sN (Wr (⟨.int .u64 (mx6 a b), rV Try.results55 (by exact rfl), ?_⟩))))))))))))))
 exact ⟨rfl, rfl⟩
theorem g_f1_max (x y : Nat → Int) (gc go gv q : Nat) (w : World) (hq : q < 6) (hc : Fx.Blk w gc 1 (fun _ => .func (.func 55) #[] #[]) 114) (ho : Fx.Blk w go 6 (Fx.rv .u64 x) 32) (hv : Fx.Blk w gv 6 (Fx.rv .u64 y) 32) :
    Calls Try.prog 73 #[.int .i64 ((q : Int)), (pt gc), (pt go), (pt gv)] w fun e w' => e = .returned (.int .u64 (mx6 (x q) (y q))) ∧ Below w.heap.size w w' := by
 refine Fx.enter Try.func73 rfl (n := 14) rfl (by rfl) ?_
 refine Ws (Wl (Lv (.int .u64 (0)) (x_assign rfl rfl) (Ln (sN (Ws ?_)))))
 -- region 1 draws
 refine Fx.W.quiet (fun v1 => Below w.heap.size w v1) (by kernel_rfl) (by kernel_rfl) (Below.refl _ _).drew ?_
 refine Qv (.func (.func 55) #[] #[]) (fun v1 hv1 => x_load1 (x := fun _ => .func (.func 55) #[] #[]) rfl rfl (by kernel_rfl) (hc.cel.below hv1 (by have := hc.lt; omega)) (i := 0) (by omega) (by omega) rfl) (Qv (.int .i64 ((q : Int))) (fun v1 hv1 => x_move rfl rfl) (Qv ((pf go q)) (fun v1 hv1 => x_index rfl rfl rfl Try.underlying32 (s := 1) (by kernel_rfl) (by omega) (by omega) (by omega)) (Qv (.int .u64 (x q)) (fun v1 hv1 => x_load1 (x := Fx.rv .u64 x) rfl rfl (by kernel_rfl) (ho.cel.below hv1 (by have := ho.lt; omega)) (i := q) (by omega) (by omega) rfl) (Qv (.int .i64 ((q : Int))) (fun v1 hv1 => x_move rfl rfl) (Qv ((pf gv q)) (fun v1 hv1 => x_index rfl rfl rfl Try.underlying32 (s := 1) (by kernel_rfl) (by omega) (by omega) (by omega)) (Qv (.int .u64 (y q)) (fun v1 hv1 => x_load1 (x := Fx.rv .u64 y) rfl rfl (by kernel_rfl) (hv.cel.below hv1 (by have := hv.lt; omega)) (i := q) (by omega) (by omega) rfl) (Fx.Qt.call (v := .int .u64 (mx6 (x q) (y q))) (by rfl) (fun v1 hv1 => Fx.r_clo (args := [.int .u64 (x q), .int .u64 (y q)]) rfl rfl rfl (all := #[.int .u64 (x q), .int .u64 (y q)]) rfl Try.func55 rfl rfl) rfl (fun v1 hv1 => (g_max (x q) (y q) _).mono fun e v2 h => ⟨h.1, by rw [h.2]; exact hv1⟩) ?_)))))))
 refine Qv (.int .u64 (mx6 (x q) (y q))) (fun v1 hv1 => x_assign rfl rfl) (Fx.Qt.nil ?_)
 intro wb1 hbwb1
 have s1 : Fx.Stp w.heap.size w wb1 := Sb hbwb1
 have b1 := s1.below (Below.refl w.heap.size w) (Below.refl w.heap.size w).size (Below.refl w.heap.size w).size
 refine sN (Wr (⟨.int .u64 (mx6 (x q) (y q)), rV Try.results73 (by exact rfl), ?_⟩))
 exact ⟨rfl, b1⟩
theorem g_each_max (x y : Nat → Int) (gc go gv : Nat) (w : World) (hc : Fx.Blk w gc 1 (fun _ => .func (.func 55) #[] #[]) 114) (ho : Fx.Blk w go 6 (Fx.rv .u64 x) 32) (hv : Fx.Blk w gv 6 (Fx.rv .u64 y) 32) :
    Calls Try.prog 72 #[.func (.func 73) #[] #[(pt gc), (pt go), (pt gv)]] w fun e w' => e = .returned (.agg (Fx.varr 6 (Fx.rv .u64 (fun p => mx6 (x p) (y p))))) ∧ Below w.heap.size w w' := by
 refine Fx.enter Try.func72 rfl (n := 14) rfl (by rfl) ?_
 refine Ws (Wl (Fx.L.new (m := 6) (y := Fx.rv .u64 (fun _ => 0)) (by rfl) rfl (by kernel_rfl) rfl fun g1 w1 eg1 m1 s1 z1 => ?_))
 have m2 := hc.stp s1 hc.ne
 have m3 := ho.stp s1 ho.ne
 have m4 := hv.stp s1 hv.ne
 have b1 := s1.below (Below.refl w.heap.size w) (Below.refl w.heap.size w).size (Below.refl w.heap.size w).size
 have lg1 : w.heap.size ≤ g1 := by rw [eg1]; exact (Below.refl w.heap.size w).size
 have ng1m2 : gc ≠ g1 := by rw [eg1]; exact Nat.ne_of_lt (hc.lt)
 have ng1m3 : go ≠ g1 := by rw [eg1]; exact Nat.ne_of_lt (ho.lt)
 have ng1m4 : gv ≠ g1 := by rw [eg1]; exact Nat.ne_of_lt (hv.lt)
 have tg1 : g1 < w1.heap.size := m1.lt
 clear eg1
 refine Ln (sN (Ws (Ws (Wl (Lv (.int .i64 (0)) (x_move rfl rfl) (Ln (sN (Fx.W.block ?_))))))))
 have m5 : Fx.Blk w1 g1 6 (Fx.rv .u64 (eachT (fun p => mx6 (x p) (y p)) 0)) 32 := m1
 refine Fx.W.loop (fun f w_ => ∃ k : Nat, k ≤ 6 ∧ f 0 = .func (.func 73) #[] #[(pt gc), (pt go), (pt gv)] ∧ f 2 = (pt g1) ∧ f 4 = .int .i64 ((k : Int)) ∧ Fx.Blk w_ gc 1 (fun _ => .func (.func 55) #[] #[]) 114 ∧ Fx.Blk w_ go 6 (Fx.rv .u64 x) 32 ∧ Fx.Blk w_ gv 6 (Fx.rv .u64 y) 32 ∧ Fx.Blk w_ g1 6 (Fx.rv .u64 (eachT (fun p => mx6 (x p) (y p)) k)) 32 ∧ Below w.heap.size w w_) (fun f _ => (6 - (intOf (f 4)).toNat)) ⟨0, by omega, (by rfl), (by rfl), Fx.ic, m2, m3, m4, m5, b1⟩ ?_
 rintro f1 w2 ⟨k, hk, h1, h2, h3, m6, m7, m8, m9, b2⟩
 refine Ws (Wl ?_)
 by_cases c5 : (k : Int) < 6
 ·refine Lv (.bool true) (Fx.x_lssT rfl h3 rfl c5) (Ln (sN (Ws (Wc (b := true) rfl (fun _ => Wk (sN (Ws (Fx.W.block (Ws (Wl (Lv (.int .i64 ((k : Int))) (x_move rfl h3) ?_))))))) (fun h => nomatch h)))))
  refine Lv (.int .i64 ((k : Int))) (x_assign rfl rfl) (Ln (sN (Wl (Lv (.int .i64 ((k : Int))) (x_move rfl rfl) (Lv (.func (.func 73) #[] #[(pt gc), (pt go), (pt gv)]) (x_move rfl h1) (Lv (.int .i64 ((k : Int))) (x_move rfl rfl) (Fx.L.call (by rfl) (Fx.r_clo (args := [.int .i64 ((k : Int))]) rfl rfl rfl (all := #[.int .i64 ((k : Int)), (pt gc), (pt go), (pt gv)]) rfl Try.func73 rfl rfl) rfl ((g_f1_max x y gc go gv k _ (by omega) m6 m7 m8).mono ?_))))))))
  rintro e w3 ⟨he, hb1⟩
  refine ⟨.int .u64 (mx6 (x k) (y k)), by rw [he], ?_⟩
  clear he
  have s2 := Sb hb1
  have m10 := m6.stp s2 m6.ne
  have m11 := m7.stp s2 m7.ne
  have m12 := m8.stp s2 m8.ne
  have m13 := m9.stp s2 m9.ne
  have b3 := s2.below b2 b2.size b2.size
  refine Lv ((pf g1 k)) (x_index rfl h2 rfl Try.underlying32 (s := 1) (by kernel_rfl) (by omega) (by omega) (by omega)) (Fx.L.store1 (x := Fx.rv .u64 (eachT (fun p => mx6 (x p) (y p)) k)) (u := .int .u64 (mx6 (x k) (y k))) (by rfl) rfl rfl rfl rfl (by rfl) (by kernel_rfl) m13 (i := k) (by omega) fun w4 m14 s3 z2 => ?_)
  have m15 : Fx.Blk w4 g1 6 (Fx.rv .u64 (upd (eachT (fun p => mx6 (x p) (y p)) k) k (mx6 (x k) (y k)))) 32 := m14.to (Fx.updV_rv _ _ _ _)
  have m16 := m10.stp s3 (by omega)
  have m17 := m11.stp s3 (by omega)
  have m18 := m12.stp s3 (by omega)
  have b4 := s3.below b3 b3.size (by omega)
  refine Ln (Fx.blkN (sN (Wl (Lv (.int .i64 ((k : Int) + 1)) (Fx.x_add rfl h3 rfl Fx.io) (Lv (.int .i64 ((k : Int) + 1)) (x_move rfl rfl) (Ln ?_))))))
  have m19 := m15.to (congrArg (Fx.rv .u64) (eachT_succ (fun p => mx6 (x p) (y p)) k))
  refine Fx.lpN ⟨k + 1, by omega, h1, h2, Fx.ic, m16, m17, m18, m19, b4⟩ ?_
  show (6 - (intOf ((.int .i64 ((k : Int) + 1)))).toNat) < _
  simp only [h3, intOf]; omega
 refine Lv (.bool false) (Fx.x_lssF rfl h3 rfl c5) (Ln (sN (Ws (Wc (b := false) rfl (fun h => nomatch h) (fun _ => Fx.W.exit (Fx.seqX (Fx.lpX (Fx.blkX (sN (Ws (Wl (Lv (.agg (Fx.varr 6 (Fx.rv .u64 (eachT (fun p => mx6 (x p) (y p)) k)))) (x_loadA (x := Fx.rv .u64 (eachT (fun p => mx6 (x p) (y p)) k)) (y := Fx.rv .u64 (eachT (fun p => mx6 (x p) (y p)) k)) rfl h2 (by kernel_rfl) (by kernel_rfl) m9.cel (i := 0) (by omega) (by omega) (fun j _ => by rw [Nat.zero_add])) (Fx.L.storeA (x := Fx.rv .u64 (eachT (fun p => mx6 (x p) (y p)) k)) (y := Fx.rv .u64 (eachT (fun p => mx6 (x p) (y p)) k)) (by rfl) rfl rfl h2 rfl (fun _ _ => rfl) (by kernel_rfl) m9 (i := 0) (by omega) fun w5 m20 s4 z3 => ?_)))))))))))))
 have m21 : Fx.Blk w5 g1 6 (Fx.rv .u64 (eachT (fun p => mx6 (x p) (y p)) k)) 32 := Fx.ovr_all m20
 have m22 := m6.stp s4 (by omega)
 have m23 := m7.stp s4 (by omega)
 have m24 := m8.stp s4 (by omega)
 have b5 := s4.below b2 b2.size (by omega)
 refine Ln (sN (Wr (⟨.agg (Fx.varr 6 (Fx.rv .u64 (eachT (fun p => mx6 (x p) (y p)) k))), rV Try.results72 ⟨_, h2, Fx.run_loadV m21.cel (by kernel_rfl) (by kernel_rfl)⟩, ?_⟩)))
 have e6 : k = 6 := by omega
 exact ⟨by rw [e6, eachT_end], b5⟩
theorem g_min (a b : Int) (w : World) :
    Calls Try.prog 66 #[.int .u64 (a), .int .u64 (b)] w fun e w' => e = .returned (.int .u64 (mn6 a b)) ∧ w' = w := by
 refine Fx.enter Try.func66 rfl (n := 8) rfl (by rfl) ?_
 refine Ws (Wl (Lv (.int .u64 (0)) (x_assign rfl rfl) (Ln (sN (Ws (Wl (Lv (.int .u64 (a)) (x_move rfl rfl) (Lv (.int .u64 (b)) (x_move rfl rfl) (Lv (.int .u64 (mn6 a b)) (Fx.x_min rfl rfl rfl) (Lv (.int .u64 (mn6 a b)) (x_assign rfl rfl) (Ln (sN (Wr (⟨.int .u64 (mn6 a b), rV Try.results66 (by exact rfl), ?_⟩))))))))))))))
 exact ⟨rfl, rfl⟩
theorem g_f1_min (x y : Nat → Int) (gc go gv q : Nat) (w : World) (hq : q < 6) (hc : Fx.Blk w gc 1 (fun _ => .func (.func 66) #[] #[]) 114) (ho : Fx.Blk w go 6 (Fx.rv .u64 x) 32) (hv : Fx.Blk w gv 6 (Fx.rv .u64 y) 32) :
    Calls Try.prog 73 #[.int .i64 ((q : Int)), (pt gc), (pt go), (pt gv)] w fun e w' => e = .returned (.int .u64 (mn6 (x q) (y q))) ∧ Below w.heap.size w w' := by
 refine Fx.enter Try.func73 rfl (n := 14) rfl (by rfl) ?_
 refine Ws (Wl (Lv (.int .u64 (0)) (x_assign rfl rfl) (Ln (sN (Ws ?_)))))
 -- region 1 draws
 refine Fx.W.quiet (fun v1 => Below w.heap.size w v1) (by kernel_rfl) (by kernel_rfl) (Below.refl _ _).drew ?_
 refine Qv (.func (.func 66) #[] #[]) (fun v1 hv1 => x_load1 (x := fun _ => .func (.func 66) #[] #[]) rfl rfl (by kernel_rfl) (hc.cel.below hv1 (by have := hc.lt; omega)) (i := 0) (by omega) (by omega) rfl) (Qv (.int .i64 ((q : Int))) (fun v1 hv1 => x_move rfl rfl) (Qv ((pf go q)) (fun v1 hv1 => x_index rfl rfl rfl Try.underlying32 (s := 1) (by kernel_rfl) (by omega) (by omega) (by omega)) (Qv (.int .u64 (x q)) (fun v1 hv1 => x_load1 (x := Fx.rv .u64 x) rfl rfl (by kernel_rfl) (ho.cel.below hv1 (by have := ho.lt; omega)) (i := q) (by omega) (by omega) rfl) (Qv (.int .i64 ((q : Int))) (fun v1 hv1 => x_move rfl rfl) (Qv ((pf gv q)) (fun v1 hv1 => x_index rfl rfl rfl Try.underlying32 (s := 1) (by kernel_rfl) (by omega) (by omega) (by omega)) (Qv (.int .u64 (y q)) (fun v1 hv1 => x_load1 (x := Fx.rv .u64 y) rfl rfl (by kernel_rfl) (hv.cel.below hv1 (by have := hv.lt; omega)) (i := q) (by omega) (by omega) rfl) (Fx.Qt.call (v := .int .u64 (mn6 (x q) (y q))) (by rfl) (fun v1 hv1 => Fx.r_clo (args := [.int .u64 (x q), .int .u64 (y q)]) rfl rfl rfl (all := #[.int .u64 (x q), .int .u64 (y q)]) rfl Try.func66 rfl rfl) rfl (fun v1 hv1 => (g_min (x q) (y q) _).mono fun e v2 h => ⟨h.1, by rw [h.2]; exact hv1⟩) ?_)))))))
 refine Qv (.int .u64 (mn6 (x q) (y q))) (fun v1 hv1 => x_assign rfl rfl) (Fx.Qt.nil ?_)
 intro wb1 hbwb1
 have s1 : Fx.Stp w.heap.size w wb1 := Sb hbwb1
 have b1 := s1.below (Below.refl w.heap.size w) (Below.refl w.heap.size w).size (Below.refl w.heap.size w).size
 refine sN (Wr (⟨.int .u64 (mn6 (x q) (y q)), rV Try.results73 (by exact rfl), ?_⟩))
 exact ⟨rfl, b1⟩
theorem g_each_min (x y : Nat → Int) (gc go gv : Nat) (w : World) (hc : Fx.Blk w gc 1 (fun _ => .func (.func 66) #[] #[]) 114) (ho : Fx.Blk w go 6 (Fx.rv .u64 x) 32) (hv : Fx.Blk w gv 6 (Fx.rv .u64 y) 32) :
    Calls Try.prog 72 #[.func (.func 73) #[] #[(pt gc), (pt go), (pt gv)]] w fun e w' => e = .returned (.agg (Fx.varr 6 (Fx.rv .u64 (fun p => mn6 (x p) (y p))))) ∧ Below w.heap.size w w' := by
 refine Fx.enter Try.func72 rfl (n := 14) rfl (by rfl) ?_
 refine Ws (Wl (Fx.L.new (m := 6) (y := Fx.rv .u64 (fun _ => 0)) (by rfl) rfl (by kernel_rfl) rfl fun g1 w1 eg1 m1 s1 z1 => ?_))
 have m2 := hc.stp s1 hc.ne
 have m3 := ho.stp s1 ho.ne
 have m4 := hv.stp s1 hv.ne
 have b1 := s1.below (Below.refl w.heap.size w) (Below.refl w.heap.size w).size (Below.refl w.heap.size w).size
 have lg1 : w.heap.size ≤ g1 := by rw [eg1]; exact (Below.refl w.heap.size w).size
 have ng1m2 : gc ≠ g1 := by rw [eg1]; exact Nat.ne_of_lt (hc.lt)
 have ng1m3 : go ≠ g1 := by rw [eg1]; exact Nat.ne_of_lt (ho.lt)
 have ng1m4 : gv ≠ g1 := by rw [eg1]; exact Nat.ne_of_lt (hv.lt)
 have tg1 : g1 < w1.heap.size := m1.lt
 clear eg1
 refine Ln (sN (Ws (Ws (Wl (Lv (.int .i64 (0)) (x_move rfl rfl) (Ln (sN (Fx.W.block ?_))))))))
 have m5 : Fx.Blk w1 g1 6 (Fx.rv .u64 (eachT (fun p => mn6 (x p) (y p)) 0)) 32 := m1
 refine Fx.W.loop (fun f w_ => ∃ k : Nat, k ≤ 6 ∧ f 0 = .func (.func 73) #[] #[(pt gc), (pt go), (pt gv)] ∧ f 2 = (pt g1) ∧ f 4 = .int .i64 ((k : Int)) ∧ Fx.Blk w_ gc 1 (fun _ => .func (.func 66) #[] #[]) 114 ∧ Fx.Blk w_ go 6 (Fx.rv .u64 x) 32 ∧ Fx.Blk w_ gv 6 (Fx.rv .u64 y) 32 ∧ Fx.Blk w_ g1 6 (Fx.rv .u64 (eachT (fun p => mn6 (x p) (y p)) k)) 32 ∧ Below w.heap.size w w_) (fun f _ => (6 - (intOf (f 4)).toNat)) ⟨0, by omega, (by rfl), (by rfl), Fx.ic, m2, m3, m4, m5, b1⟩ ?_
 rintro f1 w2 ⟨k, hk, h1, h2, h3, m6, m7, m8, m9, b2⟩
 refine Ws (Wl ?_)
 by_cases c5 : (k : Int) < 6
 ·refine Lv (.bool true) (Fx.x_lssT rfl h3 rfl c5) (Ln (sN (Ws (Wc (b := true) rfl (fun _ => Wk (sN (Ws (Fx.W.block (Ws (Wl (Lv (.int .i64 ((k : Int))) (x_move rfl h3) ?_))))))) (fun h => nomatch h)))))
  refine Lv (.int .i64 ((k : Int))) (x_assign rfl rfl) (Ln (sN (Wl (Lv (.int .i64 ((k : Int))) (x_move rfl rfl) (Lv (.func (.func 73) #[] #[(pt gc), (pt go), (pt gv)]) (x_move rfl h1) (Lv (.int .i64 ((k : Int))) (x_move rfl rfl) (Fx.L.call (by rfl) (Fx.r_clo (args := [.int .i64 ((k : Int))]) rfl rfl rfl (all := #[.int .i64 ((k : Int)), (pt gc), (pt go), (pt gv)]) rfl Try.func73 rfl rfl) rfl ((g_f1_min x y gc go gv k _ (by omega) m6 m7 m8).mono ?_))))))))
  rintro e w3 ⟨he, hb1⟩
  refine ⟨.int .u64 (mn6 (x k) (y k)), by rw [he], ?_⟩
  clear he
  have s2 := Sb hb1
  have m10 := m6.stp s2 m6.ne
  have m11 := m7.stp s2 m7.ne
  have m12 := m8.stp s2 m8.ne
  have m13 := m9.stp s2 m9.ne
  have b3 := s2.below b2 b2.size b2.size
  refine Lv ((pf g1 k)) (x_index rfl h2 rfl Try.underlying32 (s := 1) (by kernel_rfl) (by omega) (by omega) (by omega)) (Fx.L.store1 (x := Fx.rv .u64 (eachT (fun p => mn6 (x p) (y p)) k)) (u := .int .u64 (mn6 (x k) (y k))) (by rfl) rfl rfl rfl rfl (by rfl) (by kernel_rfl) m13 (i := k) (by omega) fun w4 m14 s3 z2 => ?_)
  have m15 : Fx.Blk w4 g1 6 (Fx.rv .u64 (upd (eachT (fun p => mn6 (x p) (y p)) k) k (mn6 (x k) (y k)))) 32 := m14.to (Fx.updV_rv _ _ _ _)
  have m16 := m10.stp s3 (by omega)
  have m17 := m11.stp s3 (by omega)
  have m18 := m12.stp s3 (by omega)
  have b4 := s3.below b3 b3.size (by omega)
  refine Ln (Fx.blkN (sN (Wl (Lv (.int .i64 ((k : Int) + 1)) (Fx.x_add rfl h3 rfl Fx.io) (Lv (.int .i64 ((k : Int) + 1)) (x_move rfl rfl) (Ln ?_))))))
  have m19 := m15.to (congrArg (Fx.rv .u64) (eachT_succ (fun p => mn6 (x p) (y p)) k))
  refine Fx.lpN ⟨k + 1, by omega, h1, h2, Fx.ic, m16, m17, m18, m19, b4⟩ ?_
  show (6 - (intOf ((.int .i64 ((k : Int) + 1)))).toNat) < _
  simp only [h3, intOf]; omega
 refine Lv (.bool false) (Fx.x_lssF rfl h3 rfl c5) (Ln (sN (Ws (Wc (b := false) rfl (fun h => nomatch h) (fun _ => Fx.W.exit (Fx.seqX (Fx.lpX (Fx.blkX (sN (Ws (Wl (Lv (.agg (Fx.varr 6 (Fx.rv .u64 (eachT (fun p => mn6 (x p) (y p)) k)))) (x_loadA (x := Fx.rv .u64 (eachT (fun p => mn6 (x p) (y p)) k)) (y := Fx.rv .u64 (eachT (fun p => mn6 (x p) (y p)) k)) rfl h2 (by kernel_rfl) (by kernel_rfl) m9.cel (i := 0) (by omega) (by omega) (fun j _ => by rw [Nat.zero_add])) (Fx.L.storeA (x := Fx.rv .u64 (eachT (fun p => mn6 (x p) (y p)) k)) (y := Fx.rv .u64 (eachT (fun p => mn6 (x p) (y p)) k)) (by rfl) rfl rfl h2 rfl (fun _ _ => rfl) (by kernel_rfl) m9 (i := 0) (by omega) fun w5 m20 s4 z3 => ?_)))))))))))))
 have m21 : Fx.Blk w5 g1 6 (Fx.rv .u64 (eachT (fun p => mn6 (x p) (y p)) k)) 32 := Fx.ovr_all m20
 have m22 := m6.stp s4 (by omega)
 have m23 := m7.stp s4 (by omega)
 have m24 := m8.stp s4 (by omega)
 have b5 := s4.below b2 b2.size (by omega)
 refine Ln (sN (Wr (⟨.agg (Fx.varr 6 (Fx.rv .u64 (eachT (fun p => mn6 (x p) (y p)) k))), rV Try.results72 ⟨_, h2, Fx.run_loadV m21.cel (by kernel_rfl) (by kernel_rfl)⟩, ?_⟩)))
 have e6 : k = 6 := by omega
 exact ⟨by rw [e6, eachT_end], b5⟩
end Go.Proofs.Ytleajegppehbdaa
namespace Go.Proofs.Ytleajegppehbdaa.Fx
open Go.RowKit
theorem Own.congr {w : World} {B : Nat} {E : TypeId} {s : Nat} {v : Value} {n : Nat} {x y : Nat → Value} (h : Own w B E s v n x) (e : ∀ j, j < n * s → x j = y j) : Own w B E s v n y := by
  have : (List.range (n * s)).map x = (List.range (n * s)).map y := List.map_congr_left fun j hj => e j (List.mem_range.1 hj)
  unfold Own at h ⊢
  rw [← this]; exact h
def ovrI (x : Nat → Int) (o s : Nat) (y : Nat → Int) : Nat → Int := fun p => if o ≤ p ∧ p < o + s then y (p - o) else x p
theorem ovr_rv (k : IntKind) (x : Nat → Int) (o s : Nat) (y : Nat → Int) : ovr (rv k x) o s (rv k y) = rv k (ovrI x o s y) := by
  funext p; unfold ovr rv; dsimp only [ovrI]; split <;> rfl
theorem Blk.congr {w : World} {g n : Nat} {x y : Nat → Value} {T : TypeId} (h : Blk w g n x T) (e : ∀ j, j < n → x j = y j) : Blk w g n y T := by
  unfold Blk at h ⊢; rw [h, varr_congr e]
section
variable {P : Program} {f : Nat → Value} {w : World} {o : Oper}
theorem bindE {R : Result Next} {V : Value} {A B S : World → Prop} (h : ∃ w', R = .ok (.value V) w' ∧ A w' ∧ B w') (k : ∀ w', A w' → B w' → S w') : ∃ w', R = .ok (.value V) w' ∧ S w' := by
  obtain ⟨w', hr, ha, hb⟩ := h; exact ⟨w', hr, k w' ha hb⟩
theorem bindU {R : Result Next} {A B S : World → Prop} (h : ∃ w', R = .ok .skip w' ∧ A w' ∧ B w') (k : ∀ w', A w' → B w' → S w') : ∃ w', R = .ok .skip w' ∧ S w' := by
  obtain ⟨w', hr, ha, hb⟩ := h; exact ⟨w', hr, k w' ha hb⟩
theorem x_buildArr {T E : TypeId} {parts : List (Nat × Operand)} {vs : List (Nat × Value)} {len s m : Nat} {x y : Nat → Value} (ho : o.op = .build T parts.toArray) (hp : parts.map (fun p => (p.1, ev f p.2)) = vs) (hs : P.underlying T = some (.array len E))
    (hz0 : (P.info? E).map (·.size) = some s) (hz : ((P.info? T).bind (·.zero)).map (·.cells) = some (varr m x)) (hf : Instr.fill (fun i => some (i * s, s)) (varr m x) vs = some (varr m y)) : Runs P f o w (.agg (varr m y)) := by
  obtain ⟨z, hz1, hz2⟩ := Option.map_eq_some_iff.1 hz
  obtain ⟨i, hi, hz⟩ := Option.bind_eq_some_iff.1 hz1
  obtain ⟨i2, hi2, hz3⟩ := Option.map_eq_some_iff.1 hz0
  unfold Runs execOp
  simp only [ho, List.map_toArray, hp]
  unfold Instr.build
  simp only [zeroValue, typeInfo, underlying, sizeOf, Sem.run_bind, run_program, Result.andThen_ok, hi, hi2, hz, hs, Sem.run_pure, hz2, hz3, hf]
theorem x_sliceLo2 {T E : TypeId} {x lo : Operand} {b off len cap s : Nat} {k : IntKind} {j n' c' : Nat} {A : Option Addr} (ho : o.op = .slice T x (some lo) none none) (hx : ev f x = .slice (some ⟨b, off, none⟩) len cap) (hl : ev f lo = .int k j) (hu : P.underlying T = some (.slice E)) (hs : (P.info? E).map (·.size) = some s) (hj : j ≤ len)
    (hA : (if cap = j then some ⟨b, off, none⟩ else some ⟨b, off + j * s, none⟩ : Option Addr) = A) (hn : len - j = n') (hc : cap - j = c') : Runs P f o w (.slice A n' c') := by
  subst hA hn hc
  exact x_sliceLo ho hx hl hu hs hj
end
end Go.Proofs.Ytleajegppehbdaa.Fx
namespace Go.Proofs.Ytleajegppehbdaa
open Go.RowKit Rt
open Fx (x_move x_assign x_field x_load1 x_pickF x_pickT x_nil x_conv x_indexS x_index x_leqF x_loadA x_len x_gtrF x_build x_eqlF x_eqlT Lv sN Ln Ws Qv Wl Wc Qs Wr Sb Lk Wk rC rV sR)
namespace Rt
def V2 (x y : Nat → Int) : Nat → Nat → Int
  | 0 => x
  | 1 => y
  | _ => fun _ => 0
end Rt
theorem g_fold0_max (a : Option Addr) (cap : Nat) (w : World) :
    Calls Try.prog 54 #[.slice a (0) (cap), .func (.func 55) #[] #[]] w fun e w' => e = .returned (.agg (Fx.varr 6 (Fx.rv .u64 (fun _ => 0)))) ∧ Below w.heap.size w w' := by
 refine Fx.enter Try.func54 rfl (n := 26) rfl (by rfl) ?_
 refine Ws (Wl (Fx.L.box (m := 1) (y := fun _ => .func (.func 55) #[] #[]) (by rfl) rfl rfl (Fx.cells_one (by rfl)) rfl fun g1 w1 eg1 m1 s1 z1 => ?_))
 have b1 := s1.below (Below.refl w.heap.size w) (Below.refl w.heap.size w).size (Below.refl w.heap.size w).size
 have lg1 : w.heap.size ≤ g1 := by rw [eg1]; exact (Below.refl w.heap.size w).size
 have tg1 : g1 < w1.heap.size := m1.lt
 clear eg1
 refine Fx.L.new (m := 6) (y := Fx.rv .u64 (fun _ => 0)) (by rfl) rfl (by kernel_rfl) rfl fun g2 w2 eg2 m2 s2 z2 => ?_
 have m3 := m1.stp s2 m1.ne
 have b2 := s2.below b1 b1.size b1.size
 have lg2 : w.heap.size ≤ g2 := by rw [eg2]; exact b1.size
 have ng2m3 : g1 ≠ g2 := by rw [eg2]; exact Nat.ne_of_lt (m1.lt)
 have tg2 : g2 < w2.heap.size := m2.lt
 clear eg2
 refine Ln (sN (Ws (Ws (Wl (Lv (.slice a (0) (cap)) (x_move rfl rfl) (Lv (.int .i64 (0)) (x_len rfl rfl rfl (by kernel_rfl)) (Lv (.bool true) (x_eqlT rfl rfl rfl rfl) (Ln (sN (Wc (b := true) rfl (fun _ => Ws (Wl (Lv (.agg (Fx.varr 6 (Fx.rv .u64 (fun _ => 0)))) (Fx.x_buildArr (vs := []) (s := 1) (m := 6) (x := Fx.rv .u64 (fun _ => 0)) rfl rfl Try.underlying32 (by kernel_rfl) (by kernel_rfl) (by rfl)) ?_))) (fun h => nomatch h)))))))))))
 refine Fx.L.storeA (x := Fx.rv .u64 (fun _ => 0)) (y := Fx.rv .u64 (fun _ => 0)) (by rfl) rfl rfl rfl rfl (fun _ _ => rfl) (by kernel_rfl) m2 (i := 0) (by omega) fun w3 m4 s3 z3 => ?_
 have m5 : Fx.Blk w3 g2 6 (Fx.rv .u64 (fun _ => 0)) 32 := Fx.ovr_all m4
 have m6 := m3.stp s3 (by omega)
 have b3 := s3.below b2 b2.size (by omega)
 refine Ln (sN (Wr (sR (⟨.agg (Fx.varr 6 (Fx.rv .u64 (fun _ => 0))), rV Try.results54 ⟨_, rfl, Fx.run_loadV m5.cel (by kernel_rfl) (by kernel_rfl)⟩, ?_⟩))))
 exact ⟨rfl, b3⟩
theorem g_foldS_max (b off m cap : Nat) (X : Nat → Nat → Int) (w : World) (hcap : m + 1 ≤ cap) (hm : m ≤ 1000000) (hx : Fx.Cel w b off (6 * (m + 1)) (vx X)) :
    Calls Try.prog 54 #[.slice (some ⟨b, off, none⟩) (m + 1) (cap), .func (.func 55) #[] #[]] w fun e w' => e = .returned (.agg (Fx.varr 6 (Fx.rv .u64 (foldS mx6 X m)))) ∧ Below w.heap.size w w' := by
 have lb := hx.lt (by omega)
 refine Fx.enter Try.func54 rfl (n := 26) rfl (by rfl) ?_
 refine Ws (Wl (Fx.L.box (m := 1) (y := fun _ => .func (.func 55) #[] #[]) (by rfl) rfl rfl (Fx.cells_one (by rfl)) rfl fun g1 w1 eg1 m1 s1 z1 => ?_))
 have m2 := hx.stp s1 (Nat.ne_of_lt (hx.lt (by omega)))
 have b1 := s1.below (Below.refl w.heap.size w) (Below.refl w.heap.size w).size (Below.refl w.heap.size w).size
 have lg1 : w.heap.size ≤ g1 := by rw [eg1]; exact (Below.refl w.heap.size w).size
 have ng1m2 : b ≠ g1 := by rw [eg1]; exact Nat.ne_of_lt (hx.lt (by omega))
 have tg1 : g1 < w1.heap.size := m1.lt
 clear eg1
 refine Fx.L.new (m := 6) (y := Fx.rv .u64 (fun _ => 0)) (by rfl) rfl (by kernel_rfl) rfl fun g2 w2 eg2 m3 s2 z2 => ?_
 have m4 := m2.stp s2 (Nat.ne_of_lt (m2.lt (by omega)))
 have m5 := m1.stp s2 m1.ne
 have b2 := s2.below b1 b1.size b1.size
 have lg2 : w.heap.size ≤ g2 := by rw [eg2]; exact b1.size
 have ng2m4 : b ≠ g2 := by rw [eg2]; exact Nat.ne_of_lt (m2.lt (by omega))
 have ng2m5 : g1 ≠ g2 := by rw [eg2]; exact Nat.ne_of_lt (m1.lt)
 have tg2 : g2 < w2.heap.size := m3.lt
 clear eg2
 refine Ln (sN (Ws (Ws (Wl (Lv (.slice (some ⟨b, off, none⟩) (m + 1) (cap)) (x_move rfl rfl) (Lv (.int .i64 (((m + 1 : Nat) : Int))) (x_len rfl rfl rfl (by kernel_rfl)) (Lv (.bool false) (x_eqlF rfl rfl rfl (by omega)) (Ln (sN (Wc (b := false) rfl (fun h => nomatch h) (fun _ => Wk (sN (Ws (Wl (Lv (.slice (some ⟨b, off, none⟩) (m + 1) (cap)) (x_move rfl rfl) (Lv ((pf b off)) (x_indexS rfl rfl rfl Try.underlying107 (s := 6) (by kernel_rfl) (by omega) (by omega) (by omega)) (Lv (.agg (Fx.varr 6 (Fx.rv .u64 (X 0)))) (x_loadA (x := vx X) (y := Fx.rv .u64 (X 0)) rfl rfl (by kernel_rfl) (by kernel_rfl) m4 (i := 0) (by omega) (by omega) (fun j hj => vx_row _ (i := 0) (p := 0) (by omega) hj)) (Fx.L.new (m := 6) (y := Fx.rv .u64 (fun _ => 0)) (by rfl) rfl (by kernel_rfl) rfl fun g3 w3 eg3 m6 s3 z3 => ?_))))))))))))))))))
 have m7 := m4.stp s3 (Nat.ne_of_lt (m4.lt (by omega)))
 have m8 := m5.stp s3 m5.ne
 have m9 := m3.stp s3 m3.ne
 have b3 := s3.below b2 b2.size b2.size
 have lg3 : w.heap.size ≤ g3 := by rw [eg3]; exact b2.size
 have ng3m7 : b ≠ g3 := by rw [eg3]; exact Nat.ne_of_lt (m4.lt (by omega))
 have ng3m8 : g1 ≠ g3 := by rw [eg3]; exact Nat.ne_of_lt (m5.lt)
 have ng3m9 : g2 ≠ g3 := by rw [eg3]; exact Nat.ne_of_lt (m3.lt)
 have tg3 : g3 < w3.heap.size := m6.lt
 clear eg3
 refine Fx.L.storeA (x := Fx.rv .u64 (fun _ => 0)) (y := Fx.rv .u64 (X 0)) (by rfl) rfl rfl rfl rfl (fun _ _ => rfl) (by kernel_rfl) m6 (i := 0) (by omega) fun w4 m10 s4 z4 => ?_
 have m11 : Fx.Blk w4 g3 6 (Fx.rv .u64 (X 0)) 32 := Fx.ovr_all m10
 have m12 := m7.stp s4 (by omega)
 have m13 := m8.stp s4 (by omega)
 have m14 := m9.stp s4 (by omega)
 have b4 := s4.below b3 b3.size (by omega)
 refine Ln (sN (Ws (Ws (Wl (Lv (.slice (some ⟨b, off, none⟩) (m + 1) (cap)) (x_move rfl rfl) (Lv (.slice (if cap = 1 then some ⟨b, off, none⟩ else some ⟨b, off + 6, none⟩) (m) (cap - 1)) (Fx.x_sliceLo2 (j := 1) (b := b) (off := off) (len := m + 1) (cap := cap) (s := 6) rfl rfl rfl Try.underlying107 (by kernel_rfl) (by omega) rfl rfl rfl) (Lv (.int .i64 ((m : Int))) (x_len rfl rfl rfl (by kernel_rfl)) (Lv (.int .i64 (0)) (x_move rfl rfl) (Ln (sN (Fx.W.block ?_)))))))))))
 have m15 : Fx.Blk w4 g3 6 (Fx.rv .u64 (foldS mx6 X 0)) 32 := m11
 refine Fx.W.loop (fun f w_ => ∃ k : Nat, k ≤ m ∧ f 3 = (pt g1) ∧ f 4 = (pt g2) ∧ f 5 = (pt g3) ∧ f 16 = .slice (if cap = 1 then some ⟨b, off, none⟩ else some ⟨b, off + 6, none⟩) (m) (cap - 1) ∧ f 17 = .int .i64 ((m : Int)) ∧ f 18 = .int .i64 ((k : Int)) ∧ Fx.Cel w_ b off (6 * (m + 1)) (vx X) ∧ Fx.Blk w_ g1 1 (fun _ => .func (.func 55) #[] #[]) 114 ∧ Fx.Blk w_ g2 6 (Fx.rv .u64 (fun _ => 0)) 32 ∧ Fx.Blk w_ g3 6 (Fx.rv .u64 (foldS mx6 X k)) 32 ∧ Below w.heap.size w w_) (fun f _ => (m - (intOf (f 18)).toNat)) ⟨0, by omega, (by rfl), (by rfl), (by rfl), (by rfl), Fx.ic, Fx.ic, m12, m13, m14, m15, b4⟩ ?_
 rintro f1 w5 ⟨k, hk, h1, h2, h3, h4, h5, h6, m16, m17, m18, m19, b5⟩
 refine Ws (Wl ?_)
 by_cases c19 : (k : Int) < (m : Int)
 ·refine Lv (.bool true) (Fx.x_lssT rfl h6 h5 c19) (Ln (sN (Ws (Wc (b := true) rfl (fun _ => Wk (sN (Ws (Fx.W.block (Ws (Wl (Lv ((pf b (6 * k + off + 6))) (x_indexS rfl (h4.trans (congrArg (fun q => Value.slice q (m) (cap - 1)) (if_neg (by omega)))) h6 Try.underlying107 (s := 6) (by kernel_rfl) (by omega) (by omega) (by omega)) ?_))))))) (fun h => nomatch h)))))
  refine Lv (.agg (Fx.varr 6 (Fx.rv .u64 (X (k + 1))))) (x_loadA (x := vx X) (y := Fx.rv .u64 (X (k + 1))) rfl rfl (by kernel_rfl) (by kernel_rfl) m16 (i := 6 * k + 6) (by omega) (by omega) (fun j hj => vx_row _ (i := k + 1) (p := 6 * k + 6) (by omega) hj)) (Fx.L.new (m := 6) (y := Fx.rv .u64 (fun _ => 0)) (by rfl) rfl (by kernel_rfl) rfl fun g4 w6 eg4 m20 s5 z5 => ?_)
  have m21 := m16.stp s5 (Nat.ne_of_lt (m16.lt (by omega)))
  have m22 := m17.stp s5 m17.ne
  have m23 := m18.stp s5 m18.ne
  have m24 := m19.stp s5 m19.ne
  have b6 := s5.below b5 b5.size b5.size
  have lg4 : w.heap.size ≤ g4 := by rw [eg4]; exact b5.size
  have ng4m21 : b ≠ g4 := by rw [eg4]; exact Nat.ne_of_lt (m16.lt (by omega))
  have ng4m22 : g1 ≠ g4 := by rw [eg4]; exact Nat.ne_of_lt (m17.lt)
  have ng4m23 : g2 ≠ g4 := by rw [eg4]; exact Nat.ne_of_lt (m18.lt)
  have ng4m24 : g3 ≠ g4 := by rw [eg4]; exact Nat.ne_of_lt (m19.lt)
  have tg4 : g4 < w6.heap.size := m20.lt
  clear eg4
  refine Fx.L.storeA (x := Fx.rv .u64 (fun _ => 0)) (y := Fx.rv .u64 (X (k + 1))) (by rfl) rfl rfl rfl rfl (fun _ _ => rfl) (by kernel_rfl) m20 (i := 0) (by omega) fun w7 m25 s6 z6 => ?_
  have m26 : Fx.Blk w7 g4 6 (Fx.rv .u64 (X (k + 1))) 32 := Fx.ovr_all m25
  have m27 := m21.stp s6 (by omega)
  have m28 := m22.stp s6 (by omega)
  have m29 := m23.stp s6 (by omega)
  have m30 := m24.stp s6 (by omega)
  have b7 := s6.below b6 b6.size (by omega)
  refine Ln (sN (Wl (Lv (.func (.func 73) #[] #[(pt g1), (pt g3), (pt g4)]) (Fx.x_func (us := []) (vs := [(pt g1), (pt g3), (pt g4)]) rfl rfl (Fx.args3 h1 h3 rfl)) (Fx.L.call (by rfl) (rC (args := [.func (.func 73) #[] #[(pt g1), (pt g3), (pt g4)]]) rfl rfl Try.func72 rfl rfl) rfl ((g_each_max (foldS mx6 X k) (X (k + 1)) g1 g3 g4 _ m28 m30 m26).mono ?_)))))
  rintro e w8 ⟨he, hb1⟩
  refine ⟨.agg (Fx.varr 6 (Fx.rv .u64 (fun p => mx6 ((foldS mx6 X k) p) ((X (k + 1)) p)))), by rw [he], ?_⟩
  clear he
  have s7 := Sb hb1
  have m31 := m27.stp s7 (Nat.ne_of_lt (m27.lt (by omega)))
  have m32 := m28.stp s7 m28.ne
  have m33 := m29.stp s7 m29.ne
  have m34 := m30.stp s7 m30.ne
  have m35 := m26.stp s7 m26.ne
  have b8 := s7.below b7 b7.size b7.size
  refine Fx.L.storeA (x := Fx.rv .u64 (foldS mx6 X k)) (y := Fx.rv .u64 (fun p => mx6 ((foldS mx6 X k) p) ((X (k + 1)) p))) (by rfl) rfl rfl h3 rfl (fun _ _ => rfl) (by kernel_rfl) m34 (i := 0) (by omega) fun w9 m36 s8 z7 => ?_
  have m37 : Fx.Blk w9 g3 6 (Fx.rv .u64 (fun p => mx6 ((foldS mx6 X k) p) ((X (k + 1)) p))) 32 := Fx.ovr_all m36
  have m38 := m31.stp s8 (by omega)
  have m39 := m32.stp s8 (by omega)
  have m40 := m33.stp s8 (by omega)
  have m41 := m35.stp s8 (by omega)
  have b9 := s8.below b8 b8.size (by omega)
  refine Ln (Fx.blkN (sN (Wl (Lv (.int .i64 ((k : Int) + 1)) (Fx.x_add rfl h6 rfl Fx.io) (Lv (.int .i64 ((k : Int) + 1)) (x_move rfl rfl) (Ln (Fx.lpN ⟨k + 1, by omega, h1, h2, h3, h4, (h5.trans Fx.ic), Fx.ic, m38, m39, m40, m37, b9⟩ ?_)))))))
  show (m - (intOf ((.int .i64 ((k : Int) + 1)))).toNat) < _
  simp only [h6, intOf]; omega
 refine Lv (.bool false) (Fx.x_lssF rfl h6 h5 c19) (Ln (sN (Ws (Wc (b := false) rfl (fun h => nomatch h) (fun _ => Fx.W.exit (Fx.seqX (Fx.lpX (Fx.blkX (sN (Ws (Wl (Lv (.agg (Fx.varr 6 (Fx.rv .u64 (foldS mx6 X k)))) (x_loadA (x := Fx.rv .u64 (foldS mx6 X k)) (y := Fx.rv .u64 (foldS mx6 X k)) rfl h3 (by kernel_rfl) (by kernel_rfl) m19.cel (i := 0) (by omega) (by omega) (fun j _ => by rw [Nat.zero_add])) (Fx.L.storeA (x := Fx.rv .u64 (fun _ => 0)) (y := Fx.rv .u64 (foldS mx6 X k)) (by rfl) rfl rfl h2 rfl (fun _ _ => rfl) (by kernel_rfl) m18 (i := 0) (by omega) fun w10 m42 s9 z8 => ?_)))))))))))))
 have m43 : Fx.Blk w10 g2 6 (Fx.rv .u64 (foldS mx6 X k)) 32 := Fx.ovr_all m42
 have m44 := m16.stp s9 (by omega)
 have m45 := m17.stp s9 (by omega)
 have m46 := m19.stp s9 (by omega)
 have b10 := s9.below b5 b5.size (by omega)
 refine Ln (sN (Wr (⟨.agg (Fx.varr 6 (Fx.rv .u64 (foldS mx6 X k))), rV Try.results54 ⟨_, h2, Fx.run_loadV m43.cel (by kernel_rfl) (by kernel_rfl)⟩, ?_⟩)))
 have ek : k = m := by omega
 exact ⟨by rw [ek], b10⟩
theorem g_fold_max (a : Option Addr) (n cap : Nat) (X : Nat → Nat → Int) (w : World) (hn : n ≤ 1000000) (h : Vcs w a n cap X) :
    Calls Try.prog 54 #[.slice a n cap, .func (.func 55) #[] #[]] w fun e w' => e = .returned (.agg (Fx.varr 6 (Fx.rv .u64 (foldV mx6 X n)))) ∧ Below w.heap.size w w' := by
  cases n with
  | zero => exact g_fold0_max a cap w
  | succ m => obtain ⟨hc, b, off, rfl, hx⟩ := h (by omega); exact g_foldS_max b off m cap X w hc (by omega) hx
theorem g_fold0_min (a : Option Addr) (cap : Nat) (w : World) :
    Calls Try.prog 54 #[.slice a (0) (cap), .func (.func 66) #[] #[]] w fun e w' => e = .returned (.agg (Fx.varr 6 (Fx.rv .u64 (fun _ => 0)))) ∧ Below w.heap.size w w' := by
 refine Fx.enter Try.func54 rfl (n := 26) rfl (by rfl) ?_
 refine Ws (Wl (Fx.L.box (m := 1) (y := fun _ => .func (.func 66) #[] #[]) (by rfl) rfl rfl (Fx.cells_one (by rfl)) rfl fun g1 w1 eg1 m1 s1 z1 => ?_))
 have b1 := s1.below (Below.refl w.heap.size w) (Below.refl w.heap.size w).size (Below.refl w.heap.size w).size
 have lg1 : w.heap.size ≤ g1 := by rw [eg1]; exact (Below.refl w.heap.size w).size
 have tg1 : g1 < w1.heap.size := m1.lt
 clear eg1
 refine Fx.L.new (m := 6) (y := Fx.rv .u64 (fun _ => 0)) (by rfl) rfl (by kernel_rfl) rfl fun g2 w2 eg2 m2 s2 z2 => ?_
 have m3 := m1.stp s2 m1.ne
 have b2 := s2.below b1 b1.size b1.size
 have lg2 : w.heap.size ≤ g2 := by rw [eg2]; exact b1.size
 have ng2m3 : g1 ≠ g2 := by rw [eg2]; exact Nat.ne_of_lt (m1.lt)
 have tg2 : g2 < w2.heap.size := m2.lt
 clear eg2
 refine Ln (sN (Ws (Ws (Wl (Lv (.slice a (0) (cap)) (x_move rfl rfl) (Lv (.int .i64 (0)) (x_len rfl rfl rfl (by kernel_rfl)) (Lv (.bool true) (x_eqlT rfl rfl rfl rfl) (Ln (sN (Wc (b := true) rfl (fun _ => Ws (Wl (Lv (.agg (Fx.varr 6 (Fx.rv .u64 (fun _ => 0)))) (Fx.x_buildArr (vs := []) (s := 1) (m := 6) (x := Fx.rv .u64 (fun _ => 0)) rfl rfl Try.underlying32 (by kernel_rfl) (by kernel_rfl) (by rfl)) ?_))) (fun h => nomatch h)))))))))))
 refine Fx.L.storeA (x := Fx.rv .u64 (fun _ => 0)) (y := Fx.rv .u64 (fun _ => 0)) (by rfl) rfl rfl rfl rfl (fun _ _ => rfl) (by kernel_rfl) m2 (i := 0) (by omega) fun w3 m4 s3 z3 => ?_
 have m5 : Fx.Blk w3 g2 6 (Fx.rv .u64 (fun _ => 0)) 32 := Fx.ovr_all m4
 have m6 := m3.stp s3 (by omega)
 have b3 := s3.below b2 b2.size (by omega)
 refine Ln (sN (Wr (sR (⟨.agg (Fx.varr 6 (Fx.rv .u64 (fun _ => 0))), rV Try.results54 ⟨_, rfl, Fx.run_loadV m5.cel (by kernel_rfl) (by kernel_rfl)⟩, ?_⟩))))
 exact ⟨rfl, b3⟩
theorem g_foldS_min (b off m cap : Nat) (X : Nat → Nat → Int) (w : World) (hcap : m + 1 ≤ cap) (hm : m ≤ 1000000) (hx : Fx.Cel w b off (6 * (m + 1)) (vx X)) :
    Calls Try.prog 54 #[.slice (some ⟨b, off, none⟩) (m + 1) (cap), .func (.func 66) #[] #[]] w fun e w' => e = .returned (.agg (Fx.varr 6 (Fx.rv .u64 (foldS mn6 X m)))) ∧ Below w.heap.size w w' := by
 have lb := hx.lt (by omega)
 refine Fx.enter Try.func54 rfl (n := 26) rfl (by rfl) ?_
 refine Ws (Wl (Fx.L.box (m := 1) (y := fun _ => .func (.func 66) #[] #[]) (by rfl) rfl rfl (Fx.cells_one (by rfl)) rfl fun g1 w1 eg1 m1 s1 z1 => ?_))
 have m2 := hx.stp s1 (Nat.ne_of_lt (hx.lt (by omega)))
 have b1 := s1.below (Below.refl w.heap.size w) (Below.refl w.heap.size w).size (Below.refl w.heap.size w).size
 have lg1 : w.heap.size ≤ g1 := by rw [eg1]; exact (Below.refl w.heap.size w).size
 have ng1m2 : b ≠ g1 := by rw [eg1]; exact Nat.ne_of_lt (hx.lt (by omega))
 have tg1 : g1 < w1.heap.size := m1.lt
 clear eg1
 refine Fx.L.new (m := 6) (y := Fx.rv .u64 (fun _ => 0)) (by rfl) rfl (by kernel_rfl) rfl fun g2 w2 eg2 m3 s2 z2 => ?_
 have m4 := m2.stp s2 (Nat.ne_of_lt (m2.lt (by omega)))
 have m5 := m1.stp s2 m1.ne
 have b2 := s2.below b1 b1.size b1.size
 have lg2 : w.heap.size ≤ g2 := by rw [eg2]; exact b1.size
 have ng2m4 : b ≠ g2 := by rw [eg2]; exact Nat.ne_of_lt (m2.lt (by omega))
 have ng2m5 : g1 ≠ g2 := by rw [eg2]; exact Nat.ne_of_lt (m1.lt)
 have tg2 : g2 < w2.heap.size := m3.lt
 clear eg2
 refine Ln (sN (Ws (Ws (Wl (Lv (.slice (some ⟨b, off, none⟩) (m + 1) (cap)) (x_move rfl rfl) (Lv (.int .i64 (((m + 1 : Nat) : Int))) (x_len rfl rfl rfl (by kernel_rfl)) (Lv (.bool false) (x_eqlF rfl rfl rfl (by omega)) (Ln (sN (Wc (b := false) rfl (fun h => nomatch h) (fun _ => Wk (sN (Ws (Wl (Lv (.slice (some ⟨b, off, none⟩) (m + 1) (cap)) (x_move rfl rfl) (Lv ((pf b off)) (x_indexS rfl rfl rfl Try.underlying107 (s := 6) (by kernel_rfl) (by omega) (by omega) (by omega)) (Lv (.agg (Fx.varr 6 (Fx.rv .u64 (X 0)))) (x_loadA (x := vx X) (y := Fx.rv .u64 (X 0)) rfl rfl (by kernel_rfl) (by kernel_rfl) m4 (i := 0) (by omega) (by omega) (fun j hj => vx_row _ (i := 0) (p := 0) (by omega) hj)) (Fx.L.new (m := 6) (y := Fx.rv .u64 (fun _ => 0)) (by rfl) rfl (by kernel_rfl) rfl fun g3 w3 eg3 m6 s3 z3 => ?_))))))))))))))))))
 have m7 := m4.stp s3 (Nat.ne_of_lt (m4.lt (by omega)))
 have m8 := m5.stp s3 m5.ne
 have m9 := m3.stp s3 m3.ne
 have b3 := s3.below b2 b2.size b2.size
 have lg3 : w.heap.size ≤ g3 := by rw [eg3]; exact b2.size
 have ng3m7 : b ≠ g3 := by rw [eg3]; exact Nat.ne_of_lt (m4.lt (by omega))
 have ng3m8 : g1 ≠ g3 := by rw [eg3]; exact Nat.ne_of_lt (m5.lt)
 have ng3m9 : g2 ≠ g3 := by rw [eg3]; exact Nat.ne_of_lt (m3.lt)
 have tg3 : g3 < w3.heap.size := m6.lt
 clear eg3
 refine Fx.L.storeA (x := Fx.rv .u64 (fun _ => 0)) (y := Fx.rv .u64 (X 0)) (by rfl) rfl rfl rfl rfl (fun _ _ => rfl) (by kernel_rfl) m6 (i := 0) (by omega) fun w4 m10 s4 z4 => ?_
 have m11 : Fx.Blk w4 g3 6 (Fx.rv .u64 (X 0)) 32 := Fx.ovr_all m10
 have m12 := m7.stp s4 (by omega)
 have m13 := m8.stp s4 (by omega)
 have m14 := m9.stp s4 (by omega)
 have b4 := s4.below b3 b3.size (by omega)
 refine Ln (sN (Ws (Ws (Wl (Lv (.slice (some ⟨b, off, none⟩) (m + 1) (cap)) (x_move rfl rfl) (Lv (.slice (if cap = 1 then some ⟨b, off, none⟩ else some ⟨b, off + 6, none⟩) (m) (cap - 1)) (Fx.x_sliceLo2 (j := 1) (b := b) (off := off) (len := m + 1) (cap := cap) (s := 6) rfl rfl rfl Try.underlying107 (by kernel_rfl) (by omega) rfl rfl rfl) (Lv (.int .i64 ((m : Int))) (x_len rfl rfl rfl (by kernel_rfl)) (Lv (.int .i64 (0)) (x_move rfl rfl) (Ln (sN (Fx.W.block ?_)))))))))))
 have m15 : Fx.Blk w4 g3 6 (Fx.rv .u64 (foldS mn6 X 0)) 32 := m11
 refine Fx.W.loop (fun f w_ => ∃ k : Nat, k ≤ m ∧ f 3 = (pt g1) ∧ f 4 = (pt g2) ∧ f 5 = (pt g3) ∧ f 16 = .slice (if cap = 1 then some ⟨b, off, none⟩ else some ⟨b, off + 6, none⟩) (m) (cap - 1) ∧ f 17 = .int .i64 ((m : Int)) ∧ f 18 = .int .i64 ((k : Int)) ∧ Fx.Cel w_ b off (6 * (m + 1)) (vx X) ∧ Fx.Blk w_ g1 1 (fun _ => .func (.func 66) #[] #[]) 114 ∧ Fx.Blk w_ g2 6 (Fx.rv .u64 (fun _ => 0)) 32 ∧ Fx.Blk w_ g3 6 (Fx.rv .u64 (foldS mn6 X k)) 32 ∧ Below w.heap.size w w_) (fun f _ => (m - (intOf (f 18)).toNat)) ⟨0, by omega, (by rfl), (by rfl), (by rfl), (by rfl), Fx.ic, Fx.ic, m12, m13, m14, m15, b4⟩ ?_
 rintro f1 w5 ⟨k, hk, h1, h2, h3, h4, h5, h6, m16, m17, m18, m19, b5⟩
 refine Ws (Wl ?_)
 by_cases c19 : (k : Int) < (m : Int)
 ·refine Lv (.bool true) (Fx.x_lssT rfl h6 h5 c19) (Ln (sN (Ws (Wc (b := true) rfl (fun _ => Wk (sN (Ws (Fx.W.block (Ws (Wl (Lv ((pf b (6 * k + off + 6))) (x_indexS rfl (h4.trans (congrArg (fun q => Value.slice q (m) (cap - 1)) (if_neg (by omega)))) h6 Try.underlying107 (s := 6) (by kernel_rfl) (by omega) (by omega) (by omega)) ?_))))))) (fun h => nomatch h)))))
  refine Lv (.agg (Fx.varr 6 (Fx.rv .u64 (X (k + 1))))) (x_loadA (x := vx X) (y := Fx.rv .u64 (X (k + 1))) rfl rfl (by kernel_rfl) (by kernel_rfl) m16 (i := 6 * k + 6) (by omega) (by omega) (fun j hj => vx_row _ (i := k + 1) (p := 6 * k + 6) (by omega) hj)) (Fx.L.new (m := 6) (y := Fx.rv .u64 (fun _ => 0)) (by rfl) rfl (by kernel_rfl) rfl fun g4 w6 eg4 m20 s5 z5 => ?_)
  have m21 := m16.stp s5 (Nat.ne_of_lt (m16.lt (by omega)))
  have m22 := m17.stp s5 m17.ne
  have m23 := m18.stp s5 m18.ne
  have m24 := m19.stp s5 m19.ne
  have b6 := s5.below b5 b5.size b5.size
  have lg4 : w.heap.size ≤ g4 := by rw [eg4]; exact b5.size
  have ng4m21 : b ≠ g4 := by rw [eg4]; exact Nat.ne_of_lt (m16.lt (by omega))
  have ng4m22 : g1 ≠ g4 := by rw [eg4]; exact Nat.ne_of_lt (m17.lt)
  have ng4m23 : g2 ≠ g4 := by rw [eg4]; exact Nat.ne_of_lt (m18.lt)
  have ng4m24 : g3 ≠ g4 := by rw [eg4]; exact Nat.ne_of_lt (m19.lt)
  have tg4 : g4 < w6.heap.size := m20.lt
  clear eg4
  refine Fx.L.storeA (x := Fx.rv .u64 (fun _ => 0)) (y := Fx.rv .u64 (X (k + 1))) (by rfl) rfl rfl rfl rfl (fun _ _ => rfl) (by kernel_rfl) m20 (i := 0) (by omega) fun w7 m25 s6 z6 => ?_
  have m26 : Fx.Blk w7 g4 6 (Fx.rv .u64 (X (k + 1))) 32 := Fx.ovr_all m25
  have m27 := m21.stp s6 (by omega)
  have m28 := m22.stp s6 (by omega)
  have m29 := m23.stp s6 (by omega)
  have m30 := m24.stp s6 (by omega)
  have b7 := s6.below b6 b6.size (by omega)
  refine Ln (sN (Wl (Lv (.func (.func 73) #[] #[(pt g1), (pt g3), (pt g4)]) (Fx.x_func (us := []) (vs := [(pt g1), (pt g3), (pt g4)]) rfl rfl (Fx.args3 h1 h3 rfl)) (Fx.L.call (by rfl) (rC (args := [.func (.func 73) #[] #[(pt g1), (pt g3), (pt g4)]]) rfl rfl Try.func72 rfl rfl) rfl ((g_each_min (foldS mn6 X k) (X (k + 1)) g1 g3 g4 _ m28 m30 m26).mono ?_)))))
  rintro e w8 ⟨he, hb1⟩
  refine ⟨.agg (Fx.varr 6 (Fx.rv .u64 (fun p => mn6 ((foldS mn6 X k) p) ((X (k + 1)) p)))), by rw [he], ?_⟩
  clear he
  have s7 := Sb hb1
  have m31 := m27.stp s7 (Nat.ne_of_lt (m27.lt (by omega)))
  have m32 := m28.stp s7 m28.ne
  have m33 := m29.stp s7 m29.ne
  have m34 := m30.stp s7 m30.ne
  have m35 := m26.stp s7 m26.ne
  have b8 := s7.below b7 b7.size b7.size
  refine Fx.L.storeA (x := Fx.rv .u64 (foldS mn6 X k)) (y := Fx.rv .u64 (fun p => mn6 ((foldS mn6 X k) p) ((X (k + 1)) p))) (by rfl) rfl rfl h3 rfl (fun _ _ => rfl) (by kernel_rfl) m34 (i := 0) (by omega) fun w9 m36 s8 z7 => ?_
  have m37 : Fx.Blk w9 g3 6 (Fx.rv .u64 (fun p => mn6 ((foldS mn6 X k) p) ((X (k + 1)) p))) 32 := Fx.ovr_all m36
  have m38 := m31.stp s8 (by omega)
  have m39 := m32.stp s8 (by omega)
  have m40 := m33.stp s8 (by omega)
  have m41 := m35.stp s8 (by omega)
  have b9 := s8.below b8 b8.size (by omega)
  refine Ln (Fx.blkN (sN (Wl (Lv (.int .i64 ((k : Int) + 1)) (Fx.x_add rfl h6 rfl Fx.io) (Lv (.int .i64 ((k : Int) + 1)) (x_move rfl rfl) (Ln (Fx.lpN ⟨k + 1, by omega, h1, h2, h3, h4, (h5.trans Fx.ic), Fx.ic, m38, m39, m40, m37, b9⟩ ?_)))))))
  show (m - (intOf ((.int .i64 ((k : Int) + 1)))).toNat) < _
  simp only [h6, intOf]; omega
 refine Lv (.bool false) (Fx.x_lssF rfl h6 h5 c19) (Ln (sN (Ws (Wc (b := false) rfl (fun h => nomatch h) (fun _ => Fx.W.exit (Fx.seqX (Fx.lpX (Fx.blkX (sN (Ws (Wl (Lv (.agg (Fx.varr 6 (Fx.rv .u64 (foldS mn6 X k)))) (x_loadA (x := Fx.rv .u64 (foldS mn6 X k)) (y := Fx.rv .u64 (foldS mn6 X k)) rfl h3 (by kernel_rfl) (by kernel_rfl) m19.cel (i := 0) (by omega) (by omega) (fun j _ => by rw [Nat.zero_add])) (Fx.L.storeA (x := Fx.rv .u64 (fun _ => 0)) (y := Fx.rv .u64 (foldS mn6 X k)) (by rfl) rfl rfl h2 rfl (fun _ _ => rfl) (by kernel_rfl) m18 (i := 0) (by omega) fun w10 m42 s9 z8 => ?_)))))))))))))
 have m43 : Fx.Blk w10 g2 6 (Fx.rv .u64 (foldS mn6 X k)) 32 := Fx.ovr_all m42
 have m44 := m16.stp s9 (by omega)
 have m45 := m17.stp s9 (by omega)
 have m46 := m19.stp s9 (by omega)
 have b10 := s9.below b5 b5.size (by omega)
 refine Ln (sN (Wr (⟨.agg (Fx.varr 6 (Fx.rv .u64 (foldS mn6 X k))), rV Try.results54 ⟨_, h2, Fx.run_loadV m43.cel (by kernel_rfl) (by kernel_rfl)⟩, ?_⟩)))
 have ek : k = m := by omega
 exact ⟨by rw [ek], b10⟩
theorem g_fold_min (a : Option Addr) (n cap : Nat) (X : Nat → Nat → Int) (w : World) (hn : n ≤ 1000000) (h : Vcs w a n cap X) :
    Calls Try.prog 54 #[.slice a n cap, .func (.func 66) #[] #[]] w fun e w' => e = .returned (.agg (Fx.varr 6 (Fx.rv .u64 (foldV mn6 X n)))) ∧ Below w.heap.size w w' := by
  cases n with
  | zero => exact g_fold0_min a cap w
  | succ m => obtain ⟨hc, b, off, rfl, hx⟩ := h (by omega); exact g_foldS_min b off m cap X w hc (by omega) hx
theorem vcs_up {w w' : World} {a : Option Addr} {n cap : Nat} {X : Nat → Nat → Int} (h : Vcs w a n cap X) (hb : Below w.heap.size w w') : Vcs w' a n cap X := fun h0 => by
  obtain ⟨hc, b, off, e, hx⟩ := h h0
  exact ⟨hc, b, off, e, hx.below hb (hx.lt (by omega))⟩
theorem g_join (a : Option Addr) (n cap : Nat) (X : Nat → Nat → Int) (w : World) (hn : n ≤ 1000000) (h : Vcs w a n cap X) :
    Calls Try.prog 36 #[.slice a (n) (cap)] w fun e w' => e = .returned (.agg (Fx.varr 6 (Fx.rv .u64 (foldV mx6 X n)))) ∧ Below w.heap.size w w' := by
 refine Fx.enter Try.func36 rfl (n := 5) rfl (by rfl) ?_
 refine Ws (Wl (Fx.L.new (m := 6) (y := Fx.rv .u64 (fun _ => 0)) (by rfl) rfl (by kernel_rfl) rfl fun g1 w1 eg1 m1 s1 z1 => ?_))
 have b1 := s1.below (Below.refl w.heap.size w) (Below.refl w.heap.size w).size (Below.refl w.heap.size w).size
 have lg1 : w.heap.size ≤ g1 := by rw [eg1]; exact (Below.refl w.heap.size w).size
 have tg1 : g1 < w1.heap.size := m1.lt
 clear eg1
 refine Ln (sN (Ws (Wl (Lv (.slice a (n) (cap)) (x_move rfl rfl) (Fx.L.call (by rfl) (rC (args := [.slice a (n) (cap), .func (.func 55) #[] #[]]) rfl rfl Try.func54 rfl rfl) rfl ((g_fold_max a n cap X _ hn (vcs_up h b1)).mono ?_))))))
 rintro e w2 ⟨he, hb1⟩
 refine ⟨.agg (Fx.varr 6 (Fx.rv .u64 (foldV mx6 X n))), by rw [he], ?_⟩
 clear he
 have s2 := Sb hb1
 have m2 := m1.stp s2 m1.ne
 have b2 := s2.below b1 b1.size b1.size
 refine Fx.L.storeA (x := Fx.rv .u64 (fun _ => 0)) (y := Fx.rv .u64 (foldV mx6 X n)) (by rfl) rfl rfl rfl rfl (fun _ _ => rfl) (by kernel_rfl) m2 (i := 0) (by omega) fun w3 m3 s3 z2 => ?_
 have m4 : Fx.Blk w3 g1 6 (Fx.rv .u64 (foldV mx6 X n)) 32 := Fx.ovr_all m3
 have b3 := s3.below b2 b2.size (by omega)
 refine Ln (sN (Wr (⟨.agg (Fx.varr 6 (Fx.rv .u64 (foldV mx6 X n))), rV Try.results36 ⟨_, rfl, Fx.run_loadV m4.cel (by kernel_rfl) (by kernel_rfl)⟩, ?_⟩)))
 exact ⟨rfl, b3⟩
theorem g_meet (a : Option Addr) (n cap : Nat) (X : Nat → Nat → Int) (w : World) (hn : n ≤ 1000000) (h : Vcs w a n cap X) :
    Calls Try.prog 48 #[.slice a (n) (cap)] w fun e w' => e = .returned (.agg (Fx.varr 6 (Fx.rv .u64 (foldV mn6 X n)))) ∧ Below w.heap.size w w' := by
 refine Fx.enter Try.func48 rfl (n := 5) rfl (by rfl) ?_
 refine Ws (Wl (Fx.L.new (m := 6) (y := Fx.rv .u64 (fun _ => 0)) (by rfl) rfl (by kernel_rfl) rfl fun g1 w1 eg1 m1 s1 z1 => ?_))
 have b1 := s1.below (Below.refl w.heap.size w) (Below.refl w.heap.size w).size (Below.refl w.heap.size w).size
 have lg1 : w.heap.size ≤ g1 := by rw [eg1]; exact (Below.refl w.heap.size w).size
 have tg1 : g1 < w1.heap.size := m1.lt
 clear eg1
 refine Ln (sN (Ws (Wl (Lv (.slice a (n) (cap)) (x_move rfl rfl) (Fx.L.call (by rfl) (rC (args := [.slice a (n) (cap), .func (.func 66) #[] #[]]) rfl rfl Try.func54 rfl rfl) rfl ((g_fold_min a n cap X _ hn (vcs_up h b1)).mono ?_))))))
 rintro e w2 ⟨he, hb1⟩
 refine ⟨.agg (Fx.varr 6 (Fx.rv .u64 (foldV mn6 X n))), by rw [he], ?_⟩
 clear he
 have s2 := Sb hb1
 have m2 := m1.stp s2 m1.ne
 have b2 := s2.below b1 b1.size b1.size
 refine Fx.L.storeA (x := Fx.rv .u64 (fun _ => 0)) (y := Fx.rv .u64 (foldV mn6 X n)) (by rfl) rfl rfl rfl rfl (fun _ _ => rfl) (by kernel_rfl) m2 (i := 0) (by omega) fun w3 m3 s3 z2 => ?_
 have m4 : Fx.Blk w3 g1 6 (Fx.rv .u64 (foldV mn6 X n)) 32 := Fx.ovr_all m3
 have b3 := s3.below b2 b2.size (by omega)
 refine Ln (sN (Wr (⟨.agg (Fx.varr 6 (Fx.rv .u64 (foldV mn6 X n))), rV Try.results48 ⟨_, rfl, Fx.run_loadV m4.cel (by kernel_rfl) (by kernel_rfl)⟩, ?_⟩)))
 exact ⟨rfl, b3⟩
namespace Rt
def ofV (K : Nat → Int) (i : Int) : Nat → Int := if regG i = true then fun p => K (6 * (i - 1).toNat + p) else fun _ => 0
def toldK (K : Nat → Int) (i : Int) (v : Nat → Int) : Nat → Int := if regG i = true then Fx.ovrI K (6 * (i - 1).toNat) 6 (fun p => mx6 (K (6 * (i - 1).toNat + p)) (v p)) else K
def tE (i : Int) : Int := if regG i = true then 0 else 10
theorem ofV_yes {K : Nat → Int} {i : Int} {a : Nat} (h : regG i = true) (ea : i = (a : Int) + 1) : (fun j => K (6 * a + j)) = ofV K i := by
  unfold ofV; rw [if_pos h, show (i - 1).toNat = a by omega]
theorem ofV_no {K : Nat → Int} {i : Int} (h : regG i = false) : (fun _ => 0) = ofV K i := by unfold ofV; rw [if_neg (by rw [h]; decide)]
theorem toldK_yes {K v : Nat → Int} {i : Int} {a : Nat} (h : regG i = true) (ea : i = (a : Int) + 1) : Fx.ovrI K (6 * a) 6 (fun p => mx6 (K (6 * a + p)) (v p)) = toldK K i v := by
  unfold toldK; rw [if_pos h, show (i - 1).toNat = a by omega]
theorem toldK_no {K v : Nat → Int} {i : Int} (h : regG i = false) : K = toldK K i v := by unfold toldK; rw [if_neg (by rw [h]; decide)]
theorem V2_eq (x y : Nat → Int) : Fx.ovr (Fx.ovr (fun j => Fx.rv .u64 (fun _ => 0) (j % 6)) (0 * 6) 6 (Fx.rv .u64 x)) (1 * 6) 6 (Fx.rv .u64 y) = vx (V2 x y) := by
  funext p
  unfold Fx.ovr
  by_cases h1 : 1 * 6 ≤ p ∧ p < 1 * 6 + 6
  · rw [if_pos h1]
    show _ = Value.int .u64 (V2 x y (p / 6) (p % 6))
    rw [show p / 6 = 1 by omega, show p - 1 * 6 = p % 6 by omega]; rfl
  rw [if_neg h1]
  by_cases h0 : 0 * 6 ≤ p ∧ p < 0 * 6 + 6
  · rw [if_pos h0]
    show _ = Value.int .u64 (V2 x y (p / 6) (p % 6))
    rw [show p / 6 = 0 by omega, show p - 0 * 6 = p % 6 by omega]; rfl
  rw [if_neg h0]
  show _ = Value.int .u64 (V2 x y (p / 6) (p % 6))
  obtain ⟨q, hq⟩ : ∃ q, p / 6 = q + 2 := ⟨p / 6 - 2, by omega⟩
  rw [hq]; rfl
theorem own_step (X : Nat → Nat → Int) (k : Nat) (z : Nat → Int) (hz : X k = z) : ∀ j, j < (k + 1) * 6 → Fx.appX (vx X) (k * 6) (Fx.rv .u64 (Fx.ovrI (fun _ => 0) (0 * 6) 6 z)) j = vx X j := by
  intro j hj
  unfold Fx.appX
  by_cases h : j < k * 6
  · rw [if_pos h]
  rw [if_neg h]
  show Value.int .u64 (Fx.ovrI (fun _ => 0) (0 * 6) 6 z (j - k * 6)) = Value.int .u64 (X (j / 6) (j % 6))
  unfold Fx.ovrI
  rw [if_pos (by omega), show j / 6 = k by omega, show j - k * 6 - 0 * 6 = j % 6 by omega, hz]
def Its (w : World) (a : Option Addr) (n : Nat) (X : Nat → Int) : Prop := 0 < n → ∃ b off, a = some ⟨b, off, none⟩ ∧ Fx.Cel w b off n (Fx.rv .i64 X)
def leastV (K : Nat → Int) (X : Nat → Int) (n : Nat) : Nat → Int := foldV mn6 (fun i => ofV K (X i)) n
theorem g_meet_own {w : World} {B : Nat} {E : TypeId} {v : Value} {n : Nat} {X : Nat → Nat → Int} (hn : n ≤ 1000000) (h : Fx.Own w B E 6 v n (vx X)) :
    Calls Try.prog 48 #[v] w fun e w' => e = .returned (.agg (Fx.varr 6 (Fx.rv .u64 (foldV mn6 X n)))) ∧ Below w.heap.size w w' := by
  obtain ⟨a, cap, rfl⟩ := h.val
  refine g_meet a n cap X w hn fun h0 => ?_
  obtain ⟨g, cap', e, _, _, hc, hx⟩ := h.form h0
  simp only [Value.slice.injEq, true_and] at e
  obtain ⟨rfl, rfl⟩ := e
  exact ⟨hc, g, 0, rfl, by rw [Nat.mul_comm]; exact hx⟩
end Rt
theorem g_new (w : World) :
    Calls Try.prog 11 #[] w fun e w' => ∃ gp, e = .returned ((pt gp)) ∧ w.heap.size ≤ gp ∧ Fx.Blk w' gp 36 (Fx.rv .u64 (fun _ => 0)) 92 ∧ Below w.heap.size w w' := by
 refine Fx.enter Try.func11 rfl (n := 3) rfl (by rfl) ?_
 refine Ws (Wl (Lv (.pointer none) (x_assign rfl rfl) (Ln (sN (Ws (Wl (Lv (.agg (Fx.varr 36 (Fx.rv .u64 (fun _ => 0)))) (x_build (vs := []) (places := #[(0, 36)]) (m := 36) (x := Fx.rv .u64 (fun _ => 0)) rfl rfl Try.underlying92 (by kernel_rfl) (by kernel_rfl) (by rfl)) (Fx.L.box (m := 36) (y := Fx.rv .u64 (fun _ => 0)) (by rfl) rfl rfl (Fx.cells_agg _ _) rfl fun g1 w1 eg1 m1 s1 z1 => ?_))))))))
 have b1 := s1.below (Below.refl w.heap.size w) (Below.refl w.heap.size w).size (Below.refl w.heap.size w).size
 have lg1 : w.heap.size ≤ g1 := by rw [eg1]; exact (Below.refl w.heap.size w).size
 have tg1 : g1 < w1.heap.size := m1.lt
 clear eg1
 refine Lv ((pt g1)) (x_assign rfl rfl) (Ln (sN (Wr (⟨(pt g1), rV Try.results11 (by exact rfl), ?_⟩))))
 exact ⟨g1, rfl, lg1, m1, b1⟩
theorem g_of (K : Nat → Int) (gp : Nat) (n : Int) (w : World) (hp : Fx.Blk w gp 36 (Fx.rv .u64 K) 92) :
    Calls Try.prog 14 #[(pt gp), .int .i64 (n)] w fun e w' => e = .returned (.agg (Fx.varr 6 (Fx.rv .u64 (ofV K n)))) ∧ Below w.heap.size w w' := by
 have lgp := hp.lt
 refine Fx.enter Try.func14 rfl (n := 20) rfl (by rfl) ?_
 refine Ws (Wl (Fx.L.new (m := 6) (y := Fx.rv .u64 (fun _ => 0)) (by rfl) rfl (by kernel_rfl) rfl fun g1 w1 eg1 m1 s1 z1 => ?_))
 have m2 := hp.stp s1 hp.ne
 have b1 := s1.below (Below.refl w.heap.size w) (Below.refl w.heap.size w).size (Below.refl w.heap.size w).size
 have lg1 : w.heap.size ≤ g1 := by rw [eg1]; exact (Below.refl w.heap.size w).size
 have ng1m2 : gp ≠ g1 := by rw [eg1]; exact Nat.ne_of_lt (hp.lt)
 have tg1 : g1 < w1.heap.size := m1.lt
 clear eg1
 refine Ln (sN (Ws (Ws (Wl (Lv ((pt gp)) (x_move rfl rfl) (Lv (.bool false) (Fx.x_eqNil rfl rfl rfl (by kernel_rfl)) (Lv (.bool false) (x_move rfl rfl) (Lv (.int .i64 (n)) (x_move rfl rfl) ?_))))))))
 by_cases c9 : (regG n) = true
 ·refine Fx.L.call (by rfl) (rC (args := [.int .i64 (n)]) rfl rfl Try.func35 rfl rfl) rfl ((g_region n _).mono ?_)
  rintro e v1 ⟨he, hv1⟩
  subst v1
  refine ⟨.bool true, by rw [he, c9], ?_⟩
  clear he
  refine Lv (.bool false) (Fx.x_notF rfl rfl) (Lv (.bool false) (x_pickF rfl rfl rfl) (Ln (sN (Wc (b := false) rfl (fun h => nomatch h) (fun _ => Wk (sN (Ws ?_)))))))
  obtain ⟨a, ha, ea⟩ := regG_nat c9
  refine Wl (Lv ((pt gp)) (x_move rfl rfl) (Lv (.int .i64 (n)) (x_move rfl rfl) (Lv (.int .i64 ((a : Int))) (Fx.x_sub rfl rfl rfl Fx.io) (Lv ((pt gp)) (x_nil rfl rfl) (Lv ((pt gp)) (x_field rfl rfl Try.underlying92 rfl (s := 36) (by kernel_rfl) rfl rfl) (Lv ((pf gp (6 * a))) (x_index rfl rfl rfl Try.underlying33 (s := 6) (by kernel_rfl) (by omega) (by omega) (by omega)) (Lv (.agg (Fx.varr 6 (Fx.rv .u64 (fun j => K (6 * a + j))))) (x_loadA (x := Fx.rv .u64 K) (y := Fx.rv .u64 (fun j => K (6 * a + j))) rfl rfl (by kernel_rfl) (by kernel_rfl) m2.cel (i := 6 * a) (by omega) (by omega) (fun j _ => congrArg (fun qz => Fx.rv .u64 K qz) (by omega))) (Fx.L.storeA (x := Fx.rv .u64 (fun _ => 0)) (y := Fx.rv .u64 (fun j => K (6 * a + j))) (by rfl) rfl rfl rfl rfl (fun _ _ => rfl) (by kernel_rfl) m1 (i := 0) (by omega) fun w2 m3 s2 z2 => ?_))))))))
  have m4 : Fx.Blk w2 g1 6 (Fx.rv .u64 (fun j => K (6 * a + j))) 32 := Fx.ovr_all m3
  have m5 := m2.stp s2 (by omega)
  have b2 := s2.below b1 b1.size (by omega)
  refine Ln (sN (Wr (⟨.agg (Fx.varr 6 (Fx.rv .u64 (fun j => K (6 * a + j)))), rV Try.results14 ⟨_, rfl, Fx.run_loadV m4.cel (by kernel_rfl) (by kernel_rfl)⟩, ?_⟩)))
  exact ⟨congrArg (fun q => Ending.returned (Value.agg (Fx.varr 6 (Fx.rv .u64 q)))) (ofV_yes c9 ea), b2⟩
 rw [Bool.not_eq_true] at c9
 refine Fx.L.call (by rfl) (rC (args := [.int .i64 (n)]) rfl rfl Try.func35 rfl rfl) rfl ((g_region n _).mono ?_)
 rintro e v1 ⟨he, hv1⟩
 subst v1
 refine ⟨.bool false, by rw [he, c9], ?_⟩
 clear he
 refine Lv (.bool true) (Fx.x_notT rfl rfl) (Lv (.bool true) (x_pickF rfl rfl rfl) (Ln (sN (Wc (b := true) rfl (fun _ => Ws (Wl (Lv (.agg (Fx.varr 6 (Fx.rv .u64 (fun _ => 0)))) (Fx.x_buildArr (vs := []) (s := 1) (m := 6) (x := Fx.rv .u64 (fun _ => 0)) rfl rfl Try.underlying32 (by kernel_rfl) (by kernel_rfl) (by rfl)) ?_))) (fun h => nomatch h)))))
 refine Fx.L.storeA (x := Fx.rv .u64 (fun _ => 0)) (y := Fx.rv .u64 (fun _ => 0)) (by rfl) rfl rfl rfl rfl (fun _ _ => rfl) (by kernel_rfl) m1 (i := 0) (by omega) fun w3 m6 s3 z3 => ?_
 have m7 : Fx.Blk w3 g1 6 (Fx.rv .u64 (fun _ => 0)) 32 := Fx.ovr_all m6
 have m8 := m2.stp s3 (by omega)
 have b3 := s3.below b1 b1.size (by omega)
 refine Ln (sN (Wr (sR (⟨.agg (Fx.varr 6 (Fx.rv .u64 (fun _ => 0))), rV Try.results14 ⟨_, rfl, Fx.run_loadV m7.cel (by kernel_rfl) (by kernel_rfl)⟩, ?_⟩))))
 exact ⟨congrArg (fun q => Ending.returned (Value.agg (Fx.varr 6 (Fx.rv .u64 q)))) (ofV_no c9), b3⟩
set_option maxRecDepth 10000 in
theorem g_told (K v : Nat → Int) (gp : Nat) (n : Int) (w : World) (hp : Fx.Blk w gp 36 (Fx.rv .u64 K) 92) :
    Calls Try.prog 12 #[(pt gp), .int .i64 (n), .agg (Fx.varr 6 (Fx.rv .u64 v))] w fun e w' => e = .returned (.int .i64 (tE n)) ∧ Fx.Blk w' gp 36 (Fx.rv .u64 (toldK K n v)) 92 ∧ Fx.Stp gp w w' := by
 have lgp := hp.lt
 refine Fx.enter Try.func12 rfl (n := 30) rfl (by rfl) ?_
 refine Ws (Wl (Fx.L.box (m := 6) (y := Fx.rv .u64 v) (by rfl) rfl rfl (Fx.cells_agg _ _) rfl fun g1 w1 eg1 m1 s1 z1 => ?_))
 have m2 := hp.stp s1 hp.ne
 have b1 := (Fx.Stp.refl gp w).then s1 (.inr (Fx.Stp.refl gp w).size)
 have lg1 : w.heap.size ≤ g1 := by rw [eg1]; exact (Fx.Stp.refl gp w).size
 have ng1m2 : gp ≠ g1 := by rw [eg1]; exact Nat.ne_of_lt (hp.lt)
 have tg1 : g1 < w1.heap.size := m1.lt
 clear eg1
 refine Lv (.int .i64 (0)) (x_assign rfl rfl) (Ln (sN (Ws (Fx.W.block (Ws (Wl (Lv ((pt gp)) (x_move rfl rfl) (Lv (.bool false) (Fx.x_eqNil rfl rfl rfl (by kernel_rfl)) (Lv (.bool false) (x_assign rfl rfl) (Ln (sN (Wc (b := false) rfl (fun h => nomatch h) (fun _ => Ws (Wl (Lv (.int .i64 (n)) (x_move rfl rfl) ?_)))))))))))))))
 by_cases c12 : (regG n) = true
 ·refine Fx.L.call (by rfl) (rC (args := [.int .i64 (n)]) rfl rfl Try.func35 rfl rfl) rfl ((g_region n _).mono ?_)
  rintro e v1 ⟨he, hv1⟩
  subst v1
  refine ⟨.bool true, by rw [he, c12], ?_⟩
  clear he
  refine Lv (.bool false) (Fx.x_notF rfl rfl) (Lv (.bool false) (x_assign rfl rfl) (Ln (sN (Wc (b := false) rfl (fun h => nomatch h) (fun _ => Wk (Fx.blkN (sN (Ws ?_))))))))
  obtain ⟨a, ha, ea⟩ := regG_nat c12
  -- region 5 draws
  refine Fx.W.draws [11, 16] [(0, 1, [], [0]), (0, 1, [], [1]), (0, 1, [], [2]), (0, 0, [], [9, 8, 7, 6, 3]), (0, 0, [], [9, 8, 5, 4]), (0, 0, [], [9, 8, 5]), (0, 0, [], [9, 8, 7, 6]), (0, 0, [], [9, 8, 7]), (0, 0, [], [9, 8]), (0, 0, [], [9]), (0, 0, [], [10]), (0, 0, [], []), (1, 1, [11], [12]), (0, 1, [], [15, 14, 13]), (0, 1, [], [15, 14]), (1, 1, [11], [15]), (0, 0, [], [])] (fun r i => (#[(pt gp), .int .i64 (n), .int .i64 ((a : Int)), (pt gp), .int .i64 (n), .int .i64 ((a : Int)), (pt gp), (pt gp), (pf gp (6 * a)), .agg (Fx.varr 6 (Fx.rv .u64 (fun j => K (6 * a + j)))), .agg (Fx.varr 6 (Fx.rv .u64 v)), .slice (some ⟨(r 0).1, 0, none⟩) (2) (2), .agg (Fx.varr 6 (Fx.rv .u64 (fun p => mx6 ((fun j => K (6 * a + j)) p) (v p)))), (pt gp), (pt gp), (pf gp (6 * a)), undef] : Array Value).getD i undef) (fun k r v1 => match k with | 0 => Below w1.heap.size w1 v1 | 1 => Below w1.heap.size w1 v1 ∧ w1.heap.size ≤ (r 0).1 ∧ Fx.Blk v1 (r 0).1 12 (vx (V2 (fun j => K (6 * a + j)) v)) 32 | _ => Fx.Stp gp w1 v1 ∧ w1.heap.size ≤ (r 0).1 ∧ Fx.Blk v1 (r 0).1 12 (vx (V2 (fun j => K (6 * a + j)) v)) 32 ∧ Fx.Blk v1 gp 36 (Fx.rv .u64 (Fx.ovrI K (6 * a) 6 (fun p => mx6 ((fun j => K (6 * a + j)) p) (v p)))) 92) (by kernel_rfl) (by kernel_rfl) (by kernel_rfl) (by kernel_rfl) (by kernel_rfl) (by kernel_rfl) (by kernel_rfl) (fun v1 h1 _ => h1) ?_ ?_ ?_
  ·refine ⟨?_, ?_, ?_, ?_, ?_, ?_, ?_, ?_, ?_, ?_, ?_, ?_, ?_, ?_, ?_, ?_, ?_, trivial⟩
   ·refine .inr ⟨Fx.qokV (fun r => (pt gp)) (fun _ => by kernel_rfl) (fun _ => by kernel_rfl) (fun r k v1 h1 h2 hS => ?_), (fun _ _ _ _ => rfl)⟩
    exact x_move rfl (show Fx.ev _ (.tmp 0) = (pt gp) from by kernel_rfl)
   ·refine .inr ⟨Fx.qokV (fun r => .int .i64 (n)) (fun _ => by kernel_rfl) (fun _ => by kernel_rfl) (fun r k v1 h1 h2 hS => ?_), (fun _ _ _ _ => rfl)⟩
    exact x_move rfl (show Fx.ev _ (.tmp 1) = .int .i64 (n) from by kernel_rfl)
   ·refine .inr ⟨Fx.qokV (fun r => .int .i64 ((a : Int))) (fun _ => by kernel_rfl) (fun _ => by kernel_rfl) (fun r k v1 h1 h2 hS => ?_), (fun _ _ _ _ => rfl)⟩
    exact Fx.x_sub rfl (show Fx.ev _ (.tmp 15) = .int .i64 (n) from by kernel_rfl) (show Fx.ev _ (.const (.int .i64 (1))) = .int .i64 (1) from by kernel_rfl) Fx.io
   ·refine .inr ⟨Fx.qokV (fun r => (pt gp)) (fun _ => by kernel_rfl) (fun _ => by kernel_rfl) (fun r k v1 h1 h2 hS => ?_), (fun _ _ _ _ => rfl)⟩
    exact x_move rfl (show Fx.ev _ (.tmp 0) = (pt gp) from by kernel_rfl)
   ·refine .inr ⟨Fx.qokV (fun r => .int .i64 (n)) (fun _ => by kernel_rfl) (fun _ => by kernel_rfl) (fun r k v1 h1 h2 hS => ?_), (fun _ _ _ _ => rfl)⟩
    exact x_move rfl (show Fx.ev _ (.tmp 1) = .int .i64 (n) from by kernel_rfl)
   ·refine .inr ⟨Fx.qokV (fun r => .int .i64 ((a : Int))) (fun _ => by kernel_rfl) (fun _ => by kernel_rfl) (fun r k v1 h1 h2 hS => ?_), (fun _ _ _ _ => rfl)⟩
    exact Fx.x_sub rfl (show Fx.ev _ (.tmp 18) = .int .i64 (n) from by kernel_rfl) (show Fx.ev _ (.const (.int .i64 (1))) = .int .i64 (1) from by kernel_rfl) Fx.io
   ·refine .inr ⟨Fx.qokV (fun r => (pt gp)) (fun _ => by kernel_rfl) (fun _ => by kernel_rfl) (fun r k v1 h1 h2 hS => ?_), (fun _ _ _ _ => rfl)⟩
    exact x_nil rfl (show Fx.ev _ (.tmp 17) = (pt gp) from by kernel_rfl)
   ·refine .inr ⟨Fx.qokV (fun r => (pt gp)) (fun _ => by kernel_rfl) (fun _ => by kernel_rfl) (fun r k v1 h1 h2 hS => ?_), (fun _ _ _ _ => rfl)⟩
    exact x_field rfl (show Fx.ev _ (.tmp 20) = (pt gp) from by kernel_rfl) Try.underlying92 rfl (s := 36) (by kernel_rfl) rfl rfl
   ·refine .inr ⟨Fx.qokV (fun r => (pf gp (6 * a))) (fun _ => by kernel_rfl) (fun _ => by kernel_rfl) (fun r k v1 h1 h2 hS => ?_), (fun _ _ _ _ => rfl)⟩
    exact x_index rfl (show Fx.ev _ (.tmp 21) = (pt gp) from by kernel_rfl) (show Fx.ev _ (.tmp 19) = .int .i64 ((a : Int)) from by kernel_rfl) Try.underlying33 (s := 6) (by kernel_rfl) (by omega) (by omega) (by omega)
   ·refine .inr ⟨Fx.qokV (fun r => .agg (Fx.varr 6 (Fx.rv .u64 (fun j => K (6 * a + j))))) (fun _ => by kernel_rfl) (fun _ => by kernel_rfl) (fun r k v1 h1 h2 hS => ?_), (fun _ _ _ _ => rfl)⟩
    have h1 : 0 ≤ k := h1
    have h2 : k ≤ 0 := h2
    obtain rfl : k = 0 := by omega
    have hR := hS
    exact x_loadA (x := Fx.rv .u64 K) (y := Fx.rv .u64 (fun j => K (6 * a + j))) rfl (show Fx.ev _ (.tmp 22) = (pf gp (6 * a)) from by kernel_rfl) (by kernel_rfl) (by kernel_rfl) (m2.cel.below hR (by have := m2.lt; omega)) (i := 6 * a) (by omega) (by omega) (fun j _ => congrArg (fun qz => Fx.rv .u64 K qz) (by omega))
   ·refine .inr ⟨Fx.qokV (fun r => .agg (Fx.varr 6 (Fx.rv .u64 v))) (fun _ => by kernel_rfl) (fun _ => by kernel_rfl) (fun r k v1 h1 h2 hS => ?_), (fun _ _ _ _ => rfl)⟩
    have h1 : 0 ≤ k := h1
    have h2 : k ≤ 0 := h2
    obtain rfl : k = 0 := by omega
    have hR := hS
    exact x_loadA (x := Fx.rv .u64 v) (y := Fx.rv .u64 v) rfl (show Fx.ev _ (.tmp 5) = (pt g1) from by kernel_rfl) (by kernel_rfl) (by kernel_rfl) (m1.cel.below hR (by have := m1.lt; omega)) (i := 0) (by omega) (by omega) (fun j _ => by rw [Nat.zero_add])
   ·exact .inl rfl
   ·refine .inr ⟨Fx.qokC (fun r => .agg (Fx.varr 6 (Fx.rv .u64 (fun p => mx6 ((fun j => K (6 * a + j)) p) (v p))))) 36 (fun r => #[.slice (some ⟨(r 0).1, 0, none⟩) (2) (2)]) (fun _ => by kernel_rfl) (fun _ => by kernel_rfl) (fun r k v1 v2 h1 h2 hS hb => ?_) (fun r k v1 _ _ _ => rC (args := [.slice (some ⟨(r 0).1, 0, none⟩) (2) (2)]) rfl (Fx.args1 (show Fx.ev _ (.tmp 25) = .slice (some ⟨(r 0).1, 0, none⟩) (2) (2) from by kernel_rfl)) Try.func36 rfl rfl) (fun r k v1 h1 h2 hS => ?_), (fun _ _ _ _ => rfl)⟩
    ·skip
     have h1 : 1 ≤ k := h1
     have h2 : k ≤ 1 := h2
     obtain rfl : k = 1 := by omega
     obtain ⟨hR, lF0, F0⟩ := hS
     exact ⟨bch hR hb, lF0, F0.stp (Sb hb) (Nat.ne_of_lt F0.lt)⟩
    skip
    have h1 : 1 ≤ k := h1
    have h2 : k ≤ 1 := h2
    obtain rfl : k = 1 := by omega
    obtain ⟨hR, lF0, F0⟩ := hS
    exact (g_join (some ⟨(r 0).1, 0, none⟩) 2 2 (V2 (fun j => K (6 * a + j)) v) _ (by omega) (fun _ => ⟨Nat.le_refl _, (r 0).1, 0, rfl, F0.cel⟩)).mono fun e v2 h => ⟨h.1, h.2⟩
   ·refine .inr ⟨Fx.qokV (fun r => (pt gp)) (fun _ => by kernel_rfl) (fun _ => by kernel_rfl) (fun r k v1 h1 h2 hS => ?_), (fun _ _ _ _ => rfl)⟩
    exact x_nil rfl (show Fx.ev _ (.tmp 14) = (pt gp) from by kernel_rfl)
   ·refine .inr ⟨Fx.qokV (fun r => (pt gp)) (fun _ => by kernel_rfl) (fun _ => by kernel_rfl) (fun r k v1 h1 h2 hS => ?_), (fun _ _ _ _ => rfl)⟩
    exact x_field rfl (show Fx.ev _ (.tmp 27) = (pt gp) from by kernel_rfl) Try.underlying92 rfl (s := 36) (by kernel_rfl) rfl rfl
   ·refine .inr ⟨Fx.qokV (fun r => (pf gp (6 * a))) (fun _ => by kernel_rfl) (fun _ => by kernel_rfl) (fun r k v1 h1 h2 hS => ?_), (fun _ _ _ _ => rfl)⟩
    exact x_index rfl (show Fx.ev _ (.tmp 28) = (pt gp) from by kernel_rfl) (show Fx.ev _ (.tmp 16) = .int .i64 ((a : Int)) from by kernel_rfl) Try.underlying33 (s := 6) (by kernel_rfl) (by omega) (by omega) (by omega)
   exact .inl rfl
  ·refine ⟨⟨?_, (fun k r p h => congrArg (fun g : Nat × Nat => (.slice (some ⟨g.1, 0, none⟩) (2) (2) : Value)) (Fx.updr_ne (r := r) (k := k) (p := p) (j := 0) (by have h2 : 1 ≤ k := h; omega)))⟩, ⟨?_, (fun _ _ _ _ => rfl)⟩, trivial⟩
   ·refine Fx.eokV (fun p => .slice (some ⟨p.1, 0, none⟩) (2) (2)) (fun _ _ h => nomatch h) (fun _ _ => by kernel_rfl) (fun r v1 hS => ?_)
    have hR := hS
    refine ⟨(v1.heap.size, 0), Fx.bindE (Fx.e_bslice (len := 2) (vs := [(0, .agg (Fx.varr 6 (Fx.rv .u64 (fun j => K (6 * a + j))))), (1, .agg (Fx.varr 6 (Fx.rv .u64 v)))]) (s := 6) (zc := Fx.rv .u64 (fun _ => 0)) (y := Fx.ovr (Fx.ovr (fun j => (Fx.rv .u64 (fun _ => 0)) (j % 6)) (0 * 6) 6 (Fx.rv .u64 (fun j => K (6 * a + j)))) (1 * 6) 6 (Fx.rv .u64 v)) rfl (Fx.parts2 (show Fx.ev _ (.tmp 23) = .agg (Fx.varr 6 (Fx.rv .u64 (fun j => K (6 * a + j)))) from by kernel_rfl) (show Fx.ev _ (.tmp 24) = .agg (Fx.varr 6 (Fx.rv .u64 v)) from by kernel_rfl)) Try.underlying107 (by kernel_rfl) (by rfl) (by rfl) (by kernel_rfl) (by rw [Fx.fill_step (off := 0 * 6) (s := 6) (y := Fx.rv .u64 (fun j => K (6 * a + j))) rfl (Fx.cells_agg _ _) (by rfl)]; rw [Fx.fill_step (off := 1 * 6) (s := 6) (y := Fx.rv .u64 v) rfl (Fx.cells_agg _ _) (by rfl)]; rfl)) fun v2 hb hs => ?_⟩
    exact ⟨bch hR hs.old, hR.size, (hb.to (V2_eq (fun j => K (6 * a + j)) v))⟩
   refine Fx.eokU (fun _ _ h => nomatch h) rfl (fun r v1 hS => ?_)
   obtain ⟨hR, lF0, F0⟩ := hS
   refine Fx.bindU (Fx.e_stA (x := Fx.rv .u64 K) (y := Fx.rv .u64 (fun p => mx6 ((fun j => K (6 * a + j)) p) (v p))) rfl (show Fx.ev _ (.tmp 29) = (pf gp (6 * a)) from by kernel_rfl) (show Fx.ev _ (.tmp 26) = .agg (Fx.varr 6 (Fx.rv .u64 (fun p => mx6 ((fun j => K (6 * a + j)) p) (v p)))) from by kernel_rfl) (fun _ _ => rfl) (by kernel_rfl) (m2.stp (Sb hR) (Nat.ne_of_lt m2.lt)) (i := 6 * a) (by omega)) fun v2 hb hs => ?_
   have hb := hb.to (Fx.ovr_rv _ _ _ _ _)
   exact ⟨Fx.Stp.after_below hR hs, lF0, F0.stp hs (fun e => by have := m2.lt; omega), hb⟩
  rintro r1 w2 f1 hf1 hS
  obtain ⟨hR, lF0, F0, F1⟩ := hS
  obtain ⟨g2, eg2⟩ : ∃ g, g = (r1 0).1 := ⟨_, rfl⟩
  rw [← eg2] at lF0 F0
  have s2 : Fx.Stp gp w1 w2 := hR
  have m3 : Fx.Blk w2 g1 6 (Fx.rv .u64 v) 32 := m1.stp s2 (by omega)
  have m4 : Fx.Blk w2 g2 12 (vx (V2 (fun j => K (6 * a + j)) v)) 32 := F0
  have ng2m3 : g1 ≠ g2 := Nat.ne_of_lt (Nat.lt_of_lt_of_le (m1.lt) lF0)
  have tg2 : g2 < w2.heap.size := m4.lt
  have m5 : Fx.Blk w2 gp 36 (Fx.rv .u64 (Fx.ovrI K (6 * a) 6 (fun p => mx6 ((fun j => K (6 * a + j)) p) (v p)))) 92 := F1
  have b2 : Fx.Stp gp w w2 := b1.then s2 (by omega)
  have lg2 : w.heap.size ≤ g2 := Nat.le_trans b1.size lF0
  have q1 : f1 6 = .int .i64 (0) := by rw [hf1]; kernel_rfl
  clear hf1 hR
  refine sN (Ws (Wl (Lv (.int .i64 (0)) (x_assign rfl rfl) (Ln (sN (Wr (⟨.int .i64 (0), rV Try.results12 (by exact rfl), ?_⟩)))))))
  exact ⟨congrArg (fun q => Ending.returned (Value.int .i64 q)) (by unfold tE; rw [if_pos c12]), m5.to (congrArg (Fx.rv .u64) (toldK_yes c12 ea)), b2⟩
 rw [Bool.not_eq_true] at c12
 refine Fx.L.call (by rfl) (rC (args := [.int .i64 (n)]) rfl rfl Try.func35 rfl rfl) rfl ((g_region n _).mono ?_)
 rintro e v1 ⟨he, hv1⟩
 subst v1
 refine ⟨.bool false, by rw [he, c12], ?_⟩
 clear he
 refine Lv (.bool true) (Fx.x_notT rfl rfl) (Lv (.bool true) (x_assign rfl rfl) (Ln (sN (Wc (b := true) rfl (fun _ => Ws (Wl (Lv (.int .i64 (10)) (x_assign rfl rfl) ?_))) (fun h => nomatch h)))))
 refine Ln (sN (Wr (Fx.blkR (sR (⟨.int .i64 (10), rV Try.results12 (by exact rfl), ?_⟩)))))
 exact ⟨congrArg (fun q => Ending.returned (Value.int .i64 q)) (by unfold tE; rw [if_neg (by rw [c12]; decide)]), m2.to (congrArg (Fx.rv .u64) (toldK_no c12)), b1⟩
namespace Rt
theorem kd6 {y : Nat → Value} (a : Nat → Int) (e : ∀ i, i < 6 → y i = .int .u64 (a i)) (h : ∀ i, i < 6 → 0 ≤ a i ∧ a i ≤ 18446744073709551615) : Fx.Kd (List.replicate 6 (some .u64)) y := fun i hi => by
  have hi' : i < 6 := by simpa using hi
  have := Fx.kd_rv (k := .u64) (n := 6) (x := a) (fun j hj => Fx.wfu64 (h j hj)) i hi
  rw [e i hi']; exact this
def W2 (x y : Int) : Nat → Int
  | 0 => x
  | _ => y
end Rt
theorem g_least (K X : Nat → Int) (gp : Nat) (sa : Option Addr) (n cap : Nat) (w : World) (hn : n ≤ 1000) (hS : Its w sa n X) (hp : Fx.Blk w gp 36 (Fx.rv .u64 K) 92) :
    Calls Try.prog 21 #[(pt gp), .slice sa (n) (cap)] w fun e w' => e = .returned (.agg (Fx.varr 6 (Fx.rv .u64 (leastV K X n)))) ∧ Below w.heap.size w w' := by
 have lgp := hp.lt
 refine Fx.enter Try.func21 rfl (n := 23) rfl (by rfl) ?_
 refine Ws (Wl (Fx.L.new (m := 6) (y := Fx.rv .u64 (fun _ => 0)) (by rfl) rfl (by kernel_rfl) rfl fun g1 w1 eg1 m1 s1 z1 => ?_))
 have m2 := hp.stp s1 hp.ne
 have b1 := s1.below (Below.refl w.heap.size w) (Below.refl w.heap.size w).size (Below.refl w.heap.size w).size
 have lg1 : w.heap.size ≤ g1 := by rw [eg1]; exact (Below.refl w.heap.size w).size
 have ng1m2 : gp ≠ g1 := by rw [eg1]; exact Nat.ne_of_lt (hp.lt)
 have tg1 : g1 < w1.heap.size := m1.lt
 clear eg1
 refine Ln (sN (Ws (Wl (Lv (.slice none 0 0) (x_assign rfl rfl) (Ln (sN (Ws (Ws (Wl (Lv (.slice sa (n) (cap)) (x_move rfl rfl) (Lv (.int .i64 ((n : Int))) (x_len rfl rfl rfl (by kernel_rfl)) (Lv (.int .i64 (0)) (x_move rfl rfl) (Ln (sN (Fx.W.block ?_)))))))))))))))
 have m3 : Fx.Own w1 (g1 + 1) 32 6 (.slice none 0 0) 0 (vx (fun i => ofV K (X i))) := Fx.Own.nil _ _ _ _ _
 refine Fx.W.loop (fun f w_ => ∃ k : Nat, ∃ v : Value, k ≤ n ∧ f 0 = (pt gp) ∧ f 4 = (pt g1) ∧ f 5 = v ∧ f 8 = .slice sa (n) (cap) ∧ f 9 = .int .i64 ((n : Int)) ∧ f 10 = .int .i64 ((k : Int)) ∧ Fx.Blk w_ gp 36 (Fx.rv .u64 K) 92 ∧ Fx.Blk w_ g1 6 (Fx.rv .u64 (fun _ => 0)) 32 ∧ Fx.Own w_ (g1 + 1) 32 6 v k (vx (fun i => ofV K (X i))) ∧ Below w.heap.size w w_) (fun f _ => (n - (intOf (f 10)).toNat)) ⟨0, (.slice none 0 0), by omega, (by rfl), (by rfl), (by rfl), (by rfl), Fx.ic, Fx.ic, m2, m1, m3, b1⟩ ?_
 rintro f1 w2 ⟨k, v, hk, h1, h2, h3, h4, h5, h6, m4, m5, m6, b2⟩
 refine Ws (Wl ?_)
 by_cases c11 : (k : Int) < (n : Int)
 ·refine Lv (.bool true) (Fx.x_lssT rfl h6 h5 c11) (Ln (sN (Ws (Wc (b := true) rfl (fun _ => Wk (sN (Ws (Fx.W.block (Ws ?_))))) (fun h => nomatch h)))))
  obtain ⟨b, off, ea, hc⟩ := hS (by omega)
  have lb : b < w.heap.size := hc.lt (by omega)
  have m7 := hc.below b2 lb
  refine Wl (Lv ((pf b (k + off))) (x_indexS rfl (h4.trans (congrArg (fun q => Value.slice q (n) (cap)) ea)) h6 Try.underlying23 (s := 1) (by kernel_rfl) (by omega) (by omega) (by omega)) (Lv (.int .i64 (X k)) (x_load1 (x := Fx.rv .i64 X) rfl rfl (by kernel_rfl) m7 (i := k) (by omega) (by omega) rfl) (Lv (.int .i64 (X k)) (x_assign rfl rfl) (Ln (sN (Wl (Lv (v) (x_move rfl h3) (Lv ((pt gp)) (x_move rfl h1) (Lv (.int .i64 (X k)) (x_move rfl rfl) (Fx.L.call (by rfl) (rC (args := [(pt gp), .int .i64 (X k)]) rfl rfl Try.func14 rfl rfl) rfl ((g_of K gp (X k) _ m4).mono ?_)))))))))))
  rintro e w3 ⟨he, hb1⟩
  refine ⟨.agg (Fx.varr 6 (Fx.rv .u64 (ofV K (X k)))), by rw [he], ?_⟩
  clear he
  have s2 := Sb hb1
  have m8 := m4.stp s2 m4.ne
  have m9 := m5.stp s2 m5.ne
  have m10 := m6.stp s2 (m6.notNew (Nat.le_refl _))
  have m11 := m7.stp s2 (Nat.ne_of_lt (m7.lt (by omega)))
  have b3 := s2.below b2 b2.size b2.size
  refine Fx.L.bslice (vs := [(0, .agg (Fx.varr 6 (Fx.rv .u64 (ofV K (X k)))))]) (s := 6) (zc := Fx.rv .u64 (fun _ => 0)) (y := Fx.ovr (fun j => (Fx.rv .u64 (fun _ => 0)) (j % 6)) (0 * 6) 6 (Fx.rv .u64 (ofV K (X k)))) (by rfl) rfl rfl Try.underlying107 (by kernel_rfl) (by rfl) (by rfl) (by kernel_rfl) (by rw [Fx.fill_step (off := 0 * 6) (s := 6) (y := Fx.rv .u64 (ofV K (X k))) rfl (Fx.cells_agg _ _) (by rfl)]; rfl) rfl fun g2 w4 eg2 m12 s3 z2 => ?_
  have m13 := m8.stp s3 m8.ne
  have m14 := m9.stp s3 m9.ne
  have m15 := m10.stp s3 (m10.notNew (Nat.le_refl _))
  have b4 := s3.below b3 b3.size b3.size
  have lg2 : w.heap.size ≤ g2 := by rw [eg2]; exact b3.size
  have ng2m13 : gp ≠ g2 := by rw [eg2]; exact Nat.ne_of_lt (m8.lt)
  have ng2m14 : g1 ≠ g2 := by rw [eg2]; exact Nat.ne_of_lt (m9.lt)
  have ng2m15 : (v : Value).ownBlock ≠ some g2 := by rw [eg2]; exact m10.notNew (Nat.le_refl _)
  have ng2m16 : b ≠ g2 := by rw [eg2]; exact Nat.ne_of_lt (m11.lt (by omega))
  have tg2 : g2 < w4.heap.size := m12.lt
  clear eg2
  have m17 : Fx.Blk w4 g2 6 (Fx.rv .u64 (Fx.ovrI (fun _ => 0) (0 * 6) 6 (ofV K (X k)))) 32 := m12.to (Fx.ovr_rv .u64 (fun _ => 0) (0 * 6) 6 _)
  refine Fx.L.app (B := g1 + 1) (s := 6) (bytes := 48) (k := k) (m := 1) (by rfl) rfl rfl rfl Try.underlying107 (by kernel_rfl) (by kernel_rfl) rfl rfl m15 m17.cel (fun _ _ => rfl) (by omega) (by omega) (by omega) (by omega) fun g3 cap1 w5 ho1 hg1 hgv1 hlt1 => ?_
  have m19 : Fx.Blk w5 gp 36 (Fx.rv .u64 K) 92 := m13.grown hg1 (m15.not (by omega))
  have m20 : Fx.Blk w5 g1 6 (Fx.rv .u64 (fun _ => 0)) 32 := m14.grown hg1 (m15.not (by omega))
  have m18 : Fx.Own w5 (g1 + 1) 32 6 (.slice (some ⟨g3, 0, none⟩) (k + 1) cap1) (k + 1) (vx (fun i => ofV K (X i))) := ho1.congr (own_step (fun i => ofV K (X i)) k _ rfl)
  have b5 : Below w.heap.size w w5 := Fx.Below.grow b4 hg1 b4.size (fun q hq => by have := (m15.ge hq).1; omega)
  refine Lv (.slice (some ⟨g3, 0, none⟩) (k + 1) (cap1)) (x_assign rfl rfl) (Ln (Fx.blkN (sN (Wl (Lv (.int .i64 ((k : Int) + 1)) (Fx.x_add rfl h6 rfl Fx.io) (Lv (.int .i64 ((k : Int) + 1)) (x_move rfl rfl) (Ln (Fx.lpN ⟨k + 1, (.slice (some ⟨g3, 0, none⟩) (k + 1) (cap1)), by omega, h1, h2, (by rfl), h4, (h5.trans Fx.ic), Fx.ic, m19, m20, m18, b5⟩ ?_))))))))
  show (n - (intOf ((.int .i64 ((k : Int) + 1)))).toNat) < _
  simp only [h6, intOf]; omega
 refine Lv (.bool false) (Fx.x_lssF rfl h6 h5 c11) (Ln (sN (Ws (Wc (b := false) rfl (fun h => nomatch h) (fun _ => Fx.W.exit (Fx.seqX (Fx.lpX (Fx.blkX (sN (Ws (Wl (Lv (v) (x_move rfl h3) (Fx.L.call (by rfl) (rC (args := [v]) rfl rfl Try.func48 rfl rfl) rfl ((g_meet_own (by omega) m6).mono ?_))))))))))))))
 rintro e w6 ⟨he, hb2⟩
 refine ⟨.agg (Fx.varr 6 (Fx.rv .u64 (foldV mn6 (fun i => ofV K (X i)) k))), by rw [he], ?_⟩
 clear he
 have s4 := Sb hb2
 have m22 := m4.stp s4 m4.ne
 have m23 := m5.stp s4 m5.ne
 have b6 := s4.below b2 b2.size b2.size
 refine Fx.L.storeA (x := Fx.rv .u64 (fun _ => 0)) (y := Fx.rv .u64 (foldV mn6 (fun i => ofV K (X i)) k)) (by rfl) rfl rfl h2 rfl (fun _ _ => rfl) (by kernel_rfl) m23 (i := 0) (by omega) fun w7 m25 s5 z3 => ?_
 have m26 : Fx.Blk w7 g1 6 (Fx.rv .u64 (foldV mn6 (fun i => ofV K (X i)) k)) 32 := Fx.ovr_all m25
 have m27 := m22.stp s5 (by omega)
 have b7 := s5.below b6 b6.size (by omega)
 refine Ln (sN (Wr (⟨.agg (Fx.varr 6 (Fx.rv .u64 (foldV mn6 (fun i => ofV K (X i)) k))), rV Try.results21 ⟨_, h2, Fx.run_loadV m26.cel (by kernel_rfl) (by kernel_rfl)⟩, ?_⟩)))
 have ek : k = n := by omega
 exact ⟨by rw [ek]; rfl, b7⟩
namespace Rt
def W6 (x y : Int) : Nat → Int
  | 0 => x
  | 1 => y
  | _ => 0
theorem w6_eq (x y : Int) : Fx.varr 6 (Fx.ovr (Fx.ovr (Fx.rv .u64 (fun _ => 0)) 0 1 (fun _ => .int .u64 (x))) 1 1 (fun _ => .int .u64 (y))) = Fx.varr 6 (Fx.rv .u64 (W6 x y)) := Fx.varr_congr (by intro i hi; rcases i with _|_|_|_|_|_|i <;> first | rfl | omega)
theorem told_w6 (K : Nat → Int) (x y : Int) (gp : Nat) (n : Int) (w : World) (hp : Fx.Blk w gp 36 (Fx.rv .u64 K) 92) :
    Calls Try.prog 12 #[(pt gp), .int .i64 n, .agg (Fx.varr 6 (Fx.ovr (Fx.ovr (Fx.rv .u64 (fun _ => 0)) 0 1 (fun _ => .int .u64 (x))) 1 1 (fun _ => .int .u64 (y))))] w fun e w' => e = .returned (.int .i64 (tE n)) ∧ Fx.Blk w' gp 36 (Fx.rv .u64 (toldK K n (W6 x y))) 92 ∧ Fx.Stp gp w w' := by
  rw [w6_eq]; exact g_told K (W6 x y) gp n w hp
def KW : Nat → Int := toldK (toldK (toldK (fun _ => 0) 2 (W6 3 1)) 2 (W6 1 4)) 0 (fun _ => 0)
theorem of_kw2 : ∀ i, i < 6 → Fx.rv .u64 (ofV KW 2) i = (Fx.ovr (Fx.ovr (Fx.rv .u64 (fun _ => 0)) 0 1 (fun _ => .int .u64 (3))) 1 1 (fun _ => .int .u64 (4))) i := by intro i hi; rcases i with _|_|_|_|_|_|i <;> first | rfl | omega
theorem least_kw2 : ∀ i, i < 6 → Fx.rv .u64 (leastV KW (W2 2 3) 2) i = Fx.rv .u64 (fun _ => 0) i := by intro i hi; rcases i with _|_|_|_|_|_|i <;> first | rfl | omega
theorem least_kw1 : ∀ i, i < 6 → Fx.rv .u64 (leastV KW (fun _ => 2) 1) i = (Fx.ovr (Fx.ovr (Fx.rv .u64 (fun _ => 0)) 0 1 (fun _ => .int .u64 (3))) 1 1 (fun _ => .int .u64 (4))) i := by intro i hi; rcases i with _|_|_|_|_|_|i <;> first | rfl | omega
theorem w2_eq (x y : Int) : ∀ j, j < 2 → (Fx.ovr (Fx.ovr (fun j => Fx.rv .i64 (fun _ => 0) (j % 1)) (0 * 1) 1 (fun _ => .int .i64 (x))) (1 * 1) 1 (fun _ => .int .i64 (y))) j = Fx.rv .i64 (W2 x y) j := by intro i hi; rcases i with _|_|i <;> first | rfl | omega
theorem w1_eq (x : Int) : ∀ j, j < 1 → (Fx.ovr (fun j => Fx.rv .i64 (fun _ => 0) (j % 1)) (0 * 1) 1 (fun _ => .int .i64 (x))) j = Fx.rv .i64 (fun _ => x) j := by intro i hi; rcases i with _|i <;> first | rfl | omega
end Rt
set_option maxRecDepth 10000 in
theorem works17_any (w : World) :
    Calls Try.prog 10 #[] w fun e w' => e = .returned (.bool true) ∧ Below w.heap.size w w' := by
 refine Fx.enter Try.func10 rfl (n := 45) rfl (by rfl) ?_
 refine Ws (Wl (Lv (.bool false) (x_assign rfl rfl) (Ln (sN (Ws (Wl (Fx.L.call (by rfl) (rC (args := []) rfl rfl Try.func11 rfl rfl) rfl ((g_new _).mono ?_))))))))
 rintro e w1 ⟨g1, he, l0g1, m1, hb1⟩
 refine ⟨(pt g1), he, ?_⟩
 clear he
 have s1 := Sb hb1
 have b1 := s1.below (Below.refl w.heap.size w) (Below.refl w.heap.size w).size (Below.refl w.heap.size w).size
 have lg1 : w.heap.size ≤ g1 := Nat.le_trans (Below.refl w.heap.size w).size l0g1
 have tg1 : g1 < w1.heap.size := m1.lt
 refine Lv ((pt g1)) (x_assign rfl rfl) (Ln (sN (Ws (Wl (Lv ((pt g1)) (x_move rfl rfl) (Lv (.agg (Fx.varr 6 (Fx.ovr (Fx.ovr (Fx.rv .u64 (fun _ => 0)) 0 1 (fun _ => .int .u64 (3))) 1 1 (fun _ => .int .u64 (1))))) (Fx.x_buildArr (vs := [(0, .int .u64 (3)), (1, .int .u64 (1))]) (s := 1) (m := 6) (x := Fx.rv .u64 (fun _ => 0)) rfl rfl Try.underlying32 (by kernel_rfl) (by kernel_rfl) (by rw [Fx.fill_step (off := 0) (s := 1) (y := fun _ => .int .u64 (3)) (by kernel_rfl) (Fx.cells_one (by rfl)) (by rfl)]; rw [Fx.fill_step (off := 1) (s := 1) (y := fun _ => .int .u64 (1)) (by kernel_rfl) (Fx.cells_one (by rfl)) (by rfl)]; rfl)) (Fx.L.call (by rfl) (rC (args := [(pt g1), .int .i64 (2), .agg (Fx.varr 6 (Fx.ovr (Fx.ovr (Fx.rv .u64 (fun _ => 0)) 0 1 (fun _ => .int .u64 (3))) 1 1 (fun _ => .int .u64 (1))))]) rfl rfl Try.func12 rfl rfl) rfl ((told_w6 (fun _ => 0) 3 1 g1 2 _ m1).mono ?_))))))))
 rintro e w2 ⟨he, m2, s2⟩
 refine ⟨.int .i64 (tE 2), he, ?_⟩
 clear he
 have b2 := s2.below b1 b1.size (by omega)
 refine Lv (.int .i64 (tE 2)) (x_assign rfl rfl) (Ln (sN (Ws (Wl (Lv ((pt g1)) (x_move rfl rfl) (Lv (.agg (Fx.varr 6 (Fx.ovr (Fx.ovr (Fx.rv .u64 (fun _ => 0)) 0 1 (fun _ => .int .u64 (1))) 1 1 (fun _ => .int .u64 (4))))) (Fx.x_buildArr (vs := [(0, .int .u64 (1)), (1, .int .u64 (4))]) (s := 1) (m := 6) (x := Fx.rv .u64 (fun _ => 0)) rfl rfl Try.underlying32 (by kernel_rfl) (by kernel_rfl) (by rw [Fx.fill_step (off := 0) (s := 1) (y := fun _ => .int .u64 (1)) (by kernel_rfl) (Fx.cells_one (by rfl)) (by rfl)]; rw [Fx.fill_step (off := 1) (s := 1) (y := fun _ => .int .u64 (4)) (by kernel_rfl) (Fx.cells_one (by rfl)) (by rfl)]; rfl)) (Fx.L.call (by rfl) (rC (args := [(pt g1), .int .i64 (2), .agg (Fx.varr 6 (Fx.ovr (Fx.ovr (Fx.rv .u64 (fun _ => 0)) 0 1 (fun _ => .int .u64 (1))) 1 1 (fun _ => .int .u64 (4))))]) rfl rfl Try.func12 rfl rfl) rfl ((told_w6 (toldK (fun _ => 0) 2 (W6 3 1)) 1 4 g1 2 _ m2).mono ?_))))))))
 rintro e w3 ⟨he, m3, s3⟩
 refine ⟨.int .i64 (tE 2), he, ?_⟩
 clear he
 have b3 := s3.below b2 b2.size (by omega)
 refine Lv (.int .i64 (tE 2)) (x_assign rfl rfl) (Ln (sN (Ws (Wl (Lv ((pt g1)) (x_move rfl rfl) (Lv (.agg (Fx.varr 6 (Fx.rv .u64 (fun _ => 0)))) (Fx.x_buildArr (vs := []) (s := 1) (m := 6) (x := Fx.rv .u64 (fun _ => 0)) rfl rfl Try.underlying32 (by kernel_rfl) (by kernel_rfl) (by rfl)) (Fx.L.call (by rfl) (rC (args := [(pt g1), .int .i64 (0), .agg (Fx.varr 6 (Fx.rv .u64 (fun _ => 0)))]) rfl rfl Try.func12 rfl rfl) rfl ((g_told (toldK (toldK (fun _ => 0) 2 (W6 3 1)) 2 (W6 1 4)) (fun _ => 0) g1 0 _ m3).mono ?_))))))))
 rintro e w4 ⟨he, m4, s4⟩
 refine ⟨.int .i64 (tE 0), he, ?_⟩
 clear he
 have b4 := s4.below b3 b3.size (by omega)
 refine Lv (.int .i64 (tE 0)) (x_assign rfl rfl) (Ln (sN (Ws (Wl (Lv (.int .i64 (tE 2)) (x_move rfl rfl) (Lv (.bool true) (x_eqlT rfl rfl rfl (by rfl)) (Lv (.bool true) (x_move rfl rfl) (Lv (.int .i64 (tE 2)) (x_move rfl rfl) (Lv (.bool true) (x_eqlT rfl rfl rfl (by rfl)) (Lv (.bool true) (x_pickT rfl rfl rfl) (Lv (.bool true) (x_move rfl rfl) (Lv (.int .i64 (tE 0)) (x_move rfl rfl) (Lv (.bool true) (x_eqlT rfl rfl rfl (by rfl)) (Lv (.bool true) (x_pickT rfl rfl rfl) (Lv (.bool true) (x_move rfl rfl) (Lv ((pt g1)) (x_move rfl rfl) (Fx.L.call (by rfl) (rC (args := [(pt g1), .int .i64 (2)]) rfl rfl Try.func14 rfl rfl) rfl ((g_of KW g1 2 _ m4).mono ?_))))))))))))))))))
 rintro e w5 ⟨he, hb2⟩
 refine ⟨.agg (Fx.varr 6 (Fx.rv .u64 (ofV KW 2))), by rw [he], ?_⟩
 clear he
 have s5 := Sb hb2
 have m5 := m4.stp s5 m4.ne
 have b5 := s5.below b4 b4.size b4.size
 refine Lv (.agg (Fx.varr 6 (Fx.ovr (Fx.ovr (Fx.rv .u64 (fun _ => 0)) 0 1 (fun _ => .int .u64 (3))) 1 1 (fun _ => .int .u64 (4))))) (Fx.x_buildArr (vs := [(0, .int .u64 (3)), (1, .int .u64 (4))]) (s := 1) (m := 6) (x := Fx.rv .u64 (fun _ => 0)) rfl rfl Try.underlying32 (by kernel_rfl) (by kernel_rfl) (by rw [Fx.fill_step (off := 0) (s := 1) (y := fun _ => .int .u64 (3)) (by kernel_rfl) (Fx.cells_one (by rfl)) (by rfl)]; rw [Fx.fill_step (off := 1) (s := 1) (y := fun _ => .int .u64 (4)) (by kernel_rfl) (Fx.cells_one (by rfl)) (by rfl)]; rfl)) (Lv (.bool true) (Fx.x_eqlA (n := 6) (ks := List.replicate 6 (some .u64)) (X := Fx.rv .u64 (ofV KW 2)) (Y := Fx.ovr (Fx.ovr (Fx.rv .u64 (fun _ => 0)) 0 1 (fun _ => .int .u64 (3))) 1 1 (fun _ => .int .u64 (4))) 12 true rfl rfl rfl (Fx.yesb of_kw2) (kd6 (fun i => intOf ((Fx.rv .u64 (ofV KW 2)) i)) (by intro i hi; rcases i with _|_|_|_|_|_|i <;> first | rfl | omega) (by decide)) (kd6 (fun i => intOf ((Fx.ovr (Fx.ovr (Fx.rv .u64 (fun _ => 0)) 0 1 (fun _ => .int .u64 (3))) 1 1 (fun _ => .int .u64 (4))) i)) (by intro i hi; rcases i with _|_|_|_|_|_|i <;> first | rfl | omega) (by decide)) rfl (by kernel_rfl) (by kernel_rfl) (by kernel_rfl) (by kernel_rfl) (by kernel_rfl)) (Lv (.bool true) (x_pickT rfl rfl rfl) (Lv (.bool true) (x_move rfl rfl) (Lv ((pt g1)) (x_move rfl rfl) (Fx.L.bslice (vs := [(0, .int .i64 (2)), (1, .int .i64 (3))]) (s := 1) (zc := Fx.rv .i64 (fun _ => 0)) (y := Fx.ovr (Fx.ovr (fun j => (Fx.rv .i64 (fun _ => 0)) (j % 1)) (0 * 1) 1 (fun _ => .int .i64 (2))) (1 * 1) 1 (fun _ => .int .i64 (3))) (by rfl) rfl rfl Try.underlying23 (by kernel_rfl) (by rfl) (by rfl) (by kernel_rfl) (by rw [Fx.fill_step (off := 0 * 1) (s := 1) (y := fun _ => .int .i64 (2)) rfl (Fx.cells_one (by rfl)) (by rfl)]; rw [Fx.fill_step (off := 1 * 1) (s := 1) (y := fun _ => .int .i64 (3)) rfl (Fx.cells_one (by rfl)) (by rfl)]; rfl) rfl fun g2 w6 eg2 m6 s6 z1 => ?_)))))
 have m7 := m5.stp s6 m5.ne
 have b6 := s6.below b5 b5.size b5.size
 have lg2 : w.heap.size ≤ g2 := by rw [eg2]; exact b5.size
 have ng2m7 : g1 ≠ g2 := by rw [eg2]; exact Nat.ne_of_lt (m5.lt)
 have tg2 : g2 < w6.heap.size := m6.lt
 clear eg2
 refine Fx.L.call (by rfl) (rC (args := [(pt g1), .slice (some ⟨g2, 0, none⟩) (2) (2)]) rfl rfl Try.func21 rfl rfl) rfl ((g_least KW (W2 2 3) g1 (some ⟨g2, 0, none⟩) 2 2 _ (by omega) (fun _ => ⟨g2, 0, rfl, (m6.congr (w2_eq 2 3)).cel⟩) m7).mono ?_)
 rintro e w7 ⟨he, hb3⟩
 refine ⟨.agg (Fx.varr 6 (Fx.rv .u64 (leastV KW (W2 2 3) 2))), by rw [he], ?_⟩
 clear he
 have s7 := Sb hb3
 have m8 := m7.stp s7 m7.ne
 have m9 := m6.stp s7 m6.ne
 have b7 := s7.below b6 b6.size b6.size
 refine Lv (.agg (Fx.varr 6 (Fx.rv .u64 (fun _ => 0)))) (Fx.x_buildArr (vs := []) (s := 1) (m := 6) (x := Fx.rv .u64 (fun _ => 0)) rfl rfl Try.underlying32 (by kernel_rfl) (by kernel_rfl) (by rfl)) (Lv (.bool true) (Fx.x_eqlA (n := 6) (ks := List.replicate 6 (some .u64)) (X := Fx.rv .u64 (leastV KW (W2 2 3) 2)) (Y := Fx.rv .u64 (fun _ => 0)) 12 true rfl rfl rfl (Fx.yesb least_kw2) (kd6 (fun i => intOf ((Fx.rv .u64 (leastV KW (W2 2 3) 2)) i)) (by intro i hi; rcases i with _|_|_|_|_|_|i <;> first | rfl | omega) (by decide)) (kd6 (fun i => intOf ((Fx.rv .u64 (fun _ => 0)) i)) (by intro i hi; rcases i with _|_|_|_|_|_|i <;> first | rfl | omega) (by decide)) rfl (by kernel_rfl) (by kernel_rfl) (by kernel_rfl) (by kernel_rfl) (by kernel_rfl)) (Lv (.bool true) (x_pickT rfl rfl rfl) (Lv (.bool true) (x_move rfl rfl) (Lv ((pt g1)) (x_move rfl rfl) (Fx.L.bslice (vs := [(0, .int .i64 (2))]) (s := 1) (zc := Fx.rv .i64 (fun _ => 0)) (y := Fx.ovr (fun j => (Fx.rv .i64 (fun _ => 0)) (j % 1)) (0 * 1) 1 (fun _ => .int .i64 (2))) (by rfl) rfl rfl Try.underlying23 (by kernel_rfl) (by rfl) (by rfl) (by kernel_rfl) (by rw [Fx.fill_step (off := 0 * 1) (s := 1) (y := fun _ => .int .i64 (2)) rfl (Fx.cells_one (by rfl)) (by rfl)]; rfl) rfl fun g3 w8 eg3 m10 s8 z2 => ?_)))))
 have m11 := m8.stp s8 m8.ne
 have b8 := s8.below b7 b7.size b7.size
 have lg3 : w.heap.size ≤ g3 := by rw [eg3]; exact b7.size
 have ng3m11 : g1 ≠ g3 := by rw [eg3]; exact Nat.ne_of_lt (m8.lt)
 have ng3m12 : g2 ≠ g3 := by rw [eg3]; exact Nat.ne_of_lt (m9.lt)
 have tg3 : g3 < w8.heap.size := m10.lt
 clear eg3
 refine Fx.L.call (by rfl) (rC (args := [(pt g1), .slice (some ⟨g3, 0, none⟩) (1) (1)]) rfl rfl Try.func21 rfl rfl) rfl ((g_least KW (fun _ => 2) g1 (some ⟨g3, 0, none⟩) 1 1 _ (by omega) (fun _ => ⟨g3, 0, rfl, (m10.congr (w1_eq 2)).cel⟩) m11).mono ?_)
 rintro e w9 ⟨he, hb4⟩
 refine ⟨.agg (Fx.varr 6 (Fx.rv .u64 (leastV KW (fun _ => 2) 1))), by rw [he], ?_⟩
 clear he
 have s9 := Sb hb4
 have b9 := s9.below b8 b8.size b8.size
 refine Lv (.agg (Fx.varr 6 (Fx.ovr (Fx.ovr (Fx.rv .u64 (fun _ => 0)) 0 1 (fun _ => .int .u64 (3))) 1 1 (fun _ => .int .u64 (4))))) (Fx.x_buildArr (vs := [(0, .int .u64 (3)), (1, .int .u64 (4))]) (s := 1) (m := 6) (x := Fx.rv .u64 (fun _ => 0)) rfl rfl Try.underlying32 (by kernel_rfl) (by kernel_rfl) (by rw [Fx.fill_step (off := 0) (s := 1) (y := fun _ => .int .u64 (3)) (by kernel_rfl) (Fx.cells_one (by rfl)) (by rfl)]; rw [Fx.fill_step (off := 1) (s := 1) (y := fun _ => .int .u64 (4)) (by kernel_rfl) (Fx.cells_one (by rfl)) (by rfl)]; rfl)) (Lv (.bool true) (Fx.x_eqlA (n := 6) (ks := List.replicate 6 (some .u64)) (X := Fx.rv .u64 (leastV KW (fun _ => 2) 1)) (Y := Fx.ovr (Fx.ovr (Fx.rv .u64 (fun _ => 0)) 0 1 (fun _ => .int .u64 (3))) 1 1 (fun _ => .int .u64 (4))) 12 true rfl rfl rfl (Fx.yesb least_kw1) (kd6 (fun i => intOf ((Fx.rv .u64 (leastV KW (fun _ => 2) 1)) i)) (by intro i hi; rcases i with _|_|_|_|_|_|i <;> first | rfl | omega) (by decide)) (kd6 (fun i => intOf ((Fx.ovr (Fx.ovr (Fx.rv .u64 (fun _ => 0)) 0 1 (fun _ => .int .u64 (3))) 1 1 (fun _ => .int .u64 (4))) i)) (by intro i hi; rcases i with _|_|_|_|_|_|i <;> first | rfl | omega) (by decide)) rfl (by kernel_rfl) (by kernel_rfl) (by kernel_rfl) (by kernel_rfl) (by kernel_rfl)) (Lv (.bool true) (x_pickT rfl rfl rfl) (Lv (.bool true) (x_assign rfl rfl) (Ln (sN (Wr (⟨.bool true, rV Try.results10 (by exact rfl), ?_⟩)))))))
 exact ⟨rfl, b9⟩
end Go.Proofs.Ytleajegppehbdaa
namespace Go.Proofs.Ytleajegppehbdaa.Fx
open Go.RowKit
def joinK (I : (Nat → Value) → World → Prop) (Q : Post) : Post := fun e f w => match e with | .normal => I f w | e => Q e f w
section
variable {P : Program} {n : Nat} {Q : Post} {f : Nat → Value} {w : World} {I : (Nat → Value) → World → Prop}
theorem W.seqJ {x y : Code} (I : (Nat → Value) → World → Prop) (h1 : W P n x (joinK I Q) f w) (h2 : ∀ f w, I f w → W P n y Q f w) : W P n (.seq x y) Q f w :=
  Ws (W.mono h1 fun e f w hq => by
    cases e <;> first | exact h2 f w hq | exact hq)
theorem jnN (h : I f w) : joinK I Q .normal f w := h
end
end Go.Proofs.Ytleajegppehbdaa.Fx
namespace Go.Proofs.Ytleajegppehbdaa
open Go.RowKit Rt
open Fx (x_move x_assign x_field x_load1 x_pickF x_pickT x_nil x_conv x_indexS x_index x_leqF x_loadA x_len x_gtrF x_build x_eqlF x_eqlT Lv sN Ln Ws Qv Wl Wc Qs Wr Sb Lk Wk rC rV sR)
namespace Rt
structure EvM where
  o : Int
  seq : Int
  deps : Nat → Int
  kind : Int
  node : Int
  dst : Int
  amt : Int
  req : Int
  of : Int
def evY (v : EvM) : Nat → Value := fun p => if p = 0 then .int .i64 v.o else if p = 1 then .int .u64 v.seq else if p < 8 then .int .u64 (v.deps (p - 2)) else if p = 8 then .int .u8 v.kind else if p = 9 then .int .u64 v.node else if p = 10 then .int .i64 v.dst else if p = 11 then .int .i64 v.amt else if p = 12 then .int .u64 v.req else .int .u64 v.of
theorem evY_deps (v : EvM) {p j : Nat} (h : p = j + 2) (hj : j < 6) : evY v p = .int .u64 (v.deps j) := by
  subst h; unfold evY; rw [if_neg (by omega), if_neg (by omega), if_pos (by omega), show j + 2 - 2 = j by omega]
theorem evY_one (v : EvM) : ∀ j, j < 14 → (evY v j).oneCell' = true := fun j _ => by unfold evY; repeat (first | rfl | split)
def regE (i : Int) : Bool := decide (1 ≤ i) && decide (i ≤ 6)
def ownE (v : EvM) : EvM :=
  if v.kind = 1 then { v with dst := 0, req := 0, of := 0 } else if v.kind = 2 then { v with dst := 0, req := 0, of := 0 } else if v.kind = 3 then { v with dst := 0, of := 0 }
  else if v.kind = 4 then { v with node := 0, dst := 0, amt := 0 } else if v.kind = 5 then { v with req := 0, of := 0 } else if v.kind = 6 then { v with node := 0, amt := 0, req := 0, of := 0 }
  else { v with node := 0, dst := 0, amt := 0, req := 0, of := 0 }
def someE (v : EvM) : Bool := decide (1 ≤ v.amt) && decide (v.amt ≤ 1125899906842624)
def otherE (v : EvM) : Bool := regE v.dst && !decide (v.dst = v.o)
def fieldsE (v : EvM) : Bool :=
  if v.kind = 1 then decide (0 ≤ v.amt) && decide (v.amt ≤ 1125899906842624) else if v.kind = 2 then someE v else if v.kind = 3 then someE v && decide (1 ≤ v.req)
  else if v.kind = 4 then decide (1 ≤ v.req) && decide (1 ≤ v.of) && !decide (v.req = v.of) else if v.kind = 5 then someE v && otherE v else if v.kind = 6 then otherE v else decide (v.kind = 7)
end Rt
theorem e_region (n : Int) (w : World) :
    Calls Try.prog 63 #[.int .i64 (n)] w fun e w' => e = .returned (.bool (regE n)) ∧ w' = w := by
 refine Fx.enter Try.func63 rfl (n := 9) rfl (by rfl) ?_
 refine Ws (Wl (Lv (.bool false) (x_assign rfl rfl) (Ln (sN (Ws (Wl (Lv (.int .i64 (n)) (x_move rfl rfl) ?_)))))))
 by_cases c4 : 1 ≤ n
 ·refine Lv (.bool true) (Fx.x_geqT rfl rfl rfl c4) (Lv (.bool true) (x_move rfl rfl) (Lv (.int .i64 (n)) (x_move rfl rfl) ?_))
  by_cases c7 : n ≤ 6
  ·refine Lv (.bool true) (Fx.x_leqT rfl rfl rfl c7) (Lv (.bool true) (x_pickT rfl rfl rfl) (Lv (.bool true) (x_assign rfl rfl) (Ln (sN (Wr (⟨.bool true, rV Try.results63 (by exact rfl), ?_⟩))))))
   exact ⟨congrArg (fun q => Ending.returned (Value.bool q)) (by simp only [regE]; first | (symm; simp; omega) | (symm; simp; done)), rfl⟩
  refine Lv (.bool false) (x_leqF rfl rfl rfl c7) (Lv (.bool false) (x_pickT rfl rfl rfl) (Lv (.bool false) (x_assign rfl rfl) (Ln (sN (Wr (⟨.bool false, rV Try.results63 (by exact rfl), ?_⟩))))))
  exact ⟨congrArg (fun q => Ending.returned (Value.bool q)) (by simp only [regE]; first | (symm; simp; omega) | (symm; simp; done)), rfl⟩
 refine Lv (.bool false) (Fx.x_geqF rfl rfl rfl c4) (Lv (.bool false) (x_move rfl rfl) (Lk (by rfl) rfl (Lk (by rfl) rfl (Lv (.bool false) (x_pickF rfl rfl rfl) (Lv (.bool false) (x_assign rfl rfl) (Ln (sN (Wr (⟨.bool false, rV Try.results63 (by exact rfl), ?_⟩)))))))))
 exact ⟨congrArg (fun q => Ending.returned (Value.bool q)) (by simp only [regE]; first | (symm; simp; omega) | (symm; simp; done)), rfl⟩
theorem e_own (v : EvM) (w : World) :
    Calls Try.prog 64 #[.agg (Fx.varr 14 (evY v))] w fun e w' => e = .returned (.agg (Fx.varr 14 (evY (ownE v)))) ∧ Below w.heap.size w w' := by
 refine Fx.enter Try.func64 rfl (n := 60) rfl (by rfl) ?_
 refine Ws (Wl (Fx.L.box (m := 14) (y := evY v) (by rfl) rfl rfl (Fx.cells_agg _ _) rfl fun g1 w1 eg1 m1 s1 z1 => ?_))
 have b1 := s1.below (Below.refl w.heap.size w) (Below.refl w.heap.size w).size (Below.refl w.heap.size w).size
 have lg1 : w.heap.size ≤ g1 := by rw [eg1]; exact (Below.refl w.heap.size w).size
 have tg1 : g1 < w1.heap.size := m1.lt
 clear eg1
 refine Fx.L.new (m := 14) (y := fun i => (#[.int .i64 (0), .int .u64 (0), .int .u64 (0), .int .u64 (0), .int .u64 (0), .int .u64 (0), .int .u64 (0), .int .u64 (0), .int .u8 (0), .int .u64 (0), .int .i64 (0), .int .i64 (0), .int .u64 (0), .int .u64 (0)] : Array Value).getD i undef) (by rfl) rfl (by kernel_rfl) rfl fun g2 w2 eg2 m2 s2 z2 => ?_
 have m3 := m1.stp s2 m1.ne
 have b2 := s2.below b1 b1.size b1.size
 have lg2 : w.heap.size ≤ g2 := by rw [eg2]; exact b1.size
 have ng2m3 : g1 ≠ g2 := by rw [eg2]; exact Nat.ne_of_lt (m1.lt)
 have tg2 : g2 < w2.heap.size := m2.lt
 clear eg2
 refine Ln (sN (Ws (Wl (Lv ((pt g1)) (x_field rfl rfl Try.underlying50 rfl (s := 1) (by kernel_rfl) rfl rfl) (Lv (.int .i64 (v.o)) (x_load1 (x := evY v) rfl rfl (by kernel_rfl) m3.cel (i := 0) (by omega) (by omega) rfl) (Lv ((pf g1 1)) (x_field rfl rfl Try.underlying50 rfl (s := 1) (by kernel_rfl) rfl (by show _ + 1 = _; omega)) (Lv (.int .u64 (v.seq)) (x_load1 (x := evY v) rfl rfl (by kernel_rfl) m3.cel (i := 1) (by omega) (by omega) rfl) (Lv ((pf g1 2)) (x_field rfl rfl Try.underlying50 rfl (s := 6) (by kernel_rfl) rfl (by show _ + 2 = _; omega)) (Lv (.agg (Fx.varr 6 (Fx.rv .u64 v.deps))) (x_loadA (x := evY v) (y := Fx.rv .u64 v.deps) rfl rfl (by kernel_rfl) (by kernel_rfl) m3.cel (i := 2) (by omega) (by omega) (fun j hj => evY_deps _ (by omega) hj)) (Lv ((pf g1 8)) (x_field rfl rfl Try.underlying50 rfl (s := 1) (by kernel_rfl) rfl (by show _ + 8 = _; omega)) (Lv (.int .u8 (v.kind)) (x_load1 (x := evY v) rfl rfl (by kernel_rfl) m3.cel (i := 8) (by omega) (by omega) rfl) (Lv (.agg (Fx.varr 14 (Fx.ovr (Fx.ovr (Fx.ovr (Fx.ovr (fun i => (#[.int .i64 (0), .int .u64 (0), .int .u64 (0), .int .u64 (0), .int .u64 (0), .int .u64 (0), .int .u64 (0), .int .u64 (0), .int .u8 (0), .int .u64 (0), .int .i64 (0), .int .i64 (0), .int .u64 (0), .int .u64 (0)] : Array Value).getD i undef) 0 1 (fun _ => .int .i64 (v.o))) 1 1 (fun _ => .int .u64 (v.seq))) 2 6 (Fx.rv .u64 v.deps)) 8 1 (fun _ => .int .u8 (v.kind))))) (x_build (vs := [(0, .int .i64 (v.o)), (1, .int .u64 (v.seq)), (2, .agg (Fx.varr 6 (Fx.rv .u64 v.deps))), (3, .int .u8 (v.kind))]) (places := #[(0, 1), (1, 1), (2, 6), (8, 1), (9, 1), (10, 1), (11, 1), (12, 1), (13, 1)]) (m := 14) (x := fun i => (#[.int .i64 (0), .int .u64 (0), .int .u64 (0), .int .u64 (0), .int .u64 (0), .int .u64 (0), .int .u64 (0), .int .u64 (0), .int .u8 (0), .int .u64 (0), .int .i64 (0), .int .i64 (0), .int .u64 (0), .int .u64 (0)] : Array Value).getD i undef) rfl rfl Try.underlying50 (by kernel_rfl) (by kernel_rfl) (by rw [Fx.fill_step (off := 0) (s := 1) (y := fun _ => .int .i64 (v.o)) (by kernel_rfl) (Fx.cells_one (by rfl)) (by rfl)]; rw [Fx.fill_step (off := 1) (s := 1) (y := fun _ => .int .u64 (v.seq)) (by kernel_rfl) (Fx.cells_one (by rfl)) (by rfl)]; rw [Fx.fill_step (off := 2) (s := 6) (y := Fx.rv .u64 v.deps) (by kernel_rfl) (Fx.cells_agg _ _) (by rfl)]; rw [Fx.fill_step (off := 8) (s := 1) (y := fun _ => .int .u8 (v.kind)) (by kernel_rfl) (Fx.cells_one (by rfl)) (by rfl)]; rfl)) (Fx.L.new (m := 14) (y := fun i => (#[.int .i64 (0), .int .u64 (0), .int .u64 (0), .int .u64 (0), .int .u64 (0), .int .u64 (0), .int .u64 (0), .int .u64 (0), .int .u8 (0), .int .u64 (0), .int .i64 (0), .int .i64 (0), .int .u64 (0), .int .u64 (0)] : Array Value).getD i undef) (by rfl) rfl (by kernel_rfl) rfl fun g3 w3 eg3 m4 s3 z3 => ?_)))))))))))))
 have m5 := m3.stp s3 m3.ne
 have m6 := m2.stp s3 m2.ne
 have b3 := s3.below b2 b2.size b2.size
 have lg3 : w.heap.size ≤ g3 := by rw [eg3]; exact b2.size
 have ng3m5 : g1 ≠ g3 := by rw [eg3]; exact Nat.ne_of_lt (m3.lt)
 have ng3m6 : g2 ≠ g3 := by rw [eg3]; exact Nat.ne_of_lt (m2.lt)
 have tg3 : g3 < w3.heap.size := m4.lt
 clear eg3
 refine Fx.L.storeA (x := fun i => (#[.int .i64 (0), .int .u64 (0), .int .u64 (0), .int .u64 (0), .int .u64 (0), .int .u64 (0), .int .u64 (0), .int .u64 (0), .int .u8 (0), .int .u64 (0), .int .i64 (0), .int .i64 (0), .int .u64 (0), .int .u64 (0)] : Array Value).getD i undef) (y := Fx.ovr (Fx.ovr (Fx.ovr (Fx.ovr (fun i => (#[.int .i64 (0), .int .u64 (0), .int .u64 (0), .int .u64 (0), .int .u64 (0), .int .u64 (0), .int .u64 (0), .int .u64 (0), .int .u8 (0), .int .u64 (0), .int .i64 (0), .int .i64 (0), .int .u64 (0), .int .u64 (0)] : Array Value).getD i undef) 0 1 (fun _ => .int .i64 (v.o))) 1 1 (fun _ => .int .u64 (v.seq))) 2 6 (Fx.rv .u64 v.deps)) 8 1 (fun _ => .int .u8 (v.kind))) (by rfl) rfl rfl rfl rfl (fun j hj => by rcases j with _|_|_|_|_|_|_|_|_|_|_|_|_|_|j <;> first | rfl | omega) (by kernel_rfl) m4 (i := 0) (by omega) fun w4 m7 s4 z4 => ?_
 have m8 : Fx.Blk w4 g3 14 (Fx.ovr (Fx.ovr (Fx.ovr (Fx.ovr (fun i => (#[.int .i64 (0), .int .u64 (0), .int .u64 (0), .int .u64 (0), .int .u64 (0), .int .u64 (0), .int .u64 (0), .int .u64 (0), .int .u8 (0), .int .u64 (0), .int .i64 (0), .int .i64 (0), .int .u64 (0), .int .u64 (0)] : Array Value).getD i undef) 0 1 (fun _ => .int .i64 (v.o))) 1 1 (fun _ => .int .u64 (v.seq))) 2 6 (Fx.rv .u64 v.deps)) 8 1 (fun _ => .int .u8 (v.kind))) 50 := Fx.ovr_all m7
 have m9 : Fx.Blk w4 g3 14 (evY ⟨v.o, v.seq, v.deps, v.kind, 0, 0, 0, 0, 0⟩) 50 := m8.congr (fun j hj => by rcases j with _|_|_|_|_|_|_|_|_|_|_|_|_|_|j <;> first | rfl | omega)
 have m10 := m5.stp s4 (by omega)
 have m11 := m6.stp s4 (by omega)
 have b4 := s4.below b3 b3.size (by omega)
 refine Ln (sN (Ws (Ws (Wl (Lv ((pf g1 8)) (x_field rfl rfl Try.underlying50 rfl (s := 1) (by kernel_rfl) rfl (by show _ + 8 = _; omega)) (Lv (.int .u8 (v.kind)) (x_load1 (x := evY v) rfl rfl (by kernel_rfl) m10.cel (i := 8) (by omega) (by omega) rfl) (Ln (sN (Fx.W.block (Ws (Ws (Wl ?_))))))))))))
 by_cases c16 : v.kind = 1
 ·refine Lv (.bool true) (x_eqlT rfl rfl rfl c16) (Lv (.bool true) (x_assign rfl rfl) (Ln (sN (Wc (b := true) rfl (fun _ => Wk (sN (Wc (b := true) rfl (fun _ => Ws (Wl (Lv ((pf g1 9)) (x_field rfl rfl Try.underlying50 rfl (s := 1) (by kernel_rfl) rfl (by show _ + 9 = _; omega)) ?_))) (fun h => nomatch h)))) (fun h => nomatch h)))))
  refine Lv (.int .u64 (v.node)) (x_load1 (x := evY v) rfl rfl (by kernel_rfl) m10.cel (i := 9) (by omega) (by omega) rfl) (Lv ((pf g3 9)) (x_field rfl rfl Try.underlying50 rfl (s := 1) (by kernel_rfl) rfl (by show _ + 9 = _; omega)) (Fx.L.store1 (x := evY ⟨v.o, v.seq, v.deps, v.kind, 0, 0, 0, 0, 0⟩) (u := .int .u64 (v.node)) (by rfl) rfl rfl rfl rfl (by rfl) (by kernel_rfl) m9 (i := 9) (by omega) fun w5 m12 s5 z5 => ?_))
  have m13 : Fx.Blk w5 g3 14 (evY ⟨v.o, v.seq, v.deps, v.kind, v.node, 0, 0, 0, 0⟩) 50 := m12.congr (fun j hj => by rcases j with _|_|_|_|_|_|_|_|_|_|_|_|_|_|j <;> first | rfl | omega)
  have m14 := m10.stp s5 (by omega)
  have m15 := m11.stp s5 (by omega)
  have b5 := s5.below b4 b4.size (by omega)
  refine Ln (sN (Wl (Lv ((pf g1 11)) (x_field rfl rfl Try.underlying50 rfl (s := 1) (by kernel_rfl) rfl (by show _ + 11 = _; omega)) (Lv (.int .i64 (v.amt)) (x_load1 (x := evY v) rfl rfl (by kernel_rfl) m14.cel (i := 11) (by omega) (by omega) rfl) (Lv ((pf g3 11)) (x_field rfl rfl Try.underlying50 rfl (s := 1) (by kernel_rfl) rfl (by show _ + 11 = _; omega)) (Fx.L.store1 (x := evY ⟨v.o, v.seq, v.deps, v.kind, v.node, 0, 0, 0, 0⟩) (u := .int .i64 (v.amt)) (by rfl) rfl rfl rfl rfl (by rfl) (by kernel_rfl) m13 (i := 11) (by omega) fun w6 m16 s6 z6 => ?_))))))
  have m17 : Fx.Blk w6 g3 14 (evY ⟨v.o, v.seq, v.deps, v.kind, v.node, 0, v.amt, 0, 0⟩) 50 := m16.congr (fun j hj => by rcases j with _|_|_|_|_|_|_|_|_|_|_|_|_|_|j <;> first | rfl | omega)
  have m18 := m14.stp s6 (by omega)
  have m19 := m15.stp s6 (by omega)
  have b6 := s6.below b5 b5.size (by omega)
  refine Ln (Fx.blkN (sN (Ws (Wl (Lv (.agg (Fx.varr 14 (evY ⟨v.o, v.seq, v.deps, v.kind, v.node, 0, v.amt, 0, 0⟩))) (x_loadA (x := evY ⟨v.o, v.seq, v.deps, v.kind, v.node, 0, v.amt, 0, 0⟩) (y := evY ⟨v.o, v.seq, v.deps, v.kind, v.node, 0, v.amt, 0, 0⟩) rfl rfl (by kernel_rfl) (by kernel_rfl) m17.cel (i := 0) (by omega) (by omega) (fun j _ => by rw [Nat.zero_add])) (Fx.L.storeA (x := fun i => (#[.int .i64 (0), .int .u64 (0), .int .u64 (0), .int .u64 (0), .int .u64 (0), .int .u64 (0), .int .u64 (0), .int .u64 (0), .int .u8 (0), .int .u64 (0), .int .i64 (0), .int .i64 (0), .int .u64 (0), .int .u64 (0)] : Array Value).getD i undef) (y := evY ⟨v.o, v.seq, v.deps, v.kind, v.node, 0, v.amt, 0, 0⟩) (by rfl) rfl rfl rfl rfl (evY_one _) (by kernel_rfl) m19 (i := 0) (by omega) fun w7 m20 s7 z7 => ?_))))))
  have m21 : Fx.Blk w7 g2 14 (evY ⟨v.o, v.seq, v.deps, v.kind, v.node, 0, v.amt, 0, 0⟩) 50 := Fx.ovr_all m20
  have m22 := m18.stp s7 (by omega)
  have m23 := m17.stp s7 (by omega)
  have b7 := s7.below b6 b6.size (by omega)
  refine Ln (sN (Wr (⟨.agg (Fx.varr 14 (evY ⟨v.o, v.seq, v.deps, v.kind, v.node, 0, v.amt, 0, 0⟩)), rV Try.results64 ⟨_, rfl, Fx.run_loadV m21.cel (by kernel_rfl) (by kernel_rfl)⟩, ?_⟩)))
  refine ⟨congrArg (fun q => Ending.returned (Value.agg q)) (Fx.varr_congr fun i hi => ?_), b7⟩
  unfold ownE; rw [if_pos c16]
 refine Lv (.bool false) (x_eqlF rfl rfl rfl c16) (Lv (.bool false) (x_assign rfl rfl) (Ln (sN (Wc (b := false) rfl (fun h => nomatch h) (fun _ => Wl ?_)))))
 by_cases c17 : v.kind = 2
 ·refine Lv (.bool true) (x_eqlT rfl rfl rfl c17) (Lv (.bool true) (x_assign rfl rfl) (Ln (sN (Wc (b := true) rfl (fun _ => Ws (Wl (Lv ((pf g1 9)) (x_field rfl rfl Try.underlying50 rfl (s := 1) (by kernel_rfl) rfl (by show _ + 9 = _; omega)) ?_))) (fun h => nomatch h)))))
  refine Lv (.int .u64 (v.node)) (x_load1 (x := evY v) rfl rfl (by kernel_rfl) m10.cel (i := 9) (by omega) (by omega) rfl) (Lv ((pf g3 9)) (x_field rfl rfl Try.underlying50 rfl (s := 1) (by kernel_rfl) rfl (by show _ + 9 = _; omega)) (Fx.L.store1 (x := evY ⟨v.o, v.seq, v.deps, v.kind, 0, 0, 0, 0, 0⟩) (u := .int .u64 (v.node)) (by rfl) rfl rfl rfl rfl (by rfl) (by kernel_rfl) m9 (i := 9) (by omega) fun w8 m24 s8 z8 => ?_))
  have m25 : Fx.Blk w8 g3 14 (evY ⟨v.o, v.seq, v.deps, v.kind, v.node, 0, 0, 0, 0⟩) 50 := m24.congr (fun j hj => by rcases j with _|_|_|_|_|_|_|_|_|_|_|_|_|_|j <;> first | rfl | omega)
  have m26 := m10.stp s8 (by omega)
  have m27 := m11.stp s8 (by omega)
  have b8 := s8.below b4 b4.size (by omega)
  refine Ln (sN (Wl (Lv ((pf g1 11)) (x_field rfl rfl Try.underlying50 rfl (s := 1) (by kernel_rfl) rfl (by show _ + 11 = _; omega)) (Lv (.int .i64 (v.amt)) (x_load1 (x := evY v) rfl rfl (by kernel_rfl) m26.cel (i := 11) (by omega) (by omega) rfl) (Lv ((pf g3 11)) (x_field rfl rfl Try.underlying50 rfl (s := 1) (by kernel_rfl) rfl (by show _ + 11 = _; omega)) (Fx.L.store1 (x := evY ⟨v.o, v.seq, v.deps, v.kind, v.node, 0, 0, 0, 0⟩) (u := .int .i64 (v.amt)) (by rfl) rfl rfl rfl rfl (by rfl) (by kernel_rfl) m25 (i := 11) (by omega) fun w9 m28 s9 z9 => ?_))))))
  have m29 : Fx.Blk w9 g3 14 (evY ⟨v.o, v.seq, v.deps, v.kind, v.node, 0, v.amt, 0, 0⟩) 50 := m28.congr (fun j hj => by rcases j with _|_|_|_|_|_|_|_|_|_|_|_|_|_|j <;> first | rfl | omega)
  have m30 := m26.stp s9 (by omega)
  have m31 := m27.stp s9 (by omega)
  have b9 := s9.below b8 b8.size (by omega)
  refine Ln (Fx.blkN (sN (Ws (Wl (Lv (.agg (Fx.varr 14 (evY ⟨v.o, v.seq, v.deps, v.kind, v.node, 0, v.amt, 0, 0⟩))) (x_loadA (x := evY ⟨v.o, v.seq, v.deps, v.kind, v.node, 0, v.amt, 0, 0⟩) (y := evY ⟨v.o, v.seq, v.deps, v.kind, v.node, 0, v.amt, 0, 0⟩) rfl rfl (by kernel_rfl) (by kernel_rfl) m29.cel (i := 0) (by omega) (by omega) (fun j _ => by rw [Nat.zero_add])) (Fx.L.storeA (x := fun i => (#[.int .i64 (0), .int .u64 (0), .int .u64 (0), .int .u64 (0), .int .u64 (0), .int .u64 (0), .int .u64 (0), .int .u64 (0), .int .u8 (0), .int .u64 (0), .int .i64 (0), .int .i64 (0), .int .u64 (0), .int .u64 (0)] : Array Value).getD i undef) (y := evY ⟨v.o, v.seq, v.deps, v.kind, v.node, 0, v.amt, 0, 0⟩) (by rfl) rfl rfl rfl rfl (evY_one _) (by kernel_rfl) m31 (i := 0) (by omega) fun w10 m32 s10 z10 => ?_))))))
  have m33 : Fx.Blk w10 g2 14 (evY ⟨v.o, v.seq, v.deps, v.kind, v.node, 0, v.amt, 0, 0⟩) 50 := Fx.ovr_all m32
  have m34 := m30.stp s10 (by omega)
  have m35 := m29.stp s10 (by omega)
  have b10 := s10.below b9 b9.size (by omega)
  refine Ln (sN (Wr (⟨.agg (Fx.varr 14 (evY ⟨v.o, v.seq, v.deps, v.kind, v.node, 0, v.amt, 0, 0⟩)), rV Try.results64 ⟨_, rfl, Fx.run_loadV m33.cel (by kernel_rfl) (by kernel_rfl)⟩, ?_⟩)))
  refine ⟨congrArg (fun q => Ending.returned (Value.agg q)) (Fx.varr_congr fun i hi => ?_), b10⟩
  unfold ownE; rw [if_neg c16, if_pos c17]
 refine Lv (.bool false) (x_eqlF rfl rfl rfl c17) (Lv (.bool false) (x_assign rfl rfl) (Ln (sN (Wc (b := false) rfl (fun h => nomatch h) (fun _ => Ws (Wl ?_))))))
 by_cases c25 : v.kind = 3
 ·refine Lv (.bool true) (x_eqlT rfl rfl rfl c25) (Lv (.bool true) (x_assign rfl rfl) (Ln (sN (Wc (b := true) rfl (fun _ => Ws (Wl (Lv ((pf g1 9)) (x_field rfl rfl Try.underlying50 rfl (s := 1) (by kernel_rfl) rfl (by show _ + 9 = _; omega)) ?_))) (fun h => nomatch h)))))
  refine Lv (.int .u64 (v.node)) (x_load1 (x := evY v) rfl rfl (by kernel_rfl) m10.cel (i := 9) (by omega) (by omega) rfl) (Lv ((pf g3 9)) (x_field rfl rfl Try.underlying50 rfl (s := 1) (by kernel_rfl) rfl (by show _ + 9 = _; omega)) (Fx.L.store1 (x := evY ⟨v.o, v.seq, v.deps, v.kind, 0, 0, 0, 0, 0⟩) (u := .int .u64 (v.node)) (by rfl) rfl rfl rfl rfl (by rfl) (by kernel_rfl) m9 (i := 9) (by omega) fun w11 m36 s11 z11 => ?_))
  have m37 : Fx.Blk w11 g3 14 (evY ⟨v.o, v.seq, v.deps, v.kind, v.node, 0, 0, 0, 0⟩) 50 := m36.congr (fun j hj => by rcases j with _|_|_|_|_|_|_|_|_|_|_|_|_|_|j <;> first | rfl | omega)
  have m38 := m10.stp s11 (by omega)
  have m39 := m11.stp s11 (by omega)
  have b11 := s11.below b4 b4.size (by omega)
  refine Ln (sN (Ws (Wl (Lv ((pf g1 11)) (x_field rfl rfl Try.underlying50 rfl (s := 1) (by kernel_rfl) rfl (by show _ + 11 = _; omega)) (Lv (.int .i64 (v.amt)) (x_load1 (x := evY v) rfl rfl (by kernel_rfl) m38.cel (i := 11) (by omega) (by omega) rfl) (Lv ((pf g3 11)) (x_field rfl rfl Try.underlying50 rfl (s := 1) (by kernel_rfl) rfl (by show _ + 11 = _; omega)) (Fx.L.store1 (x := evY ⟨v.o, v.seq, v.deps, v.kind, v.node, 0, 0, 0, 0⟩) (u := .int .i64 (v.amt)) (by rfl) rfl rfl rfl rfl (by rfl) (by kernel_rfl) m37 (i := 11) (by omega) fun w12 m40 s12 z12 => ?_)))))))
  have m41 : Fx.Blk w12 g3 14 (evY ⟨v.o, v.seq, v.deps, v.kind, v.node, 0, v.amt, 0, 0⟩) 50 := m40.congr (fun j hj => by rcases j with _|_|_|_|_|_|_|_|_|_|_|_|_|_|j <;> first | rfl | omega)
  have m42 := m38.stp s12 (by omega)
  have m43 := m39.stp s12 (by omega)
  have b12 := s12.below b11 b11.size (by omega)
  refine Ln (sN (Wl (Lv ((pf g1 12)) (x_field rfl rfl Try.underlying50 rfl (s := 1) (by kernel_rfl) rfl (by show _ + 12 = _; omega)) (Lv (.int .u64 (v.req)) (x_load1 (x := evY v) rfl rfl (by kernel_rfl) m42.cel (i := 12) (by omega) (by omega) rfl) (Lv ((pf g3 12)) (x_field rfl rfl Try.underlying50 rfl (s := 1) (by kernel_rfl) rfl (by show _ + 12 = _; omega)) (Fx.L.store1 (x := evY ⟨v.o, v.seq, v.deps, v.kind, v.node, 0, v.amt, 0, 0⟩) (u := .int .u64 (v.req)) (by rfl) rfl rfl rfl rfl (by rfl) (by kernel_rfl) m41 (i := 12) (by omega) fun w13 m44 s13 z13 => ?_))))))
  have m45 : Fx.Blk w13 g3 14 (evY ⟨v.o, v.seq, v.deps, v.kind, v.node, 0, v.amt, v.req, 0⟩) 50 := m44.congr (fun j hj => by rcases j with _|_|_|_|_|_|_|_|_|_|_|_|_|_|j <;> first | rfl | omega)
  have m46 := m42.stp s13 (by omega)
  have m47 := m43.stp s13 (by omega)
  have b13 := s13.below b12 b12.size (by omega)
  refine Ln (Fx.blkN (sN (Ws (Wl (Lv (.agg (Fx.varr 14 (evY ⟨v.o, v.seq, v.deps, v.kind, v.node, 0, v.amt, v.req, 0⟩))) (x_loadA (x := evY ⟨v.o, v.seq, v.deps, v.kind, v.node, 0, v.amt, v.req, 0⟩) (y := evY ⟨v.o, v.seq, v.deps, v.kind, v.node, 0, v.amt, v.req, 0⟩) rfl rfl (by kernel_rfl) (by kernel_rfl) m45.cel (i := 0) (by omega) (by omega) (fun j _ => by rw [Nat.zero_add])) (Fx.L.storeA (x := fun i => (#[.int .i64 (0), .int .u64 (0), .int .u64 (0), .int .u64 (0), .int .u64 (0), .int .u64 (0), .int .u64 (0), .int .u64 (0), .int .u8 (0), .int .u64 (0), .int .i64 (0), .int .i64 (0), .int .u64 (0), .int .u64 (0)] : Array Value).getD i undef) (y := evY ⟨v.o, v.seq, v.deps, v.kind, v.node, 0, v.amt, v.req, 0⟩) (by rfl) rfl rfl rfl rfl (evY_one _) (by kernel_rfl) m47 (i := 0) (by omega) fun w14 m48 s14 z14 => ?_))))))
  have m49 : Fx.Blk w14 g2 14 (evY ⟨v.o, v.seq, v.deps, v.kind, v.node, 0, v.amt, v.req, 0⟩) 50 := Fx.ovr_all m48
  have m50 := m46.stp s14 (by omega)
  have m51 := m45.stp s14 (by omega)
  have b14 := s14.below b13 b13.size (by omega)
  refine Ln (sN (Wr (⟨.agg (Fx.varr 14 (evY ⟨v.o, v.seq, v.deps, v.kind, v.node, 0, v.amt, v.req, 0⟩)), rV Try.results64 ⟨_, rfl, Fx.run_loadV m49.cel (by kernel_rfl) (by kernel_rfl)⟩, ?_⟩)))
  refine ⟨congrArg (fun q => Ending.returned (Value.agg q)) (Fx.varr_congr fun i hi => ?_), b14⟩
  unfold ownE; rw [if_neg c16, if_neg c17, if_pos c25]
 refine Lv (.bool false) (x_eqlF rfl rfl rfl c25) (Lv (.bool false) (x_assign rfl rfl) (Ln (sN (Wc (b := false) rfl (fun h => nomatch h) (fun _ => Ws (Wl ?_))))))
 by_cases c36 : v.kind = 4
 ·refine Lv (.bool true) (x_eqlT rfl rfl rfl c36) (Lv (.bool true) (x_assign rfl rfl) (Ln (sN (Wc (b := true) rfl (fun _ => Ws (Wl (Lv ((pf g1 12)) (x_field rfl rfl Try.underlying50 rfl (s := 1) (by kernel_rfl) rfl (by show _ + 12 = _; omega)) ?_))) (fun h => nomatch h)))))
  refine Lv (.int .u64 (v.req)) (x_load1 (x := evY v) rfl rfl (by kernel_rfl) m10.cel (i := 12) (by omega) (by omega) rfl) (Lv ((pf g3 12)) (x_field rfl rfl Try.underlying50 rfl (s := 1) (by kernel_rfl) rfl (by show _ + 12 = _; omega)) (Fx.L.store1 (x := evY ⟨v.o, v.seq, v.deps, v.kind, 0, 0, 0, 0, 0⟩) (u := .int .u64 (v.req)) (by rfl) rfl rfl rfl rfl (by rfl) (by kernel_rfl) m9 (i := 12) (by omega) fun w15 m52 s15 z15 => ?_))
  have m53 : Fx.Blk w15 g3 14 (evY ⟨v.o, v.seq, v.deps, v.kind, 0, 0, 0, v.req, 0⟩) 50 := m52.congr (fun j hj => by rcases j with _|_|_|_|_|_|_|_|_|_|_|_|_|_|j <;> first | rfl | omega)
  have m54 := m10.stp s15 (by omega)
  have m55 := m11.stp s15 (by omega)
  have b15 := s15.below b4 b4.size (by omega)
  refine Ln (sN (Wl (Lv ((pf g1 13)) (x_field rfl rfl Try.underlying50 rfl (s := 1) (by kernel_rfl) rfl (by show _ + 13 = _; omega)) (Lv (.int .u64 (v.of)) (x_load1 (x := evY v) rfl rfl (by kernel_rfl) m54.cel (i := 13) (by omega) (by omega) rfl) (Lv ((pf g3 13)) (x_field rfl rfl Try.underlying50 rfl (s := 1) (by kernel_rfl) rfl (by show _ + 13 = _; omega)) (Fx.L.store1 (x := evY ⟨v.o, v.seq, v.deps, v.kind, 0, 0, 0, v.req, 0⟩) (u := .int .u64 (v.of)) (by rfl) rfl rfl rfl rfl (by rfl) (by kernel_rfl) m53 (i := 13) (by omega) fun w16 m56 s16 z16 => ?_))))))
  have m57 : Fx.Blk w16 g3 14 (evY ⟨v.o, v.seq, v.deps, v.kind, 0, 0, 0, v.req, v.of⟩) 50 := m56.congr (fun j hj => by rcases j with _|_|_|_|_|_|_|_|_|_|_|_|_|_|j <;> first | rfl | omega)
  have m58 := m54.stp s16 (by omega)
  have m59 := m55.stp s16 (by omega)
  have b16 := s16.below b15 b15.size (by omega)
  refine Ln (Fx.blkN (sN (Ws (Wl (Lv (.agg (Fx.varr 14 (evY ⟨v.o, v.seq, v.deps, v.kind, 0, 0, 0, v.req, v.of⟩))) (x_loadA (x := evY ⟨v.o, v.seq, v.deps, v.kind, 0, 0, 0, v.req, v.of⟩) (y := evY ⟨v.o, v.seq, v.deps, v.kind, 0, 0, 0, v.req, v.of⟩) rfl rfl (by kernel_rfl) (by kernel_rfl) m57.cel (i := 0) (by omega) (by omega) (fun j _ => by rw [Nat.zero_add])) (Fx.L.storeA (x := fun i => (#[.int .i64 (0), .int .u64 (0), .int .u64 (0), .int .u64 (0), .int .u64 (0), .int .u64 (0), .int .u64 (0), .int .u64 (0), .int .u8 (0), .int .u64 (0), .int .i64 (0), .int .i64 (0), .int .u64 (0), .int .u64 (0)] : Array Value).getD i undef) (y := evY ⟨v.o, v.seq, v.deps, v.kind, 0, 0, 0, v.req, v.of⟩) (by rfl) rfl rfl rfl rfl (evY_one _) (by kernel_rfl) m59 (i := 0) (by omega) fun w17 m60 s17 z17 => ?_))))))
  have m61 : Fx.Blk w17 g2 14 (evY ⟨v.o, v.seq, v.deps, v.kind, 0, 0, 0, v.req, v.of⟩) 50 := Fx.ovr_all m60
  have m62 := m58.stp s17 (by omega)
  have m63 := m57.stp s17 (by omega)
  have b17 := s17.below b16 b16.size (by omega)
  refine Ln (sN (Wr (⟨.agg (Fx.varr 14 (evY ⟨v.o, v.seq, v.deps, v.kind, 0, 0, 0, v.req, v.of⟩)), rV Try.results64 ⟨_, rfl, Fx.run_loadV m61.cel (by kernel_rfl) (by kernel_rfl)⟩, ?_⟩)))
  refine ⟨congrArg (fun q => Ending.returned (Value.agg q)) (Fx.varr_congr fun i hi => ?_), b17⟩
  unfold ownE; rw [if_neg c16, if_neg c17, if_neg c25, if_pos c36]
 refine Lv (.bool false) (x_eqlF rfl rfl rfl c36) (Lv (.bool false) (x_assign rfl rfl) (Ln (sN (Wc (b := false) rfl (fun h => nomatch h) (fun _ => Ws (Wl ?_))))))
 by_cases c44 : v.kind = 5
 ·refine Lv (.bool true) (x_eqlT rfl rfl rfl c44) (Lv (.bool true) (x_assign rfl rfl) (Ln (sN (Wc (b := true) rfl (fun _ => Ws (Wl (Lv ((pf g1 9)) (x_field rfl rfl Try.underlying50 rfl (s := 1) (by kernel_rfl) rfl (by show _ + 9 = _; omega)) ?_))) (fun h => nomatch h)))))
  refine Lv (.int .u64 (v.node)) (x_load1 (x := evY v) rfl rfl (by kernel_rfl) m10.cel (i := 9) (by omega) (by omega) rfl) (Lv ((pf g3 9)) (x_field rfl rfl Try.underlying50 rfl (s := 1) (by kernel_rfl) rfl (by show _ + 9 = _; omega)) (Fx.L.store1 (x := evY ⟨v.o, v.seq, v.deps, v.kind, 0, 0, 0, 0, 0⟩) (u := .int .u64 (v.node)) (by rfl) rfl rfl rfl rfl (by rfl) (by kernel_rfl) m9 (i := 9) (by omega) fun w18 m64 s18 z18 => ?_))
  have m65 : Fx.Blk w18 g3 14 (evY ⟨v.o, v.seq, v.deps, v.kind, v.node, 0, 0, 0, 0⟩) 50 := m64.congr (fun j hj => by rcases j with _|_|_|_|_|_|_|_|_|_|_|_|_|_|j <;> first | rfl | omega)
  have m66 := m10.stp s18 (by omega)
  have m67 := m11.stp s18 (by omega)
  have b18 := s18.below b4 b4.size (by omega)
  refine Ln (sN (Ws (Wl (Lv ((pf g1 11)) (x_field rfl rfl Try.underlying50 rfl (s := 1) (by kernel_rfl) rfl (by show _ + 11 = _; omega)) (Lv (.int .i64 (v.amt)) (x_load1 (x := evY v) rfl rfl (by kernel_rfl) m66.cel (i := 11) (by omega) (by omega) rfl) (Lv ((pf g3 11)) (x_field rfl rfl Try.underlying50 rfl (s := 1) (by kernel_rfl) rfl (by show _ + 11 = _; omega)) (Fx.L.store1 (x := evY ⟨v.o, v.seq, v.deps, v.kind, v.node, 0, 0, 0, 0⟩) (u := .int .i64 (v.amt)) (by rfl) rfl rfl rfl rfl (by rfl) (by kernel_rfl) m65 (i := 11) (by omega) fun w19 m68 s19 z19 => ?_)))))))
  have m69 : Fx.Blk w19 g3 14 (evY ⟨v.o, v.seq, v.deps, v.kind, v.node, 0, v.amt, 0, 0⟩) 50 := m68.congr (fun j hj => by rcases j with _|_|_|_|_|_|_|_|_|_|_|_|_|_|j <;> first | rfl | omega)
  have m70 := m66.stp s19 (by omega)
  have m71 := m67.stp s19 (by omega)
  have b19 := s19.below b18 b18.size (by omega)
  refine Ln (sN (Wl (Lv ((pf g1 10)) (x_field rfl rfl Try.underlying50 rfl (s := 1) (by kernel_rfl) rfl (by show _ + 10 = _; omega)) (Lv (.int .i64 (v.dst)) (x_load1 (x := evY v) rfl rfl (by kernel_rfl) m70.cel (i := 10) (by omega) (by omega) rfl) (Lv ((pf g3 10)) (x_field rfl rfl Try.underlying50 rfl (s := 1) (by kernel_rfl) rfl (by show _ + 10 = _; omega)) (Fx.L.store1 (x := evY ⟨v.o, v.seq, v.deps, v.kind, v.node, 0, v.amt, 0, 0⟩) (u := .int .i64 (v.dst)) (by rfl) rfl rfl rfl rfl (by rfl) (by kernel_rfl) m69 (i := 10) (by omega) fun w20 m72 s20 z20 => ?_))))))
  have m73 : Fx.Blk w20 g3 14 (evY ⟨v.o, v.seq, v.deps, v.kind, v.node, v.dst, v.amt, 0, 0⟩) 50 := m72.congr (fun j hj => by rcases j with _|_|_|_|_|_|_|_|_|_|_|_|_|_|j <;> first | rfl | omega)
  have m74 := m70.stp s20 (by omega)
  have m75 := m71.stp s20 (by omega)
  have b20 := s20.below b19 b19.size (by omega)
  refine Ln (Fx.blkN (sN (Ws (Wl (Lv (.agg (Fx.varr 14 (evY ⟨v.o, v.seq, v.deps, v.kind, v.node, v.dst, v.amt, 0, 0⟩))) (x_loadA (x := evY ⟨v.o, v.seq, v.deps, v.kind, v.node, v.dst, v.amt, 0, 0⟩) (y := evY ⟨v.o, v.seq, v.deps, v.kind, v.node, v.dst, v.amt, 0, 0⟩) rfl rfl (by kernel_rfl) (by kernel_rfl) m73.cel (i := 0) (by omega) (by omega) (fun j _ => by rw [Nat.zero_add])) (Fx.L.storeA (x := fun i => (#[.int .i64 (0), .int .u64 (0), .int .u64 (0), .int .u64 (0), .int .u64 (0), .int .u64 (0), .int .u64 (0), .int .u64 (0), .int .u8 (0), .int .u64 (0), .int .i64 (0), .int .i64 (0), .int .u64 (0), .int .u64 (0)] : Array Value).getD i undef) (y := evY ⟨v.o, v.seq, v.deps, v.kind, v.node, v.dst, v.amt, 0, 0⟩) (by rfl) rfl rfl rfl rfl (evY_one _) (by kernel_rfl) m75 (i := 0) (by omega) fun w21 m76 s21 z21 => ?_))))))
  have m77 : Fx.Blk w21 g2 14 (evY ⟨v.o, v.seq, v.deps, v.kind, v.node, v.dst, v.amt, 0, 0⟩) 50 := Fx.ovr_all m76
  have m78 := m74.stp s21 (by omega)
  have m79 := m73.stp s21 (by omega)
  have b21 := s21.below b20 b20.size (by omega)
  refine Ln (sN (Wr (⟨.agg (Fx.varr 14 (evY ⟨v.o, v.seq, v.deps, v.kind, v.node, v.dst, v.amt, 0, 0⟩)), rV Try.results64 ⟨_, rfl, Fx.run_loadV m77.cel (by kernel_rfl) (by kernel_rfl)⟩, ?_⟩)))
  refine ⟨congrArg (fun q => Ending.returned (Value.agg q)) (Fx.varr_congr fun i hi => ?_), b21⟩
  unfold ownE; rw [if_neg c16, if_neg c17, if_neg c25, if_neg c36, if_pos c44]
 refine Lv (.bool false) (x_eqlF rfl rfl rfl c44) (Lv (.bool false) (x_assign rfl rfl) (Ln (sN (Wc (b := false) rfl (fun h => nomatch h) (fun _ => Ws (Wl ?_))))))
 by_cases c55 : v.kind = 6
 ·refine Lv (.bool true) (x_eqlT rfl rfl rfl c55) (Lv (.bool true) (x_assign rfl rfl) (Ln (sN (Wc (b := true) rfl (fun _ => Wl (Lv ((pf g1 10)) (x_field rfl rfl Try.underlying50 rfl (s := 1) (by kernel_rfl) rfl (by show _ + 10 = _; omega)) ?_)) (fun h => nomatch h)))))
  refine Lv (.int .i64 (v.dst)) (x_load1 (x := evY v) rfl rfl (by kernel_rfl) m10.cel (i := 10) (by omega) (by omega) rfl) (Lv ((pf g3 10)) (x_field rfl rfl Try.underlying50 rfl (s := 1) (by kernel_rfl) rfl (by show _ + 10 = _; omega)) (Fx.L.store1 (x := evY ⟨v.o, v.seq, v.deps, v.kind, 0, 0, 0, 0, 0⟩) (u := .int .i64 (v.dst)) (by rfl) rfl rfl rfl rfl (by rfl) (by kernel_rfl) m9 (i := 10) (by omega) fun w22 m80 s22 z22 => ?_))
  have m81 : Fx.Blk w22 g3 14 (evY ⟨v.o, v.seq, v.deps, v.kind, 0, v.dst, 0, 0, 0⟩) 50 := m80.congr (fun j hj => by rcases j with _|_|_|_|_|_|_|_|_|_|_|_|_|_|j <;> first | rfl | omega)
  have m82 := m10.stp s22 (by omega)
  have m83 := m11.stp s22 (by omega)
  have b22 := s22.below b4 b4.size (by omega)
  refine Ln (Fx.blkN (sN (Ws (Wl (Lv (.agg (Fx.varr 14 (evY ⟨v.o, v.seq, v.deps, v.kind, 0, v.dst, 0, 0, 0⟩))) (x_loadA (x := evY ⟨v.o, v.seq, v.deps, v.kind, 0, v.dst, 0, 0, 0⟩) (y := evY ⟨v.o, v.seq, v.deps, v.kind, 0, v.dst, 0, 0, 0⟩) rfl rfl (by kernel_rfl) (by kernel_rfl) m81.cel (i := 0) (by omega) (by omega) (fun j _ => by rw [Nat.zero_add])) (Fx.L.storeA (x := fun i => (#[.int .i64 (0), .int .u64 (0), .int .u64 (0), .int .u64 (0), .int .u64 (0), .int .u64 (0), .int .u64 (0), .int .u64 (0), .int .u8 (0), .int .u64 (0), .int .i64 (0), .int .i64 (0), .int .u64 (0), .int .u64 (0)] : Array Value).getD i undef) (y := evY ⟨v.o, v.seq, v.deps, v.kind, 0, v.dst, 0, 0, 0⟩) (by rfl) rfl rfl rfl rfl (evY_one _) (by kernel_rfl) m83 (i := 0) (by omega) fun w23 m84 s23 z23 => ?_))))))
  have m85 : Fx.Blk w23 g2 14 (evY ⟨v.o, v.seq, v.deps, v.kind, 0, v.dst, 0, 0, 0⟩) 50 := Fx.ovr_all m84
  have m86 := m82.stp s23 (by omega)
  have m87 := m81.stp s23 (by omega)
  have b23 := s23.below b22 b22.size (by omega)
  refine Ln (sN (Wr (⟨.agg (Fx.varr 14 (evY ⟨v.o, v.seq, v.deps, v.kind, 0, v.dst, 0, 0, 0⟩)), rV Try.results64 ⟨_, rfl, Fx.run_loadV m85.cel (by kernel_rfl) (by kernel_rfl)⟩, ?_⟩)))
  refine ⟨congrArg (fun q => Ending.returned (Value.agg q)) (Fx.varr_congr fun i hi => ?_), b23⟩
  unfold ownE; rw [if_neg c16, if_neg c17, if_neg c25, if_neg c36, if_neg c44, if_pos c55]
 refine Lv (.bool false) (x_eqlF rfl rfl rfl c55) (Lv (.bool false) (x_assign rfl rfl) (Ln (sN (Wc (b := false) rfl (fun h => nomatch h) (fun _ => Wk (Fx.blkN (sN (Ws (Wl (Lv (.agg (Fx.varr 14 (evY ⟨v.o, v.seq, v.deps, v.kind, 0, 0, 0, 0, 0⟩))) (x_loadA (x := evY ⟨v.o, v.seq, v.deps, v.kind, 0, 0, 0, 0, 0⟩) (y := evY ⟨v.o, v.seq, v.deps, v.kind, 0, 0, 0, 0, 0⟩) rfl rfl (by kernel_rfl) (by kernel_rfl) m9.cel (i := 0) (by omega) (by omega) (fun j _ => by rw [Nat.zero_add])) (Fx.L.storeA (x := fun i => (#[.int .i64 (0), .int .u64 (0), .int .u64 (0), .int .u64 (0), .int .u64 (0), .int .u64 (0), .int .u64 (0), .int .u64 (0), .int .u8 (0), .int .u64 (0), .int .i64 (0), .int .i64 (0), .int .u64 (0), .int .u64 (0)] : Array Value).getD i undef) (y := evY ⟨v.o, v.seq, v.deps, v.kind, 0, 0, 0, 0, 0⟩) (by rfl) rfl rfl rfl rfl (evY_one _) (by kernel_rfl) m11 (i := 0) (by omega) fun w24 m88 s24 z24 => ?_)))))))))))
 have m89 : Fx.Blk w24 g2 14 (evY ⟨v.o, v.seq, v.deps, v.kind, 0, 0, 0, 0, 0⟩) 50 := Fx.ovr_all m88
 have m90 := m10.stp s24 (by omega)
 have m91 := m9.stp s24 (by omega)
 have b24 := s24.below b4 b4.size (by omega)
 refine Ln (sN (Wr (⟨.agg (Fx.varr 14 (evY ⟨v.o, v.seq, v.deps, v.kind, 0, 0, 0, 0, 0⟩)), rV Try.results64 ⟨_, rfl, Fx.run_loadV m89.cel (by kernel_rfl) (by kernel_rfl)⟩, ?_⟩)))
 refine ⟨congrArg (fun q => Ending.returned (Value.agg q)) (Fx.varr_congr fun i hi => ?_), b24⟩
 unfold ownE; rw [if_neg c16, if_neg c17, if_neg c25, if_neg c36, if_neg c44, if_neg c55]
end Go.Proofs.Ytleajegppehbdaa
