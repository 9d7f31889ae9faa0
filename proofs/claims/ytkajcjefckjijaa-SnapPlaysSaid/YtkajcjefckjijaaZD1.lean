/-
  What the proof of the law rests on, part 1: walks of functions, and plain laws; each says its conditions itself.
-/
import Derived.WalkKit
import Derived.WalkSpells
import Derived.Laws.AppendOwnNone
import Derived.Deep.QuietTactic
import Derived.BigQuiet
import Derived.RegionTactic
import Derived.Deep.RegionWith
import Derived.Deep.RegionLaw
import Derived.Deep.AppendLies
import Derived.Deep.Cut
import Derived.Deep.OwnRows
import Derived.StillTailTactics
import Derived.Deep.RegionHeld3
import Derived.Deep.MidRow
import Derived.StillTail
import Derived.DeepKeys
import Derived.Test.YtkajcjefckjijaaRows
import Derived.BigRegion
import Derived.Deep.DeepCutAuto
set_option maxHeartbeats 1600000
set_option linter.unusedVariables false
set_option linter.unusedSimpArgs false
namespace Go.Proofs.Ytkajcjefckjijaa
open Go.RowKit
def iarr (k : IntKind) (n : Nat) (x : Nat → Int) : Array Value := Array.ofFn (fun i : Fin n => .int k (x i))
theorem iarr_size (k : IntKind) (n : Nat) (x : Nat → Int) : (iarr k n x).size = n := by unfold iarr; simp
theorem iarr_get (k : IntKind) (n : Nat) (x : Nat → Int) (i : Nat) (h : i < n) : (iarr k n x)[i]? = some (.int k (x i)) := by unfold iarr; simp [h]
theorem iarr_cell {k : IntKind} {n : Nat} {x : Nat → Int} {w : World} {b : Nat} {t : TypeId} {fz : Nat × Nat} (h : w.heap[b]? = some (.cells (iarr k n x) t fz)) (i : Nat) (hi : i < n) :
    w.cell? ⟨b, i, none⟩ = some (.int k (x i)) := by
  rw [cell_of_row w b i _ _ _ h]; exact iarr_get k n x i hi
def upd (x : Nat → Int) (i : Nat) (v : Int) : Nat → Int := fun j => if j = i then v else x j
theorem iarr_set (k : IntKind) (n : Nat) (x : Nat → Int) (i : Nat) (v : Int) : (iarr k n x).setIfInBounds i (.int k v) = iarr k n (upd x i v) := by
  apply Array.ext_getElem?
  intro j
  by_cases hj : j < n
  · rw [iarr_get _ _ _ j hj, Array.getElem?_setIfInBounds, iarr_size]
    unfold upd
    by_cases h : i = j
    · subst h; simp [hj]
    have h' : ¬ j = i := fun e => h e.symm
    simp [h, h', iarr_get k n x j hj]
  rw [Array.getElem?_eq_none (by rw [Array.size_setIfInBounds, iarr_size]; omega), Array.getElem?_eq_none (by rw [iarr_size]; omega)]
theorem iarr_congr {k : IntKind} {n : Nat} {x y : Nat → Int} (h : ∀ i, i < n → x i = y i) : iarr k n x = iarr k n y := by
  unfold iarr; congr 1; funext i; rw [h i.1 i.2]
theorem iarr_one (k : IntKind) (n : Nat) (x : Nat → Int) : (iarr k n x).all (·.oneCell') = true := by
  rw [Array.all_eq_true]; intro i hi
  have h : i < n := by rw [iarr_size] at hi; exact hi
  have := iarr_get k n x i h
  rw [Array.getElem?_eq_getElem hi] at this
  rw [Option.some.inj this]; rfl
theorem addr_add (b off j : Nat) : (⟨b, off, none⟩ : Addr).add j = ⟨b, off + j, none⟩ := by unfold Addr.add; split <;> simp_all
theorem bch {w w1 w2 : World} (h : Below w.heap.size w w1) (h2 : Below w1.heap.size w1 w2) : Below w.heap.size w w2 := h.trans (h2.mono h.size)
theorem bdrN (w : World) (n : Nat) : Below w.heap.size w (w.drewN n) := ⟨rfl, rfl, rfl, Nat.le_refl _, fun _ _ => rfl⟩
theorem bN {B : Nat} {w w' : World} (h : Below B w w') (n : Nat) : Below B w (w'.drewN n) := ⟨h.os, h.tape, h.output, h.size, h.block⟩
theorem run_enter {P : Program} {f : FuncId} {fn : Func} {c : Code} (hf : P.funcs[f]? = some fn) (hname : (fn.name == "runtime.NumGoroutine") = false) (hb : fn.body = some c) (args : Array Value) (w : World) :
    (callFunc f args).run P w = .ok (.enter f args) w := by
  have hn : ¬ fn.name = "runtime.NumGoroutine" := by simpa using hname
  unfold callFunc
  simp [Sem.run_bind, hf, hn, hb]
theorem alloc_at (w : World) (o : Obj) (k : Nat) : (w.alloc o).heap[k]? = if k = w.heap.size then some o else w.heap[k]? := by
  show (w.heap.push o)[k]? = _
  rw [Array.getElem?_push]
theorem alloc_size (w : World) (o : Obj) : (w.alloc o).heap.size = w.heap.size + 1 := by simp
theorem wpOp_plain {P : Program} {ops : Array Oper} {Q : Exit → Act → World → Prop} {i : Nat} {o : Oper} {K : Act → World → Prop} {a : Act} {w : World} (ho : ops[i]? = some o) (hg : o.guard = none)
    (h : ∀ K' : Act → World → Prop, (∀ a w, K a w → K' a w) → o.wp P a w K' Q) : wpOp P ops Q i K a w :=
  wpOp_step ho fun K' hK => by rw [if_pos (by simp [Region.wanted, hg])]; exact h K' hK
theorem brow {w w' : World} {B g : Nat} {cs : Array Value} (h : Below B w w') (hg : B ≤ g) : Below B w (w'.setRow g cs) :=
  h.trans ⟨rfl, rfl, rfl, by simp, fun k hk => setRow_other _ _ _ _ (by omega)⟩
theorem run_storeVar_one {P : Program} (w : World) (g o : Nat) (ty : TypeId) (v old : Value) (hi : (P.info? ty).map (·.size) = some 1) (h1 : v.oneCell' = true) (hc : w.cell? ⟨g, o, none⟩ = some old) (hf : w.frozen? ⟨g, o, none⟩ = false) :
    (storeVar ty ⟨g, o, none⟩ v).run P w = .ok () (w.setCell ⟨g, o, none⟩ v) := by
  have hv : v.cells = #[v] := by cases v <;> first | rfl | (simp [Value.oneCell'] at h1)
  have := run_storeCells_cells (P := P) g o [v] 0 w (fun j hj => by simp at hj; subst hj; simp [hc]) (fun j hj => by simp at hj; subst hj; simpa using hf) (fun u hu => by simp at hu; subst hu; exact h1)
  cases hq : P.info? ty with
  | none => simp [hq] at hi
  | some i =>
    have hs : i.size = 1 := by simp [hq] at hi; omega
    simp only [Nat.add_zero] at this
    simp [storeVar, sizeOf, typeInfo, hq, hv, hs, this, World.setCells]
theorem wp_store_one {P : Program} {op : Oper} {a : Act} {w : World} {K : Act → World → Prop} {Q : Exit → Act → World → Prop} (ty : TypeId) (x y : Operand) (ho : op.op = .store ty x y)
    (g o : Nat) (v old : Value) (hx : a.eval x = .pointer (some ⟨g, o, none⟩)) (hy : a.eval y = v) (hi : (P.info? ty).map (·.size) = some 1) (h1 : v.oneCell' = true) (hc : w.cell? ⟨g, o, none⟩ = some old) (hf : w.frozen? ⟨g, o, none⟩ = false)
    (h : K (a.put op.dst undef) (w.setCell ⟨g, o, none⟩ v)) : op.wp P a w K Q := by
  unfold Oper.wp execOp
  simp only [ho, hx, hy, Instr.storeAt, Instr.sureAddr, Sem.run_bind, Sem.run_pure, Result.andThen_ok, run_storeVar_one w g o ty v old hi h1 hc hf]
  exact h
end Go.Proofs.Ytkajcjefckjijaa
namespace Go.Proofs.Ytkajcjefckjijaa
open Go.RowKit
namespace Fx
def put (f : Nat → Value) (d : Option Nat) (v : Value) : Nat → Value :=
  match d with
  | none => f
  | some d => fun i => bif Nat.beq i d then v else f i
def ev (f : Nat → Value) : Operand → Value
  | .tmp t => f t
  | .const v => v
  | .global g => .pointer (some ⟨g, 0, none⟩)
  | .func g => .func (.func g) #[] #[]
structure Fr (a : Act) (n : Nat) (f : Nat → Value) : Prop where
  size : a.tmps.size = n
  defers : a.defers = []
  get : ∀ i, a.tmps.getD i undef = f i
def inn (n : Nat) (d : Option Nat) : Bool := match d with | none => true | some d => Nat.blt d n
theorem Fr.ev {a : Act} {n : Nat} {f : Nat → Value} (h : Fr a n f) : a.eval = Fx.ev f := by
  funext x
  cases x <;> simp only [Act.eval, Fx.ev]
  exact h.get _
theorem Fr.put {a : Act} {n : Nat} {f : Nat → Value} (h : Fr a n f) {d : Option Nat} (hd : inn n d = true) (v : Value) : Fr (a.put d v) n (Fx.put f d v) := by
  cases d with
  | none => exact h
  | some d =>
    have hd' : d < n := by simpa [inn, Nat.blt_eq] using hd
    refine ⟨by simp [Act.put, h.size], h.defers, fun i => ?_⟩
    have hi := h.get i
    simp only [Act.put, Fx.put, Array.getD_eq_getD_getElem?, Array.getElem?_setIfInBounds] at hi ⊢
    by_cases e : d = i
    · subst e; simp [h.size, hd']
    · have e' : Nat.beq i d = false := by
        cases hq : Nat.beq i d
        · rfl
        · exact absurd (Nat.eq_of_beq_eq_true hq).symm e
      simp [e, e', hi]
def yf (ops : Array Oper) (f : Nat → Value) (j : Nat) : Option Bool :=
  match (ops[j]?).bind (·.dst) with
  | some d => (match f d with | .bool b => some b | _ => none)
  | none => none
theorem Fr.yf {a : Act} {n : Nat} {f : Nat → Value} (h : Fr a n f) (ops : Array Oper) : yielded ops a.tmps = Fx.yf ops f := by
  funext j
  unfold yielded Fx.yf
  cases hd : (ops[j]?).bind (·.dst) with
  | none => rfl
  | some d =>
    simp only [Option.bind_some]
    have hi := h.get d
    rw [Array.getD_eq_getD_getElem?] at hi
    cases hq : a.tmps[d]? with
    | none =>
      rw [hq] at hi
      rw [← hi]
      rfl
    | some v => rw [hq] at hi; rw [← hi]; cases v <;> rfl
abbrev Post := Exit → (Nat → Value) → World → Prop
def lift (n : Nat) (Q : Post) : Exit → Act → World → Prop := fun e a w => ∃ f, Fr a n f ∧ Q e f w
def W (P : Program) (n : Nat) (c : Code) (Q : Post) (f : Nat → Value) (w : World) : Prop := ∀ a, Fr a n f → Code.wp P c (lift n Q) a w
def seqK (P : Program) (n : Nat) (y : Code) (Q : Post) : Post := fun e f w => match e with | .normal => W P n y Q f w | e => Q e f w
def blockK (id : Nat) (Q : Post) : Post := fun e f w => match e with | .exit id' => if id' = id then Q .normal f w else Q (.exit id') f w | e => Q e f w
def loopK (I : (Nat → Value) → World → Prop) (m : (Nat → Value) → World → Nat) (k : Nat) (Q : Post) : Post := fun e f w => match e with | .normal => I f w ∧ m f w < k | e => Q e f w
section
variable {P : Program} {n : Nat} {Q : Post} {f : Nat → Value} {w : World}
theorem Ws {x y : Code} (h : W P n x (seqK P n y Q) f w) : W P n (.seq x y) Q f w := fun a ha =>
  wp_seq (Code.wp_mono (fun e a' w' hq => by
    obtain ⟨f', hf', hq⟩ := hq
    cases e <;> first | exact hq a' hf' | exact ⟨f', hf', hq⟩) (h a ha))
theorem Wk (h : Q .normal f w) : W P n .skip Q f w := fun _ ha => wp_skip ⟨f, ha, h⟩
theorem Wr (h : Q .ret f w) : W P n .ret Q f w := fun _ ha => wp_ret ⟨f, ha, h⟩
theorem Wx {id : Nat} (h : Q (.exit id) f w) : W P n (.exit id) Q f w := fun _ ha => wp_exit ⟨f, ha, h⟩
theorem Wb {id : Nat} {c : Code} (h : W P n c (blockK id Q) f w) : W P n (.block id c) Q f w := fun a ha =>
  wp_block (Code.wp_mono (fun e a' w' hq => by
    obtain ⟨f', hf', hq⟩ := hq
    cases e <;> first
      | exact ⟨f', hf', hq⟩
      | (simp only [blockK] at hq; simp only [Exit.inBlock]; split at hq <;> rename_i hid <;> simp only [hid, if_true, if_false] <;> exact ⟨f', hf', hq⟩)) (h a ha))
theorem Wc {c : Operand} {x y : Code} {b : Bool} (hc : ev f c = .bool b) (ht : b = true → W P n x Q f w) (hf : b = false → W P n y Q f w) : W P n (.cond c x y) Q f w := fun a ha =>
  wp_cond_split (t := b) (by rw [ha.ev]; exact hc) (fun e => ht e a ha) (fun e => hf e a ha)
theorem Wo {c : Code} (I : (Nat → Value) → World → Prop) (m : (Nat → Value) → World → Nat) (h0 : I f w) (hr : ∀ f w, I f w → W P n c (loopK I m (m f w) Q) f w) : W P n (.loop c) Q f w := fun a ha =>
  wp_loop (fun a w => ∃ f, Fr a n f ∧ I f w) (fun a w => m (fun i => a.tmps.getD i undef) w) ⟨f, ha, h0⟩ (fun a w hI => by
    obtain ⟨f, hf, hI⟩ := hI
    have e : (fun i => a.tmps.getD i undef) = f := funext hf.get
    refine Code.wp_mono (fun e' a' w' hq => ?_) (hr f w hI a hf)
    obtain ⟨f', hf', hq⟩ := hq
    cases e' <;> first
      | exact ⟨f', hf', hq⟩
      | (have e'' : (fun i => a'.tmps.getD i undef) = f' := funext hf'.get
         exact ⟨⟨f', hf', hq.1⟩, by rw [e, e'']; exact hq.2⟩))
theorem W.mono {c : Code} {Q' : Post} (h : W P n c Q f w) (hq : ∀ e f w, Q e f w → Q' e f w) : W P n c Q' f w := fun a ha =>
  Code.wp_mono (fun _ _ _ ⟨f', hf', q⟩ => ⟨f', hf', hq _ _ _ q⟩) (h a ha)
def Out (P : Program) (f : Nat → Value) (o : Oper) (w : World) (K : Value → World → Prop) : Prop :=
  (∃ v w', (execOp (ev f) o).run P w = .ok (.value v) w' ∧ K v w') ∨ (∃ w', (execOp (ev f) o).run P w = .ok .skip w' ∧ K undef w') ∨
  ∃ g args, (execOp (ev f) o).run P w = .ok (.enter g args) w ∧ Calls P g args w fun e w' => ∃ v, e = .returned v ∧ K v w'
def L (P : Program) (n : Nat) (ops : Array Oper) (Q : Post) : List Oper → (Nat → Value) → World → Prop
  | [], f, w => Q .normal f w
  | o :: rest, f, w => inn n o.dst = true ∧ ((Region.wanted o (yf ops f) = true ∧ Out P f o w fun v w' => L P n ops Q rest (put f o.dst v) w') ∨ (Region.wanted o (yf ops f) = false ∧ L P n ops Q rest (put f o.dst undef) w))
variable {ops : Array Oper} {rest : List Oper} {o : Oper}
theorem Out.wp {a : Act} {K : Value → World → Prop} {K' : Act → World → Prop} {Q' : Exit → Act → World → Prop} (ha : Fr a n f) (h : Out P f o w K) (hk : ∀ v w', K v w' → K' (a.put o.dst v) w') : o.wp P a w K' Q' := by
  unfold Oper.wp
  rw [ha.ev]
  rcases h with ⟨v, w', hr, h⟩ | ⟨w', hr, h⟩ | ⟨g, args, hr, h⟩
  · rw [hr]; exact hk v w' h
  · rw [hr]; exact hk undef w' h
  rw [hr]; exact h.mono fun e w' ⟨v, he, hl⟩ => by subst he; exact hk v w' hl
theorem L.to : ∀ {l : List Oper} {f : Nat → Value} {w : World}, L P n ops Q l f w → ∀ a, Fr a n f → wpList P ops (lift n Q) l a w
  | [], f, w, h, a, ha => ⟨f, ha, h⟩
  | o :: rest, f, w, ⟨hd, h⟩, a, ha => by
    unfold wpList
    rw [ha.yf]
    rcases h with ⟨hw, h⟩ | ⟨hw, h⟩
    · rw [if_pos hw]
      exact .inl (h.wp ha fun v w' hl => L.to hl _ (ha.put hd v))
    · rw [if_neg (by rw [hw]; decide)]
      exact L.to h _ (ha.put hd undef)
theorem Wl {id : Nat} {ops : List Oper} (h : L P n ops.toArray Q ops f w) : W P n (.region id ops.toArray false) Q f w := fun a ha => wp_region_lit (h.to a ha)
theorem Ln (h : Q .normal f w) : L P n ops Q [] f w := h
abbrev Runs (P : Program) (f : Nat → Value) (o : Oper) (w : World) (v : Value) : Prop := (execOp (ev f) o).run P w = .ok (.value v) w
theorem L.val {v : Value} {w' : World} (hw : Region.wanted o (yf ops f) = true) (hr : (execOp (ev f) o).run P w = .ok (.value v) w') (hd : inn n o.dst = true) (h : L P n ops Q rest (put f o.dst v) w') : L P n ops Q (o :: rest) f w :=
  ⟨hd, .inl ⟨hw, .inl ⟨v, w', hr, h⟩⟩⟩
theorem Lv (v : Value) (hr : Runs P f o w v) (h : L P n ops Q rest (put f o.dst v) w) (hw : Region.wanted o (yf ops f) = true := by rfl) (hd : inn n o.dst = true := by rfl) : L P n ops Q (o :: rest) f w := L.val hw hr hd h
theorem L.unit {w' : World} (hw : Region.wanted o (yf ops f) = true) (hr : (execOp (ev f) o).run P w = .ok .skip w') (hd : inn n o.dst = true) (h : L P n ops Q rest (put f o.dst undef) w') : L P n ops Q (o :: rest) f w :=
  ⟨hd, .inl ⟨hw, .inr (.inl ⟨w', hr, h⟩)⟩⟩
theorem Lk (hw : Region.wanted o (yf ops f) = false) (hd : inn n o.dst = true) (h : L P n ops Q rest (put f o.dst undef) w) : L P n ops Q (o :: rest) f w :=
  ⟨hd, .inr ⟨hw, h⟩⟩
theorem Lcl {g : FuncId} {args : Array Value} (hw : Region.wanted o (yf ops f) = true) (hr : (execOp (ev f) o).run P w = .ok (.enter g args) w) (hd : inn n o.dst = true)
    (h : Calls P g args w fun e w' => ∃ v, e = .returned v ∧ L P n ops Q rest (put f o.dst v) w') : L P n ops Q (o :: rest) f w :=
  ⟨hd, .inl ⟨hw, .inr (.inr ⟨g, args, hr, h⟩)⟩⟩
def Qt (P : Program) (n : Nat) (ops : Array Oper) (C : World → Prop) (Q : (Nat → Value) → Prop) (rest : List Oper) (f : Nat → Value) : Prop := ∀ a, Fr a n f → wpQuiet P ops C (fun a' => ∃ f', Fr a' n f' ∧ Q f') rest a
variable {C : World → Prop} {R : (Nat → Value) → Prop}
theorem W.quiet {id : Nat} {ops : List Oper} (C : World → Prop) (hm : P.follows .mixedOrders = true) (hB : Region.lexB .any ops.toArray = true) (hC : C w.drew)
    (h : Qt P n ops.toArray C (fun f' => ∀ w', C w' → Q .normal f' w') ops f) : W P n (.region id ops.toArray true) Q f w := fun a ha => by
  refine wp_region_quiet (C := C) hm hB hC ?_
  have := h a ha
  have key : ∀ (l : List Oper) (a : Act), wpQuiet P ops.toArray C (fun a' => ∃ f', Fr a' n f' ∧ ∀ w', C w' → Q .normal f' w') l a → wpQuiet P ops.toArray C (fun a' => ∀ w', C w' → lift n Q .normal a' w') l a := by
    intro l
    induction l with
    | nil => intro a h; obtain ⟨f', hf', hq⟩ := h; exact fun w' hw' => ⟨f', hf', hq w' hw'⟩
    | cons o l ih =>
      intro a h
      unfold wpQuiet at h ⊢
      split
      · rename_i hw; rw [if_pos hw] at h; obtain ⟨v, h1, h2⟩ := h; exact ⟨v, h1, ih _ h2⟩
      · rename_i hw; rw [if_neg hw] at h; exact ih _ h
  exact key _ _ this
theorem Qn (h : R f) : Qt P n ops C R [] f := fun _ ha => ⟨f, ha, h⟩
theorem Qt.val {v : Value} (hw : Region.wanted o (yf ops f) = true) (hr : ∀ w, C w → (execOp (ev f) o).run P w = .ok (.value v) w) (hd : inn n o.dst = true) (h : Qt P n ops C R rest (put f o.dst v)) : Qt P n ops C R (o :: rest) f := fun a ha => by
  unfold wpQuiet
  rw [ha.yf, if_pos hw]
  refine ⟨v, fun w hc => ?_, h _ (ha.put hd v)⟩
  unfold Oper.quietAt
  rw [ha.ev, hr w hc]
  exact ⟨rfl, rfl⟩
theorem Qv (v : Value) (hr : ∀ w, C w → Runs P f o w v) (h : Qt P n ops C R rest (put f o.dst v)) (hw : Region.wanted o (yf ops f) = true := by rfl) (hd : inn n o.dst = true := by rfl) : Qt P n ops C R (o :: rest) f := Qt.val hw hr hd h
theorem Qs (hw : Region.wanted o (yf ops f) = false) (hd : inn n o.dst = true) (h : Qt P n ops C R rest (put f o.dst undef)) : Qt P n ops C R (o :: rest) f := fun a ha => by
  unfold wpQuiet
  rw [ha.yf, if_neg (by rw [hw]; decide)]
  exact h _ (ha.put hd undef)
theorem Qcl {v : Value} {g : FuncId} {args : Array Value} (hw : Region.wanted o (yf ops f) = true) (hr : ∀ w, C w → (execOp (ev f) o).run P w = .ok (.enter g args) w) (hd : inn n o.dst = true)
    (hc : ∀ w, C w → Calls P g args w fun e w' => e = .returned v ∧ C w') (h : Qt P n ops C R rest (put f o.dst v)) : Qt P n ops C R (o :: rest) f := fun a ha => by
  unfold wpQuiet
  rw [ha.yf, if_pos hw]
  refine ⟨v, fun w hcw => ?_, h _ (ha.put hd v)⟩
  unfold Oper.quietAt
  rw [ha.ev, hr w hcw]
  exact ⟨rfl, hc w hcw⟩
def St (P : Program) (n : Nat) (ops : Array Oper) (w : World) (Q : (Nat → Value) → Prop) (rest : List Oper) (f : Nat → Value) : Prop := ∀ a, Fr a n f → wpStill P ops w (fun a' => ∃ f', Fr a' n f' ∧ Q f') rest a
theorem St.nil (h : R f) : St P n ops w R [] f := fun _ ha => ⟨f, ha, h⟩
theorem St.val {v : Value} (hw : Region.wanted o (yf ops f) = true) (hr : (execOp (ev f) o).run P w = .ok (.value v) w) (hd : inn n o.dst = true) (h : St P n ops w R rest (put f o.dst v)) : St P n ops w R (o :: rest) f := fun a ha => by
  unfold wpStill
  rw [ha.yf, if_pos hw]
  unfold Oper.still
  rw [ha.ev, hr]
  exact ⟨rfl, h _ (ha.put hd v)⟩
theorem Stv (v : Value) (hr : Runs P f o w v) (h : St P n ops w R rest (put f o.dst v)) (hw : Region.wanted o (yf ops f) = true := by rfl) (hd : inn n o.dst = true := by rfl) : St P n ops w R (o :: rest) f := St.val hw hr hd h
theorem St.skip (hw : Region.wanted o (yf ops f) = false) (hd : inn n o.dst = true) (h : St P n ops w R rest (put f o.dst undef)) : St P n ops w R (o :: rest) f := fun a ha => by
  unfold wpStill
  rw [ha.yf, if_neg (by rw [hw]; decide)]
  exact h _ (ha.put hd undef)
theorem St.call {v : Value} {g : FuncId} {args : Array Value} (hw : Region.wanted o (yf ops f) = true) (hr : (execOp (ev f) o).run P w = .ok (.enter g args) w) (hd : inn n o.dst = true)
    (hc : Calls P g args w fun e w' => e = .returned v ∧ w' = w) (h : St P n ops w R rest (put f o.dst v)) : St P n ops w R (o :: rest) f := fun a ha => by
  unfold wpStill
  rw [ha.yf, if_pos hw]
  unfold Oper.still
  rw [ha.ev, hr]
  exact ⟨rfl, v, hc, h _ (ha.put hd v)⟩
theorem Wt {id : Nat} {ops : List Oper} (k : Nat) (hm : P.follows .mixedOrders = true) (hB : Region.lexTailB .any ops.toArray k = true)
    (h : ∀ w1, Below w.heap.size w w1 → w1.heap.size = w.heap.size → St P n ops.toArray w1 (fun f' => L P n ops.toArray Q (ops.drop k) f' w1) (ops.take k) f) : W P n (.region id ops.toArray true) Q f w := fun a ha => by
  refine wp_region_still_tail k hm hB ?_
  have := h { w with drawn := w.drawn + 1 } (Below.refl _ _).drew rfl a ha
  have key : ∀ (l : List Oper) (a : Act), wpStill P ops.toArray { w with drawn := w.drawn + 1 } (fun a' => ∃ f', Fr a' n f' ∧ L P n ops.toArray Q (ops.drop k) f' { w with drawn := w.drawn + 1 }) l a →
      wpStill P ops.toArray { w with drawn := w.drawn + 1 } (fun a' => wpList P ops.toArray (lift n Q) (ops.drop k) a' { w with drawn := w.drawn + 1 }) l a := by
    intro l
    induction l with
    | nil => intro a h; obtain ⟨f', hf', hq⟩ := h; exact hq.to a hf'
    | cons o l ih =>
      intro a h
      unfold wpStill at h ⊢
      split
      · rename_i hw
        rw [if_pos hw] at h
        unfold Oper.still Oper.stillUpon at h ⊢
        split <;> rename_i hr <;> simp only [hr] at h
        · exact ⟨h.1, ih _ h.2⟩
        · exact ⟨h.1, ih _ h.2⟩
        · obtain ⟨h1, v, h2, h3⟩ := h; exact ⟨h1, v, h2, ih _ h3⟩
      · rename_i hw; rw [if_neg hw] at h; exact ih _ h
  exact key _ _ this
def rdF (f : Nat → Value) : ResultVar → Sem Value
  | .tmp t => pure (f t)
  | .cell a t => do loadVar t (← asAddr (f a))
def resF (fn : Func) (f : Nat → Value) : Sem Value := do
  let vs ← fn.results.mapM (rdF f)
  pure (if h : vs.size = 1 then vs[0] else .tuple vs)
def retK (P : Program) (fn : Func) (R : Ending → World → Prop) : Post := fun e f w => match e with
  | .normal => ∃ v, (resF fn f).run P w = .ok v w ∧ R (.returned v) w
  | .ret => ∃ v, (resF fn f).run P w = .ok v w ∧ R (.returned v) w
  | .outgrown => R .outgrown w
  | _ => False
theorem resF_eq {a : Act} {n : Nat} {f : Nat → Value} (h : Fr a n f) (fn : Func) : results fn a.tmps = resF fn f := by
  unfold results resF
  congr 1
  congr 1
  funext x
  cases x <;> simp only [h.get, rdF]
def start (args : Array Value) : Nat → Value := fun i => args.getD i undef
theorem enter {g : FuncId} {fn : Func} {c : Code} {args : Array Value} {R : Ending → World → Prop} (hf : P.funcs[g]? = some fn) (hb : fn.body = some c) (hn : fn.ntmps = n) (ha : Nat.ble args.size n = true)
    (h : W P n c (retK P fn R) (start args) w) : Calls P g args w R := by
  have ha' : args.size ≤ n := Nat.le_of_ble_eq_true ha
  refine calls_of_wp hf hb ?_
  refine Code.wp_mono (fun e a w' hq => ?_) (h _ ⟨?_, rfl, ?_⟩)
  · obtain ⟨f', hf', hq⟩ := hq
    cases e <;> first
      | exact hq.elim
      | (obtain ⟨v, h1, h2⟩ := hq; exact ⟨hf'.defers, v, by rw [resF_eq hf']; exact h1, h2⟩)
      | exact hq
  · simp [hn]; omega
  intro i
  simp only [start, Array.getD_eq_getD_getElem?, Array.getElem?_append, Array.getElem?_replicate]
  by_cases hi : i < args.size
  · simp [hi]
  simp [hi]
  by_cases h2 : i - args.size < fn.ntmps - args.size
  · simp [h2]
  simp [h2]
theorem ret0 {fn : Func} (hr : fn.results = #[]) : (resF fn f).run P w = .ok (.tuple #[]) w := by
  unfold resF; simp [hr]
theorem sN {y : Code} (h : W P n y Q f w) : seqK P n y Q .normal f w := h
theorem seqX {y : Code} {id : Nat} (h : Q (.exit id) f w) : seqK P n y Q (.exit id) f w := h
theorem sR {y : Code} (h : Q .ret f w) : seqK P n y Q .ret f w := h
theorem blkN {id : Nat} (h : Q .normal f w) : blockK id Q .normal f w := h
theorem blkR {id : Nat} (h : Q .ret f w) : blockK id Q .ret f w := h
theorem blkX {id : Nat} (h : Q .normal f w) : blockK id Q (.exit id) f w := by simp only [blockK, if_true]; exact h
theorem blkO {id id' : Nat} (hne : Nat.beq id' id = false) (h : Q (.exit id') f w) : blockK id Q (.exit id') f w := by
  have : id' ≠ id := fun e => by subst e; rw [Nat.beq_refl] at hne; cases hne
  simp only [blockK, this, if_false]; exact h
theorem lpX {I : (Nat → Value) → World → Prop} {m : (Nat → Value) → World → Nat} {k id : Nat} (h : Q (.exit id) f w) : loopK I m k Q (.exit id) f w := h
theorem lpR {I : (Nat → Value) → World → Prop} {m : (Nat → Value) → World → Nat} {k : Nat} (h : Q .ret f w) : loopK I m k Q .ret f w := h
theorem lpN {I : (Nat → Value) → World → Prop} {m : (Nat → Value) → World → Nat} {k : Nat} (h : I f w) (hm : m f w < k) : loopK I m k Q .normal f w := ⟨h, hm⟩
theorem args1 {x1 : Operand} {v1 : Value} (h1 : ev f x1 = v1) : [x1].map (ev f) = [v1] := by rw [List.map_cons, h1]; rfl
theorem args2 {x1 x2 : Operand} {v1 v2 : Value} (h1 : ev f x1 = v1) (h2 : ev f x2 = v2) : [x1, x2].map (ev f) = [v1, v2] := by rw [List.map_cons, h1, args1 h2]
theorem args3 {x1 x2 x3 : Operand} {v1 v2 v3 : Value} (h1 : ev f x1 = v1) (h2 : ev f x2 = v2) (h3 : ev f x3 = v3) : [x1, x2, x3].map (ev f) = [v1, v2, v3] := by rw [List.map_cons, h1, args2 h2 h3]
end
end Fx
end Go.Proofs.Ytkajcjefckjijaa
namespace Go.Proofs.Ytkajcjefckjijaa
open Go.RowKit
namespace Fx
section
variable {P : Program} {f : Nat → Value} {w : World} {o : Oper}
theorem x_move {x : Operand} {v : Value} (ho : o.op = .move x) (hx : ev f x = v) : Runs P f o w v := by
  unfold Runs execOp; simp [ho, hx]
theorem x_assign {x : Operand} {v : Value} (ho : o.op = .assign x) (hx : ev f x = v) : Runs P f o w v := by
  unfold Runs execOp; simp [ho, hx]
theorem run_eqGuard_ints {P : Program} {w : World} (op : BinOp) (t : TypeId) (x y : Operand) (k k' : IntKind) (a b : Int) : (eqGuard op t x y (.int k a) (.int k' b)).run P w = .ok () w := by
  unfold eqGuard; cases op <;> rfl
theorem x_int {op : BinOp} {T T' : TypeId} {x y : Operand} {k : IntKind} {a b : Int} {v : Value} (ho : o.op = .binOp op T x y T') (hx : ev f x = .int k a) (hy : ev f y = .int k b) (h : (binOp op T (.int k a) (.int k b)).run P w = .ok v w) : Runs P f o w v := by
  unfold Runs execOp
  simp only [ho, hx, hy]
  simp only [Sem.run_bind, run_eqGuard_ints, Result.andThen_ok, h, Sem.run_pure]
theorem x_add {T T' : TypeId} {x y : Operand} {k : IntKind} {a b c : Int} (ho : o.op = .binOp .add T x y T') (hx : ev f x = .int k a) (hy : ev f y = .int k b) (hc : k.wrap (a + b) = c) : Runs P f o w (.int k c) :=
  x_int ho hx hy (by simp [binOp, Op.intArith, hc])
theorem x_sub {T T' : TypeId} {x y : Operand} {k : IntKind} {a b c : Int} (ho : o.op = .binOp .sub T x y T') (hx : ev f x = .int k a) (hy : ev f y = .int k b) (hc : k.wrap (a - b) = c) : Runs P f o w (.int k c) :=
  x_int ho hx hy (by simp [binOp, Op.intArith, hc])
theorem x_mul {T T' : TypeId} {x y : Operand} {k : IntKind} {a b c : Int} (ho : o.op = .binOp .mul T x y T') (hx : ev f x = .int k a) (hy : ev f y = .int k b) (hc : k.wrap (a * b) = c) : Runs P f o w (.int k c) :=
  x_int ho hx hy (by simp [binOp, Op.intArith, hc])
theorem x_quo {T T' : TypeId} {x y : Operand} {k : IntKind} {a b c : Int} (ho : o.op = .binOp .quo T x y T') (hx : ev f x = .int k a) (hy : ev f y = .int k b) (h0 : b ≠ 0) (hc : k.wrap (a.tdiv b) = c) : Runs P f o w (.int k c) :=
  x_int ho hx hy (by simp [binOp, Op.intDiv, hc, h0])
theorem x_rem {T T' : TypeId} {x y : Operand} {k : IntKind} {a b c : Int} (ho : o.op = .binOp .rem T x y T') (hx : ev f x = .int k a) (hy : ev f y = .int k b) (h0 : b ≠ 0) (hc : a.tmod b = c) : Runs P f o w (.int k c) :=
  x_int ho hx hy (by simp [binOp, Op.intDiv, hc, h0])
theorem x_lss {T T' : TypeId} {x y : Operand} {k : IntKind} {a b : Int} (ho : o.op = .binOp .lss T x y T') (hx : ev f x = .int k a) (hy : ev f y = .int k b) : Runs P f o w (.bool (decide (a < b))) :=
  x_int ho hx hy (by simp [binOp, Op.intCmp])
theorem x_leq {T T' : TypeId} {x y : Operand} {k : IntKind} {a b : Int} (ho : o.op = .binOp .leq T x y T') (hx : ev f x = .int k a) (hy : ev f y = .int k b) : Runs P f o w (.bool (decide (a ≤ b))) :=
  x_int ho hx hy (by simp [binOp, Op.intCmp])
theorem x_gtr {T T' : TypeId} {x y : Operand} {k : IntKind} {a b : Int} (ho : o.op = .binOp .gtr T x y T') (hx : ev f x = .int k a) (hy : ev f y = .int k b) : Runs P f o w (.bool (decide (b < a))) :=
  x_int ho hx hy (by simp [binOp, Op.intCmp])
theorem x_geq {T T' : TypeId} {x y : Operand} {k : IntKind} {a b : Int} (ho : o.op = .binOp .geq T x y T') (hx : ev f x = .int k a) (hy : ev f y = .int k b) : Runs P f o w (.bool (decide (b ≤ a))) :=
  x_int ho hx hy (by simp [binOp, Op.intCmp])
theorem x_eql {T T' : TypeId} {x y : Operand} {k : IntKind} {a b : Int} (ho : o.op = .binOp .eql T x y T') (hx : ev f x = .int k a) (hy : ev f y = .int k b) : Runs P f o w (.bool (decide (a = b))) :=
  x_int ho hx hy (by simp [binOp, Op.intCmp]; rfl)
theorem x_neq {T T' : TypeId} {x y : Operand} {k : IntKind} {a b : Int} (ho : o.op = .binOp .neq T x y T') (hx : ev f x = .int k a) (hy : ev f y = .int k b) : Runs P f o w (.bool (!decide (a = b))) :=
  x_int ho hx hy (by simp [binOp, Op.intCmp]; rfl)
theorem x_lssT {T T' : TypeId} {x y : Operand} {k : IntKind} {a b : Int} (ho : o.op = .binOp .lss T x y T') (hx : ev f x = .int k a) (hy : ev f y = .int k b) (h : a < b) : Runs P f o w (.bool true) := by
  have := x_lss (P := P) (w := w) ho hx hy; rwa [decide_eq_true h] at this
theorem x_lssF {T T' : TypeId} {x y : Operand} {k : IntKind} {a b : Int} (ho : o.op = .binOp .lss T x y T') (hx : ev f x = .int k a) (hy : ev f y = .int k b) (h : ¬ (a < b)) : Runs P f o w (.bool false) := by
  have := x_lss (P := P) (w := w) ho hx hy; rwa [decide_eq_false h] at this
theorem x_leqT {T T' : TypeId} {x y : Operand} {k : IntKind} {a b : Int} (ho : o.op = .binOp .leq T x y T') (hx : ev f x = .int k a) (hy : ev f y = .int k b) (h : a ≤ b) : Runs P f o w (.bool true) := by
  have := x_leq (P := P) (w := w) ho hx hy; rwa [decide_eq_true h] at this
theorem x_leqF {T T' : TypeId} {x y : Operand} {k : IntKind} {a b : Int} (ho : o.op = .binOp .leq T x y T') (hx : ev f x = .int k a) (hy : ev f y = .int k b) (h : ¬ (a ≤ b)) : Runs P f o w (.bool false) := by
  have := x_leq (P := P) (w := w) ho hx hy; rwa [decide_eq_false h] at this
theorem x_gtrT {T T' : TypeId} {x y : Operand} {k : IntKind} {a b : Int} (ho : o.op = .binOp .gtr T x y T') (hx : ev f x = .int k a) (hy : ev f y = .int k b) (h : b < a) : Runs P f o w (.bool true) := by
  have := x_gtr (P := P) (w := w) ho hx hy; rwa [decide_eq_true h] at this
theorem x_gtrF {T T' : TypeId} {x y : Operand} {k : IntKind} {a b : Int} (ho : o.op = .binOp .gtr T x y T') (hx : ev f x = .int k a) (hy : ev f y = .int k b) (h : ¬ (b < a)) : Runs P f o w (.bool false) := by
  have := x_gtr (P := P) (w := w) ho hx hy; rwa [decide_eq_false h] at this
theorem x_geqT {T T' : TypeId} {x y : Operand} {k : IntKind} {a b : Int} (ho : o.op = .binOp .geq T x y T') (hx : ev f x = .int k a) (hy : ev f y = .int k b) (h : b ≤ a) : Runs P f o w (.bool true) := by
  have := x_geq (P := P) (w := w) ho hx hy; rwa [decide_eq_true h] at this
theorem x_geqF {T T' : TypeId} {x y : Operand} {k : IntKind} {a b : Int} (ho : o.op = .binOp .geq T x y T') (hx : ev f x = .int k a) (hy : ev f y = .int k b) (h : ¬ (b ≤ a)) : Runs P f o w (.bool false) := by
  have := x_geq (P := P) (w := w) ho hx hy; rwa [decide_eq_false h] at this
theorem x_eqlT {T T' : TypeId} {x y : Operand} {k : IntKind} {a b : Int} (ho : o.op = .binOp .eql T x y T') (hx : ev f x = .int k a) (hy : ev f y = .int k b) (h : a = b) : Runs P f o w (.bool true) := by
  have := x_eql (P := P) (w := w) ho hx hy; rwa [decide_eq_true h] at this
theorem x_eqlF {T T' : TypeId} {x y : Operand} {k : IntKind} {a b : Int} (ho : o.op = .binOp .eql T x y T') (hx : ev f x = .int k a) (hy : ev f y = .int k b) (h : ¬ (a = b)) : Runs P f o w (.bool false) := by
  have := x_eql (P := P) (w := w) ho hx hy; rwa [decide_eq_false h] at this
theorem x_neqT {T T' : TypeId} {x y : Operand} {k : IntKind} {a b : Int} (ho : o.op = .binOp .neq T x y T') (hx : ev f x = .int k a) (hy : ev f y = .int k b) (h : ¬ (a = b)) : Runs P f o w (.bool true) := by
  have := x_neq (P := P) (w := w) ho hx hy; rwa [decide_eq_false h] at this
theorem x_neqF {T T' : TypeId} {x y : Operand} {k : IntKind} {a b : Int} (ho : o.op = .binOp .neq T x y T') (hx : ev f x = .int k a) (hy : ev f y = .int k b) (h : a = b) : Runs P f o w (.bool false) := by
  have := x_neq (P := P) (w := w) ho hx hy; rwa [decide_eq_true h] at this
theorem i64e {a c : Int} (h : -9223372036854775808 ≤ c ∧ c ≤ 9223372036854775807) (e : a = c) : IntKind.i64.wrap a = c := by subst e; exact IntWalk.i64_in _ h
theorem u64e {a c : Int} (h : 0 ≤ c ∧ c ≤ 18446744073709551615) (e : a = c) : IntKind.u64.wrap a = c := by subst e; exact IntWalk.u64_in _ h
theorem x_conv {S T : TypeId} {x : Operand} {k k' : IntKind} {a c : Int} (ho : o.op = .convert S T x) (hx : ev f x = .int k' a) (hs : (P.underlying S).isSome = true) (hd : P.underlying T = some (.int k)) (hc : k.wrap a = c) : Runs P f o w (.int k c) := by
  unfold Runs execOp
  simp only [ho, hx]
  have hk : P.intKind T = k := by unfold Program.intKind; rw [hd]
  have := run_convert_int w S T k' a hs (hk.symm ▸ hd)
  rw [hk, hc] at this
  simp only [Sem.run_bind, this, Result.andThen_ok, Sem.run_pure]
theorem x_len {T : TypeId} {x : Operand} {b : Option Addr} {n c : Nat} {Ts : Array TypeId} (ho : o.op = .call { callee := .builtin .len, args := #[x], argTypes := Ts }) (hT : Ts = #[T]) (hx : ev f x = .slice b n c) (hu : P.underlying T = some (.slice (P.elem T))) : Runs P f o w (.int .i64 n) := by
  unfold Runs execOp
  simp only [ho]
  unfold resolve invoke
  simp only [hT, List.map_toArray, List.map_cons, List.map_nil, hx]
  unfold builtin
  simp only [Sem.run_bind, Sem.run_pure, Result.andThen_ok, run_len_slice w T o.type b n c hu, goInt]
theorem x_max {x y : Operand} {Ts : Array TypeId} {k k' : IntKind} {a b : Int} (ho : o.op = .call { callee := .builtin .max, args := #[x, y], argTypes := Ts }) (hx : ev f x = .int k a) (hy : ev f y = .int k' b) : Runs P f o w (.int k (if b > a then b else a)) := by
  unfold Runs execOp
  simp only [ho]
  unfold resolve invoke
  simp only [List.map_toArray, List.map_cons, List.map_nil, hx, hy]
  unfold builtin
  simp only [Sem.run_bind, Sem.run_pure, Result.andThen_ok, run_max_int2]
theorem x_min {x y : Operand} {Ts : Array TypeId} {k k' : IntKind} {a b : Int} (ho : o.op = .call { callee := .builtin .min, args := #[x, y], argTypes := Ts }) (hx : ev f x = .int k a) (hy : ev f y = .int k' b) : Runs P f o w (.int k (if b < a then b else a)) := by
  unfold Runs execOp
  simp only [ho]
  unfold resolve invoke
  simp only [List.map_toArray, List.map_cons, List.map_nil, hx, hy]
  unfold builtin
  simp only [Sem.run_bind, Sem.run_pure, Result.andThen_ok, run_min_int2]
theorem x_field {S : TypeId} {x : Operand} {i : Nat} {b off off' : Nat} {fs : Array Field} {fd : Field} {s : Nat} (ho : o.op = .fieldAddr S x i) (hx : ev f x = .pointer (some ⟨b, off, none⟩)) (hs : P.underlying S = some (.struct fs))
    (hf : fs[i]? = some fd) (hz : (P.info? fd.type).map (·.size) = some s) (h0 : Nat.beq s 0 = false) (he : off + fd.offset = off') : Runs P f o w (.pointer (some ⟨b, off', none⟩)) := by
  have h0' : s ≠ 0 := fun e => by rw [e] at h0; exact absurd h0 (by decide)
  obtain ⟨z, hz1, hz2⟩ := Option.map_eq_some_iff.1 hz
  rw [← hz2] at h0'
  unfold Runs execOp
  simp only [ho, hx]
  simp [Instr.fieldAt, underlying, hs, hf, Instr.sureAddr, fieldPlace, sizeOf, typeInfo, hz1, h0', addr_add, he]
theorem x_index {T : TypeId} {x i : Operand} {b off off' : Nat} {k : IntKind} {j : Int} {m s : Nat} {E : TypeId} (ho : o.op = .indexAddr T x i) (hx : ev f x = .pointer (some ⟨b, off, none⟩)) (hi : ev f i = .int k j)
    (hu : P.underlying T = some (.array m E)) (hz : (P.info? E).map (·.size) = some s) (h0 : 0 ≤ j) (h1 : j < (m : Int)) (he : off + j.toNat * s = off') : Runs P f o w (.pointer (some ⟨b, off', none⟩)) := by
  obtain ⟨z, hz1, hz2⟩ := Option.map_eq_some_iff.1 hz
  unfold Runs execOp
  simp only [ho, hx, hi]
  simp [Instr.indexAt, asIntOf, underlying, hu, Instr.sureAddr, h0, h1, sizeOf, typeInfo, hz1, hz2, addr_add, he]
theorem x_indexS {T : TypeId} {x i : Operand} {b off off' len cap : Nat} {k : IntKind} {j : Int} {s : Nat} {E : TypeId} (ho : o.op = .indexAddr T x i) (hx : ev f x = .slice (some ⟨b, off, none⟩) len cap) (hi : ev f i = .int k j)
    (hu : P.underlying T = some (.slice E)) (hz : (P.info? E).map (·.size) = some s) (h0 : 0 ≤ j) (h1 : j < (len : Int)) (he : off + j.toNat * s = off') : Runs P f o w (.pointer (some ⟨b, off', none⟩)) := by
  obtain ⟨z, hz1, hz2⟩ := Option.map_eq_some_iff.1 hz
  unfold Runs execOp
  simp only [ho, hx, hi]
  simp [Instr.indexAt, asIntOf, underlying, hu, h0, h1, sizeOf, typeInfo, hz1, hz2, addr_add, he]
end
end Fx
end Go.Proofs.Ytkajcjefckjijaa
namespace Go.Proofs.Ytkajcjefckjijaa
open Go.RowKit
namespace Fx
def varr (n : Nat) (x : Nat → Value) : Array Value := Array.ofFn (fun i : Fin n => x i)
theorem varr_size (n : Nat) (x : Nat → Value) : (varr n x).size = n := by unfold varr; simp
theorem varr_get {n : Nat} (x : Nat → Value) {i : Nat} (h : i < n) : (varr n x)[i]? = some (x i) := by unfold varr; simp [h]
theorem varr_none {n : Nat} (x : Nat → Value) {i : Nat} (h : n ≤ i) : (varr n x)[i]? = none := by unfold varr; simp [h]
theorem varr_ext {n : Nat} {x : Nat → Value} {a : Array Value} (hs : a.size = n) (h : ∀ i, i < n → a[i]? = some (x i)) : a = varr n x := by
  apply Array.ext_getElem?
  intro i
  by_cases hi : i < n
  · rw [h i hi, varr_get x hi]
  rw [varr_none x (by omega), Array.getElem?_eq_none (by omega)]
theorem varr_congr {n : Nat} {x y : Nat → Value} (h : ∀ i, i < n → x i = y i) : varr n x = varr n y := by
  unfold varr; congr 1; funext i; exact h i.1 i.2
def updV (x : Nat → Value) (i : Nat) (v : Value) : Nat → Value := fun j => if j = i then v else x j
def ovr (x : Nat → Value) (o m : Nat) (y : Nat → Value) : Nat → Value := fun j => if o ≤ j ∧ j < o + m then y (j - o) else x j
theorem updV_eq {x : Nat → Value} {i j : Nat} {v : Value} (h : j = i) : updV x i v j = v := by unfold updV; rw [if_pos h]
def rv (k : IntKind) (x : Nat → Int) : Nat → Value := fun i => .int k (x i)
theorem updV_rv (k : IntKind) (x : Nat → Int) (i : Nat) (v : Int) : updV (rv k x) i (.int k v) = rv k (upd x i v) := by
  funext j; unfold updV rv upd; split <;> rfl
def Cel (w : World) (b off n : Nat) (x : Nat → Value) : Prop := ∀ i, i < n → w.cell? ⟨b, off + i, none⟩ = some (x i)
def Blk (w : World) (g n : Nat) (x : Nat → Value) (T : TypeId) : Prop := w.heap[g]? = some (.cells (varr n x) T (0, 0))
structure Stp (g : Nat) (w w' : World) : Prop where
  os : w'.os = w.os
  tape : w'.tape = w.tape
  output : w'.output = w.output
  size : w.heap.size ≤ w'.heap.size
  block : ∀ k, k < w.heap.size → k ≠ g → w'.heap[k]? = w.heap[k]?
theorem Stp.below {g B : Nat} {w0 w w' : World} (s : Stp g w w') (h : Below B w0 w) (hB : B ≤ w.heap.size) (hg : B ≤ g) : Below B w0 w' :=
  h.trans ⟨s.os, s.tape, s.output, s.size, fun k hk => s.block k (by omega) (by omega)⟩
theorem Sb {w w' : World} (h : Below w.heap.size w w') : Stp w.heap.size w w' := ⟨h.os, h.tape, h.output, h.size, fun k hk _ => h.block k hk⟩
theorem Stp.old {w w' : World} (s : Stp w.heap.size w w') : Below w.heap.size w w' := ⟨s.os, s.tape, s.output, s.size, fun k hk => s.block k hk (by omega)⟩
theorem Stp.drew {g : Nat} {w w' : World} (s : Stp g w w') : Stp g w w'.drew := ⟨s.os, s.tape, s.output, s.size, s.block⟩
theorem sRf (g : Nat) (w : World) : Stp g w w := ⟨rfl, rfl, rfl, Nat.le_refl _, fun _ _ _ => rfl⟩
theorem Stp.alloc (w : World) (o : Obj) : Stp w.heap.size w (w.alloc o) := Sb ((Below.refl _ _).alloc (Nat.le_refl _) o)
theorem Blk.lt {w : World} {g n : Nat} {x : Nat → Value} {T : TypeId} (h : Blk w g n x T) : g < w.heap.size := (Array.getElem?_eq_some_iff.1 h).1
theorem Blk.stp {w w' : World} {g b n : Nat} {x : Nat → Value} {T : TypeId} (h : Blk w b n x T) (s : Stp g w w') (ne : b ≠ g) : Blk w' b n x T := (s.block b h.lt ne).trans h
theorem Blk.cel {w : World} {g n : Nat} {x : Nat → Value} {T : TypeId} (h : Blk w g n x T) : Cel w g 0 n x := fun i hi => by
  rw [Nat.zero_add, cell_of_row w g i _ _ _ h]; exact varr_get x hi
theorem Cel.lt {w : World} {b off n : Nat} {x : Nat → Value} (h : Cel w b off n x) (hn : 0 < n) : b < w.heap.size := block_lt_of_cell (h 0 hn)
theorem Cel.stp {w w' : World} {g b off n : Nat} {x : Nat → Value} (h : Cel w b off n x) (s : Stp g w w') (ne : b ≠ g) : Cel w' b off n x := fun i hi => by
  have hc := h i hi
  have hlt : b < w.heap.size := block_lt_of_cell hc
  rw [← hc]
  exact World.cell?_of_block (w := w) (s.block b hlt ne)
theorem Cel.below {w w' : World} {b off n B : Nat} {x : Nat → Value} (h : Cel w b off n x) (s : Below B w w') (hb : b < B) : Cel w' b off n x := fun i hi => by
  rw [← h i hi]; exact s.cell (p := ⟨b, off + i, none⟩) hb
theorem Cel.sub {w : World} {b off n : Nat} {x : Nat → Value} (h : Cel w b off n x) (o m : Nat) (hm : o + m ≤ n) : Cel w b (off + o) m (fun i => x (o + i)) := fun i hi => by
  have := h (o + i) (by omega); rwa [← Nat.add_assoc] at this
def aggT (P : Program) (T : TypeId) : Bool := match P.underlying T with | some (.struct _) => true | some (.array _ _) => true | _ => false
def oneT (P : Program) (T : TypeId) : Bool := match P.underlying T with | some (.struct _) => false | some (.array _ _) => false | some _ => true | none => false
theorem Blk.to {w : World} {g n : Nat} {x y : Nat → Value} {T : TypeId} (h : Blk w g n x T) (e : x = y) : Blk w g n y T := e ▸ h
theorem upd_all {w : World} {g : Nat} {x : Nat → Value} {v : Value} {T : TypeId} (h : Blk w g 1 (updV x 0 v) T) : Blk w g 1 (fun _ => v) T := by
  unfold Blk at *
  rw [h, varr_congr (y := fun _ => v) fun i hi => by simp [updV]; omega]
theorem ovr_all {w : World} {g n : Nat} {x y : Nat → Value} {T : TypeId} (h : Blk w g n (ovr x 0 n y) T) : Blk w g n y T := by
  unfold Blk at *
  rw [h, varr_congr (y := y) fun i hi => by simp [ovr, hi]]
section
variable {P : Program} {n : Nat} {Q : Post} {f : Nat → Value} {w : World} {ops : Array Oper} {rest : List Oper} {o : Oper}
theorem x_load1 {T : TypeId} {a : Operand} {b off m i p : Nat} {x : Nat → Value} {v : Value} (ho : o.op = .load T a) (ha : ev f a = .pointer (some ⟨b, p, none⟩)) (hT : oneT P T = true) (hc : Cel w b off m x) (hi : i < m) (he : p = off + i) (hv : x i = v) : Runs P f o w v := by
  subst he
  subst hv
  have h1 := hc i hi
  unfold Runs execOp
  simp only [ho, ha]
  unfold oneT at hT
  cases hu : P.underlying T with
  | none => rw [hu] at hT; cases hT
  | some d =>
    rw [hu] at hT
    cases d <;> first
      | (cases hT; done)
      | simp [Instr.loadAt, Instr.sureAddr, loadVar, isAgg, underlying, hu, h1]
theorem x_loadA {T : TypeId} {a : Operand} {b off m i p s : Nat} {x y : Nat → Value} (ho : o.op = .load T a) (ha : ev f a = .pointer (some ⟨b, p, none⟩)) (hT : aggT P T = true) (hz : (P.info? T).map (·.size) = some s) (hc : Cel w b off m x) (hi : i + s ≤ m) (he : p = off + i) (hy : ∀ j, j < s → x (i + j) = y j) :
    Runs P f o w (.agg (varr s y)) := by
  subst he
  rw [← varr_congr hy]
  have hl : (varr s (fun j => x (i + j))).toList.length = s := by simp [varr_size]
  have hr : w.rangeAt b (off + i) (varr s (fun j => x (i + j))).toList := fun j v hv => by
    have hj : j < s := by have := (List.getElem?_eq_some_iff.1 hv).1; simpa [varr_size] using this
    rw [Array.getElem?_toList, varr_get _ hj] at hv
    rw [← Option.some.inj hv, Nat.add_assoc]
    exact hc (i + j) (by omega)
  unfold aggT at hT
  cases hu : P.underlying T with
  | none => rw [hu] at hT; cases hT
  | some d =>
    rw [hu] at hT
    have hd : d.isRow = true := by cases d <;> first | (cases hT; done) | rfl
    have := run_loadAt_mid (P := P) w b (off + i) T (varr s (fun j => x (i + j))).toList d hr hu hd (by rw [hl]; exact hz)
    unfold Runs execOp
    simp only [ho, ha, Sem.run_bind, this, Result.andThen_ok, Sem.run_pure, Array.toArray_toList]
theorem setRow_stp {g : Nat} {old cs : Array Value} {T : TypeId} (hg : w.heap[g]? = some (.cells old T (0, 0))) : Stp g w (w.setRow g cs) ∧ (w.setRow g cs).heap[g]? = some (.cells cs T (0, 0)) ∧ (w.setRow g cs).heap.size = w.heap.size := by
  refine ⟨⟨rfl, rfl, rfl, by simp, fun k _ hne => setRow_other _ _ _ _ (by omega)⟩, ?_, by simp⟩
  rw [setRow_heap w g old cs T (0, 0) hg]
theorem L.store1 {T TB : TypeId} {a v : Operand} {g m i : Nat} {x : Nat → Value} {u : Value} (hw : Region.wanted o (yf ops f) = true) (hd : o.dst = none) (ho : o.op = .store T a v) (ha : ev f a = .pointer (some ⟨g, i, none⟩)) (hv : ev f v = u) (h1 : u.oneCell' = true) (hT : (P.info? T).map (·.size) = some 1)
    (hb : Blk w g m x TB) (hi : i < m) (h : ∀ w', Blk w' g m (updV x i u) TB → Stp g w w' → w'.heap.size = w.heap.size → L P n ops Q rest f w') : L P n ops Q (o :: rest) f w := by
  have hcell : w.cell? ⟨g, i, none⟩ = some (x i) := by have := hb.cel i hi; rwa [Nat.zero_add] at this
  have hfz : w.frozen? ⟨g, i, none⟩ = false := by
    unfold World.frozen?
    simp only [show w.heap[g]? = _ from hb]
    simp
  have hr := run_storeVar_one (P := P) w g i T u (x i) hT h1 hcell hfz
  have hrun : (execOp (ev f) o).run P w = .ok .skip (w.setCell ⟨g, i, none⟩ u) := by
    unfold execOp
    simp only [ho, ha, hv, Instr.storeAt, Instr.sureAddr, Sem.run_bind, Sem.run_pure, Result.andThen_ok, hr]
  refine L.unit hw hrun (by rw [hd]; rfl) ?_
  rw [hd]
  refine h _ ?_ ⟨rfl, rfl, rfl, by simp [World.setCell], fun k _ hne => Below.heap_setCell _ _ _ _ (by simpa using hne)⟩ (by simp [World.setCell])
  show (w.setCell ⟨g, i, none⟩ u).heap[g]? = _
  have hg : w.heap[g]? = some (.cells (varr m x) TB (0, 0)) := hb
  simp only [World.setCell, Array.getElem?_modify, if_true, hg, Option.map_some, Option.isSome_none]
  congr 2
  refine varr_ext (by simp [varr_size]) fun j hj => ?_
  simp only [Bool.false_eq_true, if_false, Array.getElem?_setIfInBounds, updV]
  by_cases e : i = j
  · subst e; simp [varr_size, hj]
  rw [if_neg e, varr_get x hj, if_neg (fun h => e h.symm)]
theorem L.storeA {T TB : TypeId} {a v : Operand} {g m i s : Nat} {x y : Nat → Value} (hw : Region.wanted o (yf ops f) = true) (hd : o.dst = none) (ho : o.op = .store T a v) (ha : ev f a = .pointer (some ⟨g, i, none⟩)) (hv : ev f v = .agg (varr s y)) (h1 : ∀ j, j < s → (y j).oneCell' = true) (hT : (P.info? T).map (·.size) = some s)
    (hb : Blk w g m x TB) (hi : i + s ≤ m) (h : ∀ w', Blk w' g m (ovr x i s y) TB → Stp g w w' → w'.heap.size = w.heap.size → L P n ops Q rest f w') : L P n ops Q (o :: rest) f w := by
  have hg : w.heap[g]? = some (.cells (varr m x) TB (0, 0)) := hb
  have hall : ∀ u ∈ (varr s y).toList, u.oneCell' = true := fun u hu => by
    obtain ⟨j, hj, he⟩ := List.getElem_of_mem hu
    have hj' : j < s := by simpa [varr_size] using hj
    have := varr_get y hj'
    rw [← Array.getElem?_toList, List.getElem?_eq_getElem hj, he] at this
    rw [Option.some.inj this]; exact h1 j hj'
  have hr := run_storeCells_at (P := P) g i TB (varr s y).toList 0 (varr m x) w hg (by simp [varr_size]; omega) hall
  have hrun : (execOp (ev f) o).run P w = .ok .skip (w.setRow g ((varr m x).toList.take (i + 0) ++ (varr s y).toList ++ (varr m x).toList.drop (i + 0 + (varr s y).toList.length)).toArray) := by
    unfold execOp
    cases hq : P.info? T with
    | none => simp [hq] at hT
    | some z =>
      have hz : z.size = s := by simp [hq] at hT; omega
      have hsz : (Value.agg (varr s y)).cells = varr s y := rfl
      simp only [ho, ha, hv, Instr.storeAt, Instr.sureAddr, Sem.run_bind, Sem.run_pure, Result.andThen_ok, storeVar, sizeOf, typeInfo, run_program, hq, hsz, varr_size, hz, ne_eq, not_true_eq_false, if_false, hr]
  refine L.unit hw hrun (by rw [hd]; rfl) ?_
  rw [hd]
  obtain ⟨s1, s2, s3⟩ := setRow_stp (w := w) (cs := ((varr m x).toList.take (i + 0) ++ (varr s y).toList ++ (varr m x).toList.drop (i + 0 + (varr s y).toList.length)).toArray) hg
  refine h _ ?_ s1 s3
  show _ = _
  rw [s2]
  congr 2
  refine varr_ext (by simp [varr_size]; omega) fun j hj => ?_
  rw [List.getElem?_toArray, List.append_assoc]
  simp only [Nat.add_zero, ovr]
  by_cases c1 : j < i
  · rw [List.getElem?_append_left (by simp [varr_size]; omega), if_neg (by omega), List.getElem?_take, if_pos c1, Array.getElem?_toList, varr_get x hj]
  rw [List.getElem?_append_right (by simp [varr_size]; omega)]
  have hl : (List.take i (varr m x).toList).length = i := by simp [varr_size]; omega
  rw [hl]
  by_cases c2 : j < i + s
  · rw [List.getElem?_append_left (by simp [varr_size]; omega), if_pos ⟨by omega, c2⟩, Array.getElem?_toList, varr_get y (by omega)]
  rw [List.getElem?_append_right (by simp [varr_size]; omega), if_neg (by omega), List.getElem?_drop, Array.getElem?_toList]
  simp only [Array.length_toList, varr_size]
  rw [show i + s + (j - i - s) = j by omega, varr_get x hj]
theorem Lbx {T : TypeId} {x : Operand} {v : Value} {m : Nat} {y : Nat → Value} (hw : Region.wanted o (yf ops f) = true) (ho : o.op = .box T x) (hx : ev f x = v) (hc : v.cells = varr m y) (hd : inn n o.dst = true)
    (h : ∀ g w', g = w.heap.size → Blk w' g m y T → Stp w.heap.size w w' → w'.heap.size = w.heap.size + 1 → L P n ops Q rest (put f o.dst (.pointer (some ⟨g, 0, none⟩))) w') : L P n ops Q (o :: rest) f w := by
  have hrun : (execOp (ev f) o).run P w = .ok (.value (.pointer (some ⟨w.heap.size, 0, none⟩))) (w.alloc (.cells v.cells T)) := by
    unfold execOp
    simp [ho, hx, Instr.box, newVar, newRow]
  refine L.val hw hrun hd (h _ _ rfl ?_ (Stp.alloc _ _) (by simp))
  show (w.alloc _).heap[w.heap.size]? = _
  rw [alloc_at, if_pos rfl, hc]
theorem cells_agg (m : Nat) (y : Nat → Value) : (Value.agg (varr m y)).cells = varr m y := rfl
theorem cells_one {v : Value} (h : v.oneCell' = true) : v.cells = varr 1 (fun _ => v) := by
  cases v <;> first | rfl | (simp [Value.oneCell'] at h)
theorem Lnw {T : TypeId} {m : Nat} {y : Nat → Value} (hw : Region.wanted o (yf ops f) = true) (ho : o.op = .alloc T) (hz : ((P.info? T).bind (·.zero)).map (·.cells) = some (varr m y)) (hd : inn n o.dst = true)
    (h : ∀ g w', g = w.heap.size → Blk w' g m y T → Stp w.heap.size w w' → w'.heap.size = w.heap.size + 1 → L P n ops Q rest (put f o.dst (.pointer (some ⟨g, 0, none⟩))) w') : L P n ops Q (o :: rest) f w := by
  obtain ⟨z, hz1, hz2⟩ := Option.map_eq_some_iff.1 hz
  obtain ⟨i, hi, hz⟩ := Option.bind_eq_some_iff.1 hz1
  have hrun : (execOp (ev f) o).run P w = .ok (.value (.pointer (some ⟨w.heap.size, 0, none⟩))) (w.alloc (.cells z.cells T)) := by
    unfold execOp
    simp [ho, Instr.alloc, zeroValue, typeInfo, hi, hz, newVar, newRow]
  refine L.val hw hrun hd (h _ _ rfl ?_ (Stp.alloc _ _) (by simp))
  show (w.alloc _).heap[w.heap.size]? = _
  rw [alloc_at, if_pos rfl, hz2]
theorem fill_step {place : Nat → Option (Nat × Nat)} {m i off s : Nat} {v : Value} {x y : Nat → Value} {rest : List (Nat × Value)} (hp : place i = some (off, s)) (hv : v.cells = varr s y) (hle : Nat.ble (off + s) m = true) :
    Instr.fill place (varr m x) ((i, v) :: rest) = Instr.fill place (varr m (ovr x off s y)) rest := by
  have hle' : off + s ≤ m := Nat.le_of_ble_eq_true hle
  have key : ∀ (l : List Value) (k : Nat) (a : Array Value), (l.zipIdx k).foldl (fun cs (c, j) => cs.setIfInBounds (off + j) c) a = Array.ofFn (fun q : Fin a.size => if off + k ≤ q.1 ∧ q.1 < off + k + l.length then l.getD (q.1 - off - k) undef else a[q.1]) := by
    intro l
    induction l with
    | nil => intro k a; apply Array.ext <;> simp; intro i h1 h2; omega
    | cons c l ih =>
      intro k a
      rw [List.zipIdx_cons, List.foldl_cons, ih]
      apply Array.ext
      · simp
      · intro q h1 h2
        simp only [Array.size_ofFn, Array.size_setIfInBounds] at h1 h2
        simp only [Array.getElem_ofFn, List.length_cons]
        by_cases c1 : off + (k + 1) ≤ q ∧ q < off + (k + 1) + l.length
        · rw [if_pos c1, if_pos (by omega), show q - off - k = (q - off - (k + 1)) + 1 by omega, List.getD_cons_succ]
        · rw [if_neg c1, Array.getElem_setIfInBounds]
          by_cases c2 : off + k = q
          · rw [if_pos c2, if_pos (by omega), show q - off - k = 0 by omega]; rfl
          · rw [if_neg c2, if_neg (by omega)]
  conv => lhs; unfold Instr.fill
  simp only [hp, hv, varr_size]
  rw [if_neg (by rw [show decide (s ≠ s) = false from decide_eq_false (fun h => h rfl), Bool.false_or]; simpa using hle')]
  congr 1
  rw [← Array.foldl_toList, Array.toList_zipIdx, key]
  refine varr_ext (by simp [varr_size]) fun j hj => ?_
  have hj2 : j < (varr m x).size := by rw [varr_size]; exact hj
  rw [Array.getElem?_ofFn, dif_pos hj2]
  simp only [Array.length_toList, varr_size, ovr, Nat.add_zero, Nat.sub_zero]
  by_cases c : off ≤ j ∧ j < off + s
  · rw [if_pos c, if_pos c, List.getD_eq_getElem?_getD, Array.getElem?_toList, varr_get y (by omega)]; rfl
  rw [if_neg c, if_neg c]
  have := varr_get x hj
  rw [Array.getElem?_eq_getElem hj2] at this
  exact this
theorem r_clo {g : FuncId} {fn : Func} {c : Code} {t : Operand} {xs : List Operand} {args : List Value} {Ts : Array TypeId} {first cap : Array Value} {all : Array Value} (ho : o.op = .call { callee := .value t, args := xs.toArray, argTypes := Ts }) (ht : ev f t = .func (.func g) first cap) (hx : xs.map (ev f) = args) (hall : first ++ args.toArray ++ cap = all)
    (hf : P.funcs[g]? = some fn) (hn : (fn.name == "runtime.NumGoroutine") = false) (hb : fn.body = some c) : (execOp (ev f) o).run P w = .ok (.enter g all) w := by
  unfold execOp
  simp only [ho]
  unfold resolve
  simp only [Sem.run_bind, List.map_toArray, hx, ht, Deferred.ofValue, Sem.run_pure, Result.andThen_ok]
  unfold invoke
  simp only [hall]
  exact run_enter hf hn hb all w
theorem x_func {fn : Fn} {xs ys : List Operand} {us vs : List Value} (ho : o.op = .makeFunc fn xs.toArray ys.toArray) (hx : xs.map (ev f) = us) (hy : ys.map (ev f) = vs) : Runs P f o w (.func fn us.toArray vs.toArray) := by
  unfold Runs execOp
  simp [ho, Instr.makeFunc, hx, hy]
end
end Fx
end Go.Proofs.Ytkajcjefckjijaa
namespace Go.Proofs.Ytkajcjefckjijaa
open Go.RowKit
def litOf : Option IntKind → Value → Option Lit
  | none, .bool b => some (.bool b)
  | some q, .int q' n => if q' = q ∧ (Lit.int q n).wf = true then some (.int q n) else none
  | _, _ => none
def Fit : List (Option IntKind) → List Value → List Lit → Prop
  | [], [], [] => True
  | k :: ks, c :: cs, l :: ls => litOf k c = some l ∧ Fit ks cs ls
  | _, _, _ => False
theorem Fit.lengths : ∀ {ks : List (Option IntKind)} {cs : List Value} {ls : List Lit}, Fit ks cs ls → cs.length = ks.length ∧ ls.length = ks.length
  | [], [], [], _ => ⟨rfl, rfl⟩
  | _ :: _, _ :: _, _ :: _, h => by have := Fit.lengths h.2; simp [this.1, this.2]
  | [], _ :: _, _, h => h.elim
  | [], [], _ :: _, h => h.elim
  | _ :: _, [], _, h => h.elim
  | _ :: _, _ :: _, [], h => h.elim
theorem Fit.split : ∀ {a b : List (Option IntKind)} {cs : List Value} {ls : List Lit}, Fit (a ++ b) cs ls → Fit a (cs.take a.length) (ls.take a.length) ∧ Fit b (cs.drop a.length) (ls.drop a.length)
  | [], b, cs, ls, h => by simpa using ⟨trivial, h⟩
  | k :: a, b, c :: cs, l :: ls, h => by
    have := Fit.split (a := a) h.2
    exact ⟨⟨h.1, by simpa using this.1⟩, by simpa using this.2⟩
  | _ :: _, _, [], _, h => h.elim
  | _ :: _, _, _ :: _, [], h => h.elim
theorem Fit.one {k : Option IntKind} {cs : List Value} {ls : List Lit} (h : Fit [k] cs ls) : ∃ c l, cs = [c] ∧ ls = [l] ∧ litOf k c = some l := by
  have hl := h.lengths
  match cs, ls, hl, h with
  | [c], [l], _, h => exact ⟨c, l, rfl, rfl, h.1⟩
def flatFs (cellsOf : TypeId → Nat) (rec : TypeId → Option (List (Option IntKind))) : List Field → Nat → Option (List (Option IntKind))
  | [], _ => some []
  | f :: fs, o => if f.offset = o ∧ (f.name != "_") = true then
      match rec f.type with
      | some l => if l.length = cellsOf f.type then (flatFs cellsOf rec fs (o + l.length)).map (l ++ ·) else none
      | none => none
    else none
def flatK (P : Program) : Nat → TypeId → Option (List (Option IntKind))
  | 0, _ => none
  | d + 1, t =>
    match P.underlying t with
    | some .bool => some [none]
    | some (.int q) => some [some q]
    | some (.array n e) => match flatK P d e with
      | some l => if l.length = P.cellsOf e ∧ n * l.length = P.cellsOf t then some (List.replicate n l).flatten else none
      | none => none
    | some (.struct fs) => match flatFs P.cellsOf (flatK P d) fs.toList 0 with
      | some l => if l.length = P.cellsOf t then some l else none
      | none => none
    | _ => none
theorem mapM_range {α : Type} (n : Nat) (f : Nat → Option α) (g : Nat → α) (h : ∀ i, i < n → f i = some (g i)) : (List.range n).mapM f = some ((List.range n).map g) := by
  induction n with
  | zero => rfl
  | succ n ih =>
    rw [List.range_succ, List.mapM_append, ih (fun i hi => h i (by omega)), List.map_append]
    simp [h n (by omega)]
theorem chunks {α : Type} (c : Nat) : ∀ (n : Nat) (ls : List α), ls.length = n * c → ((List.range n).map fun i => (ls.drop (i * c)).take c).flatten = ls
  | 0, ls, h => by simp at h; subst h; rfl
  | n + 1, ls, h => by
    rw [List.range_succ_eq_map, List.map_cons, List.flatten_cons, List.map_map]
    have h2 : (ls.drop c).length = n * c := by rw [List.length_drop, h, Nat.add_mul]; omega
    have ih := chunks c n (ls.drop c) h2
    have e : ((fun i => (ls.drop (i * c)).take c) ∘ Nat.succ) = fun i => ((ls.drop c).drop (i * c)).take c := by
      funext i
      simp only [Function.comp, List.drop_drop]
      congr 2
      rw [Nat.succ_mul]; omega
    rw [e, ih]
    simp
theorem Fit.block {l : List (Option IntKind)} : ∀ {n : Nat} {cs : List Value} {ls : List Lit}, Fit (List.replicate n l).flatten cs ls → ∀ i, i < n → Fit l ((cs.drop (i * l.length)).take l.length) ((ls.drop (i * l.length)).take l.length)
  | 0, _, _, _, i, hi => absurd hi (by omega)
  | n + 1, cs, ls, h, i, hi => by
    rw [List.replicate_succ, List.flatten_cons] at h
    have hs := Fit.split h
    cases i with
    | zero => simpa using hs.1
    | succ i =>
      have := Fit.block hs.2 i (by omega)
      rw [List.drop_drop, List.drop_drop] at this
      rw [Nat.succ_mul, Nat.add_comm]
      exact this
theorem flatten_length {α : Type} (n : Nat) (l : List α) : (List.replicate n l).flatten.length = n * l.length := by
  induction n with
  | zero => simp
  | succ n ih => rw [List.replicate_succ, List.flatten_cons, List.length_append, ih, Nat.succ_mul]; omega
theorem fs_fit {P : Program} {d : Nat} (IH : ∀ t ks cs ls, flatK P d t = some ks → Fit ks cs ls → P.keyLits d t cs = some ls) (cs : List Value) (ls : List Lit) :
    ∀ (fs : List Field) (o : Nat) (ks : List (Option IntKind)), flatFs P.cellsOf (flatK P d) fs o = some ks → Fit ks (cs.drop o) (ls.drop o) →
      (∀ f ∈ fs, (f.name != "_") = true) ∧ ∃ L : List (List Lit), fs.mapM (fun f => P.keyLits d f.type ((cs.drop f.offset).take (P.cellsOf f.type))) = some L ∧ L.flatten = ls.drop o
  | [], o, ks, h, hf => by
    simp [flatFs] at h
    subst h
    have := hf.lengths
    refine ⟨by simp, [], rfl, ?_⟩
    have h2 : (ls.drop o).length = 0 := this.2
    rw [List.length_eq_zero_iff.1 h2]; rfl
  | f :: fs, o, ks, h, hf => by
    unfold flatFs at h
    by_cases h1 : f.offset = o ∧ (f.name != "_") = true
    · rw [if_pos h1] at h
      cases h2 : flatK P d f.type with
      | none => rw [h2] at h; cases h
      | some l =>
        rw [h2] at h
        simp only at h
        by_cases h3 : l.length = P.cellsOf f.type
        · rw [if_pos h3] at h
          cases h4 : flatFs P.cellsOf (flatK P d) fs (o + l.length) with
          | none => rw [h4] at h; cases h
          | some r =>
            rw [h4] at h
            simp only [Option.map_some, Option.some.injEq] at h
            subst h
            have hs := Fit.split hf
            rw [List.drop_drop, List.drop_drop] at hs
            obtain ⟨hn, L, hL, hfl⟩ := fs_fit IH cs ls fs (o + l.length) r h4 hs.2
            have hk := IH f.type l _ _ h2 hs.1
            refine ⟨?_, (ls.drop o).take l.length :: L, ?_, ?_⟩
            · intro g hg
              rcases List.mem_cons.1 hg with rfl | hg
              · exact h1.2
              · exact hn g hg
            · rw [List.mapM_cons, h1.1, ← h3, hk, hL]; rfl
            · rw [List.flatten_cons, hfl]
              conv => rhs; rw [← List.take_append_drop l.length (ls.drop o)]
              rw [List.drop_drop]
        · rw [if_neg h3] at h; cases h
    · rw [if_neg h1] at h; cases h
theorem keyLits_fit {P : Program} : ∀ (d : Nat) (t : TypeId) (ks : List (Option IntKind)) (cs : List Value) (ls : List Lit), flatK P d t = some ks → Fit ks cs ls → P.keyLits d t cs = some ls
  | 0, _, _, _, _, h, _ => by cases h
  | d + 1, t, ks, cs, ls, h, hf => by
    unfold flatK at h
    unfold Program.keyLits
    cases hu : P.underlying t with
    | none => rw [hu] at h; cases h
    | some td =>
      rw [hu] at h
      cases td with
      | bool =>
        simp only [Option.some.injEq] at h
        subst h
        obtain ⟨c, l, rfl, rfl, this⟩ := hf.one
        cases c <;> simp [litOf] at this
        subst this
        rfl
      | int q =>
        simp only [Option.some.injEq] at h
        subst h
        obtain ⟨c, l, rfl, rfl, this⟩ := hf.one
        cases c <;> simp [litOf] at this
        rename_i q' n
        obtain ⟨⟨rfl, hw⟩, rfl⟩ := this
        simp [hw]
      | array n e =>
        simp only at h
        cases h2 : flatK P d e with
        | none => rw [h2] at h; cases h
        | some l =>
          rw [h2] at h
          simp only at h
          by_cases h3 : l.length = P.cellsOf e ∧ n * l.length = P.cellsOf t
          · rw [if_pos h3] at h
            simp only [Option.some.injEq] at h
            subst h
            have hl := hf.lengths
            rw [flatten_length] at hl
            simp only
            rw [if_pos (by rw [hl.1, h3.2]), ← h3.1, mapM_range n _ (fun i => (ls.drop (i * l.length)).take l.length) (fun i hi => keyLits_fit d e l _ _ h2 (hf.block i hi))]
            rw [Option.map_some, chunks l.length n ls hl.2]
          · rw [if_neg h3] at h; cases h
      | struct fs =>
        simp only at h
        cases h2 : flatFs P.cellsOf (flatK P d) fs.toList 0 with
        | none => rw [h2] at h; cases h
        | some l =>
          rw [h2] at h
          simp only at h
          by_cases h3 : l.length = P.cellsOf t
          · rw [if_pos h3] at h
            simp only [Option.some.injEq] at h
            subst h
            obtain ⟨hn, L, hL, hfl⟩ := fs_fit (fun t ks cs ls h hf => keyLits_fit d t ks cs ls h hf) cs ls fs.toList 0 l h2 (by simpa using hf)
            have hl := hf.lengths
            simp only
            have hall : (fs.all fun f => f.name != "_") = true := by
              rw [Array.all_eq_true_iff_forall_mem]
              intro f hf'
              exact hn f (by simpa using hf')
            rw [if_pos ⟨by rw [hl.1, h3], hall⟩, hL, Option.map_some, hfl]
            rfl
          · rw [if_neg h3] at h; cases h
      | _ => cases h
theorem run_equalIn_flat {P : Program} (w : World) (m d : Nat) (t : TypeId) (ks : List (Option IntKind)) (xs ys : Array Value) (la lb : List Lit) (hkt : P.keyTypeAt m t = true) (hk : flatK P m t = some ks)
    (hwide : (match P.underlying t with | some (.array _ _) | some (.struct _) => true | _ => false) = true) (ha : Fit ks xs.toList la) (hb : Fit ks ys.toList lb) (r : Bool) (hr : r = true ↔ la = lb) :
    (Op.equalIn (d + m) t (.agg xs) (.agg ys)).run P w = .ok r w := by
  have hlen : ks.length = P.cellsOf t := by
    cases m with
    | zero => cases hk
    | succ m =>
      unfold flatK at hk
      cases hu : P.underlying t with
      | none => rw [hu] at hk; cases hk
      | some td =>
        rw [hu] at hk hwide
        cases td with
        | array n e =>
          simp only at hk
          cases h2 : flatK P m e with
          | none => rw [h2] at hk; cases hk
          | some l =>
            rw [h2] at hk
            simp only at hk
            split at hk
            · rename_i h3
              simp only [Option.some.injEq] at hk
              rw [← hk, flatten_length, h3.2]
            · cases hk
        | struct fs =>
          simp only at hk
          cases h2 : flatFs P.cellsOf (flatK P m) fs.toList 0 with
          | none => rw [h2] at hk; cases hk
          | some l =>
            rw [h2] at hk
            simp only at hk
            split at hk
            · rename_i h3
              simp only [Option.some.injEq] at hk
              rw [← hk, h3]
            · cases hk
        | _ => cases hwide
  have hf : ∀ (zs : Array Value) (l : List Lit), Fit ks zs.toList l → Value.formed P t (.agg zs) = true := by
    intro zs l h
    have hs : zs.size = P.cellsOf t := by have := h.lengths.1; rw [Array.length_toList] at this; omega
    unfold Value.formed
    cases hu : P.underlying t with
    | none => rw [hu] at hwide; cases hwide
    | some td => rw [hu] at hwide; cases td <;> first | (cases hwide; done) | simp [hs]
  obtain ⟨q, hq, hiff⟩ := run_equalIn_deep d m t hkt w m m (.agg xs) (.agg ys) la lb (hf xs la ha) (hf ys lb hb) (keyLits_fit m t ks _ _ hk (by simpa [Value.cells] using ha)) (keyLits_fit m t ks _ _ hk (by simpa [Value.cells] using hb))
  rw [hq]
  congr 1
  rw [Bool.eq_iff_iff, hiff, hr]
theorem run_eql_flat {P : Program} (w : World) (m : Nat) (hm : m ≤ 10000) (t : TypeId) (ks : List (Option IntKind)) (xs ys : Array Value) (la lb : List Lit) (hkt : P.keyTypeAt m t = true) (hk : flatK P m t = some ks)
    (hwide : (match P.underlying t with | some (.array _ _) | some (.struct _) => true | _ => false) = true) (ha : Fit ks xs.toList la) (hb : Fit ks ys.toList lb) (r : Bool) (hr : r = true ↔ la = lb) :
    (binOp .eql t (.agg xs) (.agg ys)).run P w = .ok (.bool r) w := by
  rw [run_eql_struct, show 10000 = (10000 - m) + m by omega, run_equalIn_flat w m (10000 - m) t ks xs ys la lb hkt hk hwide ha hb r hr]; rfl
theorem run_neq_flat {P : Program} (w : World) (m : Nat) (hm : m ≤ 10000) (t : TypeId) (ks : List (Option IntKind)) (xs ys : Array Value) (la lb : List Lit) (hkt : P.keyTypeAt m t = true) (hk : flatK P m t = some ks)
    (hwide : (match P.underlying t with | some (.array _ _) | some (.struct _) => true | _ => false) = true) (ha : Fit ks xs.toList la) (hb : Fit ks ys.toList lb) (r : Bool) (hr : r = true ↔ la = lb) :
    (binOp .neq t (.agg xs) (.agg ys)).run P w = .ok (.bool (!r)) w := by
  rw [run_neq_struct, show 10000 = (10000 - m) + m by omega, run_equalIn_flat w m (10000 - m) t ks xs ys la lb hkt hk hwide ha hb r hr]; rfl
end Go.Proofs.Ytkajcjefckjijaa
namespace Go.Proofs.Ytkajcjefckjijaa
open Go.RowKit
namespace Fx
def Kd (ks : List (Option IntKind)) (x : Nat → Value) : Prop := ∀ i, (h : i < ks.length) → ∃ l, litOf ks[i] (x i) = some l
theorem kd_rv {k : IntKind} {n : Nat} {x : Nat → Int} (h : ∀ i, i < n → (Lit.int k (x i)).wf = true) : Kd (List.replicate n (some k)) (rv k x) := fun i hi => by
  have hi' : i < n := by simpa using hi
  refine ⟨.int k (x i), ?_⟩
  rw [List.getElem_replicate]
  simp [litOf, rv, h i hi']
theorem wf64 {a : Int} (h : -9223372036854775808 ≤ a ∧ a ≤ 9223372036854775807) : (Lit.int .i64 a).wf = true := by simp [Lit.wf, IntKind.min, IntKind.max, IntKind.bits, IntKind.signed]; omega
theorem wfu64 {a : Int} (h : 0 ≤ a ∧ a ≤ 18446744073709551615) : (Lit.int .u64 a).wf = true := by simp [Lit.wf, IntKind.min, IntKind.max, IntKind.bits, IntKind.signed]; omega
theorem litOf_inj {k : Option IntKind} {u v : Value} {l : Lit} (h : litOf k u = some l) (h' : litOf k v = some l) : u = v := by
  cases k with
  | none =>
    cases u <;> cases v <;> simp_all [litOf]
    rw [← h] at h'; injection h' with h'; exact h'.symm
  | some q =>
    cases u <;> cases v <;> simp_all [litOf]
    have e := h.2.trans h'.2.symm; injection e
theorem Kd.fit {x : Nat → Value} : ∀ (ks : List (Option IntKind)) (o : Nat), (∀ i, (h : i < ks.length) → ∃ l, litOf ks[i] (x (o + i)) = some l) → ∃ ls, Fit ks ((List.range ks.length).map fun i => x (o + i)) ls
  | [], _, _ => ⟨[], trivial⟩
  | k :: ks, o, h => by
    obtain ⟨l, hl⟩ := h 0 (by simp)
    obtain ⟨ls, hls⟩ := Kd.fit ks (o + 1) (fun i hi => by
      have := h (i + 1) (by simpa using hi)
      simpa [Nat.add_assoc, Nat.add_comm 1 i] using this)
    refine ⟨l :: ls, ?_⟩
    rw [List.length_cons, List.range_succ_eq_map, List.map_cons, List.map_map]
    refine ⟨by simpa using hl, ?_⟩
    have e : (fun i => x (o + i)) ∘ Nat.succ = fun i => x (o + 1 + i) := by funext i; simp [Nat.add_assoc, Nat.add_comm 1 i]
    rw [e]
    exact hls
theorem varr_list (n : Nat) (x : Nat → Value) : (varr n x).toList = (List.range n).map x := by
  apply List.ext_getElem?
  intro i
  by_cases hi : i < n
  · rw [Array.getElem?_toList, varr_get x hi]; simp [hi]
  rw [Array.getElem?_toList, varr_none x (by omega)]; simp [hi]
theorem Fit.inj : ∀ {ks : List (Option IntKind)} {a b : List Value} {l : List Lit}, Fit ks a l → Fit ks b l → a = b
  | [], [], [], [], _, _ => rfl
  | _ :: _, _ :: _, _ :: _, _ :: _, h, h' => by rw [litOf_inj h.1 h'.1, Fit.inj h.2 h'.2]
  | [], [], _ :: _, _, _, h' => h'.elim
  | [], _ :: _, _, _, h, _ => h.elim
  | _ :: _, [], _, _, h, _ => h.elim
  | _ :: _, _ :: _, [], _, _, h' => h'.elim
  | _ :: _, _ :: _, _ :: _, [], h, _ => h.elim
  | [], [], [], _ :: _, h, _ => h.elim
theorem Fit.same : ∀ {ks : List (Option IntKind)} {a : List Value} {l l' : List Lit}, Fit ks a l → Fit ks a l' → l = l'
  | [], [], [], [], _, _ => rfl
  | _ :: _, _ :: _, _ :: _, _ :: _, h, h' => by
    have := h.1.symm.trans h'.1
    rw [Option.some.inj this, Fit.same h.2 h'.2]
  | [], [], [], _ :: _, _, h' => h'.elim
  | [], [], _ :: _, _, h, _ => h.elim
  | [], _ :: _, _, _, h, _ => h.elim
  | _ :: _, [], _, _, h, _ => h.elim
  | _ :: _, _ :: _, _ :: _, [], _, h' => h'.elim
  | _ :: _, _ :: _, [], _, h, _ => h.elim
section
variable {P : Program} {n : Nat} {Q : Post} {f : Nat → Value} {w : World} {o : Oper}
theorem run_eqA (w : World) (m : Nat) (hm : m ≤ 10000) {T : TypeId} {ks : List (Option IntKind)} {x y : Nat → Value} (hkt : P.keyTypeAt m T = true) (hk : flatK P m T = some ks) (hn : ks.length = n) (hwide : aggT P T = true) (kx : Kd ks x) (ky : Kd ks y) (b : Bool) (hb : b = true ↔ ∀ i, i < n → x i = y i) :
    (binOp .eql T (.agg (varr n x)) (.agg (varr n y))).run P w = .ok (.bool b) w ∧ (binOp .neq T (.agg (varr n x)) (.agg (varr n y))).run P w = .ok (.bool (!b)) w := by
  obtain ⟨la, ha⟩ := Kd.fit (x := x) ks 0 (fun i h => by rw [Nat.zero_add]; exact kx i h)
  obtain ⟨lb, hb'⟩ := Kd.fit (x := y) ks 0 (fun i h => by rw [Nat.zero_add]; exact ky i h)
  simp only [Nat.zero_add, hn] at ha hb'
  have hw' : (match P.underlying T with | some (.array _ _) | some (.struct _) => true | _ => false) = true := by
    unfold aggT at hwide
    cases hu : P.underlying T with
    | none => rw [hu] at hwide; cases hwide
    | some d => rw [hu] at hwide; cases d <;> first | rfl | (cases hwide)
  have hr : b = true ↔ la = lb := by
    rw [hb]
    constructor
    · intro h
      have e : (List.range n).map x = (List.range n).map y := List.map_congr_left fun i hi => h i (by simpa using hi)
      have ha2 := ha
      rw [show (fun i => x i) = x from rfl, e] at ha2
      exact Fit.same ha2 hb'
    · intro h
      subst h
      have e := Fit.inj ha hb'
      intro i hi
      have h1 := congrArg (fun l => l[i]?) e
      simpa [hi] using h1
  rw [← varr_list] at ha hb'
  exact ⟨run_eql_flat w m hm T ks _ _ la lb hkt hk hw' ha hb' b hr, run_neq_flat w m hm T ks _ _ la lb hkt hk hw' ha hb' b hr⟩
theorem x_binA {op : BinOp} {T T' : TypeId} {x y : Operand} {u v r : Value} {a b : Array Value} (ho : o.op = .binOp op T x y T') (hx : ev f x = u) (hy : ev f y = v) (hu : u = .agg a) (hv : v = .agg b) (hg : P.eqGuardType P.depth T = false) (h : (binOp op T u v).run P w = .ok r w) : Runs P f o w r := by
  subst hu hv
  unfold Runs execOp
  simp only [ho, hx, hy]
  simp only [Sem.run_bind, run_eqGuard_agg w op T x y a b hg, Result.andThen_ok, h, Sem.run_pure]
theorem x_eqlA {T T' : TypeId} {x y : Operand} {ks : List (Option IntKind)} {X Y : Nat → Value} (m : Nat) (b : Bool) (ho : o.op = .binOp .eql T x y T') (hx : ev f x = .agg (varr n X)) (hy : ev f y = .agg (varr n Y)) (hb : b = true ↔ ∀ i, i < n → X i = Y i) (kx : Kd ks X) (ky : Kd ks Y)
    (hm : Nat.ble m 10000 = true) (hkt : P.keyTypeAt m T = true) (hk : flatK P m T = some ks) (hn : ks.length = n) (hwide : aggT P T = true) (hg : P.eqGuardType P.depth T = false) : Runs P f o w (.bool b) :=
  x_binA ho hx hy rfl rfl hg (run_eqA w m (Nat.le_of_ble_eq_true hm) hkt hk hn hwide kx ky b hb).1
theorem x_neqA {T T' : TypeId} {x y : Operand} {ks : List (Option IntKind)} {X Y : Nat → Value} (m : Nat) (b : Bool) (ho : o.op = .binOp .neq T x y T') (hx : ev f x = .agg (varr n X)) (hy : ev f y = .agg (varr n Y)) (hb : b = true ↔ ∀ i, i < n → X i = Y i) (kx : Kd ks X) (ky : Kd ks Y)
    (hm : Nat.ble m 10000 = true) (hkt : P.keyTypeAt m T = true) (hk : flatK P m T = some ks) (hn : ks.length = n) (hwide : aggT P T = true) (hg : P.eqGuardType P.depth T = false) : Runs P f o w (.bool (!b)) :=
  x_binA ho hx hy rfl rfl hg (run_eqA w m (Nat.le_of_ble_eq_true hm) hkt hk hn hwide kx ky b hb).2
theorem yesb {p : Prop} (h : p) : true = true ↔ p := Iff.intro (fun _ => h) (fun _ => rfl)
theorem nob {p : Prop} (h : ¬ p) : false = true ↔ p := Iff.intro (fun e => absurd e (by decide)) (fun q => absurd q h)
theorem run_loadV {T : TypeId} {g off : Nat} {x : Nat → Value} (hc : Cel w g off n x) (hT : aggT P T = true) (hz : (P.info? T).map (·.size) = some n) : (loadVar T ⟨g, off, none⟩).run P w = .ok (.agg (varr n x)) w := by
  have hl : (varr n x).toList.length = n := by simp [varr_size]
  have hr : w.rangeAt g off (varr n x).toList := fun j v hv => by
    have hj : j < n := by have := (List.getElem?_eq_some_iff.1 hv).1; simpa [varr_size] using this
    rw [Array.getElem?_toList, varr_get _ hj] at hv
    rw [← Option.some.inj hv]
    exact hc j hj
  unfold aggT at hT
  cases hu : P.underlying T with
  | none => rw [hu] at hT; cases hT
  | some d =>
    rw [hu] at hT
    have hd : d.isRow = true := by cases d <;> first | (cases hT; done) | rfl
    have := run_loadVar_mid (P := P) w g off T (varr n x).toList d hr hu hd (by rw [hl]; exact hz)
    rw [this, Array.toArray_toList]
def resV (P : Program) (f : Nat → Value) (w : World) (r : ResultVar) (v : Value) : Prop := match r with
  | .tmp t => f t = v
  | .cell a T => ∃ ad, f a = .pointer (some ad) ∧ (loadVar T ad).run P w = .ok v w
theorem resV.run {r : ResultVar} {v : Value} (h : resV P f w r v) : (rdF f r).run P w = .ok v w := by
  cases r with
  | tmp t => simp only [resV] at h; simp [rdF, h]
  | cell a T => obtain ⟨ad, h1, h2⟩ := h; simp [rdF, h1, asAddr, h2]
theorem rV {fn : Func} {r : ResultVar} {v : Value} (hr : fn.results = #[r]) (h : resV P f w r v) : (resF fn f).run P w = .ok v w := by
  have := h.run
  unfold resF
  rw [hr]
  simp only [List.mapM_toArray, List.mapM_cons, List.mapM_nil]
  simp [this]
theorem retV2 {fn : Func} {r s : ResultVar} {u v : Value} (hr : fn.results = #[r, s]) (h : resV P f w r u) (h' : resV P f w s v) : (resF fn f).run P w = .ok (.tuple #[u, v]) w := by
  have := h.run
  have := h'.run
  unfold resF
  rw [hr]
  simp only [List.mapM_toArray, List.mapM_cons, List.mapM_nil]
  simp [*]
theorem retV3 {fn : Func} {r s t : ResultVar} {u v x : Value} (hr : fn.results = #[r, s, t]) (h : resV P f w r u) (h' : resV P f w s v) (h'' : resV P f w t x) : (resF fn f).run P w = .ok (.tuple #[u, v, x]) w := by
  have := h.run
  have := h'.run
  have := h''.run
  unfold resF
  rw [hr]
  simp only [List.mapM_toArray, List.mapM_cons, List.mapM_nil]
  simp [*]
end
end Fx
end Go.Proofs.Ytkajcjefckjijaa
namespace Go.Proofs.Ytkajcjefckjijaa
open Go.RowKit
def Clo (ops : Array Oper) (md : Region.Mode) (l : Array Bool) : Prop := ∀ j o, ops[j]? = some o → l.getD j false = true → ∀ e ∈ o.after, Region.binds md e = true → l.getD e.on false = true
def begun (T : List Nat) (l : Array Bool) : Bool := T.any fun t => l.getD t false
def reach (ops : Array Oper) (md : Region.Mode) : Nat → Nat → Nat → Bool
  | 0, t, i => t == i
  | n + 1, t, i => t == i || (match ops[t]? with | some o => o.after.any (fun e => Region.binds md e && reach ops md n e.on i) | none => false)
def depAll (ops : Array Oper) (md : Region.Mode) (T : List Nat) (i : Nat) : Bool := T.all fun t => reach ops md 5 t i
theorem getD_setIf_false (l : Array Bool) (i j : Nat) : (l.setIfInBounds i true).getD j false = (if i = j ∧ j < l.size then true else l.getD j false) := by
  simp only [Array.getD_eq_getD_getElem?, Array.getElem?_setIfInBounds]
  by_cases h : i = j
  · subst h
    by_cases h2 : i < l.size
    · simp [h2]
    simp [h2, Array.getElem?_eq_none (Nat.le_of_not_lt h2)]
  simp [h]
theorem Clo.set {ops : Array Oper} {md : Region.Mode} {l : Array Bool} (h : Clo ops md l) {i : Nat} (hi : i ∈ Region.ready md ops l) : Clo ops md (l.setIfInBounds i true) := by
  obtain ⟨_, o', ho', hall⟩ := mem_ready.1 hi
  intro j o ho hj e he hb
  rw [getD_setIf_false]
  split
  · rfl
  rw [getD_setIf_false] at hj
  split at hj
  · rename_i hij
    obtain ⟨rfl, _⟩ := hij
    rw [ho'] at ho
    obtain rfl := Option.some.inj ho
    exact hall e he hb
  exact h j o ho hj e he hb
theorem Clo.start (ops : Array Oper) (md : Region.Mode) (n : Nat) : Clo ops md (Array.replicate n false) := by
  intro j o _ hj
  rw [Array.getD_eq_getD_getElem?] at hj
  by_cases h : j < n
  · simp [h] at hj
  simp [h] at hj
theorem Clo.reach {ops : Array Oper} {md : Region.Mode} {l : Array Bool} {i : Nat} (h : Clo ops md l) : ∀ n t, reach ops md n t i = true → l.getD t false = true → l.getD i false = true
  | 0, t, hr, ht => by
    have e : t = i := by unfold Ytkajcjefckjijaa.reach at hr; simpa using hr
    rw [← e]; exact ht
  | n + 1, t, hr, ht => by
    unfold Ytkajcjefckjijaa.reach at hr
    rw [Bool.or_eq_true] at hr
    rcases hr with hr | hr
    · have e : t = i := by simpa using hr
      rw [← e]; exact ht
    · cases ho : ops[t]? with
      | none => simp [ho] at hr
      | some o =>
        simp only [ho] at hr
        rw [Array.any_eq_true'] at hr
        obtain ⟨e, he, h2⟩ := hr
        rw [Bool.and_eq_true] at h2
        exact Clo.reach h n e.on h2.2 (h t o ho ht e he h2.1)
theorem Clo.begun {ops : Array Oper} {md : Region.Mode} {T : List Nat} {l : Array Bool} {i : Nat} (h : Clo ops md l) (hd : depAll ops md T i = true) (hi : l.getD i false = false) : begun T l = false := by
  unfold Ytkajcjefckjijaa.begun
  rw [List.any_eq_false]
  intro t ht hb
  have := h.reach _ t (List.all_eq_true.1 hd t ht) hb
  rw [hi] at this
  cases this
section
variable {P : Program} {ops : Array Oper} {Q : Exit → Act → World → Prop} {md : Region.Mode} {S : Bool → World → Prop} {T : List Nat}
def wpAnyT (P : Program) (md : Region.Mode) (ops : Array Oper) (Q : Exit → Act → World → Prop) (T : List Nat) (S : Bool → World → Prop) : Nat → Array Bool → Act → World → Prop
  | 0, listed, a, w => Region.ready md ops listed = [] ∧ Q .normal a w
  | fuel + 1, listed, a, w =>
    (Region.ready md ops listed = [] → Q .normal a w) ∧
    ∀ i ∈ Region.ready md ops listed, wpOp P ops Q i (fun a' w' => S (begun T (listed.setIfInBounds i true)) w' ∧ wpAnyT P md ops Q T S fuel (listed.setIfInBounds i true) a' w') a w
theorem wpAny_of_T : ∀ (fuel : Nat) (listed : Array Bool) (a : Act) (w : World), wpAnyT P md ops Q T S fuel listed a w → wpAny P md ops Q fuel listed a w
  | 0, _, _, _, h => h
  | fuel + 1, _, _, _, h => ⟨h.1, fun i hi => wpOp_mono (fun a' w' h' => wpAny_of_T fuel _ a' w' h'.2) (h.2 i hi)⟩
theorem unl {i : Nat} {listed : Array Bool} (h : i ∈ Region.ready md ops listed) : listed.getD i false = false := by
  have := (mem_ready.1 h).1
  rw [Array.getD_eq_getD_getElem?] at this ⊢
  cases h2 : listed[i]? with
  | none => rfl
  | some b => rw [h2] at this; simpa using this
theorem begun_set {l : Array Bool} {i : Nat} (hi : T.contains i = false) : begun T (l.setIfInBounds i true) = begun T l := by
  unfold begun
  rw [Bool.eq_iff_iff, List.any_eq_true, List.any_eq_true]
  constructor
  · rintro ⟨t, ht, h⟩
    refine ⟨t, ht, ?_⟩
    rw [getD_setIf_false, if_neg] at h
    · exact h
    rintro ⟨rfl, _⟩; simp [ht] at hi
  rintro ⟨t, ht, h⟩
  refine ⟨t, ht, ?_⟩
  rw [getD_setIf_false]; split <;> first | rfl | exact h
theorem wpAnyT_first {i : Nat} {oi : Oper} {v : Value} {S0 : World → Prop} (hi : ops[i]? = some oi) (hsel : ∀ (j : Nat) (o : Oper) cs b, ops[j]? = some o → o.op ≠ .select cs b)
    (hQ : ∀ c a w, Q (.panic c) (a.put oi.dst v) w → Q (.panic c) a w) (hT : T.contains i = false)
    (hd : (∀ b w, S b w → S0 w) ∨ ((∀ w, S false w → S0 w) ∧ depAll ops md T i = true)) :
    ∀ (fuel : Nat) (listed : Array Bool) (a : Act) (w : World), Clo ops md listed →
      (∀ j oj, ops[j]? = some oj → j ≠ i → listed.getD j true = false → (∀ e ∈ oj.after, Region.binds md e = true → e.on ≠ i) → oi.apart ops oj = true) →
      i ∈ Region.ready md ops listed → YieldsIf P ops S0 oi v a → S (begun T listed) w →
      wpAnyT P md ops Q T S fuel (listed.setIfInBounds i true) (a.put oi.dst v) w → wpAnyT P md ops Q T S (fuel + 1) listed a w := by
  have hS0 : ∀ (l : Array Bool) (w : World), Clo ops md l → i ∈ Region.ready md ops l → S (begun T l) w → S0 w := fun l w hC hr hS => by
    rcases hd with h | ⟨h1, h⟩
    · exact h _ w hS
    · rw [hC.begun h (unl hr)] at hS; exact h1 w hS
  intro fuel
  induction fuel with
  | zero =>
    intro listed a w hC _ hr hy hS H
    refine ⟨fun h => (by rw [h] at hr; cases hr), fun j hj => ?_⟩
    by_cases hji : j = i
    · subst hji; exact hy.wpOp hi (hS0 _ _ hC hr hS) ⟨by rw [begun_set hT]; exact hS, H⟩
    · have := ready_mono hj hji
      rw [H.1] at this
      cases this
  | succ fuel ih =>
    intro listed a w hC hfree hr hy hS H
    refine ⟨fun h => (by rw [h] at hr; cases hr), fun j hj => ?_⟩
    by_cases hji : j = i
    · subst hji; exact hy.wpOp hi (hS0 _ _ hC hr hS) ⟨by rw [begun_set hT]; exact hS, H⟩
    · have h1 := H.2 j (ready_mono hj hji)
      obtain ⟨hjun, oj, hoj, hall⟩ := mem_ready.1 hj
      have hnot : ∀ e ∈ oj.after, Region.binds md e = true → e.on ≠ i := fun e he hb heq => by
        have h1 := hall e he hb
        rw [heq, unl hr] at h1
        cases h1
      have h2 := wpOp_putIf hoj (hfree j oj hoj hji hjun hnot) (fun cs b => hsel i oi cs b hi) (fun cs b => hsel j oj cs b hoj) hQ hy h1
      have hfree' : ∀ k ok, ops[k]? = some ok → k ≠ i → (listed.setIfInBounds j true).getD k true = false →
          (∀ e ∈ ok.after, Region.binds md e = true → e.on ≠ i) → oi.apart ops ok = true := fun k ok hk hki hun hno => by
        refine hfree k ok hk hki ?_ hno
        by_cases hjk : j = k
        · subst hjk; exact hjun
        · rw [getD_set_ne true hjk] at hun; exact hun
      refine wpOp_mono (fun a' w' h3 => ?_) h2
      have hs : S (begun T (listed.setIfInBounds j true)) w' := by
        have := h3.2.1
        rw [Array.setIfInBounds_comm _ _ (Ne.symm hji), begun_set hT] at this
        exact this
      refine ⟨hs, ih (listed.setIfInBounds j true) a' w' (hC.set hj) hfree' (ready_mono hr (Ne.symm hji)) h3.1 hs ?_⟩
      rw [Array.setIfInBounds_comm _ _ hji]
      exact h3.2.2
theorem wpAnyT_load {i : Nat} {oi : Oper} {d : Option Tmp} {v : Value} {b : Bool} {fuel : Nat} {listed : Array Bool} {a : Act} {w : World} (hi : ops[i]? = some oi) (hd : oi.dst = d)
    (hs : Region.noSelect ops = true) (hf : Region.free md ops listed i = true) (hr : (Region.ready md ops listed).contains i = true) (hT : T.contains i = false) (hb : begun T listed = b) (hw : depAll ops md T i = true)
    (hC : Clo ops md listed) (hQ : ∀ c a w, Q (.panic c) (a.put d v) w → Q (.panic c) a w) (hy : YieldsIf P ops (S false) oi v a) (hS : S b w)
    (h : Clo ops md (listed.setIfInBounds i true) → wpAnyT P md ops Q T S fuel (listed.setIfInBounds i true) (a.put d v) w) : wpAnyT P md ops Q T S (fuel + 1) listed a w := by
  subst hd hb
  have hr' : i ∈ Region.ready md ops listed := by simpa using hr
  exact wpAnyT_first hi (Region.noSelect_spec hs) hQ hT (.inr ⟨fun _ h => h, hw⟩) fuel listed a w hC (Region.free_spec hi hf) hr' hy hS (h (hC.set hr'))
theorem wpAnyT_ever {i : Nat} {oi : Oper} {d : Option Tmp} {v : Value} {b : Bool} {fuel : Nat} {listed : Array Bool} {a : Act} {w : World} (hi : ops[i]? = some oi) (hd : oi.dst = d)
    (hs : Region.noSelect ops = true) (hf : Region.free md ops listed i = true) (hr : (Region.ready md ops listed).contains i = true) (hT : T.contains i = false) (hb : begun T listed = b)
    (hC : Clo ops md listed) (hQ : ∀ c a w, Q (.panic c) (a.put d v) w → Q (.panic c) a w) (hy : YieldsIf P ops (fun w => ∃ b, S b w) oi v a) (hS : S b w)
    (h : Clo ops md (listed.setIfInBounds i true) → wpAnyT P md ops Q T S fuel (listed.setIfInBounds i true) (a.put d v) w) : wpAnyT P md ops Q T S (fuel + 1) listed a w := by
  subst hd hb
  have hr' : i ∈ Region.ready md ops listed := by simpa using hr
  exact wpAnyT_first hi (Region.noSelect_spec hs) hQ hT (.inl fun b _ h => ⟨b, h⟩) fuel listed a w hC (Region.free_spec hi hf) hr' hy hS (h (hC.set hr'))
theorem wpAnyT_pure {i : Nat} {oi : Oper} {d : Option Tmp} {v : Value} {b : Bool} {fuel : Nat} {listed : Array Bool} {a : Act} {w : World} (hi : ops[i]? = some oi) (hd : oi.dst = d)
    (hs : Region.noSelect ops = true) (hf : Region.free md ops listed i = true) (hr : (Region.ready md ops listed).contains i = true) (hT : T.contains i = false) (hb : begun T listed = b)
    (hC : Clo ops md listed) (hQ : ∀ c a w, Q (.panic c) (a.put d v) w → Q (.panic c) a w) (hy : YieldsIf P ops (fun _ => True) oi v a) (hS : S b w)
    (h : Clo ops md (listed.setIfInBounds i true) → wpAnyT P md ops Q T S fuel (listed.setIfInBounds i true) (a.put d v) w) : wpAnyT P md ops Q T S (fuel + 1) listed a w := by
  subst hd hb
  have hr' : i ∈ Region.ready md ops listed := by simpa using hr
  exact wpAnyT_first hi (Region.noSelect_spec hs) hQ hT (.inl fun _ _ _ => trivial) fuel listed a w hC (Region.free_spec hi hf) hr' hy hS (h (hC.set hr'))
theorem wpAnyT_one {i : Nat} {o : Oper} {b : Bool} {fuel : Nat} {listed : Array Bool} {a : Act} {w : World} (hr : Region.ready md ops listed = [i]) (hb : begun T (listed.setIfInBounds i true) = b) (ho : ops[i]? = some o) (hg : o.guard = none)
    (hC : Clo ops md listed) (h : ∀ K : Act → World → Prop, (∀ a' w', (S b w' ∧ (Clo ops md (listed.setIfInBounds i true) → wpAnyT P md ops Q T S fuel (listed.setIfInBounds i true) a' w')) → K a' w') → o.wp P a w K Q) : wpAnyT P md ops Q T S (fuel + 1) listed a w := by
  subst hb
  refine ⟨fun h0 => (by rw [h0] at hr; cases hr), fun j hj => ?_⟩
  rw [hr] at hj
  obtain rfl : j = i := by simpa using hj
  have hc := hC.set (i := j) (by rw [hr]; simp)
  exact wpOp_plain ho hg fun K hK => h K fun a' w' h' => hK a' w' ⟨h'.1, h'.2 hc⟩
theorem wpAnyT_done {listed : Array Bool} {a : Act} {w : World} (hr : Region.ready md ops listed = []) (h : Q .normal a w) : ∀ fuel, wpAnyT P md ops Q T S fuel listed a w
  | 0 => ⟨hr, h⟩
  | _ + 1 => ⟨fun _ => h, by rw [hr]; simp⟩
theorem wp_region_T {id : Nat} {a : Act} {w : World} (T : List Nat) (S : Bool → World → Prop) (hm : P.follows .mixedOrders = true)
    (h : Clo ops .any (Array.replicate ops.size false) → wpAnyT P .any ops (NoPanic Q) T S ops.size (Array.replicate ops.size false) a w.drew) : (Code.region id ops true).wp P Q a w :=
  wp_region_noPanic (wp_region_any hm (wpAny_of_T _ _ _ _ (h (Clo.start _ _ _))))
end
theorem wp_store_cell {P : Program} {op : Oper} {a : Act} {w : World} {K : Act → World → Prop} {Q : Exit → Act → World → Prop} (ty : TypeId) (x y : Operand) (ho : op.op = .store ty x y) (hd : op.dst = none)
    (g o : Nat) (v old : Value) (hx : a.eval x = .pointer (some ⟨g, o, none⟩)) (hy : a.eval y = v) (hi : (P.info? ty).map (·.size) = some 1) (h1 : v.oneCell' = true) (hc : w.cell? ⟨g, o, none⟩ = some old) (hf : w.frozen? ⟨g, o, none⟩ = false)
    (h : K a (w.setCell ⟨g, o, none⟩ v)) : op.wp P a w K Q :=
  wp_store_one ty x y ho g o v old hx hy hi h1 hc hf (by rw [hd]; exact h)
theorem row_kept {w w' : World} {g : Nat} {c : Obj} (h : w.heap[g]? = some c) (hb : Below w.heap.size w w') : w'.heap[g]? = some c :=
  (hb.block g (Array.getElem?_eq_some_iff.1 h).1).trans h
end Go.Proofs.Ytkajcjefckjijaa
namespace Go.Proofs.Ytkajcjefckjijaa
open Go.RowKit
namespace Fx
abbrev Gh := Nat → Nat × Nat
def updr (r : Gh) (k : Nat) (p : Nat × Nat) : Gh := fun j => bif Nat.beq j k then p else r j
theorem updr_same (r : Gh) (k : Nat) (p : Nat × Nat) : updr r k p k = p := by unfold updr; rw [Nat.beq_refl]; rfl
theorem updr_ne {r : Gh} {k j : Nat} {p : Nat × Nat} (h : j < k) : updr r k p j = r j := by
  unfold updr
  have : Nat.beq j k = false := by
    cases hq : Nat.beq j k
    · rfl
    · exact absurd (Nat.eq_of_beq_eq_true hq) (by omega)
  rw [this]; rfl
def opAt (ops : List Oper) (i : Nat) : Oper := ops.getD i default
def dstIs (s : Nat) : Option Nat → Bool | none => false | some d => Nat.beq d s
def writerFrom (s : Nat) : List Oper → Nat → Option Nat
  | [], _ => none
  | o :: l, i => bif dstIs s o.dst then some i else writerFrom s l (i + 1)
def writer (ops : List Oper) (s : Nat) : Option Nat := writerFrom s ops 0
def over (ops : List Oper) (f : Nat → Value) (v : Nat → Value) (listed : Array Bool) : Nat → Value := fun s => match writer ops s with | some i => (if listed.getD i false then v i else f s) | none => f s
def full (ops : List Oper) (f : Nat → Value) (v : Nat → Value) : Nat → Value := fun s => match writer ops s with | some i => v i | none => f s
def isAfter (o : Oper) (j : Nat) : Bool := o.after.any fun e => Region.binds .any e && Nat.beq e.on j
def opsOk (n : Nat) (ops : List Oper) : Bool :=
  (List.range ops.length).all fun i =>
    let o := opAt ops i
    (match o.dst with | none => true | some d => (match writer ops d with | some j => Nat.beq j i | none => false) && Nat.blt d n) &&
    (o.op.operands.all fun x => match x with | .tmp t => (match writer ops t with | some j => isAfter o j | none => true) | _ => true) &&
    (match o.guard with | none => true | some (j, _) => isAfter o j) && (o.after.all fun e => !Region.binds .any e || Nat.blt e.on i)
theorem writerFrom_spec {s : Nat} : ∀ {l : List Oper} {k i : Nat}, writerFrom s l k = some i → k ≤ i ∧ (opAt l (i - k)).dst = some s ∧ i - k < l.length
  | [], _, _, h => by cases h
  | o :: l, k, i, h => by
    unfold writerFrom at h
    cases hd : dstIs s o.dst
    · rw [hd] at h
      have := writerFrom_spec (l := l) (k := k + 1) (i := i) h
      refine ⟨by omega, ?_, by simp; omega⟩
      have e : i - k = (i - (k + 1)) + 1 := by omega
      rw [e]
      exact this.2.1
    · rw [hd] at h
      have : k = i := by simpa using h
      subst this
      refine ⟨Nat.le_refl _, ?_, by simp⟩
      simp only [Nat.sub_self, opAt, List.getD_cons_zero]
      cases hq : o.dst with
      | none => rw [hq] at hd; cases hd
      | some d => rw [hq] at hd; rw [Nat.eq_of_beq_eq_true hd]
theorem writer_spec {ops : List Oper} {s i : Nat} (h : writer ops s = some i) : (opAt ops i).dst = some s ∧ i < ops.length := by
  have := writerFrom_spec h; simpa using this.2
section
variable {ops : List Oper} {f : Nat → Value} {n : Nat}
theorem opsOk_at (h : opsOk n ops = true) {i : Nat} (hi : i < ops.length) :
    (∀ d, (opAt ops i).dst = some d → writer ops d = some i ∧ d < n) ∧ (∀ t j, .tmp t ∈ (opAt ops i).op.operands → writer ops t = some j → isAfter (opAt ops i) j = true) ∧ (∀ j b, (opAt ops i).guard = some (j, b) → isAfter (opAt ops i) j = true) ∧ (∀ j, isAfter (opAt ops i) j = true → j < i) := by
  unfold opsOk at h
  rw [List.all_eq_true] at h
  have := h i (by simpa using hi)
  simp only [Bool.and_eq_true] at this
  obtain ⟨⟨⟨h1, h2⟩, h3⟩, h4⟩ := this
  refine ⟨fun d hd => ?_, fun t j ht hj => ?_, fun j b hg => ?_, fun j hj => ?_⟩
  · rw [hd] at h1
    simp only [Bool.and_eq_true] at h1
    cases hw : writer ops d with
    | none => rw [hw] at h1; simp at h1
    | some j => rw [hw] at h1; simp only at h1; rw [Nat.eq_of_beq_eq_true h1.1]; exact ⟨rfl, by simpa [Nat.blt_eq] using h1.2⟩
  · rw [Array.all_eq_true'] at h2
    have := h2 _ ht
    simp only [hj] at this
    exact this
  · rw [hg] at h3; exact h3
  unfold isAfter at hj
  rw [Array.any_eq_true'] at hj
  obtain ⟨e, he, h5⟩ := hj
  rw [Bool.and_eq_true] at h5
  rw [Array.all_eq_true'] at h4
  have := h4 e he
  rw [h5.1] at this
  rw [← Nat.eq_of_beq_eq_true h5.2]
  simpa [Nat.blt_eq] using this
theorem set_self {listed : Array Bool} {i : Nat} (h : i < listed.size) : (listed.setIfInBounds i true).getD i false = true := by rw [getD_setIf_false, if_pos ⟨rfl, h⟩]
theorem set_other {listed : Array Bool} {i j : Nat} (h : i ≠ j) : (listed.setIfInBounds i true).getD j false = listed.getD j false := by rw [getD_setIf_false, if_neg (fun q => h q.1)]
theorem over_set (h : opsOk n ops = true) {v : Nat → Value} {listed : Array Bool} (hs : listed.size = ops.length) {i : Nat} (hi : i < ops.length) : put (over ops f v listed) (opAt ops i).dst (v i) = over ops f v (listed.setIfInBounds i true) := by
  have hsp := (opsOk_at h hi).1
  funext s
  unfold over
  cases hd : (opAt ops i).dst with
  | none =>
    simp only [put]
    cases hw : writer ops s with
    | none => rfl
    | some j =>
      simp only
      by_cases e : i = j
      · subst e; rw [(writer_spec hw).1] at hd; cases hd
      · rw [set_other e]
  | some d =>
    simp only [put]
    by_cases e : s = d
    · subst e
      rw [Nat.beq_refl, (hsp s hd).1]
      simp only [cond_true]
      rw [set_self (by omega), if_pos rfl]
    · have hb : Nat.beq s d = false := by
        cases hq : Nat.beq s d
        · rfl
        · exact absurd (Nat.eq_of_beq_eq_true hq) e
      rw [hb]
      simp only [cond_false]
      cases hw : writer ops s with
      | none => rfl
      | some j =>
        simp only
        by_cases e2 : i = j
        · subst e2; rw [(writer_spec hw).1] at hd; exact absurd (Option.some.inj hd) e
        · rw [set_other e2]
theorem ready_after {i : Nat} {listed : Array Bool} (hr : i ∈ Region.ready .any ops.toArray listed) : listed.getD i false = false ∧ i < ops.length ∧ ops.toArray[i]? = some (opAt ops i) ∧ ∀ j, isAfter (opAt ops i) j = true → listed.getD j false = true := by
  obtain ⟨h1, o, ho, hall⟩ := mem_ready.1 hr
  have hi : i < ops.length := by
    have := (Array.getElem?_eq_some_iff.1 ho).1; simpa using this
  have he : opAt ops i = o := by
    unfold opAt
    rw [List.getElem?_toArray] at ho
    rw [List.getD_eq_getElem?_getD, ho]; rfl
  refine ⟨getD_both h1, hi, by rw [he]; exact ho, fun j hj => ?_⟩
  rw [he] at hj
  unfold isAfter at hj
  rw [Array.any_eq_true'] at hj
  obtain ⟨e, hem, h2⟩ := hj
  rw [Bool.and_eq_true] at h2
  rw [← Nat.eq_of_beq_eq_true h2.2]
  exact hall e hem h2.1
theorem over_ev (h : opsOk n ops = true) {v : Nat → Value} {listed : Array Bool} {i : Nat} (hr : i ∈ Region.ready .any ops.toArray listed) : ∀ x ∈ (opAt ops i).op.operands, ev (over ops f v listed) x = ev (full ops f v) x := by
  obtain ⟨_, hi, _, hall⟩ := ready_after hr
  intro x hx
  cases x with
  | tmp t =>
    show over ops f v listed t = full ops f v t
    unfold over full
    cases hw : writer ops t with
    | none => rfl
    | some j => simp only; rw [if_pos (hall j ((opsOk_at h hi).2.1 t j hx hw))]
  | _ => rfl
theorem over_wanted (h : opsOk n ops = true) {v : Nat → Value} {listed : Array Bool} {i : Nat} (hr : i ∈ Region.ready .any ops.toArray listed) : Region.wanted (opAt ops i) (yf ops.toArray (over ops f v listed)) = Region.wanted (opAt ops i) (yf ops.toArray (full ops f v)) := by
  obtain ⟨_, hi, _, hall⟩ := ready_after hr
  unfold Region.wanted
  cases hg : (opAt ops i).guard with
  | none => rfl
  | some jb =>
    obtain ⟨j, b⟩ := jb
    simp only
    have hl := hall j ((opsOk_at h hi).2.2.1 j b hg)
    congr 1
    unfold yf
    cases hd : (ops.toArray[j]?).bind (·.dst) with
    | none => rfl
    | some d =>
      simp only
      have hj : j < ops.length := by
        cases hq : ops.toArray[j]? with
        | none => rw [hq] at hd; cases hd
        | some o => have := (Array.getElem?_eq_some_iff.1 hq).1; simpa using this
      have hdd : (opAt ops j).dst = some d := by
        unfold opAt
        rw [List.getElem?_toArray] at hd
        rw [List.getD_eq_getElem?_getD]
        cases hq : ops[j]? with
        | none => rw [hq] at hd; cases hd
        | some o => rw [hq] at hd; exact hd
      have hw := ((opsOk_at h hj).1 d hdd).1
      have e : over ops f v listed d = full ops f v d := by unfold over full; rw [hw]; simp only; rw [if_pos hl]
      rw [e]
end
def pathB (ops : List Oper) : Nat → List Nat → Nat → Bool
  | t, [], i => Nat.beq t i
  | t, j :: l, i => isAfter (opAt ops t) j && pathB ops j l i
theorem pathB_reach {ops : List Oper} : ∀ {p : List Nat} {t i : Nat}, pathB ops t p i = true → ∃ m, reach ops.toArray .any m t i = true
  | [], t, i, h => ⟨0, by unfold reach; rw [Nat.eq_of_beq_eq_true h]; simp⟩
  | j :: l, t, i, h => by
    unfold pathB at h
    rw [Bool.and_eq_true] at h
    obtain ⟨m, hm⟩ := pathB_reach h.2
    refine ⟨m + 1, ?_⟩
    unfold reach
    rw [Bool.or_eq_true]
    right
    have h1 := h.1
    unfold isAfter at h1
    rw [Array.any_eq_true'] at h1
    obtain ⟨e, he, h2⟩ := h1
    rw [Bool.and_eq_true] at h2
    have ho : ops.toArray[t]? = some (opAt ops t) := by
      unfold opAt at he ⊢
      rw [List.getElem?_toArray, List.getD_eq_getElem?_getD]
      cases hq : ops[t]? with
      | none =>
        rw [List.getD_eq_getElem?_getD, hq] at he
        exact absurd he (by simp [show (default : Oper).after = #[] from rfl])
      | some o => rfl
    rw [ho]
    simp only
    rw [Array.any_eq_true']
    exact ⟨e, he, by rw [h2.1, Nat.eq_of_beq_eq_true h2.2, hm]; rfl⟩
abbrev Span := Nat × Nat × List Nat × List Nat
def noSpan : Span := (0, 0, [], [])
def loOk (ops : List Oper) (es : List Nat) (i lo : Nat) (p : List Nat) : Bool := match lo with | 0 => true | k + 1 => (match es[k]? with | some e => pathB ops i p e | none => false)
def hiOk (ops : List Oper) (es : List Nat) (i hi : Nat) (p : List Nat) : Bool := match es[hi]? with | some e => pathB ops e p i | none => true
def chainOk (ops : List Oper) : List Nat → Bool
  | [] => true
  | [_] => true
  | a :: b :: l => reach ops.toArray .any 5 b a && !Nat.beq b a && chainOk ops (b :: l)
def spanOk (ops : List Oper) (es : List Nat) (sp : List Span) : Bool := Nat.beq sp.length ops.length && (List.range ops.length).all fun i => es.contains i || (loOk ops es i (sp.getD i noSpan).1 (sp.getD i noSpan).2.2.1 && hiOk ops es i (sp.getD i noSpan).2.1 (sp.getD i noSpan).2.2.2)
section
variable {P : Program} {n : Nat} {Q : Post} {f : Nat → Value} {w : World} {ops : List Oper}
def QOk (P : Program) (ops : List Oper) (f : Nat → Value) (vals : Gh → Nat → Value) (S : Nat → Gh → World → Prop) (i lo hi : Nat) : Prop :=
  ∀ r k w, lo ≤ k → k ≤ hi → S k r w → if Region.wanted (opAt ops i) (yf ops.toArray (full ops f (vals r))) then Oper.quietUpon P (S k r) w (vals r i) ((execOp (ev (full ops f (vals r))) (opAt ops i)).run P w) else vals r i = undef
def EOk (P : Program) (ops : List Oper) (f : Nat → Value) (vals : Gh → Nat → Value) (S : Nat → Gh → World → Prop) (Q' : Exit → Act → World → Prop) (i k : Nat) : Prop :=
  ∀ r w (a : Act) (K : Act → World → Prop), S k r w → (∀ x ∈ (opAt ops i).op.operands, a.eval x = ev (full ops f (vals r)) x) → (∀ p w', S (k + 1) (updr r k p) w' → K (a.put (opAt ops i).dst (vals (updr r k p) i)) w') → (opAt ops i).wp P a w K Q'
def DOk (vals : Gh → Nat → Value) (i d : Nat) : Prop := ∀ k r p, d ≤ k → vals (updr r k p) i = vals r i
theorem W.drawn {id : Nat} (es : List Nat) (sp : List Span) (vals : Gh → Nat → Value) (S : Nat → Gh → World → Prop) (hm : P.follows .mixedOrders = true) (hok : opsOk n ops = true) (hsel : Region.noSelect ops.toArray = true) (hch : chainOk ops es = true) (hsp : spanOk ops es sp = true)
    (hes : es.all (fun e => Nat.blt e ops.length && (match (opAt ops e).guard with | none => true | _ => false)) = true) (hnd : es.Nodup)
    (h0 : ∀ w1, Below w.heap.size w w1 → w1.heap.size = w.heap.size → ∃ r, S 0 r w1)
    (hq : ∀ i, i < ops.length → es.contains i = false → QOk P ops f vals S i (sp.getD i noSpan).1 (sp.getD i noSpan).2.1)
    (he : ∀ k i, es[k]? = some i → EOk P ops f vals S (lift n Q) i k)
    (hdq : ∀ i, i < ops.length → es.contains i = false → DOk vals i (sp.getD i noSpan).1)
    (hde : ∀ k i, es[k]? = some i → DOk vals i (k + 1))
    (h : ∀ r w', S es.length r w' → Q .normal (full ops f (vals r)) w') : W P n (.region id ops.toArray true) Q f w := fun a ha => by
  refine wp_region_any hm ?_
  have hspan : ∀ i, i < ops.length → es.contains i = false → loOk ops es i (sp.getD i noSpan).1 (sp.getD i noSpan).2.2.1 = true ∧ hiOk ops es i (sp.getD i noSpan).2.1 (sp.getD i noSpan).2.2.2 = true := fun i hi hne => by
    unfold spanOk at hsp
    rw [Bool.and_eq_true, List.all_eq_true] at hsp
    have := hsp.2 i (by simpa using hi)
    rw [hne, Bool.false_or, Bool.and_eq_true] at this
    exact this
  have hesl : ∀ k i, es[k]? = some i → i < ops.length ∧ (opAt ops i).guard = none := fun k i hk => by
    rw [List.all_eq_true] at hes
    have := hes i (List.mem_of_getElem? hk)
    rw [Bool.and_eq_true] at this
    refine ⟨by simpa [Nat.blt_eq] using this.1, ?_⟩
    cases hg : (opAt ops i).guard with
    | none => rfl
    | some _ => rw [hg] at this; exact absurd this.2 (by simp)
  -- the invariant
  have key : ∀ (fuel : Nat) (listed : Array Bool) (a : Act) (w1 : World) (r : Gh) (k : Nat), listed.size = ops.length → Clo ops.toArray .any listed → (∀ j e, es[j]? = some e → listed.getD e false = decide (j < k)) → k ≤ es.length → Fr a n (over ops f (vals r) listed) → S k r w1 →
      (∀ fl : List Nat, fl = (List.range ops.length).filter (fun i => !listed.getD i false) → fl.length = fuel) → wpAny P .any ops.toArray (lift n Q) fuel listed a w1 := by
    intro fuel
    induction fuel with
    | zero =>
      intro listed a w1 r k hsz hclo hpre hk ha hS hfl
      have hall : ∀ i, i < ops.length → listed.getD i false = true := fun i hi => by
        have h1 := List.eq_nil_of_length_eq_zero (hfl _ rfl)
        cases hq : listed.getD i false
        · have : i ∈ (List.range ops.length).filter (fun i => !listed.getD i false) := by simp only [List.mem_filter, List.mem_range]; exact ⟨hi, by rw [hq]; rfl⟩
          rw [h1] at this; cases this
        · rfl
      have hkk : k = es.length := by
        by_cases hlt : k < es.length
        · have := hpre k es[k] (List.getElem?_eq_getElem hlt)
          rw [hall _ (hesl k _ (List.getElem?_eq_getElem hlt)).1] at this
          simp at this
        · omega
      have hnone : Region.ready .any ops.toArray listed = [] := by
        cases hq : Region.ready .any ops.toArray listed with
        | nil => rfl
        | cons i l =>
          have hr : i ∈ Region.ready .any ops.toArray listed := by rw [hq]; exact List.mem_cons_self
          obtain ⟨h1, h2, _, _⟩ := ready_after hr
          rw [hall i h2] at h1; cases h1
      refine ⟨hnone, full ops f (vals r), ?_, h r w1 (hkk ▸ hS)⟩
      have : over ops f (vals r) listed = full ops f (vals r) := by
        funext s
        unfold over full
        cases hw : writer ops s with
        | none => rfl
        | some i => simp only; rw [if_pos (hall i (writer_spec hw).2)]
      exact this ▸ ha
    | succ fuel ih =>
      intro listed a w1 r k hsz hclo hpre hk ha hS hfl
      have hcount : ∀ i, i ∈ Region.ready .any ops.toArray listed → ∀ fl : List Nat, fl = (List.range ops.length).filter (fun j => !(listed.setIfInBounds i true).getD j false) → fl.length = fuel := by
        intro i hr fl hfl2
        obtain ⟨h1, h2, _, _⟩ := ready_after hr
        subst hfl2
        have e : (List.range ops.length).filter (fun j => !(listed.setIfInBounds i true).getD j false) = ((List.range ops.length).filter (fun i => !listed.getD i false)).erase i := by
          rw [List.Nodup.erase_eq_filter (List.Nodup.sublist List.filter_sublist List.nodup_range), List.filter_filter]
          apply List.filter_congr
          intro j hj
          by_cases e : i = j
          · subst e; rw [set_self (by rw [hsz]; exact h2)]; simp
          · rw [set_other e]
            have : (j != i) = true := by simp; exact fun q => e q.symm
            rw [this, Bool.true_and]
        rw [e, List.length_erase_of_mem (by simp only [List.mem_filter, List.mem_range]; exact ⟨h2, by rw [h1]; rfl⟩), hfl _ rfl]
        rfl
      refine ⟨fun hnone => ?_, fun i hr => ?_⟩
      · -- something must be ready: the first that is not listed
        exfalso
        have hlen := hfl _ rfl
        -- least unlisted index by position waits only for smaller ones?  not known: use that every unlisted op waits for an unlisted one is impossible when the region can be linearised
        exact (by
          have : ∃ i, i ∈ Region.ready .any ops.toArray listed := by
            obtain ⟨q, hq⟩ : ∃ q, q ∈ (List.range ops.length).filter (fun i => !listed.getD i false) := by
              cases hfe : (List.range ops.length).filter (fun i => !listed.getD i false) with
              | nil => rw [hfe] at hlen; cases hlen
              | cons q l => exact ⟨q, List.mem_cons_self⟩
            have hleast : ∀ m q, q ≤ m → q < ops.length → listed.getD q false = false → ∃ i, i < ops.length ∧ listed.getD i false = false ∧ ∀ j, j < i → listed.getD j false = true := by
              intro m
              induction m with
              | zero => intro q hm hq1 hq2; exact ⟨q, hq1, hq2, fun j hj => by omega⟩
              | succ m ihm =>
                intro q hm hq1 hq2
                by_cases hall : ∀ j, j < q → listed.getD j false = true
                · exact ⟨q, hq1, hq2, hall⟩
                · obtain ⟨j, hj⟩ := Classical.not_forall.1 hall
                  obtain ⟨hj1, hj2⟩ := Classical.not_imp.1 hj
                  exact ihm j (by omega) (by omega) (by simpa using hj2)
            simp only [List.mem_filter, List.mem_range] at hq
            obtain ⟨i, hi, hi1, hi2⟩ := hleast q q (Nat.le_refl _) hq.1 (by simpa using hq.2)
            refine ⟨i, mem_ready.2 ⟨getD_in (by rw [hsz]; exact hi) hi1, opAt ops i, ?_, fun e he hb => hi2 e.on ((opsOk_at hok hi).2.2.2 e.on ?_)⟩⟩
            · unfold opAt; rw [List.getElem?_toArray, List.getD_eq_getElem?_getD, List.getElem?_eq_getElem hi]; rfl
            · unfold isAfter; rw [Array.any_eq_true']; exact ⟨e, he, by rw [hb, Nat.beq_refl]; rfl⟩
          obtain ⟨i, hi⟩ := this
          rw [hnone] at hi; cases hi)
      · obtain ⟨h1, hi, hop, hall⟩ := ready_after hr
        have hsz' : (listed.setIfInBounds i true).size = ops.length := by simpa using hsz
        have hclo' := hclo.set hr
        have hev := over_ev (f := f) hok (v := vals r) hr
        have hae : ∀ x ∈ (opAt ops i).op.operands, a.eval x = ev (full ops f (vals r)) x := fun x hx => by rw [ha.ev]; exact hev x hx
        have hex : execOp a.eval (opAt ops i) = execOp (ev (full ops f (vals r))) (opAt ops i) := execOp_congr _ (Region.noSelect_spec hsel i _ · · hop) hae
        have hwant : Region.wanted (opAt ops i) (yielded ops.toArray a.tmps) = Region.wanted (opAt ops i) (yf ops.toArray (full ops f (vals r))) := by rw [ha.yf]; exact over_wanted hok hr
        unfold wpOp
        simp only [hop]
        rw [hwant]
        by_cases hne : es.contains i = true
        · -- an effect
          have hmem : i ∈ es := by simpa using hne
          obtain ⟨j, hj⟩ := List.getElem?_of_mem hmem
          have hg := (hesl j i hj).2
          have hjk : j = k := by
            have h3 := hpre j i hj
            rw [h1] at h3
            have h4 : ¬ j < k := by simpa using h3.symm
            by_cases hlt : k < j
            · -- the one ahead of it is listed
              exfalso
              obtain ⟨j', rfl⟩ : ∃ j', j = j' + 1 := ⟨j - 1, by omega⟩
              have hj' : j' < es.length := by have := (List.getElem?_eq_some_iff.1 hj).1; omega
              have hreach : ∀ {l : List Nat}, chainOk ops l = true → ∀ k e e', l[k]? = some e' → l[k + 1]? = some e → reach ops.toArray .any 5 e e' = true ∧ e ≠ e' := by
                intro l
                induction l with
                | nil => intro _ k e e' h _; simp at h
                | cons a l ih2 =>
                  intro hk k e e' h1 h2
                  cases l with
                  | nil => cases k <;> simp at h2
                  | cons b l =>
                    unfold chainOk at hk
                    simp only [Bool.and_eq_true] at hk
                    cases k with
                    | zero =>
                      simp at h1 h2; subst h1 h2
                      refine ⟨hk.1.1, fun e => ?_⟩
                      rw [e, Nat.beq_refl] at hk; exact absurd hk.1.2 (by simp)
                    | succ k => exact ih2 hk.2 k e e' (by simpa using h1) (by simpa using h2)
              obtain ⟨hr1, hne1⟩ := hreach hch j' i es[j'] (List.getElem?_eq_getElem hj') hj
              have hl : listed.getD es[j'] false = true := by
                unfold reach at hr1
                rw [Bool.or_eq_true] at hr1
                rcases hr1 with hr1 | hr1
                · exact absurd (by simpa using hr1) hne1
                · rw [hop] at hr1
                  simp only at hr1
                  rw [Array.any_eq_true'] at hr1
                  obtain ⟨e, he1, he2⟩ := hr1
                  rw [Bool.and_eq_true] at he2
                  refine hclo.reach _ _ he2.2 (hall e.on ?_)
                  unfold isAfter
                  rw [Array.any_eq_true']
                  exact ⟨e, he1, by rw [he2.1, Nat.beq_refl]; rfl⟩
              have h5 := hpre j' es[j'] (List.getElem?_eq_getElem hj')
              rw [hl] at h5
              have : j' < k := by simpa using h5.symm
              omega
            · omega
          subst hjk
          have hjl : j < es.length := (List.getElem?_eq_some_iff.1 hj).1
          rw [if_pos (by unfold Region.wanted; rw [hg])]
          refine .inl (he j i hj r w1 a _ hS hae fun p w' hS' => ?_)
          -- the values that are listed stay
          have hsame : over ops f (vals r) listed = over ops f (vals (updr r j p)) listed := by
            funext s
            unfold over
            cases hw : writer ops s with
            | none => rfl
            | some q =>
              simp only
              cases hlq : listed.getD q false
              · rfl
              · simp only [if_true]
                by_cases hqe : es.contains q = true
                · obtain ⟨jq, hjq⟩ := List.getElem?_of_mem (show q ∈ es by simpa using hqe)
                  have h6 := hpre jq q hjq
                  rw [hlq] at h6
                  have h7 : jq < j := by simpa using h6.symm
                  exact (hde jq q hjq j r p (by omega)).symm
                · have hqe' : es.contains q = false := by simpa using hqe
                  have hqi := (writer_spec hw).2
                  refine (hdq q hqi hqe' j r p ?_).symm
                  have hlo := (hspan q hqi hqe').1
                  unfold loOk at hlo
                  split at hlo
                  · rename_i hz; rw [hz]; exact Nat.zero_le _
                  · rename_i k' hz
                    rw [hz]
                    cases hek : es[k']? with
                    | none => rw [hek] at hlo; cases hlo
                    | some e =>
                      rw [hek] at hlo
                      obtain ⟨mm, hlo⟩ := pathB_reach hlo
                      have h8 := hclo.reach _ _ hlo hlq
                      rw [hpre k' e hek] at h8
                      have : k' < j := by simpa using h8
                      omega
          refine ih _ _ _ (updr r j p) (j + 1) hsz' hclo' ?_ hjl ?_ hS' (hcount i hr)
          · intro q e hqe
            by_cases eq : i = e
            · subst eq
              have : q = j := by
                have h9 := (List.getElem?_eq_some_iff.1 hqe)
                have h10 := (List.getElem?_eq_some_iff.1 hj)
                exact (List.getElem_inj hnd).1 (h9.2.trans h10.2.symm)
              rw [set_self (by rw [hsz]; exact hi), this]
              simp
            · rw [set_other eq, hpre q e hqe]
              have : q ≠ j := fun z => by subst z; rw [hj] at hqe; exact eq (Option.some.inj hqe)
              by_cases c : q < j
              · rw [decide_eq_true c, decide_eq_true (by omega)]
              · rw [decide_eq_false c, decide_eq_false (by omega)]
          · have := (hsame ▸ ha).put (d := (opAt ops i).dst) (by
              cases hd : (opAt ops i).dst with
              | none => rfl
              | some d => simp [inn, Nat.blt_eq, ((opsOk_at hok hi).1 d hd).2]) (vals (updr r j p) i)
            rwa [over_set hok hsz hi] at this
        · have hne' : es.contains i = false := by simpa using hne
          obtain ⟨hlo, hhi⟩ := hspan i hi hne'
          have hl1 : (sp.getD i noSpan).1 ≤ k := by
            unfold loOk at hlo
            split at hlo
            · rename_i hz; rw [hz]; exact Nat.zero_le _
            · rename_i k' hz
              rw [hz]
              cases hek : es[k']? with
              | none => rw [hek] at hlo; cases hlo
              | some e =>
                rw [hek] at hlo
                have hne2 : i ≠ e := fun q => by subst q; exact absurd (show es.contains i = true by simpa using List.mem_of_getElem? hek) hne
                have hl : listed.getD e false = true := by
                  obtain ⟨mm, hlo⟩ := pathB_reach hlo
                  cases mm with
                  | zero => unfold reach at hlo; exact absurd (by simpa using hlo) hne2
                  | succ mm =>
                  unfold reach at hlo
                  rw [Bool.or_eq_true] at hlo
                  rcases hlo with hr1 | hr1
                  · exact absurd (by simpa using hr1) hne2
                  · rw [hop] at hr1
                    simp only at hr1
                    rw [Array.any_eq_true'] at hr1
                    obtain ⟨e2, he1, he2⟩ := hr1
                    rw [Bool.and_eq_true] at he2
                    refine hclo.reach _ _ he2.2 (hall e2.on ?_)
                    unfold isAfter
                    rw [Array.any_eq_true']
                    exact ⟨e2, he1, by rw [he2.1, Nat.beq_refl]; rfl⟩
                rw [hpre k' e hek] at hl
                have : k' < k := by simpa using hl
                omega
          have hl2 : k ≤ (sp.getD i noSpan).2.1 ∨ es.length ≤ (sp.getD i noSpan).2.1 := by
            unfold hiOk at hhi
            cases hek : es[(sp.getD i noSpan).2.1]? with
            | none => right; exact List.getElem?_eq_none_iff.1 hek
            | some e =>
              left
              rw [hek] at hhi
              have h3 := hpre _ e hek
              cases hle : listed.getD e false
              · rw [hle] at h3
                have : ¬ (sp.getD i noSpan).2.1 < k := by simpa using h3.symm
                omega
              · obtain ⟨mm, hhi⟩ := pathB_reach hhi
                have := hclo.reach _ _ hhi hle
                rw [h1] at this; cases this
          have hq1 := hq i hi hne' r k w1 hl1 (by rcases hl2 with q | q <;> omega) hS
          have hfin : ∀ w', S k r w' → wpAny P .any ops.toArray (lift n Q) fuel (listed.setIfInBounds i true) (a.put (opAt ops i).dst (vals r i)) w' := fun w' hS' => by
            refine ih _ _ _ r k hsz' hclo' ?_ hk ?_ hS' (hcount i hr)
            · intro q e hqe
              have : i ≠ e := fun z => by subst z; exact absurd (show es.contains i = true by simpa using List.mem_of_getElem? hqe) hne
              rw [set_other this]
              exact hpre q e hqe
            · have := ha.put (d := (opAt ops i).dst) (by
                cases hd : (opAt ops i).dst with
                | none => rfl
                | some d => simp [inn, Nat.blt_eq, ((opsOk_at hok hi).1 d hd).2]) (vals r i)
              rwa [over_set hok hsz hi] at this
          by_cases hwt : Region.wanted (opAt ops i) (yf ops.toArray (full ops f (vals r))) = true
          · rw [if_pos hwt] at hq1 ⊢
            refine .inl ?_
            unfold Oper.wp
            rw [hex]
            generalize (execOp (ev (full ops f (vals r))) (opAt ops i)).run P w1 = res at hq1
            cases res with
            | ok nx w' =>
              cases nx <;> simp only [Oper.quietUpon] at hq1 <;> simp only [Oper.upon]
              case value u => obtain ⟨e1, e2⟩ := hq1; subst e1 e2; exact hfin _ hS
              case skip => obtain ⟨e1, e2⟩ := hq1; subst e1; rw [← e2]; exact hfin _ hS
              case enter g args =>
                obtain ⟨e1, hc⟩ := hq1
                subst e1
                exact hc.mono fun e w'' ⟨he', hw''⟩ => by subst he'; exact hfin _ hw''
            | halt x w' => simp only [Oper.quietUpon] at hq1
          · rw [if_neg hwt] at hq1 ⊢
            rw [← hq1]
            exact hfin _ hS
  obtain ⟨r, hr⟩ := h0 { w with drawn := w.drawn + 1 } (Below.refl _ _).drew rfl
  have hstart : over ops f (vals r) (Array.replicate ops.toArray.size false) = f := by
    funext s
    unfold over
    cases writer ops s with
    | none => rfl
    | some i =>
      simp only
      rw [show (Array.replicate ops.toArray.size false).getD i false = false from by
        rw [Array.getD_eq_getD_getElem?]
        by_cases hi : i < ops.length
        · simp [hi]
        · simp [hi]]
      simp
  have hrep : ∀ i, (Array.replicate ops.toArray.size false).getD i false = false := fun i => by
    rw [Array.getD_eq_getD_getElem?]
    by_cases hi : i < ops.length
    · simp [hi]
    · simp [hi]
  have := key ops.toArray.size (Array.replicate ops.toArray.size false) a { w with drawn := w.drawn + 1 } r 0 (by simp) (Clo.start _ _ _) (fun j e _ => by rw [hrep]; simp) (Nat.zero_le _) (by rw [hstart]; exact ha) hr (fun fl hfl => by
    subst hfl
    have : (List.range ops.length).filter (fun i => !(Array.replicate ops.toArray.size false).getD i false) = List.range ops.length := List.filter_eq_self.2 fun i _ => by rw [hrep]; rfl
    rw [this]; simp)
  exact this
end
end Fx
end Go.Proofs.Ytkajcjefckjijaa
namespace Go.Proofs.Ytkajcjefckjijaa
open Go.RowKit
namespace Fx
section
variable {P : Program} {n : Nat} {Q : Post} {f : Nat → Value} {w : World} {ops : List Oper}
def vOne (ia : Nat) (vs : Array Value) : Gh → Nat → Value := fun r i => bif Nat.beq i ia then .pointer (some ⟨(r 0).1, 0, none⟩) else vs.getD i undef
def sOne (w : World) (m : Nat) (z y : Nat → Value) (T : TypeId) : Nat → Gh → World → Prop := fun k r w1 => Below w.heap.size w w1 ∧ (match k with | 0 => True | 1 => w.heap.size ≤ (r 0).1 ∧ Blk w1 (r 0).1 m z T | _ => w.heap.size ≤ (r 0).1 ∧ Blk w1 (r 0).1 m y T)
theorem sOne.up {m : Nat} {z y : Nat → Value} {T : TypeId} {k : Nat} {r : Gh} {w1 w2 : World} (h : sOne w m z y T k r w1) (hb : Below w1.heap.size w1 w2) : sOne w m z y T k r w2 := by
  refine ⟨bch h.1 hb, ?_⟩
  have h2 := h.2
  cases k with
  | zero => trivial
  | succ k => cases k with
    | zero => exact ⟨h2.1, h2.2.stp (Sb hb) (Nat.ne_of_lt h2.2.lt)⟩
    | succ k => exact ⟨h2.1, h2.2.stp (Sb hb) (Nat.ne_of_lt h2.2.lt)⟩
def QB (P : Program) (ρ : Operand → Value) (o : Oper) (w : World) (v : Value) : Prop := ∀ w1, Below w.heap.size w w1 → (execOp ρ o).run P w1 = .ok (.value v) w1 ∨ ∃ g args, (execOp ρ o).run P w1 = .ok (.enter g args) w1 ∧ Calls P g args w1 fun e w2 => e = .returned v ∧ Below w1.heap.size w1 w2
def qbAll (P : Program) (f' : Nat → Value) (ops : Array Oper) (w : World) (ia st : Nat) (vs : Array Value) : List Oper → Nat → Prop
  | [], _ => True
  | o :: l, i => (Nat.beq i ia = true ∨ Nat.beq i st = true ∨ (if Region.wanted o (yf ops f') then QB P (ev f') o w (vs.getD i undef) else vs.getD i undef = undef)) ∧ qbAll P f' ops w ia st vs l (i + 1)
theorem qbAll_at {f' : Nat → Value} {opsA : Array Oper} {ia st : Nat} {vs : Array Value} : ∀ {l : List Oper} {k : Nat}, qbAll P f' opsA w ia st vs l k → ∀ i, i < l.length → (k + i = ia ∨ k + i = st ∨ (if Region.wanted (opAt l i) (yf opsA f') then QB P (ev f') (opAt l i) w (vs.getD (k + i) undef) else vs.getD (k + i) undef = undef))
  | [], _, _, i, hi => absurd hi (by simp)
  | o :: l, k, h, 0, _ => by
    rcases h.1 with h1 | h1 | h1
    · exact .inl (Nat.eq_of_beq_eq_true h1)
    · exact .inr (.inl (Nat.eq_of_beq_eq_true h1))
    · exact .inr (.inr h1)
  | o :: l, k, h, i + 1, hi => by
    have := qbAll_at h.2 i (by simpa using hi)
    rwa [show k + 1 + i = k + (i + 1) by omega] at this
def fOne (ops : List Oper) (f : Nat → Value) (ia : Nat) (vs : Array Value) (g : Nat) : Nat → Value := full ops f (fun i => bif Nat.beq i ia then .pointer (some ⟨g, 0, none⟩) else vs.getD i undef)
theorem Wone {id : Nat} {T T' : TypeId} {a v : Operand} {m : Nat} {z y : Nat → Value} {u : Value} (ia st : Nat) (sp : List Span) (vs : Array Value) (hm : P.follows .mixedOrders = true) (hok : opsOk n ops = true) (hsel : Region.noSelect ops.toArray = true) (hch : chainOk ops [ia, st] = true) (hsp : spanOk ops [ia, st] sp = true)
    (hes : [ia, st].all (fun e => Nat.blt e ops.length && (match (opAt ops e).guard with | none => true | _ => false)) = true)
    (hia : (opAt ops ia).op = .alloc T) (hz : ((P.info? T).bind (·.zero)).map (·.cells) = some (varr m z))
    (hst : (opAt ops st).op = .store T' a v) (hsd : (opAt ops st).dst = none) (hsz : (P.info? T').map (·.size) = some m) (ha : ∀ g, ev (fOne ops f ia vs g) a = .pointer (some ⟨g, 0, none⟩)) (hv : ∀ g, ev (fOne ops f ia vs g) v = u) (hu : u.cells = varr m y) (h1 : ∀ j, j < m → (y j).oneCell' = true) (hvs : vs.getD st undef = undef)
    (hq : ∀ g, qbAll P (fOne ops f ia vs g) ops.toArray w ia st vs ops 0)
    (h : ∀ g w' f', f' = fOne ops f ia vs g → w.heap.size ≤ g → Blk w' g m y T → Below w.heap.size w w' → Q .normal f' w') : W P n (.region id ops.toArray true) Q f w := by
  have hne : ia ≠ st := by
    unfold chainOk at hch
    simp only [Bool.and_eq_true] at hch
    intro e; subst e; rw [Nat.beq_refl] at hch; exact absurd hch.1.2 (by simp)
  have hval : ∀ r i, vOne ia vs r i = (fun i => bif Nat.beq i ia then Value.pointer (some ⟨(r 0).1, 0, none⟩) else vs.getD i undef) i := fun _ _ => rfl
  have hbia : Nat.beq ia ia = true := Nat.beq_refl _
  have hbst : Nat.beq st ia = false := by
    cases hq : Nat.beq st ia
    · rfl
    · exact absurd (Nat.eq_of_beq_eq_true hq).symm hne
  refine W.drawn [ia, st] sp (vOne ia vs) (sOne w m z y T) hm hok hsel hch hsp hes (by simp [hne]) (fun w1 hb _ => ⟨fun _ => (0, 0), hb, trivial⟩) ?_ ?_ ?_ ?_ ?_
  · intro i hi hni r k w1 _ _ hS
    have hni' : i ≠ ia ∧ i ≠ st := by simpa using hni
    have hb : Nat.beq i ia = false := by
      cases hq : Nat.beq i ia
      · rfl
      · exact absurd (Nat.eq_of_beq_eq_true hq) hni'.1
    have hv' : vOne ia vs r i = vs.getD i undef := by unfold vOne; rw [hb]; rfl
    rcases qbAll_at (hq (r 0).1) i hi with h2 | h2 | h2
    · exact absurd h2 (by omega)
    · exact absurd h2 (by omega)
    rw [Nat.zero_add] at h2
    have hff : full ops f (vOne ia vs r) = fOne ops f ia vs (r 0).1 := rfl
    rw [hff, hv']
    by_cases hw : Region.wanted (opAt ops i) (yf ops.toArray (fOne ops f ia vs (r 0).1)) = true
    · rw [if_pos hw] at h2 ⊢
      rcases h2 w1 hS.1 with h3 | ⟨g, args, h3, h4⟩
      · rw [h3]; exact ⟨rfl, rfl⟩
      rw [h3]; exact ⟨rfl, h4.mono fun e w2 ⟨he, hb2⟩ => ⟨he, hS.up hb2⟩⟩
    rw [if_neg hw] at h2 ⊢; exact h2
  · intro k i hk
    cases k with
    | zero =>
      simp at hk; subst hk
      intro r w1 b K hS hb hK
      obtain ⟨zz, hz1, hz2⟩ := Option.map_eq_some_iff.1 hz
      obtain ⟨ti, hi1, hz3⟩ := Option.bind_eq_some_iff.1 hz1
      have hrun : (execOp b.eval (opAt ops ia)).run P w1 = .ok (.value (.pointer (some ⟨w1.heap.size, 0, none⟩))) (w1.alloc (.cells zz.cells T)) := by
        unfold execOp
        simp [hia, Instr.alloc, zeroValue, typeInfo, hi1, hz3, newVar, newRow]
      unfold Oper.wp
      rw [hrun]
      have := hK (w1.heap.size, 0) (w1.alloc (.cells zz.cells T)) ⟨bch hS.1 (Stp.alloc _ _).old, hS.1.size, by
        show (w1.alloc _).heap[w1.heap.size]? = _
        rw [alloc_at, if_pos rfl, hz2]⟩
      unfold vOne at this
      rw [hbia, updr_same] at this
      exact this
    | succ k =>
      cases k with
      | zero =>
        simp at hk; subst hk
        intro r w1 b K hS hb hK
        obtain ⟨hS1, hS2, hS3⟩ := hS
        have ea : b.eval a = .pointer (some ⟨(r 0).1, 0, none⟩) := (hb a (by rw [hst]; simp [Op.operands])).trans (ha (r 0).1)
        have ev' : b.eval v = u := (hb v (by rw [hst]; simp [Op.operands])).trans (hv (r 0).1)
        have hg : w1.heap[(r 0).1]? = some (.cells (varr m z) T (0, 0)) := hS3
        have hall : (varr m y).all (·.oneCell') = true := by
          rw [Array.all_eq_true_iff_forall_mem]
          intro q hqm
          obtain ⟨j, hj, he⟩ := Array.getElem_of_mem hqm
          have hj' : j < m := by simpa [varr_size] using hj
          have h5 := varr_get y hj'
          rw [Array.getElem?_eq_getElem hj, he] at h5
          rw [Option.some.inj h5]; exact h1 j hj'
        have hstv : (storeVar T' ⟨(r 0).1, 0, none⟩ u).run P w1 = .ok () (w1.setRow (r 0).1 (varr m y)) := by
          have h6 := run_storeCells_at (P := P) (r 0).1 0 T (varr m y).toList 0 (varr m z) w1 hg (by simp [varr_size]) (fun q hq => (Array.all_eq_true_iff_forall_mem.1 hall) q (by simpa using hq))
          have h7 : ((varr m z).toList.take (0 + 0) ++ (varr m y).toList ++ (varr m z).toList.drop (0 + 0 + (varr m y).toList.length)).toArray = varr m y := by
            rw [List.drop_eq_nil_of_le (by simp [varr_size])]; simp
          rw [h7] at h6
          cases hq : P.info? T' with
          | none => simp [hq] at hsz
          | some ti =>
            have hz' : ti.size = m := by simp [hq] at hsz; omega
            simp only [storeVar, sizeOf, typeInfo, Sem.run_bind, run_program, hq, hu, varr_size, hz', ne_eq, not_true_eq_false, if_false, Result.andThen_ok, Sem.run_pure, h6]
        have hrun : (execOp b.eval (opAt ops st)).run P w1 = .ok .skip (w1.setRow (r 0).1 (varr m y)) := by
          unfold execOp
          simp only [hst, ea, ev', Instr.storeAt, Instr.sureAddr, Sem.run_bind, Sem.run_pure, Result.andThen_ok, hstv]
        obtain ⟨s1, s2, s3⟩ := setRow_stp (w := w1) (cs := varr m y) hg
        unfold Oper.wp
        rw [hrun]
        show K (b.put (opAt ops st).dst undef) _
        rw [hsd]
        have := hK (0, 0) (w1.setRow (r 0).1 (varr m y)) ⟨s1.below hS1 hS1.size hS2, by rw [updr_ne (by omega)]; exact hS2, by rw [updr_ne (by omega)]; exact s2⟩
        rw [hsd] at this
        exact this
      | succ k => simp at hk
  · intro i hi hni k r p _
    have hni' : i ≠ ia ∧ i ≠ st := by simpa using hni
    have hb : Nat.beq i ia = false := by
      cases hq : Nat.beq i ia
      · rfl
      · exact absurd (Nat.eq_of_beq_eq_true hq) hni'.1
    unfold vOne; rw [hb]; rfl
  · intro k i hk q r p hq
    cases k with
    | zero => simp at hk; subst hk; unfold vOne; rw [hbia, updr_ne (by omega)]
    | succ k =>
      cases k with
      | zero => simp at hk; subst hk; unfold vOne; rw [hbst]; rfl
      | succ k => simp at hk
  intro r w' hS
  exact h (r 0).1 w' _ rfl hS.2.1 hS.2.2 hS.1
theorem fOne_out {ia : Nat} {vs : Array Value} {g s : Nat} (h : writer ops s = none) : ev (fOne ops f ia vs g) (.tmp s) = f s := by
  show full ops f _ s = f s
  unfold full; rw [h]
theorem qbV {ρ : Operand → Value} {o : Oper} {v : Value} (h : ∀ w1, Below w.heap.size w w1 → (execOp ρ o).run P w1 = .ok (.value v) w1) : QB P ρ o w v := fun w1 hb => .inl (h w1 hb)
theorem qbC {ρ : Operand → Value} {o : Oper} {v : Value} {g : FuncId} {args : Array Value} (h : ∀ w1, Below w.heap.size w w1 → (execOp ρ o).run P w1 = .ok (.enter g args) w1) (hc : ∀ w1, Below w.heap.size w w1 → Calls P g args w1 fun e w2 => e = .returned v ∧ Below w1.heap.size w1 w2) : QB P ρ o w v := fun w1 hb => .inr ⟨g, args, h w1 hb, hc w1 hb⟩
theorem qb_yes {o : Oper} {ops : Array Oper} {f' : Nat → Value} {v v' : Value} {p : Prop} (hw : Region.wanted o (yf ops f') = true) (e : v' = v) (h : QB P (ev f') o w v) : (if Region.wanted o (yf ops f') then QB P (ev f') o w v' else p) := by rw [if_pos hw, e]; exact h
end
end Fx
end Go.Proofs.Ytkajcjefckjijaa
namespace Go.Proofs.Ytkajcjefckjijaa
open Go.RowKit
namespace Fx
section
variable {P : Program} {n : Nat} {Q : Post} {f : Nat → Value} {w : World} {ops : Array Oper} {rest : List Oper} {o : Oper}
theorem x_eqlB {T T' : TypeId} {x y : Operand} {a b c : Bool} (ho : o.op = .binOp .eql T x y T') (hx : ev f x = .bool a) (hy : ev f y = .bool b) (hT : P.underlying T = some .bool) (hc : (a == b) = c) : Runs P f o w (.bool c) := by
  unfold Runs execOp
  simp only [ho, hx, hy]
  have hg : (eqGuard .eql T x y (.bool a) (.bool b)).run P w = .ok () w := by unfold eqGuard; rfl
  simp only [Sem.run_bind, hg, Result.andThen_ok, run_eql_bool w T a b hT, Sem.run_pure, hc]
theorem Lbs {T E : TypeId} {len s : Nat} {parts : List (Nat × Operand)} {vs : List (Nat × Value)} {zc y : Nat → Value} (hw : Region.wanted o (yf ops f) = true) (ho : o.op = .buildSlice T len parts.toArray) (hp : parts.map (fun p => (p.1, ev f p.2)) = vs) (hu : P.underlying T = some (.slice E)) (hs : (P.info? E).map (·.size) = some s)
    (hbig : Nat.ble (len * s) 16777216 = true) (hpos : Nat.beq (len * s) 0 = false) (hz : ((P.info? E).bind (·.zero)).map (·.cells) = some (varr s zc)) (hf : Instr.fill (fun i => some (i * s, s)) (varr (len * s) (fun j => zc (j % s))) vs = some (varr (len * s) y)) (hd : inn n o.dst = true)
    (h : ∀ g w', g = w.heap.size → Blk w' g (len * s) y E → Stp w.heap.size w w' → w'.heap.size = w.heap.size + 1 → L P n ops Q rest (put f o.dst (.slice (some ⟨g, 0, none⟩) len len)) w') : L P n ops Q (o :: rest) f w := by
  obtain ⟨z, hz1, hz2⟩ := Option.map_eq_some_iff.1 hz
  obtain ⟨i, hi, hz3⟩ := Option.bind_eq_some_iff.1 hz1
  have hsz : i.size = s := by rw [hi] at hs; simpa using hs
  have hb : ¬ len * s > 2 ^ 24 := by have := Nat.le_of_ble_eq_true hbig; omega
  have h0 : len * s ≠ 0 := fun e => by rw [e] at hpos; exact absurd hpos (by decide)
  have hs0 : 0 < s := Nat.pos_of_ne_zero fun e => h0 (by rw [e, Nat.mul_zero])
  have hcells : (Array.range (len * s)).map (fun j => z.cells[j % z.cells.size]!) = varr (len * s) (fun j => zc (j % s)) := by
    refine varr_ext (by simp) fun j hj => ?_
    have hjs : j % s < s := Nat.mod_lt _ hs0
    have hg := varr_get zc hjs
    rw [hz2]
    simp [hj, varr_size]
    rw [getElem!_def, hg]
  have hrun : (execOp (ev f) o).run P w = .ok (.value (.slice (some ⟨w.heap.size, 0, none⟩) len len)) (w.alloc (.cells (varr (len * s) y) E)) := by
    unfold execOp
    simp only [ho, List.map_toArray, hp]
    unfold Instr.buildSlice
    have hb' : ¬ 16777216 < len * s := by omega
    simp [underlying, sizeOf, typeInfo, zeroValue, hu, hi, hsz, hz3, hb']
    simp [h0, hcells, hf, newRow]
  refine L.val hw hrun hd (h _ _ rfl ?_ (Stp.alloc _ _) (by simp))
  show (w.alloc _).heap[w.heap.size]? = _
  rw [alloc_at, if_pos rfl]
end
end Fx
end Go.Proofs.Ytkajcjefckjijaa
namespace Go.Proofs.Ytkajcjefckjijaa
open Go.RowKit
namespace Fx
def Own (w : World) (B : Nat) (E : TypeId) (s : Nat) (v : Value) (n : Nat) (x : Nat → Value) : Prop := w.ownsRow B E s v n ((List.range (n * s)).map x)
theorem oNl (w : World) (B : Nat) (E : TypeId) (s : Nat) (x : Nat → Value) : Own w B E s (.slice none 0 0) 0 x := ⟨by simp, .inl ⟨rfl, rfl⟩⟩
theorem Stp.grown {g : Nat} {w w' : World} (h : Stp g w w') : w.grownBy w' (some g) := ⟨h.os, h.tape, h.output, h.size, fun k hk hne => h.block k hk (fun e => hne (by rw [e]))⟩
theorem Own.stp {w w' : World} {B : Nat} {E : TypeId} {s : Nat} {v : Value} {n : Nat} {x : Nat → Value} {g : Nat} (h : Own w B E s v n x) (hs : Stp g w w') (hne : v.ownBlock ≠ some g) : Own w' B E s v n x := World.ownsRow.kept h hs.grown (.inr hne)
theorem Own.up {w w' : World} {B : Nat} {E : TypeId} {s : Nat} {v : Value} {n : Nat} {x : Nat → Value} (h : Own w B E s v n x) (hb : Below w.heap.size w w') : Own w' B E s v n x := by
  refine World.ownsRow.kept h (row := none) ⟨hb.os, hb.tape, hb.output, hb.size, fun k hk _ => hb.block k hk⟩ ?_
  cases v.ownBlock <;> simp
theorem Own.ge {w : World} {B : Nat} {E : TypeId} {s : Nat} {v : Value} {n : Nat} {x : Nat → Value} (h : Own w B E s v n x) {g : Nat} (hg : v.ownBlock = some g) : B ≤ g ∧ g < w.heap.size := by
  rcases h.2 with ⟨rfl, _⟩ | ⟨g', cap, cur, rfl, hb, hgg, _⟩
  · cases hg
  simp only [Value.ownBlock, Option.some.injEq] at hg; subst hg
  exact ⟨hb, (Array.getElem?_eq_some_iff.1 hgg).1⟩
theorem Own.not {w : World} {B : Nat} {E : TypeId} {s : Nat} {v : Value} {n : Nat} {x : Nat → Value} (h : Own w B E s v n x) {b : Nat} (hb : b < B) : v.ownBlock ≠ some b := fun e => by have := (h.ge e).1; omega
theorem Own.notNew {w : World} {B : Nat} {E : TypeId} {s : Nat} {v : Value} {n : Nat} {x : Nat → Value} (h : Own w B E s v n x) {b : Nat} (hb : w.heap.size ≤ b) : v.ownBlock ≠ some b := fun e => by have := (h.ge e).2; omega
theorem Own.form {w : World} {B : Nat} {E : TypeId} {s : Nat} {v : Value} {n : Nat} {x : Nat → Value} (h : Own w B E s v n x) (hn : 0 < n) : ∃ g cap, v = .slice (some ⟨g, 0, none⟩) n cap ∧ B ≤ g ∧ g < w.heap.size ∧ n ≤ cap ∧ Cel w g 0 (n * s) x := by
  have h0 := h
  rcases h.2 with ⟨_, hz⟩ | ⟨g, cap, cur, rfl, hb, hgg, hnc, _⟩
  · omega
  refine ⟨g, cap, rfl, hb, (Array.getElem?_eq_some_iff.1 hgg).1, hnc, fun i hi => ?_⟩
  rw [Nat.zero_add, World.ownsRow.cellAt h0 i hi]
  simp [hi]
theorem Own.val {w : World} {B : Nat} {E : TypeId} {s : Nat} {v : Value} {n : Nat} {x : Nat → Value} (h : Own w B E s v n x) : ∃ a cap, v = .slice a n cap := by
  rcases h.2 with ⟨rfl, rfl⟩ | ⟨g, cap, cur, rfl, _⟩
  · exact ⟨_, _, rfl⟩
  exact ⟨_, _, rfl⟩
def appX (x : Nat → Value) (k : Nat) (y : Nat → Value) : Nat → Value := fun p => if p < k then x p else y (p - k)
theorem appX_list (x y : Nat → Value) (k m : Nat) : (List.range k).map x ++ (List.range m).map y = (List.range (k + m)).map (appX x k y) := by
  apply List.ext_getElem?
  intro i
  by_cases h : i < k
  · rw [List.getElem?_append_left (by simpa using h)]
    simp [h, appX, show i < k + m by omega]
  rw [List.getElem?_append_right (by simp; omega)]
  by_cases h2 : i < k + m
  · simp [h2, appX, h, show i - k < m by omega]
  simp [h2, show ¬ i - k < m by omega]
section
variable {P : Program} {n : Nat} {Q : Post} {f : Nat → Value} {w : World} {o : Oper}
theorem run_app {B : Nat} {E T ty : TypeId} {s bytes k m c : Nat} {v : Value} {x y : Nat → Value} {b off : Nat} (hu : P.underlying T = some (.slice E)) (hi : (P.info? E).map (fun i => (i.size, i.bytes)) = some (s, bytes)) (hz : ((P.info? E).bind (·.zero)).map (·.cells.size) = some s) (hs : Nat.blt 0 s = true)
    (hown : Own w B E s v k x) (hc : Cel w b off (m * s) y) (h1 : ∀ j, j < m * s → (y j).oneCell' = true) (hm : 0 < m) (hbytes : (k + m) * bytes ≤ 140737488355328) (h63 : k + m ≤ 140737488355328) (hB : B ≤ w.heap.size) :
    ∃ g cap w', (Builtin.append_ #[T, T] ty #[v, .slice (some ⟨b, off, none⟩) m c]).run P w = .ok (.slice (some ⟨g, 0, none⟩) (k + m) cap) w' ∧ Own w' B E s (.slice (some ⟨g, 0, none⟩) (k + m) cap) (k + m) (appX x (k * s) y) ∧ w.grownBy w' v.ownBlock ∧ (v.ownBlock = some g ∨ g = w.heap.size) ∧ g < w'.heap.size := by
  obtain ⟨i, hi1, hi2⟩ := Option.map_eq_some_iff.1 hi
  obtain ⟨z, hz1, hz2⟩ := Option.map_eq_some_iff.1 hz
  rw [hi1] at hz1
  simp only [Prod.mk.injEq] at hi2
  have hz3 : i.zero = some z := hz1
  have hs' : 0 < s := by simpa [Nat.blt_eq] using hs
  obtain ⟨g, cap, w', hr, ho, hg, hg2, hlt⟩ := run_append_lies (P := P) w T ty B E i z s bytes hu hi1 hz3 hi2.1 hi2.2 hz2 hs' v k _ hown ⟨b, off, none⟩ m c ((List.range (m * s)).map y) (by simp)
    (fun j u hj => by
      have hjl : j < m * s := by have := (List.getElem?_eq_some_iff.1 hj).1; simpa using this
      simp [hjl] at hj
      rw [addr_add, ← hj]; exact hc j hjl)
    (fun u hu => by
      obtain ⟨j, hj, rfl⟩ := List.mem_map.1 hu
      exact h1 j (by simpa using hj)) hm (by unfold maxLen; omega) hbytes hB w.heap.size rfl
  refine ⟨g, cap, w', hr, ?_, hg, hg2, hlt⟩
  unfold Own
  rw [Nat.add_mul, ← appX_list]
  exact ho
theorem r_app {B : Nat} {E T : TypeId} {s bytes k m c : Nat} {v : Value} {x y : Nat → Value} {b off : Nat} {sx xx : Operand} {ρ : Operand → Value} (ho : o.op = .call { callee := .builtin .append, args := #[sx, xx], argTypes := #[T, T] }) (hsx : ρ sx = v) (hxx : ρ xx = .slice (some ⟨b, off, none⟩) m c)
    (hu : P.underlying T = some (.slice E)) (hi : (P.info? E).map (fun i => (i.size, i.bytes)) = some (s, bytes)) (hz : ((P.info? E).bind (·.zero)).map (·.cells.size) = some s) (hs : Nat.blt 0 s = true)
    (hown : Own w B E s v k x) (hc : Cel w b off (m * s) y) (h1 : ∀ j, j < m * s → (y j).oneCell' = true) (hm : 0 < m) (hbytes : (k + m) * bytes ≤ 140737488355328) (h63 : k + m ≤ 140737488355328) (hB : B ≤ w.heap.size) :
    ∃ g cap w', (execOp ρ o).run P w = .ok (.value (.slice (some ⟨g, 0, none⟩) (k + m) cap)) w' ∧ Own w' B E s (.slice (some ⟨g, 0, none⟩) (k + m) cap) (k + m) (appX x (k * s) y) ∧ w.grownBy w' v.ownBlock ∧ (v.ownBlock = some g ∨ g = w.heap.size) ∧ g < w'.heap.size := by
  obtain ⟨g, cap, w', hr, h⟩ := run_app (ty := o.type) (c := c) hu hi hz hs hown hc h1 hm hbytes h63 hB
  refine ⟨g, cap, w', ?_, h⟩
  unfold execOp
  simp only [ho]
  unfold resolve invoke
  simp only [List.map_toArray, List.map_cons, List.map_nil, hsx, hxx]
  unfold builtin
  simp only [Sem.run_bind, Sem.run_pure, Result.andThen_ok, hr]
theorem grown_stp {w w' : World} {v : Value} (hg : w.grownBy w' v.ownBlock) {b : Nat} (hb : b < w.heap.size) (hne : v.ownBlock ≠ some b) : w'.heap[b]? = w.heap[b]? := hg.block b hb (fun e => hne e.symm)
theorem Blk.grown {w w' : World} {v : Value} {b m : Nat} {x : Nat → Value} {T : TypeId} (h : Blk w b m x T) (hg : w.grownBy w' v.ownBlock) (hne : v.ownBlock ≠ some b) : Blk w' b m x T := (grown_stp hg h.lt hne).trans h
theorem Cel.grown {w w' : World} {v : Value} {b off m : Nat} {x : Nat → Value} (h : Cel w b off m x) (hg : w.grownBy w' v.ownBlock) (hne : v.ownBlock ≠ some b) : Cel w' b off m x := fun i hi => by
  have hc := h i hi
  rw [← hc]
  exact World.cell?_of_block (w := w) (grown_stp hg (block_lt_of_cell hc) hne)
theorem bGr {w0 w w' : World} {v : Value} {B : Nat} (h : Below B w0 w) (hg : w.grownBy w' v.ownBlock) (hB : B ≤ w.heap.size) (hv : ∀ g, v.ownBlock = some g → B ≤ g) : Below B w0 w' := h.grown hg hB hv
theorem Lap {ops : Array Oper} {rest : List Oper} {B : Nat} {E T : TypeId} {s bytes k m c : Nat} {v : Value} {x y : Nat → Value} {b off : Nat} {sx xx : Operand} (hw : Region.wanted o (yf ops f) = true) (ho : o.op = .call { callee := .builtin .append, args := #[sx, xx], argTypes := #[T, T] }) (hsx : ev f sx = v) (hxx : ev f xx = .slice (some ⟨b, off, none⟩) m c)
    (hu : P.underlying T = some (.slice E)) (hi : (P.info? E).map (fun i => (i.size, i.bytes)) = some (s, bytes)) (hz : ((P.info? E).bind (·.zero)).map (·.cells.size) = some s) (hs : Nat.blt 0 s = true) (hd : inn n o.dst = true)
    (hown : Own w B E s v k x) (hc : Cel w b off (m * s) y) (h1 : ∀ j, j < m * s → (y j).oneCell' = true) (hm : 0 < m) (hbytes : (k + m) * bytes ≤ 140737488355328) (h63 : k + m ≤ 140737488355328) (hB : B ≤ w.heap.size)
    (h : ∀ g cap w', Own w' B E s (.slice (some ⟨g, 0, none⟩) (k + m) cap) (k + m) (appX x (k * s) y) → w.grownBy w' v.ownBlock → (v.ownBlock = some g ∨ g = w.heap.size) → g < w'.heap.size → L P n ops Q rest (put f o.dst (.slice (some ⟨g, 0, none⟩) (k + m) cap)) w') : L P n ops Q (o :: rest) f w := by
  obtain ⟨g, cap, w', hr, h2, h3, h4, h5⟩ := r_app (ρ := ev f) (c := c) ho hsx hxx hu hi hz hs hown hc h1 hm hbytes h63 hB
  exact L.val hw hr hd (h g cap w' h2 h3 h4 h5)
theorem x_sliceLo {T E : TypeId} {x lo : Operand} {b off len cap s : Nat} {k : IntKind} {j : Nat} (ho : o.op = .slice T x (some lo) none none) (hx : ev f x = .slice (some ⟨b, off, none⟩) len cap) (hl : ev f lo = .int k j) (hu : P.underlying T = some (.slice E)) (hs : (P.info? E).map (·.size) = some s) (hj : j ≤ len) :
    Runs P f o w (.slice (if cap = j then some ⟨b, off, none⟩ else some ⟨b, off + j * s, none⟩) (len - j) (cap - j)) := by
  obtain ⟨i, hi, hi2⟩ := Option.map_eq_some_iff.1 hs
  unfold Runs execOp
  simp only [ho, hx, hl, Option.map_some, Option.map_none]
  have hj' : (j : Int) ≤ (len : Int) := by omega
  simp [Instr.sliceAt, Instr.slice, underlying, hu, Instr.sliceBounds, Instr.sliceBound, asIntOf, hj', sizeOf, typeInfo, hi, hi2, addr_add]
  intro h; omega
variable {ops : List Oper} {vals : Gh → Nat → Value} {S : Nat → Gh → World → Prop}
def dAll (P : Program) (ops : List Oper) (f : Nat → Value) (vals : Gh → Nat → Value) (S : Nat → Gh → World → Prop) (es : List Nat) : List Span → Nat → Prop
  | [], _ => True
  | s :: l, i => (es.contains i = true ∨ (QOk P ops f vals S i s.1 s.2.1 ∧ DOk vals i s.1)) ∧ dAll P ops f vals S es l (i + 1)
theorem dAll_at {es : List Nat} : ∀ {l : List Span} {k : Nat}, dAll P ops f vals S es l k → ∀ i, i < l.length → (es.contains (k + i) = true ∨ (QOk P ops f vals S (k + i) (l.getD i noSpan).1 (l.getD i noSpan).2.1 ∧ DOk vals (k + i) (l.getD i noSpan).1))
  | [], _, _, i, hi => absurd hi (by simp)
  | s :: l, k, h, 0, _ => h.1
  | s :: l, k, h, i + 1, hi => by
    have := dAll_at h.2 i (by simpa using hi)
    rw [show k + 1 + i = k + (i + 1) by omega] at this
    exact this
def eAll (P : Program) (ops : List Oper) (f : Nat → Value) (vals : Gh → Nat → Value) (S : Nat → Gh → World → Prop) (Q' : Exit → Act → World → Prop) : List Nat → Nat → Prop
  | [], _ => True
  | i :: l, k => (EOk P ops f vals S Q' i k ∧ DOk vals i (k + 1)) ∧ eAll P ops f vals S Q' l (k + 1)
theorem eAll_at {Q' : Exit → Act → World → Prop} : ∀ {l : List Nat} {k : Nat}, eAll P ops f vals S Q' l k → ∀ j i, l[j]? = some i → EOk P ops f vals S Q' i (k + j) ∧ DOk vals i (k + j + 1)
  | [], _, _, j, i, h => by simp at h
  | e :: l, k, h, 0, i, hj => by simp at hj; subst hj; exact h.1
  | e :: l, k, h, j + 1, i, hj => by
    have := eAll_at h.2 j i (by simpa using hj)
    rw [show k + 1 + j = k + (j + 1) by omega] at this
    exact this
theorem W.draws {id : Nat} (es : List Nat) (sp : List Span) (vals : Gh → Nat → Value) (S : Nat → Gh → World → Prop) (hm : P.follows .mixedOrders = true) (hok : opsOk n ops = true) (hsel : Region.noSelect ops.toArray = true) (hch : chainOk ops es = true) (hsp : spanOk ops es sp = true)
    (hes : es.all (fun e => Nat.blt e ops.length && (match (opAt ops e).guard with | none => true | _ => false)) = true) (hnd : decide es.Nodup = true)
    (h0 : ∀ w1, Below w.heap.size w w1 → w1.heap.size = w.heap.size → S 0 (fun _ => (0, 0)) w1) (hq : dAll P ops f vals S es sp 0) (he : eAll P ops f vals S (lift n Q) es 0)
    (h : ∀ r w' f', f' = full ops f (vals r) → S es.length r w' → Q .normal f' w') : W P n (.region id ops.toArray true) Q f w := by
  have hlen : sp.length = ops.length := by
    unfold spanOk at hsp; rw [Bool.and_eq_true] at hsp; exact Nat.eq_of_beq_eq_true hsp.1
  have hat : ∀ i, i < ops.length → es.contains i = false → QOk P ops f vals S i (sp.getD i noSpan).1 (sp.getD i noSpan).2.1 ∧ DOk vals i (sp.getD i noSpan).1 := fun i hi hne => by
    have := dAll_at hq i (by omega)
    rw [Nat.zero_add] at this
    rcases this with h1 | h1
    · rw [hne] at h1; cases h1
    · exact h1
  refine W.drawn es sp vals S hm hok hsel hch hsp hes (of_decide_eq_true hnd) (fun w1 h1 h2 => ⟨_, h0 w1 h1 h2⟩) (fun i hi hne => (hat i hi hne).1) (fun k i hk => ?_) (fun i hi hne => (hat i hi hne).2) (fun k i hk => ?_) (fun r w' hS => h r w' _ rfl hS)
  · have := (eAll_at he k i hk).1; rwa [Nat.zero_add] at this
  have := (eAll_at he k i hk).2; rwa [Nat.zero_add] at this
theorem Stp.then {g g' : Nat} {w0 w1 w2 : World} (h : Stp g w0 w1) (hb : Stp g' w1 w2) (hg : g' = g ∨ w0.heap.size ≤ g') : Stp g w0 w2 := ⟨hb.os.trans h.os, hb.tape.trans h.tape, hb.output.trans h.output, Nat.le_trans h.size hb.size, fun k hk hne => (hb.block k (Nat.lt_of_lt_of_le hk h.size) (by omega)).trans (h.block k hk hne)⟩
end
end Fx
end Go.Proofs.Ytkajcjefckjijaa
namespace Go.Proofs.Ytkajcjefckjijaa.Fx
open Go.RowKit
theorem Own.congr {w : World} {B : Nat} {E : TypeId} {s : Nat} {v : Value} {n : Nat} {x y : Nat → Value} (h : Own w B E s v n x) (e : ∀ j, j < n * s → x j = y j) : Own w B E s v n y := by
  have : (List.range (n * s)).map x = (List.range (n * s)).map y := List.map_congr_left fun j hj => e j (List.mem_range.1 hj)
  unfold Own at h ⊢
  rw [← this]; exact h
theorem Blk.congr {w : World} {g n : Nat} {x y : Nat → Value} {T : TypeId} (h : Blk w g n x T) (e : ∀ j, j < n → x j = y j) : Blk w g n y T := by
  unfold Blk at h ⊢; rw [h, varr_congr e]
section
variable {P : Program} {f : Nat → Value} {w : World} {o : Oper}
theorem x_buildArr {T E : TypeId} {parts : List (Nat × Operand)} {vs : List (Nat × Value)} {len s m : Nat} {x y : Nat → Value} (ho : o.op = .build T parts.toArray) (hp : parts.map (fun p => (p.1, ev f p.2)) = vs) (hs : P.underlying T = some (.array len E))
    (hz0 : (P.info? E).map (·.size) = some s) (hz : ((P.info? T).bind (·.zero)).map (·.cells) = some (varr m x)) (hf : Instr.fill (fun i => some (i * s, s)) (varr m x) vs = some (varr m y)) : Runs P f o w (.agg (varr m y)) := by
  obtain ⟨z, hz1, hz2⟩ := Option.map_eq_some_iff.1 hz
  obtain ⟨i, hi, hz⟩ := Option.bind_eq_some_iff.1 hz1
  obtain ⟨i2, hi2, hz3⟩ := Option.map_eq_some_iff.1 hz0
  unfold Runs execOp
  simp only [ho, List.map_toArray, hp]
  unfold Instr.build
  simp only [zeroValue, typeInfo, underlying, sizeOf, Sem.run_bind, run_program, Result.andThen_ok, hi, hi2, hz, hs, Sem.run_pure, hz2, hz3, hf]
theorem x_sliceLo2 {T E : TypeId} {x lo : Operand} {b off len cap s : Nat} {k : IntKind} {j n' c' : Nat} {A : Option Addr} (ho : o.op = .slice T x (some lo) none none) (hx : ev f x = .slice (some ⟨b, off, none⟩) len cap) (hl : ev f lo = .int k j) (hu : P.underlying T = some (.slice E)) (hs : (P.info? E).map (·.size) = some s) (hj : j ≤ len)
    (hA : (if cap = j then some ⟨b, off, none⟩ else some ⟨b, off + j * s, none⟩ : Option Addr) = A) (hn : len - j = n') (hc : cap - j = c') : Runs P f o w (.slice A n' c') := by
  subst hA hn hc
  exact x_sliceLo ho hx hl hu hs hj
end
end Go.Proofs.Ytkajcjefckjijaa.Fx
namespace Go.Proofs.Ytkajcjefckjijaa.Fx
open Go.RowKit
section
variable {w w' : World} {B : Nat} {E : TypeId} {s g n cap : Nat} {x : Nat → Value}
theorem Own.blk (h : Own w B E s (.slice (some ⟨g, 0, none⟩) n cap) n x) : B ≤ g ∧ n ≤ cap ∧ cap ≤ maxLen ∧ ∃ x', Blk w g (cap * s) x' E ∧ ∀ p, p < n * s → x' p = x p := by
  rcases h.2 with ⟨e, _⟩ | ⟨g', cap', cur, e, hb, hgg, hnc, hmax, hsz, ht⟩
  · cases e
  simp only [Value.slice.injEq, Option.some.injEq, Addr.mk.injEq, and_true, true_and] at e
  obtain ⟨rfl, rfl⟩ := e
  refine ⟨hb, hnc, hmax, fun p => cur.getD p undef, ?_, fun p hp => ?_⟩
  · unfold Blk
    rw [hgg]
    congr 2
    refine (varr_ext hsz fun j hj => ?_)
    simp [Array.getD, hsz, hj]
  have hle : n * s ≤ cap * s := Nat.mul_le_mul_right s hnc
  have := congrArg (fun l : List Value => l[p]?) ht
  simp only [List.getElem?_take_of_lt hp, Array.getElem?_toList, List.getElem?_map, List.getElem?_range hp, Option.map_some] at this
  simp only [Array.getD_eq_getD_getElem?, this, Option.getD_some]
theorem Blk.own {x' : Nat → Value} (h : Blk w g (cap * s) x' E) (hB : B ≤ g) (hn : n ≤ cap) (hm : cap ≤ maxLen) (e : ∀ p, p < n * s → x' p = x p) : Own w B E s (.slice (some ⟨g, 0, none⟩) n cap) n x := by
  refine ⟨by simp, .inr ⟨g, cap, varr (cap * s) x', rfl, hB, h, hn, hm, varr_size _ _, ?_⟩⟩
  have hle : n * s ≤ cap * s := Nat.mul_le_mul_right s hn
  apply List.ext_getElem?
  intro p
  by_cases hp : p < n * s
  · rw [List.getElem?_take_of_lt hp, Array.getElem?_toList, varr_get x' (by omega), List.getElem?_map, List.getElem?_range hp, Option.map_some, e p hp]
  rw [List.getElem?_eq_none (by simp; omega), List.getElem?_eq_none (by simp; omega)]
theorem Own.lt (h : Own w B E s (.slice (some ⟨g, 0, none⟩) n cap) n x) : g < w.heap.size := (h.ge rfl).2
theorem Own.cel (h : Own w B E s (.slice (some ⟨g, 0, none⟩) n cap) n x) : Cel w g 0 (n * s) x := fun i hi => by
  rcases Nat.eq_zero_or_pos n with e | e
  · subst e; omega
  · obtain ⟨g', cap', e2, _, _, _, hc⟩ := h.form e
    simp only [Value.slice.injEq, Option.some.injEq, Addr.mk.injEq, and_true, true_and] at e2
    obtain ⟨rfl, rfl⟩ := e2
    exact hc i hi
theorem Own.stpB {g' : Nat} (h : Own w B E s (.slice (some ⟨g, 0, none⟩) n cap) n x) (hs : Stp g' w w') (ne : g ≠ g') : Own w' B E s (.slice (some ⟨g, 0, none⟩) n cap) n x := h.stp hs fun e => ne (Option.some.inj e)
end
section
variable {P : Program} {n : Nat} {Q : Post} {ops : Array Oper} {rest : List Oper} {f : Nat → Value} {w : World} {o : Oper}
theorem L.own1 {T E : TypeId} {a v : Operand} {B s g k cap i : Nat} {x : Nat → Value} {u : Value} (hw : Region.wanted o (yf ops f) = true) (hd : o.dst = none) (ho : o.op = .store T a v) (ha : ev f a = .pointer (some ⟨g, i, none⟩)) (hv : ev f v = u) (h1 : u.oneCell' = true) (hT : (P.info? T).map (·.size) = some 1)
    (hb : Own w B E s (.slice (some ⟨g, 0, none⟩) k cap) k x) (hi : i < k * s) (h : ∀ w', Own w' B E s (.slice (some ⟨g, 0, none⟩) k cap) k (updV x i u) → Stp g w w' → w'.heap.size = w.heap.size → L P n ops Q rest f w') : L P n ops Q (o :: rest) f w := by
  obtain ⟨h0, hk, hm, x', hx, he⟩ := hb.blk
  have hle : k * s ≤ cap * s := Nat.mul_le_mul_right s hk
  refine L.store1 (x := x') hw hd ho ha hv h1 hT hx (by omega) fun w' hw' hs hz => h w' (hw'.own h0 hk hm fun p hp => ?_) hs hz
  unfold updV; rw [he p hp]
theorem L.ownA {T E : TypeId} {a v : Operand} {B s g k cap i c : Nat} {x y : Nat → Value} (hw : Region.wanted o (yf ops f) = true) (hd : o.dst = none) (ho : o.op = .store T a v) (ha : ev f a = .pointer (some ⟨g, i, none⟩)) (hv : ev f v = .agg (varr c y)) (h1 : ∀ j, j < c → (y j).oneCell' = true) (hT : (P.info? T).map (·.size) = some c)
    (hb : Own w B E s (.slice (some ⟨g, 0, none⟩) k cap) k x) (hi : i + c ≤ k * s) (h : ∀ w', Own w' B E s (.slice (some ⟨g, 0, none⟩) k cap) k (ovr x i c y) → Stp g w w' → w'.heap.size = w.heap.size → L P n ops Q rest f w') : L P n ops Q (o :: rest) f w := by
  obtain ⟨h0, hk, hm, x', hx, he⟩ := hb.blk
  have hle : k * s ≤ cap * s := Nat.mul_le_mul_right s hk
  refine L.storeA (x := x') hw hd ho ha hv h1 hT hx (by omega) fun w' hw' hs hz => h w' (hw'.own h0 hk hm fun p hp => ?_) hs hz
  unfold ovr; rw [he p hp]
end
end Go.Proofs.Ytkajcjefckjijaa.Fx
namespace Go.Proofs.Ytkajcjefckjijaa.Fx
open Go.RowKit
section
variable {P : Program} {n : Nat} {Q : Post} {f : Nat → Value} {w : World} {o : Oper}
theorem run_app0 {E T ty : TypeId} {s k c cap : Nat} {a b : Option Addr} (hu : P.underlying T = some (.slice E)) (hi : (P.info? E).map (·.size) = some s) (hk : k ≤ cap) : (Builtin.append_ #[T, T] ty #[.slice b k cap, .slice a 0 c]).run P w = .ok (.slice b k cap) w := by
  obtain ⟨i, hi1, hi2⟩ := Option.map_eq_some_iff.1 hi
  have hf : (Builtin.firstCells s 0 (.slice a 0 c)).run P w = .ok #[] w := by
    cases a with
    | none => simp [Builtin.firstCells]
    | some a => simp [Builtin.firstCells, loadCells, loadCellsFrom]
  unfold Builtin.append_
  simp [underlying, hu, sizeOf, typeInfo, hi1, hi2, Builtin.lenOf, hk, hf]
  cases b <;> simp [storeCells]
theorem Own.zero {B : Nat} {E : TypeId} {s k : Nat} {v : Value} {x y : Nat → Value} (h : Own w B E s v k x) : Own w B E s v (k + 0) (appX x (k * s) y) :=
  Own.congr h fun j hj => by unfold appX; rw [if_pos (show j < k * s from hj)]
theorem grown_refl (w : World) (r : Option Nat) : w.grownBy w r := ⟨rfl, rfl, rfl, Nat.le_refl _, fun _ _ _ => rfl⟩
theorem r_appAny {B : Nat} {E T : TypeId} {s bytes k m c : Nat} {v : Value} {x y : Nat → Value} {a : Option Addr} {sx xx : Operand} {ρ : Operand → Value} (ho : o.op = .call { callee := .builtin .append, args := #[sx, xx], argTypes := #[T, T] }) (hsx : ρ sx = v) (hxx : ρ xx = .slice a m c)
    (hu : P.underlying T = some (.slice E)) (hi : (P.info? E).map (fun i => (i.size, i.bytes)) = some (s, bytes)) (hz : ((P.info? E).bind (·.zero)).map (·.cells.size) = some s) (hs : Nat.blt 0 s = true)
    (hown : Own w B E s v k x) (hc : 0 < m → ∃ b off, a = some ⟨b, off, none⟩ ∧ Cel w b off (m * s) y) (h1 : ∀ j, j < m * s → (y j).oneCell' = true) (hbytes : (k + m) * bytes ≤ 140737488355328) (h63 : k + m ≤ 140737488355328) (hB : B ≤ w.heap.size) :
    ∃ v' w', (execOp ρ o).run P w = .ok (.value v') w' ∧ Own w' B E s v' (k + m) (appX x (k * s) y) ∧ w.grownBy w' v.ownBlock ∧ (v' = v ∨ v'.ownBlock = v.ownBlock ∨ v'.ownBlock = some w.heap.size) := by
  rcases Nat.eq_zero_or_pos m with rfl | hm
  · refine ⟨v, w, ?_, hown.zero, grown_refl _ _, .inl rfl⟩
    obtain ⟨b, cap, hv, hk⟩ : ∃ b cap, v = .slice b k cap ∧ k ≤ cap := by
      rcases hown.2 with ⟨rfl, rfl⟩ | ⟨g, cap, cur, rfl, _, _, hnc, _⟩
      · exact ⟨none, 0, rfl, Nat.le_refl _⟩
      · exact ⟨_, _, rfl, hnc⟩
    subst hv
    have hi' : (P.info? E).map (·.size) = some s := by
      obtain ⟨i, hi1, hi2⟩ := Option.map_eq_some_iff.1 hi
      rw [hi1]; simp only [Prod.mk.injEq] at hi2; simp [hi2.1]
    have hr := run_app0 (P := P) (w := w) (ty := o.type) (a := a) (b := b) (c := c) hu hi' hk
    unfold execOp
    simp only [ho]
    unfold resolve invoke
    simp only [List.map_toArray, List.map_cons, List.map_nil, hsx, hxx]
    unfold builtin
    simp only [Sem.run_bind, Sem.run_pure, Result.andThen_ok, hr]
  obtain ⟨b, off, rfl, hcc⟩ := hc hm
  obtain ⟨g, cap, w', hr, h2, h3, h4, _⟩ := r_app (P := P) ho hsx hxx hu hi hz hs hown hcc h1 hm hbytes h63 hB
  refine ⟨_, w', hr, h2, h3, ?_⟩
  rcases h4 with h4 | h4
  · exact .inr (.inl h4.symm)
  exact .inr (.inr (by rw [h4]; rfl))
theorem L.appAny {ops : Array Oper} {rest : List Oper} {B : Nat} {E T : TypeId} {s bytes k m c : Nat} {v : Value} {x y : Nat → Value} {a : Option Addr} {sx xx : Operand} (hw : Region.wanted o (yf ops f) = true) (ho : o.op = .call { callee := .builtin .append, args := #[sx, xx], argTypes := #[T, T] }) (hsx : ev f sx = v) (hxx : ev f xx = .slice a m c)
    (hu : P.underlying T = some (.slice E)) (hi : (P.info? E).map (fun i => (i.size, i.bytes)) = some (s, bytes)) (hz : ((P.info? E).bind (·.zero)).map (·.cells.size) = some s) (hs : Nat.blt 0 s = true) (hd : inn n o.dst = true)
    (hown : Own w B E s v k x) (hc : 0 < m → ∃ b off, a = some ⟨b, off, none⟩ ∧ Cel w b off (m * s) y) (h1 : ∀ j, j < m * s → (y j).oneCell' = true) (hbytes : (k + m) * bytes ≤ 140737488355328) (h63 : k + m ≤ 140737488355328) (hB : B ≤ w.heap.size)
    (h : ∀ v' w', Own w' B E s v' (k + m) (appX x (k * s) y) → w.grownBy w' v.ownBlock → (v' = v ∨ v'.ownBlock = v.ownBlock ∨ v'.ownBlock = some w.heap.size) → L P n ops Q rest (put f o.dst v') w') : L P n ops Q (o :: rest) f w := by
  obtain ⟨v', w', hr, h2, h3, h4⟩ := r_appAny (ρ := ev f) ho hsx hxx hu hi hz hs hown hc h1 hbytes h63 hB
  exact L.val hw hr hd (h v' w' h2 h3 h4)
end
end Go.Proofs.Ytkajcjefckjijaa.Fx
namespace Go.Proofs.Ytkajcjefckjijaa.Fx
open Go.RowKit
structure Chg (S : Nat → Prop) (w w' : World) : Prop where
  os : w'.os = w.os
  tape : w'.tape = w.tape
  output : w'.output = w.output
  size : w.heap.size ≤ w'.heap.size
  block : ∀ k, k < w.heap.size → ¬ S k → w'.heap[k]? = w.heap[k]?
section
variable {S S' : Nat → Prop} {w0 w1 w2 : World}
theorem gRf (S : Nat → Prop) (w : World) : Chg S w w := ⟨rfl, rfl, rfl, Nat.le_refl _, fun _ _ _ => rfl⟩
theorem Chg.then {g : Nat} (h : Chg S w0 w1) (hs : Stp g w1 w2) (hg : S g ∨ w0.heap.size ≤ g) : Chg S w0 w2 :=
  ⟨hs.os.trans h.os, hs.tape.trans h.tape, hs.output.trans h.output, Nat.le_trans h.size hs.size, fun k hk hne => (hs.block k (Nat.lt_of_lt_of_le hk h.size) (fun e => hg.elim (fun a => hne (by rw [e]; exact a)) (fun a => by omega))).trans (h.block k hk hne)⟩
theorem Chg.grow {v : Value} (h : Chg S w0 w1) (hs : w1.grownBy w2 v.ownBlock) (hg : ∀ k, v.ownBlock = some k → S k ∨ w0.heap.size ≤ k) : Chg S w0 w2 :=
  ⟨hs.os.trans h.os, hs.tape.trans h.tape, hs.output.trans h.output, Nat.le_trans h.size hs.size, fun k hk hne => (hs.block k (Nat.lt_of_lt_of_le hk h.size) (fun e => (hg k e.symm).elim hne (fun a => by omega))).trans (h.block k hk hne)⟩
theorem Chg.of_below (h : Below w0.heap.size w0 w1) : Chg S w0 w1 := ⟨h.os, h.tape, h.output, h.size, fun k hk _ => h.block k hk⟩
theorem Chg.below {B : Nat} {w : World} (hb : Below B w w0) (h : Chg S w0 w1) (hS : ∀ k, S k → B ≤ k) (hB : B ≤ w0.heap.size) : Below B w w1 where
  os := h.os.trans hb.os
  tape := h.tape.trans hb.tape
  output := h.output.trans hb.output
  size := Nat.le_trans hb.size h.size
  block := fun k hk => (h.block k (by omega) (fun e => by have := hS k e; omega)).trans (hb.block k hk)
theorem Blk.chg {b m : Nat} {x : Nat → Value} {T : TypeId} (h : Blk w0 b m x T) (hs : Chg S w0 w1) (ne : ¬ S b) : Blk w1 b m x T := (hs.block b h.lt ne).trans h
theorem Cel.chg {b off m : Nat} {x : Nat → Value} (h : Cel w0 b off m x) (hs : Chg S w0 w1) (ne : ¬ S b) : Cel w1 b off m x := fun i hi => by
  have hc := h i hi
  have hlt := block_lt_of_cell hc
  unfold World.cell? at hc ⊢
  rw [hs.block b hlt ne]; exact hc
theorem Own.chg {B : Nat} {E : TypeId} {s : Nat} {v : Value} {n : Nat} {x : Nat → Value} (h : Own w0 B E s v n x) (hs : Chg S w0 w1) (ne : ∀ g, v.ownBlock = some g → ¬ S g) : Own w1 B E s v n x := by
  refine ⟨h.1, ?_⟩
  rcases h.2 with a | ⟨g, cap, cur, rfl, hb, hg, rest⟩
  · exact .inl a
  exact .inr ⟨g, cap, cur, rfl, hb, (hs.block g (Array.getElem?_eq_some_iff.1 hg).1 (ne g rfl)).trans hg, rest⟩
end
section
variable {P : Program} {f : Nat → Value} {w : World} {o : Oper}
theorem x_shl {T T' : TypeId} {x y : Operand} {k yk : IntKind} {a c : Int} {b : Nat} (ho : o.op = .binOp .shl T x y T') (hx : ev f x = .int k a) (hy : ev f y = .int yk b) (hb : b ≤ k.bits) (hc : k.wrap (a * 2 ^ b) = c) : Runs P f o w (.int k c) := by
  unfold Runs execOp
  simp only [ho, hx, hy]
  have hr : (binOp .shl T (.int k a) (.int yk (b : Int))).run P w = .ok (.int k c) w := by
    simp only [binOp, Op.shift]
    rw [if_neg (by omega), show min (Int.toNat (b : Int)) k.bits = b by simp; omega, hc]
    simp
  simp only [Sem.run_bind, run_eqGuard_ints, Result.andThen_ok, hr, Sem.run_pure]
end
end Go.Proofs.Ytkajcjefckjijaa.Fx
namespace Go.Proofs.Ytkajcjefckjijaa.Fx
open Go.RowKit
section
variable {P : Program} {n : Nat} {Q : Post} {f : Nat → Value} {w : World} {o : Oper}
theorem L.bslice0 {ops : Array Oper} {rest : List Oper} {T E : TypeId} {s : Nat} (hw : Region.wanted o (yf ops f) = true) (ho : o.op = .buildSlice T 0 #[]) (hu : P.underlying T = some (.slice E)) (hs : (P.info? E).map (·.size) = some s) (hd : inn n o.dst = true)
    (h : ∀ g w', g = w.heap.size → (∀ B x, B ≤ g → Own w' B E s (.slice (some ⟨g, 0, none⟩) 0 0) 0 x) → Stp w.heap.size w w' → L P n ops Q rest (put f o.dst (.slice (some ⟨g, 0, none⟩) 0 0)) w') : L P n ops Q (o :: rest) f w := by
  obtain ⟨i, hi, hi2⟩ := Option.map_eq_some_iff.1 hs
  have hrun : (execOp (ev f) o).run P w = .ok (.value (.slice (some ⟨w.heap.size, 0, none⟩) 0 0)) (w.alloc (.cells #[] E)) := by
    unfold execOp
    simp only [ho, List.map_toArray]
    unfold Instr.buildSlice
    simp [underlying, sizeOf, typeInfo, hu, hi, Instr.fill, newRow]
    have e : ∀ d : Value, Array.map (fun _ => d) (Array.range 0) = #[] := fun d => by apply Array.ext <;> simp
    rw [e]
  refine L.val hw hrun hd (h _ _ rfl (fun B x hB => ⟨by simp, .inr ⟨w.heap.size, 0, #[], rfl, hB, ?_, Nat.le_refl _, Nat.zero_le _, by simp, by simp⟩⟩) (Stp.alloc _ _))
  show (w.alloc _).heap[w.heap.size]? = _
  rw [alloc_at, if_pos rfl]
end
end Go.Proofs.Ytkajcjefckjijaa.Fx
namespace Go.Proofs.Ytkajcjefckjijaa.Fx
open Go.RowKit
theorem Out.mono {P : Program} {f : Nat → Value} {o : Oper} {w : World} {K K' : Value → World → Prop} (h : Out P f o w K) (hk : ∀ v w', K v w' → K' v w') : Out P f o w K' := by
  rcases h with ⟨v, w', hr, h⟩ | ⟨w', hr, h⟩ | ⟨g, args, hr, h⟩
  · exact .inl ⟨v, w', hr, hk v w' h⟩
  · exact .inr (.inl ⟨w', hr, hk _ w' h⟩)
  exact .inr (.inr ⟨g, args, hr, h.mono fun e w' ⟨v, he, hv⟩ => ⟨v, he, hk v w' hv⟩⟩)
def stillC (c : Nat) : Bool := Nat.ble c 1 || Nat.beq c 4
def Stay (S : World → World → Prop) (c : Nat) (w w2 : World) : Prop := c = 0 ∨ (c = 1 ∧ S w w2) ∨ w2 = w
def R (P : Program) (n : Nat) (ops : List Oper) (cs : List Nat) (S : World → World → Prop) (Q : Post) : List Nat → (Nat → Value) → World → Prop
  | [], f, w => Q .normal f w
  | i :: l, f, w => (Region.wanted (opAt ops i) (yf ops.toArray f) = false ∧ R P n ops cs S Q l (put f (opAt ops i).dst undef) w) ∨
    (Region.wanted (opAt ops i) (yf ops.toArray f) = true ∧
      ((stillC (cs.getD i 3) = true ∧ ∃ v, (∀ w2, Stay S (cs.getD i 3) w w2 → (execOp (ev f) (opAt ops i)).run P w2 = .ok (.value v) w2) ∧ R P n ops cs S Q l (put f (opAt ops i).dst v) w) ∨
       (stillC (cs.getD i 3) = false ∧ Out P f (opAt ops i) w fun v w' => (cs.getD i 3 = 2 → S w w') ∧ R P n ops cs S Q l (put f (opAt ops i).dst v) w')))
section
variable {P : Program} {n : Nat} {ops : List Oper} {cs : List Nat} {S : World → World → Prop} {Q : Post}
theorem R.tail {i : Nat} {X Y : List Nat} (hXY : ∀ f w, R P n ops cs S Q X f w → R P n ops cs S Q Y f w) {f : Nat → Value} {w : World} (h : R P n ops cs S Q (i :: X) f w) : R P n ops cs S Q (i :: Y) f w := by
  unfold R at h ⊢
  rcases h with ⟨h1, h2⟩ | ⟨h1, ⟨h2, v, h3, h4⟩ | ⟨h2, h3⟩⟩
  · exact .inl ⟨h1, hXY _ _ h2⟩
  · exact .inr ⟨h1, .inl ⟨h2, v, h3, hXY _ _ h4⟩⟩
  exact .inr ⟨h1, .inr ⟨h2, h3.mono fun v w' hv => ⟨hv.1, hXY _ _ hv.2⟩⟩⟩
def Stl (P : Program) (ops : List Oper) (cs : List Nat) (S : World → World → Prop) (i : Nat) (f : Nat → Value) (w : World) (v : Value) : Prop :=
  (Region.wanted (opAt ops i) (yf ops.toArray f) = false ∧ v = undef) ∨ (Region.wanted (opAt ops i) (yf ops.toArray f) = true ∧ stillC (cs.getD i 3) = true ∧ ∀ w2, Stay S (cs.getD i 3) w w2 → (execOp (ev f) (opAt ops i)).run P w2 = .ok (.value v) w2)
theorem R.of_stl {i : Nat} {l : List Nat} {f : Nat → Value} {w : World} {v : Value} (hs : Stl P ops cs S i f w v) (h : R P n ops cs S Q l (put f (opAt ops i).dst v) w) : R P n ops cs S Q (i :: l) f w := by
  unfold R
  rcases hs with ⟨h1, rfl⟩ | ⟨h1, h2, h3⟩
  · exact .inl ⟨h1, h⟩
  exact .inr ⟨h1, .inl ⟨h2, v, h3, h⟩⟩
theorem R.stl {i : Nat} {l : List Nat} {f : Nat → Value} {w : World} (hi : stillC (cs.getD i 3) = true) (h : R P n ops cs S Q (i :: l) f w) : ∃ v, Stl P ops cs S i f w v ∧ R P n ops cs S Q l (put f (opAt ops i).dst v) w := by
  unfold R at h
  rcases h with ⟨h1, h2⟩ | ⟨h1, ⟨h2, v, h3, h4⟩ | ⟨h2, h3⟩⟩
  · exact ⟨undef, .inl ⟨h1, rfl⟩, h2⟩
  · exact ⟨v, .inr ⟨h1, h2, h3⟩, h4⟩
  rw [hi] at h2; cases h2
theorem put_other {ops : List Oper} (hok : opsOk n ops = true) {i j : Nat} (hi : i < ops.length) (hj : j < ops.length) (hne : i ≠ j) (f : Nat → Value) (u v : Value) :
    put (put f (opAt ops i).dst u) (opAt ops j).dst v = put (put f (opAt ops j).dst v) (opAt ops i).dst u := by
  cases hdi : (opAt ops i).dst with
  | none => rfl
  | some di =>
    cases hdj : (opAt ops j).dst with
    | none => rfl
    | some dj =>
      have hd : di ≠ dj := fun e => by
        subst e
        have h1 := ((opsOk_at hok hi).1 di hdi).1
        have h2 := ((opsOk_at hok hj).1 di hdj).1
        rw [h1] at h2; exact hne (Option.some.inj h2)
      funext s
      simp only [put]
      cases h1 : Nat.beq s di <;> cases h2 : Nat.beq s dj <;> simp
      exact (hd ((Nat.eq_of_beq_eq_true h1).symm.trans (Nat.eq_of_beq_eq_true h2))).elim
theorem put_ev {ops : List Oper} (hok : opsOk n ops = true) {i j : Nat} (hi : i < ops.length) (hj : j < ops.length) (ha : isAfter (opAt ops j) i = false) (f : Nat → Value) (u : Value) : ∀ x ∈ (opAt ops j).op.operands, ev (put f (opAt ops i).dst u) x = ev f x := by
  intro x hx
  cases x with
  | tmp t =>
    show put f (opAt ops i).dst u t = f t
    cases hdi : (opAt ops i).dst with
    | none => rfl
    | some d =>
      simp only [put]
      cases hb : Nat.beq t d with
      | false => rfl
      | true =>
        have e := Nat.eq_of_beq_eq_true hb
        subst e
        have h1 := ((opsOk_at hok hi).1 t hdi).1
        have h2 := (opsOk_at hok hj).2.1 t i hx h1
        rw [ha] at h2; cases h2
  | _ => rfl
theorem put_wanted {ops : List Oper} (hok : opsOk n ops = true) {i j : Nat} (hi : i < ops.length) (hj : j < ops.length) (ha : isAfter (opAt ops j) i = false) (f : Nat → Value) (u : Value) :
    Region.wanted (opAt ops j) (yf ops.toArray (put f (opAt ops i).dst u)) = Region.wanted (opAt ops j) (yf ops.toArray f) := by
  unfold Region.wanted
  cases hg : (opAt ops j).guard with
  | none => rfl
  | some gb =>
    obtain ⟨g, b⟩ := gb
    simp only
    have h2 := (opsOk_at hok hj).2.2.1 g b hg
    have hgi : g ≠ i := fun e => by subst e; rw [ha] at h2; cases h2
    congr 1
    unfold yf
    cases hd : (ops.toArray[g]?).bind (·.dst) with
    | none => rfl
    | some d =>
      simp only
      have hgl : g < ops.length := by
        cases hq : ops.toArray[g]? with
        | none => rw [hq] at hd; cases hd
        | some o => have := (Array.getElem?_eq_some_iff.1 hq).1; simpa using this
      have hdd : (opAt ops g).dst = some d := by
        unfold opAt
        rw [List.getElem?_toArray] at hd
        rw [List.getD_eq_getElem?_getD]
        cases hq : ops[g]? with
        | none => rw [hq] at hd; cases hd
        | some o => rw [hq] at hd; exact hd
      have e : put f (opAt ops i).dst u d = f d := by
        cases hdi : (opAt ops i).dst with
        | none => rfl
        | some di =>
          simp only [put]
          cases hb : Nat.beq d di with
          | false => rfl
          | true =>
            have e := Nat.eq_of_beq_eq_true hb
            subst e
            have h3 := ((opsOk_at hok hi).1 d hdi).1
            have h4 := ((opsOk_at hok hgl).1 d hdd).1
            rw [h3] at h4; exact absurd (Option.some.inj h4).symm hgi
      rw [e]
theorem put_run {ops : List Oper} (hok : opsOk n ops = true) (hsel : Region.noSelect ops.toArray = true) {i j : Nat} (hi : i < ops.length) (hj : j < ops.length) (ha : isAfter (opAt ops j) i = false) (f : Nat → Value) (u : Value) :
    execOp (ev (put f (opAt ops i).dst u)) (opAt ops j) = execOp (ev f) (opAt ops j) :=
  execOp_congr _ (fun c b => Region.noSelect_spec hsel j (opAt ops j) c b (by
    unfold opAt; rw [List.getElem?_toArray, List.getD_eq_getElem?_getD, List.getElem?_eq_getElem hj]; rfl)) (put_ev hok hi hj ha f u)
def pairOk (ops : List Oper) (cs : List Nat) (certs : List (Nat × Nat × List Nat)) (i j : Nat) : Bool :=
  !isAfter (opAt ops i) j && ((stillC (cs.getD i 3) && (Nat.beq (cs.getD i 3) 0 || stillC (cs.getD j 3) || (Nat.beq (cs.getD i 3) 1 && Nat.beq (cs.getD j 3) 2))) || certs.any fun c => Nat.beq c.1 j && Nat.beq c.2.1 i && pathB ops j c.2.2 i)
def pairsOk (ops : List Oper) (cs : List Nat) (certs : List (Nat × Nat × List Nat)) : List Nat → Bool
  | [] => true
  | i :: l => l.all (pairOk ops cs certs i) && pairsOk ops cs certs l
def permOk (ops : List Oper) (l : List Nat) : Bool := Nat.beq l.length ops.length && l.all (fun i => Nat.blt i ops.length) && decide l.Nodup && (List.range ops.length).all (fun i => l.any (Nat.beq i))
theorem swap (hok : opsOk n ops = true) (hsel : Region.noSelect ops.toArray = true) {i j : Nat} (hi : i < ops.length) (hj : j < ops.length) (hne : i ≠ j) (hij : isAfter (opAt ops j) i = false) (hji : isAfter (opAt ops i) j = false) (hS : ∀ w, S w w) (hT : ∀ a b c, S a b → S b c → S a c) (hc : stillC (cs.getD i 3) = true) (hc2 : cs.getD i 3 = 0 ∨ stillC (cs.getD j 3) = true ∨ (cs.getD i 3 = 1 ∧ cs.getD j 3 = 2))
    {l : List Nat} {f : Nat → Value} {w : World} (h : R P n ops cs S Q (i :: j :: l) f w) : R P n ops cs S Q (j :: i :: l) f w := by
  obtain ⟨vi, hs, h⟩ := h.stl hc
  have up : ∀ (u : Value) (w' : World), Stay S (cs.getD i 3) w w' → Stl P ops cs S i (put f (opAt ops j).dst u) w' vi := fun u w' hb => by
    unfold Stl
    rw [put_wanted hok hj hi hji, put_run hok hsel hj hi hji]
    rcases hs with hs | ⟨h1, h2, h3⟩
    · exact .inl hs
    · refine .inr ⟨h1, h2, fun w2 h4 => h3 w2 ?_⟩
      rcases hb with hb | ⟨hb, hb2⟩ | hb
      · exact .inl hb
      · rcases h4 with h4 | ⟨_, h4⟩ | h4
        · exact .inl h4
        · exact .inr (.inl ⟨hb, hT _ _ _ hb2 h4⟩)
        · subst h4; exact .inr (.inl ⟨hb, hb2⟩)
      · subst hb; exact h4
  unfold R at h
  rw [put_wanted hok hi hj hij, put_run hok hsel hi hj hij] at h
  rw [R]
  rcases h with ⟨h1, h2⟩ | ⟨h1, ⟨h2, v, h3, h4⟩ | ⟨h2, h3⟩⟩
  · refine .inl ⟨h1, R.of_stl (up undef w (.inr (.inr rfl))) ?_⟩
    rw [put_other hok hi hj hne] at h2; exact h2
  · refine .inr ⟨h1, .inl ⟨h2, v, h3, R.of_stl (up v w (.inr (.inr rfl))) ?_⟩⟩
    rw [put_other hok hi hj hne] at h4; exact h4
  refine .inr ⟨h1, .inr ⟨h2, ?_⟩⟩
  unfold Out at h3
  rw [put_run hok hsel hi hj hij] at h3
  refine Out.mono (K := fun v w' => (cs.getD j 3 = 2 → S w w') ∧ R P n ops cs S Q l (put (put f (opAt ops i).dst vi) (opAt ops j).dst v) w') h3 fun v w' hk => ⟨hk.1, R.of_stl (up v w' ?_) ?_⟩
  · rcases hc2 with e | e | ⟨e, e2⟩
    · exact .inl e
    · rw [h2] at e; cases e
    exact .inr (.inl ⟨e, hk.1 e2⟩)
  have := hk.2; rw [put_other hok hi hj hne] at this; exact this
theorem bubble (hok : opsOk n ops = true) (hsel : Region.noSelect ops.toArray = true) (hS : ∀ w, S w w) (hT : ∀ a b c, S a b → S b c → S a c) {j : Nat} (hj : j < ops.length) {l : List Nat} :
    ∀ (pre : List Nat), (∀ i ∈ pre, i < ops.length ∧ i ≠ j ∧ isAfter (opAt ops j) i = false ∧ isAfter (opAt ops i) j = false ∧ stillC (cs.getD i 3) = true ∧ (cs.getD i 3 = 0 ∨ stillC (cs.getD j 3) = true ∨ (cs.getD i 3 = 1 ∧ cs.getD j 3 = 2))) → ∀ f w, R P n ops cs S Q (pre ++ j :: l) f w → R P n ops cs S Q (j :: (pre ++ l)) f w
  | [], _, f, w, h => h
  | i :: pre, hp, f, w, h => by
    obtain ⟨h1, h2, h3, h4, h5, h6⟩ := hp i (List.mem_cons_self ..)
    exact swap hok hsel h1 hj h2 h3 h4 hS hT h5 h6 (R.tail (fun f w => bubble hok hsel hS hT hj pre (fun k hk => hp k (List.mem_cons_of_mem _ hk)) f w) h)
theorem pairsOk_pw {certs : List (Nat × Nat × List Nat)} : ∀ {l : List Nat}, pairsOk ops cs certs l = true → l.Pairwise fun i j => pairOk ops cs certs i j = true
  | [], _ => List.Pairwise.nil
  | i :: l, h => by
    unfold pairsOk at h
    rw [Bool.and_eq_true, List.all_eq_true] at h
    exact List.Pairwise.cons h.1 (pairsOk_pw h.2)
theorem R.any (hok : opsOk n ops = true) (hsel : Region.noSelect ops.toArray = true) (hS : ∀ w, S w w) (hT : ∀ a b c, S a b → S b c → S a c) {certs : List (Nat × Nat × List Nat)} : ∀ (k : Nat) (rem : List Nat) (listed : Array Bool) (a : Act) (f : Nat → Value) (w : World), rem.length = k → listed.size = ops.length → Clo ops.toArray .any listed →
    (∀ i, i ∈ rem ↔ i < ops.length ∧ listed.getD i false = false) → rem.Nodup → (rem.Pairwise fun i j => pairOk ops cs certs i j = true) → Fr a n f → R P n ops cs S Q rem f w → wpAny P .any ops.toArray (lift n Q) k listed a w := by
  intro k
  induction k with
  | zero =>
    intro rem listed a f w hl hsz hclo hmem hnd hpw ha h
    have : rem = [] := List.eq_nil_of_length_eq_zero hl
    subst this
    refine ⟨?_, f, ha, h⟩
    rw [List.eq_nil_iff_forall_not_mem]
    intro j hj
    obtain ⟨h1, h2, _, _⟩ := ready_after hj
    exact absurd ((hmem j).2 ⟨h2, h1⟩) (by simp)
  | succ k ih =>
    intro rem listed a f w hl hsz hclo hmem hnd hpw ha h
    refine ⟨fun hr => ?_, fun j hj => ?_⟩
    · cases rem with
      | nil => simp at hl
      | cons r rem' =>
        exfalso
        obtain ⟨h1, h2⟩ := (hmem r).1 (List.mem_cons_self ..)
        have : r ∈ Region.ready .any ops.toArray listed := by
          refine mem_ready.2 ⟨getD_in (by omega) h2, opAt ops r, by unfold opAt; rw [List.getElem?_toArray, List.getD_eq_getElem?_getD, List.getElem?_eq_getElem h1]; rfl, fun e he hb => ?_⟩
          have haf : isAfter (opAt ops r) e.on = true := by
            unfold isAfter; rw [Array.any_eq_true']; exact ⟨e, he, by rw [hb, Nat.beq_refl]; rfl⟩
          have hlt := (opsOk_at hok h1).2.2.2 e.on haf
          cases hle : listed.getD e.on false with
          | true => rfl
          | false =>
            have hm := (hmem e.on).2 ⟨by omega, hle⟩
            rcases List.mem_cons.1 hm with e1 | e1
            · omega
            · have hp := (List.pairwise_cons.1 hpw).1 _ e1
              unfold pairOk at hp
              rw [haf] at hp; simp at hp
        rw [hr] at this; simp at this
    · obtain ⟨h1, h2, h3, h4⟩ := ready_after hj
      have hjm := (hmem j).2 ⟨h2, h1⟩
      obtain ⟨pre, post, rfl⟩ := List.append_of_mem hjm
      have hb := bubble (P := P) (cs := cs) (S := S) (Q := Q) hok hsel hS hT h2 (l := post) pre (fun i hi => by
        obtain ⟨h5, h6⟩ := (hmem i).1 (List.mem_append_left _ hi)
        have hne : i ≠ j := fun e => by
          subst e
          exact (List.nodup_append.1 hnd).2.2 i hi i (List.mem_cons_self ..) rfl
        have hp : pairOk ops cs certs i j = true := (List.pairwise_append.1 hpw).2.2 i hi j (List.mem_cons_self ..)
        unfold pairOk at hp
        rw [Bool.and_eq_true, Bool.or_eq_true] at hp
        have hnaf : isAfter (opAt ops j) i = false := by
          cases hq : isAfter (opAt ops j) i with
          | false => rfl
          | true => have := h4 i hq; rw [h6] at this; cases this
        refine ⟨h5, hne, hnaf, by simpa using hp.1, ?_⟩
        rcases hp.2 with hp | hp
        · rw [Bool.and_eq_true, Bool.or_eq_true] at hp
          refine ⟨hp.1, ?_⟩
          rcases hp.2 with q | q
          · rw [Bool.or_eq_true] at q
            exact q.elim (fun q => .inl (Nat.eq_of_beq_eq_true q)) (fun q => .inr (.inl q))
          · rw [Bool.and_eq_true] at q
            exact .inr (.inr ⟨Nat.eq_of_beq_eq_true q.1, Nat.eq_of_beq_eq_true q.2⟩)
        · exfalso
          rw [List.any_eq_true] at hp
          obtain ⟨c, _, hc⟩ := hp
          rw [Bool.and_eq_true, Bool.and_eq_true] at hc
          obtain ⟨m, hm⟩ := pathB_reach hc.2
          cases m with
          | zero => unfold reach at hm; simp at hm; exact hne hm.symm
          | succ m =>
            unfold reach at hm
            rw [Bool.or_eq_true] at hm
            rcases hm with hm | hm
            · simp at hm; exact hne hm.symm
            · rw [h3] at hm
              simp only at hm
              rw [Array.any_eq_true'] at hm
              obtain ⟨e, he, hm⟩ := hm
              rw [Bool.and_eq_true] at hm
              have haf : isAfter (opAt ops j) e.on = true := by
                unfold isAfter; rw [Array.any_eq_true']; exact ⟨e, he, by rw [hm.1, Nat.beq_refl]; rfl⟩
              have := hclo.reach _ _ hm.2 (h4 e.on haf)
              rw [h6] at this; cases this) f w h
      have hperm : (pre ++ post).length = k := by simp at hl ⊢; omega
      have hnd' : (pre ++ post).Nodup := by
        refine hnd.sublist ?_
        exact List.Sublist.append_left (List.sublist_cons_self ..) pre
      have hpw' : (pre ++ post).Pairwise fun i j => pairOk ops cs certs i j = true := hpw.sublist (List.Sublist.append_left (List.sublist_cons_self ..) pre)
      have hmem' : ∀ i, i ∈ pre ++ post ↔ i < ops.length ∧ (listed.setIfInBounds j true).getD i false = false := fun i => by
        by_cases e : j = i
        · subst e
          rw [set_self (by omega)]
          constructor
          · intro hm
            exfalso
            have hd := List.nodup_append.1 hnd
            rcases List.mem_append.1 hm with q | q
            · exact hd.2.2 j q j (List.mem_cons_self ..) rfl
            · exact (List.nodup_cons.1 hd.2.1).1 q
          · intro q; cases q.2
        · rw [set_other e, ← hmem i]
          simp only [List.mem_append, List.mem_cons]
          constructor
          · rintro (q | q)
            · exact .inl q
            · exact .inr (.inr q)
          · rintro (q | q | q)
            · exact .inl q
            · exact absurd q.symm e
            · exact .inr q
      have next : ∀ (v : Value) (w' : World), R P n ops cs S Q (pre ++ post) (put f (opAt ops j).dst v) w' → wpAny P .any ops.toArray (lift n Q) k (listed.setIfInBounds j true) (a.put (opAt ops j).dst v) w' := fun v w' hR =>
        ih (pre ++ post) _ _ _ w' hperm (by simp [hsz]) (hclo.set hj) hmem' hnd' hpw' (ha.put (by
          cases hd : (opAt ops j).dst with
          | none => rfl
          | some d => have := ((opsOk_at hok h2).1 d hd).2; simpa [inn, Nat.blt_eq] using this) v) hR
      unfold wpOp
      rw [h3]
      simp only
      rw [ha.yf]
      unfold R at hb
      rcases hb with ⟨q1, q2⟩ | ⟨q1, ⟨q2, v, q3, q4⟩ | ⟨q2, q3⟩⟩
      · rw [if_neg (by rw [q1]; decide)]; exact next _ _ q2
      · rw [if_pos q1]
        refine .inl (Out.wp (K := fun v' w' => v' = v ∧ w' = w) ha (.inl ⟨v, w, q3 w (.inr (.inr rfl)), rfl, rfl⟩) ?_)
        rintro v' w' ⟨rfl, rfl⟩
        exact next _ _ q4
      · rw [if_pos q1]
        exact .inl (Out.wp ha q3 fun v w' hk => next v w' hk.2)
theorem Wro {f : Nat → Value} {w : World} {id : Nat} (l : List Nat) (cs : List Nat) (S : World → World → Prop) (hS : ∀ w, S w w) (hT : ∀ a b c, S a b → S b c → S a c) (certs : List (Nat × Nat × List Nat)) (hm : P.follows .mixedOrders = true) (hok : opsOk n ops = true) (hsel : Region.noSelect ops.toArray = true) (hp : permOk ops l = true) (hpp : pairsOk ops cs certs l = true)
    (h : ∀ w1, Below w.heap.size w w1 → w1.heap.size = w.heap.size → R P n ops cs S Q l f w1) : W P n (.region id ops.toArray true) Q f w := fun a ha => by
  refine wp_region_any hm ?_
  unfold permOk at hp
  rw [Bool.and_eq_true, Bool.and_eq_true, Bool.and_eq_true, List.all_eq_true, List.all_eq_true] at hp
  obtain ⟨⟨⟨p1, p2⟩, p3⟩, p4⟩ := hp
  have hlen := Nat.eq_of_beq_eq_true p1
  have p3' : l.Nodup := of_decide_eq_true p3
  have := R.any (P := P) (Q := Q) (certs := certs) hok hsel hS hT ops.length l (Array.replicate ops.length false) a f { w with drawn := w.drawn + 1 } hlen (by simp) (Clo.start _ _ _) (fun i => by
    have hg : ∀ i, (Array.replicate ops.length false).getD i false = false := fun i => getD_replicate_false _ _
    constructor
    · intro hi; exact ⟨by simpa [Nat.blt_eq] using p2 i hi, hg i⟩
    · intro hi
      obtain ⟨k, hk, hk2⟩ := List.any_eq_true.1 (p4 i (by simpa using hi.1))
      rw [Nat.eq_of_beq_eq_true hk2]; exact hk) p3' (pairsOk_pw hpp) ha (h { w with drawn := w.drawn + 1 } (Below.refl _ _).drew rfl)
  simpa using this
end
section
variable {P : Program} {n : Nat} {ops : List Oper} {cs : List Nat} {S : World → World → Prop} {Q : Post} {f : Nat → Value} {w : World} {i : Nat} {l : List Nat}
theorem Rn (h : Q .normal f w) : R P n ops cs S Q [] f w := h
theorem Rk (hw : Region.wanted (opAt ops i) (yf ops.toArray f) = false) (h : R P n ops cs S Q l (put f (opAt ops i).dst undef) w) : R P n ops cs S Q (i :: l) f w := .inl ⟨hw, h⟩
theorem R.pure {v : Value} (hw : Region.wanted (opAt ops i) (yf ops.toArray f) = true) (hc : Nat.beq (cs.getD i 3) 0 = true) (hr : ∀ w2, (execOp (ev f) (opAt ops i)).run P w2 = .ok (.value v) w2) (h : R P n ops cs S Q l (put f (opAt ops i).dst v) w) : R P n ops cs S Q (i :: l) f w :=
  .inr ⟨hw, .inl ⟨by rw [Nat.eq_of_beq_eq_true hc]; rfl, v, fun w2 _ => hr w2, h⟩⟩
theorem Rd {v : Value} (hw : Region.wanted (opAt ops i) (yf ops.toArray f) = true) (hc : Nat.beq (cs.getD i 3) 1 = true) (hS : S w w) (hr : ∀ w2, S w w2 → (execOp (ev f) (opAt ops i)).run P w2 = .ok (.value v) w2) (h : R P n ops cs S Q l (put f (opAt ops i).dst v) w) : R P n ops cs S Q (i :: l) f w :=
  .inr ⟨hw, .inl ⟨by rw [Nat.eq_of_beq_eq_true hc]; rfl, v, fun w2 hb => hr w2 (by
    rcases hb with e | ⟨_, e⟩ | e
    · rw [Nat.eq_of_beq_eq_true hc] at e; cases e
    · exact e
    · subst e; exact hS), h⟩⟩
theorem R.still {v : Value} (hw : Region.wanted (opAt ops i) (yf ops.toArray f) = true) (hc : Nat.beq (cs.getD i 3) 4 = true) (hr : (execOp (ev f) (opAt ops i)).run P w = .ok (.value v) w) (h : R P n ops cs S Q l (put f (opAt ops i).dst v) w) : R P n ops cs S Q (i :: l) f w :=
  .inr ⟨hw, .inl ⟨by rw [Nat.eq_of_beq_eq_true hc]; rfl, v, fun w2 hb => by
    rcases hb with e | ⟨e, _⟩ | e
    · rw [Nat.eq_of_beq_eq_true hc] at e; cases e
    · rw [Nat.eq_of_beq_eq_true hc] at e; cases e
    · subst e; exact hr, h⟩⟩
theorem Rp (v : Value) (hr : ∀ w2, Runs P f (opAt ops i) w2 v) (h : R P n ops cs S Q l (put f (opAt ops i).dst v) w) (hw : Region.wanted (opAt ops i) (yf ops.toArray f) = true := by rfl) (hc : Nat.beq (cs.getD i 3) 0 = true := by rfl) : R P n ops cs S Q (i :: l) f w := R.pure hw hc hr h
theorem Rs (v : Value) (hr : Runs P f (opAt ops i) w v) (h : R P n ops cs S Q l (put f (opAt ops i).dst v) w) (hw : Region.wanted (opAt ops i) (yf ops.toArray f) = true := by rfl) (hc : Nat.beq (cs.getD i 3) 4 = true := by rfl) : R P n ops cs S Q (i :: l) f w := R.still hw hc hr h
theorem R.eff (hc : Nat.beq (cs.getD i 3) 3 = true) (h : L P n ops.toArray (fun _ f' w' => R P n ops cs S Q l f' w') [opAt ops i] f w) : R P n ops cs S Q (i :: l) f w := by
  have hc' := Nat.eq_of_beq_eq_true hc
  obtain ⟨_, ⟨h1, h2⟩ | ⟨h1, h2⟩⟩ := h
  · refine .inr ⟨h1, .inr ⟨by rw [hc']; rfl, Out.mono (K := fun v w' => R P n ops cs S Q l (put f (opAt ops i).dst v) w') h2 fun v w' hk => ⟨fun e => by omega, hk⟩⟩⟩
  exact .inl ⟨h1, h2⟩
theorem R.make (hc : Nat.beq (cs.getD i 3) 2 = true) (h : L P n ops.toArray (fun _ f' w' => S w w' ∧ R P n ops cs S Q l f' w') [opAt ops i] f w) : R P n ops cs S Q (i :: l) f w := by
  have hc' := Nat.eq_of_beq_eq_true hc
  obtain ⟨_, ⟨h1, h2⟩ | ⟨h1, h2⟩⟩ := h
  · exact .inr ⟨h1, .inr ⟨by rw [hc']; rfl, Out.mono (K := fun v w' => S w w' ∧ R P n ops cs S Q l (put f (opAt ops i).dst v) w') h2 fun v w' hk => ⟨fun _ => hk.1, hk.2⟩⟩⟩
  exact .inl ⟨h1, h2.2⟩
def Mk (w w' : World) : Prop := Below w.heap.size w w'
theorem mRf (w : World) : Mk w w := Below.refl _ _
theorem Mk.trans (a b c : World) (h : Mk a b) (k : Mk b c) : Mk a c := bch h k
end
end Go.Proofs.Ytkajcjefckjijaa.Fx
namespace Go.Proofs.Ytkajcjefckjijaa.Fx
open Go.RowKit
theorem u8e {a c : Int} (h : 0 ≤ c ∧ c ≤ 255) (e : a = c) : IntKind.u8.wrap a = c := by subst e; exact IntWalk.u8_in _ h
def flat (s : Nat) (F : Nat → Nat → Value) : Nat → Value := fun p => F (p / s) (p % s)
theorem flat_at {s k j p : Nat} {F : Nat → Nat → Value} (hp : p = s * k + j) (hj : j < s) : flat s F p = F k j := by
  subst hp
  have hs : 0 < s := by omega
  unfold flat
  rw [Nat.add_comm, Nat.add_mul_div_left _ _ hs, Nat.div_eq_of_lt hj, Nat.zero_add, Nat.add_mul_mod_self_left, Nat.mod_eq_of_lt hj]
theorem flat_cell {s k j p : Nat} {F : Nat → Nat → Value} {v : Value} (hp : p = s * k + j) (hj : j < s) (e : F k j = v) : flat s F p = v := (flat_at hp hj).trans e
theorem flat_cong {s n : Nat} {F G : Nat → Nat → Value} (h : ∀ k, k < n → ∀ j, j < s → F k j = G k j) : ∀ p, p < n * s → flat s F p = flat s G p := fun p hp => by
  have hs : 0 < s := Nat.pos_of_ne_zero fun e => by subst e; simp at hp
  unfold flat
  exact h _ (Nat.div_lt_of_lt_mul (by rw [Nat.mul_comm]; exact hp)) _ (Nat.mod_lt _ hs)
def Arr (w : World) (a : Option Addr) (n s : Nat) (x : Nat → Value) : Prop := 0 < n → ∃ b off, a = some ⟨b, off, none⟩ ∧ Cel w b off (n * s) x
section
variable {w w' : World} {a : Option Addr} {n s : Nat} {x : Nat → Value}
theorem Arr.below {B : Nat} (h : Arr w a n s x) (hb : Below B w w') (hB : ∀ b off, a = some ⟨b, off, none⟩ → b < B) : Arr w' a n s x := fun h0 => by
  obtain ⟨b, off, e, hc⟩ := h h0
  exact ⟨b, off, e, hc.below hb (hB b off e)⟩
theorem Arr.up (h : Arr w a n s x) (hb : Below w.heap.size w w') (hs : Nat.blt 0 s = true) : Arr w' a n s x := fun h0 => by
  obtain ⟨b, off, e, hc⟩ := h h0
  have hs' : 0 < s := by simpa [Nat.blt_eq] using hs
  exact ⟨b, off, e, hc.below hb (hc.lt (Nat.mul_pos h0 hs'))⟩
theorem Arr.at {F : Nat → Nat → Value} (h : Arr w a n s (flat s F)) {k : Nat} (hk : k < n) : ∃ b off, a = some ⟨b, off, none⟩ ∧ Cel w b (off + s * k) s (F k) := by
  obtain ⟨b, off, e, hc⟩ := h (by omega)
  refine ⟨b, off, e, fun i hi => ?_⟩
  have hlt : s * k + i < n * s := by
    have h1 : (k + 1) * s ≤ n * s := Nat.mul_le_mul_right s hk
    rw [Nat.add_mul, Nat.one_mul, Nat.mul_comm k s] at h1
    omega
  have := hc (s * k + i) hlt
  rw [flat_at rfl hi, ← Nat.add_assoc] at this
  exact this
theorem Own.arr {B : Nat} {E : TypeId} {c : Nat} (h : Own w B E s (.slice a n c) n x) : Arr w a n s x := fun h0 => by
  obtain ⟨g, cap, e, _, _, _, hc⟩ := h.form h0
  simp only [Value.slice.injEq, true_and] at e
  exact ⟨g, 0, e.1, hc⟩
theorem Own.addr {B : Nat} {E : TypeId} {c : Nat} (h : Own w B E s (.slice a n c) n x) (h0 : 0 < n) : ∃ g, a = some ⟨g, 0, none⟩ := by
  obtain ⟨g, cap, e, _⟩ := h.form h0
  simp only [Value.slice.injEq, true_and] at e
  exact ⟨g, e.1⟩
end
def Ty (w : World) (g : Nat) (T : TypeId) : Prop := ∃ c, w.heap[g]? = some (.cells c T (0, 0))
theorem Ty.ne {w : World} {g g' : Nat} {T T' : TypeId} (h : Ty w g T) (h' : Ty w g' T') (ne : T ≠ T') : g ≠ g' := fun e => by
  subst e
  obtain ⟨c, h⟩ := h
  obtain ⟨c', h'⟩ := h'
  rw [h] at h'
  simp only [Option.some.injEq, Obj.cells.injEq] at h'
  exact ne h'.2.1
theorem Blk.ty {w : World} {g n : Nat} {x : Nat → Value} {T : TypeId} (h : Blk w g n x T) : Ty w g T := ⟨_, h⟩
theorem Own.ty {w : World} {B : Nat} {E : TypeId} {s : Nat} {v : Value} {n : Nat} {x : Nat → Value} (h : Own w B E s v n x) {g : Nat} (hg : v.ownBlock = some g) : Ty w g E := by
  rcases h.2 with ⟨rfl, _⟩ | ⟨g', cap, cur, rfl, hb, hgg, _⟩
  · cases hg
  simp only [Value.ownBlock, Option.some.injEq] at hg; subst hg
  exact ⟨_, hgg⟩
theorem Own.tyB {w : World} {B : Nat} {E : TypeId} {s g cap : Nat} {n : Nat} {x : Nat → Value} (h : Own w B E s (.slice (some ⟨g, 0, none⟩) n cap) n x) : Ty w g E := h.ty rfl
structure ChT (Ts : List TypeId) (w w' : World) : Prop where
  os : w'.os = w.os
  tape : w'.tape = w.tape
  output : w'.output = w.output
  size : w.heap.size ≤ w'.heap.size
  block : ∀ k, k < w.heap.size → (∀ T, Ty w k T → Ts.contains T = false) → w'.heap[k]? = w.heap[k]?
theorem Ty.only {w : World} {k : Nat} {T T' : TypeId} (h : Ty w k T) (h' : Ty w k T') : T' = T := Classical.byContradiction fun ne => Ty.ne h' h ne rfl
section
variable {w w' : World} {T : TypeId} {Ts : List TypeId}
theorem cOs {g : Nat} (hs : Stp g w w') (ht : Ty w g T) : ChT [T] w w' := ⟨hs.os, hs.tape, hs.output, hs.size, fun k hk hn => hs.block k hk fun e => by
  have := hn T (by rw [e]; exact ht)
  simp at this⟩
theorem cOg {B : Nat} {s : Nat} {v : Value} {n : Nat} {x : Nat → Value} (hg : w.grownBy w' v.ownBlock) (h : Own w B T s v n x) : ChT [T] w w' := ⟨hg.os, hg.tape, hg.output, hg.size, fun k hk hn => hg.block k hk fun e => by
  have := hn T (h.ty e.symm)
  simp at this⟩
theorem ChT.of_below (h : Below w.heap.size w w') : ChT Ts w w' := ⟨h.os, h.tape, h.output, h.size, fun k hk _ => h.block k hk⟩
theorem cRf (w : World) : ChT Ts w w := ⟨rfl, rfl, rfl, Nat.le_refl _, fun _ _ _ => rfl⟩
theorem ChT.trans (a b c : World) (h : ChT Ts a b) (k : ChT Ts b c) : ChT Ts a c := ⟨k.os.trans h.os, k.tape.trans h.tape, k.output.trans h.output, Nat.le_trans h.size k.size, fun i hi hn =>
  have e := h.block i hi hn
  (k.block i (Nat.lt_of_lt_of_le hi h.size) fun T ⟨cc, ht⟩ => hn T ⟨cc, by rw [← e]; exact ht⟩).trans e⟩
theorem ChT.wide {Us : List TypeId} (h : ChT Ts w w') (hs : Ts.all Us.contains = true) : ChT Us w w' := ⟨h.os, h.tape, h.output, h.size, fun k hk hn => h.block k hk fun T ht => by
  cases hq : Ts.contains T with
  | false => rfl
  | true =>
    have h1 := hn T ht
    rw [List.all_eq_true.1 hs T (List.contains_iff_mem.1 hq)] at h1; cases h1⟩
theorem Blk.chT {b n : Nat} {x : Nat → Value} {T0 : TypeId} (h : Blk w b n x T0) (hs : ChT Ts w w') (ne : Ts.contains T0 = false) : Blk w' b n x T0 := (hs.block b h.lt fun _ ht => by rw [Ty.only h.ty ht]; exact ne).trans h
theorem Own.chT {B : Nat} {E : TypeId} {s : Nat} {v : Value} {n : Nat} {x : Nat → Value} (h : Own w B E s v n x) (hs : ChT Ts w w') (ne : Ts.contains E = false) : Own w' B E s v n x := by
  refine ⟨h.1, ?_⟩
  rcases h.2 with a | ⟨g, cap, cur, rfl, hb, hg, rest⟩
  · exact .inl a
  exact .inr ⟨g, cap, cur, rfl, hb, (hs.block g (Array.getElem?_eq_some_iff.1 hg).1 fun _ ht => by rw [Ty.only ⟨_, hg⟩ ht]; exact ne).trans hg, rest⟩
theorem Own.mono {B B' : Nat} {E : TypeId} {s : Nat} {v : Value} {n : Nat} {x : Nat → Value} (h : Own w B E s v n x) (hB : B' ≤ B) : Own w B' E s v n x := by
  refine ⟨h.1, ?_⟩
  rcases h.2 with a | ⟨g, cap, cur, rfl, hb, rest⟩
  · exact .inl a
  exact .inr ⟨g, cap, cur, rfl, Nat.le_trans hB hb, rest⟩
theorem Own.congV {B : Nat} {E : TypeId} {s : Nat} {v v' : Value} {n : Nat} {x : Nat → Value} (h : Own w B E s v n x) (e : v = v') : Own w B E s v' n x := e ▸ h
end
section
variable {P : Program} {f : Nat → Value} {w : World} {o : Oper}
theorem x_shr {T T' : TypeId} {x y : Operand} {k yk : IntKind} {a q : Int} {b : Nat} (ho : o.op = .binOp .shr T x y T') (hx : ev f x = .int k a) (hy : ev f y = .int yk b) (hb : b ≤ k.bits) (hq : (2 : Int) ^ b = q) : Runs P f o w (.int k (a / q)) := by
  unfold Runs execOp
  simp only [ho, hx, hy]
  have hr : (binOp .shr T (.int k a) (.int yk (b : Int))).run P w = .ok (.int k (a / q)) w := by
    simp only [binOp]
    rw [shift_shr _ _ _ _ (by omega) (by omega), show ((b : Int)).toNat = b by omega, hq]
    simp
  simp only [Sem.run_bind, run_eqGuard_ints, Result.andThen_ok, hr, Sem.run_pure]
end
theorem ovr_ones {n o m : Nat} {x y : Nat → Value} (hx : ∀ j, j < n → (x j).oneCell' = true) (hy : ∀ j, j < m → (y j).oneCell' = true) : ∀ j, j < n → (ovr x o m y j).oneCell' = true := fun j hj => by
  unfold ovr; split
  · rename_i h; exact hy _ (by omega)
  · exact hx j hj
section
variable {P : Program} {f : Nat → Value} {w : World} {o : Oper}
theorem x_indexV {T E : TypeId} {x ix : Operand} {k : IntKind} {j m : Nat} {y : Nat → Value} {v : Value} (ho : o.op = .index T x ix) (hx : ev f x = .agg (varr m y)) (hi : ev f ix = .int k (j : Int)) (hu : P.underlying T = some (.array m E)) (hz : (P.info? E).map (·.size) = some 1) (hE : oneT P E = true) (hj : j < m) (hv : y j = v) : Runs P f o w v := by
  subst hv
  obtain ⟨z, hz1, hz2⟩ := Option.map_eq_some_iff.1 hz
  unfold Runs execOp
  simp only [ho, hx, hi]
  unfold oneT at hE
  cases hq : P.underlying E with
  | none => rw [hq] at hE; cases hE
  | some d =>
    rw [hq] at hE
    cases d <;> first
      | (cases hE; done)
      | (simp [Instr.index, asIntOf, underlying, hu, sizeOf, typeInfo, hz1, hz2, part, isAgg, hq, varr_get y hj]; intro h9; omega)
      | simp [Instr.index, asIntOf, underlying, hu, hj, sizeOf, typeInfo, hz1, hz2, part, isAgg, hq, varr_get y hj]
end
end Go.Proofs.Ytkajcjefckjijaa.Fx
namespace Go.Proofs.Ytkajcjefckjijaa
open Go.RowKit Fx
theorem Fx.Cel.dr {w w' : World} {b off n : Nat} {x : Nat → Value} (h : Cel w b off n x) (hv : ∃ q, w' = World.drewN w q) : Cel w' b off n x := by obtain ⟨q, rfl⟩ := hv; exact h
theorem Fx.Blk.cb {w w' : World} {g n : Nat} {x : Nat → Value} {T : TypeId} (h : Blk w g n x T) (hv : Below w.heap.size w w') : Cel w' g 0 n x := h.cel.below hv h.lt
theorem Fx.Own.cb {w w' : World} {B g n c s : Nat} {E : TypeId} {x : Nat → Value} (h : Own w B E s (.slice (some ⟨g, 0, none⟩) n c) n x) (hv : Below w.heap.size w w') : Cel w' g 0 (n * s) x := h.cel.below hv h.lt
namespace Rt
abbrev Ki6 (x : Int) : Value := .int .i64 x
abbrev Ku6 (x : Int) : Value := .int .u64 x
abbrev KbT : Value := .bool true
abbrev KbF : Value := .bool false
def opX (o : Oper) : Operand := match o.op with
  | .move x | .assign x | .nilCheck x | .load _ x | .extract x _ | .unOp _ _ x | .convert _ _ x | .fieldAddr _ x _ | .indexAddr _ x _ | .binOp _ _ x _ _ | .store _ x _ | .box _ x => x
  | _ => .tmp 0
def opY (o : Oper) : Operand := match o.op with
  | .indexAddr _ _ y | .binOp _ _ _ y _ | .store _ _ y => y
  | _ => .tmp 0
def opT (o : Oper) : TypeId := match o.op with
  | .load t _ | .fieldAddr t _ _ | .indexAddr t _ _ | .store t _ _ | .box t _ | .alloc t => t
  | _ => 0
def isMv (o : Oper) : Bool := match o.op with | .move _ | .assign _ => true | _ => false
def isLd (o : Oper) : Bool := match o.op with | .load .. => true | _ => false
def isIx (o : Oper) : Bool := match o.op with | .indexAddr .. => true | _ => false
def isSt (o : Oper) : Bool := match o.op with | .store .. => true | _ => false
def isB (b : BinOp) (o : Oper) : Bool := match o.op with | .binOp c _ _ _ _ => (match b, c with | .add, .add | .sub, .sub | .mul, .mul | .lss, .lss | .leq, .leq | .gtr, .gtr | .geq, .geq | .eql, .eql | .neq, .neq => true | _, _ => false) | _ => false
section
variable {P : Program} {n : Nat} {Q : Post} {f : Nat → Value} {w : World} {ops : Array Oper} {rest : List Oper} {o : Oper} {v : Value}
theorem isMv_op (h : isMv o = true) : o.op = .move (opX o) ∨ o.op = .assign (opX o) := by
  unfold isMv at h; unfold opX; split at h <;> simp_all
theorem isLd_op (h : isLd o = true) : o.op = .load (opT o) (opX o) := by
  unfold isLd at h; unfold opX opT; split at h <;> simp_all
theorem isIx_op (h : isIx o = true) : o.op = .indexAddr (opT o) (opX o) (opY o) := by
  unfold isIx at h; unfold opX opT opY; split at h <;> simp_all
theorem isSt_op (h : isSt o = true) : o.op = .store (opT o) (opX o) (opY o) := by
  unfold isSt at h; unfold opX opT opY; split at h <;> simp_all
theorem isB_op {b : BinOp} (h : isB b o = true) : ∃ T T', o.op = .binOp b T (opX o) (opY o) T' := by
  unfold isB at h; unfold opX opY
  split at h
  · rename_i c T x y T' e
    rw [e]
    split at h <;> first | exact ⟨_, _, rfl⟩ | cases h
  cases h
theorem Kxm (hx : ev f (opX o) = v) (ho : isMv o = true := by kernel_rfl) : Runs P f o w v := by
  rcases isMv_op ho with h | h
  · exact x_move h hx
  exact x_assign h hx
theorem Kxl {b off m p : Nat} {x : Nat → Value} (hc : Cel w b off m x) (i : Nat) (hv : x i = v := by exact rfl) (ha : ev f (opX o) = .pointer (some ⟨b, p, none⟩) := by exact rfl) (he : p = off + i := by omega) (hi : i < m := by omega) (ho : isLd o = true := by kernel_rfl) (hT : oneT P (opT o) = true := by kernel_rfl) : Runs P f o w v :=
  x_load1 (isLd_op ho) ha hT hc hi he hv
theorem KxA {b off m p s : Nat} {x y : Nat → Value} (hc : Cel w b off m x) (i : Nat) (hy : ∀ j, j < s → x (i + j) = y j := by intro j _; rw [Nat.zero_add]) (ha : ev f (opX o) = .pointer (some ⟨b, p, none⟩) := by exact rfl) (he : p = off + i := by omega) (hi : i + s ≤ m := by omega) (ho : isLd o = true := by kernel_rfl) (hT : aggT P (opT o) = true := by kernel_rfl) (hz : (P.info? (opT o)).map (·.size) = some s := by kernel_rfl) : Runs P f o w (.agg (varr s y)) :=
  x_loadA (isLd_op ho) ha hT hz hc hi he hy
def elS (P : Program) (T : TypeId) : Option Nat := match P.underlying T with | some (.slice E) => (P.info? E).map (·.size) | _ => none
def elA (P : Program) (T : TypeId) : Option (Nat × Nat) := match P.underlying T with | some (.array m E) => (P.info? E).map fun i => (m, i.size) | _ => none
theorem Kxi {b off off' len cap : Nat} {k : IntKind} {j : Int} (s : Nat) (hx : ev f (opX o) = .slice (some ⟨b, off, none⟩) len cap := by exact rfl) (hi : ev f (opY o) = .int k j := by exact rfl) (h0 : 0 ≤ j := by omega) (h1 : j < (len : Int) := by omega) (he : off + j.toNat * s = off' := by omega) (ho : isIx o = true := by kernel_rfl) (hu : elS P (opT o) = some s := by kernel_rfl) : Runs P f o w (.pointer (some ⟨b, off', none⟩)) := by
  unfold elS at hu
  split at hu
  · rename_i E e; exact x_indexS (isIx_op ho) hx hi e hu h0 h1 he
  cases hu
theorem Kxj {b off off' : Nat} {k : IntKind} {j : Int} (m s : Nat) (hx : ev f (opX o) = .pointer (some ⟨b, off, none⟩) := by exact rfl) (hi : ev f (opY o) = .int k j := by exact rfl) (h0 : 0 ≤ j := by omega) (h1 : j < (m : Int) := by omega) (he : off + j.toNat * s = off' := by omega) (ho : isIx o = true := by kernel_rfl) (hu : elA P (opT o) = some (m, s) := by kernel_rfl) : Runs P f o w (.pointer (some ⟨b, off', none⟩)) := by
  unfold elA at hu
  split at hu
  · rename_i m' E e
    obtain ⟨z, hz1, hz2⟩ := Option.map_eq_some_iff.1 hu
    obtain ⟨rfl, rfl⟩ := Prod.mk.inj hz2
    exact x_index (isIx_op ho) hx hi e (by rw [hz1]; rfl) h0 h1 he
  cases hu
section
variable {k : IntKind} {a b c : Int}
theorem KxP (hx : ev f (opX o) = .int k a := by exact rfl) (hy : ev f (opY o) = .int k b := by exact rfl) (hc : k.wrap (a + b) = c := by first | exact Fx.i64e (by omega) (by omega) | exact Fx.u64e (by omega) (by omega)) (ho : isB .add o = true := by kernel_rfl) : Runs P f o w (.int k c) := by
  obtain ⟨T, T', h⟩ := isB_op ho; exact x_add h hx hy hc
theorem KxM (hx : ev f (opX o) = .int k a := by exact rfl) (hy : ev f (opY o) = .int k b := by exact rfl) (hc : k.wrap (a - b) = c := by first | exact Fx.i64e (by omega) (by omega) | exact Fx.u64e (by omega) (by omega)) (ho : isB .sub o = true := by kernel_rfl) : Runs P f o w (.int k c) := by
  obtain ⟨T, T', h⟩ := isB_op ho; exact x_sub h hx hy hc
theorem KltT (h : a < b) (hx : ev f (opX o) = .int k a := by exact rfl) (hy : ev f (opY o) = .int k b := by exact rfl) (ho : isB .lss o = true := by kernel_rfl) : Runs P f o w (.bool true) := by
  obtain ⟨T, T', e⟩ := isB_op ho; exact x_lssT e hx hy h
theorem KltF (h : ¬ a < b) (hx : ev f (opX o) = .int k a := by exact rfl) (hy : ev f (opY o) = .int k b := by exact rfl) (ho : isB .lss o = true := by kernel_rfl) : Runs P f o w (.bool false) := by
  obtain ⟨T, T', e⟩ := isB_op ho; exact x_lssF e hx hy h
theorem KleT (h : a ≤ b) (hx : ev f (opX o) = .int k a := by exact rfl) (hy : ev f (opY o) = .int k b := by exact rfl) (ho : isB .leq o = true := by kernel_rfl) : Runs P f o w (.bool true) := by
  obtain ⟨T, T', e⟩ := isB_op ho; exact x_leqT e hx hy h
theorem KleF (h : ¬ a ≤ b) (hx : ev f (opX o) = .int k a := by exact rfl) (hy : ev f (opY o) = .int k b := by exact rfl) (ho : isB .leq o = true := by kernel_rfl) : Runs P f o w (.bool false) := by
  obtain ⟨T, T', e⟩ := isB_op ho; exact x_leqF e hx hy h
theorem KgtT (h : b < a) (hx : ev f (opX o) = .int k a := by exact rfl) (hy : ev f (opY o) = .int k b := by exact rfl) (ho : isB .gtr o = true := by kernel_rfl) : Runs P f o w (.bool true) := by
  obtain ⟨T, T', e⟩ := isB_op ho; exact x_gtrT e hx hy h
theorem KgtF (h : ¬ b < a) (hx : ev f (opX o) = .int k a := by exact rfl) (hy : ev f (opY o) = .int k b := by exact rfl) (ho : isB .gtr o = true := by kernel_rfl) : Runs P f o w (.bool false) := by
  obtain ⟨T, T', e⟩ := isB_op ho; exact x_gtrF e hx hy h
theorem KgeT (h : b ≤ a) (hx : ev f (opX o) = .int k a := by exact rfl) (hy : ev f (opY o) = .int k b := by exact rfl) (ho : isB .geq o = true := by kernel_rfl) : Runs P f o w (.bool true) := by
  obtain ⟨T, T', e⟩ := isB_op ho; exact x_geqT e hx hy h
theorem KgeF (h : ¬ b ≤ a) (hx : ev f (opX o) = .int k a := by exact rfl) (hy : ev f (opY o) = .int k b := by exact rfl) (ho : isB .geq o = true := by kernel_rfl) : Runs P f o w (.bool false) := by
  obtain ⟨T, T', e⟩ := isB_op ho; exact x_geqF e hx hy h
theorem KeqT (h : a = b) (hx : ev f (opX o) = .int k a := by exact rfl) (hy : ev f (opY o) = .int k b := by exact rfl) (ho : isB .eql o = true := by kernel_rfl) : Runs P f o w (.bool true) := by
  obtain ⟨T, T', e⟩ := isB_op ho; exact x_eqlT e hx hy h
theorem KeqF (h : ¬ a = b) (hx : ev f (opX o) = .int k a := by exact rfl) (hy : ev f (opY o) = .int k b := by exact rfl) (ho : isB .eql o = true := by kernel_rfl) : Runs P f o w (.bool false) := by
  obtain ⟨T, T', e⟩ := isB_op ho; exact x_eqlF e hx hy h
theorem KneT (h : ¬ a = b) (hx : ev f (opX o) = .int k a := by exact rfl) (hy : ev f (opY o) = .int k b := by exact rfl) (ho : isB .neq o = true := by kernel_rfl) : Runs P f o w (.bool true) := by
  obtain ⟨T, T', e⟩ := isB_op ho; exact x_neqT e hx hy h
theorem KneF (h : a = b) (hx : ev f (opX o) = .int k a := by exact rfl) (hy : ev f (opY o) = .int k b := by exact rfl) (ho : isB .neq o = true := by kernel_rfl) : Runs P f o w (.bool false) := by
  obtain ⟨T, T', e⟩ := isB_op ho; exact x_neqF e hx hy h
theorem KltTo (hx : ev f (opX o) = .int k a := by exact rfl) (hy : ev f (opY o) = .int k b := by exact rfl) (h : a < b := by omega) (ho : isB .lss o = true := by kernel_rfl) : Runs P f o w (.bool true) := KltT h hx hy ho
theorem KltFo (hx : ev f (opX o) = .int k a := by exact rfl) (hy : ev f (opY o) = .int k b := by exact rfl) (h : ¬ a < b := by omega) (ho : isB .lss o = true := by kernel_rfl) : Runs P f o w (.bool false) := KltF h hx hy ho
theorem KgtFo (hx : ev f (opX o) = .int k a := by exact rfl) (hy : ev f (opY o) = .int k b := by exact rfl) (h : ¬ b < a := by omega) (ho : isB .gtr o = true := by kernel_rfl) : Runs P f o w (.bool false) := KgtF h hx hy ho
theorem KeqTo (hx : ev f (opX o) = .int k a := by exact rfl) (hy : ev f (opY o) = .int k b := by exact rfl) (h : a = b := by omega) (ho : isB .eql o = true := by kernel_rfl) : Runs P f o w (.bool true) := KeqT h hx hy ho
theorem KeqFo (hx : ev f (opX o) = .int k a := by exact rfl) (hy : ev f (opY o) = .int k b := by exact rfl) (h : ¬ a = b := by omega) (ho : isB .eql o = true := by kernel_rfl) : Runs P f o w (.bool false) := KeqF h hx hy ho
theorem KneTo (hx : ev f (opX o) = .int k a := by exact rfl) (hy : ev f (opY o) = .int k b := by exact rfl) (h : ¬ a = b := by omega) (ho : isB .neq o = true := by kernel_rfl) : Runs P f o w (.bool true) := KneT h hx hy ho
theorem KneFo (hx : ev f (opX o) = .int k a := by exact rfl) (hy : ev f (opY o) = .int k b := by exact rfl) (h : a = b := by omega) (ho : isB .neq o = true := by kernel_rfl) : Runs P f o w (.bool false) := KneF h hx hy ho
end
theorem KLq (v : Value) (h : L P n ops Q rest (put f o.dst v) w) (hr : (execOp (ev f) o).run P w = .ok (.value v) w := by kernel_rfl) (hw : Region.wanted o (yf ops f) = true := by rfl) (hd : inn n o.dst = true := by rfl) : L P n ops Q (o :: rest) f w := L.val hw hr hd h
theorem KLh (hx : ev f (opX o) = v) (h : L P n ops Q rest (put f o.dst v) w) (ho : isMv o = true := by kernel_rfl) (hw : Region.wanted o (yf ops f) = true := by rfl) (hd : inn n o.dst = true := by rfl) : L P n ops Q (o :: rest) f w := L.val hw (Kxm hx ho) hd h
theorem KLu (h : L P n ops Q rest (put f o.dst undef) w) (hw : Region.wanted o (yf ops f) = false := by rfl) (hd : inn n o.dst = true := by rfl) : L P n ops Q (o :: rest) f w := Lk hw hd h
theorem KQu {C : World → Prop} {R : (Nat → Value) → Prop} (h : Qt P n ops C R rest (put f o.dst undef)) (hw : Region.wanted o (yf ops f) = false := by rfl) (hd : inn n o.dst = true := by rfl) : Qt P n ops C R (o :: rest) f := Qs hw hd h
theorem KQh {C : World → Prop} {R : (Nat → Value) → Prop} (hx : ev f (opX o) = v) (h : Qt P n ops C R rest (put f o.dst v)) (ho : isMv o = true := by kernel_rfl) (hw : Region.wanted o (yf ops f) = true := by rfl) (hd : inn n o.dst = true := by rfl) : Qt P n ops C R (o :: rest) f := Qt.val hw (fun _ _ => Kxm hx ho) hd h
section
variable {g : FuncId} {ax : Array Value}
theorem KLc {K : Ending → World → Prop} (hs : Calls P g ax w K) (h : ∀ e w', K e w' → ∃ v, e = .returned v ∧ L P n ops Q rest (put f o.dst v) w') (hr : (execOp (ev f) o).run P w = .ok (.enter g ax) w := by kernel_rfl) (hw : Region.wanted o (yf ops f) = true := by rfl) (hd : inn n o.dst = true := by rfl) : L P n ops Q (o :: rest) f w := Lcl hw hr hd (hs.mono h)
theorem KLc1 {u : Value} {K : World → Prop} (hs : Calls P g ax w fun e w' => e = .returned u ∧ K w') (v : Value) (hv : u = v) (h : ∀ w', K w' → L P n ops Q rest (put f o.dst v) w') (hr : (execOp (ev f) o).run P w = .ok (.enter g ax) w := by kernel_rfl) (hw : Region.wanted o (yf ops f) = true := by rfl) (hd : inn n o.dst = true := by rfl) : L P n ops Q (o :: rest) f w :=
  KLc hs (fun _ w' h1 => ⟨v, by rw [h1.1, hv], h w' h1.2⟩) hr hw hd
theorem KLc0 {u : Value} (hs : Calls P g ax w fun e w' => e = .returned u ∧ w' = w) (v : Value) (hv : u = v) (h : L P n ops Q rest (put f o.dst v) w) (hr : (execOp (ev f) o).run P w = .ok (.enter g ax) w := by kernel_rfl) (hw : Region.wanted o (yf ops f) = true := by rfl) (hd : inn n o.dst = true := by rfl) : L P n ops Q (o :: rest) f w :=
  KLc hs (fun _ w' h1 => ⟨v, by rw [h1.1, hv], h1.2 ▸ h⟩) hr hw hd
theorem KQc {u : Value} {C : World → Prop} {R : (Nat → Value) → Prop} (hs : ∀ w, C w → Calls P g ax w fun e w' => e = .returned u ∧ w' = w) (v : Value) (hv : u = v) (h : Qt P n ops C R rest (put f o.dst v)) (hr : (fun w => (execOp (ev f) o).run P w) = (fun w => .ok (.enter g ax) w) := by kernel_rfl) (hw : Region.wanted o (yf ops f) = true := by rfl) (hd : inn n o.dst = true := by rfl) : Qt P n ops C R (o :: rest) f :=
  Qcl hw (fun w _ => congrFun hr w) hd (fun w hc => (hs w hc).mono fun _ _ h1 => ⟨by rw [h1.1, hv], by rw [h1.2]; exact hc⟩) h
theorem KQc1 {u : Value} {w0 : World} {R : (Nat → Value) → Prop} (hs : ∀ w, Below w0.heap.size w0 w → Calls P g ax w fun e w' => e = .returned u ∧ Below w.heap.size w w') (v : Value) (hv : u = v) (h : Qt P n ops (fun w => Below w0.heap.size w0 w) R rest (put f o.dst v)) (hr : (fun w => (execOp (ev f) o).run P w) = (fun w => .ok (.enter g ax) w) := by kernel_rfl) (hw : Region.wanted o (yf ops f) = true := by rfl) (hd : inn n o.dst = true := by rfl) : Qt P n ops (fun w => Below w0.heap.size w0 w) R (o :: rest) f :=
  Qcl hw (fun w _ => congrFun hr w) hd (fun w hc => (hs w hc).mono fun _ _ h1 => ⟨by rw [h1.1, hv], bch hc h1.2⟩) h
end
theorem KLb {m : Nat} {T : TypeId} {y : Nat → Value} (h : ∀ g w', g = w.heap.size → Blk w' g m y T → Stp w.heap.size w w' → w'.heap.size = w.heap.size + 1 → L P n ops Q rest (put f o.dst (.pointer (some ⟨g, 0, none⟩))) w') (ho : o.op = .box T (opX o) := by exact rfl) (hx : ev f (opX o) = .agg (varr m y) := by exact rfl) (hw : Region.wanted o (yf ops f) = true := by rfl) (hd : inn n o.dst = true := by rfl) : L P n ops Q (o :: rest) f w := Lbx hw ho hx (cells_agg _ _) hd h
theorem KLb1 {T : TypeId} (v : Value) (h : ∀ g w', g = w.heap.size → Blk w' g 1 (fun _ => v) T → Stp w.heap.size w w' → w'.heap.size = w.heap.size + 1 → L P n ops Q rest (put f o.dst (.pointer (some ⟨g, 0, none⟩))) w') (ho : o.op = .box T (opX o) := by exact rfl) (hx : ev f (opX o) = v := by exact rfl) (hv : v.oneCell' = true := by exact rfl) (hw : Region.wanted o (yf ops f) = true := by rfl) (hd : inn n o.dst = true := by rfl) : L P n ops Q (o :: rest) f w := Lbx hw ho hx (cells_one hv) hd h
theorem KLw {T : TypeId} (m : Nat) (y : Nat → Value) (h : ∀ g w', g = w.heap.size → Blk w' g m y T → Stp w.heap.size w w' → w'.heap.size = w.heap.size + 1 → L P n ops Q rest (put f o.dst (.pointer (some ⟨g, 0, none⟩))) w') (ho : o.op = .alloc T := by exact rfl) (hz : ((P.info? T).bind (·.zero)).map (·.cells) = some (varr m y) := by kernel_rfl) (hw : Region.wanted o (yf ops f) = true := by rfl) (hd : inn n o.dst = true := by rfl) : L P n ops Q (o :: rest) f w := Lnw hw ho hz hd h
section
variable {TB E : TypeId} {g m B s k cap c : Nat} {x y : Nat → Value}
theorem KLs (hb : Blk w g m x TB) (i : Nat) (u : Value) (h : ∀ w', Blk w' g m (updV x i u) TB → Stp g w w' → w'.heap.size = w.heap.size → L P n ops Q rest f w') (ha : ev f (opX o) = .pointer (some ⟨g, i, none⟩) := by exact rfl) (hv : ev f (opY o) = u := by exact rfl) (h1 : u.oneCell' = true := by exact rfl) (hi : i < m := by omega) (ho : isSt o = true := by kernel_rfl) (hT : (P.info? (opT o)).map (·.size) = some 1 := by kernel_rfl) (hd : o.dst = none := by exact rfl) (hw : Region.wanted o (yf ops f) = true := by rfl) : L P n ops Q (o :: rest) f w := L.store1 hw hd (isSt_op ho) ha hv h1 hT hb hi h
theorem KLsA (hb : Blk w g m x TB) (i : Nat) (h : ∀ w', Blk w' g m (ovr x i s y) TB → Stp g w w' → w'.heap.size = w.heap.size → L P n ops Q rest f w') (ha : ev f (opX o) = .pointer (some ⟨g, i, none⟩) := by exact rfl) (hv : ev f (opY o) = .agg (varr s y) := by exact rfl) (h1 : ∀ j, j < s → (y j).oneCell' = true := by exact fun _ _ => rfl) (hi : i + s ≤ m := by omega) (ho : isSt o = true := by kernel_rfl) (hT : (P.info? (opT o)).map (·.size) = some s := by kernel_rfl) (hd : o.dst = none := by exact rfl) (hw : Region.wanted o (yf ops f) = true := by rfl) : L P n ops Q (o :: rest) f w := L.storeA hw hd (isSt_op ho) ha hv h1 hT hb hi h
theorem KLo (hb : Own w B E s (.slice (some ⟨g, 0, none⟩) k cap) k x) (i : Nat) (u : Value) (h : ∀ w', Own w' B E s (.slice (some ⟨g, 0, none⟩) k cap) k (updV x i u) → Stp g w w' → w'.heap.size = w.heap.size → L P n ops Q rest f w') (ha : ev f (opX o) = .pointer (some ⟨g, i, none⟩) := by exact rfl) (hv : ev f (opY o) = u := by exact rfl) (h1 : u.oneCell' = true := by exact rfl) (hi : i < k * s := by omega) (ho : isSt o = true := by kernel_rfl) (hT : (P.info? (opT o)).map (·.size) = some 1 := by kernel_rfl) (hd : o.dst = none := by exact rfl) (hw : Region.wanted o (yf ops f) = true := by rfl) : L P n ops Q (o :: rest) f w := L.own1 hw hd (isSt_op ho) ha hv h1 hT hb hi h
theorem KLoA (hb : Own w B E s (.slice (some ⟨g, 0, none⟩) k cap) k x) (i : Nat) (h : ∀ w', Own w' B E s (.slice (some ⟨g, 0, none⟩) k cap) k (ovr x i c y) → Stp g w w' → w'.heap.size = w.heap.size → L P n ops Q rest f w') (ha : ev f (opX o) = .pointer (some ⟨g, i, none⟩) := by exact rfl) (hv : ev f (opY o) = .agg (varr c y) := by exact rfl) (h1 : ∀ j, j < c → (y j).oneCell' = true := by exact fun _ _ => rfl) (hi : i + c ≤ k * s := by omega) (ho : isSt o = true := by kernel_rfl) (hT : (P.info? (opT o)).map (·.size) = some c := by kernel_rfl) (hd : o.dst = none := by exact rfl) (hw : Region.wanted o (yf ops f) = true := by rfl) : L P n ops Q (o :: rest) f w := L.ownA hw hd (isSt_op ho) ha hv h1 hT hb hi h
end
theorem KWqb {id : Nat} {ops : List Oper} (h : Qt P n ops.toArray (fun w' => Below w.heap.size w w') (fun f' => ∀ w', Below w.heap.size w w' → Q .normal f' w') ops f) (hm : P.follows .mixedOrders = true := by kernel_rfl) (hB : Region.lexB .any ops.toArray = true := by kernel_rfl) : W P n (.region id ops.toArray true) Q f w := W.quiet _ hm hB (Below.refl _ _).drew h
theorem KWqd {id : Nat} {ops : List Oper} (h : Qt P n ops.toArray (fun w' => ∃ q, w' = World.drewN w q) (fun f' => ∀ w', (∃ q, w' = World.drewN w q) → Q .normal f' w') ops f) (hm : P.follows .mixedOrders = true := by kernel_rfl) (hB : Region.lexB .any ops.toArray = true := by kernel_rfl) : W P n (.region id ops.toArray true) Q f w := W.quiet _ hm hB ⟨1, rfl⟩ h
theorem KQq {C : World → Prop} {R : (Nat → Value) → Prop} (v : Value) (h : Qt P n ops C R rest (put f o.dst v)) (hr : (fun w => (execOp (ev f) o).run P w) = (fun w => .ok (.value v) w) := by kernel_rfl) (hw : Region.wanted o (yf ops f) = true := by rfl) (hd : inn n o.dst = true := by rfl) : Qt P n ops C R (o :: rest) f := Qt.val hw (fun w _ => congrFun hr w) hd h
end
section
variable {P : Program} {n : Nat} {ops : List Oper} {cs : List Nat} {S : World → World → Prop} {Q : Post} {f : Nat → Value} {w : World} {i : Nat} {l : List Nat}
theorem KRq (v : Value) (h : R P n ops cs S Q l (put f (Fx.opAt ops i).dst v) w) (hr : (fun w => (execOp (ev f) (Fx.opAt ops i)).run P w) = (fun w => .ok (.value v) w) := by kernel_rfl) (hw : Region.wanted (Fx.opAt ops i) (yf ops.toArray f) = true := by rfl) (hc : Nat.beq (cs.getD i 3) 0 = true := by rfl) : R P n ops cs S Q (i :: l) f w := R.pure hw hc (fun w => congrFun hr w) h
theorem KRh {v : Value} (hx : ev f (opX (Fx.opAt ops i)) = v) (h : R P n ops cs S Q l (put f (Fx.opAt ops i).dst v) w) (ho : isMv (Fx.opAt ops i) = true := by kernel_rfl) (hw : Region.wanted (Fx.opAt ops i) (yf ops.toArray f) = true := by rfl) (hc : Nat.beq (cs.getD i 3) 0 = true := by rfl) : R P n ops cs S Q (i :: l) f w := R.pure hw hc (fun _ => Kxm hx ho) h
theorem KRe (h : L P n ops.toArray (fun _ f' w' => R P n ops cs S Q l f' w') [Fx.opAt ops i] f w) (hc : Nat.beq (cs.getD i 3) 3 = true := by rfl) : R P n ops cs S Q (i :: l) f w := R.eff hc h
theorem KRk (h : L P n ops.toArray (fun _ f' w' => S w w' ∧ R P n ops cs S Q l f' w') [Fx.opAt ops i] f w) (hc : Nat.beq (cs.getD i 3) 2 = true := by rfl) : R P n ops cs S Q (i :: l) f w := R.make hc h
end
section
variable {P : Program} {n : Nat} {Q : Post} {f : Nat → Value} {w : World} {ops : Array Oper} {c : Operand} {x y : Code}
theorem KWcT (h : W P n x Q f w) (hc : ev f c = .bool true := by exact rfl) : W P n (.cond c x y) Q f w := Wc hc (fun _ => h) (fun h => nomatch h)
theorem KWcF (h : W P n y Q f w) (hc : ev f c = .bool false := by exact rfl) : W P n (.cond c x y) Q f w := Wc hc (fun h => nomatch h) (fun _ => h)
theorem KWsl {id : Nat} {l : List Oper} (h : L P n l.toArray (seqK P n y Q) l f w) : W P n (.seq (.region id l.toArray false) y) Q f w := Ws (Wl h)
theorem KLe (h : W P n y Q f w) : L P n ops (seqK P n y Q) [] f w := h
theorem KRend {l : List Oper} {cs : List Nat} {S : World → World → Prop} (h : W P n y Q f w) : R P n l cs S (seqK P n y Q) [] f w := h
theorem Kret {fn : Func} {K : Ending → World → Prop} (v : Value) (h : K (.returned v) w) (hr : (resF fn f).run P w = .ok v w := by kernel_rfl) : retK P fn K .ret f w := ⟨v, hr, h⟩
theorem Kent {g : FuncId} {fn : Func} {c : Code} {ax : Array Value} {K : Ending → World → Prop} (hf : P.funcs[g]? = some fn) (n : Nat) (h : W P n c (retK P fn K) (Fx.start ax) w) (hb : fn.body = some c := by exact rfl) (hn : fn.ntmps = n := by exact rfl) (ha : Nat.ble ax.size n = true := by exact rfl) : Calls P g ax w K := Fx.enter hf hb hn ha h
theorem KWm {id : Nat} {ops : List Oper} (l : List Nat) (cs : List Nat) (certs : List (Nat × Nat × List Nat)) (h : ∀ w1, Below w.heap.size w w1 → w1.heap.size = w.heap.size → R P n ops cs Mk Q l f w1) (hm : P.follows .mixedOrders = true := by kernel_rfl) (hok : opsOk n ops = true := by kernel_rfl) (hsel : Region.noSelect ops.toArray = true := by kernel_rfl) (hp : permOk ops l = true := by kernel_rfl) (hpp : pairsOk ops cs certs l = true := by kernel_rfl) : W P n (.region id ops.toArray true) Q f w := Wro l cs Mk mRf Mk.trans certs hm hok hsel hp hpp h
end
def fdO (P : Program) (o : Oper) : Option Nat := match o.op with
  | .fieldAddr S _ i => (match P.underlying S with | some (.struct fs) => (match fs[i]? with | some fd => (match P.info? fd.type with | some z => bif Nat.beq z.size 0 then none else some fd.offset | none => none) | none => none) | _ => none)
  | _ => none
theorem Kxf {P : Program} {f : Nat → Value} {w : World} {o : Oper} {b off off' : Nat} (hx : ev f (opX o) = .pointer (some ⟨b, off, none⟩)) (d : Nat) (hk : fdO P o = some d := by kernel_rfl) (he : off + d = off' := by first | exact rfl | omega) : Runs P f o w (.pointer (some ⟨b, off', none⟩)) := by
  unfold fdO at hk
  split at hk
  · rename_i S x i e
    have ex : opX o = x := by unfold opX; rw [e]
    split at hk
    · rename_i fs es
      split at hk
      · rename_i fd ef
        split at hk
        · rename_i z ez
          cases h0 : Nat.beq z.size 0
          · rw [h0] at hk
            have : fd.offset = d := Option.some.inj hk
            subst this
            exact x_field e (ex ▸ hx) es ef (by rw [ez]; rfl) h0 he
          rw [h0] at hk; cases hk
        cases hk
      cases hk
    cases hk
  cases hk
theorem KqE {P : Program} {w : World} {ops : Array Oper} {f : Nat → Value} {o : Oper} {v : Value} {p : Prop} (hw : Region.wanted o (yf ops f) = true := by kernel_rfl) (h : (fun w => (execOp (ev f) o).run P w) = (fun w => .ok (.value v) w) := by kernel_rfl) : (if Region.wanted o (yf ops f) then QB P (ev f) o w v else p) := by rw [if_pos hw]; exact qbV fun w1 _ => congrFun h w1
theorem KqV {P : Program} {w : World} {ops : Array Oper} {f : Nat → Value} {o : Oper} {v' : Value} {p : Prop} (v : Value) (h : ∀ w1, Below w.heap.size w w1 → Runs P f o w1 v) (hw : Region.wanted o (yf ops f) = true := by kernel_rfl) (e : v' = v := by kernel_rfl) : (if Region.wanted o (yf ops f) then QB P (ev f) o w v' else p) := by rw [if_pos hw, e]; exact qbV h
theorem KBk {B : Nat} {w0 w w' : World} (h : Below w.heap.size w w') (b : Below B w0 w) (hB : B ≤ w0.heap.size) : Below B w0 w' := b.trans (h.mono (Nat.le_trans hB b.size))
theorem KNk1 {a g s : Nat} (e : g = s) (h : a < s) : a ≠ g := by omega
theorem KGk {B g s : Nat} (e : g = s) (h : B ≤ s) : B ≤ g := by omega
theorem KGk0 {g s : Nat} (e : g = s) : s ≤ g := by omega
class Tr (w w' : World) (A : Prop) (B : outParam Prop) : Prop where tr : Below w.heap.size w w' → A → B
class Tc (Ts : List TypeId) (w w' : World) (A : Prop) (B : outParam Prop) (c : outParam Bool) : Prop where tc : ChT Ts w w' → A → c = true → B
section
variable {w w' : World} {Ts : List TypeId}
instance {g n : Nat} {x : Nat → Value} {T : TypeId} : Tr w w' (Blk w g n x T) (Blk w' g n x T) := ⟨fun b h => h.stp (Sb b) (Nat.ne_of_lt h.lt)⟩
instance {g o n : Nat} {x : Nat → Value} : Tr w w' (Cel w g o n x) (Cel w' g o n x) := ⟨fun b h i hi => (h.below b (h.lt (by omega))) i hi⟩
instance {B : Nat} {E : TypeId} {s n : Nat} {v : Value} {x : Nat → Value} : Tr w w' (Own w B E s v n x) (Own w' B E s v n x) := ⟨fun b h => h.up b⟩
instance {w0 : World} : Tr w w' (Below w0.heap.size w0 w) (Below w0.heap.size w0 w') := ⟨fun h b => KBk h b (Nat.le_refl _)⟩
instance {g n : Nat} {x : Nat → Value} {T : TypeId} : Tc Ts w w' (Blk w g n x T) (Blk w' g n x T) (!Ts.contains T) := ⟨fun b h e => h.chT b (by simpa using e)⟩
instance {B : Nat} {E : TypeId} {s n : Nat} {v : Value} {x : Nat → Value} : Tc Ts w w' (Own w B E s v n x) (Own w' B E s v n x) (!Ts.contains E) := ⟨fun b h e => h.chT b (by simpa using e)⟩
theorem KTk1 {A0 B0 : Prop} (s : Below w.heap.size w w') (a0 : A0) [Tr w w' A0 B0] : B0 := Tr.tr s a0
theorem KTk2 {A0 B0 A1 B1 : Prop} (s : Below w.heap.size w w') (a0 : A0) (a1 : A1) [Tr w w' A0 B0] [Tr w w' A1 B1] : B0 ∧ B1 := ⟨Tr.tr s a0, Tr.tr s a1⟩
theorem KTk3 {A0 B0 A1 B1 A2 B2 : Prop} (s : Below w.heap.size w w') (a0 : A0) (a1 : A1) (a2 : A2) [Tr w w' A0 B0] [Tr w w' A1 B1] [Tr w w' A2 B2] : B0 ∧ B1 ∧ B2 := ⟨Tr.tr s a0, Tr.tr s a1, Tr.tr s a2⟩
theorem KTk4 {A0 B0 A1 B1 A2 B2 A3 B3 : Prop} (s : Below w.heap.size w w') (a0 : A0) (a1 : A1) (a2 : A2) (a3 : A3) [Tr w w' A0 B0] [Tr w w' A1 B1] [Tr w w' A2 B2] [Tr w w' A3 B3] : B0 ∧ B1 ∧ B2 ∧ B3 := ⟨Tr.tr s a0, Tr.tr s a1, Tr.tr s a2, Tr.tr s a3⟩
theorem KTk5 {A0 B0 A1 B1 A2 B2 A3 B3 A4 B4 : Prop} (s : Below w.heap.size w w') (a0 : A0) (a1 : A1) (a2 : A2) (a3 : A3) (a4 : A4) [Tr w w' A0 B0] [Tr w w' A1 B1] [Tr w w' A2 B2] [Tr w w' A3 B3] [Tr w w' A4 B4] : B0 ∧ B1 ∧ B2 ∧ B3 ∧ B4 := ⟨Tr.tr s a0, Tr.tr s a1, Tr.tr s a2, Tr.tr s a3, Tr.tr s a4⟩
theorem KTk6 {A0 B0 A1 B1 A2 B2 A3 B3 A4 B4 A5 B5 : Prop} (s : Below w.heap.size w w') (a0 : A0) (a1 : A1) (a2 : A2) (a3 : A3) (a4 : A4) (a5 : A5) [Tr w w' A0 B0] [Tr w w' A1 B1] [Tr w w' A2 B2] [Tr w w' A3 B3] [Tr w w' A4 B4] [Tr w w' A5 B5] : B0 ∧ B1 ∧ B2 ∧ B3 ∧ B4 ∧ B5 := ⟨Tr.tr s a0, Tr.tr s a1, Tr.tr s a2, Tr.tr s a3, Tr.tr s a4, Tr.tr s a5⟩
theorem KTk7 {A0 B0 A1 B1 A2 B2 A3 B3 A4 B4 A5 B5 A6 B6 : Prop} (s : Below w.heap.size w w') (a0 : A0) (a1 : A1) (a2 : A2) (a3 : A3) (a4 : A4) (a5 : A5) (a6 : A6) [Tr w w' A0 B0] [Tr w w' A1 B1] [Tr w w' A2 B2] [Tr w w' A3 B3] [Tr w w' A4 B4] [Tr w w' A5 B5] [Tr w w' A6 B6] : B0 ∧ B1 ∧ B2 ∧ B3 ∧ B4 ∧ B5 ∧ B6 := ⟨Tr.tr s a0, Tr.tr s a1, Tr.tr s a2, Tr.tr s a3, Tr.tr s a4, Tr.tr s a5, Tr.tr s a6⟩
theorem KTk8 {A0 B0 A1 B1 A2 B2 A3 B3 A4 B4 A5 B5 A6 B6 A7 B7 : Prop} (s : Below w.heap.size w w') (a0 : A0) (a1 : A1) (a2 : A2) (a3 : A3) (a4 : A4) (a5 : A5) (a6 : A6) (a7 : A7) [Tr w w' A0 B0] [Tr w w' A1 B1] [Tr w w' A2 B2] [Tr w w' A3 B3] [Tr w w' A4 B4] [Tr w w' A5 B5] [Tr w w' A6 B6] [Tr w w' A7 B7] : B0 ∧ B1 ∧ B2 ∧ B3 ∧ B4 ∧ B5 ∧ B6 ∧ B7 := ⟨Tr.tr s a0, Tr.tr s a1, Tr.tr s a2, Tr.tr s a3, Tr.tr s a4, Tr.tr s a5, Tr.tr s a6, Tr.tr s a7⟩
theorem KTk9 {A0 B0 A1 B1 A2 B2 A3 B3 A4 B4 A5 B5 A6 B6 A7 B7 A8 B8 : Prop} (s : Below w.heap.size w w') (a0 : A0) (a1 : A1) (a2 : A2) (a3 : A3) (a4 : A4) (a5 : A5) (a6 : A6) (a7 : A7) (a8 : A8) [Tr w w' A0 B0] [Tr w w' A1 B1] [Tr w w' A2 B2] [Tr w w' A3 B3] [Tr w w' A4 B4] [Tr w w' A5 B5] [Tr w w' A6 B6] [Tr w w' A7 B7] [Tr w w' A8 B8] : B0 ∧ B1 ∧ B2 ∧ B3 ∧ B4 ∧ B5 ∧ B6 ∧ B7 ∧ B8 := ⟨Tr.tr s a0, Tr.tr s a1, Tr.tr s a2, Tr.tr s a3, Tr.tr s a4, Tr.tr s a5, Tr.tr s a6, Tr.tr s a7, Tr.tr s a8⟩
theorem KTk10 {A0 B0 A1 B1 A2 B2 A3 B3 A4 B4 A5 B5 A6 B6 A7 B7 A8 B8 A9 B9 : Prop} (s : Below w.heap.size w w') (a0 : A0) (a1 : A1) (a2 : A2) (a3 : A3) (a4 : A4) (a5 : A5) (a6 : A6) (a7 : A7) (a8 : A8) (a9 : A9) [Tr w w' A0 B0] [Tr w w' A1 B1] [Tr w w' A2 B2] [Tr w w' A3 B3] [Tr w w' A4 B4] [Tr w w' A5 B5] [Tr w w' A6 B6] [Tr w w' A7 B7] [Tr w w' A8 B8] [Tr w w' A9 B9] : B0 ∧ B1 ∧ B2 ∧ B3 ∧ B4 ∧ B5 ∧ B6 ∧ B7 ∧ B8 ∧ B9 := ⟨Tr.tr s a0, Tr.tr s a1, Tr.tr s a2, Tr.tr s a3, Tr.tr s a4, Tr.tr s a5, Tr.tr s a6, Tr.tr s a7, Tr.tr s a8, Tr.tr s a9⟩
theorem KTk11 {A0 B0 A1 B1 A2 B2 A3 B3 A4 B4 A5 B5 A6 B6 A7 B7 A8 B8 A9 B9 A10 B10 : Prop} (s : Below w.heap.size w w') (a0 : A0) (a1 : A1) (a2 : A2) (a3 : A3) (a4 : A4) (a5 : A5) (a6 : A6) (a7 : A7) (a8 : A8) (a9 : A9) (a10 : A10) [Tr w w' A0 B0] [Tr w w' A1 B1] [Tr w w' A2 B2] [Tr w w' A3 B3] [Tr w w' A4 B4] [Tr w w' A5 B5] [Tr w w' A6 B6] [Tr w w' A7 B7] [Tr w w' A8 B8] [Tr w w' A9 B9] [Tr w w' A10 B10] : B0 ∧ B1 ∧ B2 ∧ B3 ∧ B4 ∧ B5 ∧ B6 ∧ B7 ∧ B8 ∧ B9 ∧ B10 := ⟨Tr.tr s a0, Tr.tr s a1, Tr.tr s a2, Tr.tr s a3, Tr.tr s a4, Tr.tr s a5, Tr.tr s a6, Tr.tr s a7, Tr.tr s a8, Tr.tr s a9, Tr.tr s a10⟩
theorem KTk12 {A0 B0 A1 B1 A2 B2 A3 B3 A4 B4 A5 B5 A6 B6 A7 B7 A8 B8 A9 B9 A10 B10 A11 B11 : Prop} (s : Below w.heap.size w w') (a0 : A0) (a1 : A1) (a2 : A2) (a3 : A3) (a4 : A4) (a5 : A5) (a6 : A6) (a7 : A7) (a8 : A8) (a9 : A9) (a10 : A10) (a11 : A11) [Tr w w' A0 B0] [Tr w w' A1 B1] [Tr w w' A2 B2] [Tr w w' A3 B3] [Tr w w' A4 B4] [Tr w w' A5 B5] [Tr w w' A6 B6] [Tr w w' A7 B7] [Tr w w' A8 B8] [Tr w w' A9 B9] [Tr w w' A10 B10] [Tr w w' A11 B11] : B0 ∧ B1 ∧ B2 ∧ B3 ∧ B4 ∧ B5 ∧ B6 ∧ B7 ∧ B8 ∧ B9 ∧ B10 ∧ B11 := ⟨Tr.tr s a0, Tr.tr s a1, Tr.tr s a2, Tr.tr s a3, Tr.tr s a4, Tr.tr s a5, Tr.tr s a6, Tr.tr s a7, Tr.tr s a8, Tr.tr s a9, Tr.tr s a10, Tr.tr s a11⟩
theorem KTk14 {A0 B0 A1 B1 A2 B2 A3 B3 A4 B4 A5 B5 A6 B6 A7 B7 A8 B8 A9 B9 A10 B10 A11 B11 A12 B12 A13 B13 : Prop} (s : Below w.heap.size w w') (a0 : A0) (a1 : A1) (a2 : A2) (a3 : A3) (a4 : A4) (a5 : A5) (a6 : A6) (a7 : A7) (a8 : A8) (a9 : A9) (a10 : A10) (a11 : A11) (a12 : A12) (a13 : A13) [Tr w w' A0 B0] [Tr w w' A1 B1] [Tr w w' A2 B2] [Tr w w' A3 B3] [Tr w w' A4 B4] [Tr w w' A5 B5] [Tr w w' A6 B6] [Tr w w' A7 B7] [Tr w w' A8 B8] [Tr w w' A9 B9] [Tr w w' A10 B10] [Tr w w' A11 B11] [Tr w w' A12 B12] [Tr w w' A13 B13] : B0 ∧ B1 ∧ B2 ∧ B3 ∧ B4 ∧ B5 ∧ B6 ∧ B7 ∧ B8 ∧ B9 ∧ B10 ∧ B11 ∧ B12 ∧ B13 := ⟨Tr.tr s a0, Tr.tr s a1, Tr.tr s a2, Tr.tr s a3, Tr.tr s a4, Tr.tr s a5, Tr.tr s a6, Tr.tr s a7, Tr.tr s a8, Tr.tr s a9, Tr.tr s a10, Tr.tr s a11, Tr.tr s a12, Tr.tr s a13⟩
theorem KTk15 {A0 B0 A1 B1 A2 B2 A3 B3 A4 B4 A5 B5 A6 B6 A7 B7 A8 B8 A9 B9 A10 B10 A11 B11 A12 B12 A13 B13 A14 B14 : Prop} (s : Below w.heap.size w w') (a0 : A0) (a1 : A1) (a2 : A2) (a3 : A3) (a4 : A4) (a5 : A5) (a6 : A6) (a7 : A7) (a8 : A8) (a9 : A9) (a10 : A10) (a11 : A11) (a12 : A12) (a13 : A13) (a14 : A14) [Tr w w' A0 B0] [Tr w w' A1 B1] [Tr w w' A2 B2] [Tr w w' A3 B3] [Tr w w' A4 B4] [Tr w w' A5 B5] [Tr w w' A6 B6] [Tr w w' A7 B7] [Tr w w' A8 B8] [Tr w w' A9 B9] [Tr w w' A10 B10] [Tr w w' A11 B11] [Tr w w' A12 B12] [Tr w w' A13 B13] [Tr w w' A14 B14] : B0 ∧ B1 ∧ B2 ∧ B3 ∧ B4 ∧ B5 ∧ B6 ∧ B7 ∧ B8 ∧ B9 ∧ B10 ∧ B11 ∧ B12 ∧ B13 ∧ B14 := ⟨Tr.tr s a0, Tr.tr s a1, Tr.tr s a2, Tr.tr s a3, Tr.tr s a4, Tr.tr s a5, Tr.tr s a6, Tr.tr s a7, Tr.tr s a8, Tr.tr s a9, Tr.tr s a10, Tr.tr s a11, Tr.tr s a12, Tr.tr s a13, Tr.tr s a14⟩
theorem KCk1 {A0 B0 : Prop} {C0 : Bool} (s : ChT Ts w w') (a0 : A0) [Tc Ts w w' A0 B0 C0] (h0 : C0 = true := by decide) : B0 := Tc.tc s a0 h0
theorem KCk2 {A0 B0 A1 B1 : Prop} {C0 C1 : Bool} (s : ChT Ts w w') (a0 : A0) (a1 : A1) [Tc Ts w w' A0 B0 C0] [Tc Ts w w' A1 B1 C1] (h0 : C0 = true := by decide) (h1 : C1 = true := by decide) : B0 ∧ B1 := ⟨Tc.tc s a0 h0, Tc.tc s a1 h1⟩
theorem KCk3 {A0 B0 A1 B1 A2 B2 : Prop} {C0 C1 C2 : Bool} (s : ChT Ts w w') (a0 : A0) (a1 : A1) (a2 : A2) [Tc Ts w w' A0 B0 C0] [Tc Ts w w' A1 B1 C1] [Tc Ts w w' A2 B2 C2] (h0 : C0 = true := by decide) (h1 : C1 = true := by decide) (h2 : C2 = true := by decide) : B0 ∧ B1 ∧ B2 := ⟨Tc.tc s a0 h0, Tc.tc s a1 h1, Tc.tc s a2 h2⟩
theorem KCk4 {A0 B0 A1 B1 A2 B2 A3 B3 : Prop} {C0 C1 C2 C3 : Bool} (s : ChT Ts w w') (a0 : A0) (a1 : A1) (a2 : A2) (a3 : A3) [Tc Ts w w' A0 B0 C0] [Tc Ts w w' A1 B1 C1] [Tc Ts w w' A2 B2 C2] [Tc Ts w w' A3 B3 C3] (h0 : C0 = true := by decide) (h1 : C1 = true := by decide) (h2 : C2 = true := by decide) (h3 : C3 = true := by decide) : B0 ∧ B1 ∧ B2 ∧ B3 := ⟨Tc.tc s a0 h0, Tc.tc s a1 h1, Tc.tc s a2 h2, Tc.tc s a3 h3⟩
theorem KCk5 {A0 B0 A1 B1 A2 B2 A3 B3 A4 B4 : Prop} {C0 C1 C2 C3 C4 : Bool} (s : ChT Ts w w') (a0 : A0) (a1 : A1) (a2 : A2) (a3 : A3) (a4 : A4) [Tc Ts w w' A0 B0 C0] [Tc Ts w w' A1 B1 C1] [Tc Ts w w' A2 B2 C2] [Tc Ts w w' A3 B3 C3] [Tc Ts w w' A4 B4 C4] (h0 : C0 = true := by decide) (h1 : C1 = true := by decide) (h2 : C2 = true := by decide) (h3 : C3 = true := by decide) (h4 : C4 = true := by decide) : B0 ∧ B1 ∧ B2 ∧ B3 ∧ B4 := ⟨Tc.tc s a0 h0, Tc.tc s a1 h1, Tc.tc s a2 h2, Tc.tc s a3 h3, Tc.tc s a4 h4⟩
theorem KCk8 {A0 B0 A1 B1 A2 B2 A3 B3 A4 B4 A5 B5 A6 B6 A7 B7 : Prop} {C0 C1 C2 C3 C4 C5 C6 C7 : Bool} (s : ChT Ts w w') (a0 : A0) (a1 : A1) (a2 : A2) (a3 : A3) (a4 : A4) (a5 : A5) (a6 : A6) (a7 : A7) [Tc Ts w w' A0 B0 C0] [Tc Ts w w' A1 B1 C1] [Tc Ts w w' A2 B2 C2] [Tc Ts w w' A3 B3 C3] [Tc Ts w w' A4 B4 C4] [Tc Ts w w' A5 B5 C5] [Tc Ts w w' A6 B6 C6] [Tc Ts w w' A7 B7 C7] (h0 : C0 = true := by decide) (h1 : C1 = true := by decide) (h2 : C2 = true := by decide) (h3 : C3 = true := by decide) (h4 : C4 = true := by decide) (h5 : C5 = true := by decide) (h6 : C6 = true := by decide) (h7 : C7 = true := by decide) : B0 ∧ B1 ∧ B2 ∧ B3 ∧ B4 ∧ B5 ∧ B6 ∧ B7 := ⟨Tc.tc s a0 h0, Tc.tc s a1 h1, Tc.tc s a2 h2, Tc.tc s a3 h3, Tc.tc s a4 h4, Tc.tc s a5 h5, Tc.tc s a6 h6, Tc.tc s a7 h7⟩
theorem KNk2 {a0 a1 g s : Nat} (e : g = s) (h0 : a0 < s) (h1 : a1 < s) : a0 ≠ g ∧ a1 ≠ g := ⟨KNk1 e h0, KNk1 e h1⟩
theorem KNk3 {a0 a1 a2 g s : Nat} (e : g = s) (h0 : a0 < s) (h1 : a1 < s) (h2 : a2 < s) : a0 ≠ g ∧ a1 ≠ g ∧ a2 ≠ g := ⟨KNk1 e h0, KNk1 e h1, KNk1 e h2⟩
theorem KNk4 {a0 a1 a2 a3 g s : Nat} (e : g = s) (h0 : a0 < s) (h1 : a1 < s) (h2 : a2 < s) (h3 : a3 < s) : a0 ≠ g ∧ a1 ≠ g ∧ a2 ≠ g ∧ a3 ≠ g := ⟨KNk1 e h0, KNk1 e h1, KNk1 e h2, KNk1 e h3⟩
theorem KNk5 {a0 a1 a2 a3 a4 g s : Nat} (e : g = s) (h0 : a0 < s) (h1 : a1 < s) (h2 : a2 < s) (h3 : a3 < s) (h4 : a4 < s) : a0 ≠ g ∧ a1 ≠ g ∧ a2 ≠ g ∧ a3 ≠ g ∧ a4 ≠ g := ⟨KNk1 e h0, KNk1 e h1, KNk1 e h2, KNk1 e h3, KNk1 e h4⟩
theorem KNk6 {a0 a1 a2 a3 a4 a5 g s : Nat} (e : g = s) (h0 : a0 < s) (h1 : a1 < s) (h2 : a2 < s) (h3 : a3 < s) (h4 : a4 < s) (h5 : a5 < s) : a0 ≠ g ∧ a1 ≠ g ∧ a2 ≠ g ∧ a3 ≠ g ∧ a4 ≠ g ∧ a5 ≠ g := ⟨KNk1 e h0, KNk1 e h1, KNk1 e h2, KNk1 e h3, KNk1 e h4, KNk1 e h5⟩
theorem KNk7 {a0 a1 a2 a3 a4 a5 a6 g s : Nat} (e : g = s) (h0 : a0 < s) (h1 : a1 < s) (h2 : a2 < s) (h3 : a3 < s) (h4 : a4 < s) (h5 : a5 < s) (h6 : a6 < s) : a0 ≠ g ∧ a1 ≠ g ∧ a2 ≠ g ∧ a3 ≠ g ∧ a4 ≠ g ∧ a5 ≠ g ∧ a6 ≠ g := ⟨KNk1 e h0, KNk1 e h1, KNk1 e h2, KNk1 e h3, KNk1 e h4, KNk1 e h5, KNk1 e h6⟩
end
end Rt
end Go.Proofs.Ytkajcjefckjijaa
namespace Go.Proofs.Ytkajcjefckjijaa
open Go.RowKit Rt
namespace Rt
def mx : Int := 1125899906842624
def okN (n : Int) : Bool := decide (0 ≤ n) && decide (n ≤ 1125899906842624)
def sumOk (l : List Int) : Bool := l.all okN
def sumI (l : List Int) : Int × Bool := if sumOk l then (l.sum, true) else (0, false)
theorem sumOk_take_succ (l : List Int) (k : Nat) (h : k < l.length) : sumOk (l.take (k + 1)) = (sumOk (l.take k) && okN l[k]) := by
  unfold sumOk; rw [List.take_succ_eq_append_getElem h, List.all_append]; simp
theorem sum_take_succ (l : List Int) (k : Nat) (h : k < l.length) : (l.take (k + 1)).sum = (l.take k).sum + l[k] := by
  rw [List.take_succ_eq_append_getElem h, List.sum_append]; simp
theorem sum_bound : ∀ (l : List Int), sumOk l = true → 0 ≤ l.sum ∧ l.sum ≤ 1125899906842624 * (l.length : Int)
  | [], _ => by simp
  | x :: l, h => by
    unfold sumOk at h
    rw [List.all_cons, Bool.and_eq_true] at h
    have := sum_bound l h.2
    have hx := h.1
    unfold okN at hx
    simp at hx
    rw [List.sum_cons, List.length_cons]
    omega
theorem sumI_bound (l : List Int) : 0 ≤ (sumI l).1 ∧ (sumI l).1 ≤ 1125899906842624 * (l.length : Int) := by
  unfold sumI
  by_cases h : sumOk l = true
  · rw [if_pos h]; exact sum_bound l h
  rw [if_neg h]; simp; omega
theorem sumOk_of_take {l : List Int} {k : Nat} (hk : k < l.length) (h : okN l[k] = false) : sumOk l = false := by
  unfold sumOk
  rw [List.all_eq_false]
  exact ⟨l[k], List.getElem_mem hk, by simpa using h⟩
def G (x : Nat → Int) (i : Nat) : Int := x i
def C (x : Nat → Int) (i : Nat) : Int := x (6 + i)
def F (x : Nat → Int) (i : Nat) : Int := x (12 + i)
def R (x : Nat → Int) (i j : Nat) : Int := x (18 + i * 6 + j)
def outs (x : Nat → Int) (k : Nat) : Nat → List Int
  | 0 => [C x k]
  | j + 1 => outs x k j ++ [R x k j]
def ins (x : Nat → Int) (k : Nat) : Nat → List Int
  | 0 => [G x k, F x k]
  | j + 1 => ins x k j ++ [R x j k]
def localM (x : Nat → Int) (k : Nat) : Int × Bool := ((sumI (ins x k 6)).1 - (sumI (outs x k 6)).1, (sumI (outs x k 6)).2 && (sumI (ins x k 6)).2)
end Rt
def RdI (k : IntKind) (w : World) (a : Option Addr) (l : List Int) : Prop :=
  ∀ i (h : i < l.length), ∃ b off, a = some ⟨b, off, none⟩ ∧ w.cell? ⟨b, off + i, none⟩ = some (.int k l[i])
end Go.Proofs.Ytkajcjefckjijaa
namespace Go.Proofs.Ytkajcjefckjijaa
open Go.RowKit Rt
open Fx (x_move x_assign x_field x_load1 x_conv x_indexS x_index x_leqF x_loadA x_len x_gtrF x_eqlF x_eqlT Lv sN Ln Ws Qv Wl Rp Wc Qs Wr Sb Lk Wk rV sR Rs Rn Rd Rk Wb Wx Wo Wt Wone Qn Qcl Lcl Lbs Lap Lnw Lbx Stv cOs cOg sRf mRf gRf cRf oNl bGr Wro rv varr Blk ovr ev Stp ovr_all flat updV run_loadV Cel fill_step ret0 Chg i64e Arr flat_cong cells_agg cells_one ChT ovr_ones u64e appX fOne_out upd_all blkR blkN seqX blkX lpX lpN lpR retV2)
abbrev Ksl (g n c : Nat) : Value := .slice (some ⟨g, 0, none⟩) n c
theorem KrI {k : IntKind} {a b : Int} (h : a = b) : Ending.returned (.int k a) = .returned (.int k b) := by rw [h]
theorem KrB {a b : Bool} (h : a = b) : Ending.returned (.bool a) = .returned (.bool b) := by rw [h]
abbrev pt (g : Nat) : Value := .pointer (some ⟨g, 0, none⟩)
abbrev pf (g o : Nat) : Value := .pointer (some ⟨g, o, none⟩)
theorem Fx.ic {k : IntKind} {a b : Int} (h : a = b := by first | rfl | omega) : Value.int k a = .int k b := congrArg _ h
theorem Fx.io {a c : Int} (h : -9223372036854775808 ≤ c ∧ c ≤ 9223372036854775807 := by omega) (e : a = c := by omega) : IntKind.i64.wrap a = c := Fx.i64e h e
theorem Fx.Blk.ne {w : World} {g n : Nat} {x : Nat → Value} {T : TypeId} (h : Fx.Blk w g n x T) : g ≠ w.heap.size := Nat.ne_of_lt h.lt
namespace Rt
def mx6 (a b : Int) : Int := if b > a then b else a
def vx (X : Nat → Nat → Int) : Nat → Value := fun p => Ku6 (X (p / 6) (p % 6))
theorem vx_row (X : Nat → Nat → Int) {i p j : Nat} (hp : p = 6 * i) (hj : j < 6) : vx X (p + j) = rv .u64 (X i) j := by
  subst hp
  show Value.int .u64 (X ((6 * i + j) / 6) ((6 * i + j) % 6)) = Ku6 (X i j)
  rw [show (6 * i + j) / 6 = i by omega, show (6 * i + j) % 6 = j by omega]
def foldS (c : Int → Int → Int) (X : Nat → Nat → Int) : Nat → Nat → Int
  | 0 => X 0
  | k + 1 => fun p => c (foldS c X k p) (X (k + 1) p)
def foldV (c : Int → Int → Int) (X : Nat → Nat → Int) : Nat → Nat → Int
  | 0 => fun _ => 0
  | k + 1 => foldS c X k
def Vcs (w : World) (a : Option Addr) (n cap : Nat) (X : Nat → Nat → Int) : Prop := 0 < n → n ≤ cap ∧ ∃ b off, a = some ⟨b, off, none⟩ ∧ Cel w b off (6 * n) (vx X)
def eachT (x : Nat → Int) (k : Nat) : Nat → Int := fun p => if p < k then x p else 0
theorem eachT_succ (x : Nat → Int) (k : Nat) : upd (eachT x k) k (x k) = eachT x (k + 1) := by
  funext p; unfold upd eachT
  by_cases h : p = k
  · subst h; rw [if_pos rfl, if_pos (by omega)]
  rw [if_neg h]
  by_cases h2 : p < k
  · rw [if_pos h2, if_pos (by omega)]
  rw [if_neg h2, if_neg (by omega)]
theorem eachT_end (x : Nat → Int) : varr 6 (rv .u64 (eachT x 6)) = varr 6 (rv .u64 x) := Fx.varr_congr fun p hp => congrArg (Value.int .u64) (by unfold eachT; rw [if_pos hp])
end Rt
-- gossip.region is not in this seat
theorem g_max (a b : Int) (w : World) :
    Calls Try.prog 59 #[Ku6 a, Ku6 b] w fun e w' => e = .returned (Ku6 (mx6 a b)) ∧ w' = w := by
 refine Kent Try.func59 8 ?_
 refine KWsl (KLq (Ku6 0) (KLe (KWsl (KLq (Ku6 a) (KLq (Ku6 b) (Lv (Ku6 (mx6 a b)) (Fx.x_max rfl rfl rfl) (KLq (Ku6 (mx6 a b)) (KLe (Wr (Kret (Ku6 (mx6 a b)) ?_))))))))))
 exact ⟨rfl, rfl⟩
theorem g_f1_max (x y : Nat → Int) (gc go gv q : Nat) (w : World) (hq : q < 6) (hc : Blk w gc 1 (fun _ => .func (.func 59) #[] #[]) 104) (ho : Blk w go 6 (rv .u64 x) 25) (hv : Blk w gv 6 (rv .u64 y) 25) :
    Calls Try.prog 79 #[Ki6 ((q : Int)), (pt gc), (pt go), (pt gv)] w fun e w' => e = .returned (Ku6 (mx6 (x q) (y q))) ∧ Below w.heap.size w w' := by
 refine Kent Try.func79 14 ?_
 refine KWsl (KLq (Ku6 0) (KLe (Ws ?_)))
 -- region 1 draws
 refine KWqb (Qv (.func (.func 59) #[] #[]) (fun v1 hv1 => Kxl (hc.cb hv1) 0) (KQq (Ki6 q) (Qv ((pf go q)) (fun v1 hv1 => Kxj 6 1) (Qv (Ku6 (x q)) (fun v1 hv1 => Kxl (ho.cb hv1) q) (KQq (Ki6 q) (Qv ((pf gv q)) (fun v1 hv1 => Kxj 6 1) (Qv (Ku6 (y q)) (fun v1 hv1 => Kxl (hv.cb hv1) q) (Qcl (v := Ku6 (mx6 (x q) (y q))) (by rfl) (fun v1 hv1 => Fx.r_clo (args := [Ku6 (x q), Ku6 (y q)]) rfl rfl rfl (all := #[Ku6 (x q), Ku6 (y q)]) rfl Try.func59 rfl rfl) rfl (fun v1 hv1 => (g_max (x q) (y q) _).mono fun e v2 h => ⟨h.1, by rw [h.2]; exact hv1⟩) ?_))))))))
 refine KQq (Ku6 (mx6 (x q) (y q))) (Qn ?_)
 intro wb1 hbwb1
 have ⟨m2, b1⟩ := KTk2 hbwb1 ho (Below.refl w.heap.size w)
 refine sN (Wr (Kret (Ku6 (mx6 (x q) (y q))) ?_))
 exact ⟨rfl, b1⟩
theorem g_each_max (x y : Nat → Int) (gc go gv : Nat) (w : World) (hc : Blk w gc 1 (fun _ => .func (.func 59) #[] #[]) 104) (ho : Blk w go 6 (rv .u64 x) 25) (hv : Blk w gv 6 (rv .u64 y) 25) :
    Calls Try.prog 67 #[.func (.func 79) #[] #[(pt gc), (pt go), (pt gv)]] w fun e w' => e = .returned (.agg (varr 6 (rv .u64 (fun p => mx6 (x p) (y p))))) ∧ Below w.heap.size w w' := by
 refine Kent Try.func67 14 ?_
 refine KWsl (Lnw (m := 6) (y := rv .u64 (fun _ => 0)) (by rfl) rfl (by kernel_rfl) rfl fun g1 w1 eg1 m1 s1 z1 => ?_)
 have ⟨m2, m3, m4, b1⟩ := KTk4 s1.old hc ho hv (Below.refl w.heap.size w)
 have lg1 := KGk0 eg1
 have ⟨ng1m2, ng1m3, ng1m4⟩ := KNk3 eg1 hc.lt ho.lt hv.lt
 have tg1 := m1.lt
 refine KLe (Ws (KWsl (KLq (Ki6 0) (KLe (Wb ?_)))))
 have m5 : Blk w1 g1 6 (rv .u64 (eachT (fun p => mx6 (x p) (y p)) 0)) 25 := m1
 refine Wo (fun f w_ => ∃ k : Nat, k ≤ 6 ∧ f 0 = .func (.func 79) #[] #[(pt gc), (pt go), (pt gv)] ∧ f 2 = (pt g1) ∧ f 4 = Ki6 ((k : Int)) ∧ Blk w_ gc 1 (fun _ => .func (.func 59) #[] #[]) 104 ∧ Blk w_ go 6 (rv .u64 x) 25 ∧ Blk w_ gv 6 (rv .u64 y) 25 ∧ Blk w_ g1 6 (rv .u64 (eachT (fun p => mx6 (x p) (y p)) k)) 25 ∧ Below w.heap.size w w_) (fun f _ => (6 - (intOf (f 4)).toNat)) ⟨0, by omega, (by rfl), (by rfl), Fx.ic, m2, m3, m4, m5, b1⟩ ?_
 rintro f1 w2 ⟨k, hk, h1, h2, h3, m6, m7, m8, m9, b2⟩
 refine KWsl ?_
 by_cases c5 : (k : Int) < 6
 ·refine Lv KbT (KltT c5 (hx := h3)) (KLe (Ws (KWcT (Wk (sN (Ws (Wb (KWsl (KLh h3 (KLq (Ki6 k) (KLe (Wl (KLq (Ki6 k) (KLh h1 (KLq (Ki6 k) (Lcl (by rfl) (Fx.r_clo (args := [Ki6 ((k : Int))]) rfl rfl rfl (all := #[Ki6 ((k : Int)), (pt gc), (pt go), (pt gv)]) rfl Try.func79 rfl rfl) rfl ((g_f1_max x y gc go gv k _ (by omega) m6 m7 m8).mono ?_)))))))))))))))))
  rintro e w3 ⟨he, hb1⟩
  refine ⟨Ku6 (mx6 (x k) (y k)), by rw [he], ?_⟩
  clear he
  have ⟨m10, m11, m12, m13, b3⟩ := KTk5 hb1 m6 m7 m8 m9 b2
  refine Lv ((pf g1 k)) (Kxj 6 1 (hx := h2)) (KLs m13 k (Ku6 (mx6 (x k) (y k))) fun w4 m14 s3 z2 => ?_)
  have m15 : Blk w4 g1 6 (rv .u64 (upd (eachT (fun p => mx6 (x p) (y p)) k) k (mx6 (x k) (y k)))) 25 := m14.to (Fx.updV_rv _ _ _ _)
  have m16 := m10.stp s3 (by omega)
  have m17 := m11.stp s3 (by omega)
  have m18 := m12.stp s3 (by omega)
  have b4 := s3.below b3 b3.size (by omega)
  refine Ln (blkN (sN (Wl (Lv (Ki6 ((k : Int) + 1)) (KxP (hx := h3)) (KLq (Ki6 ((k : Int) + 1)) (Ln ?_))))))
  have m19 := m15.to (congrArg (rv .u64) (eachT_succ (fun p => mx6 (x p) (y p)) k))
  refine lpN ⟨k + 1, by omega, h1, h2, Fx.ic, m16, m17, m18, m19, b4⟩ ?_
  show (6 - (intOf ((Ki6 ((k : Int) + 1)))).toNat) < _
  simp only [h3, intOf]; omega
 refine Lv KbF (KltF c5 (hx := h3)) (KLe (Ws (KWcF (Wx (seqX (lpX (blkX (sN (KWsl (Lv (.agg (varr 6 (rv .u64 (eachT (fun p => mx6 (x p) (y p)) k)))) (KxA m9.cel 0 (ha := h2)) (KLsA m9 0 (ha := h2) fun w5 m20 s4 z3 => ?_)))))))))))
 have m21 : Blk w5 g1 6 (rv .u64 (eachT (fun p => mx6 (x p) (y p)) k)) 25 := ovr_all m20
 have m22 := m6.stp s4 (by omega)
 have m23 := m7.stp s4 (by omega)
 have m24 := m8.stp s4 (by omega)
 have b5 := s4.below b2 b2.size (by omega)
 refine KLe (Wr (⟨.agg (varr 6 (rv .u64 (eachT (fun p => mx6 (x p) (y p)) k))), rV Try.results67 ⟨_, h2, run_loadV m21.cel (by kernel_rfl) (by kernel_rfl)⟩, ?_⟩))
 have e6 : k = 6 := by omega
 exact ⟨by rw [e6, eachT_end], b5⟩
namespace Rt
def V2 (x y : Nat → Int) : Nat → Nat → Int
  | 0 => x
  | 1 => y
  | _ => fun _ => 0
end Rt
theorem g_fold0_max (a : Option Addr) (cap : Nat) (w : World) :
    Calls Try.prog 58 #[.slice a (0) (cap), .func (.func 59) #[] #[]] w fun e w' => e = .returned (.agg (varr 6 (rv .u64 (fun _ => 0)))) ∧ Below w.heap.size w w' := by
 refine Kent Try.func58 26 ?_
 refine KWsl (KLb1 (.func (.func 59) #[] #[]) fun g1 w1 eg1 m1 s1 z1 => ?_)
 have b1 := KTk1 s1.old (Below.refl w.heap.size w)
 have lg1 := KGk0 eg1
 have tg1 := m1.lt
 refine KLw 6 (rv .u64 (fun _ => 0)) fun g2 w2 eg2 m2 s2 z2 => ?_
 have ⟨m3, b2⟩ := KTk2 s2.old m1 b1
 have lg2 := KGk eg2 b1.size
 have ng2m3 := KNk1 eg2 m1.lt
 have tg2 := m2.lt
 refine KLe (Ws (KWsl (KLq (.slice a (0) (cap)) (KLq (Ki6 0) (Lv KbT (KeqT rfl) (KLe (KWcT (KWsl (Lv (.agg (varr 6 (rv .u64 (fun _ => 0)))) (Fx.x_buildArr (vs := []) (s := 1) (m := 6) (x := rv .u64 (fun _ => 0)) rfl rfl Try.underlying25 (by kernel_rfl) (by kernel_rfl) (by rfl)) (KLsA m2 0 fun w3 m4 s3 z3 => ?_))))))))))
 have m5 : Blk w3 g2 6 (rv .u64 (fun _ => 0)) 25 := ovr_all m4
 have m6 := m3.stp s3 (by omega)
 have b3 := s3.below b2 b2.size (by omega)
 refine KLe (Wr (sR (⟨.agg (varr 6 (rv .u64 (fun _ => 0))), rV Try.results58 ⟨_, rfl, run_loadV m5.cel (by kernel_rfl) (by kernel_rfl)⟩, ?_⟩)))
 exact ⟨rfl, b3⟩
theorem g_foldS_max (b off m cap : Nat) (X : Nat → Nat → Int) (w : World) (hcap : m + 1 ≤ cap) (hm : m ≤ 1000000) (hx : Cel w b off (6 * (m + 1)) (vx X)) :
    Calls Try.prog 58 #[.slice (some ⟨b, off, none⟩) (m + 1) (cap), .func (.func 59) #[] #[]] w fun e w' => e = .returned (.agg (varr 6 (rv .u64 (foldS mx6 X m)))) ∧ Below w.heap.size w w' := by
 have lb := hx.lt (by omega)
 refine Kent Try.func58 26 ?_
 refine KWsl (KLb1 (.func (.func 59) #[] #[]) fun g1 w1 eg1 m1 s1 z1 => ?_)
 have ⟨m2, b1⟩ := KTk2 s1.old hx (Below.refl w.heap.size w)
 have lg1 := KGk0 eg1
 have ng1m2 : b ≠ g1 := by rw [eg1]; exact Nat.ne_of_lt (hx.lt (by omega))
 have tg1 := m1.lt
 refine KLw 6 (rv .u64 (fun _ => 0)) fun g2 w2 eg2 m3 s2 z2 => ?_
 have ⟨m4, m5, b2⟩ := KTk3 s2.old m2 m1 b1
 have lg2 := KGk eg2 b1.size
 have ng2m4 : b ≠ g2 := by rw [eg2]; exact Nat.ne_of_lt (m2.lt (by omega))
 have ng2m5 := KNk1 eg2 m1.lt
 have tg2 := m3.lt
 refine KLe (Ws (KWsl (KLq (.slice (some ⟨b, off, none⟩) (m + 1) (cap)) (KLq (Ki6 ((m + 1 : Nat) : Int)) (Lv KbF KeqFo (KLe (KWcF (Wk (sN (KWsl (KLq (.slice (some ⟨b, off, none⟩) (m + 1) (cap)) (Lv ((pf b off)) (Kxi 6) (Lv (.agg (varr 6 (rv .u64 (X 0)))) (KxA m4 0 (fun j hj => vx_row _ (i := 0) (p := 0) (by omega) hj)) (KLw 6 (rv .u64 (fun _ => 0)) fun g3 w3 eg3 m6 s3 z3 => ?_))))))))))))))
 have ⟨m7, m8, m9, b3⟩ := KTk4 s3.old m4 m5 m3 b2
 have lg3 := KGk eg3 b2.size
 have ng3m7 : b ≠ g3 := by rw [eg3]; exact Nat.ne_of_lt (m4.lt (by omega))
 have ⟨ng3m8, ng3m9⟩ := KNk2 eg3 m5.lt m3.lt
 have tg3 := m6.lt
 refine KLsA m6 0 fun w4 m10 s4 z4 => ?_
 have m11 : Blk w4 g3 6 (rv .u64 (X 0)) 25 := ovr_all m10
 have m12 := m7.stp s4 (by omega)
 have m13 := m8.stp s4 (by omega)
 have m14 := m9.stp s4 (by omega)
 have b4 := s4.below b3 b3.size (by omega)
 refine KLe (Ws (KWsl (KLq (.slice (some ⟨b, off, none⟩) (m + 1) (cap)) (Lv (.slice (if cap = 1 then some ⟨b, off, none⟩ else some ⟨b, off + 6, none⟩) (m) (cap - 1)) (Fx.x_sliceLo2 (j := 1) (b := b) (off := off) (len := m + 1) (cap := cap) (s := 6) rfl rfl rfl Try.underlying102 (by kernel_rfl) (by omega) rfl rfl rfl) (KLq (Ki6 m) (KLq (Ki6 0) (KLe (Wb ?_))))))))
 have m15 : Blk w4 g3 6 (rv .u64 (foldS mx6 X 0)) 25 := m11
 refine Wo (fun f w_ => ∃ k : Nat, k ≤ m ∧ f 3 = (pt g1) ∧ f 4 = (pt g2) ∧ f 5 = (pt g3) ∧ f 16 = .slice (if cap = 1 then some ⟨b, off, none⟩ else some ⟨b, off + 6, none⟩) (m) (cap - 1) ∧ f 17 = Ki6 ((m : Int)) ∧ f 18 = Ki6 ((k : Int)) ∧ Cel w_ b off (6 * (m + 1)) (vx X) ∧ Blk w_ g1 1 (fun _ => .func (.func 59) #[] #[]) 104 ∧ Blk w_ g2 6 (rv .u64 (fun _ => 0)) 25 ∧ Blk w_ g3 6 (rv .u64 (foldS mx6 X k)) 25 ∧ Below w.heap.size w w_) (fun f _ => (m - (intOf (f 18)).toNat)) ⟨0, by omega, (by rfl), (by rfl), (by rfl), (by rfl), Fx.ic, Fx.ic, m12, m13, m14, m15, b4⟩ ?_
 rintro f1 w5 ⟨k, hk, h1, h2, h3, h4, h5, h6, m16, m17, m18, m19, b5⟩
 refine KWsl ?_
 by_cases c19 : (k : Int) < (m : Int)
 ·refine Lv KbT (KltT c19 (hx := h6) (hy := h5)) (KLe (Ws (KWcT (Wk (sN (Ws (Wb (KWsl (Lv ((pf b (6 * k + off + 6))) (Kxi 6 (hx := (h4.trans (congrArg (fun q => Value.slice q (m) (cap - 1)) (if_neg (by omega))))) (hi := h6)) (Lv (.agg (varr 6 (rv .u64 (X (k + 1))))) (KxA m16 (6 * k + 6) (fun j hj => vx_row _ (i := k + 1) (p := 6 * k + 6) (by omega) hj)) (KLw 6 (rv .u64 (fun _ => 0)) fun g4 w6 eg4 m20 s5 z5 => ?_)))))))))))
  have ⟨m21, m22, m23, m24, b6⟩ := KTk5 s5.old m16 m17 m18 m19 b5
  have lg4 := KGk eg4 b5.size
  have ng4m21 : b ≠ g4 := by rw [eg4]; exact Nat.ne_of_lt (m16.lt (by omega))
  have ⟨ng4m22, ng4m23, ng4m24⟩ := KNk3 eg4 m17.lt m18.lt m19.lt
  have tg4 := m20.lt
  refine KLsA m20 0 fun w7 m25 s6 z6 => ?_
  have m26 : Blk w7 g4 6 (rv .u64 (X (k + 1))) 25 := ovr_all m25
  have m27 := m21.stp s6 (by omega)
  have m28 := m22.stp s6 (by omega)
  have m29 := m23.stp s6 (by omega)
  have m30 := m24.stp s6 (by omega)
  have b7 := s6.below b6 b6.size (by omega)
  refine KLe (Wl (Lv (.func (.func 79) #[] #[(pt g1), (pt g3), (pt g4)]) (Fx.x_func (us := []) (vs := [(pt g1), (pt g3), (pt g4)]) rfl rfl (Fx.args3 h1 h3 rfl)) (KLc1 (g_each_max (foldS mx6 X k) (X (k + 1)) g1 g3 g4 _ m28 m30 m26) _ rfl ?_)))
  intro w8 hb1
  have ⟨m31, m32, m33, m34, m35, b8⟩ := KTk6 hb1 m27 m28 m29 m30 m26 b7
  refine KLsA m34 0 (ha := h3) fun w9 m36 s8 z7 => ?_
  have m37 : Blk w9 g3 6 (rv .u64 (fun p => mx6 ((foldS mx6 X k) p) ((X (k + 1)) p))) 25 := ovr_all m36
  have m38 := m31.stp s8 (by omega)
  have m39 := m32.stp s8 (by omega)
  have m40 := m33.stp s8 (by omega)
  have m41 := m35.stp s8 (by omega)
  have b9 := s8.below b8 b8.size (by omega)
  refine Ln (blkN (sN (Wl (Lv (Ki6 ((k : Int) + 1)) (KxP (hx := h6)) (KLq (Ki6 ((k : Int) + 1)) (Ln (lpN ⟨k + 1, by omega, h1, h2, h3, h4, (h5.trans Fx.ic), Fx.ic, m38, m39, m40, m37, b9⟩ ?_)))))))
  show (m - (intOf ((Ki6 ((k : Int) + 1)))).toNat) < _
  simp only [h6, intOf]; omega
 refine Lv KbF (KltF c19 (hx := h6) (hy := h5)) (KLe (Ws (KWcF (Wx (seqX (lpX (blkX (sN (KWsl (Lv (.agg (varr 6 (rv .u64 (foldS mx6 X k)))) (KxA m19.cel 0 (ha := h3)) (KLsA m18 0 (ha := h2) fun w10 m42 s9 z8 => ?_)))))))))))
 have m43 : Blk w10 g2 6 (rv .u64 (foldS mx6 X k)) 25 := ovr_all m42
 have m44 := m16.stp s9 (by omega)
 have m45 := m17.stp s9 (by omega)
 have m46 := m19.stp s9 (by omega)
 have b10 := s9.below b5 b5.size (by omega)
 refine KLe (Wr (⟨.agg (varr 6 (rv .u64 (foldS mx6 X k))), rV Try.results58 ⟨_, h2, run_loadV m43.cel (by kernel_rfl) (by kernel_rfl)⟩, ?_⟩))
 have ek : k = m := by omega
 exact ⟨by rw [ek], b10⟩
theorem g_fold_max (a : Option Addr) (n cap : Nat) (X : Nat → Nat → Int) (w : World) (hn : n ≤ 1000000) (h : Vcs w a n cap X) :
    Calls Try.prog 58 #[.slice a n cap, .func (.func 59) #[] #[]] w fun e w' => e = .returned (.agg (varr 6 (rv .u64 (foldV mx6 X n)))) ∧ Below w.heap.size w w' := by
  cases n with
  | zero => exact g_fold0_max a cap w
  | succ m => obtain ⟨hc, b, off, rfl, hx⟩ := h (by omega); exact g_foldS_max b off m cap X w hc (by omega) hx
theorem vcs_up {w w' : World} {a : Option Addr} {n cap : Nat} {X : Nat → Nat → Int} (h : Vcs w a n cap X) (hb : Below w.heap.size w w') : Vcs w' a n cap X := fun h0 => by
  obtain ⟨hc, b, off, e, hx⟩ := h h0
  exact ⟨hc, b, off, e, hx.below hb (hx.lt (by omega))⟩
theorem g_join (a : Option Addr) (n cap : Nat) (X : Nat → Nat → Int) (w : World) (hn : n ≤ 1000000) (h : Vcs w a n cap X) :
    Calls Try.prog 20 #[.slice a (n) (cap)] w fun e w' => e = .returned (.agg (varr 6 (rv .u64 (foldV mx6 X n)))) ∧ Below w.heap.size w w' := by
 refine Kent Try.func20 5 ?_
 refine KWsl (Lnw (m := 6) (y := rv .u64 (fun _ => 0)) (by rfl) rfl (by kernel_rfl) rfl fun g1 w1 eg1 m1 s1 z1 => ?_)
 have b1 := KTk1 s1.old (Below.refl w.heap.size w)
 have lg1 := KGk0 eg1
 have tg1 := m1.lt
 refine KLe (KWsl (KLq (.slice a (n) (cap)) (KLc1 (g_fold_max a n cap X _ hn (vcs_up h b1)) _ rfl ?_)))
 intro w2 hb1
 have ⟨m2, b2⟩ := KTk2 hb1 m1 b1
 refine KLsA m2 0 fun w3 m3 s3 z2 => ?_
 have m4 : Blk w3 g1 6 (rv .u64 (foldV mx6 X n)) 25 := ovr_all m3
 have b3 := s3.below b2 b2.size (by omega)
 refine KLe (Wr (⟨.agg (varr 6 (rv .u64 (foldV mx6 X n))), rV Try.results20 ⟨_, rfl, run_loadV m4.cel (by kernel_rfl) (by kernel_rfl)⟩, ?_⟩))
 exact ⟨rfl, b3⟩
end Go.Proofs.Ytkajcjefckjijaa
namespace Go.Proofs.Ytkajcjefckjijaa
namespace Crc
abbrev W32 := BitVec 32
def pat : W32 := 0xedb88320#32
def stp (s : W32) : W32 := (s >>> 1) ^^^ (if s &&& 1#32 = 1#32 then pat else 0#32)
def stpN : Nat → W32 → W32
  | 0, s => s
  | n + 1, s => stp (stpN n s)
def B (c : UInt8) : W32 := BitVec.ofNat 32 c.toNat
def byteStep (s : W32) (c : UInt8) : W32 := stpN 8 (s ^^^ B c)
def more (sum : W32) (l : List UInt8) : W32 := ~~~ (l.foldl byteStep (~~~ sum))
def sum (l : List UInt8) : W32 := more 0#32 l
def rstep (s : W32) (x : W32) : W32 :=
  if (s &&& 1#32) ^^^ x = 1#32 then (s >>> 1) ^^^ pat else s >>> 1
def rbyteN (c : UInt8) : Nat → W32 → W32
  | 0, s => s
  | n + 1, s => rstep (rbyteN c n s) ((B c >>> n) &&& 1#32)
def rbyte (s : W32) (c : UInt8) : W32 := rbyteN c 8 s
def rmore (sum : W32) (l : List UInt8) : W32 := ~~~ (l.foldl rbyte (~~~ sum))
def rsum (l : List UInt8) : W32 := rmore 0#32 l
def I (x : W32) : Int := x.toNat
def J (c : UInt8) : Int := c.toNat
theorem I_lo (x : W32) : 0 ≤ I x := by unfold I; omega
theorem I_hi (x : W32) : I x ≤ 4294967295 := by unfold I; have := x.isLt; omega
theorem J_lo (x : UInt8) : 0 ≤ J x := by unfold J; omega
theorem J_hi (x : UInt8) : J x ≤ 255 := by unfold J; have := x.toNat_lt; omega
theorem I_inj {a b : W32} (h : I a = I b) : a = b := BitVec.eq_of_toNat_eq (by unfold I at h; omega)
theorem J_I (c : UInt8) : J c = I (B c) := by
  unfold I J B; rw [BitVec.toNat_ofNat]; have := c.toNat_lt; omega
theorem bxor (a b : W32) : bits .xor .u32 (I a) (I b) = I (a ^^^ b) := by
  unfold I; rw [u32_xor _ _ (by omega) (by omega) (by omega) (by omega)]; simp
theorem band (a b : W32) : bits .and .u32 (I a) (I b) = I (a &&& b) := by
  unfold I; rw [u32_and _ _ (by omega) (by omega) (by omega) (by omega)]; simp
theorem bnotm (a : W32) : bits .xor .u32 IntKind.u32.max (I a) = I (~~~ a) := by
  have := bxor 0xffffffff#32 a
  exact this.trans (congrArg I (BitVec.allOnes_xor (w := 32)))
theorem signed_u32 : IntKind.u32.signed = false := rfl
theorem bshr (a : W32) : I a / (2 : Int) = I (a >>> 1) := by
  unfold I; simp [Nat.shiftRight_eq_div_pow]
theorem bone (a : W32) : bits .and .u32 (I a) 1 = I (a &&& 1#32) := band a 1#32
theorem bxorb (a : W32) (c : UInt8) : bits .xor .u32 (I a) (J c) = I (a ^^^ B c) := by rw [J_I, bxor]
theorem wrap_I (a : W32) : IntKind.u32.wrap (I a) = I a := by
  rw [IntKind.wrap_u32']; have := I_lo a; have := I_hi a; omega
theorem wrap_J (a : UInt8) : IntKind.u32.wrap (J a) = J a := by
  rw [IntKind.wrap_u32']; have := J_lo a; have := J_hi a; omega
theorem and_one (s : W32) : s &&& 1#32 = 0#32 ∨ s &&& 1#32 = 1#32 := by
  have h : (s &&& 1#32).toNat < 2 := by
    rw [BitVec.toNat_and]; exact Nat.lt_of_le_of_lt Nat.and_le_right (by decide)
  rcases (show (s &&& 1#32).toNat = 0 ∨ (s &&& 1#32).toNat = 1 by omega) with h | h
  · left; exact BitVec.eq_of_toNat_eq (by simpa using h)
  right; exact BitVec.eq_of_toNat_eq (by simpa using h)
theorem stp_mul (s : W32) : IntKind.u32.wrap (3988292384 * I (s &&& 1#32)) = I (if s &&& 1#32 = 1#32 then pat else 0#32) := by
  rcases and_one s with h | h
  · rw [h]; rfl
  rw [h]; rfl
theorem stp_walk (s : W32) : I (s >>> 1 ^^^ (if s &&& 1#32 = 1#32 then pat else 0#32)) = I (stp s) := rfl
theorem bpat (s : W32) : bits .xor .u32 (I s) 3988292384 = I (s ^^^ pat) := bxor s pat
theorem take_succ_foldl {α β : Type} (f : β → α → β) (s : β) (l : List α) (k : Nat) (h : k < l.length) :
    (l.take (k + 1)).foldl f s = f ((l.take k).foldl f s) l[k] := by
  rw [List.take_succ_eq_append_getElem h, List.foldl_append]; rfl
def Rd (w : World) (a : Option Addr) (l : List UInt8) : Prop :=
  ∀ k (h : k < l.length), ∃ b off, a = some ⟨b, off, none⟩ ∧ w.cell? ⟨b, off + k, none⟩ = some (.int .u8 (J l[k]))
theorem rd_at {w : World} {a : Option Addr} {l : List UInt8} (h : Rd w a l) (k : Nat) (hk : k < l.length) :
    ∃ b off, a = some ⟨b, off, none⟩ ∧ w.cell? ⟨b, off + k, none⟩ = some (.int .u8 (J l[k])) := h k hk
theorem more_all (s : W32) (bs : List UInt8) (k : Nat) (h : ¬ k < bs.length) :
    (~~~ ((bs.take k).foldl byteStep (~~~ s))) = more s bs := by
  rw [List.take_of_length_le (by omega)]; rfl
theorem rmore_all (s : W32) (bs : List UInt8) (k : Nat) (h : ¬ k < bs.length) :
    (~~~ ((bs.take k).foldl rbyte (~~~ s))) = rmore s bs := by
  rw [List.take_of_length_le (by omega)]; rfl
theorem rstep_hi (s : W32) (x : W32) (h : (I ((s &&& 1#32) ^^^ x) == 1) = true) : (s >>> 1) ^^^ pat = rstep s x := by
  have h1 : (s &&& 1#32) ^^^ x = 1#32 := I_inj ((by simpa using h : I ((s &&& 1#32) ^^^ x) = 1).trans rfl)
  unfold rstep; rw [if_pos h1]
theorem rstep_lo (s : W32) (x : W32) (h : (I ((s &&& 1#32) ^^^ x) == 1) = false) : s >>> 1 = rstep s x := by
  have h1 : ¬ ((s &&& 1#32) ^^^ x = 1#32) := by
    intro e; rw [e] at h; exact absurd h (by decide)
  unfold rstep; rw [if_neg h1]
theorem bshb (c : UInt8) (m : Nat) : J c / (2 : Int) ^ m % (4294967296 : Int) = I (B c >>> m) := by
  rw [J_I]; unfold I
  rw [BitVec.toNat_ushiftRight, Nat.shiftRight_eq_div_pow]
  have h : ((B c).toNat : Int) / (2 : Int) ^ m = (((B c).toNat / 2 ^ m : Nat) : Int) := by
    rw [Int.natCast_ediv, Int.natCast_pow]; rfl
  rw [h]
  have h2 : (B c).toNat / 2 ^ m < 4294967296 := Nat.lt_of_le_of_lt (Nat.div_le_self _ _) (B c).isLt
  have h3 : (((B c).toNat / 2 ^ m : Nat) : Int) < 4294967296 := Int.ofNat_lt.2 h2
  exact Int.emod_eq_of_lt (Int.natCast_nonneg _) h3
def arr (f : Nat → W32) : Array Value := Array.ofFn (fun i : Fin 32 => .int .u32 (I (f i)))
end Crc
end Go.Proofs.Ytkajcjefckjijaa
namespace Go.Proofs.Ytkajcjefckjijaa
open Go.RowKit Rt
set_option maxHeartbeats 400000 in
theorem sum_any (a : Option Addr) (len cap : Nat) (l : List Int) (w : World) (hlen : len ≤ 100) (hl : Hid (l.length = len)) (hr : RdI .i64 w a l) :
    Calls Try.prog 70 #[.slice a len cap] w fun e w' => e = .returned (.tuple #[.int .i64 (sumI l).1, .bool (sumI l).2]) ∧ w' = w := by
  go_enter Try.func70, Try.ntmps70
  go_wp2
  go_loop [2, 3, 8] (fun v o i => o = .bool false ∧ ∃ k : Nat, k ≤ len ∧ i = .int .i64 k ∧ sumOk (l.take k) = true ∧ v = .int .i64 (l.take k).sum) (fun _ _ i => len - (intOf i).toNat)
  case atStart => exact ⟨rfl, 0, Nat.zero_le _, rfl, rfl, rfl⟩
  case round =>
    obtain ⟨rfl, k, hk, rfl, hok, rfl⟩ := hrel
    by_cases hk2 : k < len
    · have hk3 : k < l.length := by rw [hl.out]; exact hk2
      obtain ⟨b, off, rfl, hc⟩ := hr k hk3
      have hb := sum_bound _ hok
      have hle : (l.take k).length ≤ k := List.length_take_le _ _
      have HS : Hid _ := sum_take_succ l k hk3
      have HO : Hid _ := sumOk_take_succ l k hk3
      have HF : Hid (okN l[k] = false → sumI l = (0, false)) := by intro h; unfold sumI; rw [if_neg (by rw [sumOk_of_take hk3 h]; decide)]
      have Hok : Hid _ := hok
      clear hr hok
      generalize l[k] = x at *
      generalize hs : (l.take k).sum = s at *
      clear hs
      by_cases h0 : x < 0
      · have hn : okN x = false := by unfold okN; simp; omega
        have HR : Hid _ := HF.out hn
        clear HF hn HS HO
        go_wp2
        go_ret2
        rw [HR.out]; exact ⟨rfl, rfl⟩
      · by_cases h1 : 1125899906842624 < x
        · have hn : okN x = false := by unfold okN; simp; omega
          have HR : Hid _ := HF.out hn
          clear HF hn HS HO
          go_wp2
          go_ret2
          rw [HR.out]; exact ⟨rfl, rfl⟩
        · have hy : Hid (okN x = true) := by unfold okN Hid; simp; omega
          clear HF
          go_wp2
          go_round
          case rel => exact ⟨rfl, k + 1, by omega, by go_num, by rw [HO.out, Hok.out, hy.out]; rfl, by rw [HS.out]⟩
          case measure => simp [intOf]; omega
    · have hT : Hid (l.take k = l) := List.take_of_length_le (by rw [hl.out]; omega)
      rw [hT.out] at hok ⊢
      have HR : Hid (sumI l = (l.sum, true)) := by unfold sumI Hid; rw [if_pos hok]
      clear hok
      generalize l.sum = s at *
      go_wp2
      go_ret2
      rw [HR.out]; exact ⟨rfl, rfl⟩
end Go.Proofs.Ytkajcjefckjijaa
namespace Go.Proofs.Ytkajcjefckjijaa
open Go.RowKit Rt
def Two (w0 w : World) (g1 c1 : Nat) (l1 : List Int) (g2 c2 : Nat) (l2 : List Int) : Prop :=
  w.ownsRow w0.heap.size 2 1 (.slice (some ⟨g1, 0, none⟩) l1.length c1) l1.length (l1.map (Value.int .i64)) ∧
  w.ownsRow w0.heap.size 2 1 (.slice (some ⟨g2, 0, none⟩) l2.length c2) l2.length (l2.map (Value.int .i64)) ∧ g1 ≠ g2 ∧ Below w0.heap.size w0 w
theorem Two.alloc {w0 w : World} {g1 c1 : Nat} {l1 : List Int} {g2 c2 : Nat} {l2 : List Int} (h : Two w0 w g1 c1 l1 g2 c2 l2) (o : Obj) : Two w0 (w.alloc o) g1 c1 l1 g2 c2 l2 :=
  ⟨World.ownsRow.alloc h.1 o, World.ownsRow.alloc h.2.1 o, h.2.2.1, h.2.2.2.alloc h.2.2.2.size o⟩
theorem Two.drew {w0 w : World} {g1 c1 : Nat} {l1 : List Int} {g2 c2 : Nat} {l2 : List Int} (h : Two w0 w g1 c1 l1 g2 c2 l2) : Two w0 w.drew g1 c1 l1 g2 c2 l2 :=
  ⟨h.1, h.2.1, h.2.2.1, h.2.2.2.drew⟩
theorem Two.swap {w0 w : World} {g1 c1 : Nat} {l1 : List Int} {g2 c2 : Nat} {l2 : List Int} (h : Two w0 w g1 c1 l1 g2 c2 l2) : Two w0 w g2 c2 l2 g1 c1 l1 := ⟨h.2.1, h.1, h.2.2.1.symm, h.2.2.2⟩
theorem infoI64 : (Try.prog.info? 2).map (fun i => (i.zero, i.size, i.bytes)) = some (some (.int .i64 0), 1, 8) := by kernel_rfl
theorem step_two {ops : Array Oper} {o : Oper} {a : Act} {w0 w : World} {K : Act → World → Prop} {Q : Exit → Act → World → Prop} {E : Prop} (hgd : o.guard = none) (s x : Operand)
    (ho : o.op = .call { callee := .builtin .append, args := #[s, x], argTypes := #[73, 73] }) (g1 c1 : Nat) (l1 : List Int) (g2 c2 : Nat) (l2 : List Int) (h : Two w0 w g1 c1 l1 g2 c2 l2)
    (n : Nat) (hn : l1.length = n) (hs : a.eval s = .slice (some ⟨g1, 0, none⟩) n c1) (ad : Nat) (v : Int) (hx : a.eval x = .slice (some ⟨ad, 0, none⟩) 1 1) (hc : w.cell? ⟨ad, 0, none⟩ = some (.int .i64 v)) (hle : n ≤ 100)
    (hK : ∀ g cap w', Two w0 w' g cap (l1 ++ [v]) g2 c2 l2 → (∀ a u, w.cell? a = some u → a.block ≠ g1 → w'.cell? a = some u) → K (a.put o.dst (.slice (some ⟨g, 0, none⟩) (n + 1) cap)) w') :
    if Region.wanted o (yielded ops a.tmps) = true then Oper.wp Try.prog o a w K Q else E := by
  obtain ⟨i0, hi, hz0, hz1, hz2⟩ := info_parts infoI64
  subst hn
  refine step_append_lies w hgd s x 73 ho w0.heap.size 2 i0 (.int .i64 0) 1 8 Try.underlying73 hi hz0 hz1 hz2 rfl (by decide) _ l1.length (l1.map (Value.int .i64)) hs h.1 ⟨ad, 0, none⟩ 1 1 [.int .i64 v] hx rfl
    (by intro j u hu; cases j with
      | zero => simp at hu; subst hu; rw [addr_add]; exact hc
      | succ j => simp at hu) (by intro u hu; simp at hu; subst hu; rfl) (by decide) (by unfold maxLen; omega) (by omega) h.2.2.2.size w.heap.size rfl ?_
  intro g cap w' h1 h2 h3 h4
  refine hK g cap w' ⟨?_, ?_, ?_, ?_⟩ (fun a u hu hne => h2.cell hu (by simp [Value.ownBlock]; exact hne))
  · rw [List.length_append, List.map_append]; exact h1
  · exact World.ownsRow.kept h.2.1 h2 (.inr (by simp [Value.ownBlock]; exact fun e => h.2.2.1 e.symm))
  · have hlt := World.ownsRow.lt h.2.1 g2 rfl
    rcases h3 with h3 | h3
    · simp [Value.ownBlock] at h3; subst h3; exact h.2.2.1
    omega
  exact h.2.2.2.grown h2 h.2.2.2.size (fun k hk => (World.ownsRow.lt h.1 k hk).1)
theorem Two.rd1 {w0 w : World} {g1 c1 : Nat} {l1 : List Int} {g2 c2 : Nat} {l2 : List Int} (h : Two w0 w g1 c1 l1 g2 c2 l2) : RdI .i64 w (some ⟨g1, 0, none⟩) l1 := by
  intro i hi
  refine ⟨g1, 0, rfl, ?_⟩
  rw [Nat.zero_add, World.ownsRow.cellAt h.1 i (by omega)]
  simp [hi]
theorem Two.start (w : World) (v a b : Int) : Two w ((w.alloc (.cells #[.int .i64 v] 2)).alloc (.cells #[.int .i64 a, .int .i64 b] 2)) w.heap.size 1 [v] (w.heap.size + 1) 2 [a, b] := by
  refine ⟨World.ownsRow.alloc (World.ownsRow_lit w #[.int .i64 v] 1 (Nat.le_refl _) (by unfold maxLen; omega) rfl) _, ?_, by omega, ((Below.refl _ _).alloc (Nat.le_refl _) _).alloc (by simp) _⟩
  have := World.ownsRow_lit (base := w.heap.size) (e := 2) (size := 1) (w.alloc (.cells #[.int .i64 v] 2)) #[.int .i64 a, .int .i64 b] 2 (by simp) (by unfold maxLen; omega) rfl
  simpa using this
theorem Two.start2 (w : World) (v a b : Int) : Two w ((w.alloc (.cells #[.int .i64 a, .int .i64 b] 2)).alloc (.cells #[.int .i64 v] 2)) (w.heap.size + 1) 1 [v] w.heap.size 2 [a, b] := by
  refine ⟨?_, World.ownsRow.alloc (World.ownsRow_lit w #[.int .i64 a, .int .i64 b] 2 (Nat.le_refl _) (by unfold maxLen; omega) rfl) _, by omega, ((Below.refl _ _).alloc (Nat.le_refl _) _).alloc (by simp) _⟩
  have := World.ownsRow_lit (base := w.heap.size) (e := 2) (size := 1) (w.alloc (.cells #[.int .i64 a, .int .i64 b] 2)) #[.int .i64 v] 1 (by simp) (by unfold maxLen; omega) rfl
  simpa using this
theorem Two.at {w0 w : World} {g1 c1 : Nat} {l1 : List Int} {g2 c2 : Nat} {l2 : List Int} (h : Two w0 w g1 c1 l1 g2 c2 l2) {b : Nat} {x : Nat → Int} {T : TypeId} {fz : Nat × Nat} (hb : w0.heap[b]? = some (.cells (iarr .i64 54 x) T fz)) (i : Nat) (hi : i < 54) :
    w.cell? ⟨b, i, none⟩ = some (.int .i64 (x i)) :=
  iarr_cell ((h.2.2.2.block b (Array.getElem?_eq_some_iff.1 hb).1).trans hb) i hi
theorem Two.lt {w0 w : World} {g1 c1 : Nat} {l1 : List Int} {g2 c2 : Nat} {l2 : List Int} (h : Two w0 w g1 c1 l1 g2 c2 l2) {b : Nat} (hb : b < w0.heap.size) : b < w.heap.size := Nat.lt_of_lt_of_le hb h.2.2.2.size
theorem outs_len (x : Nat → Int) (k : Nat) : ∀ j, (outs x k j).length = j + 1
  | 0 => rfl
  | j + 1 => by rw [outs, List.length_append, outs_len x k j]; rfl
theorem ins_len (x : Nat → Int) (k : Nat) : ∀ j, (ins x k j).length = j + 2
  | 0 => rfl
  | j + 1 => by rw [ins, List.length_append, ins_len x k j]; rfl
def LRel (w : World) (x : Nat → Int) (k j : Nat) (s6 s7 : Value) (wx : World) : Prop :=
  ∃ g1 c1 g2 c2, s6 = .slice (some ⟨g1, 0, none⟩) (j + 1) c1 ∧ s7 = .slice (some ⟨g2, 0, none⟩) (j + 2) c2 ∧ Two w wx g1 c1 (outs x k j) g2 c2 (ins x k j)
set_option maxHeartbeats 4000000 in
theorem local_any (b : Nat) (T : TypeId) (fz : Nat × Nat) (x : Nat → Int) (k : Nat) (w : World) (hk : k < 6) (hb : Hid (w.heap[b]? = some (.cells (iarr .i64 54 x) T fz))) :
    Calls Try.prog 69 #[.pointer (some ⟨b, 0, none⟩), .int .i64 k] w fun e w' => e = .returned (.tuple #[.int .i64 (localM x k).1, .bool (localM x k).2]) ∧ Below w.heap.size w w' := by
  have hlt : b < w.heap.size := (Array.getElem?_eq_some_iff.1 hb.out).1
  have hki : (k : Int) < 6 := by omega
  go_enter Try.func69, Try.ntmps69
  go_upto_region 1 with (fail)
  go_cut [6, 7] (fun s6 s7 wx => LRel w x k 0 s6 s7 wx)
  case first =>
    have c1 := iarr_cell hb.out (6 + k) (by omega)
    have c2 := iarr_cell hb.out k (by omega)
    have c3 := iarr_cell hb.out (12 + k) (by omega)
    go_wp2
    go_region
    all_goals go_wp2
    all_goals go_meet
    case rel => exact ⟨_, _, _, _, rfl, rfl, (Two.start w (x (6 + k)) (x k) (x (12 + k))).drew⟩
    case rel => exact ⟨_, _, _, _, rfl, rfl, (Two.start2 w (x (6 + k)) (x k) (x (12 + k))).drew⟩
  case rest =>
    clear hlt
    go_wp2
    go_loopw [6, 7, 33] (fun s6 s7 i wx => ∃ j : Nat, j ≤ 6 ∧ i = .int .i64 j ∧ LRel w x k j s6 s7 wx) (fun _ _ i _ => 6 - (intOf i).toNat)
    case atStart => exact ⟨0, Nat.zero_le _, rfl, hcut⟩
    case round =>
      obtain ⟨j, hj, rfl, g1, c1, g2, c2, rfl, rfl, hT⟩ := hrel
      by_cases hj2 : j < 6
      · have hji : (j : Int) < 6 := by omega
        have hlt : b < w.heap.size := (Array.getElem?_eq_some_iff.1 hb.out).1
        have hrow : wr.heap[b]? = some (.cells (iarr .i64 54 x) T fz) := (hT.2.2.2.block b hlt).trans hb.out
        have e1 := iarr_cell hrow (18 + k * 6 + j) (by omega)
        have e2 := iarr_cell hrow (18 + j * 6 + k) (by omega)
        have hlt2 : b < wr.heap.size := (Array.getElem?_eq_some_iff.1 hrow).1
        have Hrow : Hid _ := hrow
        have hg1 : g1 < wr.heap.size := (World.ownsRow.lt hT.1 g1 rfl).2
        have hg2 : g2 < wr.heap.size := (World.ownsRow.lt hT.2.1 g2 rfl).2
        clear hrow
        have HO : Hid ((outs x k j).length = j + 1) := outs_len x k j
        have HI : Hid ((ins x k j).length = j + 2) := ins_len x k j
        go_wp2
        go_region_law (first
          | (refine step_two (o := ⟨some 46, _, _, _, _, _⟩) (by rfl) (.tmp 36) (.tmp 45) (by rfl) g1 c1 (outs x k j) _ _ _ (by first | assumption | exact Two.alloc (by assumption) _ | exact Two.alloc (Two.alloc (by assumption) _) _ | exact hT.drew.alloc _ | exact (hT.drew.alloc _).alloc _) (j + 1) HO.out (by rfl) _ (x (18 + k * 6 + j)) (by rfl) (by first | (go_simp; done) | exact hkp _ _ (by go_simp; done) (by simp; omega)) (by omega) ?_; intro g cp w1 hT1 hkp; have e1' := hT1.at hb.out (18 + k * 6 + j) (by omega); have e2' := hT1.at hb.out (18 + j * 6 + k) (by omega); have hlt' := hT1.lt hlt)
          | (refine step_two (o := ⟨some 57, _, _, _, _, _⟩) (by rfl) (.tmp 47) (.tmp 56) (by rfl) g2 c2 (ins x k j) _ _ _ (by first | exact Two.swap (by assumption) | exact (Two.alloc (by assumption) _).swap | exact (Two.alloc (Two.alloc (by assumption) _) _).swap | exact (hT.drew.alloc _).swap | exact ((hT.drew.alloc _).alloc _).swap) (j + 2) HI.out (by rfl) _ (x (18 + j * 6 + k)) (by rfl) (by first | (go_simp; done) | exact hkp _ _ (by go_simp; done) (by simp; omega)) (by omega) ?_; intro g cp w1 hT1 hkp; have e1' := hT1.at hb.out (18 + k * 6 + j) (by omega); have e2' := hT1.at hb.out (18 + j * 6 + k) (by omega); have hlt' := hT1.lt hlt))
        all_goals go_wp2
        all_goals go_roundw
        all_goals first
          | (simp [intOf]; omega)
          | exact ⟨j + 1, by omega, by go_num, _, _, _, _, rfl, rfl, hT1.swap⟩
      · obtain rfl : j = 6 := by omega
        have r1 := hT.rd1
        have r2 := hT.swap.rd1
        have hbel := hT.2.2.2
        have HO : Hid ((outs x k 6).length = 7) := outs_len x k 6
        have HI : Hid ((ins x k 6).length = 8) := ins_len x k 6
        have b1 := sumI_bound (outs x k 6)
        have b2 := sumI_bound (ins x k 6)
        rw [HO.out] at b1
        rw [HI.out] at b2
        have HL : Hid (localM x k = ((sumI (ins x k 6)).1 - (sumI (outs x k 6)).1, (sumI (outs x k 6)).2 && (sumI (ins x k 6)).2)) := rfl
        generalize outs x k 6 = lo at *
        generalize ins x k 6 = li at *
        clear hT
        go_wp2_with fail
        refine (sum_any _ 7 c1 lo _ (by omega) HO r1).mono ?_
        rintro e w1 ⟨rfl, rfl⟩
        go_wp2_with fail
        refine (sum_any _ 8 c2 li _ (by omega) HI r2).mono ?_
        rintro e w2 ⟨rfl, rfl⟩
        generalize (sumI li).1 = n2 at *
        generalize (sumI lo).1 = n1 at *
        generalize (sumI li).2 = o2 at *
        generalize (sumI lo).2 = o1 at *
        cases o1
        all_goals
          go_wp2_with fail
          go_ret2
          rw [HL.out]; exact ⟨rfl, hbel⟩
end Go.Proofs.Ytkajcjefckjijaa
