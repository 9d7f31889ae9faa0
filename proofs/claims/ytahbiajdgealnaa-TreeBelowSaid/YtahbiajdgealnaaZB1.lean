/-
  What the proof of the law rests on, part 1: walks of functions, and plain laws; each says its conditions itself.
-/
import Derived.Test.YtahbiajdgealnaaRows
import Derived.RangeFuncNested
import Derived.RangeFuncBound
import Derived.RangeFuncCalls
import Derived.RangeFuncLeaves
import Derived.RangeFuncFrom
import Derived.WalkKit
import Derived.WalkSpells
import Derived.Laws.AppendOwnNone
import Derived.Deep.QuietTactic
import Derived.BigQuiet
import Derived.RegionTactic
import Derived.Deep.RegionWith
import Derived.Deep.RegionLaw
import Derived.Deep.AppendLies
import Derived.Deep.Cut
import Derived.Deep.OwnRows
import Derived.StillTailTactics
import Derived.Deep.RegionHeld3
import Derived.Deep.MidRow
import Derived.StillTail
import Derived.DeepKeys
import Derived.MapKept
import Derived.Maps.RangeRun
namespace Go.Proofs.Ytahbiajdgealnaa
open Go.RowKit Go
set_option linter.unusedVariables false
namespace Rgq
def AbidesQ {β : Type} (q : Nat) (J : β → World → Prop) : Prop := ∀ s W W' row, J s W → W.grownBy W' row → (∀ r, row = some r → r = q) → J s W'
def SeqQ {α : Type} (F : Fence) (n : Nat) (P : Program) (g : Nat) (lb : Array Value) (encs : α → Array Value) (Kp : World → World → Prop) (S : List α → Prop) (N q : Nat) (Ip : World → Prop) : Prop :=
  ∀ (l : Nat) (J : List α → World → Prop) (W : World), Ip W → AbidesQ q J →
    (∀ pre x W1, J pre W1 → pre.length < N → YieldAt F (n - 1) P l (encs x) W1 fun e W' => e = .returned (.bool true) ∧ J (pre ++ [x]) W' ∧ Kp W1 W') →
    J [] W →
    CallsIn F n P g (#[.func (.yield l) #[] #[]] ++ lb) W fun e W' => (∃ v, e = .returned v) ∧ ∃ xs, S xs ∧ J xs W'
def OwnQ {β : Type} (q B : Nat) (I : β → World → Prop) : Prop :=
  ∀ s W W' row, I s W → W.grownBy W' row → (∀ r, row = some r → r = q ∨ (B ≤ r ∧ ∃ o : Obj, W.heap[r]? = some o ∧ o.isCells = false)) → I s W'
variable {F : Fence} {n : Nat} {P : Program}
theorem OwnQ.putObj {β : Type} {q B : Nat} {I : β → World → Prop} (h : OwnQ q B I) {s : β} {W : World} {l : Nat} {o : Obj} (o' : Obj) (hs : I s W) (hB : B ≤ l) (hl : W.heap[l]? = some o) (ho : o.isCells = false) : I s (W.putObj l o') :=
  h s W _ (some l) hs (grownBy_putObj' W l o') (fun r e => by cases e; exact .inr ⟨hB, o, hl, ho⟩)
theorem OwnQ.alloc {β : Type} {q B : Nat} {I : β → World → Prop} (h : OwnQ q B I) {s : β} {W : World} (o : Obj) (hs : I s W) : I s (W.alloc o) :=
  h s W _ none hs (World.grownBy_alloc W o none) (fun r e => by cases e)
def postQ {α : Type} (Kp : World → World → Prop) (I : List α → World → Prop) (xs : List α) (W : World) : Exit → Act → World → Prop
  | .normal, _, W' => KeepsOthers W W' ∧ Kp W W' ∧ I xs W'
  | _, _, _ => False
theorem grownBy_q {W W' : World} {q : Nat} {row : Option Nat} (hg : W.grownBy W' row) (hrow : ∀ r, row = some r → r = q) {k : Nat} {o : Obj} (hk : W.heap[k]? = some o) (hq : k ≠ q) : W'.heap[k]? = W.heap[k]? :=
  hg.block k (Array.getElem?_eq_some_iff.1 hk).1 fun e => hq (hrow k e.symm)
theorem wpIn_rangeFuncQ {α : Type} {g : Operand} {ps : Array Tmp} {assign body : Code} {Q : Exit → Act → World → Prop} {a : Act} {w : World}
    (hro : F.round = none) (h1 : 1 ≤ n) {gf : Nat} {lb : Array Value} (hg : a.eval g = .func (.func gf) #[] lb) (hFg : F.fn gf) (eg : ∀ args w, (callFunc gf args).run P w = .ok (.enter gf args) w)
    {encs : α → Array Value} {Kp : World → World → Prop} {S : List α → Prop} {N q : Nat} {Ip : World → Prop} (hseq : SeqQ F (n - 1) P gf lb encs Kp S N q Ip) (hq : q < w.heap.size)
    (hIp : Ip w) (hIpa : ∀ W o, w.heap.size ≤ W.heap.size → Ip W → Ip (W.alloc o))
    (hKt : ∀ {A B C : World}, Kp A B → Kp B C → Kp A C) (hKb : ∀ (W : World) (l : Nat) (o o' : Obj), w.heap.size ≤ l → W.heap[l]? = some o → o.isCells = false → o.isWalk = false → Kp W (W.putObj l o')) (hps : ∀ x, (encs x).size = ps.size)
    (I : List α → World → Prop) (hI : OwnQ q w.heap.size I) (h0 : I [] w) (A₁ : α → Act → Prop)
    (hassign : ∀ (l : Nat) (x : α) (W : World), assign.wpIn (F.inRound l) (n - 1 - 1) P (Exit.then (fun a' W' => A₁ x a' ∧ W' = W) (fun _ _ _ => False)) { tmps := (ps.zip (encs x)).foldl (fun t (p, v) => t.setIfInBounds p v) a.tmps, defers := [] } W)
    (hbody : ∀ (l : Nat) (pre : List α) (x : α) (W : World) (a' : Act), A₁ x a' → I pre W → pre.length < N → body.wpIn (F.inRound l) (n - 1 - 1) P (postQ Kp I (pre ++ [x]) W) a' W)
    (hdone : ∀ (D : Nat) (xs : List α) (W : World), w.heap.size ≤ D → S xs → I xs W → W.heap[D]? = some (.deferred (some [])) → Q .normal { a with defers := { target := .collected D, args := #[] } :: a.defers } W) :
    (Code.rangeFunc g ps assign body).wpIn F n P Q a w := by
  refine wpIn_rangeFunc ?_
  intro fn hfn
  rw [hro]
  obtain ⟨rec, hrec⟩ : ∃ rec : LoopState → Option Code → Loop, rec = fun st pe => { state := st, pending := pe, fn, tmps := a.tmps, params := ps, assign, body, defers := w.heap.size } := ⟨_, rfl⟩
  obtain ⟨W1, hW1⟩ : ∃ W1, (w.alloc (.deferred (some []))).alloc (.loop (rec .ready none)) = W1 := ⟨_, rfl⟩
  have hL1 : W1.heap[w.heap.size + 1]? = some (.loop (rec .ready none)) := by
    rw [← hW1]; have := World.alloc_heap_new (w.alloc (.deferred (some []))) (.loop (rec .ready none)); rwa [World.size_alloc] at this
  have hK1 : W1.heap[w.heap.size]? = some (.deferred (some [])) := by
    rw [← hW1]; exact (Below.heap_alloc _ _ _ (by simp)).trans (World.alloc_heap_new w _)
  have hI1 : I [] W1 := by rw [← hW1]; exact hI.alloc _ (hI.alloc _ h0)
  have hp1 : Ip W1 := by rw [← hW1]; exact hIpa _ _ (by simp) (hIpa _ _ (Nat.le_refl _) hIp)
  refine ⟨w.heap.size + 1, [{ target := .collected w.heap.size, args := #[] }], W1, { target := .fn (.func gf) lb, args := #[.func (.yield (w.heap.size + 1)) #[] #[]] }, W1, gf,
    #[.func (.yield (w.heap.size + 1)) #[] #[]] ++ lb, W1, ?_, ?_, ?_, ?_, fun _ => h1, ?_⟩
  · rw [← hW1, hrec]; exact run_enterLoop_outer _ _ _ _ _
  · simp only [resolve, hg]
    simp [go_sem]
  · intro f' hf'; simp [Target.leads] at hf'; subst hf'; exact hFg
  · simp [invoke, go_sem, eg]
  refine (hseq (w.heap.size + 1)
    (fun pre W => I pre W ∧ W.heap[w.heap.size + 1]? = some (.loop (rec .ready none)) ∧ W.heap[w.heap.size]? = some (.deferred (some [])))
    W1 hp1
    (fun s A B row hs hg' hr => ⟨hI s A B row hs.1 hg' (fun r e => .inl (hr r e)), (grownBy_q hg' hr hs.2.1 (by omega)).trans hs.2.1, (grownBy_q hg' hr hs.2.2 (by omega)).trans hs.2.2⟩)
    ?_ ⟨hI1, hL1, hK1⟩).mono ?_
  · -- one round
    rintro pre x W ⟨hi, hl, hk⟩ hlen
    have hlt : w.heap.size + 1 < W.heap.size := (Array.getElem?_eq_some_iff.1 hl).1
    have hy := run_yield (P := P) (args := encs x) hl (by rw [hrec]; exact hps x)
    rw [hrec] at hy
    refine ⟨fn, _, assign, body, hy, roundIn_of_wpIn hfn (wpIn_mono (hassign _ x W) ?_)⟩
    rintro e1 a1 w1 hq1
    cases e1 with
    | exit id => exact hq1.elim
    | goto t => exact hq1.elim
    | ret => exact hq1.elim
    | panic ch => exact hq1.elim
    | outgrown => exact hq1.elim
    | normal =>
    obtain ⟨hA1, ew⟩ := hq1
    rw [ew]
    refine ⟨_, run_beginRound hl (by rw [hrec]), ?_⟩
    have hl2 : (W.putObj (w.heap.size + 1) (.loop { rec .ready none with state := .busy })).heap[w.heap.size + 1]? = some (.loop { rec .ready none with state := .busy }) := World.putObj_heap_same hlt
    have hk2 : (W.putObj (w.heap.size + 1) (.loop { rec .ready none with state := .busy })).heap[w.heap.size]? = some (.deferred (some [])) := (World.putObj_heap_other (by omega)).trans hk
    have hw2 : Kp W (W.putObj (w.heap.size + 1) (.loop { rec .ready none with state := .busy })) := hKb _ _ _ _ (by omega) hl rfl rfl
    refine wpIn_mono (hbody _ pre x _ a1 hA1 (hI.putObj _ hi (by omega) hl rfl) hlen) ?_
    rintro e a3 W3 hp
    cases e with
    | normal =>
      obtain ⟨hk3, hkp3, hi3⟩ := hp
      have hl3 := hk3.same _ _ hl2 rfl
      have hr := run_endRound (P := P) none hl3
      rw [hrec] at hr hl3
      refine ⟨_, _, hr, rfl, ⟨hI.putObj _ hi3 (by omega) hl3 rfl, ?_, (World.putObj_heap_other (by omega)).trans (hk3.same _ _ hk2 rfl)⟩, hKt (hKt hw2 hkp3) (hKb _ _ _ _ (by omega) hl3 rfl rfl)⟩
      rw [hrec]; exact World.putObj_heap_same (Array.getElem?_eq_some_iff.1 hl3).1
    | ret => exact hp.elim
    | exit id => exact hp.elim
    | goto t => exact hp.elim
    | panic ch => exact hp.elim
    | outgrown => exact hp.elim
  rintro e W2 ⟨⟨v, rfl⟩, xs, hS, hi, hl, hk⟩
  exact ⟨none, _, by have := run_endLoop (P := P) hl (by rw [hrec]; simp); rw [hrec] at this; exact this, hdone _ xs _ (Nat.le_refl _) hS (hI.putObj _ hi (by omega) hl rfl) ((World.putObj_heap_other (by omega)).trans hk)⟩
end Rgq
end Go.Proofs.Ytahbiajdgealnaa
namespace Go.Proofs.Ytahbiajdgealnaa
open Go.RowKit
theorem addr_add (b off j : Nat) : (⟨b, off, none⟩ : Addr).add j = ⟨b, off + j, none⟩ := by unfold Addr.add; split <;> simp_all
theorem bch {w w1 w2 : World} (h : Below w.heap.size w w1) (h2 : Below w1.heap.size w1 w2) : Below w.heap.size w w2 := h.trans (h2.mono h.size)
theorem bdrN (w : World) (n : Nat) : Below w.heap.size w (w.drewN n) := ⟨rfl, rfl, rfl, Nat.le_refl _, fun _ _ => rfl⟩
theorem run_enter {P : Program} {f : FuncId} {fn : Func} {c : Code} (hf : P.funcs[f]? = some fn) (hname : (fn.name == "runtime.NumGoroutine") = false) (hb : fn.body = some c) (args : Array Value) (w : World) :
    (callFunc f args).run P w = .ok (.enter f args) w := by
  have hn : ¬ fn.name = "runtime.NumGoroutine" := by simpa using hname
  unfold callFunc
  simp [Sem.run_bind, hf, hn, hb]
theorem alloc_at (w : World) (o : Obj) (k : Nat) : (w.alloc o).heap[k]? = if k = w.heap.size then some o else w.heap[k]? := by
  show (w.heap.push o)[k]? = _
  rw [Array.getElem?_push]
theorem run_storeVar_one {P : Program} (w : World) (g o : Nat) (ty : TypeId) (v old : Value) (hi : (P.info? ty).map (·.size) = some 1) (h1 : v.oneCell' = true) (hc : w.cell? ⟨g, o, none⟩ = some old) (hf : w.frozen? ⟨g, o, none⟩ = false) :
    (storeVar ty ⟨g, o, none⟩ v).run P w = .ok () (w.setCell ⟨g, o, none⟩ v) := by
  have hv : v.cells = #[v] := by cases v <;> first | rfl | (simp [Value.oneCell'] at h1)
  have := run_storeCells_cells (P := P) g o [v] 0 w (fun j hj => by simp at hj; subst hj; simp [hc]) (fun j hj => by simp at hj; subst hj; simpa using hf) (fun u hu => by simp at hu; subst hu; exact h1)
  cases hq : P.info? ty with
  | none => simp [hq] at hi
  | some i =>
    have hs : i.size = 1 := by simp [hq] at hi; omega
    simp only [Nat.add_zero] at this
    simp [storeVar, sizeOf, typeInfo, hq, hv, hs, this, World.setCells]
end Go.Proofs.Ytahbiajdgealnaa
namespace Go.Proofs.Ytahbiajdgealnaa
open Go.RowKit
namespace Fx
def put (f : Nat → Value) (d : Option Nat) (v : Value) : Nat → Value :=
  match d with
  | none => f
  | some d => fun i => bif Nat.beq i d then v else f i
def ev (f : Nat → Value) : Operand → Value
  | .tmp t => f t
  | .const v => v
  | .global g => .pointer (some ⟨g, 0, none⟩)
  | .func g => .func (.func g) #[] #[]
structure Fr (a : Act) (n : Nat) (f : Nat → Value) : Prop where
  size : a.tmps.size = n
  defers : a.defers = []
  get : ∀ i, a.tmps.getD i undef = f i
def inn (n : Nat) (d : Option Nat) : Bool := match d with | none => true | some d => Nat.blt d n
theorem Fr.ev {a : Act} {n : Nat} {f : Nat → Value} (h : Fr a n f) : a.eval = Fx.ev f := by
  funext x
  cases x <;> simp only [Act.eval, Fx.ev]
  exact h.get _
theorem Fr.put {a : Act} {n : Nat} {f : Nat → Value} (h : Fr a n f) {d : Option Nat} (hd : inn n d = true) (v : Value) : Fr (a.put d v) n (Fx.put f d v) := by
  cases d with
  | none => exact h
  | some d =>
    have hd' : d < n := by simpa [inn, Nat.blt_eq] using hd
    refine ⟨by simp [Act.put, h.size], h.defers, fun i => ?_⟩
    have hi := h.get i
    simp only [Act.put, Fx.put, Array.getD_eq_getD_getElem?, Array.getElem?_setIfInBounds] at hi ⊢
    by_cases e : d = i
    · subst e; simp [h.size, hd']
    · have e' : Nat.beq i d = false := by
        cases hq : Nat.beq i d
        · rfl
        · exact absurd (Nat.eq_of_beq_eq_true hq).symm e
      simp [e, e', hi]
def yf (ops : Array Oper) (f : Nat → Value) (j : Nat) : Option Bool :=
  match (ops[j]?).bind (·.dst) with
  | some d => (match f d with | .bool b => some b | _ => none)
  | none => none
theorem Fr.yf {a : Act} {n : Nat} {f : Nat → Value} (h : Fr a n f) (ops : Array Oper) : yielded ops a.tmps = Fx.yf ops f := by
  funext j
  unfold yielded Fx.yf
  cases hd : (ops[j]?).bind (·.dst) with
  | none => rfl
  | some d =>
    simp only [Option.bind_some]
    have hi := h.get d
    rw [Array.getD_eq_getD_getElem?] at hi
    cases hq : a.tmps[d]? with
    | none =>
      rw [hq] at hi
      rw [← hi]
      rfl
    | some v => rw [hq] at hi; rw [← hi]; cases v <;> rfl
abbrev Post := Exit → (Nat → Value) → World → Prop
def lift (n : Nat) (Q : Post) : Exit → Act → World → Prop := fun e a w => ∃ f, Fr a n f ∧ Q e f w
def W (P : Program) (n : Nat) (c : Code) (Q : Post) (f : Nat → Value) (w : World) : Prop := ∀ a, Fr a n f → Code.wp P c (lift n Q) a w
def seqK (P : Program) (n : Nat) (y : Code) (Q : Post) : Post := fun e f w => match e with | .normal => W P n y Q f w | e => Q e f w
def blockK (id : Nat) (Q : Post) : Post := fun e f w => match e with | .exit id' => if id' = id then Q .normal f w else Q (.exit id') f w | e => Q e f w
def loopK (I : (Nat → Value) → World → Prop) (m : (Nat → Value) → World → Nat) (k : Nat) (Q : Post) : Post := fun e f w => match e with | .normal => I f w ∧ m f w < k | e => Q e f w
section
variable {P : Program} {n : Nat} {Q : Post} {f : Nat → Value} {w : World}
theorem Ws {x y : Code} (h : W P n x (seqK P n y Q) f w) : W P n (.seq x y) Q f w := fun a ha =>
  wp_seq (Code.wp_mono (fun e a' w' hq => by
    obtain ⟨f', hf', hq⟩ := hq
    cases e <;> first | exact hq a' hf' | exact ⟨f', hf', hq⟩) (h a ha))
theorem Wk (h : Q .normal f w) : W P n .skip Q f w := fun _ ha => wp_skip ⟨f, ha, h⟩
theorem Wr (h : Q .ret f w) : W P n .ret Q f w := fun _ ha => wp_ret ⟨f, ha, h⟩
theorem W.exit {id : Nat} (h : Q (.exit id) f w) : W P n (.exit id) Q f w := fun _ ha => wp_exit ⟨f, ha, h⟩
theorem W.block {id : Nat} {c : Code} (h : W P n c (blockK id Q) f w) : W P n (.block id c) Q f w := fun a ha =>
  wp_block (Code.wp_mono (fun e a' w' hq => by
    obtain ⟨f', hf', hq⟩ := hq
    cases e <;> first
      | exact ⟨f', hf', hq⟩
      | (simp only [blockK] at hq; simp only [Exit.inBlock]; split at hq <;> rename_i hid <;> simp only [hid, if_true, if_false] <;> exact ⟨f', hf', hq⟩)) (h a ha))
theorem Wc {c : Operand} {x y : Code} {b : Bool} (hc : ev f c = .bool b) (ht : b = true → W P n x Q f w) (hf : b = false → W P n y Q f w) : W P n (.cond c x y) Q f w := fun a ha =>
  wp_cond_split (t := b) (by rw [ha.ev]; exact hc) (fun e => ht e a ha) (fun e => hf e a ha)
theorem W.loop {c : Code} (I : (Nat → Value) → World → Prop) (m : (Nat → Value) → World → Nat) (h0 : I f w) (hr : ∀ f w, I f w → W P n c (loopK I m (m f w) Q) f w) : W P n (.loop c) Q f w := fun a ha =>
  wp_loop (fun a w => ∃ f, Fr a n f ∧ I f w) (fun a w => m (fun i => a.tmps.getD i undef) w) ⟨f, ha, h0⟩ (fun a w hI => by
    obtain ⟨f, hf, hI⟩ := hI
    have e : (fun i => a.tmps.getD i undef) = f := funext hf.get
    refine Code.wp_mono (fun e' a' w' hq => ?_) (hr f w hI a hf)
    obtain ⟨f', hf', hq⟩ := hq
    cases e' <;> first
      | exact ⟨f', hf', hq⟩
      | (have e'' : (fun i => a'.tmps.getD i undef) = f' := funext hf'.get
         exact ⟨⟨f', hf', hq.1⟩, by rw [e, e'']; exact hq.2⟩))
theorem W.mono {c : Code} {Q' : Post} (h : W P n c Q f w) (hq : ∀ e f w, Q e f w → Q' e f w) : W P n c Q' f w := fun a ha =>
  Code.wp_mono (fun _ _ _ ⟨f', hf', q⟩ => ⟨f', hf', hq _ _ _ q⟩) (h a ha)
def Out (P : Program) (f : Nat → Value) (o : Oper) (w : World) (K : Value → World → Prop) : Prop :=
  (∃ v w', (execOp (ev f) o).run P w = .ok (.value v) w' ∧ K v w') ∨ (∃ w', (execOp (ev f) o).run P w = .ok .skip w' ∧ K undef w') ∨
  ∃ g args, (execOp (ev f) o).run P w = .ok (.enter g args) w ∧ Calls P g args w fun e w' => ∃ v, e = .returned v ∧ K v w'
def L (P : Program) (n : Nat) (ops : Array Oper) (Q : Post) : List Oper → (Nat → Value) → World → Prop
  | [], f, w => Q .normal f w
  | o :: rest, f, w => inn n o.dst = true ∧ ((Region.wanted o (yf ops f) = true ∧ Out P f o w fun v w' => L P n ops Q rest (put f o.dst v) w') ∨ (Region.wanted o (yf ops f) = false ∧ L P n ops Q rest (put f o.dst undef) w))
variable {ops : Array Oper} {rest : List Oper} {o : Oper}
theorem Out.wp {a : Act} {K : Value → World → Prop} {K' : Act → World → Prop} {Q' : Exit → Act → World → Prop} (ha : Fr a n f) (h : Out P f o w K) (hk : ∀ v w', K v w' → K' (a.put o.dst v) w') : o.wp P a w K' Q' := by
  unfold Oper.wp
  rw [ha.ev]
  rcases h with ⟨v, w', hr, h⟩ | ⟨w', hr, h⟩ | ⟨g, args, hr, h⟩
  · rw [hr]; exact hk v w' h
  · rw [hr]; exact hk undef w' h
  rw [hr]; exact h.mono fun e w' ⟨v, he, hl⟩ => by subst he; exact hk v w' hl
theorem L.to : ∀ {l : List Oper} {f : Nat → Value} {w : World}, L P n ops Q l f w → ∀ a, Fr a n f → wpList P ops (lift n Q) l a w
  | [], f, w, h, a, ha => ⟨f, ha, h⟩
  | o :: rest, f, w, ⟨hd, h⟩, a, ha => by
    unfold wpList
    rw [ha.yf]
    rcases h with ⟨hw, h⟩ | ⟨hw, h⟩
    · rw [if_pos hw]
      exact .inl (h.wp ha fun v w' hl => L.to hl _ (ha.put hd v))
    · rw [if_neg (by rw [hw]; decide)]
      exact L.to h _ (ha.put hd undef)
theorem Wl {id : Nat} {ops : List Oper} (h : L P n ops.toArray Q ops f w) : W P n (.region id ops.toArray false) Q f w := fun a ha => wp_region_lit (h.to a ha)
theorem Ln (h : Q .normal f w) : L P n ops Q [] f w := h
abbrev Runs (P : Program) (f : Nat → Value) (o : Oper) (w : World) (v : Value) : Prop := (execOp (ev f) o).run P w = .ok (.value v) w
theorem L.val {v : Value} {w' : World} (hw : Region.wanted o (yf ops f) = true) (hr : (execOp (ev f) o).run P w = .ok (.value v) w') (hd : inn n o.dst = true) (h : L P n ops Q rest (put f o.dst v) w') : L P n ops Q (o :: rest) f w :=
  ⟨hd, .inl ⟨hw, .inl ⟨v, w', hr, h⟩⟩⟩
theorem Lv (v : Value) (hr : Runs P f o w v) (h : L P n ops Q rest (put f o.dst v) w) (hw : Region.wanted o (yf ops f) = true := by rfl) (hd : inn n o.dst = true := by rfl) : L P n ops Q (o :: rest) f w := L.val hw hr hd h
theorem L.unit {w' : World} (hw : Region.wanted o (yf ops f) = true) (hr : (execOp (ev f) o).run P w = .ok .skip w') (hd : inn n o.dst = true) (h : L P n ops Q rest (put f o.dst undef) w') : L P n ops Q (o :: rest) f w :=
  ⟨hd, .inl ⟨hw, .inr (.inl ⟨w', hr, h⟩)⟩⟩
theorem Lk (hw : Region.wanted o (yf ops f) = false) (hd : inn n o.dst = true) (h : L P n ops Q rest (put f o.dst undef) w) : L P n ops Q (o :: rest) f w :=
  ⟨hd, .inr ⟨hw, h⟩⟩
theorem L.call {g : FuncId} {args : Array Value} (hw : Region.wanted o (yf ops f) = true) (hr : (execOp (ev f) o).run P w = .ok (.enter g args) w) (hd : inn n o.dst = true)
    (h : Calls P g args w fun e w' => ∃ v, e = .returned v ∧ L P n ops Q rest (put f o.dst v) w') : L P n ops Q (o :: rest) f w :=
  ⟨hd, .inl ⟨hw, .inr (.inr ⟨g, args, hr, h⟩)⟩⟩
def Qt (P : Program) (n : Nat) (ops : Array Oper) (C : World → Prop) (Q : (Nat → Value) → Prop) (rest : List Oper) (f : Nat → Value) : Prop := ∀ a, Fr a n f → wpQuiet P ops C (fun a' => ∃ f', Fr a' n f' ∧ Q f') rest a
variable {C : World → Prop} {R : (Nat → Value) → Prop}
theorem W.quiet {id : Nat} {ops : List Oper} (C : World → Prop) (hm : P.follows .mixedOrders = true) (hB : Region.lexB .any ops.toArray = true) (hC : C w.drew)
    (h : Qt P n ops.toArray C (fun f' => ∀ w', C w' → Q .normal f' w') ops f) : W P n (.region id ops.toArray true) Q f w := fun a ha => by
  refine wp_region_quiet (C := C) hm hB hC ?_
  have := h a ha
  have key : ∀ (l : List Oper) (a : Act), wpQuiet P ops.toArray C (fun a' => ∃ f', Fr a' n f' ∧ ∀ w', C w' → Q .normal f' w') l a → wpQuiet P ops.toArray C (fun a' => ∀ w', C w' → lift n Q .normal a' w') l a := by
    intro l
    induction l with
    | nil => intro a h; obtain ⟨f', hf', hq⟩ := h; exact fun w' hw' => ⟨f', hf', hq w' hw'⟩
    | cons o l ih =>
      intro a h
      unfold wpQuiet at h ⊢
      split
      · rename_i hw; rw [if_pos hw] at h; obtain ⟨v, h1, h2⟩ := h; exact ⟨v, h1, ih _ h2⟩
      · rename_i hw; rw [if_neg hw] at h; exact ih _ h
  exact key _ _ this
theorem Qt.nil (h : R f) : Qt P n ops C R [] f := fun _ ha => ⟨f, ha, h⟩
theorem Qt.val {v : Value} (hw : Region.wanted o (yf ops f) = true) (hr : ∀ w, C w → (execOp (ev f) o).run P w = .ok (.value v) w) (hd : inn n o.dst = true) (h : Qt P n ops C R rest (put f o.dst v)) : Qt P n ops C R (o :: rest) f := fun a ha => by
  unfold wpQuiet
  rw [ha.yf, if_pos hw]
  refine ⟨v, fun w hc => ?_, h _ (ha.put hd v)⟩
  unfold Oper.quietAt
  rw [ha.ev, hr w hc]
  exact ⟨rfl, rfl⟩
theorem Qv (v : Value) (hr : ∀ w, C w → Runs P f o w v) (h : Qt P n ops C R rest (put f o.dst v)) (hw : Region.wanted o (yf ops f) = true := by rfl) (hd : inn n o.dst = true := by rfl) : Qt P n ops C R (o :: rest) f := Qt.val hw hr hd h
theorem Qs (hw : Region.wanted o (yf ops f) = false) (hd : inn n o.dst = true) (h : Qt P n ops C R rest (put f o.dst undef)) : Qt P n ops C R (o :: rest) f := fun a ha => by
  unfold wpQuiet
  rw [ha.yf, if_neg (by rw [hw]; decide)]
  exact h _ (ha.put hd undef)
theorem Qt.call {v : Value} {g : FuncId} {args : Array Value} (hw : Region.wanted o (yf ops f) = true) (hr : ∀ w, C w → (execOp (ev f) o).run P w = .ok (.enter g args) w) (hd : inn n o.dst = true)
    (hc : ∀ w, C w → Calls P g args w fun e w' => e = .returned v ∧ C w') (h : Qt P n ops C R rest (put f o.dst v)) : Qt P n ops C R (o :: rest) f := fun a ha => by
  unfold wpQuiet
  rw [ha.yf, if_pos hw]
  refine ⟨v, fun w hcw => ?_, h _ (ha.put hd v)⟩
  unfold Oper.quietAt
  rw [ha.ev, hr w hcw]
  exact ⟨rfl, hc w hcw⟩
def St (P : Program) (n : Nat) (ops : Array Oper) (w : World) (Q : (Nat → Value) → Prop) (rest : List Oper) (f : Nat → Value) : Prop := ∀ a, Fr a n f → wpStill P ops w (fun a' => ∃ f', Fr a' n f' ∧ Q f') rest a
theorem St.nil (h : R f) : St P n ops w R [] f := fun _ ha => ⟨f, ha, h⟩
theorem St.val {v : Value} (hw : Region.wanted o (yf ops f) = true) (hr : (execOp (ev f) o).run P w = .ok (.value v) w) (hd : inn n o.dst = true) (h : St P n ops w R rest (put f o.dst v)) : St P n ops w R (o :: rest) f := fun a ha => by
  unfold wpStill
  rw [ha.yf, if_pos hw]
  unfold Oper.still
  rw [ha.ev, hr]
  exact ⟨rfl, h _ (ha.put hd v)⟩
theorem St.v (v : Value) (hr : Runs P f o w v) (h : St P n ops w R rest (put f o.dst v)) (hw : Region.wanted o (yf ops f) = true := by rfl) (hd : inn n o.dst = true := by rfl) : St P n ops w R (o :: rest) f := St.val hw hr hd h
theorem St.skip (hw : Region.wanted o (yf ops f) = false) (hd : inn n o.dst = true) (h : St P n ops w R rest (put f o.dst undef)) : St P n ops w R (o :: rest) f := fun a ha => by
  unfold wpStill
  rw [ha.yf, if_neg (by rw [hw]; decide)]
  exact h _ (ha.put hd undef)
theorem St.call {v : Value} {g : FuncId} {args : Array Value} (hw : Region.wanted o (yf ops f) = true) (hr : (execOp (ev f) o).run P w = .ok (.enter g args) w) (hd : inn n o.dst = true)
    (hc : Calls P g args w fun e w' => e = .returned v ∧ w' = w) (h : St P n ops w R rest (put f o.dst v)) : St P n ops w R (o :: rest) f := fun a ha => by
  unfold wpStill
  rw [ha.yf, if_pos hw]
  unfold Oper.still
  rw [ha.ev, hr]
  exact ⟨rfl, v, hc, h _ (ha.put hd v)⟩
theorem W.tail {id : Nat} {ops : List Oper} (k : Nat) (hm : P.follows .mixedOrders = true) (hB : Region.lexTailB .any ops.toArray k = true)
    (h : ∀ w1, Below w.heap.size w w1 → w1.heap.size = w.heap.size → St P n ops.toArray w1 (fun f' => L P n ops.toArray Q (ops.drop k) f' w1) (ops.take k) f) : W P n (.region id ops.toArray true) Q f w := fun a ha => by
  refine wp_region_still_tail k hm hB ?_
  have := h { w with drawn := w.drawn + 1 } (Below.refl _ _).drew rfl a ha
  have key : ∀ (l : List Oper) (a : Act), wpStill P ops.toArray { w with drawn := w.drawn + 1 } (fun a' => ∃ f', Fr a' n f' ∧ L P n ops.toArray Q (ops.drop k) f' { w with drawn := w.drawn + 1 }) l a →
      wpStill P ops.toArray { w with drawn := w.drawn + 1 } (fun a' => wpList P ops.toArray (lift n Q) (ops.drop k) a' { w with drawn := w.drawn + 1 }) l a := by
    intro l
    induction l with
    | nil => intro a h; obtain ⟨f', hf', hq⟩ := h; exact hq.to a hf'
    | cons o l ih =>
      intro a h
      unfold wpStill at h ⊢
      split
      · rename_i hw
        rw [if_pos hw] at h
        unfold Oper.still Oper.stillUpon at h ⊢
        split <;> rename_i hr <;> simp only [hr] at h
        · exact ⟨h.1, ih _ h.2⟩
        · exact ⟨h.1, ih _ h.2⟩
        · obtain ⟨h1, v, h2, h3⟩ := h; exact ⟨h1, v, h2, ih _ h3⟩
      · rename_i hw; rw [if_neg hw] at h; exact ih _ h
  exact key _ _ this
def rdF (f : Nat → Value) : ResultVar → Sem Value
  | .tmp t => pure (f t)
  | .cell a t => do loadVar t (← asAddr (f a))
def resF (fn : Func) (f : Nat → Value) : Sem Value := do
  let vs ← fn.results.mapM (rdF f)
  pure (if h : vs.size = 1 then vs[0] else .tuple vs)
def retK (P : Program) (fn : Func) (R : Ending → World → Prop) : Post := fun e f w => match e with
  | .normal => ∃ v, (resF fn f).run P w = .ok v w ∧ R (.returned v) w
  | .ret => ∃ v, (resF fn f).run P w = .ok v w ∧ R (.returned v) w
  | .outgrown => R .outgrown w
  | _ => False
theorem resF_eq {a : Act} {n : Nat} {f : Nat → Value} (h : Fr a n f) (fn : Func) : results fn a.tmps = resF fn f := by
  unfold results resF
  congr 1
  congr 1
  funext x
  cases x <;> simp only [h.get, rdF]
def start (args : Array Value) : Nat → Value := fun i => args.getD i undef
theorem enter {g : FuncId} {fn : Func} {c : Code} {args : Array Value} {R : Ending → World → Prop} (hf : P.funcs[g]? = some fn) (hb : fn.body = some c) (hn : fn.ntmps = n) (ha : Nat.ble args.size n = true)
    (h : W P n c (retK P fn R) (start args) w) : Calls P g args w R := by
  have ha' : args.size ≤ n := Nat.le_of_ble_eq_true ha
  refine calls_of_wp hf hb ?_
  refine Code.wp_mono (fun e a w' hq => ?_) (h _ ⟨?_, rfl, ?_⟩)
  · obtain ⟨f', hf', hq⟩ := hq
    cases e <;> first
      | exact hq.elim
      | (obtain ⟨v, h1, h2⟩ := hq; exact ⟨hf'.defers, v, by rw [resF_eq hf']; exact h1, h2⟩)
      | exact hq
  · simp [hn]; omega
  intro i
  simp only [start, Array.getD_eq_getD_getElem?, Array.getElem?_append, Array.getElem?_replicate]
  by_cases hi : i < args.size
  · simp [hi]
  simp [hi]
  by_cases h2 : i - args.size < fn.ntmps - args.size
  · simp [h2]
  simp [h2]
theorem ret0 {fn : Func} (hr : fn.results = #[]) : (resF fn f).run P w = .ok (.tuple #[]) w := by
  unfold resF; simp [hr]
theorem sN {y : Code} (h : W P n y Q f w) : seqK P n y Q .normal f w := h
theorem seqX {y : Code} {id : Nat} (h : Q (.exit id) f w) : seqK P n y Q (.exit id) f w := h
theorem sR {y : Code} (h : Q .ret f w) : seqK P n y Q .ret f w := h
theorem blkN {id : Nat} (h : Q .normal f w) : blockK id Q .normal f w := h
theorem blkR {id : Nat} (h : Q .ret f w) : blockK id Q .ret f w := h
theorem blkX {id : Nat} (h : Q .normal f w) : blockK id Q (.exit id) f w := by simp only [blockK, if_true]; exact h
theorem blkO {id id' : Nat} (hne : Nat.beq id' id = false) (h : Q (.exit id') f w) : blockK id Q (.exit id') f w := by
  have : id' ≠ id := fun e => by subst e; rw [Nat.beq_refl] at hne; cases hne
  simp only [blockK, this, if_false]; exact h
theorem lpX {I : (Nat → Value) → World → Prop} {m : (Nat → Value) → World → Nat} {k id : Nat} (h : Q (.exit id) f w) : loopK I m k Q (.exit id) f w := h
theorem lpR {I : (Nat → Value) → World → Prop} {m : (Nat → Value) → World → Nat} {k : Nat} (h : Q .ret f w) : loopK I m k Q .ret f w := h
theorem lpN {I : (Nat → Value) → World → Prop} {m : (Nat → Value) → World → Nat} {k : Nat} (h : I f w) (hm : m f w < k) : loopK I m k Q .normal f w := ⟨h, hm⟩
theorem args1 {x1 : Operand} {v1 : Value} (h1 : ev f x1 = v1) : [x1].map (ev f) = [v1] := by rw [List.map_cons, h1]; rfl
end
end Fx
end Go.Proofs.Ytahbiajdgealnaa
namespace Go.Proofs.Ytahbiajdgealnaa
open Go.RowKit
namespace Fx
section
variable {P : Program} {f : Nat → Value} {w : World} {o : Oper}
theorem x_move {x : Operand} {v : Value} (ho : o.op = .move x) (hx : ev f x = v) : Runs P f o w v := by
  unfold Runs execOp; simp [ho, hx]
theorem x_assign {x : Operand} {v : Value} (ho : o.op = .assign x) (hx : ev f x = v) : Runs P f o w v := by
  unfold Runs execOp; simp [ho, hx]
theorem x_pick {c x y : Operand} {b : Bool} {u v : Value} (ho : o.op = .pick c x y) (hc : ev f c = .bool b) (hx : ev f x = u) (hy : ev f y = v) : Runs P f o w (if b then u else v) := by
  unfold Runs execOp; simp [ho, hc, hx, hy, asBool]
theorem x_pickT {c x y : Operand} {u : Value} (ho : o.op = .pick c x y) (hc : ev f c = .bool true) (hx : ev f x = u) : Runs P f o w u := x_pick ho hc hx rfl
theorem x_pickF {c x y : Operand} {v : Value} (ho : o.op = .pick c x y) (hc : ev f c = .bool false) (hy : ev f y = v) : Runs P f o w v := x_pick ho hc rfl hy
theorem run_eqGuard_ints {P : Program} {w : World} (op : BinOp) (t : TypeId) (x y : Operand) (k k' : IntKind) (a b : Int) : (eqGuard op t x y (.int k a) (.int k' b)).run P w = .ok () w := by
  unfold eqGuard; cases op <;> rfl
theorem x_int {op : BinOp} {T T' : TypeId} {x y : Operand} {k : IntKind} {a b : Int} {v : Value} (ho : o.op = .binOp op T x y T') (hx : ev f x = .int k a) (hy : ev f y = .int k b) (h : (binOp op T (.int k a) (.int k b)).run P w = .ok v w) : Runs P f o w v := by
  unfold Runs execOp
  simp only [ho, hx, hy]
  simp only [Sem.run_bind, run_eqGuard_ints, Result.andThen_ok, h, Sem.run_pure]
theorem x_add {T T' : TypeId} {x y : Operand} {k : IntKind} {a b c : Int} (ho : o.op = .binOp .add T x y T') (hx : ev f x = .int k a) (hy : ev f y = .int k b) (hc : k.wrap (a + b) = c) : Runs P f o w (.int k c) :=
  x_int ho hx hy (by simp [binOp, Op.intArith, hc])
theorem x_sub {T T' : TypeId} {x y : Operand} {k : IntKind} {a b c : Int} (ho : o.op = .binOp .sub T x y T') (hx : ev f x = .int k a) (hy : ev f y = .int k b) (hc : k.wrap (a - b) = c) : Runs P f o w (.int k c) :=
  x_int ho hx hy (by simp [binOp, Op.intArith, hc])
theorem x_mul {T T' : TypeId} {x y : Operand} {k : IntKind} {a b c : Int} (ho : o.op = .binOp .mul T x y T') (hx : ev f x = .int k a) (hy : ev f y = .int k b) (hc : k.wrap (a * b) = c) : Runs P f o w (.int k c) :=
  x_int ho hx hy (by simp [binOp, Op.intArith, hc])
theorem x_quo {T T' : TypeId} {x y : Operand} {k : IntKind} {a b c : Int} (ho : o.op = .binOp .quo T x y T') (hx : ev f x = .int k a) (hy : ev f y = .int k b) (h0 : b ≠ 0) (hc : k.wrap (a.tdiv b) = c) : Runs P f o w (.int k c) :=
  x_int ho hx hy (by simp [binOp, Op.intDiv, hc, h0])
theorem x_rem {T T' : TypeId} {x y : Operand} {k : IntKind} {a b c : Int} (ho : o.op = .binOp .rem T x y T') (hx : ev f x = .int k a) (hy : ev f y = .int k b) (h0 : b ≠ 0) (hc : a.tmod b = c) : Runs P f o w (.int k c) :=
  x_int ho hx hy (by simp [binOp, Op.intDiv, hc, h0])
theorem x_lss {T T' : TypeId} {x y : Operand} {k : IntKind} {a b : Int} (ho : o.op = .binOp .lss T x y T') (hx : ev f x = .int k a) (hy : ev f y = .int k b) : Runs P f o w (.bool (decide (a < b))) :=
  x_int ho hx hy (by simp [binOp, Op.intCmp])
theorem x_leq {T T' : TypeId} {x y : Operand} {k : IntKind} {a b : Int} (ho : o.op = .binOp .leq T x y T') (hx : ev f x = .int k a) (hy : ev f y = .int k b) : Runs P f o w (.bool (decide (a ≤ b))) :=
  x_int ho hx hy (by simp [binOp, Op.intCmp])
theorem x_gtr {T T' : TypeId} {x y : Operand} {k : IntKind} {a b : Int} (ho : o.op = .binOp .gtr T x y T') (hx : ev f x = .int k a) (hy : ev f y = .int k b) : Runs P f o w (.bool (decide (b < a))) :=
  x_int ho hx hy (by simp [binOp, Op.intCmp])
theorem x_geq {T T' : TypeId} {x y : Operand} {k : IntKind} {a b : Int} (ho : o.op = .binOp .geq T x y T') (hx : ev f x = .int k a) (hy : ev f y = .int k b) : Runs P f o w (.bool (decide (b ≤ a))) :=
  x_int ho hx hy (by simp [binOp, Op.intCmp])
theorem x_eql {T T' : TypeId} {x y : Operand} {k : IntKind} {a b : Int} (ho : o.op = .binOp .eql T x y T') (hx : ev f x = .int k a) (hy : ev f y = .int k b) : Runs P f o w (.bool (decide (a = b))) :=
  x_int ho hx hy (by simp [binOp, Op.intCmp]; rfl)
theorem x_neq {T T' : TypeId} {x y : Operand} {k : IntKind} {a b : Int} (ho : o.op = .binOp .neq T x y T') (hx : ev f x = .int k a) (hy : ev f y = .int k b) : Runs P f o w (.bool (!decide (a = b))) :=
  x_int ho hx hy (by simp [binOp, Op.intCmp]; rfl)
theorem x_not {T : TypeId} {x : Operand} {b : Bool} (ho : o.op = .unOp .not T x) (hx : ev f x = .bool b) : Runs P f o w (.bool (!b)) := by
  unfold Runs execOp; simp [ho, hx, Op.unary]
theorem x_lssT {T T' : TypeId} {x y : Operand} {k : IntKind} {a b : Int} (ho : o.op = .binOp .lss T x y T') (hx : ev f x = .int k a) (hy : ev f y = .int k b) (h : a < b) : Runs P f o w (.bool true) := by
  have := x_lss (P := P) (w := w) ho hx hy; rwa [decide_eq_true h] at this
theorem x_lssF {T T' : TypeId} {x y : Operand} {k : IntKind} {a b : Int} (ho : o.op = .binOp .lss T x y T') (hx : ev f x = .int k a) (hy : ev f y = .int k b) (h : ¬ (a < b)) : Runs P f o w (.bool false) := by
  have := x_lss (P := P) (w := w) ho hx hy; rwa [decide_eq_false h] at this
theorem x_leqT {T T' : TypeId} {x y : Operand} {k : IntKind} {a b : Int} (ho : o.op = .binOp .leq T x y T') (hx : ev f x = .int k a) (hy : ev f y = .int k b) (h : a ≤ b) : Runs P f o w (.bool true) := by
  have := x_leq (P := P) (w := w) ho hx hy; rwa [decide_eq_true h] at this
theorem x_leqF {T T' : TypeId} {x y : Operand} {k : IntKind} {a b : Int} (ho : o.op = .binOp .leq T x y T') (hx : ev f x = .int k a) (hy : ev f y = .int k b) (h : ¬ (a ≤ b)) : Runs P f o w (.bool false) := by
  have := x_leq (P := P) (w := w) ho hx hy; rwa [decide_eq_false h] at this
theorem x_gtrT {T T' : TypeId} {x y : Operand} {k : IntKind} {a b : Int} (ho : o.op = .binOp .gtr T x y T') (hx : ev f x = .int k a) (hy : ev f y = .int k b) (h : b < a) : Runs P f o w (.bool true) := by
  have := x_gtr (P := P) (w := w) ho hx hy; rwa [decide_eq_true h] at this
theorem x_gtrF {T T' : TypeId} {x y : Operand} {k : IntKind} {a b : Int} (ho : o.op = .binOp .gtr T x y T') (hx : ev f x = .int k a) (hy : ev f y = .int k b) (h : ¬ (b < a)) : Runs P f o w (.bool false) := by
  have := x_gtr (P := P) (w := w) ho hx hy; rwa [decide_eq_false h] at this
theorem x_geqT {T T' : TypeId} {x y : Operand} {k : IntKind} {a b : Int} (ho : o.op = .binOp .geq T x y T') (hx : ev f x = .int k a) (hy : ev f y = .int k b) (h : b ≤ a) : Runs P f o w (.bool true) := by
  have := x_geq (P := P) (w := w) ho hx hy; rwa [decide_eq_true h] at this
theorem x_geqF {T T' : TypeId} {x y : Operand} {k : IntKind} {a b : Int} (ho : o.op = .binOp .geq T x y T') (hx : ev f x = .int k a) (hy : ev f y = .int k b) (h : ¬ (b ≤ a)) : Runs P f o w (.bool false) := by
  have := x_geq (P := P) (w := w) ho hx hy; rwa [decide_eq_false h] at this
theorem x_eqlT {T T' : TypeId} {x y : Operand} {k : IntKind} {a b : Int} (ho : o.op = .binOp .eql T x y T') (hx : ev f x = .int k a) (hy : ev f y = .int k b) (h : a = b) : Runs P f o w (.bool true) := by
  have := x_eql (P := P) (w := w) ho hx hy; rwa [decide_eq_true h] at this
theorem x_eqlF {T T' : TypeId} {x y : Operand} {k : IntKind} {a b : Int} (ho : o.op = .binOp .eql T x y T') (hx : ev f x = .int k a) (hy : ev f y = .int k b) (h : ¬ (a = b)) : Runs P f o w (.bool false) := by
  have := x_eql (P := P) (w := w) ho hx hy; rwa [decide_eq_false h] at this
theorem x_neqT {T T' : TypeId} {x y : Operand} {k : IntKind} {a b : Int} (ho : o.op = .binOp .neq T x y T') (hx : ev f x = .int k a) (hy : ev f y = .int k b) (h : ¬ (a = b)) : Runs P f o w (.bool true) := by
  have := x_neq (P := P) (w := w) ho hx hy; rwa [decide_eq_false h] at this
theorem x_neqF {T T' : TypeId} {x y : Operand} {k : IntKind} {a b : Int} (ho : o.op = .binOp .neq T x y T') (hx : ev f x = .int k a) (hy : ev f y = .int k b) (h : a = b) : Runs P f o w (.bool false) := by
  have := x_neq (P := P) (w := w) ho hx hy; rwa [decide_eq_true h] at this
theorem x_notT {T : TypeId} {x : Operand} (ho : o.op = .unOp .not T x) (hx : ev f x = .bool false) : Runs P f o w (.bool true) := x_not ho hx
theorem x_notF {T : TypeId} {x : Operand} (ho : o.op = .unOp .not T x) (hx : ev f x = .bool true) : Runs P f o w (.bool false) := x_not ho hx
theorem i64e {a c : Int} (h : -9223372036854775808 ≤ c ∧ c ≤ 9223372036854775807) (e : a = c) : IntKind.i64.wrap a = c := by subst e; exact IntWalk.i64_in _ h
theorem u64e {a c : Int} (h : 0 ≤ c ∧ c ≤ 18446744073709551615) (e : a = c) : IntKind.u64.wrap a = c := by subst e; exact IntWalk.u64_in _ h
theorem x_nil {x : Operand} {a : Addr} (ho : o.op = .nilCheck x) (hx : ev f x = .pointer (some a)) : Runs P f o w (.pointer (some a)) := by
  unfold Runs execOp; simp [ho, hx]
theorem x_conv {S T : TypeId} {x : Operand} {k k' : IntKind} {a c : Int} (ho : o.op = .convert S T x) (hx : ev f x = .int k' a) (hs : (P.underlying S).isSome = true) (hd : P.underlying T = some (.int k)) (hc : k.wrap a = c) : Runs P f o w (.int k c) := by
  unfold Runs execOp
  simp only [ho, hx]
  have hk : P.intKind T = k := by unfold Program.intKind; rw [hd]
  have := run_convert_int w S T k' a hs (hk.symm ▸ hd)
  rw [hk, hc] at this
  simp only [Sem.run_bind, this, Result.andThen_ok, Sem.run_pure]
theorem x_extract {x : Operand} {vs : Array Value} {i : Nat} {v : Value} (ho : o.op = .extract x i) (hx : ev f x = .tuple vs) (hv : vs[i]? = some v) : Runs P f o w v := by
  unfold Runs execOp; simp [ho, hx, Instr.extract, hv]
theorem x_len {T : TypeId} {x : Operand} {b : Option Addr} {n c : Nat} {Ts : Array TypeId} (ho : o.op = .call { callee := .builtin .len, args := #[x], argTypes := Ts }) (hT : Ts = #[T]) (hx : ev f x = .slice b n c) (hu : P.underlying T = some (.slice (P.elem T))) : Runs P f o w (.int .i64 n) := by
  unfold Runs execOp
  simp only [ho]
  unfold resolve invoke
  simp only [hT, List.map_toArray, List.map_cons, List.map_nil, hx]
  unfold builtin
  simp only [Sem.run_bind, Sem.run_pure, Result.andThen_ok, run_len_slice w T o.type b n c hu, goInt]
theorem x_field {S : TypeId} {x : Operand} {i : Nat} {b off off' : Nat} {fs : Array Field} {fd : Field} {s : Nat} (ho : o.op = .fieldAddr S x i) (hx : ev f x = .pointer (some ⟨b, off, none⟩)) (hs : P.underlying S = some (.struct fs))
    (hf : fs[i]? = some fd) (hz : (P.info? fd.type).map (·.size) = some s) (h0 : Nat.beq s 0 = false) (he : off + fd.offset = off') : Runs P f o w (.pointer (some ⟨b, off', none⟩)) := by
  have h0' : s ≠ 0 := fun e => by rw [e] at h0; exact absurd h0 (by decide)
  obtain ⟨z, hz1, hz2⟩ := Option.map_eq_some_iff.1 hz
  rw [← hz2] at h0'
  unfold Runs execOp
  simp only [ho, hx]
  simp [Instr.fieldAt, underlying, hs, hf, Instr.sureAddr, fieldPlace, sizeOf, typeInfo, hz1, h0', addr_add, he]
theorem x_indexS {T : TypeId} {x i : Operand} {b off off' len cap : Nat} {k : IntKind} {j : Int} {s : Nat} {E : TypeId} (ho : o.op = .indexAddr T x i) (hx : ev f x = .slice (some ⟨b, off, none⟩) len cap) (hi : ev f i = .int k j)
    (hu : P.underlying T = some (.slice E)) (hz : (P.info? E).map (·.size) = some s) (h0 : 0 ≤ j) (h1 : j < (len : Int)) (he : off + j.toNat * s = off') : Runs P f o w (.pointer (some ⟨b, off', none⟩)) := by
  obtain ⟨z, hz1, hz2⟩ := Option.map_eq_some_iff.1 hz
  unfold Runs execOp
  simp only [ho, hx, hi]
  simp [Instr.indexAt, asIntOf, underlying, hu, h0, h1, sizeOf, typeInfo, hz1, hz2, addr_add, he]
end
end Fx
end Go.Proofs.Ytahbiajdgealnaa
namespace Go.Proofs.Ytahbiajdgealnaa
open Go.RowKit
namespace Fx
def varr (n : Nat) (x : Nat → Value) : Array Value := Array.ofFn (fun i : Fin n => x i)
theorem varr_size (n : Nat) (x : Nat → Value) : (varr n x).size = n := by unfold varr; simp
theorem varr_get {n : Nat} (x : Nat → Value) {i : Nat} (h : i < n) : (varr n x)[i]? = some (x i) := by unfold varr; simp [h]
theorem varr_none {n : Nat} (x : Nat → Value) {i : Nat} (h : n ≤ i) : (varr n x)[i]? = none := by unfold varr; simp [h]
theorem varr_ext {n : Nat} {x : Nat → Value} {a : Array Value} (hs : a.size = n) (h : ∀ i, i < n → a[i]? = some (x i)) : a = varr n x := by
  apply Array.ext_getElem?
  intro i
  by_cases hi : i < n
  · rw [h i hi, varr_get x hi]
  rw [varr_none x (by omega), Array.getElem?_eq_none (by omega)]
theorem varr_congr {n : Nat} {x y : Nat → Value} (h : ∀ i, i < n → x i = y i) : varr n x = varr n y := by
  unfold varr; congr 1; funext i; exact h i.1 i.2
def updV (x : Nat → Value) (i : Nat) (v : Value) : Nat → Value := fun j => if j = i then v else x j
def ovr (x : Nat → Value) (o m : Nat) (y : Nat → Value) : Nat → Value := fun j => if o ≤ j ∧ j < o + m then y (j - o) else x j
def rv (k : IntKind) (x : Nat → Int) : Nat → Value := fun i => .int k (x i)
def Cel (w : World) (b off n : Nat) (x : Nat → Value) : Prop := ∀ i, i < n → w.cell? ⟨b, off + i, none⟩ = some (x i)
def Blk (w : World) (g n : Nat) (x : Nat → Value) (T : TypeId) : Prop := w.heap[g]? = some (.cells (varr n x) T (0, 0))
structure Stp (g : Nat) (w w' : World) : Prop where
  os : w'.os = w.os
  tape : w'.tape = w.tape
  output : w'.output = w.output
  size : w.heap.size ≤ w'.heap.size
  block : ∀ k, k < w.heap.size → k ≠ g → w'.heap[k]? = w.heap[k]?
theorem Stp.below {g B : Nat} {w0 w w' : World} (s : Stp g w w') (h : Below B w0 w) (hB : B ≤ w.heap.size) (hg : B ≤ g) : Below B w0 w' :=
  h.trans ⟨s.os, s.tape, s.output, s.size, fun k hk => s.block k (by omega) (by omega)⟩
theorem Sb {w w' : World} (h : Below w.heap.size w w') : Stp w.heap.size w w' := ⟨h.os, h.tape, h.output, h.size, fun k hk _ => h.block k hk⟩
theorem Stp.old {w w' : World} (s : Stp w.heap.size w w') : Below w.heap.size w w' := ⟨s.os, s.tape, s.output, s.size, fun k hk => s.block k hk (by omega)⟩
theorem Stp.drew {g : Nat} {w w' : World} (s : Stp g w w') : Stp g w w'.drew := ⟨s.os, s.tape, s.output, s.size, s.block⟩
theorem Stp.refl (g : Nat) (w : World) : Stp g w w := ⟨rfl, rfl, rfl, Nat.le_refl _, fun _ _ _ => rfl⟩
theorem Stp.alloc (w : World) (o : Obj) : Stp w.heap.size w (w.alloc o) := Sb ((Below.refl _ _).alloc (Nat.le_refl _) o)
theorem Blk.lt {w : World} {g n : Nat} {x : Nat → Value} {T : TypeId} (h : Blk w g n x T) : g < w.heap.size := (Array.getElem?_eq_some_iff.1 h).1
theorem Blk.stp {w w' : World} {g b n : Nat} {x : Nat → Value} {T : TypeId} (h : Blk w b n x T) (s : Stp g w w') (ne : b ≠ g) : Blk w' b n x T := (s.block b h.lt ne).trans h
theorem Blk.cel {w : World} {g n : Nat} {x : Nat → Value} {T : TypeId} (h : Blk w g n x T) : Cel w g 0 n x := fun i hi => by
  rw [Nat.zero_add, cell_of_row w g i _ _ _ h]; exact varr_get x hi
theorem Cel.lt {w : World} {b off n : Nat} {x : Nat → Value} (h : Cel w b off n x) (hn : 0 < n) : b < w.heap.size := block_lt_of_cell (h 0 hn)
theorem Cel.stp {w w' : World} {g b off n : Nat} {x : Nat → Value} (h : Cel w b off n x) (s : Stp g w w') (ne : b ≠ g) : Cel w' b off n x := fun i hi => by
  have hc := h i hi
  have hlt : b < w.heap.size := block_lt_of_cell hc
  rw [← hc]
  exact World.cell?_of_block (w := w) (s.block b hlt ne)
theorem Cel.below {w w' : World} {b off n B : Nat} {x : Nat → Value} (h : Cel w b off n x) (s : Below B w w') (hb : b < B) : Cel w' b off n x := fun i hi => by
  rw [← h i hi]; exact s.cell (p := ⟨b, off + i, none⟩) hb
theorem Cel.sub {w : World} {b off n : Nat} {x : Nat → Value} (h : Cel w b off n x) (o m : Nat) (hm : o + m ≤ n) : Cel w b (off + o) m (fun i => x (o + i)) := fun i hi => by
  have := h (o + i) (by omega); rwa [← Nat.add_assoc] at this
def oneT (P : Program) (T : TypeId) : Bool := match P.underlying T with | some (.struct _) => false | some (.array _ _) => false | some _ => true | none => false
theorem Blk.to {w : World} {g n : Nat} {x y : Nat → Value} {T : TypeId} (h : Blk w g n x T) (e : x = y) : Blk w g n y T := e ▸ h
theorem upd_all {w : World} {g : Nat} {x : Nat → Value} {v : Value} {T : TypeId} (h : Blk w g 1 (updV x 0 v) T) : Blk w g 1 (fun _ => v) T := by
  unfold Blk at *
  rw [h, varr_congr (y := fun _ => v) fun i hi => by simp [updV]; omega]
section
variable {P : Program} {n : Nat} {Q : Post} {f : Nat → Value} {w : World} {ops : Array Oper} {rest : List Oper} {o : Oper}
theorem x_load1 {T : TypeId} {a : Operand} {b off m i p : Nat} {x : Nat → Value} {v : Value} (ho : o.op = .load T a) (ha : ev f a = .pointer (some ⟨b, p, none⟩)) (hT : oneT P T = true) (hc : Cel w b off m x) (hi : i < m) (he : p = off + i) (hv : x i = v) : Runs P f o w v := by
  subst he
  subst hv
  have h1 := hc i hi
  unfold Runs execOp
  simp only [ho, ha]
  unfold oneT at hT
  cases hu : P.underlying T with
  | none => rw [hu] at hT; cases hT
  | some d =>
    rw [hu] at hT
    cases d <;> first
      | (cases hT; done)
      | simp [Instr.loadAt, Instr.sureAddr, loadVar, isAgg, underlying, hu, h1]
theorem setRow_stp {g : Nat} {old cs : Array Value} {T : TypeId} (hg : w.heap[g]? = some (.cells old T (0, 0))) : Stp g w (w.setRow g cs) ∧ (w.setRow g cs).heap[g]? = some (.cells cs T (0, 0)) ∧ (w.setRow g cs).heap.size = w.heap.size := by
  refine ⟨⟨rfl, rfl, rfl, by simp, fun k _ hne => setRow_other _ _ _ _ (by omega)⟩, ?_, by simp⟩
  rw [setRow_heap w g old cs T (0, 0) hg]
theorem L.store1 {T TB : TypeId} {a v : Operand} {g m i : Nat} {x : Nat → Value} {u : Value} (hw : Region.wanted o (yf ops f) = true) (hd : o.dst = none) (ho : o.op = .store T a v) (ha : ev f a = .pointer (some ⟨g, i, none⟩)) (hv : ev f v = u) (h1 : u.oneCell' = true) (hT : (P.info? T).map (·.size) = some 1)
    (hb : Blk w g m x TB) (hi : i < m) (h : ∀ w', Blk w' g m (updV x i u) TB → Stp g w w' → w'.heap.size = w.heap.size → L P n ops Q rest f w') : L P n ops Q (o :: rest) f w := by
  have hcell : w.cell? ⟨g, i, none⟩ = some (x i) := by have := hb.cel i hi; rwa [Nat.zero_add] at this
  have hfz : w.frozen? ⟨g, i, none⟩ = false := by
    unfold World.frozen?
    simp only [show w.heap[g]? = _ from hb]
    simp
  have hr := run_storeVar_one (P := P) w g i T u (x i) hT h1 hcell hfz
  have hrun : (execOp (ev f) o).run P w = .ok .skip (w.setCell ⟨g, i, none⟩ u) := by
    unfold execOp
    simp only [ho, ha, hv, Instr.storeAt, Instr.sureAddr, Sem.run_bind, Sem.run_pure, Result.andThen_ok, hr]
  refine L.unit hw hrun (by rw [hd]; rfl) ?_
  rw [hd]
  refine h _ ?_ ⟨rfl, rfl, rfl, by simp [World.setCell], fun k _ hne => Below.heap_setCell _ _ _ _ (by simpa using hne)⟩ (by simp [World.setCell])
  show (w.setCell ⟨g, i, none⟩ u).heap[g]? = _
  have hg : w.heap[g]? = some (.cells (varr m x) TB (0, 0)) := hb
  simp only [World.setCell, Array.getElem?_modify, if_true, hg, Option.map_some, Option.isSome_none]
  congr 2
  refine varr_ext (by simp [varr_size]) fun j hj => ?_
  simp only [Bool.false_eq_true, if_false, Array.getElem?_setIfInBounds, updV]
  by_cases e : i = j
  · subst e; simp [varr_size, hj]
  rw [if_neg e, varr_get x hj, if_neg (fun h => e h.symm)]
theorem L.box {T : TypeId} {x : Operand} {v : Value} {m : Nat} {y : Nat → Value} (hw : Region.wanted o (yf ops f) = true) (ho : o.op = .box T x) (hx : ev f x = v) (hc : v.cells = varr m y) (hd : inn n o.dst = true)
    (h : ∀ g w', g = w.heap.size → Blk w' g m y T → Stp w.heap.size w w' → w'.heap.size = w.heap.size + 1 → L P n ops Q rest (put f o.dst (.pointer (some ⟨g, 0, none⟩))) w') : L P n ops Q (o :: rest) f w := by
  have hrun : (execOp (ev f) o).run P w = .ok (.value (.pointer (some ⟨w.heap.size, 0, none⟩))) (w.alloc (.cells v.cells T)) := by
    unfold execOp
    simp [ho, hx, Instr.box, newVar, newRow]
  refine L.val hw hrun hd (h _ _ rfl ?_ (Stp.alloc _ _) (by simp))
  show (w.alloc _).heap[w.heap.size]? = _
  rw [alloc_at, if_pos rfl, hc]
theorem cells_agg (m : Nat) (y : Nat → Value) : (Value.agg (varr m y)).cells = varr m y := rfl
theorem cells_one {v : Value} (h : v.oneCell' = true) : v.cells = varr 1 (fun _ => v) := by
  cases v <;> first | rfl | (simp [Value.oneCell'] at h)
theorem L.new {T : TypeId} {m : Nat} {y : Nat → Value} (hw : Region.wanted o (yf ops f) = true) (ho : o.op = .alloc T) (hz : ((P.info? T).bind (·.zero)).map (·.cells) = some (varr m y)) (hd : inn n o.dst = true)
    (h : ∀ g w', g = w.heap.size → Blk w' g m y T → Stp w.heap.size w w' → w'.heap.size = w.heap.size + 1 → L P n ops Q rest (put f o.dst (.pointer (some ⟨g, 0, none⟩))) w') : L P n ops Q (o :: rest) f w := by
  obtain ⟨z, hz1, hz2⟩ := Option.map_eq_some_iff.1 hz
  obtain ⟨i, hi, hz⟩ := Option.bind_eq_some_iff.1 hz1
  have hrun : (execOp (ev f) o).run P w = .ok (.value (.pointer (some ⟨w.heap.size, 0, none⟩))) (w.alloc (.cells z.cells T)) := by
    unfold execOp
    simp [ho, Instr.alloc, zeroValue, typeInfo, hi, hz, newVar, newRow]
  refine L.val hw hrun hd (h _ _ rfl ?_ (Stp.alloc _ _) (by simp))
  show (w.alloc _).heap[w.heap.size]? = _
  rw [alloc_at, if_pos rfl, hz2]
theorem fill_step {place : Nat → Option (Nat × Nat)} {m i off s : Nat} {v : Value} {x y : Nat → Value} {rest : List (Nat × Value)} (hp : place i = some (off, s)) (hv : v.cells = varr s y) (hle : Nat.ble (off + s) m = true) :
    Instr.fill place (varr m x) ((i, v) :: rest) = Instr.fill place (varr m (ovr x off s y)) rest := by
  have hle' : off + s ≤ m := Nat.le_of_ble_eq_true hle
  have key : ∀ (l : List Value) (k : Nat) (a : Array Value), (l.zipIdx k).foldl (fun cs (c, j) => cs.setIfInBounds (off + j) c) a = Array.ofFn (fun q : Fin a.size => if off + k ≤ q.1 ∧ q.1 < off + k + l.length then l.getD (q.1 - off - k) undef else a[q.1]) := by
    intro l
    induction l with
    | nil => intro k a; apply Array.ext <;> simp; intro i h1 h2; omega
    | cons c l ih =>
      intro k a
      rw [List.zipIdx_cons, List.foldl_cons, ih]
      apply Array.ext
      · simp
      · intro q h1 h2
        simp only [Array.size_ofFn, Array.size_setIfInBounds] at h1 h2
        simp only [Array.getElem_ofFn, List.length_cons]
        by_cases c1 : off + (k + 1) ≤ q ∧ q < off + (k + 1) + l.length
        · rw [if_pos c1, if_pos (by omega), show q - off - k = (q - off - (k + 1)) + 1 by omega, List.getD_cons_succ]
        · rw [if_neg c1, Array.getElem_setIfInBounds]
          by_cases c2 : off + k = q
          · rw [if_pos c2, if_pos (by omega), show q - off - k = 0 by omega]; rfl
          · rw [if_neg c2, if_neg (by omega)]
  conv => lhs; unfold Instr.fill
  simp only [hp, hv, varr_size]
  rw [if_neg (by rw [show decide (s ≠ s) = false from decide_eq_false (fun h => h rfl), Bool.false_or]; simpa using hle')]
  congr 1
  rw [← Array.foldl_toList, Array.toList_zipIdx, key]
  refine varr_ext (by simp [varr_size]) fun j hj => ?_
  have hj2 : j < (varr m x).size := by rw [varr_size]; exact hj
  rw [Array.getElem?_ofFn, dif_pos hj2]
  simp only [Array.length_toList, varr_size, ovr, Nat.add_zero, Nat.sub_zero]
  by_cases c : off ≤ j ∧ j < off + s
  · rw [if_pos c, if_pos c, List.getD_eq_getElem?_getD, Array.getElem?_toList, varr_get y (by omega)]; rfl
  rw [if_neg c, if_neg c]
  have := varr_get x hj
  rw [Array.getElem?_eq_getElem hj2] at this
  exact this
theorem x_build {T : TypeId} {parts : List (Nat × Operand)} {vs : List (Nat × Value)} {fs : Array Field} {places : Array (Nat × Nat)} {m : Nat} {x y : Nat → Value} (ho : o.op = .build T parts.toArray) (hp : parts.map (fun p => (p.1, ev f p.2)) = vs) (hs : P.underlying T = some (.struct fs))
    (hpl : fs.mapM (fun fd => (P.info? fd.type).map fun i => (fd.offset, i.size)) = some places) (hz : ((P.info? T).bind (·.zero)).map (·.cells) = some (varr m x)) (hf : Instr.fill (places[·]?) (varr m x) vs = some (varr m y)) : Runs P f o w (.agg (varr m y)) := by
  obtain ⟨z, hz1, hz2⟩ := Option.map_eq_some_iff.1 hz
  obtain ⟨i, hi, hz⟩ := Option.bind_eq_some_iff.1 hz1
  have key : ∀ (g : Field → Sem (Nat × Nat)) (hg : ∀ d x, (P.info? d.type).map (fun i => (d.offset, i.size)) = some x → (g d).run P w = .ok x w) (l : List Field) (r : List (Nat × Nat)), l.mapM (fun fd => (P.info? fd.type).map fun i => (fd.offset, i.size)) = some r → (l.mapM g).run P w = .ok r w := by
    intro g hg l
    induction l with
    | nil => intro r h; simp at h; subst h; simp
    | cons d l ih =>
      intro r h
      rw [List.mapM_cons] at h
      cases h1 : (P.info? d.type).map (fun i => (d.offset, i.size)) with
      | none => rw [h1] at h; cases h
      | some i1 =>
        cases h2 : l.mapM (fun fd => (P.info? fd.type).map fun i => (fd.offset, i.size)) with
        | none => rw [h1, h2] at h; cases h
        | some r2 =>
          rw [h1, h2] at h
          have h3 : i1 :: r2 = r := by simpa using h
          subst h3
          rw [List.mapM_cons]
          simp only [Sem.run_bind, hg d i1 h1, Result.andThen_ok, ih r2 h2, Sem.run_pure]
  have hl : fs.toList.mapM (fun fd => (P.info? fd.type).map fun i => (fd.offset, i.size)) = some places.toList := by
    rw [Array.mapM_eq_mapM_toList] at hpl
    cases hq : fs.toList.mapM (fun fd => (P.info? fd.type).map fun i => (fd.offset, i.size)) with
    | none => rw [hq] at hpl; simp at hpl
    | some r => rw [hq] at hpl; simp at hpl; rw [← hpl]
  have hm : ∀ (g : Field → Sem (Nat × Nat)), (∀ d x, (P.info? d.type).map (fun i => (d.offset, i.size)) = some x → (g d).run P w = .ok x w) → (fs.mapM g).run P w = .ok places w := fun g hg => by
    rw [Array.mapM_eq_mapM_toList]
    simp [key g hg _ _ hl]
  have hg : ∀ (d : Field) (x : Nat × Nat), (P.info? d.type).map (fun i => (d.offset, i.size)) = some x → (do pure (d.offset, ← sizeOf d.type) : Sem (Nat × Nat)).run P w = .ok x w := fun d x h => by
    cases h1 : P.info? d.type with
    | none => rw [h1] at h; cases h
    | some i1 => rw [h1] at h; simp at h; subst h; simp [sizeOf, typeInfo, h1]
  unfold Runs execOp
  simp only [ho, List.map_toArray, hp]
  unfold Instr.build
  simp only [zeroValue, typeInfo, underlying, Sem.run_bind, run_program, Result.andThen_ok, hi, hz, hs, Sem.run_pure, hm _ hg, hz2, hf]
theorem rC {g : FuncId} {fn : Func} {c : Code} {xs : List Operand} {args : List Value} {Ts : Array TypeId} (ho : o.op = .call { callee := .value (.func g), args := xs.toArray, argTypes := Ts }) (hx : xs.map (ev f) = args) (hf : P.funcs[g]? = some fn)
    (hn : (fn.name == "runtime.NumGoroutine") = false) (hb : fn.body = some c) : (execOp (ev f) o).run P w = .ok (.enter g args.toArray) w := by
  unfold execOp
  simp only [ho]
  unfold resolve
  simp only [Sem.run_bind, List.map_toArray, hx, ev, Deferred.ofValue, Sem.run_pure, Result.andThen_ok]
  unfold invoke
  have e : (#[] ++ args.toArray ++ #[] : Array Value) = args.toArray := by simp
  show (callFunc g (#[] ++ args.toArray ++ #[])).run P w = _
  rw [e]
  exact run_enter hf hn hb args.toArray w
theorem r_clo {g : FuncId} {fn : Func} {c : Code} {t : Operand} {xs : List Operand} {args : List Value} {Ts : Array TypeId} {first cap : Array Value} {all : Array Value} (ho : o.op = .call { callee := .value t, args := xs.toArray, argTypes := Ts }) (ht : ev f t = .func (.func g) first cap) (hx : xs.map (ev f) = args) (hall : first ++ args.toArray ++ cap = all)
    (hf : P.funcs[g]? = some fn) (hn : (fn.name == "runtime.NumGoroutine") = false) (hb : fn.body = some c) : (execOp (ev f) o).run P w = .ok (.enter g all) w := by
  unfold execOp
  simp only [ho]
  unfold resolve
  simp only [Sem.run_bind, List.map_toArray, hx, ht, Deferred.ofValue, Sem.run_pure, Result.andThen_ok]
  unfold invoke
  simp only [hall]
  exact run_enter hf hn hb all w
theorem x_func {fn : Fn} {xs ys : List Operand} {us vs : List Value} (ho : o.op = .makeFunc fn xs.toArray ys.toArray) (hx : xs.map (ev f) = us) (hy : ys.map (ev f) = vs) : Runs P f o w (.func fn us.toArray vs.toArray) := by
  unfold Runs execOp
  simp [ho, Instr.makeFunc, hx, hy]
end
end Fx
end Go.Proofs.Ytahbiajdgealnaa
namespace Go.Proofs.Ytahbiajdgealnaa
open Go.RowKit
def litOf : Option IntKind → Value → Option Lit
  | none, .bool b => some (.bool b)
  | some q, .int q' n => if q' = q ∧ (Lit.int q n).wf = true then some (.int q n) else none
  | _, _ => none
def Fit : List (Option IntKind) → List Value → List Lit → Prop
  | [], [], [] => True
  | k :: ks, c :: cs, l :: ls => litOf k c = some l ∧ Fit ks cs ls
  | _, _, _ => False
theorem Fit.lengths : ∀ {ks : List (Option IntKind)} {cs : List Value} {ls : List Lit}, Fit ks cs ls → cs.length = ks.length ∧ ls.length = ks.length
  | [], [], [], _ => ⟨rfl, rfl⟩
  | _ :: _, _ :: _, _ :: _, h => by have := Fit.lengths h.2; simp [this.1, this.2]
  | [], _ :: _, _, h => h.elim
  | [], [], _ :: _, h => h.elim
  | _ :: _, [], _, h => h.elim
  | _ :: _, _ :: _, [], h => h.elim
theorem Fit.split : ∀ {a b : List (Option IntKind)} {cs : List Value} {ls : List Lit}, Fit (a ++ b) cs ls → Fit a (cs.take a.length) (ls.take a.length) ∧ Fit b (cs.drop a.length) (ls.drop a.length)
  | [], b, cs, ls, h => by simpa using ⟨trivial, h⟩
  | k :: a, b, c :: cs, l :: ls, h => by
    have := Fit.split (a := a) h.2
    exact ⟨⟨h.1, by simpa using this.1⟩, by simpa using this.2⟩
  | _ :: _, _, [], _, h => h.elim
  | _ :: _, _, _ :: _, [], h => h.elim
theorem Fit.one {k : Option IntKind} {cs : List Value} {ls : List Lit} (h : Fit [k] cs ls) : ∃ c l, cs = [c] ∧ ls = [l] ∧ litOf k c = some l := by
  have hl := h.lengths
  match cs, ls, hl, h with
  | [c], [l], _, h => exact ⟨c, l, rfl, rfl, h.1⟩
theorem Fit.block {l : List (Option IntKind)} : ∀ {n : Nat} {cs : List Value} {ls : List Lit}, Fit (List.replicate n l).flatten cs ls → ∀ i, i < n → Fit l ((cs.drop (i * l.length)).take l.length) ((ls.drop (i * l.length)).take l.length)
  | 0, _, _, _, i, hi => absurd hi (by omega)
  | n + 1, cs, ls, h, i, hi => by
    rw [List.replicate_succ, List.flatten_cons] at h
    have hs := Fit.split h
    cases i with
    | zero => simpa using hs.1
    | succ i =>
      have := Fit.block hs.2 i (by omega)
      rw [List.drop_drop, List.drop_drop] at this
      rw [Nat.succ_mul, Nat.add_comm]
      exact this
end Go.Proofs.Ytahbiajdgealnaa
namespace Go.Proofs.Ytahbiajdgealnaa
open Go.RowKit
namespace Fx
theorem litOf_inj {k : Option IntKind} {u v : Value} {l : Lit} (h : litOf k u = some l) (h' : litOf k v = some l) : u = v := by
  cases k with
  | none =>
    cases u <;> cases v <;> simp_all [litOf]
    rw [← h] at h'; injection h' with h'; exact h'.symm
  | some q =>
    cases u <;> cases v <;> simp_all [litOf]
    have e := h.2.trans h'.2.symm; injection e
theorem Fit.inj : ∀ {ks : List (Option IntKind)} {a b : List Value} {l : List Lit}, Fit ks a l → Fit ks b l → a = b
  | [], [], [], [], _, _ => rfl
  | _ :: _, _ :: _, _ :: _, _ :: _, h, h' => by rw [litOf_inj h.1 h'.1, Fit.inj h.2 h'.2]
  | [], [], _ :: _, _, _, h' => h'.elim
  | [], _ :: _, _, _, h, _ => h.elim
  | _ :: _, [], _, _, h, _ => h.elim
  | _ :: _, _ :: _, [], _, _, h' => h'.elim
  | _ :: _, _ :: _, _ :: _, [], h, _ => h.elim
  | [], [], [], _ :: _, h, _ => h.elim
theorem Fit.same : ∀ {ks : List (Option IntKind)} {a : List Value} {l l' : List Lit}, Fit ks a l → Fit ks a l' → l = l'
  | [], [], [], [], _, _ => rfl
  | _ :: _, _ :: _, _ :: _, _ :: _, h, h' => by
    have := h.1.symm.trans h'.1
    rw [Option.some.inj this, Fit.same h.2 h'.2]
  | [], [], [], _ :: _, _, h' => h'.elim
  | [], [], _ :: _, _, h, _ => h.elim
  | [], _ :: _, _, _, h, _ => h.elim
  | _ :: _, [], _, _, h, _ => h.elim
  | _ :: _, _ :: _, _ :: _, [], _, h' => h'.elim
  | _ :: _, _ :: _, [], _, h, _ => h.elim
section
variable {P : Program} {n : Nat} {Q : Post} {f : Nat → Value} {w : World} {o : Oper}
theorem run_load1 {T : TypeId} {g off i p m : Nat} {x : Nat → Value} {v : Value} (hc : Cel w g off m x) (hT : oneT P T = true) (hi : i < m) (he : p = off + i) (hv : x i = v) : (loadVar T ⟨g, p, none⟩).run P w = .ok v w := by
  subst he hv
  have h1 := hc i hi
  unfold oneT at hT
  cases hu : P.underlying T with
  | none => rw [hu] at hT; cases hT
  | some d =>
    rw [hu] at hT
    cases d <;> first
      | (cases hT; done)
      | simp [loadVar, isAgg, underlying, hu, h1]
def resV (P : Program) (f : Nat → Value) (w : World) (r : ResultVar) (v : Value) : Prop := match r with
  | .tmp t => f t = v
  | .cell a T => ∃ ad, f a = .pointer (some ad) ∧ (loadVar T ad).run P w = .ok v w
theorem resV.run {r : ResultVar} {v : Value} (h : resV P f w r v) : (rdF f r).run P w = .ok v w := by
  cases r with
  | tmp t => simp only [resV] at h; simp [rdF, h]
  | cell a T => obtain ⟨ad, h1, h2⟩ := h; simp [rdF, h1, asAddr, h2]
theorem rV {fn : Func} {r : ResultVar} {v : Value} (hr : fn.results = #[r]) (h : resV P f w r v) : (resF fn f).run P w = .ok v w := by
  have := h.run
  unfold resF
  rw [hr]
  simp only [List.mapM_toArray, List.mapM_cons, List.mapM_nil]
  simp [this]
theorem retV2 {fn : Func} {r s : ResultVar} {u v : Value} (hr : fn.results = #[r, s]) (h : resV P f w r u) (h' : resV P f w s v) : (resF fn f).run P w = .ok (.tuple #[u, v]) w := by
  have := h.run
  have := h'.run
  unfold resF
  rw [hr]
  simp only [List.mapM_toArray, List.mapM_cons, List.mapM_nil]
  simp [*]
end
end Fx
end Go.Proofs.Ytahbiajdgealnaa
namespace Go.Proofs.Ytahbiajdgealnaa
open Go.RowKit
def Clo (ops : Array Oper) (md : Region.Mode) (l : Array Bool) : Prop := ∀ j o, ops[j]? = some o → l.getD j false = true → ∀ e ∈ o.after, Region.binds md e = true → l.getD e.on false = true
def reach (ops : Array Oper) (md : Region.Mode) : Nat → Nat → Nat → Bool
  | 0, t, i => t == i
  | n + 1, t, i => t == i || (match ops[t]? with | some o => o.after.any (fun e => Region.binds md e && reach ops md n e.on i) | none => false)
theorem getD_setIf_false (l : Array Bool) (i j : Nat) : (l.setIfInBounds i true).getD j false = (if i = j ∧ j < l.size then true else l.getD j false) := by
  simp only [Array.getD_eq_getD_getElem?, Array.getElem?_setIfInBounds]
  by_cases h : i = j
  · subst h
    by_cases h2 : i < l.size
    · simp [h2]
    simp [h2, Array.getElem?_eq_none (Nat.le_of_not_lt h2)]
  simp [h]
theorem Clo.set {ops : Array Oper} {md : Region.Mode} {l : Array Bool} (h : Clo ops md l) {i : Nat} (hi : i ∈ Region.ready md ops l) : Clo ops md (l.setIfInBounds i true) := by
  obtain ⟨_, o', ho', hall⟩ := mem_ready.1 hi
  intro j o ho hj e he hb
  rw [getD_setIf_false]
  split
  · rfl
  rw [getD_setIf_false] at hj
  split at hj
  · rename_i hij
    obtain ⟨rfl, _⟩ := hij
    rw [ho'] at ho
    obtain rfl := Option.some.inj ho
    exact hall e he hb
  exact h j o ho hj e he hb
theorem Clo.start (ops : Array Oper) (md : Region.Mode) (n : Nat) : Clo ops md (Array.replicate n false) := by
  intro j o _ hj
  rw [Array.getD_eq_getD_getElem?] at hj
  by_cases h : j < n
  · simp [h] at hj
  simp [h] at hj
theorem Clo.reach {ops : Array Oper} {md : Region.Mode} {l : Array Bool} {i : Nat} (h : Clo ops md l) : ∀ n t, reach ops md n t i = true → l.getD t false = true → l.getD i false = true
  | 0, t, hr, ht => by
    have e : t = i := by unfold Ytahbiajdgealnaa.reach at hr; simpa using hr
    rw [← e]; exact ht
  | n + 1, t, hr, ht => by
    unfold Ytahbiajdgealnaa.reach at hr
    rw [Bool.or_eq_true] at hr
    rcases hr with hr | hr
    · have e : t = i := by simpa using hr
      rw [← e]; exact ht
    · cases ho : ops[t]? with
      | none => simp [ho] at hr
      | some o =>
        simp only [ho] at hr
        rw [Array.any_eq_true'] at hr
        obtain ⟨e, he, h2⟩ := hr
        rw [Bool.and_eq_true] at h2
        exact Clo.reach h n e.on h2.2 (h t o ho ht e he h2.1)
end Go.Proofs.Ytahbiajdgealnaa
namespace Go.Proofs.Ytahbiajdgealnaa
open Go.RowKit
namespace Fx
abbrev Gh := Nat → Nat × Nat
def updr (r : Gh) (k : Nat) (p : Nat × Nat) : Gh := fun j => bif Nat.beq j k then p else r j
theorem updr_same (r : Gh) (k : Nat) (p : Nat × Nat) : updr r k p k = p := by unfold updr; rw [Nat.beq_refl]; rfl
theorem updr_ne {r : Gh} {k j : Nat} {p : Nat × Nat} (h : j < k) : updr r k p j = r j := by
  unfold updr
  have : Nat.beq j k = false := by
    cases hq : Nat.beq j k
    · rfl
    · exact absurd (Nat.eq_of_beq_eq_true hq) (by omega)
  rw [this]; rfl
def opAt (ops : List Oper) (i : Nat) : Oper := ops.getD i default
def dstIs (s : Nat) : Option Nat → Bool | none => false | some d => Nat.beq d s
def writerFrom (s : Nat) : List Oper → Nat → Option Nat
  | [], _ => none
  | o :: l, i => bif dstIs s o.dst then some i else writerFrom s l (i + 1)
def writer (ops : List Oper) (s : Nat) : Option Nat := writerFrom s ops 0
def over (ops : List Oper) (f : Nat → Value) (v : Nat → Value) (listed : Array Bool) : Nat → Value := fun s => match writer ops s with | some i => (if listed.getD i false then v i else f s) | none => f s
def full (ops : List Oper) (f : Nat → Value) (v : Nat → Value) : Nat → Value := fun s => match writer ops s with | some i => v i | none => f s
def isAfter (o : Oper) (j : Nat) : Bool := o.after.any fun e => Region.binds .any e && Nat.beq e.on j
def opsOk (n : Nat) (ops : List Oper) : Bool :=
  (List.range ops.length).all fun i =>
    let o := opAt ops i
    (match o.dst with | none => true | some d => (match writer ops d with | some j => Nat.beq j i | none => false) && Nat.blt d n) &&
    (o.op.operands.all fun x => match x with | .tmp t => (match writer ops t with | some j => isAfter o j | none => true) | _ => true) &&
    (match o.guard with | none => true | some (j, _) => isAfter o j) && (o.after.all fun e => !Region.binds .any e || Nat.blt e.on i)
theorem writerFrom_spec {s : Nat} : ∀ {l : List Oper} {k i : Nat}, writerFrom s l k = some i → k ≤ i ∧ (opAt l (i - k)).dst = some s ∧ i - k < l.length
  | [], _, _, h => by cases h
  | o :: l, k, i, h => by
    unfold writerFrom at h
    cases hd : dstIs s o.dst
    · rw [hd] at h
      have := writerFrom_spec (l := l) (k := k + 1) (i := i) h
      refine ⟨by omega, ?_, by simp; omega⟩
      have e : i - k = (i - (k + 1)) + 1 := by omega
      rw [e]
      exact this.2.1
    · rw [hd] at h
      have : k = i := by simpa using h
      subst this
      refine ⟨Nat.le_refl _, ?_, by simp⟩
      simp only [Nat.sub_self, opAt, List.getD_cons_zero]
      cases hq : o.dst with
      | none => rw [hq] at hd; cases hd
      | some d => rw [hq] at hd; rw [Nat.eq_of_beq_eq_true hd]
theorem writer_spec {ops : List Oper} {s i : Nat} (h : writer ops s = some i) : (opAt ops i).dst = some s ∧ i < ops.length := by
  have := writerFrom_spec h; simpa using this.2
section
variable {ops : List Oper} {f : Nat → Value} {n : Nat}
theorem opsOk_at (h : opsOk n ops = true) {i : Nat} (hi : i < ops.length) :
    (∀ d, (opAt ops i).dst = some d → writer ops d = some i ∧ d < n) ∧ (∀ t j, .tmp t ∈ (opAt ops i).op.operands → writer ops t = some j → isAfter (opAt ops i) j = true) ∧ (∀ j b, (opAt ops i).guard = some (j, b) → isAfter (opAt ops i) j = true) ∧ (∀ j, isAfter (opAt ops i) j = true → j < i) := by
  unfold opsOk at h
  rw [List.all_eq_true] at h
  have := h i (by simpa using hi)
  simp only [Bool.and_eq_true] at this
  obtain ⟨⟨⟨h1, h2⟩, h3⟩, h4⟩ := this
  refine ⟨fun d hd => ?_, fun t j ht hj => ?_, fun j b hg => ?_, fun j hj => ?_⟩
  · rw [hd] at h1
    simp only [Bool.and_eq_true] at h1
    cases hw : writer ops d with
    | none => rw [hw] at h1; simp at h1
    | some j => rw [hw] at h1; simp only at h1; rw [Nat.eq_of_beq_eq_true h1.1]; exact ⟨rfl, by simpa [Nat.blt_eq] using h1.2⟩
  · rw [Array.all_eq_true'] at h2
    have := h2 _ ht
    simp only [hj] at this
    exact this
  · rw [hg] at h3; exact h3
  unfold isAfter at hj
  rw [Array.any_eq_true'] at hj
  obtain ⟨e, he, h5⟩ := hj
  rw [Bool.and_eq_true] at h5
  rw [Array.all_eq_true'] at h4
  have := h4 e he
  rw [h5.1] at this
  rw [← Nat.eq_of_beq_eq_true h5.2]
  simpa [Nat.blt_eq] using this
theorem set_self {listed : Array Bool} {i : Nat} (h : i < listed.size) : (listed.setIfInBounds i true).getD i false = true := by rw [getD_setIf_false, if_pos ⟨rfl, h⟩]
theorem set_other {listed : Array Bool} {i j : Nat} (h : i ≠ j) : (listed.setIfInBounds i true).getD j false = listed.getD j false := by rw [getD_setIf_false, if_neg (fun q => h q.1)]
theorem over_set (h : opsOk n ops = true) {v : Nat → Value} {listed : Array Bool} (hs : listed.size = ops.length) {i : Nat} (hi : i < ops.length) : put (over ops f v listed) (opAt ops i).dst (v i) = over ops f v (listed.setIfInBounds i true) := by
  have hsp := (opsOk_at h hi).1
  funext s
  unfold over
  cases hd : (opAt ops i).dst with
  | none =>
    simp only [put]
    cases hw : writer ops s with
    | none => rfl
    | some j =>
      simp only
      by_cases e : i = j
      · subst e; rw [(writer_spec hw).1] at hd; cases hd
      · rw [set_other e]
  | some d =>
    simp only [put]
    by_cases e : s = d
    · subst e
      rw [Nat.beq_refl, (hsp s hd).1]
      simp only [cond_true]
      rw [set_self (by omega), if_pos rfl]
    · have hb : Nat.beq s d = false := by
        cases hq : Nat.beq s d
        · rfl
        · exact absurd (Nat.eq_of_beq_eq_true hq) e
      rw [hb]
      simp only [cond_false]
      cases hw : writer ops s with
      | none => rfl
      | some j =>
        simp only
        by_cases e2 : i = j
        · subst e2; rw [(writer_spec hw).1] at hd; exact absurd (Option.some.inj hd) e
        · rw [set_other e2]
theorem ready_after {i : Nat} {listed : Array Bool} (hr : i ∈ Region.ready .any ops.toArray listed) : listed.getD i false = false ∧ i < ops.length ∧ ops.toArray[i]? = some (opAt ops i) ∧ ∀ j, isAfter (opAt ops i) j = true → listed.getD j false = true := by
  obtain ⟨h1, o, ho, hall⟩ := mem_ready.1 hr
  have hi : i < ops.length := by
    have := (Array.getElem?_eq_some_iff.1 ho).1; simpa using this
  have he : opAt ops i = o := by
    unfold opAt
    rw [List.getElem?_toArray] at ho
    rw [List.getD_eq_getElem?_getD, ho]; rfl
  refine ⟨getD_both h1, hi, by rw [he]; exact ho, fun j hj => ?_⟩
  rw [he] at hj
  unfold isAfter at hj
  rw [Array.any_eq_true'] at hj
  obtain ⟨e, hem, h2⟩ := hj
  rw [Bool.and_eq_true] at h2
  rw [← Nat.eq_of_beq_eq_true h2.2]
  exact hall e hem h2.1
theorem over_ev (h : opsOk n ops = true) {v : Nat → Value} {listed : Array Bool} {i : Nat} (hr : i ∈ Region.ready .any ops.toArray listed) : ∀ x ∈ (opAt ops i).op.operands, ev (over ops f v listed) x = ev (full ops f v) x := by
  obtain ⟨_, hi, _, hall⟩ := ready_after hr
  intro x hx
  cases x with
  | tmp t =>
    show over ops f v listed t = full ops f v t
    unfold over full
    cases hw : writer ops t with
    | none => rfl
    | some j => simp only; rw [if_pos (hall j ((opsOk_at h hi).2.1 t j hx hw))]
  | _ => rfl
theorem over_wanted (h : opsOk n ops = true) {v : Nat → Value} {listed : Array Bool} {i : Nat} (hr : i ∈ Region.ready .any ops.toArray listed) : Region.wanted (opAt ops i) (yf ops.toArray (over ops f v listed)) = Region.wanted (opAt ops i) (yf ops.toArray (full ops f v)) := by
  obtain ⟨_, hi, _, hall⟩ := ready_after hr
  unfold Region.wanted
  cases hg : (opAt ops i).guard with
  | none => rfl
  | some jb =>
    obtain ⟨j, b⟩ := jb
    simp only
    have hl := hall j ((opsOk_at h hi).2.2.1 j b hg)
    congr 1
    unfold yf
    cases hd : (ops.toArray[j]?).bind (·.dst) with
    | none => rfl
    | some d =>
      simp only
      have hj : j < ops.length := by
        cases hq : ops.toArray[j]? with
        | none => rw [hq] at hd; cases hd
        | some o => have := (Array.getElem?_eq_some_iff.1 hq).1; simpa using this
      have hdd : (opAt ops j).dst = some d := by
        unfold opAt
        rw [List.getElem?_toArray] at hd
        rw [List.getD_eq_getElem?_getD]
        cases hq : ops[j]? with
        | none => rw [hq] at hd; cases hd
        | some o => rw [hq] at hd; exact hd
      have hw := ((opsOk_at h hj).1 d hdd).1
      have e : over ops f v listed d = full ops f v d := by unfold over full; rw [hw]; simp only; rw [if_pos hl]
      rw [e]
end
def pathB (ops : List Oper) : Nat → List Nat → Nat → Bool
  | t, [], i => Nat.beq t i
  | t, j :: l, i => isAfter (opAt ops t) j && pathB ops j l i
theorem pathB_reach {ops : List Oper} : ∀ {p : List Nat} {t i : Nat}, pathB ops t p i = true → ∃ m, reach ops.toArray .any m t i = true
  | [], t, i, h => ⟨0, by unfold reach; rw [Nat.eq_of_beq_eq_true h]; simp⟩
  | j :: l, t, i, h => by
    unfold pathB at h
    rw [Bool.and_eq_true] at h
    obtain ⟨m, hm⟩ := pathB_reach h.2
    refine ⟨m + 1, ?_⟩
    unfold reach
    rw [Bool.or_eq_true]
    right
    have h1 := h.1
    unfold isAfter at h1
    rw [Array.any_eq_true'] at h1
    obtain ⟨e, he, h2⟩ := h1
    rw [Bool.and_eq_true] at h2
    have ho : ops.toArray[t]? = some (opAt ops t) := by
      unfold opAt at he ⊢
      rw [List.getElem?_toArray, List.getD_eq_getElem?_getD]
      cases hq : ops[t]? with
      | none =>
        rw [List.getD_eq_getElem?_getD, hq] at he
        exact absurd he (by simp [show (default : Oper).after = #[] from rfl])
      | some o => rfl
    rw [ho]
    simp only
    rw [Array.any_eq_true']
    exact ⟨e, he, by rw [h2.1, Nat.eq_of_beq_eq_true h2.2, hm]; rfl⟩
abbrev Span := Nat × Nat × List Nat × List Nat
def noSpan : Span := (0, 0, [], [])
def loOk (ops : List Oper) (es : List Nat) (i lo : Nat) (p : List Nat) : Bool := match lo with | 0 => true | k + 1 => (match es[k]? with | some e => pathB ops i p e | none => false)
def hiOk (ops : List Oper) (es : List Nat) (i hi : Nat) (p : List Nat) : Bool := match es[hi]? with | some e => pathB ops e p i | none => true
def chainOk (ops : List Oper) : List Nat → Bool
  | [] => true
  | [_] => true
  | a :: b :: l => reach ops.toArray .any 5 b a && !Nat.beq b a && chainOk ops (b :: l)
def spanOk (ops : List Oper) (es : List Nat) (sp : List Span) : Bool := Nat.beq sp.length ops.length && (List.range ops.length).all fun i => es.contains i || (loOk ops es i (sp.getD i noSpan).1 (sp.getD i noSpan).2.2.1 && hiOk ops es i (sp.getD i noSpan).2.1 (sp.getD i noSpan).2.2.2)
section
variable {P : Program} {n : Nat} {Q : Post} {f : Nat → Value} {w : World} {ops : List Oper}
def QOk (P : Program) (ops : List Oper) (f : Nat → Value) (vals : Gh → Nat → Value) (S : Nat → Gh → World → Prop) (i lo hi : Nat) : Prop :=
  ∀ r k w, lo ≤ k → k ≤ hi → S k r w → if Region.wanted (opAt ops i) (yf ops.toArray (full ops f (vals r))) then Oper.quietUpon P (S k r) w (vals r i) ((execOp (ev (full ops f (vals r))) (opAt ops i)).run P w) else vals r i = undef
def EOk (P : Program) (ops : List Oper) (f : Nat → Value) (vals : Gh → Nat → Value) (S : Nat → Gh → World → Prop) (Q' : Exit → Act → World → Prop) (i k : Nat) : Prop :=
  ∀ r w (a : Act) (K : Act → World → Prop), S k r w → (∀ x ∈ (opAt ops i).op.operands, a.eval x = ev (full ops f (vals r)) x) → (∀ p w', S (k + 1) (updr r k p) w' → K (a.put (opAt ops i).dst (vals (updr r k p) i)) w') → (opAt ops i).wp P a w K Q'
def DOk (vals : Gh → Nat → Value) (i d : Nat) : Prop := ∀ k r p, d ≤ k → vals (updr r k p) i = vals r i
theorem W.drawn {id : Nat} (es : List Nat) (sp : List Span) (vals : Gh → Nat → Value) (S : Nat → Gh → World → Prop) (hm : P.follows .mixedOrders = true) (hok : opsOk n ops = true) (hsel : Region.noSelect ops.toArray = true) (hch : chainOk ops es = true) (hsp : spanOk ops es sp = true)
    (hes : es.all (fun e => Nat.blt e ops.length && (match (opAt ops e).guard with | none => true | _ => false)) = true) (hnd : es.Nodup)
    (h0 : ∀ w1, Below w.heap.size w w1 → w1.heap.size = w.heap.size → ∃ r, S 0 r w1)
    (hq : ∀ i, i < ops.length → es.contains i = false → QOk P ops f vals S i (sp.getD i noSpan).1 (sp.getD i noSpan).2.1)
    (he : ∀ k i, es[k]? = some i → EOk P ops f vals S (lift n Q) i k)
    (hdq : ∀ i, i < ops.length → es.contains i = false → DOk vals i (sp.getD i noSpan).1)
    (hde : ∀ k i, es[k]? = some i → DOk vals i (k + 1))
    (h : ∀ r w', S es.length r w' → Q .normal (full ops f (vals r)) w') : W P n (.region id ops.toArray true) Q f w := fun a ha => by
  refine wp_region_any hm ?_
  have hspan : ∀ i, i < ops.length → es.contains i = false → loOk ops es i (sp.getD i noSpan).1 (sp.getD i noSpan).2.2.1 = true ∧ hiOk ops es i (sp.getD i noSpan).2.1 (sp.getD i noSpan).2.2.2 = true := fun i hi hne => by
    unfold spanOk at hsp
    rw [Bool.and_eq_true, List.all_eq_true] at hsp
    have := hsp.2 i (by simpa using hi)
    rw [hne, Bool.false_or, Bool.and_eq_true] at this
    exact this
  have hesl : ∀ k i, es[k]? = some i → i < ops.length ∧ (opAt ops i).guard = none := fun k i hk => by
    rw [List.all_eq_true] at hes
    have := hes i (List.mem_of_getElem? hk)
    rw [Bool.and_eq_true] at this
    refine ⟨by simpa [Nat.blt_eq] using this.1, ?_⟩
    cases hg : (opAt ops i).guard with
    | none => rfl
    | some _ => rw [hg] at this; exact absurd this.2 (by simp)
  -- the invariant
  have key : ∀ (fuel : Nat) (listed : Array Bool) (a : Act) (w1 : World) (r : Gh) (k : Nat), listed.size = ops.length → Clo ops.toArray .any listed → (∀ j e, es[j]? = some e → listed.getD e false = decide (j < k)) → k ≤ es.length → Fr a n (over ops f (vals r) listed) → S k r w1 →
      (∀ fl : List Nat, fl = (List.range ops.length).filter (fun i => !listed.getD i false) → fl.length = fuel) → wpAny P .any ops.toArray (lift n Q) fuel listed a w1 := by
    intro fuel
    induction fuel with
    | zero =>
      intro listed a w1 r k hsz hclo hpre hk ha hS hfl
      have hall : ∀ i, i < ops.length → listed.getD i false = true := fun i hi => by
        have h1 := List.eq_nil_of_length_eq_zero (hfl _ rfl)
        cases hq : listed.getD i false
        · have : i ∈ (List.range ops.length).filter (fun i => !listed.getD i false) := by simp only [List.mem_filter, List.mem_range]; exact ⟨hi, by rw [hq]; rfl⟩
          rw [h1] at this; cases this
        · rfl
      have hkk : k = es.length := by
        by_cases hlt : k < es.length
        · have := hpre k es[k] (List.getElem?_eq_getElem hlt)
          rw [hall _ (hesl k _ (List.getElem?_eq_getElem hlt)).1] at this
          simp at this
        · omega
      have hnone : Region.ready .any ops.toArray listed = [] := by
        cases hq : Region.ready .any ops.toArray listed with
        | nil => rfl
        | cons i l =>
          have hr : i ∈ Region.ready .any ops.toArray listed := by rw [hq]; exact List.mem_cons_self
          obtain ⟨h1, h2, _, _⟩ := ready_after hr
          rw [hall i h2] at h1; cases h1
      refine ⟨hnone, full ops f (vals r), ?_, h r w1 (hkk ▸ hS)⟩
      have : over ops f (vals r) listed = full ops f (vals r) := by
        funext s
        unfold over full
        cases hw : writer ops s with
        | none => rfl
        | some i => simp only; rw [if_pos (hall i (writer_spec hw).2)]
      exact this ▸ ha
    | succ fuel ih =>
      intro listed a w1 r k hsz hclo hpre hk ha hS hfl
      have hcount : ∀ i, i ∈ Region.ready .any ops.toArray listed → ∀ fl : List Nat, fl = (List.range ops.length).filter (fun j => !(listed.setIfInBounds i true).getD j false) → fl.length = fuel := by
        intro i hr fl hfl2
        obtain ⟨h1, h2, _, _⟩ := ready_after hr
        subst hfl2
        have e : (List.range ops.length).filter (fun j => !(listed.setIfInBounds i true).getD j false) = ((List.range ops.length).filter (fun i => !listed.getD i false)).erase i := by
          rw [List.Nodup.erase_eq_filter (List.Nodup.sublist List.filter_sublist List.nodup_range), List.filter_filter]
          apply List.filter_congr
          intro j hj
          by_cases e : i = j
          · subst e; rw [set_self (by rw [hsz]; exact h2)]; simp
          · rw [set_other e]
            have : (j != i) = true := by simp; exact fun q => e q.symm
            rw [this, Bool.true_and]
        rw [e, List.length_erase_of_mem (by simp only [List.mem_filter, List.mem_range]; exact ⟨h2, by rw [h1]; rfl⟩), hfl _ rfl]
        rfl
      refine ⟨fun hnone => ?_, fun i hr => ?_⟩
      · -- something must be ready: the first that is not listed
        exfalso
        have hlen := hfl _ rfl
        -- least unlisted index by position waits only for smaller ones?  not known: use that every unlisted op waits for an unlisted one is impossible when the region can be linearised
        exact (by
          have : ∃ i, i ∈ Region.ready .any ops.toArray listed := by
            obtain ⟨q, hq⟩ : ∃ q, q ∈ (List.range ops.length).filter (fun i => !listed.getD i false) := by
              cases hfe : (List.range ops.length).filter (fun i => !listed.getD i false) with
              | nil => rw [hfe] at hlen; cases hlen
              | cons q l => exact ⟨q, List.mem_cons_self⟩
            have hleast : ∀ m q, q ≤ m → q < ops.length → listed.getD q false = false → ∃ i, i < ops.length ∧ listed.getD i false = false ∧ ∀ j, j < i → listed.getD j false = true := by
              intro m
              induction m with
              | zero => intro q hm hq1 hq2; exact ⟨q, hq1, hq2, fun j hj => by omega⟩
              | succ m ihm =>
                intro q hm hq1 hq2
                by_cases hall : ∀ j, j < q → listed.getD j false = true
                · exact ⟨q, hq1, hq2, hall⟩
                · obtain ⟨j, hj⟩ := Classical.not_forall.1 hall
                  obtain ⟨hj1, hj2⟩ := Classical.not_imp.1 hj
                  exact ihm j (by omega) (by omega) (by simpa using hj2)
            simp only [List.mem_filter, List.mem_range] at hq
            obtain ⟨i, hi, hi1, hi2⟩ := hleast q q (Nat.le_refl _) hq.1 (by simpa using hq.2)
            refine ⟨i, mem_ready.2 ⟨getD_in (by rw [hsz]; exact hi) hi1, opAt ops i, ?_, fun e he hb => hi2 e.on ((opsOk_at hok hi).2.2.2 e.on ?_)⟩⟩
            · unfold opAt; rw [List.getElem?_toArray, List.getD_eq_getElem?_getD, List.getElem?_eq_getElem hi]; rfl
            · unfold isAfter; rw [Array.any_eq_true']; exact ⟨e, he, by rw [hb, Nat.beq_refl]; rfl⟩
          obtain ⟨i, hi⟩ := this
          rw [hnone] at hi; cases hi)
      · obtain ⟨h1, hi, hop, hall⟩ := ready_after hr
        have hsz' : (listed.setIfInBounds i true).size = ops.length := by simpa using hsz
        have hclo' := hclo.set hr
        have hev := over_ev (f := f) hok (v := vals r) hr
        have hae : ∀ x ∈ (opAt ops i).op.operands, a.eval x = ev (full ops f (vals r)) x := fun x hx => by rw [ha.ev]; exact hev x hx
        have hex : execOp a.eval (opAt ops i) = execOp (ev (full ops f (vals r))) (opAt ops i) := execOp_congr _ (Region.noSelect_spec hsel i _ · · hop) hae
        have hwant : Region.wanted (opAt ops i) (yielded ops.toArray a.tmps) = Region.wanted (opAt ops i) (yf ops.toArray (full ops f (vals r))) := by rw [ha.yf]; exact over_wanted hok hr
        unfold wpOp
        simp only [hop]
        rw [hwant]
        by_cases hne : es.contains i = true
        · -- an effect
          have hmem : i ∈ es := by simpa using hne
          obtain ⟨j, hj⟩ := List.getElem?_of_mem hmem
          have hg := (hesl j i hj).2
          have hjk : j = k := by
            have h3 := hpre j i hj
            rw [h1] at h3
            have h4 : ¬ j < k := by simpa using h3.symm
            by_cases hlt : k < j
            · -- the one ahead of it is listed
              exfalso
              obtain ⟨j', rfl⟩ : ∃ j', j = j' + 1 := ⟨j - 1, by omega⟩
              have hj' : j' < es.length := by have := (List.getElem?_eq_some_iff.1 hj).1; omega
              have hreach : ∀ {l : List Nat}, chainOk ops l = true → ∀ k e e', l[k]? = some e' → l[k + 1]? = some e → reach ops.toArray .any 5 e e' = true ∧ e ≠ e' := by
                intro l
                induction l with
                | nil => intro _ k e e' h _; simp at h
                | cons a l ih2 =>
                  intro hk k e e' h1 h2
                  cases l with
                  | nil => cases k <;> simp at h2
                  | cons b l =>
                    unfold chainOk at hk
                    simp only [Bool.and_eq_true] at hk
                    cases k with
                    | zero =>
                      simp at h1 h2; subst h1 h2
                      refine ⟨hk.1.1, fun e => ?_⟩
                      rw [e, Nat.beq_refl] at hk; exact absurd hk.1.2 (by simp)
                    | succ k => exact ih2 hk.2 k e e' (by simpa using h1) (by simpa using h2)
              obtain ⟨hr1, hne1⟩ := hreach hch j' i es[j'] (List.getElem?_eq_getElem hj') hj
              have hl : listed.getD es[j'] false = true := by
                unfold reach at hr1
                rw [Bool.or_eq_true] at hr1
                rcases hr1 with hr1 | hr1
                · exact absurd (by simpa using hr1) hne1
                · rw [hop] at hr1
                  simp only at hr1
                  rw [Array.any_eq_true'] at hr1
                  obtain ⟨e, he1, he2⟩ := hr1
                  rw [Bool.and_eq_true] at he2
                  refine hclo.reach _ _ he2.2 (hall e.on ?_)
                  unfold isAfter
                  rw [Array.any_eq_true']
                  exact ⟨e, he1, by rw [he2.1, Nat.beq_refl]; rfl⟩
              have h5 := hpre j' es[j'] (List.getElem?_eq_getElem hj')
              rw [hl] at h5
              have : j' < k := by simpa using h5.symm
              omega
            · omega
          subst hjk
          have hjl : j < es.length := (List.getElem?_eq_some_iff.1 hj).1
          rw [if_pos (by unfold Region.wanted; rw [hg])]
          refine .inl (he j i hj r w1 a _ hS hae fun p w' hS' => ?_)
          -- the values that are listed stay
          have hsame : over ops f (vals r) listed = over ops f (vals (updr r j p)) listed := by
            funext s
            unfold over
            cases hw : writer ops s with
            | none => rfl
            | some q =>
              simp only
              cases hlq : listed.getD q false
              · rfl
              · simp only [if_true]
                by_cases hqe : es.contains q = true
                · obtain ⟨jq, hjq⟩ := List.getElem?_of_mem (show q ∈ es by simpa using hqe)
                  have h6 := hpre jq q hjq
                  rw [hlq] at h6
                  have h7 : jq < j := by simpa using h6.symm
                  exact (hde jq q hjq j r p (by omega)).symm
                · have hqe' : es.contains q = false := by simpa using hqe
                  have hqi := (writer_spec hw).2
                  refine (hdq q hqi hqe' j r p ?_).symm
                  have hlo := (hspan q hqi hqe').1
                  unfold loOk at hlo
                  split at hlo
                  · rename_i hz; rw [hz]; exact Nat.zero_le _
                  · rename_i k' hz
                    rw [hz]
                    cases hek : es[k']? with
                    | none => rw [hek] at hlo; cases hlo
                    | some e =>
                      rw [hek] at hlo
                      obtain ⟨mm, hlo⟩ := pathB_reach hlo
                      have h8 := hclo.reach _ _ hlo hlq
                      rw [hpre k' e hek] at h8
                      have : k' < j := by simpa using h8
                      omega
          refine ih _ _ _ (updr r j p) (j + 1) hsz' hclo' ?_ hjl ?_ hS' (hcount i hr)
          · intro q e hqe
            by_cases eq : i = e
            · subst eq
              have : q = j := by
                have h9 := (List.getElem?_eq_some_iff.1 hqe)
                have h10 := (List.getElem?_eq_some_iff.1 hj)
                exact (List.getElem_inj hnd).1 (h9.2.trans h10.2.symm)
              rw [set_self (by rw [hsz]; exact hi), this]
              simp
            · rw [set_other eq, hpre q e hqe]
              have : q ≠ j := fun z => by subst z; rw [hj] at hqe; exact eq (Option.some.inj hqe)
              by_cases c : q < j
              · rw [decide_eq_true c, decide_eq_true (by omega)]
              · rw [decide_eq_false c, decide_eq_false (by omega)]
          · have := (hsame ▸ ha).put (d := (opAt ops i).dst) (by
              cases hd : (opAt ops i).dst with
              | none => rfl
              | some d => simp [inn, Nat.blt_eq, ((opsOk_at hok hi).1 d hd).2]) (vals (updr r j p) i)
            rwa [over_set hok hsz hi] at this
        · have hne' : es.contains i = false := by simpa using hne
          obtain ⟨hlo, hhi⟩ := hspan i hi hne'
          have hl1 : (sp.getD i noSpan).1 ≤ k := by
            unfold loOk at hlo
            split at hlo
            · rename_i hz; rw [hz]; exact Nat.zero_le _
            · rename_i k' hz
              rw [hz]
              cases hek : es[k']? with
              | none => rw [hek] at hlo; cases hlo
              | some e =>
                rw [hek] at hlo
                have hne2 : i ≠ e := fun q => by subst q; exact absurd (show es.contains i = true by simpa using List.mem_of_getElem? hek) hne
                have hl : listed.getD e false = true := by
                  obtain ⟨mm, hlo⟩ := pathB_reach hlo
                  cases mm with
                  | zero => unfold reach at hlo; exact absurd (by simpa using hlo) hne2
                  | succ mm =>
                  unfold reach at hlo
                  rw [Bool.or_eq_true] at hlo
                  rcases hlo with hr1 | hr1
                  · exact absurd (by simpa using hr1) hne2
                  · rw [hop] at hr1
                    simp only at hr1
                    rw [Array.any_eq_true'] at hr1
                    obtain ⟨e2, he1, he2⟩ := hr1
                    rw [Bool.and_eq_true] at he2
                    refine hclo.reach _ _ he2.2 (hall e2.on ?_)
                    unfold isAfter
                    rw [Array.any_eq_true']
                    exact ⟨e2, he1, by rw [he2.1, Nat.beq_refl]; rfl⟩
                rw [hpre k' e hek] at hl
                have : k' < k := by simpa using hl
                omega
          have hl2 : k ≤ (sp.getD i noSpan).2.1 ∨ es.length ≤ (sp.getD i noSpan).2.1 := by
            unfold hiOk at hhi
            cases hek : es[(sp.getD i noSpan).2.1]? with
            | none => right; exact List.getElem?_eq_none_iff.1 hek
            | some e =>
              left
              rw [hek] at hhi
              have h3 := hpre _ e hek
              cases hle : listed.getD e false
              · rw [hle] at h3
                have : ¬ (sp.getD i noSpan).2.1 < k := by simpa using h3.symm
                omega
              · obtain ⟨mm, hhi⟩ := pathB_reach hhi
                have := hclo.reach _ _ hhi hle
                rw [h1] at this; cases this
          have hq1 := hq i hi hne' r k w1 hl1 (by rcases hl2 with q | q <;> omega) hS
          have hfin : ∀ w', S k r w' → wpAny P .any ops.toArray (lift n Q) fuel (listed.setIfInBounds i true) (a.put (opAt ops i).dst (vals r i)) w' := fun w' hS' => by
            refine ih _ _ _ r k hsz' hclo' ?_ hk ?_ hS' (hcount i hr)
            · intro q e hqe
              have : i ≠ e := fun z => by subst z; exact absurd (show es.contains i = true by simpa using List.mem_of_getElem? hqe) hne
              rw [set_other this]
              exact hpre q e hqe
            · have := ha.put (d := (opAt ops i).dst) (by
                cases hd : (opAt ops i).dst with
                | none => rfl
                | some d => simp [inn, Nat.blt_eq, ((opsOk_at hok hi).1 d hd).2]) (vals r i)
              rwa [over_set hok hsz hi] at this
          by_cases hwt : Region.wanted (opAt ops i) (yf ops.toArray (full ops f (vals r))) = true
          · rw [if_pos hwt] at hq1 ⊢
            refine .inl ?_
            unfold Oper.wp
            rw [hex]
            generalize (execOp (ev (full ops f (vals r))) (opAt ops i)).run P w1 = res at hq1
            cases res with
            | ok nx w' =>
              cases nx <;> simp only [Oper.quietUpon] at hq1 <;> simp only [Oper.upon]
              case value u => obtain ⟨e1, e2⟩ := hq1; subst e1 e2; exact hfin _ hS
              case skip => obtain ⟨e1, e2⟩ := hq1; subst e1; rw [← e2]; exact hfin _ hS
              case enter g args =>
                obtain ⟨e1, hc⟩ := hq1
                subst e1
                exact hc.mono fun e w'' ⟨he', hw''⟩ => by subst he'; exact hfin _ hw''
            | halt x w' => simp only [Oper.quietUpon] at hq1
          · rw [if_neg hwt] at hq1 ⊢
            rw [← hq1]
            exact hfin _ hS
  obtain ⟨r, hr⟩ := h0 { w with drawn := w.drawn + 1 } (Below.refl _ _).drew rfl
  have hstart : over ops f (vals r) (Array.replicate ops.toArray.size false) = f := by
    funext s
    unfold over
    cases writer ops s with
    | none => rfl
    | some i =>
      simp only
      rw [show (Array.replicate ops.toArray.size false).getD i false = false from by
        rw [Array.getD_eq_getD_getElem?]
        by_cases hi : i < ops.length
        · simp [hi]
        · simp [hi]]
      simp
  have hrep : ∀ i, (Array.replicate ops.toArray.size false).getD i false = false := fun i => by
    rw [Array.getD_eq_getD_getElem?]
    by_cases hi : i < ops.length
    · simp [hi]
    · simp [hi]
  have := key ops.toArray.size (Array.replicate ops.toArray.size false) a { w with drawn := w.drawn + 1 } r 0 (by simp) (Clo.start _ _ _) (fun j e _ => by rw [hrep]; simp) (Nat.zero_le _) (by rw [hstart]; exact ha) hr (fun fl hfl => by
    subst hfl
    have : (List.range ops.length).filter (fun i => !(Array.replicate ops.toArray.size false).getD i false) = List.range ops.length := List.filter_eq_self.2 fun i _ => by rw [hrep]; rfl
    rw [this]; simp)
  exact this
end
end Fx
end Go.Proofs.Ytahbiajdgealnaa
namespace Go.Proofs.Ytahbiajdgealnaa
open Go.RowKit
namespace Fx
section
variable {P : Program} {n : Nat} {Q : Post} {f : Nat → Value} {w : World} {ops : List Oper}
def vOne (ia : Nat) (vs : Array Value) : Gh → Nat → Value := fun r i => bif Nat.beq i ia then .pointer (some ⟨(r 0).1, 0, none⟩) else vs.getD i undef
def sOne (w : World) (m : Nat) (z y : Nat → Value) (T : TypeId) : Nat → Gh → World → Prop := fun k r w1 => Below w.heap.size w w1 ∧ (match k with | 0 => True | 1 => w.heap.size ≤ (r 0).1 ∧ Blk w1 (r 0).1 m z T | _ => w.heap.size ≤ (r 0).1 ∧ Blk w1 (r 0).1 m y T)
theorem sOne.up {m : Nat} {z y : Nat → Value} {T : TypeId} {k : Nat} {r : Gh} {w1 w2 : World} (h : sOne w m z y T k r w1) (hb : Below w1.heap.size w1 w2) : sOne w m z y T k r w2 := by
  refine ⟨bch h.1 hb, ?_⟩
  have h2 := h.2
  cases k with
  | zero => trivial
  | succ k => cases k with
    | zero => exact ⟨h2.1, h2.2.stp (Sb hb) (Nat.ne_of_lt h2.2.lt)⟩
    | succ k => exact ⟨h2.1, h2.2.stp (Sb hb) (Nat.ne_of_lt h2.2.lt)⟩
def QB (P : Program) (ρ : Operand → Value) (o : Oper) (w : World) (v : Value) : Prop := ∀ w1, Below w.heap.size w w1 → (execOp ρ o).run P w1 = .ok (.value v) w1 ∨ ∃ g args, (execOp ρ o).run P w1 = .ok (.enter g args) w1 ∧ Calls P g args w1 fun e w2 => e = .returned v ∧ Below w1.heap.size w1 w2
def qbAll (P : Program) (f' : Nat → Value) (ops : Array Oper) (w : World) (ia st : Nat) (vs : Array Value) : List Oper → Nat → Prop
  | [], _ => True
  | o :: l, i => (Nat.beq i ia = true ∨ Nat.beq i st = true ∨ (if Region.wanted o (yf ops f') then QB P (ev f') o w (vs.getD i undef) else vs.getD i undef = undef)) ∧ qbAll P f' ops w ia st vs l (i + 1)
theorem qbAll_at {f' : Nat → Value} {opsA : Array Oper} {ia st : Nat} {vs : Array Value} : ∀ {l : List Oper} {k : Nat}, qbAll P f' opsA w ia st vs l k → ∀ i, i < l.length → (k + i = ia ∨ k + i = st ∨ (if Region.wanted (opAt l i) (yf opsA f') then QB P (ev f') (opAt l i) w (vs.getD (k + i) undef) else vs.getD (k + i) undef = undef))
  | [], _, _, i, hi => absurd hi (by simp)
  | o :: l, k, h, 0, _ => by
    rcases h.1 with h1 | h1 | h1
    · exact .inl (Nat.eq_of_beq_eq_true h1)
    · exact .inr (.inl (Nat.eq_of_beq_eq_true h1))
    · exact .inr (.inr h1)
  | o :: l, k, h, i + 1, hi => by
    have := qbAll_at h.2 i (by simpa using hi)
    rwa [show k + 1 + i = k + (i + 1) by omega] at this
def fOne (ops : List Oper) (f : Nat → Value) (ia : Nat) (vs : Array Value) (g : Nat) : Nat → Value := full ops f (fun i => bif Nat.beq i ia then .pointer (some ⟨g, 0, none⟩) else vs.getD i undef)
theorem W.one {id : Nat} {T T' : TypeId} {a v : Operand} {m : Nat} {z y : Nat → Value} {u : Value} (ia st : Nat) (sp : List Span) (vs : Array Value) (hm : P.follows .mixedOrders = true) (hok : opsOk n ops = true) (hsel : Region.noSelect ops.toArray = true) (hch : chainOk ops [ia, st] = true) (hsp : spanOk ops [ia, st] sp = true)
    (hes : [ia, st].all (fun e => Nat.blt e ops.length && (match (opAt ops e).guard with | none => true | _ => false)) = true)
    (hia : (opAt ops ia).op = .alloc T) (hz : ((P.info? T).bind (·.zero)).map (·.cells) = some (varr m z))
    (hst : (opAt ops st).op = .store T' a v) (hsd : (opAt ops st).dst = none) (hsz : (P.info? T').map (·.size) = some m) (ha : ∀ g, ev (fOne ops f ia vs g) a = .pointer (some ⟨g, 0, none⟩)) (hv : ∀ g, ev (fOne ops f ia vs g) v = u) (hu : u.cells = varr m y) (h1 : ∀ j, j < m → (y j).oneCell' = true) (hvs : vs.getD st undef = undef)
    (hq : ∀ g, qbAll P (fOne ops f ia vs g) ops.toArray w ia st vs ops 0)
    (h : ∀ g w' f', f' = fOne ops f ia vs g → w.heap.size ≤ g → Blk w' g m y T → Below w.heap.size w w' → Q .normal f' w') : W P n (.region id ops.toArray true) Q f w := by
  have hne : ia ≠ st := by
    unfold chainOk at hch
    simp only [Bool.and_eq_true] at hch
    intro e; subst e; rw [Nat.beq_refl] at hch; exact absurd hch.1.2 (by simp)
  have hval : ∀ r i, vOne ia vs r i = (fun i => bif Nat.beq i ia then Value.pointer (some ⟨(r 0).1, 0, none⟩) else vs.getD i undef) i := fun _ _ => rfl
  have hbia : Nat.beq ia ia = true := Nat.beq_refl _
  have hbst : Nat.beq st ia = false := by
    cases hq : Nat.beq st ia
    · rfl
    · exact absurd (Nat.eq_of_beq_eq_true hq).symm hne
  refine W.drawn [ia, st] sp (vOne ia vs) (sOne w m z y T) hm hok hsel hch hsp hes (by simp [hne]) (fun w1 hb _ => ⟨fun _ => (0, 0), hb, trivial⟩) ?_ ?_ ?_ ?_ ?_
  · intro i hi hni r k w1 _ _ hS
    have hni' : i ≠ ia ∧ i ≠ st := by simpa using hni
    have hb : Nat.beq i ia = false := by
      cases hq : Nat.beq i ia
      · rfl
      · exact absurd (Nat.eq_of_beq_eq_true hq) hni'.1
    have hv' : vOne ia vs r i = vs.getD i undef := by unfold vOne; rw [hb]; rfl
    rcases qbAll_at (hq (r 0).1) i hi with h2 | h2 | h2
    · exact absurd h2 (by omega)
    · exact absurd h2 (by omega)
    rw [Nat.zero_add] at h2
    have hff : full ops f (vOne ia vs r) = fOne ops f ia vs (r 0).1 := rfl
    rw [hff, hv']
    by_cases hw : Region.wanted (opAt ops i) (yf ops.toArray (fOne ops f ia vs (r 0).1)) = true
    · rw [if_pos hw] at h2 ⊢
      rcases h2 w1 hS.1 with h3 | ⟨g, args, h3, h4⟩
      · rw [h3]; exact ⟨rfl, rfl⟩
      rw [h3]; exact ⟨rfl, h4.mono fun e w2 ⟨he, hb2⟩ => ⟨he, hS.up hb2⟩⟩
    rw [if_neg hw] at h2 ⊢; exact h2
  · intro k i hk
    cases k with
    | zero =>
      simp at hk; subst hk
      intro r w1 b K hS hb hK
      obtain ⟨zz, hz1, hz2⟩ := Option.map_eq_some_iff.1 hz
      obtain ⟨ti, hi1, hz3⟩ := Option.bind_eq_some_iff.1 hz1
      have hrun : (execOp b.eval (opAt ops ia)).run P w1 = .ok (.value (.pointer (some ⟨w1.heap.size, 0, none⟩))) (w1.alloc (.cells zz.cells T)) := by
        unfold execOp
        simp [hia, Instr.alloc, zeroValue, typeInfo, hi1, hz3, newVar, newRow]
      unfold Oper.wp
      rw [hrun]
      have := hK (w1.heap.size, 0) (w1.alloc (.cells zz.cells T)) ⟨bch hS.1 (Stp.alloc _ _).old, hS.1.size, by
        show (w1.alloc _).heap[w1.heap.size]? = _
        rw [alloc_at, if_pos rfl, hz2]⟩
      unfold vOne at this
      rw [hbia, updr_same] at this
      exact this
    | succ k =>
      cases k with
      | zero =>
        simp at hk; subst hk
        intro r w1 b K hS hb hK
        obtain ⟨hS1, hS2, hS3⟩ := hS
        have ea : b.eval a = .pointer (some ⟨(r 0).1, 0, none⟩) := (hb a (by rw [hst]; simp [Op.operands])).trans (ha (r 0).1)
        have ev' : b.eval v = u := (hb v (by rw [hst]; simp [Op.operands])).trans (hv (r 0).1)
        have hg : w1.heap[(r 0).1]? = some (.cells (varr m z) T (0, 0)) := hS3
        have hall : (varr m y).all (·.oneCell') = true := by
          rw [Array.all_eq_true_iff_forall_mem]
          intro q hqm
          obtain ⟨j, hj, he⟩ := Array.getElem_of_mem hqm
          have hj' : j < m := by simpa [varr_size] using hj
          have h5 := varr_get y hj'
          rw [Array.getElem?_eq_getElem hj, he] at h5
          rw [Option.some.inj h5]; exact h1 j hj'
        have hstv : (storeVar T' ⟨(r 0).1, 0, none⟩ u).run P w1 = .ok () (w1.setRow (r 0).1 (varr m y)) := by
          have h6 := run_storeCells_at (P := P) (r 0).1 0 T (varr m y).toList 0 (varr m z) w1 hg (by simp [varr_size]) (fun q hq => (Array.all_eq_true_iff_forall_mem.1 hall) q (by simpa using hq))
          have h7 : ((varr m z).toList.take (0 + 0) ++ (varr m y).toList ++ (varr m z).toList.drop (0 + 0 + (varr m y).toList.length)).toArray = varr m y := by
            rw [List.drop_eq_nil_of_le (by simp [varr_size])]; simp
          rw [h7] at h6
          cases hq : P.info? T' with
          | none => simp [hq] at hsz
          | some ti =>
            have hz' : ti.size = m := by simp [hq] at hsz; omega
            simp only [storeVar, sizeOf, typeInfo, Sem.run_bind, run_program, hq, hu, varr_size, hz', ne_eq, not_true_eq_false, if_false, Result.andThen_ok, Sem.run_pure, h6]
        have hrun : (execOp b.eval (opAt ops st)).run P w1 = .ok .skip (w1.setRow (r 0).1 (varr m y)) := by
          unfold execOp
          simp only [hst, ea, ev', Instr.storeAt, Instr.sureAddr, Sem.run_bind, Sem.run_pure, Result.andThen_ok, hstv]
        obtain ⟨s1, s2, s3⟩ := setRow_stp (w := w1) (cs := varr m y) hg
        unfold Oper.wp
        rw [hrun]
        show K (b.put (opAt ops st).dst undef) _
        rw [hsd]
        have := hK (0, 0) (w1.setRow (r 0).1 (varr m y)) ⟨s1.below hS1 hS1.size hS2, by rw [updr_ne (by omega)]; exact hS2, by rw [updr_ne (by omega)]; exact s2⟩
        rw [hsd] at this
        exact this
      | succ k => simp at hk
  · intro i hi hni k r p _
    have hni' : i ≠ ia ∧ i ≠ st := by simpa using hni
    have hb : Nat.beq i ia = false := by
      cases hq : Nat.beq i ia
      · rfl
      · exact absurd (Nat.eq_of_beq_eq_true hq) hni'.1
    unfold vOne; rw [hb]; rfl
  · intro k i hk q r p hq
    cases k with
    | zero => simp at hk; subst hk; unfold vOne; rw [hbia, updr_ne (by omega)]
    | succ k =>
      cases k with
      | zero => simp at hk; subst hk; unfold vOne; rw [hbst]; rfl
      | succ k => simp at hk
  intro r w' hS
  exact h (r 0).1 w' _ rfl hS.2.1 hS.2.2 hS.1
end
end Fx
end Go.Proofs.Ytahbiajdgealnaa
namespace Go.Proofs.Ytahbiajdgealnaa
open Go.RowKit
namespace Fx
section
variable {P : Program} {n : Nat} {Q : Post} {f : Nat → Value} {w : World} {ops : Array Oper} {rest : List Oper} {o : Oper}
theorem x_neqB {T T' : TypeId} {x y : Operand} {a b c : Bool} (ho : o.op = .binOp .neq T x y T') (hx : ev f x = .bool a) (hy : ev f y = .bool b) (hT : P.underlying T = some .bool) (hc : (!(a == b)) = c) : Runs P f o w (.bool c) := by
  unfold Runs execOp
  simp only [ho, hx, hy]
  have hg : (eqGuard .neq T x y (.bool a) (.bool b)).run P w = .ok () w := by unfold eqGuard; rfl
  simp only [Sem.run_bind, hg, Result.andThen_ok, run_neq_bool w T a b hT, Sem.run_pure, hc]
theorem L.bslice {T E : TypeId} {len s : Nat} {parts : List (Nat × Operand)} {vs : List (Nat × Value)} {zc y : Nat → Value} (hw : Region.wanted o (yf ops f) = true) (ho : o.op = .buildSlice T len parts.toArray) (hp : parts.map (fun p => (p.1, ev f p.2)) = vs) (hu : P.underlying T = some (.slice E)) (hs : (P.info? E).map (·.size) = some s)
    (hbig : Nat.ble (len * s) 16777216 = true) (hpos : Nat.beq (len * s) 0 = false) (hz : ((P.info? E).bind (·.zero)).map (·.cells) = some (varr s zc)) (hf : Instr.fill (fun i => some (i * s, s)) (varr (len * s) (fun j => zc (j % s))) vs = some (varr (len * s) y)) (hd : inn n o.dst = true)
    (h : ∀ g w', g = w.heap.size → Blk w' g (len * s) y E → Stp w.heap.size w w' → w'.heap.size = w.heap.size + 1 → L P n ops Q rest (put f o.dst (.slice (some ⟨g, 0, none⟩) len len)) w') : L P n ops Q (o :: rest) f w := by
  obtain ⟨z, hz1, hz2⟩ := Option.map_eq_some_iff.1 hz
  obtain ⟨i, hi, hz3⟩ := Option.bind_eq_some_iff.1 hz1
  have hsz : i.size = s := by rw [hi] at hs; simpa using hs
  have hb : ¬ len * s > 2 ^ 24 := by have := Nat.le_of_ble_eq_true hbig; omega
  have h0 : len * s ≠ 0 := fun e => by rw [e] at hpos; exact absurd hpos (by decide)
  have hs0 : 0 < s := Nat.pos_of_ne_zero fun e => h0 (by rw [e, Nat.mul_zero])
  have hcells : (Array.range (len * s)).map (fun j => z.cells[j % z.cells.size]!) = varr (len * s) (fun j => zc (j % s)) := by
    refine varr_ext (by simp) fun j hj => ?_
    have hjs : j % s < s := Nat.mod_lt _ hs0
    have hg := varr_get zc hjs
    rw [hz2]
    simp [hj, varr_size]
    rw [getElem!_def, hg]
  have hrun : (execOp (ev f) o).run P w = .ok (.value (.slice (some ⟨w.heap.size, 0, none⟩) len len)) (w.alloc (.cells (varr (len * s) y) E)) := by
    unfold execOp
    simp only [ho, List.map_toArray, hp]
    unfold Instr.buildSlice
    have hb' : ¬ 16777216 < len * s := by omega
    simp [underlying, sizeOf, typeInfo, zeroValue, hu, hi, hsz, hz3, hb']
    simp [h0, hcells, hf, newRow]
  refine L.val hw hrun hd (h _ _ rfl ?_ (Stp.alloc _ _) (by simp))
  show (w.alloc _).heap[w.heap.size]? = _
  rw [alloc_at, if_pos rfl]
end
end Fx
end Go.Proofs.Ytahbiajdgealnaa
namespace Go.Proofs.Ytahbiajdgealnaa
open Go.RowKit
namespace Fx
def Own (w : World) (B : Nat) (E : TypeId) (s : Nat) (v : Value) (n : Nat) (x : Nat → Value) : Prop := w.ownsRow B E s v n ((List.range (n * s)).map x)
theorem Own.nil (w : World) (B : Nat) (E : TypeId) (s : Nat) (x : Nat → Value) : Own w B E s (.slice none 0 0) 0 x := ⟨by simp, .inl ⟨rfl, rfl⟩⟩
theorem Stp.grown {g : Nat} {w w' : World} (h : Stp g w w') : w.grownBy w' (some g) := ⟨h.os, h.tape, h.output, h.size, fun k hk hne => h.block k hk (fun e => hne (by rw [e]))⟩
theorem Own.stp {w w' : World} {B : Nat} {E : TypeId} {s : Nat} {v : Value} {n : Nat} {x : Nat → Value} {g : Nat} (h : Own w B E s v n x) (hs : Stp g w w') (hne : v.ownBlock ≠ some g) : Own w' B E s v n x := World.ownsRow.kept h hs.grown (.inr hne)
theorem Own.up {w w' : World} {B : Nat} {E : TypeId} {s : Nat} {v : Value} {n : Nat} {x : Nat → Value} (h : Own w B E s v n x) (hb : Below w.heap.size w w') : Own w' B E s v n x := by
  refine World.ownsRow.kept h (row := none) ⟨hb.os, hb.tape, hb.output, hb.size, fun k hk _ => hb.block k hk⟩ ?_
  cases v.ownBlock <;> simp
theorem Own.ge {w : World} {B : Nat} {E : TypeId} {s : Nat} {v : Value} {n : Nat} {x : Nat → Value} (h : Own w B E s v n x) {g : Nat} (hg : v.ownBlock = some g) : B ≤ g ∧ g < w.heap.size := by
  rcases h.2 with ⟨rfl, _⟩ | ⟨g', cap, cur, rfl, hb, hgg, _⟩
  · cases hg
  simp only [Value.ownBlock, Option.some.injEq] at hg; subst hg
  exact ⟨hb, (Array.getElem?_eq_some_iff.1 hgg).1⟩
theorem Own.not {w : World} {B : Nat} {E : TypeId} {s : Nat} {v : Value} {n : Nat} {x : Nat → Value} (h : Own w B E s v n x) {b : Nat} (hb : b < B) : v.ownBlock ≠ some b := fun e => by have := (h.ge e).1; omega
theorem Own.notNew {w : World} {B : Nat} {E : TypeId} {s : Nat} {v : Value} {n : Nat} {x : Nat → Value} (h : Own w B E s v n x) {b : Nat} (hb : w.heap.size ≤ b) : v.ownBlock ≠ some b := fun e => by have := (h.ge e).2; omega
theorem Own.form {w : World} {B : Nat} {E : TypeId} {s : Nat} {v : Value} {n : Nat} {x : Nat → Value} (h : Own w B E s v n x) (hn : 0 < n) : ∃ g cap, v = .slice (some ⟨g, 0, none⟩) n cap ∧ B ≤ g ∧ g < w.heap.size ∧ n ≤ cap ∧ Cel w g 0 (n * s) x := by
  have h0 := h
  rcases h.2 with ⟨_, hz⟩ | ⟨g, cap, cur, rfl, hb, hgg, hnc, _⟩
  · omega
  refine ⟨g, cap, rfl, hb, (Array.getElem?_eq_some_iff.1 hgg).1, hnc, fun i hi => ?_⟩
  rw [Nat.zero_add, World.ownsRow.cellAt h0 i hi]
  simp [hi]
theorem Own.val {w : World} {B : Nat} {E : TypeId} {s : Nat} {v : Value} {n : Nat} {x : Nat → Value} (h : Own w B E s v n x) : ∃ a cap, v = .slice a n cap := by
  rcases h.2 with ⟨rfl, rfl⟩ | ⟨g, cap, cur, rfl, _⟩
  · exact ⟨_, _, rfl⟩
  exact ⟨_, _, rfl⟩
def appX (x : Nat → Value) (k : Nat) (y : Nat → Value) : Nat → Value := fun p => if p < k then x p else y (p - k)
theorem appX_list (x y : Nat → Value) (k m : Nat) : (List.range k).map x ++ (List.range m).map y = (List.range (k + m)).map (appX x k y) := by
  apply List.ext_getElem?
  intro i
  by_cases h : i < k
  · rw [List.getElem?_append_left (by simpa using h)]
    simp [h, appX, show i < k + m by omega]
  rw [List.getElem?_append_right (by simp; omega)]
  by_cases h2 : i < k + m
  · simp [h2, appX, h, show i - k < m by omega]
  simp [h2, show ¬ i - k < m by omega]
section
variable {P : Program} {n : Nat} {Q : Post} {f : Nat → Value} {w : World} {o : Oper}
theorem run_app {B : Nat} {E T ty : TypeId} {s bytes k m c : Nat} {v : Value} {x y : Nat → Value} {b off : Nat} (hu : P.underlying T = some (.slice E)) (hi : (P.info? E).map (fun i => (i.size, i.bytes)) = some (s, bytes)) (hz : ((P.info? E).bind (·.zero)).map (·.cells.size) = some s) (hs : Nat.blt 0 s = true)
    (hown : Own w B E s v k x) (hc : Cel w b off (m * s) y) (h1 : ∀ j, j < m * s → (y j).oneCell' = true) (hm : 0 < m) (hbytes : (k + m) * bytes ≤ 140737488355328) (h63 : k + m ≤ 140737488355328) (hB : B ≤ w.heap.size) :
    ∃ g cap w', (Builtin.append_ #[T, T] ty #[v, .slice (some ⟨b, off, none⟩) m c]).run P w = .ok (.slice (some ⟨g, 0, none⟩) (k + m) cap) w' ∧ Own w' B E s (.slice (some ⟨g, 0, none⟩) (k + m) cap) (k + m) (appX x (k * s) y) ∧ w.grownBy w' v.ownBlock ∧ (v.ownBlock = some g ∨ g = w.heap.size) ∧ g < w'.heap.size := by
  obtain ⟨i, hi1, hi2⟩ := Option.map_eq_some_iff.1 hi
  obtain ⟨z, hz1, hz2⟩ := Option.map_eq_some_iff.1 hz
  rw [hi1] at hz1
  simp only [Prod.mk.injEq] at hi2
  have hz3 : i.zero = some z := hz1
  have hs' : 0 < s := by simpa [Nat.blt_eq] using hs
  obtain ⟨g, cap, w', hr, ho, hg, hg2, hlt⟩ := run_append_lies (P := P) w T ty B E i z s bytes hu hi1 hz3 hi2.1 hi2.2 hz2 hs' v k _ hown ⟨b, off, none⟩ m c ((List.range (m * s)).map y) (by simp)
    (fun j u hj => by
      have hjl : j < m * s := by have := (List.getElem?_eq_some_iff.1 hj).1; simpa using this
      simp [hjl] at hj
      rw [addr_add, ← hj]; exact hc j hjl)
    (fun u hu => by
      obtain ⟨j, hj, rfl⟩ := List.mem_map.1 hu
      exact h1 j (by simpa using hj)) hm (by unfold maxLen; omega) hbytes hB w.heap.size rfl
  refine ⟨g, cap, w', hr, ?_, hg, hg2, hlt⟩
  unfold Own
  rw [Nat.add_mul, ← appX_list]
  exact ho
theorem r_app {B : Nat} {E T : TypeId} {s bytes k m c : Nat} {v : Value} {x y : Nat → Value} {b off : Nat} {sx xx : Operand} {ρ : Operand → Value} (ho : o.op = .call { callee := .builtin .append, args := #[sx, xx], argTypes := #[T, T] }) (hsx : ρ sx = v) (hxx : ρ xx = .slice (some ⟨b, off, none⟩) m c)
    (hu : P.underlying T = some (.slice E)) (hi : (P.info? E).map (fun i => (i.size, i.bytes)) = some (s, bytes)) (hz : ((P.info? E).bind (·.zero)).map (·.cells.size) = some s) (hs : Nat.blt 0 s = true)
    (hown : Own w B E s v k x) (hc : Cel w b off (m * s) y) (h1 : ∀ j, j < m * s → (y j).oneCell' = true) (hm : 0 < m) (hbytes : (k + m) * bytes ≤ 140737488355328) (h63 : k + m ≤ 140737488355328) (hB : B ≤ w.heap.size) :
    ∃ g cap w', (execOp ρ o).run P w = .ok (.value (.slice (some ⟨g, 0, none⟩) (k + m) cap)) w' ∧ Own w' B E s (.slice (some ⟨g, 0, none⟩) (k + m) cap) (k + m) (appX x (k * s) y) ∧ w.grownBy w' v.ownBlock ∧ (v.ownBlock = some g ∨ g = w.heap.size) ∧ g < w'.heap.size := by
  obtain ⟨g, cap, w', hr, h⟩ := run_app (ty := o.type) (c := c) hu hi hz hs hown hc h1 hm hbytes h63 hB
  refine ⟨g, cap, w', ?_, h⟩
  unfold execOp
  simp only [ho]
  unfold resolve invoke
  simp only [List.map_toArray, List.map_cons, List.map_nil, hsx, hxx]
  unfold builtin
  simp only [Sem.run_bind, Sem.run_pure, Result.andThen_ok, hr]
theorem grown_stp {w w' : World} {v : Value} (hg : w.grownBy w' v.ownBlock) {b : Nat} (hb : b < w.heap.size) (hne : v.ownBlock ≠ some b) : w'.heap[b]? = w.heap[b]? := hg.block b hb (fun e => hne e.symm)
theorem Blk.grown {w w' : World} {v : Value} {b m : Nat} {x : Nat → Value} {T : TypeId} (h : Blk w b m x T) (hg : w.grownBy w' v.ownBlock) (hne : v.ownBlock ≠ some b) : Blk w' b m x T := (grown_stp hg h.lt hne).trans h
theorem Cel.grown {w w' : World} {v : Value} {b off m : Nat} {x : Nat → Value} (h : Cel w b off m x) (hg : w.grownBy w' v.ownBlock) (hne : v.ownBlock ≠ some b) : Cel w' b off m x := fun i hi => by
  have hc := h i hi
  rw [← hc]
  exact World.cell?_of_block (w := w) (grown_stp hg (block_lt_of_cell hc) hne)
theorem Below.grow {w0 w w' : World} {v : Value} {B : Nat} (h : Below B w0 w) (hg : w.grownBy w' v.ownBlock) (hB : B ≤ w.heap.size) (hv : ∀ g, v.ownBlock = some g → B ≤ g) : Below B w0 w' := h.grown hg hB hv
theorem L.app {ops : Array Oper} {rest : List Oper} {B : Nat} {E T : TypeId} {s bytes k m c : Nat} {v : Value} {x y : Nat → Value} {b off : Nat} {sx xx : Operand} (hw : Region.wanted o (yf ops f) = true) (ho : o.op = .call { callee := .builtin .append, args := #[sx, xx], argTypes := #[T, T] }) (hsx : ev f sx = v) (hxx : ev f xx = .slice (some ⟨b, off, none⟩) m c)
    (hu : P.underlying T = some (.slice E)) (hi : (P.info? E).map (fun i => (i.size, i.bytes)) = some (s, bytes)) (hz : ((P.info? E).bind (·.zero)).map (·.cells.size) = some s) (hs : Nat.blt 0 s = true) (hd : inn n o.dst = true)
    (hown : Own w B E s v k x) (hc : Cel w b off (m * s) y) (h1 : ∀ j, j < m * s → (y j).oneCell' = true) (hm : 0 < m) (hbytes : (k + m) * bytes ≤ 140737488355328) (h63 : k + m ≤ 140737488355328) (hB : B ≤ w.heap.size)
    (h : ∀ g cap w', Own w' B E s (.slice (some ⟨g, 0, none⟩) (k + m) cap) (k + m) (appX x (k * s) y) → w.grownBy w' v.ownBlock → (v.ownBlock = some g ∨ g = w.heap.size) → g < w'.heap.size → L P n ops Q rest (put f o.dst (.slice (some ⟨g, 0, none⟩) (k + m) cap)) w') : L P n ops Q (o :: rest) f w := by
  obtain ⟨g, cap, w', hr, h2, h3, h4, h5⟩ := r_app (ρ := ev f) (c := c) ho hsx hxx hu hi hz hs hown hc h1 hm hbytes h63 hB
  exact L.val hw hr hd (h g cap w' h2 h3 h4 h5)
theorem x_sliceLo {T E : TypeId} {x lo : Operand} {b off len cap s : Nat} {k : IntKind} {j : Nat} (ho : o.op = .slice T x (some lo) none none) (hx : ev f x = .slice (some ⟨b, off, none⟩) len cap) (hl : ev f lo = .int k j) (hu : P.underlying T = some (.slice E)) (hs : (P.info? E).map (·.size) = some s) (hj : j ≤ len) :
    Runs P f o w (.slice (if cap = j then some ⟨b, off, none⟩ else some ⟨b, off + j * s, none⟩) (len - j) (cap - j)) := by
  obtain ⟨i, hi, hi2⟩ := Option.map_eq_some_iff.1 hs
  unfold Runs execOp
  simp only [ho, hx, hl, Option.map_some, Option.map_none]
  have hj' : (j : Int) ≤ (len : Int) := by omega
  simp [Instr.sliceAt, Instr.slice, underlying, hu, Instr.sliceBounds, Instr.sliceBound, asIntOf, hj', sizeOf, typeInfo, hi, hi2, addr_add]
  intro h; omega
theorem x_eqNil {T : TypeId} {x y : Operand} {T' : TypeId} {a : Addr} (ho : o.op = .binOp .eql T x y T') (hx : ev f x = .pointer (some a)) (hy : ev f y = .pointer none) (hu : P.underlying T = some (.pointer (P.pointee T))) : Runs P f o w (.bool false) := by
  unfold Runs execOp
  simp only [ho, hx, hy]
  have hg : (eqGuard .eql T x y (.pointer (some a)) (.pointer none)).run P w = .ok () w := by unfold eqGuard; rfl
  simp only [Sem.run_bind, hg, Result.andThen_ok, run_eql_pointer_nil w T (some a) hu, Sem.run_pure]
  rfl
variable {ops : List Oper} {vals : Gh → Nat → Value} {S : Nat → Gh → World → Prop}
def dAll (P : Program) (ops : List Oper) (f : Nat → Value) (vals : Gh → Nat → Value) (S : Nat → Gh → World → Prop) (es : List Nat) : List Span → Nat → Prop
  | [], _ => True
  | s :: l, i => (es.contains i = true ∨ (QOk P ops f vals S i s.1 s.2.1 ∧ DOk vals i s.1)) ∧ dAll P ops f vals S es l (i + 1)
theorem dAll_at {es : List Nat} : ∀ {l : List Span} {k : Nat}, dAll P ops f vals S es l k → ∀ i, i < l.length → (es.contains (k + i) = true ∨ (QOk P ops f vals S (k + i) (l.getD i noSpan).1 (l.getD i noSpan).2.1 ∧ DOk vals (k + i) (l.getD i noSpan).1))
  | [], _, _, i, hi => absurd hi (by simp)
  | s :: l, k, h, 0, _ => h.1
  | s :: l, k, h, i + 1, hi => by
    have := dAll_at h.2 i (by simpa using hi)
    rw [show k + 1 + i = k + (i + 1) by omega] at this
    exact this
def eAll (P : Program) (ops : List Oper) (f : Nat → Value) (vals : Gh → Nat → Value) (S : Nat → Gh → World → Prop) (Q' : Exit → Act → World → Prop) : List Nat → Nat → Prop
  | [], _ => True
  | i :: l, k => (EOk P ops f vals S Q' i k ∧ DOk vals i (k + 1)) ∧ eAll P ops f vals S Q' l (k + 1)
theorem eAll_at {Q' : Exit → Act → World → Prop} : ∀ {l : List Nat} {k : Nat}, eAll P ops f vals S Q' l k → ∀ j i, l[j]? = some i → EOk P ops f vals S Q' i (k + j) ∧ DOk vals i (k + j + 1)
  | [], _, _, j, i, h => by simp at h
  | e :: l, k, h, 0, i, hj => by simp at hj; subst hj; exact h.1
  | e :: l, k, h, j + 1, i, hj => by
    have := eAll_at h.2 j i (by simpa using hj)
    rw [show k + 1 + j = k + (j + 1) by omega] at this
    exact this
theorem W.draws {id : Nat} (es : List Nat) (sp : List Span) (vals : Gh → Nat → Value) (S : Nat → Gh → World → Prop) (hm : P.follows .mixedOrders = true) (hok : opsOk n ops = true) (hsel : Region.noSelect ops.toArray = true) (hch : chainOk ops es = true) (hsp : spanOk ops es sp = true)
    (hes : es.all (fun e => Nat.blt e ops.length && (match (opAt ops e).guard with | none => true | _ => false)) = true) (hnd : decide es.Nodup = true)
    (h0 : ∀ w1, Below w.heap.size w w1 → w1.heap.size = w.heap.size → S 0 (fun _ => (0, 0)) w1) (hq : dAll P ops f vals S es sp 0) (he : eAll P ops f vals S (lift n Q) es 0)
    (h : ∀ r w' f', f' = full ops f (vals r) → S es.length r w' → Q .normal f' w') : W P n (.region id ops.toArray true) Q f w := by
  have hlen : sp.length = ops.length := by
    unfold spanOk at hsp; rw [Bool.and_eq_true] at hsp; exact Nat.eq_of_beq_eq_true hsp.1
  have hat : ∀ i, i < ops.length → es.contains i = false → QOk P ops f vals S i (sp.getD i noSpan).1 (sp.getD i noSpan).2.1 ∧ DOk vals i (sp.getD i noSpan).1 := fun i hi hne => by
    have := dAll_at hq i (by omega)
    rw [Nat.zero_add] at this
    rcases this with h1 | h1
    · rw [hne] at h1; cases h1
    · exact h1
  refine W.drawn es sp vals S hm hok hsel hch hsp hes (of_decide_eq_true hnd) (fun w1 h1 h2 => ⟨_, h0 w1 h1 h2⟩) (fun i hi hne => (hat i hi hne).1) (fun k i hk => ?_) (fun i hi hne => (hat i hi hne).2) (fun k i hk => ?_) (fun r w' hS => h r w' _ rfl hS)
  · have := (eAll_at he k i hk).1; rwa [Nat.zero_add] at this
  have := (eAll_at he k i hk).2; rwa [Nat.zero_add] at this
theorem Stp.then {g g' : Nat} {w0 w1 w2 : World} (h : Stp g w0 w1) (hb : Stp g' w1 w2) (hg : g' = g ∨ w0.heap.size ≤ g') : Stp g w0 w2 := ⟨hb.os.trans h.os, hb.tape.trans h.tape, hb.output.trans h.output, Nat.le_trans h.size hb.size, fun k hk hne => (hb.block k (Nat.lt_of_lt_of_le hk h.size) (by omega)).trans (h.block k hk hne)⟩
end
end Fx
end Go.Proofs.Ytahbiajdgealnaa
namespace Go.Proofs.Ytahbiajdgealnaa.Fx
open Go.RowKit
theorem Own.congr {w : World} {B : Nat} {E : TypeId} {s : Nat} {v : Value} {n : Nat} {x y : Nat → Value} (h : Own w B E s v n x) (e : ∀ j, j < n * s → x j = y j) : Own w B E s v n y := by
  have : (List.range (n * s)).map x = (List.range (n * s)).map y := List.map_congr_left fun j hj => e j (List.mem_range.1 hj)
  unfold Own at h ⊢
  rw [← this]; exact h
theorem Blk.congr {w : World} {g n : Nat} {x y : Nat → Value} {T : TypeId} (h : Blk w g n x T) (e : ∀ j, j < n → x j = y j) : Blk w g n y T := by
  unfold Blk at h ⊢; rw [h, varr_congr e]
section
variable {P : Program} {f : Nat → Value} {w : World} {o : Oper}
theorem x_sliceLo2 {T E : TypeId} {x lo : Operand} {b off len cap s : Nat} {k : IntKind} {j n' c' : Nat} {A : Option Addr} (ho : o.op = .slice T x (some lo) none none) (hx : ev f x = .slice (some ⟨b, off, none⟩) len cap) (hl : ev f lo = .int k j) (hu : P.underlying T = some (.slice E)) (hs : (P.info? E).map (·.size) = some s) (hj : j ≤ len)
    (hA : (if cap = j then some ⟨b, off, none⟩ else some ⟨b, off + j * s, none⟩ : Option Addr) = A) (hn : len - j = n') (hc : cap - j = c') : Runs P f o w (.slice A n' c') := by
  subst hA hn hc
  exact x_sliceLo ho hx hl hu hs hj
end
end Go.Proofs.Ytahbiajdgealnaa.Fx
namespace Go.Proofs.Ytahbiajdgealnaa.Fx
open Go.RowKit
section
variable {w w' : World} {B : Nat} {E : TypeId} {s g n cap : Nat} {x : Nat → Value}
theorem Own.blk (h : Own w B E s (.slice (some ⟨g, 0, none⟩) n cap) n x) : B ≤ g ∧ n ≤ cap ∧ cap ≤ maxLen ∧ ∃ x', Blk w g (cap * s) x' E ∧ ∀ p, p < n * s → x' p = x p := by
  rcases h.2 with ⟨e, _⟩ | ⟨g', cap', cur, e, hb, hgg, hnc, hmax, hsz, ht⟩
  · cases e
  simp only [Value.slice.injEq, Option.some.injEq, Addr.mk.injEq, and_true, true_and] at e
  obtain ⟨rfl, rfl⟩ := e
  refine ⟨hb, hnc, hmax, fun p => cur.getD p undef, ?_, fun p hp => ?_⟩
  · unfold Blk
    rw [hgg]
    congr 2
    refine (varr_ext hsz fun j hj => ?_)
    simp [Array.getD, hsz, hj]
  have hle : n * s ≤ cap * s := Nat.mul_le_mul_right s hnc
  have := congrArg (fun l : List Value => l[p]?) ht
  simp only [List.getElem?_take_of_lt hp, Array.getElem?_toList, List.getElem?_map, List.getElem?_range hp, Option.map_some] at this
  simp only [Array.getD_eq_getD_getElem?, this, Option.getD_some]
theorem Blk.own {x' : Nat → Value} (h : Blk w g (cap * s) x' E) (hB : B ≤ g) (hn : n ≤ cap) (hm : cap ≤ maxLen) (e : ∀ p, p < n * s → x' p = x p) : Own w B E s (.slice (some ⟨g, 0, none⟩) n cap) n x := by
  refine ⟨by simp, .inr ⟨g, cap, varr (cap * s) x', rfl, hB, h, hn, hm, varr_size _ _, ?_⟩⟩
  have hle : n * s ≤ cap * s := Nat.mul_le_mul_right s hn
  apply List.ext_getElem?
  intro p
  by_cases hp : p < n * s
  · rw [List.getElem?_take_of_lt hp, Array.getElem?_toList, varr_get x' (by omega), List.getElem?_map, List.getElem?_range hp, Option.map_some, e p hp]
  rw [List.getElem?_eq_none (by simp; omega), List.getElem?_eq_none (by simp; omega)]
theorem Own.lt (h : Own w B E s (.slice (some ⟨g, 0, none⟩) n cap) n x) : g < w.heap.size := (h.ge rfl).2
theorem Own.cel (h : Own w B E s (.slice (some ⟨g, 0, none⟩) n cap) n x) : Cel w g 0 (n * s) x := fun i hi => by
  rcases Nat.eq_zero_or_pos n with e | e
  · subst e; omega
  · obtain ⟨g', cap', e2, _, _, _, hc⟩ := h.form e
    simp only [Value.slice.injEq, Option.some.injEq, Addr.mk.injEq, and_true, true_and] at e2
    obtain ⟨rfl, rfl⟩ := e2
    exact hc i hi
theorem Own.stpB {g' : Nat} (h : Own w B E s (.slice (some ⟨g, 0, none⟩) n cap) n x) (hs : Stp g' w w') (ne : g ≠ g') : Own w' B E s (.slice (some ⟨g, 0, none⟩) n cap) n x := h.stp hs fun e => ne (Option.some.inj e)
end
section
variable {P : Program} {n : Nat} {Q : Post} {ops : Array Oper} {rest : List Oper} {f : Nat → Value} {w : World} {o : Oper}
theorem L.own1 {T E : TypeId} {a v : Operand} {B s g k cap i : Nat} {x : Nat → Value} {u : Value} (hw : Region.wanted o (yf ops f) = true) (hd : o.dst = none) (ho : o.op = .store T a v) (ha : ev f a = .pointer (some ⟨g, i, none⟩)) (hv : ev f v = u) (h1 : u.oneCell' = true) (hT : (P.info? T).map (·.size) = some 1)
    (hb : Own w B E s (.slice (some ⟨g, 0, none⟩) k cap) k x) (hi : i < k * s) (h : ∀ w', Own w' B E s (.slice (some ⟨g, 0, none⟩) k cap) k (updV x i u) → Stp g w w' → w'.heap.size = w.heap.size → L P n ops Q rest f w') : L P n ops Q (o :: rest) f w := by
  obtain ⟨h0, hk, hm, x', hx, he⟩ := hb.blk
  have hle : k * s ≤ cap * s := Nat.mul_le_mul_right s hk
  refine L.store1 (x := x') hw hd ho ha hv h1 hT hx (by omega) fun w' hw' hs hz => h w' (hw'.own h0 hk hm fun p hp => ?_) hs hz
  unfold updV; rw [he p hp]
end
end Go.Proofs.Ytahbiajdgealnaa.Fx
namespace Go.Proofs.Ytahbiajdgealnaa.Fx
open Go.RowKit
section
variable {P : Program} {n : Nat} {Q : Post} {f : Nat → Value} {w : World} {o : Oper}
theorem Own.zero {B : Nat} {E : TypeId} {s k : Nat} {v : Value} {x y : Nat → Value} (h : Own w B E s v k x) : Own w B E s v (k + 0) (appX x (k * s) y) :=
  Own.congr h fun j hj => by unfold appX; rw [if_pos (show j < k * s from hj)]
end
end Go.Proofs.Ytahbiajdgealnaa.Fx
namespace Go.Proofs.Ytahbiajdgealnaa.Fx
open Go.RowKit
structure Chg (S : Nat → Prop) (w w' : World) : Prop where
  os : w'.os = w.os
  tape : w'.tape = w.tape
  output : w'.output = w.output
  size : w.heap.size ≤ w'.heap.size
  block : ∀ k, k < w.heap.size → ¬ S k → w'.heap[k]? = w.heap[k]?
section
variable {S S' : Nat → Prop} {w0 w1 w2 : World}
theorem Chg.refl (S : Nat → Prop) (w : World) : Chg S w w := ⟨rfl, rfl, rfl, Nat.le_refl _, fun _ _ _ => rfl⟩
theorem Chg.then {g : Nat} (h : Chg S w0 w1) (hs : Stp g w1 w2) (hg : S g ∨ w0.heap.size ≤ g) : Chg S w0 w2 :=
  ⟨hs.os.trans h.os, hs.tape.trans h.tape, hs.output.trans h.output, Nat.le_trans h.size hs.size, fun k hk hne => (hs.block k (Nat.lt_of_lt_of_le hk h.size) (fun e => hg.elim (fun a => hne (by rw [e]; exact a)) (fun a => by omega))).trans (h.block k hk hne)⟩
theorem Chg.grow {v : Value} (h : Chg S w0 w1) (hs : w1.grownBy w2 v.ownBlock) (hg : ∀ k, v.ownBlock = some k → S k ∨ w0.heap.size ≤ k) : Chg S w0 w2 :=
  ⟨hs.os.trans h.os, hs.tape.trans h.tape, hs.output.trans h.output, Nat.le_trans h.size hs.size, fun k hk hne => (hs.block k (Nat.lt_of_lt_of_le hk h.size) (fun e => (hg k e.symm).elim hne (fun a => by omega))).trans (h.block k hk hne)⟩
theorem Chg.of_below (h : Below w0.heap.size w0 w1) : Chg S w0 w1 := ⟨h.os, h.tape, h.output, h.size, fun k hk _ => h.block k hk⟩
theorem Chg.below {B : Nat} {w : World} (hb : Below B w w0) (h : Chg S w0 w1) (hS : ∀ k, S k → B ≤ k) (hB : B ≤ w0.heap.size) : Below B w w1 where
  os := h.os.trans hb.os
  tape := h.tape.trans hb.tape
  output := h.output.trans hb.output
  size := Nat.le_trans hb.size h.size
  block := fun k hk => (h.block k (by omega) (fun e => by have := hS k e; omega)).trans (hb.block k hk)
end
section
variable {P : Program} {f : Nat → Value} {w : World} {o : Oper}
theorem x_shl {T T' : TypeId} {x y : Operand} {k yk : IntKind} {a c : Int} {b : Nat} (ho : o.op = .binOp .shl T x y T') (hx : ev f x = .int k a) (hy : ev f y = .int yk b) (hb : b ≤ k.bits) (hc : k.wrap (a * 2 ^ b) = c) : Runs P f o w (.int k c) := by
  unfold Runs execOp
  simp only [ho, hx, hy]
  have hr : (binOp .shl T (.int k a) (.int yk (b : Int))).run P w = .ok (.int k c) w := by
    simp only [binOp, Op.shift]
    rw [if_neg (by omega), show min (Int.toNat (b : Int)) k.bits = b by simp; omega, hc]
    simp
  simp only [Sem.run_bind, run_eqGuard_ints, Result.andThen_ok, hr, Sem.run_pure]
end
end Go.Proofs.Ytahbiajdgealnaa.Fx
namespace Go.Proofs.Ytahbiajdgealnaa.Fx
open Go.RowKit
theorem Out.mono {P : Program} {f : Nat → Value} {o : Oper} {w : World} {K K' : Value → World → Prop} (h : Out P f o w K) (hk : ∀ v w', K v w' → K' v w') : Out P f o w K' := by
  rcases h with ⟨v, w', hr, h⟩ | ⟨w', hr, h⟩ | ⟨g, args, hr, h⟩
  · exact .inl ⟨v, w', hr, hk v w' h⟩
  · exact .inr (.inl ⟨w', hr, hk _ w' h⟩)
  exact .inr (.inr ⟨g, args, hr, h.mono fun e w' ⟨v, he, hv⟩ => ⟨v, he, hk v w' hv⟩⟩)
def stillC (c : Nat) : Bool := Nat.ble c 1 || Nat.beq c 4
def Stay (S : World → World → Prop) (c : Nat) (w w2 : World) : Prop := c = 0 ∨ (c = 1 ∧ S w w2) ∨ w2 = w
def R (P : Program) (n : Nat) (ops : List Oper) (cs : List Nat) (S : World → World → Prop) (Q : Post) : List Nat → (Nat → Value) → World → Prop
  | [], f, w => Q .normal f w
  | i :: l, f, w => (Region.wanted (opAt ops i) (yf ops.toArray f) = false ∧ R P n ops cs S Q l (put f (opAt ops i).dst undef) w) ∨
    (Region.wanted (opAt ops i) (yf ops.toArray f) = true ∧
      ((stillC (cs.getD i 3) = true ∧ ∃ v, (∀ w2, Stay S (cs.getD i 3) w w2 → (execOp (ev f) (opAt ops i)).run P w2 = .ok (.value v) w2) ∧ R P n ops cs S Q l (put f (opAt ops i).dst v) w) ∨
       (stillC (cs.getD i 3) = false ∧ Out P f (opAt ops i) w fun v w' => (cs.getD i 3 = 2 → S w w') ∧ R P n ops cs S Q l (put f (opAt ops i).dst v) w')))
section
variable {P : Program} {n : Nat} {ops : List Oper} {cs : List Nat} {S : World → World → Prop} {Q : Post}
theorem R.tail {i : Nat} {X Y : List Nat} (hXY : ∀ f w, R P n ops cs S Q X f w → R P n ops cs S Q Y f w) {f : Nat → Value} {w : World} (h : R P n ops cs S Q (i :: X) f w) : R P n ops cs S Q (i :: Y) f w := by
  unfold R at h ⊢
  rcases h with ⟨h1, h2⟩ | ⟨h1, ⟨h2, v, h3, h4⟩ | ⟨h2, h3⟩⟩
  · exact .inl ⟨h1, hXY _ _ h2⟩
  · exact .inr ⟨h1, .inl ⟨h2, v, h3, hXY _ _ h4⟩⟩
  exact .inr ⟨h1, .inr ⟨h2, h3.mono fun v w' hv => ⟨hv.1, hXY _ _ hv.2⟩⟩⟩
def Stl (P : Program) (ops : List Oper) (cs : List Nat) (S : World → World → Prop) (i : Nat) (f : Nat → Value) (w : World) (v : Value) : Prop :=
  (Region.wanted (opAt ops i) (yf ops.toArray f) = false ∧ v = undef) ∨ (Region.wanted (opAt ops i) (yf ops.toArray f) = true ∧ stillC (cs.getD i 3) = true ∧ ∀ w2, Stay S (cs.getD i 3) w w2 → (execOp (ev f) (opAt ops i)).run P w2 = .ok (.value v) w2)
theorem R.of_stl {i : Nat} {l : List Nat} {f : Nat → Value} {w : World} {v : Value} (hs : Stl P ops cs S i f w v) (h : R P n ops cs S Q l (put f (opAt ops i).dst v) w) : R P n ops cs S Q (i :: l) f w := by
  unfold R
  rcases hs with ⟨h1, rfl⟩ | ⟨h1, h2, h3⟩
  · exact .inl ⟨h1, h⟩
  exact .inr ⟨h1, .inl ⟨h2, v, h3, h⟩⟩
theorem R.stl {i : Nat} {l : List Nat} {f : Nat → Value} {w : World} (hi : stillC (cs.getD i 3) = true) (h : R P n ops cs S Q (i :: l) f w) : ∃ v, Stl P ops cs S i f w v ∧ R P n ops cs S Q l (put f (opAt ops i).dst v) w := by
  unfold R at h
  rcases h with ⟨h1, h2⟩ | ⟨h1, ⟨h2, v, h3, h4⟩ | ⟨h2, h3⟩⟩
  · exact ⟨undef, .inl ⟨h1, rfl⟩, h2⟩
  · exact ⟨v, .inr ⟨h1, h2, h3⟩, h4⟩
  rw [hi] at h2; cases h2
theorem put_other {ops : List Oper} (hok : opsOk n ops = true) {i j : Nat} (hi : i < ops.length) (hj : j < ops.length) (hne : i ≠ j) (f : Nat → Value) (u v : Value) :
    put (put f (opAt ops i).dst u) (opAt ops j).dst v = put (put f (opAt ops j).dst v) (opAt ops i).dst u := by
  cases hdi : (opAt ops i).dst with
  | none => rfl
  | some di =>
    cases hdj : (opAt ops j).dst with
    | none => rfl
    | some dj =>
      have hd : di ≠ dj := fun e => by
        subst e
        have h1 := ((opsOk_at hok hi).1 di hdi).1
        have h2 := ((opsOk_at hok hj).1 di hdj).1
        rw [h1] at h2; exact hne (Option.some.inj h2)
      funext s
      simp only [put]
      cases h1 : Nat.beq s di <;> cases h2 : Nat.beq s dj <;> simp
      exact (hd ((Nat.eq_of_beq_eq_true h1).symm.trans (Nat.eq_of_beq_eq_true h2))).elim
theorem put_ev {ops : List Oper} (hok : opsOk n ops = true) {i j : Nat} (hi : i < ops.length) (hj : j < ops.length) (ha : isAfter (opAt ops j) i = false) (f : Nat → Value) (u : Value) : ∀ x ∈ (opAt ops j).op.operands, ev (put f (opAt ops i).dst u) x = ev f x := by
  intro x hx
  cases x with
  | tmp t =>
    show put f (opAt ops i).dst u t = f t
    cases hdi : (opAt ops i).dst with
    | none => rfl
    | some d =>
      simp only [put]
      cases hb : Nat.beq t d with
      | false => rfl
      | true =>
        have e := Nat.eq_of_beq_eq_true hb
        subst e
        have h1 := ((opsOk_at hok hi).1 t hdi).1
        have h2 := (opsOk_at hok hj).2.1 t i hx h1
        rw [ha] at h2; cases h2
  | _ => rfl
theorem put_wanted {ops : List Oper} (hok : opsOk n ops = true) {i j : Nat} (hi : i < ops.length) (hj : j < ops.length) (ha : isAfter (opAt ops j) i = false) (f : Nat → Value) (u : Value) :
    Region.wanted (opAt ops j) (yf ops.toArray (put f (opAt ops i).dst u)) = Region.wanted (opAt ops j) (yf ops.toArray f) := by
  unfold Region.wanted
  cases hg : (opAt ops j).guard with
  | none => rfl
  | some gb =>
    obtain ⟨g, b⟩ := gb
    simp only
    have h2 := (opsOk_at hok hj).2.2.1 g b hg
    have hgi : g ≠ i := fun e => by subst e; rw [ha] at h2; cases h2
    congr 1
    unfold yf
    cases hd : (ops.toArray[g]?).bind (·.dst) with
    | none => rfl
    | some d =>
      simp only
      have hgl : g < ops.length := by
        cases hq : ops.toArray[g]? with
        | none => rw [hq] at hd; cases hd
        | some o => have := (Array.getElem?_eq_some_iff.1 hq).1; simpa using this
      have hdd : (opAt ops g).dst = some d := by
        unfold opAt
        rw [List.getElem?_toArray] at hd
        rw [List.getD_eq_getElem?_getD]
        cases hq : ops[g]? with
        | none => rw [hq] at hd; cases hd
        | some o => rw [hq] at hd; exact hd
      have e : put f (opAt ops i).dst u d = f d := by
        cases hdi : (opAt ops i).dst with
        | none => rfl
        | some di =>
          simp only [put]
          cases hb : Nat.beq d di with
          | false => rfl
          | true =>
            have e := Nat.eq_of_beq_eq_true hb
            subst e
            have h3 := ((opsOk_at hok hi).1 d hdi).1
            have h4 := ((opsOk_at hok hgl).1 d hdd).1
            rw [h3] at h4; exact absurd (Option.some.inj h4).symm hgi
      rw [e]
theorem put_run {ops : List Oper} (hok : opsOk n ops = true) (hsel : Region.noSelect ops.toArray = true) {i j : Nat} (hi : i < ops.length) (hj : j < ops.length) (ha : isAfter (opAt ops j) i = false) (f : Nat → Value) (u : Value) :
    execOp (ev (put f (opAt ops i).dst u)) (opAt ops j) = execOp (ev f) (opAt ops j) :=
  execOp_congr _ (fun c b => Region.noSelect_spec hsel j (opAt ops j) c b (by
    unfold opAt; rw [List.getElem?_toArray, List.getD_eq_getElem?_getD, List.getElem?_eq_getElem hj]; rfl)) (put_ev hok hi hj ha f u)
def pairOk (ops : List Oper) (cs : List Nat) (certs : List (Nat × Nat × List Nat)) (i j : Nat) : Bool :=
  !isAfter (opAt ops i) j && ((stillC (cs.getD i 3) && (Nat.beq (cs.getD i 3) 0 || stillC (cs.getD j 3) || (Nat.beq (cs.getD i 3) 1 && Nat.beq (cs.getD j 3) 2))) || certs.any fun c => Nat.beq c.1 j && Nat.beq c.2.1 i && pathB ops j c.2.2 i)
def pairsOk (ops : List Oper) (cs : List Nat) (certs : List (Nat × Nat × List Nat)) : List Nat → Bool
  | [] => true
  | i :: l => l.all (pairOk ops cs certs i) && pairsOk ops cs certs l
def permOk (ops : List Oper) (l : List Nat) : Bool := Nat.beq l.length ops.length && l.all (fun i => Nat.blt i ops.length) && decide l.Nodup && (List.range ops.length).all (fun i => l.any (Nat.beq i))
theorem swap (hok : opsOk n ops = true) (hsel : Region.noSelect ops.toArray = true) {i j : Nat} (hi : i < ops.length) (hj : j < ops.length) (hne : i ≠ j) (hij : isAfter (opAt ops j) i = false) (hji : isAfter (opAt ops i) j = false) (hS : ∀ w, S w w) (hT : ∀ a b c, S a b → S b c → S a c) (hc : stillC (cs.getD i 3) = true) (hc2 : cs.getD i 3 = 0 ∨ stillC (cs.getD j 3) = true ∨ (cs.getD i 3 = 1 ∧ cs.getD j 3 = 2))
    {l : List Nat} {f : Nat → Value} {w : World} (h : R P n ops cs S Q (i :: j :: l) f w) : R P n ops cs S Q (j :: i :: l) f w := by
  obtain ⟨vi, hs, h⟩ := h.stl hc
  have up : ∀ (u : Value) (w' : World), Stay S (cs.getD i 3) w w' → Stl P ops cs S i (put f (opAt ops j).dst u) w' vi := fun u w' hb => by
    unfold Stl
    rw [put_wanted hok hj hi hji, put_run hok hsel hj hi hji]
    rcases hs with hs | ⟨h1, h2, h3⟩
    · exact .inl hs
    · refine .inr ⟨h1, h2, fun w2 h4 => h3 w2 ?_⟩
      rcases hb with hb | ⟨hb, hb2⟩ | hb
      · exact .inl hb
      · rcases h4 with h4 | ⟨_, h4⟩ | h4
        · exact .inl h4
        · exact .inr (.inl ⟨hb, hT _ _ _ hb2 h4⟩)
        · subst h4; exact .inr (.inl ⟨hb, hb2⟩)
      · subst hb; exact h4
  unfold R at h
  rw [put_wanted hok hi hj hij, put_run hok hsel hi hj hij] at h
  rw [R]
  rcases h with ⟨h1, h2⟩ | ⟨h1, ⟨h2, v, h3, h4⟩ | ⟨h2, h3⟩⟩
  · refine .inl ⟨h1, R.of_stl (up undef w (.inr (.inr rfl))) ?_⟩
    rw [put_other hok hi hj hne] at h2; exact h2
  · refine .inr ⟨h1, .inl ⟨h2, v, h3, R.of_stl (up v w (.inr (.inr rfl))) ?_⟩⟩
    rw [put_other hok hi hj hne] at h4; exact h4
  refine .inr ⟨h1, .inr ⟨h2, ?_⟩⟩
  unfold Out at h3
  rw [put_run hok hsel hi hj hij] at h3
  refine Out.mono (K := fun v w' => (cs.getD j 3 = 2 → S w w') ∧ R P n ops cs S Q l (put (put f (opAt ops i).dst vi) (opAt ops j).dst v) w') h3 fun v w' hk => ⟨hk.1, R.of_stl (up v w' ?_) ?_⟩
  · rcases hc2 with e | e | ⟨e, e2⟩
    · exact .inl e
    · rw [h2] at e; cases e
    exact .inr (.inl ⟨e, hk.1 e2⟩)
  have := hk.2; rw [put_other hok hi hj hne] at this; exact this
theorem bubble (hok : opsOk n ops = true) (hsel : Region.noSelect ops.toArray = true) (hS : ∀ w, S w w) (hT : ∀ a b c, S a b → S b c → S a c) {j : Nat} (hj : j < ops.length) {l : List Nat} :
    ∀ (pre : List Nat), (∀ i ∈ pre, i < ops.length ∧ i ≠ j ∧ isAfter (opAt ops j) i = false ∧ isAfter (opAt ops i) j = false ∧ stillC (cs.getD i 3) = true ∧ (cs.getD i 3 = 0 ∨ stillC (cs.getD j 3) = true ∨ (cs.getD i 3 = 1 ∧ cs.getD j 3 = 2))) → ∀ f w, R P n ops cs S Q (pre ++ j :: l) f w → R P n ops cs S Q (j :: (pre ++ l)) f w
  | [], _, f, w, h => h
  | i :: pre, hp, f, w, h => by
    obtain ⟨h1, h2, h3, h4, h5, h6⟩ := hp i (List.mem_cons_self ..)
    exact swap hok hsel h1 hj h2 h3 h4 hS hT h5 h6 (R.tail (fun f w => bubble hok hsel hS hT hj pre (fun k hk => hp k (List.mem_cons_of_mem _ hk)) f w) h)
theorem pairsOk_pw {certs : List (Nat × Nat × List Nat)} : ∀ {l : List Nat}, pairsOk ops cs certs l = true → l.Pairwise fun i j => pairOk ops cs certs i j = true
  | [], _ => List.Pairwise.nil
  | i :: l, h => by
    unfold pairsOk at h
    rw [Bool.and_eq_true, List.all_eq_true] at h
    exact List.Pairwise.cons h.1 (pairsOk_pw h.2)
theorem R.any (hok : opsOk n ops = true) (hsel : Region.noSelect ops.toArray = true) (hS : ∀ w, S w w) (hT : ∀ a b c, S a b → S b c → S a c) {certs : List (Nat × Nat × List Nat)} : ∀ (k : Nat) (rem : List Nat) (listed : Array Bool) (a : Act) (f : Nat → Value) (w : World), rem.length = k → listed.size = ops.length → Clo ops.toArray .any listed →
    (∀ i, i ∈ rem ↔ i < ops.length ∧ listed.getD i false = false) → rem.Nodup → (rem.Pairwise fun i j => pairOk ops cs certs i j = true) → Fr a n f → R P n ops cs S Q rem f w → wpAny P .any ops.toArray (lift n Q) k listed a w := by
  intro k
  induction k with
  | zero =>
    intro rem listed a f w hl hsz hclo hmem hnd hpw ha h
    have : rem = [] := List.eq_nil_of_length_eq_zero hl
    subst this
    refine ⟨?_, f, ha, h⟩
    rw [List.eq_nil_iff_forall_not_mem]
    intro j hj
    obtain ⟨h1, h2, _, _⟩ := ready_after hj
    exact absurd ((hmem j).2 ⟨h2, h1⟩) (by simp)
  | succ k ih =>
    intro rem listed a f w hl hsz hclo hmem hnd hpw ha h
    refine ⟨fun hr => ?_, fun j hj => ?_⟩
    · cases rem with
      | nil => simp at hl
      | cons r rem' =>
        exfalso
        obtain ⟨h1, h2⟩ := (hmem r).1 (List.mem_cons_self ..)
        have : r ∈ Region.ready .any ops.toArray listed := by
          refine mem_ready.2 ⟨getD_in (by omega) h2, opAt ops r, by unfold opAt; rw [List.getElem?_toArray, List.getD_eq_getElem?_getD, List.getElem?_eq_getElem h1]; rfl, fun e he hb => ?_⟩
          have haf : isAfter (opAt ops r) e.on = true := by
            unfold isAfter; rw [Array.any_eq_true']; exact ⟨e, he, by rw [hb, Nat.beq_refl]; rfl⟩
          have hlt := (opsOk_at hok h1).2.2.2 e.on haf
          cases hle : listed.getD e.on false with
          | true => rfl
          | false =>
            have hm := (hmem e.on).2 ⟨by omega, hle⟩
            rcases List.mem_cons.1 hm with e1 | e1
            · omega
            · have hp := (List.pairwise_cons.1 hpw).1 _ e1
              unfold pairOk at hp
              rw [haf] at hp; simp at hp
        rw [hr] at this; simp at this
    · obtain ⟨h1, h2, h3, h4⟩ := ready_after hj
      have hjm := (hmem j).2 ⟨h2, h1⟩
      obtain ⟨pre, post, rfl⟩ := List.append_of_mem hjm
      have hb := bubble (P := P) (cs := cs) (S := S) (Q := Q) hok hsel hS hT h2 (l := post) pre (fun i hi => by
        obtain ⟨h5, h6⟩ := (hmem i).1 (List.mem_append_left _ hi)
        have hne : i ≠ j := fun e => by
          subst e
          exact (List.nodup_append.1 hnd).2.2 i hi i (List.mem_cons_self ..) rfl
        have hp : pairOk ops cs certs i j = true := (List.pairwise_append.1 hpw).2.2 i hi j (List.mem_cons_self ..)
        unfold pairOk at hp
        rw [Bool.and_eq_true, Bool.or_eq_true] at hp
        have hnaf : isAfter (opAt ops j) i = false := by
          cases hq : isAfter (opAt ops j) i with
          | false => rfl
          | true => have := h4 i hq; rw [h6] at this; cases this
        refine ⟨h5, hne, hnaf, by simpa using hp.1, ?_⟩
        rcases hp.2 with hp | hp
        · rw [Bool.and_eq_true, Bool.or_eq_true] at hp
          refine ⟨hp.1, ?_⟩
          rcases hp.2 with q | q
          · rw [Bool.or_eq_true] at q
            exact q.elim (fun q => .inl (Nat.eq_of_beq_eq_true q)) (fun q => .inr (.inl q))
          · rw [Bool.and_eq_true] at q
            exact .inr (.inr ⟨Nat.eq_of_beq_eq_true q.1, Nat.eq_of_beq_eq_true q.2⟩)
        · exfalso
          rw [List.any_eq_true] at hp
          obtain ⟨c, _, hc⟩ := hp
          rw [Bool.and_eq_true, Bool.and_eq_true] at hc
          obtain ⟨m, hm⟩ := pathB_reach hc.2
          cases m with
          | zero => unfold reach at hm; simp at hm; exact hne hm.symm
          | succ m =>
            unfold reach at hm
            rw [Bool.or_eq_true] at hm
            rcases hm with hm | hm
            · simp at hm; exact hne hm.symm
            · rw [h3] at hm
              simp only at hm
              rw [Array.any_eq_true'] at hm
              obtain ⟨e, he, hm⟩ := hm
              rw [Bool.and_eq_true] at hm
              have haf : isAfter (opAt ops j) e.on = true := by
                unfold isAfter; rw [Array.any_eq_true']; exact ⟨e, he, by rw [hm.1, Nat.beq_refl]; rfl⟩
              have := hclo.reach _ _ hm.2 (h4 e.on haf)
              rw [h6] at this; cases this) f w h
      have hperm : (pre ++ post).length = k := by simp at hl ⊢; omega
      have hnd' : (pre ++ post).Nodup := by
        refine hnd.sublist ?_
        exact List.Sublist.append_left (List.sublist_cons_self ..) pre
      have hpw' : (pre ++ post).Pairwise fun i j => pairOk ops cs certs i j = true := hpw.sublist (List.Sublist.append_left (List.sublist_cons_self ..) pre)
      have hmem' : ∀ i, i ∈ pre ++ post ↔ i < ops.length ∧ (listed.setIfInBounds j true).getD i false = false := fun i => by
        by_cases e : j = i
        · subst e
          rw [set_self (by omega)]
          constructor
          · intro hm
            exfalso
            have hd := List.nodup_append.1 hnd
            rcases List.mem_append.1 hm with q | q
            · exact hd.2.2 j q j (List.mem_cons_self ..) rfl
            · exact (List.nodup_cons.1 hd.2.1).1 q
          · intro q; cases q.2
        · rw [set_other e, ← hmem i]
          simp only [List.mem_append, List.mem_cons]
          constructor
          · rintro (q | q)
            · exact .inl q
            · exact .inr (.inr q)
          · rintro (q | q | q)
            · exact .inl q
            · exact absurd q.symm e
            · exact .inr q
      have next : ∀ (v : Value) (w' : World), R P n ops cs S Q (pre ++ post) (put f (opAt ops j).dst v) w' → wpAny P .any ops.toArray (lift n Q) k (listed.setIfInBounds j true) (a.put (opAt ops j).dst v) w' := fun v w' hR =>
        ih (pre ++ post) _ _ _ w' hperm (by simp [hsz]) (hclo.set hj) hmem' hnd' hpw' (ha.put (by
          cases hd : (opAt ops j).dst with
          | none => rfl
          | some d => have := ((opsOk_at hok h2).1 d hd).2; simpa [inn, Nat.blt_eq] using this) v) hR
      unfold wpOp
      rw [h3]
      simp only
      rw [ha.yf]
      unfold R at hb
      rcases hb with ⟨q1, q2⟩ | ⟨q1, ⟨q2, v, q3, q4⟩ | ⟨q2, q3⟩⟩
      · rw [if_neg (by rw [q1]; decide)]; exact next _ _ q2
      · rw [if_pos q1]
        refine .inl (Out.wp (K := fun v' w' => v' = v ∧ w' = w) ha (.inl ⟨v, w, q3 w (.inr (.inr rfl)), rfl, rfl⟩) ?_)
        rintro v' w' ⟨rfl, rfl⟩
        exact next _ _ q4
      · rw [if_pos q1]
        exact .inl (Out.wp ha q3 fun v w' hk => next v w' hk.2)
theorem W.reord {f : Nat → Value} {w : World} {id : Nat} (l : List Nat) (cs : List Nat) (S : World → World → Prop) (hS : ∀ w, S w w) (hT : ∀ a b c, S a b → S b c → S a c) (certs : List (Nat × Nat × List Nat)) (hm : P.follows .mixedOrders = true) (hok : opsOk n ops = true) (hsel : Region.noSelect ops.toArray = true) (hp : permOk ops l = true) (hpp : pairsOk ops cs certs l = true)
    (h : ∀ w1, Below w.heap.size w w1 → w1.heap.size = w.heap.size → R P n ops cs S Q l f w1) : W P n (.region id ops.toArray true) Q f w := fun a ha => by
  refine wp_region_any hm ?_
  unfold permOk at hp
  rw [Bool.and_eq_true, Bool.and_eq_true, Bool.and_eq_true, List.all_eq_true, List.all_eq_true] at hp
  obtain ⟨⟨⟨p1, p2⟩, p3⟩, p4⟩ := hp
  have hlen := Nat.eq_of_beq_eq_true p1
  have p3' : l.Nodup := of_decide_eq_true p3
  have := R.any (P := P) (Q := Q) (certs := certs) hok hsel hS hT ops.length l (Array.replicate ops.length false) a f { w with drawn := w.drawn + 1 } hlen (by simp) (Clo.start _ _ _) (fun i => by
    have hg : ∀ i, (Array.replicate ops.length false).getD i false = false := fun i => getD_replicate_false _ _
    constructor
    · intro hi; exact ⟨by simpa [Nat.blt_eq] using p2 i hi, hg i⟩
    · intro hi
      obtain ⟨k, hk, hk2⟩ := List.any_eq_true.1 (p4 i (by simpa using hi.1))
      rw [Nat.eq_of_beq_eq_true hk2]; exact hk) p3' (pairsOk_pw hpp) ha (h { w with drawn := w.drawn + 1 } (Below.refl _ _).drew rfl)
  simpa using this
end
section
variable {P : Program} {n : Nat} {ops : List Oper} {cs : List Nat} {S : World → World → Prop} {Q : Post} {f : Nat → Value} {w : World} {i : Nat} {l : List Nat}
theorem R.nil (h : Q .normal f w) : R P n ops cs S Q [] f w := h
theorem R.skip (hw : Region.wanted (opAt ops i) (yf ops.toArray f) = false) (h : R P n ops cs S Q l (put f (opAt ops i).dst undef) w) : R P n ops cs S Q (i :: l) f w := .inl ⟨hw, h⟩
theorem R.pure {v : Value} (hw : Region.wanted (opAt ops i) (yf ops.toArray f) = true) (hc : Nat.beq (cs.getD i 3) 0 = true) (hr : ∀ w2, (execOp (ev f) (opAt ops i)).run P w2 = .ok (.value v) w2) (h : R P n ops cs S Q l (put f (opAt ops i).dst v) w) : R P n ops cs S Q (i :: l) f w :=
  .inr ⟨hw, .inl ⟨by rw [Nat.eq_of_beq_eq_true hc]; rfl, v, fun w2 _ => hr w2, h⟩⟩
theorem R.read {v : Value} (hw : Region.wanted (opAt ops i) (yf ops.toArray f) = true) (hc : Nat.beq (cs.getD i 3) 1 = true) (hS : S w w) (hr : ∀ w2, S w w2 → (execOp (ev f) (opAt ops i)).run P w2 = .ok (.value v) w2) (h : R P n ops cs S Q l (put f (opAt ops i).dst v) w) : R P n ops cs S Q (i :: l) f w :=
  .inr ⟨hw, .inl ⟨by rw [Nat.eq_of_beq_eq_true hc]; rfl, v, fun w2 hb => hr w2 (by
    rcases hb with e | ⟨_, e⟩ | e
    · rw [Nat.eq_of_beq_eq_true hc] at e; cases e
    · exact e
    · subst e; exact hS), h⟩⟩
theorem R.still {v : Value} (hw : Region.wanted (opAt ops i) (yf ops.toArray f) = true) (hc : Nat.beq (cs.getD i 3) 4 = true) (hr : (execOp (ev f) (opAt ops i)).run P w = .ok (.value v) w) (h : R P n ops cs S Q l (put f (opAt ops i).dst v) w) : R P n ops cs S Q (i :: l) f w :=
  .inr ⟨hw, .inl ⟨by rw [Nat.eq_of_beq_eq_true hc]; rfl, v, fun w2 hb => by
    rcases hb with e | ⟨e, _⟩ | e
    · rw [Nat.eq_of_beq_eq_true hc] at e; cases e
    · rw [Nat.eq_of_beq_eq_true hc] at e; cases e
    · subst e; exact hr, h⟩⟩
theorem Rp (v : Value) (hr : ∀ w2, Runs P f (opAt ops i) w2 v) (h : R P n ops cs S Q l (put f (opAt ops i).dst v) w) (hw : Region.wanted (opAt ops i) (yf ops.toArray f) = true := by rfl) (hc : Nat.beq (cs.getD i 3) 0 = true := by rfl) : R P n ops cs S Q (i :: l) f w := R.pure hw hc hr h
theorem R.s (v : Value) (hr : Runs P f (opAt ops i) w v) (h : R P n ops cs S Q l (put f (opAt ops i).dst v) w) (hw : Region.wanted (opAt ops i) (yf ops.toArray f) = true := by rfl) (hc : Nat.beq (cs.getD i 3) 4 = true := by rfl) : R P n ops cs S Q (i :: l) f w := R.still hw hc hr h
theorem R.eff (hc : Nat.beq (cs.getD i 3) 3 = true) (h : L P n ops.toArray (fun _ f' w' => R P n ops cs S Q l f' w') [opAt ops i] f w) : R P n ops cs S Q (i :: l) f w := by
  have hc' := Nat.eq_of_beq_eq_true hc
  obtain ⟨_, ⟨h1, h2⟩ | ⟨h1, h2⟩⟩ := h
  · refine .inr ⟨h1, .inr ⟨by rw [hc']; rfl, Out.mono (K := fun v w' => R P n ops cs S Q l (put f (opAt ops i).dst v) w') h2 fun v w' hk => ⟨fun e => by omega, hk⟩⟩⟩
  exact .inl ⟨h1, h2⟩
theorem R.make (hc : Nat.beq (cs.getD i 3) 2 = true) (h : L P n ops.toArray (fun _ f' w' => S w w' ∧ R P n ops cs S Q l f' w') [opAt ops i] f w) : R P n ops cs S Q (i :: l) f w := by
  have hc' := Nat.eq_of_beq_eq_true hc
  obtain ⟨_, ⟨h1, h2⟩ | ⟨h1, h2⟩⟩ := h
  · exact .inr ⟨h1, .inr ⟨by rw [hc']; rfl, Out.mono (K := fun v w' => S w w' ∧ R P n ops cs S Q l (put f (opAt ops i).dst v) w') h2 fun v w' hk => ⟨fun _ => hk.1, hk.2⟩⟩⟩
  exact .inl ⟨h1, h2.2⟩
def Mk (w w' : World) : Prop := Below w.heap.size w w'
theorem Mk.refl (w : World) : Mk w w := Below.refl _ _
theorem Mk.trans (a b c : World) (h : Mk a b) (k : Mk b c) : Mk a c := bch h k
end
end Go.Proofs.Ytahbiajdgealnaa.Fx
namespace Go.Proofs.Ytahbiajdgealnaa.Fx
open Go.RowKit
theorem u8e {a c : Int} (h : 0 ≤ c ∧ c ≤ 255) (e : a = c) : IntKind.u8.wrap a = c := by subst e; exact IntWalk.u8_in _ h
def flat (s : Nat) (F : Nat → Nat → Value) : Nat → Value := fun p => F (p / s) (p % s)
theorem flat_at {s k j p : Nat} {F : Nat → Nat → Value} (hp : p = s * k + j) (hj : j < s) : flat s F p = F k j := by
  subst hp
  have hs : 0 < s := by omega
  unfold flat
  rw [Nat.add_comm, Nat.add_mul_div_left _ _ hs, Nat.div_eq_of_lt hj, Nat.zero_add, Nat.add_mul_mod_self_left, Nat.mod_eq_of_lt hj]
def Arr (w : World) (a : Option Addr) (n s : Nat) (x : Nat → Value) : Prop := 0 < n → ∃ b off, a = some ⟨b, off, none⟩ ∧ Cel w b off (n * s) x
section
variable {w w' : World} {a : Option Addr} {n s : Nat} {x : Nat → Value}
theorem Arr.below {B : Nat} (h : Arr w a n s x) (hb : Below B w w') (hB : ∀ b off, a = some ⟨b, off, none⟩ → b < B) : Arr w' a n s x := fun h0 => by
  obtain ⟨b, off, e, hc⟩ := h h0
  exact ⟨b, off, e, hc.below hb (hB b off e)⟩
theorem Arr.up (h : Arr w a n s x) (hb : Below w.heap.size w w') (hs : Nat.blt 0 s = true) : Arr w' a n s x := fun h0 => by
  obtain ⟨b, off, e, hc⟩ := h h0
  have hs' : 0 < s := by simpa [Nat.blt_eq] using hs
  exact ⟨b, off, e, hc.below hb (hc.lt (Nat.mul_pos h0 hs'))⟩
theorem Arr.at {F : Nat → Nat → Value} (h : Arr w a n s (flat s F)) {k : Nat} (hk : k < n) : ∃ b off, a = some ⟨b, off, none⟩ ∧ Cel w b (off + s * k) s (F k) := by
  obtain ⟨b, off, e, hc⟩ := h (by omega)
  refine ⟨b, off, e, fun i hi => ?_⟩
  have hlt : s * k + i < n * s := by
    have h1 : (k + 1) * s ≤ n * s := Nat.mul_le_mul_right s hk
    rw [Nat.add_mul, Nat.one_mul, Nat.mul_comm k s] at h1
    omega
  have := hc (s * k + i) hlt
  rw [flat_at rfl hi, ← Nat.add_assoc] at this
  exact this
theorem Own.addr {B : Nat} {E : TypeId} {c : Nat} (h : Own w B E s (.slice a n c) n x) (h0 : 0 < n) : ∃ g, a = some ⟨g, 0, none⟩ := by
  obtain ⟨g, cap, e, _⟩ := h.form h0
  simp only [Value.slice.injEq, true_and] at e
  exact ⟨g, e.1⟩
end
def Ty (w : World) (g : Nat) (T : TypeId) : Prop := ∃ c, w.heap[g]? = some (.cells c T (0, 0))
theorem Ty.ne {w : World} {g g' : Nat} {T T' : TypeId} (h : Ty w g T) (h' : Ty w g' T') (ne : T ≠ T') : g ≠ g' := fun e => by
  subst e
  obtain ⟨c, h⟩ := h
  obtain ⟨c', h'⟩ := h'
  rw [h] at h'
  simp only [Option.some.injEq, Obj.cells.injEq] at h'
  exact ne h'.2.1
theorem Blk.ty {w : World} {g n : Nat} {x : Nat → Value} {T : TypeId} (h : Blk w g n x T) : Ty w g T := ⟨_, h⟩
theorem Own.ty {w : World} {B : Nat} {E : TypeId} {s : Nat} {v : Value} {n : Nat} {x : Nat → Value} (h : Own w B E s v n x) {g : Nat} (hg : v.ownBlock = some g) : Ty w g E := by
  rcases h.2 with ⟨rfl, _⟩ | ⟨g', cap, cur, rfl, hb, hgg, _⟩
  · cases hg
  simp only [Value.ownBlock, Option.some.injEq] at hg; subst hg
  exact ⟨_, hgg⟩
theorem Own.tyB {w : World} {B : Nat} {E : TypeId} {s g cap : Nat} {n : Nat} {x : Nat → Value} (h : Own w B E s (.slice (some ⟨g, 0, none⟩) n cap) n x) : Ty w g E := h.ty rfl
structure ChT (Ts : List TypeId) (w w' : World) : Prop where
  os : w'.os = w.os
  tape : w'.tape = w.tape
  output : w'.output = w.output
  size : w.heap.size ≤ w'.heap.size
  block : ∀ k, k < w.heap.size → (∀ T, Ty w k T → Ts.contains T = false) → w'.heap[k]? = w.heap[k]?
theorem Ty.only {w : World} {k : Nat} {T T' : TypeId} (h : Ty w k T) (h' : Ty w k T') : T' = T := Classical.byContradiction fun ne => Ty.ne h' h ne rfl
section
variable {w w' : World} {T : TypeId} {Ts : List TypeId}
theorem ChT.of_stp {g : Nat} (hs : Stp g w w') (ht : Ty w g T) : ChT [T] w w' := ⟨hs.os, hs.tape, hs.output, hs.size, fun k hk hn => hs.block k hk fun e => by
  have := hn T (by rw [e]; exact ht)
  simp at this⟩
theorem ChT.of_grown {B : Nat} {s : Nat} {v : Value} {n : Nat} {x : Nat → Value} (hg : w.grownBy w' v.ownBlock) (h : Own w B T s v n x) : ChT [T] w w' := ⟨hg.os, hg.tape, hg.output, hg.size, fun k hk hn => hg.block k hk fun e => by
  have := hn T (h.ty e.symm)
  simp at this⟩
theorem ChT.of_below (h : Below w.heap.size w w') : ChT Ts w w' := ⟨h.os, h.tape, h.output, h.size, fun k hk _ => h.block k hk⟩
theorem ChT.refl (w : World) : ChT Ts w w := ⟨rfl, rfl, rfl, Nat.le_refl _, fun _ _ _ => rfl⟩
theorem ChT.trans (a b c : World) (h : ChT Ts a b) (k : ChT Ts b c) : ChT Ts a c := ⟨k.os.trans h.os, k.tape.trans h.tape, k.output.trans h.output, Nat.le_trans h.size k.size, fun i hi hn =>
  have e := h.block i hi hn
  (k.block i (Nat.lt_of_lt_of_le hi h.size) fun T ⟨cc, ht⟩ => hn T ⟨cc, by rw [← e]; exact ht⟩).trans e⟩
theorem ChT.wide {Us : List TypeId} (h : ChT Ts w w') (hs : Ts.all Us.contains = true) : ChT Us w w' := ⟨h.os, h.tape, h.output, h.size, fun k hk hn => h.block k hk fun T ht => by
  cases hq : Ts.contains T with
  | false => rfl
  | true =>
    have h1 := hn T ht
    rw [List.all_eq_true.1 hs T (List.contains_iff_mem.1 hq)] at h1; cases h1⟩
theorem Blk.chT {b n : Nat} {x : Nat → Value} {T0 : TypeId} (h : Blk w b n x T0) (hs : ChT Ts w w') (ne : Ts.contains T0 = false) : Blk w' b n x T0 := (hs.block b h.lt fun _ ht => by rw [Ty.only h.ty ht]; exact ne).trans h
theorem Own.chT {B : Nat} {E : TypeId} {s : Nat} {v : Value} {n : Nat} {x : Nat → Value} (h : Own w B E s v n x) (hs : ChT Ts w w') (ne : Ts.contains E = false) : Own w' B E s v n x := by
  refine ⟨h.1, ?_⟩
  rcases h.2 with a | ⟨g, cap, cur, rfl, hb, hg, rest⟩
  · exact .inl a
  exact .inr ⟨g, cap, cur, rfl, hb, (hs.block g (Array.getElem?_eq_some_iff.1 hg).1 fun _ ht => by rw [Ty.only ⟨_, hg⟩ ht]; exact ne).trans hg, rest⟩
theorem Own.mono {B B' : Nat} {E : TypeId} {s : Nat} {v : Value} {n : Nat} {x : Nat → Value} (h : Own w B E s v n x) (hB : B' ≤ B) : Own w B' E s v n x := by
  refine ⟨h.1, ?_⟩
  rcases h.2 with a | ⟨g, cap, cur, rfl, hb, rest⟩
  · exact .inl a
  exact .inr ⟨g, cap, cur, rfl, Nat.le_trans hB hb, rest⟩
theorem Own.congV {B : Nat} {E : TypeId} {s : Nat} {v v' : Value} {n : Nat} {x : Nat → Value} (h : Own w B E s v n x) (e : v = v') : Own w B E s v' n x := e ▸ h
end
section
variable {P : Program} {f : Nat → Value} {w : World} {o : Oper}
theorem x_shr {T T' : TypeId} {x y : Operand} {k yk : IntKind} {a q : Int} {b : Nat} (ho : o.op = .binOp .shr T x y T') (hx : ev f x = .int k a) (hy : ev f y = .int yk b) (hb : b ≤ k.bits) (hq : (2 : Int) ^ b = q) : Runs P f o w (.int k (a / q)) := by
  unfold Runs execOp
  simp only [ho, hx, hy]
  have hr : (binOp .shr T (.int k a) (.int yk (b : Int))).run P w = .ok (.int k (a / q)) w := by
    simp only [binOp]
    rw [shift_shr _ _ _ _ (by omega) (by omega), show ((b : Int)).toNat = b by omega, hq]
    simp
  simp only [Sem.run_bind, run_eqGuard_ints, Result.andThen_ok, hr, Sem.run_pure]
end
end Go.Proofs.Ytahbiajdgealnaa.Fx
namespace Go.Proofs.Ytahbiajdgealnaa.Fx
open Go.RowKit Go.MapKept
def Mp (w : World) (b n : Nat) (key : Nat → Int) (val : Nat → Value) : Prop :=
  ∃ es clock, w.heap[b]? = some (.map es clock) ∧ Stamped es clock ∧ es.size = n ∧ ∀ i, i < n → ∃ e, es[i]? = some e ∧ e.key = .int .u64 (key i) ∧ e.val = val i
def putI {α : Type} (f : Nat → α) (j : Nat) (v : α) : Nat → α := fun i => if i = j then v else f i
section
variable {w w' : World} {b n : Nat} {key : Nat → Int} {val : Nat → Value}
theorem Mp.lt (h : Mp w b n key val) : b < w.heap.size := by
  obtain ⟨es, c, h, _⟩ := h
  exact (Array.getElem?_eq_some_iff.1 h).1
theorem Mp.keep (h : Mp w b n key val) (e : w'.heap[b]? = w.heap[b]?) : Mp w' b n key val := by
  obtain ⟨es, c, h1, h2⟩ := h
  exact ⟨es, c, e.trans h1, h2⟩
theorem Mp.stp {g : Nat} (h : Mp w b n key val) (hs : Stp g w w') (ne : b ≠ g) : Mp w' b n key val := h.keep (hs.block b h.lt ne)
theorem Mp.up (h : Mp w b n key val) (hb : Below w.heap.size w w') : Mp w' b n key val := h.keep (hb.block b h.lt)
theorem Mp.noTy {T : TypeId} (h : Mp w b n key val) (ht : Ty w b T) : False := by
  obtain ⟨es, c, h, _⟩ := h
  obtain ⟨cs, ht⟩ := ht
  rw [h] at ht; cases ht
theorem Mp.chT {Ts : List TypeId} (h : Mp w b n key val) (hs : ChT Ts w w') (_ : True) : Mp w' b n key val := h.keep (hs.block b h.lt fun _ ht => (h.noTy ht).elim)
theorem Mp.ne {g : Nat} {T : TypeId} (h : Mp w b n key val) (ht : Ty w g T) : g ≠ b := fun e => h.noTy (e ▸ ht)
theorem Mp.cong {key' : Nat → Int} {val' : Nat → Value} (h : Mp w b n key val) (e : ∀ i, i < n → key i = key' i ∧ val i = val' i) : Mp w b n key' val' := by
  obtain ⟨es, c, h1, h2, h3, h4⟩ := h
  exact ⟨es, c, h1, h2, h3, fun i hi => by
    obtain ⟨x, a, d, f⟩ := h4 i hi
    exact ⟨x, a, by rw [d, (e i hi).1], by rw [f, (e i hi).2]⟩⟩
theorem Mp.inj (h : Mp w b n key val) : ∀ i j, i < n → j < n → key i = key j → i = j := fun i j hi hj e => by
  obtain ⟨es, c, _, ⟨_, _, hk⟩, hn, hg⟩ := h
  obtain ⟨x, hx, kx, _⟩ := hg i hi
  obtain ⟨y, hy, ky, _⟩ := hg j hj
  rw [Array.getElem?_eq_some_iff] at hx hy
  obtain ⟨hi', hx⟩ := hx
  obtain ⟨hj', hy⟩ := hy
  have hp := List.pairwise_iff_getElem.1 hk
  have key2 : ∀ a c (ha : a < es.size) (hc : c < es.size), a < c → es[a].key ≠ es[c].key := fun a c ha hc hac => by
    have := hp a c (by simpa using ha) (by simpa using hc) hac
    simpa only [List.getElem_map, Array.getElem_toList] using this
  rcases Nat.lt_trichotomy i j with h1 | h1 | h1
  · exact absurd (by rw [hx, hy, kx, ky, e]) (key2 i j hi' hj' h1)
  · exact h1
  · exact absurd (by rw [hx, hy, kx, ky, e]) (key2 j i hj' hi' h1)
end
section
variable {P : Program} {f : Nat → Value} {w : World} {o : Oper}
variable {b n : Nat} {key : Nat → Int} {val : Nat → Value}
theorem Mp.find (h : Mp w b n key val) {es : Array MapEntry} {c : Nat} (he : w.heap[b]? = some (.map es c)) (k : Int) :
    (Instr.findNow (.int .u64) (.int .u64 k) es.toList 0 = some none ∧ ∀ i, i < n → key i ≠ k) ∨ ∃ j, j < n ∧ key j = k ∧ Instr.findNow (.int .u64) (.int .u64 k) es.toList 0 = some (some (j, val j)) := by
  obtain ⟨es', c', h1, h2, h3, h4⟩ := h
  rw [he] at h1
  simp only [Option.some.injEq, Obj.map.injEq] at h1
  obtain ⟨rfl, rfl⟩ := h1
  have hkeys : ∀ x ∈ es.toList, IsKey (.int .u64) x.key := fun x hx => by
    obtain ⟨i, hi, e⟩ := List.getElem_of_mem hx
    obtain ⟨y, hy, ky, _⟩ := h4 i (by simpa [← h3] using hi)
    have : y = x := by
      have h5 : es.toList[i]? = some x := by rw [List.getElem?_eq_getElem hi, e]
      rw [Array.getElem?_toList, hy] at h5
      exact Option.some.inj h5
    rw [← this, ky]; exact rfl
  rcases findNow_spec (d := .int .u64) (k := .int .u64 k) rfl es.toList 0 hkeys with ⟨h5, h6⟩ | ⟨j, e, h5, h6, h7⟩
  · left
    refine ⟨h5, fun i hi e => ?_⟩
    obtain ⟨y, hy, ky, _⟩ := h4 i hi
    exact h6 y (Array.mem_toList_iff.2 (Array.mem_of_getElem? hy)) (by rw [ky, e])
  right
  have hj : j < n := by
    rw [Array.getElem?_toList] at h6
    rw [← h3]; exact (Array.getElem?_eq_some_iff.1 h6).1
  obtain ⟨y, hy, ky, vy⟩ := h4 j hj
  rw [Array.getElem?_toList, hy] at h6
  obtain rfl := Option.some.inj h6
  rw [ky] at h7
  simp only [Value.int.injEq, true_and] at h7
  exact ⟨j, hj, h7, by rw [h5, Nat.zero_add, vy]⟩
theorem run_lookup_mp {T K E : TypeId} {k : Int} {ok : Bool} {z : Value} (h : Mp w b n key val) (hu : P.underlying T = some (.map K E)) (hk : P.underlying K = some (.int .u64)) (hz : (zeroValue E).run P w = .ok z w) :
    ((∀ i, i < n → key i ≠ k) → (Instr.lookup T (.map (some b)) (.int .u64 k) ok).run P w = .ok (if ok then .tuple #[z, .bool false] else z) w) ∧
    ∀ j, j < n → key j = k → (Instr.lookup T (.map (some b)) (.int .u64 k) ok).run P w = .ok (if ok then .tuple #[val j, .bool true] else val j) w := by
  have hm := h
  obtain ⟨es, c, h1, _⟩ := hm
  have hck : (Instr.checkKey es.isEmpty 10000 K (.int .u64 k)).run P w = .ok () w := run_checkKey hk (show IsKey (.int .u64) (.int .u64 k) from rfl) _ 9999
  rcases h.find h1 k with ⟨h5, h6⟩ | ⟨j, hj, hkj, h5⟩
  · refine ⟨fun _ => ?_, fun j hj e => absurd e (h6 j hj)⟩
    have hf := run_findKey (w := w) hk h5
    unfold Instr.lookup
    simp only [Sem.run_bind, run_underlying hu, Result.andThen_ok, Go.MapKept.run_getObj_map h1, Sem.run_pure, hck, hf, hz]
  refine ⟨fun hno => absurd hkj (hno j hj), fun j2 hj2 e => ?_⟩
  obtain rfl : j2 = j := h.inj j2 j hj2 hj (e.trans hkj.symm)
  have hf := run_findKey (w := w) hk h5
  unfold Instr.lookup
  simp only [Sem.run_bind, run_underlying hu, Result.andThen_ok, Go.MapKept.run_getObj_map h1, Sem.run_pure, hck, hf]
theorem x_lookY {T K E : TypeId} {x ix : Operand} {k : Int} {z v : Value} {j : Nat} (ho : o.op = .lookup T x ix false) (hx : ev f x = .map (some b)) (hi : ev f ix = .int .u64 k) (h : Mp w b n key val) (hu : P.underlying T = some (.map K E)) (hk : P.underlying K = some (.int .u64)) (hz : (zeroValue E).run P w = .ok z w) (hj : j < n) (he : key j = k) (hv : val j = v) : Runs P f o w v := by
  subst hv
  unfold Runs execOp
  simp only [ho, hx, hi, Sem.run_bind, ((run_lookup_mp (ok := false) h hu hk hz).2 j hj he), Result.andThen_ok, Sem.run_pure]; rfl
theorem x_look2N {T K E : TypeId} {x ix : Operand} {k : Int} {z : Value} (ho : o.op = .lookup T x ix true) (hx : ev f x = .map (some b)) (hi : ev f ix = .int .u64 k) (h : Mp w b n key val) (hu : P.underlying T = some (.map K E)) (hk : P.underlying K = some (.int .u64)) (hz : (zeroValue E).run P w = .ok z w) (hn : ∀ i, i < n → key i ≠ k) : Runs P f o w (.tuple #[z, .bool false]) := by
  unfold Runs execOp
  simp only [ho, hx, hi, Sem.run_bind, ((run_lookup_mp (ok := true) h hu hk hz).1 hn), Result.andThen_ok, Sem.run_pure]; rfl
theorem x_look2Y {T K E : TypeId} {x ix : Operand} {k : Int} {z v : Value} {j : Nat} (ho : o.op = .lookup T x ix true) (hx : ev f x = .map (some b)) (hi : ev f ix = .int .u64 k) (h : Mp w b n key val) (hu : P.underlying T = some (.map K E)) (hk : P.underlying K = some (.int .u64)) (hz : (zeroValue E).run P w = .ok z w) (hj : j < n) (he : key j = k) (hv : val j = v) : Runs P f o w (.tuple #[v, .bool true]) := by
  subst hv
  unfold Runs execOp
  simp only [ho, hx, hi, Sem.run_bind, ((run_lookup_mp (ok := true) h hu hk hz).2 j hj he), Result.andThen_ok, Sem.run_pure]; rfl
end
section
variable {P : Program} {w : World} {b n : Nat} {key : Nat → Int} {val : Nat → Value}
theorem set_at {w : World} {b : Nat} {o o' : Obj} (hb : w.heap[b]? = some o) : ({ w with heap := w.heap.setIfInBounds b o' } : World).heap[b]? = some o' ∧ Stp b w { w with heap := w.heap.setIfInBounds b o' } ∧ ({ w with heap := w.heap.setIfInBounds b o' } : World).heap.size = w.heap.size := by
  obtain ⟨h1, h2⟩ := heap_set (o' := o') hb
  exact ⟨h1, ⟨rfl, rfl, rfl, by simp, fun k _ hne => h2 k hne⟩, by simp⟩
theorem run_update_mp {T K E : TypeId} {k : Int} {v : Value} (h : Mp w b n key val) (hu : P.underlying T = some (.map K E)) (hk : P.underlying K = some (.int .u64)) :
    (∀ j, j < n → key j = k → ∃ w', (Instr.mapUpdate T (.map (some b)) (.int .u64 k) v).run P w = .ok () w' ∧ Mp w' b n key (putI val j v) ∧ Stp b w w' ∧ w'.heap.size = w.heap.size) ∧
    ((∀ i, i < n → key i ≠ k) → ∃ w', (Instr.mapUpdate T (.map (some b)) (.int .u64 k) v).run P w = .ok () w' ∧ Mp w' b (n + 1) (putI key n k) (putI val n v) ∧ Stp b w w' ∧ w'.heap.size = w.heap.size) := by
  have hm := h
  obtain ⟨es, c, h1, h2, h3, h4⟩ := hm
  have hck : (Instr.checkKey false 10000 K (.int .u64 k)).run P w = .ok () w := run_checkKey hk (show IsKey (.int .u64) (.int .u64 k) from rfl) _ 9999
  rcases h.find h1 k with ⟨h5, h6⟩ | ⟨j, hj, hkj, h5⟩
  · refine ⟨fun j hj e => absurd e (h6 j hj), fun _ => ?_⟩
    have hf := run_findKey (w := w) hk h5
    obtain ⟨s1, s2, s3⟩ := set_at (o' := .map (es.push { key := .int .u64 k, val := v, born := c }) (c + 1)) h1
    have hr : (Instr.mapUpdate T (.map (some b)) (.int .u64 k) v).run P w = .ok () { w with heap := w.heap.setIfInBounds b (.map (es.push { key := .int .u64 k, val := v, born := c }) (c + 1)) } := by
      unfold Instr.mapUpdate
      simp only [Sem.run_bind, run_underlying hu, Result.andThen_ok, Go.MapKept.run_getObj_map h1, hck, hf]
      exact run_setObj_map _ h1
    refine ⟨_, hr, ⟨_, _, s1, stamped_push h2 fun x hx e => ?_, by simp [h3], fun i hi => ?_⟩, s2, s3⟩
    · obtain ⟨i, hi, ei⟩ := List.getElem_of_mem hx
      obtain ⟨y, hy, ky, _⟩ := h4 i (by simpa [← h3] using hi)
      have e5 : es.toList[i]? = some x := by rw [List.getElem?_eq_getElem hi, ei]
      rw [Array.getElem?_toList, hy] at e5
      obtain rfl := Option.some.inj e5
      rw [ky] at e
      simp only [Value.int.injEq, true_and] at e
      exact h6 i (by simpa [← h3] using hi) e
    by_cases e : i = n
    · subst e
      refine ⟨_, by rw [Array.getElem?_push, if_pos h3.symm], ?_, ?_⟩
      · show Value.int .u64 k = _; unfold putI; rw [if_pos rfl]
      show v = _; unfold putI; rw [if_pos rfl]
    obtain ⟨y, hy, ky, vy⟩ := h4 i (by omega)
    refine ⟨y, by rw [Array.getElem?_push, if_neg (by omega)]; exact hy, ?_, ?_⟩
    · unfold putI; rw [if_neg e]; exact ky
    unfold putI; rw [if_neg e]; exact vy
  refine ⟨fun j2 hj2 e => ?_, fun hno => absurd hkj (hno j hj)⟩
  obtain rfl : j2 = j := h.inj j2 j hj2 hj (e.trans hkj.symm)
  have hf := run_findKey (w := w) hk h5
  obtain ⟨y, hy, ky, vy⟩ := h4 j2 hj
  obtain ⟨s1, s2, s3⟩ := set_at (o' := .map (es.modify j2 fun e => { e with key := .int .u64 k, val := v }) c) h1
  have hstay : (Instr.keyThatStays (((es[j2]?).map (·.key)).getD (.int .u64 k)) (.int .u64 k)).run P w = .ok (.int .u64 k) w := by
    rw [hy]
    show (Instr.keyThatStays y.key (.int .u64 k)).run P w = _
    rw [ky, e]
    unfold Instr.keyThatStays
    rw [if_pos (by simp [Instr.sameBits])]; rfl
  have hr : (Instr.mapUpdate T (.map (some b)) (.int .u64 k) v).run P w = .ok () { w with heap := w.heap.setIfInBounds b (.map (es.modify j2 fun e => { e with key := .int .u64 k, val := v }) c) } := by
    unfold Instr.mapUpdate
    simp only [Sem.run_bind, run_underlying hu, Result.andThen_ok, Go.MapKept.run_getObj_map h1, hck, hf, hstay]
    exact run_setObj_map _ h1
  refine ⟨_, hr, ⟨_, _, s1, stamped_modify h2 j2 _ (fun _ _ => rfl) (fun x _ hx => ?_), by simp [h3], fun i hi => ?_⟩, s2, s3⟩
  · rw [hy] at hx
    obtain rfl := Option.some.inj hx
    show Value.int .u64 k = y.key
    rw [ky, e]
  obtain ⟨z, hz, kz, vz⟩ := h4 i hi
  by_cases e2 : j2 = i
  · subst e2
    refine ⟨{ z with key := .int .u64 k, val := v }, by rw [Array.getElem?_modify, if_pos rfl, hz]; rfl, ?_, ?_⟩
    · show Value.int .u64 k = _; rw [e]
    show v = _; unfold putI; rw [if_pos rfl]
  refine ⟨z, by rw [Array.getElem?_modify, if_neg e2]; exact hz, kz, ?_⟩
  unfold putI; rw [if_neg (fun h => e2 h.symm)]; exact vz
end
def It (w : World) (r b n : Nat) (S : Nat → Bool) : Prop :=
  ∃ es clock since seen c0, w.heap[b]? = some (.map es clock) ∧ w.heap[r]? = some (.mapIter (some b) since seen c0) ∧ (∀ x ∈ es.toList, x.born < since) ∧ since ≤ c0 ∧ es.size = n ∧ (∀ x ∈ es.toList, x.born < clock) ∧ since ≤ clock ∧ (∀ (i j : Nat) (x y : MapEntry), es[i]? = some x → es[j]? = some y → x.born = y.born → i = j) ∧ ∀ i, i < n → ∃ e, es[i]? = some e ∧ seen.contains e.born = S i
section
variable {w w' : World} {r b n : Nat} {S : Nat → Bool}
theorem It.lt (h : It w r b n S) : r < w.heap.size := by
  obtain ⟨es, c, s, se, c0, _, h, _⟩ := h
  exact (Array.getElem?_eq_some_iff.1 h).1
theorem It.ltb (h : It w r b n S) : b < w.heap.size := by
  obtain ⟨es, c, s, se, c0, h, _⟩ := h
  exact (Array.getElem?_eq_some_iff.1 h).1
theorem It.keep (h : It w r b n S) (e : w'.heap[b]? = w.heap[b]?) (e2 : w'.heap[r]? = w.heap[r]?) : It w' r b n S := by
  obtain ⟨es, c, s, se, c0, h1, h2, h3⟩ := h
  exact ⟨es, c, s, se, c0, e.trans h1, e2.trans h2, h3⟩
theorem It.up (h : It w r b n S) (hb : Below w.heap.size w w') : It w' r b n S := h.keep (hb.block b h.ltb) (hb.block r h.lt)
theorem It.noTy {T : TypeId} (h : It w r b n S) (ht : Ty w r T) : False := by
  obtain ⟨es, c, s, se, c0, _, h, _⟩ := h
  obtain ⟨cs, ht⟩ := ht
  rw [h] at ht; cases ht
theorem It.noTyb {T : TypeId} (h : It w r b n S) (ht : Ty w b T) : False := by
  obtain ⟨es, c, s, se, c0, h, _⟩ := h
  obtain ⟨cs, ht⟩ := ht
  rw [h] at ht; cases ht
theorem It.chT {Ts : List TypeId} (h : It w r b n S) (hs : ChT Ts w w') (_ : True) : It w' r b n S := h.keep (hs.block b h.ltb fun _ ht => (h.noTyb ht).elim) (hs.block r h.lt fun _ ht => (h.noTy ht).elim)
theorem It.rb (h : It w r b n S) : r ≠ b := fun e => by
  obtain ⟨es, c, s, se, c0, h1, h2, _⟩ := h
  rw [e, h1] at h2; cases h2
end
def Itc (w : World) (r b i : Nat) : Prop :=
  ∃ es clock since seen e, w.heap[b]? = some (.map es clock) ∧ w.heap[r]? = some (.mapIter (some b) since (Array.push seen e.born) clock) ∧ es[i]? = some e ∧ (es.toList.map (·.born)).Nodup
section
variable {w w' : World} {r b i : Nat}
theorem Itc.lt (h : Itc w r b i) : r < w.heap.size := by
  obtain ⟨es, c, s, se, e, _, h, _⟩ := h
  exact (Array.getElem?_eq_some_iff.1 h).1
theorem Itc.ltb (h : Itc w r b i) : b < w.heap.size := by
  obtain ⟨es, c, s, se, e, h, _⟩ := h
  exact (Array.getElem?_eq_some_iff.1 h).1
theorem Itc.keep (h : Itc w r b i) (e : w'.heap[b]? = w.heap[b]?) (e2 : w'.heap[r]? = w.heap[r]?) : Itc w' r b i := by
  obtain ⟨es, c, s, se, x, h1, h2, h3⟩ := h
  exact ⟨es, c, s, se, x, e.trans h1, e2.trans h2, h3⟩
theorem Itc.up (h : Itc w r b i) (hb : Below w.heap.size w w') : Itc w' r b i := h.keep (hb.block b h.ltb) (hb.block r h.lt)
theorem Itc.noTy {T : TypeId} (h : Itc w r b i) (ht : Ty w r T) : False := by
  obtain ⟨es, c, s, se, e, _, h, _⟩ := h
  obtain ⟨cs, ht⟩ := ht
  rw [h] at ht; cases ht
theorem Itc.noTyb {T : TypeId} (h : Itc w r b i) (ht : Ty w b T) : False := by
  obtain ⟨es, c, s, se, e, h, _⟩ := h
  obtain ⟨cs, ht⟩ := ht
  rw [h] at ht; cases ht
theorem Itc.chT {Ts : List TypeId} (h : Itc w r b i) (hs : ChT Ts w w') (_ : True) : Itc w' r b i := h.keep (hs.block b h.ltb fun _ ht => (h.noTyb ht).elim) (hs.block r h.lt fun _ ht => (h.noTy ht).elim)
end
def Fam (w : World) (n : Nat) (pb : Nat → Nat) (s : Nat) (x : Nat → Nat → Value) (T : TypeId) : Prop := ∀ i, i < n → Blk w (pb i) s (x i) T
section
variable {w w' : World} {n s : Nat} {pb : Nat → Nat} {x : Nat → Nat → Value} {T : TypeId}
theorem Fam.up (h : Fam w n pb s x T) (hb : Below w.heap.size w w') : Fam w' n pb s x T := fun i hi => (h i hi).stp (Sb hb) (Nat.ne_of_lt (h i hi).lt)
theorem Fam.chT {Ts : List TypeId} (h : Fam w n pb s x T) (hs : ChT Ts w w') (ne : Ts.contains T = false) : Fam w' n pb s x T := fun i hi => (h i hi).chT hs ne
theorem Fam.stp {g : Nat} (h : Fam w n pb s x T) (hs : Stp g w w') (ne : ∀ i, i < n → pb i ≠ g) : Fam w' n pb s x T := fun i hi => (h i hi).stp hs (ne i hi)
theorem Fam.put {j : Nat} {y : Nat → Value} (h : Fam w n pb s x T) (hs : Stp (pb j) w w') (hb : Blk w' (pb j) s y T) (hi : ∀ i k, i < n → k < n → pb i = pb k → i = k) (hj : j < n) : Fam w' n pb s (putI x j y) T := fun i hin => by
  unfold putI
  by_cases e : i = j
  · subst e; rw [if_pos rfl]; exact hb
  · rw [if_neg e]; exact (h i hin).stp hs fun e2 => e (hi i j hin hj e2)
theorem Fam.to {x' : Nat → Nat → Value} (h : Fam w n pb s x T) (e : ∀ i, i < n → x i = x' i) : Fam w n pb s x' T := fun i hi => e i hi ▸ h i hi
theorem Fam.push {g : Nat} {y : Nat → Value} (h : Fam w n pb s x T) (hb : Blk w g s y T) : Fam w (n + 1) (putI pb n g) s (putI x n y) T := fun i hi => by
  unfold putI
  by_cases e : i = n
  · rw [if_pos e, if_pos e]; exact hb
  · rw [if_neg e, if_neg e]; exact h i (by omega)
end
def unseen (S : Nat → Bool) : Nat → Nat
  | 0 => 0
  | n + 1 => unseen S n + if S n then 0 else 1
theorem unseen_put_ge (S : Nat → Bool) (i : Nat) : ∀ n, n ≤ i → unseen (putI S i true) n = unseen S n
  | 0, _ => rfl
  | n + 1, h => by
    unfold unseen
    rw [unseen_put_ge S i n (by omega)]
    have : putI S i true n = S n := by unfold putI; rw [if_neg (by omega)]
    rw [this]
theorem unseen_put {S : Nat → Bool} {i : Nat} (hs : S i = false) : ∀ n, i < n → unseen (putI S i true) n + 1 = unseen S n
  | 0, h => absurd h (Nat.not_lt_zero _)
  | n + 1, h => by
    unfold unseen
    by_cases e : i = n
    · subst e
      rw [unseen_put_ge S i i (Nat.le_refl _), hs]
      have : putI S i true i = true := by unfold putI; rw [if_pos rfl]
      rw [this]; simp
    · have : putI S i true n = S n := by unfold putI; rw [if_neg (by omega)]
      rw [this, ← unseen_put hs n (by omega)]
      omega
theorem run_makeMap' {P : Program} (t : TypeId) (w : World) : (Instr.makeMap t none).run P w = .ok (.map (some w.heap.size)) (w.alloc (.map #[] 0)) := rfl
section
variable {P : Program} {n0 : Nat} {Q : Post} {f : Nat → Value} {w : World} {ops : Array Oper} {rest : List Oper} {o : Oper} {b n : Nat} {key : Nat → Int} {val : Nat → Value}
theorem L.mupN {T K E : TypeId} {x ix v : Operand} {k : Int} {u : Value} (hw : Region.wanted o (yf ops f) = true) (hd : o.dst = none) (ho : o.op = .mapUpdate T x ix v) (hx : ev f x = .map (some b)) (hi : ev f ix = .int .u64 k) (hv : ev f v = u) (h : Mp w b n key val) (hu : P.underlying T = some (.map K E)) (hk : P.underlying K = some (.int .u64)) (hn : ∀ i, i < n → key i ≠ k)
    (hc : ∀ w', Mp w' b (n + 1) (putI key n k) (putI val n u) → Stp b w w' → w'.heap.size = w.heap.size → L P n0 ops Q rest f w') : L P n0 ops Q (o :: rest) f w := by
  obtain ⟨w', hr, h1, h2, h3⟩ := (run_update_mp (v := u) h hu hk).2 hn
  have hrun : (execOp (ev f) o).run P w = .ok .skip w' := by
    unfold execOp
    simp only [ho, hx, hi, hv, Sem.run_bind, hr, Result.andThen_ok, Sem.run_pure]
  refine L.unit hw hrun (by rw [hd]; rfl) ?_
  rw [hd]; exact hc w' h1 h2 h3
theorem L.mkmap {T : TypeId} (hw : Region.wanted o (yf ops f) = true) (hd : inn n0 o.dst = true) (ho : o.op = .makeMap T none)
    (hc : ∀ g w', g = w.heap.size → Mp w' g 0 (fun _ => 0) (fun _ => .pointer none) → Stp w.heap.size w w' → w'.heap.size = w.heap.size + 1 → L P n0 ops Q rest (put f o.dst (.map (some g))) w') : L P n0 ops Q (o :: rest) f w := by
  have hrun : (execOp (ev f) o).run P w = .ok (.value (.map (some w.heap.size))) (w.alloc (.map #[] 0)) := by
    unfold execOp
    simp only [ho, Option.map_none]
    simp [run_makeMap']
  refine L.val hw hrun hd (hc _ _ rfl ?_ (Stp.alloc _ _) (by simp))
  exact ⟨#[], 0, by rw [alloc_at, if_pos rfl], stamped_empty 0, rfl, fun i hi => absurd hi (Nat.not_lt_zero _)⟩
theorem x_lenM {T K E : TypeId} {x : Operand} {Ts : Array TypeId} (ho : o.op = .call { callee := .builtin .len, args := #[x], argTypes := Ts }) (hT : Ts = #[T]) (hx : ev f x = .map (some b)) (h : Mp w b n key val) (hu : P.underlying T = some (.map K E)) : Runs P f o w (.int .i64 n) := by
  obtain ⟨es, c, h1, _, h3, _⟩ := h
  unfold Runs execOp
  simp only [ho]
  unfold resolve invoke
  simp only [hT, List.map_toArray, List.map_cons, List.map_nil, hx]
  unfold builtin
  have hr : (Builtin.len_ #[T] o.type #[.map (some b)]).run P w = .ok (.int .i64 n) w := by
    unfold Builtin.len_
    simp [run_underlying hu, Go.MapKept.run_getObj_map h1, goInt, h3]
  simp only [Sem.run_bind, Sem.run_pure, Result.andThen_ok, hr]
theorem L.range {T K E : TypeId} {x : Operand} (hw : Region.wanted o (yf ops f) = true) (hd : inn n0 o.dst = true) (ho : o.op = .range T x) (hx : ev f x = .map (some b)) (h : Mp w b n key val) (hu : P.underlying T = some (.map K E))
    (hc : ∀ g w', g = w.heap.size → It w' g b n (fun _ => false) → Stp w.heap.size w w' → w'.heap.size = w.heap.size + 1 → L P n0 ops Q rest (put f o.dst (.pointer (some ⟨g, 0, none⟩))) w') : L P n0 ops Q (o :: rest) f w := by
  have hm := h
  obtain ⟨es, c, h1, h2, h3, h4⟩ := hm
  have hr := run_range_map (P := P) w T K E b es c hu h1
  have hrun : (execOp (ev f) o).run P w = .ok (.value (.pointer (some ⟨w.heap.size, 0, none⟩))) (w.alloc (.mapIter (some b) c #[] c)) := by
    unfold execOp
    simp only [ho, hx, Sem.run_bind, hr, Result.andThen_ok, Sem.run_pure]
  refine L.val hw hrun hd (hc _ _ rfl ?_ (Stp.alloc _ _) (by simp))
  refine ⟨es, c, c, #[], c, ?_, by rw [alloc_at, if_pos rfl], h2.1, Nat.le_refl _, h3, h2.1, Nat.le_refl _, fun i j x y hx hy e => ?_, fun i hi => ?_⟩
  · rw [alloc_at, if_neg (Nat.ne_of_lt h.lt)]; exact h1
  · rw [Array.getElem?_eq_some_iff] at hx hy
    obtain ⟨hi', hx⟩ := hx
    obtain ⟨hj', hy⟩ := hy
    have hp := List.pairwise_iff_getElem.1 h2.2.1
    have key2 : ∀ a c (ha : a < es.size) (hc : c < es.size), a < c → es[a].born ≠ es[c].born := fun a c ha hc hac => by
      have := hp a c (by simpa using ha) (by simpa using hc) hac
      simpa only [List.getElem_map, Array.getElem_toList] using this
    rcases Nat.lt_trichotomy i j with h5 | h5 | h5
    · exact absurd (by rw [hx, hy, e]) (key2 i j hi' hj' h5)
    · exact h5
    exact absurd (by rw [hx, hy, e]) (key2 j i hj' hi' h5)
  obtain ⟨e, he, _⟩ := h4 i hi
  exact ⟨e, he, by simp⟩
theorem L.next {x : Operand} {r : Nat} {S : Nat → Bool} (hw : Region.wanted o (yf ops f) = true) (hd : inn n0 o.dst = true) (ho : o.op = .next x false) (hx : ev f x = .pointer (some ⟨r, 0, none⟩)) (h : Mp w b n key val) (hi : It w r b n S)
    (hc0 : (∀ i, i < n → S i = true) → L P n0 ops Q rest (put f o.dst (.tuple #[.bool false])) w)
    (hc1 : ∀ i w', i < n → S i = false → It w' r b n (putI S i true) → Itc w' r b i → Stp r w w' → w'.heap.size = w.heap.size → L P n0 ops Q rest (put f o.dst (.tuple #[.bool true, .int .u64 (key i), val i])) w') : L P n0 ops Q (o :: rest) f w := by
  obtain ⟨es, c, since, seen, c0, h1, h2, h3, h4, h5, h6, h7, h8, h9⟩ := hi
  obtain ⟨es', c', k1, kst, _, k4⟩ := h
  rw [h1] at k1
  simp only [Option.some.injEq, Obj.map.injEq] at k1
  obtain ⟨rfl, rfl⟩ := k1
  have hrb : r ≠ b := fun e => by rw [e, h1] at h2; cases h2
  rcases run_next_at (P := P) w o.type r b since c0 seen es c h2 h1 h3 h4 with ⟨z, hr⟩ | ⟨e, he, w1, hw1, hr⟩
  · have hrun : (execOp (ev f) o).run P w = .ok (.value (.tuple #[.bool false])) w := by
      unfold execOp
      simp only [ho, hx, Sem.run_bind, hr, Result.andThen_ok, Sem.run_pure]
    refine L.val hw hrun hd (hc0 fun i hi => ?_)
    obtain ⟨y, hy, hs⟩ := h9 i hi
    rw [← hs]
    cases hq : seen.contains y.born with
    | true => rfl
    | false =>
      have hmem : y ∈ leftOf es seen := by
        unfold leftOf
        rw [Array.mem_filter]
        exact ⟨Array.mem_of_getElem? hy, by rw [hq]; rfl⟩
      have := Array.size_pos_of_mem hmem
      omega
  have hrun : (execOp (ev f) o).run P w = .ok (.value (.tuple #[.bool true, e.key, e.val])) (Go.ChangeMaps.setBlock w1 r (.mapIter (some b) since (seen.push e.born) c)) := by
    unfold execOp
    simp only [ho, hx, Sem.run_bind, hr, Result.andThen_ok, Sem.run_pure]
  have hmem : e ∈ leftOf es seen := Array.mem_toList_iff.1 he
  unfold leftOf at hmem
  rw [Array.mem_filter] at hmem
  obtain ⟨hme, hns⟩ := hmem
  obtain ⟨i, hi, ei⟩ := Array.getElem_of_mem hme
  have hes : es[i]? = some e := by rw [Array.getElem?_eq_getElem hi, ei]
  obtain ⟨y, hy, ky, vy⟩ := k4 i (by omega)
  rw [hes] at hy
  obtain rfl := Option.some.inj hy
  obtain ⟨y2, hy2, hs⟩ := h9 i (by omega)
  rw [hes] at hy2
  obtain rfl := Option.some.inj hy2
  have hsf : S i = false := by rw [← hs]; simpa using hns
  have hh : w1.os = w.os ∧ w1.tape = w.tape ∧ w1.output = w.output ∧ w1.heap = w.heap := by rcases hw1 with rfl | rfl <;> exact ⟨rfl, rfl, rfl, rfl⟩
  have hsz : (Go.ChangeMaps.setBlock w1 r (.mapIter (some b) since (seen.push e.born) c)).heap.size = w.heap.size := by
    show (w1.heap.setIfInBounds r _).size = _; rw [hh.2.2.2]; simp
  have hst : Stp r w (Go.ChangeMaps.setBlock w1 r (.mapIter (some b) since (seen.push e.born) c)) :=
    ⟨hh.1, hh.2.1, hh.2.2.1, by rw [hsz]; exact Nat.le_refl _, fun k _ hne => by show (w1.heap.setIfInBounds r _)[k]? = _; rw [hh.2.2.2, Array.getElem?_setIfInBounds_ne (Ne.symm hne)]⟩
  have hrlt : r < w1.heap.size := by
    rcases hw1 with rfl | rfl <;> exact (Array.getElem?_eq_some_iff.1 h2).1
  rw [ky, vy] at hrun
  have q1 : (Go.ChangeMaps.setBlock w1 r (.mapIter (some b) since (seen.push e.born) c)).heap[b]? = some (.map es c) := by rw [hst.block b (Array.getElem?_eq_some_iff.1 h1).1 (Ne.symm hrb)]; exact h1
  have q2 : (Go.ChangeMaps.setBlock w1 r (.mapIter (some b) since (seen.push e.born) c)).heap[r]? = some (.mapIter (some b) since (seen.push e.born) c) := by simp [Go.ChangeMaps.setBlock, hrlt]
  refine L.val hw hrun hd (hc1 i _ (by omega) hsf ⟨es, c, since, seen.push e.born, c, q1, q2, h3, h7, h5, h6, h7, h8, fun j hj => ?_⟩ ⟨es, c, since, seen, e, q1, q2, hes, kst.2.1⟩ hst hsz)
  obtain ⟨y3, hy3, hs3⟩ := h9 j hj
  refine ⟨y3, hy3, ?_⟩
  unfold putI
  by_cases e5 : j = i
  · subst e5
    rw [hes] at hy3
    obtain rfl := Option.some.inj hy3
    rw [if_pos rfl]; simp
  rw [if_neg e5, ← hs3]
  have hne : y3.born ≠ e.born := fun e6 => e5 (h8 j i y3 e hy3 hes e6)
  cases hq : seen.contains y3.born with
  | true => simp at hq ⊢; exact .inl hq
  | false => simp at hq ⊢; exact ⟨hq, hne⟩
theorem x_entry {x : Operand} {r i : Nat} (ho : o.op = .entry x) (hx : ev f x = .pointer (some ⟨r, 0, none⟩)) (h : Mp w b n key val) (hi : Itc w r b i) (hin : i < n) : Runs P f o w (.tuple #[.int .u64 (key i), val i]) := by
  obtain ⟨es, c, s, se, e, h1, h2, h3, h4⟩ := hi
  obtain ⟨es', c', k1, _, _, k4⟩ := h
  rw [h1] at k1
  simp only [Option.some.injEq, Obj.map.injEq] at k1
  obtain ⟨rfl, rfl⟩ := k1
  obtain ⟨y, hy, ky, vy⟩ := k4 i hin
  rw [h3] at hy
  obtain rfl := Option.some.inj hy
  have hr := run_entry_at (P := P) w r b s se es c e h2 h1 (Array.mem_toList_iff.2 (Array.mem_of_getElem? h3)) h4
  unfold Runs execOp
  simp only [ho, hx, Sem.run_bind, hr, Result.andThen_ok, Sem.run_pure, ky, vy]
end
structure ChM (r : Nat) (w w' : World) : Prop where
  s : Stp r w w'
  no : ∀ T, ¬ Ty w r T
section
variable {w w' : World} {r b n : Nat}
theorem Mp.chm {m : Nat} {key : Nat → Int} {val : Nat → Value} (h : Mp w r m key val) (hs : Stp r w w') : ChM r w w' := ⟨hs, fun _ ht => h.noTy ht⟩
theorem It.chm {m q : Nat} {S : Nat → Bool} (h : It w r q m S) (hs : Stp r w w') : ChM r w w' := ⟨hs, fun _ ht => h.noTy ht⟩
theorem Itc.chm {q i : Nat} (h : Itc w r q i) (hs : Stp r w w') : ChM r w w' := ⟨hs, fun _ ht => h.noTy ht⟩
theorem Fam.chM {m s : Nat} {pb : Nat → Nat} {x : Nat → Nat → Value} {T : TypeId} (h : Fam w m pb s x T) (hc : ChM r w w') : Fam w' m pb s x T := fun i hi => (h i hi).stp hc.s fun e => hc.no T (e ▸ (h i hi).ty)
theorem Blk.chM {x : Nat → Value} {T : TypeId} (h : Blk w b n x T) (hc : ChM r w w') : Blk w' b n x T := h.stp hc.s fun e => hc.no T (e ▸ h.ty)
theorem Own.chM {B s : Nat} {E : TypeId} {v : Value} {x : Nat → Value} (h : Own w B E s v n x) (hc : ChM r w w') : Own w' B E s v n x := h.stp hc.s fun e => hc.no E (h.ty e)
theorem Mp.chM {key : Nat → Int} {val : Nat → Value} (h : Mp w b n key val) (hc : ChM r w w') (ne : b ≠ r) : Mp w' b n key val := h.stp hc.s ne
end
theorem look_cases (key : Nat → Int) (n : Nat) (k : Int) : (∃ j, j < n ∧ key j = k) ∨ ∀ i, i < n → key i ≠ k := by
  by_cases h : ∃ j, j < n ∧ key j = k
  · exact .inl h
  exact .inr fun i hi e => h ⟨i, hi, e⟩
theorem exists_min {p : Nat → Prop} (h : ∃ k, p k) : ∃ k, p k ∧ ∀ j, p j → k ≤ j := by
  obtain ⟨k, hk⟩ := h
  induction k using Nat.strongRecOn with
  | _ k ih =>
    by_cases h2 : ∃ j, j < k ∧ p j
    · obtain ⟨j, hj, hp⟩ := h2; exact ih j hj hp
    · exact ⟨k, hk, fun j hj => Nat.not_lt.1 fun hl => h2 ⟨j, hl, hj⟩⟩
open Classical in
theorem W.loopE {P : Program} {n : Nat} {c : Code} {Q : Post} {f : Nat → Value} {w : World} (I : Nat → (Nat → Value) → World → Prop) (k0 : Nat) (h0 : I k0 f w)
    (hr : ∀ k f w, I k f w → W P n c (loopK (fun f w => ∃ k', k' < k ∧ I k' f w) (fun _ _ => 0) 1 Q) f w) : W P n (.loop c) Q f w := by
  refine W.loop (fun f w => ∃ k, I k f w) (fun f w => if h : ∃ k, I k f w then (exists_min h).choose else 0) ⟨k0, h0⟩ fun f w h => ?_
  refine (hr _ f w (exists_min h).choose_spec.1).mono fun e f' w' hq => ?_
  rw [dif_pos h]
  cases e with
  | normal =>
    obtain ⟨⟨k', hk, hI⟩, _⟩ := hq
    refine ⟨⟨k', hI⟩, ?_⟩
    have h' : ∃ k, I k f' w' := ⟨k', hI⟩
    show (if h : ∃ k, I k f' w' then (exists_min h).choose else 0) < _
    rw [dif_pos h']
    exact Nat.lt_of_le_of_lt ((exists_min h').choose_spec.2 k' hI) hk
  | _ => exact hq
structure ChX (Ts : List TypeId) (w w' : World) : Prop where
  os : w'.os = w.os
  tape : w'.tape = w.tape
  output : w'.output = w.output
  size : w.heap.size ≤ w'.heap.size
  block : ∀ k T, Ty w k T → Ts.contains T = false → w'.heap[k]? = w.heap[k]?
section
variable {w w' w2 : World} {Ts Us : List TypeId}
theorem ChX.refl (w : World) : ChX Ts w w := ⟨rfl, rfl, rfl, Nat.le_refl _, fun _ _ _ _ => rfl⟩
theorem Ty.ltw {k : Nat} {T : TypeId} (h : Ty w k T) : k < w.heap.size := by
  obtain ⟨c, h⟩ := h
  exact (Array.getElem?_eq_some_iff.1 h).1
theorem ChX.trans (w w' w2 : World) (h : ChX Ts w w') (k : ChX Ts w' w2) : ChX Ts w w2 := ⟨k.os.trans h.os, k.tape.trans h.tape, k.output.trans h.output, Nat.le_trans h.size k.size, fun i T ht hT => by
  have e := h.block i T ht hT
  obtain ⟨c, hc⟩ := ht
  exact (k.block i T ⟨c, e.trans hc⟩ hT).trans e⟩
theorem ChX.of_chT (h : ChT Ts w w') : ChX Ts w w' := ⟨h.os, h.tape, h.output, h.size, fun k T ht hT => h.block k ht.ltw fun T' ht' => by rw [Ty.only ht ht']; exact hT⟩
theorem ChX.of_below (h : Below w.heap.size w w') : ChX Ts w w' := .of_chT (.of_below h)
theorem ChX.wide (h : ChX Ts w w') (hs : Ts.all Us.contains = true) : ChX Us w w' := ⟨h.os, h.tape, h.output, h.size, fun k T ht hT => h.block k T ht (by
  cases e : Ts.contains T with
  | false => rfl
  | true =>
    have h1 : T ∈ Ts := by simpa using e
    have h2 := (List.all_eq_true.1 hs) T h1
    rw [hT] at h2; cases h2)⟩
end
end Go.Proofs.Ytahbiajdgealnaa.Fx
namespace Go.Proofs.Ytahbiajdgealnaa
open Go.RowKit Go
set_option linter.unusedVariables false
namespace Fx
structure Fr0 (a : Act) (n : Nat) (f : Nat → Value) : Prop where
  size : a.tmps.size = n
  get : ∀ i, a.tmps.getD i undef = f i
theorem Fr.to0 {a : Act} {n : Nat} {f : Nat → Value} (h : Fr a n f) : Fr0 a n f := ⟨h.size, h.get⟩
theorem Fr0.to {a : Act} {n : Nat} {f : Nat → Value} (h : Fr0 a n f) (hd : a.defers = []) : Fr a n f := ⟨h.size, hd, h.get⟩
theorem Fr0.ev {a : Act} {n : Nat} {f : Nat → Value} (h : Fr0 a n f) : a.eval = Fx.ev f := by
  funext x
  cases x <;> simp only [Act.eval, Fx.ev]
  exact h.get _
theorem Fr0.put {a : Act} {n : Nat} {f : Nat → Value} (h : Fr0 a n f) {d : Option Nat} (hd : inn n d = true) (v : Value) : Fr0 (a.put d v) n (Fx.put f d v) := by
  have h1 : Fr { a with defers := [] } n f := ⟨h.size, rfl, h.get⟩
  have h2 := h1.put hd v
  cases d with
  | none => exact ⟨h2.size, h2.get⟩
  | some d => exact ⟨h2.size, h2.get⟩
theorem Fr0.yf {a : Act} {n : Nat} {f : Nat → Value} (h : Fr0 a n f) (ops : Array Oper) : yielded ops a.tmps = Fx.yf ops f := by
  have h1 : Fr { a with defers := [] } n f := ⟨h.size, rfl, h.get⟩
  exact h1.yf ops
theorem fr0_assign1 {a : Act} {n p : Nat} {v : Value} {f : Nat → Value} (h : Fr0 (a.put (some p) v) n f) : Fr0 { tmps := (#[p].zip #[v]).foldl (fun t (p, v) => t.setIfInBounds p v) a.tmps, defers := [] } n f := by
  have e : (#[p].zip #[v]).foldl (fun t (p, v) => t.setIfInBounds p v) a.tmps = (a.put (some p) v).tmps := by simp [Array.zip, Act.put]
  rw [e]; exact ⟨h.size, h.get⟩
theorem put_defers (a : Act) (d : Option Nat) (v : Value) : (a.put d v).defers = a.defers := by cases d <;> rfl
def FR (ro : Option Nat) : Fence := { Fence.wide with round := ro }
def notDefer (o : Oper) : Bool := match o.op with | .defer _ => false | _ => true
def lift0 (n : Nat) (ds : List Deferred) (Q : Post) : Exit → Act → World → Prop := fun e a w => ∃ f, Fr0 a n f ∧ a.defers = ds ∧ Q e f w
section
variable {P : Program} {n m : Nat} {ro : Option Nat} {Q : Post} {f : Nat → Value} {w : World} {o : Oper} {ops : Array Oper} {rest : List Oper}
theorem semAt_of (ro : Option Nat) (ρ : Operand → Value) (h : notDefer o = true) : o.semAt ro ρ = execOp ρ o :=
  Oper.semAt_eq ro ρ o fun c e => by unfold notDefer at h; rw [e] at h; cases h
theorem Out.wpIn {a : Act} {K : Value → World → Prop} {K' : Act → World → Prop} {Q' : Exit → Act → World → Prop} (ha : Fr0 a n f) (hd : notDefer o = true) (h : Out P f o w K) (hk : ∀ v w', K v w' → K' (a.put o.dst v) w') : o.wpIn (FR ro) m P a w K' Q' := by
  unfold Oper.wpIn
  refine ⟨fun _ _ => trivial, ?_⟩
  rw [semAt_of _ _ hd, ha.ev]
  rcases h with ⟨v, w', hr, h⟩ | ⟨w', hr, h⟩ | ⟨g, args, hr, h⟩
  · rw [hr]; exact hk v w' h
  · rw [hr]; exact hk undef w' h
  rw [hr, Oper.uponIn_enter]
  refine ⟨fun h => (by cases h), ?_⟩
  have key : ∀ R, Calls P g args w R → CallsIn (FR ro) (m - 1) P g args w R := fun R hR => by
    cases ro with
    | none => exact callsIn_wide.2 hR
    | some l => exact CallsIn.inRound l (callsIn_wide.2 hR)
  refine key _ (h.mono fun e w' ⟨v, he, hl⟩ => ?_)
  subst he; exact hk v w' hl
theorem L.toIn : ∀ {l : List Oper} {f : Nat → Value} {w : World}, L P n ops Q l f w → l.all notDefer = true → ∀ a, Fr0 a n f → wpListIn (FR ro) m P ops (lift0 n a.defers Q) l a w
  | [], f, w, h, _, a, ha => ⟨f, ha, rfl, h⟩
  | o :: rest, f, w, ⟨hd, h⟩, hn, a, ha => by
    rw [List.all_cons, Bool.and_eq_true] at hn
    unfold wpListIn
    rw [ha.yf]
    rcases h with ⟨hw, h⟩ | ⟨hw, h⟩
    · rw [if_pos hw]
      exact h.wpIn ha hn.1 fun v w' hl => by have := L.toIn hl hn.2 _ (ha.put hd v); rwa [put_defers] at this
    · rw [if_neg (by rw [hw]; decide)]
      exact ⟨fun _ _ => trivial, by have := L.toIn h hn.2 _ (ha.put hd undef); rwa [put_defers] at this⟩
theorem regIn {id : Nat} {ops : List Oper} {a : Act} {Q' : Exit → Act → World → Prop} (ha : Fr0 a n f) (h : L P n ops.toArray Q ops f w) (hn : ops.all notDefer = true := by rfl) (hq : ∀ e a' w', lift0 n a.defers Q e a' w' → Q' e a' w') : (Code.region id ops.toArray false).wpIn (FR ro) m P Q' a w :=
  wpIn_mono (wpIn_region_lit (L.toIn h hn a ha)) hq
def OutY (m : Nat) (P : Program) (f : Nat → Value) (o : Oper) (w : World) (K : Value → World → Prop) : Prop :=
  Out P f o w K ∨ ∃ l fn tmps assign body, (execOp (ev f) o).run P w = .ok (.round l fn tmps assign body) w ∧ RoundIn (FR none) (m - 1) P l fn tmps assign body w fun e w' => ∃ v, e = .returned v ∧ K v w'
def Ly (m : Nat) (P : Program) (n : Nat) (ops : Array Oper) (Q : Post) : List Oper → (Nat → Value) → World → Prop
  | [], f, w => Q .normal f w
  | o :: rest, f, w => inn n o.dst = true ∧ ((Region.wanted o (yf ops f) = true ∧ OutY m P f o w fun v w' => Ly m P n ops Q rest (put f o.dst v) w') ∨ (Region.wanted o (yf ops f) = false ∧ Ly m P n ops Q rest (put f o.dst undef) w))
theorem OutY.wpIn {a : Act} {K : Value → World → Prop} {K' : Act → World → Prop} {Q' : Exit → Act → World → Prop} (ha : Fr0 a n f) (hd : notDefer o = true) (h : OutY m P f o w K) (hk : ∀ v w', K v w' → K' (a.put o.dst v) w') : o.wpIn (FR none) m P a w K' Q' := by
  rcases h with h | ⟨l, fn, tmps, assign, body, hr, h⟩
  · exact h.wpIn ha hd hk
  unfold Oper.wpIn
  refine ⟨fun _ _ => trivial, ?_⟩
  rw [semAt_of _ _ hd, ha.ev, hr, Oper.uponIn_round]
  exact ⟨fun h => (by cases h), h.mono fun e w' ⟨v, he, hl⟩ => by subst he; exact hk v w' hl⟩
theorem Ly.to : ∀ {l : List Oper} {f : Nat → Value} {w : World}, Ly m P n ops Q l f w → l.all notDefer = true → ∀ a, Fr0 a n f → wpListIn (FR none) m P ops (lift0 n a.defers Q) l a w
  | [], f, w, h, _, a, ha => ⟨f, ha, rfl, h⟩
  | o :: rest, f, w, ⟨hd, h⟩, hn, a, ha => by
    rw [List.all_cons, Bool.and_eq_true] at hn
    unfold wpListIn
    rw [ha.yf]
    rcases h with ⟨hw, h⟩ | ⟨hw, h⟩
    · rw [if_pos hw]
      exact h.wpIn ha hn.1 fun v w' hl => by have := Ly.to hl hn.2 _ (ha.put hd v); rwa [put_defers] at this
    · rw [if_neg (by rw [hw]; decide)]
      exact ⟨fun _ _ => trivial, by have := Ly.to h hn.2 _ (ha.put hd undef); rwa [put_defers] at this⟩
theorem W.listY (m : Nat) {id : Nat} {ops : List Oper} (h : Ly m P n ops.toArray Q ops f w) (hn : ops.all notDefer = true := by rfl) : W P n (.region id ops.toArray false) Q f w := fun a ha =>
  (wpIn_wide (n := m)).1 (wpIn_mono (wpIn_region_lit (Ly.to h hn a ha.to0)) fun e a' w' ⟨f', h1, h2, h3⟩ => ⟨f', h1.to (h2.trans ha.defers), h3⟩)
theorem Ly.nil (h : Q .normal f w) : Ly m P n ops Q [] f w := h
theorem Ly.v (v : Value) (hr : Runs P f o w v) (h : Ly m P n ops Q rest (put f o.dst v) w) (hw : Region.wanted o (yf ops f) = true := by rfl) (hd : inn n o.dst = true := by rfl) : Ly m P n ops Q (o :: rest) f w := ⟨hd, .inl ⟨hw, .inl (.inl ⟨v, w, hr, h⟩)⟩⟩
theorem Ly.skip (hw : Region.wanted o (yf ops f) = false) (hd : inn n o.dst = true) (h : Ly m P n ops Q rest (put f o.dst undef) w) : Ly m P n ops Q (o :: rest) f w := ⟨hd, .inr ⟨hw, h⟩⟩
theorem Ly.call {g : FuncId} {args : Array Value} (hw : Region.wanted o (yf ops f) = true) (hr : (execOp (ev f) o).run P w = .ok (.enter g args) w) (hd : inn n o.dst = true)
    (h : Calls P g args w fun e w' => ∃ v, e = .returned v ∧ Ly m P n ops Q rest (put f o.dst v) w') : Ly m P n ops Q (o :: rest) f w := ⟨hd, .inl ⟨hw, .inl (.inr (.inr ⟨g, args, hr, h⟩))⟩⟩
theorem Ly.yield {l : Nat} {x : Operand} {xs : List Operand} {args : List Value} {Ts : Array TypeId} {R : Ending → World → Prop} (hw : Region.wanted o (yf ops f) = true) (ho : o.op = .call { callee := .value x, args := xs.toArray, argTypes := Ts }) (hx : ev f x = .func (.yield l) #[] #[]) (hxs : xs.map (ev f) = args) (hd : inn n o.dst = true)
    (hy : YieldAt (FR none) (m - 1) P l args.toArray w R) (h : ∀ e w', R e w' → ∃ v, e = .returned v ∧ Ly m P n ops Q rest (put f o.dst v) w') : Ly m P n ops Q (o :: rest) f w := by
  obtain ⟨fn, tmps, assign, body, hr, hR⟩ := hy
  refine ⟨hd, .inl ⟨hw, .inr ⟨l, fn, tmps, assign, body, ?_, hR.mono h⟩⟩⟩
  unfold execOp
  simp only [ho]
  unfold resolve
  simp only [Sem.run_bind, List.map_toArray, hxs, hx, Deferred.ofValue, Sem.run_pure, Result.andThen_ok]
  unfold invoke
  have e : (#[] ++ args.toArray : Array Value) = args.toArray := by simp
  show (Instr.yield l (#[] ++ args.toArray)).run P w = _
  rw [e]
  exact hr
theorem resF_eq0 {a : Act} (h : Fr0 a n f) (fn : Func) : results fn a.tmps = resF fn f := by
  have h1 : Fr { a with defers := [] } n f := ⟨h.size, rfl, h.get⟩
  exact resF_eq h1 fn
theorem leave1 {a : Act} {fn : Func} {R : Ending → World → Prop} {D : Nat} {v : Value} (h : Fr0 a n f) (hd : a.defers = [{ target := .collected D, args := #[] }]) (hK : w.heap[D]? = some (.deferred (some [])))
    (hv : (resF fn f).run P (w.putObj D (.deferred none)) = .ok v (w.putObj D (.deferred none))) (hR : R (.returned v) (w.putObj D (.deferred none))) : bodyPostM (FR none) m P fn R .ret a w := by
  show LeavesInM (FR none) m P fn a.tmps R a.defers .returning w
  rw [hd]
  exact ⟨by simp, .inl ⟨D, _, rfl, run_takeDeferred hK, v, by rw [resF_eq0 h]; exact hv, hR⟩⟩
end
end Fx
end Go.Proofs.Ytahbiajdgealnaa
namespace Go.Proofs.Ytahbiajdgealnaa
open Go.RowKit
namespace Rt
def C (x : Nat → Int) (i : Nat) : Int := x (6 + i)
def F (x : Nat → Int) (i : Nat) : Int := x (12 + i)
def R (x : Nat → Int) (i j : Nat) : Int := x (18 + i * 6 + j)
end Rt
end Go.Proofs.Ytahbiajdgealnaa
namespace Go.Proofs.Ytahbiajdgealnaa.Fx
open Go.RowKit
def joinK (I : (Nat → Value) → World → Prop) (Q : Post) : Post := fun e f w => match e with | .normal => I f w | e => Q e f w
section
variable {P : Program} {n : Nat} {Q : Post} {f : Nat → Value} {w : World} {I : (Nat → Value) → World → Prop}
theorem W.seqJ {x y : Code} (I : (Nat → Value) → World → Prop) (h1 : W P n x (joinK I Q) f w) (h2 : ∀ f w, I f w → W P n y Q f w) : W P n (.seq x y) Q f w :=
  Ws (W.mono h1 fun e f w hq => by
    cases e <;> first | exact h2 f w hq | exact hq)
theorem jnN (h : I f w) : joinK I Q .normal f w := h
theorem jnR (h : Q .ret f w) : joinK I Q .ret f w := h
end
end Go.Proofs.Ytahbiajdgealnaa.Fx
namespace Go.Proofs.Ytahbiajdgealnaa
open Go.RowKit Rt
open Fx (x_move x_assign x_field x_load1 x_pickF x_pickT x_nil x_conv x_indexS x_leqF x_len x_gtrF x_build x_eqlF x_eqlT Lv sN Ln Ws Qv Wl Rp Wc Qs Wr Sb Lk Wk rC rV sR)
abbrev pt (g : Nat) : Value := .pointer (some ⟨g, 0, none⟩)
abbrev pf (g o : Nat) : Value := .pointer (some ⟨g, o, none⟩)
theorem Fx.ic {k : IntKind} {a b : Int} (h : a = b := by first | rfl | omega) : Value.int k a = .int k b := congrArg _ h
theorem Fx.io {a c : Int} (h : -9223372036854775808 ≤ c ∧ c ≤ 9223372036854775807 := by omega) (e : a = c := by omega) : IntKind.i64.wrap a = c := Fx.i64e h e
theorem Fx.Blk.ne {w : World} {g n : Nat} {x : Nat → Value} {T : TypeId} (h : Fx.Blk w g n x T) : g ≠ w.heap.size := Nat.ne_of_lt h.lt
section
set_option maxRecDepth 20000
namespace Rt
def hasK (x : Nat → Int) : Nat → Int → Bool
  | 0, _ => false
  | n + 1, k => hasK x n k || decide (x n = k)
def parK (x p : Nat → Int) : Nat → Int → Int
  | 0, _ => 0
  | n + 1, k => if x n = k then p n else parK x p n k
section
variable {x p : Nat → Int} {n j : Nat} {k : Int}
theorem hasK_yes : ∀ {n : Nat}, j < n → x j = k → hasK x n k = true
  | n + 1, h, e => by
    unfold hasK
    by_cases c : j = n
    · subst c; rw [decide_eq_true e, Bool.or_true]
    · rw [hasK_yes (show j < n by omega) e, Bool.true_or]
theorem hasK_no : ∀ {n : Nat}, (∀ i, i < n → x i ≠ k) → hasK x n k = false
  | 0, _ => rfl
  | n + 1, h => by unfold hasK; rw [hasK_no fun i hi => h i (by omega), decide_eq_false (h n (by omega))]; rfl
theorem hasK_at : ∀ {n : Nat}, hasK x n k = true → ∃ j, j < n ∧ x j = k
  | n + 1, h => by
    unfold hasK at h
    rw [Bool.or_eq_true] at h
    rcases h with h | h
    · obtain ⟨j, hj, e⟩ := hasK_at h; exact ⟨j, by omega, e⟩
    · exact ⟨n, by omega, of_decide_eq_true h⟩
theorem parK_at (hi : ∀ a b, a < n → b < n → x a = x b → a = b) (hj : j < n) (e : x j = k) : parK x p n k = p j := by
  induction n with
  | zero => omega
  | succ n ih =>
    unfold parK
    by_cases c : j = n
    · subst c; rw [if_pos e]
    · rw [if_neg fun e2 => c (hi j n (by omega) (by omega) (e.trans e2.symm))]
      exact ih (fun a b ha hb => hi a b (by omega) (by omega)) (by omega)
def upK (x p : Nat → Int) (n : Nat) : Nat → Int → List Int
  | 0, _ => []
  | d + 1, k => if hasK x n k = true then k :: upK x p n d (parK x p n k) else []
def stopK (x p : Nat → Int) (n : Nat) : Nat → Int → Prop
  | 0, k => hasK x n k = false
  | d + 1, k => hasK x n k = true → stopK x p n d (parK x p n k)
theorem upK_no {d : Nat} (h : hasK x n k = false) : upK x p n d k = [] := by cases d with
  | zero => rfl
  | succ d => unfold upK; rw [if_neg (by rw [h]; decide)]
theorem stopK_pos {d : Nat} (h : stopK x p n d k) (hk : hasK x n k = true) : ∃ e, d = e + 1 ∧ stopK x p n e (parK x p n k) ∧ upK x p n d k = k :: upK x p n e (parK x p n k) := by
  cases d with
  | zero => have h : hasK x n k = false := h; rw [hk] at h; cases h
  | succ d => exact ⟨d, rfl, h hk, by show (if _ then _ else _) = _; rw [if_pos hk]⟩
end
structure JF (q : Nat) (J : List Int → World → Prop) (pre : List Int) (w : World) : Prop where
  ab : Rgq.AbidesQ q J
  j : J pre w
theorem JF.stp {q : Nat} {J : List Int → World → Prop} {pre : List Int} {w w' : World} (h : JF q J pre w) (hs : Fx.Stp q w w') : JF q J pre w' :=
  ⟨h.ab, h.ab _ w w' (some q) h.j ⟨hs.os, hs.tape, hs.output, hs.size, fun k hk hne => hs.block k hk (fun e => hne (by rw [e]))⟩ (fun r e => (Option.some.inj e).symm)⟩
theorem JF.up {q : Nat} {J : List Int → World → Prop} {pre : List Int} {w w' : World} (h : JF q J pre w) (hb : Below w.heap.size w w') : JF q J pre w' :=
  ⟨h.ab, h.ab _ w w' none h.j ⟨hb.os, hb.tape, hb.output, hb.size, fun k hk _ => hb.block k hk⟩ (fun r e => by cases e)⟩
structure KpT (tp mb bt q : Nat) (w w' : World) : Prop where
  size : w.heap.size ≤ w'.heap.size
  t : w'.heap[tp]? = w.heap[tp]?
  m : w'.heap[mb]? = w.heap[mb]?
  b : w'.heap[bt]? = w.heap[bt]?
  q : w'.heap[q]? = w.heap[q]?
end Rt
theorem t_has (x p : Nat → Int) (n tp mb : Nat) (k : Int) (w : World) (hT : Fx.Blk w tp 1 (fun _ => .map (some mb)) 42) (hM : Fx.Mp w mb n x (fun j => .int .u64 (p j))) :
    Calls Try.prog 8 #[(pt tp), .int .u64 (k)] w fun e w' => e = .returned (.bool (hasK x n k)) ∧ w' = w := by
 have ltp := hT.lt
 refine Fx.enter Try.func8 rfl (n := 19) rfl (by rfl) ?_
 refine Ws (Wl (Lv (.bool false) (x_assign rfl rfl) (Ln (sN (Ws (Ws (Wl (Lv ((pt tp)) (x_move rfl rfl) (Lv (.bool false) (Fx.x_eqNil rfl rfl rfl (by kernel_rfl)) (Ln (sN (Wc (b := false) rfl (fun h => nomatch h) (fun _ => Wk (sN (Ws (Wl (Lv ((pt tp)) (x_move rfl rfl) (Lv ((pt tp)) (x_nil rfl rfl) (Lv ((pt tp)) (x_field rfl rfl Try.underlying42 rfl (s := 1) (by kernel_rfl) rfl rfl) (Lv (.map (some mb)) (x_load1 (x := fun _ => .map (some mb)) rfl rfl (by kernel_rfl) hT.cel (i := 0) (by omega) (by omega) rfl) (Lv (.int .u64 (k)) (x_move rfl rfl) ?_)))))))))))))))))))))
 rcases Fx.look_cases x n k with ⟨jlk1, hjlk1, ejlk1⟩ | hnlk1
 ·refine Lv (.tuple #[.int .u64 (p jlk1), .bool true]) (Fx.x_look2Y rfl rfl rfl hM Try.underlying40 Try.underlying28 (by rfl) hjlk1 ejlk1 rfl) (Lv (.tuple #[.int .u64 (p jlk1), .bool true]) (x_move rfl rfl) (Lv (.int .u64 (p jlk1)) (Fx.x_extract rfl rfl rfl) (Lv (.bool true) (Fx.x_extract rfl rfl rfl) (Lv (.int .u64 (p jlk1)) (x_assign rfl rfl) (Lv (.bool true) (x_assign rfl rfl) (Ln (sN (Ws (Wl (Lv (.bool true) (x_move rfl rfl) (Lv (.bool true) (x_assign rfl rfl) (Ln (sN (Wr (⟨.bool true, rV Try.results8 (by exact rfl), ?_⟩)))))))))))))))
  exact ⟨congrArg (fun q => Ending.returned (Value.bool q)) (Eq.symm (hasK_yes hjlk1 ejlk1)), rfl⟩
 refine Lv (.tuple #[.int .u64 (0), .bool false]) (Fx.x_look2N rfl rfl rfl hM Try.underlying40 Try.underlying28 (by rfl) hnlk1) (Lv (.tuple #[.int .u64 (0), .bool false]) (x_move rfl rfl) (Lv (.int .u64 (0)) (Fx.x_extract rfl rfl rfl) (Lv (.bool false) (Fx.x_extract rfl rfl rfl) (Lv (.int .u64 (0)) (x_assign rfl rfl) (Lv (.bool false) (x_assign rfl rfl) (Ln (sN (Ws (Wl (Lv (.bool false) (x_move rfl rfl) (Lv (.bool false) (x_assign rfl rfl) (Ln (sN (Wr (⟨.bool false, rV Try.results8 (by exact rfl), ?_⟩)))))))))))))))
 exact ⟨congrArg (fun q => Ending.returned (Value.bool q)) (Eq.symm (hasK_no hnlk1)), rfl⟩
theorem t_up (tp : Nat) (k : Int) (w : World) :
    Calls Try.prog 16 #[(pt tp), .int .u64 (k)] w fun e w' => ∃ bt q, e = .returned (.func (.func 20) #[] #[(pt bt), (pt q)]) ∧ w.heap.size ≤ bt ∧ w.heap.size ≤ q ∧ Fx.Blk w' bt 1 (fun _ => (pt tp)) 24 ∧ Fx.Blk w' q 1 (fun _ => .int .u64 k) 28 ∧ Below w.heap.size w w' := by
 refine Fx.enter Try.func16 rfl (n := 6) rfl (by rfl) ?_
 refine Ws (Wl (Fx.L.box (m := 1) (y := fun _ => (pt tp)) (by rfl) rfl rfl (Fx.cells_one (by rfl)) rfl fun g1 w1 eg1 m1 s1 z1 => ?_))
 have b1 := s1.below (Below.refl w.heap.size w) (Below.refl w.heap.size w).size (Below.refl w.heap.size w).size
 have lg1 : w.heap.size ≤ g1 := by rw [eg1]; exact (Below.refl w.heap.size w).size
 have tg1 : g1 < w1.heap.size := m1.lt
 clear eg1
 refine Fx.L.box (m := 1) (y := fun _ => .int .u64 (k)) (by rfl) rfl rfl (Fx.cells_one (by rfl)) rfl fun g2 w2 eg2 m2 s2 z2 => ?_
 have m3 := m1.stp s2 m1.ne
 have b2 := s2.below b1 b1.size b1.size
 have lg2 : w.heap.size ≤ g2 := by rw [eg2]; exact b1.size
 have ng2m3 : g1 ≠ g2 := by rw [eg2]; exact Nat.ne_of_lt (m1.lt)
 have tg2 : g2 < w2.heap.size := m2.lt
 clear eg2
 refine Lv (.nilFunc) (x_assign rfl rfl) (Ln (sN (Ws (Wl (Lv (.func (.func 20) #[] #[(pt g1), (pt g2)]) (Fx.x_func (us := []) (vs := [(pt g1), (pt g2)]) rfl rfl rfl) (Lv (.func (.func 20) #[] #[(pt g1), (pt g2)]) (x_assign rfl rfl) (Ln (sN (Wr (⟨.func (.func 20) #[] #[(pt g1), (pt g2)], rV Try.results16 (by exact rfl), ?_⟩))))))))))
 exact ⟨g1, g2, rfl, lg1, lg2, m3, m2, b2⟩
theorem t_up1 (J : List Int → World → Prop) (l tp mb bt q n d0 : Nat) (x p : Nat → Int) (k : Int) (w : World) (hT : Fx.Blk w tp 1 (fun _ => .map (some mb)) 42) (hM : Fx.Mp w mb n x (fun j => .int .u64 (p j))) (hB : Fx.Blk w bt 1 (fun _ => (pt tp)) 24) (hQ : Fx.Blk w q 1 (fun _ => .int .u64 (k)) 28) (hinj : ∀ a b, a < n → b < n → x a = x b → a = b) (hst0 : stopK x p n d0 k) (hJ : JF q J [] w) (hd : bt ≠ q ∧ tp ≠ q)
  (hY : ∀ pre v W1, J pre W1 → pre.length < (upK x p n d0 k).length → Go.YieldAt (Fx.FR none) 1 Try.prog l #[.int .u64 v] W1 fun e W' => e = .returned (.bool true) ∧ J (pre ++ [v]) W' ∧ KpT tp mb bt q W1 W') :
    Calls Try.prog 20 #[.func (.yield l) #[] #[], (pt bt), (pt q)] w fun e w' => (∃ v, e = .returned v) ∧ ∃ xs, xs = upK x p n d0 k ∧ J xs w' := by
 obtain ⟨hd1, hd2⟩ := hd
 have lq := hQ.lt
 refine Fx.enter Try.func20 rfl (n := 18) rfl (by rfl) ?_
 refine Fx.W.block (Fx.W.loopE (fun d f w_ => ∃ pre : List Int, ∃ cur : Int, stopK x p n d cur ∧ pre ++ upK x p n d cur = upK x p n d0 k ∧ f 0 = .func (.yield l) #[] #[] ∧ f 1 = (pt bt) ∧ f 2 = (pt q) ∧ Fx.Blk w_ tp 1 (fun _ => .map (some mb)) 42 ∧ Fx.Mp w_ mb n x (fun j => .int .u64 (p j)) ∧ Fx.Blk w_ bt 1 (fun _ => (pt tp)) 24 ∧ Fx.Blk w_ q 1 (fun _ => .int .u64 (cur)) 28 ∧ JF q J pre w_) (d0) ⟨[], k, hst0, (List.nil_append _), (by rfl), (by rfl), (by rfl), hT, hM, hB, hQ, hJ⟩ ?_)
 rintro d f1 w1 ⟨pre, cur, hst, hpa, h1, h2, h3, m1, m2, m3, m4, m5⟩
 refine Ws (Ws (Fx.W.listY 2 (Fx.Ly.v ((pt tp)) (x_load1 (x := fun _ => (pt tp)) rfl h2 (by kernel_rfl) m3.cel (i := 0) (by omega) (by omega) rfl) ?_)))
 refine Fx.Ly.v (.int .u64 (cur)) (x_load1 (x := fun _ => .int .u64 (cur)) rfl h3 (by kernel_rfl) m4.cel (i := 0) (by omega) (by omega) rfl) ?_
 by_cases c6 : (hasK x n cur) = true
 ·refine Fx.Ly.call (by rfl) (rC (args := [(pt tp), .int .u64 (cur)]) rfl rfl Try.func8 rfl rfl) rfl ((t_has x p n tp mb cur _ m1 m2).mono ?_)
  rintro e v1 ⟨he, hv1⟩
  subst v1
  refine ⟨.bool true, by rw [he, c6], ?_⟩
  clear he
  refine Fx.Ly.v (.bool true) (x_move rfl rfl) ?_
  refine Fx.Ly.v (.func (.yield l) #[] #[]) (x_move rfl h1) ?_
  refine Fx.Ly.v (.int .u64 (cur)) (x_load1 (x := fun _ => .int .u64 (cur)) rfl h3 (by kernel_rfl) m4.cel (i := 0) (by omega) (by omega) rfl) ?_
  obtain ⟨d1, ed1, hst1, hp1⟩ := stopK_pos hst c6
  refine Fx.Ly.yield (l := l) (args := [.int .u64 (cur)]) rfl rfl rfl (Fx.args1 rfl) rfl (hY pre cur _ m5.j (by have := congrArg List.length hpa; rw [hp1, List.length_append, List.length_cons] at this; omega)) ?_
  rintro e9 w2 ⟨rfl, hJ1, hk1⟩
  refine ⟨.bool true, rfl, ?_⟩
  have m6 : Fx.Blk w2 tp 1 (fun _ => .map (some mb)) 42 := (hk1.t).trans m1
  have m7 : Fx.Mp w2 mb n x (fun j => .int .u64 (p j)) := m2.keep hk1.m
  have m8 : Fx.Blk w2 bt 1 (fun _ => (pt tp)) 24 := (hk1.b).trans m3
  have m9 : Fx.Blk w2 q 1 (fun _ => .int .u64 (cur)) 28 := (hk1.q).trans m4
  have m10 : JF q J (pre ++ [cur]) w2 := ⟨m5.ab, hJ1⟩
  refine Fx.Ly.v (.bool true) (x_pickT rfl rfl rfl) ?_
  refine Fx.Ly.nil ?_
  refine sN (Wc (b := true) rfl (fun _ => Wk (sN (Fx.W.block ?_))) (fun h => nomatch h))
  obtain ⟨jz, hjz, ejz⟩ := hasK_at c6
  -- region 1 draws
  refine Fx.W.reord [0, 1, 2, 3, 4, 5, 6] [4, 0, 0, 4, 4, 3, 3] Fx.Mk Fx.Mk.refl Fx.Mk.trans (certs := [(5, 0, [3, 2, 1, 0]), (6, 0, [0]), (5, 3, [3]), (6, 3, [3]), (5, 4, [4]), (6, 4, [4]), (6, 5, [5])]) (by kernel_rfl) (by kernel_rfl) (by kernel_rfl) (by kernel_rfl) (by kernel_rfl) fun wt1 hbwt1 hzwt1 => ?_
  have s1 : Fx.Stp w2.heap.size w2 wt1 := Sb hbwt1
  have m11 := m6.stp s1 m6.ne
  have m12 := m7.up s1.old
  have m13 := m8.stp s1 m8.ne
  have m14 := m9.stp s1 m9.ne
  have m15 := m10.up s1.old
  refine Fx.R.s ((pt tp)) (x_load1 (x := fun _ => (pt tp)) rfl h2 (by kernel_rfl) m13.cel (i := 0) (by omega) (by omega) rfl) ?_
  refine Rp ((pt tp)) (fun v1 => x_nil rfl rfl) (Rp ((pt tp)) (fun v1 => x_field rfl rfl Try.underlying42 rfl (s := 1) (by kernel_rfl) rfl rfl) (Fx.R.s (.map (some mb)) (x_load1 (x := fun _ => .map (some mb)) rfl rfl (by kernel_rfl) m11.cel (i := 0) (by omega) (by omega) rfl) ?_))
  refine Fx.R.s (.int .u64 (cur)) (x_load1 (x := fun _ => .int .u64 (cur)) rfl h3 (by kernel_rfl) m14.cel (i := 0) (by omega) (by omega) rfl) ?_
  refine Fx.R.eff (by rfl) ?_
  refine Lv (.int .u64 (p jz)) (Fx.x_lookY rfl rfl rfl m12 Try.underlying40 Try.underlying28 (by rfl) hjz ejz rfl) (Ln (Fx.R.eff (by rfl) (Fx.L.store1 (x := fun _ => .int .u64 (cur)) (u := .int .u64 (p jz)) (by rfl) rfl rfl h3 rfl (by rfl) (by kernel_rfl) m14 (i := 0) (by omega) fun w3 m16 s2 z1 => ?_)))
  have m17 : Fx.Blk w3 q 1 (fun _ => .int .u64 (p jz)) 28 := Fx.upd_all m16
  have hct1 := Fx.ChT.of_stp s2 m14.ty
  have m18 := m11.chT hct1 (by decide)
  have m19 := m12.chT hct1 trivial
  have m20 := m13.chT hct1 (by decide)
  have m21 := m15.stp s2
  refine Ln (Fx.R.nil (Fx.blkN ?_))
  have m22 : Fx.Blk w3 q 1 (fun _ => .int .u64 (parK x p n cur)) 28 := by rw [parK_at hinj hjz ejz]; exact m17
  skip
  refine Fx.lpN ⟨d1, (by omega), (pre ++ [cur]), (parK x p n cur), hst1, (by rw [List.append_assoc]; rw [hp1] at hpa; exact hpa), h1, h2, h3, m18, m19, m20, m22, m21⟩ (by decide)
 rw [Bool.not_eq_true] at c6
 refine Fx.Ly.call (by rfl) (rC (args := [(pt tp), .int .u64 (cur)]) rfl rfl Try.func8 rfl rfl) rfl ((t_has x p n tp mb cur _ m1 m2).mono ?_)
 rintro e v1 ⟨he, hv1⟩
 subst v1
 refine ⟨.bool false, by rw [he, c6], ?_⟩
 clear he
 refine Fx.Ly.v (.bool false) (x_move rfl rfl) ?_
 refine Fx.Ly.skip (by rfl) rfl ?_
 refine Fx.Ly.skip (by rfl) rfl ?_
 refine Fx.Ly.skip (by rfl) rfl ?_
 refine Fx.Ly.v (.bool false) (x_pickF rfl rfl rfl) ?_
 refine Fx.Ly.nil ?_
 refine sN (Wc (b := false) rfl (fun h => nomatch h) (fun _ => Fx.W.exit (Fx.seqX (Fx.lpX (Fx.blkX (⟨.tuple #[], Fx.ret0 Try.results20, ?_⟩))))))
 exact ⟨⟨_, rfl⟩, pre, (by rw [upK_no c6, List.append_nil] at hpa; exact hpa), m5.j⟩
end
end Go.Proofs.Ytahbiajdgealnaa
namespace Go.Proofs.Ytahbiajdgealnaa
open Go.RowKit Go Rt
set_option linter.unusedVariables false
namespace Rt
def lsU (l : List Int) : Nat → Value := fun i => .int .u64 (l.getD i 0)
theorem lsU_app {l : List Int} {v : Int} {z : Nat → Value} : ∀ j, j < (l.length + 1) * 1 → Fx.appX (lsU l) (l.length * 1) (Fx.ovr z (0 * 1) 1 (fun _ => .int .u64 v)) j = lsU (l ++ [v]) j := fun j hj => by
  unfold Fx.appX lsU
  by_cases h : j < l.length * 1
  · rw [if_pos h, List.getD_eq_getElem?_getD, List.getD_eq_getElem?_getD, List.getElem?_append_left (by omega)]
  · rw [if_neg h]
    obtain rfl : j = l.length := by omega
    unfold Fx.ovr
    rw [if_pos (by omega)]; simp
structure PI (gl bt q B : Nat) (w0 : World) (pre : List Int) (w : World) : Prop where
  ex : ∃ a c, Fx.Blk w gl 1 (fun _ => .slice a pre.length c) 33 ∧ Fx.Own w B 28 1 (.slice a pre.length c) pre.length (lsU pre) ∧ (∀ r, (Value.slice a pre.length c).ownBlock = some r → r ≠ bt ∧ r ≠ q ∧ r ≠ gl)
  be : Below B w0 w
  lb : bt < w.heap.size
  lq : q < w.heap.size
theorem KeepsOthers.of_stp {g : Nat} {w w' : World} (h : Fx.Stp g w w') (hg : ∀ o, w.heap[g]? = some o → o.isCells = true) : KeepsOthers w w' :=
  ⟨h.size, fun k o hk ho => by
    by_cases e : k = g
    · subst e; rw [hg o hk] at ho; cases ho
    · exact (h.block k (Array.getElem?_eq_some_iff.1 hk).1 e).trans hk⟩
theorem KeepsOthers.of_grown {w w' : World} {v : Value} (h : w.grownBy w' v.ownBlock) (hg : ∀ r o, v.ownBlock = some r → w.heap[r]? = some o → o.isCells = true) : KeepsOthers w w' :=
  ⟨h.size, fun k o hk ho => by
    refine (h.block k (Array.getElem?_eq_some_iff.1 hk).1 fun e => ?_).trans hk
    rw [hg k o e.symm hk] at ho; cases ho⟩
theorem Ty_cells {w : World} {g : Nat} {T : TypeId} (h : Fx.Ty w g T) : ∀ o, w.heap[g]? = some o → o.isCells = true := fun o ho => by
  obtain ⟨cs, h⟩ := h
  rw [h] at ho; cases ho; rfl
theorem KpT.trans {tp mb bt q : Nat} {A B C : World} (h : KpT tp mb bt q A B) (k : KpT tp mb bt q B C) : KpT tp mb bt q A C := ⟨Nat.le_trans h.size k.size, k.t.trans h.t, k.m.trans h.m, k.b.trans h.b, k.q.trans h.q⟩
theorem KpT.of {tp mb bt q : Nat} {A B : World} (hs : A.heap.size ≤ B.heap.size) (h : ∀ k, k = tp ∨ k = mb ∨ k = bt ∨ k = q → B.heap[k]? = A.heap[k]?) : KpT tp mb bt q A B := ⟨hs, h _ (.inl rfl), h _ (.inr (.inl rfl)), h _ (.inr (.inr (.inl rfl))), h _ (.inr (.inr (.inr rfl)))⟩
theorem PI.own {gl bt q B B2 : Nat} {w0 : World} (hB : B ≤ w0.heap.size) (hq : gl ≠ q) (hqB : B ≤ q) (hB2 : B ≤ B2) : Rgq.OwnQ q B2 (PI gl bt q B w0) := fun s W W' row hs hg hr => by
  obtain ⟨⟨aa, cc, m, o, hne⟩, hbe, hlb, hlq⟩ := hs
  have hcell : ∀ r T, Fx.Ty W r T → r ≠ q → row ≠ some r := fun r T ht hrq e => by
    rcases hr r e with h1 | ⟨_, ob, h1, h2⟩
    · exact hrq h1
    · rw [Ty_cells ht ob h1] at h2; cases h2
  refine ⟨⟨aa, cc, ?_, ?_, hne⟩, hbe.grown hg (Nat.le_trans hB hbe.size) fun r e => ?_, Nat.lt_of_lt_of_le hlb hg.size, Nat.lt_of_lt_of_le hlq hg.size⟩
  · exact (hg.block gl m.lt fun e => hcell gl _ m.ty hq e.symm).trans m
  · refine World.ownsRow.kept o hg ?_
    cases hb : (Value.slice aa s.length cc).ownBlock with
    | none => exact .inl rfl
    | some r => exact .inr fun e => hcell r _ (o.ty hb) (hne r hb).2.1 e.symm
  · rcases hr r e with rfl | ⟨h1, _⟩
    · exact hqB
    · omega
end Rt
open Rt
theorem up1_seq (tp mb bt q n d0 : Nat) (x p : Nat → Int) (k : Int) (hinj : ∀ a b, a < n → b < n → x a = x b → a = b) (hst0 : stopK x p n d0 k) (hd : bt ≠ q ∧ tp ≠ q) :
    Rgq.SeqQ (Fx.FR none) 2 Try.prog 20 #[(pt bt), (pt q)] (fun v : Int => #[.int .u64 v]) (KpT tp mb bt q) (fun xs => xs = upK x p n d0 k) (upK x p n d0 k).length q
      (fun w => Fx.Blk w tp 1 (fun _ => .map (some mb)) 42 ∧ Fx.Mp w mb n x (fun j => .int .u64 (p j)) ∧ Fx.Blk w bt 1 (fun _ => (pt tp)) 24 ∧ Fx.Blk w q 1 (fun _ => .int .u64 k) 28) :=
  fun l J W ⟨hT, hM, hB, hQ⟩ hab hY h0 => callsIn_wide.2 (t_up1 J l tp mb bt q n d0 x p k W hT hM hB hQ hinj hst0 ⟨hab, h0⟩ hd hY)
set_option maxRecDepth 10000 in
theorem t_path (x p : Nat → Int) (n tp mb d0 : Nat) (k : Int) (w : World) (hT : Fx.Blk w tp 1 (fun _ => .map (some mb)) 42) (hM : Fx.Mp w mb n x (fun j => .int .u64 (p j))) (hinj : ∀ a b, a < n → b < n → x a = x b → a = b) (hst0 : stopK x p n d0 k) (hlen : (upK x p n d0 k).length ≤ 1000000) :
    Calls Try.prog 11 #[(pt tp), .int .u64 k] w fun e w' => ∃ a c, e = .returned (.slice a (upK x p n d0 k).length c) ∧ Fx.Own w' w.heap.size 28 1 (.slice a (upK x p n d0 k).length c) (upK x p n d0 k).length (lsU (upK x p n d0 k)) ∧ Below w.heap.size w w' := by
  have ltp := hT.lt
  have lmb := hM.lt
  refine (callsIn_wide (n := 3)).1 (callsIn_of_wp_marks (F := Fx.FR none) Try.func11 rfl trivial ?_ rfl)
  have ha : Fx.Fr0 { tmps := #[(pt tp), .int .u64 k] ++ Array.replicate (Try.f11.ntmps - 2) undef, defers := [] } 15 (Fx.start #[(pt tp), .int .u64 k]) := by
    refine ⟨by rfl, fun i => ?_⟩
    simp only [Fx.start, Array.getD_eq_getD_getElem?, Array.getElem?_append, Array.getElem?_replicate]
    by_cases hi : i < 2
    · simp [hi]
    · have h2 : ¬ i < (#[(pt tp), .int .u64 k] : Array Value).size := by simpa using hi
      rw [if_neg h2]
      split
      · rw [Array.getElem?_eq_none (by simpa using hi)]; rfl
      · rw [Array.getElem?_eq_none (by simpa using hi)]
  refine wpIn_seq (Fx.regIn (Q := fun e f1 w1 => e = .normal ∧ f1 0 = (pt tp) ∧ f1 1 = .int .u64 k ∧ f1 4 = (pt w.heap.size) ∧ Fx.Blk w1 w.heap.size 1 (fun _ => .slice none 0 0) 33 ∧ Below w.heap.size w w1) ha ?_ (by rfl) ?_)
  · refine Fx.L.new (m := 1) (y := fun _ => .slice none 0 0) (by rfl) rfl (by kernel_rfl) rfl fun g1 w1 eg1 m1 s1 z1 => ?_
    subst eg1
    exact Fx.Ln ⟨rfl, rfl, rfl, rfl, m1, s1.old⟩
  rintro e a1 w1 ⟨f1, ha1, hd1, rfl, h0, h1, h4, m1, b1⟩
  have lgl := m1.lt
  refine wpIn_seq (wpIn_seq (Fx.regIn (Q := fun e f2 w2 => e = .normal ∧ f2 4 = (pt w.heap.size) ∧ Below w1.heap.size w1 w2 ∧ ∃ bt q, f2 8 = .func (.func 20) #[] #[(pt bt), (pt q)] ∧ w1.heap.size ≤ bt ∧ w1.heap.size ≤ q ∧ Fx.Blk w2 bt 1 (fun _ => (pt tp)) 24 ∧ Fx.Blk w2 q 1 (fun _ => .int .u64 k) 28) ha1 ?_ (by rfl) ?_))
  · refine Fx.Lv ((pt tp)) (Fx.x_move rfl h0) (Fx.Lv (.int .u64 k) (Fx.x_move rfl h1) (Fx.L.call (by rfl) (Fx.rC (args := [(pt tp), .int .u64 k]) rfl rfl Try.func16 rfl rfl) rfl ((t_up tp k _).mono ?_)))
    rintro e w2 ⟨bt, q, he, lb, lq, mb', mq', hb⟩
    exact ⟨_, he, Fx.Ln ⟨rfl, h4, hb, bt, q, rfl, lb, lq, mb', mq'⟩⟩
  rintro e a2 w2 ⟨f2, ha2, hd2, rfl, h4, b2, bt, q, h8, lbt, lq, mbt, mq⟩
  have hds : a2.defers = [] := hd2.trans hd1
  have tbt := mbt.lt
  have tq := mq.lt
  have bq : bt ≠ q := fun e => by
    subst e
    have := mbt.symm.trans mq
    simp only [Option.some.injEq, Obj.cells.injEq] at this
    exact absurd this.2.1 (by decide)
  have m2 := m1.stp (Fx.Sb b2) (Nat.ne_of_lt m1.lt)
  have s1 := b1.size
  have s2 := b2.size
  have b12 : Below w.heap.size w w2 := b1.trans (b2.mono s1)
  have hT2 : Fx.Blk w2 tp 1 (fun _ => .map (some mb)) 42 := (b12.block tp ltp).trans hT
  have hM2 : Fx.Mp w2 mb n x (fun j => .int .u64 (p j)) := hM.keep (b12.block mb lmb)
  have hgq : w.heap.size ≠ q := by omega
  refine wpIn_block (Rgq.wpIn_rangeFuncQ (F := Fx.FR none) rfl (by decide) (gf := 20) (lb := #[(pt bt), (pt q)]) ?hg trivial (fun args w => run_enter Try.func20 (by kernel_rfl) rfl args w)
    (up1_seq tp mb bt q n d0 x p k hinj hst0 ⟨bq, by omega⟩) tq ⟨hT2, hM2, mbt, mq⟩ ?hIpa (fun h k => h.trans k) ?hKb (fun _ => rfl) (PI w.heap.size bt q w.heap.size w) (PI.own (Nat.le_refl _) hgq (by omega) (by omega))
    ⟨⟨none, 0, m2, Fx.Own.nil _ _ _ _ _, fun r e => by cases e⟩, b12, tbt, tq⟩ (fun v a => ∃ f, Fx.Fr0 a 15 f ∧ f 4 = (pt w.heap.size) ∧ f 5 = .int .u64 v) ?assign ?body ?done)
  case hg => rw [ha2.ev]; exact h8
  case hIpa =>
    rintro W o hw ⟨i1, i2, i3, i4⟩
    exact ⟨(Below.heap_alloc W o tp i1.lt).trans i1, i2.keep (Below.heap_alloc W o mb i2.lt), (Below.heap_alloc W o bt i3.lt).trans i3, (Below.heap_alloc W o q i4.lt).trans i4⟩
  case hKb =>
    intro W l o o' hl _ _ _
    exact KpT.of (by simp) fun r hr => World.putObj_heap_other (by omega)
  case assign =>
    intro l v W
    have hp := ha2.put (d := some 9) rfl (.int .u64 v)
    refine Fx.regIn (ro := some l) (n := 15) (f := Fx.put f2 (some 9) (.int .u64 v)) (Q := fun e f w' => e = .normal ∧ f 4 = (pt w.heap.size) ∧ f 5 = .int .u64 v ∧ w' = W) (Fx.fr0_assign1 hp) ?_ (by rfl) ?_
    · exact Fx.Lv (.int .u64 v) (Fx.x_assign rfl rfl) (Fx.Ln ⟨rfl, h4, rfl, rfl⟩)
    · rintro e a' w' ⟨f', hf', _, rfl, g4, g5, rfl⟩
      exact ⟨⟨f', hf', g4, g5⟩, rfl⟩
  case body =>
    rintro l pre v W a' ⟨f', hf', g4, g5⟩ ⟨⟨aa, cc, m3, o3, hne⟩, hbe, hpb, hpq⟩ hpl
    have hbs := hbe.size
    have lg3 := m3.lt
    refine wpIn_block (Fx.regIn (ro := some l) (Q := fun e f w' => e = .normal ∧ KeepsOthers W w' ∧ KpT tp mb bt q W w' ∧ PI w.heap.size bt q w.heap.size w (pre ++ [v]) w') hf' ?_ (by rfl) ?_)
    · refine Fx.Lv (.slice aa pre.length cc) (Fx.x_load1 (x := fun _ => .slice aa pre.length cc) rfl g4 (by kernel_rfl) m3.cel (i := 0) (by omega) (by omega) rfl) (Fx.Lv (.int .u64 v) (Fx.x_move rfl g5) (Fx.L.bslice (vs := [(0, .int .u64 v)]) (s := 1) (zc := fun _ => .int .u64 0) (y := Fx.ovr (fun j => .int .u64 0) (0 * 1) 1 (fun _ => .int .u64 v)) (by rfl) rfl rfl Try.underlying33 (by kernel_rfl) (by rfl) (by rfl) (by kernel_rfl) (by rw [Fx.fill_step (off := 0 * 1) (s := 1) (y := fun _ => .int .u64 v) rfl (Fx.cells_one (by rfl)) (by rfl)]; rfl) rfl fun g4' w4 eg4 m4 s4 z4 => ?_))
      have m5 := m3.stp s4 (Nat.ne_of_lt m3.lt)
      have o5 := o3.stp s4 (o3.notNew (Nat.le_refl _))
      have hB4 : w.heap.size ≤ w4.heap.size := Nat.le_trans hbs s4.size
      refine Fx.L.app (B := w.heap.size) (s := 1) (bytes := 8) (k := pre.length) (m := 1) (v := .slice aa pre.length cc) (x := lsU pre) (by rfl) rfl rfl rfl Try.underlying33 (by kernel_rfl) (by kernel_rfl) rfl rfl o5 m4.cel (fun j hj => by unfold Fx.ovr; split <;> rfl) (by omega) (by omega) (by omega) hB4 fun g6 cap1 w6 ho1 hg1 hgv1 hlt1 => ?_
      have m6 := m5.grown hg1 (fun e => (hne _ e).2.2 rfl)
      refine Fx.L.store1 (x := fun _ => .slice aa pre.length cc) (u := .slice (some ⟨g6, 0, none⟩) (pre.length + 1) cap1) (by rfl) rfl rfl g4 rfl (by rfl) (by kernel_rfl) m6 (i := 0) (by omega) fun w7 m7 s7 z7 => ?_
      have e4 : ∀ r, r < W.heap.size → r ≠ w.heap.size → (∀ z, (Value.slice aa pre.length cc).ownBlock = some z → z ≠ r) → w7.heap[r]? = W.heap[r]? := fun r h1 h2 h3 =>
        (s7.block r (Nat.lt_of_lt_of_le (Nat.lt_of_lt_of_le h1 s4.size) hg1.size) h2).trans ((hg1.block r (Nat.lt_of_lt_of_le h1 s4.size) fun e => h3 r e.symm rfl).trans (s4.block r h1 (Nat.ne_of_lt h1)))
      have hg6 : g6 ≠ bt ∧ g6 ≠ q ∧ g6 ≠ w.heap.size := by
        rcases hgv1 with h | h
        · exact hne g6 h
        · have := s4.size; have := hbe.block
          refine ⟨?_, ?_, ?_⟩
          · omega
          · omega
          · omega
      have mC : Fx.Blk w7 w.heap.size 1 (fun _ => .slice (some ⟨g6, 0, none⟩) (pre.length + 1) cap1) 33 := Fx.Blk.congr m7 (by
        intro j hj
        obtain rfl : j = 0 := by omega
        rfl)
      refine Fx.Ln ⟨rfl, ?_, ?_, ⟨?_, ?_, ?_, ?_⟩⟩
      · refine (KeepsOthers.of_stp s4 fun o ho => ?_).trans ((KeepsOthers.of_grown hg1 fun r o e ho => Ty_cells (o5.ty e) o ho).trans (KeepsOthers.of_stp s7 (Ty_cells m6.ty)))
        have := (Array.getElem?_eq_some_iff.1 ho).1; omega
      · refine KpT.of (Nat.le_trans s4.size (Nat.le_trans hg1.size s7.size)) fun r hr => e4 r ?_ ?_ fun z hz => ?_
        · rcases hr with rfl | rfl | rfl | rfl <;> omega
        · rcases hr with rfl | rfl | rfl | rfl <;> omega
        · have h1 := (o3.ge hz).1; have h2 := hne z hz
          rcases hr with rfl | rfl | rfl | rfl
          · omega
          · omega
          · exact h2.1
          · exact h2.2.1
      · refine ⟨some ⟨g6, 0, none⟩, cap1, ?_, ?_, fun r e => ?_⟩
        · rw [List.length_append]; exact mC
        · rw [List.length_append]; exact (ho1.congr lsU_app).stp s7 (fun e => hg6.2.2 (Option.some.inj e))
        · obtain rfl : g6 = r := Option.some.inj e
          exact hg6
      · refine s7.below ((s4.below hbe hbs hbs).grown hg1 hB4 fun r e => (o5.ge e).1) (Nat.le_trans hB4 hg1.size) (Nat.le_refl _)
      · exact Nat.lt_of_lt_of_le hpb (Nat.le_trans s4.size (Nat.le_trans hg1.size s7.size))
      · exact Nat.lt_of_lt_of_le hpq (Nat.le_trans s4.size (Nat.le_trans hg1.size s7.size))
    · rintro e a5 w5 ⟨f5, _, _, rfl, q1, q2, q3⟩
      exact ⟨q1, q2, q3⟩
  case done =>
    rintro D xs W hD rfl ⟨⟨aa, cc, m3, o3, hne⟩, hbe, hpb, hpq⟩ hK
    have hcD : ∀ g, g < w2.heap.size → g ≠ D := fun g h e => by omega
    have hkc : ∀ {g T}, Fx.Ty W g T → g ≠ D := fun ht e => by
      have := Ty_cells ht _ (e ▸ hK); cases this
    have hDn : (w.heap.size : Nat) ≠ D := by omega
    show Code.wpIn _ _ _ _ _ _ _
    refine wpIn_seq (Fx.regIn (Q := fun e f w' => e = .normal ∧ f 4 = (pt w.heap.size) ∧ Fx.Stp w.heap.size W w' ∧ Fx.Blk w' w.heap.size 1 (fun _ => .slice aa (upK x p n d0 k).length cc) 33) (f := f2) ⟨ha2.size, ha2.get⟩ ?_ (by rfl) ?_)
    · refine Fx.Lv (.slice aa (upK x p n d0 k).length cc) (Fx.x_load1 (x := fun _ => .slice aa (upK x p n d0 k).length cc) rfl h4 (by kernel_rfl) m3.cel (i := 0) (by omega) (by omega) rfl) (Fx.L.store1 (x := fun _ => .slice aa (upK x p n d0 k).length cc) (u := .slice aa (upK x p n d0 k).length cc) (by rfl) rfl rfl h4 rfl (by rfl) (by kernel_rfl) m3 (i := 0) (by omega) fun w7 m7 s7 z7 => ?_)
      exact Fx.Ln ⟨rfl, h4, s7, Fx.Blk.congr m7 fun j hj => by
        obtain rfl : j = 0 := by omega
        rfl⟩
    rintro e a7 w7 ⟨f7, ha7, hd7, rfl, q4, s7, m7⟩
    have hK7 : w7.heap[D]? = some (.deferred (some [])) := (s7.block D (Array.getElem?_eq_some_iff.1 hK).1 (Ne.symm hDn)).trans hK
    have m8 : Fx.Blk (w7.putObj D (.deferred none)) w.heap.size 1 (fun _ => .slice aa (upK x p n d0 k).length cc) 33 := (World.putObj_heap_other hDn).trans m7
    refine wpIn_ret (Fx.leave1 ha7 (hd7.trans (by rw [hds])) hK7 (Fx.rV Try.results11 ⟨_, q4, Fx.run_load1 m8.cel (by kernel_rfl) (i := 0) (by omega) (by omega) rfl⟩) ⟨aa, cc, rfl, ?_, ?_⟩)
    · have o7 := o3.stp s7 (fun e => (hne _ e).2.2 rfl)
      exact World.ownsRow.kept o7 (grownBy_putObj' w7 D _) (.inr fun e => by
        exact hkc (o3.ty e) rfl)
    · exact (s7.below hbe hbe.size (Nat.le_refl _)).grown (grownBy_putObj' w7 D _) (Nat.le_trans hbe.size s7.size) fun r e => by cases e; omega
end Go.Proofs.Ytahbiajdgealnaa
namespace Go.Proofs.Ytahbiajdgealnaa
open Go.RowKit Go
set_option linter.unusedVariables false
namespace Rt
section
variable {x p x' p' : Nat → Int} {n n' j d e : Nat} {k id pa : Int}
theorem upK_len : ∀ {d : Nat} {k : Int}, (upK x p n d k).length ≤ d
  | 0, k => Nat.le_refl _
  | d + 1, k => by
    unfold upK
    split
    · rw [List.length_cons]; exact Nat.succ_le_succ upK_len
    · exact Nat.zero_le _
theorem stopK_of : ∀ {d e : Nat} {k : Int}, stopK x p n d k → (upK x p n d k).length ≤ e → stopK x p n e k
  | 0, 0, k, h, _ => h
  | 0, e + 1, k, h, _ => fun h2 => by
    have h : hasK x n k = false := h
    rw [h] at h2; cases h2
  | d + 1, 0, k, h, hl => by
    show hasK x n k = false
    cases hk : hasK x n k with
    | false => rfl
    | true =>
      unfold upK at hl
      rw [if_pos hk, List.length_cons] at hl
      omega
  | d + 1, e + 1, k, h, hl => fun hk => by
    unfold upK at hl
    rw [if_pos hk, List.length_cons] at hl
    exact stopK_of (h hk) (by omega)
theorem upK_more : ∀ {d : Nat} {k : Int}, stopK x p n d k → upK x p n (d + 1) k = upK x p n d k
  | 0, k, h => by
    have h : hasK x n k = false := h
    rw [upK_no h, upK_no h]
  | d + 1, k, h => by
    cases hk : hasK x n k with
    | false => rw [upK_no hk, upK_no hk]
    | true =>
      show (if hasK x n k = true then k :: upK x p n (d + 1) (parK x p n k) else []) = (if hasK x n k = true then k :: upK x p n d (parK x p n k) else [])
      rw [if_pos hk, if_pos hk, upK_more (h hk)]
theorem stopK_more {d : Nat} {k : Int} (h : stopK x p n d k) : stopK x p n (d + 1) k := stopK_of h (Nat.le_succ_of_le upK_len)
theorem upK_le {d e : Nat} {k : Int} (h : stopK x p n d k) (hde : d ≤ e) : upK x p n e k = upK x p n d k ∧ stopK x p n e k := by
  induction hde with
  | refl => exact ⟨rfl, h⟩
  | step _ ih => exact ⟨(upK_more ih.2).trans ih.1, stopK_more ih.2⟩
theorem upK_congr (hh : ∀ k, hasK x' n' k = hasK x n k) (hp : ∀ k, hasK x n k = true → parK x' p' n' k = parK x p n k) : ∀ (d : Nat) (k : Int), upK x' p' n' d k = upK x p n d k
  | 0, _ => rfl
  | d + 1, k => by
    unfold upK
    rw [hh]
    cases hk : hasK x n k with
    | false => rfl
    | true => rw [if_pos rfl, if_pos rfl, hp k hk, upK_congr hh hp d]
structure TrI (n : Nat) (x p : Nat → Int) : Prop where
  inj : ∀ a b, a < n → b < n → x a = x b → a = b
  pos : ∀ j, j < n → 0 < x j ∧ x j ≤ 18446744073709551615
  stop : ∀ k, stopK x p n 4 k
  small : n ≤ 32
  par : ∀ j, j < n → p j = 0 ∨ ∃ i, i < j ∧ x i = p j
theorem TrI.zero (x p : Nat → Int) : TrI 0 x p := ⟨fun a b h => by omega, fun j h => by omega, fun k h => (nomatch h), by omega, fun j h => by omega⟩
theorem TrI.has0 (h : TrI n x p) : hasK x n 0 = false := hasK_no fun i hi e => by have := h.pos i hi; omega
theorem TrI.path0 (h : TrI n x p) (d : Nat) : upK x p n d 0 = [] := upK_no h.has0
theorem TrI.len (h : TrI n x p) (k : Int) : (upK x p n 4 k).length ≤ 1000000 := Nat.le_trans upK_len (by omega)
def addC (x p : Nat → Int) (n : Nat) (id pa : Int) : Int :=
  if id = 0 then 1 else if hasK x n id = true then 14 else if ¬ pa = 0 ∧ hasK x n pa = false then 9 else if 32 ≤ n ∨ 4 ≤ (upK x p n 4 pa).length then 6 else 0
inductive AddR (n : Nat) (x p : Nat → Int) (id pa : Int) : Int → Nat → (Nat → Int) → (Nat → Int) → Prop
  | no {c : Int} (hc : addC x p n id pa = c) (h0 : c ≠ 0) : AddR n x p id pa c n x p
  | yes (hc : addC x p n id pa = 0) : AddR n x p id pa 0 (n + 1) (Fx.putI x n id) (Fx.putI p n pa)
theorem add_ok (hc : addC x p n id pa = 0) : id ≠ 0 ∧ hasK x n id = false ∧ (pa = 0 ∨ hasK x n pa = true) ∧ n < 32 ∧ (upK x p n 4 pa).length < 4 := by
  unfold addC at hc
  split at hc
  · cases hc
  split at hc
  · cases hc
  split at hc
  · cases hc
  split at hc
  · cases hc
  rename_i h1 h2 h3 h4
  refine ⟨h1, by simpa using h2, ?_, by omega, by omega⟩
  by_cases hp : pa = 0
  · exact .inl hp
  right
  cases hk : hasK x n pa with
  | true => rfl
  | false => exact absurd ⟨hp, hk⟩ h3
theorem has_put (id k : Int) : hasK (Fx.putI x n id) (n + 1) k = (hasK x n k || decide (id = k)) := by
  have e : ∀ m, m ≤ n → hasK (Fx.putI x n id) m k = hasK x m k := fun m => by
    induction m with
    | zero => exact fun _ => rfl
    | succ m ih =>
      intro hm
      show (hasK (Fx.putI x n id) m k || decide (Fx.putI x n id m = k)) = (hasK x m k || decide (x m = k))
      rw [ih (by omega)]
      unfold Fx.putI
      rw [if_neg (by omega)]
  show (hasK (Fx.putI x n id) n k || decide (Fx.putI x n id n = k)) = _
  rw [e n (Nat.le_refl _)]
  unfold Fx.putI
  rw [if_pos rfl]
theorem par_put (id pa k : Int) : parK (Fx.putI x n id) (Fx.putI p n pa) (n + 1) k = if id = k then pa else parK x p n k := by
  have e : ∀ m, m ≤ n → parK (Fx.putI x n id) (Fx.putI p n pa) m k = parK x p m k := fun m => by
    induction m with
    | zero => exact fun _ => rfl
    | succ m ih =>
      intro hm
      show (if Fx.putI x n id m = k then Fx.putI p n pa m else parK (Fx.putI x n id) (Fx.putI p n pa) m k) = (if x m = k then p m else parK x p m k)
      rw [ih (by omega), show Fx.putI x n id m = x m by unfold Fx.putI; rw [if_neg (by omega)], show Fx.putI p n pa m = p m by unfold Fx.putI; rw [if_neg (by omega)]]
  show (if Fx.putI x n id n = k then Fx.putI p n pa n else parK (Fx.putI x n id) (Fx.putI p n pa) n k) = _
  rw [e n (Nat.le_refl _), show Fx.putI x n id n = id by unfold Fx.putI; rw [if_pos rfl], show Fx.putI p n pa n = pa by unfold Fx.putI; rw [if_pos rfl]]
theorem TrI.up (h : TrI n x p) (hk : hasK x n k = true) : parK x p n k = 0 ∨ hasK x n (parK x p n k) = true := by
  obtain ⟨j, hj, e⟩ := hasK_at hk
  rw [parK_at h.inj hj e]
  rcases h.par j hj with h1 | ⟨i, hi, h1⟩
  · exact .inl h1
  exact .inr (hasK_yes (by omega) h1)
theorem stop_put (h : TrI n x p) (hid : hasK x n id = false) (h0 : id ≠ 0) : ∀ (d : Nat) (k : Int), k ≠ id → stopK x p n d k → stopK (Fx.putI x n id) (Fx.putI p n pa) (n + 1) d k
  | 0, k, hk, hs => by
    show hasK _ _ _ = false
    rw [has_put, decide_eq_false (fun e => hk e.symm), Bool.or_false]; exact hs
  | d + 1, k, hk, hs => fun hh => by
    rw [has_put, decide_eq_false (fun e => hk e.symm), Bool.or_false] at hh
    rw [par_put, if_neg (fun e => hk e.symm)]
    refine stop_put h hid h0 d _ ?_ (hs hh)
    intro e
    rcases h.up hh with h1 | h1
    · exact h0 (e.symm.trans h1)
    · rw [e, hid] at h1; cases h1
theorem TrI.put (h : TrI n x p) (hc : addC x p n id pa = 0) (hb : 0 ≤ id ∧ id ≤ 18446744073709551615) : TrI (n + 1) (Fx.putI x n id) (Fx.putI p n pa) := by
  obtain ⟨h0, hid, hpa, hn, hl⟩ := add_ok hc
  have e1 : Fx.putI x n id n = id := by unfold Fx.putI; rw [if_pos rfl]
  have e2 : ∀ j, j < n → Fx.putI x n id j = x j := fun j hj => by unfold Fx.putI; rw [if_neg (by omega)]
  have e3 : Fx.putI p n pa n = pa := by unfold Fx.putI; rw [if_pos rfl]
  have e4 : ∀ j, j < n → Fx.putI p n pa j = p j := fun j hj => by unfold Fx.putI; rw [if_neg (by omega)]
  have hne : ∀ j, j < n → x j ≠ id := fun j hj e => by rw [hasK_yes hj e] at hid; cases hid
  have hpn : pa ≠ id := fun e => by
    subst e
    rcases hpa with h1 | h1
    · exact h0 h1
    · rw [hid] at h1; cases h1
  have two : ∀ j, j < n + 1 → j < n ∨ j = n := fun j hj => by omega
  refine ⟨fun a b ha hb e => ?_, fun j hj => ?_, fun k => ?_, by omega, fun j hj => ?_⟩
  · rcases two a ha with h1 | rfl <;> rcases two b hb with h2 | rfl
    · rw [e2 a h1, e2 b h2] at e; exact h.inj a b h1 h2 e
    · rw [e2 a h1, e1] at e; exact absurd e (hne a h1)
    · rw [e1, e2 b h2] at e; exact absurd e.symm (hne b h2)
    rfl
  · rcases two j hj with h1 | rfl
    · rw [e2 j h1]; exact h.pos j h1
    rw [e1]; omega
  · by_cases hk : k = id
    · subst hk
      intro _
      rw [par_put, if_pos rfl]
      exact stop_put h hid h0 3 pa hpn (stopK_of (h.stop pa) (by omega))
    exact stop_put h hid h0 4 k hk (h.stop k)
  rcases two j hj with h1 | rfl
  · rw [e4 j h1]
    rcases h.par j h1 with h2 | ⟨i, hi, h2⟩
    · exact .inl h2
    exact .inr ⟨i, hi, by rw [e2 i (by omega)]; exact h2⟩
  rw [e3]
  rcases hpa with h2 | h2
  · exact .inl h2
  obtain ⟨i, hi, h3⟩ := hasK_at h2
  exact .inr ⟨i, hi, by rw [e2 i hi]; exact h3⟩
theorem rise_uniq : ∀ {l m : List Int}, l.Pairwise (· < ·) → m.Pairwise (· < ·) → (∀ k, k ∈ l ↔ k ∈ m) → l = m
  | [], [], _, _, _ => rfl
  | [], b :: m, _, _, h => by have := (h b).2 (by simp); simp at this
  | a :: l, [], _, _, h => by have := (h a).1 (by simp); simp at this
  | a :: l, b :: m, hl, hm, h => by
    rw [List.pairwise_cons] at hl hm
    have e : a = b := by
      have h1 := (h a).1 (by simp)
      have h2 := (h b).2 (by simp)
      rw [List.mem_cons] at h1 h2
      rcases h1 with h1 | h1
      · exact h1
      rcases h2 with h2 | h2
      · exact h2.symm
      have := hm.1 _ h1; have := hl.1 _ h2; omega
    subst e
    rw [rise_uniq hl.2 hm.2 fun k => ?_]
    have hk := h k
    rw [List.mem_cons, List.mem_cons] at hk
    constructor
    · intro q
      rcases hk.1 (.inr q) with rfl | h1
      · have := hl.1 _ q; omega
      · exact h1
    · intro q
      rcases hk.2 (.inr q) with rfl | h1
      · have := hm.1 _ q; omega
      · exact h1
end
theorem unseen_le (S : Nat → Bool) : ∀ n, Fx.unseen S n ≤ n
  | 0 => Nat.le_refl _
  | n + 1 => by
    unfold Fx.unseen
    have := unseen_le S n
    split <;> omega
structure ThS (n : Nat) (P : Nat → Prop) (S : Nat → Bool) (m : Nat) (τ : Nat → Nat) (kk : Nat) : Prop where
  lt : ∀ q, q < m → τ q < n
  inj : ∀ q r, q < m → r < m → τ q = τ r → q = r
  mem : ∀ i, i < n → S i = true → P i → ∃ q, q < m ∧ τ q = i
  yes : ∀ q, q < m → P (τ q)
  seen : ∀ q, q < m → S (τ q) = true
  le : m + kk ≤ n
  kk : kk = Fx.unseen S n
section
variable {n m kk : Nat} {P : Nat → Prop} {S : Nat → Bool} {τ : Nat → Nat}
theorem ThS.start (n : Nat) (P : Nat → Prop) (τ : Nat → Nat) : ThS n P (fun _ => false) 0 τ (Fx.unseen (fun _ => false) n) :=
  ⟨fun _ h => absurd h (Nat.not_lt_zero _), fun _ _ h => absurd h (Nat.not_lt_zero _), fun _ _ h => (nomatch h), fun _ h => absurd h (Nat.not_lt_zero _), fun _ h => absurd h (Nat.not_lt_zero _), by have := unseen_le (fun _ => false) n; omega, rfl⟩
theorem ThS.skip (h : ThS n P S m τ kk) {i : Nat} (hi : i < n) (hs : S i = false) (hp : ¬ P i) : ThS n P (Fx.putI S i true) m τ (Fx.unseen (Fx.putI S i true) n) := by
  have hu := Fx.unseen_put hs n hi
  have hk := h.kk
  have hl := h.le
  refine ⟨h.lt, h.inj, fun j hj hS hP => ?_, h.yes, fun q hq => ?_, by omega, rfl⟩
  · unfold Fx.putI at hS
    split at hS
    · rename_i e; subst e; exact absurd hP hp
    exact h.mem j hj hS hP
  unfold Fx.putI; split
  · rfl
  exact h.seen q hq
theorem ThS.take (h : ThS n P S m τ kk) {i : Nat} (hi : i < n) (hs : S i = false) (hp : P i) : ThS n P (Fx.putI S i true) (m + 1) (Fx.putI τ m i) (Fx.unseen (Fx.putI S i true) n) := by
  have hu := Fx.unseen_put hs n hi
  have hk := h.kk
  have hl := h.le
  have e1 : Fx.putI τ m i m = i := by unfold Fx.putI; rw [if_pos rfl]
  have e2 : ∀ q, q < m → Fx.putI τ m i q = τ q := fun q hq => by unfold Fx.putI; rw [if_neg (by omega)]
  have ne : ∀ q, q < m → τ q ≠ i := fun q hq e => by have := h.seen q hq; rw [e, hs] at this; cases this
  have two : ∀ q, q < m + 1 → q < m ∨ q = m := fun q hq => by omega
  refine ⟨fun q hq => ?_, fun q r hq hr e => ?_, fun j hj hS hP => ?_, fun q hq => ?_, fun q hq => ?_, by omega, rfl⟩
  · rcases two q hq with h1 | rfl
    · rw [e2 q h1]; exact h.lt q h1
    rw [e1]; exact hi
  · rcases two q hq with h1 | h1 <;> rcases two r hr with h2 | h2
    · rw [e2 q h1, e2 r h2] at e; exact h.inj q r h1 h2 e
    · subst h2; rw [e2 q h1, e1] at e; exact absurd e (ne q h1)
    · subst h1; rw [e2 r h2, e1] at e; exact absurd e.symm (ne r h2)
    omega
  · by_cases e : j = i
    · exact ⟨m, by omega, by rw [e1, e]⟩
    unfold Fx.putI at hS
    rw [if_neg e] at hS
    obtain ⟨q, hq, hq2⟩ := h.mem j hj hS hP
    exact ⟨q, by omega, by rw [e2 q hq, hq2]⟩
  · rcases two q hq with h1 | rfl
    · rw [e2 q h1]; exact h.yes q h1
    rw [e1]; exact hp
  rcases two q hq with h1 | rfl
  · rw [e2 q h1]; unfold Fx.putI; split
    · rfl
    exact h.seen q h1
  rw [e1]; unfold Fx.putI; rw [if_pos rfl]
end
end Rt
end Go.Proofs.Ytahbiajdgealnaa
namespace Go.Proofs.Ytahbiajdgealnaa
open Go.RowKit
open Rt
set_option maxRecDepth 10000
theorem t_new (x p : Nat → Int) (w : World) :
    Calls Try.prog 6 #[] w fun e w' => ∃ tp mb, e = .returned ((pt tp)) ∧ w.heap.size ≤ tp ∧ w.heap.size ≤ mb ∧ Fx.Blk w' tp 1 (fun _ => .map (some mb)) 42 ∧ Fx.Mp w' mb 0 x (fun j => .int .u64 (p j)) ∧ Below w.heap.size w w' := by
 refine Fx.enter Try.func6 rfl (n := 4) rfl (by rfl) ?_
 refine Fx.Ws (Fx.Wl (Fx.Lv (.pointer none) (Fx.x_assign rfl rfl) (Fx.Ln (Fx.sN (Fx.Ws (Fx.Wl (Fx.L.mkmap (by rfl) rfl rfl fun g1 w1 eg1 m1 s1 z1 => ?_)))))))
 have b1 := s1.below (Below.refl w.heap.size w) (Below.refl w.heap.size w).size (Below.refl w.heap.size w).size
 have lg1 : w.heap.size ≤ g1 := by rw [eg1]; exact (Below.refl w.heap.size w).size
 have tg1 : g1 < w1.heap.size := m1.lt
 clear eg1
 refine Fx.Lv (.agg (Fx.varr 1 (Fx.ovr (fun _ => .map none) 0 1 (fun _ => .map (some g1))))) (Fx.x_build (vs := [(0, .map (some g1))]) (places := #[(0, 1)]) (m := 1) (x := fun _ => .map none) rfl rfl Try.underlying42 (by kernel_rfl) (by kernel_rfl) (by rw [Fx.fill_step (off := 0) (s := 1) (y := fun _ => .map (some g1)) (by kernel_rfl) (Fx.cells_one (by rfl)) (by rfl)]; rfl)) (Fx.L.box (m := 1) (y := Fx.ovr (fun _ => .map none) 0 1 (fun _ => .map (some g1))) (by rfl) rfl rfl (Fx.cells_agg _ _) rfl fun g2 w2 eg2 m2 s2 z2 => ?_)
 have m3 := m1.up s2.old
 have b2 := s2.below b1 b1.size b1.size
 have lg2 : w.heap.size ≤ g2 := by rw [eg2]; exact b1.size
 have ng2m3 : g1 ≠ g2 := by rw [eg2]; exact Nat.ne_of_lt (m1.lt)
 have tg2 : g2 < w2.heap.size := m2.lt
 clear eg2
 refine Fx.Lv ((pt g2)) (Fx.x_assign rfl rfl) (Fx.Ln (Fx.sN (Fx.Wr (⟨(pt g2), Fx.rV Try.results6 (by exact rfl), ?_⟩))))
 exact ⟨_, _, rfl, lg2, lg1, m2, m3.cong (fun i hi => absurd hi (Nat.not_lt_zero _)), b2⟩
theorem Rt.getD_mem {l : List Int} {i : Nat} {v : Int} (hi : i < l.length) (e : l.getD i 0 = v) : v ∈ l := by
  rw [List.getD_eq_getElem?_getD, List.getElem?_eq_getElem hi] at e
  rw [← e]; exact List.getElem_mem hi
theorem Rt.getD_no {l : List Int} {v : Int} (h : ∀ j, j < l.length → l.getD j 0 ≠ v) : ¬ v ∈ l := fun hm => by
  obtain ⟨i, hi, e⟩ := List.getElem_of_mem hm
  refine h i hi ?_
  rw [List.getD_eq_getElem?_getD, List.getElem?_eq_getElem hi]; exact e
theorem t_ix (l : List Int) (v : Int) (B c : Nat) (a : Option Addr) (w : World) (hl : Fx.Own w B 28 1 (.slice a l.length c) l.length (lsU l)) (hs : l.length ≤ 1000) :
    Calls Try.prog 21 #[.slice a (l.length) (c), .int .u64 (v)] w fun e w' => ∃ r : Int, e = .returned (.int .i64 r) ∧ (0 ≤ r ↔ v ∈ l) ∧ Below w.heap.size w w' := by
 refine Fx.enter Try.func21 rfl (n := 19) rfl (by rfl) ?_
 refine Fx.Ws (Fx.Wl (Fx.Lv (.int .i64 (0)) (Fx.x_assign rfl rfl) (Fx.Ln (Fx.sN (Fx.Ws (Fx.Ws (Fx.Wl (Fx.Lv (.slice a (l.length) (c)) (Fx.x_move rfl rfl) (Fx.Lv (.int .i64 ((l.length : Int))) (Fx.x_len rfl rfl rfl (by kernel_rfl)) (Fx.Lv (.int .i64 (0)) (Fx.x_move rfl rfl) (Fx.Ln (Fx.sN (Fx.W.block (Fx.W.loop (fun f w_ => ∃ i : Nat, (∀ j, j < i → l.getD j 0 ≠ v) ∧ f 0 = .slice a (l.length) (c) ∧ f 1 = .int .u64 (v) ∧ f 7 = .int .i64 ((l.length : Int)) ∧ f 8 = .int .i64 ((i : Int)) ∧ Fx.Own w_ B 28 1 (.slice a (l.length) (c)) l.length (lsU l) ∧ Below w.heap.size w w_) (fun f _ => ((l.length : Int) - intOf (f 8)).toNat) ⟨0, (fun j hj => absurd hj (Nat.not_lt_zero _)), (by rfl), Fx.ic, Fx.ic, Fx.ic, hl, (Below.refl w.heap.size w)⟩ ?_))))))))))))))
 rintro f1 w1 ⟨i, hno, h1, h2, h3, h4, m1, b1⟩
 refine Fx.Ws (Fx.Wl ?_)
 by_cases c9 : (i : Int) < (l.length : Int)
 ·refine Fx.Lv (.bool true) (Fx.x_lssT rfl h4 h3 c9) (Fx.Ln (Fx.sN (Fx.Ws (Fx.Wc (b := true) rfl (fun _ => Fx.Wk (Fx.sN (Fx.Ws (Fx.W.block (Fx.Ws (Fx.Wl (Fx.Lv (.int .i64 ((i : Int))) (Fx.x_move rfl h4) ?_))))))) (fun h => nomatch h)))))
  refine Fx.Lv (.int .i64 ((i : Int))) (Fx.x_assign rfl rfl) (Fx.Ln (Fx.sN (Fx.Ws (Fx.Wl (Fx.Lv (.int .u64 (v)) (Fx.x_move rfl h2) (Fx.Lv (.slice a (l.length) (c)) (Fx.x_move rfl h1) (Fx.Lv (.int .i64 ((i : Int))) (Fx.x_move rfl rfl) ?_)))))))
  obtain ⟨gq1, eq1⟩ := m1.addr (by omega)
  have m2 : Fx.Own w1 B 28 1 (.slice (some ⟨gq1, 0, none⟩) l.length c) l.length (lsU l) := m1.congV (congrArg (fun q => Value.slice q l.length c) eq1)
  refine Fx.Lv ((pf gq1 i)) (Fx.x_indexS rfl (rfl.trans (congrArg (fun q => Value.slice q (l.length) (c)) eq1)) rfl Try.underlying33 (s := 1) (by kernel_rfl) (by omega) (by omega) (by omega)) (Fx.Lv (.int .u64 (l.getD i 0)) (Fx.x_load1 (x := lsU l) rfl rfl (by kernel_rfl) m2.cel (i := i) (by omega) (by omega) rfl) ?_)
  by_cases c16 : v = (l.getD i 0)
  ·refine Fx.Lv (.bool true) (Fx.x_eqlT rfl rfl rfl c16) (Fx.Ln (Fx.sN (Fx.Wc (b := true) rfl (fun _ => Fx.Ws (Fx.Wl (Fx.Lv (.int .i64 ((i : Int))) (Fx.x_move rfl rfl) ?_))) (fun h => nomatch h))))
   refine Fx.Lv (.int .i64 ((i : Int))) (Fx.x_assign rfl rfl) (Fx.Ln (Fx.sN (Fx.Wr (Fx.blkR (Fx.sR (Fx.lpR (Fx.blkR (Fx.sR (⟨.int .i64 ((i : Int)), Fx.rV Try.results21 (by exact rfl), ?_⟩)))))))))
   exact ⟨_, rfl, ⟨fun _ => getD_mem (by omega) c16.symm, fun _ => by omega⟩, b1⟩
  refine Fx.Lv (.bool false) (Fx.x_eqlF rfl rfl rfl c16) (Fx.Ln (Fx.sN (Fx.Wc (b := false) rfl (fun h => nomatch h) (fun _ => Fx.Wk (Fx.blkN (Fx.sN (Fx.Wl (Fx.Lv (.int .i64 ((i : Int) + 1)) (Fx.x_add rfl h4 rfl Fx.io) (Fx.Lv (.int .i64 ((i : Int) + 1)) (Fx.x_move rfl rfl) (Fx.Ln ?_))))))))))
  have m3 : Fx.Own w1 B 28 1 (.slice a (l.length) (c)) l.length (lsU l) := m2.congV (congrArg (fun q => Value.slice q l.length c) eq1.symm)
  refine Fx.lpN ⟨i + 1, (fun j hj => by by_cases e : j = i; subst e; exact fun e => c16 e.symm; exact hno j (by omega)), h1, (h2.trans Fx.ic), (h3.trans Fx.ic), Fx.ic, m3, b1⟩ ?_
  show ((l.length : Int) - intOf ((.int .i64 ((i : Int) + 1)))).toNat < _
  simp only [h4, intOf]; omega
 refine Fx.Lv (.bool false) (Fx.x_lssF rfl h4 h3 c9) (Fx.Ln (Fx.sN (Fx.Ws (Fx.Wc (b := false) rfl (fun h => nomatch h) (fun _ => Fx.W.exit (Fx.seqX (Fx.lpX (Fx.blkX (Fx.sN (Fx.Ws (Fx.Wl (Fx.Lv (.int .i64 (-1)) (Fx.x_assign rfl rfl) (Fx.Ln (Fx.sN (Fx.Wr (⟨.int .i64 (-1), Fx.rV Try.results21 (by exact rfl), ?_⟩))))))))))))))))
 exact ⟨_, rfl, ⟨fun h => by omega, fun h => absurd h (getD_no (fun j hj => hno j (by omega)))⟩, b1⟩
theorem t_ct (l : List Int) (v : Int) (B c : Nat) (a : Option Addr) (w : World) (hl : Fx.Own w B 28 1 (.slice a l.length c) l.length (lsU l)) (hs : l.length ≤ 1000) :
    Calls Try.prog 18 #[.slice a (l.length) (c), .int .u64 (v)] w fun e w' => e = .returned (.bool (decide (v ∈ l))) ∧ Below w.heap.size w w' := by
 refine Fx.enter Try.func18 rfl (n := 9) rfl (by rfl) ?_
 refine Fx.Ws (Fx.Wl (Fx.Lv (.bool false) (Fx.x_assign rfl rfl) (Fx.Ln (Fx.sN (Fx.Ws (Fx.Wl (Fx.Lv (.slice a (l.length) (c)) (Fx.x_move rfl rfl) (Fx.Lv (.int .u64 (v)) (Fx.x_move rfl rfl) (Fx.L.call (by rfl) (Fx.rC (args := [.slice a (l.length) (c), .int .u64 (v)]) rfl rfl Try.func21 rfl rfl) rfl ((t_ix l v B c a _ hl hs).mono ?_))))))))))
 rintro e9 w1 ⟨r, he, hr1, hb1⟩
 refine ⟨_, he, ?_⟩
 clear he
 have s1 := Fx.Sb hb1
 have b1 := s1.below (Below.refl w.heap.size w) (Below.refl w.heap.size w).size (Below.refl w.heap.size w).size
 refine Fx.Lv (.bool (decide (0 ≤ r))) (Fx.x_geq rfl rfl rfl) (Fx.Lv (.bool (decide (0 ≤ r))) (Fx.x_assign rfl rfl) (Fx.Ln (Fx.sN (Fx.Wr (⟨.bool (decide (0 ≤ r)), Fx.rV Try.results18 (by exact rfl), ?_⟩)))))
 exact ⟨by rw [decide_eq_decide.2 hr1], b1⟩
theorem t_add (x p : Nat → Int) (n tp mb : Nat) (id pa : Int) (w : World) (hT : Fx.Blk w tp 1 (fun _ => .map (some mb)) 42) (hM : Fx.Mp w mb n x (fun j => .int .u64 (p j))) (h : TrI n x p) :
    Calls Try.prog 7 #[(pt tp), .int .u64 (id), .int .u64 (pa)] w fun e w' => ∃ c n2 x2 p2, e = .returned (.int .i64 c) ∧ AddR n x p id pa c n2 x2 p2 ∧ Fx.Blk w' tp 1 (fun _ => .map (some mb)) 42 ∧ Fx.Mp w' mb n2 x2 (fun j => .int .u64 (p2 j)) ∧ Fx.Stp mb w w' := by
 have ltp := hT.lt
 have lmb := hM.lt
 have hsm := h.small
 have hpl : (upK x p n 4 pa).length ≤ 4 := upK_len
 refine Fx.enter Try.func7 rfl (n := 44) rfl (by rfl) ?_
 refine Fx.Ws (Fx.Wl (Fx.Lv (.int .i64 (0)) (Fx.x_assign rfl rfl) (Fx.Ln (Fx.sN (Fx.Ws (Fx.W.block (Fx.Ws (Fx.Wl (Fx.Lv ((pt tp)) (Fx.x_move rfl rfl) (Fx.Lv (.bool false) (Fx.x_eqNil rfl rfl rfl (by kernel_rfl)) (Fx.Lv (.bool false) (Fx.x_assign rfl rfl) (Fx.Ln (Fx.sN (Fx.Wc (b := false) rfl (fun h => nomatch h) (fun _ => Fx.Ws (Fx.Wl (Fx.Lv (.int .u64 (id)) (Fx.x_move rfl rfl) ?_)))))))))))))))))
 by_cases c12 : id = 0
 ·refine Fx.Lv (.bool true) (Fx.x_eqlT rfl rfl rfl c12) (Fx.Lv (.bool true) (Fx.x_assign rfl rfl) (Fx.Ln (Fx.sN (Fx.Wc (b := true) rfl (fun _ => Fx.Ws (Fx.Wl (Fx.Lv (.int .i64 (1)) (Fx.x_assign rfl rfl) ?_))) (fun h => nomatch h)))))
  refine Fx.Ln (Fx.sN (Fx.Wr (Fx.blkR (Fx.sR (⟨.int .i64 (1), Fx.rV Try.results7 (by exact rfl), ?_⟩)))))
  exact ⟨_, _, _, _, rfl, .no (by unfold addC; rw [if_pos c12]) (by decide), hT, hM, (Fx.Stp.refl mb w)⟩
 refine Fx.Lv (.bool false) (Fx.x_eqlF rfl rfl rfl c12) (Fx.Lv (.bool false) (Fx.x_assign rfl rfl) (Fx.Ln (Fx.sN (Fx.Wc (b := false) rfl (fun h => nomatch h) (fun _ => Fx.Ws (Fx.Wl (Fx.Lv ((pt tp)) (Fx.x_move rfl rfl) (Fx.Lv (.int .u64 (id)) (Fx.x_move rfl rfl) ?_))))))))
 by_cases c16 : (hasK x n id) = true
 ·refine Fx.L.call (by rfl) (Fx.rC (args := [(pt tp), .int .u64 (id)]) rfl rfl Try.func8 rfl rfl) rfl ((t_has x p n tp mb id _ hT hM).mono ?_)
  rintro e v1 ⟨he, hv1⟩
  subst v1
  refine ⟨.bool true, by rw [he, c16], ?_⟩
  clear he
  refine Fx.Lv (.bool true) (Fx.x_assign rfl rfl) (Fx.Ln (Fx.sN (Fx.Wc (b := true) rfl (fun _ => Fx.Ws (Fx.Wl (Fx.Lv (.int .i64 (14)) (Fx.x_assign rfl rfl) ?_))) (fun h => nomatch h))))
  refine Fx.Ln (Fx.sN (Fx.Wr (Fx.blkR (Fx.sR (⟨.int .i64 (14), Fx.rV Try.results7 (by exact rfl), ?_⟩)))))
  exact ⟨_, _, _, _, rfl, .no (by unfold addC; rw [if_neg c12, c16, if_pos rfl]) (by decide), hT, hM, (Fx.Stp.refl mb w)⟩
 rw [Bool.not_eq_true] at c16
 refine Fx.L.call (by rfl) (Fx.rC (args := [(pt tp), .int .u64 (id)]) rfl rfl Try.func8 rfl rfl) rfl ((t_has x p n tp mb id _ hT hM).mono ?_)
 rintro e v1 ⟨he, hv1⟩
 subst v1
 refine ⟨.bool false, by rw [he, c16], ?_⟩
 clear he
 refine Fx.Lv (.bool false) (Fx.x_assign rfl rfl) (Fx.Ln (Fx.sN (Fx.Wc (b := false) rfl (fun h => nomatch h) (fun _ => Fx.Ws (Fx.Wl (Fx.Lv (.int .u64 (pa)) (Fx.x_move rfl rfl) ?_))))))
 by_cases c19 : pa = 0
 ·refine Fx.Lv (.bool false) (Fx.x_neqF rfl rfl rfl c19) (Fx.Lv (.bool false) (Fx.x_move rfl rfl) (Fx.Lk (by rfl) rfl (Fx.Lk (by rfl) rfl (Fx.Lk (by rfl) rfl (Fx.Lk (by rfl) rfl (Fx.Lv (.bool false) (Fx.x_pickF rfl rfl rfl) (Fx.Lv (.bool false) (Fx.x_assign rfl rfl) (Fx.Ln (Fx.sN (Fx.Wc (b := false) rfl (fun h => nomatch h) (fun _ => Fx.Ws (Fx.Ws (Fx.Wl (Fx.Lv ((pt tp)) (Fx.x_move rfl rfl) (Fx.Lv ((pt tp)) (Fx.x_nil rfl rfl) (Fx.Lv ((pt tp)) (Fx.x_field rfl rfl Try.underlying42 rfl (s := 1) (by kernel_rfl) rfl rfl) (Fx.Lv (.map (some mb)) (Fx.x_load1 (x := fun _ => .map (some mb)) rfl rfl (by kernel_rfl) hT.cel (i := 0) (by omega) (by omega) rfl) (Fx.Lv (.int .i64 ((n : Int))) (Fx.x_lenM rfl rfl rfl hM Try.underlying40) ?_))))))))))))))))))
  by_cases c32 : 32 ≤ (n : Int)
  ·refine Fx.Lv (.bool true) (Fx.x_geqT rfl rfl rfl c32) (Fx.Lv (.bool true) (Fx.x_assign rfl rfl) (Fx.Ln (Fx.sN (Fx.Wc (b := true) rfl (fun _ => Fx.Wk (Fx.sN (Fx.Wc (b := true) rfl (fun _ => Fx.Ws (Fx.Wl (Fx.Lv (.int .i64 (6)) (Fx.x_assign rfl rfl) ?_))) (fun h => nomatch h)))) (fun h => nomatch h)))))
   refine Fx.Ln (Fx.sN (Fx.Wr (Fx.blkR (Fx.sR (⟨.int .i64 (6), Fx.rV Try.results7 (by exact rfl), ?_⟩)))))
   exact ⟨_, _, _, _, rfl, .no (by unfold addC; rw [if_neg c12, c16, if_neg (by decide), if_neg (fun h => h.1 c19), if_pos (by omega)]) (by decide), hT, hM, (Fx.Stp.refl mb w)⟩
  refine Fx.Lv (.bool false) (Fx.x_geqF rfl rfl rfl c32) (Fx.Lv (.bool false) (Fx.x_assign rfl rfl) (Fx.Ln (Fx.sN (Fx.Wc (b := false) rfl (fun h => nomatch h) (fun _ => Fx.Wl (Fx.Lv ((pt tp)) (Fx.x_move rfl rfl) (Fx.Lv (.int .u64 (pa)) (Fx.x_move rfl rfl) (Fx.L.call (by rfl) (Fx.rC (args := [(pt tp), .int .u64 (pa)]) rfl rfl Try.func11 rfl rfl) rfl ((t_path x p n tp mb 4 pa _ hT hM h.inj (h.stop _) (h.len _)).mono ?_)))))))))
  rintro e9 w1 ⟨pa1, pc1, he, m1, hb1⟩
  refine ⟨_, he, ?_⟩
  clear he
  have s1 := Fx.Sb hb1
  have m2 := hT.stp s1 hT.ne
  have m3 := hM.up s1.old
  have b1 := (Fx.Stp.refl mb w).then s1 (.inr (Fx.Stp.refl mb w).size)
  refine Fx.Lv (.int .i64 ((((upK x p n 4 pa).length : Nat) : Int))) (Fx.x_len rfl rfl rfl (by kernel_rfl)) ?_
  by_cases c37 : 4 ≤ (((upK x p n 4 pa).length : Nat) : Int)
  ·refine Fx.Lv (.bool true) (Fx.x_geqT rfl rfl rfl c37) (Fx.Lv (.bool true) (Fx.x_assign rfl rfl) (Fx.Ln (Fx.sN (Fx.Wc (b := true) rfl (fun _ => Fx.Ws (Fx.Wl (Fx.Lv (.int .i64 (6)) (Fx.x_assign rfl rfl) ?_))) (fun h => nomatch h)))))
   refine Fx.Ln (Fx.sN (Fx.Wr (Fx.blkR (Fx.sR (⟨.int .i64 (6), Fx.rV Try.results7 (by exact rfl), ?_⟩)))))
   exact ⟨_, _, _, _, rfl, .no (by unfold addC; rw [if_neg c12, c16, if_neg (by decide), if_neg (fun h => h.1 c19), if_pos (by omega)]) (by decide), m2, m3, b1⟩
  refine Fx.Lv (.bool false) (Fx.x_geqF rfl rfl rfl c37) (Fx.Lv (.bool false) (Fx.x_assign rfl rfl) (Fx.Ln (Fx.sN (Fx.Wc (b := false) rfl (fun h => nomatch h) (fun _ => Fx.Wk (Fx.blkN (Fx.sN (Fx.Ws ?_))))))))
  have hnk : ∀ i, i < n → x i ≠ id := fun i hi e => by rw [hasK_yes hi e] at c16; cases c16
  refine Fx.Wl (Fx.Lv ((pt tp)) (Fx.x_move rfl rfl) (Fx.Lv ((pt tp)) (Fx.x_nil rfl rfl) (Fx.Lv ((pt tp)) (Fx.x_field rfl rfl Try.underlying42 rfl (s := 1) (by kernel_rfl) rfl rfl) (Fx.Lv (.map (some mb)) (Fx.x_load1 (x := fun _ => .map (some mb)) rfl rfl (by kernel_rfl) m2.cel (i := 0) (by omega) (by omega) rfl) (Fx.Lv (.int .u64 (id)) (Fx.x_move rfl rfl) (Fx.Lv (.int .u64 (pa)) (Fx.x_move rfl rfl) (Fx.L.mupN (by rfl) rfl rfl rfl rfl rfl m3 Try.underlying40 Try.underlying28 hnk fun w2 m4 s2 z1 => ?_)))))))
  have hcm1 := m3.chm s2
  have m5 := m2.chM hcm1
  have m6 := m1.chM hcm1
  have b2 := b1.then s2 (.inl rfl)
  have m7 : Fx.Mp w2 mb (n + 1) (Fx.putI x n id) (fun j => .int .u64 (Fx.putI p n pa j)) := m4.cong (fun i _ => ⟨rfl, by unfold Fx.putI; split <;> rfl⟩)
  refine Fx.Ln (Fx.sN (Fx.Ws (Fx.Wl (Fx.Lv (.int .i64 (0)) (Fx.x_assign rfl rfl) (Fx.Ln (Fx.sN (Fx.Wr (⟨.int .i64 (0), Fx.rV Try.results7 (by exact rfl), ?_⟩))))))))
  exact ⟨_, _, _, _, rfl, .yes (by unfold addC; rw [if_neg c12, c16, if_neg (by decide), if_neg (fun h => h.1 c19), if_neg (by omega)]), m5, m7, b2⟩
 refine Fx.Lv (.bool true) (Fx.x_neqT rfl rfl rfl c19) (Fx.Lv (.bool true) (Fx.x_move rfl rfl) (Fx.Lv ((pt tp)) (Fx.x_move rfl rfl) (Fx.Lv (.int .u64 (pa)) (Fx.x_move rfl rfl) ?_)))
 by_cases c23 : (hasK x n pa) = true
 ·refine Fx.L.call (by rfl) (Fx.rC (args := [(pt tp), .int .u64 (pa)]) rfl rfl Try.func8 rfl rfl) rfl ((t_has x p n tp mb pa _ hT hM).mono ?_)
  rintro e v1 ⟨he, hv1⟩
  subst v1
  refine ⟨.bool true, by rw [he, c23], ?_⟩
  clear he
  refine Fx.Lv (.bool false) (Fx.x_notF rfl rfl) (Fx.Lv (.bool false) (Fx.x_pickT rfl rfl rfl) (Fx.Lv (.bool false) (Fx.x_assign rfl rfl) (Fx.Ln (Fx.sN (Fx.Wc (b := false) rfl (fun h => nomatch h) (fun _ => Fx.Ws (Fx.Ws (Fx.Wl (Fx.Lv ((pt tp)) (Fx.x_move rfl rfl) (Fx.Lv ((pt tp)) (Fx.x_nil rfl rfl) (Fx.Lv ((pt tp)) (Fx.x_field rfl rfl Try.underlying42 rfl (s := 1) (by kernel_rfl) rfl rfl) (Fx.Lv (.map (some mb)) (Fx.x_load1 (x := fun _ => .map (some mb)) rfl rfl (by kernel_rfl) hT.cel (i := 0) (by omega) (by omega) rfl) (Fx.Lv (.int .i64 ((n : Int))) (Fx.x_lenM rfl rfl rfl hM Try.underlying40) ?_)))))))))))))
  by_cases c32 : 32 ≤ (n : Int)
  ·refine Fx.Lv (.bool true) (Fx.x_geqT rfl rfl rfl c32) (Fx.Lv (.bool true) (Fx.x_assign rfl rfl) (Fx.Ln (Fx.sN (Fx.Wc (b := true) rfl (fun _ => Fx.Wk (Fx.sN (Fx.Wc (b := true) rfl (fun _ => Fx.Ws (Fx.Wl (Fx.Lv (.int .i64 (6)) (Fx.x_assign rfl rfl) ?_))) (fun h => nomatch h)))) (fun h => nomatch h)))))
   refine Fx.Ln (Fx.sN (Fx.Wr (Fx.blkR (Fx.sR (⟨.int .i64 (6), Fx.rV Try.results7 (by exact rfl), ?_⟩)))))
   exact ⟨_, _, _, _, rfl, .no (by unfold addC; rw [if_neg c12, c16, if_neg (by decide), if_neg (fun h => by rw [c23] at h; cases h.2), if_pos (by omega)]) (by decide), hT, hM, (Fx.Stp.refl mb w)⟩
  refine Fx.Lv (.bool false) (Fx.x_geqF rfl rfl rfl c32) (Fx.Lv (.bool false) (Fx.x_assign rfl rfl) (Fx.Ln (Fx.sN (Fx.Wc (b := false) rfl (fun h => nomatch h) (fun _ => Fx.Wl (Fx.Lv ((pt tp)) (Fx.x_move rfl rfl) (Fx.Lv (.int .u64 (pa)) (Fx.x_move rfl rfl) (Fx.L.call (by rfl) (Fx.rC (args := [(pt tp), .int .u64 (pa)]) rfl rfl Try.func11 rfl rfl) rfl ((t_path x p n tp mb 4 pa _ hT hM h.inj (h.stop _) (h.len _)).mono ?_)))))))))
  rintro e9 w3 ⟨pa2, pc2, he, m8, hb2⟩
  refine ⟨_, he, ?_⟩
  clear he
  have s3 := Fx.Sb hb2
  have m9 := hT.stp s3 hT.ne
  have m10 := hM.up s3.old
  have b3 := (Fx.Stp.refl mb w).then s3 (.inr (Fx.Stp.refl mb w).size)
  refine Fx.Lv (.int .i64 ((((upK x p n 4 pa).length : Nat) : Int))) (Fx.x_len rfl rfl rfl (by kernel_rfl)) ?_
  by_cases c37 : 4 ≤ (((upK x p n 4 pa).length : Nat) : Int)
  ·refine Fx.Lv (.bool true) (Fx.x_geqT rfl rfl rfl c37) (Fx.Lv (.bool true) (Fx.x_assign rfl rfl) (Fx.Ln (Fx.sN (Fx.Wc (b := true) rfl (fun _ => Fx.Ws (Fx.Wl (Fx.Lv (.int .i64 (6)) (Fx.x_assign rfl rfl) ?_))) (fun h => nomatch h)))))
   refine Fx.Ln (Fx.sN (Fx.Wr (Fx.blkR (Fx.sR (⟨.int .i64 (6), Fx.rV Try.results7 (by exact rfl), ?_⟩)))))
   exact ⟨_, _, _, _, rfl, .no (by unfold addC; rw [if_neg c12, c16, if_neg (by decide), if_neg (fun h => by rw [c23] at h; cases h.2), if_pos (by omega)]) (by decide), m9, m10, b3⟩
  refine Fx.Lv (.bool false) (Fx.x_geqF rfl rfl rfl c37) (Fx.Lv (.bool false) (Fx.x_assign rfl rfl) (Fx.Ln (Fx.sN (Fx.Wc (b := false) rfl (fun h => nomatch h) (fun _ => Fx.Wk (Fx.blkN (Fx.sN (Fx.Ws ?_))))))))
  have hnk : ∀ i, i < n → x i ≠ id := fun i hi e => by rw [hasK_yes hi e] at c16; cases c16
  refine Fx.Wl (Fx.Lv ((pt tp)) (Fx.x_move rfl rfl) (Fx.Lv ((pt tp)) (Fx.x_nil rfl rfl) (Fx.Lv ((pt tp)) (Fx.x_field rfl rfl Try.underlying42 rfl (s := 1) (by kernel_rfl) rfl rfl) (Fx.Lv (.map (some mb)) (Fx.x_load1 (x := fun _ => .map (some mb)) rfl rfl (by kernel_rfl) m9.cel (i := 0) (by omega) (by omega) rfl) (Fx.Lv (.int .u64 (id)) (Fx.x_move rfl rfl) (Fx.Lv (.int .u64 (pa)) (Fx.x_move rfl rfl) (Fx.L.mupN (by rfl) rfl rfl rfl rfl rfl m10 Try.underlying40 Try.underlying28 hnk fun w4 m11 s4 z2 => ?_)))))))
  have hcm2 := m10.chm s4
  have m12 := m9.chM hcm2
  have m13 := m8.chM hcm2
  have b4 := b3.then s4 (.inl rfl)
  have m14 : Fx.Mp w4 mb (n + 1) (Fx.putI x n id) (fun j => .int .u64 (Fx.putI p n pa j)) := m11.cong (fun i _ => ⟨rfl, by unfold Fx.putI; split <;> rfl⟩)
  refine Fx.Ln (Fx.sN (Fx.Ws (Fx.Wl (Fx.Lv (.int .i64 (0)) (Fx.x_assign rfl rfl) (Fx.Ln (Fx.sN (Fx.Wr (⟨.int .i64 (0), Fx.rV Try.results7 (by exact rfl), ?_⟩))))))))
  exact ⟨_, _, _, _, rfl, .yes (by unfold addC; rw [if_neg c12, c16, if_neg (by decide), if_neg (fun h => by rw [c23] at h; cases h.2), if_neg (by omega)]), m12, m14, b4⟩
 rw [Bool.not_eq_true] at c23
 refine Fx.L.call (by rfl) (Fx.rC (args := [(pt tp), .int .u64 (pa)]) rfl rfl Try.func8 rfl rfl) rfl ((t_has x p n tp mb pa _ hT hM).mono ?_)
 rintro e v1 ⟨he, hv1⟩
 subst v1
 refine ⟨.bool false, by rw [he, c23], ?_⟩
 clear he
 refine Fx.Lv (.bool true) (Fx.x_notT rfl rfl) (Fx.Lv (.bool true) (Fx.x_pickT rfl rfl rfl) (Fx.Lv (.bool true) (Fx.x_assign rfl rfl) (Fx.Ln (Fx.sN (Fx.Wc (b := true) rfl (fun _ => Fx.Ws (Fx.Wl (Fx.Lv (.int .i64 (9)) (Fx.x_assign rfl rfl) ?_))) (fun h => nomatch h))))))
 refine Fx.Ln (Fx.sN (Fx.Wr (Fx.blkR (Fx.sR (⟨.int .i64 (9), Fx.rV Try.results7 (by exact rfl), ?_⟩)))))
 exact ⟨_, _, _, _, rfl, .no (by unfold addC; rw [if_neg c12, c16, if_neg (by decide), if_pos ⟨c19, c23⟩]) (by decide), hT, hM, (Fx.Stp.refl mb w)⟩
theorem t_cl1 (k : Int) (w : World) :
    Calls Try.prog 15 #[.int .u64 (k)] w fun e w' => e = .returned (.bool true) ∧ w' = w := by
 refine Fx.enter Try.func15 rfl (n := 3) rfl (by rfl) ?_
 refine Fx.Ws (Fx.Wl (Fx.Lv (.bool false) (Fx.x_assign rfl rfl) (Fx.Ln (Fx.sN (Fx.Ws (Fx.Wl (Fx.Lv (.bool true) (Fx.x_assign rfl rfl) (Fx.Ln (Fx.sN (Fx.Wr (⟨.bool true, Fx.rV Try.results15 (by exact rfl), ?_⟩)))))))))))
 exact ⟨rfl, rfl⟩
theorem t_cl2 (x p : Nat → Int) (n tp mb : Nat) (w : World) (hT : Fx.Blk w tp 1 (fun _ => .map (some mb)) 42) (hM : Fx.Mp w mb n x (fun j => .int .u64 (p j))) (h : TrI n x p) (k : Int) (tb ib : Nat) (id : Int) (hb1 : Fx.Blk w tb 1 (fun _ => (pt tp)) 24) (hb2 : Fx.Blk w ib 1 (fun _ => .int .u64 id) 28) :
    Calls Try.prog 17 #[.int .u64 (k), (pt tb), (pt ib)] w fun e w' => e = .returned (.bool (decide (id ∈ upK x p n 4 k))) ∧ Below w.heap.size w w' := by
 refine Fx.enter Try.func17 rfl (n := 10) rfl (by rfl) ?_
 refine Fx.Ws (Fx.Wl (Fx.Lv (.bool false) (Fx.x_assign rfl rfl) (Fx.Ln (Fx.sN (Fx.Ws ?_)))))
 -- region 1 draws
 refine Fx.W.reord [1, 0, 3, 2, 4, 5] [4, 0, 2, 1, 2, 0] Fx.Mk Fx.Mk.refl Fx.Mk.trans (certs := [(2, 0, [0]), (4, 0, [2, 0]), (4, 2, [2]), (5, 2, [2]), (5, 4, [4])]) (by kernel_rfl) (by kernel_rfl) (by kernel_rfl) (by kernel_rfl) (by kernel_rfl) fun wt1 hbwt1 hzwt1 => ?_
 have s1 : Fx.Stp w.heap.size w wt1 := Fx.Sb hbwt1
 have m1 := hT.stp s1 hT.ne
 have m2 := hM.up s1.old
 have m3 := hb1.stp s1 hb1.ne
 have m4 := hb2.stp s1 hb2.ne
 have b1 := s1.below (Below.refl w.heap.size w) (Below.refl w.heap.size w).size (Below.refl w.heap.size w).size
 refine Fx.Rp (.int .u64 (k)) (fun v1 => Fx.x_move rfl rfl) (Fx.R.s ((pt tp)) (Fx.x_load1 (x := fun _ => (pt tp)) rfl rfl (by kernel_rfl) m3.cel (i := 0) (by omega) (by omega) rfl) ?_)
 refine Fx.R.read (v := .int .u64 (id)) (by rfl) (by rfl) (Fx.Mk.refl _) (fun v1 hv1 => Fx.x_load1 (x := fun _ => .int .u64 id) rfl rfl (by kernel_rfl) (m4.cel.below hv1 (by have := m4.lt; omega)) (i := 0) (by omega) (by omega) rfl) ?_
 refine Fx.R.make (by rfl) ?_
 refine Fx.L.call (by rfl) (Fx.rC (args := [(pt tp), .int .u64 (k)]) rfl rfl Try.func11 rfl rfl) rfl ((t_path x p n tp mb 4 k _ m1 m2 h.inj (h.stop _) (h.len _)).mono ?_)
 rintro e9 w1 ⟨pa1, pc1, he, m5, hb1⟩
 refine ⟨_, he, ?_⟩
 clear he
 have s2 := Fx.Sb hb1
 have b2 := s2.below b1 b1.size b1.size
 refine Fx.Ln ⟨s2.old, ?_⟩
 refine Fx.R.make (by rfl) ?_
 refine Fx.L.call (by rfl) (Fx.rC (args := [.slice pa1 ((upK x p n 4 k).length) (pc1), .int .u64 (id)]) rfl rfl Try.func18 rfl rfl) rfl ((t_ct (upK x p n 4 k) id _ _ _ _ m5 (Nat.le_trans upK_len (by omega))).mono ?_)
 rintro e9 w2 ⟨he, hb2⟩
 refine ⟨_, he, ?_⟩
 clear he
 have s3 := Fx.Sb hb2
 have b3 := s3.below b2 b2.size b2.size
 refine Fx.Ln ⟨s3.old, ?_⟩
 refine Fx.Rp (.bool (decide (id ∈ (upK x p n 4 k)))) (fun v1 => Fx.x_assign rfl rfl) (Fx.R.nil (Fx.sN (Fx.Wr (⟨.bool (decide (id ∈ (upK x p n 4 k))), Fx.rV Try.results17 (by exact rfl), ?_⟩))))
 exact ⟨rfl, b3⟩
end Go.Proofs.Ytahbiajdgealnaa
