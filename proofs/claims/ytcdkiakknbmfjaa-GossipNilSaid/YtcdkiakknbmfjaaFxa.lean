/-
  Slices that a call owns, append; the obligations of a drawn region's operations.
-/
import Derived.Test.YtcdkiakknbmfjaaFxs
import Derived.Deep.AppendLies
namespace Go.Proofs.Ytcdkiakknbmfjaa
open Go.RowKit
namespace Fx
/-- v is a slice of n elements (of s cells) in a block of its own, from B on; nil where there are none -/
def Own (w : World) (B : Nat) (E : TypeId) (s : Nat) (v : Value) (n : Nat) (x : Nat → Value) : Prop := w.ownsRow B E s v n ((List.range (n * s)).map x)
theorem Own.nil (w : World) (B : Nat) (E : TypeId) (s : Nat) (x : Nat → Value) : Own w B E s (.slice none 0 0) 0 x := ⟨by simp, .inl ⟨rfl, rfl⟩⟩
theorem Stp.grown {g : Nat} {w w' : World} (h : Stp g w w') : w.grownBy w' (some g) := ⟨h.os, h.tape, h.output, h.size, fun k hk hne => h.block k hk (fun e => hne (by rw [e]))⟩
theorem Own.stp {w w' : World} {B : Nat} {E : TypeId} {s : Nat} {v : Value} {n : Nat} {x : Nat → Value} {g : Nat} (h : Own w B E s v n x) (hs : Stp g w w') (hne : v.ownBlock ≠ some g) : Own w' B E s v n x := World.ownsRow.kept h hs.grown (.inr hne)
theorem Own.up {w w' : World} {B : Nat} {E : TypeId} {s : Nat} {v : Value} {n : Nat} {x : Nat → Value} (h : Own w B E s v n x) (hb : Below w.heap.size w w') : Own w' B E s v n x := by
  refine World.ownsRow.kept h (row := none) ⟨hb.os, hb.tape, hb.output, hb.size, fun k hk _ => hb.block k hk⟩ ?_
  cases v.ownBlock <;> simp
theorem Own.ge {w : World} {B : Nat} {E : TypeId} {s : Nat} {v : Value} {n : Nat} {x : Nat → Value} (h : Own w B E s v n x) {g : Nat} (hg : v.ownBlock = some g) : B ≤ g ∧ g < w.heap.size := by
  rcases h.2 with ⟨rfl, _⟩ | ⟨g', cap, cur, rfl, hb, hgg, _⟩
  · cases hg
  · simp only [Value.ownBlock, Option.some.injEq] at hg; subst hg
    exact ⟨hb, (Array.getElem?_eq_some_iff.1 hgg).1⟩
theorem Own.not {w : World} {B : Nat} {E : TypeId} {s : Nat} {v : Value} {n : Nat} {x : Nat → Value} (h : Own w B E s v n x) {b : Nat} (hb : b < B) : v.ownBlock ≠ some b := fun e => by have := (h.ge e).1; omega
theorem Own.notNew {w : World} {B : Nat} {E : TypeId} {s : Nat} {v : Value} {n : Nat} {x : Nat → Value} (h : Own w B E s v n x) {b : Nat} (hb : w.heap.size ≤ b) : v.ownBlock ≠ some b := fun e => by have := (h.ge e).2; omega
theorem Own.form {w : World} {B : Nat} {E : TypeId} {s : Nat} {v : Value} {n : Nat} {x : Nat → Value} (h : Own w B E s v n x) (hn : 0 < n) : ∃ g cap, v = .slice (some ⟨g, 0, none⟩) n cap ∧ B ≤ g ∧ g < w.heap.size ∧ n ≤ cap ∧ Cel w g 0 (n * s) x := by
  have h0 := h
  rcases h.2 with ⟨_, hz⟩ | ⟨g, cap, cur, rfl, hb, hgg, hnc, _⟩
  · omega
  · refine ⟨g, cap, rfl, hb, (Array.getElem?_eq_some_iff.1 hgg).1, hnc, fun i hi => ?_⟩
    rw [Nat.zero_add, World.ownsRow.cellAt h0 i hi]
    simp [hi]
theorem Own.val {w : World} {B : Nat} {E : TypeId} {s : Nat} {v : Value} {n : Nat} {x : Nat → Value} (h : Own w B E s v n x) : ∃ a cap, v = .slice a n cap := by
  rcases h.2 with ⟨rfl, rfl⟩ | ⟨g, cap, cur, rfl, _⟩
  · exact ⟨_, _, rfl⟩
  · exact ⟨_, _, rfl⟩
def appX (x : Nat → Value) (k : Nat) (y : Nat → Value) : Nat → Value := fun p => if p < k then x p else y (p - k)
theorem appX_list (x y : Nat → Value) (k m : Nat) : (List.range k).map x ++ (List.range m).map y = (List.range (k + m)).map (appX x k y) := by
  apply List.ext_getElem?
  intro i
  by_cases h : i < k
  · rw [List.getElem?_append_left (by simpa using h)]
    simp [h, appX, show i < k + m by omega]
  · rw [List.getElem?_append_right (by simp; omega)]
    by_cases h2 : i < k + m
    · simp [h2, appX, h, show i - k < m by omega]
    · simp [h2, show ¬ i - k < m by omega]
section
variable {P : Program} {n : Nat} {Q : Post} {f : Nat → Value} {w : World} {o : Oper}
theorem run_app {B : Nat} {E T ty : TypeId} {s bytes k m c : Nat} {v : Value} {x y : Nat → Value} {b off : Nat} (hu : P.underlying T = some (.slice E)) (hi : (P.info? E).map (fun i => (i.size, i.bytes)) = some (s, bytes)) (hz : ((P.info? E).bind (·.zero)).map (·.cells.size) = some s) (hs : Nat.blt 0 s = true)
    (hown : Own w B E s v k x) (hc : Cel w b off (m * s) y) (h1 : ∀ j, j < m * s → (y j).oneCell' = true) (hm : 0 < m) (hbytes : (k + m) * bytes ≤ 140737488355328) (h63 : k + m ≤ 140737488355328) (hB : B ≤ w.heap.size) :
    ∃ g cap w', (Builtin.append_ #[T, T] ty #[v, .slice (some ⟨b, off, none⟩) m c]).run P w = .ok (.slice (some ⟨g, 0, none⟩) (k + m) cap) w' ∧ Own w' B E s (.slice (some ⟨g, 0, none⟩) (k + m) cap) (k + m) (appX x (k * s) y) ∧ w.grownBy w' v.ownBlock ∧ (v.ownBlock = some g ∨ g = w.heap.size) ∧ g < w'.heap.size := by
  obtain ⟨i, hi1, hi2⟩ := Option.map_eq_some_iff.1 hi
  obtain ⟨z, hz1, hz2⟩ := Option.map_eq_some_iff.1 hz
  rw [hi1] at hz1
  simp only [Prod.mk.injEq] at hi2
  have hz3 : i.zero = some z := hz1
  have hs' : 0 < s := by simpa [Nat.blt_eq] using hs
  obtain ⟨g, cap, w', hr, ho, hg, hg2, hlt⟩ := run_append_lies (P := P) w T ty B E i z s bytes hu hi1 hz3 hi2.1 hi2.2 hz2 hs' v k _ hown ⟨b, off, none⟩ m c ((List.range (m * s)).map y) (by simp)
    (fun j u hj => by
      have hjl : j < m * s := by have := (List.getElem?_eq_some_iff.1 hj).1; simpa using this
      simp [hjl] at hj
      rw [addr_add, ← hj]; exact hc j hjl)
    (fun u hu => by
      obtain ⟨j, hj, rfl⟩ := List.mem_map.1 hu
      exact h1 j (by simpa using hj)) hm (by unfold maxLen; omega) hbytes hB w.heap.size rfl
  refine ⟨g, cap, w', hr, ?_, hg, hg2, hlt⟩
  unfold Own
  rw [Nat.add_mul, ← appX_list]
  exact ho
theorem r_app {B : Nat} {E T : TypeId} {s bytes k m c : Nat} {v : Value} {x y : Nat → Value} {b off : Nat} {sx xx : Operand} {ρ : Operand → Value} (ho : o.op = .call { callee := .builtin .append, args := #[sx, xx], argTypes := #[T, T] }) (hsx : ρ sx = v) (hxx : ρ xx = .slice (some ⟨b, off, none⟩) m c)
    (hu : P.underlying T = some (.slice E)) (hi : (P.info? E).map (fun i => (i.size, i.bytes)) = some (s, bytes)) (hz : ((P.info? E).bind (·.zero)).map (·.cells.size) = some s) (hs : Nat.blt 0 s = true)
    (hown : Own w B E s v k x) (hc : Cel w b off (m * s) y) (h1 : ∀ j, j < m * s → (y j).oneCell' = true) (hm : 0 < m) (hbytes : (k + m) * bytes ≤ 140737488355328) (h63 : k + m ≤ 140737488355328) (hB : B ≤ w.heap.size) :
    ∃ g cap w', (execOp ρ o).run P w = .ok (.value (.slice (some ⟨g, 0, none⟩) (k + m) cap)) w' ∧ Own w' B E s (.slice (some ⟨g, 0, none⟩) (k + m) cap) (k + m) (appX x (k * s) y) ∧ w.grownBy w' v.ownBlock ∧ (v.ownBlock = some g ∨ g = w.heap.size) ∧ g < w'.heap.size := by
  obtain ⟨g, cap, w', hr, h⟩ := run_app (ty := o.type) (c := c) hu hi hz hs hown hc h1 hm hbytes h63 hB
  refine ⟨g, cap, w', ?_, h⟩
  unfold execOp
  simp only [ho]
  unfold resolve invoke
  simp only [List.map_toArray, List.map_cons, List.map_nil, hsx, hxx]
  unfold builtin
  simp only [Sem.run_bind, Sem.run_pure, Result.andThen_ok, hr]
/-- what is known behind an append: of each block that is not the slice's own, nothing has changed -/
theorem grown_stp {w w' : World} {v : Value} (hg : w.grownBy w' v.ownBlock) {b : Nat} (hb : b < w.heap.size) (hne : v.ownBlock ≠ some b) : w'.heap[b]? = w.heap[b]? := hg.block b hb (fun e => hne e.symm)
theorem Blk.grown {w w' : World} {v : Value} {b m : Nat} {x : Nat → Value} {T : TypeId} (h : Blk w b m x T) (hg : w.grownBy w' v.ownBlock) (hne : v.ownBlock ≠ some b) : Blk w' b m x T := (grown_stp hg h.lt hne).trans h
theorem Cel.grown {w w' : World} {v : Value} {b off m : Nat} {x : Nat → Value} (h : Cel w b off m x) (hg : w.grownBy w' v.ownBlock) (hne : v.ownBlock ≠ some b) : Cel w' b off m x := fun i hi => by
  have hc := h i hi
  rw [← hc]
  exact World.cell?_of_block (w := w) (grown_stp hg (block_lt_of_cell hc) hne)
theorem Below.grow {w0 w w' : World} {v : Value} {B : Nat} (h : Below B w0 w) (hg : w.grownBy w' v.ownBlock) (hB : B ≤ w.heap.size) (hv : ∀ g, v.ownBlock = some g → B ≤ g) : Below B w0 w' := h.grown hg hB hv
theorem L.app {ops : Array Oper} {rest : List Oper} {B : Nat} {E T : TypeId} {s bytes k m c : Nat} {v : Value} {x y : Nat → Value} {b off : Nat} {sx xx : Operand} (hw : Region.wanted o (yf ops f) = true) (ho : o.op = .call { callee := .builtin .append, args := #[sx, xx], argTypes := #[T, T] }) (hsx : ev f sx = v) (hxx : ev f xx = .slice (some ⟨b, off, none⟩) m c)
    (hu : P.underlying T = some (.slice E)) (hi : (P.info? E).map (fun i => (i.size, i.bytes)) = some (s, bytes)) (hz : ((P.info? E).bind (·.zero)).map (·.cells.size) = some s) (hs : Nat.blt 0 s = true) (hd : inn n o.dst = true)
    (hown : Own w B E s v k x) (hc : Cel w b off (m * s) y) (h1 : ∀ j, j < m * s → (y j).oneCell' = true) (hm : 0 < m) (hbytes : (k + m) * bytes ≤ 140737488355328) (h63 : k + m ≤ 140737488355328) (hB : B ≤ w.heap.size)
    (h : ∀ g cap w', Own w' B E s (.slice (some ⟨g, 0, none⟩) (k + m) cap) (k + m) (appX x (k * s) y) → w.grownBy w' v.ownBlock → (v.ownBlock = some g ∨ g = w.heap.size) → g < w'.heap.size → L P n ops Q rest (put f o.dst (.slice (some ⟨g, 0, none⟩) (k + m) cap)) w') : L P n ops Q (o :: rest) f w := by
  obtain ⟨g, cap, w', hr, h2, h3, h4, h5⟩ := r_app (ρ := ev f) (c := c) ho hsx hxx hu hi hz hs hown hc h1 hm hbytes h63 hB
  exact L.val hw hr hd (h g cap w' h2 h3 h4 h5)
theorem x_sliceLo {T E : TypeId} {x lo : Operand} {b off len cap s : Nat} {k : IntKind} {j : Nat} (ho : o.op = .slice T x (some lo) none none) (hx : ev f x = .slice (some ⟨b, off, none⟩) len cap) (hl : ev f lo = .int k j) (hu : P.underlying T = some (.slice E)) (hs : (P.info? E).map (·.size) = some s) (hj : j ≤ len) :
    Runs P f o w (.slice (if cap = j then some ⟨b, off, none⟩ else some ⟨b, off + j * s, none⟩) (len - j) (cap - j)) := by
  obtain ⟨i, hi, hi2⟩ := Option.map_eq_some_iff.1 hs
  unfold Runs execOp
  simp only [ho, hx, hl, Option.map_some, Option.map_none]
  have hj' : (j : Int) ≤ (len : Int) := by omega
  simp [Instr.sliceAt, Instr.slice, underlying, hu, Instr.sliceBounds, Instr.sliceBound, asIntOf, hj', sizeOf, typeInfo, hi, hi2, addr_add]
  intro h; omega
theorem x_eqNil {T : TypeId} {x y : Operand} {T' : TypeId} {a : Addr} (ho : o.op = .binOp .eql T x y T') (hx : ev f x = .pointer (some a)) (hy : ev f y = .pointer none) (hu : P.underlying T = some (.pointer (P.pointee T))) : Runs P f o w (.bool false) := by
  unfold Runs execOp
  simp only [ho, hx, hy]
  have hg : (eqGuard .eql T x y (.pointer (some a)) (.pointer none)).run P w = .ok () w := by unfold eqGuard; rfl
  simp only [Sem.run_bind, hg, Result.andThen_ok, run_eql_pointer_nil w T (some a) hu, Sem.run_pure]
  rfl
theorem x_eqNil' {T : TypeId} {x y : Operand} {T' : TypeId} (ho : o.op = .binOp .eql T x y T') (hx : ev f x = .pointer none) (hy : ev f y = .pointer none) (hu : P.underlying T = some (.pointer (P.pointee T))) : Runs P f o w (.bool true) := by
  unfold Runs execOp
  simp only [ho, hx, hy]
  have hg : (eqGuard .eql T x y (.pointer none) (.pointer none)).run P w = .ok () w := by unfold eqGuard; rfl
  simp only [Sem.run_bind, hg, Result.andThen_ok, run_eql_pointer_nil w T none hu, Sem.run_pure]
  rfl
/-! ### the obligations of a drawn region -/
variable {ops : List Oper} {vals : Gh → Nat → Value} {S : Nat → Gh → World → Prop}
theorem qokV {i lo hi : Nat} (V : Gh → Value) (hv : ∀ r, vals r i = V r) (hw : ∀ r, Region.wanted (opAt ops i) (yf ops.toArray (full ops f (vals r))) = true) (hr : ∀ r k w, lo ≤ k → k ≤ hi → S k r w → (execOp (ev (full ops f (vals r))) (opAt ops i)).run P w = .ok (.value (V r)) w) : QOk P ops f vals S i lo hi := fun r k w h1 h2 hS => by
  rw [if_pos (hw r), hr r k w h1 h2 hS]; exact ⟨rfl, (hv r).symm⟩
theorem qokN {i lo hi : Nat} (hv : ∀ r, vals r i = undef) (hw : ∀ r, Region.wanted (opAt ops i) (yf ops.toArray (full ops f (vals r))) = false) : QOk P ops f vals S i lo hi := fun r k w _ _ _ => by
  rw [if_neg (by rw [hw r]; decide)]; exact hv r
theorem qokC {i lo hi : Nat} (V : Gh → Value) (g : FuncId) (args : Gh → Array Value) (hv : ∀ r, vals r i = V r) (hw : ∀ r, Region.wanted (opAt ops i) (yf ops.toArray (full ops f (vals r))) = true) (hst : ∀ r k w w', lo ≤ k → k ≤ hi → S k r w → Below w.heap.size w w' → S k r w')
    (hr : ∀ r k w, lo ≤ k → k ≤ hi → S k r w → (execOp (ev (full ops f (vals r))) (opAt ops i)).run P w = .ok (.enter g (args r)) w) (hc : ∀ r k w, lo ≤ k → k ≤ hi → S k r w → Calls P g (args r) w fun e w' => e = .returned (V r) ∧ Below w.heap.size w w') : QOk P ops f vals S i lo hi := fun r k w h1 h2 hS => by
  rw [if_pos (hw r), hr r k w h1 h2 hS]
  exact ⟨rfl, (hc r k w h1 h2 hS).mono fun e w' ⟨he, hb⟩ => ⟨by rw [hv r]; exact he, hst r k w w' h1 h2 hS hb⟩⟩
/-- an effect that yields a value -/
theorem eokV {Q' : Exit → Act → World → Prop} {i k : Nat} (V : Nat × Nat → Value) (hns : ∀ cs b, (opAt ops i).op ≠ .select cs b) (hv : ∀ r p, vals (updr r k p) i = V p)
    (h : ∀ r w, S k r w → ∃ p w', (execOp (ev (full ops f (vals r))) (opAt ops i)).run P w = .ok (.value (V p)) w' ∧ S (k + 1) (updr r k p) w') : EOk P ops f vals S Q' i k := fun r w a K hS ha hK => by
  obtain ⟨p, w', hr, hS'⟩ := h r w hS
  unfold Oper.wp
  rw [execOp_congr _ hns ha, hr]
  have := hK p w' hS'
  rw [hv] at this
  exact this
theorem eokU {Q' : Exit → Act → World → Prop} {i k : Nat} (hns : ∀ cs b, (opAt ops i).op ≠ .select cs b) (hd : (opAt ops i).dst = none)
    (h : ∀ r w, S k r w → ∃ w', (execOp (ev (full ops f (vals r))) (opAt ops i)).run P w = .ok .skip w' ∧ S (k + 1) (updr r k (0, 0)) w') : EOk P ops f vals S Q' i k := fun r w a K hS ha hK => by
  obtain ⟨w', hr, hS'⟩ := h r w hS
  unfold Oper.wp
  rw [execOp_congr _ hns ha, hr]
  have := hK (0, 0) w' hS'
  rw [hd] at this
  show K (a.put (opAt ops i).dst undef) w'
  rw [hd]
  exact this
/-- what is owed of each operation -/
def dAll (P : Program) (ops : List Oper) (f : Nat → Value) (vals : Gh → Nat → Value) (S : Nat → Gh → World → Prop) (es : List Nat) : List Span → Nat → Prop
  | [], _ => True
  | s :: l, i => (es.contains i = true ∨ (QOk P ops f vals S i s.1 s.2.1 ∧ DOk vals i s.1)) ∧ dAll P ops f vals S es l (i + 1)
theorem dAll_at {es : List Nat} : ∀ {l : List Span} {k : Nat}, dAll P ops f vals S es l k → ∀ i, i < l.length → (es.contains (k + i) = true ∨ (QOk P ops f vals S (k + i) (l.getD i noSpan).1 (l.getD i noSpan).2.1 ∧ DOk vals (k + i) (l.getD i noSpan).1))
  | [], _, _, i, hi => absurd hi (by simp)
  | s :: l, k, h, 0, _ => h.1
  | s :: l, k, h, i + 1, hi => by
    have := dAll_at h.2 i (by simpa using hi)
    rw [show k + 1 + i = k + (i + 1) by omega] at this
    exact this
def eAll (P : Program) (ops : List Oper) (f : Nat → Value) (vals : Gh → Nat → Value) (S : Nat → Gh → World → Prop) (Q' : Exit → Act → World → Prop) : List Nat → Nat → Prop
  | [], _ => True
  | i :: l, k => (EOk P ops f vals S Q' i k ∧ DOk vals i (k + 1)) ∧ eAll P ops f vals S Q' l (k + 1)
theorem eAll_at {Q' : Exit → Act → World → Prop} : ∀ {l : List Nat} {k : Nat}, eAll P ops f vals S Q' l k → ∀ j i, l[j]? = some i → EOk P ops f vals S Q' i (k + j) ∧ DOk vals i (k + j + 1)
  | [], _, _, j, i, h => by simp at h
  | e :: l, k, h, 0, i, hj => by simp at hj; subst hj; exact h.1
  | e :: l, k, h, j + 1, i, hj => by
    have := eAll_at h.2 j i (by simpa using hj)
    rw [show k + 1 + j = k + (j + 1) by omega] at this
    exact this
theorem W.draws {id : Nat} (es : List Nat) (sp : List Span) (vals : Gh → Nat → Value) (S : Nat → Gh → World → Prop) (hm : P.follows .mixedOrders = true) (hok : opsOk n ops = true) (hsel : Region.noSelect ops.toArray = true) (hch : chainOk ops es = true) (hsp : spanOk ops es sp = true)
    (hes : es.all (fun e => Nat.blt e ops.length && (match (opAt ops e).guard with | none => true | _ => false)) = true) (hnd : decide es.Nodup = true)
    (h0 : ∀ w1, Below w.heap.size w w1 → w1.heap.size = w.heap.size → S 0 (fun _ => (0, 0)) w1) (hq : dAll P ops f vals S es sp 0) (he : eAll P ops f vals S (lift n Q) es 0)
    (h : ∀ r w' f', f' = full ops f (vals r) → S es.length r w' → Q .normal f' w') : W P n (.region id ops.toArray true) Q f w := by
  have hlen : sp.length = ops.length := by
    unfold spanOk at hsp; rw [Bool.and_eq_true] at hsp; exact Nat.eq_of_beq_eq_true hsp.1
  have hat : ∀ i, i < ops.length → es.contains i = false → QOk P ops f vals S i (sp.getD i noSpan).1 (sp.getD i noSpan).2.1 ∧ DOk vals i (sp.getD i noSpan).1 := fun i hi hne => by
    have := dAll_at hq i (by omega)
    rw [Nat.zero_add] at this
    rcases this with h1 | h1
    · rw [hne] at h1; cases h1
    · exact h1
  refine W.drawn es sp vals S hm hok hsel hch hsp hes (of_decide_eq_true hnd) (fun w1 h1 h2 => ⟨_, h0 w1 h1 h2⟩) (fun i hi hne => (hat i hi hne).1) (fun k i hk => ?_) (fun i hi hne => (hat i hi hne).2) (fun k i hk => ?_) (fun r w' hS => h r w' _ rfl hS)
  · have := (eAll_at he k i hk).1; rwa [Nat.zero_add] at this
  · have := (eAll_at he k i hk).2; rwa [Nat.zero_add] at this
theorem full_out {v : Nat → Value} {s : Nat} (h : writer ops s = none) : ev (full ops f v) (.tmp s) = f s := by
  show full ops f v s = f s
  unfold full; rw [h]
theorem Stp.trans_below {g : Nat} {w0 w1 w2 : World} (h : Stp g w0 w1) (hb : Below w1.heap.size w1 w2) : Stp g w0 w2 := ⟨hb.os.trans h.os, hb.tape.trans h.tape, hb.output.trans h.output, Nat.le_trans h.size hb.size, fun k hk hne => (hb.block k (Nat.lt_of_lt_of_le hk h.size)).trans (h.block k hk hne)⟩
theorem Stp.after_below {g : Nat} {w0 w1 w2 : World} (h : Below w0.heap.size w0 w1) (hb : Stp g w1 w2) : Stp g w0 w2 := ⟨hb.os.trans h.os, hb.tape.trans h.tape, hb.output.trans h.output, Nat.le_trans h.size hb.size, fun k hk hne => (hb.block k (Nat.lt_of_lt_of_le hk h.size) hne).trans (h.block k hk)⟩
theorem Stp.then {g g' : Nat} {w0 w1 w2 : World} (h : Stp g w0 w1) (hb : Stp g' w1 w2) (hg : g' = g ∨ w0.heap.size ≤ g') : Stp g w0 w2 := ⟨hb.os.trans h.os, hb.tape.trans h.tape, hb.output.trans h.output, Nat.le_trans h.size hb.size, fun k hk hne => (hb.block k (Nat.lt_of_lt_of_le hk h.size) (by omega)).trans (h.block k hk hne)⟩
theorem Below.thenStp {g : Nat} {w0 w1 w2 : World} (h : Below w0.heap.size w0 w1) (hb : Stp g w1 w2) (hg : w0.heap.size ≤ g) : Below w0.heap.size w0 w2 := hb.below h h.size hg
/-! ### effects -/
theorem e_new {o : Oper} {ρ : Operand → Value} {T : TypeId} {m : Nat} {y : Nat → Value} (ho : o.op = .alloc T) (hz : ((P.info? T).bind (·.zero)).map (·.cells) = some (varr m y)) : ∃ w', (execOp ρ o).run P w = .ok (.value (.pointer (some ⟨w.heap.size, 0, none⟩))) w' ∧ Blk w' w.heap.size m y T ∧ Stp w.heap.size w w' := by
  obtain ⟨z, hz1, hz2⟩ := Option.map_eq_some_iff.1 hz
  obtain ⟨i, hi, hz⟩ := Option.bind_eq_some_iff.1 hz1
  refine ⟨w.alloc (.cells z.cells T), ?_, ?_, Stp.alloc _ _⟩
  · unfold execOp
    simp [ho, Instr.alloc, zeroValue, typeInfo, hi, hz, newVar, newRow]
  · show (w.alloc _).heap[w.heap.size]? = _
    rw [alloc_at, if_pos rfl, hz2]
theorem e_box {o : Oper} {ρ : Operand → Value} {T : TypeId} {x : Operand} {v : Value} {m : Nat} {y : Nat → Value} (ho : o.op = .box T x) (hx : ρ x = v) (hc : v.cells = varr m y) : ∃ w', (execOp ρ o).run P w = .ok (.value (.pointer (some ⟨w.heap.size, 0, none⟩))) w' ∧ Blk w' w.heap.size m y T ∧ Stp w.heap.size w w' := by
  refine ⟨w.alloc (.cells v.cells T), ?_, ?_, Stp.alloc _ _⟩
  · unfold execOp
    simp [ho, hx, Instr.box, newVar, newRow]
  · show (w.alloc _).heap[w.heap.size]? = _
    rw [alloc_at, if_pos rfl, hc]
theorem e_bslice {o : Oper} {ρ : Operand → Value} {T E : TypeId} {len s : Nat} {parts : List (Nat × Operand)} {vs : List (Nat × Value)} {zc y : Nat → Value} (ho : o.op = .buildSlice T len parts.toArray) (hp : parts.map (fun p => (p.1, ρ p.2)) = vs) (hu : P.underlying T = some (.slice E)) (hs : (P.info? E).map (·.size) = some s)
    (hbig : Nat.ble (len * s) 16777216 = true) (hpos : Nat.beq (len * s) 0 = false) (hz : ((P.info? E).bind (·.zero)).map (·.cells) = some (varr s zc)) (hf : Instr.fill (fun i => some (i * s, s)) (varr (len * s) (fun j => zc (j % s))) vs = some (varr (len * s) y)) :
    ∃ w', (execOp ρ o).run P w = .ok (.value (.slice (some ⟨w.heap.size, 0, none⟩) len len)) w' ∧ Blk w' w.heap.size (len * s) y E ∧ Stp w.heap.size w w' := by
  obtain ⟨z, hz1, hz2⟩ := Option.map_eq_some_iff.1 hz
  obtain ⟨i, hi, hz3⟩ := Option.bind_eq_some_iff.1 hz1
  have hsz : i.size = s := by rw [hi] at hs; simpa using hs
  have hb : ¬ len * s > 2 ^ 24 := by have := Nat.le_of_ble_eq_true hbig; omega
  have h0 : len * s ≠ 0 := fun e => by rw [e] at hpos; exact absurd hpos (by decide)
  have hs0 : 0 < s := Nat.pos_of_ne_zero fun e => h0 (by rw [e, Nat.mul_zero])
  have hcells : (Array.range (len * s)).map (fun j => z.cells[j % z.cells.size]!) = varr (len * s) (fun j => zc (j % s)) := by
    refine varr_ext (by simp) fun j hj => ?_
    have hjs : j % s < s := Nat.mod_lt _ hs0
    have hg := varr_get zc hjs
    rw [hz2]
    simp [hj, varr_size]
    rw [getElem!_def, hg]
  refine ⟨w.alloc (.cells (varr (len * s) y) E), ?_, ?_, Stp.alloc _ _⟩
  · unfold execOp
    simp only [ho, List.map_toArray, hp]
    unfold Instr.buildSlice
    have hb' : ¬ 16777216 < len * s := by omega
    simp [underlying, sizeOf, typeInfo, zeroValue, hu, hi, hsz, hz3, hb']
    simp [h0, hcells, hf, newRow]
  · show (w.alloc _).heap[w.heap.size]? = _
    rw [alloc_at, if_pos rfl]
theorem e_st1 {o : Oper} {ρ : Operand → Value} {T TB : TypeId} {a v : Operand} {g m i : Nat} {x : Nat → Value} {u : Value} (ho : o.op = .store T a v) (ha : ρ a = .pointer (some ⟨g, i, none⟩)) (hv : ρ v = u) (h1 : u.oneCell' = true) (hT : (P.info? T).map (·.size) = some 1) (hb : Blk w g m x TB) (hi : i < m) :
    ∃ w', (execOp ρ o).run P w = .ok .skip w' ∧ Blk w' g m (updV x i u) TB ∧ Stp g w w' := by
  have hcell : w.cell? ⟨g, i, none⟩ = some (x i) := by have := hb.cel i hi; rwa [Nat.zero_add] at this
  have hfz : w.frozen? ⟨g, i, none⟩ = false := by
    unfold World.frozen?
    simp only [show w.heap[g]? = _ from hb]
    simp
  have hr := run_storeVar_one (P := P) w g i T u (x i) hT h1 hcell hfz
  refine ⟨w.setCell ⟨g, i, none⟩ u, ?_, ?_, ⟨rfl, rfl, rfl, by simp [World.setCell], fun k _ hne => Below.heap_setCell _ _ _ _ (by simpa using hne)⟩⟩
  · unfold execOp
    simp only [ho, ha, hv, Instr.storeAt, Instr.sureAddr, Sem.run_bind, Sem.run_pure, Result.andThen_ok, hr]
  show (w.setCell ⟨g, i, none⟩ u).heap[g]? = _
  have hg : w.heap[g]? = some (.cells (varr m x) TB (0, 0)) := hb
  simp only [World.setCell, Array.getElem?_modify, if_true, hg, Option.map_some, Option.isSome_none]
  congr 2
  refine varr_ext (by simp [varr_size]) fun j hj => ?_
  simp only [Bool.false_eq_true, if_false, Array.getElem?_setIfInBounds, updV]
  by_cases e : i = j
  · subst e; simp [varr_size, hj]
  · rw [if_neg e, varr_get x hj, if_neg (fun h => e h.symm)]
theorem e_stA {o : Oper} {ρ : Operand → Value} {T TB : TypeId} {a v : Operand} {g m i s : Nat} {x y : Nat → Value} (ho : o.op = .store T a v) (ha : ρ a = .pointer (some ⟨g, i, none⟩)) (hv : ρ v = .agg (varr s y)) (h1 : ∀ j, j < s → (y j).oneCell' = true) (hT : (P.info? T).map (·.size) = some s) (hb : Blk w g m x TB) (hi : i + s ≤ m) :
    ∃ w', (execOp ρ o).run P w = .ok .skip w' ∧ Blk w' g m (ovr x i s y) TB ∧ Stp g w w' := by
  have hg : w.heap[g]? = some (.cells (varr m x) TB (0, 0)) := hb
  have hall : ∀ u ∈ (varr s y).toList, u.oneCell' = true := fun u hu => by
    obtain ⟨j, hj, he⟩ := List.getElem_of_mem hu
    have hj' : j < s := by simpa [varr_size] using hj
    have := varr_get y hj'
    rw [← Array.getElem?_toList, List.getElem?_eq_getElem hj, he] at this
    rw [Option.some.inj this]; exact h1 j hj'
  have hr := run_storeCells_at (P := P) g i TB (varr s y).toList 0 (varr m x) w hg (by simp [varr_size]; omega) hall
  obtain ⟨s1, s2, s3⟩ := setRow_stp (w := w) (cs := ((varr m x).toList.take (i + 0) ++ (varr s y).toList ++ (varr m x).toList.drop (i + 0 + (varr s y).toList.length)).toArray) hg
  refine ⟨_, ?_, ?_, s1⟩
  · unfold execOp
    cases hq : P.info? T with
    | none => simp [hq] at hT
    | some z =>
      have hz : z.size = s := by simp [hq] at hT; omega
      have hsz : (Value.agg (varr s y)).cells = varr s y := rfl
      simp only [ho, ha, hv, Instr.storeAt, Instr.sureAddr, Sem.run_bind, Sem.run_pure, Result.andThen_ok, storeVar, sizeOf, typeInfo, run_program, hq, hsz, varr_size, hz, ne_eq, not_true_eq_false, if_false, hr]
  show _ = _
  rw [s2]
  congr 2
  refine varr_ext (by simp [varr_size]; omega) fun j hj => ?_
  rw [List.getElem?_toArray, List.append_assoc]
  simp only [Nat.add_zero, ovr]
  by_cases c1 : j < i
  · rw [List.getElem?_append_left (by simp [varr_size]; omega), if_neg (by omega), List.getElem?_take, if_pos c1, Array.getElem?_toList, varr_get x hj]
  · rw [List.getElem?_append_right (by simp [varr_size]; omega)]
    have hl : (List.take i (varr m x).toList).length = i := by simp [varr_size]; omega
    rw [hl]
    by_cases c2 : j < i + s
    · rw [List.getElem?_append_left (by simp [varr_size]; omega), if_pos ⟨by omega, c2⟩, Array.getElem?_toList, varr_get y (by omega)]
    · rw [List.getElem?_append_right (by simp [varr_size]; omega), if_neg (by omega), List.getElem?_drop, Array.getElem?_toList]
      simp only [Array.length_toList, varr_size]
      rw [show i + s + (j - i - s) = j by omega, varr_get x hj]
end
end Fx
end Go.Proofs.Ytcdkiakknbmfjaa
