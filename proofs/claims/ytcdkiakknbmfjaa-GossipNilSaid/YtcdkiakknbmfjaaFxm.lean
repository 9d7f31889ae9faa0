/-
  Blocks of cells as functions of the place; loads, stores, new blocks and calls, by facts.
-/
import Derived.Test.YtcdkiakknbmfjaaFxr
namespace Go.Proofs.Ytcdkiakknbmfjaa
open Go.RowKit
namespace Fx
def varr (n : Nat) (x : Nat → Value) : Array Value := Array.ofFn (fun i : Fin n => x i)
theorem varr_size (n : Nat) (x : Nat → Value) : (varr n x).size = n := by unfold varr; simp
theorem varr_get {n : Nat} (x : Nat → Value) {i : Nat} (h : i < n) : (varr n x)[i]? = some (x i) := by unfold varr; simp [h]
theorem varr_none {n : Nat} (x : Nat → Value) {i : Nat} (h : n ≤ i) : (varr n x)[i]? = none := by unfold varr; simp [h]
theorem varr_ext {n : Nat} {x : Nat → Value} {a : Array Value} (hs : a.size = n) (h : ∀ i, i < n → a[i]? = some (x i)) : a = varr n x := by
  apply Array.ext_getElem?
  intro i
  by_cases hi : i < n
  · rw [h i hi, varr_get x hi]
  · rw [varr_none x (by omega), Array.getElem?_eq_none (by omega)]
theorem varr_congr {n : Nat} {x y : Nat → Value} (h : ∀ i, i < n → x i = y i) : varr n x = varr n y := by
  unfold varr; congr 1; funext i; exact h i.1 i.2
/-- another value at a place; others from a place on -/
def updV (x : Nat → Value) (i : Nat) (v : Value) : Nat → Value := fun j => if j = i then v else x j
def ovr (x : Nat → Value) (o m : Nat) (y : Nat → Value) : Nat → Value := fun j => if o ≤ j ∧ j < o + m then y (j - o) else x j
theorem updV_eq {x : Nat → Value} {i j : Nat} {v : Value} (h : j = i) : updV x i v j = v := by unfold updV; rw [if_pos h]
theorem updV_ne {x : Nat → Value} {i j : Nat} {u v : Value} (h : j ≠ i) (e : x j = u) : updV x i v j = u := by unfold updV; rw [if_neg h]; exact e
theorem ovr_in {x y : Nat → Value} {o m q j : Nat} {u : Value} (h : q = o + j) (hj : j < m) (e : y j = u) : ovr x o m y q = u := by unfold ovr; rw [if_pos ⟨by omega, by omega⟩, h, Nat.add_sub_cancel_left]; exact e
theorem ovr_out {x y : Nat → Value} {o m q : Nat} {u : Value} (h : q < o ∨ o + m ≤ q) (e : x q = u) : ovr x o m y q = u := by unfold ovr; rw [if_neg (by omega)]; exact e
/-- a row of integers of one kind -/
def rv (k : IntKind) (x : Nat → Int) : Nat → Value := fun i => .int k (x i)
theorem updV_rv (k : IntKind) (x : Nat → Int) (i : Nat) (v : Int) : updV (rv k x) i (.int k v) = rv k (upd x i v) := by
  funext j; unfold updV rv upd; split <;> rfl
theorem iarr_rv (k : IntKind) (n : Nat) (x : Nat → Int) : iarr k n x = varr n (rv k x) := rfl
/-! ### facts of memory -/
def Cel (w : World) (b off n : Nat) (x : Nat → Value) : Prop := ∀ i, i < n → w.cell? ⟨b, off + i, none⟩ = some (x i)
def Blk (w : World) (g n : Nat) (x : Nat → Value) (T : TypeId) : Prop := w.heap[g]? = some (.cells (varr n x) T (0, 0))
/-- but for block g, w' is as w was, where w had blocks -/
structure Stp (g : Nat) (w w' : World) : Prop where
  os : w'.os = w.os
  tape : w'.tape = w.tape
  output : w'.output = w.output
  size : w.heap.size ≤ w'.heap.size
  block : ∀ k, k < w.heap.size → k ≠ g → w'.heap[k]? = w.heap[k]?
theorem Stp.below {g B : Nat} {w0 w w' : World} (s : Stp g w w') (h : Below B w0 w) (hB : B ≤ w.heap.size) (hg : B ≤ g) : Below B w0 w' :=
  h.trans ⟨s.os, s.tape, s.output, s.size, fun k hk => s.block k (by omega) (by omega)⟩
theorem Stp.of_below {w w' : World} (h : Below w.heap.size w w') : Stp w.heap.size w w' := ⟨h.os, h.tape, h.output, h.size, fun k hk _ => h.block k hk⟩
theorem Stp.old {w w' : World} (s : Stp w.heap.size w w') : Below w.heap.size w w' := ⟨s.os, s.tape, s.output, s.size, fun k hk => s.block k hk (by omega)⟩
theorem Stp.drew {g : Nat} {w w' : World} (s : Stp g w w') : Stp g w w'.drew := ⟨s.os, s.tape, s.output, s.size, s.block⟩
theorem Stp.refl (g : Nat) (w : World) : Stp g w w := ⟨rfl, rfl, rfl, Nat.le_refl _, fun _ _ _ => rfl⟩
theorem Stp.alloc (w : World) (o : Obj) : Stp w.heap.size w (w.alloc o) := Stp.of_below ((Below.refl _ _).alloc (Nat.le_refl _) o)
theorem Blk.lt {w : World} {g n : Nat} {x : Nat → Value} {T : TypeId} (h : Blk w g n x T) : g < w.heap.size := (Array.getElem?_eq_some_iff.1 h).1
theorem Blk.stp {w w' : World} {g b n : Nat} {x : Nat → Value} {T : TypeId} (h : Blk w b n x T) (s : Stp g w w') (ne : b ≠ g) : Blk w' b n x T := (s.block b h.lt ne).trans h
theorem Blk.cel {w : World} {g n : Nat} {x : Nat → Value} {T : TypeId} (h : Blk w g n x T) : Cel w g 0 n x := fun i hi => by
  rw [Nat.zero_add, cell_of_row w g i _ _ _ h]; exact varr_get x hi
theorem Cel.lt {w : World} {b off n : Nat} {x : Nat → Value} (h : Cel w b off n x) (hn : 0 < n) : b < w.heap.size := block_lt_of_cell (h 0 hn)
theorem Cel.stp {w w' : World} {g b off n : Nat} {x : Nat → Value} (h : Cel w b off n x) (s : Stp g w w') (ne : b ≠ g) : Cel w' b off n x := fun i hi => by
  have hc := h i hi
  have hlt : b < w.heap.size := block_lt_of_cell hc
  rw [← hc]
  exact World.cell?_of_block (w := w) (s.block b hlt ne)
theorem Cel.below {w w' : World} {b off n B : Nat} {x : Nat → Value} (h : Cel w b off n x) (s : Below B w w') (hb : b < B) : Cel w' b off n x := fun i hi => by
  rw [← h i hi]; exact s.cell (p := ⟨b, off + i, none⟩) hb
theorem Cel.sub {w : World} {b off n : Nat} {x : Nat → Value} (h : Cel w b off n x) (o m : Nat) (hm : o + m ≤ n) : Cel w b (off + o) m (fun i => x (o + i)) := fun i hi => by
  have := h (o + i) (by omega); rwa [← Nat.add_assoc] at this
/-! ### types -/
def aggT (P : Program) (T : TypeId) : Bool := match P.underlying T with | some (.struct _) => true | some (.array _ _) => true | _ => false
def oneT (P : Program) (T : TypeId) : Bool := match P.underlying T with | some (.struct _) => false | some (.array _ _) => false | some _ => true | none => false
theorem Blk.to {w : World} {g n : Nat} {x y : Nat → Value} {T : TypeId} (h : Blk w g n x T) (e : x = y) : Blk w g n y T := e ▸ h
theorem upd_all {w : World} {g : Nat} {x : Nat → Value} {v : Value} {T : TypeId} (h : Blk w g 1 (updV x 0 v) T) : Blk w g 1 (fun _ => v) T := by
  unfold Blk at *
  rw [h, varr_congr (y := fun _ => v) fun i hi => by simp [updV]; omega]
theorem ovr_all {w : World} {g n : Nat} {x y : Nat → Value} {T : TypeId} (h : Blk w g n (ovr x 0 n y) T) : Blk w g n y T := by
  unfold Blk at *
  rw [h, varr_congr (y := y) fun i hi => by simp [ovr, hi]]
section
variable {P : Program} {n : Nat} {Q : Post} {f : Nat → Value} {w : World} {ops : Array Oper} {rest : List Oper} {o : Oper}
theorem x_load1 {T : TypeId} {a : Operand} {b off m i p : Nat} {x : Nat → Value} {v : Value} (ho : o.op = .load T a) (ha : ev f a = .pointer (some ⟨b, p, none⟩)) (hT : oneT P T = true) (hc : Cel w b off m x) (hi : i < m) (he : p = off + i) (hv : x i = v) : Runs P f o w v := by
  subst he
  subst hv
  have h1 := hc i hi
  unfold Runs execOp
  simp only [ho, ha]
  unfold oneT at hT
  cases hu : P.underlying T with
  | none => rw [hu] at hT; cases hT
  | some d =>
    rw [hu] at hT
    cases d <;> first
      | (cases hT; done)
      | simp [Instr.loadAt, Instr.sureAddr, loadVar, isAgg, underlying, hu, h1]
theorem x_loadA {T : TypeId} {a : Operand} {b off m i p s : Nat} {x y : Nat → Value} (ho : o.op = .load T a) (ha : ev f a = .pointer (some ⟨b, p, none⟩)) (hT : aggT P T = true) (hz : (P.info? T).map (·.size) = some s) (hc : Cel w b off m x) (hi : i + s ≤ m) (he : p = off + i) (hy : ∀ j, j < s → x (i + j) = y j) :
    Runs P f o w (.agg (varr s y)) := by
  subst he
  rw [← varr_congr hy]
  have hl : (varr s (fun j => x (i + j))).toList.length = s := by simp [varr_size]
  have hr : w.rangeAt b (off + i) (varr s (fun j => x (i + j))).toList := fun j v hv => by
    have hj : j < s := by have := (List.getElem?_eq_some_iff.1 hv).1; simpa [varr_size] using this
    rw [Array.getElem?_toList, varr_get _ hj] at hv
    rw [← Option.some.inj hv, Nat.add_assoc]
    exact hc (i + j) (by omega)
  unfold aggT at hT
  cases hu : P.underlying T with
  | none => rw [hu] at hT; cases hT
  | some d =>
    rw [hu] at hT
    have hd : d.isRow = true := by cases d <;> first | (cases hT; done) | rfl
    have := run_loadAt_mid (P := P) w b (off + i) T (varr s (fun j => x (i + j))).toList d hr hu hd (by rw [hl]; exact hz)
    unfold Runs execOp
    simp only [ho, ha, Sem.run_bind, this, Result.andThen_ok, Sem.run_pure, Array.toArray_toList]
theorem setRow_stp {g : Nat} {old cs : Array Value} {T : TypeId} (hg : w.heap[g]? = some (.cells old T (0, 0))) : Stp g w (w.setRow g cs) ∧ (w.setRow g cs).heap[g]? = some (.cells cs T (0, 0)) ∧ (w.setRow g cs).heap.size = w.heap.size := by
  refine ⟨⟨rfl, rfl, rfl, by simp, fun k _ hne => setRow_other _ _ _ _ (by omega)⟩, ?_, by simp⟩
  rw [setRow_heap w g old cs T (0, 0) hg]
theorem L.store1 {T TB : TypeId} {a v : Operand} {g m i : Nat} {x : Nat → Value} {u : Value} (hw : Region.wanted o (yf ops f) = true) (hd : o.dst = none) (ho : o.op = .store T a v) (ha : ev f a = .pointer (some ⟨g, i, none⟩)) (hv : ev f v = u) (h1 : u.oneCell' = true) (hT : (P.info? T).map (·.size) = some 1)
    (hb : Blk w g m x TB) (hi : i < m) (h : ∀ w', Blk w' g m (updV x i u) TB → Stp g w w' → w'.heap.size = w.heap.size → L P n ops Q rest f w') : L P n ops Q (o :: rest) f w := by
  have hcell : w.cell? ⟨g, i, none⟩ = some (x i) := by have := hb.cel i hi; rwa [Nat.zero_add] at this
  have hfz : w.frozen? ⟨g, i, none⟩ = false := by
    unfold World.frozen?
    simp only [show w.heap[g]? = _ from hb]
    simp
  have hr := run_storeVar_one (P := P) w g i T u (x i) hT h1 hcell hfz
  have hrun : (execOp (ev f) o).run P w = .ok .skip (w.setCell ⟨g, i, none⟩ u) := by
    unfold execOp
    simp only [ho, ha, hv, Instr.storeAt, Instr.sureAddr, Sem.run_bind, Sem.run_pure, Result.andThen_ok, hr]
  refine L.unit hw hrun (by rw [hd]; rfl) ?_
  rw [hd]
  refine h _ ?_ ⟨rfl, rfl, rfl, by simp [World.setCell], fun k _ hne => Below.heap_setCell _ _ _ _ (by simpa using hne)⟩ (by simp [World.setCell])
  show (w.setCell ⟨g, i, none⟩ u).heap[g]? = _
  have hg : w.heap[g]? = some (.cells (varr m x) TB (0, 0)) := hb
  simp only [World.setCell, Array.getElem?_modify, if_true, hg, Option.map_some, Option.isSome_none]
  congr 2
  refine varr_ext (by simp [varr_size]) fun j hj => ?_
  simp only [Bool.false_eq_true, if_false, Array.getElem?_setIfInBounds, updV]
  by_cases e : i = j
  · subst e; simp [varr_size, hj]
  · rw [if_neg e, varr_get x hj, if_neg (fun h => e h.symm)]
theorem L.storeA {T TB : TypeId} {a v : Operand} {g m i s : Nat} {x y : Nat → Value} (hw : Region.wanted o (yf ops f) = true) (hd : o.dst = none) (ho : o.op = .store T a v) (ha : ev f a = .pointer (some ⟨g, i, none⟩)) (hv : ev f v = .agg (varr s y)) (h1 : ∀ j, j < s → (y j).oneCell' = true) (hT : (P.info? T).map (·.size) = some s)
    (hb : Blk w g m x TB) (hi : i + s ≤ m) (h : ∀ w', Blk w' g m (ovr x i s y) TB → Stp g w w' → w'.heap.size = w.heap.size → L P n ops Q rest f w') : L P n ops Q (o :: rest) f w := by
  have hg : w.heap[g]? = some (.cells (varr m x) TB (0, 0)) := hb
  have hall : ∀ u ∈ (varr s y).toList, u.oneCell' = true := fun u hu => by
    obtain ⟨j, hj, he⟩ := List.getElem_of_mem hu
    have hj' : j < s := by simpa [varr_size] using hj
    have := varr_get y hj'
    rw [← Array.getElem?_toList, List.getElem?_eq_getElem hj, he] at this
    rw [Option.some.inj this]; exact h1 j hj'
  have hr := run_storeCells_at (P := P) g i TB (varr s y).toList 0 (varr m x) w hg (by simp [varr_size]; omega) hall
  have hrun : (execOp (ev f) o).run P w = .ok .skip (w.setRow g ((varr m x).toList.take (i + 0) ++ (varr s y).toList ++ (varr m x).toList.drop (i + 0 + (varr s y).toList.length)).toArray) := by
    unfold execOp
    cases hq : P.info? T with
    | none => simp [hq] at hT
    | some z =>
      have hz : z.size = s := by simp [hq] at hT; omega
      have hsz : (Value.agg (varr s y)).cells = varr s y := rfl
      simp only [ho, ha, hv, Instr.storeAt, Instr.sureAddr, Sem.run_bind, Sem.run_pure, Result.andThen_ok, storeVar, sizeOf, typeInfo, run_program, hq, hsz, varr_size, hz, ne_eq, not_true_eq_false, if_false, hr]
  refine L.unit hw hrun (by rw [hd]; rfl) ?_
  rw [hd]
  obtain ⟨s1, s2, s3⟩ := setRow_stp (w := w) (cs := ((varr m x).toList.take (i + 0) ++ (varr s y).toList ++ (varr m x).toList.drop (i + 0 + (varr s y).toList.length)).toArray) hg
  refine h _ ?_ s1 s3
  show _ = _
  rw [s2]
  congr 2
  refine varr_ext (by simp [varr_size]; omega) fun j hj => ?_
  rw [List.getElem?_toArray, List.append_assoc]
  simp only [Nat.add_zero, ovr]
  by_cases c1 : j < i
  · rw [List.getElem?_append_left (by simp [varr_size]; omega), if_neg (by omega), List.getElem?_take, if_pos c1, Array.getElem?_toList, varr_get x hj]
  · rw [List.getElem?_append_right (by simp [varr_size]; omega)]
    have hl : (List.take i (varr m x).toList).length = i := by simp [varr_size]; omega
    rw [hl]
    by_cases c2 : j < i + s
    · rw [List.getElem?_append_left (by simp [varr_size]; omega), if_pos ⟨by omega, c2⟩, Array.getElem?_toList, varr_get y (by omega)]
    · rw [List.getElem?_append_right (by simp [varr_size]; omega), if_neg (by omega), List.getElem?_drop, Array.getElem?_toList]
      simp only [Array.length_toList, varr_size]
      rw [show i + s + (j - i - s) = j by omega, varr_get x hj]
/-- a new variable -/
theorem L.box {T : TypeId} {x : Operand} {v : Value} {m : Nat} {y : Nat → Value} (hw : Region.wanted o (yf ops f) = true) (ho : o.op = .box T x) (hx : ev f x = v) (hc : v.cells = varr m y) (hd : inn n o.dst = true)
    (h : ∀ g w', g = w.heap.size → Blk w' g m y T → Stp w.heap.size w w' → w'.heap.size = w.heap.size + 1 → L P n ops Q rest (put f o.dst (.pointer (some ⟨g, 0, none⟩))) w') : L P n ops Q (o :: rest) f w := by
  have hrun : (execOp (ev f) o).run P w = .ok (.value (.pointer (some ⟨w.heap.size, 0, none⟩))) (w.alloc (.cells v.cells T)) := by
    unfold execOp
    simp [ho, hx, Instr.box, newVar, newRow]
  refine L.val hw hrun hd (h _ _ rfl ?_ (Stp.alloc _ _) (by simp))
  show (w.alloc _).heap[w.heap.size]? = _
  rw [alloc_at, if_pos rfl, hc]
theorem cells_agg (m : Nat) (y : Nat → Value) : (Value.agg (varr m y)).cells = varr m y := rfl
theorem cells_one {v : Value} (h : v.oneCell' = true) : v.cells = varr 1 (fun _ => v) := by
  cases v <;> first | rfl | (simp [Value.oneCell'] at h)
theorem L.new {T : TypeId} {m : Nat} {y : Nat → Value} (hw : Region.wanted o (yf ops f) = true) (ho : o.op = .alloc T) (hz : ((P.info? T).bind (·.zero)).map (·.cells) = some (varr m y)) (hd : inn n o.dst = true)
    (h : ∀ g w', g = w.heap.size → Blk w' g m y T → Stp w.heap.size w w' → w'.heap.size = w.heap.size + 1 → L P n ops Q rest (put f o.dst (.pointer (some ⟨g, 0, none⟩))) w') : L P n ops Q (o :: rest) f w := by
  obtain ⟨z, hz1, hz2⟩ := Option.map_eq_some_iff.1 hz
  obtain ⟨i, hi, hz⟩ := Option.bind_eq_some_iff.1 hz1
  have hrun : (execOp (ev f) o).run P w = .ok (.value (.pointer (some ⟨w.heap.size, 0, none⟩))) (w.alloc (.cells z.cells T)) := by
    unfold execOp
    simp [ho, Instr.alloc, zeroValue, typeInfo, hi, hz, newVar, newRow]
  refine L.val hw hrun hd (h _ _ rfl ?_ (Stp.alloc _ _) (by simp))
  show (w.alloc _).heap[w.heap.size]? = _
  rw [alloc_at, if_pos rfl, hz2]
/-! ### values made of parts -/
theorem fill_step {place : Nat → Option (Nat × Nat)} {m i off s : Nat} {v : Value} {x y : Nat → Value} {rest : List (Nat × Value)} (hp : place i = some (off, s)) (hv : v.cells = varr s y) (hle : Nat.ble (off + s) m = true) :
    Instr.fill place (varr m x) ((i, v) :: rest) = Instr.fill place (varr m (ovr x off s y)) rest := by
  have hle' : off + s ≤ m := Nat.le_of_ble_eq_true hle
  have key : ∀ (l : List Value) (k : Nat) (a : Array Value), (l.zipIdx k).foldl (fun cs (c, j) => cs.setIfInBounds (off + j) c) a = Array.ofFn (fun q : Fin a.size => if off + k ≤ q.1 ∧ q.1 < off + k + l.length then l.getD (q.1 - off - k) undef else a[q.1]) := by
    intro l
    induction l with
    | nil => intro k a; apply Array.ext <;> simp; intro i h1 h2; omega
    | cons c l ih =>
      intro k a
      rw [List.zipIdx_cons, List.foldl_cons, ih]
      apply Array.ext
      · simp
      · intro q h1 h2
        simp only [Array.size_ofFn, Array.size_setIfInBounds] at h1 h2
        simp only [Array.getElem_ofFn, List.length_cons]
        by_cases c1 : off + (k + 1) ≤ q ∧ q < off + (k + 1) + l.length
        · rw [if_pos c1, if_pos (by omega), show q - off - k = (q - off - (k + 1)) + 1 by omega, List.getD_cons_succ]
        · rw [if_neg c1, Array.getElem_setIfInBounds]
          by_cases c2 : off + k = q
          · rw [if_pos c2, if_pos (by omega), show q - off - k = 0 by omega]; rfl
          · rw [if_neg c2, if_neg (by omega)]
  conv => lhs; unfold Instr.fill
  simp only [hp, hv, varr_size]
  rw [if_neg (by rw [show decide (s ≠ s) = false from decide_eq_false (fun h => h rfl), Bool.false_or]; simpa using hle')]
  congr 1
  rw [← Array.foldl_toList, Array.toList_zipIdx, key]
  refine varr_ext (by simp [varr_size]) fun j hj => ?_
  have hj2 : j < (varr m x).size := by rw [varr_size]; exact hj
  rw [Array.getElem?_ofFn, dif_pos hj2]
  simp only [Array.length_toList, varr_size, ovr, Nat.add_zero, Nat.sub_zero]
  by_cases c : off ≤ j ∧ j < off + s
  · rw [if_pos c, if_pos c, List.getD_eq_getElem?_getD, Array.getElem?_toList, varr_get y (by omega)]; rfl
  · rw [if_neg c, if_neg c]
    have := varr_get x hj
    rw [Array.getElem?_eq_getElem hj2] at this
    exact this
theorem x_build {T : TypeId} {parts : List (Nat × Operand)} {vs : List (Nat × Value)} {fs : Array Field} {places : Array (Nat × Nat)} {m : Nat} {x y : Nat → Value} (ho : o.op = .build T parts.toArray) (hp : parts.map (fun p => (p.1, ev f p.2)) = vs) (hs : P.underlying T = some (.struct fs))
    (hpl : fs.mapM (fun fd => (P.info? fd.type).map fun i => (fd.offset, i.size)) = some places) (hz : ((P.info? T).bind (·.zero)).map (·.cells) = some (varr m x)) (hf : Instr.fill (places[·]?) (varr m x) vs = some (varr m y)) : Runs P f o w (.agg (varr m y)) := by
  obtain ⟨z, hz1, hz2⟩ := Option.map_eq_some_iff.1 hz
  obtain ⟨i, hi, hz⟩ := Option.bind_eq_some_iff.1 hz1
  have key : ∀ (g : Field → Sem (Nat × Nat)) (hg : ∀ d x, (P.info? d.type).map (fun i => (d.offset, i.size)) = some x → (g d).run P w = .ok x w) (l : List Field) (r : List (Nat × Nat)), l.mapM (fun fd => (P.info? fd.type).map fun i => (fd.offset, i.size)) = some r → (l.mapM g).run P w = .ok r w := by
    intro g hg l
    induction l with
    | nil => intro r h; simp at h; subst h; simp
    | cons d l ih =>
      intro r h
      rw [List.mapM_cons] at h
      cases h1 : (P.info? d.type).map (fun i => (d.offset, i.size)) with
      | none => rw [h1] at h; cases h
      | some i1 =>
        cases h2 : l.mapM (fun fd => (P.info? fd.type).map fun i => (fd.offset, i.size)) with
        | none => rw [h1, h2] at h; cases h
        | some r2 =>
          rw [h1, h2] at h
          have h3 : i1 :: r2 = r := by simpa using h
          subst h3
          rw [List.mapM_cons]
          simp only [Sem.run_bind, hg d i1 h1, Result.andThen_ok, ih r2 h2, Sem.run_pure]
  have hl : fs.toList.mapM (fun fd => (P.info? fd.type).map fun i => (fd.offset, i.size)) = some places.toList := by
    rw [Array.mapM_eq_mapM_toList] at hpl
    cases hq : fs.toList.mapM (fun fd => (P.info? fd.type).map fun i => (fd.offset, i.size)) with
    | none => rw [hq] at hpl; simp at hpl
    | some r => rw [hq] at hpl; simp at hpl; rw [← hpl]
  have hm : ∀ (g : Field → Sem (Nat × Nat)), (∀ d x, (P.info? d.type).map (fun i => (d.offset, i.size)) = some x → (g d).run P w = .ok x w) → (fs.mapM g).run P w = .ok places w := fun g hg => by
    rw [Array.mapM_eq_mapM_toList]
    simp [key g hg _ _ hl]
  have hg : ∀ (d : Field) (x : Nat × Nat), (P.info? d.type).map (fun i => (d.offset, i.size)) = some x → (do pure (d.offset, ← sizeOf d.type) : Sem (Nat × Nat)).run P w = .ok x w := fun d x h => by
    cases h1 : P.info? d.type with
    | none => rw [h1] at h; cases h
    | some i1 => rw [h1] at h; simp at h; subst h; simp [sizeOf, typeInfo, h1]
  unfold Runs execOp
  simp only [ho, List.map_toArray, hp]
  unfold Instr.build
  simp only [zeroValue, typeInfo, underlying, Sem.run_bind, run_program, Result.andThen_ok, hi, hz, hs, Sem.run_pure, hm _ hg, hz2, hf]
/-! ### calls -/
theorem r_call {g : FuncId} {fn : Func} {c : Code} {xs : List Operand} {args : List Value} {Ts : Array TypeId} (ho : o.op = .call { callee := .value (.func g), args := xs.toArray, argTypes := Ts }) (hx : xs.map (ev f) = args) (hf : P.funcs[g]? = some fn)
    (hn : (fn.name == "runtime.NumGoroutine") = false) (hb : fn.body = some c) : (execOp (ev f) o).run P w = .ok (.enter g args.toArray) w := by
  unfold execOp
  simp only [ho]
  unfold resolve
  simp only [Sem.run_bind, List.map_toArray, hx, ev, Deferred.ofValue, Sem.run_pure, Result.andThen_ok]
  unfold invoke
  have e : (#[] ++ args.toArray ++ #[] : Array Value) = args.toArray := by simp
  show (callFunc g (#[] ++ args.toArray ++ #[])).run P w = _
  rw [e]
  exact run_enter hf hn hb args.toArray w
theorem r_clo {g : FuncId} {fn : Func} {c : Code} {t : Operand} {xs : List Operand} {args : List Value} {Ts : Array TypeId} {first cap : Array Value} {all : Array Value} (ho : o.op = .call { callee := .value t, args := xs.toArray, argTypes := Ts }) (ht : ev f t = .func (.func g) first cap) (hx : xs.map (ev f) = args) (hall : first ++ args.toArray ++ cap = all)
    (hf : P.funcs[g]? = some fn) (hn : (fn.name == "runtime.NumGoroutine") = false) (hb : fn.body = some c) : (execOp (ev f) o).run P w = .ok (.enter g all) w := by
  unfold execOp
  simp only [ho]
  unfold resolve
  simp only [Sem.run_bind, List.map_toArray, hx, ht, Deferred.ofValue, Sem.run_pure, Result.andThen_ok]
  unfold invoke
  simp only [hall]
  exact run_enter hf hn hb all w
theorem x_func {fn : Fn} {xs ys : List Operand} {us vs : List Value} (ho : o.op = .makeFunc fn xs.toArray ys.toArray) (hx : xs.map (ev f) = us) (hy : ys.map (ev f) = vs) : Runs P f o w (.func fn us.toArray vs.toArray) := by
  unfold Runs execOp
  simp [ho, Instr.makeFunc, hx, hy]
theorem x_fieldV1 {T : TypeId} {x : Operand} {i m : Nat} {y : Nat → Value} {fs : Array Field} {fd : Field} (ho : o.op = .field T x i) (hx : ev f x = .agg (varr m y)) (hs : P.underlying T = some (.struct fs)) (hf : fs[i]? = some fd) (hT : oneT P fd.type = true) (hi : Nat.blt fd.offset m = true) {v : Value} (hv : y fd.offset = v) : Runs P f o w v := by
  subst hv
  have hi' : fd.offset < m := by simpa [Nat.blt_eq] using hi
  unfold Runs execOp
  simp only [ho, hx]
  unfold oneT at hT
  cases hu : P.underlying fd.type with
  | none => rw [hu] at hT; cases hT
  | some d =>
    rw [hu] at hT
    cases d <;> first
      | (cases hT; done)
      | simp [Instr.field, underlying, hs, hf, asAgg, part, isAgg, hu, varr_get y hi']
theorem x_fieldVA {T : TypeId} {x : Operand} {i m s : Nat} {y y' : Nat → Value} {fs : Array Field} {fd : Field} (ho : o.op = .field T x i) (hx : ev f x = .agg (varr m y)) (hs : P.underlying T = some (.struct fs)) (hf : fs[i]? = some fd) (hT : aggT P fd.type = true) (hz : (P.info? fd.type).map (·.size) = some s)
    (hi : Nat.ble (fd.offset + s) m = true) (hy : ∀ j, j < s → y (fd.offset + j) = y' j) : Runs P f o w (.agg (varr s y')) := by
  rw [← varr_congr hy]
  have hi' : fd.offset + s ≤ m := Nat.le_of_ble_eq_true hi
  have he : (varr m y).extract fd.offset (fd.offset + s) = varr s (fun j => y (fd.offset + j)) :=
    varr_ext (by simp [varr_size]; omega) fun j hj => by
      rw [Array.getElem?_extract, varr_size, if_pos (by omega), varr_get y (by omega)]
  obtain ⟨z, hz1, hz2⟩ := Option.map_eq_some_iff.1 hz
  unfold Runs execOp
  simp only [ho, hx]
  unfold aggT at hT
  cases hu : P.underlying fd.type with
  | none => rw [hu] at hT; cases hT
  | some d =>
    rw [hu] at hT
    cases d <;> first
      | (cases hT; done)
      | simp [Instr.field, underlying, hs, hf, asAgg, part, isAgg, hu, sizeOf, typeInfo, hz1, hz2, he]
end
end Fx
end Go.Proofs.Ytcdkiakknbmfjaa
