/-
  Slices that are made of parts; bools; by facts.
-/
import Derived.Test.YtcdkiakknbmfjaaFxo
namespace Go.Proofs.Ytcdkiakknbmfjaa
open Go.RowKit
namespace Fx
section
variable {P : Program} {n : Nat} {Q : Post} {f : Nat → Value} {w : World} {ops : Array Oper} {rest : List Oper} {o : Oper}
theorem x_neqB {T T' : TypeId} {x y : Operand} {a b c : Bool} (ho : o.op = .binOp .neq T x y T') (hx : ev f x = .bool a) (hy : ev f y = .bool b) (hT : P.underlying T = some .bool) (hc : (!(a == b)) = c) : Runs P f o w (.bool c) := by
  unfold Runs execOp
  simp only [ho, hx, hy]
  have hg : (eqGuard .neq T x y (.bool a) (.bool b)).run P w = .ok () w := by unfold eqGuard; rfl
  simp only [Sem.run_bind, hg, Result.andThen_ok, run_neq_bool w T a b hT, Sem.run_pure, hc]
theorem x_eqlB {T T' : TypeId} {x y : Operand} {a b c : Bool} (ho : o.op = .binOp .eql T x y T') (hx : ev f x = .bool a) (hy : ev f y = .bool b) (hT : P.underlying T = some .bool) (hc : (a == b) = c) : Runs P f o w (.bool c) := by
  unfold Runs execOp
  simp only [ho, hx, hy]
  have hg : (eqGuard .eql T x y (.bool a) (.bool b)).run P w = .ok () w := by unfold eqGuard; rfl
  simp only [Sem.run_bind, hg, Result.andThen_ok, run_eql_bool w T a b hT, Sem.run_pure, hc]
theorem L.bslice {T E : TypeId} {len s : Nat} {parts : List (Nat × Operand)} {vs : List (Nat × Value)} {zc y : Nat → Value} (hw : Region.wanted o (yf ops f) = true) (ho : o.op = .buildSlice T len parts.toArray) (hp : parts.map (fun p => (p.1, ev f p.2)) = vs) (hu : P.underlying T = some (.slice E)) (hs : (P.info? E).map (·.size) = some s)
    (hbig : Nat.ble (len * s) 16777216 = true) (hpos : Nat.beq (len * s) 0 = false) (hz : ((P.info? E).bind (·.zero)).map (·.cells) = some (varr s zc)) (hf : Instr.fill (fun i => some (i * s, s)) (varr (len * s) (fun j => zc (j % s))) vs = some (varr (len * s) y)) (hd : inn n o.dst = true)
    (h : ∀ g w', g = w.heap.size → Blk w' g (len * s) y E → Stp w.heap.size w w' → w'.heap.size = w.heap.size + 1 → L P n ops Q rest (put f o.dst (.slice (some ⟨g, 0, none⟩) len len)) w') : L P n ops Q (o :: rest) f w := by
  obtain ⟨z, hz1, hz2⟩ := Option.map_eq_some_iff.1 hz
  obtain ⟨i, hi, hz3⟩ := Option.bind_eq_some_iff.1 hz1
  have hsz : i.size = s := by rw [hi] at hs; simpa using hs
  have hb : ¬ len * s > 2 ^ 24 := by have := Nat.le_of_ble_eq_true hbig; omega
  have h0 : len * s ≠ 0 := fun e => by rw [e] at hpos; exact absurd hpos (by decide)
  have hs0 : 0 < s := Nat.pos_of_ne_zero fun e => h0 (by rw [e, Nat.mul_zero])
  have hcells : (Array.range (len * s)).map (fun j => z.cells[j % z.cells.size]!) = varr (len * s) (fun j => zc (j % s)) := by
    refine varr_ext (by simp) fun j hj => ?_
    have hjs : j % s < s := Nat.mod_lt _ hs0
    have hg := varr_get zc hjs
    rw [hz2]
    simp [hj, varr_size]
    rw [getElem!_def, hg]
  have hrun : (execOp (ev f) o).run P w = .ok (.value (.slice (some ⟨w.heap.size, 0, none⟩) len len)) (w.alloc (.cells (varr (len * s) y) E)) := by
    unfold execOp
    simp only [ho, List.map_toArray, hp]
    unfold Instr.buildSlice
    have hb' : ¬ 16777216 < len * s := by omega
    simp [underlying, sizeOf, typeInfo, zeroValue, hu, hi, hsz, hz3, hb']
    simp [h0, hcells, hf, newRow]
  refine L.val hw hrun hd (h _ _ rfl ?_ (Stp.alloc _ _) (by simp))
  show (w.alloc _).heap[w.heap.size]? = _
  rw [alloc_at, if_pos rfl]
theorem parts1 {x1 : Nat × Operand} {v1 : Value} (h1 : ev f x1.2 = v1) : [x1].map (fun p => (p.1, ev f p.2)) = [(x1.1, v1)] := by rw [List.map_cons, h1]; rfl
theorem parts2 {x1 x2 : Nat × Operand} {v1 v2 : Value} (h1 : ev f x1.2 = v1) (h2 : ev f x2.2 = v2) : [x1, x2].map (fun p => (p.1, ev f p.2)) = [(x1.1, v1), (x2.1, v2)] := by rw [List.map_cons, h1, parts1 h2]
theorem parts3 {x1 x2 x3 : Nat × Operand} {v1 v2 v3 : Value} (h1 : ev f x1.2 = v1) (h2 : ev f x2.2 = v2) (h3 : ev f x3.2 = v3) : [x1, x2, x3].map (fun p => (p.1, ev f p.2)) = [(x1.1, v1), (x2.1, v2), (x3.1, v3)] := by rw [List.map_cons, h1, parts2 h2 h3]
theorem parts4 {x1 x2 x3 x4 : Nat × Operand} {v1 v2 v3 v4 : Value} (h1 : ev f x1.2 = v1) (h2 : ev f x2.2 = v2) (h3 : ev f x3.2 = v3) (h4 : ev f x4.2 = v4) : [x1, x2, x3, x4].map (fun p => (p.1, ev f p.2)) = [(x1.1, v1), (x2.1, v2), (x3.1, v3), (x4.1, v4)] := by rw [List.map_cons, h1, parts3 h2 h3 h4]
theorem parts5 {x1 x2 x3 x4 x5 : Nat × Operand} {v1 v2 v3 v4 v5 : Value} (h1 : ev f x1.2 = v1) (h2 : ev f x2.2 = v2) (h3 : ev f x3.2 = v3) (h4 : ev f x4.2 = v4) (h5 : ev f x5.2 = v5) : [x1, x2, x3, x4, x5].map (fun p => (p.1, ev f p.2)) = [(x1.1, v1), (x2.1, v2), (x3.1, v3), (x4.1, v4), (x5.1, v5)] := by rw [List.map_cons, h1, parts4 h2 h3 h4 h5]
end
end Fx
end Go.Proofs.Ytcdkiakknbmfjaa
