/-
  Arguments that are slices of structs of four integers: what they look like.
-/
import Derived.Test.YtcdkiakknbmfjaaOpen
import Derived.Deep.Slices
import Derived.Lib.SmallJoins
namespace Go.Proofs.Ytcdkiakknbmfjaa
open Go.RowKit Go.WideShapes Go.ChangeShapes Go.Deep
theorem spotless1 {w : World} {x : Addr} {v : Value} (h : w.cell? x = some v) : ∃ b off, x = ⟨b, off, none⟩ := by
  obtain ⟨b, off, spot⟩ := x
  cases spot with
  | none => exact ⟨b, off, rfl⟩
  | some q =>
    unfold World.cell? at h
    simp at h
    split at h <;> cases h
/-- four numbers in memory, from a place on -/
def At4 (k0 k1 k2 k3 : IntKind) (w : World) (b off : Nat) (x0 x1 x2 x3 : Int) : Prop :=
  w.cell? ⟨b, off, none⟩ = some (.int k0 x0) ∧ w.cell? ⟨b, off + 1, none⟩ = some (.int k1 x1) ∧ w.cell? ⟨b, off + 2, none⟩ = some (.int k2 x2) ∧ w.cell? ⟨b, off + 3, none⟩ = some (.int k3 x3)
def Wf4 (k0 k1 k2 k3 : IntKind) (x0 x1 x2 x3 : Int) : Prop := (Lit.int k0 x0).wf = true ∧ (Lit.int k1 x1).wf = true ∧ (Lit.int k2 x2).wf = true ∧ (Lit.int k3 x3).wf = true
def Sl4 (k0 k1 k2 k3 : IntKind) (w : World) (a : Option Addr) (len : Nat) (X0 X1 X2 X3 : Nat → Int) : Prop :=
  ∀ i, i < len → (∃ b off, a = some ⟨b, off, none⟩ ∧ At4 k0 k1 k2 k3 w b (off + i * 4) (X0 i) (X1 i) (X2 i) (X3 i)) ∧ Wf4 k0 k1 k2 k3 (X0 i) (X1 i) (X2 i) (X3 i)
theorem open_slice4 {H : Type} {enc : TypeId × Value → H} {P : Program} {w : World} {t e : TypeId} {f0 f1 f2 f3 : Field} {k0 k1 k2 k3 : IntKind} {a : Option Addr} {len cap : Nat} {d : DataW H} {ps : List MemPlace}
    (ht : P.underlying t = some (.slice e)) (he : P.underlying e = some (.struct #[f0, f1, f2, f3])) (ce : P.cellsOf e = 4) (o0 : f0.offset = 0) (o1 : f1.offset = 1) (o2 : f2.offset = 2) (o3 : f3.offset = 3)
    (c0 : P.cellsOf f0.type = 1) (c1 : P.cellsOf f1.type = 1) (c2 : P.cellsOf f2.type = 1) (c3 : P.cellsOf f3.type = 1)
    (h0 : P.underlying f0.type = some (.int k0)) (h1 : P.underlying f1.type = some (.int k1)) (h2 : P.underlying f2.type = some (.int k2)) (h3 : P.underlying f3.type = some (.int k3))
    (h : DataW.Trod enc P w 0 (fun _ => true) true t (.slice a len cap) d ps) : len ≤ maxLen ∧ ∃ X0 X1 X2 X3 : Nat → Int, Sl4 k0 k1 k2 k3 w a len X0 X1 X2 X3 := by
  obtain ⟨fuel, hf⟩ := h
  rcases open_slice ht hf with ⟨hcs, _⟩ | ⟨a', l', c', m, n, D, Pl, hcs, _, hl, hm, hmm, _, hx⟩
  · simp [Value.cells] at hcs
    obtain ⟨rfl, rfl, rfl⟩ := hcs
    exact ⟨by unfold maxLen; omega, fun _ => 0, fun _ => 0, fun _ => 0, fun _ => 0, fun i hi => absurd hi (by omega)⟩
  · simp [Value.cells] at hcs
    obtain ⟨rfl, rfl, rfl⟩ := hcs
    refine ⟨by omega, ?_⟩
    have hsp : 0 < len → ∃ b off, a' = ⟨b, off, none⟩ := by
      intro h0l
      obtain ⟨cs', g1, _⟩ := hx 0 (by rw [hmm]; simp; omega)
      rw [ce] at g1
      obtain ⟨_, hlen, hcell⟩ := World.cells?_some g1
      match cs', hlen with
      | [v0, v1, v2, v3], _ =>
        have q0 := hcell 0 (by omega)
        rw [add_add] at q0
        have e0 : a'.add (0 * 4 + 0) = a' := by unfold Addr.add; simp
        rw [e0] at q0
        exact spotless1 q0
    have each : ∀ i, ∃ q : Int × Int × Int × Int, i < len → (∃ b off, a' = ⟨b, off, none⟩ ∧ At4 k0 k1 k2 k3 w b (off + i * 4) q.1 q.2.1 q.2.2.1 q.2.2.2) ∧ Wf4 k0 k1 k2 k3 q.1 q.2.1 q.2.2.1 q.2.2.2 := by
      intro i
      by_cases hi : i < len
      · obtain ⟨cs', g1, g2⟩ := hx i (by rw [hmm]; simp; omega)
        rw [ce] at g1
        obtain ⟨_, hlen, hcell⟩ := World.cells?_some g1
        obtain ⟨y0, y1, y2, y3, n', _, _, t0, t1, t2, t3⟩ := Go.Joins.trod_struct4 he g2
        match cs', hlen with
        | [v0, v1, v2, v3], _ =>
          simp [o0, o1, o2, o3, c0, c1, c2, c3] at t0 t1 t2 t3
          obtain ⟨n0, e0, _, w0⟩ := DataW.trod_int h0 t0
          obtain ⟨n1, e1, _, w1⟩ := DataW.trod_int h1 t1
          obtain ⟨n2, e2, _, w2⟩ := DataW.trod_int h2 t2
          obtain ⟨n3, e3, _, w3⟩ := DataW.trod_int h3 t3
          simp at e0 e1 e2 e3
          subst e0 e1 e2 e3
          have q0 := hcell 0 (by omega)
          have q1 := hcell 1 (by omega)
          have q2 := hcell 2 (by omega)
          have q3 := hcell 3 (by omega)
          rw [add_add] at q0 q1 q2 q3
          simp at q0 q1 q2 q3
          refine ⟨(n0, n1, n2, n3), fun _ => ⟨?_, w0, w1, w2, w3⟩⟩
          obtain ⟨b, off', rfl⟩ := hsp (by omega)
          rw [addr_add] at q0 q1 q2 q3
          exact ⟨b, off', rfl, q0, by rw [Nat.add_assoc]; exact q1, by rw [Nat.add_assoc]; exact q2, by rw [Nat.add_assoc]; exact q3⟩
      · exact ⟨(0, 0, 0, 0), fun h => absurd h hi⟩
    refine ⟨fun i => (Classical.choose (each i)).1, fun i => (Classical.choose (each i)).2.1, fun i => (Classical.choose (each i)).2.2.1, fun i => (Classical.choose (each i)).2.2.2, fun i hi => ?_⟩
    obtain ⟨⟨b, off, hb, h4⟩, hw⟩ := Classical.choose_spec (each i) hi
    exact ⟨⟨b, off, by rw [hb], h4⟩, hw⟩
theorem Sl4.up {k0 k1 k2 k3 : IntKind} {w w' : World} {a : Option Addr} {len : Nat} {X0 X1 X2 X3 : Nat → Int} (h : Sl4 k0 k1 k2 k3 w a len X0 X1 X2 X3) (hb : Below w.heap.size w w') : Sl4 k0 k1 k2 k3 w' a len X0 X1 X2 X3 := by
  intro i hi
  obtain ⟨⟨b, off, e, q0, q1, q2, q3⟩, hw⟩ := h i hi
  have hlt := block_lt_of_cell q0
  dsimp only at hlt
  exact ⟨⟨b, off, e, (hb.cell (p := ⟨b, off + i * 4, none⟩) hlt).trans q0, (hb.cell (p := ⟨b, off + i * 4 + 1, none⟩) hlt).trans q1, (hb.cell (p := ⟨b, off + i * 4 + 2, none⟩) hlt).trans q2, (hb.cell (p := ⟨b, off + i * 4 + 3, none⟩) hlt).trans q3⟩, hw⟩
end Go.Proofs.Ytcdkiakknbmfjaa
