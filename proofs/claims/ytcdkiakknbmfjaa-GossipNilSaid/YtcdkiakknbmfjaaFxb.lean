/-
  Walks by facts, more: arrays that are built, owned slices told anew, rows over rows.
-/
import Derived.Test.YtcdkiakknbmfjaaFxa
namespace Go.Proofs.Ytcdkiakknbmfjaa.Fx
open Go.RowKit
theorem Own.congr {w : World} {B : Nat} {E : TypeId} {s : Nat} {v : Value} {n : Nat} {x y : Nat → Value} (h : Own w B E s v n x) (e : ∀ j, j < n * s → x j = y j) : Own w B E s v n y := by
  have : (List.range (n * s)).map x = (List.range (n * s)).map y := List.map_congr_left fun j hj => e j (List.mem_range.1 hj)
  unfold Own at h ⊢
  rw [← this]; exact h
def ovrI (x : Nat → Int) (o s : Nat) (y : Nat → Int) : Nat → Int := fun p => if o ≤ p ∧ p < o + s then y (p - o) else x p
theorem ovr_rv (k : IntKind) (x : Nat → Int) (o s : Nat) (y : Nat → Int) : ovr (rv k x) o s (rv k y) = rv k (ovrI x o s y) := by
  funext p; unfold ovr rv; dsimp only [ovrI]; split <;> rfl
theorem Blk.congr {w : World} {g n : Nat} {x y : Nat → Value} {T : TypeId} (h : Blk w g n x T) (e : ∀ j, j < n → x j = y j) : Blk w g n y T := by
  unfold Blk at h ⊢; rw [h, varr_congr e]
section
variable {P : Program} {f : Nat → Value} {w : World} {o : Oper}
theorem bindE {R : Result Next} {V : Value} {A B S : World → Prop} (h : ∃ w', R = .ok (.value V) w' ∧ A w' ∧ B w') (k : ∀ w', A w' → B w' → S w') : ∃ w', R = .ok (.value V) w' ∧ S w' := by
  obtain ⟨w', hr, ha, hb⟩ := h; exact ⟨w', hr, k w' ha hb⟩
theorem bindU {R : Result Next} {A B S : World → Prop} (h : ∃ w', R = .ok .skip w' ∧ A w' ∧ B w') (k : ∀ w', A w' → B w' → S w') : ∃ w', R = .ok .skip w' ∧ S w' := by
  obtain ⟨w', hr, ha, hb⟩ := h; exact ⟨w', hr, k w' ha hb⟩
theorem x_buildArr {T E : TypeId} {parts : List (Nat × Operand)} {vs : List (Nat × Value)} {len s m : Nat} {x y : Nat → Value} (ho : o.op = .build T parts.toArray) (hp : parts.map (fun p => (p.1, ev f p.2)) = vs) (hs : P.underlying T = some (.array len E))
    (hz0 : (P.info? E).map (·.size) = some s) (hz : ((P.info? T).bind (·.zero)).map (·.cells) = some (varr m x)) (hf : Instr.fill (fun i => some (i * s, s)) (varr m x) vs = some (varr m y)) : Runs P f o w (.agg (varr m y)) := by
  obtain ⟨z, hz1, hz2⟩ := Option.map_eq_some_iff.1 hz
  obtain ⟨i, hi, hz⟩ := Option.bind_eq_some_iff.1 hz1
  obtain ⟨i2, hi2, hz3⟩ := Option.map_eq_some_iff.1 hz0
  unfold Runs execOp
  simp only [ho, List.map_toArray, hp]
  unfold Instr.build
  simp only [zeroValue, typeInfo, underlying, sizeOf, Sem.run_bind, run_program, Result.andThen_ok, hi, hi2, hz, hs, Sem.run_pure, hz2, hz3, hf]
theorem x_sliceLo2 {T E : TypeId} {x lo : Operand} {b off len cap s : Nat} {k : IntKind} {j n' c' : Nat} {A : Option Addr} (ho : o.op = .slice T x (some lo) none none) (hx : ev f x = .slice (some ⟨b, off, none⟩) len cap) (hl : ev f lo = .int k j) (hu : P.underlying T = some (.slice E)) (hs : (P.info? E).map (·.size) = some s) (hj : j ≤ len)
    (hA : (if cap = j then some ⟨b, off, none⟩ else some ⟨b, off + j * s, none⟩ : Option Addr) = A) (hn : len - j = n') (hc : cap - j = c') : Runs P f o w (.slice A n' c') := by
  subst hA hn hc
  exact x_sliceLo ho hx hl hu hs hj
end
end Go.Proofs.Ytcdkiakknbmfjaa.Fx
