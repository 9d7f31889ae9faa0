/-
  Arguments that are flat structs of integers: what they look like.
-/
import Derived.Test.YtcdkiakknbmfjaaBase
import Derived.OpenShut
namespace Go.Proofs.Ytcdkiakknbmfjaa
open Go.RowKit Go.WideShapes
theorem cell_int {P : Program} {w : World} {r : Reach} {base : Nat} {u : TypeId} {k : IntKind} {v : Value} (hu : P.underlying u = some (.int k)) (h : Cell.okWide P w r base u v) : ∃ n, v = .int k n ∧ k.has n := by
  simp only [hu, Cell.okWide] at h
  cases v <;> simp_all [Cell.ok]
theorem okWide_flat {P : Program} {w : World} {r : Reach} {base : Nat} {t u : TypeId} {fs : Array Field} {k : IntKind} {n : Nat} {v : Value} (ht : P.underlying t = some (.struct fs)) (hct : P.cellTypes P.depth t = some (List.replicate n u)) (hn : P.cellsOf t = n)
    (hu : P.underlying u = some (.int k)) (h : Value.okWide P w r base t v) : ∃ x : Nat → Int, v = .agg (iarr k n x) ∧ ∀ p, p < n → k.has (x p) := by
  unfold Value.okWide at h
  rw [ht] at h
  obtain ⟨cs, rfl, hs, ts, hts, _, hc⟩ := h
  rw [hct] at hts
  obtain rfl := Option.some.inj hts
  rw [hn] at hs
  have each : ∀ p, ∃ m : Int, p < n → cs[p]? = some (.int k m) ∧ k.has m := by
    intro p
    by_cases hp : p < n
    · obtain ⟨u', hu', hk⟩ := hc p cs[p] (by simp [hs, hp])
      rw [List.length_replicate, Nat.mod_eq_of_lt hp, List.getElem?_replicate, if_pos hp] at hu'
      obtain rfl := Option.some.inj hu'
      obtain ⟨m, hm, hh⟩ := cell_int hu hk
      exact ⟨m, fun _ => ⟨by rw [Array.getElem?_eq_getElem (by omega), hm], hh⟩⟩
    · exact ⟨0, fun h => absurd h hp⟩
  refine ⟨fun p => Classical.choose (each p), ?_, fun p hp => (Classical.choose_spec (each p) hp).2⟩
  congr 1
  apply Array.ext_getElem?
  intro p
  by_cases hp : p < n
  · rw [iarr_get _ _ _ p hp]; exact (Classical.choose_spec (each p) hp).1
  · rw [Array.getElem?_eq_none (by omega), Array.getElem?_eq_none (by rw [iarr_size]; omega)]
theorem has_i64 {n : Int} (h : IntKind.i64.has n) : -9223372036854775808 ≤ n ∧ n ≤ 9223372036854775807 := by
  obtain ⟨a, b⟩ := h
  exact ⟨a, b⟩
theorem wf_i64 {n : Int} (h : (Lit.int .i64 n).wf = true) : -9223372036854775808 ≤ n ∧ n ≤ 9223372036854775807 := by
  simpa [Lit.wf, IntKind.min, IntKind.max, IntKind.bits, IntKind.signed] using h
end Go.Proofs.Ytcdkiakknbmfjaa
