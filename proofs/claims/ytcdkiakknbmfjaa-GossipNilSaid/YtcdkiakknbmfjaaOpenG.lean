/-
  Arguments that are arrays of integers: what they look like.
-/
import Derived.Test.YtcdkiakknbmfjaaOpenF
namespace Go.Proofs.Ytcdkiakknbmfjaa
open Go.RowKit Go.WideShapes Go.ChangeShapes Go.Deep
theorem okWide_flatA {P : Program} {w : World} {r : Reach} {base : Nat} {t u e : TypeId} {k : IntKind} {n len : Nat} {v : Value} (ht : P.underlying t = some (.array len e)) (hct : P.cellTypes P.depth t = some (List.replicate n u)) (hn : P.cellsOf t = n)
    (hu : P.underlying u = some (.int k)) (h : Value.okWide P w r base t v) : ∃ x : Nat → Int, v = .agg (Fx.varr n (Fx.rv k x)) ∧ ∀ p, p < n → k.has (x p) := by
  unfold Value.okWide at h
  rw [ht] at h
  obtain ⟨cs, rfl, hs, ts, hts, _, hc⟩ := h
  rw [hct] at hts
  obtain rfl := Option.some.inj hts
  rw [hn] at hs
  have each : ∀ p, ∃ m : Int, p < n → cs[p]? = some (.int k m) ∧ k.has m := by
    intro p
    by_cases hp : p < n
    · obtain ⟨u', hu', hk⟩ := hc p cs[p] (by simp [hs, hp])
      rw [List.length_replicate, Nat.mod_eq_of_lt hp, List.getElem?_replicate, if_pos hp] at hu'
      obtain rfl := Option.some.inj hu'
      obtain ⟨m, hm, hh⟩ := cell_int hu hk
      exact ⟨m, fun _ => ⟨by rw [Array.getElem?_eq_getElem (by omega), hm], hh⟩⟩
    · exact ⟨0, fun h => absurd h hp⟩
  refine ⟨fun p => Classical.choose (each p), ?_, fun p hp => (Classical.choose_spec (each p) hp).2⟩
  congr 1
  apply Array.ext_getElem?
  intro p
  by_cases hp : p < n
  · rw [Fx.varr_get _ hp]; exact (Classical.choose_spec (each p) hp).1
  · rw [Array.getElem?_eq_none (by omega), Array.getElem?_eq_none (by rw [Fx.varr_size]; omega)]
end Go.Proofs.Ytcdkiakknbmfjaa
