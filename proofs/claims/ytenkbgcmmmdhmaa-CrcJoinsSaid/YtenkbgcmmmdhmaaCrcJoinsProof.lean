/-
  The row of the law CrcJoins: it returns true for every input, and its arguments stay.
-/
import Derived.Test.YtenkbgcmmmdhmaaRows
import Derived.Test.YtenkbgcmmmdhmaaJoins
import Derived.WalkKit
import Derived.ProofKit
import Derived.OpenShut
import Derived.ShutString
import Derived.ChangeOld
import Derived.Below
namespace Go.Proofs.Ytenkbgcmmmdhmaa.crcJoins
open Go.ChangeShapes Go.WideShapes Go.ChangeAt Go.RowKit Go.Deep
open Go.ChangeMaps (open_string shut_string)
open Crc
set_option linter.unusedVariables false

theorem own : ownKnob Try.prog.godebug = none := by kernel_rfl
theorem laidOut : laidOutB Try.prog = true := by kernel_rfl

theorem spotless {w : World} {x : Addr} {n : Nat} {v : Nat → Value} (hn : 0 < n) (h : ∀ r, r < n → w.cell? (x.add r) = some (v r)) : ∃ b off, x = ⟨b, off, none⟩ := by
  obtain ⟨b, off, spot⟩ := x
  cases spot with
  | none => exact ⟨b, off, rfl⟩
  | some q =>
    have h0 := h 0 hn
    unfold World.cell? Addr.add at h0
    simp at h0
    split at h0 <;> simp at h0

theorem walk (a0 : Option Addr) (len0 cap0 : Nat) (w : World) (hm : len0 ≤ maxLen)
    (h : (a0 = none ∧ len0 = 0) ∨ ∃ (a : Addr) (A : Nat → Option Addr) (L C : Nat → Nat) (Z : Nat → List Int), a0 = some a ∧ len0 ≤ cap0 ∧
      ∀ r, r < cap0 → w.cell? (a.add r) = some (.slice (A r) (L r) (C r)) ∧ L r ≤ C r ∧ C r ≤ maxLen ∧ (Z r).length = C r ∧ (∀ n ∈ Z r, (Lit.int .u8 n).wf = true) ∧ (A r = none → C r = 0) ∧
        ∀ a', A r = some a' → ∀ c, c < C r → w.cell? (a'.add c) = some (.int .u8 ((Z r).getD c 0))) :
    Calls Try.prog 4 #[.slice a0 len0 cap0] w fun e w' => e = .returned (.bool true) ∧ Below w.heap.size w w' := by
  by_cases hle : len0 ≤ 40
  · have hb : ∃ bss : List (List UInt8), bss.length = len0 ∧ RdS w a0 bss := by
      rcases h with ⟨h1, h2⟩ | ⟨a, A, L, C, Z, h1, h2, h3⟩
      · exact ⟨[], by rw [h2]; rfl, fun k hk => absurd hk (by simp)⟩
      · have each : ∀ r, ∃ bs : List UInt8, r < len0 → bs.length = L r ∧ Rd w (A r) bs ∧ (A r = none → L r = 0 ∧ C r = 0) := by
          intro r
          by_cases hr : r < len0
          · obtain ⟨hc, hlc, hcm, hz, hw, hn, hs⟩ := h3 r (by omega)
            have hrow : IsRow .u8 w (A r) (L r) (C r) (Z r) := by
              cases hA : A r with
              | none =>
                have := hn hA
                exact .inl ⟨rfl, by omega, this, List.length_eq_zero_iff.1 (by omega)⟩
              | some a' => exact .inr ⟨a', rfl, hlc, hcm, hz, fun i hi => hs a' hA i (by omega), hw⟩
            obtain ⟨bs, e1, e2, e3⟩ := hrow.bytes
            exact ⟨bs, fun _ => ⟨e1, e2, e3⟩⟩
          · exact ⟨[], fun e => absurd e hr⟩
        refine ⟨(List.range len0).map fun r => Classical.choose (each r), by simp, ?_⟩
        intro k hk
        have hk' : k < len0 := by simpa using hk
        obtain ⟨b, off, rfl⟩ := spotless (v := fun r => .slice (A r) (L r) (C r)) (by omega) (fun r (hr : r < len0) => (h3 r (by omega)).1)
        obtain ⟨e1, e2, e3⟩ := Classical.choose_spec (each k) hk'
        refine ⟨b, off, A k, C k, h1, ?_, ?_, ?_⟩
        · have := (h3 k (by omega)).1
          rw [addr_add] at this
          rw [this]
          simp only [List.getElem_map, List.getElem_range]
          rw [e1]
        · simp only [List.getElem_map, List.getElem_range]; exact e2
        · simp only [List.getElem_map, List.getElem_range]; rw [e1]; exact e3
    obtain ⟨bss, hl, hr⟩ := hb
    exact joins_any a0 len0 cap0 bss w hle hl hr
  · exact joins_many a0 len0 cap0 w (by omega) hm

set_option maxRecDepth 100000 in
theorem lifted (os : Os) (started : os.Started) (H : Type) (enc : TypeId × Value → H) :
    ReturnsInHanded {} Try.checked os 4 .any (Rows.crcJoinsSpec.pre6 enc Try.prog Try.f4 Rows.crcJoinsRow.domain false) (Rows.crcJoinsSpec.post enc Try.prog Try.f4 false true false false) := by
  refine returnsInHanded_of_change (C := Try.checked) own started (by kernel_rfl) Try.func4
    (ChangeSpec.witness6 (enc := enc) (C := Try.checked) false ⟨#[], #[.slice none 0 0], []⟩ 8 (by kernel_rfl) (by kernel_rfl) (by kernel_rfl) (by kernel_rfl)) ?_
  intro W base args ds gs before hval0 hW hcnd _
  have hval : ∀ (j : Nat) t v, Try.f4.params[j]? = some t → args[j]? = some v → Value.okWide Try.prog W .any base t v := hval0
  have hW' := hW
  obtain ⟨p, q, hA0, hV, rfl, hfz, hnd⟩ := hW
  have hA : DataW.TrodAll enc Try.prog W 0 (fun _ => true) true Try.f4.params.toList args.toList ds p := hA0
  rw [Try.params4] at hA hval
  obtain ⟨v0, vs0, d0, ds0, p0, q0, hargs, rfl, rfl, h0, r0⟩ := trodAll_cons hA
  obtain ⟨rfl, rfl, rfl⟩ := trodAll_nil r0
  obtain rfl : args = #[v0] := by cases args; simp_all
  obtain ⟨rfl, rfl⟩ := trodVars_none hV
  obtain ⟨a0, len0, cap0, rfl⟩ := okWide_slice Try.underlying29 (hval 0 29 v0 rfl rfl)
  have k0 := h0
  have lt0 : ∀ x ∈ p0, x.block < W.heap.size := by obtain ⟨m, hm⟩ := k0; exact DataW.trod_lt m _ _ _ hm
  have w0 : len0 ≤ maxLen ∧ ((a0 = none ∧ len0 = 0) ∨ ∃ (a : Addr) (A : Nat → Option Addr) (L C : Nat → Nat) (Z : Nat → List Int), a0 = some a ∧ len0 ≤ cap0 ∧
      ∀ r, r < cap0 → W.cell? (a.add r) = some (.slice (A r) (L r) (C r)) ∧ L r ≤ C r ∧ C r ≤ maxLen ∧ (Z r).length = C r ∧ (∀ n ∈ Z r, (Lit.int .u8 n).wf = true) ∧ (A r = none → C r = 0) ∧
        ∀ a', A r = some a' → ∀ c, c < C r → W.cell? (a'.add c) = some (.int .u8 ((Z r).getD c 0))) := by
    obtain ⟨fuel, hf⟩ := h0
    rcases open_int_rows Try.underlying29 Try.underlying22 Try.underlying5 (by kernel_rfl) (by kernel_rfl) hf with ⟨hcs, _⟩ | ⟨a, l, c, A, L, C, Z, hcs, _, hl, hm, _, hz⟩
    · simp [Value.cells] at hcs
      obtain ⟨rfl, rfl, rfl⟩ := hcs
      exact ⟨by unfold maxLen; omega, .inl ⟨rfl, rfl⟩⟩
    · simp [Value.cells] at hcs
      obtain ⟨rfl, rfl, rfl⟩ := hcs
      refine ⟨by omega, .inr ⟨a, A, L, C, Z, rfl, hl, fun r hr => ?_⟩⟩
      obtain ⟨y1, y2, y3, y4, y5, y6, y7⟩ := hz r hr
      exact ⟨y1, y2, y3, y4, y5, y6, fun a' e => (y7 a' e).2⟩
  clear hA0 hval0
  refine (walk a0 len0 cap0 W w0.1 w0.2).mono fun e W' ⟨he, bel⟩ => ?_
  subst he
  exact ⟨_, rfl, _, _, _, [], _, [], hW', trodAll_mk1 (shut_bool Try.underlying4 _), (trodAll_cons_mk (Below.trod laidOut (by kernel_rfl) (of_decide_eq_true (by kernel_rfl)) k0 bel lt0) trodAll_mk0), rfl, bel.frame _, fun h => by cases h⟩

theorem over : Rows.crcJoinsRow.holds Try.pinned (OpenSpec.ofChange Rows.crcJoinsSpec) :=
  OpenClaim.holds_of_wide 4 Try.f4 rfl rfl rfl rfl rfl rfl rfl ⟨rfl, rfl, rfl, rfl, rfl⟩ rfl rfl rfl rfl rfl (by kernel_rfl) Try.func4 (by kernel_rfl)
    (of_decide_eq_true (by kernel_rfl)) (by unfold Func.isWrapper; first | (rw [if_pos (by decide +kernel)]; kernel_rfl) | (rw [if_neg (by decide +kernel)]; exact ⟨rfl, rfl⟩))
    (fun os started H enc _ => lifted os started H enc)

theorem proved : Rows.CrcJoinsSaid := over
end Go.Proofs.Ytenkbgcmmmdhmaa.crcJoins
