/-
  Arguments that are slices of flat structs (integers, arrays and structs of them): what they look like.
-/
import Derived.Test.YtcdkiakknbmfjaaOpen4
import Derived.Test.YtcdkiakknbmfjaaFxa
namespace Go.Proofs.Ytcdkiakknbmfjaa
open Go.RowKit Go.WideShapes Go.ChangeShapes Go.Deep
/-- the kinds of a flat type's cells -/
def flatKs (P : Program) : Nat → TypeId → Option (List IntKind)
  | 0, _ => none
  | d + 1, t => match P.underlying t with
    | some (.int k) => some [k]
    | some (.array n e) => (flatKs P d e).bind fun ks => if P.cellsOf e = ks.length ∧ P.cellsOf t = n * ks.length then some (List.replicate n ks).flatten else none
    | some (.struct fs) => (fs.toList.foldlM (fun l f => (flatKs P d f.type).bind fun ks => if f.offset = l.length ∧ P.cellsOf f.type = ks.length then some (l ++ ks) else none) []).bind fun l => if P.cellsOf t = l.length then some l else none
    | _ => none
def FlatC (ks : List IntKind) (cs : List Value) : Prop := cs.length = ks.length ∧ ∀ (j : Nat) (k : IntKind), ks[j]? = some k → ∃ n, cs[j]? = some (Value.int k n) ∧ (Lit.int k n).wf = true
theorem flat_rep {ks : List IntKind} {k : IntKind} : ∀ (n j : Nat), (List.replicate n ks).flatten[j]? = some k → ks[j % ks.length]? = some k ∧ j / ks.length < n
  | 0, j, h => by simp at h
  | n + 1, j, h => by
    rw [List.replicate_succ, List.flatten_cons] at h
    by_cases hj : j < ks.length
    · rw [List.getElem?_append_left hj] at h
      rw [Nat.mod_eq_of_lt hj, Nat.div_eq_of_lt hj]; exact ⟨h, by omega⟩
    · rw [List.getElem?_append_right (by omega)] at h
      have hs : 0 < ks.length := by
        rcases Nat.eq_zero_or_pos ks.length with e | e
        · obtain ⟨h1, _⟩ := flat_rep n _ h
          have := (List.getElem?_eq_some_iff.1 h1).1; omega
        · exact e
      obtain ⟨h1, h2⟩ := flat_rep n _ h
      rw [Nat.mod_eq_sub_mod (by omega), Nat.div_eq_sub_div hs (by omega)]
      exact ⟨h1, by omega⟩
section
variable {H : Type} {enc : TypeId × Value → H} {P : Program} {w : World} {base : Nat} {spare : Nat → Bool} {held : Bool}
theorem flat_part {ks : List IntKind} {cs : List Value} {o s j : Nat} {k : IntKind} (h : FlatC ks ((cs.drop o).take s)) (hs : s = ks.length) (hk : ks[j]? = some k) : ∃ n, cs[o + j]? = some (Value.int k n) ∧ (Lit.int k n).wf = true := by
  obtain ⟨n, h1, h2⟩ := h.2 j k hk
  have hj := (List.getElem?_eq_some_iff.1 hk).1
  rw [List.getElem?_take_of_lt (by omega), List.getElem?_drop] at h1
  exact ⟨n, h1, h2⟩
theorem flatKs_ok : ∀ (d : Nat) (t : TypeId) (ks : List IntKind), flatKs P d t = some ks → ∀ (fuel : Nat) (cs : List Value) (x : DataW H × List MemPlace), DataW.trod enc P w base spare held fuel t cs = some x → FlatC ks cs
  | 0, _, _, h => by simp [flatKs] at h
  | d + 1, t, ks, h => by
    intro fuel cs x hx
    unfold flatKs at h
    split at h
    · rename_i k hu
      simp only [Option.some.injEq] at h; subst h
      obtain ⟨n, rfl, _, hw⟩ := DataW.trod_int hu hx
      refine ⟨rfl, fun j k' hk => ?_⟩
      match j, hk with
      | 0, hk => simp at hk; subst hk; exact ⟨n, rfl, hw⟩
      | j + 1, hk => simp at hk
    · rename_i n e hu
      obtain ⟨ks', hks, h⟩ := Option.bind_eq_some_iff.1 h
      split at h
      · rename_i hc
        simp only [Option.some.injEq] at h; subst h
        obtain ⟨xs, m, _, _, hl, hlen, hel⟩ := DataW.trod_array hu hx
        refine ⟨by rw [hl, hc.2]; simp, fun j k hk => ?_⟩
        obtain ⟨h1, h2⟩ := flat_rep n j hk
        have hi := hel (j / ks'.length) h2
        rw [List.getElem?_eq_getElem (by omega), hc.1] at hi
        have := flat_part (flatKs_ok d e ks' hks _ _ _ hi) rfl h1
        rw [Nat.mul_comm, Nat.div_add_mod] at this
        exact this
      · cases h
    · rename_i fs hu
      obtain ⟨l, hl, h⟩ := Option.bind_eq_some_iff.1 h
      split at h
      · rename_i hc
        simp only [Option.some.injEq] at h; subst h
        obtain ⟨xs, m, _, _, hlc, hlen, hf⟩ := DataW.trod_struct hu hx
        refine ⟨by rw [hlc, hc], ?_⟩
        have hf' : ∀ f, f ∈ fs.toList → ∃ y, DataW.trod enc P w base spare held m f.type ((cs.drop f.offset).take (P.cellsOf f.type)) = some y := by
          intro f hfm
          obtain ⟨i, hi, e⟩ := List.mem_iff_getElem.1 hfm
          have hi' : i < fs.size := by simpa using hi
          have h1 : fs[i]? = some f := by rw [Array.getElem?_eq_getElem hi']; simpa using e
          have := hf i f h1
          rw [List.getElem?_eq_getElem (by rw [hlen]; exact hi')] at this
          exact ⟨_, this⟩
        have key : ∀ (L : List Field) (acc : List IntKind), (∀ f, f ∈ L → ∃ y, DataW.trod enc P w base spare held m f.type ((cs.drop f.offset).take (P.cellsOf f.type)) = some y) → (∀ (j : Nat) (k : IntKind), acc[j]? = some k → ∃ n, cs[j]? = some (Value.int k n) ∧ (Lit.int k n).wf = true) → ∀ l, L.foldlM (fun l f => (flatKs P d f.type).bind fun ks => if f.offset = l.length ∧ P.cellsOf f.type = ks.length then some (l ++ ks) else none) acc = some l → ∀ (j : Nat) (k : IntKind), l[j]? = some k → ∃ n, cs[j]? = some (Value.int k n) ∧ (Lit.int k n).wf = true := by
          intro L
          induction L with
          | nil => intro acc _ ha l hl; simp at hl; subst hl; exact ha
          | cons f L ih =>
            intro acc hL ha l hl
            rw [List.foldlM_cons] at hl
            obtain ⟨l1, h1, h2⟩ := Option.bind_eq_some_iff.1 hl
            obtain ⟨kf, hkf, h3⟩ := Option.bind_eq_some_iff.1 h1
            split at h3
            · rename_i hcc
              simp only [Option.some.injEq] at h3; subst h3
              refine ih (acc ++ kf) (fun g hg => hL g (List.mem_cons_of_mem _ hg)) (fun j k hk => ?_) l h2
              by_cases hj : j < acc.length
              · rw [List.getElem?_append_left hj] at hk; exact ha j k hk
              · rw [List.getElem?_append_right (by omega)] at hk
                obtain ⟨y, hy⟩ := hL f (List.mem_cons_self ..)
                have := flat_part (flatKs_ok d f.type kf hkf _ _ _ hy) hcc.2 hk
                rw [hcc.1, show acc.length + (j - acc.length) = j by omega] at this
                exact this
            · cases h3
        exact key fs.toList [] hf' (fun j k hk => by simp at hk) l hl
      · cases h
    · cases h
end
/-- the cells of a row of flat elements -/
def flatX (ks : List IntKind) (X : Nat → Nat → Int) : Nat → Value := fun p => .int (ks.getD (p % ks.length) .i64) (X (p / ks.length) (p % ks.length))
theorem open_flat {H : Type} {enc : TypeId × Value → H} {P : Program} {w : World} {t e : TypeId} {ks : List IntKind} {a : Option Addr} {len cap D : Nat} {d : DataW H} {ps : List MemPlace}
    (ht : P.underlying t = some (.slice e)) (hk : flatKs P D e = some ks) (ce : P.cellsOf e = ks.length) (hs : 0 < ks.length)
    (h : DataW.Trod enc P w 0 (fun _ => true) true t (.slice a len cap) d ps) : len ≤ maxLen ∧ len ≤ cap ∧ ∃ X : Nat → Nat → Int, (∀ i, i < len → ∀ (j : Nat) (k : IntKind), ks[j]? = some k → (Lit.int k (X i j)).wf = true) ∧ (0 < len → ∃ b off, a = some ⟨b, off, none⟩ ∧ Fx.Cel w b off (ks.length * len) (flatX ks X)) := by
  obtain ⟨fuel, hf⟩ := h
  rcases open_slice ht hf with ⟨hcs, _⟩ | ⟨a', l', c', m, n, D, Pl, hcs, _, hl, hm, hmm, _, hx⟩
  · simp [Value.cells] at hcs
    obtain ⟨rfl, rfl, rfl⟩ := hcs
    exact ⟨by unfold maxLen; omega, Nat.le_refl _, fun _ _ => 0, fun i hi => absurd hi (by omega), fun h => absurd h (by omega)⟩
  · simp [Value.cells] at hcs
    obtain ⟨rfl, rfl, rfl⟩ := hcs
    have each : ∀ i j : Nat, ∃ q : Int, i < len → ∀ k, ks[j]? = some k → w.cell? (a'.add (i * ks.length + j)) = some (Value.int k q) ∧ (Lit.int k q).wf = true := by
      intro i j
      by_cases hi : i < len ∧ j < ks.length
      · obtain ⟨cs', g1, g2⟩ := hx i (by rw [hmm]; simp; omega)
        rw [ce] at g1
        obtain ⟨_, hlen, hcell⟩ := World.cells?_some g1
        obtain ⟨q, h1, h2⟩ := (flatKs_ok _ _ _ hk _ _ _ g2).2 j _ (List.getElem?_eq_getElem hi.2)
        refine ⟨q, fun _ k hkj => ?_⟩
        rw [List.getElem?_eq_getElem hi.2, Option.some.injEq] at hkj
        subst hkj
        have q0 := hcell j (by omega)
        rw [add_add] at q0
        exact ⟨by rw [← h1]; simpa using q0, h2⟩
      · refine ⟨0, fun h1 k h2 => absurd ⟨h1, (List.getElem?_eq_some_iff.1 h2).1⟩ hi⟩
    refine ⟨by omega, hl, fun i j => Classical.choose (each i j), fun i hi j k hkj => (Classical.choose_spec (each i j) hi k hkj).2, fun h0 => ?_⟩
    have e0 : a'.add (0 * ks.length + 0) = a' := by unfold Addr.add; simp
    obtain ⟨q00, h00⟩ := each 0 0
    have h00 := (h00 h0 _ (List.getElem?_eq_getElem hs)).1
    rw [e0] at h00
    obtain ⟨b, off, e1⟩ := spotless1 h00
    refine ⟨b, off, by rw [e1], fun p hp => ?_⟩
    have hj : p % ks.length < ks.length := Nat.mod_lt _ hs
    have hi : p / ks.length < len := Nat.div_lt_of_lt_mul hp
    have := (Classical.choose_spec (each (p / ks.length) (p % ks.length)) hi _ (List.getElem?_eq_getElem hj)).1
    have ea : a'.add (p / ks.length * ks.length + p % ks.length) = ⟨b, off + p, none⟩ := by rw [e1, addr_add, Nat.mul_comm, Nat.div_add_mod]
    refine (congrArg w.cell? ea).symm.trans (this.trans ?_)
    exact congrArg (fun kk => some (Value.int kk _)) (show ks[p % ks.length] = ks.getD (p % ks.length) .i64 by rw [List.getD_eq_getElem?_getD, List.getElem?_eq_getElem hj]; rfl)
end Go.Proofs.Ytcdkiakknbmfjaa
