/-
  What the proof of the law rests on, part 5: walks of functions, and plain laws; each says its conditions itself.
-/
import Derived.ChangeArms
import Derived.Test.YtolmkjepieoloaaZF4
namespace Go.Proofs.Ytolmkjepieoloaa
open Go.RowKit Go.WideShapes Go.ChangeShapes Go.Deep
def flatKb (P : Program) : Nat → TypeId → Option (List (Option IntKind))
  | 0, _ => none
  | d + 1, t => match P.underlying t with
    | some (.int k) => some [some k]
    | some .bool => some [none]
    | some (.array n e) => (flatKb P d e).bind fun ks => if P.cellsOf e = ks.length ∧ P.cellsOf t = n * ks.length then some (List.replicate n ks).flatten else none
    | some (.struct fs) => (fs.toList.foldlM (fun l f => (flatKb P d f.type).bind fun ks => if f.offset = l.length ∧ P.cellsOf f.type = ks.length then some (l ++ ks) else none) []).bind fun l => if P.cellsOf t = l.length then some l else none
    | _ => none
def OkV (k : Option IntKind) (v : Value) : Prop := match k with | some k => ∃ n, v = .int k n ∧ (Lit.int k n).wf = true | none => ∃ b, v = .bool b
def FlatV (ks : List (Option IntKind)) (cs : List Value) : Prop := cs.length = ks.length ∧ ∀ (j : Nat) (k : Option IntKind), ks[j]? = some k → ∃ v, cs[j]? = some v ∧ OkV k v
theorem flatb_rep {ks : List (Option IntKind)} {k : Option IntKind} : ∀ (n j : Nat), (List.replicate n ks).flatten[j]? = some k → ks[j % ks.length]? = some k ∧ j / ks.length < n
  | 0, j, h => by simp at h
  | n + 1, j, h => by
    rw [List.replicate_succ, List.flatten_cons] at h
    by_cases hj : j < ks.length
    · rw [List.getElem?_append_left hj] at h
      rw [Nat.mod_eq_of_lt hj, Nat.div_eq_of_lt hj]; exact ⟨h, by omega⟩
    · rw [List.getElem?_append_right (by omega)] at h
      have hs : 0 < ks.length := by
        rcases Nat.eq_zero_or_pos ks.length with e | e
        · obtain ⟨h1, _⟩ := flatb_rep n _ h
          have := (List.getElem?_eq_some_iff.1 h1).1; omega
        · exact e
      obtain ⟨h1, h2⟩ := flatb_rep n _ h
      rw [Nat.mod_eq_sub_mod (by omega), Nat.div_eq_sub_div hs (by omega)]
      exact ⟨h1, by omega⟩
section
variable {H : Type} {enc : TypeId × Value → H} {P : Program} {w : World} {base : Nat} {spare : Nat → Bool} {held : Bool}
theorem flatb_part {ks : List (Option IntKind)} {cs : List Value} {o s j : Nat} {k : Option IntKind} (h : FlatV ks ((cs.drop o).take s)) (hs : s = ks.length) (hk : ks[j]? = some k) : ∃ v, cs[o + j]? = some v ∧ OkV k v := by
  obtain ⟨n, h1, h2⟩ := h.2 j k hk
  have hj := (List.getElem?_eq_some_iff.1 hk).1
  rw [List.getElem?_take_of_lt (by omega), List.getElem?_drop] at h1
  exact ⟨n, h1, h2⟩
theorem flatKb_ok : ∀ (d : Nat) (t : TypeId) (ks : List (Option IntKind)), flatKb P d t = some ks → ∀ (fuel : Nat) (cs : List Value) (x : DataW H × List MemPlace), DataW.trod enc P w base spare held fuel t cs = some x → FlatV ks cs
  | 0, _, _, h => by simp [flatKb] at h
  | d + 1, t, ks, h => by
    intro fuel cs x hx
    unfold flatKb at h
    split at h
    · rename_i k hu
      simp only [Option.some.injEq] at h; subst h
      obtain ⟨n, rfl, _, hw⟩ := DataW.trod_int hu hx
      refine ⟨rfl, fun j k' hk => ?_⟩
      match j, hk with
      | 0, hk => simp at hk; subst hk; exact ⟨_, rfl, n, rfl, hw⟩
      | j + 1, hk => simp at hk
    · rename_i hu
      simp only [Option.some.injEq] at h; subst h
      obtain ⟨b, rfl, _⟩ := DataW.trod_bool hu hx
      refine ⟨rfl, fun j k' hk => ?_⟩
      match j, hk with
      | 0, hk => simp at hk; subst hk; exact ⟨_, rfl, b, rfl⟩
      | j + 1, hk => simp at hk
    · rename_i n e hu
      obtain ⟨ks', hks, h⟩ := Option.bind_eq_some_iff.1 h
      split at h
      · rename_i hc
        simp only [Option.some.injEq] at h; subst h
        obtain ⟨xs, m, _, _, hl, hlen, hel⟩ := DataW.trod_array hu hx
        refine ⟨by rw [hl, hc.2]; simp, fun j k hk => ?_⟩
        obtain ⟨h1, h2⟩ := flatb_rep n j hk
        have hi := hel (j / ks'.length) h2
        rw [List.getElem?_eq_getElem (by omega), hc.1] at hi
        have := flatb_part (flatKb_ok d e ks' hks _ _ _ hi) rfl h1
        rw [Nat.mul_comm, Nat.div_add_mod] at this
        exact this
      · cases h
    · rename_i fs hu
      obtain ⟨l, hl, h⟩ := Option.bind_eq_some_iff.1 h
      split at h
      · rename_i hc
        simp only [Option.some.injEq] at h; subst h
        obtain ⟨xs, m, _, _, hlc, hlen, hf⟩ := DataW.trod_struct hu hx
        refine ⟨by rw [hlc, hc], ?_⟩
        have hf' : ∀ f, f ∈ fs.toList → ∃ y, DataW.trod enc P w base spare held m f.type ((cs.drop f.offset).take (P.cellsOf f.type)) = some y := by
          intro f hfm
          obtain ⟨i, hi, e⟩ := List.mem_iff_getElem.1 hfm
          have hi' : i < fs.size := by simpa using hi
          have h1 : fs[i]? = some f := by rw [Array.getElem?_eq_getElem hi']; simpa using e
          have := hf i f h1
          rw [List.getElem?_eq_getElem (by rw [hlen]; exact hi')] at this
          exact ⟨_, this⟩
        have key : ∀ (L : List Field) (acc : List (Option IntKind)), (∀ f, f ∈ L → ∃ y, DataW.trod enc P w base spare held m f.type ((cs.drop f.offset).take (P.cellsOf f.type)) = some y) → (∀ (j : Nat) (k : Option IntKind), acc[j]? = some k → ∃ v, cs[j]? = some v ∧ OkV k v) → ∀ l, L.foldlM (fun l f => (flatKb P d f.type).bind fun ks => if f.offset = l.length ∧ P.cellsOf f.type = ks.length then some (l ++ ks) else none) acc = some l → ∀ (j : Nat) (k : Option IntKind), l[j]? = some k → ∃ v, cs[j]? = some v ∧ OkV k v := by
          intro L
          induction L with
          | nil => intro acc _ ha l hl; simp at hl; subst hl; exact ha
          | cons f L ih =>
            intro acc hL ha l hl
            rw [List.foldlM_cons] at hl
            obtain ⟨l1, h1, h2⟩ := Option.bind_eq_some_iff.1 hl
            obtain ⟨kf, hkf, h3⟩ := Option.bind_eq_some_iff.1 h1
            split at h3
            · rename_i hcc
              simp only [Option.some.injEq] at h3; subst h3
              refine ih (acc ++ kf) (fun g hg => hL g (List.mem_cons_of_mem _ hg)) (fun j k hk => ?_) l h2
              by_cases hj : j < acc.length
              · rw [List.getElem?_append_left hj] at hk; exact ha j k hk
              · rw [List.getElem?_append_right (by omega)] at hk
                obtain ⟨y, hy⟩ := hL f (List.mem_cons_self ..)
                have := flatb_part (flatKb_ok d f.type kf hkf _ _ _ hy) hcc.2 hk
                rw [hcc.1, show acc.length + (j - acc.length) = j by omega] at this
                exact this
            · cases h3
        exact key fs.toList [] hf' (fun j k hk => by simp at hk) l hl
      · cases h
    · cases h
end
section
variable {H : Type} {enc : TypeId × Value → H} {P : Program} {w : World} {base : Nat} {spare : Nat → Bool} {held : Bool}
theorem open_rows {t e : TypeId} {ks : List (Option IntKind)} {fuel D : Nat} {cs : List Value} {x : DataW H × List MemPlace} (ht : P.underlying t = some (.slice e)) (hk : flatKb P D e = some ks) (ce : P.cellsOf e = ks.length) (hs : 0 < ks.length)
    (h : DataW.trod enc P w base spare held fuel t cs = some x) : ∃ a len cap, cs = [.slice a len cap] ∧ len ≤ maxLen ∧ len ≤ cap ∧ ∃ X : Nat → Nat → Value, (∀ i, i < len → ∀ (j : Nat) (k : Option IntKind), ks[j]? = some k → OkV k (X i j)) ∧ Fx.Arr w a len ks.length (Fx.flat ks.length X) := by
  rcases open_slice ht h with ⟨rfl, _⟩ | ⟨a', len, cap, m, n, D', Pl, rfl, _, hl, hm, hmm, _, hx⟩
  · exact ⟨none, 0, 0, rfl, by unfold maxLen; omega, Nat.le_refl _, fun _ _ => undef, fun i hi => absurd hi (by omega), fun h => absurd h (by omega)⟩
  · have hlm : len ≤ m := by rw [hmm]; split <;> omega
    have each : ∀ i j : Nat, ∃ q : Value, i < len → ∀ k, ks[j]? = some k → w.cell? (a'.add (i * ks.length + j)) = some q ∧ OkV k q := by
      intro i j
      by_cases hi : i < len ∧ j < ks.length
      · obtain ⟨cs', g1, g2⟩ := hx i (by omega)
        rw [ce] at g1
        obtain ⟨_, hlen, hcell⟩ := World.cells?_some g1
        obtain ⟨q, h1, h2⟩ := (flatKb_ok _ _ _ hk _ _ _ g2).2 j _ (List.getElem?_eq_getElem hi.2)
        refine ⟨q, fun _ k hkj => ?_⟩
        rw [List.getElem?_eq_getElem hi.2, Option.some.injEq] at hkj
        subst hkj
        have q0 := hcell j (by omega)
        rw [add_add] at q0
        exact ⟨by rw [← h1]; simpa using q0, h2⟩
      · refine ⟨undef, fun h1 k h2 => absurd ⟨h1, (List.getElem?_eq_some_iff.1 h2).1⟩ hi⟩
    refine ⟨some a', len, cap, rfl, by omega, hl, fun i j => Classical.choose (each i j), fun i hi j k hkj => (Classical.choose_spec (each i j) hi k hkj).2, fun h0 => ?_⟩
    have e0 : a'.add (0 * ks.length + 0) = a' := by unfold Addr.add; simp
    obtain ⟨q00, h00⟩ := each 0 0
    have hk0 := List.getElem?_eq_getElem hs
    have h00' := (h00 h0 _ hk0)
    have h01 := h00'.1
    rw [e0] at h01
    have e1 : ∃ b off, a' = ⟨b, off, none⟩ := by
      have h02 := h00'.2
      unfold OkV at h02
      split at h02
      · obtain ⟨nn, rfl, _⟩ := h02; exact spotless1 h01
      · obtain ⟨bb, rfl⟩ := h02
        unfold World.cell? at h01
        cases a' with
        | mk b off sp =>
          cases sp with
          | none => exact ⟨b, off, rfl⟩
          | some s => simp at h01; split at h01 <;> simp_all
    obtain ⟨b, off, e1⟩ := e1
    refine ⟨b, off, by rw [e1], fun p hp => ?_⟩
    have hj : p % ks.length < ks.length := Nat.mod_lt _ hs
    have hi : p / ks.length < len := Nat.div_lt_of_lt_mul (by rw [Nat.mul_comm]; exact hp)
    have := (Classical.choose_spec (each (p / ks.length) (p % ks.length)) hi _ (List.getElem?_eq_getElem hj)).1
    have ea : a'.add (p / ks.length * ks.length + p % ks.length) = ⟨b, off + p, none⟩ := by rw [e1, addr_add, Nat.mul_comm, Nat.div_add_mod]
    exact (congrArg w.cell? ea).symm.trans this
end
end Go.Proofs.Ytolmkjepieoloaa
namespace Go.Proofs.Ytolmkjepieoloaa
open Go.RowKit Go.WideShapes Go.ChangeShapes Go.Deep Rt
def boolOf : Value → Bool | .bool b => b | _ => false
theorem OkV.int {k : IntKind} {v : Value} (h : OkV (some k) v) : v = .int k (intOf v) ∧ (Lit.int k (intOf v)).wf = true := by
  obtain ⟨n, rfl, hw⟩ := h; exact ⟨rfl, hw⟩
theorem OkV.bool {v : Value} (h : OkV none v) : v = .bool (boolOf v) := by
  obtain ⟨b, rfl⟩ := h; rfl
theorem wf_u8 {n : Int} (h : (Lit.int .u8 n).wf = true) : 0 ≤ n ∧ n ≤ 255 := by simp [Lit.wf, IntKind.min, IntKind.max, IntKind.bits, IntKind.signed] at h; omega
theorem wf_u16 {n : Int} (h : (Lit.int .u16 n).wf = true) : 0 ≤ n ∧ n ≤ 65535 := by simp [Lit.wf, IntKind.min, IntKind.max, IntKind.bits, IntKind.signed] at h; omega
theorem nat_u8 {n : Int} (h : (Lit.int .u8 n).wf = true) : ∃ m : Nat, n = (m : Int) ∧ m ≤ 255 := by
  have := wf_u8 h; exact ⟨n.toNat, by omega, by omega⟩
theorem nat_u16 {n : Int} (h : (Lit.int .u16 n).wf = true) : ∃ m : Nat, n = (m : Int) ∧ m ≤ 65535 := by
  have := wf_u16 h; exact ⟨n.toNat, by omega, by omega⟩
theorem Fx.Arr.congr {w : World} {a : Option Addr} {n s : Nat} {x y : Nat → Value} (h : Fx.Arr w a n s x) (e : ∀ p, p < n * s → x p = y p) : Fx.Arr w a n s y := fun h0 => by
  obtain ⟨b, off, ea, hc⟩ := h h0
  exact ⟨b, off, ea, fun i hi => by rw [← e i hi]; exact hc i hi⟩
def actKs : List (Option IntKind) := [some .u8, none, some .u8, some .u8, some .u8, some .u8, some .u16, some .u8, some .u8]
def actOf (X : Nat → Value) : ActM := ⟨(intOf (X 0)).toNat, boolOf (X 1), (intOf (X 2)).toNat, (intOf (X 3)).toNat, (intOf (X 4)).toNat, (intOf (X 5)).toNat, (intOf (X 6)).toNat, (intOf (X 7)).toNat, (intOf (X 8)).toNat⟩
theorem actOf_ok {X : Nat → Value} (h : ∀ (j : Nat) (k : Option IntKind), actKs[j]? = some k → OkV k (X j)) : ActOk (actOf X) ∧ ∀ j, j < 9 → X j = actY (actOf X) j := by
  have u8 : ∀ j, actKs[j]? = some (some .u8) → X j = .int .u8 ((intOf (X j)).toNat : Int) ∧ (intOf (X j)).toNat ≤ 255 := fun j hj => by
    obtain ⟨e, hw⟩ := (h j _ hj).int
    have := wf_u8 hw
    exact ⟨by rw [Int.toNat_of_nonneg this.1]; exact e, by omega⟩
  have h6 : X 6 = .int .u16 ((intOf (X 6)).toNat : Int) ∧ (intOf (X 6)).toNat ≤ 65535 := by
    obtain ⟨e, hw⟩ := (h 6 (some .u16) rfl).int
    have := wf_u16 hw
    exact ⟨by rw [Int.toNat_of_nonneg this.1]; exact e, by omega⟩
  refine ⟨⟨(u8 0 rfl).2, (u8 2 rfl).2, (u8 3 rfl).2, (u8 4 rfl).2, (u8 5 rfl).2, h6.2, (u8 7 rfl).2, (u8 8 rfl).2⟩, fun j hj => ?_⟩
  rcases j with _|_|_|_|_|_|_|_|_|j
  · exact (u8 0 rfl).1
  · exact (h 1 none rfl).bool
  · exact (u8 2 rfl).1
  · exact (u8 3 rfl).1
  · exact (u8 4 rfl).1
  · exact (u8 5 rfl).1
  · exact h6.1
  · exact (u8 7 rfl).1
  · exact (u8 8 rfl).1
  · omega
section
variable {H : Type} {enc : TypeId × Value → H} {P : Program} {w : World}
theorem open_acts {t e : TypeId} {a : Option Addr} {len cap D : Nat} {d : DataW H} {ps : List MemPlace} (ht : P.underlying t = some (.slice e)) (hk : flatKb P D e = some actKs) (ce : P.cellsOf e = 9)
    (h : DataW.Trod enc P w 0 (fun _ => true) true t (.slice a len cap) d ps) : ∃ xa : Nat → ActM, (∀ i, i < len → ActOk (xa i)) ∧ Fx.Arr w a len 9 (Fx.flat 9 fun k => actY (xa k)) := by
  obtain ⟨fuel, hf⟩ := h
  obtain ⟨a', l', c', hcs, _, _, X, hX, hA⟩ := open_rows ht hk ce (by decide) hf
  simp [Value.cells] at hcs
  obtain ⟨rfl, rfl, rfl⟩ := hcs
  exact ⟨fun i => actOf (X i), fun i hi => (actOf_ok (hX i hi)).1, hA.congr (Fx.flat_cong fun k hk j hj => (actOf_ok (hX k hk)).2 j hj)⟩
end
end Go.Proofs.Ytolmkjepieoloaa
namespace Go.Proofs.Ytolmkjepieoloaa
open Go.RowKit Rt
open Fx (x_move x_assign x_field x_load1 x_pickF x_pickT x_nil x_conv x_indexS x_index x_leqF x_loadA x_len x_gtrF x_build x_eqlF x_eqlT)
namespace Rt
def isLive (s : StM) (k : Nat) : Bool := s.inn k && !s.left k
def liveN (s : StM) : Nat → List Int
  | 0 => []
  | k + 1 => if isLive s k then liveN s k ++ [(k : Int) + 1] else liveN s k
def lsX (l : List Int) : Nat → Value := fun p => .int .i64 (l.getD p 0)
theorem live_yes {s : StM} {k : Nat} (h : isLive s k = true) : liveN s (k + 1) = liveN s k ++ [(k : Int) + 1] := by
  show (if isLive s k then _ else _) = _; rw [if_pos h]
theorem live_no {s : StM} {k : Nat} (h : isLive s k = false) : liveN s (k + 1) = liveN s k := by
  show (if isLive s k then _ else _) = _; rw [if_neg (by rw [h]; decide)]
theorem live_len (s : StM) : ∀ k, (liveN s k).length ≤ k
  | 0 => Nat.le_refl _
  | k + 1 => by
    have := live_len s k
    show (if isLive s k then _ else _ : List Int).length ≤ k + 1
    split
    · simp; omega
    · omega
theorem ls_app {l : List Int} {n : Nat} {z : Nat → Value} {v : Int} (hn : n = l.length) : ∀ j, j < (n + 1) * 1 → Fx.appX (lsX l) (n * 1) (Fx.ovr z (0 * 1) 1 (fun _ => .int .i64 v)) j = lsX (l ++ [v]) j := fun j hj => by
  subst hn
  unfold Fx.appX lsX
  by_cases h : j < l.length * 1
  · rw [if_pos h]; congr 1
    rw [List.getD_eq_getElem?_getD, List.getD_eq_getElem?_getD, List.getElem?_append_left (by omega)]
  · rw [if_neg h]
    unfold Fx.ovr
    rw [if_pos (by omega), List.getD_eq_getElem?_getD, List.getElem?_append_right (by omega), show j - l.length = 0 by omega]; rfl
def liveI (s : StM) (i : Int) : Bool := decide (1 ≤ i) && decide (i ≤ 6) && isLive s (i - 1).toNat
theorem mem_live {s : StM} {i : Int} : ∀ n, i ∈ liveN s n ↔ (1 ≤ i ∧ i ≤ (n : Int) ∧ isLive s (i - 1).toNat = true)
  | 0 => by
    constructor
    · intro h; cases h
    · rintro ⟨h1, h2, _⟩; omega
  | n + 1 => by
    have ih := mem_live (s := s) (i := i) n
    cases hl : isLive s n with
    | true =>
      rw [live_yes hl, List.mem_append, ih]
      constructor
      · rintro (⟨h1, h2, h3⟩ | h)
        · exact ⟨h1, by omega, h3⟩
        · have h' : i = (n : Int) + 1 := by simpa using h
          subst h'
          exact ⟨by omega, by omega, by rw [show ((n : Int) + 1 - 1).toNat = n by omega]; exact hl⟩
      · rintro ⟨h1, h2, h3⟩
        by_cases e : i = (n : Int) + 1
        · right; rw [e]; exact List.mem_singleton.2 rfl
        · left; exact ⟨h1, by omega, h3⟩
    | false =>
      rw [live_no hl, ih]
      constructor
      · rintro ⟨h1, h2, h3⟩; exact ⟨h1, by omega, h3⟩
      · rintro ⟨h1, h2, h3⟩
        by_cases e : i = (n : Int) + 1
        · subst e; rw [show ((n : Int) + 1 - 1).toNat = n by omega, hl] at h3; cases h3
        · exact ⟨h1, by omega, h3⟩
theorem ls_at {l : List Int} {k : Nat} (h : k < l.length) : l.getD k 0 ∈ l := by
  rw [List.getD_eq_getElem?_getD, List.getElem?_eq_getElem h]; exact List.getElem_mem h
theorem ls_mem {l : List Int} {i : Int} : 0 ≤ firstI (fun k => decide (i = l.getD k 0)) l.length ↔ i ∈ l := by
  rcases firstI_spec (fun k => decide (i = l.getD k 0)) l.length with ⟨k, hk, e, hp⟩ | ⟨e, h⟩
  · rw [e]
    have := of_decide_eq_true hp
    exact ⟨fun _ => by rw [this]; exact ls_at hk, fun _ => by omega⟩
  · rw [e]
    refine ⟨fun h => absurd h (by decide), fun hm => ?_⟩
    obtain ⟨k, hk, e2⟩ := List.getElem_of_mem hm
    have := h k hk
    rw [List.getD_eq_getElem?_getD, List.getElem?_eq_getElem hk, e2] at this
    exact absurd rfl (of_decide_eq_false this)
theorem live_has (s : StM) (i : Int) : decide (0 ≤ firstI (fun k => decide (i = (liveN s 6).getD k 0)) (liveN s 6).length) = liveI s i := by
  rw [Bool.eq_iff_iff, decide_eq_true_iff, ls_mem, mem_live]
  unfold liveI
  simp only [Bool.and_eq_true, decide_eq_true_eq]
  exact ⟨fun ⟨a, b, c⟩ => ⟨⟨a, by omega⟩, c⟩, fun ⟨⟨a, b⟩, c⟩ => ⟨a, by omega, c⟩⟩
end Rt
set_option maxRecDepth 10000 in
theorem m_live (s : StM) (w : World) :
    Calls Try.prog 30 #[.agg (Fx.varr 20 (stY s))] w fun e w' => ∃ v n, e = .returned v ∧ n = (liveN s 6).length ∧ Fx.Own w' w.heap.size 3 1 v n (lsX (liveN s 6)) ∧ Below w.heap.size w w' := by
 refine Fx.enter Try.func30 rfl (n := 26) rfl (by rfl) ?_
 refine Fx.W.seq (Fx.W.list (Fx.L.box (m := 20) (y := stY s) (by rfl) rfl rfl (Fx.cells_agg _ _) rfl fun g1 w1 eg1 m1 s1 z1 => ?_))
 have b1 := s1.below (Below.refl w.heap.size w) (Below.refl w.heap.size w).size (Below.refl w.heap.size w).size
 have lg1 : w.heap.size ≤ g1 := by rw [eg1]; exact (Below.refl w.heap.size w).size
 have tg1 : g1 < w1.heap.size := m1.lt
 clear eg1
 refine Fx.L.v (.slice none 0 0) (x_assign rfl rfl) (Fx.L.nil (Fx.seqN (Fx.W.seq (Fx.W.seq (Fx.W.list (Fx.L.v (.pointer (some ⟨g1, 0, none⟩)) (x_field rfl rfl Try.underlying43 rfl (s := 6) (by kernel_rfl) rfl rfl) (Fx.L.v (.agg (Fx.varr 6 (fun q => .bool (s.inn q)))) (x_loadA (x := stY s) (y := fun q => .bool (s.inn q)) rfl rfl (by kernel_rfl) (by kernel_rfl) m1.cel (i := 0) (by omega) (by omega) (fun jq hjq => by rw [Nat.zero_add]; exact stY_in _ hjq)) (Fx.L.v (.int .i64 (0)) (x_move rfl rfl) (Fx.L.nil (Fx.seqN (Fx.W.block ?_)))))))))))
 have m2 : Fx.Own w1 w.heap.size 3 1 (.slice none 0 0) 0 (lsX (liveN s 0)) := Fx.Own.nil _ _ _ _ _
 refine Fx.W.loop (fun f w_ => ∃ k : Nat, ∃ n : Nat, ∃ a : Option Addr, ∃ cap : Nat, k ≤ 6 ∧ n = (liveN s k).length ∧ f 1 = .pointer (some ⟨g1, 0, none⟩) ∧ f 6 = .agg (Fx.varr 6 (fun q => .bool (s.inn q))) ∧ f 2 = .slice a (n) (cap) ∧ f 7 = .int .i64 ((k : Int)) ∧ Fx.Blk w_ g1 20 (stY s) 43 ∧ Fx.Own w_ w.heap.size 3 1 (.slice a (n) (cap)) n (lsX (liveN s k)) ∧ Below w.heap.size w w_) (fun f _ => (6 - (intOf (f 7)).toNat)) ⟨0, 0, none, 0, by omega, rfl, (by rfl), (by rfl), (by rfl), (by first | rfl | exact congrArg (Value.int .i64) (by omega)), m1, m2, b1⟩ ?_
 rintro f1 w2 ⟨k, n, a, cap, hk, hn, h1, h2, h3, h4, m3, m4, b2⟩
 have hnl := live_len s k
 refine Fx.W.seq (Fx.W.list ?_)
 by_cases c8 : (k : Int) < 6
 ·refine Fx.L.v (.bool true) (Fx.x_lssT rfl h4 rfl c8) (Fx.L.nil (Fx.seqN (Fx.W.seq (Fx.W.cond (b := true) rfl (fun _ => Fx.W.skip (Fx.seqN (Fx.W.seq (Fx.W.block (Fx.W.seq (Fx.W.list (Fx.L.v (.int .i64 ((k : Int))) (x_move rfl h4) ?_))))))) (fun h => nomatch h)))))
  by_cases c10 : (s.inn k) = true
  ·refine Fx.L.v (.bool true) (Fx.x_indexV (j := k) (y := fun q => .bool (s.inn q)) rfl h2 h4 Try.underlying39 (by kernel_rfl) (by kernel_rfl) (by omega) ((show _ = Value.bool (s.inn k) from rfl).trans (congrArg Value.bool c10))) (Fx.L.v (.int .i64 ((k : Int))) (x_assign rfl rfl) (Fx.L.v (.bool true) (x_assign rfl rfl) (Fx.L.nil (Fx.seqN (Fx.W.seq (Fx.W.list (Fx.L.v (.bool true) (x_move rfl rfl) (Fx.L.v (.bool true) (x_move rfl rfl) (Fx.L.v (.int .i64 ((k : Int))) (x_move rfl rfl) (Fx.L.v (.pointer (some ⟨g1, 6, none⟩)) (x_field rfl h1 Try.underlying43 rfl (s := 6) (by kernel_rfl) rfl (by show _ + 6 = _; omega)) (Fx.L.v (.pointer (some ⟨g1, k + 6, none⟩)) (x_index rfl rfl rfl Try.underlying39 (s := 1) (by kernel_rfl) (by omega) (by omega) (by omega)) ?_)))))))))))
   by_cases c16 : (s.left k) = true
   ·refine Fx.L.v (.bool true) (x_load1 (x := stY s) rfl rfl (by kernel_rfl) m3.cel (i := k + 6) (by omega) (by omega) ((stY_left _ (by omega) (by omega)).trans (congrArg Value.bool c16))) (Fx.L.v (.bool false) (Fx.x_notF rfl rfl) (Fx.L.v (.bool false) (x_pickT rfl rfl rfl) (Fx.L.nil (Fx.seqN (Fx.W.cond (b := false) rfl (fun h => nomatch h) (fun _ => Fx.W.skip (Fx.blkN (Fx.seqN ?_))))))))
    have hl : isLive s k = false := by unfold isLive; rw [c16, Bool.not_true, Bool.and_false]
    refine Fx.W.list (Fx.L.v (.int .i64 ((k : Int) + 1)) (Fx.x_add rfl h4 rfl (Fx.i64e (by omega) (by omega))) (Fx.L.v (.int .i64 ((k : Int) + 1)) (x_move rfl rfl) (Fx.L.nil ?_)))
    have m5 := m4.congr (y := lsX (liveN s (k + 1))) (fun j _ => by rw [live_no hl])
    skip
    refine Fx.lpN ⟨k + 1, n, a, cap, by omega, (by rw [live_no hl]; exact hn), h1, h2, h3, (by first | rfl | exact congrArg (Value.int .i64) (by omega)), m3, m5, b2⟩ ?_
    show (6 - (intOf ((.int .i64 ((k : Int) + 1)))).toNat) < _
    simp only [h4, intOf]; omega
   ·rw [Bool.not_eq_true] at c16
    refine Fx.L.v (.bool false) (x_load1 (x := stY s) rfl rfl (by kernel_rfl) m3.cel (i := k + 6) (by omega) (by omega) ((stY_left _ (by omega) (by omega)).trans (congrArg Value.bool c16))) (Fx.L.v (.bool true) (Fx.x_notT rfl rfl) (Fx.L.v (.bool true) (x_pickT rfl rfl rfl) (Fx.L.nil (Fx.seqN (Fx.W.cond (b := true) rfl (fun _ => ?_) (fun h => nomatch h))))))
    have hl : isLive s k = true := by unfold isLive; rw [c10, c16]; rfl
    refine Fx.W.list (Fx.L.v (.slice a (n) (cap)) (x_move rfl h3) (Fx.L.v (.int .i64 ((k : Int))) (x_move rfl rfl) (Fx.L.v (.int .i64 ((k : Int) + 1)) (Fx.x_add rfl rfl rfl (Fx.i64e (by omega) (by omega))) (Fx.L.bslice (vs := [(0, .int .i64 ((k : Int) + 1))]) (s := 1) (zc := Fx.rv .i64 (fun _ => 0)) (y := Fx.ovr (fun j => (Fx.rv .i64 (fun _ => 0)) (j % 1)) (0 * 1) 1 (fun _ => .int .i64 ((k : Int) + 1))) (by rfl) rfl rfl Try.underlying23 (by kernel_rfl) (by rfl) (by rfl) (by kernel_rfl) (by rw [Fx.fill_step (off := 0 * 1) (s := 1) (y := fun _ => .int .i64 ((k : Int) + 1)) rfl (Fx.cells_one (by rfl)) (by rfl)]; rfl) rfl fun g2 w3 eg2 m6 s2 z2 => ?_))))
    have m7 := m3.stp s2 (Nat.ne_of_lt (m3.lt))
    have m8 := m4.stp s2 (m4.notNew (Nat.le_refl _))
    have b3 := s2.below b2 b2.size b2.size
    have lg2 : w.heap.size ≤ g2 := by rw [eg2]; exact b2.size
    have ng2m7 : g1 ≠ g2 := by rw [eg2]; exact Nat.ne_of_lt (m3.lt)
    have ng2m8 : (.slice a (n) (cap) : Value).ownBlock ≠ some g2 := by rw [eg2]; exact m4.notNew (Nat.le_refl _)
    have tg2 : g2 < w3.heap.size := m6.lt
    clear eg2
    refine Fx.L.app (B := w.heap.size) (s := 1) (bytes := 8) (k := n) (m := 1) (v := .slice a (n) (cap)) (x := lsX (liveN s k)) (by rfl) rfl rfl rfl Try.underlying23 (by kernel_rfl) (by kernel_rfl) rfl rfl m8 m6.cel (ovr_one (fun _ => rfl)) (by omega) (by omega) (by omega) b3.size fun g3 cap1 w4 ho1 hg1 hgv1 hlt1 => ?_
    have hct1 := Fx.ChT.of_grown hg1 m8
    have m10 := m7.chT hct1 (by decide)
    have m9 : Fx.Own w4 w.heap.size 3 1 (.slice (some ⟨g3, 0, none⟩) (n + 1) cap1) (n + 1) (lsX (liveN s (k + 1))) := (ho1.congr (fun j hj => by rw [live_yes hl]; exact ls_app hn j hj))
    have b4 : Below w.heap.size w w4 := Fx.Below.grow b3 hg1 b3.size (fun q hq => (m8.ge hq).1)
    refine Fx.L.v (.slice (some ⟨g3, 0, none⟩) (n + 1) (cap1)) (x_assign rfl rfl) (Fx.L.nil (Fx.blkN (Fx.seqN (Fx.W.list (Fx.L.v (.int .i64 ((k : Int) + 1)) (Fx.x_add rfl h4 rfl (Fx.i64e (by omega) (by omega))) (Fx.L.v (.int .i64 ((k : Int) + 1)) (x_move rfl rfl) (Fx.L.nil ?_)))))))
    skip
    refine Fx.lpN ⟨k + 1, n + 1, (some ⟨g3, 0, none⟩), cap1, by omega, (by rw [live_yes hl, List.length_append, ← hn]; rfl), h1, h2, (by rfl), (by first | rfl | exact congrArg (Value.int .i64) (by omega)), m10, m9, b4⟩ ?_
    show (6 - (intOf ((.int .i64 ((k : Int) + 1)))).toNat) < _
    simp only [h4, intOf]; omega
  ·rw [Bool.not_eq_true] at c10
   refine Fx.L.v (.bool false) (Fx.x_indexV (j := k) (y := fun q => .bool (s.inn q)) rfl h2 h4 Try.underlying39 (by kernel_rfl) (by kernel_rfl) (by omega) ((show _ = Value.bool (s.inn k) from rfl).trans (congrArg Value.bool c10))) (Fx.L.v (.int .i64 ((k : Int))) (x_assign rfl rfl) (Fx.L.v (.bool false) (x_assign rfl rfl) (Fx.L.nil (Fx.seqN (Fx.W.seq (Fx.W.list (Fx.L.v (.bool false) (x_move rfl rfl) (Fx.L.v (.bool false) (x_move rfl rfl) (Fx.L.skip (by rfl) rfl (Fx.L.skip (by rfl) rfl (Fx.L.skip (by rfl) rfl (Fx.L.skip (by rfl) rfl (Fx.L.skip (by rfl) rfl (Fx.L.v (.bool false) (x_pickF rfl rfl rfl) (Fx.L.nil (Fx.seqN (Fx.W.cond (b := false) rfl (fun h => nomatch h) (fun _ => Fx.W.skip (Fx.blkN (Fx.seqN ?_))))))))))))))))))))
   have hl : isLive s k = false := by unfold isLive; rw [c10]; rfl
   refine Fx.W.list (Fx.L.v (.int .i64 ((k : Int) + 1)) (Fx.x_add rfl h4 rfl (Fx.i64e (by omega) (by omega))) (Fx.L.v (.int .i64 ((k : Int) + 1)) (x_move rfl rfl) (Fx.L.nil ?_)))
   have m11 := m4.congr (y := lsX (liveN s (k + 1))) (fun j _ => by rw [live_no hl])
   skip
   refine Fx.lpN ⟨k + 1, n, a, cap, by omega, (by rw [live_no hl]; exact hn), h1, h2, h3, (by first | rfl | exact congrArg (Value.int .i64) (by omega)), m3, m11, b2⟩ ?_
   show (6 - (intOf ((.int .i64 ((k : Int) + 1)))).toNat) < _
   simp only [h4, intOf]; omega
 ·refine Fx.L.v (.bool false) (Fx.x_lssF rfl h4 rfl c8) (Fx.L.nil (Fx.seqN (Fx.W.seq (Fx.W.cond (b := false) rfl (fun h => nomatch h) (fun _ => Fx.W.exit (Fx.seqX (Fx.lpX (Fx.blkX (Fx.seqN (Fx.W.seq (Fx.W.list (Fx.L.v (.slice a (n) (cap)) (x_move rfl h3) (Fx.L.v (.slice a (n) (cap)) (x_assign rfl rfl) (Fx.L.nil (Fx.seqN (Fx.W.ret (⟨.slice a (n) (cap), Fx.retV1 Try.results30 (by exact rfl), ?_⟩)))))))))))))))))
  obtain rfl : k = 6 := by omega
  exact ⟨_, n, rfl, hn, m4, b2⟩
theorem r_live1 (s : StM) (i : Int) (w : World) :
    Calls Try.prog 74 #[.agg (Fx.varr 20 (stY s)), .int .i64 (i)] w fun e w' => e = .returned (.bool (liveI s i)) ∧ Below w.heap.size w w' := by
 refine Fx.enter Try.func74 rfl (n := 26) rfl (by rfl) ?_
 refine Fx.W.seq (Fx.W.list (Fx.L.box (m := 20) (y := stY s) (by rfl) rfl rfl (Fx.cells_agg _ _) rfl fun g1 w1 eg1 m1 s1 z1 => ?_))
 have b1 := s1.below (Below.refl w.heap.size w) (Below.refl w.heap.size w).size (Below.refl w.heap.size w).size
 have lg1 : w.heap.size ≤ g1 := by rw [eg1]; exact (Below.refl w.heap.size w).size
 have tg1 : g1 < w1.heap.size := m1.lt
 clear eg1
 refine Fx.L.v (.bool false) (x_assign rfl rfl) (Fx.L.nil (Fx.seqN (Fx.W.seq (Fx.W.list (Fx.L.v (.int .i64 (i)) (x_move rfl rfl) ?_)))))
 by_cases c6 : 1 ≤ i
 ·refine Fx.L.v (.bool true) (Fx.x_geqT rfl rfl rfl c6) (Fx.L.v (.bool true) (x_move rfl rfl) (Fx.L.v (.int .i64 (i)) (x_move rfl rfl) ?_))
  by_cases c9 : i ≤ 6
  ·obtain ⟨a, ha, ea⟩ : ∃ a : Nat, a < 6 ∧ i = (a : Int) + 1 := ⟨(i - 1).toNat, by omega, by omega⟩
   refine Fx.L.v (.bool true) (Fx.x_leqT rfl rfl rfl c9) (Fx.L.v (.bool true) (x_pickT rfl rfl rfl) (Fx.L.v (.bool true) (x_move rfl rfl) (Fx.L.v (.int .i64 (i)) (x_move rfl rfl) (Fx.L.v (.int .i64 ((a : Int))) (Fx.x_sub rfl rfl rfl (Fx.i64e (by omega) (by omega))) (Fx.L.v (.pointer (some ⟨g1, 0, none⟩)) (x_field rfl rfl Try.underlying43 rfl (s := 6) (by kernel_rfl) rfl rfl) (Fx.L.v (.pointer (some ⟨g1, a, none⟩)) (x_index rfl rfl rfl Try.underlying39 (s := 1) (by kernel_rfl) (by omega) (by omega) (by omega)) ?_))))))
   by_cases c16 : (s.inn a) = true
   ·refine Fx.L.v (.bool true) (x_load1 (x := stY s) rfl rfl (by kernel_rfl) m1.cel (i := a) (by omega) (by omega) ((stY_in _ (by omega)).trans (congrArg Value.bool c16))) (Fx.L.v (.bool true) (x_pickT rfl rfl rfl) (Fx.L.v (.bool true) (x_move rfl rfl) (Fx.L.v (.int .i64 (i)) (x_move rfl rfl) (Fx.L.v (.int .i64 ((a : Int))) (Fx.x_sub rfl rfl rfl (Fx.i64e (by omega) (by omega))) (Fx.L.v (.pointer (some ⟨g1, 6, none⟩)) (x_field rfl rfl Try.underlying43 rfl (s := 6) (by kernel_rfl) rfl (by show _ + 6 = _; omega)) (Fx.L.v (.pointer (some ⟨g1, a + 6, none⟩)) (x_index rfl rfl rfl Try.underlying39 (s := 1) (by kernel_rfl) (by omega) (by omega) (by omega)) ?_))))))
    by_cases c23 : (s.left a) = true
    ·refine Fx.L.v (.bool true) (x_load1 (x := stY s) rfl rfl (by kernel_rfl) m1.cel (i := a + 6) (by omega) (by omega) ((stY_left _ (by omega) (by omega)).trans (congrArg Value.bool c23))) (Fx.L.v (.bool false) (Fx.x_notF rfl rfl) (Fx.L.v (.bool false) (x_pickT rfl rfl rfl) (Fx.L.v (.bool false) (x_assign rfl rfl) (Fx.L.nil (Fx.seqN (Fx.W.ret (⟨.bool false, Fx.retV1 Try.results74 (by exact rfl), ?_⟩)))))))
     exact ⟨congrArg (fun q => Ending.returned (Value.bool q)) (Eq.symm (by unfold liveI; rw [decide_eq_true c6, decide_eq_true c9, show (i - 1).toNat = a by omega]; unfold isLive; rw [c16, c23]; rfl)), b1⟩
    ·rw [Bool.not_eq_true] at c23
     refine Fx.L.v (.bool false) (x_load1 (x := stY s) rfl rfl (by kernel_rfl) m1.cel (i := a + 6) (by omega) (by omega) ((stY_left _ (by omega) (by omega)).trans (congrArg Value.bool c23))) (Fx.L.v (.bool true) (Fx.x_notT rfl rfl) (Fx.L.v (.bool true) (x_pickT rfl rfl rfl) (Fx.L.v (.bool true) (x_assign rfl rfl) (Fx.L.nil (Fx.seqN (Fx.W.ret (⟨.bool true, Fx.retV1 Try.results74 (by exact rfl), ?_⟩)))))))
     exact ⟨congrArg (fun q => Ending.returned (Value.bool q)) (Eq.symm (by unfold liveI; rw [decide_eq_true c6, decide_eq_true c9, show (i - 1).toNat = a by omega]; unfold isLive; rw [c16, c23]; rfl)), b1⟩
   ·rw [Bool.not_eq_true] at c16
    refine Fx.L.v (.bool false) (x_load1 (x := stY s) rfl rfl (by kernel_rfl) m1.cel (i := a) (by omega) (by omega) ((stY_in _ (by omega)).trans (congrArg Value.bool c16))) (Fx.L.v (.bool false) (x_pickT rfl rfl rfl) (Fx.L.v (.bool false) (x_move rfl rfl) (Fx.L.skip (by rfl) rfl (Fx.L.skip (by rfl) rfl (Fx.L.skip (by rfl) rfl (Fx.L.skip (by rfl) rfl (Fx.L.skip (by rfl) rfl (Fx.L.skip (by rfl) rfl (Fx.L.v (.bool false) (x_pickF rfl rfl rfl) (Fx.L.v (.bool false) (x_assign rfl rfl) (Fx.L.nil (Fx.seqN (Fx.W.ret (⟨.bool false, Fx.retV1 Try.results74 (by exact rfl), ?_⟩))))))))))))))
    exact ⟨congrArg (fun q => Ending.returned (Value.bool q)) (Eq.symm (by unfold liveI; rw [decide_eq_true c6, decide_eq_true c9, show (i - 1).toNat = a by omega]; unfold isLive; rw [c16]; rfl)), b1⟩
  ·refine Fx.L.v (.bool false) (x_leqF rfl rfl rfl c9) (Fx.L.v (.bool false) (x_pickT rfl rfl rfl) (Fx.L.v (.bool false) (x_move rfl rfl) (Fx.L.skip (by rfl) rfl (Fx.L.skip (by rfl) rfl (Fx.L.skip (by rfl) rfl (Fx.L.skip (by rfl) rfl (Fx.L.skip (by rfl) rfl (Fx.L.v (.bool false) (x_pickF rfl rfl rfl) (Fx.L.v (.bool false) (x_move rfl rfl) (Fx.L.skip (by rfl) rfl (Fx.L.skip (by rfl) rfl (Fx.L.skip (by rfl) rfl (Fx.L.skip (by rfl) rfl (Fx.L.skip (by rfl) rfl (Fx.L.skip (by rfl) rfl (Fx.L.v (.bool false) (x_pickF rfl rfl rfl) (Fx.L.v (.bool false) (x_assign rfl rfl) (Fx.L.nil (Fx.seqN (Fx.W.ret (⟨.bool false, Fx.retV1 Try.results74 (by exact rfl), ?_⟩)))))))))))))))))))))
   exact ⟨congrArg (fun q => Ending.returned (Value.bool q)) (Eq.symm (by unfold liveI; rw [decide_eq_false c9, Bool.and_false]; rfl)), b1⟩
 ·refine Fx.L.v (.bool false) (Fx.x_geqF rfl rfl rfl c6) (Fx.L.v (.bool false) (x_move rfl rfl) (Fx.L.skip (by rfl) rfl (Fx.L.skip (by rfl) rfl (Fx.L.v (.bool false) (x_pickF rfl rfl rfl) (Fx.L.v (.bool false) (x_move rfl rfl) (Fx.L.skip (by rfl) rfl (Fx.L.skip (by rfl) rfl (Fx.L.skip (by rfl) rfl (Fx.L.skip (by rfl) rfl (Fx.L.skip (by rfl) rfl (Fx.L.v (.bool false) (x_pickF rfl rfl rfl) (Fx.L.v (.bool false) (x_move rfl rfl) (Fx.L.skip (by rfl) rfl (Fx.L.skip (by rfl) rfl (Fx.L.skip (by rfl) rfl (Fx.L.skip (by rfl) rfl (Fx.L.skip (by rfl) rfl (Fx.L.skip (by rfl) rfl (Fx.L.v (.bool false) (x_pickF rfl rfl rfl) (Fx.L.v (.bool false) (x_assign rfl rfl) (Fx.L.nil (Fx.seqN (Fx.W.ret (⟨.bool false, Fx.retV1 Try.results74 (by exact rfl), ?_⟩))))))))))))))))))))))))
  exact ⟨congrArg (fun q => Ending.returned (Value.bool q)) (Eq.symm (by unfold liveI; rw [decide_eq_false c6]; rfl)), b1⟩
theorem Rt.liveI_k {s : StM} {k : Nat} (h : (k : Int) < 6) {b : Bool} (e : liveI s ((k : Int) + 1) = b) : isLive s k = b := by
  unfold liveI at e; rw [decide_eq_true (by omega), decide_eq_true (by omega), show ((k : Int) + 1 - 1).toNat = k by omega] at e; exact e
set_option maxRecDepth 10000 in
theorem r_live (s : StM) (w : World) :
    Calls Try.prog 31 #[.agg (Fx.varr 20 (stY s))] w fun e w' => ∃ v n, e = .returned v ∧ n = (liveN s 6).length ∧ Fx.Own w' w.heap.size 3 1 v n (lsX (liveN s 6)) ∧ Below w.heap.size w w' := by
 refine Fx.enter Try.func31 rfl (n := 17) rfl (by rfl) ?_
 refine Fx.W.seq (Fx.W.list (Fx.L.box (m := 20) (y := stY s) (by rfl) rfl rfl (Fx.cells_agg _ _) rfl fun g1 w1 eg1 m1 s1 z1 => ?_))
 have b1 := s1.below (Below.refl w.heap.size w) (Below.refl w.heap.size w).size (Below.refl w.heap.size w).size
 have lg1 : w.heap.size ≤ g1 := by rw [eg1]; exact (Below.refl w.heap.size w).size
 have tg1 : g1 < w1.heap.size := m1.lt
 clear eg1
 refine Fx.L.v (.slice none 0 0) (x_assign rfl rfl) (Fx.L.nil (Fx.seqN (Fx.W.seq (Fx.W.list (Fx.L.v (.slice none 0 0) (x_assign rfl rfl) (Fx.L.nil (Fx.seqN (Fx.W.seq (Fx.W.seq (Fx.W.list (Fx.L.v (.int .i64 (1)) (x_assign rfl rfl) (Fx.L.nil (Fx.seqN (Fx.W.block ?_))))))))))))))
 have m2 : Fx.Own w1 w.heap.size 3 1 (.slice none 0 0) 0 (lsX (liveN s 0)) := Fx.Own.nil _ _ _ _ _
 refine Fx.W.loop (fun f w_ => ∃ k : Nat, ∃ n : Nat, ∃ a : Option Addr, ∃ cap : Nat, k ≤ 6 ∧ n = (liveN s k).length ∧ f 1 = .pointer (some ⟨g1, 0, none⟩) ∧ f 3 = .slice a (n) (cap) ∧ f 4 = .int .i64 ((k : Int) + 1) ∧ Fx.Blk w_ g1 20 (stY s) 43 ∧ Fx.Own w_ w.heap.size 3 1 (.slice a (n) (cap)) n (lsX (liveN s k)) ∧ Below w.heap.size w w_) (fun f _ => (7 - (intOf (f 4)).toNat)) ⟨0, 0, none, 0, by omega, rfl, (by rfl), (by rfl), (by first | rfl | exact congrArg (Value.int .i64) (by omega)), m1, m2, b1⟩ ?_
 rintro f1 w2 ⟨k, n, a, cap, hk, hn, h1, h2, h3, m3, m4, b2⟩
 have hnl := live_len s k
 refine Fx.W.seq (Fx.W.seq (Fx.W.list (Fx.L.v (.int .i64 ((k : Int) + 1)) (x_move rfl h3) ?_)))
 by_cases c6 : ((k : Int) + 1) ≤ 6
 ·refine Fx.L.v (.bool true) (Fx.x_leqT rfl rfl rfl c6) (Fx.L.nil (Fx.seqN (Fx.W.cond (b := true) rfl (fun _ => Fx.W.skip (Fx.seqN (Fx.W.seq (Fx.W.block (Fx.W.seq (Fx.W.list (Fx.L.v (.agg (Fx.varr 20 (stY s))) (x_loadA (x := stY s) (y := stY s) rfl h1 (by kernel_rfl) (by kernel_rfl) m3.cel (i := 0) (by omega) (by omega) (fun j _ => by rw [Nat.zero_add])) ?_))))))) (fun h => nomatch h))))
  refine Fx.L.v (.int .i64 ((k : Int) + 1)) (x_move rfl h3) ?_
  by_cases c11 : (liveI s ((k : Int) + 1)) = true
  ·refine Fx.L.call (by rfl) (Fx.r_call (args := [.agg (Fx.varr 20 (stY s)), .int .i64 ((k : Int) + 1)]) rfl rfl Try.func74 rfl rfl) rfl ((r_live1 s ((k : Int) + 1) _).mono ?_)
   rintro e w3 ⟨he, hb1⟩
   refine ⟨.bool true, by rw [he, c11], ?_⟩
   clear he
   have s2 := Fx.Stp.of_below hb1
   have m5 := m3.stp s2 (Nat.ne_of_lt (m3.lt))
   have m6 := m4.stp s2 (m4.notNew (Nat.le_refl _))
   have b3 := s2.below b2 b2.size b2.size
   refine Fx.L.nil (Fx.seqN (Fx.W.cond (b := true) rfl (fun _ => ?_) (fun h => nomatch h)))
   have hl := liveI_k (by omega) c11
   refine Fx.W.list (Fx.L.v (.slice a (n) (cap)) (x_move rfl h2) (Fx.L.v (.int .i64 ((k : Int) + 1)) (x_move rfl h3) (Fx.L.bslice (vs := [(0, .int .i64 ((k : Int) + 1))]) (s := 1) (zc := Fx.rv .i64 (fun _ => 0)) (y := Fx.ovr (fun j => (Fx.rv .i64 (fun _ => 0)) (j % 1)) (0 * 1) 1 (fun _ => .int .i64 ((k : Int) + 1))) (by rfl) rfl rfl Try.underlying23 (by kernel_rfl) (by rfl) (by rfl) (by kernel_rfl) (by rw [Fx.fill_step (off := 0 * 1) (s := 1) (y := fun _ => .int .i64 ((k : Int) + 1)) rfl (Fx.cells_one (by rfl)) (by rfl)]; rfl) rfl fun g2 w4 eg2 m7 s3 z2 => ?_)))
   have m8 := m5.stp s3 (Nat.ne_of_lt (m5.lt))
   have m9 := m6.stp s3 (m6.notNew (Nat.le_refl _))
   have b4 := s3.below b3 b3.size b3.size
   have lg2 : w.heap.size ≤ g2 := by rw [eg2]; exact b3.size
   have ng2m8 : g1 ≠ g2 := by rw [eg2]; exact Nat.ne_of_lt (m5.lt)
   have ng2m9 : (.slice a (n) (cap) : Value).ownBlock ≠ some g2 := by rw [eg2]; exact m6.notNew (Nat.le_refl _)
   have tg2 : g2 < w4.heap.size := m7.lt
   clear eg2
   refine Fx.L.app (B := w.heap.size) (s := 1) (bytes := 8) (k := n) (m := 1) (v := .slice a (n) (cap)) (x := lsX (liveN s k)) (by rfl) rfl rfl rfl Try.underlying23 (by kernel_rfl) (by kernel_rfl) rfl rfl m9 m7.cel (ovr_one (fun _ => rfl)) (by omega) (by omega) (by omega) b4.size fun g3 cap1 w5 ho1 hg1 hgv1 hlt1 => ?_
   have hct1 := Fx.ChT.of_grown hg1 m9
   have m11 := m8.chT hct1 (by decide)
   have m10 : Fx.Own w5 w.heap.size 3 1 (.slice (some ⟨g3, 0, none⟩) (n + 1) cap1) (n + 1) (lsX (liveN s (k + 1))) := (ho1.congr (fun j hj => by rw [live_yes hl]; exact ls_app hn j hj))
   have b5 : Below w.heap.size w w5 := Fx.Below.grow b4 hg1 b4.size (fun q hq => (m9.ge hq).1)
   refine Fx.L.v (.slice (some ⟨g3, 0, none⟩) (n + 1) (cap1)) (x_assign rfl rfl) (Fx.L.nil (Fx.blkN (Fx.seqN (Fx.W.list (Fx.L.v (.int .i64 ((k : Int) + 1)) (x_move rfl h3) (Fx.L.v (.int .i64 ((k : Int) + 2)) (Fx.x_add rfl rfl rfl (Fx.i64e (by omega) (by omega))) (Fx.L.v (.int .i64 ((k : Int) + 2)) (x_assign rfl rfl) (Fx.L.nil ?_))))))))
   skip
   refine Fx.lpN ⟨k + 1, n + 1, (some ⟨g3, 0, none⟩), cap1, by omega, (by rw [live_yes hl, List.length_append, ← hn]; rfl), h1, (by rfl), (by first | rfl | exact congrArg (Value.int .i64) (by omega)), m11, m10, b5⟩ ?_
   show (7 - (intOf ((.int .i64 ((k : Int) + 2)))).toNat) < _
   simp only [h3, intOf]; omega
  ·rw [Bool.not_eq_true] at c11
   refine Fx.L.call (by rfl) (Fx.r_call (args := [.agg (Fx.varr 20 (stY s)), .int .i64 ((k : Int) + 1)]) rfl rfl Try.func74 rfl rfl) rfl ((r_live1 s ((k : Int) + 1) _).mono ?_)
   rintro e w6 ⟨he, hb2⟩
   refine ⟨.bool false, by rw [he, c11], ?_⟩
   clear he
   have s4 := Fx.Stp.of_below hb2
   have m12 := m3.stp s4 (Nat.ne_of_lt (m3.lt))
   have m13 := m4.stp s4 (m4.notNew (Nat.le_refl _))
   have b6 := s4.below b2 b2.size b2.size
   refine Fx.L.nil (Fx.seqN (Fx.W.cond (b := false) rfl (fun h => nomatch h) (fun _ => Fx.W.skip (Fx.blkN (Fx.seqN ?_)))))
   have hl := liveI_k (by omega) c11
   refine Fx.W.list (Fx.L.v (.int .i64 ((k : Int) + 1)) (x_move rfl h3) (Fx.L.v (.int .i64 ((k : Int) + 2)) (Fx.x_add rfl rfl rfl (Fx.i64e (by omega) (by omega))) (Fx.L.v (.int .i64 ((k : Int) + 2)) (x_assign rfl rfl) (Fx.L.nil ?_))))
   have m14 := m13.congr (y := lsX (liveN s (k + 1))) (fun j _ => by rw [live_no hl])
   skip
   refine Fx.lpN ⟨k + 1, n, a, cap, by omega, (by rw [live_no hl]; exact hn), h1, h2, (by first | rfl | exact congrArg (Value.int .i64) (by omega)), m12, m14, b6⟩ ?_
   show (7 - (intOf ((.int .i64 ((k : Int) + 2)))).toNat) < _
   simp only [h3, intOf]; omega
 ·refine Fx.L.v (.bool false) (x_leqF rfl rfl rfl c6) (Fx.L.nil (Fx.seqN (Fx.W.cond (b := false) rfl (fun h => nomatch h) (fun _ => Fx.W.exit (Fx.seqX (Fx.lpX (Fx.blkX (Fx.seqN (Fx.W.seq (Fx.W.list (Fx.L.v (.slice a (n) (cap)) (x_move rfl h2) (Fx.L.v (.slice a (n) (cap)) (x_assign rfl rfl) (Fx.L.nil (Fx.seqN (Fx.W.ret (⟨.slice a (n) (cap), Fx.retV1 Try.results31 (by exact rfl), ?_⟩))))))))))))))))
  obtain rfl : k = 6 := by omega
  exact ⟨_, n, rfl, hn, m4, b2⟩
theorem g_index (a : Option Addr) (n cap : Nat) (l : List Int) (x : Int) (w : World) (hl : Fx.Arr w a n 1 (lsX l)) (hn : n ≤ 1000000) :
    Calls Try.prog 111 #[.slice a (n) (cap), .int .i64 (x)] w fun e w' => e = .returned (.int .i64 (firstI (fun k => decide (x = l.getD k 0)) n)) ∧ Below w.heap.size w w' := by
 refine Fx.enter Try.func111 rfl (n := 19) rfl (by rfl) ?_
 refine Fx.W.seq (Fx.W.list (Fx.L.v (.int .i64 (0)) (x_assign rfl rfl) (Fx.L.nil (Fx.seqN (Fx.W.seq (Fx.W.seq (Fx.W.list (Fx.L.v (.slice a (n) (cap)) (x_move rfl rfl) (Fx.L.v (.int .i64 ((n : Int))) (x_len rfl rfl rfl (by kernel_rfl)) (Fx.L.v (.int .i64 (0)) (x_move rfl rfl) (Fx.L.nil (Fx.seqN (Fx.W.block (Fx.W.loop (fun f w_ => ∃ k : Nat, k ≤ n ∧ (∀ i, i < k → (fun k => decide (x = l.getD k 0)) i = false) ∧ f 0 = .slice a (n) (cap) ∧ f 1 = .int .i64 (x) ∧ f 7 = .int .i64 ((n : Int)) ∧ f 8 = .int .i64 ((k : Int)) ∧ Below w.heap.size w w_) (fun f _ => (n - (intOf (f 8)).toNat)) ⟨0, by omega, (fun i h => absurd h (by omega)), (by rfl), (by first | rfl | exact congrArg (Value.int .i64) (by omega)), (by first | rfl | exact congrArg (Value.int .i64) (by omega)), (by first | rfl | exact congrArg (Value.int .i64) (by omega)), (Below.refl w.heap.size w)⟩ ?_))))))))))))))
 rintro f1 w1 ⟨k, hk, hall, h1, h2, h3, h4, b1⟩
 refine Fx.W.seq (Fx.W.list ?_)
 by_cases c9 : (k : Int) < (n : Int)
 ·refine Fx.L.v (.bool true) (Fx.x_lssT rfl h4 h3 c9) (Fx.L.nil (Fx.seqN (Fx.W.seq (Fx.W.cond (b := true) rfl (fun _ => Fx.W.skip (Fx.seqN (Fx.W.seq (Fx.W.block (Fx.W.seq (Fx.W.list (Fx.L.v (.int .i64 ((k : Int))) (x_move rfl h4) ?_))))))) (fun h => nomatch h)))))
  refine Fx.L.v (.int .i64 ((k : Int))) (x_assign rfl rfl) (Fx.L.nil (Fx.seqN (Fx.W.seq (Fx.W.list (Fx.L.v (.int .i64 (x)) (x_move rfl h2) (Fx.L.v (.slice a (n) (cap)) (x_move rfl h1) (Fx.L.v (.int .i64 ((k : Int))) (x_move rfl rfl) ?_)))))))
  obtain ⟨bq1, oq1, eq1, m1⟩ := (hl.up b1 rfl) (by omega)
  have lbq1 : bq1 < w1.heap.size := m1.lt (by omega)
  refine Fx.L.v (.pointer (some ⟨bq1, k + oq1, none⟩)) (x_indexS rfl (rfl.trans (congrArg (fun q => Value.slice q (n) (cap)) eq1)) rfl Try.underlying23 (s := 1) (by kernel_rfl) (by omega) (by omega) (by omega)) (Fx.L.v (.int .i64 (l.getD k 0)) (x_load1 (x := lsX l) rfl rfl (by kernel_rfl) m1 (i := k) (by omega) (by omega) rfl) ?_)
  by_cases c16 : x = (l.getD k 0)
  ·refine Fx.L.v (.bool true) (x_eqlT rfl rfl rfl c16) (Fx.L.nil (Fx.seqN (Fx.W.cond (b := true) rfl (fun _ => Fx.W.seq (Fx.W.list (Fx.L.v (.int .i64 ((k : Int))) (x_move rfl rfl) ?_))) (fun h => nomatch h))))
   refine Fx.L.v (.int .i64 ((k : Int))) (x_assign rfl rfl) (Fx.L.nil (Fx.seqN (Fx.W.ret (Fx.blkR (Fx.seqR (Fx.lpR (Fx.blkR (Fx.seqR (⟨.int .i64 ((k : Int)), Fx.retV1 Try.results111 (by exact rfl), ?_⟩)))))))))
   exact ⟨congrArg (fun q => Ending.returned (Value.int .i64 q)) (Eq.symm (firstI_hit hall (decide_eq_true c16) (by omega))), b1⟩
  ·refine Fx.L.v (.bool false) (x_eqlF rfl rfl rfl c16) (Fx.L.nil (Fx.seqN (Fx.W.cond (b := false) rfl (fun h => nomatch h) (fun _ => Fx.W.skip (Fx.blkN (Fx.seqN (Fx.W.list (Fx.L.v (.int .i64 ((k : Int) + 1)) (Fx.x_add rfl h4 rfl (Fx.i64e (by omega) (by omega))) (Fx.L.v (.int .i64 ((k : Int) + 1)) (x_move rfl rfl) (Fx.L.nil (Fx.lpN ⟨k + 1, by omega, (none_step hall (decide_eq_false c16)), h1, (h2.trans (by first | rfl | exact congrArg (Value.int .i64) (by omega))), (h3.trans (by first | rfl | exact congrArg (Value.int .i64) (by omega))), (by first | rfl | exact congrArg (Value.int .i64) (by omega)), b1⟩ ?_)))))))))))
   show (n - (intOf ((.int .i64 ((k : Int) + 1)))).toNat) < _
   simp only [h4, intOf]; omega
 ·refine Fx.L.v (.bool false) (Fx.x_lssF rfl h4 h3 c9) (Fx.L.nil (Fx.seqN (Fx.W.seq (Fx.W.cond (b := false) rfl (fun h => nomatch h) (fun _ => Fx.W.exit (Fx.seqX (Fx.lpX (Fx.blkX (Fx.seqN (Fx.W.seq (Fx.W.list (Fx.L.v (.int .i64 (-1)) (x_assign rfl rfl) (Fx.L.nil (Fx.seqN (Fx.W.ret (⟨.int .i64 (-1), Fx.retV1 Try.results111 (by exact rfl), ?_⟩))))))))))))))))
  exact ⟨congrArg (fun q => Ending.returned (Value.int .i64 q)) (Eq.symm (firstI_none (fun i hi => hall i (by omega)))), b1⟩
theorem g_contains (a : Option Addr) (n cap : Nat) (l : List Int) (x : Int) (w : World) (hl : Fx.Arr w a n 1 (lsX l)) (hn : n ≤ 1000000) :
    Calls Try.prog 75 #[.slice a (n) (cap), .int .i64 (x)] w fun e w' => e = .returned (.bool (decide (0 ≤ firstI (fun k => decide (x = l.getD k 0)) n))) ∧ Below w.heap.size w w' := by
 refine Fx.enter Try.func75 rfl (n := 9) rfl (by rfl) ?_
 refine Fx.W.seq (Fx.W.list (Fx.L.v (.bool false) (x_assign rfl rfl) (Fx.L.nil (Fx.seqN (Fx.W.seq (Fx.W.list (Fx.L.v (.slice a (n) (cap)) (x_move rfl rfl) (Fx.L.v (.int .i64 (x)) (x_move rfl rfl) (Fx.L.call (by rfl) (Fx.r_call (args := [.slice a (n) (cap), .int .i64 (x)]) rfl rfl Try.func111 rfl rfl) rfl ((g_index a n cap l x _ (hl.up (Below.refl w.heap.size w) rfl) hn).mono ?_))))))))))
 rintro e w1 ⟨he, hb1⟩
 refine ⟨.int .i64 (firstI (fun k => decide (x = l.getD k 0)) n), by rw [he], ?_⟩
 clear he
 have s1 := Fx.Stp.of_below hb1
 have b1 := s1.below (Below.refl w.heap.size w) (Below.refl w.heap.size w).size (Below.refl w.heap.size w).size
 by_cases c8 : 0 ≤ (firstI (fun k => decide (x = l.getD k 0)) n)
 ·refine Fx.L.v (.bool true) (Fx.x_geqT rfl rfl rfl c8) (Fx.L.v (.bool true) (x_assign rfl rfl) (Fx.L.nil (Fx.seqN (Fx.W.ret (⟨.bool true, Fx.retV1 Try.results75 (by exact rfl), ?_⟩)))))
  exact ⟨congrArg (fun q => Ending.returned (Value.bool q)) (Eq.symm (decide_eq_true c8)), b1⟩
 ·refine Fx.L.v (.bool false) (Fx.x_geqF rfl rfl rfl c8) (Fx.L.v (.bool false) (x_assign rfl rfl) (Fx.L.nil (Fx.seqN (Fx.W.ret (⟨.bool false, Fx.retV1 Try.results75 (by exact rfl), ?_⟩)))))
  exact ⟨congrArg (fun q => Ending.returned (Value.bool q)) (Eq.symm (decide_eq_false c8)), b1⟩
namespace Rt
def firstS (id : Nat → Int) (n : Nat) (x : Int) : Int := firstI (fun i => decide (id i = x)) n
def iterS (id par : Nat → Int) (n : Nat) : Nat → Int → Int
  | 0, x => x
  | k + 1, x => par (firstS id n (iterS id par n k x)).toNat
def pathS (id par : Nat → Int) (n : Nat) (x : Int) : Nat := lead (fun i => decide (0 ≤ firstS id n (iterS id par n i x))) 32
def ptU (id par : Nat → Int) (n : Nat) (x : Int) : Nat → Value := fun q => .int .u64 (iterS id par n q x)
theorem path_end {id par : Nat → Int} {n k : Nat} {x : Int} (h : ∀ i, i < k → 0 ≤ firstS id n (iterS id par n i x)) (h2 : firstS id n (iterS id par n k x) < 0) (hk : k ≤ 32) : k = pathS id par n x :=
  (lead_eq (fun i hi => decide_eq_true (h i hi)) (decide_eq_false (by omega)) hk).symm
theorem path_all {id par : Nat → Int} {n : Nat} {x : Int} (h : ∀ i, i < 32 → 0 ≤ firstS id n (iterS id par n i x)) : 32 = pathS id par n x := (lead_all fun i hi => decide_eq_true (h i hi)).symm
theorem path_le {id par : Nat → Int} {n : Nat} {x : Int} : pathS id par n x ≤ 32 := lead_le _ _
end Rt
theorem q_find1 (idv parv : Int) (Rv : Nat → Int) (gx : Nat) (x : Int) (w : World) (hgx : Fx.Blk w gx 1 (fun _ => .int .u64 (x)) 27) :
    Calls Try.prog 113 #[.agg (Fx.varr 56 (ndY (idv) (parv) (Rv))), .pointer (some ⟨gx, 0, none⟩)] w fun e w' => e = .returned (.bool (decide (idv = x))) ∧ Below w.heap.size w w' := by
 have lgx := hgx.lt
 refine Fx.enter Try.func113 rfl (n := 8) rfl (by rfl) ?_
 refine Fx.W.seq (Fx.W.list (Fx.L.box (m := 56) (y := ndY (idv) (parv) (Rv)) (by rfl) rfl rfl (Fx.cells_agg _ _) rfl fun g1 w1 eg1 m1 s1 z1 => ?_))
 have m2 := hgx.stp s1 (Nat.ne_of_lt (hgx.lt))
 have b1 := s1.below (Below.refl w.heap.size w) (Below.refl w.heap.size w).size (Below.refl w.heap.size w).size
 have lg1 : w.heap.size ≤ g1 := by rw [eg1]; exact (Below.refl w.heap.size w).size
 have ng1m2 : gx ≠ g1 := by rw [eg1]; exact Nat.ne_of_lt (hgx.lt)
 have tg1 : g1 < w1.heap.size := m1.lt
 clear eg1
 refine Fx.L.v (.bool false) (x_assign rfl rfl) (Fx.L.nil (Fx.seqN (Fx.W.seq (Fx.W.list (Fx.L.v (.pointer (some ⟨g1, 0, none⟩)) (x_field rfl rfl Try.underlying50 rfl (s := 1) (by kernel_rfl) rfl rfl) (Fx.L.v (.int .u64 (idv)) (x_load1 (x := ndY (idv) (parv) (Rv)) rfl rfl (by kernel_rfl) m1.cel (i := 0) (by omega) (by omega) rfl) (Fx.L.v (.int .u64 (x)) (x_load1 (x := fun _ => .int .u64 (x)) rfl rfl (by kernel_rfl) m2.cel (i := 0) (by omega) (by omega) rfl) ?_)))))))
 by_cases c7 : idv = x
 ·refine Fx.L.v (.bool true) (x_eqlT rfl rfl rfl c7) (Fx.L.v (.bool true) (x_assign rfl rfl) (Fx.L.nil (Fx.seqN (Fx.W.ret (⟨.bool true, Fx.retV1 Try.results113 (by exact rfl), ?_⟩)))))
  exact ⟨by rw [decide_eq_true c7], b1⟩
 ·refine Fx.L.v (.bool false) (x_eqlF rfl rfl rfl c7) (Fx.L.v (.bool false) (x_assign rfl rfl) (Fx.L.nil (Fx.seqN (Fx.W.ret (⟨.bool false, Fx.retV1 Try.results113 (by exact rfl), ?_⟩)))))
  exact ⟨by rw [decide_eq_false c7], b1⟩
theorem q_index (a : Option Addr) (n cap : Nat) (id par : Nat → Int) (R : Nat → Nat → Int) (gx : Nat) (x : Int) (w : World) (hnd : Fx.Arr w a n 56 (Fx.flat 56 fun k => ndY (id k) (par k) (R k))) (hgx : Fx.Blk w gx 1 (fun _ => .int .u64 (x)) 27) (hn : n ≤ 1000000) :
    Calls Try.prog 112 #[.slice a (n) (cap), .func (.func 113) #[] #[.pointer (some ⟨gx, 0, none⟩)]] w fun e w' => e = .returned (.int .i64 (firstS id n x)) ∧ Below w.heap.size w w' := by
 have lgx := hgx.lt
 refine Fx.enter Try.func112 rfl (n := 19) rfl (by rfl) ?_
 refine Fx.W.seq (Fx.W.list (Fx.L.v (.int .i64 (0)) (x_assign rfl rfl) (Fx.L.nil (Fx.seqN (Fx.W.seq (Fx.W.seq (Fx.W.list (Fx.L.v (.slice a (n) (cap)) (x_move rfl rfl) (Fx.L.v (.int .i64 ((n : Int))) (x_len rfl rfl rfl (by kernel_rfl)) (Fx.L.v (.int .i64 (0)) (x_move rfl rfl) (Fx.L.nil (Fx.seqN (Fx.W.block (Fx.W.loop (fun f w_ => ∃ k : Nat, k ≤ n ∧ (∀ i, i < k → (fun i => decide (id i = x)) i = false) ∧ f 0 = .slice a (n) (cap) ∧ f 1 = .func (.func 113) #[] #[.pointer (some ⟨gx, 0, none⟩)] ∧ f 7 = .int .i64 ((n : Int)) ∧ f 8 = .int .i64 ((k : Int)) ∧ Fx.Blk w_ gx 1 (fun _ => .int .u64 (x)) 27 ∧ Below w.heap.size w w_) (fun f _ => (n - (intOf (f 8)).toNat)) ⟨0, by omega, (fun i h => absurd h (by omega)), (by rfl), (by rfl), (by first | rfl | exact congrArg (Value.int .i64) (by omega)), (by first | rfl | exact congrArg (Value.int .i64) (by omega)), hgx, (Below.refl w.heap.size w)⟩ ?_))))))))))))))
 rintro f1 w1 ⟨k, hk, hall, h1, h2, h3, h4, m1, b1⟩
 refine Fx.W.seq (Fx.W.list ?_)
 by_cases c9 : (k : Int) < (n : Int)
 ·refine Fx.L.v (.bool true) (Fx.x_lssT rfl h4 h3 c9) (Fx.L.nil (Fx.seqN (Fx.W.seq (Fx.W.cond (b := true) rfl (fun _ => Fx.W.skip (Fx.seqN (Fx.W.seq (Fx.W.block (Fx.W.seq (Fx.W.list (Fx.L.v (.int .i64 ((k : Int))) (x_move rfl h4) ?_))))))) (fun h => nomatch h)))))
  refine Fx.L.v (.int .i64 ((k : Int))) (x_assign rfl rfl) (Fx.L.nil (Fx.seqN (Fx.W.seq (Fx.W.list (Fx.L.v (.func (.func 113) #[] #[.pointer (some ⟨gx, 0, none⟩)]) (x_move rfl h2) (Fx.L.v (.slice a (n) (cap)) (x_move rfl h1) (Fx.L.v (.int .i64 ((k : Int))) (x_move rfl rfl) ?_)))))))
  obtain ⟨bq1, oq1, eq1, m2⟩ := (hnd.up b1 rfl) (by omega)
  have lbq1 : bq1 < w1.heap.size := m2.lt (by omega)
  refine Fx.L.v (.pointer (some ⟨bq1, 56 * k + oq1, none⟩)) (x_indexS rfl (rfl.trans (congrArg (fun q => Value.slice q (n) (cap)) eq1)) rfl Try.underlying40 (s := 56) (by kernel_rfl) (by omega) (by omega) (by omega)) (Fx.L.v (.agg (Fx.varr 56 (ndY (id k) (par k) (R k)))) (x_loadA (x := Fx.flat 56 (fun kq => ndY (id kq) (par kq) (R kq))) (y := ndY (id k) (par k) (R k)) rfl rfl (by kernel_rfl) (by kernel_rfl) m2 (i := 56 * k) (by omega) (by omega) (fun jq hjq => Fx.flat_at (k := k) (by omega) hjq)) ?_)
  by_cases c16 : (decide (id k = x)) = true
  ·refine Fx.L.call (by rfl) (Fx.r_clo (args := [.agg (Fx.varr 56 (ndY (id k) (par k) (R k)))]) rfl rfl rfl (all := #[.agg (Fx.varr 56 (ndY (id k) (par k) (R k))), .pointer (some ⟨gx, 0, none⟩)]) rfl Try.func113 rfl rfl) rfl ((q_find1 (id k) (par k) (R k) gx x _ m1).mono ?_)
   rintro e w2 ⟨he, hb1⟩
   refine ⟨.bool true, by rw [he, c16], ?_⟩
   clear he
   have s1 := Fx.Stp.of_below hb1
   have b2 := s1.below b1 b1.size b1.size
   refine Fx.L.nil (Fx.seqN (Fx.W.cond (b := true) rfl (fun _ => Fx.W.seq (Fx.W.list (Fx.L.v (.int .i64 ((k : Int))) (x_move rfl rfl) ?_))) (fun h => nomatch h)))
   refine Fx.L.v (.int .i64 ((k : Int))) (x_assign rfl rfl) (Fx.L.nil (Fx.seqN (Fx.W.ret (Fx.blkR (Fx.seqR (Fx.lpR (Fx.blkR (Fx.seqR (⟨.int .i64 ((k : Int)), Fx.retV1 Try.results112 (by exact rfl), ?_⟩)))))))))
   exact ⟨congrArg (fun q => Ending.returned (Value.int .i64 q)) (Eq.symm (firstI_hit hall c16 (by omega))), b2⟩
  ·rw [Bool.not_eq_true] at c16
   refine Fx.L.call (by rfl) (Fx.r_clo (args := [.agg (Fx.varr 56 (ndY (id k) (par k) (R k)))]) rfl rfl rfl (all := #[.agg (Fx.varr 56 (ndY (id k) (par k) (R k))), .pointer (some ⟨gx, 0, none⟩)]) rfl Try.func113 rfl rfl) rfl ((q_find1 (id k) (par k) (R k) gx x _ m1).mono ?_)
   rintro e w3 ⟨he, hb2⟩
   refine ⟨.bool false, by rw [he, c16], ?_⟩
   clear he
   have s2 := Fx.Stp.of_below hb2
   have m5 := m1.stp s2 (Nat.ne_of_lt (m1.lt))
   have b3 := s2.below b1 b1.size b1.size
   refine Fx.L.nil (Fx.seqN (Fx.W.cond (b := false) rfl (fun h => nomatch h) (fun _ => Fx.W.skip (Fx.blkN (Fx.seqN (Fx.W.list (Fx.L.v (.int .i64 ((k : Int) + 1)) (Fx.x_add rfl h4 rfl (Fx.i64e (by omega) (by omega))) (Fx.L.v (.int .i64 ((k : Int) + 1)) (x_move rfl rfl) (Fx.L.nil (Fx.lpN ⟨k + 1, by omega, (none_step hall c16), h1, h2, (h3.trans (by first | rfl | exact congrArg (Value.int .i64) (by omega))), (by first | rfl | exact congrArg (Value.int .i64) (by omega)), m5, b3⟩ ?_))))))))))
   show (n - (intOf ((.int .i64 ((k : Int) + 1)))).toNat) < _
   simp only [h4, intOf]; omega
 ·refine Fx.L.v (.bool false) (Fx.x_lssF rfl h4 h3 c9) (Fx.L.nil (Fx.seqN (Fx.W.seq (Fx.W.cond (b := false) rfl (fun h => nomatch h) (fun _ => Fx.W.exit (Fx.seqX (Fx.lpX (Fx.blkX (Fx.seqN (Fx.W.seq (Fx.W.list (Fx.L.v (.int .i64 (-1)) (x_assign rfl rfl) (Fx.L.nil (Fx.seqN (Fx.W.ret (⟨.int .i64 (-1), Fx.retV1 Try.results112 (by exact rfl), ?_⟩))))))))))))))))
  exact ⟨congrArg (fun q => Ending.returned (Value.int .i64 q)) (Eq.symm (firstI_none (fun i hi => hall i (by omega)))), b1⟩
theorem q_find (s : StM) (id par : Nat → Int) (R : Nat → Nat → Int) (x : Int) (w : World) (hnd : Fx.Arr w s.na s.nn 56 (Fx.flat 56 fun k => ndY (id k) (par k) (R k))) (hnn : s.nn ≤ 1000000) :
    Calls Try.prog 77 #[.agg (Fx.varr 20 (stY s)), .int .u64 (x)] w fun e w' => e = .returned (.int .i64 (firstS id s.nn x)) ∧ Below w.heap.size w w' := by
 refine Fx.enter Try.func77 rfl (n := 9) rfl (by rfl) ?_
 refine Fx.W.seq (Fx.W.list (Fx.L.box (m := 20) (y := stY s) (by rfl) rfl rfl (Fx.cells_agg _ _) rfl fun g1 w1 eg1 m1 s1 z1 => ?_))
 have b1 := s1.below (Below.refl w.heap.size w) (Below.refl w.heap.size w).size (Below.refl w.heap.size w).size
 have lg1 : w.heap.size ≤ g1 := by rw [eg1]; exact (Below.refl w.heap.size w).size
 have tg1 : g1 < w1.heap.size := m1.lt
 clear eg1
 refine Fx.L.box (m := 1) (y := fun _ => .int .u64 (x)) (by rfl) rfl rfl (Fx.cells_one (by rfl)) rfl fun g2 w2 eg2 m2 s2 z2 => ?_
 have m3 := m1.stp s2 (Nat.ne_of_lt (m1.lt))
 have b2 := s2.below b1 b1.size b1.size
 have lg2 : w.heap.size ≤ g2 := by rw [eg2]; exact b1.size
 have ng2m3 : g1 ≠ g2 := by rw [eg2]; exact Nat.ne_of_lt (m1.lt)
 have tg2 : g2 < w2.heap.size := m2.lt
 clear eg2
 refine Fx.L.v (.int .i64 (0)) (x_assign rfl rfl) (Fx.L.nil (Fx.seqN (Fx.W.seq (Fx.W.list (Fx.L.v (.pointer (some ⟨g1, 18, none⟩)) (x_field rfl rfl Try.underlying43 rfl (s := 1) (by kernel_rfl) rfl (by show _ + 18 = _; omega)) (Fx.L.v (.slice s.na (s.nn) (s.nc)) (x_load1 (x := stY s) rfl rfl (by kernel_rfl) m3.cel (i := 18) (by omega) (by omega) rfl) (Fx.L.v (.func (.func 113) #[] #[.pointer (some ⟨g2, 0, none⟩)]) (Fx.x_func (us := []) (vs := [.pointer (some ⟨g2, 0, none⟩)]) rfl rfl rfl) (Fx.L.call (by rfl) (Fx.r_call (args := [.slice s.na (s.nn) (s.nc), .func (.func 113) #[] #[.pointer (some ⟨g2, 0, none⟩)]]) rfl rfl Try.func112 rfl rfl) rfl ((q_index s.na s.nn s.nc id par R g2 x _ (hnd.up b2 rfl) m2 hnn).mono ?_)))))))))
 rintro e w3 ⟨he, hb1⟩
 refine ⟨.int .i64 (firstS id s.nn x), by rw [he], ?_⟩
 clear he
 have s3 := Fx.Stp.of_below hb1
 have b3 := s3.below b2 b2.size b2.size
 refine Fx.L.v (.int .i64 (firstS id s.nn x)) (x_assign rfl rfl) (Fx.L.nil (Fx.seqN (Fx.W.ret (⟨.int .i64 (firstS id s.nn x), Fx.retV1 Try.results77 (by exact rfl), ?_⟩))))
 exact ⟨rfl, b3⟩
theorem Rt.pu_app {id par : Nat → Int} {n k : Nat} {x : Int} {z : Nat → Value} : ∀ j, j < (k + 1) * 1 → Fx.appX (ptU id par n x) (k * 1) (Fx.ovr z (0 * 1) 1 (fun _ => .int .u64 (iterS id par n k x))) j = ptU id par n x j := fun j hj => by
  unfold Fx.appX
  by_cases h : j < k * 1
  · rw [if_pos h]
  · rw [if_neg h]
    unfold Fx.ovr
    rw [if_pos (by omega)]
    show Value.int .u64 (iterS id par n k x) = Value.int .u64 (iterS id par n j x)
    rw [show j = k by omega]
theorem Rt.first_ge {id : Nat → Int} {n : Nat} {x : Int} (h : 0 ≤ firstS id n x) : ∃ j : Nat, j < n ∧ firstS id n x = (j : Int) ∧ id j = x := by
  rcases firstI_spec (fun i => decide (id i = x)) n with ⟨k, hk, e, hp⟩ | ⟨e, _⟩
  · exact ⟨k, hk, e, of_decide_eq_true hp⟩
  · unfold firstS at h; rw [e] at h; omega
theorem Rt.path_step {id par : Nat → Int} {n k : Nat} {x : Int} (h : ∀ i, i < k → 0 ≤ firstS id n (iterS id par n i x)) (h2 : 0 ≤ firstS id n (iterS id par n k x)) : ∀ i, i < k + 1 → 0 ≤ firstS id n (iterS id par n i x) := fun i hi => by
  by_cases e : i = k
  · rw [e]; exact h2
  · exact h i (by omega)
set_option maxRecDepth 10000 in
theorem q_path (s : StM) (id par : Nat → Int) (R : Nat → Nat → Int) (x : Int) (w : World) (hnd : Fx.Arr w s.na s.nn 56 (Fx.flat 56 fun k => ndY (id k) (par k) (R k))) (hnn : s.nn ≤ 1000000) :
    Calls Try.prog 38 #[.agg (Fx.varr 20 (stY s)), .int .u64 (x)] w fun e w' => ∃ v n, e = .returned v ∧ n = pathS id par s.nn x ∧ Fx.Own w' w.heap.size 27 1 v n (ptU id par s.nn x) ∧ Below w.heap.size w w' := by
 refine Fx.enter Try.func38 rfl (n := 30) rfl (by rfl) ?_
 refine Fx.W.seq (Fx.W.list (Fx.L.box (m := 20) (y := stY s) (by rfl) rfl rfl (Fx.cells_agg _ _) rfl fun g1 w1 eg1 m1 s1 z1 => ?_))
 have b1 := s1.below (Below.refl w.heap.size w) (Below.refl w.heap.size w).size (Below.refl w.heap.size w).size
 have lg1 : w.heap.size ≤ g1 := by rw [eg1]; exact (Below.refl w.heap.size w).size
 have tg1 : g1 < w1.heap.size := m1.lt
 clear eg1
 refine Fx.L.v (.slice none 0 0) (x_assign rfl rfl) (Fx.L.nil (Fx.seqN (Fx.W.seq (Fx.W.seq (Fx.W.list (Fx.L.v (.agg (Fx.varr 20 (stY s))) (x_loadA (x := stY s) (y := stY s) rfl rfl (by kernel_rfl) (by kernel_rfl) m1.cel (i := 0) (by omega) (by omega) (fun j _ => by rw [Nat.zero_add])) (Fx.L.v (.int .u64 (x)) (x_move rfl rfl) (Fx.L.call (by rfl) (Fx.r_call (args := [.agg (Fx.varr 20 (stY s)), .int .u64 (x)]) rfl rfl Try.func77 rfl rfl) rfl ((q_find s id par R x _ (hnd.up b1 rfl) hnn).mono ?_)))))))))
 rintro e w2 ⟨he, hb1⟩
 refine ⟨.int .i64 (firstS id s.nn x), by rw [he], ?_⟩
 clear he
 have s2 := Fx.Stp.of_below hb1
 have m2 := m1.stp s2 (Nat.ne_of_lt (m1.lt))
 have b2 := s2.below b1 b1.size b1.size
 refine Fx.L.v (.int .i64 (firstS id s.nn x)) (x_assign rfl rfl) (Fx.L.nil (Fx.seqN (Fx.W.block ?_)))
 have m3 : Fx.Own w2 w.heap.size 27 1 (.slice none 0 0) 0 (ptU id par s.nn x) := Fx.Own.nil _ _ _ _ _
 refine Fx.W.loop (fun f w_ => ∃ k : Nat, ∃ a : Option Addr, ∃ cap : Nat, k ≤ 32 ∧ (∀ i, i < k → 0 ≤ firstS id s.nn (iterS id par s.nn i x)) ∧ f 1 = .int .u64 (iterS id par s.nn k x) ∧ f 2 = .pointer (some ⟨g1, 0, none⟩) ∧ f 4 = .slice a (k) (cap) ∧ f 5 = .int .i64 (firstS id s.nn (iterS id par s.nn k x)) ∧ Fx.Blk w_ g1 20 (stY s) 43 ∧ Fx.Own w_ w.heap.size 27 1 (.slice a (k) (cap)) k (ptU id par s.nn x) ∧ Below w.heap.size w w_) (fun f _ => (32 - lenV (f 4))) ⟨0, none, 0, by omega, (fun i h => absurd h (by omega)), (by first | rfl | exact congrArg (Value.int .u64) (by omega)), (by rfl), (by rfl), (by first | rfl | exact congrArg (Value.int .i64) (by omega)), m2, m3, b2⟩ ?_
 rintro f1 w3 ⟨k, a, cap, hk, hall, h1, h2, h3, h4, m4, m5, b3⟩
 refine Fx.W.seq (Fx.W.seq (Fx.W.list (Fx.L.v (.int .i64 (firstS id s.nn (iterS id par s.nn k x))) (x_move rfl h4) ?_)))
 by_cases c10 : 0 ≤ (firstS id s.nn (iterS id par s.nn k x))
 ·refine Fx.L.v (.bool true) (Fx.x_geqT rfl rfl rfl c10) (Fx.L.v (.bool true) (x_move rfl rfl) (Fx.L.v (.slice a (k) (cap)) (x_move rfl h3) (Fx.L.v (.int .i64 ((k : Int))) (x_len rfl rfl rfl (by kernel_rfl)) ?_)))
  by_cases c14 : (k : Int) < 32
  ·refine Fx.L.v (.bool true) (Fx.x_lssT rfl rfl rfl c14) (Fx.L.v (.bool true) (x_pickT rfl rfl rfl) (Fx.L.nil (Fx.seqN (Fx.W.cond (b := true) rfl (fun _ => Fx.W.skip (Fx.seqN (Fx.W.seq (Fx.W.block (Fx.W.seq (Fx.W.list (Fx.L.v (.slice a (k) (cap)) (x_move rfl h3) ?_))))))) (fun h => nomatch h)))))
   refine Fx.L.v (.int .u64 (iterS id par s.nn k x)) (x_move rfl h1) (Fx.L.bslice (vs := [(0, .int .u64 (iterS id par s.nn k x))]) (s := 1) (zc := Fx.rv .u64 (fun _ => 0)) (y := Fx.ovr (fun j => (Fx.rv .u64 (fun _ => 0)) (j % 1)) (0 * 1) 1 (fun _ => .int .u64 (iterS id par s.nn k x))) (by rfl) rfl rfl Try.underlying68 (by kernel_rfl) (by rfl) (by rfl) (by kernel_rfl) (by rw [Fx.fill_step (off := 0 * 1) (s := 1) (y := fun _ => .int .u64 (iterS id par s.nn k x)) rfl (Fx.cells_one (by rfl)) (by rfl)]; rfl) rfl fun g2 w4 eg2 m6 s3 z2 => ?_)
   have m7 := m4.stp s3 (Nat.ne_of_lt (m4.lt))
   have m8 := m5.stp s3 (m5.notNew (Nat.le_refl _))
   have b4 := s3.below b3 b3.size b3.size
   have lg2 : w.heap.size ≤ g2 := by rw [eg2]; exact b3.size
   have ng2m7 : g1 ≠ g2 := by rw [eg2]; exact Nat.ne_of_lt (m4.lt)
   have ng2m8 : (.slice a (k) (cap) : Value).ownBlock ≠ some g2 := by rw [eg2]; exact m5.notNew (Nat.le_refl _)
   have tg2 : g2 < w4.heap.size := m6.lt
   clear eg2
   refine Fx.L.app (B := w.heap.size) (s := 1) (bytes := 8) (k := k) (m := 1) (v := .slice a (k) (cap)) (x := ptU id par s.nn x) (by rfl) rfl rfl rfl Try.underlying68 (by kernel_rfl) (by kernel_rfl) rfl rfl m8 m6.cel (ovr_one (fun _ => rfl)) (by omega) (by omega) (by omega) b4.size fun g3 cap1 w5 ho1 hg1 hgv1 hlt1 => ?_
   have hct1 := Fx.ChT.of_grown hg1 m8
   have m10 := m7.chT hct1 (by decide)
   have m9 : Fx.Own w5 w.heap.size 27 1 (.slice (some ⟨g3, 0, none⟩) (k + 1) cap1) (k + 1) (ptU id par s.nn x) := (ho1.congr (fun j hj => pu_app j hj))
   have b5 : Below w.heap.size w w5 := Fx.Below.grow b4 hg1 b4.size (fun q hq => (m8.ge hq).1)
   refine Fx.L.v (.slice (some ⟨g3, 0, none⟩) (k + 1) (cap1)) (x_assign rfl rfl) (Fx.L.nil (Fx.seqN ?_))
   obtain ⟨j, hj, ej, _⟩ := first_ge c10
   have ei : iterS id par s.nn (k + 1) x = par j := by show par (firstS id s.nn (iterS id par s.nn k x)).toNat = _; rw [ej]; rfl
   refine Fx.W.list (Fx.L.v (.pointer (some ⟨g1, 18, none⟩)) (x_field rfl h2 Try.underlying43 rfl (s := 1) (by kernel_rfl) rfl (by show _ + 18 = _; omega)) (Fx.L.v (.slice s.na (s.nn) (s.nc)) (x_load1 (x := stY s) rfl rfl (by kernel_rfl) m10.cel (i := 18) (by omega) (by omega) rfl) (Fx.L.v (.int .i64 ((j : Int))) (x_move rfl (h4.trans (congrArg (Value.int .i64) ej))) ?_)))
   obtain ⟨bq1, oq1, eq1, m11⟩ := (hnd.up b5 rfl) (by omega)
   have lbq1 : bq1 < w5.heap.size := m11.lt (by omega)
   refine Fx.L.v (.pointer (some ⟨bq1, 56 * j + oq1, none⟩)) (x_indexS rfl (rfl.trans (congrArg (fun q => Value.slice q (s.nn) (s.nc)) eq1)) rfl Try.underlying40 (s := 56) (by kernel_rfl) (by omega) (by omega) (by omega)) (Fx.L.v (.pointer (some ⟨bq1, 56 * j + oq1 + 1, none⟩)) (x_field rfl rfl Try.underlying50 rfl (s := 1) (by kernel_rfl) rfl (by show _ + 1 = _; omega)) (Fx.L.v (.int .u64 (par j)) (x_load1 (x := Fx.flat 56 (fun kq => ndY (id kq) (par kq) (R kq))) rfl rfl (by kernel_rfl) m11 (i := 56 * j + 1) (by omega) (by omega) (Fx.flat_cell (k := j) (j := 1) (by omega) (by omega) rfl)) (Fx.L.v (.int .u64 (par j)) (x_assign rfl rfl) (Fx.L.nil (Fx.blkN (Fx.seqN (Fx.W.list (Fx.L.v (.agg (Fx.varr 20 (stY s))) (x_loadA (x := stY s) (y := stY s) rfl h2 (by kernel_rfl) (by kernel_rfl) m10.cel (i := 0) (by omega) (by omega) (fun j _ => by rw [Nat.zero_add])) (Fx.L.v (.int .u64 (iterS id par s.nn (k + 1) x)) (x_move rfl (rfl.trans (congrArg (Value.int .u64) ei.symm))) (Fx.L.call (by rfl) (Fx.r_call (args := [.agg (Fx.varr 20 (stY s)), .int .u64 (iterS id par s.nn (k + 1) x)]) rfl rfl Try.func77 rfl rfl) rfl ((q_find s id par R (iterS id par s.nn (k + 1) x) _ (hnd.up b5 rfl) hnn).mono ?_)))))))))))
   rintro e w6 ⟨he, hb2⟩
   refine ⟨.int .i64 (firstS id s.nn (iterS id par s.nn (k + 1) x)), by rw [he], ?_⟩
   clear he
   have s4 := Fx.Stp.of_below hb2
   have m12 := m10.stp s4 (Nat.ne_of_lt (m10.lt))
   have m13 := m9.stpB s4 (Nat.ne_of_lt (m9.lt))
   have b6 := s4.below b5 b5.size b5.size
   refine Fx.L.v (.int .i64 (firstS id s.nn (iterS id par s.nn (k + 1) x))) (x_assign rfl rfl) (Fx.L.nil ?_)
   skip
   refine Fx.lpN ⟨k + 1, (some ⟨g3, 0, none⟩), cap1, by omega, (path_step hall c10), ((rfl.trans (congrArg (Value.int .u64) ei.symm)).trans (by first | rfl | exact congrArg (Value.int .u64) (by omega))), h2, (by rfl), (by first | rfl | exact congrArg (Value.int .i64) (by omega)), m12, m13, b6⟩ ?_
   show (32 - lenV ((.slice (some ⟨g3, 0, none⟩) (k + 1) (cap1)))) < _
   simp only [h3, intOf, lenV]; omega
  ·refine Fx.L.v (.bool false) (Fx.x_lssF rfl rfl rfl c14) (Fx.L.v (.bool false) (x_pickT rfl rfl rfl) (Fx.L.nil (Fx.seqN (Fx.W.cond (b := false) rfl (fun h => nomatch h) (fun _ => Fx.W.exit (Fx.seqX (Fx.lpX (Fx.blkX (Fx.seqN (Fx.W.seq (Fx.W.list (Fx.L.v (.slice a (k) (cap)) (x_move rfl h3) (Fx.L.v (.slice a (k) (cap)) (x_assign rfl rfl) (Fx.L.nil (Fx.seqN (Fx.W.ret (⟨.slice a (k) (cap), Fx.retV1 Try.results38 (by exact rfl), ?_⟩)))))))))))))))))
   obtain rfl : k = 32 := by omega
   have hpe : 32 = pathS id par s.nn x := path_all hall
   exact ⟨_, _, rfl, hpe, m5, b3⟩
 ·refine Fx.L.v (.bool false) (Fx.x_geqF rfl rfl rfl c10) (Fx.L.v (.bool false) (x_move rfl rfl) (Fx.L.skip (by rfl) rfl (Fx.L.skip (by rfl) rfl (Fx.L.skip (by rfl) rfl (Fx.L.v (.bool false) (x_pickF rfl rfl rfl) (Fx.L.nil (Fx.seqN (Fx.W.cond (b := false) rfl (fun h => nomatch h) (fun _ => Fx.W.exit (Fx.seqX (Fx.lpX (Fx.blkX (Fx.seqN (Fx.W.seq (Fx.W.list (Fx.L.v (.slice a (k) (cap)) (x_move rfl h3) (Fx.L.v (.slice a (k) (cap)) (x_assign rfl rfl) (Fx.L.nil (Fx.seqN (Fx.W.ret (⟨.slice a (k) (cap), Fx.retV1 Try.results38 (by exact rfl), ?_⟩)))))))))))))))))))))
  have hpe : k = pathS id par s.nn x := path_end hall (by omega) hk
  exact ⟨_, _, rfl, hpe, m5, b3⟩
namespace Rt
def quN (r : Nat → Int) (k : Nat) : Nat → Value := fun p => if p = 0 then .int .i64 (sums r).1 else if p = 1 then .int .i64 (sums r).2 else .int .i64 (if p - 2 < k then localV r ((p : Int) - 1) else 0)
def quZ : Nat → Value := fun _ => .int .i64 (0)
def quF (id : Nat → Int) (n : Nat) (R : Nat → Nat → Int) (x : Int) : Nat → Value := if firstS id n x < 0 then quZ else quN (R (firstS id n x).toNat) 6
def quE (id : Nat → Int) (n : Nat) (x : Int) : Int := if firstS id n x < 0 then 9 else 0
theorem qu_one (r : Nat → Int) (k j : Nat) : (quN r k j).oneCell' = true := by unfold quN; repeat (first | rfl | split)
theorem qu_next {r : Nat → Int} {k q : Nat} (hq : q = k + 2) {v : Int} (hv : v = localV r ((k : Int) + 1)) : ∀ j, j < 8 → Fx.updV (quN r k) q (.int .i64 v) j = quN r (k + 1) j := fun j _ => by
  subst hq hv
  unfold Fx.updV quN
  by_cases h : j = k + 2
  · subst h; rw [if_pos rfl, if_neg (by omega), if_neg (by omega), if_pos (by omega)]; congr 2; omega
  · rw [if_neg h]
    by_cases h0 : j = 0
    · rw [if_pos h0, if_pos h0]
    · by_cases h1 : j = 1
      · rw [if_neg h0, if_pos h1, if_neg h0, if_pos h1]
      · rw [if_neg h0, if_neg h1, if_neg h0, if_neg h1]
        by_cases h2 : j - 2 < k
        · rw [if_pos h2, if_pos (by omega)]
        · rw [if_neg h2, if_neg (by omega)]
end Rt
set_option maxRecDepth 10000 in
theorem q_of (s : StM) (id par : Nat → Int) (R : Nat → Nat → Int) (x : Int) (w : World) (hnd : Fx.Arr w s.na s.nn 56 (Fx.flat 56 fun k => ndY (id k) (par k) (R k))) (hnn : s.nn ≤ 1000000) :
    Calls Try.prog 36 #[.agg (Fx.varr 20 (stY s)), .int .u64 (x)] w fun e w' => e = .returned (.tuple #[.agg (Fx.varr 8 (quF id s.nn R x)), .int .i64 (quE id s.nn x)]) ∧ Below w.heap.size w w' := by
 refine Fx.enter Try.func36 rfl (n := 40) rfl (by rfl) ?_
 refine Fx.W.seq (Fx.W.list (Fx.L.box (m := 20) (y := stY s) (by rfl) rfl rfl (Fx.cells_agg _ _) rfl fun g1 w1 eg1 m1 s1 z1 => ?_))
 have b1 := s1.below (Below.refl w.heap.size w) (Below.refl w.heap.size w).size (Below.refl w.heap.size w).size
 have lg1 : w.heap.size ≤ g1 := by rw [eg1]; exact (Below.refl w.heap.size w).size
 have tg1 : g1 < w1.heap.size := m1.lt
 clear eg1
 refine Fx.L.new (m := 8) (y := Fx.rv .i64 (fun _ => 0)) (by rfl) rfl (by kernel_rfl) rfl fun g2 w2 eg2 m2 s2 z2 => ?_
 have m3 := m1.stp s2 (Nat.ne_of_lt (m1.lt))
 have b2 := s2.below b1 b1.size b1.size
 have lg2 : w.heap.size ≤ g2 := by rw [eg2]; exact b1.size
 have ng2m3 : g1 ≠ g2 := by rw [eg2]; exact Nat.ne_of_lt (m1.lt)
 have tg2 : g2 < w2.heap.size := m2.lt
 clear eg2
 refine Fx.L.v (.int .i64 (0)) (x_assign rfl rfl) (Fx.L.nil (Fx.seqN (Fx.W.seq (Fx.W.list (Fx.L.v (.agg (Fx.varr 20 (stY s))) (x_loadA (x := stY s) (y := stY s) rfl rfl (by kernel_rfl) (by kernel_rfl) m3.cel (i := 0) (by omega) (by omega) (fun j _ => by rw [Nat.zero_add])) (Fx.L.v (.int .u64 (x)) (x_move rfl rfl) (Fx.L.call (by rfl) (Fx.r_call (args := [.agg (Fx.varr 20 (stY s)), .int .u64 (x)]) rfl rfl Try.func77 rfl rfl) rfl ((q_find s id par R x _ (hnd.up b2 rfl) hnn).mono ?_))))))))
 rintro e w3 ⟨he, hb1⟩
 refine ⟨.int .i64 (firstS id s.nn x), by rw [he], ?_⟩
 clear he
 have s3 := Fx.Stp.of_below hb1
 have m4 := m3.stp s3 (Nat.ne_of_lt (m3.lt))
 have m5 := m2.stp s3 (Nat.ne_of_lt (m2.lt))
 have b3 := s3.below b2 b2.size b2.size
 refine Fx.L.v (.int .i64 (firstS id s.nn x)) (x_assign rfl rfl) (Fx.L.nil (Fx.seqN (Fx.W.seq (Fx.W.seq (Fx.W.list (Fx.L.v (.int .i64 (firstS id s.nn x)) (x_move rfl rfl) ?_))))))
 by_cases c13 : (firstS id s.nn x) < 0
 ·refine Fx.L.v (.bool true) (Fx.x_lssT rfl rfl rfl c13) (Fx.L.nil (Fx.seqN (Fx.W.cond (b := true) rfl (fun _ => Fx.W.seq (Fx.W.list (Fx.L.v (.agg (Fx.varr 8 (Fx.rv .i64 (fun _ => 0)))) (x_loadA (x := Fx.rv .i64 (fun _ => 0)) (y := Fx.rv .i64 (fun _ => 0)) rfl rfl (by kernel_rfl) (by kernel_rfl) m5.cel (i := 0) (by omega) (by omega) (fun j _ => by rw [Nat.zero_add])) ?_))) (fun h => nomatch h))))
  refine Fx.L.storeA (x := Fx.rv .i64 (fun _ => 0)) (y := Fx.rv .i64 (fun _ => 0)) (by rfl) rfl rfl rfl rfl (fun _ _ => rfl) (by kernel_rfl) m5 (i := 0) (by omega) fun w4 m6 s4 z3 => ?_
  have m7 : Fx.Blk w4 g2 8 (Fx.rv .i64 (fun _ => 0)) 82 := Fx.ovr_all m6
  have b4 := s4.below b3 b3.size (by omega)
  refine Fx.L.v (.int .i64 (9)) (x_assign rfl rfl) (Fx.L.nil (Fx.seqN (Fx.W.ret (Fx.seqR (⟨.tuple #[.agg (Fx.varr 8 (Fx.rv .i64 (fun _ => 0))), .int .i64 (9)], Fx.retV2 Try.results36 ⟨_, rfl, Fx.run_loadV m7.cel (by kernel_rfl) (by kernel_rfl)⟩ (by exact rfl), ?_⟩)))))
  exact ⟨by unfold quF quE; rw [if_pos c13, if_pos c13]; rfl, b4⟩
 ·refine Fx.L.v (.bool false) (Fx.x_lssF rfl rfl rfl c13) (Fx.L.nil (Fx.seqN (Fx.W.cond (b := false) rfl (fun h => nomatch h) (fun _ => Fx.W.skip (Fx.seqN (Fx.W.seq ?_))))))
  obtain ⟨j, hj, ej, _⟩ := first_ge (show 0 ≤ firstS id s.nn x by omega)
  refine Fx.W.list (Fx.L.v (.pointer (some ⟨g1, 18, none⟩)) (x_field rfl rfl Try.underlying43 rfl (s := 1) (by kernel_rfl) rfl (by show _ + 18 = _; omega)) (Fx.L.v (.slice s.na (s.nn) (s.nc)) (x_load1 (x := stY s) rfl rfl (by kernel_rfl) m4.cel (i := 18) (by omega) (by omega) rfl) (Fx.L.v (.int .i64 ((j : Int))) (x_move rfl (congrArg (Value.int .i64) ej)) ?_)))
  obtain ⟨bq1, oq1, eq1, m9⟩ := (hnd.up b3 rfl) (by omega)
  have lbq1 : bq1 < w3.heap.size := m9.lt (by omega)
  refine Fx.L.v (.pointer (some ⟨bq1, 56 * j + oq1, none⟩)) (x_indexS rfl (rfl.trans (congrArg (fun q => Value.slice q (s.nn) (s.nc)) eq1)) rfl Try.underlying40 (s := 56) (by kernel_rfl) (by omega) (by omega) (by omega)) (Fx.L.v (.pointer (some ⟨bq1, 56 * j + oq1 + 2, none⟩)) (x_field rfl rfl Try.underlying50 rfl (s := 54) (by kernel_rfl) rfl (by show _ + 2 = _; omega)) (Fx.L.v (.agg (Fx.varr 54 (Fx.rv .i64 (R j)))) (x_loadA (x := Fx.flat 56 (fun kq => ndY (id kq) (par kq) (R kq))) (y := Fx.rv .i64 (R j)) rfl rfl (by kernel_rfl) (by kernel_rfl) m9 (i := 56 * j + 2) (by omega) (by omega) (fun jq hjq => (Fx.flat_at (k := j) (j := 2 + jq) (by omega) (by omega)).trans ((fun jq _ => ndY_row _ _ _ jq) jq hjq))) (Fx.L.new (m := 54) (y := Fx.rv .i64 (fun _ => 0)) (by rfl) rfl (by kernel_rfl) rfl fun g3 w5 eg3 m10 s5 z4 => ?_)))
  have m11 := m4.stp s5 (Nat.ne_of_lt (m4.lt))
  have m12 := m5.stp s5 (Nat.ne_of_lt (m5.lt))
  have m13 := m9.stp s5 (Nat.ne_of_lt (m9.lt (by omega)))
  have b5 := s5.below b3 b3.size b3.size
  have lg3 : w.heap.size ≤ g3 := by rw [eg3]; exact b3.size
  have ng3m11 : g1 ≠ g3 := by rw [eg3]; exact Nat.ne_of_lt (m4.lt)
  have ng3m12 : g2 ≠ g3 := by rw [eg3]; exact Nat.ne_of_lt (m5.lt)
  have ng3m13 : bq1 ≠ g3 := by rw [eg3]; exact Nat.ne_of_lt (m9.lt (by omega))
  have tg3 : g3 < w5.heap.size := m10.lt
  clear eg3
  refine Fx.L.storeA (x := Fx.rv .i64 (fun _ => 0)) (y := Fx.rv .i64 (R j)) (by rfl) rfl rfl rfl rfl (fun _ _ => rfl) (by kernel_rfl) m10 (i := 0) (by omega) fun w6 m14 s6 z5 => ?_
  have m15 : Fx.Blk w6 g3 54 (Fx.rv .i64 (R j)) 48 := Fx.ovr_all m14
  have hct2 := Fx.ChT.of_stp s6 m10.ty
  have m16 := m11.chT hct2 (by decide)
  have m17 := m12.chT hct2 (by decide)
  have m18 := m13.stp s6 (by omega)
  have b6 := s6.below b5 b5.size (by omega)
  refine Fx.L.nil (Fx.seqN (Fx.W.seq (Fx.W.list (Fx.L.v (.agg (Fx.varr 54 (Fx.rv .i64 (R j)))) (x_loadA (x := Fx.rv .i64 (R j)) (y := Fx.rv .i64 (R j)) rfl rfl (by kernel_rfl) (by kernel_rfl) m15.cel (i := 0) (by omega) (by omega) (fun j _ => by rw [Nat.zero_add])) (Fx.L.call (by rfl) (Fx.r_call (args := [.agg (Fx.varr 54 (Fx.rv .i64 (R j)))]) rfl rfl Try.func41 rfl rfl) rfl ((sums_any (R j) _).mono ?_))))))
  rintro e w7 ⟨he, hb2⟩
  refine ⟨.tuple #[.int .i64 ((sums (R j)).1), .int .i64 ((sums (R j)).2)], by rw [he], ?_⟩
  clear he
  have s7 := Fx.Stp.of_below hb2
  have m19 := m16.stp s7 (Nat.ne_of_lt (m16.lt))
  have m20 := m17.stp s7 (Nat.ne_of_lt (m17.lt))
  have m21 := m15.stp s7 (Nat.ne_of_lt (m15.lt))
  have b7 := s7.below b6 b6.size b6.size
  refine Fx.L.v (.tuple #[.int .i64 ((sums (R j)).1), .int .i64 ((sums (R j)).2)]) (x_move rfl rfl) (Fx.L.v (.int .i64 ((sums (R j)).1)) (Fx.x_extract rfl rfl rfl) (Fx.L.v (.int .i64 ((sums (R j)).2)) (Fx.x_extract rfl rfl rfl) (Fx.L.v (.pointer (some ⟨g2, 0, none⟩)) (x_field rfl rfl Try.underlying82 rfl (s := 1) (by kernel_rfl) rfl rfl) (Fx.L.store1 (x := Fx.rv .i64 (fun _ => 0)) (u := .int .i64 ((sums (R j)).1)) (by rfl) rfl rfl rfl rfl (by rfl) (by kernel_rfl) m20 (i := 0) (by omega) fun w8 m22 s8 z6 => ?_))))
  have m23 : Fx.Blk w8 g2 8 (Fx.rv .i64 (upd (fun _ => 0) 0 ((sums (R j)).1))) 82 := m22.to (Fx.updV_rv _ _ _ _)
  have hct3 := Fx.ChT.of_stp s8 m20.ty
  have m24 := m19.chT hct3 (by decide)
  have m25 := m21.chT hct3 (by decide)
  have b8 := s8.below b7 b7.size (by omega)
  refine Fx.L.v (.pointer (some ⟨g2, 1, none⟩)) (x_field rfl rfl Try.underlying82 rfl (s := 1) (by kernel_rfl) rfl (by show _ + 1 = _; omega)) (Fx.L.store1 (x := Fx.rv .i64 (upd (fun _ => 0) 0 ((sums (R j)).1))) (u := .int .i64 ((sums (R j)).2)) (by rfl) rfl rfl rfl rfl (by rfl) (by kernel_rfl) m23 (i := 1) (by omega) fun w9 m26 s9 z7 => ?_)
  have m27 : Fx.Blk w9 g2 8 (Fx.rv .i64 (upd (upd (fun _ => 0) 0 ((sums (R j)).1)) 1 ((sums (R j)).2))) 82 := m26.to (Fx.updV_rv _ _ _ _)
  have hct4 := Fx.ChT.of_stp s9 m23.ty
  have m28 := m24.chT hct4 (by decide)
  have m29 := m25.chT hct4 (by decide)
  have b9 := s9.below b8 b8.size (by omega)
  refine Fx.L.nil (Fx.seqN (Fx.W.seq (Fx.W.seq ?_)))
  have m30 : Fx.Blk w9 g2 8 (quN (R j) 0) 82 := m27.congr (fun j hj => by rcases j with _|_|_|_|_|_|_|_|j <;> first | rfl | omega)
  refine Fx.W.list (Fx.L.v (.int .i64 (0)) (x_move rfl rfl) (Fx.L.nil (Fx.seqN (Fx.W.block (Fx.W.loop (fun f w_ => ∃ k : Nat, k ≤ 6 ∧ f 4 = .pointer (some ⟨g2, 0, none⟩) ∧ f 7 = .pointer (some ⟨g3, 0, none⟩) ∧ f 28 = .int .i64 ((k : Int)) ∧ Fx.Blk w_ g1 20 (stY s) 43 ∧ Fx.Blk w_ g3 54 (Fx.rv .i64 (R j)) 48 ∧ Fx.Blk w_ g2 8 (quN (R j) k) 82 ∧ Below w.heap.size w w_) (fun f _ => (6 - (intOf (f 28)).toNat)) ⟨0, by omega, (by rfl), (by rfl), (by first | rfl | exact congrArg (Value.int .i64) (by omega)), m28, m29, m30, b9⟩ ?_)))))
  rintro f1 w10 ⟨k, hk, h1, h2, h3, m31, m32, m33, b10⟩
  refine Fx.W.seq (Fx.W.list ?_)
  by_cases c29 : (k : Int) < 6
  ·refine Fx.L.v (.bool true) (Fx.x_lssT rfl h3 rfl c29) (Fx.L.nil (Fx.seqN (Fx.W.seq (Fx.W.cond (b := true) rfl (fun _ => Fx.W.skip (Fx.seqN (Fx.W.seq (Fx.W.block (Fx.W.seq (Fx.W.list (Fx.L.v (.int .i64 ((k : Int))) (x_move rfl h3) ?_))))))) (fun h => nomatch h)))))
   refine Fx.L.v (.int .i64 ((k : Int))) (x_assign rfl rfl) (Fx.L.nil (Fx.seqN (Fx.W.list (Fx.L.v (.int .i64 ((k : Int))) (x_move rfl rfl) (Fx.L.v (.agg (Fx.varr 54 (Fx.rv .i64 (R j)))) (x_loadA (x := Fx.rv .i64 (R j)) (y := Fx.rv .i64 (R j)) rfl h2 (by kernel_rfl) (by kernel_rfl) m32.cel (i := 0) (by omega) (by omega) (fun j _ => by rw [Nat.zero_add])) (Fx.L.v (.int .i64 ((k : Int))) (x_move rfl rfl) (Fx.L.v (.int .i64 ((k : Int) + 1)) (Fx.x_add rfl rfl rfl (Fx.i64e (by omega) (by omega))) (Fx.L.call (by rfl) (Fx.r_call (args := [.agg (Fx.varr 54 (Fx.rv .i64 (R j))), .int .i64 ((k : Int) + 1)]) rfl rfl Try.func43 rfl rfl) rfl ((localV_any (R j) ((k : Int) + 1) _ (by omega)).mono ?_)))))))))
   rintro e w11 ⟨he, hb3⟩
   refine ⟨.int .i64 (localV (R j) ((k : Int) + 1)), by rw [he], ?_⟩
   clear he
   have s10 := Fx.Stp.of_below hb3
   have m34 := m31.stp s10 (Nat.ne_of_lt (m31.lt))
   have m35 := m32.stp s10 (Nat.ne_of_lt (m32.lt))
   have m36 := m33.stp s10 (Nat.ne_of_lt (m33.lt))
   have b11 := s10.below b10 b10.size b10.size
   refine Fx.L.v (.pointer (some ⟨g2, 2, none⟩)) (x_field rfl h1 Try.underlying82 rfl (s := 6) (by kernel_rfl) rfl (by show _ + 2 = _; omega)) (Fx.L.v (.pointer (some ⟨g2, k + 2, none⟩)) (x_index rfl rfl rfl Try.underlying45 (s := 1) (by kernel_rfl) (by omega) (by omega) (by omega)) (Fx.L.store1 (x := quN (R j) k) (u := .int .i64 (localV (R j) ((k : Int) + 1))) (by rfl) rfl rfl rfl rfl (by rfl) (by kernel_rfl) m36 (i := k + 2) (by omega) fun w12 m37 s11 z8 => ?_))
   have hct5 := Fx.ChT.of_stp s11 m36.ty
   have m38 := m34.chT hct5 (by decide)
   have m39 := m35.chT hct5 (by decide)
   have b12 := s11.below b11 b11.size (by omega)
   refine Fx.L.nil (Fx.blkN (Fx.seqN ?_))
   have m40 : Fx.Blk w12 g2 8 (quN (R j) (k + 1)) 82 := m37.congr (qu_next (by omega) rfl)
   refine Fx.W.list (Fx.L.v (.int .i64 ((k : Int) + 1)) (Fx.x_add rfl h3 rfl (Fx.i64e (by omega) (by omega))) (Fx.L.v (.int .i64 ((k : Int) + 1)) (x_move rfl rfl) (Fx.L.nil (Fx.lpN ⟨k + 1, by omega, h1, h2, (by first | rfl | exact congrArg (Value.int .i64) (by omega)), m38, m39, m40, b12⟩ ?_))))
   show (6 - (intOf ((.int .i64 ((k : Int) + 1)))).toNat) < _
   simp only [h3, intOf]; omega
  ·refine Fx.L.v (.bool false) (Fx.x_lssF rfl h3 rfl c29) (Fx.L.nil (Fx.seqN (Fx.W.seq (Fx.W.cond (b := false) rfl (fun h => nomatch h) (fun _ => Fx.W.exit (Fx.seqX (Fx.lpX (Fx.blkX (Fx.seqN (Fx.W.seq (Fx.W.list (Fx.L.v (.agg (Fx.varr 8 (quN (R j) k))) (x_loadA (x := quN (R j) k) (y := quN (R j) k) rfl h1 (by kernel_rfl) (by kernel_rfl) m33.cel (i := 0) (by omega) (by omega) (fun j _ => by rw [Nat.zero_add])) (Fx.L.storeA (x := quN (R j) k) (y := quN (R j) k) (by rfl) rfl rfl h1 rfl (fun j _ => qu_one _ _ j) (by kernel_rfl) m33 (i := 0) (by omega) fun w13 m41 s12 z9 => ?_)))))))))))))
   have m42 : Fx.Blk w13 g2 8 (quN (R j) k) 82 := Fx.ovr_all m41
   have b13 := s12.below b10 b10.size (by omega)
   refine Fx.L.v (.int .i64 (0)) (x_assign rfl rfl) (Fx.L.nil (Fx.seqN (Fx.W.ret (⟨.tuple #[.agg (Fx.varr 8 (quN (R j) k)), .int .i64 (0)], Fx.retV2 Try.results36 ⟨_, h1, Fx.run_loadV m42.cel (by kernel_rfl) (by kernel_rfl)⟩ (by exact rfl), ?_⟩))))
   obtain rfl : k = 6 := by omega
   exact ⟨by unfold quF quE; rw [if_neg c13, if_neg c13, ej]; rfl, b13⟩
section
namespace Rt
def lsumV (r : Nat → Int) : Nat → Int
  | 0 => 0
  | k + 1 => lsumV r k + localV r ((k : Int) + 1)
section
variable {id par : Nat → Int} {n gn : Nat} {g : Nat → Nat → Int} {x y : Int} {L : LdC} {T : Nat}
theorem iter_eq (h : Inv0 L T) (h0 : 0 < L.nn) : ∀ k, iterS L.id L.par L.nn k x = iterT L.t L.tn k x
  | 0 => rfl
  | k + 1 => by
    show L.par (firstS L.id L.nn (iterS L.id L.par L.nn k x)).toNat = L.t (findT L.t L.tn (iterT L.t L.tn k x)).toNat 1
    rw [iter_eq h h0 k]
    have e : firstS L.id L.nn (iterT L.t L.tn k x) = findT L.t L.tn (iterT L.t L.tn k x) := h.node _
    rw [e]
    refine ((h.tid _ ?_).2).symm
    rcases ilt (findT L.t L.tn (iterT L.t L.tn k x)) with h1 | h1
    · rw [Int.toNat_of_nonpos (by omega)]; exact h0
    · obtain ⟨j, hj, e2, _⟩ := find_nat h1
      rw [e2, ← h.tnn]; exact hj
end
theorem lsumV_eq {r : Nat → Int} (h : may r = true) : uSum r + lsumV r 6 = gSum r := by
  have e : lsumV r 6 = L r 0 + L r 1 + L r 2 + L r 3 + L r 4 + L r 5 := by
    have e : ∀ k, k < 6 → lsumV r (k + 1) = lsumV r k + L r k := fun k hk => by rw [← localV_L h k hk]; rfl
    rw [e 5 (by omega), e 4 (by omega), e 3 (by omega), e 2 (by omega), e 1 (by omega), e 0 (by omega)]
    show 0 + _ + _ + _ + _ + _ + _ = _
    omega
  rw [e]; simp only [L, uSum, gSum]; omega
end Rt
end
namespace Rt
theorem qu_at {r : Nat → Int} {i p : Nat} (hp : p = i + 2) (hi : i < 6) : quN r 6 p = .int .i64 (localV r ((i : Int) + 1)) := by
  subst hp
  unfold quN
  rw [if_neg (by omega), if_neg (by omega), if_pos (by omega)]
  congr 2; omega
end Rt
namespace Rt
def locI (id : Nat → Int) (n : Nat) (R : Nat → Nat → Int) (x : Int) : Nat → Int := fun q => localV (R (firstS id n x).toNat) ((q : Int) + 1)
theorem qu_row {r : Nat → Int} (q : Nat) (hq : q < 6) : quN r 6 (2 + q) = Fx.rv .i64 (fun q => localV r ((q : Int) + 1)) q := qu_at (by omega) hq
end Rt
theorem q_of1 (s : StM) (id par : Nat → Int) (R : Nat → Nat → Int) (x : Int) (w : World) (hnd : Fx.Arr w s.na s.nn 56 (Fx.flat 56 fun k => ndY (id k) (par k) (R k))) (hnn : s.nn ≤ 1000000) (hf : 0 ≤ firstS id s.nn x) :
    Calls Try.prog 36 #[.agg (Fx.varr 20 (stY s)), .int .u64 (x)] w fun e w' => e = .returned (.tuple #[.agg (Fx.varr 8 (quN (R (firstS id s.nn x).toNat) 6)), .int .i64 (0)]) ∧ Below w.heap.size w w' := by
  have := q_of s id par R x w hnd hnn
  rw [show quF id s.nn R x = quN (R (firstS id s.nn x).toNat) 6 by unfold quF; rw [if_neg (by omega)], show quE id s.nn x = 0 by unfold quE; rw [if_neg (by omega)]] at this
  exact this
set_option maxRecDepth 10000 in
theorem ro_local (s : StM) (id par : Nat → Int) (R : Nat → Nat → Int) (x : Int) (w : World) (hnd : Fx.Arr w s.na s.nn 56 (Fx.flat 56 fun k => ndY (id k) (par k) (R k))) (hnn : s.nn ≤ 1000000) (hf : 0 ≤ firstS id s.nn x) :
    Calls Try.prog 105 #[.agg (Fx.varr 20 (stY s)), .int .u64 (x)] w fun e w' => e = .returned (.agg (Fx.varr 6 (Fx.rv .i64 (locI id s.nn R x)))) ∧ Below w.heap.size w w' := by
 refine Fx.enter Try.func105 rfl (n := 18) rfl (by rfl) ?_
 refine Fx.W.seq (Fx.W.list (Fx.L.box (m := 20) (y := stY s) (by rfl) rfl rfl (Fx.cells_agg _ _) rfl fun g1 w1 eg1 m1 s1 z1 => ?_))
 have b1 := s1.below (Below.refl w.heap.size w) (Below.refl w.heap.size w).size (Below.refl w.heap.size w).size
 have lg1 : w.heap.size ≤ g1 := by rw [eg1]; exact (Below.refl w.heap.size w).size
 have tg1 : g1 < w1.heap.size := m1.lt
 clear eg1
 refine Fx.L.new (m := 6) (y := Fx.rv .i64 (fun _ => 0)) (by rfl) rfl (by kernel_rfl) rfl fun g2 w2 eg2 m2 s2 z2 => ?_
 have m3 := m1.stp s2 (Nat.ne_of_lt (m1.lt))
 have b2 := s2.below b1 b1.size b1.size
 have lg2 : w.heap.size ≤ g2 := by rw [eg2]; exact b1.size
 have ng2m3 : g1 ≠ g2 := by rw [eg2]; exact Nat.ne_of_lt (m1.lt)
 have tg2 : g2 < w2.heap.size := m2.lt
 clear eg2
 refine Fx.L.nil (Fx.seqN (Fx.W.seq (Fx.W.list (Fx.L.v (.agg (Fx.varr 20 (stY s))) (x_loadA (x := stY s) (y := stY s) rfl rfl (by kernel_rfl) (by kernel_rfl) m3.cel (i := 0) (by omega) (by omega) (fun j _ => by rw [Nat.zero_add])) (Fx.L.v (.int .u64 (x)) (x_move rfl rfl) (Fx.L.call (by rfl) (Fx.r_call (args := [.agg (Fx.varr 20 (stY s)), .int .u64 (x)]) rfl rfl Try.func36 rfl rfl) rfl ((q_of1 s id par R x _ (hnd.up b2 rfl) hnn hf).mono ?_)))))))
 rintro e w3 ⟨he, hb1⟩
 refine ⟨.tuple #[.agg (Fx.varr 8 (quN (R (firstS id s.nn x).toNat) 6)), .int .i64 (0)], by rw [he], ?_⟩
 clear he
 have s3 := Fx.Stp.of_below hb1
 have m4 := m3.stp s3 (Nat.ne_of_lt (m3.lt))
 have m5 := m2.stp s3 (Nat.ne_of_lt (m2.lt))
 have b3 := s3.below b2 b2.size b2.size
 refine Fx.L.v (.tuple #[.agg (Fx.varr 8 (quN (R (firstS id s.nn x).toNat) 6)), .int .i64 (0)]) (x_move rfl rfl) (Fx.L.v (.agg (Fx.varr 8 (quN (R (firstS id s.nn x).toNat) 6))) (Fx.x_extract rfl rfl rfl) (Fx.L.v (.int .i64 (0)) (Fx.x_extract rfl rfl rfl) (Fx.L.new (m := 8) (y := Fx.rv .i64 (fun _ => 0)) (by rfl) rfl (by kernel_rfl) rfl fun g3 w4 eg3 m6 s4 z3 => ?_)))
 have m8 := m5.stp s4 (Nat.ne_of_lt (m5.lt))
 have b4 := s4.below b3 b3.size b3.size
 have lg3 : w.heap.size ≤ g3 := by rw [eg3]; exact b3.size
 have ng3m7 : g1 ≠ g3 := by rw [eg3]; exact Nat.ne_of_lt (m4.lt)
 have ng3m8 : g2 ≠ g3 := by rw [eg3]; exact Nat.ne_of_lt (m5.lt)
 have tg3 : g3 < w4.heap.size := m6.lt
 clear eg3
 refine Fx.L.storeA (x := Fx.rv .i64 (fun _ => 0)) (y := quN (R (firstS id s.nn x).toNat) 6) (by rfl) rfl rfl rfl rfl (fun j _ => qu_one _ _ j) (by kernel_rfl) m6 (i := 0) (by omega) fun w5 m9 s5 z4 => ?_
 have m10 : Fx.Blk w5 g3 8 (quN (R (firstS id s.nn x).toNat) 6) 82 := Fx.ovr_all m9
 have hct1 := Fx.ChT.of_stp s5 m6.ty
 have m12 := m8.chT hct1 (by decide)
 have b5 := s5.below b4 b4.size (by omega)
 refine Fx.L.v (.int .i64 (0)) (x_assign rfl rfl) (Fx.L.nil (Fx.seqN (Fx.W.seq (Fx.W.seq (Fx.W.list (Fx.L.v (.int .i64 (0)) (x_move rfl rfl) (Fx.L.v (.bool false) (Fx.x_neqF rfl rfl rfl rfl) (Fx.L.nil (Fx.seqN (Fx.W.cond (b := false) rfl (fun h => nomatch h) (fun _ => Fx.W.skip (Fx.seqN (Fx.W.seq (Fx.W.list (Fx.L.v (.pointer (some ⟨g3, 2, none⟩)) (x_field rfl rfl Try.underlying82 rfl (s := 6) (by kernel_rfl) rfl (by show _ + 2 = _; omega)) (Fx.L.v (.agg (Fx.varr 6 (Fx.rv .i64 (fun q => localV (R (firstS id s.nn x).toNat) ((q : Int) + 1))))) (x_loadA (x := quN (R (firstS id s.nn x).toNat) 6) (y := Fx.rv .i64 (fun q => localV (R (firstS id s.nn x).toNat) ((q : Int) + 1))) rfl rfl (by kernel_rfl) (by kernel_rfl) m10.cel (i := 2) (by omega) (by omega) (fun q hq => qu_row q hq)) (Fx.L.storeA (x := Fx.rv .i64 (fun _ => 0)) (y := Fx.rv .i64 (fun q => localV (R (firstS id s.nn x).toNat) ((q : Int) + 1))) (by rfl) rfl rfl rfl rfl (fun _ _ => rfl) (by kernel_rfl) m12 (i := 0) (by omega) fun w6 m13 s6 z5 => ?_)))))))))))))))))
 have m14 : Fx.Blk w6 g2 6 (Fx.rv .i64 (fun q => localV (R (firstS id s.nn x).toNat) ((q : Int) + 1))) 45 := Fx.ovr_all m13
 have b6 := s6.below b5 b5.size (by omega)
 refine Fx.L.nil (Fx.seqN (Fx.W.ret (⟨.agg (Fx.varr 6 (Fx.rv .i64 (fun q => localV (R (firstS id s.nn x).toNat) ((q : Int) + 1)))), Fx.retV1 Try.results105 ⟨_, rfl, Fx.run_loadV m14.cel (by kernel_rfl) (by kernel_rfl)⟩, ?_⟩)))
 exact ⟨rfl, b6⟩
namespace Rt
def sumL (l : Nat → Int) (live : List Int) : Nat → Int
  | 0 => 0
  | k + 1 => sumL l live k + l (live.getD k 0 - 1).toNat
def LvOk (live : List Int) (n : Nat) : Prop := n ≤ 6 ∧ ∀ k, k < n → 1 ≤ live.getD k 0 ∧ live.getD k 0 ≤ 6
def LoOk (l : Nat → Int) : Prop := ∀ j, j < 6 → 0 ≤ l j ∧ l j ≤ 9007199254740992
theorem sumL_bd {l : Nat → Int} {live : List Int} {n : Nat} (h : LvOk live n) (hl : LoOk l) : ∀ k, k ≤ n → 0 ≤ sumL l live k ∧ sumL l live k ≤ 9007199254740992 * (k : Int)
  | 0, _ => ⟨Int.le_refl _, Int.le_refl _⟩
  | k + 1, hk => by
    have ih := sumL_bd h hl k (by omega)
    have h1 := h.2 k (by omega)
    have h2 := hl (live.getD k 0 - 1).toNat (by omega)
    show 0 ≤ sumL l live k + _ ∧ sumL l live k + _ ≤ _
    omega
end Rt
theorem ro_own1 (l : Nat → Int) (a gi : Nat) (w : World) (ha : a < 6) (hgi : Fx.Blk w gi 1 (fun _ => .int .i64 ((a : Int) + 1)) 3) :
    Calls Try.prog 99 #[.agg (Fx.varr 6 (Fx.rv .i64 l)), .pointer (some ⟨gi, 0, none⟩)] w fun e w' => e = .returned (.int .i64 (l a)) ∧ Below w.heap.size w w' := by
 have lgi := hgi.lt
 refine Fx.enter Try.func99 rfl (n := 8) rfl (by rfl) ?_
 refine Fx.W.seq (Fx.W.list (Fx.L.box (m := 6) (y := Fx.rv .i64 l) (by rfl) rfl rfl (Fx.cells_agg _ _) rfl fun g1 w1 eg1 m1 s1 z1 => ?_))
 have m2 := hgi.stp s1 (Nat.ne_of_lt (hgi.lt))
 have b1 := s1.below (Below.refl w.heap.size w) (Below.refl w.heap.size w).size (Below.refl w.heap.size w).size
 have lg1 : w.heap.size ≤ g1 := by rw [eg1]; exact (Below.refl w.heap.size w).size
 have ng1m2 : gi ≠ g1 := by rw [eg1]; exact Nat.ne_of_lt (hgi.lt)
 have tg1 : g1 < w1.heap.size := m1.lt
 clear eg1
 refine Fx.L.v (.int .i64 (0)) (x_assign rfl rfl) (Fx.L.nil (Fx.seqN (Fx.W.seq (Fx.W.list (Fx.L.v (.int .i64 ((a : Int) + 1)) (x_load1 (x := fun _ => .int .i64 ((a : Int) + 1)) rfl rfl (by kernel_rfl) m2.cel (i := 0) (by omega) (by omega) rfl) (Fx.L.v (.int .i64 ((a : Int))) (Fx.x_sub rfl rfl rfl (Fx.i64e (by omega) (by omega))) (Fx.L.v (.pointer (some ⟨g1, a, none⟩)) (x_index rfl rfl rfl Try.underlying45 (s := 1) (by kernel_rfl) (by omega) (by omega) (by omega)) (Fx.L.v (.int .i64 (l a)) (x_load1 (x := Fx.rv .i64 l) rfl rfl (by kernel_rfl) m1.cel (i := a) (by omega) (by omega) rfl) (Fx.L.v (.int .i64 (l a)) (x_assign rfl rfl) (Fx.L.nil (Fx.seqN (Fx.W.ret (⟨.int .i64 (l a), Fx.retV1 Try.results99 (by exact rfl), ?_⟩)))))))))))))
 exact ⟨rfl, b1⟩
theorem ro_all1 (l : Nat → Int) (live : List Int) (al : Option Addr) (n cl gl : Nat) (w : World) (hlv : LvOk live n) (hlo : LoOk l) (hl : Fx.Arr w al n 1 (lsX live)) (hgl : Fx.Blk w gl 1 (fun _ => .slice al (n) (cl)) 23) :
    Calls Try.prog 98 #[.agg (Fx.varr 6 (Fx.rv .i64 l)), .pointer (some ⟨gl, 0, none⟩)] w fun e w' => e = .returned (.int .i64 (sumL l live n)) ∧ Below w.heap.size w w' := by
 have lgl := hgl.lt
 have hn6 := hlv.1
 refine Fx.enter Try.func98 rfl (n := 20) rfl (by rfl) ?_
 refine Fx.W.seq (Fx.W.list (Fx.L.box (m := 6) (y := Fx.rv .i64 l) (by rfl) rfl rfl (Fx.cells_agg _ _) rfl fun g1 w1 eg1 m1 s1 z1 => ?_))
 have m2 := hgl.stp s1 (Nat.ne_of_lt (hgl.lt))
 have b1 := s1.below (Below.refl w.heap.size w) (Below.refl w.heap.size w).size (Below.refl w.heap.size w).size
 have lg1 : w.heap.size ≤ g1 := by rw [eg1]; exact (Below.refl w.heap.size w).size
 have ng1m2 : gl ≠ g1 := by rw [eg1]; exact Nat.ne_of_lt (hgl.lt)
 have tg1 : g1 < w1.heap.size := m1.lt
 clear eg1
 refine Fx.L.v (.int .i64 (0)) (x_assign rfl rfl) (Fx.L.nil (Fx.seqN (Fx.W.seq (Fx.W.seq (Fx.W.list (Fx.L.v (.slice al (n) (cl)) (x_load1 (x := fun _ => .slice al (n) (cl)) rfl rfl (by kernel_rfl) m2.cel (i := 0) (by omega) (by omega) rfl) (Fx.L.v (.int .i64 ((n : Int))) (x_len rfl rfl rfl (by kernel_rfl)) (Fx.L.v (.int .i64 (0)) (x_move rfl rfl) (Fx.L.nil (Fx.seqN (Fx.W.block (Fx.W.loop (fun f w_ => ∃ k : Nat, k ≤ n ∧ f 2 = .pointer (some ⟨g1, 0, none⟩) ∧ f 3 = .int .i64 (sumL l live k) ∧ f 6 = .slice al (n) (cl) ∧ f 7 = .int .i64 ((n : Int)) ∧ f 8 = .int .i64 ((k : Int)) ∧ Fx.Blk w_ gl 1 (fun _ => .slice al (n) (cl)) 23 ∧ Fx.Blk w_ g1 6 (Fx.rv .i64 l) 45 ∧ Below w.heap.size w w_) (fun f _ => (n - (intOf (f 8)).toNat)) ⟨0, by omega, (by rfl), (by first | rfl | exact congrArg (Value.int .i64) (by omega)), (by rfl), (by first | rfl | exact congrArg (Value.int .i64) (by omega)), (by first | rfl | exact congrArg (Value.int .i64) (by omega)), m2, m1, b1⟩ ?_))))))))))))
 rintro f1 w2 ⟨k, hk, h1, h2, h3, h4, h5, m3, m4, b2⟩
 refine Fx.W.seq (Fx.W.list ?_)
 by_cases c9 : (k : Int) < (n : Int)
 ·refine Fx.L.v (.bool true) (Fx.x_lssT rfl h5 h4 c9) (Fx.L.nil (Fx.seqN (Fx.W.seq (Fx.W.cond (b := true) rfl (fun _ => Fx.W.skip (Fx.seqN (Fx.W.seq (Fx.W.block (Fx.W.seq ?_))))) (fun h => nomatch h)))))
  have hlk := hlv.2 k (by omega)
  have hsb := sumL_bd hlv hlo k (by omega)
  have hlb := hlo (live.getD k 0 - 1).toNat (by omega)
  refine Fx.W.list ?_
  obtain ⟨bq1, oq1, eq1, m5⟩ := (hl.up b2 rfl) (by omega)
  have lbq1 : bq1 < w2.heap.size := m5.lt (by omega)
  refine Fx.L.v (.pointer (some ⟨bq1, k + oq1, none⟩)) (x_indexS rfl (h3.trans (congrArg (fun q => Value.slice q (n) (cl)) eq1)) h5 Try.underlying23 (s := 1) (by kernel_rfl) (by omega) (by omega) (by omega)) (Fx.L.v (.int .i64 (live.getD k 0)) (x_load1 (x := lsX live) rfl rfl (by kernel_rfl) m5 (i := k) (by omega) (by omega) rfl) (Fx.L.v (.int .i64 (live.getD k 0)) (x_assign rfl rfl) (Fx.L.nil (Fx.seqN (Fx.W.list (Fx.L.v (.int .i64 (sumL l live k)) (x_move rfl h2) (Fx.L.v (.int .i64 (live.getD k 0)) (x_move rfl rfl) (Fx.L.v (.int .i64 ((live.getD k 0) - 1)) (Fx.x_sub rfl rfl rfl (Fx.i64e (by omega) (by omega))) (Fx.L.v (.pointer (some ⟨g1, ((live.getD k 0) - 1).toNat, none⟩)) (x_index rfl h1 rfl Try.underlying45 (s := 1) (by kernel_rfl) (by omega) (by omega) (by omega)) (Fx.L.v (.int .i64 (l (((live.getD k 0) - 1).toNat))) (x_load1 (x := Fx.rv .i64 l) rfl rfl (by kernel_rfl) m4.cel (i := ((live.getD k 0) - 1).toNat) (by omega) (by omega) rfl) (Fx.L.v (.int .i64 ((sumL l live k) + (l (((live.getD k 0) - 1).toNat)))) (Fx.x_add rfl rfl rfl (Fx.i64e (by omega) (by omega))) (Fx.L.v (.int .i64 ((sumL l live k) + (l (((live.getD k 0) - 1).toNat)))) (x_assign rfl rfl) (Fx.L.nil (Fx.blkN (Fx.seqN (Fx.W.list (Fx.L.v (.int .i64 ((k : Int) + 1)) (Fx.x_add rfl h5 rfl (Fx.i64e (by omega) (by omega))) (Fx.L.v (.int .i64 ((k : Int) + 1)) (x_move rfl rfl) (Fx.L.nil (Fx.lpN ⟨k + 1, by omega, h1, (by first | rfl | exact congrArg (Value.int .i64) (by omega)), h3, (h4.trans (by first | rfl | exact congrArg (Value.int .i64) (by omega))), (by first | rfl | exact congrArg (Value.int .i64) (by omega)), m3, m4, b2⟩ ?_))))))))))))))))))))
  show (n - (intOf ((.int .i64 ((k : Int) + 1)))).toNat) < _
  simp only [h5, intOf]; omega
 ·refine Fx.L.v (.bool false) (Fx.x_lssF rfl h5 h4 c9) (Fx.L.nil (Fx.seqN (Fx.W.seq (Fx.W.cond (b := false) rfl (fun h => nomatch h) (fun _ => Fx.W.exit (Fx.seqX (Fx.lpX (Fx.blkX (Fx.seqN (Fx.W.seq (Fx.W.list (Fx.L.v (.int .i64 (sumL l live k)) (x_move rfl h2) (Fx.L.v (.int .i64 (sumL l live k)) (x_assign rfl rfl) (Fx.L.nil (Fx.seqN (Fx.W.ret (⟨.int .i64 (sumL l live k), Fx.retV1 Try.results98 (by exact rfl), ?_⟩)))))))))))))))))
  obtain rfl : k = n := by omega
  exact ⟨rfl, b2⟩
namespace Rt
def leastI (f : Nat → Int) : Nat → Int
  | 0 => 1125899906842624
  | k + 1 => if f k < leastI f k then f k else leastI f k
def leastV (f : Nat → Int) (P : Nat) : Int := if P = 0 then 0 else if 0 > leastI f P then 0 else leastI f P
theorem pathS_lt {id par : Nat → Int} {n i : Nat} {x : Int} (h : i < pathS id par n x) : 0 ≤ firstS id n (iterS id par n i x) := of_decide_eq_true (lead_lt (P := fun i => decide (0 ≤ firstS id n (iterS id par n i x))) h)
end Rt
set_option maxRecDepth 10000 in
theorem ro_leastO (s : StM) (id par : Nat → Int) (R : Nat → Nat → Int) (x : Int) (w : World) (hnd : Fx.Arr w s.na s.nn 56 (Fx.flat 56 fun k => ndY (id k) (par k) (R k))) (hnn : s.nn ≤ 1000000) (a gi : Nat) (ha : a < 6) (hgi : Fx.Blk w gi 1 (fun _ => .int .i64 ((a : Int) + 1)) 3) :
    Calls Try.prog 97 #[.agg (Fx.varr 20 (stY s)), .int .u64 (x), .func (.func 99) #[] #[.pointer (some ⟨gi, 0, none⟩)]] w fun e w' => e = .returned (.int .i64 (leastV (fun k => locI id s.nn R (iterS id par s.nn k x) a) (pathS id par s.nn x))) ∧ Below w.heap.size w w' := by
 have lgi := hgi.lt
 refine Fx.enter Try.func97 rfl (n := 33) rfl (by rfl) ?_
 refine Fx.W.seq (Fx.W.list (Fx.L.box (m := 20) (y := stY s) (by rfl) rfl rfl (Fx.cells_agg _ _) rfl fun g1 w1 eg1 m1 s1 z1 => ?_))
 have m2 := hgi.stp s1 (Nat.ne_of_lt (hgi.lt))
 have b1 := s1.below (Below.refl w.heap.size w) (Below.refl w.heap.size w).size (Below.refl w.heap.size w).size
 have lg1 : w.heap.size ≤ g1 := by rw [eg1]; exact (Below.refl w.heap.size w).size
 have ng1m2 : gi ≠ g1 := by rw [eg1]; exact Nat.ne_of_lt (hgi.lt)
 have tg1 : g1 < w1.heap.size := m1.lt
 clear eg1
 refine Fx.L.v (.int .i64 (0)) (x_assign rfl rfl) (Fx.L.nil (Fx.seqN (Fx.W.seq (Fx.W.list (Fx.L.v (.agg (Fx.varr 20 (stY s))) (x_loadA (x := stY s) (y := stY s) rfl rfl (by kernel_rfl) (by kernel_rfl) m1.cel (i := 0) (by omega) (by omega) (fun j _ => by rw [Nat.zero_add])) (Fx.L.v (.int .u64 (x)) (x_move rfl rfl) (Fx.L.call (by rfl) (Fx.r_call (args := [.agg (Fx.varr 20 (stY s)), .int .u64 (x)]) rfl rfl Try.func38 rfl rfl) rfl ((q_path s id par R x _ (hnd.up b1 rfl) hnn).mono ?_))))))))
 rintro e9 w2 ⟨vq1, P, he, hP, hOq1, hbq1⟩
 obtain ⟨aq1, capq1, rfl⟩ := hOq1.val
 refine ⟨_, he, ?_⟩
 clear he
 have s2 := Fx.Stp.of_below hbq1
 have m3 := m2.stp s2 (Nat.ne_of_lt (m2.lt))
 have m4 := m1.stp s2 (Nat.ne_of_lt (m1.lt))
 have b2 := s2.below b1 b1.size b1.size
 have hP32 : P ≤ 32 := by rw [hP]; exact path_le
 refine Fx.L.v (.slice aq1 (P) (capq1)) (x_assign rfl rfl) (Fx.L.nil (Fx.seqN (Fx.W.seq (Fx.W.seq (Fx.W.list (Fx.L.v (.slice aq1 (P) (capq1)) (x_move rfl rfl) (Fx.L.v (.int .i64 ((P : Int))) (x_len rfl rfl rfl (by kernel_rfl)) ?_)))))))
 by_cases c16 : (P : Int) = 0
 ·refine Fx.L.v (.bool true) (x_eqlT rfl rfl rfl c16) (Fx.L.nil (Fx.seqN (Fx.W.cond (b := true) rfl (fun _ => Fx.W.seq (Fx.W.list (Fx.L.v (.int .i64 (0)) (x_assign rfl rfl) ?_))) (fun h => nomatch h))))
  refine Fx.L.nil (Fx.seqN (Fx.W.ret (Fx.seqR (⟨.int .i64 (0), Fx.retV1 Try.results97 (by exact rfl), ?_⟩))))
  exact ⟨congrArg (fun q => Ending.returned (Value.int .i64 q)) (Eq.symm (by unfold leastV; rw [← hP, if_pos (by omega)])), b2⟩
 ·refine Fx.L.v (.bool false) (x_eqlF rfl rfl rfl c16) (Fx.L.nil (Fx.seqN (Fx.W.cond (b := false) rfl (fun h => nomatch h) (fun _ => Fx.W.skip (Fx.seqN (Fx.W.seq (Fx.W.list (Fx.L.v (.int .i64 (1125899906842624)) (x_assign rfl rfl) (Fx.L.nil (Fx.seqN (Fx.W.seq (Fx.W.seq (Fx.W.list (Fx.L.v (.slice aq1 (P) (capq1)) (x_move rfl rfl) (Fx.L.v (.int .i64 ((P : Int))) (x_len rfl rfl rfl (by kernel_rfl)) (Fx.L.v (.int .i64 (0)) (x_move rfl rfl) (Fx.L.nil (Fx.seqN (Fx.W.block (Fx.W.loop (fun f w_ => ∃ k : Nat, k ≤ P ∧ f 1 = .int .u64 (x) ∧ f 2 = .func (.func 99) #[] #[.pointer (some ⟨gi, 0, none⟩)] ∧ f 3 = .pointer (some ⟨g1, 0, none⟩) ∧ f 17 = .slice aq1 (P) (capq1) ∧ f 18 = .int .i64 ((P : Int)) ∧ f 8 = .int .i64 (leastI (fun k => locI id s.nn R (iterS id par s.nn k x) a) k) ∧ f 19 = .int .i64 ((k : Int)) ∧ Fx.Blk w_ gi 1 (fun _ => .int .i64 ((a : Int) + 1)) 3 ∧ Fx.Blk w_ g1 20 (stY s) 43 ∧ Fx.Own w_ w1.heap.size 27 1 (.slice aq1 (P) (capq1)) P (ptU id par s.nn x) ∧ Below w.heap.size w w_) (fun f _ => (P - (intOf (f 19)).toNat)) ⟨0, by omega, (by first | rfl | exact congrArg (Value.int .u64) (by omega)), (by rfl), (by rfl), (by rfl), (by first | rfl | exact congrArg (Value.int .i64) (by omega)), (by first | rfl | exact congrArg (Value.int .i64) (by omega)), (by first | rfl | exact congrArg (Value.int .i64) (by omega)), m3, m4, hOq1, b2⟩ ?_))))))))))))))))))))
  rintro f1 w3 ⟨k, hk, h1, h2, h3, h4, h5, h6, h7, m5, m6, m7, b3⟩
  refine Fx.W.seq (Fx.W.list ?_)
  by_cases c20 : (k : Int) < (P : Int)
  ·refine Fx.L.v (.bool true) (Fx.x_lssT rfl h7 h5 c20) (Fx.L.nil (Fx.seqN (Fx.W.seq (Fx.W.cond (b := true) rfl (fun _ => Fx.W.skip (Fx.seqN (Fx.W.seq (Fx.W.block (Fx.W.seq (Fx.W.list ?_)))))) (fun h => nomatch h)))))
   obtain ⟨gq1, eq1⟩ := m7.addr (by omega)
   have m8 : Fx.Own w3 w1.heap.size 27 1 (.slice (some ⟨gq1, 0, none⟩) P capq1) P (ptU id par s.nn x) := m7.congV (congrArg (fun q => Value.slice q P capq1) eq1)
   refine Fx.L.v (.pointer (some ⟨gq1, k, none⟩)) (x_indexS rfl (h4.trans (congrArg (fun q => Value.slice q (P) (capq1)) eq1)) h7 Try.underlying68 (s := 1) (by kernel_rfl) (by omega) (by omega) (by omega)) (Fx.L.v (.int .u64 (iterS id par s.nn k x)) (x_load1 (x := ptU id par s.nn x) rfl rfl (by kernel_rfl) m8.cel (i := k) (by omega) (by omega) rfl) (Fx.L.v (.int .u64 (iterS id par s.nn k x)) (x_assign rfl rfl) (Fx.L.nil (Fx.seqN (Fx.W.list (Fx.L.v (.int .i64 (leastI (fun k => locI id s.nn R (iterS id par s.nn k x) a) k)) (x_move rfl h6) (Fx.L.v (.func (.func 99) #[] #[.pointer (some ⟨gi, 0, none⟩)]) (x_move rfl h2) (Fx.L.v (.agg (Fx.varr 20 (stY s))) (x_loadA (x := stY s) (y := stY s) rfl h3 (by kernel_rfl) (by kernel_rfl) m6.cel (i := 0) (by omega) (by omega) (fun j _ => by rw [Nat.zero_add])) (Fx.L.v (.int .u64 (iterS id par s.nn k x)) (x_move rfl rfl) (Fx.L.call (by rfl) (Fx.r_call (args := [.agg (Fx.varr 20 (stY s)), .int .u64 (iterS id par s.nn k x)]) rfl rfl Try.func105 rfl rfl) rfl ((ro_local s id par R (iterS id par s.nn k x) _ (hnd.up b3 rfl) hnn (pathS_lt (by omega))).mono ?_)))))))))))
   rintro e w4 ⟨he, hb1⟩
   refine ⟨.agg (Fx.varr 6 (Fx.rv .i64 (locI id s.nn R (iterS id par s.nn k x)))), by rw [he], ?_⟩
   clear he
   have s3 := Fx.Stp.of_below hb1
   have m9 := m5.stp s3 (Nat.ne_of_lt (m5.lt))
   have m10 := m6.stp s3 (Nat.ne_of_lt (m6.lt))
   have m11 := m8.stpB s3 (Nat.ne_of_lt (m8.lt))
   have b4 := s3.below b3 b3.size b3.size
   refine Fx.L.call (by rfl) (Fx.r_clo (args := [.agg (Fx.varr 6 (Fx.rv .i64 (locI id s.nn R (iterS id par s.nn k x))))]) rfl rfl rfl (all := #[.agg (Fx.varr 6 (Fx.rv .i64 (locI id s.nn R (iterS id par s.nn k x)))), .pointer (some ⟨gi, 0, none⟩)]) rfl Try.func99 rfl rfl) rfl ((ro_own1 (locI id s.nn R (iterS id par s.nn k x)) a gi _ ha m9).mono ?_)
   rintro e w5 ⟨he, hb2⟩
   refine ⟨.int .i64 (locI id s.nn R (iterS id par s.nn k x) a), by rw [he], ?_⟩
   clear he
   have s4 := Fx.Stp.of_below hb2
   have m12 := m9.stp s4 (Nat.ne_of_lt (m9.lt))
   have m13 := m10.stp s4 (Nat.ne_of_lt (m10.lt))
   have m14 := m11.stpB s4 (Nat.ne_of_lt (m11.lt))
   have b5 := s4.below b4 b4.size b4.size
   refine Fx.L.v (.int .i64 (leastI (fun k => locI id s.nn R (iterS id par s.nn k x) a) (k + 1))) (Fx.x_min rfl rfl rfl) (Fx.L.v (.int .i64 (leastI (fun k => locI id s.nn R (iterS id par s.nn k x) a) (k + 1))) (x_assign rfl rfl) (Fx.L.nil (Fx.blkN (Fx.seqN (Fx.W.list (Fx.L.v (.int .i64 ((k : Int) + 1)) (Fx.x_add rfl h7 rfl (Fx.i64e (by omega) (by omega))) (Fx.L.v (.int .i64 ((k : Int) + 1)) (x_move rfl rfl) (Fx.L.nil ?_))))))))
   have m15 : Fx.Own w5 w1.heap.size 27 1 (.slice aq1 (P) (capq1)) P (ptU id par s.nn x) := m14.congV (congrArg (fun q => Value.slice q P capq1) eq1.symm)
   refine Fx.lpN ⟨k + 1, by omega, (h1.trans (by first | rfl | exact congrArg (Value.int .u64) (by omega))), h2, h3, h4, (h5.trans (by first | rfl | exact congrArg (Value.int .i64) (by omega))), (by first | rfl | exact congrArg (Value.int .i64) (by omega)), (by first | rfl | exact congrArg (Value.int .i64) (by omega)), m12, m13, m15, b5⟩ ?_
   show (P - (intOf ((.int .i64 ((k : Int) + 1)))).toNat) < _
   simp only [h7, intOf]; omega
  ·refine Fx.L.v (.bool false) (Fx.x_lssF rfl h7 h5 c20) (Fx.L.nil (Fx.seqN (Fx.W.seq (Fx.W.cond (b := false) rfl (fun h => nomatch h) (fun _ => Fx.W.exit (Fx.seqX (Fx.lpX (Fx.blkX (Fx.seqN (Fx.W.seq (Fx.W.list (Fx.L.v (.int .i64 (leastI (fun k => locI id s.nn R (iterS id par s.nn k x) a) k)) (x_move rfl h6) (Fx.L.v (.int .i64 (if 0 > (leastI (fun k => locI id s.nn R (iterS id par s.nn k x) a) k) then 0 else leastI (fun k => locI id s.nn R (iterS id par s.nn k x) a) k)) (Fx.x_max rfl rfl rfl) (Fx.L.v (.int .i64 (if 0 > (leastI (fun k => locI id s.nn R (iterS id par s.nn k x) a) k) then 0 else leastI (fun k => locI id s.nn R (iterS id par s.nn k x) a) k)) (x_assign rfl rfl) (Fx.L.nil (Fx.seqN (Fx.W.ret (⟨.int .i64 (if 0 > (leastI (fun k => locI id s.nn R (iterS id par s.nn k x) a) k) then 0 else leastI (fun k => locI id s.nn R (iterS id par s.nn k x) a) k), Fx.retV1 Try.results97 (by exact rfl), ?_⟩))))))))))))))))))
   obtain rfl : k = P := by omega
   exact ⟨congrArg (fun q => Ending.returned (Value.int .i64 q)) (Eq.symm (by unfold leastV; rw [← hP, if_neg (by omega)])), b3⟩
set_option maxRecDepth 10000 in
theorem ro_leastA (s : StM) (id par : Nat → Int) (R : Nat → Nat → Int) (x : Int) (w : World) (hnd : Fx.Arr w s.na s.nn 56 (Fx.flat 56 fun k => ndY (id k) (par k) (R k))) (hnn : s.nn ≤ 1000000) (hlo : ∀ x, 0 ≤ firstS id s.nn x → LoOk (locI id s.nn R x)) (live : List Int) (al : Option Addr) (n cl gl : Nat) (hlv : LvOk live n) (hl : Fx.Arr w al n 1 (lsX live)) (hgl : Fx.Blk w gl 1 (fun _ => .slice al (n) (cl)) 23) :
    Calls Try.prog 97 #[.agg (Fx.varr 20 (stY s)), .int .u64 (x), .func (.func 98) #[] #[.pointer (some ⟨gl, 0, none⟩)]] w fun e w' => e = .returned (.int .i64 (leastV (fun k => sumL (locI id s.nn R (iterS id par s.nn k x)) live n) (pathS id par s.nn x))) ∧ Below w.heap.size w w' := by
 have lgl := hgl.lt
 refine Fx.enter Try.func97 rfl (n := 33) rfl (by rfl) ?_
 refine Fx.W.seq (Fx.W.list (Fx.L.box (m := 20) (y := stY s) (by rfl) rfl rfl (Fx.cells_agg _ _) rfl fun g1 w1 eg1 m1 s1 z1 => ?_))
 have m2 := hgl.stp s1 (Nat.ne_of_lt (hgl.lt))
 have b1 := s1.below (Below.refl w.heap.size w) (Below.refl w.heap.size w).size (Below.refl w.heap.size w).size
 have lg1 : w.heap.size ≤ g1 := by rw [eg1]; exact (Below.refl w.heap.size w).size
 have ng1m2 : gl ≠ g1 := by rw [eg1]; exact Nat.ne_of_lt (hgl.lt)
 have tg1 : g1 < w1.heap.size := m1.lt
 clear eg1
 refine Fx.L.v (.int .i64 (0)) (x_assign rfl rfl) (Fx.L.nil (Fx.seqN (Fx.W.seq (Fx.W.list (Fx.L.v (.agg (Fx.varr 20 (stY s))) (x_loadA (x := stY s) (y := stY s) rfl rfl (by kernel_rfl) (by kernel_rfl) m1.cel (i := 0) (by omega) (by omega) (fun j _ => by rw [Nat.zero_add])) (Fx.L.v (.int .u64 (x)) (x_move rfl rfl) (Fx.L.call (by rfl) (Fx.r_call (args := [.agg (Fx.varr 20 (stY s)), .int .u64 (x)]) rfl rfl Try.func38 rfl rfl) rfl ((q_path s id par R x _ (hnd.up b1 rfl) hnn).mono ?_))))))))
 rintro e9 w2 ⟨vq1, P, he, hP, hOq1, hbq1⟩
 obtain ⟨aq1, capq1, rfl⟩ := hOq1.val
 refine ⟨_, he, ?_⟩
 clear he
 have s2 := Fx.Stp.of_below hbq1
 have m3 := m2.stp s2 (Nat.ne_of_lt (m2.lt))
 have m4 := m1.stp s2 (Nat.ne_of_lt (m1.lt))
 have b2 := s2.below b1 b1.size b1.size
 have hP32 : P ≤ 32 := by rw [hP]; exact path_le
 refine Fx.L.v (.slice aq1 (P) (capq1)) (x_assign rfl rfl) (Fx.L.nil (Fx.seqN (Fx.W.seq (Fx.W.seq (Fx.W.list (Fx.L.v (.slice aq1 (P) (capq1)) (x_move rfl rfl) (Fx.L.v (.int .i64 ((P : Int))) (x_len rfl rfl rfl (by kernel_rfl)) ?_)))))))
 by_cases c16 : (P : Int) = 0
 ·refine Fx.L.v (.bool true) (x_eqlT rfl rfl rfl c16) (Fx.L.nil (Fx.seqN (Fx.W.cond (b := true) rfl (fun _ => Fx.W.seq (Fx.W.list (Fx.L.v (.int .i64 (0)) (x_assign rfl rfl) ?_))) (fun h => nomatch h))))
  refine Fx.L.nil (Fx.seqN (Fx.W.ret (Fx.seqR (⟨.int .i64 (0), Fx.retV1 Try.results97 (by exact rfl), ?_⟩))))
  exact ⟨congrArg (fun q => Ending.returned (Value.int .i64 q)) (Eq.symm (by unfold leastV; rw [← hP, if_pos (by omega)])), b2⟩
 ·refine Fx.L.v (.bool false) (x_eqlF rfl rfl rfl c16) (Fx.L.nil (Fx.seqN (Fx.W.cond (b := false) rfl (fun h => nomatch h) (fun _ => Fx.W.skip (Fx.seqN (Fx.W.seq (Fx.W.list (Fx.L.v (.int .i64 (1125899906842624)) (x_assign rfl rfl) (Fx.L.nil (Fx.seqN (Fx.W.seq (Fx.W.seq (Fx.W.list (Fx.L.v (.slice aq1 (P) (capq1)) (x_move rfl rfl) (Fx.L.v (.int .i64 ((P : Int))) (x_len rfl rfl rfl (by kernel_rfl)) (Fx.L.v (.int .i64 (0)) (x_move rfl rfl) (Fx.L.nil (Fx.seqN (Fx.W.block (Fx.W.loop (fun f w_ => ∃ k : Nat, k ≤ P ∧ f 1 = .int .u64 (x) ∧ f 2 = .func (.func 98) #[] #[.pointer (some ⟨gl, 0, none⟩)] ∧ f 3 = .pointer (some ⟨g1, 0, none⟩) ∧ f 17 = .slice aq1 (P) (capq1) ∧ f 18 = .int .i64 ((P : Int)) ∧ f 8 = .int .i64 (leastI (fun k => sumL (locI id s.nn R (iterS id par s.nn k x)) live n) k) ∧ f 19 = .int .i64 ((k : Int)) ∧ Fx.Blk w_ gl 1 (fun _ => .slice al (n) (cl)) 23 ∧ Fx.Blk w_ g1 20 (stY s) 43 ∧ Fx.Own w_ w1.heap.size 27 1 (.slice aq1 (P) (capq1)) P (ptU id par s.nn x) ∧ Below w.heap.size w w_) (fun f _ => (P - (intOf (f 19)).toNat)) ⟨0, by omega, (by first | rfl | exact congrArg (Value.int .u64) (by omega)), (by rfl), (by rfl), (by rfl), (by first | rfl | exact congrArg (Value.int .i64) (by omega)), (by first | rfl | exact congrArg (Value.int .i64) (by omega)), (by first | rfl | exact congrArg (Value.int .i64) (by omega)), m3, m4, hOq1, b2⟩ ?_))))))))))))))))))))
  rintro f1 w3 ⟨k, hk, h1, h2, h3, h4, h5, h6, h7, m5, m6, m7, b3⟩
  refine Fx.W.seq (Fx.W.list ?_)
  by_cases c20 : (k : Int) < (P : Int)
  ·refine Fx.L.v (.bool true) (Fx.x_lssT rfl h7 h5 c20) (Fx.L.nil (Fx.seqN (Fx.W.seq (Fx.W.cond (b := true) rfl (fun _ => Fx.W.skip (Fx.seqN (Fx.W.seq (Fx.W.block (Fx.W.seq (Fx.W.list ?_)))))) (fun h => nomatch h)))))
   obtain ⟨gq1, eq1⟩ := m7.addr (by omega)
   have m8 : Fx.Own w3 w1.heap.size 27 1 (.slice (some ⟨gq1, 0, none⟩) P capq1) P (ptU id par s.nn x) := m7.congV (congrArg (fun q => Value.slice q P capq1) eq1)
   refine Fx.L.v (.pointer (some ⟨gq1, k, none⟩)) (x_indexS rfl (h4.trans (congrArg (fun q => Value.slice q (P) (capq1)) eq1)) h7 Try.underlying68 (s := 1) (by kernel_rfl) (by omega) (by omega) (by omega)) (Fx.L.v (.int .u64 (iterS id par s.nn k x)) (x_load1 (x := ptU id par s.nn x) rfl rfl (by kernel_rfl) m8.cel (i := k) (by omega) (by omega) rfl) (Fx.L.v (.int .u64 (iterS id par s.nn k x)) (x_assign rfl rfl) (Fx.L.nil (Fx.seqN (Fx.W.list (Fx.L.v (.int .i64 (leastI (fun k => sumL (locI id s.nn R (iterS id par s.nn k x)) live n) k)) (x_move rfl h6) (Fx.L.v (.func (.func 98) #[] #[.pointer (some ⟨gl, 0, none⟩)]) (x_move rfl h2) (Fx.L.v (.agg (Fx.varr 20 (stY s))) (x_loadA (x := stY s) (y := stY s) rfl h3 (by kernel_rfl) (by kernel_rfl) m6.cel (i := 0) (by omega) (by omega) (fun j _ => by rw [Nat.zero_add])) (Fx.L.v (.int .u64 (iterS id par s.nn k x)) (x_move rfl rfl) (Fx.L.call (by rfl) (Fx.r_call (args := [.agg (Fx.varr 20 (stY s)), .int .u64 (iterS id par s.nn k x)]) rfl rfl Try.func105 rfl rfl) rfl ((ro_local s id par R (iterS id par s.nn k x) _ (hnd.up b3 rfl) hnn (pathS_lt (by omega))).mono ?_)))))))))))
   rintro e w4 ⟨he, hb1⟩
   refine ⟨.agg (Fx.varr 6 (Fx.rv .i64 (locI id s.nn R (iterS id par s.nn k x)))), by rw [he], ?_⟩
   clear he
   have s3 := Fx.Stp.of_below hb1
   have m9 := m5.stp s3 (Nat.ne_of_lt (m5.lt))
   have m10 := m6.stp s3 (Nat.ne_of_lt (m6.lt))
   have m11 := m8.stpB s3 (Nat.ne_of_lt (m8.lt))
   have b4 := s3.below b3 b3.size b3.size
   refine Fx.L.call (by rfl) (Fx.r_clo (args := [.agg (Fx.varr 6 (Fx.rv .i64 (locI id s.nn R (iterS id par s.nn k x))))]) rfl rfl rfl (all := #[.agg (Fx.varr 6 (Fx.rv .i64 (locI id s.nn R (iterS id par s.nn k x)))), .pointer (some ⟨gl, 0, none⟩)]) rfl Try.func98 rfl rfl) rfl ((ro_all1 (locI id s.nn R (iterS id par s.nn k x)) live al n cl gl _ hlv (hlo _ (pathS_lt (by omega))) (hl.up b4 rfl) m9).mono ?_)
   rintro e w5 ⟨he, hb2⟩
   refine ⟨.int .i64 (sumL (locI id s.nn R (iterS id par s.nn k x)) live n), by rw [he], ?_⟩
   clear he
   have s4 := Fx.Stp.of_below hb2
   have m12 := m9.stp s4 (Nat.ne_of_lt (m9.lt))
   have m13 := m10.stp s4 (Nat.ne_of_lt (m10.lt))
   have m14 := m11.stpB s4 (Nat.ne_of_lt (m11.lt))
   have b5 := s4.below b4 b4.size b4.size
   refine Fx.L.v (.int .i64 (leastI (fun k => sumL (locI id s.nn R (iterS id par s.nn k x)) live n) (k + 1))) (Fx.x_min rfl rfl rfl) (Fx.L.v (.int .i64 (leastI (fun k => sumL (locI id s.nn R (iterS id par s.nn k x)) live n) (k + 1))) (x_assign rfl rfl) (Fx.L.nil (Fx.blkN (Fx.seqN (Fx.W.list (Fx.L.v (.int .i64 ((k : Int) + 1)) (Fx.x_add rfl h7 rfl (Fx.i64e (by omega) (by omega))) (Fx.L.v (.int .i64 ((k : Int) + 1)) (x_move rfl rfl) (Fx.L.nil ?_))))))))
   have m15 : Fx.Own w5 w1.heap.size 27 1 (.slice aq1 (P) (capq1)) P (ptU id par s.nn x) := m14.congV (congrArg (fun q => Value.slice q P capq1) eq1.symm)
   refine Fx.lpN ⟨k + 1, by omega, (h1.trans (by first | rfl | exact congrArg (Value.int .u64) (by omega))), h2, h3, h4, (h5.trans (by first | rfl | exact congrArg (Value.int .i64) (by omega))), (by first | rfl | exact congrArg (Value.int .i64) (by omega)), (by first | rfl | exact congrArg (Value.int .i64) (by omega)), m12, m13, m15, b5⟩ ?_
   show (P - (intOf ((.int .i64 ((k : Int) + 1)))).toNat) < _
   simp only [h7, intOf]; omega
  ·refine Fx.L.v (.bool false) (Fx.x_lssF rfl h7 h5 c20) (Fx.L.nil (Fx.seqN (Fx.W.seq (Fx.W.cond (b := false) rfl (fun h => nomatch h) (fun _ => Fx.W.exit (Fx.seqX (Fx.lpX (Fx.blkX (Fx.seqN (Fx.W.seq (Fx.W.list (Fx.L.v (.int .i64 (leastI (fun k => sumL (locI id s.nn R (iterS id par s.nn k x)) live n) k)) (x_move rfl h6) (Fx.L.v (.int .i64 (if 0 > (leastI (fun k => sumL (locI id s.nn R (iterS id par s.nn k x)) live n) k) then 0 else leastI (fun k => sumL (locI id s.nn R (iterS id par s.nn k x)) live n) k)) (Fx.x_max rfl rfl rfl) (Fx.L.v (.int .i64 (if 0 > (leastI (fun k => sumL (locI id s.nn R (iterS id par s.nn k x)) live n) k) then 0 else leastI (fun k => sumL (locI id s.nn R (iterS id par s.nn k x)) live n) k)) (x_assign rfl rfl) (Fx.L.nil (Fx.seqN (Fx.W.ret (⟨.int .i64 (if 0 > (leastI (fun k => sumL (locI id s.nn R (iterS id par s.nn k x)) live n) k) then 0 else leastI (fun k => sumL (locI id s.nn R (iterS id par s.nn k x)) live n) k), Fx.retV1 Try.results97 (by exact rfl), ?_⟩))))))))))))))))))
   obtain rfl : k = P := by omega
   exact ⟨congrArg (fun q => Ending.returned (Value.int .i64 q)) (Eq.symm (by unfold leastV; rw [← hP, if_neg (by omega)])), b3⟩
namespace Rt
theorem live_ok (s : StM) {n : Nat} (h : n = (liveN s 6).length) : LvOk (liveN s 6) n := by
  subst h
  refine ⟨live_len s 6, fun k hk => ?_⟩
  have := (mem_live (s := s) 6).1 (ls_at hk)
  exact ⟨this.1, this.2.1⟩
def allI (s : StM) (l : Nat → Int) : Int := sumL l (liveN s 6) (liveN s 6).length
end Rt
set_option maxRecDepth 10000 in
theorem ro_own (s : StM) (id par : Nat → Int) (R : Nat → Nat → Int) (x : Int) (w : World) (hnd : Fx.Arr w s.na s.nn 56 (Fx.flat 56 fun k => ndY (id k) (par k) (R k))) (hnn : s.nn ≤ 1000000) (a : Nat) (ha : a < 6) (hli : liveI s ((a : Int) + 1) = true) :
    Calls Try.prog 56 #[.agg (Fx.varr 20 (stY s)), .int .i64 ((a : Int) + 1), .int .u64 (x)] w fun e w' => e = .returned (.int .i64 (leastV (fun k => locI id s.nn R (iterS id par s.nn k x) a) (pathS id par s.nn x))) ∧ Below w.heap.size w w' := by
 refine Fx.enter Try.func56 rfl (n := 16) rfl (by rfl) ?_
 refine Fx.W.seq (Fx.W.list (Fx.L.box (m := 20) (y := stY s) (by rfl) rfl rfl (Fx.cells_agg _ _) rfl fun g1 w1 eg1 m1 s1 z1 => ?_))
 have b1 := s1.below (Below.refl w.heap.size w) (Below.refl w.heap.size w).size (Below.refl w.heap.size w).size
 have lg1 : w.heap.size ≤ g1 := by rw [eg1]; exact (Below.refl w.heap.size w).size
 have tg1 : g1 < w1.heap.size := m1.lt
 clear eg1
 refine Fx.L.box (m := 1) (y := fun _ => .int .i64 ((a : Int) + 1)) (by rfl) rfl rfl (Fx.cells_one (by rfl)) rfl fun g2 w2 eg2 m2 s2 z2 => ?_
 have m3 := m1.stp s2 (Nat.ne_of_lt (m1.lt))
 have b2 := s2.below b1 b1.size b1.size
 have lg2 : w.heap.size ≤ g2 := by rw [eg2]; exact b1.size
 have ng2m3 : g1 ≠ g2 := by rw [eg2]; exact Nat.ne_of_lt (m1.lt)
 have tg2 : g2 < w2.heap.size := m2.lt
 clear eg2
 refine Fx.L.v (.int .i64 (0)) (x_assign rfl rfl) (Fx.L.nil (Fx.seqN (Fx.W.seq (Fx.W.seq ?_))))
 -- region 1 draws
 refine Fx.W.reord [0, 2, 1, 3, 4] [4, 2, 1, 2, 0] Fx.Mk Fx.Mk.refl Fx.Mk.trans (certs := [(1, 0, [0]), (3, 0, [1, 0]), (3, 1, [1]), (4, 1, [3, 1]), (4, 3, [3])]) (by kernel_rfl) (by kernel_rfl) (by kernel_rfl) (by kernel_rfl) (by kernel_rfl) fun wt1 hbwt1 hzwt1 => ?_
 have s3 : Fx.Stp w2.heap.size w2 wt1 := Fx.Stp.of_below hbwt1
 have m4 := m3.stp s3 (Nat.ne_of_lt (m3.lt))
 have m5 := m2.stp s3 (Nat.ne_of_lt (m2.lt))
 have b3 := s3.below b2 b2.size b2.size
 refine Fx.R.s (.agg (Fx.varr 20 (stY s))) (x_loadA (x := stY s) (y := stY s) rfl rfl (by kernel_rfl) (by kernel_rfl) m4.cel (i := 0) (by omega) (by omega) (fun j _ => by rw [Nat.zero_add])) ?_
 refine Fx.R.read (v := .int .i64 ((a : Int) + 1)) (by rfl) (by rfl) (Fx.Mk.refl _) (fun v1 hv1 => x_load1 (x := fun _ => .int .i64 ((a : Int) + 1)) rfl rfl (by kernel_rfl) (m5.cel.below hv1 (by have := m5.lt; omega)) (i := 0) (by omega) (by omega) rfl) ?_
 refine Fx.R.make (by rfl) ?_
 refine Fx.L.call (by rfl) (Fx.r_call (args := [.agg (Fx.varr 20 (stY s))]) rfl rfl Try.func30 rfl rfl) rfl ((m_live s _).mono ?_)
 rintro e9 w3 ⟨v9, n9, he, hn9, hO9, hb9⟩
 obtain ⟨a9, cap9, rfl⟩ := hO9.val
 refine ⟨.slice a9 n9 cap9, he, ?_⟩
 clear he
 have s4 := Fx.Stp.of_below hb9
 have m6 := m4.stp s4 (Nat.ne_of_lt (m4.lt))
 have m7 := m5.stp s4 (Nat.ne_of_lt (m5.lt))
 have b4 := s4.below b3 b3.size b3.size
 have hn9l : n9 ≤ 6 := by rw [hn9]; exact live_len s 6
 refine Fx.L.nil ⟨s4.old, ?_⟩
 refine Fx.R.make (by rfl) ?_
 refine Fx.L.call (by rfl) (Fx.r_call (args := [.slice a9 (n9) (cap9), .int .i64 ((a : Int) + 1)]) rfl rfl Try.func75 rfl rfl) rfl (((g_contains a9 n9 cap9 (liveN s 6) ((a : Int) + 1) _ hO9.arr (by omega)).mono (fun e w2 h2 => (⟨h2.1.trans (by rw [hn9, live_has]), h2.2⟩ : e = .returned (.bool (liveI s ((a : Int) + 1))) ∧ _))).mono ?_)
 rintro e w4 ⟨he, hb1⟩
 refine ⟨.bool true, by rw [he, hli], ?_⟩
 clear he
 have s5 := Fx.Stp.of_below hb1
 have m8 := m6.stp s5 (Nat.ne_of_lt (m6.lt))
 have m9 := m7.stp s5 (Nat.ne_of_lt (m7.lt))
 have b5 := s5.below b4 b4.size b4.size
 refine Fx.L.nil ⟨s5.old, ?_⟩
 refine Fx.R.p (.bool false) (fun v1 => Fx.x_notF rfl rfl) (Fx.R.nil (Fx.seqN (Fx.W.cond (b := false) rfl (fun h => nomatch h) (fun _ => Fx.W.skip (Fx.seqN (Fx.W.seq (Fx.W.list (Fx.L.v (.agg (Fx.varr 20 (stY s))) (x_loadA (x := stY s) (y := stY s) rfl rfl (by kernel_rfl) (by kernel_rfl) m8.cel (i := 0) (by omega) (by omega) (fun j _ => by rw [Nat.zero_add])) ?_))))))))
 refine Fx.L.v (.int .u64 (x)) (x_move rfl rfl) (Fx.L.v (.func (.func 99) #[] #[.pointer (some ⟨g2, 0, none⟩)]) (Fx.x_func (us := []) (vs := [.pointer (some ⟨g2, 0, none⟩)]) rfl rfl rfl) (Fx.L.call (by rfl) (Fx.r_call (args := [.agg (Fx.varr 20 (stY s)), .int .u64 (x), .func (.func 99) #[] #[.pointer (some ⟨g2, 0, none⟩)]]) rfl rfl Try.func97 rfl rfl) rfl ((ro_leastO s id par R x _ (hnd.up b5 rfl) hnn a g2 ha m9).mono ?_)))
 rintro e w5 ⟨he, hb2⟩
 refine ⟨.int .i64 (leastV (fun k => locI id s.nn R (iterS id par s.nn k x) a) (pathS id par s.nn x)), by rw [he], ?_⟩
 clear he
 have s6 := Fx.Stp.of_below hb2
 have b6 := s6.below b5 b5.size b5.size
 refine Fx.L.v (.int .i64 (leastV (fun k => locI id s.nn R (iterS id par s.nn k x) a) (pathS id par s.nn x))) (x_assign rfl rfl) (Fx.L.nil (Fx.seqN (Fx.W.ret (⟨.int .i64 (leastV (fun k => locI id s.nn R (iterS id par s.nn k x) a) (pathS id par s.nn x)), Fx.retV1 Try.results56 (by exact rfl), ?_⟩))))
 exact ⟨rfl, b6⟩
set_option maxRecDepth 10000 in
theorem ro_all (s : StM) (id par : Nat → Int) (R : Nat → Nat → Int) (x : Int) (w : World) (hnd : Fx.Arr w s.na s.nn 56 (Fx.flat 56 fun k => ndY (id k) (par k) (R k))) (hnn : s.nn ≤ 1000000) (hlo : ∀ x, 0 ≤ firstS id s.nn x → LoOk (locI id s.nn R x)) :
    Calls Try.prog 55 #[.agg (Fx.varr 20 (stY s)), .int .u64 (x)] w fun e w' => e = .returned (.int .i64 (leastV (fun k => allI s (locI id s.nn R (iterS id par s.nn k x))) (pathS id par s.nn x))) ∧ Below w.heap.size w w' := by
 refine Fx.enter Try.func55 rfl (n := 12) rfl (by rfl) ?_
 refine Fx.W.seq (Fx.W.list (Fx.L.box (m := 20) (y := stY s) (by rfl) rfl rfl (Fx.cells_agg _ _) rfl fun g1 w1 eg1 m1 s1 z1 => ?_))
 have b1 := s1.below (Below.refl w.heap.size w) (Below.refl w.heap.size w).size (Below.refl w.heap.size w).size
 have lg1 : w.heap.size ≤ g1 := by rw [eg1]; exact (Below.refl w.heap.size w).size
 have tg1 : g1 < w1.heap.size := m1.lt
 clear eg1
 refine Fx.L.v (.int .i64 (0)) (x_assign rfl rfl) (Fx.L.nil (Fx.seqN (Fx.W.seq (Fx.W.list (Fx.L.v (.agg (Fx.varr 20 (stY s))) (x_loadA (x := stY s) (y := stY s) rfl rfl (by kernel_rfl) (by kernel_rfl) m1.cel (i := 0) (by omega) (by omega) (fun j _ => by rw [Nat.zero_add])) (Fx.L.call (by rfl) (Fx.r_call (args := [.agg (Fx.varr 20 (stY s))]) rfl rfl Try.func30 rfl rfl) rfl ((m_live s _).mono ?_)))))))
 rintro e9 w2 ⟨v9, n9, he, hn9, hO9, hb9⟩
 obtain ⟨a9, cap9, rfl⟩ := hO9.val
 refine ⟨.slice a9 n9 cap9, he, ?_⟩
 clear he
 have s2 := Fx.Stp.of_below hb9
 have m2 := m1.stp s2 (Nat.ne_of_lt (m1.lt))
 have b2 := s2.below b1 b1.size b1.size
 have hn9l : n9 ≤ 6 := by rw [hn9]; exact live_len s 6
 refine Fx.L.new (m := 1) (y := fun _ => .slice none 0 0) (by rfl) rfl (by kernel_rfl) rfl fun g2 w3 eg2 m3 s3 z2 => ?_
 have m4 := m2.stp s3 (Nat.ne_of_lt (m2.lt))
 have m5 := hO9.stp s3 (hO9.notNew (Nat.le_refl _))
 have b3 := s3.below b2 b2.size b2.size
 have lg2 : w.heap.size ≤ g2 := by rw [eg2]; exact b2.size
 have ng2m4 : g1 ≠ g2 := by rw [eg2]; exact Nat.ne_of_lt (m2.lt)
 have tg2 : g2 < w3.heap.size := m3.lt
 clear eg2
 refine Fx.L.store1 (x := fun _ => .slice none 0 0) (u := .slice a9 (n9) (cap9)) (by rfl) rfl rfl rfl rfl (by rfl) (by kernel_rfl) m3 (i := 0) (by omega) fun w4 m6 s4 z3 => ?_
 have m7 : Fx.Blk w4 g2 1 (fun _ => .slice a9 (n9) (cap9)) 23 := Fx.upd_all m6
 have hct1 := Fx.ChT.of_stp s4 m3.ty
 have m8 := m4.chT hct1 (by decide)
 have m9 := m5.chT hct1 (by decide)
 have b4 := s4.below b3 b3.size (by omega)
 refine Fx.L.nil (Fx.seqN (Fx.W.seq (Fx.W.list (Fx.L.v (.agg (Fx.varr 20 (stY s))) (x_loadA (x := stY s) (y := stY s) rfl rfl (by kernel_rfl) (by kernel_rfl) m8.cel (i := 0) (by omega) (by omega) (fun j _ => by rw [Nat.zero_add])) (Fx.L.v (.int .u64 (x)) (x_move rfl rfl) (Fx.L.v (.func (.func 98) #[] #[.pointer (some ⟨g2, 0, none⟩)]) (Fx.x_func (us := []) (vs := [.pointer (some ⟨g2, 0, none⟩)]) rfl rfl rfl) (Fx.L.call (by rfl) (Fx.r_call (args := [.agg (Fx.varr 20 (stY s)), .int .u64 (x), .func (.func 98) #[] #[.pointer (some ⟨g2, 0, none⟩)]]) rfl rfl Try.func97 rfl rfl) rfl ((ro_leastA s id par R x _ (hnd.up b4 rfl) hnn hlo (liveN s 6) a9 n9 cap9 g2 (live_ok s hn9) m9.arr m7).mono ?_))))))))
 rintro e w5 ⟨he, hb1⟩
 refine ⟨.int .i64 (leastV (fun k => sumL (locI id s.nn R (iterS id par s.nn k x)) (liveN s 6) n9) (pathS id par s.nn x)), by rw [he], ?_⟩
 clear he
 have s5 := Fx.Stp.of_below hb1
 have b5 := s5.below b4 b4.size b4.size
 refine Fx.L.v (.int .i64 (leastV (fun k => sumL (locI id s.nn R (iterS id par s.nn k x)) (liveN s 6) n9) (pathS id par s.nn x))) (x_assign rfl rfl) (Fx.L.nil (Fx.seqN (Fx.W.ret (⟨.int .i64 (leastV (fun k => sumL (locI id s.nn R (iterS id par s.nn k x)) (liveN s 6) n9) (pathS id par s.nn x)), Fx.retV1 Try.results55 (by exact rfl), ?_⟩))))
 exact ⟨congrArg (fun q => Ending.returned (Value.int .i64 q)) (by unfold allI; rw [hn9]), b5⟩
namespace Rt
def betB (l : Nat → Int) (but best j : Int) : Bool := !decide (j = but) && (decide (0 < l (j - 1).toNat) && (decide (best = 0) || decide (l (best - 1).toNat < l (j - 1).toNat)))
def gvN (live : List Int) (l : Nat → Int) (but : Int) : Nat → Int
  | 0 => 0
  | k + 1 => if betB l but (gvN live l but k) (live.getD k 0) = true then live.getD k 0 else gvN live l but k
theorem gv_bd {live : List Int} {l : Nat → Int} {but : Int} {n : Nat} (h : LvOk live n) : ∀ k, k ≤ n → 0 ≤ gvN live l but k ∧ gvN live l but k ≤ 6
  | 0, _ => ⟨Int.le_refl _, by show (0 : Int) ≤ 6; decide⟩
  | k + 1, hk => by
    have ih := gv_bd (l := l) (but := but) h k (by omega)
    have h1 := h.2 k (by omega)
    unfold gvN
    split <;> omega
theorem gv_yes {live : List Int} {l : Nat → Int} {but : Int} {k : Nat} (h : betB l but (gvN live l but k) (live.getD k 0) = true) : gvN live l but (k + 1) = live.getD k 0 := if_pos h
theorem gv_no {live : List Int} {l : Nat → Int} {but : Int} {k : Nat} (h : betB l but (gvN live l but k) (live.getD k 0) = false) : gvN live l but (k + 1) = gvN live l but k := if_neg (by rw [h]; decide)
end Rt
theorem ro_better (l : Nat → Int) (but best j : Int) (go gk gh : Nat) (w : World) (hb : 0 ≤ best ∧ best ≤ 6) (hj : 1 ≤ j ∧ j ≤ 6) (hgo : Fx.Blk w go 1 (fun _ => .int .i64 (but)) 3) (hgk : Fx.Blk w gk 6 (Fx.rv .i64 l) 45) (hgh : Fx.Blk w gh 1 (fun _ => .int .i64 (best)) 3) :
    Calls Try.prog 124 #[.int .i64 (j), .pointer (some ⟨go, 0, none⟩), .pointer (some ⟨gk, 0, none⟩), .pointer (some ⟨gh, 0, none⟩)] w fun e w' => e = .returned (.bool (betB l but best j)) ∧ Below w.heap.size w w' := by
 have lgo := hgo.lt
 have lgk := hgk.lt
 have lgh := hgh.lt
 refine Fx.enter Try.func124 rfl (n := 31) rfl (by rfl) ?_
 refine Fx.W.seq (Fx.W.list (Fx.L.v (.bool false) (x_assign rfl rfl) (Fx.L.nil (Fx.seqN (Fx.W.seq ?_)))))
 -- region 1 draws
 refine Fx.W.quiet (fun v1 => ∃ q, v1 = World.drewN w q) (by kernel_rfl) (by kernel_rfl) ⟨1, rfl⟩ ?_
 refine Fx.Qt.v (.int .i64 (j)) (fun v1 hv1 => x_move rfl rfl) (Fx.Qt.v (.int .i64 (but)) (fun v1 hv1 => x_load1 (x := fun _ => .int .i64 (but)) rfl rfl (by kernel_rfl) (by obtain ⟨qd, rfl⟩ := hv1; exact hgo.cel) (i := 0) (by omega) (by omega) rfl) ?_)
 by_cases c8 : j = but
 ·refine Fx.Qt.v (.bool false) (fun v1 hv1 => Fx.x_neqF rfl rfl rfl c8) (Fx.Qt.v (.bool false) (fun v1 hv1 => x_move rfl rfl) (Fx.Qt.skip (by rfl) rfl (Fx.Qt.skip (by rfl) rfl (Fx.Qt.skip (by rfl) rfl (Fx.Qt.skip (by rfl) rfl (Fx.Qt.skip (by rfl) rfl (Fx.Qt.v (.bool false) (fun v1 hv1 => x_pickF rfl rfl rfl) (Fx.Qt.v (.bool false) (fun v1 hv1 => x_move rfl rfl) (Fx.Qt.skip (by rfl) rfl (Fx.Qt.skip (by rfl) rfl (Fx.Qt.skip (by rfl) rfl (Fx.Qt.skip (by rfl) rfl (Fx.Qt.skip (by rfl) rfl (Fx.Qt.skip (by rfl) rfl (Fx.Qt.skip (by rfl) rfl (Fx.Qt.skip (by rfl) rfl (Fx.Qt.skip (by rfl) rfl (Fx.Qt.skip (by rfl) rfl (Fx.Qt.skip (by rfl) rfl (Fx.Qt.skip (by rfl) rfl (Fx.Qt.skip (by rfl) rfl (Fx.Qt.v (.bool false) (fun v1 hv1 => x_pickF rfl rfl rfl) (Fx.Qt.v (.bool false) (fun v1 hv1 => x_assign rfl rfl) (Fx.Qt.nil ?_))))))))))))))))))))))))
  rintro _ ⟨qd, rfl⟩
  obtain ⟨wq1, ewq1⟩ : ∃ v1, v1 = World.drewN w qd := ⟨_, rfl⟩
  rw [← ewq1]
  have s1 : Fx.Stp w.heap.size w wq1 := by rw [ewq1]; exact Fx.Stp.of_below (bdrN w qd)
  have b1 := s1.below (Below.refl w.heap.size w) (Below.refl w.heap.size w).size (Below.refl w.heap.size w).size
  clear ewq1
  refine Fx.seqN (Fx.W.ret (⟨.bool false, Fx.retV1 Try.results124 (by exact rfl), ?_⟩))
  exact ⟨congrArg (fun q => Ending.returned (Value.bool q)) (Eq.symm (by unfold betB; rw [decide_eq_true (show j = but from c8)]; rfl)), b1⟩
 ·refine Fx.Qt.v (.bool true) (fun v1 hv1 => Fx.x_neqT rfl rfl rfl c8) (Fx.Qt.v (.bool true) (fun v1 hv1 => x_move rfl rfl) (Fx.Qt.v (.int .i64 (j)) (fun v1 hv1 => x_move rfl rfl) (Fx.Qt.v (.int .i64 (j - 1)) (fun v1 hv1 => Fx.x_sub rfl rfl rfl (Fx.i64e (by omega) (by omega))) (Fx.Qt.v (.pointer (some ⟨gk, (j - 1).toNat, none⟩)) (fun v1 hv1 => x_index rfl rfl rfl Try.underlying45 (s := 1) (by kernel_rfl) (by omega) (by omega) (by omega)) (Fx.Qt.v (.int .i64 (l ((j - 1).toNat))) (fun v1 hv1 => x_load1 (x := Fx.rv .i64 l) rfl rfl (by kernel_rfl) (by obtain ⟨qd, rfl⟩ := hv1; exact hgk.cel) (i := (j - 1).toNat) (by omega) (by omega) rfl) ?_)))))
  by_cases c14 : 0 < (l ((j - 1).toNat))
  ·refine Fx.Qt.v (.bool true) (fun v1 hv1 => Fx.x_gtrT rfl rfl rfl c14) (Fx.Qt.v (.bool true) (fun v1 hv1 => x_pickT rfl rfl rfl) (Fx.Qt.v (.bool true) (fun v1 hv1 => x_move rfl rfl) (Fx.Qt.v (.int .i64 (best)) (fun v1 hv1 => x_load1 (x := fun _ => .int .i64 (best)) rfl rfl (by kernel_rfl) (by obtain ⟨qd, rfl⟩ := hv1; exact hgh.cel) (i := 0) (by omega) (by omega) rfl) ?_)))
   by_cases c18 : best = 0
   ·refine Fx.Qt.v (.bool true) (fun v1 hv1 => x_eqlT rfl rfl rfl c18) (Fx.Qt.v (.bool true) (fun v1 hv1 => x_move rfl rfl) (Fx.Qt.skip (by rfl) rfl (Fx.Qt.skip (by rfl) rfl (Fx.Qt.skip (by rfl) rfl (Fx.Qt.skip (by rfl) rfl (Fx.Qt.skip (by rfl) rfl (Fx.Qt.skip (by rfl) rfl (Fx.Qt.skip (by rfl) rfl (Fx.Qt.skip (by rfl) rfl (Fx.Qt.skip (by rfl) rfl (Fx.Qt.v (.bool true) (fun v1 hv1 => x_pickT rfl rfl rfl) (Fx.Qt.v (.bool true) (fun v1 hv1 => x_pickT rfl rfl rfl) (Fx.Qt.v (.bool true) (fun v1 hv1 => x_assign rfl rfl) (Fx.Qt.nil ?_))))))))))))))
    rintro _ ⟨qd, rfl⟩
    obtain ⟨wq2, ewq2⟩ : ∃ v1, v1 = World.drewN w qd := ⟨_, rfl⟩
    rw [← ewq2]
    have s2 : Fx.Stp w.heap.size w wq2 := by rw [ewq2]; exact Fx.Stp.of_below (bdrN w qd)
    have b2 := s2.below (Below.refl w.heap.size w) (Below.refl w.heap.size w).size (Below.refl w.heap.size w).size
    clear ewq2
    refine Fx.seqN (Fx.W.ret (⟨.bool true, Fx.retV1 Try.results124 (by exact rfl), ?_⟩))
    exact ⟨congrArg (fun q => Ending.returned (Value.bool q)) (Eq.symm (by unfold betB; rw [decide_eq_false (show ¬ j = but from c8)]; rw [decide_eq_true c14]; rw [decide_eq_true c18]; rfl)), b2⟩
   ·refine Fx.Qt.v (.bool false) (fun v1 hv1 => x_eqlF rfl rfl rfl c18) (Fx.Qt.v (.bool false) (fun v1 hv1 => x_move rfl rfl) (Fx.Qt.v (.int .i64 (j)) (fun v1 hv1 => x_move rfl rfl) (Fx.Qt.v (.int .i64 (j - 1)) (fun v1 hv1 => Fx.x_sub rfl rfl rfl (Fx.i64e (by omega) (by omega))) (Fx.Qt.v (.pointer (some ⟨gk, (j - 1).toNat, none⟩)) (fun v1 hv1 => x_index rfl rfl rfl Try.underlying45 (s := 1) (by kernel_rfl) (by omega) (by omega) (by omega)) (Fx.Qt.v (.int .i64 (l ((j - 1).toNat))) (fun v1 hv1 => x_load1 (x := Fx.rv .i64 l) rfl rfl (by kernel_rfl) (by obtain ⟨qd, rfl⟩ := hv1; exact hgk.cel) (i := (j - 1).toNat) (by omega) (by omega) rfl) (Fx.Qt.v (.int .i64 (best)) (fun v1 hv1 => x_load1 (x := fun _ => .int .i64 (best)) rfl rfl (by kernel_rfl) (by obtain ⟨qd, rfl⟩ := hv1; exact hgh.cel) (i := 0) (by omega) (by omega) rfl) (Fx.Qt.v (.int .i64 (best - 1)) (fun v1 hv1 => Fx.x_sub rfl rfl rfl (Fx.i64e (by omega) (by omega))) (Fx.Qt.v (.pointer (some ⟨gk, (best - 1).toNat, none⟩)) (fun v1 hv1 => x_index rfl rfl rfl Try.underlying45 (s := 1) (by kernel_rfl) (by omega) (by omega) (by omega)) (Fx.Qt.v (.int .i64 (l ((best - 1).toNat))) (fun v1 hv1 => x_load1 (x := Fx.rv .i64 l) rfl rfl (by kernel_rfl) (by obtain ⟨qd, rfl⟩ := hv1; exact hgk.cel) (i := (best - 1).toNat) (by omega) (by omega) rfl) ?_)))))))))
    by_cases c28 : (l ((best - 1).toNat)) < (l ((j - 1).toNat))
    ·refine Fx.Qt.v (.bool true) (fun v1 hv1 => Fx.x_gtrT rfl rfl rfl c28) (Fx.Qt.v (.bool true) (fun v1 hv1 => x_pickF rfl rfl rfl) (Fx.Qt.v (.bool true) (fun v1 hv1 => x_pickT rfl rfl rfl) (Fx.Qt.v (.bool true) (fun v1 hv1 => x_assign rfl rfl) (Fx.Qt.nil ?_))))
     rintro _ ⟨qd, rfl⟩
     obtain ⟨wq3, ewq3⟩ : ∃ v1, v1 = World.drewN w qd := ⟨_, rfl⟩
     rw [← ewq3]
     have s3 : Fx.Stp w.heap.size w wq3 := by rw [ewq3]; exact Fx.Stp.of_below (bdrN w qd)
     have b3 := s3.below (Below.refl w.heap.size w) (Below.refl w.heap.size w).size (Below.refl w.heap.size w).size
     clear ewq3
     refine Fx.seqN (Fx.W.ret (⟨.bool true, Fx.retV1 Try.results124 (by exact rfl), ?_⟩))
     exact ⟨congrArg (fun q => Ending.returned (Value.bool q)) (Eq.symm (by unfold betB; rw [decide_eq_false (show ¬ j = but from c8)]; rw [decide_eq_true c14]; rw [decide_eq_false c18]; rw [decide_eq_true c28]; rfl)), b3⟩
    ·refine Fx.Qt.v (.bool false) (fun v1 hv1 => x_gtrF rfl rfl rfl c28) (Fx.Qt.v (.bool false) (fun v1 hv1 => x_pickF rfl rfl rfl) (Fx.Qt.v (.bool false) (fun v1 hv1 => x_pickT rfl rfl rfl) (Fx.Qt.v (.bool false) (fun v1 hv1 => x_assign rfl rfl) (Fx.Qt.nil ?_))))
     rintro _ ⟨qd, rfl⟩
     obtain ⟨wq4, ewq4⟩ : ∃ v1, v1 = World.drewN w qd := ⟨_, rfl⟩
     rw [← ewq4]
     have s4 : Fx.Stp w.heap.size w wq4 := by rw [ewq4]; exact Fx.Stp.of_below (bdrN w qd)
     have b4 := s4.below (Below.refl w.heap.size w) (Below.refl w.heap.size w).size (Below.refl w.heap.size w).size
     clear ewq4
     refine Fx.seqN (Fx.W.ret (⟨.bool false, Fx.retV1 Try.results124 (by exact rfl), ?_⟩))
     exact ⟨congrArg (fun q => Ending.returned (Value.bool q)) (Eq.symm (by unfold betB; rw [decide_eq_false (show ¬ j = but from c8)]; rw [decide_eq_true c14]; rw [decide_eq_false c18]; rw [decide_eq_false c28]; rfl)), b4⟩
  ·refine Fx.Qt.v (.bool false) (fun v1 hv1 => x_gtrF rfl rfl rfl c14) (Fx.Qt.v (.bool false) (fun v1 hv1 => x_pickT rfl rfl rfl) (Fx.Qt.v (.bool false) (fun v1 hv1 => x_move rfl rfl) (Fx.Qt.skip (by rfl) rfl (Fx.Qt.skip (by rfl) rfl (Fx.Qt.skip (by rfl) rfl (Fx.Qt.skip (by rfl) rfl (Fx.Qt.skip (by rfl) rfl (Fx.Qt.skip (by rfl) rfl (Fx.Qt.skip (by rfl) rfl (Fx.Qt.skip (by rfl) rfl (Fx.Qt.skip (by rfl) rfl (Fx.Qt.skip (by rfl) rfl (Fx.Qt.skip (by rfl) rfl (Fx.Qt.skip (by rfl) rfl (Fx.Qt.skip (by rfl) rfl (Fx.Qt.v (.bool false) (fun v1 hv1 => x_pickF rfl rfl rfl) (Fx.Qt.v (.bool false) (fun v1 hv1 => x_assign rfl rfl) (Fx.Qt.nil ?_))))))))))))))))))
   rintro _ ⟨qd, rfl⟩
   obtain ⟨wq5, ewq5⟩ : ∃ v1, v1 = World.drewN w qd := ⟨_, rfl⟩
   rw [← ewq5]
   have s5 : Fx.Stp w.heap.size w wq5 := by rw [ewq5]; exact Fx.Stp.of_below (bdrN w qd)
   have b5 := s5.below (Below.refl w.heap.size w) (Below.refl w.heap.size w).size (Below.refl w.heap.size w).size
   clear ewq5
   refine Fx.seqN (Fx.W.ret (⟨.bool false, Fx.retV1 Try.results124 (by exact rfl), ?_⟩))
   exact ⟨congrArg (fun q => Ending.returned (Value.bool q)) (Eq.symm (by unfold betB; rw [decide_eq_false (show ¬ j = but from c8)]; rw [decide_eq_false c14]; rfl)), b5⟩
theorem ro_giver (live : List Int) (l : Nat → Int) (but : Int) (al : Option Addr) (n cl : Nat) (w : World) (hlv : LvOk live n) (hl : Fx.Arr w al n 1 (lsX live)) :
    Calls Try.prog 106 #[.slice al (n) (cl), .agg (Fx.varr 6 (Fx.rv .i64 l)), .int .i64 (but)] w fun e w' => e = .returned (.int .i64 (gvN live l but n)) ∧ Below w.heap.size w w' := by
 have hn6 := hlv.1
 refine Fx.enter Try.func106 rfl (n := 24) rfl (by rfl) ?_
 refine Fx.W.seq (Fx.W.list (Fx.L.box (m := 6) (y := Fx.rv .i64 l) (by rfl) rfl rfl (Fx.cells_agg _ _) rfl fun g1 w1 eg1 m1 s1 z1 => ?_))
 have b1 := s1.below (Below.refl w.heap.size w) (Below.refl w.heap.size w).size (Below.refl w.heap.size w).size
 have lg1 : w.heap.size ≤ g1 := by rw [eg1]; exact (Below.refl w.heap.size w).size
 have tg1 : g1 < w1.heap.size := m1.lt
 clear eg1
 refine Fx.L.box (m := 1) (y := fun _ => .int .i64 (but)) (by rfl) rfl rfl (Fx.cells_one (by rfl)) rfl fun g2 w2 eg2 m2 s2 z2 => ?_
 have m3 := m1.stp s2 (Nat.ne_of_lt (m1.lt))
 have b2 := s2.below b1 b1.size b1.size
 have lg2 : w.heap.size ≤ g2 := by rw [eg2]; exact b1.size
 have ng2m3 : g1 ≠ g2 := by rw [eg2]; exact Nat.ne_of_lt (m1.lt)
 have tg2 : g2 < w2.heap.size := m2.lt
 clear eg2
 refine Fx.L.v (.int .i64 (0)) (x_assign rfl rfl) (Fx.L.nil (Fx.seqN (Fx.W.seq (Fx.W.list (Fx.L.new (m := 1) (y := Fx.rv .i64 (fun _ => 0)) (by rfl) rfl (by kernel_rfl) rfl fun g3 w3 eg3 m4 s3 z3 => ?_)))))
 have m5 := m3.stp s3 (Nat.ne_of_lt (m3.lt))
 have m6 := m2.stp s3 (Nat.ne_of_lt (m2.lt))
 have b3 := s3.below b2 b2.size b2.size
 have lg3 : w.heap.size ≤ g3 := by rw [eg3]; exact b2.size
 have ng3m5 : g1 ≠ g3 := by rw [eg3]; exact Nat.ne_of_lt (m3.lt)
 have ng3m6 : g2 ≠ g3 := by rw [eg3]; exact Nat.ne_of_lt (m2.lt)
 have tg3 : g3 < w3.heap.size := m4.lt
 clear eg3
 refine Fx.L.store1 (x := Fx.rv .i64 (fun _ => 0)) (u := .int .i64 (0)) (by rfl) rfl rfl rfl rfl (by rfl) (by kernel_rfl) m4 (i := 0) (by omega) fun w4 m7 s4 z4 => ?_
 have m8 : Fx.Blk w4 g3 1 (fun _ => .int .i64 (0)) 3 := Fx.upd_all m7
 have hct1 := Fx.ChT.of_stp s4 m4.ty
 have m9 := m5.chT hct1 (by decide)
 have m10 := m6.stp s4 (by omega)
 have b4 := s4.below b3 b3.size (by omega)
 refine Fx.L.nil (Fx.seqN (Fx.W.seq (Fx.W.list (Fx.L.v (.func (.func 124) #[] #[.pointer (some ⟨g2, 0, none⟩), .pointer (some ⟨g1, 0, none⟩), .pointer (some ⟨g3, 0, none⟩)]) (Fx.x_func (us := []) (vs := [.pointer (some ⟨g2, 0, none⟩), .pointer (some ⟨g1, 0, none⟩), .pointer (some ⟨g3, 0, none⟩)]) rfl rfl rfl) (Fx.L.v (.func (.func 124) #[] #[.pointer (some ⟨g2, 0, none⟩), .pointer (some ⟨g1, 0, none⟩), .pointer (some ⟨g3, 0, none⟩)]) (x_assign rfl rfl) (Fx.L.nil (Fx.seqN (Fx.W.seq (Fx.W.seq (Fx.W.list (Fx.L.v (.slice al (n) (cl)) (x_move rfl rfl) (Fx.L.v (.int .i64 ((n : Int))) (x_len rfl rfl rfl (by kernel_rfl)) (Fx.L.v (.int .i64 (0)) (x_move rfl rfl) (Fx.L.nil (Fx.seqN (Fx.W.block (Fx.W.loop (fun f w_ => ∃ k : Nat, k ≤ n ∧ f 4 = .pointer (some ⟨g1, 0, none⟩) ∧ f 5 = .pointer (some ⟨g2, 0, none⟩) ∧ f 7 = .pointer (some ⟨g3, 0, none⟩) ∧ f 8 = .func (.func 124) #[] #[.pointer (some ⟨g2, 0, none⟩), .pointer (some ⟨g1, 0, none⟩), .pointer (some ⟨g3, 0, none⟩)] ∧ f 12 = .slice al (n) (cl) ∧ f 13 = .int .i64 ((n : Int)) ∧ f 14 = .int .i64 ((k : Int)) ∧ Fx.Blk w_ g1 6 (Fx.rv .i64 l) 45 ∧ Fx.Blk w_ g2 1 (fun _ => .int .i64 (but)) 3 ∧ Fx.Blk w_ g3 1 (fun _ => .int .i64 (gvN live l but k)) 3 ∧ Below w.heap.size w w_) (fun f _ => (n - (intOf (f 14)).toNat)) ⟨0, by omega, (by rfl), (by rfl), (by rfl), (by rfl), (by rfl), (by first | rfl | exact congrArg (Value.int .i64) (by omega)), (by first | rfl | exact congrArg (Value.int .i64) (by omega)), m9, m10, m8, b4⟩ ?_)))))))))))))))))
 rintro f1 w5 ⟨k, hk, h1, h2, h3, h4, h5, h6, h7, m11, m12, m13, b5⟩
 refine Fx.W.seq (Fx.W.list ?_)
 by_cases c15 : (k : Int) < (n : Int)
 ·refine Fx.L.v (.bool true) (Fx.x_lssT rfl h7 h6 c15) (Fx.L.nil (Fx.seqN (Fx.W.seq (Fx.W.cond (b := true) rfl (fun _ => Fx.W.skip (Fx.seqN (Fx.W.seq (Fx.W.block (Fx.W.seq ?_))))) (fun h => nomatch h)))))
  have hjb := hlv.2 k (by omega)
  have hgb := gv_bd (l := l) (but := but) hlv k (by omega)
  refine Fx.W.list ?_
  obtain ⟨bq1, oq1, eq1, m14⟩ := (hl.up b5 rfl) (by omega)
  have lbq1 : bq1 < w5.heap.size := m14.lt (by omega)
  refine Fx.L.v (.pointer (some ⟨bq1, k + oq1, none⟩)) (x_indexS rfl (h5.trans (congrArg (fun q => Value.slice q (n) (cl)) eq1)) h7 Try.underlying23 (s := 1) (by kernel_rfl) (by omega) (by omega) (by omega)) (Fx.L.v (.int .i64 (live.getD k 0)) (x_load1 (x := lsX live) rfl rfl (by kernel_rfl) m14 (i := k) (by omega) (by omega) rfl) (Fx.L.v (.int .i64 (live.getD k 0)) (x_assign rfl rfl) (Fx.L.nil (Fx.seqN (Fx.W.seq (Fx.W.list (Fx.L.v (.func (.func 124) #[] #[.pointer (some ⟨g2, 0, none⟩), .pointer (some ⟨g1, 0, none⟩), .pointer (some ⟨g3, 0, none⟩)]) (x_move rfl h4) (Fx.L.v (.int .i64 (live.getD k 0)) (x_move rfl rfl) ?_))))))))
  by_cases c20 : (betB l but (gvN live l but k) (live.getD k 0)) = true
  ·refine Fx.L.call (by rfl) (Fx.r_clo (args := [.int .i64 (live.getD k 0)]) rfl rfl rfl (all := #[.int .i64 (live.getD k 0), .pointer (some ⟨g2, 0, none⟩), .pointer (some ⟨g1, 0, none⟩), .pointer (some ⟨g3, 0, none⟩)]) rfl Try.func124 rfl rfl) rfl ((ro_better l but (gvN live l but k) (live.getD k 0) g2 g1 g3 _ hgb hjb m12 m11 m13).mono ?_)
   rintro e w6 ⟨he, hb1⟩
   refine ⟨.bool true, by rw [he, c20], ?_⟩
   clear he
   have s5 := Fx.Stp.of_below hb1
   have m15 := m11.stp s5 (Nat.ne_of_lt (m11.lt))
   have m16 := m12.stp s5 (Nat.ne_of_lt (m12.lt))
   have m17 := m13.stp s5 (Nat.ne_of_lt (m13.lt))
   have b6 := s5.below b5 b5.size b5.size
   refine Fx.L.nil (Fx.seqN (Fx.W.cond (b := true) rfl (fun _ => Fx.W.list (Fx.L.v (.int .i64 (live.getD k 0)) (x_move rfl rfl) ?_)) (fun h => nomatch h)))
   refine Fx.L.store1 (x := fun _ => .int .i64 (gvN live l but k)) (u := .int .i64 (live.getD k 0)) (by rfl) rfl rfl h3 rfl (by rfl) (by kernel_rfl) m17 (i := 0) (by omega) fun w7 m19 s6 z5 => ?_
   have m20 : Fx.Blk w7 g3 1 (fun _ => .int .i64 (live.getD k 0)) 3 := Fx.upd_all m19
   have m21 : Fx.Blk w7 g3 1 (fun _ => .int .i64 (gvN live l but (k + 1))) 3 := m20.to (by funext j; exact congrArg (Value.int .i64) (gv_yes c20).symm)
   have hct2 := Fx.ChT.of_stp s6 m17.ty
   have m22 := m15.chT hct2 (by decide)
   have m23 := m16.stp s6 (by omega)
   have b7 := s6.below b6 b6.size (by omega)
   refine Fx.L.nil (Fx.blkN (Fx.seqN (Fx.W.list (Fx.L.v (.int .i64 ((k : Int) + 1)) (Fx.x_add rfl h7 rfl (Fx.i64e (by omega) (by omega))) (Fx.L.v (.int .i64 ((k : Int) + 1)) (x_move rfl rfl) (Fx.L.nil (Fx.lpN ⟨k + 1, by omega, h1, h2, h3, h4, h5, (h6.trans (by first | rfl | exact congrArg (Value.int .i64) (by omega))), (by first | rfl | exact congrArg (Value.int .i64) (by omega)), m22, m23, m21, b7⟩ ?_)))))))
   show (n - (intOf ((.int .i64 ((k : Int) + 1)))).toNat) < _
   simp only [h7, intOf]; omega
  ·rw [Bool.not_eq_true] at c20
   refine Fx.L.call (by rfl) (Fx.r_clo (args := [.int .i64 (live.getD k 0)]) rfl rfl rfl (all := #[.int .i64 (live.getD k 0), .pointer (some ⟨g2, 0, none⟩), .pointer (some ⟨g1, 0, none⟩), .pointer (some ⟨g3, 0, none⟩)]) rfl Try.func124 rfl rfl) rfl ((ro_better l but (gvN live l but k) (live.getD k 0) g2 g1 g3 _ hgb hjb m12 m11 m13).mono ?_)
   rintro e w8 ⟨he, hb2⟩
   refine ⟨.bool false, by rw [he, c20], ?_⟩
   clear he
   have s7 := Fx.Stp.of_below hb2
   have m24 := m11.stp s7 (Nat.ne_of_lt (m11.lt))
   have m25 := m12.stp s7 (Nat.ne_of_lt (m12.lt))
   have m26 := m13.stp s7 (Nat.ne_of_lt (m13.lt))
   have b8 := s7.below b5 b5.size b5.size
   refine Fx.L.nil (Fx.seqN (Fx.W.cond (b := false) rfl (fun h => nomatch h) (fun _ => Fx.W.skip (Fx.blkN (Fx.seqN ?_)))))
   have m28 : Fx.Blk w8 g3 1 (fun _ => .int .i64 (gvN live l but (k + 1))) 3 := m26.to (by funext j; exact congrArg (Value.int .i64) (gv_no c20).symm)
   refine Fx.W.list (Fx.L.v (.int .i64 ((k : Int) + 1)) (Fx.x_add rfl h7 rfl (Fx.i64e (by omega) (by omega))) (Fx.L.v (.int .i64 ((k : Int) + 1)) (x_move rfl rfl) (Fx.L.nil (Fx.lpN ⟨k + 1, by omega, h1, h2, h3, h4, h5, (h6.trans (by first | rfl | exact congrArg (Value.int .i64) (by omega))), (by first | rfl | exact congrArg (Value.int .i64) (by omega)), m24, m25, m28, b8⟩ ?_))))
   show (n - (intOf ((.int .i64 ((k : Int) + 1)))).toNat) < _
   simp only [h7, intOf]; omega
 ·refine Fx.L.v (.bool false) (Fx.x_lssF rfl h7 h6 c15) (Fx.L.nil (Fx.seqN (Fx.W.seq (Fx.W.cond (b := false) rfl (fun h => nomatch h) (fun _ => Fx.W.exit (Fx.seqX (Fx.lpX (Fx.blkX (Fx.seqN (Fx.W.seq (Fx.W.list (Fx.L.v (.int .i64 (gvN live l but k)) (x_load1 (x := fun _ => .int .i64 (gvN live l but k)) rfl h3 (by kernel_rfl) m13.cel (i := 0) (by omega) (by omega) rfl) (Fx.L.v (.int .i64 (gvN live l but k)) (x_assign rfl rfl) (Fx.L.nil (Fx.seqN (Fx.W.ret (⟨.int .i64 (gvN live l but k), Fx.retV1 Try.results106 (by exact rfl), ?_⟩)))))))))))))))))
  obtain rfl : k = n := by omega
  exact ⟨rfl, b5⟩
section
namespace Rt
structure GiftM where
  fr : Int
  node : Int
  amt : Int
def gf0 : GiftM := ⟨0, 0, 0⟩
def gfY (g : GiftM) : Nat → Value := fun p => if p = 0 then .int .i64 g.fr else if p = 1 then .int .u64 g.node else .int .i64 g.amt
def gfX (l : List GiftM) : Nat → Value := Fx.flat 3 fun k => gfY (l.getD k gf0)
theorem gfY_one (x : GiftM) (j : Nat) : (gfY x j).oneCell' = true := by unfold gfY; repeat (first | rfl | split)
theorem gf_app {l : List GiftM} {n : Nat} {y z : Nat → Value} {x : GiftM} (hn : n = l.length) (hy : ∀ j, j < 3 → y j = gfY x j) : ∀ j, j < (n + 1) * 3 → Fx.appX (gfX l) (n * 3) (Fx.ovr z (0 * 3) 3 y) j = gfX (l ++ [x]) j := fun j hj =>
  (Fx.app_flat j hj).trans (Fx.flat_cong (fun i hi q hq => by
    subst hn
    unfold Fx.updF
    by_cases h : i = l.length
    · subst h; rw [if_pos rfl, List.getD_eq_getElem?_getD, List.getElem?_append_right (by omega), Nat.sub_self]; exact hy q hq
    · rw [if_neg h]; show gfY (l.getD i gf0) q = _; rw [List.getD_eq_getElem?_getD, List.getD_eq_getElem?_getD, List.getElem?_append_left (by omega)]) j hj)
def gAmt (l : Nat → Int) (b a : Nat) (y : Int) : Int := if y - l a < l b then y - l a else l b
def mvG (l : Nat → Int) (b a : Nat) (am : Int) : Nat → Int := upd (upd l b (l b - am)) a (upd l b (l b - am) a + am)
def frG (live : List Int) (n a : Nat) (l : Nat → Int) : Int := gvN live l ((a : Int) + 1) n
def stG (live : List Int) (n : Nat) (y : Int) (a : Nat) (l : Nat → Int) : Nat → Int := mvG l (frG live n a l - 1).toNat a (gAmt l (frG live n a l - 1).toNat a y)
def itG (live : List Int) (n : Nat) (y : Int) (a : Nat) (l : Nat → Int) : Nat → Nat → Int
  | 0 => l
  | m + 1 => stG live n y a (itG live n y a l m)
def oneG (live : List Int) (n : Nat) (y : Int) (a : Nat) (node : Int) (l : Nat → Int) : GiftM := ⟨frG live n a l, node, gAmt l (frG live n a l - 1).toNat a y⟩
def gfN (live : List Int) (n : Nat) (y : Int) (a : Nat) (l : Nat → Int) (node : Int) : Nat → List GiftM
  | 0 => []
  | m + 1 => gfN live n y a l node m ++ [oneG live n y a node (itG live n y a l m)]
def goG (live : List Int) (n : Nat) (y : Int) (a : Nat) (l : Nat → Int) (m : Nat) : Bool := decide (itG live n y a l m a < y) && !decide (frG live n a (itG live n y a l m) = 0)
def cntG (live : List Int) (n : Nat) (y : Int) (a : Nat) (l : Nat → Int) : Nat := lead (goG live n y a l) 6
def okG (live : List Int) (n : Nat) (y : Int) (a : Nat) (l : Nat → Int) : Bool := decide (y ≤ itG live n y a l (cntG live n y a l) a)
def nodeG (live : List Int) (n : Nat) (y : Int) (a : Nat) (l : Nat → Int) (node : Int) : List GiftM := gfN live n y a l node (cntG live n y a l)
def allG (live : List Int) (n : Nat) (y : Int) (a : Nat) (lo : Nat → Nat → Int) (nd : Nat → Int) : Nat → List GiftM
  | 0 => []
  | p + 1 => allG live n y a lo nd p ++ nodeG live n y a (lo p) (nd p)
section
variable {live : List Int} {n a b m : Nat} {y : Int} {l : Nat → Int} {node : Int}
theorem gfN_len : ∀ m, (gfN live n y a l node m).length = m
  | 0 => rfl
  | m + 1 => by unfold gfN; rw [List.length_append, gfN_len m]; rfl
theorem gv_spec {but : Int} : ∀ k, (gvN live l but k = 0 ∨ (∃ q, q < k ∧ gvN live l but k = live.getD q 0 ∧ gvN live l but k ≠ but ∧ 0 < l (gvN live l but k - 1).toNat))
  | 0 => .inl rfl
  | k + 1 => by
    have ih := gv_spec (but := but) k
    cases hb : betB l but (gvN live l but k) (live.getD k 0) with
    | true =>
      rw [gv_yes hb]
      unfold betB at hb
      simp only [Bool.and_eq_true, Bool.not_eq_true', decide_eq_false_iff_not, decide_eq_true_eq] at hb
      exact .inr ⟨k, Nat.lt_succ_self k, rfl, hb.1, hb.2.1⟩
    | false =>
      rw [gv_no hb]
      rcases ih with h | ⟨q, h1, h2⟩
      · exact .inl h
      · exact .inr ⟨q, by omega, h2⟩
theorem gv_max {but : Int} (h : LvOk live n) : ∀ k, k ≤ n → ∀ q, q < k → live.getD q 0 ≠ but → (gvN live l but k = 0 → l (live.getD q 0 - 1).toNat ≤ 0) ∧ (gvN live l but k ≠ 0 → l (live.getD q 0 - 1).toNat ≤ l (gvN live l but k - 1).toNat)
  | 0, _, q, hq, _ => absurd hq (Nat.not_lt_zero q)
  | k + 1, hk, q, hq, hne => by
    have ih := gv_max (but := but) h k (by omega)
    have hs := gv_spec (live := live) (l := l) (but := but) k
    cases hb : betB l but (gvN live l but k) (live.getD k 0) with
    | true =>
      rw [gv_yes hb]
      unfold betB at hb
      simp only [Bool.and_eq_true, Bool.not_eq_true', Bool.or_eq_true, decide_eq_false_iff_not, decide_eq_true_eq] at hb
      obtain ⟨h1, h2, h3⟩ := hb
      have hr := h.2 k (by omega)
      refine ⟨fun e => by omega, fun _ => ?_⟩
      by_cases e : q = k
      · rw [e]; exact Int.le_refl _
      · have i1 := ih q (by omega) hne
        rcases h3 with h3 | h3
        · have := i1.1 h3; omega
        · by_cases e2 : gvN live l but k = 0
          · have := i1.1 e2; omega
          · have := i1.2 e2; omega
    | false =>
      rw [gv_no hb]
      by_cases e : q = k
      · subst e
        unfold betB at hb
        have hb' : ¬ (0 < l (live.getD q 0 - 1).toNat ∧ (gvN live l but q = 0 ∨ l (gvN live l but q - 1).toNat < l (live.getD q 0 - 1).toNat)) := by
          intro hc
          rw [decide_eq_false hne, decide_eq_true hc.1] at hb
          rcases hc.2 with h2 | h2 <;> rw [decide_eq_true h2] at hb <;> simp at hb
        refine ⟨fun e0 => ?_, fun e0 => ?_⟩
        · rcases Int.lt_or_le 0 (l (live.getD q 0 - 1).toNat) with h1 | h1
          · exact absurd ⟨h1, .inl e0⟩ hb'
          · exact h1
        · rcases Int.lt_or_le (l (gvN live l but q - 1).toNat) (l (live.getD q 0 - 1).toNat) with h1 | h1
          · rcases Int.lt_or_le 0 (l (live.getD q 0 - 1).toNat) with h2 | h2
            · exact absurd ⟨h2, .inr h1⟩ hb'
            · rcases hs with h3 | ⟨_, _, _, _, h3⟩
              · exact absurd h3 e0
              · omega
          · exact h1
      · exact ih q (by omega) hne
theorem fr_some (h : LvOk live n) (hf : frG live n a l ≠ 0) : ∃ b : Nat, b < 6 ∧ frG live n a l = (b : Int) + 1 ∧ b ≠ a ∧ 0 < l b ∧ ∃ q, q < n ∧ live.getD q 0 = (b : Int) + 1 := by
  rcases gv_spec (live := live) (l := l) (but := (a : Int) + 1) n with h0 | ⟨q, hq, e, hne, hp⟩
  · exact absurd h0 hf
  · have hr := h.2 q hq
    unfold frG
    rw [e] at hne hp ⊢
    obtain ⟨b, hb⟩ : ∃ b : Nat, live.getD q 0 = (b : Int) + 1 := ⟨(live.getD q 0 - 1).toNat, by omega⟩
    rw [hb] at hne hp hr ⊢
    refine ⟨b, by omega, rfl, by omega, ?_, q, hq, hb⟩
    rw [show ((b : Int) + 1 - 1).toNat = b by omega] at hp
    exact hp
theorem gAmt_bd (h1 : l a < y) (h2 : 0 < l b) : 1 ≤ gAmt l b a y ∧ gAmt l b a y ≤ l b ∧ gAmt l b a y ≤ y - l a := by
  unfold gAmt; split <;> omega
theorem mvG_at (hab : b ≠ a) (am : Int) (j : Nat) : mvG l b a am j = if j = a then l a + am else if j = b then l b - am else l j := by
  have e : upd l b (l b - am) a = l a := upd_other _ _ _ _ (fun h => hab h.symm)
  unfold mvG
  rw [e]; rfl
theorem mv_ok {am : Int} (hl : LoOk l) (hab : b ≠ a) (h0 : 0 ≤ am) (h1 : am ≤ l b) (h2 : l a + am ≤ 9007199254740992) : LoOk (mvG l b a am) := fun j hj => by
  rw [mvG_at hab]
  have h3 := hl j hj
  split
  · rename_i e; subst e; omega
  · split
    · rename_i e; subst e; omega
    · exact h3
theorem it_ok (h : LvOk live n) (ha : a < 6) (hl : LoOk l) (hy : y ≤ 1125899906842624) : ∀ m, (∀ q, q < m → goG live n y a l q = true) → LoOk (itG live n y a l m)
  | 0, _ => hl
  | m + 1, hg => by
    have ih := it_ok h ha hl hy m fun q hq => hg q (by omega)
    have hm := hg m (Nat.lt_succ_self m)
    unfold goG at hm
    simp only [Bool.and_eq_true, Bool.not_eq_true', decide_eq_false_iff_not, decide_eq_true_eq] at hm
    show LoOk (stG live n y a (itG live n y a l m))
    generalize itG live n y a l m = lm at ih hm ⊢
    obtain ⟨b, hb, e, hne, hp, _⟩ := fr_some h hm.2
    unfold stG
    rw [e, show ((b : Int) + 1 - 1).toNat = b by omega]
    have hg2 := gAmt_bd hm.1 hp
    exact mv_ok ih hne (by omega) hg2.2.1 (by omega)
def posN (l : Nat → Int) (a : Nat) : Nat → Nat
  | 0 => 0
  | j + 1 => posN l a j + if j ≠ a ∧ 0 < l j then 1 else 0
theorem pos_le (l : Nat → Int) (a : Nat) : ∀ j, posN l a j ≤ j
  | 0 => Nat.le_refl _
  | j + 1 => by have := pos_le l a j; unfold posN; split <;> omega
theorem pos_le5 (ha : a < 6) (l : Nat → Int) : posN l a 6 ≤ 5 := by
  have : ∀ j, a < j → posN l a j ≤ j - 1 := fun j => by
    induction j with
    | zero => omega
    | succ j ih =>
      intro h
      unfold posN
      by_cases e : j = a
      · subst e; rw [if_neg (fun h => h.1 rfl)]; have := pos_le l j j; omega
      · have := ih (by omega); split <;> omega
  exact this 6 ha
theorem pos_gone {l' : Nat → Int} (hb : b ≠ a) (h0 : 0 < l b) (h1 : l' b ≤ 0) (ho : ∀ j, j ≠ a → j ≠ b → l' j = l j) : ∀ j, b < j → posN l' a j + 1 = posN l a j
  | 0, h => absurd h (Nat.not_lt_zero _)
  | j + 1, h => by
    have same : ∀ i, i ≤ b → posN l' a i = posN l a i := fun i => by
      induction i with
      | zero => intro _; rfl
      | succ i ih =>
        intro hi
        unfold posN
        rw [ih (by omega)]
        by_cases e : i = a
        · subst e; rw [if_neg (fun h => h.1 rfl), if_neg (fun h => h.1 rfl)]
        · rw [ho i e (by omega)]
    unfold posN
    by_cases e : j = b
    · subst e
      rw [same j (Nat.le_refl _), if_neg (fun h => by omega), if_pos ⟨hb, h0⟩]
    · have ih := pos_gone hb h0 h1 ho j (by omega)
      by_cases e2 : j = a
      · subst e2; rw [if_neg (fun h => h.1 rfl), if_neg (fun h => h.1 rfl)]; omega
      · rw [ho j e2 e]; omega
theorem pos_one (hb : b ≠ a) (h0 : 0 < l b) : ∀ j, b < j → 1 ≤ posN l a j
  | 0, h => absurd h (Nat.not_lt_zero _)
  | j + 1, h => by
    unfold posN
    by_cases e : j = b
    · subst e; rw [if_pos ⟨hb, h0⟩]; omega
    · have := pos_one hb h0 j (by omega); omega
theorem it_pos (h : LvOk live n) (ha : a < 6) : ∀ m, (∀ q, q < m → goG live n y a l q = true) → itG live n y a l m a = y ∨ posN (itG live n y a l m) a 6 + m ≤ 5
  | 0, _ => .inr (pos_le5 ha _)
  | m + 1, hg => by
    have ih := it_pos h ha m fun q hq => hg q (by omega)
    have hm := hg m (Nat.lt_succ_self m)
    unfold goG at hm
    simp only [Bool.and_eq_true, Bool.not_eq_true', decide_eq_false_iff_not, decide_eq_true_eq] at hm
    show stG live n y a (itG live n y a l m) a = y ∨ posN (stG live n y a (itG live n y a l m)) a 6 + (m + 1) ≤ 5
    generalize itG live n y a l m = lm at ih hm ⊢
    obtain ⟨b, hb, e, hne, hp, _⟩ := fr_some h hm.2
    unfold stG
    rw [e, show ((b : Int) + 1 - 1).toNat = b by omega]
    have hi : posN lm a 6 + m ≤ 5 := by rcases ih with h1 | h1 <;> omega
    by_cases hc : y - lm a < lm b
    · left
      rw [mvG_at hne, if_pos rfl]
      unfold gAmt; rw [if_pos hc]; omega
    · right
      have ea : gAmt lm b a y = lm b := if_neg hc
      rw [ea]
      have := pos_gone (l := lm) (l' := mvG lm b a (lm b)) hne hp (by rw [mvG_at hne, if_neg hne, if_pos rfl]; omega) (fun j h1 h2 => by rw [mvG_at hne, if_neg h1, if_neg h2]) 6 (by omega)
      omega
theorem go_lt (h : LvOk live n) (ha : a < 6) (hg : ∀ q, q < m → goG live n y a l q = true) (h2 : goG live n y a l m = true) : m < 5 := by
  have ih := it_pos h ha m hg
  unfold goG at h2
  simp only [Bool.and_eq_true, Bool.not_eq_true', decide_eq_false_iff_not, decide_eq_true_eq] at h2
  obtain ⟨b, hb, e, hne, hp, _⟩ := fr_some h h2.2
  have := pos_one hne hp 6 hb
  rcases ih with h1 | h1 <;> omega
theorem go_step (hg : ∀ q, q < m → goG live n y a l q = true) (h2 : goG live n y a l m = true) : ∀ q, q < m + 1 → goG live n y a l q = true := fun q hq => by
  by_cases e : q = m
  · rw [e]; exact h2
  · exact hg q (by omega)
theorem cnt_is (hm : m ≤ 5) (hg : ∀ q, q < m → goG live n y a l q = true) (h2 : goG live n y a l m = false) : cntG live n y a l = m := lead_eq hg h2 (by omega)
theorem cnt_go (h : LvOk live n) (ha : a < 6) : cntG live n y a l ≤ 5 ∧ (∀ q, q < cntG live n y a l → goG live n y a l q = true) ∧ goG live n y a l (cntG live n y a l) = false := by
  have hg : ∀ q, q < cntG live n y a l → goG live n y a l q = true := fun q hq => lead_lt hq
  have h5 : cntG live n y a l ≤ 5 := by
    rcases Nat.lt_or_ge 5 (cntG live n y a l) with h1 | h1
    · have := go_lt (m := 5) h ha (fun q hq => hg q (by omega)) (hg 5 h1); omega
    · exact h1
  refine ⟨h5, hg, ?_⟩
  cases e : goG live n y a l (cntG live n y a l) with
  | false => rfl
  | true =>
    exfalso
    have h6 : ∀ q, q < cntG live n y a l + 1 → goG live n y a l q = true := go_step hg e
    have : ∀ k, k ≤ 6 → (∀ q, q < k → goG live n y a l q = true) → k ≤ cntG live n y a l := fun k hk hq => by
      rcases Nat.lt_or_ge (cntG live n y a l) k with h1 | h1
      · exfalso
        have hk2 : lead (goG live n y a l) 6 = cntG live n y a l := rfl
        have hle := go_lt h ha hg e
        -- lead stops at the first place where it does not go
        have hl : ∀ N k, k ≤ N → (∀ q, q < k → goG live n y a l q = true) → k ≤ lead (goG live n y a l) N := fun N => by
          induction N with
          | zero => intro k hk _; omega
          | succ N ih =>
            intro k hk hq
            unfold lead
            by_cases e1 : k = N + 1
            · have i1 := ih N (Nat.le_refl _) fun q hq' => hq q (by omega)
              have i2 := lead_le (goG live n y a l) N
              rw [if_pos ⟨by omega, hq N (by omega)⟩]; omega
            · have i1 := ih k (by omega) hq
              split <;> omega
        have := hl 6 k hk hq
        omega
      · exact h1
    have := this _ (by omega) h6
    omega
theorem nodeG_len (h : LvOk live n) (ha : a < 6) : (nodeG live n y a l node).length ≤ 5 := by
  unfold nodeG; rw [gfN_len]; exact (cnt_go h ha).1
theorem allG_len {lo : Nat → Nat → Int} {nd : Nat → Int} (h : LvOk live n) (ha : a < 6) : ∀ p, (allG live n y a lo nd p).length ≤ 5 * p
  | 0 => Nat.le_refl _
  | p + 1 => by
    have := allG_len (lo := lo) (nd := nd) h ha p
    have h2 := nodeG_len (y := y) (l := lo p) (node := nd p) h ha
    unfold allG; rw [List.length_append]; omega
end
end Rt
end
theorem Rt.one3 {z y : Nat → Value} (hy : ∀ j, j < 3 → (y j).oneCell' = true) : ∀ j, j < 1 * 3 → (Fx.ovr z (0 * 3) 3 y j).oneCell' = true := fun j hj => by
  unfold Fx.ovr; rw [if_pos (by omega)]; exact hy _ (by omega)
theorem Rt.pathS_pos {id par : Nat → Int} {n : Nat} {x : Int} (h : 0 ≤ firstS id n x) : 1 ≤ pathS id par n x := by
  rcases Nat.lt_or_ge 0 (pathS id par n x) with h1 | h1
  · exact h1
  · exfalso
    have : pathS id par n x = 0 := by omega
    have h2 : ∀ N, lead (fun i => decide (0 ≤ firstS id n (iterS id par n i x))) (N + 1) ≠ 0 := fun N => by
      induction N with
      | zero => unfold lead; rw [if_pos ⟨rfl, decide_eq_true h⟩]; decide
      | succ N ih => unfold lead; split <;> omega
    exact h2 31 this
set_option maxRecDepth 10000 in
set_option maxHeartbeats 1000000 in
theorem ro_gifts (s : StM) (id par : Nat → Int) (R : Nat → Nat → Int) (x : Int) (w : World) (hnd : Fx.Arr w s.na s.nn 56 (Fx.flat 56 fun k => ndY (id k) (par k) (R k))) (hnn : s.nn ≤ 1000000) (hlo : ∀ x, 0 ≤ firstS id s.nn x → LoOk (locI id s.nn R x)) (nl a : Nat) (y : Int) (ha : a < 6) (hnl : nl = (liveN s 6).length) (hli : liveI s ((a : Int) + 1) = true) (hf : 0 ≤ firstS id s.nn x) (hy : 1 ≤ y ∧ y ≤ 1125899906842624) :
    Calls Try.prog 59 #[.agg (Fx.varr 20 (stY s)), .int .i64 ((a : Int) + 1), .int .u64 (x), .int .i64 (y)] w fun e w' => ((∃ v n, e = .returned (.tuple #[v, .int .i64 (0)]) ∧ (∀ q, q < (pathS id par s.nn x) → okG (liveN s 6) nl y a (locI id s.nn R (iterS id par s.nn q x)) = true) ∧ n = (allG (liveN s 6) nl y a (fun p => locI id s.nn R (iterS id par s.nn p x)) (fun p => iterS id par s.nn p x) (pathS id par s.nn x)).length ∧ Fx.Own w' w.heap.size 122 3 v n (gfX (allG (liveN s 6) nl y a (fun p => locI id s.nn R (iterS id par s.nn p x)) (fun p => iterS id par s.nn p x) (pathS id par s.nn x)))) ∨ (e = .returned (.tuple #[.slice none 0 0, .int .i64 (11)]) ∧ ∃ q, q < (pathS id par s.nn x) ∧ okG (liveN s 6) nl y a (locI id s.nn R (iterS id par s.nn q x)) = false)) ∧ Below w.heap.size w w' := by
 have hlv := live_ok s hnl
 refine Fx.enter Try.func59 rfl (n := 91) rfl (by rfl) ?_
 refine Fx.W.seq (Fx.W.list (Fx.L.box (m := 20) (y := stY s) (by rfl) rfl rfl (Fx.cells_agg _ _) rfl fun g1 w1 eg1 m1 s1 z1 => ?_))
 have b1 := s1.below (Below.refl w.heap.size w) (Below.refl w.heap.size w).size (Below.refl w.heap.size w).size
 have lg1 : w.heap.size ≤ g1 := by rw [eg1]; exact (Below.refl w.heap.size w).size
 have tg1 : g1 < w1.heap.size := m1.lt
 clear eg1
 refine Fx.L.v (.slice none 0 0) (x_assign rfl rfl) (Fx.L.v (.int .i64 (0)) (x_assign rfl rfl) (Fx.L.nil (Fx.seqN (Fx.W.seq (Fx.W.list (Fx.L.v (.agg (Fx.varr 20 (stY s))) (x_loadA (x := stY s) (y := stY s) rfl rfl (by kernel_rfl) (by kernel_rfl) m1.cel (i := 0) (by omega) (by omega) (fun j _ => by rw [Nat.zero_add])) (Fx.L.v (.int .u64 (x)) (x_move rfl rfl) (Fx.L.call (by rfl) (Fx.r_call (args := [.agg (Fx.varr 20 (stY s)), .int .u64 (x)]) rfl rfl Try.func38 rfl rfl) rfl ((q_path s id par R x _ (hnd.up b1 rfl) hnn).mono ?_)))))))))
 rintro e9 w2 ⟨vq1, P, he, hP, hOq1, hbq1⟩
 obtain ⟨aq1, capq1, rfl⟩ := hOq1.val
 refine ⟨_, he, ?_⟩
 clear he
 have s2 := Fx.Stp.of_below hbq1
 have m2 := m1.stp s2 (Nat.ne_of_lt (m1.lt))
 have b2 := s2.below b1 b1.size b1.size
 have hP32 : P ≤ 32 := by rw [hP]; exact path_le
 refine Fx.L.v (.slice aq1 (P) (capq1)) (x_assign rfl rfl) (Fx.L.nil (Fx.seqN (Fx.W.seq (Fx.W.list (Fx.L.v (.agg (Fx.varr 20 (stY s))) (x_loadA (x := stY s) (y := stY s) rfl rfl (by kernel_rfl) (by kernel_rfl) m2.cel (i := 0) (by omega) (by omega) (fun j _ => by rw [Nat.zero_add])) (Fx.L.call (by rfl) (Fx.r_call (args := [.agg (Fx.varr 20 (stY s))]) rfl rfl Try.func30 rfl rfl) rfl ((m_live s _).mono ?_)))))))
 rintro e9 w3 ⟨v9, n9, he, hn9, hO9, hb9⟩
 obtain ⟨a9, cap9, rfl⟩ := hO9.val
 obtain rfl : nl = n9 := hnl.trans hn9.symm
 refine ⟨.slice a9 nl cap9, he, ?_⟩
 clear he
 have s3 := Fx.Stp.of_below hb9
 have m3 := m2.stp s3 (Nat.ne_of_lt (m2.lt))
 have m4 := hOq1.stp s3 (hOq1.notNew (Nat.le_refl _))
 have b3 := s3.below b2 b2.size b2.size
 have hn9l : nl ≤ 6 := by rw [hnl]; exact live_len s 6
 refine Fx.L.v (.slice a9 (nl) (cap9)) (x_assign rfl rfl) (Fx.L.nil (Fx.seqN (Fx.W.seq (Fx.W.block (Fx.W.seq (Fx.W.seq (Fx.W.list (Fx.L.v (.int .i64 (y)) (x_move rfl rfl) (Fx.L.v (.bool false) (Fx.x_lssF rfl rfl rfl (by omega)) (Fx.L.v (.bool false) (x_assign rfl rfl) (Fx.L.nil (Fx.seqN (Fx.W.cond (b := false) rfl (fun h => nomatch h) (fun _ => Fx.W.list (Fx.L.v (.int .i64 (y)) (x_move rfl rfl) (Fx.L.v (.bool false) (x_gtrF rfl rfl rfl (by omega)) (Fx.L.v (.bool false) (x_assign rfl rfl) (Fx.L.nil (Fx.seqN (Fx.W.cond (b := false) rfl (fun h => nomatch h) (fun _ => Fx.W.seq (Fx.W.list (Fx.L.v (.slice aq1 (P) (capq1)) (x_move rfl rfl) (Fx.L.v (.int .i64 ((P : Int))) (x_len rfl rfl rfl (by kernel_rfl)) (Fx.L.v (.bool false) (x_eqlF rfl rfl rfl (by have := pathS_pos (par := par) hf; omega)) (Fx.L.v (.bool false) (x_assign rfl rfl) (Fx.L.nil (Fx.seqN (Fx.W.cond (b := false) rfl (fun h => nomatch h) (fun _ => Fx.W.seq (Fx.W.list (Fx.L.v (.slice a9 (nl) (cap9)) (x_move rfl rfl) (Fx.L.v (.int .i64 ((a : Int) + 1)) (x_move rfl rfl) (Fx.L.call (by rfl) (Fx.r_call (args := [.slice a9 (nl) (cap9), .int .i64 ((a : Int) + 1)]) rfl rfl Try.func75 rfl rfl) rfl (((g_contains a9 nl cap9 (liveN s 6) ((a : Int) + 1) _ hO9.arr (by omega)).mono (fun e w2 h2 => (⟨h2.1.trans (by rw [hnl, live_has]), h2.2⟩ : e = .returned (.bool (liveI s ((a : Int) + 1))) ∧ _))).mono ?_)))))))))))))))))))))))))))))))))))
 rintro e w4 ⟨he, hb1⟩
 refine ⟨.bool true, by rw [he, hli], ?_⟩
 clear he
 have s4 := Fx.Stp.of_below hb1
 have m5 := m3.stp s4 (Nat.ne_of_lt (m3.lt))
 have m6 := m4.stp s4 (m4.notNew (Nat.le_refl _))
 have m7 := hO9.stp s4 (hO9.notNew (Nat.le_refl _))
 have b4 := s4.below b3 b3.size b3.size
 refine Fx.L.v (.bool false) (Fx.x_notF rfl rfl) (Fx.L.v (.bool false) (x_assign rfl rfl) (Fx.L.nil (Fx.seqN (Fx.W.cond (b := false) rfl (fun h => nomatch h) (fun _ => Fx.W.skip (Fx.blkN (Fx.seqN (Fx.W.seq (Fx.W.seq (Fx.W.list (Fx.L.v (.slice aq1 (P) (capq1)) (x_move rfl rfl) (Fx.L.v (.int .i64 ((P : Int))) (x_len rfl rfl rfl (by kernel_rfl)) (Fx.L.v (.int .i64 (0)) (x_move rfl rfl) (Fx.L.nil (Fx.seqN (Fx.W.block ?_))))))))))))))))
 have m8 : Fx.Own w4 w.heap.size 122 3 (.slice none 0 0) 0 (gfX (allG (liveN s 6) nl y a (fun p => locI id s.nn R (iterS id par s.nn p x)) (fun p => iterS id par s.nn p x) 0)) := Fx.Own.nil _ _ _ _ _
 refine Fx.W.loop (fun f w_ => ∃ k : Nat, ∃ no : Nat, ∃ ao : Option Addr, ∃ co : Nat, k ≤ P ∧ no = (allG (liveN s 6) nl y a (fun p => locI id s.nn R (iterS id par s.nn p x)) (fun p => iterS id par s.nn p x) k).length ∧ no ≤ 5 * k ∧ (∀ q, q < k → okG (liveN s 6) nl y a (locI id s.nn R (iterS id par s.nn q x)) = true) ∧ f 1 = .int .i64 ((a : Int) + 1) ∧ f 3 = .int .i64 (y) ∧ f 4 = .pointer (some ⟨g1, 0, none⟩) ∧ f 10 = .slice aq1 (P) (capq1) ∧ f 11 = .slice a9 (nl) (cap9) ∧ f 36 = .slice aq1 (P) (capq1) ∧ f 37 = .int .i64 ((P : Int)) ∧ f 8 = .slice ao (no) (co) ∧ f 38 = .int .i64 ((k : Int)) ∧ Fx.Blk w_ g1 20 (stY s) 43 ∧ Fx.Own w_ w1.heap.size 27 1 (.slice aq1 (P) (capq1)) P (ptU id par s.nn x) ∧ Fx.Own w_ w2.heap.size 3 1 (.slice a9 (nl) (cap9)) nl (lsX (liveN s 6)) ∧ Fx.Own w_ w.heap.size 122 3 (.slice ao (no) (co)) no (gfX (allG (liveN s 6) nl y a (fun p => locI id s.nn R (iterS id par s.nn p x)) (fun p => iterS id par s.nn p x) k)) ∧ Below w.heap.size w w_) (fun f _ => (P - (intOf (f 38)).toNat)) ⟨0, 0, none, 0, by omega, rfl, by omega, (fun q h => absurd h (by omega)), (by first | rfl | exact congrArg (Value.int .i64) (by omega)), (by first | rfl | exact congrArg (Value.int .i64) (by omega)), (by rfl), (by rfl), (by rfl), (by rfl), (by first | rfl | exact congrArg (Value.int .i64) (by omega)), (by rfl), (by first | rfl | exact congrArg (Value.int .i64) (by omega)), m5, m6, m7, m8, b4⟩ ?_
 rintro f1 w5 ⟨k, no, ao, co, hk, hno, hn5, hok, h1, h2, h3, h4, h5, h6, h7, h8, h9, m9, m10, m11, m12, b5⟩
 refine Fx.W.seq (Fx.W.list ?_)
 by_cases c39 : (k : Int) < (P : Int)
 ·refine Fx.L.v (.bool true) (Fx.x_lssT rfl h9 h7 c39) (Fx.L.nil (Fx.seqN (Fx.W.seq (Fx.W.cond (b := true) rfl (fun _ => Fx.W.skip (Fx.seqN (Fx.W.seq (Fx.W.block (Fx.W.seq (Fx.W.list ?_)))))) (fun h => nomatch h)))))
  obtain ⟨gq1, eq1⟩ := m10.addr (by omega)
  have m13 : Fx.Own w5 w1.heap.size 27 1 (.slice (some ⟨gq1, 0, none⟩) P capq1) P (ptU id par s.nn x) := m10.congV (congrArg (fun q => Value.slice q P capq1) eq1)
  refine Fx.L.v (.pointer (some ⟨gq1, k, none⟩)) (x_indexS rfl (h6.trans (congrArg (fun q => Value.slice q (P) (capq1)) eq1)) h9 Try.underlying68 (s := 1) (by kernel_rfl) (by omega) (by omega) (by omega)) (Fx.L.v (.int .u64 (iterS id par s.nn k x)) (x_load1 (x := ptU id par s.nn x) rfl rfl (by kernel_rfl) m13.cel (i := k) (by omega) (by omega) rfl) (Fx.L.v (.int .u64 (iterS id par s.nn k x)) (x_assign rfl rfl) (Fx.L.nil (Fx.seqN (Fx.W.seq (Fx.W.list (Fx.L.v (.agg (Fx.varr 20 (stY s))) (x_loadA (x := stY s) (y := stY s) rfl h3 (by kernel_rfl) (by kernel_rfl) m9.cel (i := 0) (by omega) (by omega) (fun j _ => by rw [Nat.zero_add])) (Fx.L.v (.int .u64 (iterS id par s.nn k x)) (x_move rfl rfl) (Fx.L.call (by rfl) (Fx.r_call (args := [.agg (Fx.varr 20 (stY s)), .int .u64 (iterS id par s.nn k x)]) rfl rfl Try.func105 rfl rfl) rfl ((ro_local s id par R (iterS id par s.nn k x) _ (hnd.up b5 rfl) hnn (pathS_lt (by omega))).mono ?_))))))))))
  rintro e w6 ⟨he, hb2⟩
  refine ⟨.agg (Fx.varr 6 (Fx.rv .i64 (locI id s.nn R (iterS id par s.nn k x)))), by rw [he], ?_⟩
  clear he
  have s5 := Fx.Stp.of_below hb2
  have m14 := m9.stp s5 (Nat.ne_of_lt (m9.lt))
  have m15 := m11.stp s5 (m11.notNew (Nat.le_refl _))
  have m16 := m12.stp s5 (m12.notNew (Nat.le_refl _))
  have m17 := m13.stpB s5 (Nat.ne_of_lt (m13.lt))
  have b6 := s5.below b5 b5.size b5.size
  refine Fx.L.new (m := 6) (y := Fx.rv .i64 (fun _ => 0)) (by rfl) rfl (by kernel_rfl) rfl fun g2 w7 eg2 m18 s6 z2 => ?_
  have m19 := m14.stp s6 (Nat.ne_of_lt (m14.lt))
  have m20 := m15.stp s6 (m15.notNew (Nat.le_refl _))
  have m21 := m16.stp s6 (m16.notNew (Nat.le_refl _))
  have m22 := m17.stpB s6 (Nat.ne_of_lt (m17.lt))
  have b7 := s6.below b6 b6.size b6.size
  have lg2 : w.heap.size ≤ g2 := by rw [eg2]; exact b6.size
  have ng2m19 : g1 ≠ g2 := by rw [eg2]; exact Nat.ne_of_lt (m14.lt)
  have ng2m22 : gq1 ≠ g2 := by rw [eg2]; exact Nat.ne_of_lt (m17.lt)
  have tg2 : g2 < w7.heap.size := m18.lt
  clear eg2
  refine Fx.L.storeA (x := Fx.rv .i64 (fun _ => 0)) (y := Fx.rv .i64 (locI id s.nn R (iterS id par s.nn k x))) (by rfl) rfl rfl rfl rfl (fun _ _ => rfl) (by kernel_rfl) m18 (i := 0) (by omega) fun w8 m23 s7 z3 => ?_
  have m24 : Fx.Blk w8 g2 6 (Fx.rv .i64 (locI id s.nn R (iterS id par s.nn k x))) 45 := Fx.ovr_all m23
  have hct1 := Fx.ChT.of_stp s7 m18.ty
  have m25 := m19.chT hct1 (by decide)
  have m26 := m20.chT hct1 (by decide)
  have m27 := m21.chT hct1 (by decide)
  have m28 := m22.chT hct1 (by decide)
  have b8 := s7.below b7 b7.size (by omega)
  refine Fx.L.nil (Fx.seqN (Fx.W.block ?_))
  have m29 : Fx.Own w8 w1.heap.size 27 1 (.slice aq1 (P) (capq1)) P (ptU id par s.nn x) := m28.congV (congrArg (fun q => Value.slice q P capq1) eq1.symm)
  obtain ⟨l0, el0⟩ : ∃ q, q = locI id s.nn R (iterS id par s.nn k x) := ⟨_, rfl⟩
  have m31 : Fx.Blk w8 g2 6 (Fx.rv .i64 (itG (liveN s 6) nl y a l0 0)) 45 := m24.to (by rw [el0]; rfl)
  have hl0 : LoOk l0 := by rw [el0]; exact hlo _ (pathS_lt (by omega))
  have m30 := m27.congr (y := gfX (allG (liveN s 6) nl y a (fun p => locI id s.nn R (iterS id par s.nn p x)) (fun p => iterS id par s.nn p x) k ++ gfN (liveN s 6) nl y a l0 (iterS id par s.nn k x) 0)) (fun j _ => by unfold gfN; rw [List.append_nil])
  refine Fx.W.loop (fun f w_ => ∃ m : Nat, ∃ n2 : Nat, ∃ a2 : Option Addr, ∃ c2 : Nat, m ≤ 5 ∧ n2 = no + m ∧ (∀ q, q < m → goG (liveN s 6) nl y a l0 q = true) ∧ f 1 = .int .i64 ((a : Int) + 1) ∧ f 3 = .int .i64 (y) ∧ f 4 = .pointer (some ⟨g1, 0, none⟩) ∧ f 10 = .slice aq1 (P) (capq1) ∧ f 11 = .slice a9 (nl) (cap9) ∧ f 13 = .int .u64 (iterS id par s.nn k x) ∧ f 14 = .pointer (some ⟨g2, 0, none⟩) ∧ f 36 = .slice aq1 (P) (capq1) ∧ f 37 = .int .i64 ((P : Int)) ∧ f 38 = .int .i64 ((k : Int)) ∧ f 8 = .slice a2 (n2) (c2) ∧ Fx.Blk w_ g1 20 (stY s) 43 ∧ Fx.Own w_ w2.heap.size 3 1 (.slice a9 (nl) (cap9)) nl (lsX (liveN s 6)) ∧ Fx.Own w_ w1.heap.size 27 1 (.slice aq1 (P) (capq1)) P (ptU id par s.nn x) ∧ Fx.Blk w_ g2 6 (Fx.rv .i64 (itG (liveN s 6) nl y a l0 m)) 45 ∧ Fx.Own w_ w.heap.size 122 3 (.slice a2 (n2) (c2)) n2 (gfX (allG (liveN s 6) nl y a (fun p => locI id s.nn R (iterS id par s.nn p x)) (fun p => iterS id par s.nn p x) k ++ gfN (liveN s 6) nl y a l0 (iterS id par s.nn k x) m)) ∧ Below w.heap.size w w_) (fun f _ => (no + 6 - lenV (f 8))) ⟨0, no, ao, co, by omega, by omega, (fun q h => absurd h (by omega)), (h1.trans (by first | rfl | exact congrArg (Value.int .i64) (by omega))), (h2.trans (by first | rfl | exact congrArg (Value.int .i64) (by omega))), h3, h4, h5, (by first | rfl | exact congrArg (Value.int .u64) (by omega)), (by rfl), h6, (h7.trans (by first | rfl | exact congrArg (Value.int .i64) (by omega))), (h9.trans (by first | rfl | exact congrArg (Value.int .i64) (by omega))), h8, m25, m26, m29, m31, m30, b8⟩ ?_
  rintro f2 w9 ⟨m, n2, a2, c2, hm, hn2, hall, h10, h11, h12, h13, h14, h15, h16, h17, h18, h19, h20, m32, m33, m34, m35, m36, b9⟩
  refine Fx.W.seq (Fx.W.seq (Fx.W.list (Fx.L.v (.int .i64 ((a : Int) + 1)) (x_move rfl h10) (Fx.L.v (.int .i64 ((a : Int))) (Fx.x_sub rfl rfl rfl (Fx.i64e (by omega) (by omega))) (Fx.L.v (.pointer (some ⟨g2, a, none⟩)) (x_index rfl h16 rfl Try.underlying45 (s := 1) (by kernel_rfl) (by omega) (by omega) (by omega)) (Fx.L.v (.int .i64 ((itG (liveN s 6) nl y a l0 m) a)) (x_load1 (x := Fx.rv .i64 (itG (liveN s 6) nl y a l0 m)) rfl rfl (by kernel_rfl) m35.cel (i := a) (by omega) (by omega) rfl) (Fx.L.v (.int .i64 (y)) (x_move rfl h11) ?_)))))))
  by_cases c50 : ((itG (liveN s 6) nl y a l0 m) a) < y
  ·refine Fx.L.v (.bool true) (Fx.x_lssT rfl rfl rfl c50) (Fx.L.nil (Fx.seqN (Fx.W.cond (b := true) rfl (fun _ => Fx.W.skip (Fx.seqN (Fx.W.block (Fx.W.seq ?_)))) (fun h => nomatch h))))
   obtain ⟨lm, elm⟩ : ∃ q, q = itG (liveN s 6) nl y a l0 m := ⟨_, rfl⟩
   have m37 : Fx.Blk w9 g2 6 (Fx.rv .i64 lm) 45 := m35.to (by rw [elm])
   have hlm : LoOk lm := by rw [elm]; exact it_ok hlv ha hl0 hy.2 m hall
   have hla := hlm a ha
   have hga : itG (liveN s 6) nl y a l0 m a = lm a := by rw [elm]
   refine Fx.W.list (Fx.L.v (.slice a9 (nl) (cap9)) (x_move rfl h14) (Fx.L.v (.agg (Fx.varr 6 (Fx.rv .i64 lm))) (x_loadA (x := Fx.rv .i64 lm) (y := Fx.rv .i64 lm) rfl h16 (by kernel_rfl) (by kernel_rfl) m37.cel (i := 0) (by omega) (by omega) (fun j _ => by rw [Nat.zero_add])) (Fx.L.v (.int .i64 ((a : Int) + 1)) (x_move rfl h10) (Fx.L.call (by rfl) (Fx.r_call (args := [.slice a9 (nl) (cap9), .agg (Fx.varr 6 (Fx.rv .i64 lm)), .int .i64 ((a : Int) + 1)]) rfl rfl Try.func106 rfl rfl) rfl ((ro_giver (liveN s 6) lm ((a : Int) + 1) a9 nl cap9 _ hlv m33.arr).mono ?_)))))
   rintro e w10 ⟨he, hb3⟩
   refine ⟨.int .i64 (gvN (liveN s 6) lm ((a : Int) + 1) nl), by rw [he], ?_⟩
   clear he
   have s8 := Fx.Stp.of_below hb3
   have m38 := m32.stp s8 (Nat.ne_of_lt (m32.lt))
   have m39 := m33.stp s8 (m33.notNew (Nat.le_refl _))
   have m40 := m34.stp s8 (m34.notNew (Nat.le_refl _))
   have m41 := m36.stp s8 (m36.notNew (Nat.le_refl _))
   have m42 := m37.stp s8 (Nat.ne_of_lt (m37.lt))
   have b10 := s8.below b9 b9.size b9.size
   refine Fx.L.v (.int .i64 (gvN (liveN s 6) lm ((a : Int) + 1) nl)) (x_assign rfl rfl) (Fx.L.nil (Fx.seqN (Fx.W.seq (Fx.W.seq ?_))))
   obtain ⟨fr, efr⟩ : ∃ q, q = frG (liveN s 6) nl a lm := ⟨_, rfl⟩
   refine Fx.W.list (Fx.L.v (.int .i64 (fr)) (x_move rfl (rfl.trans (congrArg (Value.int .i64) efr.symm))) ?_)
   by_cases c56 : fr = 0
   ·refine Fx.L.v (.bool true) (x_eqlT rfl rfl rfl c56) (Fx.L.nil (Fx.seqN (Fx.W.cond (b := true) rfl (fun _ => Fx.W.seq ?_) (fun h => nomatch h))))
    have hgo : goG (liveN s 6) nl y a l0 m = false := by unfold goG; rw [← elm, ← efr, decide_eq_true c56, Bool.not_true, Bool.and_false]
    have hcn : cntG (liveN s 6) nl y a l0 = m := cnt_is (by omega) hall hgo
    have hbad : okG (liveN s 6) nl y a (locI id s.nn R (iterS id par s.nn k x)) = false := by rw [← el0]; unfold okG; rw [hcn]; exact decide_eq_false (by omega)
    refine Fx.W.list (Fx.L.v (.slice none 0 0) (x_assign rfl rfl) (Fx.L.v (.int .i64 (11)) (x_assign rfl rfl) (Fx.L.nil (Fx.seqN (Fx.W.ret (Fx.seqR (Fx.blkR (Fx.lpR (Fx.blkR (Fx.blkR (Fx.seqR (Fx.lpR (Fx.blkR (Fx.seqR (⟨.tuple #[.slice none 0 0, .int .i64 (11)], Fx.retV2 Try.results59 (by exact rfl) (by exact rfl), ?_⟩)))))))))))))))
    exact ⟨.inr ⟨rfl, k, by omega, hbad⟩, b10⟩
   ·refine Fx.L.v (.bool false) (x_eqlF rfl rfl rfl c56) (Fx.L.nil (Fx.seqN (Fx.W.cond (b := false) rfl (fun h => nomatch h) (fun _ => Fx.W.skip (Fx.seqN (Fx.W.seq ?_))))))
    have hgo : goG (liveN s 6) nl y a l0 m = true := by unfold goG; rw [← elm, ← efr, decide_eq_false c56, Bool.not_false, Bool.and_true]; exact decide_eq_true (by omega)
    have hm5 := go_lt hlv ha hall hgo
    obtain ⟨b, hb, eb, hba, hpb, _⟩ := fr_some hlv (by rw [← efr]; exact c56)
    rw [← efr] at eb
    have hlb := hlm b hb
    -- region 18 draws
    refine Fx.W.quiet (fun v1 => ∃ q, v1 = World.drewN w10 q) (by kernel_rfl) (by kernel_rfl) ⟨1, rfl⟩ ?_
    refine Fx.Qt.v (.int .i64 ((b : Int) + 1)) (fun v1 hv1 => x_move rfl ((rfl.trans (congrArg (Value.int .i64) efr.symm)).trans (congrArg (Value.int .i64) eb))) (Fx.Qt.v (.int .i64 ((b : Int))) (fun v1 hv1 => Fx.x_sub rfl rfl rfl (Fx.i64e (by omega) (by omega))) (Fx.Qt.v (.pointer (some ⟨g2, b, none⟩)) (fun v1 hv1 => x_index rfl h16 rfl Try.underlying45 (s := 1) (by kernel_rfl) (by omega) (by omega) (by omega)) (Fx.Qt.v (.int .i64 (lm b)) (fun v1 hv1 => x_load1 (x := Fx.rv .i64 lm) rfl rfl (by kernel_rfl) (by obtain ⟨qd, rfl⟩ := hv1; exact m42.cel) (i := b) (by omega) (by omega) rfl) (Fx.Qt.v (.int .i64 (y)) (fun v1 hv1 => x_move rfl h11) (Fx.Qt.v (.int .i64 ((a : Int) + 1)) (fun v1 hv1 => x_move rfl h10) (Fx.Qt.v (.int .i64 ((a : Int))) (fun v1 hv1 => Fx.x_sub rfl rfl rfl (Fx.i64e (by omega) (by omega))) (Fx.Qt.v (.pointer (some ⟨g2, a, none⟩)) (fun v1 hv1 => x_index rfl h16 rfl Try.underlying45 (s := 1) (by kernel_rfl) (by omega) (by omega) (by omega)) (Fx.Qt.v (.int .i64 (lm a)) (fun v1 hv1 => x_load1 (x := Fx.rv .i64 lm) rfl rfl (by kernel_rfl) (by obtain ⟨qd, rfl⟩ := hv1; exact m42.cel) (i := a) (by omega) (by omega) rfl) (Fx.Qt.v (.int .i64 (y - (lm a))) (fun v1 hv1 => Fx.x_sub rfl rfl rfl (Fx.i64e (by omega) (by omega))) (Fx.Qt.v (.int .i64 (gAmt lm b a y)) (fun v1 hv1 => Fx.x_min rfl rfl rfl) (Fx.Qt.v (.int .i64 (gAmt lm b a y)) (fun v1 hv1 => x_assign rfl rfl) (Fx.Qt.nil ?_))))))))))))
    rintro _ ⟨qd, rfl⟩
    obtain ⟨wq1, ewq1⟩ : ∃ v1, v1 = World.drewN w10 qd := ⟨_, rfl⟩
    rw [← ewq1]
    have s9 : Fx.Stp w10.heap.size w10 wq1 := by rw [ewq1]; exact Fx.Stp.of_below (bdrN w10 qd)
    have m43 := m38.stp s9 (Nat.ne_of_lt (m38.lt))
    have m44 := m39.stp s9 (m39.notNew (Nat.le_refl _))
    have m45 := m40.stp s9 (m40.notNew (Nat.le_refl _))
    have m46 := m41.stp s9 (m41.notNew (Nat.le_refl _))
    have m47 := m42.stp s9 (Nat.ne_of_lt (m42.lt))
    have b11 := s9.below b10 b10.size b10.size
    clear ewq1
    refine Fx.seqN (Fx.W.seq ?_)
    obtain ⟨am, eam⟩ : ∃ q, q = gAmt lm b a y := ⟨_, rfl⟩
    have ham : 1 ≤ am ∧ am ≤ lm b ∧ am ≤ y - lm a := by rw [eam]; exact gAmt_bd (by omega) hpb
    refine Fx.W.list (Fx.L.v (.int .i64 ((b : Int) + 1)) (x_move rfl ((rfl.trans (congrArg (Value.int .i64) efr.symm)).trans (congrArg (Value.int .i64) eb))) (Fx.L.v (.int .i64 ((b : Int))) (Fx.x_sub rfl rfl rfl (Fx.i64e (by omega) (by omega))) (Fx.L.v (.pointer (some ⟨g2, b, none⟩)) (x_index rfl h16 rfl Try.underlying45 (s := 1) (by kernel_rfl) (by omega) (by omega) (by omega)) (Fx.L.v (.int .i64 (lm b)) (x_load1 (x := Fx.rv .i64 lm) rfl rfl (by kernel_rfl) m47.cel (i := b) (by omega) (by omega) rfl) (Fx.L.v (.int .i64 (am)) (x_move rfl (rfl.trans (congrArg (Value.int .i64) eam.symm))) (Fx.L.v (.int .i64 ((lm b) - am)) (Fx.x_sub rfl rfl rfl (Fx.i64e (by omega) (by omega))) (Fx.L.v (.pointer (some ⟨g2, b, none⟩)) (x_index rfl h16 rfl Try.underlying45 (s := 1) (by kernel_rfl) (by omega) (by omega) (by omega)) (Fx.L.store1 (x := Fx.rv .i64 lm) (u := .int .i64 ((lm b) - am)) (by rfl) rfl rfl rfl rfl (by rfl) (by kernel_rfl) m47 (i := b) (by omega) fun w11 m48 s10 z4 => ?_))))))))
    have m49 : Fx.Blk w11 g2 6 (Fx.rv .i64 (upd lm b ((lm b) - am))) 45 := m48.to (Fx.updV_rv _ _ _ _)
    have hct2 := Fx.ChT.of_stp s10 m47.ty
    have m50 := m43.chT hct2 (by decide)
    have m51 := m44.chT hct2 (by decide)
    have m52 := m45.chT hct2 (by decide)
    have m53 := m46.chT hct2 (by decide)
    have b12 := s10.below b11 b11.size (by omega)
    refine Fx.L.nil (Fx.seqN (Fx.W.seq ?_))
    have hua : (upd lm b (lm b - am)) a = lm a := upd_other _ _ _ _ (by omega)
    refine Fx.W.list (Fx.L.v (.int .i64 ((a : Int) + 1)) (x_move rfl h10) (Fx.L.v (.int .i64 ((a : Int))) (Fx.x_sub rfl rfl rfl (Fx.i64e (by omega) (by omega))) (Fx.L.v (.pointer (some ⟨g2, a, none⟩)) (x_index rfl h16 rfl Try.underlying45 (s := 1) (by kernel_rfl) (by omega) (by omega) (by omega)) (Fx.L.v (.int .i64 ((upd lm b ((lm b) - am)) a)) (x_load1 (x := Fx.rv .i64 (upd lm b ((lm b) - am))) rfl rfl (by kernel_rfl) m49.cel (i := a) (by omega) (by omega) rfl) (Fx.L.v (.int .i64 (am)) (x_move rfl (rfl.trans (congrArg (Value.int .i64) eam.symm))) (Fx.L.v (.int .i64 (((upd lm b ((lm b) - am)) a) + am)) (Fx.x_add rfl rfl rfl (Fx.i64e (by omega) (by omega))) (Fx.L.v (.pointer (some ⟨g2, a, none⟩)) (x_index rfl h16 rfl Try.underlying45 (s := 1) (by kernel_rfl) (by omega) (by omega) (by omega)) (Fx.L.store1 (x := Fx.rv .i64 (upd lm b ((lm b) - am))) (u := .int .i64 (((upd lm b ((lm b) - am)) a) + am)) (by rfl) rfl rfl rfl rfl (by rfl) (by kernel_rfl) m49 (i := a) (by omega) fun w12 m54 s11 z5 => ?_))))))))
    have m55 : Fx.Blk w12 g2 6 (Fx.rv .i64 (upd (upd lm b ((lm b) - am)) a (((upd lm b ((lm b) - am)) a) + am))) 45 := m54.to (Fx.updV_rv _ _ _ _)
    have hct3 := Fx.ChT.of_stp s11 m49.ty
    have m56 := m50.chT hct3 (by decide)
    have m57 := m51.chT hct3 (by decide)
    have m58 := m52.chT hct3 (by decide)
    have m59 := m53.chT hct3 (by decide)
    have b13 := s11.below b12 b12.size (by omega)
    refine Fx.L.nil (Fx.seqN ?_)
    have hnx : upd (upd lm b (lm b - am)) a ((upd lm b (lm b - am)) a + am) = itG (liveN s 6) nl y a l0 (m + 1) := by show mvG lm b a am = stG (liveN s 6) nl y a (itG (liveN s 6) nl y a l0 m); unfold stG; rw [← elm, ← efr, eb, show ((b : Int) + 1 - 1).toNat = b by omega, ← eam]
    have m60 : Fx.Blk w12 g2 6 (Fx.rv .i64 (itG (liveN s 6) nl y a l0 (m + 1))) 45 := m55.to (by rw [← hnx])
    have hone : oneG (liveN s 6) nl y a (iterS id par s.nn k x) (itG (liveN s 6) nl y a l0 m) = ⟨(b : Int) + 1, iterS id par s.nn k x, am⟩ := by unfold oneG; rw [← elm, ← efr, eb, show ((b : Int) + 1 - 1).toNat = b by omega, ← eam]
    refine Fx.W.list (Fx.L.v (.slice a2 (n2) (c2)) (x_move rfl h20) (Fx.L.v (.int .i64 ((b : Int) + 1)) (x_move rfl ((rfl.trans (congrArg (Value.int .i64) efr.symm)).trans (congrArg (Value.int .i64) eb))) (Fx.L.v (.int .u64 (iterS id par s.nn k x)) (x_move rfl h15) (Fx.L.v (.int .i64 (am)) (x_move rfl (rfl.trans (congrArg (Value.int .i64) eam.symm))) (Fx.L.v (.agg (Fx.varr 3 (Fx.ovr (Fx.ovr (Fx.ovr (fun zq => if zq < 1 then .int .i64 (0) else if zq < 2 then .int .u64 (0) else .int .i64 (0)) 0 1 (fun _ => .int .i64 ((b : Int) + 1))) 1 1 (fun _ => .int .u64 (iterS id par s.nn k x))) 2 1 (fun _ => .int .i64 (am))))) (x_build (vs := [(0, .int .i64 ((b : Int) + 1)), (1, .int .u64 (iterS id par s.nn k x)), (2, .int .i64 (am))]) (places := #[(0, 1), (1, 1), (2, 1)]) (m := 3) (x := fun zq => if zq < 1 then .int .i64 (0) else if zq < 2 then .int .u64 (0) else .int .i64 (0)) rfl rfl Try.underlying122 (by kernel_rfl) (by kernel_rfl) (by rw [Fx.fill_step (off := 0) (s := 1) (y := fun _ => .int .i64 ((b : Int) + 1)) (by kernel_rfl) (Fx.cells_one (by rfl)) (by rfl)]; rw [Fx.fill_step (off := 1) (s := 1) (y := fun _ => .int .u64 (iterS id par s.nn k x)) (by kernel_rfl) (Fx.cells_one (by rfl)) (by rfl)]; rw [Fx.fill_step (off := 2) (s := 1) (y := fun _ => .int .i64 (am)) (by kernel_rfl) (Fx.cells_one (by rfl)) (by rfl)]; rfl)) (Fx.L.bslice (vs := [(0, .agg (Fx.varr 3 (Fx.ovr (Fx.ovr (Fx.ovr (fun zq => if zq < 1 then .int .i64 (0) else if zq < 2 then .int .u64 (0) else .int .i64 (0)) 0 1 (fun _ => .int .i64 ((b : Int) + 1))) 1 1 (fun _ => .int .u64 (iterS id par s.nn k x))) 2 1 (fun _ => .int .i64 (am)))))]) (s := 3) (zc := fun zq => if zq < 1 then .int .i64 (0) else if zq < 2 then .int .u64 (0) else .int .i64 (0)) (y := Fx.ovr (fun j => (fun zq => if zq < 1 then .int .i64 (0) else if zq < 2 then .int .u64 (0) else .int .i64 (0)) (j % 3)) (0 * 3) 3 (Fx.ovr (Fx.ovr (Fx.ovr (fun zq => if zq < 1 then .int .i64 (0) else if zq < 2 then .int .u64 (0) else .int .i64 (0)) 0 1 (fun _ => .int .i64 ((b : Int) + 1))) 1 1 (fun _ => .int .u64 (iterS id par s.nn k x))) 2 1 (fun _ => .int .i64 (am)))) (by rfl) rfl rfl Try.underlying117 (by kernel_rfl) (by rfl) (by rfl) (by kernel_rfl) (by rw [Fx.fill_step (off := 0 * 3) (s := 3) (y := Fx.ovr (Fx.ovr (Fx.ovr (fun zq => if zq < 1 then .int .i64 (0) else if zq < 2 then .int .u64 (0) else .int .i64 (0)) 0 1 (fun _ => .int .i64 ((b : Int) + 1))) 1 1 (fun _ => .int .u64 (iterS id par s.nn k x))) 2 1 (fun _ => .int .i64 (am))) rfl (Fx.cells_agg _ _) (by rfl)]; rfl) rfl fun g3 w13 eg3 m61 s12 z6 => ?_))))))
    have m62 := m56.stp s12 (Nat.ne_of_lt (m56.lt))
    have m63 := m57.stp s12 (m57.notNew (Nat.le_refl _))
    have m64 := m58.stp s12 (m58.notNew (Nat.le_refl _))
    have m65 := m59.stp s12 (m59.notNew (Nat.le_refl _))
    have m66 := m60.stp s12 (Nat.ne_of_lt (m60.lt))
    have b14 := s12.below b13 b13.size b13.size
    have lg3 : w.heap.size ≤ g3 := by rw [eg3]; exact b13.size
    have ng3m62 : g1 ≠ g3 := by rw [eg3]; exact Nat.ne_of_lt (m56.lt)
    have ng3m65 : (.slice a2 (n2) (c2) : Value).ownBlock ≠ some g3 := by rw [eg3]; exact m59.notNew (Nat.le_refl _)
    have ng3m66 : g2 ≠ g3 := by rw [eg3]; exact Nat.ne_of_lt (m60.lt)
    have tg3 : g3 < w13.heap.size := m61.lt
    clear eg3
    refine Fx.L.app (B := w.heap.size) (s := 3) (bytes := 24) (k := n2) (m := 1) (v := .slice a2 (n2) (c2)) (x := gfX (allG (liveN s 6) nl y a (fun p => locI id s.nn R (iterS id par s.nn p x)) (fun p => iterS id par s.nn p x) k ++ gfN (liveN s 6) nl y a l0 (iterS id par s.nn k x) m)) (by rfl) rfl rfl rfl Try.underlying117 (by kernel_rfl) (by kernel_rfl) rfl rfl m65 m61.cel (one3 (fun j hj => by rcases j with _|_|_|j <;> first | rfl | omega)) (by omega) (by omega) (by omega) b14.size fun g4 cap1 w14 ho1 hg1 hgv1 hlt1 => ?_
    have hct4 := Fx.ChT.of_grown hg1 m65
    have m68 := m62.chT hct4 (by decide)
    have m69 := m63.chT hct4 (by decide)
    have m70 := m64.chT hct4 (by decide)
    have m71 := m66.chT hct4 (by decide)
    have m67 : Fx.Own w14 w.heap.size 122 3 (.slice (some ⟨g4, 0, none⟩) (n2 + 1) cap1) (n2 + 1) (gfX (allG (liveN s 6) nl y a (fun p => locI id s.nn R (iterS id par s.nn p x)) (fun p => iterS id par s.nn p x) k ++ gfN (liveN s 6) nl y a l0 (iterS id par s.nn k x) (m + 1))) := (ho1.congr (fun j hj => (gf_app (x := ⟨(b : Int) + 1, iterS id par s.nn k x, am⟩) (by rw [List.length_append, gfN_len, ← hno]; exact hn2) (fun j hj => by rcases j with _|_|_|j <;> first | rfl | omega) j hj).trans (by rw [← hone, List.append_assoc]; rfl)))
    have b15 : Below w.heap.size w w14 := Fx.Below.grow b14 hg1 b14.size (fun q hq => (m65.ge hq).1)
    refine Fx.L.v (.slice (some ⟨g4, 0, none⟩) (n2 + 1) (cap1)) (x_assign rfl rfl) (Fx.L.nil (Fx.blkN ?_))
    skip
    refine Fx.lpN ⟨m + 1, n2 + 1, (some ⟨g4, 0, none⟩), cap1, by omega, by omega, (go_step hall hgo), (h10.trans (by first | rfl | exact congrArg (Value.int .i64) (by omega))), (h11.trans (by first | rfl | exact congrArg (Value.int .i64) (by omega))), h12, h13, h14, (h15.trans (by first | rfl | exact congrArg (Value.int .u64) (by omega))), h16, h17, (h18.trans (by first | rfl | exact congrArg (Value.int .i64) (by omega))), (h19.trans (by first | rfl | exact congrArg (Value.int .i64) (by omega))), (by rfl), m68, m69, m70, m71, m67, b15⟩ ?_
    show (no + 6 - lenV ((.slice (some ⟨g4, 0, none⟩) (n2 + 1) (cap1)))) < _
    simp only [h20, intOf, lenV]; omega
  ·refine Fx.L.v (.bool false) (Fx.x_lssF rfl rfl rfl c50) (Fx.L.nil (Fx.seqN (Fx.W.cond (b := false) rfl (fun h => nomatch h) (fun _ => Fx.W.exit (Fx.seqX (Fx.lpX (Fx.blkX (Fx.blkN (Fx.seqN ?_)))))))))
   have hgo : goG (liveN s 6) nl y a l0 m = false := by unfold goG; rw [decide_eq_false c50, Bool.false_and]
   refine Fx.W.list (Fx.L.v (.int .i64 ((k : Int) + 1)) (Fx.x_add rfl h19 rfl (Fx.i64e (by omega) (by omega))) (Fx.L.v (.int .i64 ((k : Int) + 1)) (x_move rfl rfl) (Fx.L.nil ?_)))
   have hcn : cntG (liveN s 6) nl y a l0 = m := cnt_is (by omega) hall hgo
   have hokk : okG (liveN s 6) nl y a (locI id s.nn R (iterS id par s.nn k x)) = true := by rw [← el0]; unfold okG; rw [hcn]; exact decide_eq_true (by omega)
   have hal : allG (liveN s 6) nl y a (fun p => locI id s.nn R (iterS id par s.nn p x)) (fun p => iterS id par s.nn p x) (k + 1) = allG (liveN s 6) nl y a (fun p => locI id s.nn R (iterS id par s.nn p x)) (fun p => iterS id par s.nn p x) k ++ gfN (liveN s 6) nl y a l0 (iterS id par s.nn k x) m := by show _ ++ nodeG (liveN s 6) nl y a (locI id s.nn R (iterS id par s.nn k x)) (iterS id par s.nn k x) = _; rw [← el0]; unfold nodeG; rw [hcn]
   have m72 := m36.congr (y := gfX (allG (liveN s 6) nl y a (fun p => locI id s.nn R (iterS id par s.nn p x)) (fun p => iterS id par s.nn p x) (k + 1))) (fun j _ => by rw [hal])
   skip
   refine Fx.lpN ⟨k + 1, n2, a2, c2, by omega, (by rw [hal, List.length_append, gfN_len, ← hno]; exact hn2), by omega, (fun q h => (Nat.lt_or_eq_of_le (Nat.le_of_lt_succ h)).elim (hok q) (fun e => by rw [e]; exact hokk)), (h10.trans (by first | rfl | exact congrArg (Value.int .i64) (by omega))), (h11.trans (by first | rfl | exact congrArg (Value.int .i64) (by omega))), h12, h13, h14, h17, (h18.trans (by first | rfl | exact congrArg (Value.int .i64) (by omega))), h20, (by first | rfl | exact congrArg (Value.int .i64) (by omega)), m32, m34, m33, m72, b9⟩ ?_
   show (P - (intOf ((.int .i64 ((k : Int) + 1)))).toNat) < _
   simp only [h9, intOf]; omega
 ·refine Fx.L.v (.bool false) (Fx.x_lssF rfl h9 h7 c39) (Fx.L.nil (Fx.seqN (Fx.W.seq (Fx.W.cond (b := false) rfl (fun h => nomatch h) (fun _ => Fx.W.exit (Fx.seqX (Fx.lpX (Fx.blkX (Fx.seqN (Fx.W.seq (Fx.W.list (Fx.L.v (.slice ao (no) (co)) (x_move rfl h8) (Fx.L.v (.slice ao (no) (co)) (x_assign rfl rfl) (Fx.L.v (.int .i64 (0)) (x_assign rfl rfl) (Fx.L.nil (Fx.seqN (Fx.W.ret (⟨.tuple #[.slice ao (no) (co), .int .i64 (0)], Fx.retV2 Try.results59 (by exact rfl) (by exact rfl), ?_⟩))))))))))))))))))
  obtain rfl : k = P := by omega
  exact ⟨.inl ⟨_, no, rfl, fun q hq => hok q (by omega), hP ▸ hno, hP ▸ m12⟩, b5⟩
namespace Rt
structure AskM where
  kind : Int
  node : Int
  dst : Int
  amt : Int
  req : Int
  of : Int
def askY (x : AskM) : Nat → Value := fun p => if p = 0 then .int .u8 x.kind else if p = 1 then .int .u64 x.node else if p = 2 then .int .i64 x.dst else if p = 3 then .int .i64 x.amt else if p = 4 then .int .u64 x.req else .int .u64 x.of
def ask0 : AskM := ⟨0, 0, 0, 0, 0, 0⟩
def asX (l : List AskM) : Nat → Value := Fx.flat 6 fun k => askY (l.getD k ask0)
theorem as_app {l : List AskM} {n : Nat} {y z : Nat → Value} {x : AskM} (hn : n = l.length) (hy : ∀ j, j < 6 → y j = askY x j) : ∀ j, j < (n + 1) * 6 → Fx.appX (asX l) (n * 6) (Fx.ovr z (0 * 6) 6 y) j = asX (l ++ [x]) j := fun j hj =>
  (Fx.app_flat j hj).trans (Fx.flat_cong (fun i hi q hq => by
    subst hn
    unfold Fx.updF
    by_cases h : i = l.length
    · subst h; rw [if_pos rfl, hy q hq, List.getD_eq_getElem?_getD, List.getElem?_append_right (by omega), Nat.sub_self]; rfl
    · rw [if_neg h]; show askY (l.getD i ask0) q = _; rw [List.getD_eq_getElem?_getD, List.getD_eq_getElem?_getD, List.getElem?_append_left (by omega)]) j hj)
end Rt
theorem Rt.one6 {z y : Nat → Value} (hy : ∀ j, j < 6 → (y j).oneCell' = true) : ∀ j, j < 1 * 6 → (Fx.ovr z (0 * 6) 6 y j).oneCell' = true := fun j hj => by
  unfold Fx.ovr; rw [if_pos (by omega)]; exact hy _ (by omega)
namespace Rt
def akN (gl : List GiftM) (fr dst : Int) : Nat → List AskM
  | 0 => []
  | k + 1 => if (gl.getD k gf0).fr = fr then akN gl fr dst k ++ [⟨5, (gl.getD k gf0).node, dst, (gl.getD k gf0).amt, 0, 0⟩] else akN gl fr dst k
theorem ak_yes {gl : List GiftM} {fr dst : Int} {k : Nat} (h : (gl.getD k gf0).fr = fr) : akN gl fr dst (k + 1) = akN gl fr dst k ++ [⟨5, (gl.getD k gf0).node, dst, (gl.getD k gf0).amt, 0, 0⟩] := if_pos h
theorem ak_no {gl : List GiftM} {fr dst : Int} {k : Nat} (h : ¬ (gl.getD k gf0).fr = fr) : akN gl fr dst (k + 1) = akN gl fr dst k := if_neg h
theorem ak_len (gl : List GiftM) (fr dst : Int) : ∀ k, (akN gl fr dst k).length ≤ k
  | 0 => Nat.le_refl _
  | k + 1 => by
    have := ak_len gl fr dst k
    show (if _ then _ else _ : List AskM).length ≤ k + 1
    split
    · simp; omega
    · omega
end Rt
set_option maxRecDepth 10000 in
theorem ro_asks (gl : List GiftM) (ag : Option Addr) (ng cg : Nat) (fr dst : Int) (w : World) (hgf : Fx.Arr w ag ng 3 (Fx.flat 3 fun kq => gfY (gl.getD kq gf0))) (hng : ng ≤ 1000) :
    Calls Try.prog 60 #[.slice ag (ng) (cg), .int .i64 (fr), .int .i64 (dst)] w fun e w' => ∃ v n, e = .returned v ∧ n = (akN gl fr dst ng).length ∧ Fx.Own w' w.heap.size 116 6 v n (asX (akN gl fr dst ng)) ∧ Below w.heap.size w w' := by
 refine Fx.enter Try.func60 rfl (n := 30) rfl (by rfl) ?_
 refine Fx.W.seq (Fx.W.list (Fx.L.v (.slice none 0 0) (x_assign rfl rfl) (Fx.L.nil (Fx.seqN (Fx.W.seq (Fx.W.seq (Fx.W.list (Fx.L.v (.slice ag (ng) (cg)) (x_move rfl rfl) (Fx.L.v (.int .i64 ((ng : Int))) (x_len rfl rfl rfl (by kernel_rfl)) (Fx.L.v (.int .i64 (0)) (x_move rfl rfl) (Fx.L.nil (Fx.seqN (Fx.W.block ?_)))))))))))))
 have m1 : Fx.Own w w.heap.size 116 6 (.slice none 0 0) 0 (asX (akN gl fr dst 0)) := Fx.Own.nil _ _ _ _ _
 refine Fx.W.loop (fun f w_ => ∃ k : Nat, ∃ n : Nat, ∃ a : Option Addr, ∃ cap : Nat, k ≤ ng ∧ n = (akN gl fr dst k).length ∧ f 1 = .int .i64 (fr) ∧ f 2 = .int .i64 (dst) ∧ f 9 = .slice ag (ng) (cg) ∧ f 10 = .int .i64 ((ng : Int)) ∧ f 6 = .slice a (n) (cap) ∧ f 11 = .int .i64 ((k : Int)) ∧ Fx.Own w_ w.heap.size 116 6 (.slice a (n) (cap)) n (asX (akN gl fr dst k)) ∧ Below w.heap.size w w_) (fun f _ => (ng - (intOf (f 11)).toNat)) ⟨0, 0, none, 0, by omega, rfl, (by first | rfl | exact congrArg (Value.int .i64) (by omega)), (by first | rfl | exact congrArg (Value.int .i64) (by omega)), (by rfl), (by first | rfl | exact congrArg (Value.int .i64) (by omega)), (by rfl), (by first | rfl | exact congrArg (Value.int .i64) (by omega)), m1, (Below.refl w.heap.size w)⟩ ?_
 rintro f1 w1 ⟨k, n, a, cap, hk, hn, h1, h2, h3, h4, h5, h6, m2, b1⟩
 have hnl := ak_len gl fr dst k
 refine Fx.W.seq (Fx.W.list ?_)
 by_cases c12 : (k : Int) < (ng : Int)
 ·refine Fx.L.v (.bool true) (Fx.x_lssT rfl h6 h4 c12) (Fx.L.nil (Fx.seqN (Fx.W.seq (Fx.W.cond (b := true) rfl (fun _ => Fx.W.skip (Fx.seqN (Fx.W.seq (Fx.W.block (Fx.W.seq (Fx.W.list ?_)))))) (fun h => nomatch h)))))
  obtain ⟨bq1, oq1, eq1, m3⟩ := (hgf.up b1 rfl) (by omega)
  have lbq1 : bq1 < w1.heap.size := m3.lt (by omega)
  refine Fx.L.v (.pointer (some ⟨bq1, 3 * k + oq1, none⟩)) (x_indexS rfl (h3.trans (congrArg (fun q => Value.slice q (ng) (cg)) eq1)) h6 Try.underlying117 (s := 3) (by kernel_rfl) (by omega) (by omega) (by omega)) (Fx.L.v (.agg (Fx.varr 3 (gfY (gl.getD k gf0)))) (x_loadA (x := Fx.flat 3 (fun kq => gfY (gl.getD kq gf0))) (y := gfY (gl.getD k gf0)) rfl rfl (by kernel_rfl) (by kernel_rfl) m3 (i := 3 * k) (by omega) (by omega) (fun jq hjq => Fx.flat_at (k := k) (by omega) hjq)) (Fx.L.new (m := 3) (y := fun zq => if zq < 1 then .int .i64 (0) else if zq < 2 then .int .u64 (0) else .int .i64 (0)) (by rfl) rfl (by kernel_rfl) rfl fun g1 w2 eg1 m4 s1 z1 => ?_))
  have m5 := m2.stp s1 (m2.notNew (Nat.le_refl _))
  have m6 := m3.stp s1 (Nat.ne_of_lt (m3.lt (by omega)))
  have b2 := s1.below b1 b1.size b1.size
  have lg1 : w.heap.size ≤ g1 := by rw [eg1]; exact b1.size
  have ng1m6 : bq1 ≠ g1 := by rw [eg1]; exact Nat.ne_of_lt (m3.lt (by omega))
  have tg1 : g1 < w2.heap.size := m4.lt
  clear eg1
  refine Fx.L.storeA (x := fun zq => if zq < 1 then .int .i64 (0) else if zq < 2 then .int .u64 (0) else .int .i64 (0)) (y := gfY (gl.getD k gf0)) (by rfl) rfl rfl rfl rfl (fun j _ => gfY_one _ j) (by kernel_rfl) m4 (i := 0) (by omega) fun w3 m7 s2 z2 => ?_
  have m8 : Fx.Blk w3 g1 3 (gfY (gl.getD k gf0)) 122 := Fx.ovr_all m7
  have hct1 := Fx.ChT.of_stp s2 m4.ty
  have m9 := m5.chT hct1 (by decide)
  have m10 := m6.stp s2 (by omega)
  have b3 := s2.below b2 b2.size (by omega)
  refine Fx.L.nil (Fx.seqN (Fx.W.seq (Fx.W.list (Fx.L.v (.pointer (some ⟨g1, 0, none⟩)) (x_field rfl rfl Try.underlying122 rfl (s := 1) (by kernel_rfl) rfl rfl) (Fx.L.v (.int .i64 ((gl.getD k gf0).fr)) (x_load1 (x := gfY (gl.getD k gf0)) rfl rfl (by kernel_rfl) m8.cel (i := 0) (by omega) (by omega) rfl) (Fx.L.v (.int .i64 (fr)) (x_move rfl h1) ?_))))))
  by_cases c18 : ((gl.getD k gf0).fr) = fr
  ·refine Fx.L.v (.bool true) (x_eqlT rfl rfl rfl c18) (Fx.L.nil (Fx.seqN (Fx.W.cond (b := true) rfl (fun _ => Fx.W.list (Fx.L.v (.slice a (n) (cap)) (x_move rfl h5) ?_)) (fun h => nomatch h))))
   refine Fx.L.v (.pointer (some ⟨g1, 1, none⟩)) (x_field rfl rfl Try.underlying122 rfl (s := 1) (by kernel_rfl) rfl (by show _ + 1 = _; omega)) (Fx.L.v (.int .u64 ((gl.getD k gf0).node)) (x_load1 (x := gfY (gl.getD k gf0)) rfl rfl (by kernel_rfl) m8.cel (i := 1) (by omega) (by omega) rfl) (Fx.L.v (.pointer (some ⟨g1, 2, none⟩)) (x_field rfl rfl Try.underlying122 rfl (s := 1) (by kernel_rfl) rfl (by show _ + 2 = _; omega)) (Fx.L.v (.int .i64 ((gl.getD k gf0).amt)) (x_load1 (x := gfY (gl.getD k gf0)) rfl rfl (by kernel_rfl) m8.cel (i := 2) (by omega) (by omega) rfl) (Fx.L.v (.int .i64 (dst)) (x_move rfl h2) (Fx.L.v (.agg (Fx.varr 6 (Fx.ovr (Fx.ovr (Fx.ovr (Fx.ovr (fun zq => if zq < 1 then .int .u8 (0) else if zq < 2 then .int .u64 (0) else if zq < 4 then .int .i64 (0) else .int .u64 (0)) 0 1 (fun _ => .int .u8 (5))) 1 1 (fun _ => .int .u64 ((gl.getD k gf0).node))) 3 1 (fun _ => .int .i64 ((gl.getD k gf0).amt))) 2 1 (fun _ => .int .i64 (dst))))) (x_build (vs := [(0, .int .u8 (5)), (1, .int .u64 ((gl.getD k gf0).node)), (3, .int .i64 ((gl.getD k gf0).amt)), (2, .int .i64 (dst))]) (places := #[(0, 1), (1, 1), (2, 1), (3, 1), (4, 1), (5, 1)]) (m := 6) (x := fun zq => if zq < 1 then .int .u8 (0) else if zq < 2 then .int .u64 (0) else if zq < 4 then .int .i64 (0) else .int .u64 (0)) rfl rfl Try.underlying116 (by kernel_rfl) (by kernel_rfl) (by rw [Fx.fill_step (off := 0) (s := 1) (y := fun _ => .int .u8 (5)) (by kernel_rfl) (Fx.cells_one (by rfl)) (by rfl)]; rw [Fx.fill_step (off := 1) (s := 1) (y := fun _ => .int .u64 ((gl.getD k gf0).node)) (by kernel_rfl) (Fx.cells_one (by rfl)) (by rfl)]; rw [Fx.fill_step (off := 3) (s := 1) (y := fun _ => .int .i64 ((gl.getD k gf0).amt)) (by kernel_rfl) (Fx.cells_one (by rfl)) (by rfl)]; rw [Fx.fill_step (off := 2) (s := 1) (y := fun _ => .int .i64 (dst)) (by kernel_rfl) (Fx.cells_one (by rfl)) (by rfl)]; rfl)) (Fx.L.bslice (vs := [(0, .agg (Fx.varr 6 (Fx.ovr (Fx.ovr (Fx.ovr (Fx.ovr (fun zq => if zq < 1 then .int .u8 (0) else if zq < 2 then .int .u64 (0) else if zq < 4 then .int .i64 (0) else .int .u64 (0)) 0 1 (fun _ => .int .u8 (5))) 1 1 (fun _ => .int .u64 ((gl.getD k gf0).node))) 3 1 (fun _ => .int .i64 ((gl.getD k gf0).amt))) 2 1 (fun _ => .int .i64 (dst)))))]) (s := 6) (zc := fun zq => if zq < 1 then .int .u8 (0) else if zq < 2 then .int .u64 (0) else if zq < 4 then .int .i64 (0) else .int .u64 (0)) (y := Fx.ovr (fun j => (fun zq => if zq < 1 then .int .u8 (0) else if zq < 2 then .int .u64 (0) else if zq < 4 then .int .i64 (0) else .int .u64 (0)) (j % 6)) (0 * 6) 6 (Fx.ovr (Fx.ovr (Fx.ovr (Fx.ovr (fun zq => if zq < 1 then .int .u8 (0) else if zq < 2 then .int .u64 (0) else if zq < 4 then .int .i64 (0) else .int .u64 (0)) 0 1 (fun _ => .int .u8 (5))) 1 1 (fun _ => .int .u64 ((gl.getD k gf0).node))) 3 1 (fun _ => .int .i64 ((gl.getD k gf0).amt))) 2 1 (fun _ => .int .i64 (dst)))) (by rfl) rfl rfl Try.underlying76 (by kernel_rfl) (by rfl) (by rfl) (by kernel_rfl) (by rw [Fx.fill_step (off := 0 * 6) (s := 6) (y := Fx.ovr (Fx.ovr (Fx.ovr (Fx.ovr (fun zq => if zq < 1 then .int .u8 (0) else if zq < 2 then .int .u64 (0) else if zq < 4 then .int .i64 (0) else .int .u64 (0)) 0 1 (fun _ => .int .u8 (5))) 1 1 (fun _ => .int .u64 ((gl.getD k gf0).node))) 3 1 (fun _ => .int .i64 ((gl.getD k gf0).amt))) 2 1 (fun _ => .int .i64 (dst))) rfl (Fx.cells_agg _ _) (by rfl)]; rfl) rfl fun g2 w4 eg2 m11 s3 z3 => ?_))))))
   have m12 := m9.stp s3 (m9.notNew (Nat.le_refl _))
   have b4 := s3.below b3 b3.size b3.size
   have lg2 : w.heap.size ≤ g2 := by rw [eg2]; exact b3.size
   have ng2m12 : (.slice a (n) (cap) : Value).ownBlock ≠ some g2 := by rw [eg2]; exact m9.notNew (Nat.le_refl _)
   have ng2m13 : g1 ≠ g2 := by rw [eg2]; exact Nat.ne_of_lt (m8.lt)
   have tg2 : g2 < w4.heap.size := m11.lt
   clear eg2
   refine Fx.L.app (B := w.heap.size) (s := 6) (bytes := 48) (k := n) (m := 1) (v := .slice a (n) (cap)) (x := asX (akN gl fr dst k)) (by rfl) rfl rfl rfl Try.underlying76 (by kernel_rfl) (by kernel_rfl) rfl rfl m12 m11.cel (one6 (fun j hj => by rcases j with _|_|_|_|_|_|j <;> first | rfl | omega)) (by omega) (by omega) (by omega) b4.size fun g3 cap1 w5 ho1 hg1 hgv1 hlt1 => ?_
   have m14 : Fx.Own w5 w.heap.size 116 6 (.slice (some ⟨g3, 0, none⟩) (n + 1) cap1) (n + 1) (asX (akN gl fr dst (k + 1))) := (ho1.congr (fun j hj => by rw [ak_yes c18]; exact as_app hn (fun j hj => by rcases j with _|_|_|_|_|_|j <;> first | rfl | omega) j hj))
   have b5 : Below w.heap.size w w5 := Fx.Below.grow b4 hg1 b4.size (fun q hq => (m12.ge hq).1)
   refine Fx.L.v (.slice (some ⟨g3, 0, none⟩) (n + 1) (cap1)) (x_assign rfl rfl) (Fx.L.nil (Fx.blkN (Fx.seqN (Fx.W.list (Fx.L.v (.int .i64 ((k : Int) + 1)) (Fx.x_add rfl h6 rfl (Fx.i64e (by omega) (by omega))) (Fx.L.v (.int .i64 ((k : Int) + 1)) (x_move rfl rfl) (Fx.L.nil ?_)))))))
   skip
   refine Fx.lpN ⟨k + 1, n + 1, (some ⟨g3, 0, none⟩), cap1, by omega, (by rw [ak_yes c18, List.length_append, ← hn]; rfl), (h1.trans (by first | rfl | exact congrArg (Value.int .i64) (by omega))), (h2.trans (by first | rfl | exact congrArg (Value.int .i64) (by omega))), h3, (h4.trans (by first | rfl | exact congrArg (Value.int .i64) (by omega))), (by rfl), (by first | rfl | exact congrArg (Value.int .i64) (by omega)), m14, b5⟩ ?_
   show (ng - (intOf ((.int .i64 ((k : Int) + 1)))).toNat) < _
   simp only [h6, intOf]; omega
  ·refine Fx.L.v (.bool false) (x_eqlF rfl rfl rfl c18) (Fx.L.nil (Fx.seqN (Fx.W.cond (b := false) rfl (fun h => nomatch h) (fun _ => Fx.W.skip (Fx.blkN (Fx.seqN (Fx.W.list (Fx.L.v (.int .i64 ((k : Int) + 1)) (Fx.x_add rfl h6 rfl (Fx.i64e (by omega) (by omega))) (Fx.L.v (.int .i64 ((k : Int) + 1)) (x_move rfl rfl) (Fx.L.nil ?_))))))))))
   have m16 := m9.congr (y := asX (akN gl fr dst (k + 1))) (fun j _ => by rw [ak_no c18])
   skip
   refine Fx.lpN ⟨k + 1, n, a, cap, by omega, (by rw [ak_no c18]; exact hn), (h1.trans (by first | rfl | exact congrArg (Value.int .i64) (by omega))), (h2.trans (by first | rfl | exact congrArg (Value.int .i64) (by omega))), h3, (h4.trans (by first | rfl | exact congrArg (Value.int .i64) (by omega))), h5, (by first | rfl | exact congrArg (Value.int .i64) (by omega)), m16, b3⟩ ?_
   show (ng - (intOf ((.int .i64 ((k : Int) + 1)))).toNat) < _
   simp only [h6, intOf]; omega
 ·refine Fx.L.v (.bool false) (Fx.x_lssF rfl h6 h4 c12) (Fx.L.nil (Fx.seqN (Fx.W.seq (Fx.W.cond (b := false) rfl (fun h => nomatch h) (fun _ => Fx.W.exit (Fx.seqX (Fx.lpX (Fx.blkX (Fx.seqN (Fx.W.seq (Fx.W.list (Fx.L.v (.slice a (n) (cap)) (x_move rfl h5) (Fx.L.v (.slice a (n) (cap)) (x_assign rfl rfl) (Fx.L.nil (Fx.seqN (Fx.W.ret (⟨.slice a (n) (cap), Fx.retV1 Try.results60 (by exact rfl), ?_⟩)))))))))))))))))
  obtain rfl : k = ng := by omega
  exact ⟨_, n, rfl, hn, m2, b1⟩
namespace Rt
structure AskWf (x : AskM) : Prop where
  kind : 0 ≤ x.kind ∧ x.kind ≤ 255
  node : U64r x.node
  dst : I64r x.dst
  amt : I64r x.amt
  req : U64r x.req
  of : U64r x.of
theorem kd_ask {x : AskM} (h : AskWf x) : Fx.Kd [(some .u8), (some .u64), (some .i64), (some .i64), (some .u64), (some .u64)] (askY x) := by
  have one : ∀ (k : IntKind) (n : Int), (Lit.int k n).wf = true → ∃ l, litOf (some k) (.int k n) = some l := fun k n hw => by
    obtain ⟨l, hl⟩ := Fx.kd_rv (k := k) (n := 1) (x := fun _ => n) (fun _ _ => hw) 0 (by simp)
    exact ⟨l, hl⟩
  intro i hi
  have hi' : i < 6 := hi
  rcases i with _|_|_|_|_|_|i
  · exact one .u8 x.kind (Fx.wfu8 h.kind)
  · exact one .u64 x.node (Fx.wfu64 h.node)
  · exact one .i64 x.dst (Fx.wf64 h.dst)
  · exact one .i64 x.amt (Fx.wf64 h.amt)
  · exact one .u64 x.req (Fx.wfu64 h.req)
  · exact one .u64 x.of (Fx.wfu64 h.of)
  · omega
end Rt
namespace Rt
theorem kd_congr {ks : List (Option IntKind)} {X Y : Nat → Value} (h : Fx.Kd ks X) (e : ∀ i, i < ks.length → X i = Y i) : Fx.Kd ks Y := fun i hi => by
  obtain ⟨l, hl⟩ := h i hi; exact ⟨l, by rw [← e i hi]; exact hl⟩
def wst (g cap : Nat) : StM := ⟨fun i => decide (i < 2), fun _ => false, fun _ => 0, some ⟨g, 0, none⟩, 1, cap, none, 0, 0⟩
end Rt
namespace Rt
def wR3 : Nat → Int := upd (fun _ => 0) 0 10
def wgf : GiftM := ⟨1, 5, 4⟩
def wak : AskM := ⟨5, 5, 2, 4, 0, 0⟩
theorem wk3_app {x z : Nat → Value} : ∀ j, j < (0 + 1) * 56 → Fx.appX x (0 * 56) (Fx.ovr z (0 * 56) 56 (ndY 5 0 wR3)) j = Fx.flat 56 (fun _ => ndY 5 0 wR3) j := fun j hj => by
  rw [app0]
  unfold Fx.ovr
  rw [if_pos (by omega), show j - 0 * 56 = j by omega]
  exact (Fx.flat_at (F := fun _ => ndY 5 0 wR3) (k := 0) (by omega) (by omega)).symm
theorem wk3_nd (j : Nat) : Fx.updV (Fx.ovr (fun zq => if zq < 2 then .int .u64 (0) else .int .i64 (0)) 0 1 (fun _ => .int .u64 (5))) 2 (.int .i64 (10)) j = ndY 5 0 wR3 j := by
  unfold Fx.updV Fx.ovr ndY wR3 upd
  by_cases h0 : j = 0
  · subst h0; rfl
  · by_cases h1 : j = 1
    · subst h1; rfl
    · by_cases h2 : j = 2
      · subst h2; rfl
      · rw [if_neg h2, if_neg (by omega), if_neg h0, if_neg h1, if_neg (by omega)]
        show (if j < 2 then _ else _) = _
        rw [if_neg (by omega)]
theorem wk3_lo (g c : Nat) : ∀ x, 0 ≤ firstS (fun _ => 5) (wst g c).nn x → LoOk (locI (fun _ => 5) (wst g c).nn (fun _ => wR3) x) := fun x _ j hj => by
  show 0 ≤ localV wR3 ((j : Int) + 1) ∧ localV wR3 ((j : Int) + 1) ≤ 9007199254740992
  rcases j with _|_|_|_|_|_|j
  · exact of_decide_eq_true (by kernel_rfl)
  · exact of_decide_eq_true (by kernel_rfl)
  · exact of_decide_eq_true (by kernel_rfl)
  · exact of_decide_eq_true (by kernel_rfl)
  · exact of_decide_eq_true (by kernel_rfl)
  · exact of_decide_eq_true (by kernel_rfl)
  · omega
theorem wk3_P : pathS (fun _ => 5) (fun _ => 0) 1 5 = 1 := by kernel_rfl
theorem wk3_len (g c : Nat) : 2 = (liveN (wst g c) 6).length := by kernel_rfl
def wlo : Nat → Nat → Int := fun p => locI (fun _ => 5) 1 (fun _ => wR3) (iterS (fun _ => 5) (fun _ => 0) 1 p 5)
theorem wk3_4 (g c : Nat) : okG (liveN (wst g c) 6) 2 4 1 (wlo 0) = true ∧ allG (liveN (wst g c) 6) 2 4 1 wlo (fun p => iterS (fun _ => 5) (fun _ => 0) 1 p 5) 1 = [wgf] := ⟨by kernel_rfl, by kernel_rfl⟩
theorem wk3_11 (g c : Nat) : okG (liveN (wst g c) 6) 2 11 1 (wlo 0) = false := by kernel_rfl
theorem wk3_all (g c : Nat) : leastV (fun k => allI (wst g c) (wlo k)) 1 = 10 := by kernel_rfl
theorem wk3_own : leastV (fun k => wlo k 0) 1 = 10 ∧ leastV (fun k => wlo k 1) 1 = 0 := ⟨by kernel_rfl, by kernel_rfl⟩
theorem wk3_ak : akN [wgf] 1 2 1 = [wak] := rfl
theorem kd_gf {x : GiftM} (h1 : I64r x.fr) (h2 : U64r x.node) (h3 : I64r x.amt) : Fx.Kd [(some .i64), (some .u64), (some .i64)] (gfY x) := by
  have one : ∀ (k : IntKind) (n : Int), (Lit.int k n).wf = true → ∃ l, litOf (some k) (.int k n) = some l := fun k n hw => by
    obtain ⟨l, hl⟩ := Fx.kd_rv (k := k) (n := 1) (x := fun _ => n) (fun _ _ => hw) 0 (by simp)
    exact ⟨l, hl⟩
  intro i hi
  have hi' : i < 3 := hi
  rcases i with _|_|_|i
  · exact one .i64 x.fr (Fx.wf64 h1)
  · exact one .u64 x.node (Fx.wfu64 h2)
  · exact one .i64 x.amt (Fx.wf64 h3)
  · omega
end Rt
theorem w33_all (g c : Nat) (w : World) (h : Fx.Arr w (wst g c).na (wst g c).nn 56 (Fx.flat 56 fun _ => ndY 5 0 wR3)) : Calls Try.prog 55 #[.agg (Fx.varr 20 (stY (wst g c))), .int .u64 (5)] w fun e w' => e = .returned (.int .i64 (10)) ∧ Below w.heap.size w w' := by
  have := ro_all (wst g c) (fun _ => 5) (fun _ => 0) (fun _ => wR3) 5 w h (by show 1 ≤ 1000000; omega) (wk3_lo g c)
  exact this.mono fun e w' h => ⟨h.1.trans (congrArg (fun q => Ending.returned (Value.int .i64 q)) ((congrArg (leastV fun k => allI (wst g c) (wlo k)) wk3_P).trans (wk3_all g c))), h.2⟩
theorem w33_own (g c a : Nat) (v : Int) (w : World) (h : Fx.Arr w (wst g c).na (wst g c).nn 56 (Fx.flat 56 fun _ => ndY 5 0 wR3)) (ha : a < 6) (hl : liveI (wst g c) ((a : Int) + 1) = true) (hv : leastV (fun k => wlo k a) 1 = v) : Calls Try.prog 56 #[.agg (Fx.varr 20 (stY (wst g c))), .int .i64 ((a : Int) + 1), .int .u64 (5)] w fun e w' => e = .returned (.int .i64 (v)) ∧ Below w.heap.size w w' := by
  have := ro_own (wst g c) (fun _ => 5) (fun _ => 0) (fun _ => wR3) 5 w h (by show 1 ≤ 1000000; omega) a ha hl
  exact this.mono fun e w' h => ⟨h.1.trans (congrArg (fun q => Ending.returned (Value.int .i64 q)) ((congrArg (leastV fun k => wlo k a) wk3_P).trans hv)), h.2⟩
theorem w33_g4 (g c : Nat) (w : World) (h : Fx.Arr w (wst g c).na (wst g c).nn 56 (Fx.flat 56 fun _ => ndY 5 0 wR3)) : Calls Try.prog 59 #[.agg (Fx.varr 20 (stY (wst g c))), .int .i64 (2), .int .u64 (5), .int .i64 (4)] w fun e w' => ∃ v, e = .returned (.tuple #[v, .int .i64 (0)]) ∧ Fx.Own w' w.heap.size 122 3 v 1 (gfX [wgf]) ∧ Below w.heap.size w w' := by
  have := ro_gifts (wst g c) (fun _ => 5) (fun _ => 0) (fun _ => wR3) 5 w h (by show 1 ≤ 1000000; omega) (wk3_lo g c) 2 1 4 (by decide) (wk3_len g c) (by kernel_rfl) (by show (0 : Int) ≤ firstS (fun _ => 5) 1 5; exact of_decide_eq_true (by kernel_rfl)) (by decide)
  refine this.mono ?_
  rintro e w' ⟨h1, hb⟩
  rw [show pathS (fun _ => 5) (fun _ => 0) (wst g c).nn 5 = 1 from wk3_P] at h1
  rcases h1 with ⟨v, n, he, _, hn, hO⟩ | ⟨_, q, hq, hbad⟩
  · obtain rfl : n = 1 := hn.trans (congrArg List.length (wk3_4 g c).2)
    exact ⟨v, he, hO.congr (fun j _ => congrFun (congrArg gfX (wk3_4 g c).2) j), hb⟩
  · obtain rfl : q = 0 := by omega
    exact absurd ((wk3_4 g c).1.symm.trans hbad) (by decide)
theorem w33_g11 (g c : Nat) (w : World) (h : Fx.Arr w (wst g c).na (wst g c).nn 56 (Fx.flat 56 fun _ => ndY 5 0 wR3)) : Calls Try.prog 59 #[.agg (Fx.varr 20 (stY (wst g c))), .int .i64 (2), .int .u64 (5), .int .i64 (11)] w fun e w' => e = .returned (.tuple #[.slice none 0 0, .int .i64 (11)]) ∧ Below w.heap.size w w' := by
  have := ro_gifts (wst g c) (fun _ => 5) (fun _ => 0) (fun _ => wR3) 5 w h (by show 1 ≤ 1000000; omega) (wk3_lo g c) 2 1 11 (by decide) (wk3_len g c) (by kernel_rfl) (by show (0 : Int) ≤ firstS (fun _ => 5) 1 5; exact of_decide_eq_true (by kernel_rfl)) (by decide)
  refine this.mono ?_
  rintro e w' ⟨h1, hb⟩
  rw [show pathS (fun _ => 5) (fun _ => 0) (wst g c).nn 5 = 1 from wk3_P] at h1
  rcases h1 with ⟨v, n, he, hall, hn, hO⟩ | ⟨he, _⟩
  · have := hall 0 (by omega)
    exact absurd ((wk3_11 g c).symm.trans this) (by decide)
  · exact ⟨he, hb⟩
theorem w33_asks (ag : Option Addr) (cg : Nat) (w : World) (h : Fx.Arr w ag 1 3 (gfX [wgf])) : Calls Try.prog 60 #[.slice ag 1 cg, .int .i64 (1), .int .i64 (2)] w fun e w' => ∃ v, e = .returned v ∧ Fx.Own w' w.heap.size 116 6 v 1 (asX [wak]) ∧ Below w.heap.size w w' := by
  have := ro_asks [wgf] ag 1 cg 1 2 w h (by decide)
  rw [wk3_ak] at this
  refine this.mono ?_
  rintro e w' ⟨v, n, he, hn, hO, hb⟩
  obtain rfl : n = 1 := hn
  exact ⟨v, he, hO, hb⟩
set_option maxRecDepth 20000 in
set_option maxHeartbeats 1000000 in
theorem works33_any (w : World) :
    Calls Try.prog 53 #[] w fun e w' => e = .returned (.bool true) ∧ Below w.heap.size w w' := by
 refine Fx.enter Try.func53 rfl (n := 77) rfl (by rfl) ?_
 refine Fx.W.seq (Fx.W.list (Fx.L.v (.bool false) (x_assign rfl rfl) (Fx.L.nil (Fx.seqN (Fx.W.seq (Fx.W.list (Fx.L.v (.agg (Fx.varr 6 (Fx.ovr (Fx.ovr (fun _ => .bool false) 0 1 (fun _ => .bool true)) 1 1 (fun _ => .bool true)))) (Fx.x_buildArr (vs := [(0, .bool true), (1, .bool true)]) (s := 1) (m := 6) (x := fun _ => .bool false) rfl rfl Try.underlying39 (by kernel_rfl) (by kernel_rfl) (by rw [Fx.fill_step (off := 0) (s := 1) (y := fun _ => .bool true) (by kernel_rfl) (Fx.cells_one (by rfl)) (by rfl)]; rw [Fx.fill_step (off := 1) (s := 1) (y := fun _ => .bool true) (by kernel_rfl) (Fx.cells_one (by rfl)) (by rfl)]; rfl)) (Fx.L.v (.agg (Fx.varr 20 (Fx.ovr (fun zq => if zq < 12 then .bool false else if zq < 18 then .int .u64 (0) else .slice none 0 0) 0 6 (Fx.ovr (Fx.ovr (fun _ => .bool false) 0 1 (fun _ => .bool true)) 1 1 (fun _ => .bool true))))) (x_build (vs := [(0, .agg (Fx.varr 6 (Fx.ovr (Fx.ovr (fun _ => .bool false) 0 1 (fun _ => .bool true)) 1 1 (fun _ => .bool true))))]) (places := #[(0, 6), (6, 6), (12, 6), (18, 1), (19, 1)]) (m := 20) (x := fun zq => if zq < 12 then .bool false else if zq < 18 then .int .u64 (0) else .slice none 0 0) rfl rfl Try.underlying43 (by kernel_rfl) (by kernel_rfl) (by rw [Fx.fill_step (off := 0) (s := 6) (y := Fx.ovr (Fx.ovr (fun _ => .bool false) 0 1 (fun _ => .bool true)) 1 1 (fun _ => .bool true)) (by kernel_rfl) (Fx.cells_agg _ _) (by rfl)]; rfl)) (Fx.L.new (m := 20) (y := fun zq => if zq < 12 then .bool false else if zq < 18 then .int .u64 (0) else .slice none 0 0) (by rfl) rfl (by kernel_rfl) rfl fun g1 w1 eg1 m1 s1 z1 => ?_)))))))))
 have b1 := s1.below (Below.refl w.heap.size w) (Below.refl w.heap.size w).size (Below.refl w.heap.size w).size
 have lg1 : w.heap.size ≤ g1 := by rw [eg1]; exact (Below.refl w.heap.size w).size
 have tg1 : g1 < w1.heap.size := m1.lt
 clear eg1
 refine Fx.L.storeA (x := fun zq => if zq < 12 then .bool false else if zq < 18 then .int .u64 (0) else .slice none 0 0) (y := Fx.ovr (fun zq => if zq < 12 then .bool false else if zq < 18 then .int .u64 (0) else .slice none 0 0) 0 6 (Fx.ovr (Fx.ovr (fun _ => .bool false) 0 1 (fun _ => .bool true)) 1 1 (fun _ => .bool true))) (by rfl) rfl rfl rfl rfl (Fx.ovr_ones (fun jq _ => by show ((fun zq => if zq < 12 then .bool false else if zq < 18 then .int .u64 (0) else .slice none 0 0 : Nat → Value) jq).oneCell' = true; simp only []; repeat (first | rfl | split)) (Fx.ovr_ones (Fx.ovr_ones (fun jq _ => by show ((fun _ => .bool false : Nat → Value) jq).oneCell' = true; simp only []; repeat (first | rfl | split)) (fun _ _ => rfl)) (fun _ _ => rfl))) (by kernel_rfl) m1 (i := 0) (by omega) fun w2 m2 s2 z2 => ?_
 have m3 : Fx.Blk w2 g1 20 (Fx.ovr (fun zq => if zq < 12 then .bool false else if zq < 18 then .int .u64 (0) else .slice none 0 0) 0 6 (Fx.ovr (Fx.ovr (fun _ => .bool false) 0 1 (fun _ => .bool true)) 1 1 (fun _ => .bool true))) 43 := Fx.ovr_all m2
 have b2 := s2.below b1 b1.size (by omega)
 refine Fx.L.nil (Fx.seqN (Fx.W.seq (Fx.W.list (Fx.L.v (.agg (Fx.varr 56 (Fx.ovr (fun zq => if zq < 2 then .int .u64 (0) else .int .i64 (0)) 0 1 (fun _ => .int .u64 (5))))) (x_build (vs := [(0, .int .u64 (5))]) (places := #[(0, 1), (1, 1), (2, 54)]) (m := 56) (x := fun zq => if zq < 2 then .int .u64 (0) else .int .i64 (0)) rfl rfl Try.underlying50 (by kernel_rfl) (by kernel_rfl) (by rw [Fx.fill_step (off := 0) (s := 1) (y := fun _ => .int .u64 (5)) (by kernel_rfl) (Fx.cells_one (by rfl)) (by rfl)]; rfl)) (Fx.L.new (m := 56) (y := fun zq => if zq < 2 then .int .u64 (0) else .int .i64 (0)) (by rfl) rfl (by kernel_rfl) rfl fun g2 w3 eg2 m4 s3 z3 => ?_)))))
 have m5 := m3.stp s3 (Nat.ne_of_lt (m3.lt))
 have b3 := s3.below b2 b2.size b2.size
 have lg2 : w.heap.size ≤ g2 := by rw [eg2]; exact b2.size
 have ng2m5 : g1 ≠ g2 := by rw [eg2]; exact Nat.ne_of_lt (m3.lt)
 have tg2 : g2 < w3.heap.size := m4.lt
 clear eg2
 refine Fx.L.storeA (x := fun zq => if zq < 2 then .int .u64 (0) else .int .i64 (0)) (y := Fx.ovr (fun zq => if zq < 2 then .int .u64 (0) else .int .i64 (0)) 0 1 (fun _ => .int .u64 (5))) (by rfl) rfl rfl rfl rfl (Fx.ovr_ones (fun jq _ => by show ((fun zq => if zq < 2 then .int .u64 (0) else .int .i64 (0) : Nat → Value) jq).oneCell' = true; simp only []; repeat (first | rfl | split)) (fun _ _ => rfl)) (by kernel_rfl) m4 (i := 0) (by omega) fun w4 m6 s4 z4 => ?_
 have m7 : Fx.Blk w4 g2 56 (Fx.ovr (fun zq => if zq < 2 then .int .u64 (0) else .int .i64 (0)) 0 1 (fun _ => .int .u64 (5))) 50 := Fx.ovr_all m6
 have hct1 := Fx.ChT.of_stp s4 m4.ty
 have m8 := m5.chT hct1 (by decide)
 have b4 := s4.below b3 b3.size (by omega)
 refine Fx.L.nil (Fx.seqN (Fx.W.seq (Fx.W.list (Fx.L.v (.pointer (some ⟨g2, 2, none⟩)) (x_field rfl rfl Try.underlying50 rfl (s := 54) (by kernel_rfl) rfl (by show _ + 2 = _; omega)) (Fx.L.v (.pointer (some ⟨g2, 2, none⟩)) (x_field rfl rfl Try.underlying48 rfl (s := 6) (by kernel_rfl) rfl rfl) (Fx.L.v (.pointer (some ⟨g2, 2, none⟩)) (x_index rfl rfl rfl Try.underlying45 (s := 1) (by kernel_rfl) (by omega) (by omega) (by omega)) (Fx.L.store1 (x := Fx.ovr (fun zq => if zq < 2 then .int .u64 (0) else .int .i64 (0)) 0 1 (fun _ => .int .u64 (5))) (u := .int .i64 (10)) (by rfl) rfl rfl rfl rfl (by rfl) (by kernel_rfl) m7 (i := 2) (by omega) fun w5 m9 s5 z5 => ?_)))))))
 have hct2 := Fx.ChT.of_stp s5 m7.ty
 have m10 := m8.chT hct2 (by decide)
 have b5 := s5.below b4 b4.size (by omega)
 refine Fx.L.nil (Fx.seqN (Fx.W.seq ?_))
 have m11 : Fx.Blk w5 g2 56 (ndY 5 0 wR3) 50 := m9.congr (fun j hj => wk3_nd j)
 refine Fx.W.list (Fx.L.v (.pointer (some ⟨g1, 18, none⟩)) (x_field rfl rfl Try.underlying43 rfl (s := 1) (by kernel_rfl) rfl (by show _ + 18 = _; omega)) (Fx.L.v (.slice none 0 0) (x_load1 (x := Fx.ovr (fun zq => if zq < 12 then .bool false else if zq < 18 then .int .u64 (0) else .slice none 0 0) 0 6 (Fx.ovr (Fx.ovr (fun _ => .bool false) 0 1 (fun _ => .bool true)) 1 1 (fun _ => .bool true))) rfl rfl (by kernel_rfl) m10.cel (i := 18) (by omega) (by omega) (Fx.ovr_out (by omega) rfl)) (Fx.L.v (.agg (Fx.varr 56 (ndY 5 0 wR3))) (x_loadA (x := ndY 5 0 wR3) (y := ndY 5 0 wR3) rfl rfl (by kernel_rfl) (by kernel_rfl) m11.cel (i := 0) (by omega) (by omega) (fun j _ => by rw [Nat.zero_add])) (Fx.L.bslice (vs := [(0, .agg (Fx.varr 56 (ndY 5 0 wR3)))]) (s := 56) (zc := fun zq => if zq < 2 then .int .u64 (0) else .int .i64 (0)) (y := Fx.ovr (fun j => (fun zq => if zq < 2 then .int .u64 (0) else .int .i64 (0)) (j % 56)) (0 * 56) 56 (ndY 5 0 wR3)) (by rfl) rfl rfl Try.underlying40 (by kernel_rfl) (by rfl) (by rfl) (by kernel_rfl) (by rw [Fx.fill_step (off := 0 * 56) (s := 56) (y := ndY 5 0 wR3) rfl (Fx.cells_agg _ _) (by rfl)]; rfl) rfl fun g3 w6 eg3 m12 s6 z6 => ?_))))
 have m13 := m10.stp s6 (Nat.ne_of_lt (m10.lt))
 have b6 := s6.below b5 b5.size b5.size
 have lg3 : w.heap.size ≤ g3 := by rw [eg3]; exact b5.size
 have ng3m13 : g1 ≠ g3 := by rw [eg3]; exact Nat.ne_of_lt (m10.lt)
 have ng3m14 : g2 ≠ g3 := by rw [eg3]; exact Nat.ne_of_lt (m11.lt)
 have tg3 : g3 < w6.heap.size := m12.lt
 clear eg3
 refine Fx.L.app (B := w.heap.size) (s := 56) (bytes := 448) (k := 0) (m := 1) (v := .slice none 0 0) (x := fun _ => undef) (by rfl) rfl rfl rfl Try.underlying40 (by kernel_rfl) (by kernel_rfl) rfl rfl (Fx.Own.nil w6 w.heap.size 50 56 (fun _ => undef)) m12.cel (ovr_one (ndY_one' _ _ _)) (by omega) (by omega) (by omega) b6.size fun g4 cap1 w7 ho1 hg1 hgv1 hlt1 => ?_
 have hct3 := Fx.ChT.of_grown hg1 (Fx.Own.nil w6 w.heap.size 50 56 (fun _ => undef))
 have m16 := m13.chT hct3 (by decide)
 have hq1 : Below w6.heap.size w6 w7 := ⟨hg1.os, hg1.tape, hg1.output, hg1.size, fun q hq => hg1.block q hq (fun e => by cases e)⟩
 have m15 : Fx.Own w7 w.heap.size 50 56 (.slice (some ⟨g4, 0, none⟩) 1 cap1) 1 (Fx.flat 56 (fun _ => ndY 5 0 wR3)) := (ho1.congr (fun j hj => wk3_app j hj))
 have b7 : Below w.heap.size w w7 := Fx.Below.grow b6 hg1 b6.size (fun q hq => ((Fx.Own.nil w6 w.heap.size 50 56 (fun _ => undef)).ge hq).1)
 refine Fx.L.v (.pointer (some ⟨g1, 18, none⟩)) (x_field rfl rfl Try.underlying43 rfl (s := 1) (by kernel_rfl) rfl (by show _ + 18 = _; omega)) (Fx.L.store1 (x := Fx.ovr (fun zq => if zq < 12 then .bool false else if zq < 18 then .int .u64 (0) else .slice none 0 0) 0 6 (Fx.ovr (Fx.ovr (fun _ => .bool false) 0 1 (fun _ => .bool true)) 1 1 (fun _ => .bool true))) (u := .slice (some ⟨g4, 0, none⟩) (1) (cap1)) (by rfl) rfl rfl rfl rfl (by rfl) (by kernel_rfl) m16 (i := 18) (by omega) fun w8 m18 s7 z7 => ?_)
 have hct4 := Fx.ChT.of_stp s7 m16.ty
 have m20 := m15.chT hct4 (by decide)
 have b8 := s7.below b7 b7.size (by omega)
 refine Fx.L.nil (Fx.seqN (Fx.W.seq ?_))
 have m21 : Fx.Blk w8 g1 20 (stY (wst g4 cap1)) 43 := m18.congr (fun j hj => by rcases j with _|_|_|_|_|_|_|_|_|_|_|_|_|_|_|_|_|_|_|_|j <;> first | rfl | omega)
 refine Fx.W.list (Fx.L.v (.agg (Fx.varr 20 (stY (wst g4 cap1)))) (x_loadA (x := stY (wst g4 cap1)) (y := stY (wst g4 cap1)) rfl rfl (by kernel_rfl) (by kernel_rfl) m21.cel (i := 0) (by omega) (by omega) (fun j _ => by rw [Nat.zero_add])) (Fx.L.call (by rfl) (Fx.r_call (args := [.agg (Fx.varr 20 (stY (wst g4 cap1))), .int .i64 (2), .int .u64 (5), .int .i64 (4)]) rfl rfl Try.func59 rfl rfl) rfl ((w33_g4 g4 cap1 _ (m20.arr)).mono ?_)))
 rintro e9 w9 ⟨vg, he, hOg, hbg⟩
 obtain ⟨ag, cg, rfl⟩ := hOg.val
 refine ⟨_, he, ?_⟩
 clear he
 have s8 := Fx.Stp.of_below hbg
 have m23 := m20.stpB s8 (Nat.ne_of_lt (m20.lt))
 have m24 := m21.stp s8 (Nat.ne_of_lt (m21.lt))
 have b9 := s8.below b8 b8.size b8.size
 refine Fx.L.v (.tuple #[.slice ag (1) (cg), .int .i64 (0)]) (x_move rfl rfl) (Fx.L.v (.slice ag (1) (cg)) (Fx.x_extract rfl rfl rfl) (Fx.L.v (.int .i64 (0)) (Fx.x_extract rfl rfl rfl) (Fx.L.v (.slice ag (1) (cg)) (x_assign rfl rfl) (Fx.L.v (.int .i64 (0)) (x_assign rfl rfl) (Fx.L.nil (Fx.seqN (Fx.W.seq (Fx.W.list (Fx.L.v (.agg (Fx.varr 20 (stY (wst g4 cap1)))) (x_loadA (x := stY (wst g4 cap1)) (y := stY (wst g4 cap1)) rfl rfl (by kernel_rfl) (by kernel_rfl) m24.cel (i := 0) (by omega) (by omega) (fun j _ => by rw [Nat.zero_add])) (Fx.L.call (by rfl) (Fx.r_call (args := [.agg (Fx.varr 20 (stY (wst g4 cap1))), .int .i64 (2), .int .u64 (5), .int .i64 (11)]) rfl rfl Try.func59 rfl rfl) rfl ((w33_g11 g4 cap1 _ (m23.arr)).mono ?_)))))))))))
 rintro e w10 ⟨he, hb1⟩
 refine ⟨.tuple #[.slice none 0 0, .int .i64 (11)], by rw [he], ?_⟩
 clear he
 have s9 := Fx.Stp.of_below hb1
 have m26 := m23.stpB s9 (Nat.ne_of_lt (m23.lt))
 have m27 := m24.stp s9 (Nat.ne_of_lt (m24.lt))
 have m28 := hOg.stp s9 (hOg.notNew (Nat.le_refl _))
 have b10 := s9.below b9 b9.size b9.size
 refine Fx.L.v (.tuple #[.slice none 0 0, .int .i64 (11)]) (x_move rfl rfl) (Fx.L.v (.slice none 0 0) (Fx.x_extract rfl rfl rfl) (Fx.L.v (.int .i64 (11)) (Fx.x_extract rfl rfl rfl) (Fx.L.v (.slice none 0 0) (x_assign rfl rfl) (Fx.L.v (.int .i64 (11)) (x_assign rfl rfl) (Fx.L.nil (Fx.seqN (Fx.W.seq (Fx.W.list (Fx.L.v (.slice ag (1) (cg)) (x_move rfl rfl) (Fx.L.call (by rfl) (Fx.r_call (args := [.slice ag (1) (cg), .int .i64 (1), .int .i64 (2)]) rfl rfl Try.func60 rfl rfl) rfl ((w33_asks ag cg _ m28.arr).mono ?_)))))))))))
 rintro e9 w11 ⟨va, he, hOa, hba⟩
 obtain ⟨aa, ca, rfl⟩ := hOa.val
 refine ⟨_, he, ?_⟩
 clear he
 have s10 := Fx.Stp.of_below hba
 have m30 := m26.stpB s10 (Nat.ne_of_lt (m26.lt))
 have m31 := m27.stp s10 (Nat.ne_of_lt (m27.lt))
 have m32 := m28.stp s10 (m28.notNew (Nat.le_refl _))
 have b11 := s10.below b10 b10.size b10.size
 refine Fx.L.v (.slice aa (1) (ca)) (x_assign rfl rfl) (Fx.L.nil (Fx.seqN (Fx.W.seq (Fx.W.list (Fx.L.v (.agg (Fx.varr 20 (stY (wst g4 cap1)))) (x_loadA (x := stY (wst g4 cap1)) (y := stY (wst g4 cap1)) rfl rfl (by kernel_rfl) (by kernel_rfl) m31.cel (i := 0) (by omega) (by omega) (fun j _ => by rw [Nat.zero_add])) (Fx.L.call (by rfl) (Fx.r_call (args := [.agg (Fx.varr 20 (stY (wst g4 cap1))), .int .u64 (5)]) rfl rfl Try.func55 rfl rfl) rfl ((w33_all g4 cap1 _ (m30.arr)).mono ?_)))))))
 rintro e w12 ⟨he, hb2⟩
 refine ⟨.int .i64 (10), by rw [he], ?_⟩
 clear he
 have s11 := Fx.Stp.of_below hb2
 have m34 := m30.stpB s11 (Nat.ne_of_lt (m30.lt))
 have m35 := m31.stp s11 (Nat.ne_of_lt (m31.lt))
 have m36 := m32.stp s11 (m32.notNew (Nat.le_refl _))
 have m37 := hOa.stp s11 (hOa.notNew (Nat.le_refl _))
 have b12 := s11.below b11 b11.size b11.size
 refine Fx.L.v (.bool true) (x_eqlT rfl rfl rfl rfl) (Fx.L.v (.bool true) (x_move rfl rfl) (Fx.L.v (.agg (Fx.varr 20 (stY (wst g4 cap1)))) (x_loadA (x := stY (wst g4 cap1)) (y := stY (wst g4 cap1)) rfl rfl (by kernel_rfl) (by kernel_rfl) m35.cel (i := 0) (by omega) (by omega) (fun j _ => by rw [Nat.zero_add])) (Fx.L.call (by rfl) (Fx.r_call (args := [.agg (Fx.varr 20 (stY (wst g4 cap1))), .int .i64 (2), .int .u64 (5)]) rfl rfl Try.func56 rfl rfl) rfl ((w33_own g4 cap1 1 0 _ (m34.arr) (by decide) (by kernel_rfl) wk3_own.2).mono ?_))))
 rintro e w13 ⟨he, hb3⟩
 refine ⟨.int .i64 (0), by rw [he], ?_⟩
 clear he
 have s12 := Fx.Stp.of_below hb3
 have m39 := m34.stpB s12 (Nat.ne_of_lt (m34.lt))
 have m40 := m35.stp s12 (Nat.ne_of_lt (m35.lt))
 have m41 := m36.stp s12 (m36.notNew (Nat.le_refl _))
 have m42 := m37.stp s12 (m37.notNew (Nat.le_refl _))
 have b13 := s12.below b12 b12.size b12.size
 refine Fx.L.v (.bool true) (x_eqlT rfl rfl rfl rfl) (Fx.L.v (.bool true) (x_pickT rfl rfl rfl) (Fx.L.v (.bool true) (x_move rfl rfl) (Fx.L.v (.agg (Fx.varr 20 (stY (wst g4 cap1)))) (x_loadA (x := stY (wst g4 cap1)) (y := stY (wst g4 cap1)) rfl rfl (by kernel_rfl) (by kernel_rfl) m40.cel (i := 0) (by omega) (by omega) (fun j _ => by rw [Nat.zero_add])) (Fx.L.call (by rfl) (Fx.r_call (args := [.agg (Fx.varr 20 (stY (wst g4 cap1))), .int .i64 (1), .int .u64 (5)]) rfl rfl Try.func56 rfl rfl) rfl ((w33_own g4 cap1 0 10 _ (m39.arr) (by decide) (by kernel_rfl) wk3_own.1).mono ?_)))))
 rintro e w14 ⟨he, hb4⟩
 refine ⟨.int .i64 (10), by rw [he], ?_⟩
 clear he
 have s13 := Fx.Stp.of_below hb4
 have m46 := m41.stp s13 (m41.notNew (Nat.le_refl _))
 have m47 := m42.stp s13 (m42.notNew (Nat.le_refl _))
 have b14 := s13.below b13 b13.size b13.size
 refine Fx.L.v (.bool true) (x_eqlT rfl rfl rfl rfl) (Fx.L.v (.bool true) (x_pickT rfl rfl rfl) (Fx.L.v (.bool true) (x_move rfl rfl) (Fx.L.v (.int .i64 (0)) (x_move rfl rfl) (Fx.L.v (.bool true) (x_eqlT rfl rfl rfl rfl) (Fx.L.v (.bool true) (x_pickT rfl rfl rfl) (Fx.L.v (.bool true) (x_move rfl rfl) (Fx.L.v (.slice ag (1) (cg)) (x_move rfl rfl) (Fx.L.v (.int .i64 (1)) (x_len rfl rfl rfl (by kernel_rfl)) (Fx.L.v (.bool true) (x_eqlT rfl rfl rfl rfl) (Fx.L.v (.bool true) (x_pickT rfl rfl rfl) (Fx.L.v (.bool true) (x_move rfl rfl) (Fx.L.v (.slice ag (1) (cg)) (x_move rfl rfl) ?_))))))))))))
 obtain ⟨gq1, eq1⟩ := m46.addr (by omega)
 have m48 : Fx.Own w14 w8.heap.size 122 3 (.slice (some ⟨gq1, 0, none⟩) 1 cg) 1 (gfX [wgf]) := m46.congV (congrArg (fun q => Value.slice q 1 cg) eq1)
 refine Fx.L.v (.pointer (some ⟨gq1, 0, none⟩)) (x_indexS rfl (rfl.trans (congrArg (fun q => Value.slice q (1) (cg)) eq1)) rfl Try.underlying117 (s := 3) (by kernel_rfl) (by omega) (by omega) (by omega)) (Fx.L.v (.agg (Fx.varr 3 (gfY ([wgf].getD 0 gf0)))) (x_loadA (x := gfX [wgf]) (y := gfY ([wgf].getD 0 gf0)) rfl rfl (by kernel_rfl) (by kernel_rfl) m48.cel (i := 0) (by omega) (by omega) (fun jq hjq => Fx.flat_at (k := 0) (by omega) hjq)) (Fx.L.v (.agg (Fx.varr 3 (Fx.ovr (Fx.ovr (Fx.ovr (fun zq => if zq < 1 then .int .i64 (0) else if zq < 2 then .int .u64 (0) else .int .i64 (0)) 0 1 (fun _ => .int .i64 (1))) 1 1 (fun _ => .int .u64 (5))) 2 1 (fun _ => .int .i64 (4))))) (x_build (vs := [(0, .int .i64 (1)), (1, .int .u64 (5)), (2, .int .i64 (4))]) (places := #[(0, 1), (1, 1), (2, 1)]) (m := 3) (x := fun zq => if zq < 1 then .int .i64 (0) else if zq < 2 then .int .u64 (0) else .int .i64 (0)) rfl rfl Try.underlying122 (by kernel_rfl) (by kernel_rfl) (by rw [Fx.fill_step (off := 0) (s := 1) (y := fun _ => .int .i64 (1)) (by kernel_rfl) (Fx.cells_one (by rfl)) (by rfl)]; rw [Fx.fill_step (off := 1) (s := 1) (y := fun _ => .int .u64 (5)) (by kernel_rfl) (Fx.cells_one (by rfl)) (by rfl)]; rw [Fx.fill_step (off := 2) (s := 1) (y := fun _ => .int .i64 (4)) (by kernel_rfl) (Fx.cells_one (by rfl)) (by rfl)]; rfl)) (Fx.L.v (.bool true) (Fx.x_eqlA (n := 3) (ks := [(some .i64), (some .u64), (some .i64)]) (X := gfY ([wgf].getD 0 gf0)) (Y := Fx.ovr (Fx.ovr (Fx.ovr (fun zq => if zq < 1 then .int .i64 (0) else if zq < 2 then .int .u64 (0) else .int .i64 (0)) 0 1 (fun _ => .int .i64 (1))) 1 1 (fun _ => .int .u64 (5))) 2 1 (fun _ => .int .i64 (4))) 12 true rfl rfl rfl (Fx.yesb (fun i hi => by rcases i with _|_|_|i <;> first | rfl | omega)) (kd_congr (kd_gf ⟨by decide, by decide⟩ ⟨by decide, by decide⟩ ⟨by decide, by decide⟩ : Fx.Kd _ (gfY wgf)) (fun i hi => by rcases i with _|_|_|i <;> first | rfl | exact absurd hi (by simp))) (kd_congr (kd_gf ⟨by decide, by decide⟩ ⟨by decide, by decide⟩ ⟨by decide, by decide⟩ : Fx.Kd _ (gfY wgf)) (fun i hi => by rcases i with _|_|_|i <;> first | rfl | exact absurd hi (by simp))) rfl (by kernel_rfl) (by kernel_rfl) (by kernel_rfl) (by kernel_rfl) (by kernel_rfl)) (Fx.L.v (.bool true) (x_pickT rfl rfl rfl) (Fx.L.v (.bool true) (x_move rfl rfl) (Fx.L.v (.int .i64 (11)) (x_move rfl rfl) (Fx.L.v (.bool true) (x_eqlT rfl rfl rfl rfl) (Fx.L.v (.bool true) (x_pickT rfl rfl rfl) (Fx.L.v (.bool true) (x_move rfl rfl) (Fx.L.v (.slice aa (1) (ca)) (x_move rfl rfl) (Fx.L.v (.int .i64 (1)) (x_len rfl rfl rfl (by kernel_rfl)) (Fx.L.v (.bool true) (x_eqlT rfl rfl rfl rfl) (Fx.L.v (.bool true) (x_pickT rfl rfl rfl) (Fx.L.v (.bool true) (x_move rfl rfl) (Fx.L.v (.slice aa (1) (ca)) (x_move rfl rfl) ?_)))))))))))))))
 obtain ⟨gq2, eq2⟩ := m47.addr (by omega)
 have m49 : Fx.Own w14 w10.heap.size 116 6 (.slice (some ⟨gq2, 0, none⟩) 1 ca) 1 (asX [wak]) := m47.congV (congrArg (fun q => Value.slice q 1 ca) eq2)
 refine Fx.L.v (.pointer (some ⟨gq2, 0, none⟩)) (x_indexS rfl (rfl.trans (congrArg (fun q => Value.slice q (1) (ca)) eq2)) rfl Try.underlying76 (s := 6) (by kernel_rfl) (by omega) (by omega) (by omega)) (Fx.L.v (.agg (Fx.varr 6 (askY ([wak].getD 0 ask0)))) (x_loadA (x := asX [wak]) (y := askY ([wak].getD 0 ask0)) rfl rfl (by kernel_rfl) (by kernel_rfl) m49.cel (i := 0) (by omega) (by omega) (fun jq hjq => Fx.flat_at (k := 0) (by omega) hjq)) (Fx.L.v (.agg (Fx.varr 6 (Fx.ovr (Fx.ovr (Fx.ovr (Fx.ovr (fun zq => if zq < 1 then .int .u8 (0) else if zq < 2 then .int .u64 (0) else if zq < 4 then .int .i64 (0) else .int .u64 (0)) 0 1 (fun _ => .int .u8 (5))) 1 1 (fun _ => .int .u64 (5))) 3 1 (fun _ => .int .i64 (4))) 2 1 (fun _ => .int .i64 (2))))) (x_build (vs := [(0, .int .u8 (5)), (1, .int .u64 (5)), (3, .int .i64 (4)), (2, .int .i64 (2))]) (places := #[(0, 1), (1, 1), (2, 1), (3, 1), (4, 1), (5, 1)]) (m := 6) (x := fun zq => if zq < 1 then .int .u8 (0) else if zq < 2 then .int .u64 (0) else if zq < 4 then .int .i64 (0) else .int .u64 (0)) rfl rfl Try.underlying116 (by kernel_rfl) (by kernel_rfl) (by rw [Fx.fill_step (off := 0) (s := 1) (y := fun _ => .int .u8 (5)) (by kernel_rfl) (Fx.cells_one (by rfl)) (by rfl)]; rw [Fx.fill_step (off := 1) (s := 1) (y := fun _ => .int .u64 (5)) (by kernel_rfl) (Fx.cells_one (by rfl)) (by rfl)]; rw [Fx.fill_step (off := 3) (s := 1) (y := fun _ => .int .i64 (4)) (by kernel_rfl) (Fx.cells_one (by rfl)) (by rfl)]; rw [Fx.fill_step (off := 2) (s := 1) (y := fun _ => .int .i64 (2)) (by kernel_rfl) (Fx.cells_one (by rfl)) (by rfl)]; rfl)) (Fx.L.v (.bool true) (Fx.x_eqlA (n := 6) (ks := [(some .u8), (some .u64), (some .i64), (some .i64), (some .u64), (some .u64)]) (X := askY ([wak].getD 0 ask0)) (Y := Fx.ovr (Fx.ovr (Fx.ovr (Fx.ovr (fun zq => if zq < 1 then .int .u8 (0) else if zq < 2 then .int .u64 (0) else if zq < 4 then .int .i64 (0) else .int .u64 (0)) 0 1 (fun _ => .int .u8 (5))) 1 1 (fun _ => .int .u64 (5))) 3 1 (fun _ => .int .i64 (4))) 2 1 (fun _ => .int .i64 (2))) 12 true rfl rfl rfl (Fx.yesb (fun i hi => by rcases i with _|_|_|_|_|_|i <;> first | rfl | omega)) (kd_congr (kd_ask ⟨by decide, ⟨by decide, by decide⟩, ⟨by decide, by decide⟩, ⟨by decide, by decide⟩, ⟨by decide, by decide⟩, ⟨by decide, by decide⟩⟩ : Fx.Kd _ (askY wak)) (fun i hi => by rcases i with _|_|_|_|_|_|i <;> first | rfl | exact absurd hi (by simp))) (kd_congr (kd_ask ⟨by decide, ⟨by decide, by decide⟩, ⟨by decide, by decide⟩, ⟨by decide, by decide⟩, ⟨by decide, by decide⟩, ⟨by decide, by decide⟩⟩ : Fx.Kd _ (askY wak)) (fun i hi => by rcases i with _|_|_|_|_|_|i <;> first | rfl | exact absurd hi (by simp))) rfl (by kernel_rfl) (by kernel_rfl) (by kernel_rfl) (by kernel_rfl) (by kernel_rfl)) (Fx.L.v (.bool true) (x_pickT rfl rfl rfl) (Fx.L.v (.bool true) (x_assign rfl rfl) (Fx.L.nil (Fx.seqN (Fx.W.ret (⟨.bool true, Fx.retV1 Try.results53 (by exact rfl), ?_⟩)))))))))
 exact ⟨rfl, b14⟩
theorem l_newWorld2 (n : Nat) (m : Int) (w : World) (hm : m = (n : Int)) (hn1 : 1 ≤ n) (hn6 : n ≤ 6) :
    Calls Try.prog 22 #[.int .i64 m] w fun e w' => ∃ p M, e = .returned (.pointer (some ⟨p, 0, none⟩)) ∧ M.n = n ∧ M.an = 0 ∧ WldO w' w.heap.size p M 0 ∧ Below w.heap.size w w' := by
  subst hm; exact l_newWorld n w hn1 hn6
theorem bchB {B : Nat} {w0 w1 w2 : World} (h : Below w0.heap.size w0 w1) (hb : Below B w1 w2) (hB : w0.heap.size ≤ B) : Below w0.heap.size w0 w2 := h.trans (hb.mono hB)
theorem l_doY (M : WM) (B p T : Nat) (x : ActM) (y : Nat → Value) (w : World) (hW : WldO w B p M T) (hB : B ≤ w.heap.size) (hx : ActOk x) (han : M.an ≤ 60) (hT : T ≤ 890000) (hy : ∀ j, j < 9 → y j = actY x j) :
    Calls Try.prog 23 #[.pointer (some ⟨p, 0, none⟩), .agg (Fx.varr 9 y)] w fun e w' => (∃ v, e = .returned v) ∧ ∃ M', WldO w' B p M' (T + 3660) ∧ M'.n = M.n ∧ M'.an ≤ M.an + 1 ∧ (x.meet = true → M'.an = M.an) ∧ Below B w w' := by
  rw [Fx.varr_congr hy]; exact l_doM M B p T x w hW hB hx han hT
set_option maxRecDepth 20000 in
set_option maxHeartbeats 1000000 in
theorem r33_met (rb : Nat) (aa0 : Option Addr) (na ca : Nat) (xa : Nat → ActM) (w : World) (hrb : rb ≤ 255) (hna : na ≤ 60) (hxa : ∀ k, k < na → ActOk (xa k)) (hacts : Fx.Arr w aa0 na 9 (Fx.flat 9 fun k => actY (xa k))) :
    Calls Try.prog 54 #[.int .u8 ((rb : Int)), .slice aa0 (na) (ca)] w fun e w' => ∃ pw M T p0 m0, e = .returned (.tuple #[.pointer (some ⟨p0, 0, none⟩), .pointer (some ⟨pw, 0, none⟩)]) ∧ WldO w' w.heap.size pw M T ∧ LdO w' w.heap.size p0 m0 ∧ Inv m0.core T ∧ T ≤ 250000 ∧ M.an ≤ 60 ∧ Below w.heap.size w w' := by
 refine Fx.enter Try.func54 rfl (n := 47) rfl (by rfl) ?_
 refine Fx.W.seq (Fx.W.list (Fx.L.v (.pointer none) (x_assign rfl rfl) (Fx.L.v (.pointer none) (x_assign rfl rfl) (Fx.L.nil (Fx.seqN (Fx.W.seq ?_))))))
 obtain ⟨rn, ern⟩ : ∃ r, r = rb % 6 := ⟨_, rfl⟩
 have hrn : rn < 6 := by rw [ern]; exact Nat.mod_lt _ (by omega)
 refine Fx.W.list (Fx.L.v (.int .u8 ((rb : Int))) (x_move rfl rfl) (Fx.L.v (.int .i64 ((rb : Int))) (x_conv rfl rfl (by kernel_rfl) Try.underlying3 (Fx.i64e (by omega) rfl)) (Fx.L.v (.int .i64 ((rn : Int))) (Fx.x_rem rfl rfl rfl (by omega) (remL ern)) (Fx.L.v (.int .i64 ((rn : Int) + 1)) (Fx.x_add rfl rfl rfl (Fx.i64e (by omega) (by omega))) (Fx.L.call (by rfl) (Fx.r_call (args := [.int .i64 ((rn : Int) + 1)]) rfl rfl Try.func22 rfl rfl) rfl ((l_newWorld2 (rn + 1) _ _ (by omega) (by omega) (by omega)).mono ?_))))))
 rintro e9 w1 ⟨pw, M0, he, hMn, hMa, hW0, hbw⟩
 refine ⟨.pointer (some ⟨pw, 0, none⟩), he, ?_⟩
 clear he
 have sB := (Below.refl w.heap.size w).size
 have s1 := Fx.Stp.of_below hbw
 have b1 := s1.below (Below.refl w.heap.size w) (Below.refl w.heap.size w).size (Below.refl w.heap.size w).size
 have sW : w.heap.size ≤ w1.heap.size := hbw.size
 refine Fx.L.v (.pointer (some ⟨pw, 0, none⟩)) (x_assign rfl rfl) (Fx.L.nil (Fx.seqN (Fx.W.seq (Fx.W.seq (Fx.W.list (Fx.L.v (.int .i64 (0)) (x_assign rfl rfl) (Fx.L.nil (Fx.seqN (Fx.W.block (Fx.W.loop (fun f w_ => ∃ k : Nat, ∃ M9 : WM, ∃ T9 : Nat, k ≤ na ∧ T9 ≤ 3660 * k ∧ M9.n = M0.n ∧ M9.an ≤ k ∧ w.heap.size ≤ w_.heap.size ∧ f 1 = .slice aa0 (na) (ca) ∧ f 6 = .pointer (some ⟨pw, 0, none⟩) ∧ f 7 = .int .i64 ((k : Int)) ∧ WldO w_ w.heap.size pw M9 T9 ∧ Below w.heap.size w w_) (fun f _ => (na - (intOf (f 7)).toNat)) ⟨0, M0, 0, by omega, by omega, rfl, by omega, sW, (by rfl), (by rfl), (by first | rfl | exact congrArg (Value.int .i64) (by omega)), hW0, b1⟩ ?_))))))))))
 rintro f1 w2 ⟨k, M9, T9, hk, hTk, hMn9, hMa9, sWk, h1, h2, h3, m1, b2⟩
 refine Fx.W.seq (Fx.W.seq (Fx.W.list (Fx.L.v (.int .i64 ((k : Int))) (x_move rfl h3) (Fx.L.v (.slice aa0 (na) (ca)) (x_move rfl h1) (Fx.L.v (.int .i64 ((na : Int))) (x_len rfl rfl rfl (by kernel_rfl)) ?_)))))
 by_cases c17 : (k : Int) < (na : Int)
 ·refine Fx.L.v (.bool true) (Fx.x_lssT rfl rfl rfl c17) (Fx.L.nil (Fx.seqN (Fx.W.cond (b := true) rfl (fun _ => Fx.W.skip (Fx.seqN (Fx.W.seq (Fx.W.block (Fx.W.list (Fx.L.v (.pointer (some ⟨pw, 0, none⟩)) (x_move rfl h2) ?_)))))) (fun h => nomatch h))))
  refine Fx.L.v (.slice aa0 (na) (ca)) (x_move rfl h1) (Fx.L.v (.int .i64 ((k : Int))) (x_move rfl h3) ?_)
  obtain ⟨bq1, oq1, eq1, m2⟩ := (hacts.up b2 rfl) (by omega)
  have lbq1 : bq1 < w2.heap.size := m2.lt (by omega)
  refine Fx.L.v (.pointer (some ⟨bq1, 9 * k + oq1, none⟩)) (x_indexS rfl (rfl.trans (congrArg (fun q => Value.slice q (na) (ca)) eq1)) rfl Try.underlying38 (s := 9) (by kernel_rfl) (by omega) (by omega) (by omega)) (Fx.L.v (.agg (Fx.varr 9 (actY (xa k)))) (x_loadA (x := Fx.flat 9 fun k => actY (xa k)) (y := actY (xa k)) rfl rfl (by kernel_rfl) (by kernel_rfl) m2 (i := 9 * k) (by omega) (by omega) (fun jq hjq => Fx.flat_at (k := k) (by omega) hjq)) (Fx.L.call (by rfl) (Fx.r_call (args := [.pointer (some ⟨pw, 0, none⟩), .agg (Fx.varr 9 (actY (xa k)))]) rfl rfl Try.func23 rfl rfl) rfl ((l_do M9 w.heap.size pw T9 (xa k) _ m1 sWk (hxa k (by omega)) (by omega) (by omega)).mono ?_)))
  rintro e9 w3 ⟨⟨v9, he⟩, M2, hW1, hM2n, hM2a, hb1⟩
  refine ⟨v9, he, ?_⟩
  clear he
  have b3 : Below w.heap.size w w3 := bchB b2 hb1 sB
  have sW1 : w.heap.size ≤ w3.heap.size := by have := hb1.size; omega
  have sWn : w.heap.size ≤ w3.heap.size := by have := hb1.size; omega
  refine Fx.L.nil (Fx.blkN (Fx.seqN (Fx.W.list (Fx.L.v (.int .i64 ((k : Int))) (x_move rfl h3) (Fx.L.v (.int .i64 ((k : Int) + 1)) (Fx.x_add rfl rfl rfl (Fx.i64e (by omega) (by omega))) (Fx.L.v (.int .i64 ((k : Int) + 1)) (x_assign rfl rfl) (Fx.L.nil (Fx.lpN ⟨k + 1, M2, (T9 + 3660), by omega, by omega, (hM2n.trans hMn9), by omega, sWn, h1, h2, (by first | rfl | exact congrArg (Value.int .i64) (by omega)), hW1, b3⟩ ?_))))))))
  show (na - (intOf ((.int .i64 ((k : Int) + 1)))).toNat) < _
  simp only [h3, intOf]; omega
 ·refine Fx.L.v (.bool false) (Fx.x_lssF rfl rfl rfl c17) (Fx.L.nil (Fx.seqN (Fx.W.cond (b := false) rfl (fun h => nomatch h) (fun _ => Fx.W.exit (Fx.seqX (Fx.lpX (Fx.blkX (Fx.seqN (Fx.W.seq (Fx.W.seq (Fx.W.list (Fx.L.v (.int .i64 (1)) (x_assign rfl rfl) (Fx.L.nil (Fx.seqN (Fx.W.block ?_)))))))))))))))
  have hM91 := m1.n1
  have hM96 := m1.n6
  refine Fx.W.loop (fun f w_ => ∃ i : Nat, ∃ M8 : WM, ∃ T8 : Nat, 1 ≤ i ∧ i ≤ M8.n ∧ T8 ≤ 3660 * (60 + i) ∧ M8.n ≤ 6 ∧ M8.an ≤ 60 ∧ w.heap.size ≤ w_.heap.size ∧ f 6 = .pointer (some ⟨pw, 0, none⟩) ∧ f 8 = .int .i64 ((i : Int)) ∧ WldO w_ w.heap.size pw M8 T8 ∧ Below w.heap.size w w_) (fun f _ => (6 - (intOf (f 8)).toNat)) ⟨1, M9, T9, Nat.le_refl _, hM91, by omega, hM96, (by omega), sWk, h2, (by first | rfl | exact congrArg (Value.int .i64) (by omega)), m1, b2⟩ ?_
  rintro f2 w4 ⟨i, M8, T8, hi1, hi2, hTi, hMn8, hMa8, sWk2, h4, h5, m3, b4⟩
  refine Fx.W.seq (Fx.W.seq ?_)
  have hWc := m3.c
  have hWl := m3.l
  have hWa := m3.a
  have hWg := m3.g
  refine Fx.W.list (Fx.L.v (.int .i64 ((i : Int))) (x_move rfl h5) (Fx.L.v (.pointer (some ⟨pw, 0, none⟩)) (x_move rfl h4) (Fx.L.v (.pointer (some ⟨pw, 0, none⟩)) (x_nil rfl rfl) (Fx.L.v (.pointer (some ⟨pw, 0, none⟩)) (x_field rfl rfl Try.underlying63 rfl (s := 1) (by kernel_rfl) rfl rfl) (Fx.L.v (.slice M8.la (M8.n) (M8.lc)) (x_load1 (x := wdY (.slice M8.la (M8.n) (M8.lc)) (.slice M8.aa (M8.an) (M8.ac))) rfl rfl (by kernel_rfl) hWc.cel (i := 0) (by omega) (by omega) rfl) (Fx.L.v (.int .i64 ((M8.n : Int))) (x_len rfl rfl rfl (by kernel_rfl)) ?_))))))
  by_cases c32 : (i : Int) < (M8.n : Int)
  ·refine Fx.L.v (.bool true) (Fx.x_lssT rfl rfl rfl c32) (Fx.L.nil (Fx.seqN (Fx.W.cond (b := true) rfl (fun _ => Fx.W.skip (Fx.seqN (Fx.W.seq (Fx.W.block (Fx.W.list (Fx.L.v (.pointer (some ⟨pw, 0, none⟩)) (x_move rfl h4) ?_)))))) (fun h => nomatch h))))
   refine Fx.L.v (.int .i64 ((i : Int))) (x_move rfl h5) (Fx.L.v (.int .u8 ((i : Int))) (x_conv rfl rfl (by kernel_rfl) Try.underlying5 (Fx.u8e (by omega) rfl)) (Fx.L.v (.agg (Fx.varr 9 (Fx.ovr (Fx.ovr (fun zq => if zq < 1 then .int .u8 (0) else if zq < 2 then .bool false else if zq < 6 then .int .u8 (0) else if zq < 7 then .int .u16 (0) else .int .u8 (0)) 1 1 (fun _ => .bool true)) 2 1 (fun _ => .int .u8 ((i : Int)))))) (x_build (vs := [(1, .bool true), (2, .int .u8 ((i : Int)))]) (places := #[(0, 1), (1, 1), (2, 1), (3, 1), (4, 1), (5, 1), (6, 1), (7, 1), (8, 1)]) (m := 9) (x := fun zq => if zq < 1 then .int .u8 (0) else if zq < 2 then .bool false else if zq < 6 then .int .u8 (0) else if zq < 7 then .int .u16 (0) else .int .u8 (0)) rfl rfl Try.underlying58 (by kernel_rfl) (by kernel_rfl) (by rw [Fx.fill_step (off := 1) (s := 1) (y := fun _ => .bool true) (by kernel_rfl) (Fx.cells_one (by rfl)) (by rfl)]; rw [Fx.fill_step (off := 2) (s := 1) (y := fun _ => .int .u8 ((i : Int))) (by kernel_rfl) (Fx.cells_one (by rfl)) (by rfl)]; rfl)) (Fx.L.call (by rfl) (Fx.r_call (args := [.pointer (some ⟨pw, 0, none⟩), .agg (Fx.varr 9 (Fx.ovr (Fx.ovr (fun zq => if zq < 1 then .int .u8 (0) else if zq < 2 then .bool false else if zq < 6 then .int .u8 (0) else if zq < 7 then .int .u16 (0) else .int .u8 (0)) 1 1 (fun _ => .bool true)) 2 1 (fun _ => .int .u8 ((i : Int)))))]) rfl rfl Try.func23 rfl rfl) rfl ((l_doY M8 w.heap.size pw T8 ⟨0, true, i, 0, 0, 0, 0, 0, 0⟩ _ _ m3 sWk2 ⟨Nat.zero_le _, by show i ≤ 255; omega, Nat.zero_le _, Nat.zero_le _, Nat.zero_le _, Nat.zero_le _, Nat.zero_le _, Nat.zero_le _⟩ (by omega) (by omega) (fun j hj => by rcases j with _|_|_|_|_|_|_|_|_|j <;> first | rfl | omega)).mono ?_))))
   rintro e9 w5 ⟨⟨v9, he⟩, M2, hW2, hM2n, _, hM2a, hb2⟩
   have hM2a := hM2a rfl
   refine ⟨v9, he, ?_⟩
   clear he
   have b5 : Below w.heap.size w w5 := bchB b4 hb2 sB
   have sWn : w.heap.size ≤ w5.heap.size := by have := hb2.size; omega
   refine Fx.L.nil (Fx.blkN (Fx.seqN (Fx.W.list (Fx.L.v (.int .i64 ((i : Int))) (x_move rfl h5) (Fx.L.v (.int .i64 ((i : Int) + 1)) (Fx.x_add rfl rfl rfl (Fx.i64e (by omega) (by omega))) (Fx.L.v (.int .i64 ((i : Int) + 1)) (x_assign rfl rfl) (Fx.L.nil (Fx.lpN ⟨i + 1, M2, (T8 + 3660), by omega, by omega, by omega, (by omega), (by omega), sWn, h4, (by first | rfl | exact congrArg (Value.int .i64) (by omega)), hW2, b5⟩ ?_))))))))
   show (6 - (intOf ((.int .i64 ((i : Int) + 1)))).toNat) < _
   simp only [h5, intOf]; omega
  ·refine Fx.L.v (.bool false) (Fx.x_lssF rfl rfl rfl c32) (Fx.L.nil (Fx.seqN (Fx.W.cond (b := false) rfl (fun h => nomatch h) (fun _ => Fx.W.exit (Fx.seqX (Fx.lpX (Fx.blkX (Fx.seqN (Fx.W.seq ?_)))))))))
   have hn1 := m3.n1
   refine Fx.W.list (Fx.L.v (.pointer (some ⟨pw, 0, none⟩)) (x_move rfl h4) (Fx.L.v (.pointer (some ⟨pw, 0, none⟩)) (x_nil rfl rfl) (Fx.L.v (.pointer (some ⟨pw, 0, none⟩)) (x_field rfl rfl Try.underlying63 rfl (s := 1) (by kernel_rfl) rfl rfl) (Fx.L.v (.slice M8.la (M8.n) (M8.lc)) (x_load1 (x := wdY (.slice M8.la (M8.n) (M8.lc)) (.slice M8.aa (M8.an) (M8.ac))) rfl rfl (by kernel_rfl) hWc.cel (i := 0) (by omega) (by omega) rfl) ?_))))
   obtain ⟨gq1, eq2⟩ := hWl.addr (by omega)
   have m4 : Fx.Own w4 w.heap.size 59 1 (.slice (some ⟨gq1, 0, none⟩) M8.n M8.lc) M8.n (ptX M8.pl) := hWl.congV (congrArg (fun q => Value.slice q M8.n M8.lc) eq2)
   refine Fx.L.v (.pointer (some ⟨gq1, 0, none⟩)) (x_indexS rfl (rfl.trans (congrArg (fun q => Value.slice q (M8.n) (M8.lc)) eq2)) rfl Try.underlying60 (s := 1) (by kernel_rfl) (by omega) (by omega) (by omega)) (Fx.L.v (.pointer (some ⟨(M8.pl 0), 0, none⟩)) (x_load1 (x := ptX M8.pl) rfl rfl (by kernel_rfl) m4.cel (i := 0) (by omega) (by omega) rfl) (Fx.L.v (.pointer (some ⟨pw, 0, none⟩)) (x_move rfl h4) (Fx.L.v (.pointer (some ⟨(M8.pl 0), 0, none⟩)) (x_assign rfl rfl) (Fx.L.v (.pointer (some ⟨pw, 0, none⟩)) (x_assign rfl rfl) (Fx.L.nil (Fx.seqN (Fx.W.ret (⟨.tuple #[.pointer (some ⟨(M8.pl 0), 0, none⟩), .pointer (some ⟨pw, 0, none⟩)], Fx.retV2 Try.results54 (by exact rfl) (by exact rfl), ?_⟩))))))))
   exact ⟨pw, M8, T8, M8.pl 0, M8.ml 0, rfl, m3, m3.g 0 m3.n1, m3.inv 0 m3.n1, by omega, hMa8, b4⟩
section
namespace Rt
def loAt (L : LdC) (x : Int) : Nat → Int := locI L.id L.nn L.R x
def pathN (L : LdC) (x : Int) : Nat := pathS L.id L.par L.nn x
def ndAt (L : LdC) (x : Int) (p : Nat) : Int := iterS L.id L.par L.nn p x
section
variable {L : LdC} {T a b : Nat} {x y : Int}
theorem L_le {r : Nat → Int} (h : may r = true) : ∀ k : Nat, k < 6 → 0 ≤ localV r ((k : Int) + 1) ∧ localV r ((k : Int) + 1) ≤ 1125899906842624 := fun k hk => by
  have h1 := (may_iff r).1 h
  have h2 := lsumV_eq h
  have a := h1.2.1
  have h3 : 0 ≤ uSum r := by
    have a0 := a 0 (by omega); have a1 := a 1 (by omega); have a2 := a 2 (by omega); have a3 := a 3 (by omega); have a4 := a 4 (by omega); have a5 := a 5 (by omega)
    unfold uSum; omega
  have e : ∀ k, k < 6 → lsumV r (k + 1) = lsumV r k + L r k := fun k hk => by rw [← localV_L h k hk]; rfl
  rw [e 5 (by omega), e 4 (by omega), e 3 (by omega), e 2 (by omega), e 1 (by omega), e 0 (by omega)] at h2
  have a0 := a 0 (by omega); have a1 := a 1 (by omega); have a2 := a 2 (by omega); have a3 := a 3 (by omega); have a4 := a 4 (by omega); have a5 := a 5 (by omega)
  have z : lsumV r 0 = 0 := rfl
  have hg := h1.2.2
  rw [localV_L h k hk]
  have : k = 0 ∨ k = 1 ∨ k = 2 ∨ k = 3 ∨ k = 4 ∨ k = 5 := by omega
  rcases this with rfl | rfl | rfl | rfl | rfl | rfl <;> omega
theorem first_nat {x : Int} (h : 0 ≤ firstS L.id L.nn x) : ∃ k : Nat, k < L.nn ∧ firstS L.id L.nn x = (k : Int) ∧ L.id k = x := first_ge h |>.imp fun k ⟨a, b, c⟩ => ⟨a, b, c⟩
theorem lo_ok (h : Inv0 L T) (hf : 0 ≤ firstS L.id L.nn x) : LoOk (loAt L x) := fun j hj => by
  obtain ⟨k, hk, e, _⟩ := first_nat hf
  have := L_le (h.may k hk) j hj
  unfold loAt locI
  rw [e]
  show 0 ≤ localV (L.R k) _ ∧ localV (L.R k) _ ≤ _
  omega
theorem nn_pos (hf : 0 ≤ firstS L.id L.nn x) : 0 < L.nn := by obtain ⟨k, hk, _⟩ := first_nat hf; omega
theorem path_T (h : Inv0 L T) (h0 : 0 < L.nn) : pathN L x = pathK L.t L.tn x ∧ pathN L x ≤ 4 ∧ firstS L.id L.nn (ndAt L x (pathN L x)) < 0 := by
  obtain ⟨D, hD, hD2⟩ := h.dep x
  obtain ⟨K, hK, hK2, hall⟩ := first_end D hD2
  have e1 : K = pathK L.t L.tn x := pathK_eq hall hK2 hD2 (by omega)
  have hn : ∀ z, firstS L.id L.nn z = findT L.t L.tn z := fun z => h.node z
  have e2 : K = pathS L.id L.par L.nn x := path_end (fun i hi => by rw [iter_eq h h0, hn]; exact hall i hi) (by rw [iter_eq h h0, hn]; exact hK2) (by omega)
  unfold pathN ndAt
  rw [← e2]
  exact ⟨e1, by omega, by rw [iter_eq h h0, hn]; exact hK2⟩
theorem nd_find {p : Nat} (hp : p < pathN L x) : 0 ≤ firstS L.id L.nn (ndAt L x p) := pathS_lt hp
theorem nd_shift (L : LdC) (x : Int) {p q : Nat} (e : ndAt L x p = ndAt L x q) : ∀ j, ndAt L x (p + j) = ndAt L x (q + j)
  | 0 => e
  | j + 1 => by
    show L.par (firstS L.id L.nn (ndAt L x (p + j))).toNat = L.par (firstS L.id L.nn (ndAt L x (q + j))).toNat
    rw [nd_shift L x e j]
theorem nd_lt (h : Inv0 L T) (h0 : 0 < L.nn) {p q : Nat} (hpq : p < q) (hq : q < pathN L x) : ndAt L x p ≠ ndAt L x q := fun e => by
  have h1 := nd_shift L x e (pathN L x - q)
  have h2 := (path_T (x := x) h h0).2.2
  rw [show q + (pathN L x - q) = pathN L x by omega] at h1
  rw [← h1] at h2
  have := nd_find (L := L) (x := x) (p := p + (pathN L x - q)) (by omega)
  omega
theorem nd_ne (h : Inv0 L T) (h0 : 0 < L.nn) {p q : Nat} (hp : p < pathN L x) (hq : q < pathN L x) (hne : p ≠ q) : ndAt L x p ≠ ndAt L x q := by
  rcases Nat.lt_or_gt_of_ne hne with h1 | h1
  · exact nd_lt h h0 h1 hq
  · exact fun e => nd_lt h h0 h1 hp e.symm
theorem known_bd (h : Inv L T) (hT : T ≤ 300000) (i : Nat) (hi : i < 6) : 0 ≤ L.known i ∧ L.known i ≤ 300000 := by
  have h1 := h.kn i hi
  have h2 := h.b.kt i hi
  omega
end
end Rt
end
section
namespace Rt
theorem leastI_le {f : Nat → Int} {z : Int} : ∀ P, z ≤ leastI f P ↔ z ≤ 1125899906842624 ∧ ∀ p, p < P → z ≤ f p
  | 0 => ⟨fun h => ⟨h, fun _ h => absurd h (Nat.not_lt_zero _)⟩, fun h => h.1⟩
  | P + 1 => by
    have ih := leastI_le (f := f) (z := z) P
    unfold leastI
    constructor
    · intro h
      have h2 : z ≤ leastI f P ∧ z ≤ f P := by split at h <;> omega
      obtain ⟨h3, h4⟩ := ih.1 h2.1
      exact ⟨h3, fun p hp => (Nat.lt_or_eq_of_le (Nat.le_of_lt_succ hp)).elim (h4 p) (fun e => by rw [e]; exact h2.2)⟩
    · rintro ⟨h3, h4⟩
      have h5 := ih.2 ⟨h3, fun p hp => h4 p (by omega)⟩
      have h6 := h4 P (by omega)
      split <;> omega
theorem leastV_le {f : Nat → Int} {P : Nat} {z : Int} (hP : 1 ≤ P) (h1 : 1 ≤ z) (h2 : z ≤ 1125899906842624) : z ≤ leastV f P ↔ ∀ p, p < P → z ≤ f p := by
  have h := leastI_le (f := f) (z := z) P
  unfold leastV
  rw [if_neg (by omega)]
  constructor
  · intro h3
    exact (h.1 (by split at h3 <;> omega)).2
  · intro h3
    have := h.2 ⟨h2, h3⟩
    split <;> omega
theorem leastV_top {f : Nat → Int} : ∀ {P : Nat}, leastV f P ≤ 1125899906842624 := fun {P} => by
  have h := (leastI_le (f := f) (z := leastI f P) P).1 (Int.le_refl _)
  unfold leastV; split
  · decide
  · split
    · decide
    · exact h.1
def sumS (s : StM) (l : Nat → Int) : Nat → Int
  | 0 => 0
  | k + 1 => sumS s l k + if isLive s k then l k else 0
theorem sumS_upd {s : StM} {l : Nat → Int} {b : Nat} {v : Int} : ∀ k, sumS s (upd l b v) k = sumS s l k + if b < k ∧ isLive s b = true then v - l b else 0
  | 0 => by unfold sumS; rw [if_neg (fun h => absurd h.1 (Nat.not_lt_zero _))]; rfl
  | k + 1 => by
    unfold sumS
    rw [sumS_upd k]
    show sumS s l k + (if b < k ∧ isLive s b = true then v - l b else 0) + (if isLive s k then (if k = b then v else l k) else 0) = sumS s l k + (if isLive s k then l k else 0) + (if b < k + 1 ∧ isLive s b = true then v - l b else 0)
    by_cases e : k = b
    · subst e
      rw [if_neg (show ¬ (k < k ∧ isLive s k = true) from fun h => absurd h.1 (Nat.lt_irrefl _))]
      cases hl : isLive s k with
      | true => rw [if_pos (show k < k + 1 ∧ true = true from ⟨Nat.lt_succ_self k, rfl⟩)]; simp only [if_true]; omega
      | false => rw [if_neg (show ¬ (k < k + 1 ∧ false = true) from fun h => by cases h.2)]; simp
    · rw [if_neg e]
      by_cases hb : b < k ∧ isLive s b = true
      · rw [if_pos hb, if_pos (show b < k + 1 ∧ isLive s b = true from ⟨by omega, hb.2⟩)]; omega
      · rw [if_neg hb, if_neg (show ¬ (b < k + 1 ∧ isLive s b = true) from fun h => hb ⟨by omega, h.2⟩)]; omega
theorem sumS_mv {s : StM} {l : Nat → Int} {a b : Nat} {am : Int} (hne : b ≠ a) (ha : a < 6) (hb : b < 6) (hla : isLive s a = true) (hlb : isLive s b = true) : sumS s (mvG l b a am) 6 = sumS s l 6 := by
  unfold mvG
  rw [sumS_upd, sumS_upd, if_pos (show a < 6 ∧ isLive s a = true from ⟨ha, hla⟩), if_pos (show b < 6 ∧ isLive s b = true from ⟨hb, hlb⟩), upd_other _ _ _ _ (fun h => hne h.symm)]; omega
section
variable {s : StM} {n a m : Nat} {y : Int} {l : Nat → Int}
theorem live_at {q : Nat} (hn : n = (liveN s 6).length) (hq : q < n) : ∃ b : Nat, b < 6 ∧ (liveN s 6).getD q 0 = (b : Int) + 1 ∧ isLive s b = true := by
  subst hn
  have h := (mem_live (s := s) 6).1 (ls_at hq)
  exact ⟨((liveN s 6).getD q 0 - 1).toNat, by omega, by omega, h.2.2⟩
theorem live_pos {b : Nat} (hn : n = (liveN s 6).length) (hb : b < 6) (hl : isLive s b = true) : ∃ q, q < n ∧ (liveN s 6).getD q 0 = (b : Int) + 1 := by
  subst hn
  have h : ((b : Int) + 1) ∈ liveN s 6 := (mem_live (s := s) 6).2 ⟨by omega, by omega, by rw [show ((b : Int) + 1 - 1).toNat = b by omega]; exact hl⟩
  obtain ⟨q, hq, e⟩ := List.getElem_of_mem h
  exact ⟨q, hq, by rw [List.getD_eq_getElem?_getD, List.getElem?_eq_getElem hq, e]; rfl⟩
theorem live_Iff {i : Nat} (hi : i < 6) : liveI s ((i : Int) + 1) = isLive s i := by
  unfold liveI; rw [decide_eq_true (by omega), decide_eq_true (by omega), show ((i : Int) + 1 - 1).toNat = i by omega]; rfl
theorem go_is (hn : n = (liveN s 6).length) (hg : goG (liveN s 6) n y a l m = true) : ∃ b : Nat, b < 6 ∧ b ≠ a ∧ isLive s b = true ∧ frG (liveN s 6) n a (itG (liveN s 6) n y a l m) = (b : Int) + 1 ∧ 0 < itG (liveN s 6) n y a l m b ∧ itG (liveN s 6) n y a l m a < y ∧
    itG (liveN s 6) n y a l (m + 1) = mvG (itG (liveN s 6) n y a l m) b a (gAmt (itG (liveN s 6) n y a l m) b a y) ∧ (∀ j, j < 6 → j ≠ a → isLive s j = true → itG (liveN s 6) n y a l m j ≤ itG (liveN s 6) n y a l m b) := by
  have hlv := live_ok s hn
  unfold goG at hg
  simp only [Bool.and_eq_true, Bool.not_eq_true', decide_eq_false_iff_not, decide_eq_true_eq] at hg
  have e0 : itG (liveN s 6) n y a l (m + 1) = stG (liveN s 6) n y a (itG (liveN s 6) n y a l m) := rfl
  rw [e0]
  generalize itG (liveN s 6) n y a l m = lm at hg ⊢
  obtain ⟨b, hb, e, hne, hp, q, hq, eq⟩ := fr_some hlv hg.2
  obtain ⟨b2, _, eb, hl⟩ := live_at hn hq
  obtain rfl : b2 = b := by omega
  refine ⟨b2, hb, hne, hl, e, hp, hg.1, ?_, fun j hj hja hlj => ?_⟩
  · unfold stG; rw [e, show ((b2 : Int) + 1 - 1).toNat = b2 by omega]
  · obtain ⟨q2, hq2, e2⟩ := live_pos hn hj hlj
    have := (gv_max (l := lm) (but := (a : Int) + 1) hlv n (Nat.le_refl _) q2 hq2 (by rw [e2]; omega)).2 hg.2
    rw [e2, show ((j : Int) + 1 - 1).toNat = j by omega] at this
    have e3 : gvN (liveN s 6) lm ((a : Int) + 1) n = (b2 : Int) + 1 := e
    rw [e3, show ((b2 : Int) + 1 - 1).toNat = b2 by omega] at this
    exact this
theorem it_inv (hn : n = (liveN s 6).length) (ha : a < 6) (hla : isLive s a = true) (hl : LoOk l) (hy : y ≤ 1125899906842624) : ∀ m, (∀ q, q < m → goG (liveN s 6) n y a l q = true) →
    LoOk (itG (liveN s 6) n y a l m) ∧ sumS s (itG (liveN s 6) n y a l m) 6 = sumS s l 6 ∧ (0 < m → itG (liveN s 6) n y a l m a ≤ y) ∧ l a ≤ itG (liveN s 6) n y a l m a
  | 0, _ => ⟨hl, rfl, fun h => absurd h (Nat.lt_irrefl _), Int.le_refl _⟩
  | m + 1, hg => by
    obtain ⟨i1, i2, i3, i4⟩ := it_inv hn ha hla hl hy m fun q hq => hg q (by omega)
    have hok := it_ok (live_ok s hn) ha hl hy (m + 1) hg
    obtain ⟨b, hb, hne, hlb, e, hp, hlt, enx, _⟩ := go_is hn (hg m (Nat.lt_succ_self m))
    have hgb := gAmt_bd (b := b) hlt hp
    refine ⟨hok, ?_, fun _ => ?_, ?_⟩
    · rw [enx, sumS_mv hne ha hb hla hlb, i2]
    · rw [enx, mvG_at hne, if_pos rfl]; omega
    · rw [enx, mvG_at hne, if_pos rfl]; omega
theorem cnt_zero (hn : n = (liveN s 6).length) (ha : a < 6) (hk : okG (liveN s 6) n y a l = true) : cntG (liveN s 6) n y a l = 0 ↔ y ≤ l a := by
  obtain ⟨c1, c2, c3⟩ := cnt_go (y := y) (l := l) (live_ok s hn) ha
  constructor
  · intro h
    unfold okG at hk
    rw [h] at hk
    exact of_decide_eq_true hk
  · intro h
    rcases Nat.eq_zero_or_pos (cntG (liveN s 6) n y a l) with e | e
    · exact e
    · have := c2 0 e
      unfold goG at this
      rw [show itG (liveN s 6) n y a l 0 a = l a from rfl, decide_eq_false (by omega)] at this
      cases this
theorem end_at (hn : n = (liveN s 6).length) (ha : a < 6) (hla : isLive s a = true) (hl : LoOk l) (hy : y ≤ 1125899906842624) (hk : okG (liveN s 6) n y a l = true) :
    y ≤ itG (liveN s 6) n y a l (cntG (liveN s 6) n y a l) a ∧ (cntG (liveN s 6) n y a l ≠ 0 → itG (liveN s 6) n y a l (cntG (liveN s 6) n y a l) a = y) := by
  obtain ⟨c1, c2, c3⟩ := cnt_go (y := y) (l := l) (live_ok s hn) ha
  obtain ⟨i1, i2, i3, _⟩ := it_inv hn ha hla hl hy _ c2
  have h1 : y ≤ itG (liveN s 6) n y a l (cntG (liveN s 6) n y a l) a := of_decide_eq_true hk
  exact ⟨h1, fun h => by have := i3 (by omega); omega⟩
end
end Rt
end
section
namespace Rt
def loP (L : LdC) (x : Int) (p : Nat) : Nat → Int := loAt L (ndAt L x p)
def gsP (s : StM) (n : Nat) (y : Int) (a : Nat) (L : LdC) (x : Int) (p : Nat) : List GiftM := allG (liveN s 6) n y a (loP L x) (ndAt L x) p
structure RmI (s : StM) (n : Nat) (y : Int) (a : Nat) (L0 L : LdC) (x : Int) (k : Nat) : Prop where
  e : L.nn = L0.nn ∧ L.id = L0.id ∧ L.par = L0.par ∧ L.inn = L0.inn ∧ L.left = L0.left
  st : ∃ p m, p ≤ pathN L0 x ∧ (p < pathN L0 x → m ≤ cntG (liveN s 6) n y a (loP L0 x p)) ∧ (p = pathN L0 x → m = 0) ∧ k = (gsP s n y a L0 x p).length + m ∧
    ∀ q, q < pathN L0 x → loAt L (ndAt L0 x q) = if q < p then itG (liveN s 6) n y a (loP L0 x q) (cntG (liveN s 6) n y a (loP L0 x q)) else if q = p then itG (liveN s 6) n y a (loP L0 x p) m else loP L0 x q
section
variable {s : StM} {n a k : Nat} {y x : Int} {L0 L : LdC} {T T0 : Nat}
theorem gsP_len (p : Nat) : (gsP s n y a L0 x (p + 1)).length = (gsP s n y a L0 x p).length + cntG (liveN s 6) n y a (loP L0 x p) := by
  show (allG _ _ _ _ _ _ p ++ nodeG _ _ _ _ _ _).length = _
  rw [List.length_append]; unfold nodeG; rw [gfN_len]; rfl
theorem gsP_mono {p : Nat} : ∀ q, p ≤ q → (gsP s n y a L0 x p).length ≤ (gsP s n y a L0 x q).length
  | 0, h => by obtain rfl : p = 0 := by omega
               exact Nat.le_refl _
  | q + 1, h => by
    by_cases e : p = q + 1
    · rw [e]; exact Nat.le_refl _
    · have := gsP_mono (p := p) q (by omega)
      rw [gsP_len]; omega
theorem it0 {live : List Int} {l : Nat → Int} : itG live n y a l 0 = l := rfl
theorem gsP0 : (gsP s n y a L0 x 0).length = 0 := rfl
theorem path_1 (hf : 0 ≤ firstS L0.id L0.nn x) : 1 ≤ pathN L0 x := pathS_pos hf
end
attribute [local irreducible] cntG itG gsP pathN sumS liveN ndAt loAt
section
variable {s : StM} {n a k : Nat} {y x : Int} {L0 L : LdC} {T T0 : Nat}
theorem RmI.next (h : RmI s n y a L0 L x k) (hk : k < (gsP s n y a L0 x (pathN L0 x)).length) : ∃ p m, p < pathN L0 x ∧ m < cntG (liveN s 6) n y a (loP L0 x p) ∧ k = (gsP s n y a L0 x p).length + m ∧
    ∀ q, q < pathN L0 x → loAt L (ndAt L0 x q) = if q < p then itG (liveN s 6) n y a (loP L0 x q) (cntG (liveN s 6) n y a (loP L0 x q)) else if q = p then itG (liveN s 6) n y a (loP L0 x p) m else loP L0 x q := by
  obtain ⟨p, m, h1, h2, h3, h4, h5⟩ := h.st
  have key : ∀ d p m, d = pathN L0 x - p → p ≤ pathN L0 x → (p < pathN L0 x → m ≤ cntG (liveN s 6) n y a (loP L0 x p)) → (p = pathN L0 x → m = 0) → k = (gsP s n y a L0 x p).length + m →
      (∀ q, q < pathN L0 x → loAt L (ndAt L0 x q) = if q < p then itG (liveN s 6) n y a (loP L0 x q) (cntG (liveN s 6) n y a (loP L0 x q)) else if q = p then itG (liveN s 6) n y a (loP L0 x p) m else loP L0 x q) →
      ∃ p m, p < pathN L0 x ∧ m < cntG (liveN s 6) n y a (loP L0 x p) ∧ k = (gsP s n y a L0 x p).length + m ∧
        ∀ q, q < pathN L0 x → loAt L (ndAt L0 x q) = if q < p then itG (liveN s 6) n y a (loP L0 x q) (cntG (liveN s 6) n y a (loP L0 x q)) else if q = p then itG (liveN s 6) n y a (loP L0 x p) m else loP L0 x q := by
    intro d
    induction d with
    | zero =>
      intro p m hd h1 h2 h3 h4 h5
      obtain rfl : p = pathN L0 x := by omega
      have := h3 rfl; omega
    | succ d ih =>
      intro p m hd h1 h2 h3 h4 h5
      have hp : p < pathN L0 x := by omega
      have hm := h2 hp
      by_cases e : m < cntG (liveN s 6) n y a (loP L0 x p)
      · exact ⟨p, m, hp, e, h4, h5⟩
      · obtain rfl : m = cntG (liveN s 6) n y a (loP L0 x p) := by omega
        refine ih (p + 1) 0 (by omega) (by omega) (fun _ => Nat.zero_le _) (fun _ => rfl) (by rw [gsP_len]; omega) fun q hq => ?_
        rw [h5 q hq]
        by_cases e1 : q < p
        · rw [if_pos e1, if_pos (by omega)]
        · rw [if_neg e1]
          by_cases e2 : q = p
          · rw [if_pos e2, if_pos (by omega), e2]
          · rw [if_neg e2, if_neg (by omega)]
            by_cases e3 : q = p + 1
            · rw [if_pos e3, e3, it0]
            · rw [if_neg e3]
  exact key _ p m rfl h1 h2 h3 h4 h5
theorem RmI.path (h : RmI s n y a L0 L x k) (q : Nat) : ndAt L x q = ndAt L0 x q ∧ pathN L x = pathN L0 x ∧ ∀ z, firstS L.id L.nn z = firstS L0.id L0.nn z := by
  obtain ⟨e1, e2, e3, _⟩ := h.e
  refine ⟨?_, ?_, fun z => by rw [e1, e2]⟩
  · unfold ndAt; rw [e1, e2, e3]
  · unfold pathN; rw [e1, e2, e3]
theorem RmI.last (h : RmI s n y a L0 L x k) (hk : k = (gsP s n y a L0 x (pathN L0 x)).length) {q : Nat} (hq : q < pathN L0 x) : loAt L (ndAt L0 x q) = itG (liveN s 6) n y a (loP L0 x q) (cntG (liveN s 6) n y a (loP L0 x q)) := by
  obtain ⟨p, m, h1, h2, h3, h4, h5⟩ := h.st
  rw [h5 q hq]
  by_cases e1 : q < p
  · rw [if_pos e1]
  · rw [if_neg e1]
    have hp : p < pathN L0 x := by omega
    have hm := h2 hp
    have g1 := gsP_mono (s := s) (n := n) (y := y) (a := a) (L0 := L0) (x := x) (p := p + 1) (pathN L0 x) (by omega)
    have g2 := gsP_len (s := s) (n := n) (y := y) (a := a) (L0 := L0) (x := x) p
    by_cases e2 : q = p
    · subst e2
      rw [if_pos rfl, show m = cntG (liveN s 6) n y a (loP L0 x q) by omega]
    · rw [if_neg e2]
      have g3 := gsP_mono (s := s) (n := n) (y := y) (a := a) (L0 := L0) (x := x) (p := p + 1) q (by omega)
      have g4 := gsP_mono (s := s) (n := n) (y := y) (a := a) (L0 := L0) (x := x) (p := q + 1) (pathN L0 x) (by omega)
      have g5 := gsP_len (s := s) (n := n) (y := y) (a := a) (L0 := L0) (x := x) q
      rw [show cntG (liveN s 6) n y a (loP L0 x q) = 0 by omega, it0]
def ownC (L : LdC) (x : Int) (a : Nat) : Int := leastV (fun p => loAt L (ndAt L x p) a) (pathN L x)
theorem RmI.done (h : RmI s n y a L0 L x k) (hk : k = (gsP s n y a L0 x (pathN L0 x)).length) (hI0 : Inv0 L0 T0) (hn : n = (liveN s 6).length) (ha : a < 6) (hla : isLive s a = true) (hf : 0 ≤ firstS L0.id L0.nn x) (hy : 1 ≤ y ∧ y ≤ 65536) (hok : ∀ q, q < pathN L0 x → okG (liveN s 6) n y a (loP L0 x q) = true) :
    y ≤ ownC L x a ∧ (0 < k → ownC L x a = y) ∧ ∀ p, p < pathN L x → y ≤ loAt L (ndAt L x p) a := by
  have hP := (h.path 0).2.1
  have hat : ∀ q, q < pathN L0 x → loAt L (ndAt L x q) a = itG (liveN s 6) n y a (loP L0 x q) (cntG (liveN s 6) n y a (loP L0 x q)) a := fun q hq => by rw [(h.path q).1, h.last hk hq]
  have hend : ∀ q, q < pathN L0 x → _ := fun q hq => end_at (l := loP L0 x q) hn ha hla (lo_ok hI0 (nd_find hq)) (show y ≤ 1125899906842624 by omega) (hok q hq)
  have hall : ∀ p, p < pathN L x → y ≤ loAt L (ndAt L x p) a := fun p hp => by rw [hP] at hp; rw [hat p hp]; exact (hend p hp).1
  have hPp : 1 ≤ pathN L x := by rw [hP]; exact path_1 hf
  have h1 : y ≤ ownC L x a := (leastV_le hPp hy.1 (by omega)).2 hall
  refine ⟨h1, fun hk0 => ?_, hall⟩
  -- some node lacked rights
  have hsome : ∃ p, p < pathN L0 x ∧ cntG (liveN s 6) n y a (loP L0 x p) ≠ 0 := by
    rcases Classical.em (∃ p, p < pathN L0 x ∧ cntG (liveN s 6) n y a (loP L0 x p) ≠ 0) with h2 | h2
    · exact h2
    · exfalso
      have : ∀ p, p ≤ pathN L0 x → (gsP s n y a L0 x p).length = 0 := fun p => by
        induction p with
        | zero => intro _; exact gsP0
        | succ p ih =>
          intro hp
          rw [gsP_len, ih (by omega)]
          rcases Nat.eq_zero_or_pos (cntG (liveN s 6) n y a (loP L0 x p)) with e | e
          · rw [e]
          · exact absurd ⟨p, by omega, by omega⟩ h2
      have := this _ (Nat.le_refl _)
      omega
  obtain ⟨p, hp, hc⟩ := hsome
  have h3 := (hend p hp).2 hc
  rw [← hat p hp] at h3
  have h4 : ownC L x a ≤ loAt L (ndAt L x p) a := (leastV_le (z := ownC L x a) hPp (by omega) leastV_top).1 (Int.le_refl (ownC L x a)) p (by rw [hP]; exact hp)
  omega
end
end Rt
end
section
namespace Rt
section
variable {L : LdC} {m : LdM} {T a b : Nat} {x y : Int}
theorem node_find {k : Nat} (h : nodeM m k ≠ 0) : 0 ≤ firstS m.id m.s.nn (nodeM m k) := by
  unfold nodeM at h ⊢
  by_cases e : m.s.nn = 0
  · rw [if_pos e] at h; exact absurd rfl h
  · rw [if_neg e]
    have hq : k % m.s.nn < m.s.nn := Nat.mod_lt _ (by omega)
    rcases firstI_spec (fun i => decide (m.id i = m.id (k % m.s.nn))) m.s.nn with ⟨j, _, ej, _⟩ | ⟨_, hno⟩
    · unfold firstS; rw [ej]; omega
    · have := hno _ hq
      rw [decide_eq_true rfl] at this; cases this
theorem id_u (h : Inv L T) (hf : 0 ≤ firstS L.id L.nn x) : U64r x ∧ 1 ≤ x := by
  obtain ⟨k, hk, _, e⟩ := first_nat hf
  have h1 := h.pos k hk
  have h2 := h.top k hk
  rw [e] at h1 h2
  exact ⟨⟨by show (0 : Int) ≤ x; omega, by show x ≤ _; omega⟩, h1⟩
theorem RmI.live {s : StM} {n k : Nat} {L0 : LdC} (h : RmI s n y a L0 L x k) : L.inn = L0.inn ∧ L.left = L0.left := ⟨h.e.2.2.2.1, h.e.2.2.2.2⟩
theorem RmI.find {s : StM} {n k : Nat} {L0 : LdC} {z : Int} (h : RmI s n y a L0 L x k) (hf : 0 ≤ firstS L0.id L0.nn z) : 0 ≤ firstS L.id L.nn z := by rw [(h.path 0).2.2]; exact hf
end
end Rt
section
variable (m : LdM) (B p T : Nat) (x : Int) (w : World)
theorem k_gifts (nl a : Nat) (y : Int) (hL : LdO w B p m) (hI : Inv m.core T) (ha : a < 6) (hnl : nl = (liveN m.s 6).length) (hli : liveI m.s ((a : Int) + 1) = true) (hf : 0 ≤ firstS m.id m.s.nn x) (hy : 1 ≤ y ∧ y ≤ 65536) :
    Calls Try.prog 59 #[.agg (Fx.varr 20 (stY m.s)), .int .i64 ((a : Int) + 1), .int .u64 (x), .int .i64 (y)] w fun e w' =>
      ((∃ v n, e = .returned (.tuple #[v, .int .i64 (0)]) ∧ (∀ q, q < pathN m.core x → okG (liveN m.s 6) nl y a (loP m.core x q) = true) ∧ n = (gsP m.s nl y a m.core x (pathN m.core x)).length ∧ Fx.Own w' w.heap.size 122 3 v n (gfX (gsP m.s nl y a m.core x (pathN m.core x)))) ∨
        (e = .returned (.tuple #[.slice none 0 0, .int .i64 (11)]) ∧ ∃ q, q < pathN m.core x ∧ okG (liveN m.s 6) nl y a (loP m.core x q) = false)) ∧ Below w.heap.size w w' :=
  ro_gifts m.s m.id m.par m.R x w hL.ldg.an (by have := hL.bn; omega) (fun z hz => lo_ok (L := m.core) hI.toInv0 hz) nl a y ha hnl hli hf ⟨hy.1, by omega⟩
end
end
theorem Rt.gs_len {m : LdM} {n a T : Nat} {y x : Int} (hn : n = (liveN m.s 6).length) (ha : a < 6) (hI : Inv m.core T) (hf : 0 ≤ firstS m.id m.s.nn x) : (gsP m.s n y a m.core x (pathN m.core x)).length ≤ 200 := by
  have h1 := allG_len (y := y) (lo := loP m.core x) (nd := ndAt m.core x) (live_ok m.s hn) ha (pathN m.core x)
  have h2 := (path_T (x := x) hI.toInv0 (nn_pos hf)).2.1
  unfold gsP; omega
end Go.Proofs.Ytolmkjepieoloaa
