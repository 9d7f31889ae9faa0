/-
  Flat values: aggregates of integers and bools, cell by cell; when two of them are equal.
-/
import Derived.WalkKit
import Derived.DeepKeys
namespace Go.Proofs.Ytcdkiakknbmfjaa
open Go.RowKit
/-- a cell as a literal of its kind -/
def litOf : Option IntKind → Value → Option Lit
  | none, .bool b => some (.bool b)
  | some q, .int q' n => if q' = q ∧ (Lit.int q n).wf = true then some (.int q n) else none
  | _, _ => none
def Fit : List (Option IntKind) → List Value → List Lit → Prop
  | [], [], [] => True
  | k :: ks, c :: cs, l :: ls => litOf k c = some l ∧ Fit ks cs ls
  | _, _, _ => False
theorem Fit.lengths : ∀ {ks : List (Option IntKind)} {cs : List Value} {ls : List Lit}, Fit ks cs ls → cs.length = ks.length ∧ ls.length = ks.length
  | [], [], [], _ => ⟨rfl, rfl⟩
  | _ :: _, _ :: _, _ :: _, h => by have := Fit.lengths h.2; simp [this.1, this.2]
  | [], _ :: _, _, h => h.elim
  | [], [], _ :: _, h => h.elim
  | _ :: _, [], _, h => h.elim
  | _ :: _, _ :: _, [], h => h.elim
theorem Fit.split : ∀ {a b : List (Option IntKind)} {cs : List Value} {ls : List Lit}, Fit (a ++ b) cs ls → Fit a (cs.take a.length) (ls.take a.length) ∧ Fit b (cs.drop a.length) (ls.drop a.length)
  | [], b, cs, ls, h => by simpa using ⟨trivial, h⟩
  | k :: a, b, c :: cs, l :: ls, h => by
    have := Fit.split (a := a) h.2
    exact ⟨⟨h.1, by simpa using this.1⟩, by simpa using this.2⟩
  | _ :: _, _, [], _, h => h.elim
  | _ :: _, _, _ :: _, [], h => h.elim
theorem Fit.one {k : Option IntKind} {cs : List Value} {ls : List Lit} (h : Fit [k] cs ls) : ∃ c l, cs = [c] ∧ ls = [l] ∧ litOf k c = some l := by
  have hl := h.lengths
  match cs, ls, hl, h with
  | [c], [l], _, h => exact ⟨c, l, rfl, rfl, h.1⟩
/-- the kinds of a flat type's cells, in order -/
def flatFs (cellsOf : TypeId → Nat) (rec : TypeId → Option (List (Option IntKind))) : List Field → Nat → Option (List (Option IntKind))
  | [], _ => some []
  | f :: fs, o => if f.offset = o ∧ (f.name != "_") = true then
      match rec f.type with
      | some l => if l.length = cellsOf f.type then (flatFs cellsOf rec fs (o + l.length)).map (l ++ ·) else none
      | none => none
    else none
def flatK (P : Program) : Nat → TypeId → Option (List (Option IntKind))
  | 0, _ => none
  | d + 1, t =>
    match P.underlying t with
    | some .bool => some [none]
    | some (.int q) => some [some q]
    | some (.array n e) => match flatK P d e with
      | some l => if l.length = P.cellsOf e ∧ n * l.length = P.cellsOf t then some (List.replicate n l).flatten else none
      | none => none
    | some (.struct fs) => match flatFs P.cellsOf (flatK P d) fs.toList 0 with
      | some l => if l.length = P.cellsOf t then some l else none
      | none => none
    | _ => none
theorem mapM_range {α : Type} (n : Nat) (f : Nat → Option α) (g : Nat → α) (h : ∀ i, i < n → f i = some (g i)) : (List.range n).mapM f = some ((List.range n).map g) := by
  induction n with
  | zero => rfl
  | succ n ih =>
    rw [List.range_succ, List.mapM_append, ih (fun i hi => h i (by omega)), List.map_append]
    simp [h n (by omega)]
theorem chunks {α : Type} (c : Nat) : ∀ (n : Nat) (ls : List α), ls.length = n * c → ((List.range n).map fun i => (ls.drop (i * c)).take c).flatten = ls
  | 0, ls, h => by simp at h; subst h; rfl
  | n + 1, ls, h => by
    rw [List.range_succ_eq_map, List.map_cons, List.flatten_cons, List.map_map]
    have h2 : (ls.drop c).length = n * c := by rw [List.length_drop, h, Nat.add_mul]; omega
    have ih := chunks c n (ls.drop c) h2
    have e : ((fun i => (ls.drop (i * c)).take c) ∘ Nat.succ) = fun i => ((ls.drop c).drop (i * c)).take c := by
      funext i
      simp only [Function.comp, List.drop_drop]
      congr 2
      rw [Nat.succ_mul]; omega
    rw [e, ih]
    simp
theorem Fit.block {l : List (Option IntKind)} : ∀ {n : Nat} {cs : List Value} {ls : List Lit}, Fit (List.replicate n l).flatten cs ls → ∀ i, i < n → Fit l ((cs.drop (i * l.length)).take l.length) ((ls.drop (i * l.length)).take l.length)
  | 0, _, _, _, i, hi => absurd hi (by omega)
  | n + 1, cs, ls, h, i, hi => by
    rw [List.replicate_succ, List.flatten_cons] at h
    have hs := Fit.split h
    cases i with
    | zero => simpa using hs.1
    | succ i =>
      have := Fit.block hs.2 i (by omega)
      rw [List.drop_drop, List.drop_drop] at this
      rw [Nat.succ_mul, Nat.add_comm]
      exact this
theorem flatten_length {α : Type} (n : Nat) (l : List α) : (List.replicate n l).flatten.length = n * l.length := by
  induction n with
  | zero => simp
  | succ n ih => rw [List.replicate_succ, List.flatten_cons, List.length_append, ih, Nat.succ_mul]; omega
theorem fs_fit {P : Program} {d : Nat} (IH : ∀ t ks cs ls, flatK P d t = some ks → Fit ks cs ls → P.keyLits d t cs = some ls) (cs : List Value) (ls : List Lit) :
    ∀ (fs : List Field) (o : Nat) (ks : List (Option IntKind)), flatFs P.cellsOf (flatK P d) fs o = some ks → Fit ks (cs.drop o) (ls.drop o) →
      (∀ f ∈ fs, (f.name != "_") = true) ∧ ∃ L : List (List Lit), fs.mapM (fun f => P.keyLits d f.type ((cs.drop f.offset).take (P.cellsOf f.type))) = some L ∧ L.flatten = ls.drop o
  | [], o, ks, h, hf => by
    simp [flatFs] at h
    subst h
    have := hf.lengths
    refine ⟨by simp, [], rfl, ?_⟩
    have h2 : (ls.drop o).length = 0 := this.2
    rw [List.length_eq_zero_iff.1 h2]; rfl
  | f :: fs, o, ks, h, hf => by
    unfold flatFs at h
    by_cases h1 : f.offset = o ∧ (f.name != "_") = true
    · rw [if_pos h1] at h
      cases h2 : flatK P d f.type with
      | none => rw [h2] at h; cases h
      | some l =>
        rw [h2] at h
        simp only at h
        by_cases h3 : l.length = P.cellsOf f.type
        · rw [if_pos h3] at h
          cases h4 : flatFs P.cellsOf (flatK P d) fs (o + l.length) with
          | none => rw [h4] at h; cases h
          | some r =>
            rw [h4] at h
            simp only [Option.map_some, Option.some.injEq] at h
            subst h
            have hs := Fit.split hf
            rw [List.drop_drop, List.drop_drop] at hs
            obtain ⟨hn, L, hL, hfl⟩ := fs_fit IH cs ls fs (o + l.length) r h4 hs.2
            have hk := IH f.type l _ _ h2 hs.1
            refine ⟨?_, (ls.drop o).take l.length :: L, ?_, ?_⟩
            · intro g hg
              rcases List.mem_cons.1 hg with rfl | hg
              · exact h1.2
              · exact hn g hg
            · rw [List.mapM_cons, h1.1, ← h3, hk, hL]; rfl
            · rw [List.flatten_cons, hfl]
              conv => rhs; rw [← List.take_append_drop l.length (ls.drop o)]
              rw [List.drop_drop]
        · rw [if_neg h3] at h; cases h
    · rw [if_neg h1] at h; cases h
theorem keyLits_fit {P : Program} : ∀ (d : Nat) (t : TypeId) (ks : List (Option IntKind)) (cs : List Value) (ls : List Lit), flatK P d t = some ks → Fit ks cs ls → P.keyLits d t cs = some ls
  | 0, _, _, _, _, h, _ => by cases h
  | d + 1, t, ks, cs, ls, h, hf => by
    unfold flatK at h
    unfold Program.keyLits
    cases hu : P.underlying t with
    | none => rw [hu] at h; cases h
    | some td =>
      rw [hu] at h
      cases td with
      | bool =>
        simp only [Option.some.injEq] at h
        subst h
        obtain ⟨c, l, rfl, rfl, this⟩ := hf.one
        cases c <;> simp [litOf] at this
        subst this
        rfl
      | int q =>
        simp only [Option.some.injEq] at h
        subst h
        obtain ⟨c, l, rfl, rfl, this⟩ := hf.one
        cases c <;> simp [litOf] at this
        rename_i q' n
        obtain ⟨⟨rfl, hw⟩, rfl⟩ := this
        simp [hw]
      | array n e =>
        simp only at h
        cases h2 : flatK P d e with
        | none => rw [h2] at h; cases h
        | some l =>
          rw [h2] at h
          simp only at h
          by_cases h3 : l.length = P.cellsOf e ∧ n * l.length = P.cellsOf t
          · rw [if_pos h3] at h
            simp only [Option.some.injEq] at h
            subst h
            have hl := hf.lengths
            rw [flatten_length] at hl
            simp only
            rw [if_pos (by rw [hl.1, h3.2]), ← h3.1, mapM_range n _ (fun i => (ls.drop (i * l.length)).take l.length) (fun i hi => keyLits_fit d e l _ _ h2 (hf.block i hi))]
            rw [Option.map_some, chunks l.length n ls hl.2]
          · rw [if_neg h3] at h; cases h
      | struct fs =>
        simp only at h
        cases h2 : flatFs P.cellsOf (flatK P d) fs.toList 0 with
        | none => rw [h2] at h; cases h
        | some l =>
          rw [h2] at h
          simp only at h
          by_cases h3 : l.length = P.cellsOf t
          · rw [if_pos h3] at h
            simp only [Option.some.injEq] at h
            subst h
            obtain ⟨hn, L, hL, hfl⟩ := fs_fit (fun t ks cs ls h hf => keyLits_fit d t ks cs ls h hf) cs ls fs.toList 0 l h2 (by simpa using hf)
            have hl := hf.lengths
            simp only
            have hall : (fs.all fun f => f.name != "_") = true := by
              rw [Array.all_eq_true_iff_forall_mem]
              intro f hf'
              exact hn f (by simpa using hf')
            rw [if_pos ⟨by rw [hl.1, h3], hall⟩, hL, Option.map_some, hfl]
            rfl
          · rw [if_neg h3] at h; cases h
      | _ => cases h
/-- x == y on two flat aggregates -/
theorem run_equalIn_flat {P : Program} (w : World) (m d : Nat) (t : TypeId) (ks : List (Option IntKind)) (xs ys : Array Value) (la lb : List Lit) (hkt : P.keyTypeAt m t = true) (hk : flatK P m t = some ks)
    (hwide : (match P.underlying t with | some (.array _ _) | some (.struct _) => true | _ => false) = true) (ha : Fit ks xs.toList la) (hb : Fit ks ys.toList lb) (r : Bool) (hr : r = true ↔ la = lb) :
    (Op.equalIn (d + m) t (.agg xs) (.agg ys)).run P w = .ok r w := by
  have hlen : ks.length = P.cellsOf t := by
    cases m with
    | zero => cases hk
    | succ m =>
      unfold flatK at hk
      cases hu : P.underlying t with
      | none => rw [hu] at hk; cases hk
      | some td =>
        rw [hu] at hk hwide
        cases td with
        | array n e =>
          simp only at hk
          cases h2 : flatK P m e with
          | none => rw [h2] at hk; cases hk
          | some l =>
            rw [h2] at hk
            simp only at hk
            split at hk
            · rename_i h3
              simp only [Option.some.injEq] at hk
              rw [← hk, flatten_length, h3.2]
            · cases hk
        | struct fs =>
          simp only at hk
          cases h2 : flatFs P.cellsOf (flatK P m) fs.toList 0 with
          | none => rw [h2] at hk; cases hk
          | some l =>
            rw [h2] at hk
            simp only at hk
            split at hk
            · rename_i h3
              simp only [Option.some.injEq] at hk
              rw [← hk, h3]
            · cases hk
        | _ => cases hwide
  have hf : ∀ (zs : Array Value) (l : List Lit), Fit ks zs.toList l → Value.formed P t (.agg zs) = true := by
    intro zs l h
    have hs : zs.size = P.cellsOf t := by have := h.lengths.1; rw [Array.length_toList] at this; omega
    unfold Value.formed
    cases hu : P.underlying t with
    | none => rw [hu] at hwide; cases hwide
    | some td => rw [hu] at hwide; cases td <;> first | (cases hwide; done) | simp [hs]
  obtain ⟨q, hq, hiff⟩ := run_equalIn_deep d m t hkt w m m (.agg xs) (.agg ys) la lb (hf xs la ha) (hf ys lb hb) (keyLits_fit m t ks _ _ hk (by simpa [Value.cells] using ha)) (keyLits_fit m t ks _ _ hk (by simpa [Value.cells] using hb))
  rw [hq]
  congr 1
  rw [Bool.eq_iff_iff, hiff, hr]
/-- the same at the operations '==' and '!=' -/
theorem run_eql_flat {P : Program} (w : World) (m : Nat) (hm : m ≤ 10000) (t : TypeId) (ks : List (Option IntKind)) (xs ys : Array Value) (la lb : List Lit) (hkt : P.keyTypeAt m t = true) (hk : flatK P m t = some ks)
    (hwide : (match P.underlying t with | some (.array _ _) | some (.struct _) => true | _ => false) = true) (ha : Fit ks xs.toList la) (hb : Fit ks ys.toList lb) (r : Bool) (hr : r = true ↔ la = lb) :
    (binOp .eql t (.agg xs) (.agg ys)).run P w = .ok (.bool r) w := by
  rw [run_eql_struct, show 10000 = (10000 - m) + m by omega, run_equalIn_flat w m (10000 - m) t ks xs ys la lb hkt hk hwide ha hb r hr]; rfl
theorem run_neq_flat {P : Program} (w : World) (m : Nat) (hm : m ≤ 10000) (t : TypeId) (ks : List (Option IntKind)) (xs ys : Array Value) (la lb : List Lit) (hkt : P.keyTypeAt m t = true) (hk : flatK P m t = some ks)
    (hwide : (match P.underlying t with | some (.array _ _) | some (.struct _) => true | _ => false) = true) (ha : Fit ks xs.toList la) (hb : Fit ks ys.toList lb) (r : Bool) (hr : r = true ↔ la = lb) :
    (binOp .neq t (.agg xs) (.agg ys)).run P w = .ok (.bool (!r)) w := by
  rw [run_neq_struct, show 10000 = (10000 - m) + m by omega, run_equalIn_flat w m (10000 - m) t ks xs ys la lb hkt hk hwide ha hb r hr]; rfl
end Go.Proofs.Ytcdkiakknbmfjaa
