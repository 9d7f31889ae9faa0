/-
  The walk of rights.local.
-/
import Derived.Test.YtolmkjepieoloaaRWalks
import Derived.BigRegion
import Derived.Deep.DeepCutAuto
namespace Go.Proofs.Ytolmkjepieoloaa
open Go.RowKit Rt
/-- two lists of integers of the call's own, apart -/
def Two (w0 w : World) (g1 c1 : Nat) (l1 : List Int) (g2 c2 : Nat) (l2 : List Int) : Prop :=
  w.ownsRow w0.heap.size 2 1 (.slice (some ⟨g1, 0, none⟩) l1.length c1) l1.length (l1.map (Value.int .i64)) ∧
  w.ownsRow w0.heap.size 2 1 (.slice (some ⟨g2, 0, none⟩) l2.length c2) l2.length (l2.map (Value.int .i64)) ∧ g1 ≠ g2 ∧ Below w0.heap.size w0 w
theorem Two.alloc {w0 w : World} {g1 c1 : Nat} {l1 : List Int} {g2 c2 : Nat} {l2 : List Int} (h : Two w0 w g1 c1 l1 g2 c2 l2) (o : Obj) : Two w0 (w.alloc o) g1 c1 l1 g2 c2 l2 :=
  ⟨World.ownsRow.alloc h.1 o, World.ownsRow.alloc h.2.1 o, h.2.2.1, h.2.2.2.alloc h.2.2.2.size o⟩
theorem Two.drew {w0 w : World} {g1 c1 : Nat} {l1 : List Int} {g2 c2 : Nat} {l2 : List Int} (h : Two w0 w g1 c1 l1 g2 c2 l2) : Two w0 w.drew g1 c1 l1 g2 c2 l2 :=
  ⟨h.1, h.2.1, h.2.2.1, h.2.2.2.drew⟩
theorem Two.swap {w0 w : World} {g1 c1 : Nat} {l1 : List Int} {g2 c2 : Nat} {l2 : List Int} (h : Two w0 w g1 c1 l1 g2 c2 l2) : Two w0 w g2 c2 l2 g1 c1 l1 := ⟨h.2.1, h.1, h.2.2.1.symm, h.2.2.2⟩
theorem infoI64 : (Try.prog.info? 2).map (fun i => (i.zero, i.size, i.bytes)) = some (some (.int .i64 0), 1, 8) := by kernel_rfl
theorem step_two {ops : Array Oper} {o : Oper} {a : Act} {w0 w : World} {K : Act → World → Prop} {Q : Exit → Act → World → Prop} {E : Prop} (hgd : o.guard = none) (s x : Operand)
    (ho : o.op = .call { callee := .builtin .append, args := #[s, x], argTypes := #[145, 145] }) (g1 c1 : Nat) (l1 : List Int) (g2 c2 : Nat) (l2 : List Int) (h : Two w0 w g1 c1 l1 g2 c2 l2)
    (n : Nat) (hn : l1.length = n) (hs : a.eval s = .slice (some ⟨g1, 0, none⟩) n c1) (ad : Nat) (v : Int) (hx : a.eval x = .slice (some ⟨ad, 0, none⟩) 1 1) (hc : w.cell? ⟨ad, 0, none⟩ = some (.int .i64 v)) (hle : n ≤ 100)
    (hK : ∀ g cap w', Two w0 w' g cap (l1 ++ [v]) g2 c2 l2 → (∀ a u, w.cell? a = some u → a.block ≠ g1 → w'.cell? a = some u) → K (a.put o.dst (.slice (some ⟨g, 0, none⟩) (n + 1) cap)) w') :
    if Region.wanted o (yielded ops a.tmps) = true then Oper.wp Try.prog o a w K Q else E := by
  obtain ⟨i0, hi, hz0, hz1, hz2⟩ := info_parts infoI64
  subst hn
  refine step_append_lies w hgd s x 145 ho w0.heap.size 2 i0 (.int .i64 0) 1 8 Try.underlying145 hi hz0 hz1 hz2 rfl (by decide) _ l1.length (l1.map (Value.int .i64)) hs h.1 ⟨ad, 0, none⟩ 1 1 [.int .i64 v] hx rfl
    (by intro j u hu; cases j with
      | zero => simp at hu; subst hu; rw [addr_add]; exact hc
      | succ j => simp at hu) (by intro u hu; simp at hu; subst hu; rfl) (by decide) (by unfold maxLen; omega) (by omega) h.2.2.2.size w.heap.size rfl ?_
  intro g cap w' h1 h2 h3 h4
  refine hK g cap w' ⟨?_, ?_, ?_, ?_⟩ (fun a u hu hne => h2.cell hu (by simp [Value.ownBlock]; exact hne))
  · rw [List.length_append, List.map_append]; exact h1
  · exact World.ownsRow.kept h.2.1 h2 (.inr (by simp [Value.ownBlock]; exact fun e => h.2.2.1 e.symm))
  · have hlt := World.ownsRow.lt h.2.1 g2 rfl
    rcases h3 with h3 | h3
    · simp [Value.ownBlock] at h3; subst h3; exact h.2.2.1
    · omega
  · exact h.2.2.2.grown h2 h.2.2.2.size (fun k hk => (World.ownsRow.lt h.1 k hk).1)
theorem Two.rd1 {w0 w : World} {g1 c1 : Nat} {l1 : List Int} {g2 c2 : Nat} {l2 : List Int} (h : Two w0 w g1 c1 l1 g2 c2 l2) : RdI .i64 w (some ⟨g1, 0, none⟩) l1 := by
  intro i hi
  refine ⟨g1, 0, rfl, ?_⟩
  rw [Nat.zero_add, World.ownsRow.cellAt h.1 i (by omega)]
  simp [hi]
theorem Two.start (w : World) (v a b : Int) : Two w ((w.alloc (.cells #[.int .i64 v] 2)).alloc (.cells #[.int .i64 a, .int .i64 b] 2)) w.heap.size 1 [v] (w.heap.size + 1) 2 [a, b] := by
  refine ⟨World.ownsRow.alloc (World.ownsRow_lit w #[.int .i64 v] 1 (Nat.le_refl _) (by unfold maxLen; omega) rfl) _, ?_, by omega, ((Below.refl _ _).alloc (Nat.le_refl _) _).alloc (by simp) _⟩
  have := World.ownsRow_lit (base := w.heap.size) (e := 2) (size := 1) (w.alloc (.cells #[.int .i64 v] 2)) #[.int .i64 a, .int .i64 b] 2 (by simp) (by unfold maxLen; omega) rfl
  simpa using this
theorem Two.start2 (w : World) (v a b : Int) : Two w ((w.alloc (.cells #[.int .i64 a, .int .i64 b] 2)).alloc (.cells #[.int .i64 v] 2)) (w.heap.size + 1) 1 [v] w.heap.size 2 [a, b] := by
  refine ⟨?_, World.ownsRow.alloc (World.ownsRow_lit w #[.int .i64 a, .int .i64 b] 2 (Nat.le_refl _) (by unfold maxLen; omega) rfl) _, by omega, ((Below.refl _ _).alloc (Nat.le_refl _) _).alloc (by simp) _⟩
  have := World.ownsRow_lit (base := w.heap.size) (e := 2) (size := 1) (w.alloc (.cells #[.int .i64 a, .int .i64 b] 2)) #[.int .i64 v] 1 (by simp) (by unfold maxLen; omega) rfl
  simpa using this
theorem Two.at {w0 w : World} {g1 c1 : Nat} {l1 : List Int} {g2 c2 : Nat} {l2 : List Int} (h : Two w0 w g1 c1 l1 g2 c2 l2) {b : Nat} {x : Nat → Int} {T : TypeId} {fz : Nat × Nat} (hb : w0.heap[b]? = some (.cells (iarr .i64 54 x) T fz)) (i : Nat) (hi : i < 54) :
    w.cell? ⟨b, i, none⟩ = some (.int .i64 (x i)) :=
  iarr_cell ((h.2.2.2.block b (Array.getElem?_eq_some_iff.1 hb).1).trans hb) i hi
theorem Two.lt {w0 w : World} {g1 c1 : Nat} {l1 : List Int} {g2 c2 : Nat} {l2 : List Int} (h : Two w0 w g1 c1 l1 g2 c2 l2) {b : Nat} (hb : b < w0.heap.size) : b < w.heap.size := Nat.lt_of_lt_of_le hb h.2.2.2.size
theorem outs_len (x : Nat → Int) (k : Nat) : ∀ j, (outs x k j).length = j + 1
  | 0 => rfl
  | j + 1 => by rw [outs, List.length_append, outs_len x k j]; rfl
theorem ins_len (x : Nat → Int) (k : Nat) : ∀ j, (ins x k j).length = j + 2
  | 0 => rfl
  | j + 1 => by rw [ins, List.length_append, ins_len x k j]; rfl
/-- behind j rounds -/
def LRel (w : World) (x : Nat → Int) (k j : Nat) (s6 s7 : Value) (wx : World) : Prop :=
  ∃ g1 c1 g2 c2, s6 = .slice (some ⟨g1, 0, none⟩) (j + 1) c1 ∧ s7 = .slice (some ⟨g2, 0, none⟩) (j + 2) c2 ∧ Two w wx g1 c1 (outs x k j) g2 c2 (ins x k j)
set_option maxHeartbeats 4000000 in
theorem local_any (b : Nat) (T : TypeId) (fz : Nat × Nat) (x : Nat → Int) (k : Nat) (w : World) (hk : k < 6) (hb : Hid (w.heap[b]? = some (.cells (iarr .i64 54 x) T fz))) :
    Calls Try.prog 78 #[.pointer (some ⟨b, 0, none⟩), .int .i64 k] w fun e w' => e = .returned (.tuple #[.int .i64 (localM x k).1, .bool (localM x k).2]) ∧ Below w.heap.size w w' := by
  have hlt : b < w.heap.size := (Array.getElem?_eq_some_iff.1 hb.out).1
  have hki : (k : Int) < 6 := by omega
  go_enter Try.func78, Try.ntmps78
  go_upto_region 1 with (fail)
  go_cut [6, 7] (fun s6 s7 wx => LRel w x k 0 s6 s7 wx)
  case first =>
    have c1 := iarr_cell hb.out (6 + k) (by omega)
    have c2 := iarr_cell hb.out k (by omega)
    have c3 := iarr_cell hb.out (12 + k) (by omega)
    go_wp2
    go_region
    all_goals go_wp2
    all_goals go_meet
    case rel => exact ⟨_, _, _, _, rfl, rfl, (Two.start w (x (6 + k)) (x k) (x (12 + k))).drew⟩
    case rel => exact ⟨_, _, _, _, rfl, rfl, (Two.start2 w (x (6 + k)) (x k) (x (12 + k))).drew⟩
  case rest =>
    clear hlt
    go_wp2
    go_loopw [6, 7, 33] (fun s6 s7 i wx => ∃ j : Nat, j ≤ 6 ∧ i = .int .i64 j ∧ LRel w x k j s6 s7 wx) (fun _ _ i _ => 6 - (intOf i).toNat)
    case atStart => exact ⟨0, Nat.zero_le _, rfl, hcut⟩
    case round =>
      obtain ⟨j, hj, rfl, g1, c1, g2, c2, rfl, rfl, hT⟩ := hrel
      by_cases hj2 : j < 6
      · have hji : (j : Int) < 6 := by omega
        have hlt : b < w.heap.size := (Array.getElem?_eq_some_iff.1 hb.out).1
        have hrow : wr.heap[b]? = some (.cells (iarr .i64 54 x) T fz) := (hT.2.2.2.block b hlt).trans hb.out
        have e1 := iarr_cell hrow (18 + k * 6 + j) (by omega)
        have e2 := iarr_cell hrow (18 + j * 6 + k) (by omega)
        have hlt2 : b < wr.heap.size := (Array.getElem?_eq_some_iff.1 hrow).1
        have Hrow : Hid _ := hrow
        have hg1 : g1 < wr.heap.size := (World.ownsRow.lt hT.1 g1 rfl).2
        have hg2 : g2 < wr.heap.size := (World.ownsRow.lt hT.2.1 g2 rfl).2
        clear hrow
        have HO : Hid ((outs x k j).length = j + 1) := outs_len x k j
        have HI : Hid ((ins x k j).length = j + 2) := ins_len x k j
        go_wp2
        go_region_law (first
          | (refine step_two (o := ⟨some 46, _, _, _, _, _⟩) (by rfl) (.tmp 36) (.tmp 45) (by rfl) g1 c1 (outs x k j) _ _ _ (by first | assumption | exact Two.alloc (by assumption) _ | exact Two.alloc (Two.alloc (by assumption) _) _ | exact hT.drew.alloc _ | exact (hT.drew.alloc _).alloc _) (j + 1) HO.out (by rfl) _ (x (18 + k * 6 + j)) (by rfl) (by first | (go_simp; done) | exact hkp _ _ (by go_simp; done) (by simp; omega)) (by omega) ?_; intro g cp w1 hT1 hkp; have e1' := hT1.at hb.out (18 + k * 6 + j) (by omega); have e2' := hT1.at hb.out (18 + j * 6 + k) (by omega); have hlt' := hT1.lt hlt)
          | (refine step_two (o := ⟨some 57, _, _, _, _, _⟩) (by rfl) (.tmp 47) (.tmp 56) (by rfl) g2 c2 (ins x k j) _ _ _ (by first | exact Two.swap (by assumption) | exact (Two.alloc (by assumption) _).swap | exact (Two.alloc (Two.alloc (by assumption) _) _).swap | exact (hT.drew.alloc _).swap | exact ((hT.drew.alloc _).alloc _).swap) (j + 2) HI.out (by rfl) _ (x (18 + j * 6 + k)) (by rfl) (by first | (go_simp; done) | exact hkp _ _ (by go_simp; done) (by simp; omega)) (by omega) ?_; intro g cp w1 hT1 hkp; have e1' := hT1.at hb.out (18 + k * 6 + j) (by omega); have e2' := hT1.at hb.out (18 + j * 6 + k) (by omega); have hlt' := hT1.lt hlt))
        all_goals go_wp2
        all_goals go_roundw
        all_goals first
          | (simp [intOf]; omega)
          | exact ⟨j + 1, by omega, by go_num, _, _, _, _, rfl, rfl, hT1.swap⟩
      · obtain rfl : j = 6 := by omega
        have r1 := hT.rd1
        have r2 := hT.swap.rd1
        have hbel := hT.2.2.2
        have HO : Hid ((outs x k 6).length = 7) := outs_len x k 6
        have HI : Hid ((ins x k 6).length = 8) := ins_len x k 6
        have b1 := sumI_bound (outs x k 6)
        have b2 := sumI_bound (ins x k 6)
        rw [HO.out] at b1
        rw [HI.out] at b2
        have HL : Hid (localM x k = ((sumI (ins x k 6)).1 - (sumI (outs x k 6)).1, (sumI (outs x k 6)).2 && (sumI (ins x k 6)).2)) := rfl
        generalize outs x k 6 = lo at *
        generalize ins x k 6 = li at *
        clear hT
        go_wp2_with fail
        refine (sum_any _ 7 c1 lo _ (by omega) HO r1).mono ?_
        rintro e w1 ⟨rfl, rfl⟩
        go_wp2_with fail
        refine (sum_any _ 8 c2 li _ (by omega) HI r2).mono ?_
        rintro e w2 ⟨rfl, rfl⟩
        generalize (sumI li).1 = n2 at *
        generalize (sumI lo).1 = n1 at *
        generalize (sumI li).2 = o2 at *
        generalize (sumI lo).2 = o1 at *
        cases o1
        all_goals
          go_wp2_with fail
          go_ret2
          rw [HL.out]; exact ⟨rfl, hbel⟩
end Go.Proofs.Ytolmkjepieoloaa
