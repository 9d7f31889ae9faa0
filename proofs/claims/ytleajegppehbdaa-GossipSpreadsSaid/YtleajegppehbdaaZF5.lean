/-
  What the proof of the law rests on, part 5: walks of functions, and plain laws; each says its conditions itself.
-/
import Derived.Shelf.SlSortCmp.NoneTotal
import Derived.Shelf.SlSortCmp.WholeK
import Derived.Lib.SliceRun
import Derived.Ground.SlsfProg
import Derived.Test.YtleajegppehbdaaProg
import Derived.StillTailTactics
import Derived.Test.YtleajegppehbdaaZF4
namespace Go.Proofs.Ytleajegppehbdaa
open Go.RowKit Rt
open Fx (x_move x_assign x_field x_load1 x_pickF x_pickT x_nil x_conv x_indexS x_index x_leqF x_loadA x_len x_gtrF x_build x_eqlF x_eqlT Lv sN Ln Ws Qv Wl Rp Wc Qs Wr Sb Lk Wk rC rV sR)
section
namespace Rt
def cntP (t : Nat → Nat → Int) (tn : Nat) (x y : Int) : Nat → Int
  | 0 => 0
  | k + 1 => cntP t tn x y k + if iterT t tn k x = y then 1 else 0
def cntT (t : Nat → Nat → Int) (tn : Nat) (x y : Int) : Int := cntP t tn x y (pathK t tn x)
def openG (t : Nat → Nat → Int) (tn : Nat) (g : Nat → Int) (y : Int) : Int := if g 4 = 0 then g 3 * cntT t tn (g 2) y else 0
def openN (t : Nat → Nat → Int) (tn : Nat) (g : Nat → Nat → Int) (y : Int) : Nat → Int
  | 0 => 0
  | q + 1 => openN t tn g y q + openG t tn (g q) y
structure InvS (L : LdC) : Prop where
  us : ∀ k, k < L.nn → uSum (L.R k) = openN L.t L.tn L.g (L.id k) L.gn
  gb : ∀ q, q < L.gn → 0 ≤ findT L.t L.tn (L.g q 2) ∧ 1 ≤ L.g q 0 ∧ L.g q 0 ≤ 6 ∧ 0 ≤ L.g q 3 ∧ L.g q 3 ≤ 1125899906842624
structure EvSm (v : EvM) : Prop where
  amt : v.amt ≤ 65536
  req : v.req ≤ 256
structure InvB (L : LdC) (T : Nat) : Prop where
  kt : ∀ i, i < 6 → L.known i ≤ T
  rb : ∀ k, k < L.nn → ∀ a, a < 54 → L.R k a ≤ 2097152 * T
  rq : ∀ i, i < 6 → ∀ j, j < L.rn i → L.rq i j ≤ 256
structure Inv (L : LdC) (T : Nat) : Prop extends Inv0 L T where
  s : InvS L
  b : InvB L T
section
variable {L : LdC} {T : Nat} {v : EvM}
theorem lead_lt {P : Nat → Bool} : ∀ {n i : Nat}, i < lead P n → P i = true
  | 0, i, h => absurd h (Nat.not_lt_zero _)
  | n + 1, i, h => by
    unfold lead at h
    by_cases e : lead P n = n ∧ P n = true
    · rw [if_pos e] at h
      by_cases e2 : i = n
      · rw [e2]; exact e.2
      · exact lead_lt (n := n) (by omega)
    · rw [if_neg e] at h; exact lead_lt h
theorem pathK_lt {t : Nat → Nat → Int} {tn i : Nat} {x : Int} (h : i < pathK t tn x) : 0 ≤ findT t tn (iterT t tn i x) := of_decide_eq_true (lead_lt (P := fun i => decide (0 ≤ findT t tn (iterT t tn i x))) h)
theorem open_cong {t t' : Nat → Nat → Int} {tn tn' : Nat} {g g' : Nat → Nat → Int} {y y' : Int} : ∀ n, (∀ q, q < n → openG t' tn' (g' q) y' = openG t tn (g q) y) → openN t' tn' g' y' n = openN t tn g y n
  | 0, _ => rfl
  | n + 1, h => by unfold openN; rw [open_cong n fun q hq => h q (by omega), h n (by omega)]
theorem open_zero {t : Nat → Nat → Int} {tn : Nat} {g : Nat → Nat → Int} {y : Int} : ∀ n, (∀ q, q < n → openG t tn (g q) y = 0) → openN t tn g y n = 0
  | 0, _ => rfl
  | n + 1, h => by unfold openN; rw [open_zero n fun q hq => h q (by omega), h n (by omega)]; rfl
theorem open_upd {t : Nat → Nat → Int} {tn k : Nat} {g : Nat → Nat → Int} {x : Nat → Int} {y : Int} : ∀ n, k < n → openN t tn (updA g k x) y n = openN t tn g y n - openG t tn (g k) y + openG t tn x y
  | 0, h => absurd h (Nat.not_lt_zero _)
  | n + 1, h => by
    unfold openN
    by_cases e : k = n
    · subst e
      rw [open_cong (t := t) (tn := tn) (g := g) (y := y) k fun q hq => by unfold updA; rw [if_neg (by omega)]]
      unfold updA; rw [if_pos rfl]; omega
    · rw [open_upd n (by omega)]
      have : updA g k x n = g n := if_neg (fun h => e h.symm)
      rw [this]; omega
theorem open_ins {t : Nat → Nat → Int} {tn k : Nat} {g : Nat → Nat → Int} {x : Nat → Int} {y : Int} : ∀ n, k ≤ n → openN t tn (Fx.insI g k x) y (n + 1) = openN t tn g y n + openG t tn x y
  | 0, h => by
    obtain rfl : k = 0 := by omega
    show (0 : Int) + openG t tn (Fx.insI g 0 x 0) y = 0 + _
    rw [insI_eq]
  | n + 1, h => by
    by_cases e : k = n + 1
    · subst e
      show openN t tn (Fx.insI g (n + 1) x) y (n + 1) + openG t tn (Fx.insI g (n + 1) x (n + 1)) y = _
      rw [insI_eq, open_cong (t := t) (tn := tn) (g := g) (y := y) (n + 1) fun q hq => by rw [insI_lt hq]]
    · show openN t tn (Fx.insI g k x) y (n + 1) + openG t tn (Fx.insI g k x (n + 1)) y = openN t tn g y n + openG t tn (g n) y + _
      rw [open_ins n (by omega), insI_gt (by omega), Nat.add_sub_cancel]; omega
def cntI (idx : Nat → Nat) (k : Nat) : Nat → Int
  | 0 => 0
  | j + 1 => cntI idx k j + if idx j = k then 1 else 0
theorem walkR_sum {f : (Nat → Int) → (Nat → Int) × Int} {idx : Nat → Nat} {R : Nat → Nat → Int} {d : Int} (hf : ∀ x, (f x).2 = 0 → uSum (f x).1 = uSum x + d) : ∀ K, (walkR f idx R K).2 = 0 → ∀ k, uSum ((walkR f idx R K).1 k) = uSum (R k) + d * cntI idx k K
  | 0, _, k => by show uSum (R k) = uSum (R k) + d * 0; omega
  | K + 1, h, k => by
    unfold walkR at h ⊢
    by_cases h1 : (walkR f idx R K).2 = 0
    · have ih := walkR_sum hf K h1 k
      rw [if_pos h1] at h ⊢
      by_cases h2 : (f ((walkR f idx R K).1 (idx K))).2 = 0
      · rw [if_pos h2]
        show uSum (updA _ (idx K) _ k) = _
        unfold updA cntI
        rw [Int.mul_add]
        by_cases h3 : k = idx K
        · subst h3
          rw [if_pos rfl, if_pos rfl, hf _ h2, ih]; omega
        · rw [if_neg h3, if_neg (fun h => h3 h.symm), ih]; omega
      · rw [if_neg h2] at h; exact absurd h h2
    · rw [if_neg h1] at h; exact absurd h h1
theorem cnt_eq {t : Nat → Nat → Int} {tn k : Nat} {x y : Int} {idx : Nat → Nat} : ∀ K, (∀ i, i < K → (idx i = k ↔ iterT t tn i x = y)) → cntI idx k K = cntP t tn x y K
  | 0, _ => rfl
  | K + 1, h => by
    unfold cntI cntP
    rw [cnt_eq K fun i hi => h i (by omega)]
    by_cases e : idx K = k
    · rw [if_pos e, if_pos ((h K (by omega)).1 e)]
    · rw [if_neg e, if_neg (fun h2 => e ((h K (by omega)).2 h2))]
theorem idx_iff (h : Inv0 L T) {x : Int} {i k : Nat} (hk : k < L.nn) (hi : i < pathK L.t L.tn x) : idxT L x i = k ↔ iterT L.t L.tn i x = L.id k := by
  obtain ⟨j, hj, e, e2⟩ := find_nat (pathK_lt hi)
  have hj' : j < L.nn := by rw [← h.tnn]; exact hj
  have hx : idxT L x i = j := by unfold idxT; rw [h.node, e]; rfl
  rw [hx]
  have e3 : L.id j = iterT L.t L.tn i x := by rw [← (h.tid j hj').1]; exact e2
  constructor
  · rintro rfl; exact e3.symm
  intro e4; exact h.inj j k hj' hk (e3.trans e4)
theorem uSum_low {x : Nat → Int} {a : Nat} {n : Int} (ha : a < 6) : uSum (upd x a n) = uSum x := by
  have hc : ∀ k, C (upd x a n) k = C x k := fun k => upd_other _ _ _ _ (by omega)
  have hf : ∀ k, F (upd x a n) k = F x k := fun k => upd_other _ _ _ _ (by omega)
  unfold uSum; simp only [hc, hf]
theorem req_some (h : mayE v = true) (hk : v.kind = 4) : 1 ≤ v.req := by
  unfold mayE at h
  simp only [Bool.and_eq_true] at h
  have hf := h.2
  unfold fieldsE at hf
  rw [if_neg (by omega), if_neg (by omega), if_neg (by omega), if_pos hk] at hf
  simp only [Bool.and_eq_true, decide_eq_true_eq] at hf
  exact hf.1.1
theorem gb_ins {n k : Nat} {g : Nat → Nat → Int} {x : Nat → Int} (hk : k ≤ n) (P : (Nat → Int) → Prop) (h : ∀ q, q < n → P (g q)) (hx : P x) : ∀ q, q < n + 1 → P (Fx.insI g k x q) := fun q hq => by
  rcases insI_old hk hq with rfl | ⟨j, hj, e, _, _⟩
  · rw [insI_eq]; exact hx
  · rw [e]; exact h j hj
attribute [local irreducible] pathK in
theorem invS_takes (h0 : Inv0 L T) (h : InvS L) (hm : mayE v = true) (hk : v.kind = 3) (hE : takesE L v = 0) : InvS (takesC L v) := by
  unfold takesE at hE
  split at hE; · cases hE
  split at hE; · cases hE
  rename_i hp
  have hb := may_bd hm
  have ha := fields_amt hm (.inr (.inl hk))
  unfold takesC addReq
  have hsum := walkR_sum (f := fun x => takeM x v.o v.amt) (idx := idxT L v.node) (R := L.R) (d := v.amt) (fun x hx => by obtain ⟨_, _, _, _, _, _, _, _, _, _, hu, _⟩ := take_ok hx; exact hu) _ hE
  refine ⟨fun k hk => ?_, fun q hq => ?_⟩
  · show uSum ((takesW L v).1 k) = openN L.t L.tn (Fx.insI L.g (Fx.down (fun i => gtG v (L.g i)) L.gn) (grN v)) (L.id k) (L.gn + 1)
    rw [open_ins _ (Fx.down_le _ _)]
    have := hsum k
    rw [show openG L.t L.tn (grN v) (L.id k) = v.amt * cntT L.t L.tn v.node (L.id k) from rfl, ← h.us k hk]
    unfold cntT
    rw [← cnt_eq (idx := idxT L v.node) (k := k) _ fun i hi => idx_iff h0 hk hi]
    exact this
  exact gb_ins (Fx.down_le _ _) (fun y => 0 ≤ findT L.t L.tn (y 2) ∧ 1 ≤ y 0 ∧ y 0 ≤ 6 ∧ 0 ≤ y 3 ∧ y 3 ≤ 1125899906842624) h.gb
    ⟨pathK_lt (i := 0) (x := v.node) (by omega), hb.1, hb.2.1, by show 0 ≤ v.amt; omega, ha.2⟩ q hq
attribute [local irreducible] pathK in
theorem invS_frees (h0 : Inv0 L T) (h : InvS L) (hm : mayE v = true) (hk : v.kind = 4) (hE : freesE L v = 0) : InvS (freesC L v) := by
  unfold freesE at hE
  split at hE; · cases hE
  split at hE; · cases hE
  rename_i hp
  have hr := req_some hm hk
  have hg : 0 ≤ L.grant v.o v.of := by rcases ilt (L.grant v.o v.of) with h | h; · exact absurd (.inl h) hp
                                       · exact h
  have hz : L.g (kgN L v) 4 = 0 := by
    by_cases e : L.g (kgN L v) 4 = 0
    · exact e
    · exact absurd (.inr e) hp
  have hkg : kgN L v < L.gn := by
    rcases firstI_spec (fun i => decide (L.g i 0 = v.o) && decide (L.g i 1 = v.of)) L.gn with ⟨k, hk, e, _⟩ | ⟨e, _⟩
    · have e' : L.grant v.o v.of = (k : Int) := e
      unfold kgN; rw [e']; exact hk
    · have e' : L.grant v.o v.of = -1 := e
      omega
  unfold freesC addReq freesW
  unfold freesW at hE
  generalize kgN L v = q at *
  have hsum := walkR_sum (f := fun x => freeM x v.o (L.g q 3)) (idx := idxT L (L.g q 2)) (R := L.R) (d := -(L.g q 3)) (fun x hx => by obtain ⟨_, _, _, _, _, _, _, _, _, hu, _⟩ := free_ok hx; rw [hu]; omega) _ hE
  have hb := h.gb q hkg
  refine ⟨fun k hk => ?_, fun p hp => ?_⟩
  · show uSum ((walkR _ _ _ _).1 k) = openN L.t L.tn (updA L.g q (updA (L.g q) 4 v.req)) (L.id k) L.gn
    rw [open_upd _ hkg, ← h.us k hk, hsum k]
    have e1 : openG L.t L.tn (updA (L.g q) 4 v.req) (L.id k) = 0 := by
      unfold openG; rw [if_neg]; show ¬ v.req = 0; omega
    have e2 : openG L.t L.tn (L.g q) (L.id k) = L.g q 3 * cntT L.t L.tn (L.g q 2) (L.id k) := if_pos hz
    rw [e1, e2]
    unfold cntT
    rw [← cnt_eq (idx := idxT L (L.g q 2)) (k := k) _ fun i hi => idx_iff h0 hk hi, Int.neg_mul]
    omega
  show 0 ≤ findT L.t L.tn (updA L.g q (updA (L.g q) 4 v.req) p 2) ∧ 1 ≤ updA L.g q (updA (L.g q) 4 v.req) p 0 ∧ updA L.g q (updA (L.g q) 4 v.req) p 0 ≤ 6 ∧ 0 ≤ updA L.g q (updA (L.g q) 4 v.req) p 3 ∧ updA L.g q (updA (L.g q) 4 v.req) p 3 ≤ 1125899906842624
  by_cases e : p = q
  · subst e
    have e1 : ∀ j, j ≠ 4 → updA L.g p (updA (L.g p) 4 v.req) p j = L.g p j := fun j hj => by
      show (if p = p then updA (L.g p) 4 v.req else L.g p) j = _
      rw [if_pos rfl]; exact if_neg hj
    rw [e1 2 (by omega), e1 0 (by omega), e1 3 (by omega)]; exact hb
  have e1 : updA L.g q (updA (L.g q) 4 v.req) p = L.g p := if_neg e
  rw [e1]; exact h.gb p hp
theorem invS_R {L' : LdC} (h : InvS L) (e1 : L'.nn = L.nn) (e2 : L'.id = L.id) (e3 : L'.tn = L.tn) (e4 : L'.t = L.t) (e5 : L'.gn = L.gn) (e6 : L'.g = L.g) (hR : ∀ k, k < L.nn → uSum (L'.R k) = uSum (L.R k)) : InvS L' := by
  refine ⟨fun k hk => ?_, fun q hq => ?_⟩
  · rw [e1] at hk; rw [e2, e3, e4, e5, e6, hR k hk]; exact h.us k hk
  rw [e5] at hq; rw [e3, e4, e6]; exact h.gb q hq
theorem updA_u {q : Nat} {r : Nat → Int} {R : Nat → Nat → Int} (hr : uSum r = uSum (R q)) (k : Nat) : uSum (updA R q r k) = uSum (R k) := by
  unfold updA; split
  · rename_i e; rw [e]; exact hr
  rfl
theorem TreeUp.path {t t' : Nat → Nat → Int} {tn : Nat} {id par z y : Int} (h : TreeUp t t' tn id par) (hid : 1 ≤ id) (hup : ∀ i, i < tn → t i 1 = 0 ∨ 0 ≤ findT t tn (t i 1)) (hd : ∃ D, D ≤ 4 ∧ findT t tn (iterT t tn D z) < 0) (hz : 0 ≤ findT t tn z) :
    cntT t' (tn + 1) z y = cntT t tn z y ∧ (y = id → cntT t tn z y = 0) := by
  obtain ⟨D, hD, hD2⟩ := hd
  obtain ⟨K, hK, hK2, hall⟩ := first_end D hD2
  have eK : K = pathK t tn z := pathK_eq hall hK2 hD2 (by omega)
  have hit : ∀ i, i ≤ K → iterT t' (tn + 1) i z = iterT t tn i z := fun i hi => h.iter i fun j hj => hall j (by omega)
  have hend : findT t' (tn + 1) (iterT t' (tn + 1) K z) < 0 := by
    rw [hit K (Nat.le_refl _)]
    rcases ilt (findT t' (tn + 1) (iterT t tn K z)) with h1 | h1
    · exact h1
    · exfalso
      rcases h.find.1 h1 with h2 | h2
      · omega
      · cases K with
        | zero => have : findT t tn z < 0 := hK2; omega
        | succ K =>
          obtain ⟨i, hi, e⟩ := findT_iff.1 (hall K (by omega))
          have e3 : iterT t tn (K + 1) z = t i 1 := by
            show t (findT t tn (iterT t tn K z)).toNat 1 = t i 1
            rw [← e, findT_at h.u hi]; rfl
          rw [e3] at h2 hK2
          rcases hup i hi with h4 | h4
          · omega
          · omega
  have eK' : K = pathK t' (tn + 1) z := pathK_eq (fun i hi => by rw [hit i (by omega)]; exact h.find.2 (.inl (hall i hi))) hend hend (by omega)
  have hc : ∀ n, n ≤ K → cntP t' (tn + 1) z y n = cntP t tn z y n := by
    intro n
    induction n with
    | zero => intro _; rfl
    | succ n ih => intro hn; unfold cntP; rw [ih (by omega), hit n (by omega)]
  refine ⟨?_, fun hy => ?_⟩
  · unfold cntT; rw [← eK, ← eK']; exact hc K (Nat.le_refl _)
  subst hy
  have : ∀ n, n ≤ K → cntP t tn z y n = 0 := by
    intro n
    induction n with
    | zero => intro _; rfl
    | succ n ih =>
      intro hn; unfold cntP
      rw [ih (by omega), if_neg]
      · rfl
      · intro e
        have := hall n (by omega)
        rw [e] at this
        have h5 := findT_no.2 h.no
        omega
  unfold cntT; rw [← eK]; exact this K (Nat.le_refl _)
attribute [local irreducible] pathK in
theorem invS_makes (h0 : Inv0 L T) (h : InvS L) (hm : mayE v = true) (hk : v.kind = 1) (hE : makesE L v = 0) : InvS (makesC L v) := by
  obtain ⟨k, hkn, hx1, hnt, hamt, a3, a5, eC, hrise, htid, hup⟩ := makes_tree h0 hm hk hE
  have hro := regN_lt hm
  rw [eC]
  generalize idE v.o v.seq = x at *
  have hpar : ∀ i, i < L.tn → L.t i 1 = 0 ∨ 0 ≤ findT L.t L.tn (L.t i 1) := fun i hi => by
    have hi' := hi
    rw [h0.tnn] at hi'
    rw [(h0.tid i hi').2]
    rcases h0.up i hi' with e | ⟨j, hj, e⟩
    · exact .inl e
    · exact .inr (findT_iff.2 ⟨j, by rw [h0.tnn]; exact hj, by rw [(h0.tid j hj).1]; exact e⟩)
  have hp : ∀ q, q < L.gn → ∀ y, cntT (insT L.t k x v.node) (L.tn + 1) (L.g q 2) y = cntT L.t L.tn (L.g q 2) y ∧ (y = x → cntT L.t L.tn (L.g q 2) y = 0) := fun q hq y => hup.path hx1 hpar (h0.dep _) (h.gb q hq).1
  refine ⟨fun i hi => ?_, fun q hq => ?_⟩
  · show uSum (Fx.insI L.R k (upd (fun _ => 0) (regN v) v.amt) i) = openN (insT L.t k x v.node) (L.tn + 1) L.g (Fx.insI L.id k x i) L.gn
    rw [open_cong (t := L.t) (tn := L.tn) (g := L.g) (y := Fx.insI L.id k x i) L.gn fun q hq => by unfold openG; rw [(hp q hq _).1]]
    rcases insI_old hkn hi with rfl | ⟨j, hj, e, _, _⟩
    · rw [insI_eq, insI_eq, uSum_low hro, open_zero L.gn fun q hq => by unfold openG; rw [(hp q hq _).2 rfl, Int.mul_zero]; exact ite_self _]
      rfl
    rw [e, e]; exact h.us j hj
  have hg := h.gb q hq
  exact ⟨hup.find.2 (.inl hg.1), hg.2⟩
theorem invS_does (h0 : Inv0 L T) (h : InvS L) (hm : mayE v = true) (hE : doesE L v = 0) : InvS (doesC L v) := by
  have hk := fields_kind hm
  have hro := regN_lt hm
  unfold doesE at hE
  unfold doesC
  by_cases k1 : v.kind = 1
  · rw [if_pos k1] at hE ⊢; exact invS_makes h0 h hm k1 hE
  by_cases k2 : v.kind = 2
  · rw [if_neg k1, if_pos k2] at hE ⊢
    exact invS_R h rfl rfl rfl rfl rfl rfl fun k _ => updA_u (uSum_low hro) k
  by_cases k3 : v.kind = 3
  · rw [if_neg k1, if_neg k2, if_pos k3] at hE ⊢; exact invS_takes h0 h hm k3 hE
  by_cases k4 : v.kind = 4
  · rw [if_neg k1, if_neg k2, if_neg k3, if_pos k4] at hE ⊢; exact invS_frees h0 h hm k4 hE
  by_cases k5 : v.kind = 5
  · rw [if_neg k1, if_neg k2, if_neg k3, if_neg k4, if_pos k5] at hE ⊢
    unfold movesE at hE
    split at hE; · cases hE
    split at hE; · cases hE
    obtain ⟨_, _, _, _, _, _, _, _, _, _, hM, _⟩ := move_ok hE
    exact invS_R h rfl rfl rfl rfl rfl rfl fun k _ => updA_u hM.u k
  rw [if_neg k1, if_neg k2, if_neg k3, if_neg k4, if_neg k5]
  split
  · exact invS_R h rfl rfl rfl rfl rfl rfl fun _ _ => rfl
  exact invS_R h rfl rfl rfl rfl rfl rfl fun _ _ => rfl
theorem pathK_le {t : Nat → Nat → Int} {tn D : Nat} {x : Int} (h : findT t tn (iterT t tn D x) < 0) : pathK t tn x ≤ D := by
  rcases Nat.lt_or_ge D (pathK t tn x) with h1 | h1
  · have := pathK_lt h1; omega
  exact h1
theorem Inv0.path4 (h : Inv0 L T) (x : Int) : pathK L.t L.tn x ≤ 4 := by
  obtain ⟨D, hD, h2⟩ := h.dep x
  have := pathK_le h2; omega
theorem updc_bd {x : Nat → Int} {p : Nat} {n c : Int} (h : ∀ a, a < 54 → x a ≤ c) (hn : n ≤ c) : ∀ a, a < 54 → upd x p n a ≤ c := fun a ha => by
  show (if a = p then n else x a) ≤ c
  split
  · exact hn
  · exact h a ha
theorem walkR_bd {f : (Nat → Int) → (Nat → Int) × Int} {idx : Nat → Nat} {R : Nat → Nat → Int} {n : Nat} {B d : Int} (hd : 0 ≤ d) (hf : ∀ x c, (f x).2 = 0 → (∀ a, a < 54 → x a ≤ c) → ∀ a, a < 54 → (f x).1 a ≤ c + d) (h0 : ∀ k, k < n → ∀ a, a < 54 → R k a ≤ B) : ∀ (K : Nat) k, k < n → ∀ a, a < 54 → (walkR f idx R K).1 k a ≤ B + d * (K : Int)
  | 0, k, hk, a, ha => by have h := h0 k hk a ha; show R k a ≤ B + d * 0; omega
  | K + 1, k, hk, a, ha => by
    have ih := walkR_bd hd hf h0 (idx := idx) K
    have e : d * ((K + 1 : Nat) : Int) = d * (K : Int) + d := by rw [Int.natCast_succ, Int.mul_add, Int.mul_one]
    rw [e]
    unfold walkR
    by_cases h1 : (walkR f idx R K).2 = 0
    · rw [if_pos h1]
      by_cases h2 : (f ((walkR f idx R K).1 (idx K))).2 = 0
      · rw [if_pos h2]
        show (if k = idx K then _ else _ : Nat → Int) a ≤ _
        by_cases h3 : k = idx K
        · rw [if_pos h3]
          have := hf _ (B + d * (K : Int)) h2 (by rw [← h3]; exact ih k hk) a ha; omega
        · rw [if_neg h3]; have := ih k hk a ha; omega
      · rw [if_neg h2]; have := ih k hk a ha; show (walkR f idx R K).1 k a ≤ _; omega
    · rw [if_neg h1]; have := ih k hk a ha; omega
theorem takeM_bd {i n c : Int} {x : Nat → Int} (hn : n ≤ 65536) (h : (takeM x i n).2 = 0) (hx : ∀ a, a < 54 → x a ≤ c) : ∀ a, a < 54 → (takeM x i n).1 a ≤ c + 65536 := by
  obtain ⟨a, ha, _, _, _, _, _, _, _, _, _, e⟩ := take_ok h
  rw [e]
  have := hx (6 + a) (by omega)
  exact updc_bd (fun b hb => by have := hx b hb; omega) (by omega)
theorem freeM_bd {i n c : Int} {x : Nat → Int} (h : (freeM x i n).2 = 0) (hx : ∀ a, a < 54 → x a ≤ c) : ∀ a, a < 54 → (freeM x i n).1 a ≤ c + 0 := by
  obtain ⟨a, ha, _, _, _, h5, _, _, _, _, e⟩ := free_ok h
  rw [e, Int.add_zero]
  have h1 := hx (6 + a) (by omega)
  have h2 : n ≤ x (6 + a) - x (12 + a) := h5
  exact updc_bd hx (by omega)
theorem rq_more (h : InvB L T) {a : Nat} {r : Int} (hr : r ≤ 256) : ∀ i, i < 6 → ∀ j, j < updA L.rn a (L.rn a + 1) i → updA L.rq a (updA (L.rq a) (L.rn a) r) i j ≤ 256 := fun i hi j hj => by
  unfold updA at hj ⊢
  by_cases e : i = a
  · subst e
    rw [if_pos rfl] at hj ⊢
    by_cases e2 : j = L.rn i
    · rw [if_pos e2]; exact hr
    · rw [if_neg e2]; exact h.rq i hi j (by omega)
  · rw [if_neg e] at hj ⊢; exact h.rq i hi j hj
attribute [local irreducible] pathK in
theorem invB_does (h0 : Inv0 L T) (h : InvB L T) (hs : EvSm v) (hm : mayE v = true) (hE : doesE L v = 0) :
    (∀ k, k < (doesC L v).nn → ∀ a, a < 54 → (doesC L v).R k a ≤ 2097152 * ((T + 1 : Nat) : Int)) ∧ (∀ i, i < 6 → ∀ j, j < (doesC L v).rn i → (doesC L v).rq i j ≤ 256) := by
  have hk := fields_kind hm
  have hro := regN_lt hm
  have hT : (0 : Int) ≤ (T : Int) := Int.natCast_nonneg _
  have hTs : ((T + 1 : Nat) : Int) = (T : Int) + 1 := Int.natCast_succ _
  have hmono : ∀ k, k < L.nn → ∀ a, a < 54 → L.R k a ≤ 2097152 * ((T + 1 : Nat) : Int) := fun k hk a ha => by have := h.rb k hk a ha; omega
  have hup : ∀ q r, (∀ a, a < 54 → r a ≤ 2097152 * ((T + 1 : Nat) : Int)) → ∀ k, k < L.nn → ∀ a, a < 54 → updA L.R q r k a ≤ 2097152 * ((T + 1 : Nat) : Int) := fun q r hr k hk a ha => by
    unfold updA; split
    · exact hr a ha
    · exact hmono k hk a ha
  have hsa := hs.amt
  unfold doesE at hE
  unfold doesC
  by_cases k1 : v.kind = 1
  · rw [if_pos k1] at hE ⊢
    obtain ⟨k, hkn, hx1, hnt, hamt, a3, a5, eC, hrise, htid, hup2⟩ := makes_tree h0 hm k1 hE
    rw [eC]
    refine ⟨fun i hi a ha => ?_, h.rq⟩
    show Fx.insI L.R k (upd (fun _ => 0) (regN v) v.amt) i a ≤ _
    rcases insI_old hkn hi with rfl | ⟨j, hj, e, _, _⟩
    · rw [insI_eq]
      exact updc_bd (c := 2097152 * ((T + 1 : Nat) : Int)) (fun b _ => by omega) (by omega) a ha
    rw [e]; exact hmono j hj a ha
  by_cases k2 : v.kind = 2
  · rw [if_neg k1, if_pos k2] at hE ⊢
    unfold raiseE at hE
    split at hE; · cases hE
    rename_i n1
    split at hE; · cases hE
    have hq := h0.nodeK n1
    have h54 := h.rb _ hq (regN v) (by omega)
    exact ⟨hup _ _ (updc_bd (fun b hb => hmono _ hq b hb) (by omega)), h.rq⟩
  by_cases k3 : v.kind = 3
  · rw [if_neg k1, if_neg k2, if_pos k3] at hE ⊢
    have hw : ∀ k, k < L.nn → ∀ a, a < 54 → (takesW L v).1 k a ≤ 2097152 * ((T + 1 : Nat) : Int) := fun k hk a ha => by
      have h4 := h0.path4 v.node
      have := walkR_bd (f := fun x => takeM x v.o v.amt) (idx := idxT L v.node) (by decide) (fun x c => takeM_bd hsa) h.rb (pathK L.t L.tn v.node) k hk a ha
      unfold takesW; omega
    unfold takesC addReq
    generalize takesW L v = W at hw
    exact ⟨hw, rq_more h hs.req⟩
  by_cases k4 : v.kind = 4
  · rw [if_neg k1, if_neg k2, if_neg k3, if_pos k4] at hE ⊢
    have hw : ∀ k, k < L.nn → ∀ a, a < 54 → (freesW L v).1 k a ≤ 2097152 * ((T + 1 : Nat) : Int) := fun k hk a ha => by
      have := walkR_bd (f := fun x => freeM x v.o (L.g (kgN L v) 3)) (idx := idxT L (L.g (kgN L v) 2)) (Int.le_refl 0) (fun x c => freeM_bd) h.rb (pathK L.t L.tn (L.g (kgN L v) 2)) k hk a ha
      unfold freesW; omega
    unfold freesC addReq
    generalize freesW L v = W at hw
    exact ⟨hw, rq_more h hs.req⟩
  by_cases k5 : v.kind = 5
  · rw [if_neg k1, if_neg k2, if_neg k3, if_neg k4, if_pos k5] at hE ⊢
    unfold movesE at hE
    split at hE; · cases hE
    rename_i n1
    split at hE; · cases hE
    have hq := h0.nodeK n1
    obtain ⟨a, b, ha, hb, _, _, _, _, _, _, _, e⟩ := move_ok hE
    have h54 := h.rb _ hq (18 + a * 6 + b) (by omega)
    have h55 := hup (L.node v.node).toNat _ (updc_bd (x := L.R (L.node v.node).toNat) (p := 18 + a * 6 + b) (n := L.R (L.node v.node).toNat (18 + a * 6 + b) + v.amt) (fun b hb => hmono _ hq b hb) (by omega))
    refine ⟨?_, h.rq⟩
    show ∀ k, k < L.nn → ∀ c, c < 54 → updA L.R (L.node v.node).toNat (moveW L v).1 k c ≤ _
    unfold moveW
    rw [e]; exact h55
  rw [if_neg k1, if_neg k2, if_neg k3, if_neg k4, if_neg k5]
  split
  · exact ⟨hmono, h.rq⟩
  exact ⟨hmono, h.rq⟩
theorem InvB.mono {T' : Nat} (h : InvB L T) (hT : T ≤ T') : InvB L T' where
  kt := fun i hi => by have := h.kt i hi; omega
  rb := fun k hk a ha => by have := h.rb k hk a ha; omega
  rq := h.rq
theorem inv_apply (hs : EvSm v) (h : Inv L T) : Inv (applyC L v) (T + 1) := by
  refine ⟨inv0_apply h.toInv0, ?_, ?_⟩ <;> unfold applyC <;> by_cases h0 : applyE L v = 0
  · rw [if_pos h0]
    unfold applyE at h0
    split at h0; · cases h0
    rename_i h1
    split at h0; · cases h0
    split at h0; · cases h0
    split at h0; · cases h0
    have hm : mayE v = true := by simpa using h1
    have hd := invS_does h.toInv0 h.s hm h0
    exact ⟨hd.us, hd.gb⟩
  · rw [if_neg h0]; exact h.s
  · rw [if_pos h0]
    unfold applyE at h0
    split at h0; · cases h0
    rename_i h1
    split at h0; · cases h0
    split at h0; · cases h0
    split at h0; · cases h0
    have hm : mayE v = true := by simpa using h1
    have hd := invB_does h.toInv0 h.b hs hm h0
    refine ⟨fun i hi => ?_, hd.1, hd.2⟩
    have ek : (knowC (doesC L v) v).known = updA L.known (regN v) (L.known (regN v) + 1) := by unfold knowC; simp only [doesC_known]
    rw [ek]
    have h1 := h.b.kt i hi
    have h2 := h.b.kt (regN v) (regN_lt hm)
    unfold updA
    split <;> omega
  rw [if_neg h0]; exact h.b.mono (Nat.le_succ T)
theorem Inv.mono {T' : Nat} (h : Inv L T) (hT : T ≤ T') : Inv L T' := ⟨h.toInv0.mono hT, h.s, h.b.mono hT⟩
end
end Rt
end
section
namespace Rt
def evX (e : Nat → EvM) : Nat → Value := Fx.flat 14 fun k => evY (e k)
noncomputable def passC (e : Nat → EvM) (K : Nat → Int) (L : LdC) : Nat → LdC
  | 0 => L
  | j + 1 => if (e j).seq ≤ K (regN (e j)) then applyC (passC e K L j) (e j) else passC e K L j
def sameK (L M : LdC) : Prop := ∀ i, i < 6 → L.known i = M.known i
open Classical in
noncomputable def learnN (e : Nat → EvM) (n : Nat) (K : Nat → Int) : Nat → LdC → LdC
  | 0, L => L
  | f + 1, L => if sameK (passC e K L n) L then passC e K L n else learnN e n K f (passC e K L n)
noncomputable def learnC (e : Nat → EvM) (n : Nat) (K : Nat → Int) (L : LdC) : LdC := learnN e n K (n + 1) L
section
variable {e : Nat → EvM} {K : Nat → Int} {L M M' : LdC} {j n r : Nat}
theorem pass_yes (h : M = passC e K L j) (hc : (e j).seq ≤ K (regN (e j))) (h' : M' = applyC M (e j)) : M' = passC e K L (j + 1) := by unfold passC; rw [if_pos hc, ← h, h']
theorem pass_no (h : M = passC e K L j) (hc : ¬ (e j).seq ≤ K (regN (e j))) : M = passC e K L (j + 1) := by unfold passC; rw [if_neg hc, ← h]
theorem learn_end (hr : r ≤ n) (h : M = passC e K L n) (hs : sameK M L) : learnN e n K (n + 1 - r) L = M := by
  rw [show n + 1 - r = (n - r) + 1 by omega]; unfold learnN; rw [← h, if_pos hs]
theorem learn_on (hr : r ≤ n) (h : M = passC e K L n) (hs : ¬ sameK M L) : learnN e n K (n + 1 - (r + 1)) M = learnN e n K (n + 1 - r) L := by
  rw [show n + 1 - r = (n - r) + 1 by omega, show n + 1 - (r + 1) = n - r by omega]
  conv => rhs; unfold learnN
  rw [← h, if_neg hs]
theorem sameK_iff {m m' : LdM} : sameK m.core m'.core ↔ ∀ i, i < 6 → (Fx.rv .u64 m.s.known) i = (Fx.rv .u64 m'.s.known) i := by
  unfold sameK Fx.rv
  simp only [Value.int.injEq, true_and]; exact Iff.rfl
end
theorem KnOk.kd {K : Nat → Int} (h : KnOk K) : Fx.Kd (List.replicate 6 (some .u64)) (Fx.rv .u64 K) := Fx.kd_rv fun i hi => Fx.wfu64 (by have := h i hi; omega)
end Rt
attribute [irreducible] Rt.learnN
set_option maxRecDepth 20000 in
theorem l_learn (m : LdM) (B p T : Nat) (aa : Option Addr) (an ac : Nat) (ev : Nat → EvM) (K : Nat → Int) (w : World) (hL : LdO w B p m) (hI : Inv m.core T) (hA : Fx.Arr w aa an 14 (evX ev)) (hwf : ∀ k, k < an → EvWf (ev k)) (hmay : ∀ k, k < an → mayE (ev k) = true) (hsm : ∀ k, k < an → EvSm (ev k)) (han : an ≤ 60) (hT : T ≤ 890000) :
    Calls Try.prog 39 #[(pt p), .slice aa (an) (ac), .agg (Fx.varr 6 (Fx.rv .u64 K))] w fun e w' => ∃ p' m', e = .returned ((pt p')) ∧ m'.core = learnC ev an K m.core ∧ Inv m'.core (T + 3660) ∧ LdO w' B p' m' ∧ Below w.heap.size w w' := by
 refine Fx.enter Try.func39 rfl (n := 59) rfl (by rfl) ?_
 refine Ws (Wl (Fx.L.box (m := 6) (y := Fx.rv .u64 K) (by rfl) rfl rfl (Fx.cells_agg _ _) rfl fun g1 w1 eg1 m1 s1 z1 => ?_))
 have m2 := hL.up s1.old
 have b1 := s1.below (Below.refl w.heap.size w) (Below.refl w.heap.size w).size (Below.refl w.heap.size w).size
 have lg1 : w.heap.size ≤ g1 := by rw [eg1]; exact (Below.refl w.heap.size w).size
 have tg1 : g1 < w1.heap.size := m1.lt
 clear eg1
 refine Lv (.pointer none) (x_assign rfl rfl) (Ln (sN (Ws (Ws (Wl (Lv (.int .i64 (0)) (x_assign rfl rfl) (Ln (sN (Fx.W.block (Fx.W.loop (fun f w_ => ∃ r : Nat, ∃ p1 : Nat, ∃ m1 : LdM, ∃ T1 : Nat, r ≤ an + 1 ∧ learnN ev an K (an + 1 - r) m1.core = learnC ev an K m.core ∧ Inv m1.core T1 ∧ T1 ≤ T + r * 60 ∧ f 0 = (pt p1) ∧ f 1 = .slice aa (an) (ac) ∧ f 5 = (pt g1) ∧ f 7 = .int .i64 ((r : Int)) ∧ Fx.Blk w_ g1 6 (Fx.rv .u64 K) 32 ∧ LdO w_ B p1 m1 ∧ Below w.heap.size w w_) (fun f _ => (an + 1 - (intOf (f 7)).toNat)) ⟨0, p, m, T, by omega, rfl, hI, by omega, (by rfl), (by rfl), (by rfl), Fx.ic, m1, m2, b1⟩ ?_))))))))))
 rintro f1 w2 ⟨r, p1, m1, T1, hr, hc1, hI1, hT1, h1, h2, h3, h4, m3, m4, b2⟩
 refine Ws (Ws (Wl (Lv (.int .i64 ((r : Int))) (x_move rfl h4) (Lv (.slice aa (an) (ac)) (x_move rfl h2) (Lv (.int .i64 ((an : Int))) (x_len rfl rfl rfl (by kernel_rfl)) ?_)))))
 by_cases c13 : (r : Int) ≤ (an : Int)
 ·refine Lv (.bool true) (Fx.x_leqT rfl rfl rfl c13) (Ln (sN (Wc (b := true) rfl (fun _ => Wk (sN (Ws (Fx.W.block (Ws ?_))))) (fun h => nomatch h))))
  have hLc1 := m4.c
  refine Wl (Lv ((pt p1)) (x_move rfl h1) (Lv ((pt p1)) (x_nil rfl rfl) (Lv ((pt p1)) (x_field rfl rfl Try.underlying70 rfl (s := 20) (by kernel_rfl) rfl rfl) (Lv ((pf p1 12)) (x_field rfl rfl Try.underlying65 rfl (s := 6) (by kernel_rfl) rfl (by show _ + 12 = _; omega)) (Lv (.agg (Fx.varr 6 (Fx.rv .u64 m1.s.known))) (x_loadA (x := ldY m1) (y := Fx.rv .u64 m1.s.known) rfl rfl (by kernel_rfl) (by kernel_rfl) hLc1.cel (i := 12) (by omega) (by omega) (fun j hj => ldY_st _ (by omega) (stY_known _ hj (by omega)))) (Fx.L.new (m := 6) (y := Fx.rv .u64 (fun _ => 0)) (by rfl) rfl (by kernel_rfl) rfl fun g2 w3 eg2 m5 s2 z2 => ?_))))))
  have m6 := m3.stp s2 m3.ne
  have m7 := m4.up s2.old
  have b3 := s2.below b2 b2.size b2.size
  have lg2 : w.heap.size ≤ g2 := by rw [eg2]; exact b2.size
  have ng2m6 : g1 ≠ g2 := by rw [eg2]; exact Nat.ne_of_lt (m3.lt)
  have ng2m8 : p1 ≠ g2 := by rw [eg2]; exact Nat.ne_of_lt (hLc1.lt)
  have tg2 : g2 < w3.heap.size := m5.lt
  clear eg2
  refine Fx.L.storeA (x := Fx.rv .u64 (fun _ => 0)) (y := Fx.rv .u64 m1.s.known) (by rfl) rfl rfl rfl rfl (fun _ _ => rfl) (by kernel_rfl) m5 (i := 0) (by omega) fun w4 m9 s3 z3 => ?_
  have m10 : Fx.Blk w4 g2 6 (Fx.rv .u64 m1.s.known) 32 := Fx.ovr_all m9
  have m11 := m6.stp s3 (by omega)
  have hct1 := Fx.ChT.of_stp s3 m5.ty
  have m12 := m7.chT hct1 (by decide)
  have b4 := s3.below b3 b3.size (by omega)
  refine Ln (sN (Ws (Ws (Wl (Lv (.int .i64 (0)) (x_assign rfl rfl) (Ln (sN (Fx.W.block (Fx.W.loop (fun f w_ => ∃ j : Nat, ∃ p2 : Nat, ∃ m2 : LdM, ∃ T2 : Nat, j ≤ an ∧ m2.core = passC ev K m1.core j ∧ Inv m2.core T2 ∧ T2 ≤ T + r * 60 + j ∧ f 0 = (pt p2) ∧ f 1 = .slice aa (an) (ac) ∧ f 5 = (pt g1) ∧ f 7 = .int .i64 ((r : Int)) ∧ f 8 = (pt g2) ∧ f 9 = .int .i64 ((j : Int)) ∧ Fx.Blk w_ g1 6 (Fx.rv .u64 K) 32 ∧ Fx.Blk w_ g2 6 (Fx.rv .u64 m1.s.known) 32 ∧ LdO w_ B p2 m2 ∧ Below w.heap.size w w_) (fun f _ => (an - (intOf (f 9)).toNat)) ⟨0, p1, m1, T1, by omega, rfl, hI1, by omega, h1, h2, h3, (h4.trans Fx.ic), (by rfl), Fx.ic, m11, m10, m12, b4⟩ ?_)))))))))
  rintro f2 w5 ⟨j, p2, m2, T2, hj, hc2, hI2, hT2, h5, h6, h7, h8, h9, h10, m14, m15, m16, b5⟩
  refine Ws (Ws (Wl (Lv (.int .i64 ((j : Int))) (x_move rfl h10) (Lv (.slice aa (an) (ac)) (x_move rfl h6) (Lv (.int .i64 ((an : Int))) (x_len rfl rfl rfl (by kernel_rfl)) ?_)))))
  by_cases c24 : (j : Int) < (an : Int)
  ·refine Lv (.bool true) (Fx.x_lssT rfl rfl rfl c24) (Ln (sN (Wc (b := true) rfl (fun _ => Wk (sN (Ws (Fx.W.block (Ws ?_))))) (fun h => nomatch h))))
   obtain ⟨a, ha, ho⟩ := regE_nat (may_reg (hmay j (by omega)))
   have eN : regN (ev j) = a := by unfold regN; omega
   -- region 8 draws
   refine Fx.W.quiet (fun v1 => ∃ q, v1 = World.drewN w5 q) (by kernel_rfl) (by kernel_rfl) ⟨1, rfl⟩ ?_
   refine Qv (.slice aa (an) (ac)) (fun v1 hv1 => x_move rfl h6) (Qv (.int .i64 ((j : Int))) (fun v1 hv1 => x_move rfl h10) ?_)
   obtain ⟨bq1, oq1, eq1, m17⟩ := (hA.up b5 rfl) (by omega)
   have lbq1 : bq1 < w5.heap.size := m17.lt (by omega)
   refine Qv ((pf bq1 (14 * j + oq1))) (fun v1 hv1 => x_indexS rfl (rfl.trans (congrArg (fun q => Value.slice q (an) (ac)) eq1)) rfl Try.underlying46 (s := 14) (by kernel_rfl) (by omega) (by omega) (by omega)) (Qv ((pf bq1 (14 * j + oq1 + 1))) (fun v1 hv1 => x_field rfl rfl Try.underlying50 rfl (s := 1) (by kernel_rfl) rfl (by show _ + 1 = _; omega)) (Qv (.int .u64 ((ev j).seq)) (fun v1 hv1 => x_load1 (x := evX ev) rfl rfl (by kernel_rfl) (by obtain ⟨qd, rfl⟩ := hv1; exact m17) (i := 14 * j + 1) (by omega) (by omega) (Fx.flat_cell (k := j) (j := 1) (by omega) (by omega) rfl)) (Qv (.slice aa (an) (ac)) (fun v1 hv1 => x_move rfl h6) (Qv (.int .i64 ((j : Int))) (fun v1 hv1 => x_move rfl h10) (Qv ((pf bq1 (14 * j + oq1))) (fun v1 hv1 => x_indexS rfl (rfl.trans (congrArg (fun q => Value.slice q (an) (ac)) eq1)) rfl Try.underlying46 (s := 14) (by kernel_rfl) (by omega) (by omega) (by omega)) (Qv ((pf bq1 (14 * j + oq1))) (fun v1 hv1 => x_field rfl rfl Try.underlying50 rfl (s := 1) (by kernel_rfl) rfl rfl) (Qv (.int .i64 ((ev j).o)) (fun v1 hv1 => x_load1 (x := evX ev) rfl rfl (by kernel_rfl) (by obtain ⟨qd, rfl⟩ := hv1; exact m17) (i := 14 * j) (by omega) (by omega) (Fx.flat_cell (k := j) (j := 0) (by omega) (by omega) rfl)) (Qv (.int .i64 ((a : Int))) (fun v1 hv1 => Fx.x_sub rfl rfl rfl Fx.io) (Qv ((pf g1 a)) (fun v1 hv1 => x_index rfl h7 rfl Try.underlying32 (s := 1) (by kernel_rfl) (by omega) (by omega) (by omega)) (Qv (.int .u64 (K a)) (fun v1 hv1 => x_load1 (x := Fx.rv .u64 K) rfl rfl (by kernel_rfl) (by obtain ⟨qd, rfl⟩ := hv1; exact m14.cel) (i := a) (by omega) (by omega) rfl) ?_))))))))))
   by_cases c40 : ((ev j).seq) ≤ (K a)
   ·refine Qv (.bool true) (fun v1 hv1 => Fx.x_leqT rfl rfl rfl c40) (Fx.Qt.nil ?_)
    rintro _ ⟨qd, rfl⟩
    obtain ⟨wq1, ewq1⟩ : ∃ v1, v1 = World.drewN w5 qd := ⟨_, rfl⟩
    rw [← ewq1]
    have s4 : Fx.Stp w5.heap.size w5 wq1 := by rw [ewq1]; exact Sb (bdrN w5 qd)
    have m18 := m14.stp s4 m14.ne
    have m19 := m15.stp s4 m15.ne
    have m20 := m16.up s4.old
    have m21 := m17.stp s4 (Nat.ne_of_lt (m17.lt (by omega)))
    have b6 := s4.below b5 b5.size b5.size
    clear ewq1
    refine sN (Wc (b := true) rfl (fun _ => Wl (Lv ((pt p2)) (x_move rfl h5) ?_)) (fun h => nomatch h))
    refine Lv (.slice aa (an) (ac)) (x_move rfl h6) (Lv (.int .i64 ((j : Int))) (x_move rfl h10) (Lv ((pf bq1 (14 * j + oq1))) (x_indexS rfl (rfl.trans (congrArg (fun q => Value.slice q (an) (ac)) eq1)) rfl Try.underlying46 (s := 14) (by kernel_rfl) (by omega) (by omega) (by omega)) (Lv (.agg (Fx.varr 14 (evY (ev j)))) (x_loadA (x := evX ev) (y := evY (ev j)) rfl rfl (by kernel_rfl) (by kernel_rfl) m21 (i := 14 * j) (by omega) (by omega) (fun jq hjq => Fx.flat_at (k := j) (by omega) hjq)) (Fx.L.call (by rfl) (rC (args := [(pt p2), .agg (Fx.varr 14 (evY (ev j)))]) rfl rfl Try.func41 rfl rfl) rfl ((l_apply m2 B p2 T2 (ev j) _ m20 (hwf j (by omega)) hI2.w (by omega)).mono ?_)))))
    rintro e9 w6 ⟨p3, m3, he, hc3, hL1, hb1⟩
    refine ⟨.tuple #[(pt p3), .int .i64 (applyE m2.core (ev j))], he, ?_⟩
    clear he
    have s5 := Sb hb1
    have m22 := m18.stp s5 m18.ne
    have m23 := m19.stp s5 m19.ne
    have b7 := s5.below b6 b6.size b6.size
    refine Lv (.tuple #[(pt p3), .int .i64 (applyE m2.core (ev j))]) (x_move rfl rfl) (Lv ((pt p3)) (Fx.x_extract rfl rfl rfl) (Lv (.int .i64 (applyE m2.core (ev j))) (Fx.x_extract rfl rfl rfl) (Lv ((pt p3)) (x_assign rfl rfl) (Ln (Fx.blkN (sN (Wl (Lv (.int .i64 ((j : Int))) (x_move rfl h10) (Lv (.int .i64 ((j : Int) + 1)) (Fx.x_add rfl rfl rfl Fx.io) (Lv (.int .i64 ((j : Int) + 1)) (x_assign rfl rfl) (Ln (Fx.lpN ⟨j + 1, p3, m3, T2 + 1, by omega, (pass_yes hc2 (by rw [eN]; exact c40) hc3), (by rw [hc3]; exact inv_apply (hsm j (by omega)) hI2), by omega, (by rfl), h6, h7, (h8.trans Fx.ic), h9, Fx.ic, m22, m23, hL1, b7⟩ ?_))))))))))))
    show (an - (intOf ((.int .i64 ((j : Int) + 1)))).toNat) < _
    simp only [h10, intOf]; omega
   refine Qv (.bool false) (fun v1 hv1 => x_leqF rfl rfl rfl c40) (Fx.Qt.nil ?_)
   rintro _ ⟨qd, rfl⟩
   obtain ⟨wq2, ewq2⟩ : ∃ v1, v1 = World.drewN w5 qd := ⟨_, rfl⟩
   rw [← ewq2]
   have s6 : Fx.Stp w5.heap.size w5 wq2 := by rw [ewq2]; exact Sb (bdrN w5 qd)
   have m25 := m14.stp s6 m14.ne
   have m26 := m15.stp s6 m15.ne
   have m27 := m16.up s6.old
   have b8 := s6.below b5 b5.size b5.size
   clear ewq2
   refine sN (Wc (b := false) rfl (fun h => nomatch h) (fun _ => Wk (Fx.blkN (sN (Wl (Lv (.int .i64 ((j : Int))) (x_move rfl h10) (Lv (.int .i64 ((j : Int) + 1)) (Fx.x_add rfl rfl rfl Fx.io) (Lv (.int .i64 ((j : Int) + 1)) (x_assign rfl rfl) (Ln (Fx.lpN ⟨j + 1, p2, m2, T2, by omega, (pass_no hc2 (by rw [eN]; exact c40)), hI2, by omega, h5, h6, h7, (h8.trans Fx.ic), h9, Fx.ic, m25, m26, m27, b8⟩ ?_))))))))))
   show (an - (intOf ((.int .i64 ((j : Int) + 1)))).toNat) < _
   simp only [h10, intOf]; omega
  refine Lv (.bool false) (Fx.x_lssF rfl rfl rfl c24) (Ln (sN (Wc (b := false) rfl (fun h => nomatch h) (fun _ => Fx.W.exit (Fx.seqX (Fx.lpX (Fx.blkX (sN (Ws ?_)))))))))
  have hLc2 := m16.c
  -- region 10 draws
  refine Fx.W.quiet (fun v1 => ∃ q, v1 = World.drewN w5 q) (by kernel_rfl) (by kernel_rfl) ⟨1, rfl⟩ ?_
  refine Qv ((pt p2)) (fun v1 hv1 => x_move rfl h5) (Qv ((pt p2)) (fun v1 hv1 => x_nil rfl rfl) (Qv ((pt p2)) (fun v1 hv1 => x_field rfl rfl Try.underlying70 rfl (s := 20) (by kernel_rfl) rfl rfl) (Qv ((pf p2 12)) (fun v1 hv1 => x_field rfl rfl Try.underlying65 rfl (s := 6) (by kernel_rfl) rfl (by show _ + 12 = _; omega)) (Qv (.agg (Fx.varr 6 (Fx.rv .u64 m2.s.known))) (fun v1 hv1 => x_loadA (x := ldY m2) (y := Fx.rv .u64 m2.s.known) rfl rfl (by kernel_rfl) (by kernel_rfl) (by obtain ⟨qd, rfl⟩ := hv1; exact hLc2.cel) (i := 12) (by omega) (by omega) (fun j hj => ldY_st _ (by omega) (stY_known _ hj (by omega)))) (Qv (.agg (Fx.varr 6 (Fx.rv .u64 m1.s.known))) (fun v1 hv1 => x_loadA (x := Fx.rv .u64 m1.s.known) (y := Fx.rv .u64 m1.s.known) rfl h9 (by kernel_rfl) (by kernel_rfl) (by obtain ⟨qd, rfl⟩ := hv1; exact m15.cel) (i := 0) (by omega) (by omega) (fun j _ => by rw [Nat.zero_add])) ?_)))))
  by_cases c56 : ∀ i, i < 6 → (Fx.rv .u64 m2.s.known) i = (Fx.rv .u64 m1.s.known) i
  ·refine Qv (.bool true) (fun v1 hv1 => Fx.x_eqlA (n := 6) (ks := List.replicate 6 (some .u64)) (X := Fx.rv .u64 m2.s.known) (Y := Fx.rv .u64 m1.s.known) 12 true rfl rfl rfl (Fx.yesb c56) (KnOk.kd hI2.kn) (KnOk.kd hI1.kn) rfl (by kernel_rfl) (by kernel_rfl) (by kernel_rfl) (by kernel_rfl) (by kernel_rfl)) (Fx.Qt.nil ?_)
   rintro _ ⟨qd, rfl⟩
   obtain ⟨wq3, ewq3⟩ : ∃ v1, v1 = World.drewN w5 qd := ⟨_, rfl⟩
   rw [← ewq3]
   have s7 : Fx.Stp w5.heap.size w5 wq3 := by rw [ewq3]; exact Sb (bdrN w5 qd)
   have m31 := m16.up s7.old
   have b9 := s7.below b5 b5.size b5.size
   clear ewq3
   refine sN (Wc (b := true) rfl (fun _ => Ws (Wl (Lv ((pt p2)) (x_move rfl h5) ?_))) (fun h => nomatch h))
   refine Lv ((pt p2)) (x_assign rfl rfl) (Ln (sN (Wr (Fx.blkR (sR (Fx.lpR (Fx.blkR (sR (⟨(pt p2), rV Try.results39 (by exact rfl), ?_⟩)))))))))
   exact ⟨p2, m2, rfl, ((learn_end (n := an) (r := r) (by omega) (by rw [show an = j by omega]; exact hc2) (sameK_iff.2 c56)).symm.trans hc1), hI2.mono (by omega), m31, b9⟩
  refine Qv (.bool false) (fun v1 hv1 => Fx.x_eqlA (n := 6) (ks := List.replicate 6 (some .u64)) (X := Fx.rv .u64 m2.s.known) (Y := Fx.rv .u64 m1.s.known) 12 false rfl rfl rfl (Fx.nob c56) (KnOk.kd hI2.kn) (KnOk.kd hI1.kn) rfl (by kernel_rfl) (by kernel_rfl) (by kernel_rfl) (by kernel_rfl) (by kernel_rfl)) (Fx.Qt.nil ?_)
  rintro _ ⟨qd, rfl⟩
  obtain ⟨wq4, ewq4⟩ : ∃ v1, v1 = World.drewN w5 qd := ⟨_, rfl⟩
  rw [← ewq4]
  have s8 : Fx.Stp w5.heap.size w5 wq4 := by rw [ewq4]; exact Sb (bdrN w5 qd)
  have m33 := m14.stp s8 m14.ne
  have m35 := m16.up s8.old
  have b10 := s8.below b5 b5.size b5.size
  clear ewq4
  refine sN (Wc (b := false) rfl (fun h => nomatch h) (fun _ => Wk (Fx.blkN (sN (Wl (Lv (.int .i64 ((r : Int))) (x_move rfl h8) (Lv (.int .i64 ((r : Int) + 1)) (Fx.x_add rfl rfl rfl Fx.io) (Lv (.int .i64 ((r : Int) + 1)) (x_assign rfl rfl) (Ln (Fx.lpN ⟨r + 1, p2, m2, T2, by omega, (learn_on (by omega) (by rw [show an = j by omega]; exact hc2) (fun h => c56 (sameK_iff.1 h))).trans hc1, hI2, by omega, h5, h6, h7, Fx.ic, m33, m35, b10⟩ ?_))))))))))
  show (an + 1 - (intOf ((.int .i64 ((r : Int) + 1)))).toNat) < _
  simp only [h4, intOf]; omega
 refine Lv (.bool false) (x_leqF rfl rfl rfl c13) (Ln (sN (Wc (b := false) rfl (fun h => nomatch h) (fun _ => Fx.W.exit (Fx.seqX (Fx.lpX (Fx.blkX (sN (Ws (Wl (Lv ((pt p1)) (x_move rfl h1) (Lv ((pt p1)) (x_assign rfl rfl) (Ln (sN (Wr (⟨(pt p1), rV Try.results39 (by exact rfl), ?_⟩))))))))))))))))
 exact ⟨p1, m1, rfl, (by rw [← hc1, show an + 1 - r = 0 by omega]; unfold learnN; rfl), hI1.mono (by omega), m4, b2⟩
end
section
namespace Rt
def zeroE : EvM := ⟨0, 0, fun _ => 0, 0, 0, 0, 0, 0, 0⟩
def cntE (ev : Nat → EvM) : Nat → Nat → Int
  | 0, _ => 0
  | k + 1, i => cntE ev k i + if regN (ev k) = i then 1 else 0
structure KnC (ev : Nat → EvM) (an : Nat) (K : Nat → Int) : Prop where
  le : ∀ i, i < 6 → K i ≤ cntE ev an i
  cl : ∀ k, k < an → (ev k).seq ≤ K (regN (ev k)) → ∀ i, i < 6 → (ev k).deps i ≤ K i
structure Cz (n an : Nat) (ev : Nat → EvM) (kn : Nat → Nat → Int) : Prop where
  rd : ∀ k, k < an → readyE (cntE ev k) (ev k) = true
  reg : ∀ k, k < an → regN (ev k) < n
  own : ∀ o, o < n → kn o o = cntE ev an o
  kc : ∀ o, o < n → KnC ev an (kn o)
section
variable {ev : Nat → EvM} {an n j k i : Nat} {K : Nat → Int} {kn kn' : Nat → Nat → Int} {v : EvM} {L : LdC}
theorem cnt_le : ∀ d k i, cntE ev k i ≤ cntE ev (k + d) i
  | 0, _, _ => Int.le_refl _
  | d + 1, k, i => by have := cnt_le d k i; show _ ≤ cntE ev (k + d) i + _; split <;> omega
theorem cnt_mono (h : j ≤ k) : cntE ev j i ≤ cntE ev k i := by have := cnt_le (ev := ev) (k - j) j i; rwa [show j + (k - j) = k by omega] at this
theorem cnt_hit (h : j < k) : cntE ev j (regN (ev j)) + 1 ≤ cntE ev k (regN (ev j)) := by
  have h1 : cntE ev (j + 1) (regN (ev j)) ≤ cntE ev k (regN (ev j)) := cnt_mono (by omega)
  have h2 : cntE ev (j + 1) (regN (ev j)) = cntE ev j (regN (ev j)) + 1 := by show _ + (if _ then _ else _) = _; rw [if_pos rfl]
  omega
theorem cnt_nonneg : ∀ k i, 0 ≤ cntE ev k i
  | 0, _ => Int.le_refl _
  | k + 1, i => by have := cnt_nonneg k i; unfold cntE; split <;> omega
theorem rdy (h : readyE K v = true) : mayE v = true ∧ v.seq = K (regN v) + 1 ∧ ∀ i, i < 6 → v.deps i ≤ K i := by
  unfold readyE at h
  simp only [Bool.and_eq_true, decide_eq_true_eq] at h
  refine ⟨h.1.1, h.1.2, fun i hi => ?_⟩
  have := h.2
  unfold leAll at this
  rw [List.all_eq_true] at this
  exact of_decide_eq_true (this i (List.mem_range.2 hi))
theorem rdy_mk (h1 : mayE v = true) (h2 : v.seq = K (regN v) + 1) (h3 : ∀ i, i < 6 → v.deps i ≤ K i) : readyE K v = true := by
  unfold readyE
  simp only [Bool.and_eq_true, decide_eq_true_eq]
  refine ⟨⟨h1, h2⟩, ?_⟩
  unfold leAll
  rw [List.all_eq_true]
  intro i hi
  exact decide_eq_true (h3 i (List.mem_range.1 hi))
theorem Cz.seq (h : Cz n an ev kn) (hk : k < an) : (ev k).seq = cntE ev k (regN (ev k)) + 1 := (rdy (h.rd k hk)).2.1
theorem Cz.seq_le (h : Cz n an ev kn) (hk : k < an) : (ev k).seq ≤ cntE ev an (regN (ev k)) := by rw [h.seq hk]; exact cnt_hit hk
theorem Cz.uniq (h : Cz n an ev kn) (hj : j < an) (hk : k < an) (e1 : regN (ev j) = regN (ev k)) (e2 : (ev j).seq = (ev k).seq) : j = k := by
  rw [h.seq hj, h.seq hk] at e2
  rcases Nat.lt_trichotomy j k with h1 | h1 | h1
  · have := cnt_hit (ev := ev) h1; rw [e1] at this e2; omega
  · exact h1
  have := cnt_hit (ev := ev) h1; rw [← e1] at this e2; omega
theorem Cz.step (h : Cz n an ev kn) (hc : KnC ev an K) (hj : j < an) (hr : readyE K (ev j) = true) : KnC ev an (updA K (regN (ev j)) (K (regN (ev j)) + 1)) := by
  obtain ⟨_, r2, r3⟩ := rdy hr
  have up : ∀ i, K i ≤ updA K (regN (ev j)) (K (regN (ev j)) + 1) i := fun i => by unfold updA; split <;> (try subst_vars) <;> omega
  refine ⟨fun i hi => ?_, fun k hk hs i hi => ?_⟩
  · unfold updA; split
    · rename_i e; rw [e, ← r2]; exact h.seq_le hj
    exact hc.le i hi
  by_cases e : (ev k).seq ≤ K (regN (ev k))
  · exact Int.le_trans (hc.cl k hk e i hi) (up i)
  unfold updA at hs
  split at hs
  · rename_i e2
    rw [e2] at e
    have : k = j := h.uniq hk hj e2 (by omega)
    subst this
    exact Int.le_trans (r3 i hi) (up i)
  exact absurd hs e
theorem apply_ready (h : applyE L v = 0) : readyE L.known v = true := by
  unfold applyE at h
  split at h; · cases h
  split at h; · cases h
  split at h; · cases h
  rename_i h3
  cases e : readyE L.known v with
  | true => rfl
  | false => exact absurd e h3
theorem applyC_known (L : LdC) (v : EvM) : (applyE L v = 0 ∧ (applyC L v).known = updA L.known (regN v) (L.known (regN v) + 1)) ∨ (applyE L v ≠ 0 ∧ applyC L v = L) := by
  by_cases h : applyE L v = 0
  · refine .inl ⟨h, ?_⟩
    unfold applyC; rw [if_pos h]
    show updA (doesC L v).known _ _ = _
    rw [doesC_known]
  refine .inr ⟨h, ?_⟩
  unfold applyC; rw [if_neg h]
def KnO (ev : Nat → EvM) (an o : Nat) (K : Nat → Int) : Prop := KnC ev an K ∧ K o = cntE ev an o
theorem Cz.apply (h : Cz n an ev kn) {o : Nat} (hL : KnO ev an o L.known) (hj : j < an) : KnO ev an o (applyC L (ev j)).known := by
  rcases applyC_known L (ev j) with ⟨h1, h2⟩ | ⟨_, h2⟩
  · have hr := apply_ready h1
    rw [h2]
    refine ⟨h.step hL.1 hj hr, ?_⟩
    unfold updA
    split
    · rename_i e
      have := (rdy hr).2.1
      have h3 := h.seq_le hj
      rw [← e] at this h3
      have := hL.2
      omega
    exact hL.2
  rw [h2]; exact hL
theorem Cz.pass (h : Cz n an ev kn) {o : Nat} {Km : Nat → Int} (hL : KnO ev an o L.known) : ∀ j, j ≤ an → KnO ev an o (passC ev Km L j).known
  | 0, _ => hL
  | j + 1, hj => by
    unfold passC
    split
    · exact h.apply (h.pass hL j (by omega)) (by omega)
    · exact h.pass hL j (by omega)
theorem Cz.learnN (h : Cz n an ev kn) {o : Nat} {Km : Nat → Int} : ∀ f L, KnO ev an o L.known → KnO ev an o (learnN ev an Km f L).known
  | 0, L, hL => by unfold Rt.learnN; exact hL
  | f + 1, L, hL => by
    unfold Rt.learnN
    split
    · exact h.pass hL an (Nat.le_refl _)
    · exact h.learnN f _ (h.pass hL an (Nat.le_refl _))
theorem Cz.learn (h : Cz n an ev kn) {o : Nat} (ho : o < n) {Km : Nat → Int} (hk : L.known = kn o) (e1 : ∀ q, q ≠ o → kn' q = kn q) (e2 : kn' o = (learnC ev an Km L).known) : Cz n an ev kn' := by
  have h1 : KnO ev an o (learnC ev an Km L).known := h.learnN (an + 1) L (by rw [hk]; exact ⟨h.kc o ho, h.own o ho⟩)
  refine ⟨h.rd, h.reg, fun q hq => ?_, fun q hq => ?_⟩
  · by_cases e : q = o
    · subst e; rw [e2]; exact h1.2
    rw [e1 q e]; exact h.own q hq
  by_cases e : q = o
  · subst e; rw [e2]; exact h1.1
  rw [e1 q e]; exact h.kc q hq
theorem cnt_upd : ∀ k, k ≤ an → ∀ i, cntE (updA ev an v) k i = cntE ev k i
  | 0, _, _ => rfl
  | k + 1, hk, i => by
    have e : updA ev an v k = ev k := by unfold updA; rw [if_neg (by omega)]
    show cntE (updA ev an v) k i + (if regN (updA ev an v k) = i then 1 else 0) = cntE ev k i + if regN (ev k) = i then 1 else 0
    rw [e, cnt_upd k (by omega) i]
theorem cnt_new (i : Nat) : cntE (updA ev an v) (an + 1) i = cntE ev an i + if regN v = i then 1 else 0 := by
  show cntE (updA ev an v) an i + (if regN (updA ev an v an) = i then 1 else 0) = _
  rw [cnt_upd an (Nat.le_refl _)]
  unfold updA; rw [if_pos rfl]
theorem Cz.event (h : Cz n an ev kn) {o : Nat} (ho : o < n) (hr : readyE (kn o) v = true) (hv : regN v = o) (hd : v.deps = kn o) (e1 : ∀ q, q ≠ o → kn' q = kn q) (e2 : kn' o = updA (kn o) o (kn o o + 1)) : Cz n (an + 1) (updA ev an v) kn' := by
  obtain ⟨r1, r2, r3⟩ := rdy hr
  rw [hv] at r2
  have old : ∀ k, k < an → updA ev an v k = ev k := fun k hk => by unfold updA; rw [if_neg (by omega)]
  have new : updA ev an v an = v := by unfold updA; rw [if_pos rfl]
  have hown := h.own o ho
  refine ⟨fun k hk => ?_, fun k hk => ?_, fun q hq => ?_, fun q hq => ⟨fun i hi => ?_, fun k hk hs i hi => ?_⟩⟩
  · have e : cntE (updA ev an v) k = cntE ev k := funext fun i => cnt_upd k (by omega) i
    rw [e]
    by_cases ek : k = an
    · subst ek; rw [new]
      refine rdy_mk r1 (by rw [hv, r2, hown]) fun i hi => ?_
      exact Int.le_trans (r3 i hi) ((h.kc o ho).le i hi)
    rw [old k (by omega)]; exact h.rd k (by omega)
  · by_cases ek : k = an
    · subst ek; rw [new, hv]; exact ho
    rw [old k (by omega)]; exact h.reg k (by omega)
  · rw [cnt_new, hv]
    by_cases e : q = o
    · subst e; rw [e2, if_pos rfl]; unfold updA; rw [if_pos rfl, hown]
    rw [e1 q e, if_neg (fun x => e x.symm), h.own q hq, Int.add_zero]
  · rw [cnt_new, hv]
    by_cases e : q = o
    · subst e; rw [e2]; unfold updA
      split
      · rename_i ei; subst ei; rw [if_pos rfl, hown]; exact Int.le_refl _
      have := (h.kc q hq).le i hi; split <;> omega
    rw [e1 q e]; have := (h.kc q hq).le i hi; split <;> omega
  by_cases ek : k = an
  · subst ek
    rw [new] at hs ⊢
    by_cases e : q = o
    · subst e; rw [e2, hd]; unfold updA; split <;> (try subst_vars) <;> omega
    rw [e1 q e, hv, r2] at hs
    have := (h.kc q hq).le o
    have h6 : o < 6 := by have := regN_lt r1; omega
    have := this h6
    omega
  rw [old k (by omega)] at hs ⊢
  by_cases e : q = o
  · subst e
    rw [e2] at hs ⊢
    have up : ∀ i, kn q i ≤ updA (kn q) q (kn q q + 1) i := fun i => by unfold updA; split <;> (try subst_vars) <;> omega
    refine Int.le_trans ((h.kc q hq).cl k (by omega) ?_ i hi) (up i)
    unfold updA at hs
    split at hs
    · rename_i e3; have := h.seq_le (k := k) (by omega); rw [e3] at this ⊢; omega
    exact hs
  rw [e1 q e] at hs ⊢; exact (h.kc q hq).cl k (by omega) hs i hi
theorem Cz.zero (n : Nat) (h : ∀ o, o < n → kn o = fun _ => 0) : Cz n 0 ev kn := ⟨fun _ h => absurd h (Nat.not_lt_zero _), fun _ h => absurd h (Nat.not_lt_zero _), fun o ho => by rw [h o ho]; rfl, fun o ho => ⟨fun i _ => by rw [h o ho]; exact Int.le_refl _, fun _ h => absurd h (Nat.not_lt_zero _)⟩⟩
end
end Rt
end
section
namespace Rt
def GetR (m : LgM) (i q : Int) (v : EvM) (b : Bool) : Prop :=
  (b = true ∧ regE i = true ∧ ∃ r, r < (m.L (i - 1).toNat).length ∧ v = ((m.L (i - 1).toNat).getD r it0).e ∧ v.seq = q) ∨
  (b = false ∧ v = zeroE ∧ (regE i = false ∨ q = 0 ∨ ∀ r, r < (m.L (i - 1).toNat).length → ((m.L (i - 1).toNat).getD r it0).e.seq ≠ q))
theorem it_bld (v : EvM) (c : Int) (z : Nat → Value) : ∀ q, q < 15 → Fx.ovr (Fx.ovr z 0 14 (evY v)) 14 1 (fun _ => .int .u64 c) q = itY ⟨v, c⟩ q := fun q hq => by
  unfold Fx.ovr itY
  by_cases h : q < 14
  · rw [if_neg (by omega), if_pos (by omega), if_pos h, Nat.sub_zero]
  · rw [if_pos (by omega), if_neg h]
theorem it_bone (v : EvM) (c : Int) (z z2 : Nat → Value) : ∀ j, j < 1 * 15 → (Fx.ovr z2 (0 * 15) 15 (Fx.ovr (Fx.ovr z 0 14 (evY v)) 14 1 (fun _ => .int .u64 c)) j).oneCell' = true := fun j hj => by
  show (if 0 * 15 ≤ j ∧ j < 0 * 15 + 15 then _ else _ : Value).oneCell' = true
  rw [if_pos (by omega), it_bld v c z _ (by omega)]; exact itY_one _ _
theorem it_app {l : List ItM} {v : EvM} {c : Int} {z z2 : Nat → Value} : ∀ j, j < (l.length + 1) * 15 → Fx.appX (itX l) (l.length * 15) (Fx.ovr z2 (0 * 15) 15 (Fx.ovr (Fx.ovr z 0 14 (evY v)) 14 1 (fun _ => .int .u64 c))) j = itX (l ++ [⟨v, c⟩]) j := fun j hj =>
  (Fx.app_flat j hj).trans (Fx.flat_cong (fun k hk q hq => by
    unfold Fx.updF
    by_cases e : k = l.length
    · subst e; rw [if_pos rfl, it_bld v c z q hq]; simp
    · rw [if_neg e]; simp [List.getElem?_append_left (show k < l.length by omega)]) j hj)
theorem Lss.app {w w' : World} {B a g cap : Nat} {m : LgM} {x : ItM} (h : Lss w B m) (ha : a < 6)
    (hO : Fx.Own w' B 106 15 (.slice (some ⟨g, 0, none⟩) ((m.L a).length + 1) cap) ((m.L a).length + 1) (itX (m.L a ++ [x]))) (hg : w.grownBy w' (lvV m a).ownBlock) (hgv : (lvV m a).ownBlock = some g ∨ g = w.heap.size) :
    Lss w' B { m with a := updA m.a a (some ⟨g, 0, none⟩), c := updA m.c a cap, L := updA m.L a (m.L a ++ [x]) } := by
  refine h.put ha (by simpa using hO) (fun i hi e => ?_) (fun q hq => by obtain rfl : g = q := Option.some.inj hq; exact hgv.imp id (fun e => by omega))
  refine World.ownsRow.kept (h.1 i hi) hg ?_
  by_cases hn : (lvV m i).ownBlock = none
  · exact .inl hn
  right
  intro e3
  cases hq : (lvV m i).ownBlock with
  | none => exact hn hq
  | some q => rw [hq] at e3; exact h.2 i a hi ha e q hq e3.symm
def addG (m : LgM) (v : EvM) : Int := if mayE v = false then 1 else if lateE m.K v = true then 14 else if readyE m.K v = false then 13 else 0
def AddR (m m' : LgM) (v : EvM) : Prop := m'.K = upd m.K (regN v) v.seq ∧ m'.cnt = m.cnt + 1 ∧ m'.L = updA m.L (regN v) (m.L (regN v) ++ [⟨v, m.cnt⟩])
def SepS (w : World) (p : Nat) (m m' : LgM) : Prop := ∀ k, lgS p m' k → lgS p m k ∨ w.heap.size ≤ k
theorem SepS.add {w w3 : World} {p a g cap : Nat} {m m' : LgM} {l : List ItM} (ha : a < 6) (h1 : m'.a = updA m.a a (some ⟨g, 0, none⟩)) (h2 : m'.c = updA m.c a cap) (h3 : m'.L = updA m.L a l) (hgv : (lvV m a).ownBlock = some g ∨ g = w3.heap.size) (hs : w.heap.size ≤ w3.heap.size) : SepS w p m m' := fun k hk => by
  rcases hk with rfl | ⟨i, hi, e⟩
  · exact .inl (.inl rfl)
  · unfold lvV at e
    rw [h1, h2, h3] at e
    unfold updA at e
    by_cases c : i = a
    · subst c
      rw [if_pos rfl, if_pos rfl, if_pos rfl] at e
      obtain rfl : g = k := Option.some.inj e
      rcases hgv with h | h
      · exact .inl (.inr ⟨i, hi, h⟩)
      · exact .inr (by omega)
    · rw [if_neg c, if_neg c, if_neg c] at e
      exact .inl (.inr ⟨i, hi, e⟩)
theorem Lss.y {w : World} {B : Nat} {m : LgM} (h : Lss w B m) {m' : LgM} (e1 : m'.a = m.a) (e2 : m'.c = m.c) (e3 : m'.L = m.L) : Lss w B m' := by
  have e : ∀ i, lvV m' i = lvV m i := fun i => by unfold lvV; rw [e1, e2, e3]
  exact ⟨fun i hi => by rw [e, e3]; exact h.1 i hi, fun i j hi hj => by rw [e, e]; exact h.2 i j hi hj⟩
end Rt
open Rt
set_option maxRecDepth 10000 in
set_option maxHeartbeats 1000000 in
theorem o_add (v : EvM) (m : LgM) (B p T : Nat) (w : World) (h : LgO w B p m T) (hB : B ≤ w.heap.size) (hT : T ≤ 900000) (hv : EvWf v) :
    Calls Try.prog 19 #[(pt p), .agg (Fx.varr 14 (evY v))] w fun e w' => e = .returned (.int .i64 (addG m v)) ∧ Fx.Chg (lgS p m) w w' ∧ (addG m v = 0 → ∃ m', LgO w' B p m' (T + 1) ∧ AddR m m' v ∧ SepS w p m m') ∧ (addG m v ≠ 0 → LgO w' B p m T) := by
 refine Fx.enter Try.func19 rfl (n := 64) rfl (by rfl) ?_
 have hbk := h.blk
 have tp := hbk.lt
 have hls := h.ls
 have hcn := h.cn
 have hgp := h.gp
 have hkr := h.kr
 have hrs := may_seq (v := v)
 refine Ws (Wl (Fx.L.box (m := 14) (y := evY v) (by rfl) rfl rfl (Fx.cells_agg _ _) rfl fun g1 w1 eg1 m1 s1 z1 => ?_))
 have m2 := hbk.stp s1 hbk.ne
 have m3 := hls.up s1.old
 have b1 := (Fx.Chg.refl (lgS p m) w).then s1 (.inr (Fx.Chg.refl (lgS p m) w).size)
 have lg1 : w.heap.size ≤ g1 := by rw [eg1]; exact (Fx.Chg.refl (lgS p m) w).size
 have ng1m2 : p ≠ g1 := by rw [eg1]; exact Nat.ne_of_lt (hbk.lt)
 have tg1 : g1 < w1.heap.size := m1.lt
 clear eg1
 refine Lv (.int .i64 (0)) (x_assign rfl rfl) (Ln (sN (Ws (Fx.W.block (Ws (Wl (Lv ((pt p)) (x_move rfl rfl) (Lv (.bool false) (Fx.x_eqNil rfl rfl rfl (by kernel_rfl)) (Lv (.bool false) (x_assign rfl rfl) (Ln (sN (Wc (b := false) rfl (fun h => nomatch h) (fun _ => Ws (Wl (Lv (.agg (Fx.varr 14 (evY v))) (x_loadA (x := evY v) (y := evY v) rfl rfl (by kernel_rfl) (by kernel_rfl) m1.cel (i := 0) (by omega) (by omega) (fun j _ => by rw [Nat.zero_add])) ?_)))))))))))))))
 by_cases c11 : (mayE v) = true
 ·obtain ⟨a, ha, ea⟩ := regE_nat (may_reg c11)
  refine Fx.L.call (by rfl) (rC (args := [.agg (Fx.varr 14 (evY v))]) rfl rfl Try.func42 rfl rfl) rfl ((v_may v _ hv).mono ?_)
  rintro e w2 ⟨he, hb1⟩
  refine ⟨.bool true, by rw [he, c11], ?_⟩
  clear he
  have s2 := Sb hb1
  have m4 := m2.stp s2 m2.ne
  have m5 := m3.up s2.old
  have m6 := m1.stp s2 m1.ne
  have b2 := b1.then s2 (.inr b1.size)
  refine Lv (.bool false) (Fx.x_notF rfl rfl) (Lv (.bool false) (x_assign rfl rfl) (Ln (sN (Wc (b := false) rfl (fun h => nomatch h) (fun _ => Ws ?_)))))
  -- region 5 draws
  refine Fx.W.quiet (fun v1 => Below w2.heap.size w2 v1) (by kernel_rfl) (by kernel_rfl) (Below.refl _ _).drew ?_
  refine Qv ((pt p)) (fun v1 hv1 => x_move rfl rfl) (Qv ((pt p)) (fun v1 hv1 => x_nil rfl rfl) (Qv ((pf p 6)) (fun v1 hv1 => x_field rfl rfl Try.underlying100 rfl (s := 6) (by kernel_rfl) rfl (by show _ + 6 = _; omega)) (Qv (.agg (Fx.varr 6 (Fx.rv .u64 m.K))) (fun v1 hv1 => x_loadA (x := lgY m) (y := Fx.rv .u64 m.K) rfl rfl (by kernel_rfl) (by kernel_rfl) (m4.cel.below hv1 (by have := m4.lt; omega)) (i := 6) (by omega) (by omega) (fun j hj => lgY_K m (by omega) hj)) (Qv (.agg (Fx.varr 14 (evY v))) (fun v1 hv1 => x_loadA (x := evY v) (y := evY v) rfl rfl (by kernel_rfl) (by kernel_rfl) (m6.cel.below hv1 (by have := m6.lt; omega)) (i := 0) (by omega) (by omega) (fun j _ => by rw [Nat.zero_add])) ?_))))
  by_cases c19 : (lateE m.K v) = true
  ·refine Fx.Qt.call (v := .bool true) (by rfl) (fun v1 hv1 => rC (args := [.agg (Fx.varr 6 (Fx.rv .u64 m.K)), .agg (Fx.varr 14 (evY v))]) rfl rfl Try.func43 rfl rfl) rfl (fun v1 hv1 => (v_late m.K v _ hv).mono fun e v2 h => ⟨by rw [h.1, c19], bch hv1 h.2⟩) ?_
   refine Qv (.bool true) (fun v1 hv1 => x_assign rfl rfl) (Fx.Qt.nil ?_)
   intro wb1 hbwb1
   have s3 : Fx.Stp w2.heap.size w2 wb1 := Sb hbwb1
   have m7 := m4.stp s3 m4.ne
   have m8 := m5.up s3.old
   have b3 := b2.then s3 (.inr b2.size)
   refine sN (Wc (b := true) rfl (fun _ => Ws (Wl (Lv (.int .i64 (14)) (x_assign rfl rfl) ?_))) (fun h => nomatch h))
   refine Ln (sN (Wr (Fx.blkR (sR (⟨.int .i64 (14), rV Try.results19 (by exact rfl), ?_⟩)))))
   have ee : addG m v = 14 := by unfold addG; rw [if_neg (show ¬ mayE v = false by rw [c11]; decide), if_pos c19]
   exact ⟨by rw [ee], b3, fun h0 => (by rw [ee] at h0; cases h0), fun _ => ⟨m7, m8, hgp, h.len, h.cn, h.kr, h.wf⟩⟩
  rw [Bool.not_eq_true] at c19
  refine Fx.Qt.call (v := .bool false) (by rfl) (fun v1 hv1 => rC (args := [.agg (Fx.varr 6 (Fx.rv .u64 m.K)), .agg (Fx.varr 14 (evY v))]) rfl rfl Try.func43 rfl rfl) rfl (fun v1 hv1 => (v_late m.K v _ hv).mono fun e v2 h => ⟨by rw [h.1, c19], bch hv1 h.2⟩) ?_
  refine Qv (.bool false) (fun v1 hv1 => x_assign rfl rfl) (Fx.Qt.nil ?_)
  intro wb2 hbwb2
  have s4 : Fx.Stp w2.heap.size w2 wb2 := Sb hbwb2
  have m10 := m4.stp s4 m4.ne
  have m11 := m5.up s4.old
  have m12 := m6.stp s4 m6.ne
  have b4 := b2.then s4 (.inr b2.size)
  refine sN (Wc (b := false) rfl (fun h => nomatch h) (fun _ => Ws ?_))
  -- region 7 draws
  refine Fx.W.quiet (fun v1 => Below wb2.heap.size wb2 v1) (by kernel_rfl) (by kernel_rfl) (Below.refl _ _).drew ?_
  refine Qv ((pt p)) (fun v1 hv1 => x_move rfl rfl) (Qv ((pt p)) (fun v1 hv1 => x_nil rfl rfl) (Qv ((pf p 6)) (fun v1 hv1 => x_field rfl rfl Try.underlying100 rfl (s := 6) (by kernel_rfl) rfl (by show _ + 6 = _; omega)) (Qv (.agg (Fx.varr 6 (Fx.rv .u64 m.K))) (fun v1 hv1 => x_loadA (x := lgY m) (y := Fx.rv .u64 m.K) rfl rfl (by kernel_rfl) (by kernel_rfl) (m10.cel.below hv1 (by have := m10.lt; omega)) (i := 6) (by omega) (by omega) (fun j hj => lgY_K m (by omega) hj)) (Qv (.agg (Fx.varr 14 (evY v))) (fun v1 hv1 => x_loadA (x := evY v) (y := evY v) rfl rfl (by kernel_rfl) (by kernel_rfl) (m12.cel.below hv1 (by have := m12.lt; omega)) (i := 0) (by omega) (by omega) (fun j _ => by rw [Nat.zero_add])) ?_))))
  by_cases c26 : (readyE m.K v) = true
  ·refine Fx.Qt.call (v := .bool true) (by rfl) (fun v1 hv1 => rC (args := [.agg (Fx.varr 6 (Fx.rv .u64 m.K)), .agg (Fx.varr 14 (evY v))]) rfl rfl Try.func44 rfl rfl) rfl (fun v1 hv1 => (v_ready m.K v _ hv hkr).mono fun e v2 h => ⟨by rw [h.1, c26], bch hv1 h.2⟩) ?_
   refine Qv (.bool false) (fun v1 hv1 => Fx.x_notF rfl rfl) (Qv (.bool false) (fun v1 hv1 => x_assign rfl rfl) (Fx.Qt.nil ?_))
   intro wb3 hbwb3
   have s5 : Fx.Stp wb2.heap.size wb2 wb3 := Sb hbwb3
   have m13 := m10.stp s5 m10.ne
   have m14 := m11.up s5.old
   have m15 := m12.stp s5 m12.ne
   have b5 := b4.then s5 (.inr b4.size)
   refine sN (Wc (b := false) rfl (fun h => nomatch h) (fun _ => Wk (Fx.blkN (sN (Ws (Wl (Lv ((pt g1)) (x_field rfl rfl Try.underlying50 rfl (s := 1) (by kernel_rfl) rfl rfl) (Lv (.int .i64 (v.o)) (x_load1 (x := evY v) rfl rfl (by kernel_rfl) m15.cel (i := 0) (by omega) (by omega) rfl) (Lv (.int .i64 ((a : Int))) (Fx.x_sub rfl rfl rfl Fx.io) (Lv (.int .i64 ((a : Int))) (x_assign rfl rfl) (Ln (sN (Ws ?_)))))))))))))
   have hsq := hrs c11
   have hln := h.len a ha
   have m16 : Fx.Own wb3 B 106 15 (.slice (m.a a) ((m.L a).length) ((m.c a))) ((m.L a).length) (itX (m.L a)) := m14.1 a ha
   -- region 10 draws
   refine Fx.W.reord [0, 1, 2, 3, 4, 5, 6, 9, 10, 11, 16, 17, 7, 8, 12, 13, 14, 15, 18, 19] [0, 0, 0, 0, 0, 0, 0, 1, 4, 0, 0, 0, 4, 0, 2, 2, 0, 0, 0, 3] (Fx.ChT [106]) Fx.ChT.refl Fx.ChT.trans (certs := [(19, 7, [7]), (14, 8, [13, 8]), (15, 8, [14, 13, 8]), (19, 8, [8]), (14, 12, [13, 12]), (15, 12, [14, 13, 12]), (19, 12, [12]), (15, 14, [14]), (18, 14, [14]), (19, 14, [14]), (18, 15, [15]), (19, 15, [15])]) (by kernel_rfl) (by kernel_rfl) (by kernel_rfl) (by kernel_rfl) (by kernel_rfl) fun wt1 hbwt1 hzwt1 => ?_
   have s6 : Fx.Stp wb3.heap.size wb3 wt1 := Sb hbwt1
   have m17 := m13.stp s6 m13.ne
   have m18 := m14.up s6.old
   have m19 := m15.stp s6 m15.ne
   have m20 := m16.stp s6 (m16.notNew (Nat.le_refl _))
   have b6 := b5.then s6 (.inr b5.size)
   refine Rp ((pt p)) (fun v1 => x_move rfl rfl) (Rp (.int .i64 ((a : Int))) (fun v1 => x_move rfl rfl) (Rp ((pt p)) (fun v1 => x_move rfl rfl) (Rp (.int .i64 ((a : Int))) (fun v1 => x_move rfl rfl) (Rp ((pt p)) (fun v1 => x_nil rfl rfl) (Rp ((pt p)) (fun v1 => x_field rfl rfl Try.underlying100 rfl (s := 6) (by kernel_rfl) rfl rfl) (Rp ((pf p a)) (fun v1 => x_index rfl rfl rfl Try.underlying98 (s := 1) (by kernel_rfl) (by omega) (by omega) (by omega)) (Rp ((pt p)) (fun v1 => x_move rfl rfl) (Rp ((pt p)) (fun v1 => x_nil rfl rfl) (Rp ((pf p 12)) (fun v1 => x_field rfl rfl Try.underlying100 rfl (s := 1) (by kernel_rfl) rfl (by show _ + 12 = _; omega)) (Rp ((pt p)) (fun v1 => x_nil rfl rfl) (Rp ((pt p)) (fun v1 => x_field rfl rfl Try.underlying100 rfl (s := 6) (by kernel_rfl) rfl rfl) (Fx.R.read (v := .slice (m.a a) ((m.L a).length) ((m.c a))) (by rfl) (by rfl) (Fx.ChT.refl _) (fun v1 hv1 => x_load1 (x := lgY m) rfl rfl (by kernel_rfl) (m17.chT hv1 (by decide)).cel (i := a) (by omega) (by omega) (lgY_v m (by omega))) ?_))))))))))))
   refine Fx.R.s (.agg (Fx.varr 14 (evY v))) (x_loadA (x := evY v) (y := evY v) rfl rfl (by kernel_rfl) (by kernel_rfl) m19.cel (i := 0) (by omega) (by omega) (fun j _ => by rw [Nat.zero_add])) ?_
   refine Fx.R.s (.int .u64 (m.cnt)) (x_load1 (x := lgY m) rfl rfl (by kernel_rfl) m17.cel (i := 12) (by omega) (by omega) rfl) ?_
   refine Rp (.agg (Fx.varr 15 (Fx.ovr (Fx.ovr (fun zq => if zq < 1 then .int .i64 (0) else if zq < 8 then .int .u64 (0) else if zq < 9 then .int .u8 (0) else if zq < 10 then .int .u64 (0) else if zq < 12 then .int .i64 (0) else .int .u64 (0)) 0 14 (evY v)) 14 1 (fun _ => .int .u64 (m.cnt))))) (fun v1 => x_build (vs := [(0, .agg (Fx.varr 14 (evY v))), (1, .int .u64 (m.cnt))]) (places := #[(0, 14), (14, 1)]) (m := 15) (x := fun zq => if zq < 1 then .int .i64 (0) else if zq < 8 then .int .u64 (0) else if zq < 9 then .int .u8 (0) else if zq < 10 then .int .u64 (0) else if zq < 12 then .int .i64 (0) else .int .u64 (0)) rfl rfl Try.underlying106 (by kernel_rfl) (by kernel_rfl) (by rw [Fx.fill_step (off := 0) (s := 14) (y := evY v) (by kernel_rfl) (Fx.cells_agg _ _) (by rfl)]; rw [Fx.fill_step (off := 14) (s := 1) (y := fun _ => .int .u64 (m.cnt)) (by kernel_rfl) (Fx.cells_one (by rfl)) (by rfl)]; rfl)) (Fx.R.make (by rfl) ?_)
   refine Fx.L.bslice (vs := [(0, .agg (Fx.varr 15 (Fx.ovr (Fx.ovr (fun zq => if zq < 1 then .int .i64 (0) else if zq < 8 then .int .u64 (0) else if zq < 9 then .int .u8 (0) else if zq < 10 then .int .u64 (0) else if zq < 12 then .int .i64 (0) else .int .u64 (0)) 0 14 (evY v)) 14 1 (fun _ => .int .u64 (m.cnt)))))]) (s := 15) (zc := fun zq => if zq < 1 then .int .i64 (0) else if zq < 8 then .int .u64 (0) else if zq < 9 then .int .u8 (0) else if zq < 10 then .int .u64 (0) else if zq < 12 then .int .i64 (0) else .int .u64 (0)) (y := Fx.ovr (fun j => (fun zq => if zq < 1 then .int .i64 (0) else if zq < 8 then .int .u64 (0) else if zq < 9 then .int .u8 (0) else if zq < 10 then .int .u64 (0) else if zq < 12 then .int .i64 (0) else .int .u64 (0)) (j % 15)) (0 * 15) 15 (Fx.ovr (Fx.ovr (fun zq => if zq < 1 then .int .i64 (0) else if zq < 8 then .int .u64 (0) else if zq < 9 then .int .u8 (0) else if zq < 10 then .int .u64 (0) else if zq < 12 then .int .i64 (0) else .int .u64 (0)) 0 14 (evY v)) 14 1 (fun _ => .int .u64 (m.cnt)))) (by rfl) rfl rfl Try.underlying97 (by kernel_rfl) (by rfl) (by rfl) (by kernel_rfl) (by rw [Fx.fill_step (off := 0 * 15) (s := 15) (y := Fx.ovr (Fx.ovr (fun zq => if zq < 1 then .int .i64 (0) else if zq < 8 then .int .u64 (0) else if zq < 9 then .int .u8 (0) else if zq < 10 then .int .u64 (0) else if zq < 12 then .int .i64 (0) else .int .u64 (0)) 0 14 (evY v)) 14 1 (fun _ => .int .u64 (m.cnt))) rfl (Fx.cells_agg _ _) (by rfl)]; rfl) rfl fun g2 w3 eg2 m21 s7 z2 => ?_
   have m22 := m17.stp s7 m17.ne
   have m23 := m18.up s7.old
   have m24 := m19.stp s7 m19.ne
   have m25 := m20.stp s7 (m20.notNew (Nat.le_refl _))
   have b7 := b6.then s7 (.inr b6.size)
   have lg2 : w.heap.size ≤ g2 := by rw [eg2]; exact b6.size
   have ng2m22 : p ≠ g2 := by rw [eg2]; exact Nat.ne_of_lt (m17.lt)
   have ng2m24 : g1 ≠ g2 := by rw [eg2]; exact Nat.ne_of_lt (m19.lt)
   have ng2m25 : (.slice (m.a a) ((m.L a).length) ((m.c a)) : Value).ownBlock ≠ some g2 := by rw [eg2]; exact m20.notNew (Nat.le_refl _)
   have tg2 : g2 < w3.heap.size := m21.lt
   clear eg2
   refine Ln ⟨Fx.ChT.of_below s7.old, ?_⟩
   refine Fx.R.make (by rfl) ?_
   refine Fx.L.app (B := B) (s := 15) (bytes := 120) (k := ((m.L a).length)) (m := 1) (v := .slice (m.a a) ((m.L a).length) ((m.c a))) (x := itX (m.L a)) (by rfl) rfl rfl rfl Try.underlying97 (by kernel_rfl) (by kernel_rfl) rfl rfl m25 m21.cel (it_bone _ _ _ _) (by omega) (by omega) (by omega) (Nat.le_trans hB b7.size) fun g3 cap1 w4 ho1 hg1 hgv1 hlt1 => ?_
   have hct1 := Fx.ChT.of_grown hg1 m25
   have m27 := m22.chT hct1 (by decide)
   have m28 := m24.chT hct1 (by decide)
   have m26 : Fx.Own w4 B 106 15 (.slice (some ⟨g3, 0, none⟩) (((m.L a).length) + 1) cap1) (((m.L a).length) + 1) (itX (m.L a ++ [⟨v, m.cnt⟩])) := (ho1.congr (fun j hj => it_app j hj))
   have b8 : Fx.Chg (lgS p m) w w4 := Fx.Chg.grow b7 hg1 (fun q hq => .inl (.inr ⟨a, ha, hq⟩))
   have m29 : Lss w4 B { m with a := updA m.a a (some ⟨g3, 0, none⟩), c := updA m.c a cap1, L := updA m.L a (m.L a ++ [⟨v, m.cnt⟩]) } := Lss.app m23 ha m26 hg1 hgv1
   refine Ln ⟨hct1, ?_⟩
   refine Rp ((pf p a)) (fun v1 => x_index rfl rfl rfl Try.underlying98 (s := 1) (by kernel_rfl) (by omega) (by omega) (by omega)) (Fx.R.eff (by rfl) ?_)
   refine Fx.L.store1 (x := lgY m) (u := .slice (some ⟨g3, 0, none⟩) (((m.L a).length) + 1) (cap1)) (by rfl) rfl rfl rfl rfl (by rfl) (by kernel_rfl) m27 (i := a) (by omega) fun w5 m30 s8 z3 => ?_
   have m31 : Fx.Blk w5 p 13 (lgY { m with a := updA m.a a (some ⟨g3, 0, none⟩), c := updA m.c a cap1, L := updA m.L a (m.L a ++ [⟨v, m.cnt⟩]) }) 100 := m30.to (lgY_put m ha _ _ _ _ (by simp))
   have hct2 := Fx.ChT.of_stp s8 m27.ty
   have m32 := m28.chT hct2 (by decide)
   have m33 := m29.chT hct2 (by decide)
   have b9 := b8.then s8 (.inl (.inl rfl))
   refine Ln (Fx.R.nil (sN (Ws ?_)))
   -- region 11 draws
   refine Fx.W.tail 7 (by kernel_rfl) (by kernel_rfl) fun wt2 hbwt2 hzwt2 => ?_
   have s9 : Fx.Stp w5.heap.size w5 wt2 := Sb hbwt2
   have m34 := m32.stp s9 m32.ne
   have m35 := m33.up s9.old
   have m36 := m31.stp s9 m31.ne
   have b10 := b9.then s9 (.inr b9.size)
   refine Fx.St.v ((pt p)) (x_move rfl rfl) (Fx.St.v (.int .i64 ((a : Int))) (x_move rfl rfl) (Fx.St.v ((pf g1 1)) (x_field rfl rfl Try.underlying50 rfl (s := 1) (by kernel_rfl) rfl (by show _ + 1 = _; omega)) (Fx.St.v (.int .u64 (v.seq)) (x_load1 (x := evY v) rfl rfl (by kernel_rfl) m34.cel (i := 1) (by omega) (by omega) rfl) (Fx.St.v ((pt p)) (x_nil rfl rfl) (Fx.St.v ((pf p 6)) (x_field rfl rfl Try.underlying100 rfl (s := 6) (by kernel_rfl) rfl (by show _ + 6 = _; omega)) (Fx.St.v ((pf p (a + 6))) (x_index rfl rfl rfl Try.underlying32 (s := 1) (by kernel_rfl) (by omega) (by omega) (by omega)) (Fx.St.nil ?_)))))))
   refine Fx.L.store1 (x := lgY { m with a := updA m.a a (some ⟨g3, 0, none⟩), c := updA m.c a cap1, L := updA m.L a (m.L a ++ [⟨v, m.cnt⟩]) }) (u := .int .u64 (v.seq)) (by rfl) rfl rfl rfl rfl (by rfl) (by kernel_rfl) m36 (i := a + 6) (by omega) fun w6 m37 s10 z4 => ?_
   have m38 : Fx.Blk w6 p 13 (lgY { m with a := updA m.a a (some ⟨g3, 0, none⟩), c := updA m.c a cap1, L := updA m.L a (m.L a ++ [⟨v, m.cnt⟩]), K := upd m.K a v.seq }) 100 := m37.to (lgY_known _ (by omega) ha _)
   have hct3 := Fx.ChT.of_stp s10 m36.ty
   have m40 := m35.chT hct3 (by decide)
   have b11 := b10.then s10 (.inl (.inl rfl))
   refine Ln (sN (Ws (Wl (Lv ((pt p)) (x_move rfl rfl) (Lv ((pt p)) (x_nil rfl rfl) (Lv ((pf p 12)) (x_field rfl rfl Try.underlying100 rfl (s := 1) (by kernel_rfl) rfl (by show _ + 12 = _; omega)) (Lv (.int .u64 (m.cnt)) (x_load1 (x := lgY { m with a := updA m.a a (some ⟨g3, 0, none⟩), c := updA m.c a cap1, L := updA m.L a (m.L a ++ [⟨v, m.cnt⟩]), K := upd m.K a v.seq }) rfl rfl (by kernel_rfl) m38.cel (i := 12) (by omega) (by omega) rfl) (Lv (.int .u64 (m.cnt + 1)) (Fx.x_add rfl rfl rfl (Fx.u64e (by omega) (by omega))) (Lv ((pt p)) (x_nil rfl rfl) (Lv ((pf p 12)) (x_field rfl rfl Try.underlying100 rfl (s := 1) (by kernel_rfl) rfl (by show _ + 12 = _; omega)) (Fx.L.store1 (x := lgY { m with a := updA m.a a (some ⟨g3, 0, none⟩), c := updA m.c a cap1, L := updA m.L a (m.L a ++ [⟨v, m.cnt⟩]), K := upd m.K a v.seq }) (u := .int .u64 (m.cnt + 1)) (by rfl) rfl rfl rfl rfl (by rfl) (by kernel_rfl) m38 (i := 12) (by omega) fun w7 m41 s11 z5 => ?_)))))))))))
   have m42 : Fx.Blk w7 p 13 (lgY { m with a := updA m.a a (some ⟨g3, 0, none⟩), c := updA m.c a cap1, L := updA m.L a (m.L a ++ [⟨v, m.cnt⟩]), K := upd m.K a v.seq, cnt := m.cnt + 1 }) 100 := m41.congr (lgY_cnt _ _)
   have hct4 := Fx.ChT.of_stp s11 m38.ty
   have m44 := m40.chT hct4 (by decide)
   have b12 := b11.then s11 (.inl (.inl rfl))
   refine Ln (sN (Ws (Wl (Lv (.int .i64 (0)) (x_assign rfl rfl) (Ln (sN (Wr (⟨.int .i64 (0), rV Try.results19 (by exact rfl), ?_⟩))))))))
   have ee : addG m v = 0 := by unfold addG; rw [if_neg (show ¬ mayE v = false by rw [c11]; decide), if_neg (show ¬ lateE m.K v = true by rw [c19]; decide), if_neg (show ¬ readyE m.K v = false by rw [c26]; decide)]
   have eN : regN v = a := by unfold regN; omega
   refine ⟨by rw [ee], b12, fun _ => ⟨_, ⟨m42, m44.y rfl rfl rfl, hgp, fun i hi => ?_, ⟨by show 0 ≤ m.cnt + 1; omega, by show m.cnt + 1 ≤ ((T + 1 : Nat) : Int); omega⟩, fun i hi => ?_, fun i hi x hx => ?_⟩, by unfold AddR; rw [eN]; exact ⟨rfl, rfl, rfl⟩, SepS.add ha rfl rfl rfl hgv1 b7.size⟩, fun hn => absurd ee hn⟩
   ·show (updA m.L a (m.L a ++ [⟨v, m.cnt⟩]) i).length ≤ T + 1
    have := h.len i hi; unfold updA; split
    ·simp; omega
    omega
   ·show U64r (upd m.K a v.seq i)
    unfold upd; split
    ·exact hv.seq
    exact h.kr i hi
   have hx : x ∈ updA m.L a (m.L a ++ [⟨v, m.cnt⟩]) i := hx
   unfold updA at hx; split at hx
   ·rcases List.mem_append.1 hx with h1 | h1
    ·exact h.wf a ha x h1
    rw [List.mem_singleton.1 h1]; exact hv
   exact h.wf i hi x hx
  rw [Bool.not_eq_true] at c26
  refine Fx.Qt.call (v := .bool false) (by rfl) (fun v1 hv1 => rC (args := [.agg (Fx.varr 6 (Fx.rv .u64 m.K)), .agg (Fx.varr 14 (evY v))]) rfl rfl Try.func44 rfl rfl) rfl (fun v1 hv1 => (v_ready m.K v _ hv hkr).mono fun e v2 h => ⟨by rw [h.1, c26], bch hv1 h.2⟩) ?_
  refine Qv (.bool true) (fun v1 hv1 => Fx.x_notT rfl rfl) (Qv (.bool true) (fun v1 hv1 => x_assign rfl rfl) (Fx.Qt.nil ?_))
  intro wb4 hbwb4
  have s12 : Fx.Stp wb2.heap.size wb2 wb4 := Sb hbwb4
  have m45 := m10.stp s12 m10.ne
  have m46 := m11.up s12.old
  have b13 := b4.then s12 (.inr b4.size)
  refine sN (Wc (b := true) rfl (fun _ => Ws (Wl (Lv (.int .i64 (13)) (x_assign rfl rfl) ?_))) (fun h => nomatch h))
  refine Ln (sN (Wr (Fx.blkR (sR (⟨.int .i64 (13), rV Try.results19 (by exact rfl), ?_⟩)))))
  have ee : addG m v = 13 := by unfold addG; rw [if_neg (show ¬ mayE v = false by rw [c11]; decide), if_neg (show ¬ lateE m.K v = true by rw [c19]; decide), if_pos c26]
  exact ⟨by rw [ee], b13, fun h0 => (by rw [ee] at h0; cases h0), fun _ => ⟨m45, m46, hgp, h.len, h.cn, h.kr, h.wf⟩⟩
 rw [Bool.not_eq_true] at c11
 refine Fx.L.call (by rfl) (rC (args := [.agg (Fx.varr 14 (evY v))]) rfl rfl Try.func42 rfl rfl) rfl ((v_may v _ hv).mono ?_)
 rintro e w8 ⟨he, hb2⟩
 refine ⟨.bool false, by rw [he, c11], ?_⟩
 clear he
 have s13 := Sb hb2
 have m48 := m2.stp s13 m2.ne
 have m49 := m3.up s13.old
 have b14 := b1.then s13 (.inr b1.size)
 refine Lv (.bool true) (Fx.x_notT rfl rfl) (Lv (.bool true) (x_assign rfl rfl) (Ln (sN (Wc (b := true) rfl (fun _ => Ws (Wl (Lv (.int .i64 (1)) (x_assign rfl rfl) ?_))) (fun h => nomatch h)))))
 refine Ln (sN (Wr (Fx.blkR (sR (⟨.int .i64 (1), rV Try.results19 (by exact rfl), ?_⟩)))))
 have ee : addG m v = 1 := by unfold addG; rw [if_pos c11]
 exact ⟨by rw [ee], b14, fun h0 => (by rw [ee] at h0; cases h0), fun _ => ⟨m48, m49, hgp, h.len, h.cn, h.kr, h.wf⟩⟩
end
end Go.Proofs.Ytleajegppehbdaa
namespace Go.Proofs.Ytleajegppehbdaa.Fx
open Go.RowKit Go.Shelf Go.Sort Go.Lib
def cmp3 (a b : Int) : Int := if a < b then -1 else if b < a then 1 else 0
theorem cmp3_lt (a b : Int) : cmp3 a b < 0 ↔ a < b := by
  unfold cmp3
  split
  · simp_all
  split <;> simp_all
theorem swo_key {α : Type} (ky : α → Int) : SWO (ltOf fun x y => cmp3 (ky x) (ky y)) := by
  have e : ∀ x y, (ltOf fun x y => cmp3 (ky x) (ky y)) x y = decide (ky x < ky y) := fun x y => by
    unfold ltOf
    exact decide_eq_decide.2 (cmp3_lt _ _)
  refine ⟨fun x => ?_, fun x y z h1 h2 => ?_, fun x y z h1 h2 => ?_⟩ <;> simp only [e, decide_eq_true_eq, decide_eq_false_iff_not] at * <;> omega
end Go.Proofs.Ytleajegppehbdaa.Fx
namespace Go.Proofs.Ytleajegppehbdaa.Fx
open Go.RowKit Go.Shelf Go.Sort Go.Lib
theorem ownK_sorted {w : World} {B g cap m N s : Nat} {E : TypeId} (d' : Array Value) (os : Array Obj) {x : Nat → Value} (h : Own w B E s (.slice (some ⟨g, 0, none⟩) m cap) m x) (hd : d'.size = m * s) :
    Own (sortWorld id w g 0 N d' os) B E s (.slice (some ⟨g, 0, none⟩) m cap) m (fun q => d'[q]!) ∧ Stp g w (sortWorld id w g 0 N d' os) := by
  rcases h.2 with ⟨h1, _⟩ | ⟨g', cap', cur, h1, hB, hg, hn, hm, hs, ht⟩
  · cases h1
  simp only [Value.slice.injEq, Option.some.injEq, Addr.mk.injEq] at h1
  obtain ⟨⟨rfl, _⟩, _, rfl⟩ := h1
  have hl : g < w.heap.size := (Array.getElem?_eq_some_iff.1 hg).1
  have hb : (sortWorld id w g 0 N d' os).heap = (w.heap.modify g (onCells (putCells id 0 d'))) ++ os := rfl
  have hbk : ∀ k, k < w.heap.size → (sortWorld id w g 0 N d' os).heap[k]? = (w.heap.modify g (onCells (putCells id 0 d')))[k]? := fun k hk => by
    rw [hb, Array.getElem?_append_left (by simpa using hk)]
  have hms : m * s ≤ cap * s := Nat.mul_le_mul_right s hn
  refine ⟨⟨by simp, .inr ⟨g, cap, putCells id 0 d' cur, rfl, hB, ?_, hn, hm, ?_, ?_⟩⟩, ⟨rfl, rfl, rfl, by rw [hb]; simp, fun k hk ne => ?_⟩⟩
  · rw [hbk g hl, Array.getElem?_modify, if_pos rfl, hg]; rfl
  · simp [putCells, hs]
  · apply List.ext_getElem?
    intro i
    by_cases hi : i < m * s
    · have hi2 : i < cur.size := by omega
      rw [List.getElem?_take_of_lt (by omega), Array.getElem?_toList]
      unfold putCells
      rw [Array.getElem?_mapIdx, Array.getElem?_eq_getElem hi2]
      simp [hi, hd]
    rw [List.getElem?_eq_none (by simp; omega), List.getElem?_eq_none (by simp; omega)]
  rw [hbk k hk, Array.getElem?_modify, if_neg (Ne.symm ne)]
theorem ownK_holds {w : World} {B g cap m s : Nat} {E : TypeId} (d : Array Value) {x : Nat → Value} (h : Own w B E s (.slice (some ⟨g, 0, none⟩) m cap) m x) (hd : d.size = m * s) (hx : ∀ q, q < m * s → x q = d[q]!) (hm0 : 0 < m) :
    Holds id w g 0 d ∧ g < w.heap.size := by
  obtain ⟨g', cap', e, _, hl, _, hc⟩ := h.form hm0
  rcases h.2 with ⟨h1, _⟩ | ⟨g2, cap2, cur, h1, hB, hg, hn, hm, hs, ht⟩
  · cases h1
  simp only [Value.slice.injEq, Option.some.injEq, Addr.mk.injEq] at h1 e
  obtain ⟨⟨rfl, _⟩, _, rfl⟩ := h1
  obtain ⟨⟨rfl, _⟩, _, rfl⟩ := e
  refine ⟨fun j hj => ⟨?_, ?_⟩, hl⟩
  · have h2 := hc j (by omega)
    rw [h2, hx j (by omega)]; rfl
  simp [World.frozen?, hg]
theorem list_flat {α : Type} [Inhabited α] {s : Nat} {enc : α → Nat → Value} {e0 : α} {l : List α} (hs : 0 < s) : ∀ q, q < l.length * s → flat s (fun k => enc (l.getD k e0)) q = (Go.Sort.flatK (fun x => (List.range s).map (enc x)) s l.toArray)[q]! := fun q hq => by
  have h1 : q / s < l.length := Nat.div_lt_of_lt_mul (by rw [Nat.mul_comm]; exact hq)
  have h2 : q % s < s := Nat.mod_lt _ hs
  rw [Go.Sort.get_flatK _ _ _ q (by simpa using hq)]
  unfold flat
  have e1 : l.toArray[q / s]! = l.getD (q / s) e0 := by simp [h1]
  rw [e1]
  simp [h2]
theorem sort_agg {P : Program} {ρ : Ren} (LS : SlLaysF0.n6 P ρ) {gc : Nat} (eg : ∀ args w, (callFunc gc args).run P w = .ok (.enter gc args) w) {w : World} {B cap s : Nat} {a : Option Addr} {E : TypeId} (hs0 : 0 < s)
    (aE : ∀ w, (isAgg (ρ.t 24)).run P w = .ok true w) (zE : ∀ w, (Go.sizeOf (ρ.t 24)).run P w = .ok s w) {α : Type} [Inhabited α] {enc : α → Nat → Value} {e0 : α} (h1 : ∀ x j, j < s → (enc x j).oneCell' = true) {ky : α → Int} {l : List α}
    (h : Own w B E s (.slice a l.length cap) l.length (flat s fun q => enc (l.getD q e0)))
    (hc : ∀ w1 x y, Calls P gc #[.agg (varr s (enc x)), .agg (varr s (enc y))] w1 fun e w' => e = .returned (.int .i64 (cmp3 (ky x) (ky y))) ∧ ∃ q os', w' = grow (w1.drewN q) os') (hm : l.length < 4611686018427387904) :
    Calls P (ρ.f 6) #[.slice a l.length cap, .func (.func gc) #[] #[]] w fun e w' => e = .returned (.tuple #[]) ∧ ∃ l' : List α, l'.Perm l ∧ l'.Pairwise (fun x y => ky x ≤ ky y) ∧ Own w' B E s (.slice a l.length cap) l.length (flat s fun q => enc (l'.getD q e0)) ∧ (∀ k, k < w.heap.size → (Value.slice a l.length cap).ownBlock ≠ some k → w'.heap[k]? = w.heap[k]?) ∧ ChT [E] w w' ∧ Below B w w' := by
  by_cases h0 : l.length = 0
  · have hl : l = [] := List.length_eq_zero_iff.1 h0
    subst hl
    refine (AnyF.slices_SortFunc_none LS a cap _ w).mono ?_
    rintro e w' ⟨he, rfl⟩
    exact ⟨he, [], List.Perm.refl _, List.Pairwise.nil, h, fun _ _ _ => rfl, ChT.refl _, Below.refl _ _⟩
  obtain ⟨g, c2, e1, hB, hg, hmc, _⟩ := h.form (by omega)
  simp only [Value.slice.injEq] at e1
  obtain ⟨rfl, _, rfl⟩ := e1
  have hk : ∀ x, ((fun x => (List.range s).map (enc x)) x).length = s := fun x => by simp
  have hsz : (Go.Sort.flatK (fun x => (List.range s).map (enc x)) s l.toArray).size = l.length * s := by simp
  obtain ⟨hH, hl⟩ := ownK_holds _ h hsz (list_flat hs0) (by omega)
  have hty : Ty w g E := h.ty rfl
  have hv : ∀ x, ((List.range s).map (enc x)).toArray = varr s (enc x) := fun x => by
    apply Array.ext
    · simp [varr_size]
    · intro i h1 h2
      have h3 : i < s := by simpa using h1
      have := varr_get (enc x) h3
      rw [Array.getElem?_eq_getElem h2] at this
      rw [Option.some.inj this]; simp
  have hs := AnyQ.slices_SortFunc LS s aE zE (fun x => (List.range s).map (enc x)) hk (fun x v hv => by
      obtain ⟨j, hj, rfl⟩ := List.mem_map.1 hv
      exact h1 x j (List.mem_range.1 hj)) (fun x y => cmp3 (ky x) (ky y)) (swo_key _) gc #[] g 0 cap l.toArray w eg
    (fun N os dk hdk x y => by rw [hv, hv]; exact hc _ x y) hH hl (by simpa using hm)
  rw [show l.toArray.size = l.length by simp] at hs
  refine hs.mono ?_
  rintro e w' ⟨he, d', N, os, ⟨p1, _, p3⟩, hso, rfl⟩
  have p1 : d'.size = l.length := by simpa using p1
  have hw : sortWorldK (fun x => (List.range s).map (enc x)) s w g 0 N d' os = sortWorld id w g 0 N (Go.Sort.flatK (fun x => (List.range s).map (enc x)) s d') os := rfl
  rw [hw]
  obtain ⟨o1, o2⟩ := ownK_sorted (N := N) (Go.Sort.flatK (fun x => (List.range s).map (enc x)) s d') os h (by simp [p1])
  have e1 : (d'.extract 0 l.length).toList = d'.toList := by
    rw [← p1]; simp
  have e2 : (l.toArray.extract 0 l.length).toList = l := by simp
  rw [e1, e2] at p3
  refine ⟨he, d'.toList, p3, ?_, ?_, fun k hk hne => o2.block k hk (fun e => hne (by rw [e]; rfl)), ChT.of_stp o2 hty, ⟨o2.os, o2.tape, o2.output, o2.size, fun k hk => o2.block k (by omega) (by omega)⟩⟩
  · rw [List.pairwise_iff_getElem]
    intro i j hi hj hij
    have h3 := hso i j (Nat.zero_le _) hij (by rw [← p1]; simpa using hj)
    unfold ltOf at h3
    rw [decide_eq_false_iff_not, cmp3_lt] at h3
    have a1 : d'[i]! = d'.toList[i] := by rw [getElem!_pos d' i (by simpa using hi)]; simp
    have a2 : d'[j]! = d'.toList[j] := by rw [getElem!_pos d' j (by simpa using hj)]; simp
    rw [a1, a2] at h3
    exact Int.not_lt.1 h3
  have := fun q (hq : q < l.length * s) => list_flat (enc := enc) (e0 := e0) (l := d'.toList) hs0 q (by simpa [p1] using hq)
  have o3 : Own (sortWorld id w g 0 N (Go.Sort.flatK (fun x => (List.range s).map (enc x)) s d') os) B E s (.slice (some ⟨g, 0, none⟩) l.length cap) l.length (flat s fun q => enc (d'.toList.getD q e0)) := o1.congr fun q hq => by
    have := this q hq
    simp only [Array.toArray_toList] at this
    exact this.symm
  exact o3
section
variable {P : Program} {f : Nat → Value} {w : World} {o : Oper}
theorem x_slNil {T T' : TypeId} {x y : Operand} {a : Option Addr} {n c : Nat} {E : TypeId} (ho : o.op = .binOp .eql T x y T') (hx : ev f x = .slice a n c) (hy : ev f y = .slice none 0 0) (hu : P.underlying T = some (.slice E)) : Runs P f o w (.bool a.isNone) := by
  unfold Runs execOp
  simp only [ho, hx, hy]
  have hg : (eqGuard .eql T x y (.slice a n c) (.slice none 0 0)).run P w = .ok () w := by unfold eqGuard; rfl
  simp only [Sem.run_bind, hg, Result.andThen_ok, Go.Lib.run_eql_slice_nil w T E a n c 0 0 hu, Sem.run_pure]
theorem runs_i {k : IntKind} {a b : Int} (h : Runs P f o w (.int k a)) (e : a = b) : Runs P f o w (.int k b) := e ▸ h
theorem runs_b {a b : Bool} (h : Runs P f o w (.bool a)) (e : a = b) : Runs P f o w (.bool b) := e ▸ h
def loA (s j c : Nat) : Option Addr → Option Addr
  | none => none
  | some ad => if c = j then some ad else some ⟨ad.block, ad.off + j * s, ad.spot⟩
theorem x_lo {w0 : World} {T E : TypeId} {x lo : Operand} {a : Option Addr} {B n c s : Nat} {k : IntKind} {j : Nat} {y : Nat → Value} (ho : o.op = .slice T x (some lo) none none) (hx : ev f x = .slice a n c) (hl : ev f lo = .int k (j : Int)) (hu : P.underlying T = some (.slice E)) (hs : (P.info? E).map (·.size) = some s) (hj : j ≤ n) (hown : Own w0 B E s (.slice a n c) n y) :
    Runs P f o w (.slice (loA s j c a) (n - j) (c - j)) := by
  rcases hown.2 with ⟨h1, rfl⟩ | ⟨g, cap, cur, h1, _, _, hn, _⟩
  · simp only [Value.slice.injEq] at h1
    obtain ⟨rfl, _, rfl⟩ := h1
    obtain rfl : j = 0 := by omega
    obtain ⟨i, hi', _⟩ := Option.map_eq_some_iff.1 hs
    unfold Runs execOp
    simp only [ho, hx, hl, Option.map_some, Option.map_none]
    simp [Instr.sliceAt, Instr.slice, underlying, hu, Instr.sliceBounds, Instr.sliceBound, asIntOf, sizeOf, typeInfo, hi', loA]
  simp only [Value.slice.injEq] at h1
  obtain ⟨rfl, _, rfl⟩ := h1
  have := x_sliceLo2 (P := P) (w := w) (A := if c = j then some ⟨g, 0, none⟩ else some ⟨g, 0 + j * s, none⟩) (n' := n - j) (c' := c - j) ho hx hl hu hs (by omega) rfl rfl rfl
  exact this
end
theorem Own.arrLo {w : World} {B n c s j : Nat} {E : TypeId} {a : Option Addr} {y : Nat → Value} (h : Own w B E s (.slice a n c) n y) (_hj : j ≤ n) : Arr w (loA s j c a) (n - j) s (fun p => y (j * s + p)) := fun h0 => by
  obtain ⟨g, c2, e1, hB, hg, hnc, hcel⟩ := h.form (by omega)
  simp only [Value.slice.injEq] at e1
  obtain ⟨rfl, _, rfl⟩ := e1
  refine ⟨g, 0 + j * s, ?_, fun p hp => ?_⟩
  · show (if c = j then _ else _) = _
    rw [if_neg (by omega)]
  · have hlt : j * s + p < n * s := by
      have : n * s = j * s + (n - j) * s := by rw [← Nat.add_mul]; congr 1; omega
      omega
    have := hcel (j * s + p) hlt
    rw [Nat.zero_add] at this
    rw [Nat.zero_add]; exact this
end Go.Proofs.Ytleajegppehbdaa.Fx
namespace Go.Proofs.Ytleajegppehbdaa
open Go.RowKit Rt
open Fx (x_move x_assign x_field x_load1 x_pickF x_pickT x_nil x_conv x_indexS x_index x_leqF x_loadA x_len x_gtrF x_build x_eqlF x_eqlT Lv sN Ln Ws Qv Wl Rp Wc Qs Wr Sb Lk Wk rC rV sR)
theorem Rt.itX_one (l : List ItM) (j : Nat) : (itX l j).oneCell' = true := itY_one _ _
namespace Rt
def flt (l : List ItM) (s : Int) : List ItM := l.filter fun x => decide (s < x.e.seq)
theorem flt_drop {l : List ItM} {s : Int} {r : Nat} (h : PlaceR l s r) : l.drop r = flt l s := by
  unfold flt
  have e : l = l.take r ++ l.drop r := (List.take_append_drop r l).symm
  have h1 : (l.take r).filter (fun x => decide (s < x.e.seq)) = [] := by
    rw [List.filter_eq_nil_iff]
    intro x hx
    obtain ⟨i, hi, rfl⟩ := List.mem_iff_getElem.1 hx
    have hi2 : i < r := by simp at hi; omega
    have h2 := h.lo i hi2
    have h3 : l.getD i it0 = (l.take r)[i] := by have := h.le; rw [List.getElem_take]; simp [show i < l.length by omega]
    rw [h3] at h2
    exact fun e => by have := of_decide_eq_true e; omega
  have h2 : (l.drop r).filter (fun x => decide (s < x.e.seq)) = l.drop r := by
    rw [List.filter_eq_self]
    intro x hx
    obtain ⟨i, hi, rfl⟩ := List.mem_iff_getElem.1 hx
    have hi2 : r + i < l.length := by simp at hi; omega
    have h2 := h.hi (r + i) (by omega) hi2
    have h3 : l.getD (r + i) it0 = (l.drop r)[i] := by rw [List.getElem_drop]; simp [hi2]
    rw [h3] at h2
    exact decide_eq_true h2
  conv => rhs; rw [e, List.filter_append, h1, h2, List.nil_append]
theorem flt_len {l : List ItM} {s : Int} {r : Nat} (h : PlaceR l s r) : l.length - r = (flt l s).length := by rw [← flt_drop h, List.length_drop]
theorem flt_x {l : List ItM} {s : Int} {r : Nat} (h : PlaceR l s r) (p : Nat) (hp : p < (l.length - r) * 15) : itX l (r * 15 + p) = itX (flt l s) p := by
  rw [← flt_drop h]
  unfold itX Fx.flat
  have h1 : p / 15 < l.length - r := Nat.div_lt_of_lt_mul (by rw [Nat.mul_comm]; exact hp)
  rw [show (r * 15 + p) / 15 = r + p / 15 by omega, show (r * 15 + p) % 15 = p % 15 by omega]
  show itY (l.getD (r + p / 15) it0) _ = itY ((l.drop r).getD (p / 15) it0) _
  congr 1
  rw [List.getD_eq_getElem?_getD, List.getD_eq_getElem?_getD, List.getElem?_drop]
theorem flt_arr {w : World} {B c r : Nat} {a : Option Addr} {s : Int} {l : List ItM} (h : Fx.Own w B 106 15 (.slice a l.length c) l.length (itX l)) (hp : PlaceR l s r) : Fx.Arr w (Fx.loA 15 r c a) (flt l s).length 15 (itX (flt l s)) := by
  have h1 := h.arrLo hp.le
  rw [← flt_len hp]
  intro h0
  obtain ⟨b, off, e, hc⟩ := h1 h0
  exact ⟨b, off, e, fun i hi => (hc i hi).trans (congrArg some (flt_x hp i hi))⟩
def prK (m : LgM) (V : Nat → Int) (k : Nat) : Nat → List ItM := fun i => if i < k then flt (m.L i) (V i) else m.L i
theorem prK_0 (m : LgM) (V : Nat → Int) : prK m V 0 = m.L := by funext i; unfold prK; rw [if_neg (Nat.not_lt_zero _)]
theorem prK_k (m : LgM) (V : Nat → Int) (k : Nat) : prK m V k k = m.L k := by unfold prK; rw [if_neg (Nat.lt_irrefl _)]
theorem prK_s (m : LgM) (V : Nat → Int) (k : Nat) : updA (prK m V k) k (flt (m.L k) (V k)) = prK m V (k + 1) := by
  funext i; unfold updA prK
  by_cases e : i = k
  · subst e; rw [if_pos rfl, if_pos (by omega)]
  rw [if_neg e]
  by_cases h : i < k
  · rw [if_pos h, if_pos (by omega)]
  rw [if_neg h, if_neg (by omega)]
def goneN (m : LgM) (V : Nat → Int) : Nat → Nat
  | 0 => 0
  | k + 1 => goneN m V k + ((m.L k).length - (flt (m.L k) (V k)).length)
theorem goneN_le {m : LgM} {V : Nat → Int} {T : Nat} (h : ∀ i, i < 6 → (m.L i).length ≤ T) : ∀ k, k ≤ 6 → goneN m V k ≤ k * T
  | 0, _ => Nat.zero_le _
  | k + 1, hk => by have h1 := goneN_le (V := V) h k (by omega); have h2 := h k (by omega); unfold goneN; rw [Nat.add_mul, Nat.one_mul]; omega
structure PruneR (m m' : LgM) (V : Nat → Int) : Prop where
  K : m'.K = m.K
  cnt : m'.cnt = m.cnt
  L : ∀ i, i < 6 → m'.L i = flt (m.L i) (V i)
end Rt
theorem o_clone (l : List ItM) (a : Option Addr) (cap : Nat) (w : World) (hn : l.length ≤ 1000000) (hl : Fx.Arr w a l.length 15 (itX l)) :
    Calls Try.prog 50 #[.slice a (l.length) (cap)] w fun e w' => ∃ a' c', e = .returned (.slice a' l.length c') ∧ Fx.Own w' w.heap.size 106 15 (.slice a' l.length c') l.length (itX l) ∧ Below w.heap.size w w' := by
 refine Fx.enter Try.func50 rfl (n := 8) rfl (by rfl) ?_
 refine Ws (Wl (Lv (.slice none 0 0) (x_assign rfl rfl) (Ln (sN (Ws (Ws (Wl (Lv (.slice a (l.length) (cap)) (x_move rfl rfl) ?_))))))))
 by_cases c4 : Option.isNone a = true
 ·refine Lv (.bool true) ((Fx.runs_b (Fx.x_slNil rfl rfl rfl Try.underlying97) c4)) (Ln (sN (Wc (b := true) rfl (fun _ => Ws (Wl (Lv (.slice none 0 0) (x_assign rfl rfl) ?_))) (fun h => nomatch h))))
  refine Ln (sN (Wr (sR (⟨.slice none 0 0, rV Try.results50 (by exact rfl), ?_⟩))))
  have h0 : l.length = 0 := Nat.eq_zero_of_not_pos fun h => by obtain ⟨b, off, e, _⟩ := hl h; rw [e] at c4; cases c4
  exact ⟨none, 0, by rw [h0], by rw [h0]; exact Fx.Own.nil _ _ _ _ _, (Below.refl w.heap.size w)⟩
 rw [Bool.not_eq_true] at c4
 refine Lv (.bool false) ((Fx.runs_b (Fx.x_slNil rfl rfl rfl Try.underlying97) c4)) (Ln (sN (Wc (b := false) rfl (fun h => nomatch h) (fun _ => Wk (sN (Ws (Wl (Fx.L.bslice0 (s := 15) (by rfl) rfl Try.underlying97 (by kernel_rfl) rfl fun g1 w1 eg1 hO1 s1 => ?_))))))))
 have m1 : Fx.Own w1 w.heap.size 106 15 (.slice (some ⟨g1, 0, none⟩) 0 0) 0 (itX l) := hO1 _ _ (by rw [eg1]; exact (Below.refl w.heap.size w).size)
 have b1 := s1.below (Below.refl w.heap.size w) (Below.refl w.heap.size w).size (Below.refl w.heap.size w).size
 clear eg1
 refine Lv (.slice a (l.length) (cap)) (x_move rfl rfl) (Fx.L.appAny (B := w.heap.size) (s := 15) (bytes := 120) (k := 0) (m := l.length) (v := .slice (some ⟨g1, 0, none⟩) (0) (0)) (x := itX l) (by rfl) rfl rfl rfl Try.underlying97 (by kernel_rfl) (by kernel_rfl) rfl rfl m1 (hl.up b1 rfl) (fun j _ => itX_one l j) (by omega) (by omega) b1.size fun vv1 w2 ho1 hg1 hgv1 => ?_)
 rw [Nat.zero_add] at ho1
 obtain ⟨a1, cap1, rfl⟩ := ho1.val
 have m2 : Fx.Own w2 w.heap.size 106 15 (.slice a1 (l.length) (cap1)) l.length (itX l) := (ho1.congr (fun j _ => app0 j))
 have b2 : Below w.heap.size w w2 := Fx.Below.grow b1 hg1 b1.size (fun q hq => (m1.ge hq).1)
 refine Lv (.slice a1 (l.length) (cap1)) (x_assign rfl rfl) (Ln (sN (Wr (⟨.slice a1 (l.length) (cap1), rV Try.results50 (by exact rfl), ?_⟩))))
 exact ⟨_, _, rfl, m2, b2⟩
theorem o_clone2 (l : List ItM) (n : Nat) (a : Option Addr) (cap : Nat) (w : World) (e : n = l.length) (hn : l.length ≤ 1000000) (hl : Fx.Arr w a l.length 15 (itX l)) :
    Calls Try.prog 50 #[.slice a n cap] w fun e w' => ∃ a' c', e = .returned (.slice a' l.length c') ∧ Fx.Own w' w.heap.size 106 15 (.slice a' l.length c') l.length (itX l) ∧ Below w.heap.size w w' := by
  subst e; exact o_clone l a cap w hn hl
set_option maxRecDepth 10000 in
set_option maxHeartbeats 1000000 in
theorem o_prune (V : Nat → Int) (m : LgM) (B p T : Nat) (w : World) (h : LgO w B p m T) (hB : B ≤ w.heap.size) (hT : T ≤ 1000000) (hs : ∀ i, i < 6 → SeqUp (m.L i)) :
    Calls Try.prog 28 #[(pt p), .agg (Fx.varr 6 (Fx.rv .u64 V))] w fun e w' => e = .returned (.int .i64 ((goneN m V 6 : Nat) : Int)) ∧ Fx.Chg (lgS p m) w w' ∧ ∃ m', LgO w' B p m' T ∧ PruneR m m' V ∧ SepS w p m m' := by
 refine Fx.enter Try.func28 rfl (n := 37) rfl (by rfl) ?_
 have hbk := h.blk
 have tp := hbk.lt
 have hls := h.ls
 refine Ws (Wl (Fx.L.box (m := 6) (y := Fx.rv .u64 V) (by rfl) rfl rfl (Fx.cells_agg _ _) rfl fun g1 w1 eg1 m1 s1 z1 => ?_))
 have m2 := hbk.stp s1 hbk.ne
 have m3 := hls.up s1.old
 have b1 := (Fx.Chg.refl (lgS p m) w).then s1 (.inr (Fx.Chg.refl (lgS p m) w).size)
 have lg1 : w.heap.size ≤ g1 := by rw [eg1]; exact (Fx.Chg.refl (lgS p m) w).size
 have ng1m2 : p ≠ g1 := by rw [eg1]; exact Nat.ne_of_lt (hbk.lt)
 have tg1 : g1 < w1.heap.size := m1.lt
 clear eg1
 refine Lv (.int .i64 (0)) (x_assign rfl rfl) (Ln (sN (Ws (Ws (Wl (Lv ((pt p)) (x_move rfl rfl) (Lv (.bool false) (Fx.x_eqNil rfl rfl rfl (by kernel_rfl)) (Ln (sN (Wc (b := false) rfl (fun h => nomatch h) (fun _ => Wk (sN (Ws (Ws (Wl (Lv ((pt p)) (x_move rfl rfl) (Lv ((pt p)) (x_nil rfl rfl) (Lv ((pt p)) (x_field rfl rfl Try.underlying100 rfl (s := 6) (by kernel_rfl) rfl rfl) (Lv (.agg (Fx.varr 6 (lvV m))) (x_loadA (x := lgY m) (y := lvV m) rfl rfl (by kernel_rfl) (by kernel_rfl) m2.cel (i := 0) (by omega) (by omega) (fun j hj => by rw [Nat.zero_add]; exact lgY_v m hj)) (Lv (.int .i64 (0)) (x_move rfl rfl) (Ln (sN (Fx.W.block ?_)))))))))))))))))))))))
 have e00 : m = { m with a := m.a, c := m.c, L := prK m V 0 } := by rw [prK_0]
 have m4 : Fx.Blk w1 p 13 (lgY ({ m with a := m.a, c := m.c, L := prK m V 0 })) 100 := e00 ▸ m2
 have m5 : Lss w1 B ({ m with a := m.a, c := m.c, L := prK m V 0 }) := e00 ▸ m3
 clear e00
 refine Fx.W.loop (fun f w_ => ∃ k : Nat, ∃ ak : Nat → Option Addr, ∃ ck : Nat → Nat, k ≤ 6 ∧ (∀ i, k ≤ i → ak i = m.a i ∧ ck i = m.c i) ∧ (∀ i, i < k → ∀ g, (Value.slice (ak i) (flt (m.L i) (V i)).length (ck i)).ownBlock = some g → w.heap.size ≤ g) ∧ f 0 = (pt p) ∧ f 3 = (pt g1) ∧ f 4 = .int .i64 (((goneN m V k : Nat) : Int)) ∧ f 13 = .agg (Fx.varr 6 (lvV m)) ∧ f 14 = .int .i64 ((k : Int)) ∧ Fx.Blk w_ g1 6 (Fx.rv .u64 V) 32 ∧ Fx.Blk w_ p 13 (lgY ({ m with a := ak, c := ck, L := prK m V k })) 100 ∧ Lss w_ B ({ m with a := ak, c := ck, L := prK m V k }) ∧ Fx.Chg (lgS p m) w w_) (fun f _ => (6 - (intOf (f 14)).toNat)) ⟨0, m.a, m.c, by omega, (fun _ _ => ⟨rfl, rfl⟩), (fun _ h => absurd h (Nat.not_lt_zero _)), (by rfl), (by rfl), (by rfl), (by rfl), Fx.ic, m1, m4, m5, b1⟩ ?_
 rintro f1 w2 ⟨k, ak, ck, hk, hak, hsp, h1, h2, h3, h4, h5, m6, m7, m8, b2⟩
 refine Ws (Wl ?_)
 by_cases c15 : (k : Int) < 6
 ·refine Lv (.bool true) (Fx.x_lssT rfl h5 rfl c15) (Ln (sN (Ws (Wc (b := true) rfl (fun _ => Wk (sN (Ws (Fx.W.block (Ws (Wl (Lv (.int .i64 ((k : Int))) (x_move rfl h5) ?_))))))) (fun h => nomatch h)))))
  refine Lv (.slice (m.a k) ((m.L k).length) ((m.c k))) (Fx.x_indexV (j := k) (y := lvV m) rfl h4 h5 Try.underlying98 (by kernel_rfl) (by kernel_rfl) (by omega) (rfl)) (Lv (.int .i64 ((k : Int))) (x_assign rfl rfl) (Lv (.slice (m.a k) ((m.L k).length) ((m.c k))) (x_assign rfl rfl) (Ln (sN (Ws ?_)))))
  have hk1 := h.len k (by omega)
  have hk2 := goneN_le (V := V) h.len k (by omega)
  have hk3 : k * T ≤ 6 * 1000000 := Nat.mul_le_mul (by omega) hT
  have m9 : Fx.Own w2 B 106 15 (.slice (m.a k) ((m.L k).length) ((m.c k))) ((m.L k).length) (itX (m.L k)) := by have h1 := m8.1 k (by omega); obtain ⟨q1, q2⟩ := hak k (Nat.le_refl _); unfold lvV at h1; simp only [prK_k, q1, q2] at h1; exact h1
  refine Wl (Lv (.slice (m.a k) ((m.L k).length) ((m.c k))) (x_move rfl rfl) (Lv (.int .i64 ((k : Int))) (x_move rfl rfl) (Lv ((pf g1 k)) (x_index rfl h2 rfl Try.underlying32 (s := 1) (by kernel_rfl) (by omega) (by omega) (by omega)) (Lv (.int .u64 (V k)) (x_load1 (x := Fx.rv .u64 V) rfl rfl (by kernel_rfl) m6.cel (i := k) (by omega) (by omega) rfl) (Fx.L.call (by rfl) (rC (args := [.slice (m.a k) ((m.L k).length) ((m.c k)), .int .u64 (V k)]) rfl rfl Try.func49 rfl rfl) rfl ((v_place (m.L k) _ _ (V k) _ (by omega) (hs k (by omega)) (m9.arr)).mono ?_))))))
  rintro e w3 ⟨r, he, hr, hb1⟩
  refine ⟨_, he, ?_⟩
  clear he
  have s2 := Sb hb1
  have hrl := hr.le
  have m10 := m6.stp s2 m6.ne
  have m11 := m7.stp s2 m7.ne
  have m12 := m8.up s2.old
  have m13 := m9.stp s2 (m9.notNew (Nat.le_refl _))
  have b3 := b2.then s2 (.inr b2.size)
  refine Lv (.int .i64 ((r : Int))) (x_assign rfl rfl) (Ln (sN (Ws ?_)))
  have hfl := flt_len hr
  -- region 7 draws
  refine Fx.W.reord [0, 1, 2, 3, 4, 6, 7, 5, 8, 9] [0, 0, 0, 0, 0, 3, 0, 0, 0, 3] Fx.Mk Fx.Mk.refl Fx.Mk.trans (certs := [(8, 5, [5]), (9, 5, [5])]) (by kernel_rfl) (by kernel_rfl) (by kernel_rfl) (by kernel_rfl) (by kernel_rfl) fun wt1 hbwt1 hzwt1 => ?_
  have s3 : Fx.Stp w3.heap.size w3 wt1 := Sb hbwt1
  have m14 := m10.stp s3 m10.ne
  have m15 := m11.stp s3 m11.ne
  have m16 := m12.up s3.old
  have m17 := m13.stp s3 (m13.notNew (Nat.le_refl _))
  have b4 := b3.then s3 (.inr b3.size)
  refine Rp ((pt p)) (fun v1 => x_move rfl h1) (Rp (.int .i64 ((k : Int))) (fun v1 => x_move rfl rfl) (Rp (.slice (m.a k) ((m.L k).length) ((m.c k))) (fun v1 => x_move rfl rfl) (Rp (.int .i64 ((r : Int))) (fun v1 => x_move rfl rfl) (Rp (.slice (Fx.loA 15 r (m.c k) (m.a k)) ((m.L k).length - r) ((m.c k) - r)) (fun v1 => Fx.x_lo (j := r) (s := 15) rfl rfl rfl Try.underlying97 (by kernel_rfl) (by omega) m17) (Rp ((pt p)) (fun v1 => x_nil rfl rfl) (Rp ((pt p)) (fun v1 => x_field rfl rfl Try.underlying100 rfl (s := 6) (by kernel_rfl) rfl rfl) (Fx.R.eff (by rfl) ?_)))))))
  refine Fx.L.call (by rfl) (rC (args := [.slice (Fx.loA 15 r (m.c k) (m.a k)) ((m.L k).length - r) ((m.c k) - r)]) rfl rfl Try.func50 rfl rfl) rfl ((o_clone2 (flt (m.L k) (V k)) _ _ _ _ hfl (by omega) (flt_arr m17 hr)).mono ?_)
  rintro e w4 ⟨acl1, ccl1, he, m18, hb2⟩
  refine ⟨_, he, ?_⟩
  clear he
  have s4 := Sb hb2
  have m19 := m14.stp s4 m14.ne
  have m20 := m15.stp s4 m15.ne
  have m21 := m16.up s4.old
  have b5 := b4.then s4 (.inr b4.size)
  refine Ln (Rp ((pf p k)) (fun v1 => x_index rfl rfl rfl Try.underlying98 (s := 1) (by kernel_rfl) (by omega) (by omega) (by omega)) (Fx.R.eff (by rfl) ?_))
  refine Fx.L.store1 (x := lgY ({ m with a := ak, c := ck, L := prK m V k })) (u := .slice acl1 ((flt (m.L k) (V k)).length) (ccl1)) (by rfl) rfl rfl rfl rfl (by rfl) (by kernel_rfl) m20 (i := k) (by omega) fun w5 m23 s5 z2 => ?_
  have m24 : Fx.Blk w5 p 13 (lgY ({ m with a := (updA ak k acl1), c := (updA ck k ccl1), L := prK m V (k + 1) })) 100 := m23.to ((lgY_put _ (by omega) _ _ _ _ rfl).trans (congrArg (fun z => lgY ⟨m.K, m.cnt, updA ak k acl1, updA ck k ccl1, z⟩) (prK_s m V k)))
  have hct1 := Fx.ChT.of_stp s5 m20.ty
  have m25 := m19.chT hct1 (by decide)
  have m26 := m21.chT hct1 (by decide)
  have m28 := m18.chT hct1 (by decide)
  have b6 := b5.then s5 (.inl (.inl rfl))
  refine Ln (Fx.R.nil (sN (Wl (Lv (.int .i64 (((goneN m V k : Nat) : Int))) (x_move rfl h3) (Lv (.int .i64 ((r : Int))) (x_move rfl rfl) (Lv (.int .i64 (((goneN m V k : Nat) : Int) + (r : Int))) (Fx.x_add rfl rfl rfl Fx.io) (Lv (.int .i64 (((goneN m V k : Nat) : Int) + (r : Int))) (x_assign rfl rfl) (Ln (Fx.blkN (sN (Wl (Lv (.int .i64 ((k : Int) + 1)) (Fx.x_add rfl h5 rfl Fx.io) (Lv (.int .i64 ((k : Int) + 1)) (x_move rfl rfl) (Ln ?_))))))))))))))
  have m29 := Lss.put m16 (a := k) (ad := acl1) (cap := ccl1) (l := flt (m.L k) (V k)) (by omega) (m28.mono (Nat.le_trans hB b4.size)) (fun i hi _ => m26.1 i hi) (fun g hg => .inr (m28.ge hg).1)
  have m30 : Lss w5 B ({ m with a := (updA ak k acl1), c := (updA ck k ccl1), L := prK m V (k + 1) }) := (prK_s m V k) ▸ m29
  skip
  refine Fx.lpN ⟨k + 1, updA ak k acl1, updA ck k ccl1, by omega, (fun i hi => by unfold updA; rw [if_neg (by omega), if_neg (by omega)]; exact hak i (by omega)), (fun i hi g hg => by unfold updA at hg; by_cases e : i = k; (subst e; rw [if_pos rfl, if_pos rfl] at hg; exact Nat.le_trans b4.size (m28.ge hg).1); (rw [if_neg e, if_neg e] at hg; exact hsp i (by omega) g hg)), h1, h2, (congrArg (Value.int .i64) (by show _ = ((goneN m V k + ((m.L k).length - (flt (m.L k) (V k)).length) : Nat) : Int); omega)), h4, Fx.ic, m25, m24, m30, b6⟩ ?_
  show (6 - (intOf ((.int .i64 ((k : Int) + 1)))).toNat) < _
  simp only [h5, intOf]; omega
 refine Lv (.bool false) (Fx.x_lssF rfl h5 rfl c15) (Ln (sN (Ws (Wc (b := false) rfl (fun h => nomatch h) (fun _ => Fx.W.exit (Fx.seqX (Fx.lpX (Fx.blkX (sN (Ws (Wl (Lv (.int .i64 (((goneN m V k : Nat) : Int))) (x_move rfl h3) (Lv (.int .i64 (((goneN m V k : Nat) : Int))) (x_assign rfl rfl) (Ln (sN (Wr (⟨.int .i64 (((goneN m V k : Nat) : Int)), rV Try.results28 (by exact rfl), ?_⟩)))))))))))))))))
 have e6 : k = 6 := by omega
 subst e6
 have eL : ∀ i, i < 6 → prK m V 6 i = flt (m.L i) (V i) := fun i hi => by unfold prK; rw [if_pos hi]
 have hfl6 : ∀ i, (flt (m.L i) (V i)).length ≤ (m.L i).length := fun i => List.length_filter_le _ _
 exact ⟨rfl, b2, _, ⟨m7, m8, h.gp, fun i hi => by show (prK m V 6 i).length ≤ T; rw [eL i hi]; exact Nat.le_trans (hfl6 i) (h.len i hi), h.cn, h.kr, fun i hi x hx => by have hx : x ∈ prK m V 6 i := hx; rw [eL i hi] at hx; exact h.wf i hi x ((List.mem_filter.1 hx).1)⟩, ⟨rfl, rfl, eL⟩, fun k hk => (by rcases hk with rfl | ⟨i, hi, e⟩; exact .inl (.inl rfl); unfold lvV at e; simp only [eL i hi] at e; exact .inr (hsp i hi k e))⟩
theorem c_nan (n : Int) (w : World) :
    Calls Try.prog 71 #[.int .u64 (n)] w fun e w' => e = .returned (.bool false) ∧ w' = w := by
 refine Fx.enter Try.func71 rfl (n := 6) rfl (by rfl) ?_
 refine Ws (Wl (Lv (.bool false) (x_assign rfl rfl) (Ln (sN (Ws (Wl (Lv (.int .u64 (n)) (x_move rfl rfl) (Lv (.int .u64 (n)) (x_move rfl rfl) (Lv (.bool false) (Fx.x_neqF rfl rfl rfl rfl) (Lv (.bool false) (x_assign rfl rfl) (Ln (sN (Wr (⟨.bool false, rV Try.results71 (by exact rfl), ?_⟩))))))))))))))
 exact ⟨rfl, rfl⟩
theorem c_cmp (a b : Int) (w : World) :
    Calls Try.prog 53 #[.int .u64 (a), .int .u64 (b)] w fun e w' => e = .returned (.int .i64 (Fx.cmp3 a b)) ∧ w' = w := by
 refine Fx.enter Try.func53 rfl (n := 20) rfl (by rfl) ?_
 refine Ws (Wl (Lv (.int .i64 (0)) (x_assign rfl rfl) (Ln (sN (Ws (Wl (Lv (.int .u64 (a)) (x_move rfl rfl) (Fx.L.call (by rfl) (rC (args := [.int .u64 (a)]) rfl rfl Try.func71 rfl rfl) rfl ((c_nan a _).mono ?_)))))))))
 rintro e v1 ⟨he, hv1⟩
 subst v1
 refine ⟨.bool false, by rw [he], ?_⟩
 clear he
 refine Lv (.bool false) (x_assign rfl rfl) (Ln (sN (Ws (Wl (Lv (.int .u64 (b)) (x_move rfl rfl) (Fx.L.call (by rfl) (rC (args := [.int .u64 (b)]) rfl rfl Try.func71 rfl rfl) rfl ((c_nan b _).mono ?_)))))))
 rintro e v1 ⟨he, hv1⟩
 subst v1
 refine ⟨.bool false, by rw [he], ?_⟩
 clear he
 refine Lv (.bool false) (x_assign rfl rfl) (Ln (sN (Ws (Ws (Wl (Lv (.bool false) (x_move rfl rfl) (Ln (sN (Wc (b := false) rfl (fun h => nomatch h) (fun _ => Wk (sN (Ws (Ws (Wl (Lv (.bool false) (x_move rfl rfl) (Ln (sN (Wc (b := false) rfl (fun h => nomatch h) (fun _ => Wk (sN (Ws (Ws (Wl (Lv (.int .u64 (a)) (x_move rfl rfl) (Lv (.int .u64 (b)) (x_move rfl rfl) ?_)))))))))))))))))))))))))
 by_cases c16 : a < b
 ·refine Lv (.bool true) (Fx.x_lssT rfl rfl rfl c16) (Ln (sN (Wc (b := true) rfl (fun _ => Ws (Wl (Lv (.int .i64 (-1)) (x_assign rfl rfl) ?_))) (fun h => nomatch h))))
  refine Ln (sN (Wr (sR (⟨.int .i64 (-1), rV Try.results53 (by exact rfl), ?_⟩))))
  exact ⟨by unfold Fx.cmp3; simp [c16], rfl⟩
 refine Lv (.bool false) (Fx.x_lssF rfl rfl rfl c16) (Ln (sN (Wc (b := false) rfl (fun h => nomatch h) (fun _ => Wk (sN (Ws (Ws (Wl (Lv (.int .u64 (a)) (x_move rfl rfl) (Lv (.int .u64 (b)) (x_move rfl rfl) ?_))))))))))
 by_cases c19 : b < a
 ·refine Lv (.bool true) (Fx.x_gtrT rfl rfl rfl c19) (Ln (sN (Wc (b := true) rfl (fun _ => Ws (Wl (Lv (.int .i64 (1)) (x_assign rfl rfl) ?_))) (fun h => nomatch h))))
  refine Ln (sN (Wr (sR (⟨.int .i64 (1), rV Try.results53 (by exact rfl), ?_⟩))))
  exact ⟨by unfold Fx.cmp3; simp [c16, c19], rfl⟩
 refine Lv (.bool false) (x_gtrF rfl rfl rfl c19) (Ln (sN (Wc (b := false) rfl (fun h => nomatch h) (fun _ => Wk (sN (Ws (Wl (Lv (.int .i64 (0)) (x_assign rfl rfl) (Ln (sN (Wr (⟨.int .i64 (0), rV Try.results53 (by exact rfl), ?_⟩))))))))))))
 exact ⟨by unfold Fx.cmp3; simp [c16, c19], rfl⟩
end Go.Proofs.Ytleajegppehbdaa
namespace Go.Proofs.Ytleajegppehbdaa
open Go.Shelf
def laysS_ren : Go.Shelf.Ren := ⟨fun | 6 => 51 | 15 => 70 | 14 => 69 | 28 => 92 | 29 => 93 | 20 => 84 | 21 => 85 | 22 => 86 | 23 => 87 | 24 => 88 | 25 => 89 | 26 => 90 | 27 => 91 | 46 => 104 | 47 => 105 | 48 => 106 | 49 => 107 | 50 => 108 | 57 => 112 | n => n, fun | 22 => 97 | 24 => 106 | 25 => 112 | 3 => 3 | 39 => 136 | 0 => 0 | 53 => 152 | 55 => 30 | 4 => 4 | 46 => 146 | 45 => 145 | 50 => 131 | 5 => 5 | 9 => 9 | 66 => 163 | 70 => 167 | 76 => 172 | 77 => 173 | n => n, fun | n => n⟩
theorem laysS : Go.Proofs.SlLaysF0.n6 Try.prog laysS_ren := {
  mixed := by kernel_rfl
  f6 := ⟨Try.f51.name, by decide, Try.func51.trans (congrArg some (by kernel_rfl))⟩
  f14 := ⟨Try.f69.name, by decide, Try.func69.trans (congrArg some (by kernel_rfl))⟩
  f15 := Try.func70.trans (congrArg some (by kernel_rfl))
  f20 := ⟨Try.f84.name, by decide, Try.func84.trans (congrArg some (by kernel_rfl))⟩
  f21 := ⟨Try.f85.name, by decide, Try.func85.trans (congrArg some (by kernel_rfl))⟩
  f22 := ⟨Try.f86.name, by decide, Try.func86.trans (congrArg some (by kernel_rfl))⟩
  f23 := ⟨Try.f87.name, by decide, Try.func87.trans (congrArg some (by kernel_rfl))⟩
  f24 := ⟨Try.f88.name, by decide, Try.func88.trans (congrArg some (by kernel_rfl))⟩
  f25 := ⟨Try.f89.name, by decide, Try.func89.trans (congrArg some (by kernel_rfl))⟩
  f26 := ⟨Try.f90.name, by decide, Try.func90.trans (congrArg some (by kernel_rfl))⟩
  f27 := ⟨Try.f91.name, by decide, Try.func91.trans (congrArg some (by kernel_rfl))⟩
  f28 := Try.func92.trans (congrArg some (by kernel_rfl))
  f29 := Try.func93.trans (congrArg some (by kernel_rfl))
  f46 := ⟨Try.f104.name, by decide, Try.func104.trans (congrArg some (by kernel_rfl))⟩
  f47 := Try.func105.trans (congrArg some (by kernel_rfl))
  f48 := Try.func106.trans (congrArg some (by kernel_rfl))
  f49 := ⟨Try.f107.name, by decide, Try.func107.trans (congrArg some (by kernel_rfl))⟩
  f50 := ⟨Try.f108.name, by decide, Try.func108.trans (congrArg some (by kernel_rfl))⟩
  f57 := ⟨Try.f112.name, by decide, Try.func112.trans (congrArg some (by kernel_rfl))⟩
  t0 := Try.underlying0
  a0 := Try.isAgg0
  z0 := Try.sizeOf0
  v0 := Try.zeroValue0
  t3 := Try.underlying3
  a3 := Try.isAgg3
  z3 := Try.sizeOf3
  v3 := Try.zeroValue3
  t4 := Try.underlying4
  a4 := Try.isAgg4
  z4 := Try.sizeOf4
  v4 := Try.zeroValue4
  t5 := Try.underlying5
  a5 := Try.isAgg5
  z5 := Try.sizeOf5
  v5 := Try.zeroValue5
  t9 := Try.underlying9
  a9 := Try.isAgg9
  z9 := Try.sizeOf9
  v9 := Try.zeroValue9
  t22 := Try.underlying97
  a22 := Try.isAgg97
  z22 := Try.sizeOf97
  v22 := Try.zeroValue97
  t25 := Try.underlying112
  a25 := Try.isAgg112
  z25 := Try.sizeOf112
  v25 := Try.zeroValue112
  t39 := Try.underlying136
  a39 := Try.isAgg136
  z39 := Try.sizeOf136
  v39 := Try.zeroValue136
  t45 := Try.underlying145
  a45 := Try.isAgg145
  z45 := Try.sizeOf145
  v45 := Try.zeroValue145
  t46 := Try.underlying146
  a46 := Try.isAgg146
  z46 := Try.sizeOf146
  v46 := Try.zeroValue146
  t50 := Try.underlying131
  a50 := Try.isAgg131
  z50 := Try.sizeOf131
  v50 := Try.zeroValue131
  t53 := Try.underlying152
  a53 := Try.isAgg152
  z53 := Try.sizeOf152
  v53 := Try.zeroValue152
  t55 := Try.underlying30
  a55 := Try.isAgg30
  z55 := Try.sizeOf30
  v55 := Try.zeroValue30
  t66 := Try.underlying163
  a66 := Try.isAgg163
  z66 := Try.sizeOf163
  v66 := Try.zeroValue163
  t70 := Try.underlying167
  a70 := Try.isAgg167
  z70 := Try.sizeOf167
  v70 := Try.zeroValue167
  t76 := Try.underlying172
  a76 := Try.isAgg172
  z76 := Try.sizeOf172
  v76 := Try.zeroValue172
  t77 := Try.underlying173
  a77 := Try.isAgg173
  z77 := Try.sizeOf173
  v77 := Try.zeroValue173 }
end Go.Proofs.Ytleajegppehbdaa
namespace Go.Proofs.Ytleajegppehbdaa
open Go.RowKit Go.Shelf Go.Sort Rt
set_option maxHeartbeats 1000000 in
theorem v_cmpA (cx cy : Array Value) (a b : Int) (ha : cx[14]? = some (.int .u64 a)) (hb : cy[14]? = some (.int .u64 b)) (W : World) :
    Calls Try.prog 52 #[.agg cx, .agg cy] W fun e w' => e = .returned (.int .i64 (Fx.cmp3 a b)) ∧ ∃ q os', w' = grow (W.drewN q) os' := by
  have hcon := fun W' => c_cmp a b W'
  generalize Fx.cmp3 a b = r at hcon ⊢
  go_enter Try.func52, Try.ntmps52
  go_wp2_with (go_at_call 53; refine (hcon _).mono ?_; rintro e w' ⟨rfl, rfl⟩)
  go_ret
  exact ⟨rfl, 0, _, by rw [alloc_eq_grow, alloc_eq_grow, grow_grow]; rfl⟩
instance : Inhabited ItM := ⟨it0⟩
theorem o_sort {w : World} {B cap : Nat} {a : Option Addr} {l : List ItM} (h : Fx.Own w B 106 15 (.slice a l.length cap) l.length (itX l)) (hm : l.length ≤ 1000000) :
    Calls Try.prog 51 #[.slice a l.length cap, .func (.func 52) #[] #[]] w fun e w' => e = .returned (.tuple #[]) ∧ ∃ l' : List ItM, l'.Perm l ∧ l'.Pairwise (fun x y => x.tm ≤ y.tm) ∧ Fx.Own w' B 106 15 (.slice a l.length cap) l.length (itX l') ∧ (∀ k, k < w.heap.size → (Value.slice a l.length cap).ownBlock ≠ some k → w'.heap[k]? = w.heap[k]?) ∧ Fx.ChT [106] w w' ∧ Below B w w' :=
  Fx.sort_agg laysS (fun args w => enters_of Try.func52 (by kernel_rfl) rfl args w) (by decide) Try.isAgg106 Try.sizeOf106 (enc := itY) (e0 := it0) (ky := fun x => x.tm) (fun x j _ => itY_one x j) h
    (fun w1 x y => v_cmpA _ _ _ _ (Fx.varr_get _ (by decide)) (Fx.varr_get _ (by decide)) w1) (by omega)
end Go.Proofs.Ytleajegppehbdaa
namespace Go.Proofs.Ytleajegppehbdaa
open Go.RowKit Rt
open Fx (x_move x_assign x_field x_load1 x_pickF x_pickT x_nil x_conv x_indexS x_index x_leqF x_loadA x_len x_gtrF x_build x_eqlF x_eqlT Lv sN Ln Ws Qv Wl Rp Wc Qs Wr Sb Lk Wk rC rV sR)
namespace Rt
def sinceL (m : LgM) (V : Nat → Int) : Nat → List ItM
  | 0 => []
  | k + 1 => sinceL m V k ++ flt (m.L k) (V k)
theorem sinceL_len (m : LgM) (V : Nat → Int) (k : Nat) : (sinceL m V (k + 1)).length = (sinceL m V k).length + (flt (m.L k) (V k)).length := List.length_append
theorem flt_le (l : List ItM) (s : Int) : (flt l s).length ≤ l.length := List.length_filter_le _ _
theorem sinceL_le {m : LgM} {V : Nat → Int} {T : Nat} (h : ∀ i, i < 6 → (m.L i).length ≤ T) : ∀ k, k ≤ 6 → (sinceL m V k).length ≤ k * T
  | 0, _ => Nat.zero_le _
  | k + 1, hk => by have h1 := sinceL_le (V := V) h k (by omega); have h2 := h k (by omega); have h3 := flt_le (m.L k) (V k); rw [sinceL_len, Nat.add_mul, Nat.one_mul]; omega
theorem itX_left {l1 l2 : List ItM} {j : Nat} (h : j < l1.length * 15) : itX (l1 ++ l2) j = itX l1 j := by
  have h1 : j / 15 < l1.length := Nat.div_lt_of_lt_mul (by rw [Nat.mul_comm]; exact h)
  show itY ((l1 ++ l2).getD (j / 15) it0) _ = itY (l1.getD (j / 15) it0) _
  congr 1
  rw [List.getD_eq_getElem?_getD, List.getD_eq_getElem?_getD, List.getElem?_append_left h1]
theorem itX_right {l1 l2 : List ItM} {j : Nat} (h : l1.length * 15 ≤ j) : itX (l1 ++ l2) j = itX l2 (j - l1.length * 15) := by
  have h1 : l1.length ≤ j / 15 := (Nat.le_div_iff_mul_le (by decide)).2 h
  show itY ((l1 ++ l2).getD (j / 15) it0) _ = itY (l2.getD ((j - l1.length * 15) / 15) it0) ((j - l1.length * 15) % 15)
  rw [show (j - l1.length * 15) / 15 = j / 15 - l1.length by omega, show (j - l1.length * 15) % 15 = j % 15 by omega]
  congr 1
  rw [List.getD_eq_getElem?_getD, List.getD_eq_getElem?_getD, List.getElem?_append_right h1]
theorem since_app {m : LgM} {V : Nat → Int} {k r : Nat} (hp : PlaceR (m.L k) (V k) r) : ∀ j, j < (sinceL m V (k + 1)).length * 15 → Fx.appX (itX (sinceL m V k)) ((sinceL m V k).length * 15) (fun p => itX (m.L k) (r * 15 + p)) j = itX (sinceL m V (k + 1)) j := fun j hj => by
  rw [sinceL_len] at hj
  unfold Fx.appX
  show _ = itX (sinceL m V k ++ flt (m.L k) (V k)) j
  by_cases h : j < (sinceL m V k).length * 15
  · rw [if_pos h, itX_left h]
  · rw [if_neg h, itX_right (by omega)]
    exact flt_x hp _ (by rw [flt_len hp]; omega)
theorem ev_bone (v : EvM) (z : Nat → Value) : ∀ j, j < 1 * 14 → (Fx.ovr z (0 * 14) 14 (evY v) j).oneCell' = true := fun j hj => by
  unfold Fx.ovr; rw [if_pos (by omega)]; exact evY_one v _ (by omega)
theorem ev_next {e : Nat → EvM} {n : Nat} {z : Nat → Value} : ∀ j, j < (n + 1) * 14 → Fx.appX (evX e) (n * 14) (Fx.ovr z (0 * 14) 14 (evY (e n))) j = evX e j := fun j hj =>
  (Fx.app_flat j hj).trans (Fx.flat_cong (fun k _ q _ => by
    unfold Fx.updF
    by_cases e : k = n
    · subst e; rw [if_pos rfl]
    · rw [if_neg e]) j hj)
structure SinceR (m : LgM) (V : Nat → Int) (most : Int) (n : Nat) (l : List ItM) : Prop where
  perm : l.Perm (sinceL m V 6)
  up : l.Pairwise (fun x y => x.tm ≤ y.tm)
  n : n = min most.toNat (sinceL m V 6).length
end Rt
set_option maxRecDepth 10000 in
set_option maxHeartbeats 1000000 in
theorem o_since (V : Nat → Int) (most : Int) (m : LgM) (B p T : Nat) (w : World) (h : LgO w B p m T) (hT : T ≤ 100000) (hs : ∀ i, i < 6 → SeqUp (m.L i)) :
    Calls Try.prog 29 #[(pt p), .agg (Fx.varr 6 (Fx.rv .u64 V)), .int .i64 (most)] w fun e w' => ∃ a n c l', e = .returned (.slice a n c) ∧ Fx.Own w' w.heap.size 50 14 (.slice a n c) n (evX (fun q => (l'.getD q it0).e)) ∧ SinceR m V most n l' ∧ Below w.heap.size w w' := by
 refine Fx.enter Try.func29 rfl (n := 53) rfl (by rfl) ?_
 have hbk := h.blk
 have tp := hbk.lt
 refine Ws (Wl (Fx.L.box (m := 6) (y := Fx.rv .u64 V) (by rfl) rfl rfl (Fx.cells_agg _ _) rfl fun g1 w1 eg1 m1 s1 z1 => ?_))
 have m2 := hbk.stp s1 hbk.ne
 have b1 := s1.below (Below.refl w.heap.size w) (Below.refl w.heap.size w).size (Below.refl w.heap.size w).size
 have lg1 : w.heap.size ≤ g1 := by rw [eg1]; exact (Below.refl w.heap.size w).size
 have ng1m2 : p ≠ g1 := by rw [eg1]; exact Nat.ne_of_lt (hbk.lt)
 have tg1 : g1 < w1.heap.size := m1.lt
 clear eg1
 refine Lv (.slice none 0 0) (x_assign rfl rfl) (Ln (sN (Ws (Ws (Wl (Lv ((pt p)) (x_move rfl rfl) (Lv (.bool false) (Fx.x_eqNil rfl rfl rfl (by kernel_rfl)) (Ln (sN (Wc (b := false) rfl (fun h => nomatch h) (fun _ => Wk (sN (Ws (Wl (Lv (.slice none 0 0) (x_assign rfl rfl) (Ln (sN (Ws (Ws (Wl (Lv ((pt p)) (x_move rfl rfl) (Lv ((pt p)) (x_nil rfl rfl) (Lv ((pt p)) (x_field rfl rfl Try.underlying100 rfl (s := 6) (by kernel_rfl) rfl rfl) (Lv (.agg (Fx.varr 6 (lvV m))) (x_loadA (x := lgY m) (y := lvV m) rfl rfl (by kernel_rfl) (by kernel_rfl) m2.cel (i := 0) (by omega) (by omega) (fun j hj => by rw [Nat.zero_add]; exact lgY_v m hj)) (Lv (.int .i64 (0)) (x_move rfl rfl) (Ln (sN (Fx.W.block ?_))))))))))))))))))))))))))))
 have m3 : Fx.Own w1 w.heap.size 106 15 (.slice none 0 0) 0 (itX (sinceL m V 0)) := Fx.Own.nil _ _ _ _ _
 refine Fx.W.loop (fun f w_ => ∃ k : Nat, ∃ aa : Option Addr, ∃ ca : Nat, k ≤ 6 ∧ f 0 = (pt p) ∧ f 2 = .int .i64 (most) ∧ f 4 = (pt g1) ∧ f 6 = .slice none 0 0 ∧ f 7 = .slice aa ((sinceL m V k).length) (ca) ∧ f 17 = .agg (Fx.varr 6 (lvV m)) ∧ f 18 = .int .i64 ((k : Int)) ∧ Fx.Blk w_ p 13 (lgY m) 100 ∧ Fx.Blk w_ g1 6 (Fx.rv .u64 V) 32 ∧ Fx.Own w_ w.heap.size 106 15 (.slice aa ((sinceL m V k).length) (ca)) ((sinceL m V k).length) (itX (sinceL m V k)) ∧ Below w.heap.size w w_) (fun f _ => (6 - (intOf (f 18)).toNat)) ⟨0, none, 0, by omega, (by rfl), Fx.ic, (by rfl), (by rfl), (by rfl), (by rfl), Fx.ic, m2, m1, m3, b1⟩ ?_
 rintro f1 w2 ⟨k, aa, ca, hk, h1, h2, h3, h4, h5, h6, h7, m4, m5, m6, b2⟩
 refine Ws (Wl ?_)
 by_cases c19 : (k : Int) < 6
 ·refine Lv (.bool true) (Fx.x_lssT rfl h7 rfl c19) (Ln (sN (Ws (Wc (b := true) rfl (fun _ => Wk (sN (Ws (Fx.W.block (Ws (Wl (Lv (.int .i64 ((k : Int))) (x_move rfl h7) ?_))))))) (fun h => nomatch h)))))
  refine Lv (.slice (m.a k) ((m.L k).length) ((m.c k))) (Fx.x_indexV (j := k) (y := lvV m) rfl h6 h7 Try.underlying98 (by kernel_rfl) (by kernel_rfl) (by omega) (rfl)) (Lv (.int .i64 ((k : Int))) (x_assign rfl rfl) (Lv (.slice (m.a k) ((m.L k).length) ((m.c k))) (x_assign rfl rfl) (Ln (sN ?_))))
  have hk1 := h.len k (by omega)
  have hk2 := sinceL_le (V := V) h.len k (by omega)
  have hk3 : k * T ≤ 6 * 100000 := Nat.mul_le_mul (by omega) hT
  have hk4 := sinceL_len m V k
  have m7 : Fx.Own w2 B 106 15 (.slice (m.a k) ((m.L k).length) ((m.c k))) ((m.L k).length) (itX (m.L k)) := (h.ls.1 k (by omega)).up b2
  refine Wl (Lv (.slice aa ((sinceL m V k).length) (ca)) (x_move rfl h5) (Lv (.slice (m.a k) ((m.L k).length) ((m.c k))) (x_move rfl rfl) (Lv (.slice (m.a k) ((m.L k).length) ((m.c k))) (x_move rfl rfl) (Lv (.int .i64 ((k : Int))) (x_move rfl rfl) (Lv ((pf g1 k)) (x_index rfl h3 rfl Try.underlying32 (s := 1) (by kernel_rfl) (by omega) (by omega) (by omega)) (Lv (.int .u64 (V k)) (x_load1 (x := Fx.rv .u64 V) rfl rfl (by kernel_rfl) m5.cel (i := k) (by omega) (by omega) rfl) (Fx.L.call (by rfl) (rC (args := [.slice (m.a k) ((m.L k).length) ((m.c k)), .int .u64 (V k)]) rfl rfl Try.func49 rfl rfl) rfl ((v_place (m.L k) _ _ (V k) _ (by omega) (hs k (by omega)) (m7.arr)).mono ?_))))))))
  rintro e w3 ⟨r, he, hr, hb1⟩
  refine ⟨_, he, ?_⟩
  clear he
  have s2 := Sb hb1
  have hrl := hr.le
  have m8 := m4.stp s2 m4.ne
  have m9 := m5.stp s2 m5.ne
  have m10 := m6.stp s2 (m6.notNew (Nat.le_refl _))
  have m11 := m7.stp s2 (m7.notNew (Nat.le_refl _))
  have b3 := s2.below b2 b2.size b2.size
  have hfl := flt_len hr
  refine Lv (.slice (Fx.loA 15 r (m.c k) (m.a k)) ((m.L k).length - r) ((m.c k) - r)) (Fx.x_lo (j := r) (s := 15) rfl rfl rfl Try.underlying97 (by kernel_rfl) (by omega) m11) (Fx.L.appAny (B := w.heap.size) (s := 15) (bytes := 120) (k := (sinceL m V k).length) (m := ((m.L k).length - r)) (v := .slice aa ((sinceL m V k).length) (ca)) (x := itX (sinceL m V k)) (by rfl) rfl rfl rfl Try.underlying97 (by kernel_rfl) (by kernel_rfl) rfl rfl m10 (m11.arrLo (by omega)) (fun j _ => itX_one _ _) (by omega) (by omega) b3.size fun vv1 w4 ho1 hg1 hgv1 => ?_)
  rw [show (sinceL m V k).length + ((m.L k).length - r) = (sinceL m V (k + 1)).length by omega] at ho1
  obtain ⟨a1, cap1, rfl⟩ := ho1.val
  have hct1 := Fx.ChT.of_grown hg1 m10
  have m13 := m8.chT hct1 (by decide)
  have m14 := m9.chT hct1 (by decide)
  have m12 : Fx.Own w4 w.heap.size 106 15 (.slice a1 ((sinceL m V (k + 1)).length) (cap1)) ((sinceL m V (k + 1)).length) (itX (sinceL m V (k + 1))) := (ho1.congr (fun j hj => since_app hr j hj))
  have b4 : Below w.heap.size w w4 := Fx.Below.grow b3 hg1 b3.size (fun q hq => (m10.ge hq).1)
  refine Lv (.slice a1 ((sinceL m V (k + 1)).length) (cap1)) (x_assign rfl rfl) (Ln (Fx.blkN (sN (Wl (Lv (.int .i64 ((k : Int) + 1)) (Fx.x_add rfl h7 rfl Fx.io) (Lv (.int .i64 ((k : Int) + 1)) (x_move rfl rfl) (Ln ?_)))))))
  skip
  refine Fx.lpN ⟨k + 1, a1, cap1, by omega, h1, (h2.trans Fx.ic), h3, h4, (by rfl), h6, Fx.ic, m13, m14, m12, b4⟩ ?_
  show (6 - (intOf ((.int .i64 ((k : Int) + 1)))).toNat) < _
  simp only [h7, intOf]; omega
 refine Lv (.bool false) (Fx.x_lssF rfl h7 rfl c19) (Ln (sN (Ws (Wc (b := false) rfl (fun h => nomatch h) (fun _ => Fx.W.exit (Fx.seqX (Fx.lpX (Fx.blkX (sN (Ws ?_))))))))))
 have e6 : k = 6 := by omega
 subst e6
 have hk2 := sinceL_le (V := V) h.len 6 (by omega)
 have hk3 : 6 * T ≤ 6 * 100000 := Nat.mul_le_mul (by omega) hT
 refine Wl (Lv (.slice aa ((sinceL m V 6).length) (ca)) (x_move rfl h5) (Fx.L.call (by rfl) (rC (args := [.slice aa ((sinceL m V 6).length) (ca), .func (.func 52) #[] #[]]) rfl rfl Try.func51 rfl rfl) rfl ((o_sort m6 (by omega)).mono ?_)))
 rintro e9 w5 ⟨he, l', hpm, hup, m15, _, hct2, hb2⟩
 refine ⟨_, he, ?_⟩
 clear he
 have b5 := b2.trans hb2
 refine Ln (sN (Ws (Ws ?_)))
 obtain ⟨cc, ecc⟩ : ∃ cc : Nat, cc = min most.toNat (sinceL m V 6).length := ⟨_, rfl⟩
 have hcc : cc ≤ (sinceL m V 6).length := by omega
 refine Wl (Lv (.slice aa ((sinceL m V 6).length) (ca)) (x_move rfl h5) (Lv (.int .i64 (most)) (x_move rfl h2) (Lv (.slice aa ((sinceL m V 6).length) (ca)) (x_move rfl h5) (Lv (.int .i64 ((((sinceL m V 6).length : Nat) : Int))) (x_len rfl rfl rfl (by kernel_rfl)) (Lv (.int .i64 (if (((sinceL m V 6).length : Nat) : Int) < most then (((sinceL m V 6).length : Nat) : Int) else most)) (Fx.x_min rfl rfl rfl) (Lv (.int .i64 ((cc : Int))) (Fx.runs_i (Fx.x_max rfl rfl rfl) (by split <;> split at * <;> omega)) (Lv (.slice aa (cc) (ca)) (Fx.x_hi (j := cc) (s := 15) rfl rfl rfl Try.underlying97 (by kernel_rfl) (by omega) m15) (Lv (.int .i64 ((cc : Int))) (x_len rfl rfl rfl (by kernel_rfl)) (Lv (.int .i64 (0)) (x_move rfl rfl) (Ln (sN (Fx.W.block ?_))))))))))))
 have m16 : Fx.Own w5 w.heap.size 50 14 (.slice none 0 0) 0 (evX (fun q => (l'.getD q it0).e)) := Fx.Own.nil _ _ _ _ _
 refine Fx.W.loop (fun f w_ => ∃ i : Nat, ∃ oa : Option Addr, ∃ oc : Nat, i ≤ cc ∧ f 6 = .slice oa (i) (oc) ∧ f 40 = .slice aa (cc) (ca) ∧ f 41 = .int .i64 ((cc : Int)) ∧ f 42 = .int .i64 ((i : Int)) ∧ Fx.Own w_ w.heap.size 106 15 (.slice aa ((sinceL m V 6).length) (ca)) ((sinceL m V 6).length) (itX l') ∧ Fx.Own w_ w.heap.size 50 14 (.slice oa (i) (oc)) i (evX (fun q => (l'.getD q it0).e)) ∧ Below w.heap.size w w_) (fun f _ => (cc - (intOf (f 42)).toNat)) ⟨0, none, 0, by omega, h4, (by rfl), Fx.ic, Fx.ic, m15, m16, b5⟩ ?_
 rintro f2 w6 ⟨i, oa, oc, hi, h8, h9, h10, h11, m17, m18, b6⟩
 refine Ws (Wl ?_)
 by_cases c43 : (i : Int) < (cc : Int)
 ·refine Lv (.bool true) (Fx.x_lssT rfl h11 h10 c43) (Ln (sN (Ws (Wc (b := true) rfl (fun _ => Wk (sN (Ws (Fx.W.block (Ws ?_))))) (fun h => nomatch h)))))
  obtain ⟨bq, oq, eq, mq⟩ := (m17.arrLe (j := cc) (by omega)) (by omega)
  have lbq := mq.lt (by omega)
  refine Wl (Lv ((pf bq (15 * i + oq))) (x_indexS rfl (h9.trans (congrArg (fun q => Value.slice q (cc) (ca)) eq)) h11 Try.underlying97 (s := 15) (by kernel_rfl) (by omega) (by omega) (by omega)) (Lv (.agg (Fx.varr 15 (itY ((l').getD i it0)))) (x_loadA (x := itX l') (y := itY ((l').getD i it0)) rfl rfl (by kernel_rfl) (by kernel_rfl) mq (i := 15 * i) (by omega) (by omega) (fun jq hjq => Fx.flat_at (k := i) (by omega) hjq)) (Fx.L.new (m := 15) (y := fun zq => if zq < 1 then .int .i64 (0) else if zq < 8 then .int .u64 (0) else if zq < 9 then .int .u8 (0) else if zq < 10 then .int .u64 (0) else if zq < 12 then .int .i64 (0) else .int .u64 (0)) (by rfl) rfl (by kernel_rfl) rfl fun g2 w7 eg2 m19 s3 z2 => ?_)))
  have m20 := m17.stp s3 (m17.notNew (Nat.le_refl _))
  have m21 := m18.stp s3 (m18.notNew (Nat.le_refl _))
  have m22 := mq.stp s3 (Nat.ne_of_lt (mq.lt (by omega)))
  have b7 := s3.below b6 b6.size b6.size
  have lg2 : w.heap.size ≤ g2 := by rw [eg2]; exact b6.size
  have ng2m20 : (.slice aa ((sinceL m V 6).length) (ca) : Value).ownBlock ≠ some g2 := by rw [eg2]; exact m17.notNew (Nat.le_refl _)
  have ng2m22 : bq ≠ g2 := by rw [eg2]; exact Nat.ne_of_lt (mq.lt (by omega))
  have tg2 : g2 < w7.heap.size := m19.lt
  clear eg2
  refine Fx.L.storeA (x := fun zq => if zq < 1 then .int .i64 (0) else if zq < 8 then .int .u64 (0) else if zq < 9 then .int .u8 (0) else if zq < 10 then .int .u64 (0) else if zq < 12 then .int .i64 (0) else .int .u64 (0)) (y := itY ((l').getD i it0)) (by rfl) rfl rfl rfl rfl (fun j _ => itY_one _ j) (by kernel_rfl) m19 (i := 0) (by omega) fun w8 m23 s4 z3 => ?_
  have m24 : Fx.Blk w8 g2 15 (itY ((l').getD i it0)) 106 := Fx.ovr_all m23
  have m25 := m20.stp s4 ng2m20
  have hct3 := Fx.ChT.of_stp s4 m19.ty
  have m26 := m21.chT hct3 (by decide)
  have m27 := m22.stp s4 (by omega)
  have b8 := s4.below b7 b7.size (by omega)
  refine Ln (sN (Wl (Lv (.slice oa (i) (oc)) (x_move rfl h8) (Lv ((pt g2)) (x_field rfl rfl Try.underlying106 rfl (s := 14) (by kernel_rfl) rfl rfl) (Lv (.agg (Fx.varr 14 (evY ((l').getD i it0).e))) (x_loadA (x := itY ((l').getD i it0)) (y := evY ((l').getD i it0).e) rfl rfl (by kernel_rfl) (by kernel_rfl) m24.cel (i := 0) (by omega) (by omega) (fun j hj => by rw [Nat.zero_add]; exact itY_ev _ hj rfl)) (Fx.L.bslice (vs := [(0, .agg (Fx.varr 14 (evY ((l').getD i it0).e)))]) (s := 14) (zc := fun zq => if zq < 1 then .int .i64 (0) else if zq < 8 then .int .u64 (0) else if zq < 9 then .int .u8 (0) else if zq < 10 then .int .u64 (0) else if zq < 12 then .int .i64 (0) else .int .u64 (0)) (y := Fx.ovr (fun j => (fun zq => if zq < 1 then .int .i64 (0) else if zq < 8 then .int .u64 (0) else if zq < 9 then .int .u8 (0) else if zq < 10 then .int .u64 (0) else if zq < 12 then .int .i64 (0) else .int .u64 (0)) (j % 14)) (0 * 14) 14 (evY ((l').getD i it0).e)) (by rfl) rfl rfl Try.underlying46 (by kernel_rfl) (by rfl) (by rfl) (by kernel_rfl) (by rw [Fx.fill_step (off := 0 * 14) (s := 14) (y := evY ((l').getD i it0).e) rfl (Fx.cells_agg _ _) (by rfl)]; rfl) rfl fun g3 w9 eg3 m28 s5 z4 => ?_))))))
  have m29 := m25.stp s5 (m25.notNew (Nat.le_refl _))
  have m30 := m26.stp s5 (m26.notNew (Nat.le_refl _))
  have b9 := s5.below b8 b8.size b8.size
  have lg3 : w.heap.size ≤ g3 := by rw [eg3]; exact b8.size
  have ng3m30 : (.slice oa (i) (oc) : Value).ownBlock ≠ some g3 := by rw [eg3]; exact m26.notNew (Nat.le_refl _)
  have ng3m31 : g2 ≠ g3 := by rw [eg3]; exact Nat.ne_of_lt (m24.lt)
  have tg3 : g3 < w9.heap.size := m28.lt
  clear eg3
  refine Fx.L.app (B := w.heap.size) (s := 14) (bytes := 112) (k := i) (m := 1) (v := .slice oa (i) (oc)) (x := evX (fun q => (l'.getD q it0).e)) (by rfl) rfl rfl rfl Try.underlying46 (by kernel_rfl) (by kernel_rfl) rfl rfl m30 m28.cel (ev_bone _ _) (by omega) (by omega) (by omega) b9.size fun g4 cap2 w10 ho2 hg2 hgv2 hlt1 => ?_
  have hct4 := Fx.ChT.of_grown hg2 m30
  have m33 := m29.chT hct4 (by decide)
  have m32 : Fx.Own w10 w.heap.size 50 14 (.slice (some ⟨g4, 0, none⟩) (i + 1) cap2) (i + 1) (evX (fun q => (l'.getD q it0).e)) := (ho2.congr (fun j hj => ev_next j hj))
  have b10 : Below w.heap.size w w10 := Fx.Below.grow b9 hg2 b9.size (fun q hq => (m30.ge hq).1)
  refine Lv (.slice (some ⟨g4, 0, none⟩) (i + 1) (cap2)) (x_assign rfl rfl) (Ln (Fx.blkN (sN (Wl (Lv (.int .i64 ((i : Int) + 1)) (Fx.x_add rfl h11 rfl Fx.io) (Lv (.int .i64 ((i : Int) + 1)) (x_move rfl rfl) (Ln ?_)))))))
  skip
  refine Fx.lpN ⟨i + 1, (some ⟨g4, 0, none⟩), cap2, by omega, (by rfl), h9, (h10.trans Fx.ic), Fx.ic, m33, m32, b10⟩ ?_
  show (cc - (intOf ((.int .i64 ((i : Int) + 1)))).toNat) < _
  simp only [h11, intOf]; omega
 refine Lv (.bool false) (Fx.x_lssF rfl h11 h10 c43) (Ln (sN (Ws (Wc (b := false) rfl (fun h => nomatch h) (fun _ => Fx.W.exit (Fx.seqX (Fx.lpX (Fx.blkX (sN (Ws (Wl (Lv (.slice oa (i) (oc)) (x_move rfl h8) (Lv (.slice oa (i) (oc)) (x_assign rfl rfl) (Ln (sN (Wr (⟨.slice oa (i) (oc), rV Try.results29 (by exact rfl), ?_⟩)))))))))))))))))
 have ei : i = cc := by omega
 subst ei
 exact ⟨_, _, _, l', rfl, m18, ⟨hpm, hup, ecc⟩, b6⟩
section
namespace Rt
def keepB (V : Nat → Int) (x : ItM) : Bool := decide (V (regN x.e) < x.e.seq)
def ofB2 (i : Nat) (x : ItM) : Bool := decide (regN x.e = i)
structure Gs (m : LgM) (G : List ItM) : Prop where
  L : ∀ i, i < 6 → m.L i = G.filter (ofB2 i)
  tm : G.Pairwise (fun x y => x.tm < y.tm)
  tb : ∀ x ∈ G, x.tm < m.cnt
  may : ∀ x ∈ G, mayE x.e = true
  wf : ∀ x ∈ G, EvWf x.e
  seq : G.Pairwise (fun x y => regN x.e = regN y.e → x.e.seq < y.e.seq)
  kn : ∀ x ∈ G, x.e.seq ≤ m.K (regN x.e)
  kok : KnOk m.K
theorem Gs.new : Gs newL [] := ⟨fun _ _ => rfl, List.Pairwise.nil, fun _ h => (by cases h), fun _ h => (by cases h), fun _ h => (by cases h), List.Pairwise.nil, fun _ h => (by cases h), fun _ _ => ⟨Int.le_refl _, by show (0 : Int) < _; decide⟩⟩
theorem regN_may {v : EvM} (h : mayE v = true) : regN v < 6 ∧ v.o = (regN v : Int) + 1 := by
  obtain ⟨a, ha, ea⟩ := regE_nat (may_reg h)
  unfold regN
  omega
section
variable {m m' : LgM} {G : List ItM} {v : EvM} {V : Nat → Int}
theorem Gs.seqUp (h : Gs m G) : ∀ i, i < 6 → SeqUp (m.L i) := fun i hi q r hqr hr => by
  rw [h.L i hi] at hr ⊢
  have h1 := List.pairwise_iff_getElem.1 (h.seq.filter (ofB2 i)) q r (by omega) hr hqr
  have hm : ∀ k, (hk : k < (G.filter (ofB2 i)).length) → regN ((G.filter (ofB2 i))[k]).e = i := fun k hk => by
    have := (List.mem_filter.1 (List.getElem_mem hk)).2
    exact of_decide_eq_true this
  have h2 := h1 ((hm q (by omega)).trans (hm r hr).symm)
  rw [List.getD_eq_getElem?_getD, List.getD_eq_getElem?_getD, List.getElem?_eq_getElem (by omega), List.getElem?_eq_getElem hr]
  exact h2
theorem addG_ok (h : addG m v = 0) : mayE v = true ∧ readyE m.K v = true := by
  unfold addG at h
  cases h1 : mayE v with
  | false => rw [h1] at h; simp at h
  | true =>
    rw [h1] at h
    cases h2 : lateE m.K v with
    | true => rw [h2] at h; simp at h
    | false =>
      rw [h2] at h
      cases h3 : readyE m.K v with
      | false => rw [h3] at h; simp at h
      | true => exact ⟨rfl, rfl⟩
theorem ready_seq {K : Nat → Int} (h : readyE K v = true) : v.seq = K (regN v) + 1 ∧ ∀ i, i < 6 → v.deps i ≤ K i := by
  unfold readyE at h
  simp only [Bool.and_eq_true, decide_eq_true_eq] at h
  refine ⟨h.1.2, fun i hi => ?_⟩
  have := h.2
  unfold leAll at this
  rw [List.all_eq_true] at this
  exact of_decide_eq_true (this i (List.mem_range.2 hi))
theorem Gs.add (h : Gs m G) (ha : addG m v = 0) (hr : AddR m m' v) (hv : EvWf v) : Gs m' (G ++ [⟨v, m.cnt⟩]) := by
  obtain ⟨hm, hy⟩ := addG_ok ha
  obtain ⟨e1, e2, e3⟩ := hr
  obtain ⟨hs, _⟩ := ready_seq hy
  obtain ⟨hr6, _⟩ := regN_may hm
  have hsb := may_seq hm
  refine ⟨fun i hi => ?_, ?_, fun x hx => ?_, fun x hx => ?_, fun x hx => ?_, ?_, fun x hx => ?_, fun i hi => ?_⟩
  · rw [e3, List.filter_append]
    unfold updA
    by_cases e : i = regN v
    · subst e
      rw [if_pos rfl, h.L _ hi]
      simp [ofB2]
    rw [if_neg e, h.L _ hi]
    simp [ofB2, Ne.symm e]
  · rw [List.pairwise_append]
    refine ⟨h.tm, List.pairwise_singleton _ _, fun x hx y hy => ?_⟩
    rw [List.mem_singleton.1 hy]
    exact h.tb x hx
  · rw [e2]
    rcases List.mem_append.1 hx with h1 | h1
    · have := h.tb x h1; omega
    rw [List.mem_singleton.1 h1]; show m.cnt < _; omega
  · rcases List.mem_append.1 hx with h1 | h1
    · exact h.may x h1
    rw [List.mem_singleton.1 h1]; exact hm
  · rcases List.mem_append.1 hx with h1 | h1
    · exact h.wf x h1
    rw [List.mem_singleton.1 h1]; exact hv
  · rw [List.pairwise_append]
    refine ⟨h.seq, List.pairwise_singleton _ _, fun x hx y hy e => ?_⟩
    rw [List.mem_singleton.1 hy] at e ⊢
    have h1 := h.kn x hx
    show x.e.seq < v.seq
    have e : regN x.e = regN v := e
    rw [e] at h1
    omega
  · rw [e1]
    rcases List.mem_append.1 hx with h1 | h1
    · have h2 := h.kn x h1
      unfold upd
      split
      · rename_i e; rw [e] at h2; omega
      exact h2
    rw [List.mem_singleton.1 h1]
    show v.seq ≤ upd m.K (regN v) v.seq (regN v)
    unfold upd; rw [if_pos rfl]; exact Int.le_refl _
  rw [e1]
  unfold upd
  split
  · omega
  exact h.kok i hi
def catR (G : List ItM) : Nat → List ItM
  | 0 => []
  | k + 1 => catR G k ++ G.filter (ofB2 k)
theorem cat_perm (G : List ItM) : ∀ k, (catR G k).Perm (G.filter fun x => decide (regN x.e < k))
  | 0 => by simp [catR]
  | k + 1 => by
    have h1 := cat_perm G k
    have h2 := List.filter_append_perm (fun x => decide (regN x.e < k)) (G.filter fun x => decide (regN x.e < k + 1))
    rw [List.filter_filter, List.filter_filter] at h2
    have e1 : (G.filter fun x => decide (regN x.e < k) && decide (regN x.e < k + 1)) = G.filter fun x => decide (regN x.e < k) := by
      apply List.filter_congr; intro x _
      rw [Bool.eq_iff_iff]; simp; omega
    have e2 : (G.filter fun x => (!decide (regN x.e < k)) && decide (regN x.e < k + 1)) = G.filter (ofB2 k) := by
      apply List.filter_congr; intro x _
      unfold ofB2
      rw [Bool.eq_iff_iff]; simp; omega
    rw [e1, e2] at h2
    exact (h1.append_right _).trans h2
theorem cat_all (h : ∀ x ∈ G, regN x.e < 6) : (catR G 6).Perm G := by
  refine (cat_perm G 6).trans (List.Perm.of_eq ?_)
  rw [List.filter_eq_self]
  intro x hx
  exact decide_eq_true (h x hx)
theorem Gs.reg (h : Gs m G) : ∀ x ∈ G, regN x.e < 6 := fun x hx => (regN_may (h.may x hx)).1
theorem Gs.flt (h : Gs m G) (V : Nat → Int) {i : Nat} (hi : i < 6) : flt (m.L i) (V i) = (G.filter (keepB V)).filter (ofB2 i) := by
  unfold Rt.flt
  rw [h.L i hi, List.filter_filter, List.filter_filter]
  apply List.filter_congr
  intro x _
  unfold ofB2 keepB
  rw [Bool.eq_iff_iff]
  simp only [Bool.and_eq_true, decide_eq_true_eq]
  constructor
  · rintro ⟨a, b⟩; exact ⟨b, by rw [b]; exact a⟩
  rintro ⟨a, b⟩; exact ⟨by rw [a] at b; exact b, a⟩
theorem Gs.sinceL (h : Gs m G) (V : Nat → Int) : ∀ k, k ≤ 6 → sinceL m V k = catR (G.filter (keepB V)) k
  | 0, _ => rfl
  | k + 1, hk => by
    show Rt.sinceL m V k ++ Rt.flt (m.L k) (V k) = _
    rw [h.sinceL V k (by omega), h.flt V (by omega)]; rfl
theorem Gs.since (h : Gs m G) {most : Int} {n : Nat} {l' : List ItM} (hs : SinceR m V most n l') : l' = G.filter (keepB V) ∧ n = min most.toNat (G.filter (keepB V)).length := by
  have h1 : (Rt.sinceL m V 6).Perm (G.filter (keepB V)) := by
    rw [h.sinceL V 6 (by omega)]
    exact cat_all fun x hx => h.reg x (List.mem_filter.1 hx).1
  have hp := hs.perm.trans h1
  refine ⟨?_, by rw [hs.n, h1.length_eq]⟩
  have ht := h.tm.filter (keepB V)
  refine List.Perm.eq_of_pairwise (le := fun x y : ItM => x.tm ≤ y.tm) (fun a b ha hb h2 h3 => ?_) hs.up (ht.imp fun h => Int.le_of_lt h) hp
  have ha := hp.subset ha
  obtain ⟨i, hi, ei⟩ := List.mem_iff_getElem.1 ha
  obtain ⟨j, hj, ej⟩ := List.mem_iff_getElem.1 hb
  rcases Nat.lt_trichotomy i j with h4 | h4 | h4
  · have := List.pairwise_iff_getElem.1 ht i j hi hj h4
    rw [ei, ej] at this; omega
  · subst h4; rw [← ei, ← ej]
  have := List.pairwise_iff_getElem.1 ht j i hj hi h4
  rw [ei, ej] at this; omega
theorem Gs.prune (h : Gs m G) (hp : PruneR m m' V) : Gs m' (G.filter (keepB V)) :=
  ⟨fun i hi => by rw [hp.L i hi, h.flt V hi], h.tm.filter _, fun x hx => by rw [hp.cnt]; exact h.tb x (List.mem_filter.1 hx).1, fun x hx => h.may x (List.mem_filter.1 hx).1, fun x hx => h.wf x (List.mem_filter.1 hx).1, h.seq.filter _, fun x hx => by rw [hp.K]; exact h.kn x (List.mem_filter.1 hx).1, by rw [hp.K]; exact h.kok⟩
theorem Gs.lens (h : Gs m G) : ∀ k, k ≤ 6 → lenN m k = (catR G k).length
  | 0, _ => rfl
  | k + 1, hk => by
    show lenN m k + (m.L k).length = (catR G k ++ _).length
    rw [h.lens k (by omega), List.length_append, h.L k (by omega)]
theorem Gs.len (h : Gs m G) : lenN m 6 = G.length := by rw [h.lens 6 (by omega)]; exact (cat_all h.reg).length_eq
theorem Gs.gones (h : Gs m G) (V : Nat → Int) : ∀ k, k ≤ 6 → goneN m V k + (catR (G.filter (keepB V)) k).length = (catR G k).length
  | 0, _ => rfl
  | k + 1, hk => by
    have h1 := h.gones V k (by omega)
    show goneN m V k + ((m.L k).length - (Rt.flt (m.L k) (V k)).length) + (catR (G.filter (keepB V)) k ++ _).length = (catR G k ++ _).length
    rw [List.length_append, List.length_append, ← h.flt V (by omega), ← h.L k (by omega)]
    have := flt_le (m.L k) (V k)
    omega
theorem Gs.gone (h : Gs m G) (V : Nat → Int) : goneN m V 6 = G.length - (G.filter (keepB V)).length := by
  have h1 := h.gones V 6 (by omega)
  rw [(cat_all h.reg).length_eq, (cat_all (G := G.filter (keepB V)) fun x hx => h.reg x (List.mem_filter.1 hx).1).length_eq] at h1
  omega
theorem Gs.get (h : Gs m G) {i q : Int} {b : Bool} (hg : GetR m i q v b) : (b = true ∧ ∃ x ∈ G, x.e = v ∧ v.o = i ∧ v.seq = q) ∨ (b = false ∧ v = zeroE ∧ ∀ x ∈ G, ¬ (x.e.o = i ∧ x.e.seq = q)) := by
  rcases hg with ⟨hb, hr, r, hlt, hv, hs⟩ | ⟨hb, hv, hn⟩
  · obtain ⟨a, ha, ea⟩ := regE_nat hr
    have e : (i - 1).toNat = a := by omega
    rw [e] at hlt hv
    refine .inl ⟨hb, (m.L a).getD r it0, ?_, hv.symm, ?_, hs⟩
    · have h1 : (m.L a).getD r it0 ∈ m.L a := by rw [List.getD_eq_getElem?_getD, List.getElem?_eq_getElem hlt]; exact List.getElem_mem hlt
      rw [h.L a ha] at h1 ⊢
      exact (List.mem_filter.1 h1).1
    have h1 : (m.L a).getD r it0 ∈ m.L a := by rw [List.getD_eq_getElem?_getD, List.getElem?_eq_getElem hlt]; exact List.getElem_mem hlt
    rw [h.L a ha] at h1
    have h2 := List.mem_filter.1 h1
    rw [← h.L a ha] at h2
    have h3 := regN_may (h.may _ h2.1)
    have h4 : regN ((m.L a).getD r it0).e = a := of_decide_eq_true h2.2
    rw [hv]; omega
  refine .inr ⟨hb, hv, fun x hx ⟨e1, e2⟩ => ?_⟩
  have h3 := regN_may (h.may x hx)
  have h5 := may_seq (h.may x hx)
  rcases hn with h1 | h1 | h1
  · have := may_reg (h.may x hx); rw [e1, h1] at this; cases this
  · omega
  have e : (i - 1).toNat = regN x.e := by omega
  rw [e] at h1
  have h6 : x ∈ m.L (regN x.e) := by rw [h.L _ h3.1]; exact List.mem_filter.2 ⟨hx, decide_eq_true rfl⟩
  obtain ⟨r, hr, er⟩ := List.mem_iff_getElem.1 h6
  refine h1 r hr ?_
  rw [List.getD_eq_getElem?_getD, List.getElem?_eq_getElem hr, er]; exact e2
theorem Gs.uniq (h : Gs m G) {x y : ItM} (hx : x ∈ G) (hy : y ∈ G) (e1 : x.e.o = y.e.o) (e2 : x.e.seq = y.e.seq) : x = y := by
  obtain ⟨i, hi, ei⟩ := List.mem_iff_getElem.1 hx
  obtain ⟨j, hj, ej⟩ := List.mem_iff_getElem.1 hy
  have er : regN x.e = regN y.e := by unfold regN; rw [e1]
  rcases Nat.lt_trichotomy i j with h4 | h4 | h4
  · have := List.pairwise_iff_getElem.1 h.seq i j hi hj h4
    rw [ei, ej] at this; have := this er; omega
  · subst h4; rw [← ei, ← ej]
  have := List.pairwise_iff_getElem.1 h.seq j i hj hi h4
  rw [ei, ej] at this; have := this er.symm; omega
end
end Rt
end
section
namespace Rt
structure RlM where
  a : Option Addr
  c : Nat
  R : List EvM
  K : Nat → Int
def evL (R : List EvM) : Nat → Value := Fx.flat 14 fun q => evY (R.getD q zeroE)
def rlY (r : RlM) : Nat → Value := fun p => if p = 0 then .slice r.a r.R.length r.c else .int .u64 (r.K (p - 1))
structure RlO (w : World) (B q : Nat) (r : RlM) (T : Nat) : Prop where
  blk : Fx.Blk w q 7 (rlY r) 48
  own : Fx.Own w B 50 14 (.slice r.a r.R.length r.c) r.R.length (evL r.R)
  gp : B ≤ q
  len : r.R.length ≤ T
  may : ∀ v ∈ r.R, mayE v = true
  wf : ∀ v ∈ r.R, EvWf v
  kok : KnOk r.K
def rlS (q : Nat) (r : RlM) (k : Nat) : Prop := k = q ∨ (Value.slice r.a r.R.length r.c).ownBlock = some k
section
variable {w w' : World} {B q T : Nat} {r : RlM}
theorem RlO.up (h : RlO w B q r T) (hb : Below w.heap.size w w') : RlO w' B q r T := { h with blk := h.blk.stp (Sb hb) (Nat.ne_of_lt h.blk.lt), own := h.own.up hb }
theorem RlO.chT {Ts : List TypeId} (h : RlO w B q r T) (hs : Fx.ChT Ts w w') (h1 : Ts.contains 50 = false ∧ Ts.contains 48 = false) : RlO w' B q r T := { h with blk := h.blk.chT hs h1.2, own := h.own.chT hs h1.1 }
theorem RlO.mono {T' : Nat} (h : RlO w B q r T) (hT : T ≤ T') : RlO w B q r T' := { h with len := Nat.le_trans h.len hT }
theorem RlO.ge (h : RlO w B q r T) : ∀ k, rlS q r k → B ≤ k ∧ k < w.heap.size := fun k hk => by
  rcases hk with rfl | e
  · exact ⟨h.gp, h.blk.lt⟩
  · exact h.own.ge e
theorem RlO.chm (h : RlO w B q r T) (hs : Fx.Chg (rlS q r) w w') : Fx.ChT [50, 48] w w' := Fx.ChT.of_chg hs fun k hk => by
  rcases hk with rfl | e
  · exact ⟨_, h.blk.ty, by decide⟩
  · exact ⟨_, h.own.ty e, by decide⟩
theorem RlO.below (h : RlO w B q r T) (hB : B ≤ w.heap.size) (hs : Fx.Chg (rlS q r) w w') : Below B w w' := Fx.Chg.below (Below.refl B w) hs (fun k hk => (h.ge k hk).1) hB
end
def SepR (w : World) (q : Nat) (r r' : RlM) : Prop := ∀ k, rlS q r' k → rlS q r k ∨ w.heap.size ≤ k
theorem SepR.add {w w3 : World} {q g : Nat} {r r' : RlM} (hgv : (Value.slice r.a r.R.length r.c).ownBlock = some g ∨ g = w3.heap.size) (hs : w.heap.size ≤ w3.heap.size) (h4 : (Value.slice r'.a r'.R.length r'.c).ownBlock = some g := by rfl) : SepR w q r r' := fun k hk => by
  rcases hk with h | h
  · exact .inl (.inl h)
  · have e : g = k := Option.some.inj (h4.symm.trans h)
    rcases hgv with h5 | h5
    · exact .inl (.inr (e ▸ h5))
    · exact .inr (by omega)
def addK (K : Nat → Int) (v : EvM) : Int := if mayE v = false then 1 else if lateE K v = true then 14 else if readyE K v = false then 13 else 0
theorem addG_K (m : LgM) (v : EvM) : addG m v = addK m.K v := rfl
def keepE (V : Nat → Int) (v : EvM) : Bool := decide (V (regN v) < v.seq)
theorem getD_mem {R : List EvM} {k : Nat} (h : k < R.length) : R.getD k zeroE ∈ R := by rw [List.getD_eq_getElem?_getD, List.getElem?_eq_getElem h]; exact List.getElem_mem h
theorem take_next {R : List EvM} {k : Nat} (h : k < R.length) : R.take (k + 1) = R.take k ++ [R.getD k zeroE] := by
  rw [List.take_add_one, List.getD_eq_getElem?_getD, List.getElem?_eq_getElem h]; rfl
def RGetR (R : List EvM) (i q : Int) (v : EvM) (b : Bool) : Prop := (b = true ∧ v ∈ R ∧ v.o = i ∧ v.seq = q) ∨ (b = false ∧ v = zeroE ∧ ∀ u ∈ R, ¬ (u.o = i ∧ u.seq = q))
end Rt
open Rt
end
namespace Rt
theorem LgO.weak {w : World} {B B' p T : Nat} {m : LgM} (h : LgO w B p m T) (hB : B' ≤ B) : LgO w B' p m T := { h with ls := ⟨fun i hi => (h.ls.1 i hi).mono hB, h.ls.2⟩, gp := Nat.le_trans hB h.gp }
end Rt
namespace Rt
def wdY (x y : Value) : Nat → Value := fun q => if q = 0 then x else y
theorem wdY_0 (x y v : Value) : Fx.updV (wdY x y) 0 v = wdY v y := by funext q; unfold Fx.updV wdY; split <;> rfl
theorem wdY_1 (x y v : Value) : ∀ j, j < 2 → Fx.updV (wdY x y) 1 v j = wdY x v j := fun j hj => by
  unfold Fx.updV wdY
  rcases j with _|_|j
  · rfl
  · rfl
  · omega
def ptX (pl : Nat → Nat) : Nat → Value := fun i => (pt (pl i))
def Lds (w : World) (B n : Nat) (pl : Nat → Nat) (ml : Nat → LdM) : Prop := ∀ i, i < n → LdO w B (pl i) (ml i)
theorem Lds.up {w w' : World} {B n : Nat} {pl : Nat → Nat} {ml : Nat → LdM} (h : Lds w B n pl ml) (hb : Below w.heap.size w w') : Lds w' B n pl ml := fun i hi => (h i hi).up hb
theorem Lds.chT {w w' : World} {B n : Nat} {pl : Nat → Nat} {ml : Nat → LdM} {Ts : List TypeId} (h : Lds w B n pl ml) (hs : Fx.ChT Ts w w') (ne : (ldTs.all fun T => !Ts.contains T) = true) : Lds w' B n pl ml := fun i hi => (h i hi).chT hs ne
theorem Lds.put {w : World} {B n o p : Nat} {pl : Nat → Nat} {ml : Nat → LdM} {m : LdM} (h : Lds w B n pl ml) (hl : LdO w B p m) : Lds w B n (updA pl o p) (updA ml o m) := fun i hi => by
  unfold updA
  by_cases e : i = o
  · rw [if_pos e, if_pos e]; exact hl
  · rw [if_neg e, if_neg e]; exact h i hi
theorem Lds.snoc {w : World} {B n p : Nat} {pl : Nat → Nat} {ml : Nat → LdM} {m : LdM} (h : Lds w B n pl ml) (hl : LdO w B p m) : Lds w B (n + 1) (updA pl n p) (updA ml n m) := fun i hi => by
  unfold updA
  by_cases e : i = n
  · rw [if_pos e, if_pos e]; exact hl
  · rw [if_neg e, if_neg e]; exact h i (by omega)
theorem pt_app {n p : Nat} {pl : Nat → Nat} {z : Nat → Value} : ∀ j, j < (n + 1) * 1 → Fx.appX (ptX pl) (n * 1) (Fx.ovr z (0 * 1) 1 (fun _ => (pt p))) j = ptX (updA pl n p) j := by
  intro j hj
  unfold Fx.appX ptX updA
  by_cases h : j < n * 1
  · rw [if_pos h, if_neg (by omega)]
  rw [if_neg h, if_pos (by omega)]
  unfold Fx.ovr
  rw [if_pos (by omega)]
theorem pt_put {o p : Nat} {pl : Nat → Nat} : Fx.updV (ptX pl) o ((pt p)) = ptX (updA pl o p) := by
  funext j; unfold Fx.updV ptX updA
  by_cases h : j = o
  · rw [if_pos h, if_pos h]
  rw [if_neg h, if_neg h]
theorem ev_app {n : Nat} {e : Nat → EvM} {v : EvM} {z : Nat → Value} : ∀ j, j < (n + 1) * 14 → Fx.appX (evX e) (n * 14) (Fx.ovr z (0 * 14) 14 (evY v)) j = evX (updA e n v) j := fun j hj =>
  (Fx.app_flat j hj).trans (Fx.flat_cong (fun i _ q _ => by unfold Fx.updF updA; split <;> rfl) j hj)
structure WM where
  n : Nat
  la : Option Addr
  lc : Nat
  pl : Nat → Nat
  ml : Nat → LdM
  an : Nat
  aa : Option Addr
  ac : Nat
  ev : Nat → EvM
end Rt
structure WldO (w : World) (B p : Nat) (M : WM) (T : Nat) : Prop where
  c : Fx.Blk w p 2 (wdY (.slice M.la M.n M.lc) (.slice M.aa M.an M.ac)) 74
  l : Fx.Own w B 71 1 (.slice M.la M.n M.lc) M.n (ptX M.pl)
  a : Fx.Own w B 50 14 (.slice M.aa M.an M.ac) M.an (evX M.ev)
  g : Lds w B M.n M.pl M.ml
  inv : ∀ i, i < M.n → Inv (M.ml i).core T
  wf : ∀ k, k < M.an → EvWf (M.ev k)
  may : ∀ k, k < M.an → mayE (M.ev k) = true
  sm : ∀ k, k < M.an → EvSm (M.ev k)
  cz : Cz M.n M.an M.ev fun o => (M.ml o).s.known
  pB : B ≤ p
  n1 : 1 ≤ M.n
  n6 : M.n ≤ 6
def wdTs : List Nat := [74, 71, 50] ++ ldTs
theorem WldO.up {w w' : World} {B p T : Nat} {M : WM} (h : WldO w B p M T) (hb : Below w.heap.size w w') : WldO w' B p M T := { h with c := h.c.stp (Sb hb) (Nat.ne_of_lt h.c.lt), l := h.l.up hb, a := h.a.up hb, g := h.g.up hb }
theorem WldO.chT {w w' : World} {B p T : Nat} {M : WM} {Ts : List TypeId} (h : WldO w B p M T) (hs : Fx.ChT Ts w w') (ne : (wdTs.all fun T => !Ts.contains T) = true) : WldO w' B p M T := by
  have hq : ∀ T' ∈ wdTs, Ts.contains T' = false := fun T' hT => by
    have := List.all_eq_true.1 ne T' hT
    simpa using this
  exact { h with c := h.c.chT hs (hq _ (by decide)), l := h.l.chT hs (hq _ (by decide)), a := h.a.chT hs (hq _ (by decide)), g := h.g.chT hs (List.all_eq_true.2 fun T hT => List.all_eq_true.1 ne T (List.mem_append_right _ hT)) }
theorem newM_lo {w : World} {B p k tb : Nat} (hc : Fx.Blk w p 27 (ldY (newM k tb)) 70) (ht : Fx.Blk w tb 1 (fun _ => .slice none 0 0) 117) (h1 : B ≤ p) (h2 : B ≤ tb) : LdO w B p (newM k tb) where
  c := hc
  n := Fx.Own.nil _ _ _ _ _
  g := Fx.Own.nil _ _ _ _ _
  tc := ht
  t := Fx.Own.nil _ _ _ _ _
  r := ⟨fun _ _ => Fx.Own.nil _ _ _ _ _, fun _ _ _ _ _ _ e => by cases e⟩
  pB := h1
  tB := h2
  bn := Nat.zero_le _
  bg := Nat.zero_le _
  bt := Nat.zero_le _
  br := fun _ _ => Nat.zero_le _
theorem Rt.newM_inv (k tb : Nat) : Inv (newM k tb).core 0 where
  tnn := rfl
  nn := Nat.zero_le _
  tid := fun _ h => absurd h (Nat.not_lt_zero _)
  rise := fun _ _ _ h => absurd h (Nat.not_lt_zero _)
  pos := fun _ h => absurd h (Nat.not_lt_zero _)
  top := fun _ h => absurd h (Nat.not_lt_zero _)
  up := fun _ h => absurd h (Nat.not_lt_zero _)
  dep := fun _ => ⟨0, Nat.zero_le _, by show (-1 : Int) < 0; decide⟩
  gn := Nat.le_refl _
  rn := fun _ _ => Nat.le_refl _
  may := fun _ h => absurd h (Nat.not_lt_zero _)
  g47 := fun _ h => absurd h (Nat.not_lt_zero _)
  kn := fun _ _ => ⟨Int.le_refl _, by show (0 : Int) < _; decide⟩
  s := ⟨fun _ h => absurd h (Nat.not_lt_zero _), fun _ h => absurd h (Nat.not_lt_zero _)⟩
  b := ⟨fun _ _ => Int.le_refl _, fun _ h => absurd h (Nat.not_lt_zero _), fun _ _ _ h => absurd h (Nat.not_lt_zero _)⟩
set_option maxRecDepth 20000 in
theorem l_newWorld (n : Nat) (w : World) (hn1 : 1 ≤ n) (hn6 : n ≤ 6) :
    Calls Try.prog 16 #[.int .i64 ((n : Int))] w fun e w' => ∃ p M, e = .returned ((pt p)) ∧ M.n = n ∧ M.an = 0 ∧ (∀ i, (M.ml i).core = (newM n 0).core) ∧ WldO w' w.heap.size p M 0 ∧ Below w.heap.size w w' := by
 refine Fx.enter Try.func16 rfl (n := 30) rfl (by rfl) ?_
 refine Ws (Wl (Lv (.pointer none) (x_assign rfl rfl) (Ln (sN (Ws (Wl (Lv (.agg (Fx.varr 2 (fun _ => .slice none 0 0))) (x_build (vs := []) (places := #[(0, 1), (1, 1)]) (m := 2) (x := fun _ => .slice none 0 0) rfl rfl Try.underlying74 (by kernel_rfl) (by kernel_rfl) (by rfl)) (Fx.L.box (m := 2) (y := fun _ => .slice none 0 0) (by rfl) rfl rfl (Fx.cells_agg _ _) rfl fun g1 w1 eg1 m1 s1 z1 => ?_))))))))
 have b1 := s1.below (Below.refl w.heap.size w) (Below.refl w.heap.size w).size (Below.refl w.heap.size w).size
 have lg1 : w.heap.size ≤ g1 := by rw [eg1]; exact (Below.refl w.heap.size w).size
 have tg1 : g1 < w1.heap.size := m1.lt
 clear eg1
 refine Lv ((pt g1)) (x_assign rfl rfl) (Ln (sN (Ws (Ws (Wl (Lv (.int .i64 (0)) (x_assign rfl rfl) (Ln (sN (Fx.W.block ?_)))))))))
 have m2 : Fx.Blk w1 g1 2 (wdY (.slice none 0 0) (.slice none 0 0)) 74 := m1.congr (fun j _ => by unfold wdY; split <;> rfl)
 have m3 : Fx.Own w1 w.heap.size 71 1 (.slice none 0 0) 0 (ptX (fun _ => 0)) := Fx.Own.nil _ _ _ _ _
 have m4 : Lds w1 w.heap.size 0 (fun _ => 0) (fun _ => newM n 0) := fun _ h => absurd h (Nat.not_lt_zero _)
 refine Fx.W.loop (fun f w_ => ∃ k : Nat, ∃ a : Option Addr, ∃ cap : Nat, ∃ pl : Nat → Nat, ∃ ml : Nat → LdM, k ≤ n ∧ (∀ i, ∃ tb, ml i = newM n tb) ∧ f 0 = .int .i64 ((n : Int)) ∧ f 3 = (pt g1) ∧ f 4 = .int .i64 ((k : Int)) ∧ Fx.Blk w_ g1 2 (wdY (.slice a k cap) (.slice none 0 0)) 74 ∧ Fx.Own w_ w.heap.size 71 1 (.slice a (k) (cap)) k (ptX pl) ∧ Lds w_ w.heap.size k pl ml ∧ Below w.heap.size w w_) (fun f _ => (n - (intOf (f 4)).toNat)) ⟨0, none, 0, (fun _ => 0), (fun _ => newM n 0), by omega, (fun _ => ⟨0, rfl⟩), Fx.ic, (by rfl), Fx.ic, m2, m3, m4, b1⟩ ?_
 rintro f1 w2 ⟨k, a, cap, pl, ml, hk, hml, h1, h2, h3, m5, m6, m7, b2⟩
 refine Ws (Ws (Wl (Lv (.int .i64 ((k : Int))) (x_move rfl h3) (Lv (.int .i64 ((n : Int))) (x_move rfl h1) ?_))))
 by_cases c11 : (k : Int) < (n : Int)
 ·refine Lv (.bool true) (Fx.x_lssT rfl rfl rfl c11) (Ln (sN (Wc (b := true) rfl (fun _ => Wk (sN (Ws (Fx.W.block (Ws (Wl (Lv (.int .i64 ((n : Int))) (x_move rfl h1) ?_))))))) (fun h => nomatch h))))
  refine Fx.L.call (by rfl) (rC (args := [.int .i64 ((n : Int))]) rfl rfl Try.func38 rfl rfl) rfl ((l_new n _ hn1 hn6).mono ?_)
  rintro e9 w3 ⟨p3, tb3, he, hp3, _, hb3, hc3, ht3, htb3⟩
  refine ⟨.tuple #[(pt p3), .int .i64 (0)], he, ?_⟩
  clear he
  have s2 := Sb hb3
  have m8 := m5.stp s2 m5.ne
  have m9 := m6.stp s2 (m6.notNew (Nat.le_refl _))
  have m10 := m7.up s2.old
  have b3 := s2.below b2 b2.size b2.size
  have hL1 : LdO w3 w.heap.size p3 (newM n tb3) := newM_lo hc3 ht3 (Nat.le_trans b2.size hp3) (Nat.le_trans b2.size htb3)
  refine Lv (.tuple #[(pt p3), .int .i64 (0)]) (x_move rfl rfl) (Lv ((pt p3)) (Fx.x_extract rfl rfl rfl) (Lv (.int .i64 (0)) (Fx.x_extract rfl rfl rfl) (Lv ((pt p3)) (x_assign rfl rfl) (Lv (.int .i64 (0)) (x_assign rfl rfl) (Ln (sN (Wl (Lv ((pt g1)) (x_move rfl h2) (Lv ((pt g1)) (x_move rfl h2) (Lv ((pt g1)) (x_nil rfl rfl) (Lv ((pt g1)) (x_field rfl rfl Try.underlying74 rfl (s := 1) (by kernel_rfl) rfl rfl) (Lv (.slice a (k) (cap)) (x_load1 (x := wdY (.slice a k cap) (.slice none 0 0)) rfl rfl (by kernel_rfl) m8.cel (i := 0) (by omega) (by omega) rfl) (Lv ((pt p3)) (x_move rfl rfl) (Fx.L.bslice (vs := [(0, (pt p3))]) (s := 1) (zc := fun _ => .pointer none) (y := Fx.ovr (fun j => .pointer none) (0 * 1) 1 (fun _ => (pt p3))) (by rfl) rfl rfl Try.underlying72 (by kernel_rfl) (by rfl) (by rfl) (by kernel_rfl) (by rw [Fx.fill_step (off := 0 * 1) (s := 1) (y := fun _ => (pt p3)) rfl (Fx.cells_one (by rfl)) (by rfl)]; rfl) rfl fun g2 w4 eg2 m11 s3 z2 => ?_))))))))))))))
  have m12 := m8.stp s3 m8.ne
  have m13 := m9.stp s3 (m9.notNew (Nat.le_refl _))
  have m14 := m10.up s3.old
  have m15 := hL1.up s3.old
  have b4 := s3.below b3 b3.size b3.size
  have lg2 : w.heap.size ≤ g2 := by rw [eg2]; exact b3.size
  have ng2m12 : g1 ≠ g2 := by rw [eg2]; exact Nat.ne_of_lt (m8.lt)
  have ng2m13 : (.slice a (k) (cap) : Value).ownBlock ≠ some g2 := by rw [eg2]; exact m9.notNew (Nat.le_refl _)
  have tg2 : g2 < w4.heap.size := m11.lt
  clear eg2
  refine Fx.L.app (B := w.heap.size) (s := 1) (bytes := 8) (k := k) (m := 1) (v := .slice a (k) (cap)) (x := ptX pl) (by rfl) rfl rfl rfl Try.underlying72 (by kernel_rfl) (by kernel_rfl) rfl rfl m13 m11.cel (ovr_one (fun _ => rfl)) (by omega) (by omega) (by omega) b4.size fun g3 cap1 w5 ho1 hg1 hgv1 hlt1 => ?_
  have hct1 := Fx.ChT.of_grown hg1 m13
  have m17 := m12.chT hct1 (by decide)
  have m18 := m14.chT hct1 (by decide)
  have m19 := m15.chT hct1 (by decide)
  have m16 : Fx.Own w5 w.heap.size 71 1 (.slice (some ⟨g3, 0, none⟩) (k + 1) cap1) (k + 1) (ptX (updA pl k p3)) := (ho1.congr (fun j hj => pt_app j hj))
  have b5 : Below w.heap.size w w5 := Fx.Below.grow b4 hg1 b4.size (fun q hq => (m13.ge hq).1)
  refine Lv ((pt g1)) (x_nil rfl rfl) (Lv ((pt g1)) (x_field rfl rfl Try.underlying74 rfl (s := 1) (by kernel_rfl) rfl rfl) (Fx.L.store1 (x := wdY (.slice a k cap) (.slice none 0 0)) (u := .slice (some ⟨g3, 0, none⟩) (k + 1) (cap1)) (by rfl) rfl rfl rfl rfl (by rfl) (by kernel_rfl) m17 (i := 0) (by omega) fun w6 m20 s4 z3 => ?_))
  have m21 : Fx.Blk w6 g1 2 (wdY (.slice (some ⟨g3, 0, none⟩) (k + 1) (cap1)) (.slice none 0 0)) 74 := m20.to (wdY_0 _ _ _)
  have hct2 := Fx.ChT.of_stp s4 m17.ty
  have m22 := m18.chT hct2 (by decide)
  have m23 := m19.chT hct2 (by decide)
  have m24 := m16.chT hct2 (by decide)
  have b6 := s4.below b5 b5.size (by omega)
  refine Ln (Fx.blkN (sN (Wl (Lv (.int .i64 ((k : Int))) (x_move rfl h3) (Lv (.int .i64 ((k : Int) + 1)) (Fx.x_add rfl rfl rfl Fx.io) (Lv (.int .i64 ((k : Int) + 1)) (x_assign rfl rfl) (Ln ?_)))))))
  have m25 : Lds w6 w.heap.size (k + 1) (updA pl k p3) (updA ml k (newM n tb3)) := m22.snoc m23
  skip
  refine Fx.lpN ⟨k + 1, (some ⟨g3, 0, none⟩), cap1, (updA pl k p3), (updA ml k (newM n tb3)), by omega, (fun i => by unfold updA; split <;> first | exact ⟨_, rfl⟩ | exact hml i), (h1.trans Fx.ic), h2, Fx.ic, m21, m24, m25, b6⟩ ?_
  show (n - (intOf ((.int .i64 ((k : Int) + 1)))).toNat) < _
  simp only [h3, intOf]; omega
 refine Lv (.bool false) (Fx.x_lssF rfl rfl rfl c11) (Ln (sN (Wc (b := false) rfl (fun h => nomatch h) (fun _ => Fx.W.exit (Fx.seqX (Fx.lpX (Fx.blkX (sN (Ws (Wl (Lv ((pt g1)) (x_move rfl h2) (Lv ((pt g1)) (x_assign rfl rfl) (Ln (sN (Wr (⟨(pt g1), rV Try.results16 (by exact rfl), ?_⟩))))))))))))))))
 obtain rfl : k = n := by omega
 exact ⟨g1, ⟨k, a, cap, pl, ml, 0, none, 0, fun _ => ⟨0, 0, fun _ => 0, 0, 0, 0, 0, 0, 0⟩⟩, rfl, rfl, rfl, (fun i => by obtain ⟨tb, e⟩ := hml i; show (ml i).core = _; rw [e]; rfl), { c := m5, l := m6, a := Fx.Own.nil _ _ _ _ _, g := m7, inv := fun i _ => by obtain ⟨tb, e⟩ := hml i; show Inv (ml i).core 0; rw [e]; exact newM_inv k tb, wf := fun _ h => absurd h (Nat.not_lt_zero _), may := fun _ h => absurd h (Nat.not_lt_zero _), sm := fun _ h => absurd h (Nat.not_lt_zero _), cz := Cz.zero k (fun o _ => by obtain ⟨tb, e⟩ := hml o; show (ml o).s.known = _; rw [e]; rfl), pB := lg1, n1 := hn1, n6 := hn6 }, b2⟩
namespace Rt
structure ActM where
  who : Nat
  meet : Bool
  other : Nat
  kind : Nat
  node : Nat
  dst : Nat
  amt : Nat
  req : Nat
  of : Nat
structure ActOk (x : ActM) : Prop where
  who : x.who ≤ 255
  other : x.other ≤ 255
  kind : x.kind ≤ 255
  node : x.node ≤ 255
  dst : x.dst ≤ 255
  amt : x.amt ≤ 65535
  req : x.req ≤ 255
  of : x.of ≤ 255
def actY (x : ActM) : Nat → Value := fun p => if p = 0 then .int .u8 (x.who : Int) else if p = 1 then .bool x.meet else if p = 2 then .int .u8 (x.other : Int) else if p = 3 then .int .u8 (x.kind : Int) else if p = 4 then .int .u8 (x.node : Int) else if p = 5 then .int .u8 (x.dst : Int) else if p = 6 then .int .u16 (x.amt : Int) else if p = 7 then .int .u8 (x.req : Int) else .int .u8 (x.of : Int)
theorem remL {k n r : Nat} (e : r = k % n) : Int.tmod (k : Int) (n : Int) = (r : Int) := by
  rw [Int.tmod_eq_emod_of_nonneg (by omega), e]
  exact (Int.natCast_emod k n).symm
theorem ev_node (V : EvM) (x : Int) : ∀ j, j < 14 → Fx.updV (evY V) 9 (.int .u64 x) j = evY { V with node := x } j := fun j hj => by
  rcases j with _|_|_|_|_|_|_|_|_|_|_|_|_|_|j <;> first | rfl | omega
theorem ev_dst (V : EvM) (x : Int) : ∀ j, j < 14 → Fx.updV (evY V) 10 (.int .i64 x) j = evY ⟨V.o, V.seq, V.deps, V.kind, V.node, x, V.amt, V.req, V.of⟩ j := fun j hj => by
  rcases j with _|_|_|_|_|_|_|_|_|_|_|_|_|_|j <;> first | rfl | omega
theorem ev_amt (V : EvM) (x : Int) : ∀ j, j < 14 → Fx.updV (evY V) 11 (.int .i64 x) j = evY { V with amt := x } j := fun j hj => by
  rcases j with _|_|_|_|_|_|_|_|_|_|_|_|_|_|j <;> first | rfl | omega
theorem ev_req (V : EvM) (x : Int) : ∀ j, j < 14 → Fx.updV (evY V) 12 (.int .u64 x) j = evY { V with req := x } j := fun j hj => by
  rcases j with _|_|_|_|_|_|_|_|_|_|_|_|_|_|j <;> first | rfl | omega
theorem ev_of (V : EvM) (x : Int) : ∀ j, j < 14 → Fx.updV (evY V) 13 (.int .u64 x) j = evY { V with of := x } j := fun j hj => by
  rcases j with _|_|_|_|_|_|_|_|_|_|_|_|_|_|j <;> first | rfl | omega
end Rt
set_option maxRecDepth 20000 in
set_option maxHeartbeats 2000000 in
theorem l_event (M : WM) (B p T : Nat) (x : ActM) (w : World) (hW : WldO w B p M T) (hx : ActOk x) :
    Calls Try.prog 40 #[(pt p), .agg (Fx.varr 9 (actY x))] w fun e w' => ∃ V, EvWf V ∧ EvSm V ∧ (V.o = ((x.who % M.n : Nat) : Int) + 1 ∧ V.seq = (M.ml (x.who % M.n)).s.known (x.who % M.n) + 1 ∧ V.deps = (M.ml (x.who % M.n)).s.known) ∧ e = .returned (.agg (Fx.varr 14 (evY V))) ∧ Below w.heap.size w w' := by
 have hWc := hW.c
 have hWl := hW.l
 have hWa := hW.a
 have hWg := hW.g
 have hn1 := hW.n1
 have hn6 := hW.n6
 have hpB := hW.pB
 have lpp : p < w.heap.size := hWc.lt
 have hxw := hx.who
 have hxo := hx.other
 have hxk := hx.kind
 have hxn := hx.node
 have hxt := hx.dst
 have hxa := hx.amt
 have hxr := hx.req
 have hxf := hx.of
 refine Fx.enter Try.func40 rfl (n := 143) rfl (by rfl) ?_
 refine Ws (Wl (Fx.L.box (m := 9) (y := actY x) (by rfl) rfl rfl (Fx.cells_agg _ _) rfl fun g1 w1 eg1 m1 s1 z1 => ?_))
 have m2 := hWc.stp s1 hWc.ne
 have m3 := hWl.stp s1 (hWl.notNew (Nat.le_refl _))
 have m4 := hWa.stp s1 (hWa.notNew (Nat.le_refl _))
 have m5 := hWg.up s1.old
 have b1 := s1.below (Below.refl w.heap.size w) (Below.refl w.heap.size w).size (Below.refl w.heap.size w).size
 have lg1 : w.heap.size ≤ g1 := by rw [eg1]; exact (Below.refl w.heap.size w).size
 have ng1m2 : p ≠ g1 := by rw [eg1]; exact Nat.ne_of_lt (hWc.lt)
 have tg1 : g1 < w1.heap.size := m1.lt
 clear eg1
 refine Fx.L.new (m := 14) (y := fun zq => if zq < 1 then .int .i64 (0) else if zq < 8 then .int .u64 (0) else if zq < 9 then .int .u8 (0) else if zq < 10 then .int .u64 (0) else if zq < 12 then .int .i64 (0) else .int .u64 (0)) (by rfl) rfl (by kernel_rfl) rfl fun g2 w2 eg2 m6 s2 z2 => ?_
 have m7 := m2.stp s2 m2.ne
 have m8 := m3.stp s2 (m3.notNew (Nat.le_refl _))
 have m9 := m4.stp s2 (m4.notNew (Nat.le_refl _))
 have m10 := m5.up s2.old
 have m11 := m1.stp s2 m1.ne
 have b2 := s2.below b1 b1.size b1.size
 have lg2 : w.heap.size ≤ g2 := by rw [eg2]; exact b1.size
 have ng2m7 : p ≠ g2 := by rw [eg2]; exact Nat.ne_of_lt (m2.lt)
 have ng2m9 : (.slice M.aa (M.an) (M.ac) : Value).ownBlock ≠ some g2 := by rw [eg2]; exact m4.notNew (Nat.le_refl _)
 have ng2m11 : g1 ≠ g2 := by rw [eg2]; exact Nat.ne_of_lt (m1.lt)
 have tg2 : g2 < w2.heap.size := m6.lt
 clear eg2
 refine Ln (sN (Ws ?_))
 obtain ⟨o, eo⟩ : ∃ r, r = x.who % M.n := ⟨_, rfl⟩
 have ho : o < M.n := by rw [eo]; exact Nat.mod_lt _ (by omega)
 -- region 1 draws
 refine Fx.W.quiet (fun v1 => ∃ q, v1 = World.drewN w2 q) (by kernel_rfl) (by kernel_rfl) ⟨1, rfl⟩ ?_
 refine Qv ((pt g1)) (fun v1 hv1 => x_field rfl rfl Try.underlying54 rfl (s := 1) (by kernel_rfl) rfl rfl) (Qv (.int .u8 ((x.who : Int))) (fun v1 hv1 => x_load1 (x := actY x) rfl rfl (by kernel_rfl) (by obtain ⟨qd, rfl⟩ := hv1; exact m11.cel) (i := 0) (by omega) (by omega) rfl) (Qv (.int .i64 ((x.who : Int))) (fun v1 hv1 => x_conv rfl rfl (by kernel_rfl) Try.underlying3 (Fx.i64e (by omega) rfl)) (Qv ((pt p)) (fun v1 hv1 => x_move rfl rfl) (Qv ((pt p)) (fun v1 hv1 => x_nil rfl rfl) (Qv ((pt p)) (fun v1 hv1 => x_field rfl rfl Try.underlying74 rfl (s := 1) (by kernel_rfl) rfl rfl) (Qv (.slice M.la (M.n) (M.lc)) (fun v1 hv1 => x_load1 (x := wdY (.slice M.la (M.n) (M.lc)) (.slice M.aa (M.an) (M.ac))) rfl rfl (by kernel_rfl) (by obtain ⟨qd, rfl⟩ := hv1; exact m7.cel) (i := 0) (by omega) (by omega) rfl) (Qv (.int .i64 ((M.n : Int))) (fun v1 hv1 => x_len rfl rfl rfl (by kernel_rfl)) (Qv (.int .i64 ((o : Int))) (fun v1 hv1 => Fx.x_rem rfl rfl rfl (by omega) (remL eo)) (Qv (.int .i64 ((o : Int))) (fun v1 hv1 => x_assign rfl rfl) (Fx.Qt.nil ?_))))))))))
 rintro _ ⟨qd, rfl⟩
 obtain ⟨wq1, ewq1⟩ : ∃ v1, v1 = World.drewN w2 qd := ⟨_, rfl⟩
 rw [← ewq1]
 have s3 : Fx.Stp w2.heap.size w2 wq1 := by rw [ewq1]; exact Sb (bdrN w2 qd)
 have m12 := m7.stp s3 m7.ne
 have m13 := m8.stp s3 (m8.notNew (Nat.le_refl _))
 have m14 := m9.stp s3 (m9.notNew (Nat.le_refl _))
 have m15 := m10.up s3.old
 have m16 := m11.stp s3 m11.ne
 have m17 := m6.stp s3 m6.ne
 have b3 := s3.below b2 b2.size b2.size
 clear ewq1
 refine sN (Ws (Wl (Lv ((pt p)) (x_move rfl rfl) (Lv ((pt p)) (x_nil rfl rfl) (Lv ((pt p)) (x_field rfl rfl Try.underlying74 rfl (s := 1) (by kernel_rfl) rfl rfl) (Lv (.slice M.la (M.n) (M.lc)) (x_load1 (x := wdY (.slice M.la (M.n) (M.lc)) (.slice M.aa (M.an) (M.ac))) rfl rfl (by kernel_rfl) m12.cel (i := 0) (by omega) (by omega) rfl) (Lv (.int .i64 ((o : Int))) (x_move rfl rfl) ?_)))))))
 obtain ⟨gq1, eq1⟩ := m13.addr (by omega)
 have m18 : Fx.Own wq1 B 71 1 (.slice (some ⟨gq1, 0, none⟩) M.n M.lc) M.n (ptX M.pl) := m13.congV (congrArg (fun q => Value.slice q M.n M.lc) eq1)
 refine Lv ((pf gq1 o)) (x_indexS rfl (rfl.trans (congrArg (fun q => Value.slice q (M.n) (M.lc)) eq1)) rfl Try.underlying72 (s := 1) (by kernel_rfl) (by omega) (by omega) (by omega)) (Lv ((pt (M.pl o))) (x_load1 (x := ptX M.pl) rfl rfl (by kernel_rfl) m18.cel (i := o) (by omega) (by omega) rfl) (Lv ((pt (M.pl o))) (x_assign rfl rfl) (Ln (sN (Ws ?_)))))
 obtain ⟨r42, er42⟩ : ∃ r, r = x.kind % 7 := ⟨_, rfl⟩
 have hr42 : r42 < 7 := by rw [er42]; exact Nat.mod_lt _ (by omega)
 have hLo1 := m15 o (by omega)
 have hLo1c := hLo1.c
 have hLo1n := hLo1.n
 have hkn := (hW.inv o (by omega)).kn
 have hko := hkn o (by omega)
 have hko : 0 ≤ (M.ml o).s.known o ∧ (M.ml o).s.known o < 1099511627776 := hko
 have hU : ∀ k, k < (M.ml o).s.nn → U64r ((M.ml o).id k) := fun k hk => by have h1 := (hW.inv o (by omega)).pos k hk; have h2 := (hW.inv o (by omega)).top k hk; exact ⟨by show (0 : Int) ≤ (M.ml o).core.id k; omega, by show (M.ml o).core.id k ≤ _; omega⟩
 have hbn := (hW.g o (by omega)).bn
 -- region 3 draws
 refine Fx.W.one (T := 50) (T' := 50) (a := .tmp 7) (v := .tmp 44) (m := 14) (z := fun zq => if zq < 1 then .int .i64 (0) else if zq < 8 then .int .u64 (0) else if zq < 9 then .int .u8 (0) else if zq < 10 then .int .u64 (0) else if zq < 12 then .int .i64 (0) else .int .u64 (0)) (y := Fx.ovr (Fx.ovr (Fx.ovr (Fx.ovr (fun zq => if zq < 1 then .int .i64 (0) else if zq < 8 then .int .u64 (0) else if zq < 9 then .int .u8 (0) else if zq < 10 then .int .u64 (0) else if zq < 12 then .int .i64 (0) else .int .u64 (0)) 0 1 (fun _ => .int .i64 ((o : Int) + 1))) 1 1 (fun _ => .int .u64 ((M.ml o).s.known o + 1))) 2 6 (Fx.rv .u64 ((M.ml o).s.known))) 8 1 (fun _ => .int .u8 ((r42 : Int) + 1))) (u := .agg (Fx.varr 14 (Fx.ovr (Fx.ovr (Fx.ovr (Fx.ovr (fun zq => if zq < 1 then .int .i64 (0) else if zq < 8 then .int .u64 (0) else if zq < 9 then .int .u8 (0) else if zq < 10 then .int .u64 (0) else if zq < 12 then .int .i64 (0) else .int .u64 (0)) 0 1 (fun _ => .int .i64 ((o : Int) + 1))) 1 1 (fun _ => .int .u64 ((M.ml o).s.known o + 1))) 2 6 (Fx.rv .u64 ((M.ml o).s.known))) 8 1 (fun _ => .int .u8 ((r42 : Int) + 1))))) 20 21 (List.replicate 22 (0, 2, [], [])) #[.int .i64 ((o : Int)), .int .i64 ((o : Int) + 1), (pt (M.pl o)), .int .i64 ((o : Int)), (pt (M.pl o)), (pt (M.pl o)), (pf (M.pl o) 12), (pf (M.pl o) (o + 12)), .int .u64 ((M.ml o).s.known o), .int .u64 ((M.ml o).s.known o + 1), (pt (M.pl o)), (pt (M.pl o)), (pt (M.pl o)), (pf (M.pl o) 12), .agg (Fx.varr 6 (Fx.rv .u64 ((M.ml o).s.known))), (pf g1 3), .int .u8 ((x.kind : Int)), .int .u8 ((r42 : Int)), .int .u8 ((r42 : Int) + 1), .agg (Fx.varr 14 (Fx.ovr (Fx.ovr (Fx.ovr (Fx.ovr (fun zq => if zq < 1 then .int .i64 (0) else if zq < 8 then .int .u64 (0) else if zq < 9 then .int .u8 (0) else if zq < 10 then .int .u64 (0) else if zq < 12 then .int .i64 (0) else .int .u64 (0)) 0 1 (fun _ => .int .i64 ((o : Int) + 1))) 1 1 (fun _ => .int .u64 ((M.ml o).s.known o + 1))) 2 6 (Fx.rv .u64 ((M.ml o).s.known))) 8 1 (fun _ => .int .u8 ((r42 : Int) + 1)))), undef, undef] (by kernel_rfl) (by kernel_rfl) (by kernel_rfl) (by kernel_rfl) (by kernel_rfl) (by kernel_rfl) rfl (by kernel_rfl) rfl rfl (by kernel_rfl) (fun g3 => (show Fx.ev _ (.tmp 7) = (pt g3) from by kernel_rfl)) (fun g3 => (show Fx.ev _ (.tmp 44) = .agg (Fx.varr 14 (Fx.ovr (Fx.ovr (Fx.ovr (Fx.ovr (fun zq => if zq < 1 then .int .i64 (0) else if zq < 8 then .int .u64 (0) else if zq < 9 then .int .u8 (0) else if zq < 10 then .int .u64 (0) else if zq < 12 then .int .i64 (0) else .int .u64 (0)) 0 1 (fun _ => .int .i64 ((o : Int) + 1))) 1 1 (fun _ => .int .u64 ((M.ml o).s.known o + 1))) 2 6 (Fx.rv .u64 ((M.ml o).s.known))) 8 1 (fun _ => .int .u8 ((r42 : Int) + 1)))) from by kernel_rfl)) (Fx.cells_agg _ _) (Fx.ovr_ones (Fx.ovr_ones (Fx.ovr_ones (Fx.ovr_ones (fun jq _ => by show ((fun zq => if zq < 1 then .int .i64 (0) else if zq < 8 then .int .u64 (0) else if zq < 9 then .int .u8 (0) else if zq < 10 then .int .u64 (0) else if zq < 12 then .int .i64 (0) else .int .u64 (0) : Nat → Value) jq).oneCell' = true; simp only []; repeat (first | rfl | split)) (fun _ _ => rfl)) (fun _ _ => rfl)) (fun _ _ => rfl)) (fun _ _ => rfl)) (by kernel_rfl) (fun g3 => ?_) ?_
 ·refine ⟨?_, ?_, ?_, ?_, ?_, ?_, ?_, ?_, ?_, ?_, ?_, ?_, ?_, ?_, ?_, ?_, ?_, ?_, ?_, ?_, ?_, ?_, trivial⟩
  ·exact .inr (.inr (Fx.qb_yes (v := .int .i64 ((o : Int))) (by kernel_rfl) (by kernel_rfl) (Fx.qbV fun v1 hv1 => x_move rfl (show Fx.ev _ (.tmp 5) = .int .i64 ((o : Int)) from by kernel_rfl))))
  ·exact .inr (.inr (Fx.qb_yes (v := .int .i64 ((o : Int) + 1)) (by kernel_rfl) (by kernel_rfl) (Fx.qbV fun v1 hv1 => Fx.x_add rfl (show Fx.ev _ (.tmp 25) = .int .i64 ((o : Int)) from by kernel_rfl) (show Fx.ev _ (.const (.int .i64 (1))) = .int .i64 (1) from by kernel_rfl) Fx.io)))
  ·exact .inr (.inr (Fx.qb_yes (v := (pt (M.pl o))) (by kernel_rfl) (by kernel_rfl) (Fx.qbV fun v1 hv1 => x_move rfl (show Fx.ev _ (.tmp 6) = (pt (M.pl o)) from by kernel_rfl))))
  ·exact .inr (.inr (Fx.qb_yes (v := .int .i64 ((o : Int))) (by kernel_rfl) (by kernel_rfl) (Fx.qbV fun v1 hv1 => x_move rfl (show Fx.ev _ (.tmp 5) = .int .i64 ((o : Int)) from by kernel_rfl))))
  ·exact .inr (.inr (Fx.qb_yes (v := (pt (M.pl o))) (by kernel_rfl) (by kernel_rfl) (Fx.qbV fun v1 hv1 => x_nil rfl (show Fx.ev _ (.tmp 27) = (pt (M.pl o)) from by kernel_rfl))))
  ·exact .inr (.inr (Fx.qb_yes (v := (pt (M.pl o))) (by kernel_rfl) (by kernel_rfl) (Fx.qbV fun v1 hv1 => x_field rfl (show Fx.ev _ (.tmp 29) = (pt (M.pl o)) from by kernel_rfl) Try.underlying70 rfl (s := 20) (by kernel_rfl) rfl rfl)))
  ·exact .inr (.inr (Fx.qb_yes (v := (pf (M.pl o) 12)) (by kernel_rfl) (by kernel_rfl) (Fx.qbV fun v1 hv1 => x_field rfl (show Fx.ev _ (.tmp 30) = (pt (M.pl o)) from by kernel_rfl) Try.underlying65 rfl (s := 6) (by kernel_rfl) rfl (by show _ + 12 = _; omega))))
  ·exact .inr (.inr (Fx.qb_yes (v := (pf (M.pl o) (o + 12))) (by kernel_rfl) (by kernel_rfl) (Fx.qbV fun v1 hv1 => x_index rfl (show Fx.ev _ (.tmp 31) = (pf (M.pl o) 12) from by kernel_rfl) (show Fx.ev _ (.tmp 28) = .int .i64 ((o : Int)) from by kernel_rfl) Try.underlying32 (s := 1) (by kernel_rfl) (by omega) (by omega) (by omega))))
  ·exact .inr (.inr (Fx.qb_yes (v := .int .u64 ((M.ml o).s.known o)) (by kernel_rfl) (by kernel_rfl) (Fx.qbV fun v1 hv1 => x_load1 (x := ldY (M.ml o)) rfl (show Fx.ev _ (.tmp 32) = (pf (M.pl o) (o + 12)) from by kernel_rfl) (by kernel_rfl) (hLo1c.cel.below hv1 (by have := hLo1c.lt; omega)) (i := o + 12) (by omega) (by omega) (ldY_st _ (by omega) (stY_known _ (by omega) (by omega))))))
  ·exact .inr (.inr (Fx.qb_yes (v := .int .u64 ((M.ml o).s.known o + 1)) (by kernel_rfl) (by kernel_rfl) (Fx.qbV fun v1 hv1 => Fx.x_add rfl (show Fx.ev _ (.tmp 33) = .int .u64 ((M.ml o).s.known o) from by kernel_rfl) (show Fx.ev _ (.const (.int .u64 (1))) = .int .u64 (1) from by kernel_rfl) (Fx.u64e (by omega) (by omega)))))
  ·exact .inr (.inr (Fx.qb_yes (v := (pt (M.pl o))) (by kernel_rfl) (by kernel_rfl) (Fx.qbV fun v1 hv1 => x_move rfl (show Fx.ev _ (.tmp 6) = (pt (M.pl o)) from by kernel_rfl))))
  ·exact .inr (.inr (Fx.qb_yes (v := (pt (M.pl o))) (by kernel_rfl) (by kernel_rfl) (Fx.qbV fun v1 hv1 => x_nil rfl (show Fx.ev _ (.tmp 35) = (pt (M.pl o)) from by kernel_rfl))))
  ·exact .inr (.inr (Fx.qb_yes (v := (pt (M.pl o))) (by kernel_rfl) (by kernel_rfl) (Fx.qbV fun v1 hv1 => x_field rfl (show Fx.ev _ (.tmp 36) = (pt (M.pl o)) from by kernel_rfl) Try.underlying70 rfl (s := 20) (by kernel_rfl) rfl rfl)))
  ·exact .inr (.inr (Fx.qb_yes (v := (pf (M.pl o) 12)) (by kernel_rfl) (by kernel_rfl) (Fx.qbV fun v1 hv1 => x_field rfl (show Fx.ev _ (.tmp 37) = (pt (M.pl o)) from by kernel_rfl) Try.underlying65 rfl (s := 6) (by kernel_rfl) rfl (by show _ + 12 = _; omega))))
  ·exact .inr (.inr (Fx.qb_yes (v := .agg (Fx.varr 6 (Fx.rv .u64 ((M.ml o).s.known)))) (by kernel_rfl) (by kernel_rfl) (Fx.qbV fun v1 hv1 => x_loadA (x := ldY (M.ml o)) (y := Fx.rv .u64 ((M.ml o).s.known)) rfl (show Fx.ev _ (.tmp 38) = (pf (M.pl o) 12) from by kernel_rfl) (by kernel_rfl) (by kernel_rfl) (hLo1c.cel.below hv1 (by have := hLo1c.lt; omega)) (i := 12) (by omega) (by omega) (fun j hj => ldY_st _ (by omega) (stY_known _ hj (by omega))))))
  ·exact .inr (.inr (Fx.qb_yes (v := (pf g1 3)) (by kernel_rfl) (by kernel_rfl) (Fx.qbV fun v1 hv1 => x_field rfl (show Fx.ev _ (.tmp 3) = (pt g1) from by kernel_rfl) Try.underlying54 rfl (s := 1) (by kernel_rfl) rfl (by show _ + 3 = _; omega))))
  ·exact .inr (.inr (Fx.qb_yes (v := .int .u8 ((x.kind : Int))) (by kernel_rfl) (by kernel_rfl) (Fx.qbV fun v1 hv1 => x_load1 (x := actY x) rfl (show Fx.ev _ (.tmp 40) = (pf g1 3) from by kernel_rfl) (by kernel_rfl) (m16.cel.below hv1 (by have := m16.lt; omega)) (i := 3) (by omega) (by omega) rfl)))
  ·exact .inr (.inr (Fx.qb_yes (v := .int .u8 ((r42 : Int))) (by kernel_rfl) (by kernel_rfl) (Fx.qbV fun v1 hv1 => Fx.x_rem rfl (show Fx.ev _ (.tmp 41) = .int .u8 ((x.kind : Int)) from by kernel_rfl) (show Fx.ev _ (.const (.int .u8 (7))) = .int .u8 (7) from by kernel_rfl) (by omega) (remL er42))))
  ·exact .inr (.inr (Fx.qb_yes (v := .int .u8 ((r42 : Int) + 1)) (by kernel_rfl) (by kernel_rfl) (Fx.qbV fun v1 hv1 => Fx.x_add rfl (show Fx.ev _ (.const (.int .u8 (1))) = .int .u8 (1) from by kernel_rfl) (show Fx.ev _ (.tmp 42) = .int .u8 ((r42 : Int)) from by kernel_rfl) (Fx.u8e (by omega) (by omega)))))
  ·exact .inr (.inr (Fx.qb_yes (v := .agg (Fx.varr 14 (Fx.ovr (Fx.ovr (Fx.ovr (Fx.ovr (fun zq => if zq < 1 then .int .i64 (0) else if zq < 8 then .int .u64 (0) else if zq < 9 then .int .u8 (0) else if zq < 10 then .int .u64 (0) else if zq < 12 then .int .i64 (0) else .int .u64 (0)) 0 1 (fun _ => .int .i64 ((o : Int) + 1))) 1 1 (fun _ => .int .u64 ((M.ml o).s.known o + 1))) 2 6 (Fx.rv .u64 ((M.ml o).s.known))) 8 1 (fun _ => .int .u8 ((r42 : Int) + 1))))) (by kernel_rfl) (by kernel_rfl) (Fx.qbV fun v1 hv1 => x_build (vs := [(0, .int .i64 ((o : Int) + 1)), (1, .int .u64 ((M.ml o).s.known o + 1)), (2, .agg (Fx.varr 6 (Fx.rv .u64 ((M.ml o).s.known)))), (3, .int .u8 ((r42 : Int) + 1))]) (places := #[(0, 1), (1, 1), (2, 6), (8, 1), (9, 1), (10, 1), (11, 1), (12, 1), (13, 1)]) (m := 14) (x := fun zq => if zq < 1 then .int .i64 (0) else if zq < 8 then .int .u64 (0) else if zq < 9 then .int .u8 (0) else if zq < 10 then .int .u64 (0) else if zq < 12 then .int .i64 (0) else .int .u64 (0)) rfl (Fx.parts4 (show Fx.ev _ (.tmp 26) = .int .i64 ((o : Int) + 1) from by kernel_rfl) (show Fx.ev _ (.tmp 34) = .int .u64 ((M.ml o).s.known o + 1) from by kernel_rfl) (show Fx.ev _ (.tmp 39) = .agg (Fx.varr 6 (Fx.rv .u64 ((M.ml o).s.known))) from by kernel_rfl) (show Fx.ev _ (.tmp 43) = .int .u8 ((r42 : Int) + 1) from by kernel_rfl)) Try.underlying50 (by kernel_rfl) (by kernel_rfl) (by rw [Fx.fill_step (off := 0) (s := 1) (y := fun _ => .int .i64 ((o : Int) + 1)) (by kernel_rfl) (Fx.cells_one (by rfl)) (by rfl)]; rw [Fx.fill_step (off := 1) (s := 1) (y := fun _ => .int .u64 ((M.ml o).s.known o + 1)) (by kernel_rfl) (Fx.cells_one (by rfl)) (by rfl)]; rw [Fx.fill_step (off := 2) (s := 6) (y := Fx.rv .u64 ((M.ml o).s.known)) (by kernel_rfl) (Fx.cells_agg _ _) (by rfl)]; rw [Fx.fill_step (off := 8) (s := 1) (y := fun _ => .int .u8 ((r42 : Int) + 1)) (by kernel_rfl) (Fx.cells_one (by rfl)) (by rfl)]; rfl))))
  ·exact .inl rfl
  exact .inr (.inl rfl)
 rintro g3 w3 f1 hf1 lg3 m19 hb1
 have s4 := Sb hb1
 have ng3m12 : p ≠ g3 := Nat.ne_of_lt (Nat.lt_of_lt_of_le (m12.lt) lg3)
 have ng3m16 : g1 ≠ g3 := Nat.ne_of_lt (Nat.lt_of_lt_of_le (m16.lt) lg3)
 have ng3m17 : g2 ≠ g3 := Nat.ne_of_lt (Nat.lt_of_lt_of_le (m17.lt) lg3)
 have ng3m18 : gq1 ≠ g3 := Nat.ne_of_lt (Nat.lt_of_lt_of_le (m18.lt) lg3)
 have ng3hLo1c : (M.pl o) ≠ g3 := Nat.ne_of_lt (Nat.lt_of_lt_of_le (hLo1c.lt) lg3)
 have ng3m14 : (.slice M.aa (M.an) (M.ac) : Value).ownBlock ≠ some g3 := fun e => by have := (m14.ge e).2; omega
 have m22 := m15.up s4.old
 have m23 := m16.stp s4 m16.ne
 have m24 := m17.stp s4 m17.ne
 have m25 := m18.stpB s4 (Nat.ne_of_lt (m18.lt))
 have m27 := hLo1n.stp s4 (hLo1n.notNew (Nat.le_refl _))
 have b4 := s4.below b3 b3.size b3.size
 have lg3 : w.heap.size ≤ g3 := Nat.le_trans b3.size lg3
 have tg3 : g3 < w3.heap.size := m19.lt
 have q1 : f1 3 = (pt g1) := by rw [hf1]; kernel_rfl
 have q2 : f1 4 = (pt g2) := by rw [hf1]; kernel_rfl
 have q3 : f1 6 = (pt (M.pl o)) := by rw [hf1]; kernel_rfl
 have q4 : f1 7 = (pt g3) := by rw [hf1]; kernel_rfl
 clear hf1
 refine sN (Ws ?_)
 obtain ⟨V0, eV0⟩ : ∃ V : EvM, V = (⟨(o : Int) + 1, (M.ml o).s.known o + 1, (M.ml o).s.known, (r42 : Int) + 1, 0, 0, 0, 0, 0⟩ : EvM) := ⟨_, rfl⟩
 have hz1 : U64r 0 := ⟨by decide, by decide⟩
 have hz2 : I64r 0 := ⟨by decide, by decide⟩
 have wf0 : EvWf V0 := by rw [eV0]; exact ⟨⟨by show (_ : Int) ≤ (o : Int) + 1; omega, by show (o : Int) + 1 ≤ _; omega⟩, ⟨by show (0 : Int) ≤ (M.ml o).s.known o + 1; omega, by show (M.ml o).s.known o + 1 ≤ _; omega⟩, fun i hi => ⟨(hkn i hi).1, by have q : (M.ml o).s.known i < 1099511627776 := (hkn i hi).2; show (M.ml o).s.known i ≤ _; omega⟩, ⟨by show (0 : Int) ≤ (r42 : Int) + 1; omega, by show (r42 : Int) + 1 ≤ 255; omega⟩, hz1, hz2, hz2, hz1, hz1⟩
 have m28 : Fx.Blk w3 g3 14 (evY V0) 50 := m19.congr (fun j hj => by rw [eV0]; rcases j with _|_|_|_|_|_|_|_|_|_|_|_|_|_|j <;> first | rfl | omega | exact congrArg (Value.int .u8) (by omega))
 have sm0 : EvSm V0 := by rw [eV0]; exact ⟨by show (0 : Int) ≤ _; decide, by show (0 : Int) ≤ _; decide⟩
 have hd0 : V0.o = (o : Int) + 1 ∧ V0.seq = (M.ml o).s.known o + 1 ∧ V0.deps = (M.ml o).s.known := by rw [eV0]; exact ⟨rfl, rfl, rfl⟩
 have ek0 : V0.kind = (r42 : Int) + 1 := by rw [eV0]
 refine Wl (Lv (.int .u64 (0)) (x_assign rfl rfl) (Ln (sN ?_)))
 have m29 : Fx.Own w3 B 71 1 (.slice M.la (M.n) (M.lc)) M.n (ptX M.pl) := m25.congV (congrArg (fun q => Value.slice q M.n M.lc) eq1.symm)
 refine Fx.W.seqJ (fun f w_ => ∃ nd : Int, U64r nd ∧ f 3 = (pt g1) ∧ f 4 = (pt g2) ∧ f 7 = (pt g3) ∧ f 8 = .int .u64 (nd) ∧ Fx.Blk w_ g1 9 (actY x) 54 ∧ Fx.Blk w_ g2 14 (fun zq => if zq < 1 then .int .i64 (0) else if zq < 8 then .int .u64 (0) else if zq < 9 then .int .u8 (0) else if zq < 10 then .int .u64 (0) else if zq < 12 then .int .i64 (0) else .int .u64 (0)) 50 ∧ Fx.Blk w_ g3 14 (evY V0) 50 ∧ Below w.heap.size w w_) ?_ ?_
 ·refine Ws ?_
  have hLo2 := m22 o (by omega)
  have hLo2c := hLo2.c
  have hLo2n := hLo2.n
  refine Wl (Lv ((pt (M.pl o))) (x_move rfl q3) (Lv ((pt (M.pl o))) (x_nil rfl rfl) (Lv ((pt (M.pl o))) (x_field rfl rfl Try.underlying70 rfl (s := 20) (by kernel_rfl) rfl rfl) (Lv ((pf (M.pl o) 18)) (x_field rfl rfl Try.underlying65 rfl (s := 1) (by kernel_rfl) rfl (by show _ + 18 = _; omega)) (Lv (.slice (M.ml o).s.na ((M.ml o).s.nn) ((M.ml o).s.nc)) (x_load1 (x := ldY (M.ml o)) rfl rfl (by kernel_rfl) hLo2c.cel (i := 18) (by omega) (by omega) rfl) (Lv (.int .i64 ((((M.ml o).s.nn : Nat) : Int))) (x_len rfl rfl rfl (by kernel_rfl)) (Lv (.bool (decide (0 < (((M.ml o).s.nn : Nat) : Int)))) (Fx.x_gtr rfl rfl rfl) (Ln (sN (Wc (b := decide (0 < (((M.ml o).s.nn : Nat) : Int))) rfl (fun c51 => ?_) (fun c51 => ?_)))))))))))
  ·have c51 := of_decide_eq_true c51
   obtain ⟨r66, er66⟩ : ∃ r, r = x.node % (M.ml o).s.nn := ⟨_, rfl⟩
   have hr66 : r66 < (M.ml o).s.nn := by rw [er66]; exact Nat.mod_lt _ (by omega)
   -- region 6 draws
   refine Fx.W.quiet (fun v1 => ∃ q, v1 = World.drewN w3 q) (by kernel_rfl) (by kernel_rfl) ⟨1, rfl⟩ ?_
   refine Qv ((pt (M.pl o))) (fun v1 hv1 => x_move rfl q3) (Qv ((pt (M.pl o))) (fun v1 hv1 => x_nil rfl rfl) (Qv ((pt (M.pl o))) (fun v1 hv1 => x_field rfl rfl Try.underlying70 rfl (s := 20) (by kernel_rfl) rfl rfl) (Qv ((pf (M.pl o) 18)) (fun v1 hv1 => x_field rfl rfl Try.underlying65 rfl (s := 1) (by kernel_rfl) rfl (by show _ + 18 = _; omega)) (Qv (.slice (M.ml o).s.na ((M.ml o).s.nn) ((M.ml o).s.nc)) (fun v1 hv1 => x_load1 (x := ldY (M.ml o)) rfl rfl (by kernel_rfl) (by obtain ⟨qd, rfl⟩ := hv1; exact hLo2c.cel) (i := 18) (by omega) (by omega) rfl) (Qv ((pf g1 4)) (fun v1 hv1 => x_field rfl q1 Try.underlying54 rfl (s := 1) (by kernel_rfl) rfl (by show _ + 4 = _; omega)) (Qv (.int .u8 ((x.node : Int))) (fun v1 hv1 => x_load1 (x := actY x) rfl rfl (by kernel_rfl) (by obtain ⟨qd, rfl⟩ := hv1; exact m23.cel) (i := 4) (by omega) (by omega) rfl) (Qv (.int .i64 ((x.node : Int))) (fun v1 hv1 => x_conv rfl rfl (by kernel_rfl) Try.underlying3 (Fx.i64e (by omega) rfl)) (Qv ((pt (M.pl o))) (fun v1 hv1 => x_move rfl q3) (Qv ((pt (M.pl o))) (fun v1 hv1 => x_nil rfl rfl) (Qv ((pt (M.pl o))) (fun v1 hv1 => x_field rfl rfl Try.underlying70 rfl (s := 20) (by kernel_rfl) rfl rfl) (Qv ((pf (M.pl o) 18)) (fun v1 hv1 => x_field rfl rfl Try.underlying65 rfl (s := 1) (by kernel_rfl) rfl (by show _ + 18 = _; omega)) (Qv (.slice (M.ml o).s.na ((M.ml o).s.nn) ((M.ml o).s.nc)) (fun v1 hv1 => x_load1 (x := ldY (M.ml o)) rfl rfl (by kernel_rfl) (by obtain ⟨qd, rfl⟩ := hv1; exact hLo2c.cel) (i := 18) (by omega) (by omega) rfl) (Qv (.int .i64 ((((M.ml o).s.nn : Nat) : Int))) (fun v1 hv1 => x_len rfl rfl rfl (by kernel_rfl)) (Qv (.int .i64 ((r66 : Int))) (fun v1 hv1 => Fx.x_rem rfl rfl rfl (by omega) (remL er66)) ?_))))))))))))))
   obtain ⟨gq2, eq2⟩ := m27.addr (by omega)
   have m30 : Fx.Own w3 B 123 56 (.slice (some ⟨gq2, 0, none⟩) ((M.ml o).s.nn) ((M.ml o).s.nc)) ((M.ml o).s.nn) (ndX (M.ml o)) := m27.congV (congrArg (fun q => Value.slice q ((M.ml o).s.nn) ((M.ml o).s.nc)) eq2)
   refine Qv ((pf gq2 (56 * r66))) (fun v1 hv1 => x_indexS rfl (rfl.trans (congrArg (fun q => Value.slice q ((M.ml o).s.nn) ((M.ml o).s.nc)) eq2)) rfl Try.underlying62 (s := 56) (by kernel_rfl) (by omega) (by omega) (by omega)) (Qv ((pf gq2 (56 * r66))) (fun v1 hv1 => x_field rfl rfl Try.underlying123 rfl (s := 1) (by kernel_rfl) rfl rfl) (Qv (.int .u64 ((M.ml o).id r66)) (fun v1 hv1 => x_load1 (x := ndX (M.ml o)) rfl rfl (by kernel_rfl) (by obtain ⟨qd, rfl⟩ := hv1; exact m30.cel) (i := 56 * r66) (by omega) (by omega) (Fx.flat_cell (k := r66) (j := 0) (by omega) (by omega) rfl)) (Qv (.int .u64 ((M.ml o).id r66)) (fun v1 hv1 => x_assign rfl rfl) (Fx.Qt.nil ?_))))
   rintro _ ⟨qd, rfl⟩
   obtain ⟨wq2, ewq2⟩ : ∃ v1, v1 = World.drewN w3 qd := ⟨_, rfl⟩
   rw [← ewq2]
   have s5 : Fx.Stp w3.heap.size w3 wq2 := by rw [ewq2]; exact Sb (bdrN w3 qd)
   have m34 := m23.stp s5 m23.ne
   have m35 := m24.stp s5 m24.ne
   have m37 := m28.stp s5 m28.ne
   have m40 := m30.stpB s5 (Nat.ne_of_lt (m30.lt))
   have b5 := s5.below b4 b4.size b4.size
   clear ewq2
   have m41 : Fx.Own wq2 B 123 56 (.slice (M.ml o).s.na ((M.ml o).s.nn) ((M.ml o).s.nc)) ((M.ml o).s.nn) (ndX (M.ml o)) := m40.congV (congrArg (fun q => Value.slice q ((M.ml o).s.nn) ((M.ml o).s.nc)) eq2.symm)
   exact Fx.jnN ⟨((M.ml o).id r66), (hU r66 hr66), q1, q2, q4, Fx.ic, m34, m35, m37, b5⟩
  have c51 := of_decide_eq_false c51
  refine Wk ?_
  exact Fx.jnN ⟨0, ⟨by decide, by decide⟩, q1, q2, q4, Fx.ic, m23, m24, m28, b4⟩
 rintro f2 w4 ⟨nd, hnode, h1, h2, h3, h4, m42, m43, m44, b6⟩
 refine Ws (Ws (Wl (Lv ((pf g3 8)) (x_field rfl h3 Try.underlying50 rfl (s := 1) (by kernel_rfl) rfl (by show _ + 8 = _; omega)) (Lv (.int .u8 (V0.kind)) (x_load1 (x := evY V0) rfl rfl (by kernel_rfl) m44.cel (i := 8) (by omega) (by omega) rfl) (Ln (sN (Fx.W.block (Ws (Wl ?_)))))))))
 by_cases c73 : V0.kind = 1
 ·refine Lv (.bool true) (x_eqlT rfl rfl rfl c73) (Lv (.bool true) (x_assign rfl rfl) (Ln (sN (Wc (b := true) rfl (fun _ => Ws (Ws ?_)) (fun h => nomatch h)))))
  obtain ⟨r76, er76⟩ : ∃ r, r = x.node % 2 := ⟨_, rfl⟩
  have hr76 : r76 < 2 := by rw [er76]; exact Nat.mod_lt _ (by omega)
  refine Wl (Lv ((pf g1 4)) (x_field rfl h1 Try.underlying54 rfl (s := 1) (by kernel_rfl) rfl (by show _ + 4 = _; omega)) (Lv (.int .u8 ((x.node : Int))) (x_load1 (x := actY x) rfl rfl (by kernel_rfl) m42.cel (i := 4) (by omega) (by omega) rfl) (Lv (.int .u8 ((r76 : Int))) (Fx.x_rem rfl rfl rfl (by omega) (remL er76)) ?_)))
  by_cases c77 : (r76 : Int) = 1
  ·refine Lv (.bool true) (x_eqlT rfl rfl rfl c77) (Ln (sN (Wc (b := true) rfl (fun _ => Wl (Lv (.int .u64 (nd)) (x_move rfl h4) ?_)) (fun h => nomatch h))))
   refine Lv ((pf g3 9)) (x_field rfl h3 Try.underlying50 rfl (s := 1) (by kernel_rfl) rfl (by show _ + 9 = _; omega)) (Fx.L.store1 (x := evY V0) (u := .int .u64 (nd)) (by rfl) rfl rfl rfl rfl (by rfl) (by kernel_rfl) m44 (i := 9) (by omega) fun w5 m45 s6 z3 => ?_)
   obtain ⟨V1, eV1⟩ : ∃ V : EvM, V = ⟨V0.o, V0.seq, V0.deps, V0.kind, nd, V0.dst, V0.amt, V0.req, V0.of⟩ := ⟨_, rfl⟩
   have wfV1 : EvWf V1 := by rw [eV1]; exact ⟨wf0.o, wf0.seq, wf0.deps, wf0.kind, hnode, wf0.dst, wf0.amt, wf0.req, wf0.of⟩
   have hdV1 : V1.o = (o : Int) + 1 ∧ V1.seq = (M.ml o).s.known o + 1 ∧ V1.deps = (M.ml o).s.known := by rw [eV1]; exact hd0
   have smV1 : EvSm V1 := by rw [eV1]; exact ⟨sm0.amt, sm0.req⟩
   have m46 : Fx.Blk w5 g3 14 (evY V1) 50 := m45.congr (fun j hj => by rw [eV1]; exact ev_node _ _ j hj)
   have hct1 := Fx.ChT.of_stp s6 m44.ty
   have m47 := m42.chT hct1 (by decide)
   have m48 := m43.stp s6 (by omega)
   have b7 := s6.below b6 b6.size (by omega)
   refine Ln (sN (Wl (Lv ((pf g1 6)) (x_field rfl h1 Try.underlying54 rfl (s := 1) (by kernel_rfl) rfl (by show _ + 6 = _; omega)) (Lv (.int .u16 ((x.amt : Int))) (x_load1 (x := actY x) rfl rfl (by kernel_rfl) m47.cel (i := 6) (by omega) (by omega) rfl) (Lv (.int .i64 ((x.amt : Int))) (x_conv rfl rfl (by kernel_rfl) Try.underlying2 (Fx.i64e (by omega) rfl)) (Lv ((pf g3 11)) (x_field rfl h3 Try.underlying50 rfl (s := 1) (by kernel_rfl) rfl (by show _ + 11 = _; omega)) (Fx.L.store1 (x := evY V1) (u := .int .i64 ((x.amt : Int))) (by rfl) rfl rfl rfl rfl (by rfl) (by kernel_rfl) m46 (i := 11) (by omega) fun w6 m49 s7 z4 => ?_)))))))
   obtain ⟨V2, eV2⟩ : ∃ V : EvM, V = ⟨V1.o, V1.seq, V1.deps, V1.kind, V1.node, V1.dst, (x.amt : Int), V1.req, V1.of⟩ := ⟨_, rfl⟩
   have wfV2 : EvWf V2 := by rw [eV2]; exact ⟨wfV1.o, wfV1.seq, wfV1.deps, wfV1.kind, wfV1.node, wfV1.dst, (show I64r ((x.amt : Int)) from ⟨by omega, by omega⟩), wfV1.req, wfV1.of⟩
   have hdV2 : V2.o = (o : Int) + 1 ∧ V2.seq = (M.ml o).s.known o + 1 ∧ V2.deps = (M.ml o).s.known := by rw [eV2]; exact hdV1
   have smV2 : EvSm V2 := by rw [eV2]; exact ⟨by show (x.amt : Int) ≤ 65536; omega, smV1.req⟩
   have m50 : Fx.Blk w6 g3 14 (evY V2) 50 := m49.congr (fun j hj => by rw [eV2]; exact ev_amt _ _ j hj)
   have m52 := m48.stp s7 (by omega)
   have b8 := s7.below b7 b7.size (by omega)
   refine Ln (Fx.blkN (sN (Ws (Wl (Lv (.agg (Fx.varr 14 (evY V2))) (x_loadA (x := evY V2) (y := evY V2) rfl h3 (by kernel_rfl) (by kernel_rfl) m50.cel (i := 0) (by omega) (by omega) (fun j _ => by rw [Nat.zero_add])) (Fx.L.storeA (x := fun zq => if zq < 1 then .int .i64 (0) else if zq < 8 then .int .u64 (0) else if zq < 9 then .int .u8 (0) else if zq < 10 then .int .u64 (0) else if zq < 12 then .int .i64 (0) else .int .u64 (0)) (y := evY V2) (by rfl) rfl rfl h2 rfl (evY_one _) (by kernel_rfl) m52 (i := 0) (by omega) fun w7 m53 s8 z5 => ?_))))))
   have m54 : Fx.Blk w7 g2 14 (evY V2) 50 := Fx.ovr_all m53
   have m56 := m50.stp s8 (by omega)
   have b9 := s8.below b8 b8.size (by omega)
   refine Ln (sN (Wr (⟨.agg (Fx.varr 14 (evY V2)), rV Try.results40 ⟨_, h2, Fx.run_loadV m54.cel (by kernel_rfl) (by kernel_rfl)⟩, ?_⟩)))
   exact ⟨V2, wfV2, smV2, by rw [← eo]; exact hdV2, rfl, b9⟩
  refine Lv (.bool false) (x_eqlF rfl rfl rfl c77) (Ln (sN (Wc (b := false) rfl (fun h => nomatch h) (fun _ => Wk (sN (Wl (Lv ((pf g1 6)) (x_field rfl h1 Try.underlying54 rfl (s := 1) (by kernel_rfl) rfl (by show _ + 6 = _; omega)) (Lv (.int .u16 ((x.amt : Int))) (x_load1 (x := actY x) rfl rfl (by kernel_rfl) m42.cel (i := 6) (by omega) (by omega) rfl) (Lv (.int .i64 ((x.amt : Int))) (x_conv rfl rfl (by kernel_rfl) Try.underlying2 (Fx.i64e (by omega) rfl)) (Lv ((pf g3 11)) (x_field rfl h3 Try.underlying50 rfl (s := 1) (by kernel_rfl) rfl (by show _ + 11 = _; omega)) (Fx.L.store1 (x := evY V0) (u := .int .i64 ((x.amt : Int))) (by rfl) rfl rfl rfl rfl (by rfl) (by kernel_rfl) m44 (i := 11) (by omega) fun w8 m57 s9 z6 => ?_)))))))))))
  obtain ⟨V3, eV3⟩ : ∃ V : EvM, V = ⟨V0.o, V0.seq, V0.deps, V0.kind, V0.node, V0.dst, (x.amt : Int), V0.req, V0.of⟩ := ⟨_, rfl⟩
  have wfV3 : EvWf V3 := by rw [eV3]; exact ⟨wf0.o, wf0.seq, wf0.deps, wf0.kind, wf0.node, wf0.dst, (show I64r ((x.amt : Int)) from ⟨by omega, by omega⟩), wf0.req, wf0.of⟩
  have hdV3 : V3.o = (o : Int) + 1 ∧ V3.seq = (M.ml o).s.known o + 1 ∧ V3.deps = (M.ml o).s.known := by rw [eV3]; exact hd0
  have smV3 : EvSm V3 := by rw [eV3]; exact ⟨by show (x.amt : Int) ≤ 65536; omega, sm0.req⟩
  have m58 : Fx.Blk w8 g3 14 (evY V3) 50 := m57.congr (fun j hj => by rw [eV3]; exact ev_amt _ _ j hj)
  have m60 := m43.stp s9 (by omega)
  have b10 := s9.below b6 b6.size (by omega)
  refine Ln (Fx.blkN (sN (Ws (Wl (Lv (.agg (Fx.varr 14 (evY V3))) (x_loadA (x := evY V3) (y := evY V3) rfl h3 (by kernel_rfl) (by kernel_rfl) m58.cel (i := 0) (by omega) (by omega) (fun j _ => by rw [Nat.zero_add])) (Fx.L.storeA (x := fun zq => if zq < 1 then .int .i64 (0) else if zq < 8 then .int .u64 (0) else if zq < 9 then .int .u8 (0) else if zq < 10 then .int .u64 (0) else if zq < 12 then .int .i64 (0) else .int .u64 (0)) (y := evY V3) (by rfl) rfl rfl h2 rfl (evY_one _) (by kernel_rfl) m60 (i := 0) (by omega) fun w9 m61 s10 z7 => ?_))))))
  have m62 : Fx.Blk w9 g2 14 (evY V3) 50 := Fx.ovr_all m61
  have m64 := m58.stp s10 (by omega)
  have b11 := s10.below b10 b10.size (by omega)
  refine Ln (sN (Wr (⟨.agg (Fx.varr 14 (evY V3)), rV Try.results40 ⟨_, h2, Fx.run_loadV m62.cel (by kernel_rfl) (by kernel_rfl)⟩, ?_⟩)))
  exact ⟨V3, wfV3, smV3, by rw [← eo]; exact hdV3, rfl, b11⟩
 refine Lv (.bool false) (x_eqlF rfl rfl rfl c73) (Lv (.bool false) (x_assign rfl rfl) (Ln (sN (Wc (b := false) rfl (fun h => nomatch h) (fun _ => Ws (Wl ?_))))))
 by_cases c85 : V0.kind = 2
 ·refine Lv (.bool true) (x_eqlT rfl rfl rfl c85) (Lv (.bool true) (x_assign rfl rfl) (Ln (sN (Wc (b := true) rfl (fun _ => Ws (Wl (Lv (.int .u64 (nd)) (x_move rfl h4) ?_))) (fun h => nomatch h)))))
  refine Lv ((pf g3 9)) (x_field rfl h3 Try.underlying50 rfl (s := 1) (by kernel_rfl) rfl (by show _ + 9 = _; omega)) (Fx.L.store1 (x := evY V0) (u := .int .u64 (nd)) (by rfl) rfl rfl rfl rfl (by rfl) (by kernel_rfl) m44 (i := 9) (by omega) fun w10 m65 s11 z8 => ?_)
  obtain ⟨V4, eV4⟩ : ∃ V : EvM, V = ⟨V0.o, V0.seq, V0.deps, V0.kind, nd, V0.dst, V0.amt, V0.req, V0.of⟩ := ⟨_, rfl⟩
  have wfV4 : EvWf V4 := by rw [eV4]; exact ⟨wf0.o, wf0.seq, wf0.deps, wf0.kind, hnode, wf0.dst, wf0.amt, wf0.req, wf0.of⟩
  have hdV4 : V4.o = (o : Int) + 1 ∧ V4.seq = (M.ml o).s.known o + 1 ∧ V4.deps = (M.ml o).s.known := by rw [eV4]; exact hd0
  have smV4 : EvSm V4 := by rw [eV4]; exact ⟨sm0.amt, sm0.req⟩
  have m66 : Fx.Blk w10 g3 14 (evY V4) 50 := m65.congr (fun j hj => by rw [eV4]; exact ev_node _ _ j hj)
  have hct6 := Fx.ChT.of_stp s11 m44.ty
  have m67 := m42.chT hct6 (by decide)
  have m68 := m43.stp s11 (by omega)
  have b12 := s11.below b6 b6.size (by omega)
  refine Ln (sN (Wl (Lv ((pf g1 6)) (x_field rfl h1 Try.underlying54 rfl (s := 1) (by kernel_rfl) rfl (by show _ + 6 = _; omega)) (Lv (.int .u16 ((x.amt : Int))) (x_load1 (x := actY x) rfl rfl (by kernel_rfl) m67.cel (i := 6) (by omega) (by omega) rfl) (Lv (.int .i64 ((x.amt : Int))) (x_conv rfl rfl (by kernel_rfl) Try.underlying2 (Fx.i64e (by omega) rfl)) (Lv (.int .i64 ((x.amt : Int) + 1)) (Fx.x_add rfl rfl rfl Fx.io) (Lv ((pf g3 11)) (x_field rfl h3 Try.underlying50 rfl (s := 1) (by kernel_rfl) rfl (by show _ + 11 = _; omega)) (Fx.L.store1 (x := evY V4) (u := .int .i64 ((x.amt : Int) + 1)) (by rfl) rfl rfl rfl rfl (by rfl) (by kernel_rfl) m66 (i := 11) (by omega) fun w11 m69 s12 z9 => ?_))))))))
  obtain ⟨V5, eV5⟩ : ∃ V : EvM, V = ⟨V4.o, V4.seq, V4.deps, V4.kind, V4.node, V4.dst, (x.amt : Int) + 1, V4.req, V4.of⟩ := ⟨_, rfl⟩
  have wfV5 : EvWf V5 := by rw [eV5]; exact ⟨wfV4.o, wfV4.seq, wfV4.deps, wfV4.kind, wfV4.node, wfV4.dst, (show I64r ((x.amt : Int) + 1) from ⟨by omega, by omega⟩), wfV4.req, wfV4.of⟩
  have hdV5 : V5.o = (o : Int) + 1 ∧ V5.seq = (M.ml o).s.known o + 1 ∧ V5.deps = (M.ml o).s.known := by rw [eV5]; exact hdV4
  have smV5 : EvSm V5 := by rw [eV5]; exact ⟨by show (x.amt : Int) + 1 ≤ 65536; omega, smV4.req⟩
  have m70 : Fx.Blk w11 g3 14 (evY V5) 50 := m69.congr (fun j hj => by rw [eV5]; exact ev_amt _ _ j hj)
  have m72 := m68.stp s12 (by omega)
  have b13 := s12.below b12 b12.size (by omega)
  refine Ln (Fx.blkN (sN (Ws (Wl (Lv (.agg (Fx.varr 14 (evY V5))) (x_loadA (x := evY V5) (y := evY V5) rfl h3 (by kernel_rfl) (by kernel_rfl) m70.cel (i := 0) (by omega) (by omega) (fun j _ => by rw [Nat.zero_add])) (Fx.L.storeA (x := fun zq => if zq < 1 then .int .i64 (0) else if zq < 8 then .int .u64 (0) else if zq < 9 then .int .u8 (0) else if zq < 10 then .int .u64 (0) else if zq < 12 then .int .i64 (0) else .int .u64 (0)) (y := evY V5) (by rfl) rfl rfl h2 rfl (evY_one _) (by kernel_rfl) m72 (i := 0) (by omega) fun w12 m73 s13 z10 => ?_))))))
  have m74 : Fx.Blk w12 g2 14 (evY V5) 50 := Fx.ovr_all m73
  have m76 := m70.stp s13 (by omega)
  have b14 := s13.below b13 b13.size (by omega)
  refine Ln (sN (Wr (⟨.agg (Fx.varr 14 (evY V5)), rV Try.results40 ⟨_, h2, Fx.run_loadV m74.cel (by kernel_rfl) (by kernel_rfl)⟩, ?_⟩)))
  exact ⟨V5, wfV5, smV5, by rw [← eo]; exact hdV5, rfl, b14⟩
 refine Lv (.bool false) (x_eqlF rfl rfl rfl c85) (Lv (.bool false) (x_assign rfl rfl) (Ln (sN (Wc (b := false) rfl (fun h => nomatch h) (fun _ => Ws (Wl ?_))))))
 by_cases c94 : V0.kind = 3
 ·refine Lv (.bool true) (x_eqlT rfl rfl rfl c94) (Lv (.bool true) (x_assign rfl rfl) (Ln (sN (Wc (b := true) rfl (fun _ => Ws (Wl (Lv (.int .u64 (nd)) (x_move rfl h4) ?_))) (fun h => nomatch h)))))
  refine Lv ((pf g3 9)) (x_field rfl h3 Try.underlying50 rfl (s := 1) (by kernel_rfl) rfl (by show _ + 9 = _; omega)) (Fx.L.store1 (x := evY V0) (u := .int .u64 (nd)) (by rfl) rfl rfl rfl rfl (by rfl) (by kernel_rfl) m44 (i := 9) (by omega) fun w13 m77 s14 z11 => ?_)
  obtain ⟨V6, eV6⟩ : ∃ V : EvM, V = ⟨V0.o, V0.seq, V0.deps, V0.kind, nd, V0.dst, V0.amt, V0.req, V0.of⟩ := ⟨_, rfl⟩
  have wfV6 : EvWf V6 := by rw [eV6]; exact ⟨wf0.o, wf0.seq, wf0.deps, wf0.kind, hnode, wf0.dst, wf0.amt, wf0.req, wf0.of⟩
  have hdV6 : V6.o = (o : Int) + 1 ∧ V6.seq = (M.ml o).s.known o + 1 ∧ V6.deps = (M.ml o).s.known := by rw [eV6]; exact hd0
  have smV6 : EvSm V6 := by rw [eV6]; exact ⟨sm0.amt, sm0.req⟩
  have m78 : Fx.Blk w13 g3 14 (evY V6) 50 := m77.congr (fun j hj => by rw [eV6]; exact ev_node _ _ j hj)
  have hct9 := Fx.ChT.of_stp s14 m44.ty
  have m79 := m42.chT hct9 (by decide)
  have m80 := m43.stp s14 (by omega)
  have b15 := s14.below b6 b6.size (by omega)
  refine Ln (sN (Ws (Wl (Lv ((pf g1 6)) (x_field rfl h1 Try.underlying54 rfl (s := 1) (by kernel_rfl) rfl (by show _ + 6 = _; omega)) (Lv (.int .u16 ((x.amt : Int))) (x_load1 (x := actY x) rfl rfl (by kernel_rfl) m79.cel (i := 6) (by omega) (by omega) rfl) (Lv (.int .i64 ((x.amt : Int))) (x_conv rfl rfl (by kernel_rfl) Try.underlying2 (Fx.i64e (by omega) rfl)) (Lv (.int .i64 ((x.amt : Int) + 1)) (Fx.x_add rfl rfl rfl Fx.io) (Lv ((pf g3 11)) (x_field rfl h3 Try.underlying50 rfl (s := 1) (by kernel_rfl) rfl (by show _ + 11 = _; omega)) (Fx.L.store1 (x := evY V6) (u := .int .i64 ((x.amt : Int) + 1)) (by rfl) rfl rfl rfl rfl (by rfl) (by kernel_rfl) m78 (i := 11) (by omega) fun w14 m81 s15 z12 => ?_)))))))))
  obtain ⟨V7, eV7⟩ : ∃ V : EvM, V = ⟨V6.o, V6.seq, V6.deps, V6.kind, V6.node, V6.dst, (x.amt : Int) + 1, V6.req, V6.of⟩ := ⟨_, rfl⟩
  have wfV7 : EvWf V7 := by rw [eV7]; exact ⟨wfV6.o, wfV6.seq, wfV6.deps, wfV6.kind, wfV6.node, wfV6.dst, (show I64r ((x.amt : Int) + 1) from ⟨by omega, by omega⟩), wfV6.req, wfV6.of⟩
  have hdV7 : V7.o = (o : Int) + 1 ∧ V7.seq = (M.ml o).s.known o + 1 ∧ V7.deps = (M.ml o).s.known := by rw [eV7]; exact hdV6
  have smV7 : EvSm V7 := by rw [eV7]; exact ⟨by show (x.amt : Int) + 1 ≤ 65536; omega, smV6.req⟩
  have m82 : Fx.Blk w14 g3 14 (evY V7) 50 := m81.congr (fun j hj => by rw [eV7]; exact ev_amt _ _ j hj)
  have hct10 := Fx.ChT.of_stp s15 m78.ty
  have m83 := m79.chT hct10 (by decide)
  have m84 := m80.stp s15 (by omega)
  have b16 := s15.below b15 b15.size (by omega)
  refine Ln (sN (Wl (Lv ((pf g1 7)) (x_field rfl h1 Try.underlying54 rfl (s := 1) (by kernel_rfl) rfl (by show _ + 7 = _; omega)) (Lv (.int .u8 ((x.req : Int))) (x_load1 (x := actY x) rfl rfl (by kernel_rfl) m83.cel (i := 7) (by omega) (by omega) rfl) (Lv (.int .u64 ((x.req : Int))) (x_conv rfl rfl (by kernel_rfl) Try.underlying30 (Fx.u64e (by omega) rfl)) (Lv (.int .u64 ((x.req : Int) + 1)) (Fx.x_add rfl rfl rfl (Fx.u64e (by omega) (by omega))) (Lv ((pf g3 12)) (x_field rfl h3 Try.underlying50 rfl (s := 1) (by kernel_rfl) rfl (by show _ + 12 = _; omega)) (Fx.L.store1 (x := evY V7) (u := .int .u64 ((x.req : Int) + 1)) (by rfl) rfl rfl rfl rfl (by rfl) (by kernel_rfl) m82 (i := 12) (by omega) fun w15 m85 s16 z13 => ?_))))))))
  obtain ⟨V8, eV8⟩ : ∃ V : EvM, V = ⟨V7.o, V7.seq, V7.deps, V7.kind, V7.node, V7.dst, V7.amt, (x.req : Int) + 1, V7.of⟩ := ⟨_, rfl⟩
  have wfV8 : EvWf V8 := by rw [eV8]; exact ⟨wfV7.o, wfV7.seq, wfV7.deps, wfV7.kind, wfV7.node, wfV7.dst, wfV7.amt, (show U64r ((x.req : Int) + 1) from ⟨by omega, by omega⟩), wfV7.of⟩
  have hdV8 : V8.o = (o : Int) + 1 ∧ V8.seq = (M.ml o).s.known o + 1 ∧ V8.deps = (M.ml o).s.known := by rw [eV8]; exact hdV7
  have smV8 : EvSm V8 := by rw [eV8]; exact ⟨smV7.amt, by show (x.req : Int) + 1 ≤ 256; omega⟩
  have m86 : Fx.Blk w15 g3 14 (evY V8) 50 := m85.congr (fun j hj => by rw [eV8]; exact ev_req _ _ j hj)
  have m88 := m84.stp s16 (by omega)
  have b17 := s16.below b16 b16.size (by omega)
  refine Ln (Fx.blkN (sN (Ws (Wl (Lv (.agg (Fx.varr 14 (evY V8))) (x_loadA (x := evY V8) (y := evY V8) rfl h3 (by kernel_rfl) (by kernel_rfl) m86.cel (i := 0) (by omega) (by omega) (fun j _ => by rw [Nat.zero_add])) (Fx.L.storeA (x := fun zq => if zq < 1 then .int .i64 (0) else if zq < 8 then .int .u64 (0) else if zq < 9 then .int .u8 (0) else if zq < 10 then .int .u64 (0) else if zq < 12 then .int .i64 (0) else .int .u64 (0)) (y := evY V8) (by rfl) rfl rfl h2 rfl (evY_one _) (by kernel_rfl) m88 (i := 0) (by omega) fun w16 m89 s17 z14 => ?_))))))
  have m90 : Fx.Blk w16 g2 14 (evY V8) 50 := Fx.ovr_all m89
  have m92 := m86.stp s17 (by omega)
  have b18 := s17.below b17 b17.size (by omega)
  refine Ln (sN (Wr (⟨.agg (Fx.varr 14 (evY V8)), rV Try.results40 ⟨_, h2, Fx.run_loadV m90.cel (by kernel_rfl) (by kernel_rfl)⟩, ?_⟩)))
  exact ⟨V8, wfV8, smV8, by rw [← eo]; exact hdV8, rfl, b18⟩
 refine Lv (.bool false) (x_eqlF rfl rfl rfl c94) (Lv (.bool false) (x_assign rfl rfl) (Ln (sN (Wc (b := false) rfl (fun h => nomatch h) (fun _ => Ws (Wl ?_))))))
 by_cases c108 : V0.kind = 4
 ·refine Lv (.bool true) (x_eqlT rfl rfl rfl c108) (Lv (.bool true) (x_assign rfl rfl) (Ln (sN (Wc (b := true) rfl (fun _ => Ws (Wl (Lv ((pf g1 7)) (x_field rfl h1 Try.underlying54 rfl (s := 1) (by kernel_rfl) rfl (by show _ + 7 = _; omega)) ?_))) (fun h => nomatch h)))))
  refine Lv (.int .u8 ((x.req : Int))) (x_load1 (x := actY x) rfl rfl (by kernel_rfl) m42.cel (i := 7) (by omega) (by omega) rfl) (Lv (.int .u64 ((x.req : Int))) (x_conv rfl rfl (by kernel_rfl) Try.underlying30 (Fx.u64e (by omega) rfl)) (Lv (.int .u64 ((x.req : Int) + 1)) (Fx.x_add rfl rfl rfl (Fx.u64e (by omega) (by omega))) (Lv ((pf g3 12)) (x_field rfl h3 Try.underlying50 rfl (s := 1) (by kernel_rfl) rfl (by show _ + 12 = _; omega)) (Fx.L.store1 (x := evY V0) (u := .int .u64 ((x.req : Int) + 1)) (by rfl) rfl rfl rfl rfl (by rfl) (by kernel_rfl) m44 (i := 12) (by omega) fun w17 m93 s18 z15 => ?_))))
  obtain ⟨V9, eV9⟩ : ∃ V : EvM, V = ⟨V0.o, V0.seq, V0.deps, V0.kind, V0.node, V0.dst, V0.amt, (x.req : Int) + 1, V0.of⟩ := ⟨_, rfl⟩
  have wfV9 : EvWf V9 := by rw [eV9]; exact ⟨wf0.o, wf0.seq, wf0.deps, wf0.kind, wf0.node, wf0.dst, wf0.amt, (show U64r ((x.req : Int) + 1) from ⟨by omega, by omega⟩), wf0.of⟩
  have hdV9 : V9.o = (o : Int) + 1 ∧ V9.seq = (M.ml o).s.known o + 1 ∧ V9.deps = (M.ml o).s.known := by rw [eV9]; exact hd0
  have smV9 : EvSm V9 := by rw [eV9]; exact ⟨sm0.amt, by show (x.req : Int) + 1 ≤ 256; omega⟩
  have m94 : Fx.Blk w17 g3 14 (evY V9) 50 := m93.congr (fun j hj => by rw [eV9]; exact ev_req _ _ j hj)
  have hct13 := Fx.ChT.of_stp s18 m44.ty
  have m95 := m42.chT hct13 (by decide)
  have m96 := m43.stp s18 (by omega)
  have b19 := s18.below b6 b6.size (by omega)
  refine Ln (sN (Wl (Lv ((pf g1 8)) (x_field rfl h1 Try.underlying54 rfl (s := 1) (by kernel_rfl) rfl (by show _ + 8 = _; omega)) (Lv (.int .u8 ((x.of : Int))) (x_load1 (x := actY x) rfl rfl (by kernel_rfl) m95.cel (i := 8) (by omega) (by omega) rfl) (Lv (.int .u64 ((x.of : Int))) (x_conv rfl rfl (by kernel_rfl) Try.underlying30 (Fx.u64e (by omega) rfl)) (Lv (.int .u64 ((x.of : Int) + 1)) (Fx.x_add rfl rfl rfl (Fx.u64e (by omega) (by omega))) (Lv ((pf g3 13)) (x_field rfl h3 Try.underlying50 rfl (s := 1) (by kernel_rfl) rfl (by show _ + 13 = _; omega)) (Fx.L.store1 (x := evY V9) (u := .int .u64 ((x.of : Int) + 1)) (by rfl) rfl rfl rfl rfl (by rfl) (by kernel_rfl) m94 (i := 13) (by omega) fun w18 m97 s19 z16 => ?_))))))))
  obtain ⟨V10, eV10⟩ : ∃ V : EvM, V = ⟨V9.o, V9.seq, V9.deps, V9.kind, V9.node, V9.dst, V9.amt, V9.req, (x.of : Int) + 1⟩ := ⟨_, rfl⟩
  have wfV10 : EvWf V10 := by rw [eV10]; exact ⟨wfV9.o, wfV9.seq, wfV9.deps, wfV9.kind, wfV9.node, wfV9.dst, wfV9.amt, wfV9.req, (show U64r ((x.of : Int) + 1) from ⟨by omega, by omega⟩)⟩
  have hdV10 : V10.o = (o : Int) + 1 ∧ V10.seq = (M.ml o).s.known o + 1 ∧ V10.deps = (M.ml o).s.known := by rw [eV10]; exact hdV9
  have smV10 : EvSm V10 := by rw [eV10]; exact ⟨smV9.amt, smV9.req⟩
  have m98 : Fx.Blk w18 g3 14 (evY V10) 50 := m97.congr (fun j hj => by rw [eV10]; exact ev_of _ _ j hj)
  have m100 := m96.stp s19 (by omega)
  have b20 := s19.below b19 b19.size (by omega)
  refine Ln (Fx.blkN (sN (Ws (Wl (Lv (.agg (Fx.varr 14 (evY V10))) (x_loadA (x := evY V10) (y := evY V10) rfl h3 (by kernel_rfl) (by kernel_rfl) m98.cel (i := 0) (by omega) (by omega) (fun j _ => by rw [Nat.zero_add])) (Fx.L.storeA (x := fun zq => if zq < 1 then .int .i64 (0) else if zq < 8 then .int .u64 (0) else if zq < 9 then .int .u8 (0) else if zq < 10 then .int .u64 (0) else if zq < 12 then .int .i64 (0) else .int .u64 (0)) (y := evY V10) (by rfl) rfl rfl h2 rfl (evY_one _) (by kernel_rfl) m100 (i := 0) (by omega) fun w19 m101 s20 z17 => ?_))))))
  have m102 : Fx.Blk w19 g2 14 (evY V10) 50 := Fx.ovr_all m101
  have m104 := m98.stp s20 (by omega)
  have b21 := s20.below b20 b20.size (by omega)
  refine Ln (sN (Wr (⟨.agg (Fx.varr 14 (evY V10)), rV Try.results40 ⟨_, h2, Fx.run_loadV m102.cel (by kernel_rfl) (by kernel_rfl)⟩, ?_⟩)))
  exact ⟨V10, wfV10, smV10, by rw [← eo]; exact hdV10, rfl, b21⟩
 refine Lv (.bool false) (x_eqlF rfl rfl rfl c108) (Lv (.bool false) (x_assign rfl rfl) (Ln (sN (Wc (b := false) rfl (fun h => nomatch h) (fun _ => Ws (Wl ?_))))))
 by_cases c120 : V0.kind = 5
 ·refine Lv (.bool true) (x_eqlT rfl rfl rfl c120) (Lv (.bool true) (x_assign rfl rfl) (Ln (sN (Wc (b := true) rfl (fun _ => Ws (Wl (Lv (.int .u64 (nd)) (x_move rfl h4) ?_))) (fun h => nomatch h)))))
  refine Lv ((pf g3 9)) (x_field rfl h3 Try.underlying50 rfl (s := 1) (by kernel_rfl) rfl (by show _ + 9 = _; omega)) (Fx.L.store1 (x := evY V0) (u := .int .u64 (nd)) (by rfl) rfl rfl rfl rfl (by rfl) (by kernel_rfl) m44 (i := 9) (by omega) fun w20 m105 s21 z18 => ?_)
  obtain ⟨V11, eV11⟩ : ∃ V : EvM, V = ⟨V0.o, V0.seq, V0.deps, V0.kind, nd, V0.dst, V0.amt, V0.req, V0.of⟩ := ⟨_, rfl⟩
  have wfV11 : EvWf V11 := by rw [eV11]; exact ⟨wf0.o, wf0.seq, wf0.deps, wf0.kind, hnode, wf0.dst, wf0.amt, wf0.req, wf0.of⟩
  have hdV11 : V11.o = (o : Int) + 1 ∧ V11.seq = (M.ml o).s.known o + 1 ∧ V11.deps = (M.ml o).s.known := by rw [eV11]; exact hd0
  have smV11 : EvSm V11 := by rw [eV11]; exact ⟨sm0.amt, sm0.req⟩
  have m106 : Fx.Blk w20 g3 14 (evY V11) 50 := m105.congr (fun j hj => by rw [eV11]; exact ev_node _ _ j hj)
  have hct16 := Fx.ChT.of_stp s21 m44.ty
  have m107 := m42.chT hct16 (by decide)
  have m108 := m43.stp s21 (by omega)
  have b22 := s21.below b6 b6.size (by omega)
  refine Ln (sN (Ws (Wl (Lv ((pf g1 6)) (x_field rfl h1 Try.underlying54 rfl (s := 1) (by kernel_rfl) rfl (by show _ + 6 = _; omega)) (Lv (.int .u16 ((x.amt : Int))) (x_load1 (x := actY x) rfl rfl (by kernel_rfl) m107.cel (i := 6) (by omega) (by omega) rfl) (Lv (.int .i64 ((x.amt : Int))) (x_conv rfl rfl (by kernel_rfl) Try.underlying2 (Fx.i64e (by omega) rfl)) (Lv (.int .i64 ((x.amt : Int) + 1)) (Fx.x_add rfl rfl rfl Fx.io) (Lv ((pf g3 11)) (x_field rfl h3 Try.underlying50 rfl (s := 1) (by kernel_rfl) rfl (by show _ + 11 = _; omega)) (Fx.L.store1 (x := evY V11) (u := .int .i64 ((x.amt : Int) + 1)) (by rfl) rfl rfl rfl rfl (by rfl) (by kernel_rfl) m106 (i := 11) (by omega) fun w21 m109 s22 z19 => ?_)))))))))
  obtain ⟨V12, eV12⟩ : ∃ V : EvM, V = ⟨V11.o, V11.seq, V11.deps, V11.kind, V11.node, V11.dst, (x.amt : Int) + 1, V11.req, V11.of⟩ := ⟨_, rfl⟩
  have wfV12 : EvWf V12 := by rw [eV12]; exact ⟨wfV11.o, wfV11.seq, wfV11.deps, wfV11.kind, wfV11.node, wfV11.dst, (show I64r ((x.amt : Int) + 1) from ⟨by omega, by omega⟩), wfV11.req, wfV11.of⟩
  have hdV12 : V12.o = (o : Int) + 1 ∧ V12.seq = (M.ml o).s.known o + 1 ∧ V12.deps = (M.ml o).s.known := by rw [eV12]; exact hdV11
  have smV12 : EvSm V12 := by rw [eV12]; exact ⟨by show (x.amt : Int) + 1 ≤ 65536; omega, smV11.req⟩
  have m110 : Fx.Blk w21 g3 14 (evY V12) 50 := m109.congr (fun j hj => by rw [eV12]; exact ev_amt _ _ j hj)
  have hct17 := Fx.ChT.of_stp s22 m106.ty
  have m111 := m107.chT hct17 (by decide)
  have m112 := m108.stp s22 (by omega)
  have b23 := s22.below b22 b22.size (by omega)
  refine Ln (sN ?_)
  obtain ⟨r6, er6⟩ : ∃ r, r = x.dst % 6 := ⟨_, rfl⟩
  have hr6 : r6 < 6 := by rw [er6]; exact Nat.mod_lt _ (by omega)
  refine Wl (Lv ((pf g1 5)) (x_field rfl h1 Try.underlying54 rfl (s := 1) (by kernel_rfl) rfl (by show _ + 5 = _; omega)) (Lv (.int .u8 ((x.dst : Int))) (x_load1 (x := actY x) rfl rfl (by kernel_rfl) m111.cel (i := 5) (by omega) (by omega) rfl) (Lv (.int .i64 ((x.dst : Int))) (x_conv rfl rfl (by kernel_rfl) Try.underlying3 (Fx.i64e (by omega) rfl)) (Lv (.int .i64 ((r6 : Int))) (Fx.x_rem rfl rfl rfl (by omega) (remL er6)) (Lv (.int .i64 ((r6 : Int) + 1)) (Fx.x_add rfl rfl rfl Fx.io) (Lv ((pf g3 10)) (x_field rfl h3 Try.underlying50 rfl (s := 1) (by kernel_rfl) rfl (by show _ + 10 = _; omega)) (Fx.L.store1 (x := evY V12) (u := .int .i64 ((r6 : Int) + 1)) (by rfl) rfl rfl rfl rfl (by rfl) (by kernel_rfl) m110 (i := 10) (by omega) fun w22 m113 s23 z20 => ?_)))))))
  obtain ⟨V13, eV13⟩ : ∃ V : EvM, V = ⟨V12.o, V12.seq, V12.deps, V12.kind, V12.node, (r6 : Int) + 1, V12.amt, V12.req, V12.of⟩ := ⟨_, rfl⟩
  have wfV13 : EvWf V13 := by rw [eV13]; exact ⟨wfV12.o, wfV12.seq, wfV12.deps, wfV12.kind, wfV12.node, (show I64r ((r6 : Int) + 1) from ⟨by omega, by omega⟩), wfV12.amt, wfV12.req, wfV12.of⟩
  have hdV13 : V13.o = (o : Int) + 1 ∧ V13.seq = (M.ml o).s.known o + 1 ∧ V13.deps = (M.ml o).s.known := by rw [eV13]; exact hdV12
  have smV13 : EvSm V13 := by rw [eV13]; exact ⟨smV12.amt, smV12.req⟩
  have m114 : Fx.Blk w22 g3 14 (evY V13) 50 := m113.congr (fun j hj => by rw [eV13]; exact ev_dst _ _ j hj)
  have m116 := m112.stp s23 (by omega)
  have b24 := s23.below b23 b23.size (by omega)
  refine Ln (Fx.blkN (sN (Ws (Wl (Lv (.agg (Fx.varr 14 (evY V13))) (x_loadA (x := evY V13) (y := evY V13) rfl h3 (by kernel_rfl) (by kernel_rfl) m114.cel (i := 0) (by omega) (by omega) (fun j _ => by rw [Nat.zero_add])) (Fx.L.storeA (x := fun zq => if zq < 1 then .int .i64 (0) else if zq < 8 then .int .u64 (0) else if zq < 9 then .int .u8 (0) else if zq < 10 then .int .u64 (0) else if zq < 12 then .int .i64 (0) else .int .u64 (0)) (y := evY V13) (by rfl) rfl rfl h2 rfl (evY_one _) (by kernel_rfl) m116 (i := 0) (by omega) fun w23 m117 s24 z21 => ?_))))))
  have m118 : Fx.Blk w23 g2 14 (evY V13) 50 := Fx.ovr_all m117
  have m120 := m114.stp s24 (by omega)
  have b25 := s24.below b24 b24.size (by omega)
  refine Ln (sN (Wr (⟨.agg (Fx.varr 14 (evY V13)), rV Try.results40 ⟨_, h2, Fx.run_loadV m118.cel (by kernel_rfl) (by kernel_rfl)⟩, ?_⟩)))
  exact ⟨V13, wfV13, smV13, by rw [← eo]; exact hdV13, rfl, b25⟩
 refine Lv (.bool false) (x_eqlF rfl rfl rfl c120) (Lv (.bool false) (x_assign rfl rfl) (Ln (sN (Wc (b := false) rfl (fun h => nomatch h) (fun _ => Ws (Wl ?_))))))
 by_cases c135 : V0.kind = 6
 ·refine Lv (.bool true) (x_eqlT rfl rfl rfl c135) (Lv (.bool true) (x_assign rfl rfl) (Ln (sN (Wc (b := true) rfl (fun _ => ?_) (fun h => nomatch h)))))
  obtain ⟨r6, er6⟩ : ∃ r, r = x.dst % 6 := ⟨_, rfl⟩
  have hr6 : r6 < 6 := by rw [er6]; exact Nat.mod_lt _ (by omega)
  refine Wl (Lv ((pf g1 5)) (x_field rfl h1 Try.underlying54 rfl (s := 1) (by kernel_rfl) rfl (by show _ + 5 = _; omega)) (Lv (.int .u8 ((x.dst : Int))) (x_load1 (x := actY x) rfl rfl (by kernel_rfl) m42.cel (i := 5) (by omega) (by omega) rfl) (Lv (.int .i64 ((x.dst : Int))) (x_conv rfl rfl (by kernel_rfl) Try.underlying3 (Fx.i64e (by omega) rfl)) (Lv (.int .i64 ((r6 : Int))) (Fx.x_rem rfl rfl rfl (by omega) (remL er6)) (Lv (.int .i64 ((r6 : Int) + 1)) (Fx.x_add rfl rfl rfl Fx.io) (Lv ((pf g3 10)) (x_field rfl h3 Try.underlying50 rfl (s := 1) (by kernel_rfl) rfl (by show _ + 10 = _; omega)) (Fx.L.store1 (x := evY V0) (u := .int .i64 ((r6 : Int) + 1)) (by rfl) rfl rfl rfl rfl (by rfl) (by kernel_rfl) m44 (i := 10) (by omega) fun w24 m121 s25 z22 => ?_)))))))
  obtain ⟨V14, eV14⟩ : ∃ V : EvM, V = ⟨V0.o, V0.seq, V0.deps, V0.kind, V0.node, (r6 : Int) + 1, V0.amt, V0.req, V0.of⟩ := ⟨_, rfl⟩
  have wfV14 : EvWf V14 := by rw [eV14]; exact ⟨wf0.o, wf0.seq, wf0.deps, wf0.kind, wf0.node, (show I64r ((r6 : Int) + 1) from ⟨by omega, by omega⟩), wf0.amt, wf0.req, wf0.of⟩
  have hdV14 : V14.o = (o : Int) + 1 ∧ V14.seq = (M.ml o).s.known o + 1 ∧ V14.deps = (M.ml o).s.known := by rw [eV14]; exact hd0
  have smV14 : EvSm V14 := by rw [eV14]; exact ⟨sm0.amt, sm0.req⟩
  have m122 : Fx.Blk w24 g3 14 (evY V14) 50 := m121.congr (fun j hj => by rw [eV14]; exact ev_dst _ _ j hj)
  have m124 := m43.stp s25 (by omega)
  have b26 := s25.below b6 b6.size (by omega)
  refine Ln (Fx.blkN (sN (Ws (Wl (Lv (.agg (Fx.varr 14 (evY V14))) (x_loadA (x := evY V14) (y := evY V14) rfl h3 (by kernel_rfl) (by kernel_rfl) m122.cel (i := 0) (by omega) (by omega) (fun j _ => by rw [Nat.zero_add])) (Fx.L.storeA (x := fun zq => if zq < 1 then .int .i64 (0) else if zq < 8 then .int .u64 (0) else if zq < 9 then .int .u8 (0) else if zq < 10 then .int .u64 (0) else if zq < 12 then .int .i64 (0) else .int .u64 (0)) (y := evY V14) (by rfl) rfl rfl h2 rfl (evY_one _) (by kernel_rfl) m124 (i := 0) (by omega) fun w25 m125 s26 z23 => ?_))))))
  have m126 : Fx.Blk w25 g2 14 (evY V14) 50 := Fx.ovr_all m125
  have m128 := m122.stp s26 (by omega)
  have b27 := s26.below b26 b26.size (by omega)
  refine Ln (sN (Wr (⟨.agg (Fx.varr 14 (evY V14)), rV Try.results40 ⟨_, h2, Fx.run_loadV m126.cel (by kernel_rfl) (by kernel_rfl)⟩, ?_⟩)))
  exact ⟨V14, wfV14, smV14, by rw [← eo]; exact hdV14, rfl, b27⟩
 refine Lv (.bool false) (x_eqlF rfl rfl rfl c135) (Lv (.bool false) (x_assign rfl rfl) (Ln (sN (Wc (b := false) rfl (fun h => nomatch h) (fun _ => Wk (Fx.blkN (sN (Ws (Wl (Lv (.agg (Fx.varr 14 (evY V0))) (x_loadA (x := evY V0) (y := evY V0) rfl h3 (by kernel_rfl) (by kernel_rfl) m44.cel (i := 0) (by omega) (by omega) (fun j _ => by rw [Nat.zero_add])) (Fx.L.storeA (x := fun zq => if zq < 1 then .int .i64 (0) else if zq < 8 then .int .u64 (0) else if zq < 9 then .int .u8 (0) else if zq < 10 then .int .u64 (0) else if zq < 12 then .int .i64 (0) else .int .u64 (0)) (y := evY V0) (by rfl) rfl rfl h2 rfl (evY_one _) (by kernel_rfl) m43 (i := 0) (by omega) fun w26 m129 s27 z24 => ?_)))))))))))
 have m130 : Fx.Blk w26 g2 14 (evY V0) 50 := Fx.ovr_all m129
 have m132 := m44.stp s27 (by omega)
 have b28 := s27.below b6 b6.size (by omega)
 refine Ln (sN (Wr (⟨.agg (Fx.varr 14 (evY V0)), rV Try.results40 ⟨_, h2, Fx.run_loadV m130.cel (by kernel_rfl) (by kernel_rfl)⟩, ?_⟩)))
 exact ⟨V0, wf0, sm0, by rw [← eo]; exact hd0, rfl, b28⟩
theorem Rt.apply_may {L : LdC} {v : EvM} (h : applyE L v = 0) : mayE v = true := by
  unfold applyE at h
  split at h; · cases h
  rename_i h1; simpa using h1
structure Rt.DoR (o : Nat) (x : ActM) (M M' : WM) (v : EvM) : Prop where
  n : M'.n = M.n
  oth : ∀ q, q ≠ o → M'.ml q = M.ml q
  c : (v = zeroE ∧ M'.an = M.an ∧ M'.ev = M.ev ∧ ((M'.ml o).core = (M.ml o).core ∨ x.meet = true ∧ (M'.ml o).core = learnC M.ev M.an (M.ml (x.other % M.n)).s.known (M.ml o).core)) ∨ (x.meet = false ∧ M'.an = M.an + 1 ∧ M'.ev = updA M.ev M.an v ∧ applyE (M.ml o).core v = 0 ∧ (M'.ml o).core = applyC (M.ml o).core v ∧ v.o = (o : Int) + 1 ∧ v.seq = (M.ml o).s.known o + 1 ∧ v.deps = (M.ml o).s.known)
theorem Rt.applyC_kn {L : LdC} {v : EvM} (h : applyE L v = 0) : (applyC L v).known = updA L.known (regN v) (L.known (regN v) + 1) := by
  rcases applyC_known L v with ⟨_, h2⟩ | ⟨h1, _⟩
  · exact h2
  exact absurd h h1
theorem Rt.zeroE_wf : EvWf zeroE := by
  have z : U64r 0 := ⟨by decide, by decide⟩
  have y : I64r 0 := ⟨by decide, by decide⟩
  exact ⟨y, z, fun _ _ => z, ⟨by decide, by decide⟩, z, y, y, z, z⟩
def wdS (p : Nat) (M : WM) (k : Nat) : Prop := k = p ∨ (Value.slice M.la M.n M.lc).ownBlock = some k ∨ (Value.slice M.aa M.an M.ac).ownBlock = some k
def SepW (w : World) (p : Nat) (M M' : WM) : Prop := ∀ k, wdS p M' k → wdS p M k ∨ w.heap.size ≤ k
theorem WldO.ge {w : World} {B p T : Nat} {M : WM} (h : WldO w B p M T) : ∀ k, wdS p M k → B ≤ k ∧ k < w.heap.size := fun k hk => by
  rcases hk with rfl | e | e
  · exact ⟨h.pB, h.c.lt⟩
  · exact h.l.ge e
  · exact h.a.ge e
theorem WldO.belowS {w w' : World} {B p T : Nat} {M : WM} (h : WldO w B p M T) (hB : B ≤ w.heap.size) (hs : Fx.Chg (wdS p M) w w') : Below B w w' := Fx.Chg.below (Below.refl B w) hs (fun k hk => (h.ge k hk).1) hB
theorem WldO.chm {w w' : World} {B p T : Nat} {M : WM} (h : WldO w B p M T) (hs : Fx.Chg (wdS p M) w w') : Fx.ChT [74, 71, 50] w w' := Fx.ChT.of_chg hs fun k hk => by
  rcases hk with rfl | e | e
  · exact ⟨_, h.c.ty, by decide⟩
  · exact ⟨_, h.l.ty e, by decide⟩
  · exact ⟨_, h.a.ty e, by decide⟩
theorem SepW.app {w w3 : World} {p g : Nat} {M M' : WM} (hgv : (Value.slice M.aa M.an M.ac).ownBlock = some g ∨ g = w3.heap.size) (hs : w.heap.size ≤ w3.heap.size) (h1 : M'.la = M.la := by rfl) (h2 : M'.n = M.n := by rfl) (h3 : M'.lc = M.lc := by rfl) (h4 : (Value.slice M'.aa M'.an M'.ac).ownBlock = some g := by rfl) : SepW w p M M' := fun k hk => by
  rcases hk with h | h | h
  · exact .inl (.inl h)
  · rw [h1, h2, h3] at h; exact .inl (.inr (.inl h))
  · have e : g = k := Option.some.inj (h4.symm.trans h)
    rcases hgv with h5 | h5
    · exact .inl (.inr (.inr (e ▸ h5)))
    · exact .inr (by omega)
theorem WldO.mono {w : World} {B p T T' : Nat} {M : WM} (h : WldO w B p M T) (hT : T ≤ T') : WldO w B p M T' := { h with inv := fun i hi => (h.inv i hi).mono hT }
set_option maxRecDepth 20000 in
set_option maxHeartbeats 2000000 in
theorem l_doC (M : WM) (B p T : Nat) (x : ActM) (w : World) (hW : WldO w B p M T) (hB : B ≤ w.heap.size) (hx : ActOk x) (han : M.an ≤ 60) (hT : T ≤ 890000) :
    Calls Try.prog 18 #[(pt p), .agg (Fx.varr 9 (actY x))] w fun e w' => ∃ v, e = .returned (.agg (Fx.varr 14 (evY v))) ∧ EvWf v ∧ ∃ M', WldO w' B p M' (T + 3660) ∧ DoR (x.who % M.n) x M M' v ∧ M'.an ≤ M.an + 1 ∧ (x.meet = true → M'.an = M.an) ∧ Fx.Chg (wdS p M) w w' ∧ SepW w p M M' := by
 have hWc := hW.c
 have hWl := hW.l
 have hWa := hW.a
 have hWg := hW.g
 have hn1 := hW.n1
 have hn6 := hW.n6
 have hpB := hW.pB
 have lpp : p < w.heap.size := hWc.lt
 have hxw := hx.who
 have hxo := hx.other
 have hxk := hx.kind
 have hxn := hx.node
 have hxt := hx.dst
 have hxa := hx.amt
 have hxr := hx.req
 have hxf := hx.of
 refine Fx.enter Try.func18 rfl (n := 94) rfl (by rfl) ?_
 refine Ws (Wl (Fx.L.box (m := 9) (y := actY x) (by rfl) rfl rfl (Fx.cells_agg _ _) rfl fun g1 w1 eg1 m1 s1 z1 => ?_))
 have m2 := hWc.stp s1 hWc.ne
 have m3 := hWl.stp s1 (hWl.notNew (Nat.le_refl _))
 have m4 := hWa.stp s1 (hWa.notNew (Nat.le_refl _))
 have m5 := hWg.up s1.old
 have m6 := hW.up s1.old
 have b1 := (Fx.Chg.refl (wdS p M) w).then s1 (.inr (Fx.Chg.refl (wdS p M) w).size)
 have lg1 : w.heap.size ≤ g1 := by rw [eg1]; exact (Fx.Chg.refl (wdS p M) w).size
 have ng1m2 : p ≠ g1 := by rw [eg1]; exact Nat.ne_of_lt (hWc.lt)
 have tg1 : g1 < w1.heap.size := m1.lt
 clear eg1
 refine Fx.L.new (m := 14) (y := fun zq => if zq < 1 then .int .i64 (0) else if zq < 8 then .int .u64 (0) else if zq < 9 then .int .u8 (0) else if zq < 10 then .int .u64 (0) else if zq < 12 then .int .i64 (0) else .int .u64 (0)) (by rfl) rfl (by kernel_rfl) rfl fun g2 w2 eg2 m7 s2 z2 => ?_
 have m8 := m2.stp s2 m2.ne
 have m9 := m3.stp s2 (m3.notNew (Nat.le_refl _))
 have m10 := m4.stp s2 (m4.notNew (Nat.le_refl _))
 have m11 := m5.up s2.old
 have m12 := m6.up s2.old
 have m13 := m1.stp s2 m1.ne
 have b2 := b1.then s2 (.inr b1.size)
 have lg2 : w.heap.size ≤ g2 := by rw [eg2]; exact b1.size
 have ng2m8 : p ≠ g2 := by rw [eg2]; exact Nat.ne_of_lt (m2.lt)
 have ng2m10 : (.slice M.aa (M.an) (M.ac) : Value).ownBlock ≠ some g2 := by rw [eg2]; exact m4.notNew (Nat.le_refl _)
 have ng2m13 : g1 ≠ g2 := by rw [eg2]; exact Nat.ne_of_lt (m1.lt)
 have tg2 : g2 < w2.heap.size := m7.lt
 clear eg2
 refine Ln (sN (Ws ?_))
 obtain ⟨o, eo⟩ : ∃ r, r = x.who % M.n := ⟨_, rfl⟩
 have ho : o < M.n := by rw [eo]; exact Nat.mod_lt _ (by omega)
 -- region 1 draws
 refine Fx.W.quiet (fun v1 => ∃ q, v1 = World.drewN w2 q) (by kernel_rfl) (by kernel_rfl) ⟨1, rfl⟩ ?_
 refine Qv ((pt g1)) (fun v1 hv1 => x_field rfl rfl Try.underlying54 rfl (s := 1) (by kernel_rfl) rfl rfl) (Qv (.int .u8 ((x.who : Int))) (fun v1 hv1 => x_load1 (x := actY x) rfl rfl (by kernel_rfl) (by obtain ⟨qd, rfl⟩ := hv1; exact m13.cel) (i := 0) (by omega) (by omega) rfl) (Qv (.int .i64 ((x.who : Int))) (fun v1 hv1 => x_conv rfl rfl (by kernel_rfl) Try.underlying3 (Fx.i64e (by omega) rfl)) (Qv ((pt p)) (fun v1 hv1 => x_move rfl rfl) (Qv ((pt p)) (fun v1 hv1 => x_nil rfl rfl) (Qv ((pt p)) (fun v1 hv1 => x_field rfl rfl Try.underlying74 rfl (s := 1) (by kernel_rfl) rfl rfl) (Qv (.slice M.la (M.n) (M.lc)) (fun v1 hv1 => x_load1 (x := wdY (.slice M.la (M.n) (M.lc)) (.slice M.aa (M.an) (M.ac))) rfl rfl (by kernel_rfl) (by obtain ⟨qd, rfl⟩ := hv1; exact m8.cel) (i := 0) (by omega) (by omega) rfl) (Qv (.int .i64 ((M.n : Int))) (fun v1 hv1 => x_len rfl rfl rfl (by kernel_rfl)) (Qv (.int .i64 ((o : Int))) (fun v1 hv1 => Fx.x_rem rfl rfl rfl (by omega) (remL eo)) (Qv (.int .i64 ((o : Int))) (fun v1 hv1 => x_assign rfl rfl) (Fx.Qt.nil ?_))))))))))
 rintro _ ⟨qd, rfl⟩
 obtain ⟨wq1, ewq1⟩ : ∃ v1, v1 = World.drewN w2 qd := ⟨_, rfl⟩
 rw [← ewq1]
 have s3 : Fx.Stp w2.heap.size w2 wq1 := by rw [ewq1]; exact Sb (bdrN w2 qd)
 have m14 := m8.stp s3 m8.ne
 have m15 := m9.stp s3 (m9.notNew (Nat.le_refl _))
 have m16 := m10.stp s3 (m10.notNew (Nat.le_refl _))
 have m17 := m11.up s3.old
 have m18 := m12.up s3.old
 have m19 := m13.stp s3 m13.ne
 have m20 := m7.stp s3 m7.ne
 have b3 := b2.then s3 (.inr b2.size)
 clear ewq1
 refine sN (Ws (Ws (Wl (Lv ((pf g1 1)) (x_field rfl rfl Try.underlying54 rfl (s := 1) (by kernel_rfl) rfl (by show _ + 1 = _; omega)) ?_))))
 by_cases c19 : x.meet = true
 ·refine Lv (.bool true) (x_load1 (x := actY x) rfl rfl (by kernel_rfl) m19.cel (i := 1) (by omega) (by omega) ((show _ = Value.bool x.meet from rfl).trans (congrArg Value.bool c19))) (Ln (sN (Wc (b := true) rfl (fun _ => Ws ?_) (fun h => nomatch h))))
  obtain ⟨r48, er48⟩ : ∃ r, r = x.other % M.n := ⟨_, rfl⟩
  have hr48 : r48 < M.n := by rw [er48]; exact Nat.mod_lt _ (by omega)
  have hLo1 := m17 r48 (by omega)
  have hLo1c := hLo1.c
  have hLo2 := m17 o (by omega)
  -- region 3 draws
  refine Fx.W.reord [0, 1, 2, 4, 5, 6, 7, 9, 12, 13, 14, 16, 17, 18, 20, 23, 24, 25, 3, 8, 10, 11, 15, 19, 21, 22, 26, 27, 28, 29, 30, 31, 32, 33, 34, 35, 36, 37] [0, 0, 0, 1, 0, 0, 0, 0, 4, 0, 0, 4, 0, 0, 0, 4, 0, 0, 0, 4, 0, 4, 0, 0, 0, 0, 4, 0, 0, 0, 4, 0, 0, 0, 4, 2, 0, 3] Fx.Mk Fx.Mk.refl Fx.Mk.trans (certs := [(37, 3, [3]), (35, 8, [11, 10, 8]), (37, 8, [8]), (35, 11, [11]), (37, 11, [11]), (35, 15, [15]), (37, 15, [15]), (35, 19, [34, 33, 32, 31, 30, 29, 19]), (37, 19, [19]), (35, 21, [34, 33, 32, 31, 30, 29, 28, 22, 21]), (37, 21, [21]), (35, 26, [34, 33, 32, 31, 30, 29, 28, 27, 26]), (37, 26, [26]), (35, 30, [34, 33, 32, 31, 30]), (37, 30, [30]), (35, 34, [34]), (37, 34, [34]), (36, 35, [35]), (37, 35, [35])]) (by kernel_rfl) (by kernel_rfl) (by kernel_rfl) (by kernel_rfl) (by kernel_rfl) fun wt1 hbwt1 hzwt1 => ?_
  have s4 : Fx.Stp wq1.heap.size wq1 wt1 := Sb hbwt1
  have m21 := m14.stp s4 m14.ne
  have m22 := m15.stp s4 (m15.notNew (Nat.le_refl _))
  have m23 := m16.stp s4 (m16.notNew (Nat.le_refl _))
  have m24 := m17.up s4.old
  have m25 := m19.stp s4 m19.ne
  have m26 := m20.stp s4 m20.ne
  have m27 := hLo1c.stp s4 hLo1c.ne
  have m28 := hLo2.up s4.old
  have b4 := b3.then s4 (.inr b3.size)
  refine Rp ((pt p)) (fun v1 => x_move rfl rfl) (Rp ((pt p)) (fun v1 => x_nil rfl rfl) (Rp ((pt p)) (fun v1 => x_field rfl rfl Try.underlying74 rfl (s := 1) (by kernel_rfl) rfl rfl) (Rp (.int .i64 ((o : Int))) (fun v1 => x_move rfl rfl) (Rp ((pt p)) (fun v1 => x_move rfl rfl) (Rp ((pt p)) (fun v1 => x_nil rfl rfl) (Rp ((pt p)) (fun v1 => x_field rfl rfl Try.underlying74 rfl (s := 1) (by kernel_rfl) rfl rfl) (Rp (.int .i64 ((o : Int))) (fun v1 => x_move rfl rfl) (Rp ((pt p)) (fun v1 => x_move rfl rfl) (Rp ((pt p)) (fun v1 => x_nil rfl rfl) (Rp ((pf p 1)) (fun v1 => x_field rfl rfl Try.underlying74 rfl (s := 1) (by kernel_rfl) rfl (by show _ + 1 = _; omega)) (Rp ((pt p)) (fun v1 => x_move rfl rfl) (Rp ((pt p)) (fun v1 => x_nil rfl rfl) (Rp ((pt p)) (fun v1 => x_field rfl rfl Try.underlying74 rfl (s := 1) (by kernel_rfl) rfl rfl) (Rp ((pf g1 2)) (fun v1 => x_field rfl rfl Try.underlying54 rfl (s := 1) (by kernel_rfl) rfl (by show _ + 2 = _; omega)) (Rp ((pt p)) (fun v1 => x_move rfl rfl) (Rp ((pt p)) (fun v1 => x_nil rfl rfl) (Rp ((pt p)) (fun v1 => x_field rfl rfl Try.underlying74 rfl (s := 1) (by kernel_rfl) rfl rfl) (Fx.R.read (v := .slice M.la (M.n) (M.lc)) (by rfl) (by rfl) (Fx.Mk.refl _) (fun v1 hv1 => x_load1 (x := wdY (.slice M.la (M.n) (M.lc)) (.slice M.aa (M.an) (M.ac))) rfl rfl (by kernel_rfl) (m21.cel.below hv1 (by have := m21.lt; omega)) (i := 0) (by omega) (by omega) rfl) ?_))))))))))))))))))
  refine Fx.R.s (.slice M.la (M.n) (M.lc)) (x_load1 (x := wdY (.slice M.la (M.n) (M.lc)) (.slice M.aa (M.an) (M.ac))) rfl rfl (by kernel_rfl) m21.cel (i := 0) (by omega) (by omega) rfl) ?_
  obtain ⟨gq1, eq1⟩ := m22.addr (by omega)
  have m29 : Fx.Own wt1 B 71 1 (.slice (some ⟨gq1, 0, none⟩) M.n M.lc) M.n (ptX M.pl) := m22.congV (congrArg (fun q => Value.slice q M.n M.lc) eq1)
  refine Rp ((pf gq1 o)) (fun v1 => x_indexS rfl (rfl.trans (congrArg (fun q => Value.slice q (M.n) (M.lc)) eq1)) rfl Try.underlying72 (s := 1) (by kernel_rfl) (by omega) (by omega) (by omega)) (Fx.R.s ((pt (M.pl o))) (x_load1 (x := ptX M.pl) rfl rfl (by kernel_rfl) m29.cel (i := o) (by omega) (by omega) rfl) ?_)
  refine Fx.R.s (.slice M.aa (M.an) (M.ac)) (x_load1 (x := wdY (.slice M.la (M.n) (M.lc)) (.slice M.aa (M.an) (M.ac))) rfl rfl (by kernel_rfl) m21.cel (i := 1) (by omega) (by omega) rfl) ?_
  refine Fx.R.s (.slice M.la (M.n) (M.lc)) (x_load1 (x := wdY (.slice M.la (M.n) (M.lc)) (.slice M.aa (M.an) (M.ac))) rfl rfl (by kernel_rfl) m21.cel (i := 0) (by omega) (by omega) rfl) ?_
  refine Fx.R.s (.int .u8 ((x.other : Int))) (x_load1 (x := actY x) rfl rfl (by kernel_rfl) m25.cel (i := 2) (by omega) (by omega) rfl) ?_
  refine Rp (.int .i64 ((x.other : Int))) (fun v1 => x_conv rfl rfl (by kernel_rfl) Try.underlying3 (Fx.i64e (by omega) rfl)) (Fx.R.s (.slice M.la (M.n) (M.lc)) (x_load1 (x := wdY (.slice M.la (M.n) (M.lc)) (.slice M.aa (M.an) (M.ac))) rfl rfl (by kernel_rfl) m21.cel (i := 0) (by omega) (by omega) rfl) ?_)
  refine Rp (.int .i64 ((M.n : Int))) (fun v1 => x_len rfl rfl rfl (by kernel_rfl)) (Rp (.int .i64 ((r48 : Int))) (fun v1 => Fx.x_rem rfl rfl rfl (by omega) (remL er48)) (Rp ((pf gq1 r48)) (fun v1 => x_indexS rfl (rfl.trans (congrArg (fun q => Value.slice q (M.n) (M.lc)) eq1)) rfl Try.underlying72 (s := 1) (by kernel_rfl) (by omega) (by omega) (by omega)) (Fx.R.s ((pt (M.pl r48))) (x_load1 (x := ptX M.pl) rfl rfl (by kernel_rfl) m29.cel (i := r48) (by omega) (by omega) rfl) ?_)))
  refine Rp ((pt (M.pl r48))) (fun v1 => x_nil rfl rfl) (Rp ((pt (M.pl r48))) (fun v1 => x_field rfl rfl Try.underlying70 rfl (s := 20) (by kernel_rfl) rfl rfl) (Rp ((pf (M.pl r48) 12)) (fun v1 => x_field rfl rfl Try.underlying65 rfl (s := 6) (by kernel_rfl) rfl (by show _ + 12 = _; omega)) (Fx.R.s (.agg (Fx.varr 6 (Fx.rv .u64 ((M.ml r48).s.known)))) (x_loadA (x := ldY (M.ml r48)) (y := Fx.rv .u64 ((M.ml r48).s.known)) rfl rfl (by kernel_rfl) (by kernel_rfl) m27.cel (i := 12) (by omega) (by omega) (fun j hj => ldY_st _ (by omega) (stY_known _ hj (by omega)))) ?_)))
  refine Fx.R.make (by rfl) ?_
  refine Fx.L.call (by rfl) (rC (args := [(pt (M.pl o)), .slice M.aa (M.an) (M.ac), .agg (Fx.varr 6 (Fx.rv .u64 ((M.ml r48).s.known)))]) rfl rfl Try.func39 rfl rfl) rfl ((l_learn (M.ml o) B (M.pl o) T M.aa M.an M.ac M.ev ((M.ml r48).s.known) _ m28 (hW.inv o (by omega)) m23.arr hW.wf hW.may hW.sm han hT).mono ?_)
  rintro e9 w3 ⟨p3, m3, he, hlc, hI3, hL1, hb1⟩
  refine ⟨(pt p3), he, ?_⟩
  clear he
  have s5 := Sb hb1
  have m30 := m21.stp s5 m21.ne
  have m31 := m23.stp s5 (m23.notNew (Nat.le_refl _))
  have m32 := m24.up s5.old
  have m34 := m26.stp s5 m26.ne
  have m36 := m29.stpB s5 (Nat.ne_of_lt (m29.lt))
  have b5 := b4.then s5 (.inr b4.size)
  refine Ln ⟨s5.old, ?_⟩
  refine Rp ((pf gq1 o)) (fun v1 => x_indexS rfl (rfl.trans (congrArg (fun q => Value.slice q (M.n) (M.lc)) eq1)) rfl Try.underlying72 (s := 1) (by kernel_rfl) (by omega) (by omega) (by omega)) (Fx.R.eff (by rfl) ?_)
  refine Fx.L.own1 (x := ptX M.pl) (u := (pt p3)) (by rfl) rfl rfl rfl rfl (by rfl) (by kernel_rfl) m36 (i := o) (by omega) fun w4 m37 s6 z3 => ?_
  have hct1 := Fx.ChT.of_stp s6 m36.tyB
  have m38 := m30.chT hct1 (by decide)
  have m39 := m31.chT hct1 (by decide)
  have m40 := m32.chT hct1 (by decide)
  have m42 := m34.chT hct1 (by decide)
  have m44 := hL1.chT hct1 (by decide)
  have b6 := b5.then s6 (.inl (.inr (.inl (by rw [eq1]; rfl))) )
  have m45 : Fx.Own w4 B 71 1 (.slice (some ⟨gq1, 0, none⟩) M.n M.lc) M.n (ptX (updA M.pl o p3)) := m37.congr (fun jq _ => congrFun pt_put jq)
  refine Ln (Fx.R.nil (sN (Ws (Wl (Lv (.agg (Fx.varr 14 (fun zq => if zq < 1 then .int .i64 (0) else if zq < 8 then .int .u64 (0) else if zq < 9 then .int .u8 (0) else if zq < 10 then .int .u64 (0) else if zq < 12 then .int .i64 (0) else .int .u64 (0)))) (x_build (vs := []) (places := #[(0, 1), (1, 1), (2, 6), (8, 1), (9, 1), (10, 1), (11, 1), (12, 1), (13, 1)]) (m := 14) (x := fun zq => if zq < 1 then .int .i64 (0) else if zq < 8 then .int .u64 (0) else if zq < 9 then .int .u8 (0) else if zq < 10 then .int .u64 (0) else if zq < 12 then .int .i64 (0) else .int .u64 (0)) rfl rfl Try.underlying50 (by kernel_rfl) (by kernel_rfl) (by rfl)) (Fx.L.storeA (x := fun zq => if zq < 1 then .int .i64 (0) else if zq < 8 then .int .u64 (0) else if zq < 9 then .int .u8 (0) else if zq < 10 then .int .u64 (0) else if zq < 12 then .int .i64 (0) else .int .u64 (0)) (y := fun zq => if zq < 1 then .int .i64 (0) else if zq < 8 then .int .u64 (0) else if zq < 9 then .int .u8 (0) else if zq < 10 then .int .u64 (0) else if zq < 12 then .int .i64 (0) else .int .u64 (0)) (by rfl) rfl rfl rfl rfl (fun jq _ => by show ((fun zq => if zq < 1 then .int .i64 (0) else if zq < 8 then .int .u64 (0) else if zq < 9 then .int .u8 (0) else if zq < 10 then .int .u64 (0) else if zq < 12 then .int .i64 (0) else .int .u64 (0) : Nat → Value) jq).oneCell' = true; simp only []; repeat (first | rfl | split)) (by kernel_rfl) m42 (i := 0) (by omega) fun w5 m46 s7 z4 => ?_))))))
  have m47 : Fx.Blk w5 g2 14 (fun zq => if zq < 1 then .int .i64 (0) else if zq < 8 then .int .u64 (0) else if zq < 9 then .int .u8 (0) else if zq < 10 then .int .u64 (0) else if zq < 12 then .int .i64 (0) else .int .u64 (0)) 50 := Fx.ovr_all m46
  have hct2 := Fx.ChT.of_stp s7 m42.ty
  have m48 := m38.chT hct2 (by decide)
  have m49 := m39.stp s7 ng2m10
  have m50 := m40.chT hct2 (by decide)
  have m53 := m44.chT hct2 (by decide)
  have m54 := m45.chT hct2 (by decide)
  have b7 := b6.then s7 (.inr lg2)
  refine Ln (sN (Wr (sR (⟨.agg (Fx.varr 14 (fun zq => if zq < 1 then .int .i64 (0) else if zq < 8 then .int .u64 (0) else if zq < 9 then .int .u8 (0) else if zq < 10 then .int .u64 (0) else if zq < 12 then .int .i64 (0) else .int .u64 (0))), rV Try.results18 ⟨_, rfl, Fx.run_loadV m47.cel (by kernel_rfl) (by kernel_rfl)⟩, ?_⟩))))
  have m55 : Fx.Own w5 B 71 1 (.slice M.la (M.n) (M.lc)) M.n (ptX (updA M.pl o p3)) := m54.congV (congrArg (fun q => Value.slice q M.n M.lc) eq1.symm)
  exact ⟨zeroE, congrArg (fun z => Ending.returned (Value.agg z)) (Fx.varr_congr (y := evY zeroE) fun j hj => by rcases j with _|_|_|_|_|_|_|_|_|_|_|_|_|_|j <;> first | rfl | omega), zeroE_wf, { M with pl := updA M.pl o p3, ml := updA M.ml o m3 }, { c := m48, l := m55, a := m49, g := m50.put m53, inv := (fun i hi => by show Inv (updA M.ml o m3 i).core _; unfold updA; split; exact hI3; exact (hW.inv i hi).mono (by omega)), wf := hW.wf, may := hW.may, sm := hW.sm, cz := hW.cz.learn (o := o) (by omega) (L := (M.ml o).core) rfl (fun q hq => by show (updA M.ml o m3 q).s.known = _; unfold updA; rw [if_neg hq]) (by show (updA M.ml o m3 o).s.known = _; unfold updA; rw [if_pos rfl]; exact congrArg LdC.known hlc), pB := hpB, n1 := hn1, n6 := hn6 }, (by rw [← eo]; exact ⟨rfl, fun q hq => by show updA M.ml o m3 q = _; unfold updA; rw [if_neg hq], .inl ⟨rfl, rfl, rfl, .inr ⟨c19, by rw [← er48]; show (updA M.ml o m3 o).core = _; unfold updA; rw [if_pos rfl]; exact hlc⟩⟩⟩), (by show M.an ≤ M.an + 1; omega), (fun _ => rfl), b7, fun _ h => .inl h⟩
 rw [Bool.not_eq_true] at c19
 refine Lv (.bool false) (x_load1 (x := actY x) rfl rfl (by kernel_rfl) m19.cel (i := 1) (by omega) (by omega) ((show _ = Value.bool x.meet from rfl).trans (congrArg Value.bool c19))) (Ln (sN (Wc (b := false) rfl (fun h => nomatch h) (fun _ => Wk (sN (Ws (Wl (Lv ((pt p)) (x_move rfl rfl) (Lv (.agg (Fx.varr 9 (actY x))) (x_loadA (x := actY x) (y := actY x) rfl rfl (by kernel_rfl) (by kernel_rfl) m19.cel (i := 0) (by omega) (by omega) (fun j _ => by rw [Nat.zero_add])) (Fx.L.call (by rfl) (rC (args := [(pt p), .agg (Fx.varr 9 (actY x))]) rfl rfl Try.func40 rfl rfl) rfl ((l_event M B p T x _ m18 hx).mono ?_)))))))))))
 rintro e9 w6 ⟨V, hV, hVs, hVd, he, hb2⟩
 refine ⟨_, he, ?_⟩
 clear he
 rw [← eo] at hVd
 have s8 := Sb hb2
 have m56 := m14.stp s8 m14.ne
 have m57 := m15.stp s8 (m15.notNew (Nat.le_refl _))
 have m58 := m16.stp s8 (m16.notNew (Nat.le_refl _))
 have m59 := m17.up s8.old
 have m61 := m19.stp s8 m19.ne
 have m62 := m20.stp s8 m20.ne
 have b8 := b3.then s8 (.inr b3.size)
 refine Fx.L.new (m := 14) (y := fun zq => if zq < 1 then .int .i64 (0) else if zq < 8 then .int .u64 (0) else if zq < 9 then .int .u8 (0) else if zq < 10 then .int .u64 (0) else if zq < 12 then .int .i64 (0) else .int .u64 (0)) (by rfl) rfl (by kernel_rfl) rfl fun g3 w7 eg3 m63 s9 z5 => ?_
 have m64 := m56.stp s9 m56.ne
 have m65 := m57.stp s9 (m57.notNew (Nat.le_refl _))
 have m66 := m58.stp s9 (m58.notNew (Nat.le_refl _))
 have m67 := m59.up s9.old
 have m68 := m61.stp s9 m61.ne
 have m69 := m62.stp s9 m62.ne
 have b9 := b8.then s9 (.inr b8.size)
 have lg3 : w.heap.size ≤ g3 := by rw [eg3]; exact b8.size
 have ng3m64 : p ≠ g3 := by rw [eg3]; exact Nat.ne_of_lt (m56.lt)
 have ng3m66 : (.slice M.aa (M.an) (M.ac) : Value).ownBlock ≠ some g3 := by rw [eg3]; exact m58.notNew (Nat.le_refl _)
 have ng3m68 : g1 ≠ g3 := by rw [eg3]; exact Nat.ne_of_lt (m61.lt)
 have ng3m69 : g2 ≠ g3 := by rw [eg3]; exact Nat.ne_of_lt (m62.lt)
 have tg3 : g3 < w7.heap.size := m63.lt
 clear eg3
 refine Fx.L.storeA (x := fun zq => if zq < 1 then .int .i64 (0) else if zq < 8 then .int .u64 (0) else if zq < 9 then .int .u8 (0) else if zq < 10 then .int .u64 (0) else if zq < 12 then .int .i64 (0) else .int .u64 (0)) (y := evY V) (by rfl) rfl rfl rfl rfl (evY_one _) (by kernel_rfl) m63 (i := 0) (by omega) fun w8 m70 s10 z6 => ?_
 have m71 : Fx.Blk w8 g3 14 (evY V) 50 := Fx.ovr_all m70
 have hct3 := Fx.ChT.of_stp s10 m63.ty
 have m72 := m64.chT hct3 (by decide)
 have m73 := m65.chT hct3 (by decide)
 have m74 := m66.stp s10 ng3m66
 have m75 := m67.chT hct3 (by decide)
 have m76 := m68.chT hct3 (by decide)
 have m77 := m69.stp s10 (by omega)
 have b10 := b9.then s10 (.inr lg3)
 refine Ln (sN (Ws ?_))
 have hLo3 := m75 o (by omega)
 -- region 6 draws
 refine Fx.W.reord [0, 1, 2, 4, 3, 5, 6, 7, 8, 9, 10, 11, 12, 13] [0, 0, 0, 4, 0, 0, 4, 4, 3, 0, 0, 0, 0, 0] Fx.Mk Fx.Mk.refl Fx.Mk.trans (certs := [(8, 3, [6, 5, 3]), (8, 6, [6]), (8, 7, [7]), (9, 8, [8]), (10, 8, [9, 8]), (11, 8, [9, 8]), (12, 8, [8]), (13, 8, [8])]) (by kernel_rfl) (by kernel_rfl) (by kernel_rfl) (by kernel_rfl) (by kernel_rfl) fun wt2 hbwt2 hzwt2 => ?_
 have s11 : Fx.Stp w8.heap.size w8 wt2 := Sb hbwt2
 have m78 := m72.stp s11 m72.ne
 have m79 := m73.stp s11 (m73.notNew (Nat.le_refl _))
 have m80 := m74.stp s11 (m74.notNew (Nat.le_refl _))
 have m81 := m75.up s11.old
 have m82 := m76.stp s11 m76.ne
 have m83 := m77.stp s11 m77.ne
 have m84 := m71.stp s11 m71.ne
 have m85 := hLo3.up s11.old
 have b11 := b10.then s11 (.inr b10.size)
 refine Rp ((pt p)) (fun v1 => x_move rfl rfl) (Rp ((pt p)) (fun v1 => x_nil rfl rfl) (Rp ((pt p)) (fun v1 => x_field rfl rfl Try.underlying74 rfl (s := 1) (by kernel_rfl) rfl rfl) (Rp (.int .i64 ((o : Int))) (fun v1 => x_move rfl rfl) (Fx.R.s (.slice M.la (M.n) (M.lc)) (x_load1 (x := wdY (.slice M.la (M.n) (M.lc)) (.slice M.aa (M.an) (M.ac))) rfl rfl (by kernel_rfl) m78.cel (i := 0) (by omega) (by omega) rfl) ?_))))
 obtain ⟨gq2, eq2⟩ := m79.addr (by omega)
 have m86 : Fx.Own wt2 B 71 1 (.slice (some ⟨gq2, 0, none⟩) M.n M.lc) M.n (ptX M.pl) := m79.congV (congrArg (fun q => Value.slice q M.n M.lc) eq2)
 refine Rp ((pf gq2 o)) (fun v1 => x_indexS rfl (rfl.trans (congrArg (fun q => Value.slice q (M.n) (M.lc)) eq2)) rfl Try.underlying72 (s := 1) (by kernel_rfl) (by omega) (by omega) (by omega)) (Fx.R.s ((pt (M.pl o))) (x_load1 (x := ptX M.pl) rfl rfl (by kernel_rfl) m86.cel (i := o) (by omega) (by omega) rfl) ?_)
 refine Fx.R.s (.agg (Fx.varr 14 (evY V))) (x_loadA (x := evY V) (y := evY V) rfl rfl (by kernel_rfl) (by kernel_rfl) m84.cel (i := 0) (by omega) (by omega) (fun j _ => by rw [Nat.zero_add])) ?_
 refine Fx.R.eff (by rfl) ?_
 refine Fx.L.call (by rfl) (rC (args := [(pt (M.pl o)), .agg (Fx.varr 14 (evY V))]) rfl rfl Try.func41 rfl rfl) rfl ((l_apply (M.ml o) B (M.pl o) T V _ m85 hV (hW.inv o (by omega)).w (by omega)).mono ?_)
 rintro e9 w9 ⟨p3, m3, he, hc3, hL2, hb3⟩
 refine ⟨.tuple #[(pt p3), .int .i64 (applyE (M.ml o).core V)], he, ?_⟩
 clear he
 have s12 := Sb hb3
 have m87 := m78.stp s12 m78.ne
 have m88 := m80.stp s12 (m80.notNew (Nat.le_refl _))
 have m89 := m81.up s12.old
 have m90 := m82.stp s12 m82.ne
 have m91 := m83.stp s12 m83.ne
 have m92 := m84.stp s12 m84.ne
 have m93 := m86.stpB s12 (Nat.ne_of_lt (m86.lt))
 have b12 := b11.then s12 (.inr b11.size)
 refine Ln (Rp (.tuple #[(pt p3), .int .i64 (applyE (M.ml o).core V)]) (fun v1 => x_move rfl rfl) (Rp ((pt p3)) (fun v1 => Fx.x_extract rfl rfl rfl) (Rp (.int .i64 (applyE (M.ml o).core V)) (fun v1 => Fx.x_extract rfl rfl rfl) (Rp ((pt p3)) (fun v1 => x_assign rfl rfl) (Rp (.int .i64 (applyE (M.ml o).core V)) (fun v1 => x_assign rfl rfl) (Fx.R.nil (sN (Ws (Ws (Wl (Lv (.int .i64 (applyE (M.ml o).core V)) (x_move rfl rfl) ?_)))))))))))
 by_cases c74 : (applyE (M.ml o).core V) = 0
 ·refine Lv (.bool false) (Fx.x_neqF rfl rfl rfl c74) (Ln (sN (Wc (b := false) rfl (fun h => nomatch h) (fun _ => Wk (sN (Ws (Wl (Lv ((pt p)) (x_move rfl rfl) (Lv ((pt p)) (x_nil rfl rfl) (Lv ((pt p)) (x_field rfl rfl Try.underlying74 rfl (s := 1) (by kernel_rfl) rfl rfl) (Lv (.slice M.la (M.n) (M.lc)) (x_load1 (x := wdY (.slice M.la (M.n) (M.lc)) (.slice M.aa (M.an) (M.ac))) rfl rfl (by kernel_rfl) m87.cel (i := 0) (by omega) (by omega) rfl) (Lv (.int .i64 ((o : Int))) (x_move rfl rfl) (Lv ((pt p3)) (x_move rfl rfl) (Lv ((pf gq2 o)) (x_indexS rfl (rfl.trans (congrArg (fun q => Value.slice q (M.n) (M.lc)) eq2)) rfl Try.underlying72 (s := 1) (by kernel_rfl) (by omega) (by omega) (by omega)) (Fx.L.own1 (x := ptX M.pl) (u := (pt p3)) (by rfl) rfl rfl rfl rfl (by rfl) (by kernel_rfl) m93 (i := o) (by omega) fun w10 m94 s13 z7 => ?_)))))))))))))))
  have hct4 := Fx.ChT.of_stp s13 m93.tyB
  have m95 := m87.chT hct4 (by decide)
  have m96 := m88.chT hct4 (by decide)
  have m97 := m89.chT hct4 (by decide)
  have m98 := m90.chT hct4 (by decide)
  have m99 := m91.chT hct4 (by decide)
  have m100 := m92.chT hct4 (by decide)
  have m101 := hL2.chT hct4 (by decide)
  have b13 := b12.then s13 (.inl (.inr (.inl (by rw [eq2]; rfl))) )
  have m102 : Fx.Own w10 B 71 1 (.slice (some ⟨gq2, 0, none⟩) M.n M.lc) M.n (ptX (updA M.pl o p3)) := m94.congr (fun jq _ => congrFun pt_put jq)
  refine Ln (sN (Ws ?_))
  have m103 : Fx.Own w10 B 71 1 (.slice M.la (M.n) (M.lc)) M.n (ptX (updA M.pl o p3)) := m102.congV (congrArg (fun q => Value.slice q M.n M.lc) eq2.symm)
  -- region 10 draws
  refine Fx.W.reord [0, 1, 2, 3, 4, 5, 6, 7, 8, 9, 10] [0, 0, 0, 0, 1, 4, 2, 2, 0, 0, 3] (Fx.ChT [50]) Fx.ChT.refl Fx.ChT.trans (certs := [(10, 4, [4]), (6, 5, [5]), (7, 5, [6, 5]), (10, 5, [5]), (7, 6, [6]), (8, 6, [6]), (9, 6, [6]), (10, 6, [6]), (8, 7, [7]), (9, 7, [7]), (10, 7, [7])]) (by kernel_rfl) (by kernel_rfl) (by kernel_rfl) (by kernel_rfl) (by kernel_rfl) fun wt3 hbwt3 hzwt3 => ?_
  have s14 : Fx.Stp w10.heap.size w10 wt3 := Sb hbwt3
  have m104 := m95.stp s14 m95.ne
  have m105 := m96.stp s14 (m96.notNew (Nat.le_refl _))
  have m106 := m97.up s14.old
  have m107 := m98.stp s14 m98.ne
  have m108 := m99.stp s14 m99.ne
  have m109 := m100.stp s14 m100.ne
  have m110 := m101.up s14.old
  have m111 := m103.stp s14 (m103.notNew (Nat.le_refl _))
  have b14 := b13.then s14 (.inr b13.size)
  refine Rp ((pt p)) (fun v1 => x_move rfl rfl) (Rp ((pt p)) (fun v1 => x_move rfl rfl) (Rp ((pt p)) (fun v1 => x_nil rfl rfl) (Rp ((pf p 1)) (fun v1 => x_field rfl rfl Try.underlying74 rfl (s := 1) (by kernel_rfl) rfl (by show _ + 1 = _; omega)) (Fx.R.read (v := .slice M.aa (M.an) (M.ac)) (by rfl) (by rfl) (Fx.ChT.refl _) (fun v1 hv1 => x_load1 (x := wdY (.slice M.la (M.n) (M.lc)) (.slice M.aa (M.an) (M.ac))) rfl rfl (by kernel_rfl) (m104.chT hv1 (by decide)).cel (i := 1) (by omega) (by omega) rfl) ?_))))
  refine Fx.R.s (.agg (Fx.varr 14 (evY V))) (x_loadA (x := evY V) (y := evY V) rfl rfl (by kernel_rfl) (by kernel_rfl) m109.cel (i := 0) (by omega) (by omega) (fun j _ => by rw [Nat.zero_add])) ?_
  refine Fx.R.make (by rfl) ?_
  refine Fx.L.bslice (vs := [(0, .agg (Fx.varr 14 (evY V)))]) (s := 14) (zc := fun zq => if zq < 1 then .int .i64 (0) else if zq < 8 then .int .u64 (0) else if zq < 9 then .int .u8 (0) else if zq < 10 then .int .u64 (0) else if zq < 12 then .int .i64 (0) else .int .u64 (0)) (y := Fx.ovr (fun j => (fun zq => if zq < 1 then .int .i64 (0) else if zq < 8 then .int .u64 (0) else if zq < 9 then .int .u8 (0) else if zq < 10 then .int .u64 (0) else if zq < 12 then .int .i64 (0) else .int .u64 (0)) (j % 14)) (0 * 14) 14 (evY V)) (by rfl) rfl rfl Try.underlying46 (by kernel_rfl) (by rfl) (by rfl) (by kernel_rfl) (by rw [Fx.fill_step (off := 0 * 14) (s := 14) (y := evY V) rfl (Fx.cells_agg _ _) (by rfl)]; rfl) rfl fun g4 w11 eg4 m112 s15 z8 => ?_
  have m113 := m104.stp s15 m104.ne
  have m114 := m105.stp s15 (m105.notNew (Nat.le_refl _))
  have m115 := m106.up s15.old
  have m117 := m108.stp s15 m108.ne
  have m118 := m109.stp s15 m109.ne
  have m119 := m110.up s15.old
  have m120 := m111.stp s15 (m111.notNew (Nat.le_refl _))
  have b15 := b14.then s15 (.inr b14.size)
  have lg4 : w.heap.size ≤ g4 := by rw [eg4]; exact b14.size
  have ng4m113 : p ≠ g4 := by rw [eg4]; exact Nat.ne_of_lt (m104.lt)
  have ng4m114 : (.slice M.aa (M.an) (M.ac) : Value).ownBlock ≠ some g4 := by rw [eg4]; exact m105.notNew (Nat.le_refl _)
  have ng4m116 : g1 ≠ g4 := by rw [eg4]; exact Nat.ne_of_lt (m107.lt)
  have ng4m117 : g2 ≠ g4 := by rw [eg4]; exact Nat.ne_of_lt (m108.lt)
  have ng4m118 : g3 ≠ g4 := by rw [eg4]; exact Nat.ne_of_lt (m109.lt)
  have tg4 : g4 < w11.heap.size := m112.lt
  clear eg4
  refine Ln ⟨Fx.ChT.of_below s15.old, ?_⟩
  refine Fx.R.make (by rfl) ?_
  refine Fx.L.app (B := B) (s := 14) (bytes := 112) (k := M.an) (m := 1) (v := .slice M.aa (M.an) (M.ac)) (x := evX M.ev) (by rfl) rfl rfl rfl Try.underlying46 (by kernel_rfl) (by kernel_rfl) rfl rfl m114 m112.cel (ovr_one (fun j => (show (evY V j).oneCell' = true by unfold evY; repeat (first | rfl | split)))) (by omega) (by omega) (by omega) (Nat.le_trans hB b15.size) fun g5 cap1 w12 ho1 hg1 hgv1 hlt1 => ?_
  have hct5 := Fx.ChT.of_grown hg1 m114
  have m122 := m113.chT hct5 (by decide)
  have m123 := m115.chT hct5 (by decide)
  have m125 := m117.grown hg1 ng2m10
  have ng5m125 : g2 ≠ g5 := fun e => hgv1.elim (fun e2 => ng2m10 (by rw [e]; exact e2)) (fun e2 => by have := m117.lt; omega)
  have m126 := m118.grown hg1 ng3m66
  have ng5m126 : g3 ≠ g5 := fun e => hgv1.elim (fun e2 => ng3m66 (by rw [e]; exact e2)) (fun e2 => by have := m118.lt; omega)
  have m127 := m119.chT hct5 (by decide)
  have m128 := m120.chT hct5 (by decide)
  have m121 : Fx.Own w12 B 50 14 (.slice (some ⟨g5, 0, none⟩) (M.an + 1) cap1) (M.an + 1) (evX (updA M.ev M.an V)) := (ho1.congr (fun j hj => ev_app j hj))
  have b16 : Fx.Chg (wdS p M) w w12 := Fx.Chg.grow b15 hg1 (fun q hq => .inl (.inr (.inr hq)))
  refine Ln ⟨hct5, ?_⟩
  refine Rp ((pt p)) (fun v1 => x_nil rfl rfl) (Rp ((pf p 1)) (fun v1 => x_field rfl rfl Try.underlying74 rfl (s := 1) (by kernel_rfl) rfl (by show _ + 1 = _; omega)) (Fx.R.eff (by rfl) ?_))
  refine Fx.L.store1 (x := wdY (.slice M.la (M.n) (M.lc)) (.slice M.aa (M.an) (M.ac))) (u := .slice (some ⟨g5, 0, none⟩) (M.an + 1) (cap1)) (by rfl) rfl rfl rfl rfl (by rfl) (by kernel_rfl) m122 (i := 1) (by omega) fun w13 m129 s16 z9 => ?_
  have m130 : Fx.Blk w13 p 2 (wdY (.slice M.la (M.n) (M.lc)) (.slice (some ⟨g5, 0, none⟩) (M.an + 1) (cap1))) 74 := m129.congr (wdY_1 _ _ _)
  have hct6 := Fx.ChT.of_stp s16 m122.ty
  have m131 := m123.chT hct6 (by decide)
  have m133 := m125.chT hct6 (by decide)
  have m134 := m126.chT hct6 (by decide)
  have m135 := m127.chT hct6 (by decide)
  have m136 := m128.chT hct6 (by decide)
  have m137 := m121.chT hct6 (by decide)
  have b17 := b16.then s16 (.inl (.inl rfl))
  refine Ln (Fx.R.nil (sN (Ws (Wl (Lv (.agg (Fx.varr 14 (evY V))) (x_loadA (x := evY V) (y := evY V) rfl rfl (by kernel_rfl) (by kernel_rfl) m134.cel (i := 0) (by omega) (by omega) (fun j _ => by rw [Nat.zero_add])) (Fx.L.storeA (x := fun zq => if zq < 1 then .int .i64 (0) else if zq < 8 then .int .u64 (0) else if zq < 9 then .int .u8 (0) else if zq < 10 then .int .u64 (0) else if zq < 12 then .int .i64 (0) else .int .u64 (0)) (y := evY V) (by rfl) rfl rfl rfl rfl (evY_one _) (by kernel_rfl) m133 (i := 0) (by omega) fun w14 m138 s17 z10 => ?_))))))
  have m139 : Fx.Blk w14 g2 14 (evY V) 50 := Fx.ovr_all m138
  have hct7 := Fx.ChT.of_stp s17 m133.ty
  have m140 := m131.chT hct7 (by decide)
  have m142 := m134.stp s17 (by omega)
  have m143 := m135.chT hct7 (by decide)
  have m144 := m136.chT hct7 (by decide)
  have m145 := m137.stpB s17 (by omega)
  have m146 := m130.chT hct7 (by decide)
  have b18 := b17.then s17 (.inr lg2)
  refine Ln (sN (Wr (⟨.agg (Fx.varr 14 (evY V)), rV Try.results18 ⟨_, rfl, Fx.run_loadV m139.cel (by kernel_rfl) (by kernel_rfl)⟩, ?_⟩)))
  have hinv : Inv m3.core (T + 3660) := by rw [hc3]; exact (inv_apply hVs (hW.inv o (by omega))).mono (by omega)
  have eRo : regN V = o := by unfold regN; omega
  have hk3 : m3.s.known = updA (M.ml o).s.known o ((M.ml o).s.known o + 1) := (congrArg LdC.known hc3).trans (by rw [applyC_kn c74, eRo]; rfl)
  exact ⟨V, rfl, hV, { M with pl := updA M.pl o p3, ml := updA M.ml o m3, an := M.an + 1, aa := some ⟨g5, 0, none⟩, ac := cap1, ev := updA M.ev M.an V }, { c := m146, l := m144, a := m145, g := m140.put m143, inv := (fun i hi => by show Inv (updA M.ml o m3 i).core _; unfold updA; split; exact hinv; exact (hW.inv i hi).mono (by omega)), wf := (fun k hk => by have hk2 : k < M.an + 1 := hk; show EvWf (updA M.ev M.an V k); unfold updA; split; exact hV; exact hW.wf k (by omega)), may := (fun k hk => by have hk2 : k < M.an + 1 := hk; show mayE (updA M.ev M.an V k) = true; unfold updA; split; exact apply_may c74; exact hW.may k (by omega)), sm := (fun k hk => by have hk2 : k < M.an + 1 := hk; show EvSm (updA M.ev M.an V k); unfold updA; split; exact hVs; exact hW.sm k (by omega)), cz := hW.cz.event (o := o) (by omega) (apply_ready c74) eRo hVd.2.2 (fun q hq => by show (updA M.ml o m3 q).s.known = _; unfold updA; rw [if_neg hq]) (by show (updA M.ml o m3 o).s.known = _; unfold updA; rw [if_pos rfl]; exact hk3), pB := hpB, n1 := hn1, n6 := hn6 }, (by rw [← eo]; exact ⟨rfl, fun q hq => by show updA M.ml o m3 q = _; unfold updA; rw [if_neg hq], .inr ⟨c19, rfl, rfl, c74, by show (updA M.ml o m3 o).core = _; unfold updA; rw [if_pos rfl]; exact hc3, hVd⟩⟩), Nat.le_refl _, (fun hq => by rw [c19] at hq; cases hq), b18, SepW.app hgv1 b15.size⟩
 refine Lv (.bool true) (Fx.x_neqT rfl rfl rfl c74) (Ln (sN (Wc (b := true) rfl (fun _ => Ws (Wl (Lv (.agg (Fx.varr 14 (fun zq => if zq < 1 then .int .i64 (0) else if zq < 8 then .int .u64 (0) else if zq < 9 then .int .u8 (0) else if zq < 10 then .int .u64 (0) else if zq < 12 then .int .i64 (0) else .int .u64 (0)))) (x_build (vs := []) (places := #[(0, 1), (1, 1), (2, 6), (8, 1), (9, 1), (10, 1), (11, 1), (12, 1), (13, 1)]) (m := 14) (x := fun zq => if zq < 1 then .int .i64 (0) else if zq < 8 then .int .u64 (0) else if zq < 9 then .int .u8 (0) else if zq < 10 then .int .u64 (0) else if zq < 12 then .int .i64 (0) else .int .u64 (0)) rfl rfl Try.underlying50 (by kernel_rfl) (by kernel_rfl) (by rfl)) ?_))) (fun h => nomatch h))))
 refine Fx.L.storeA (x := fun zq => if zq < 1 then .int .i64 (0) else if zq < 8 then .int .u64 (0) else if zq < 9 then .int .u8 (0) else if zq < 10 then .int .u64 (0) else if zq < 12 then .int .i64 (0) else .int .u64 (0)) (y := fun zq => if zq < 1 then .int .i64 (0) else if zq < 8 then .int .u64 (0) else if zq < 9 then .int .u8 (0) else if zq < 10 then .int .u64 (0) else if zq < 12 then .int .i64 (0) else .int .u64 (0)) (by rfl) rfl rfl rfl rfl (fun jq _ => by show ((fun zq => if zq < 1 then .int .i64 (0) else if zq < 8 then .int .u64 (0) else if zq < 9 then .int .u8 (0) else if zq < 10 then .int .u64 (0) else if zq < 12 then .int .i64 (0) else .int .u64 (0) : Nat → Value) jq).oneCell' = true; simp only []; repeat (first | rfl | split)) (by kernel_rfl) m91 (i := 0) (by omega) fun w15 m147 s18 z11 => ?_
 have m148 : Fx.Blk w15 g2 14 (fun zq => if zq < 1 then .int .i64 (0) else if zq < 8 then .int .u64 (0) else if zq < 9 then .int .u8 (0) else if zq < 10 then .int .u64 (0) else if zq < 12 then .int .i64 (0) else .int .u64 (0)) 50 := Fx.ovr_all m147
 have hct8 := Fx.ChT.of_stp s18 m91.ty
 have m149 := m87.chT hct8 (by decide)
 have m150 := m88.stp s18 ng2m10
 have m151 := m89.chT hct8 (by decide)
 have m153 := m92.stp s18 (by omega)
 have m154 := m93.chT hct8 (by decide)
 have b19 := b12.then s18 (.inr lg2)
 refine Ln (sN (Wr (sR (⟨.agg (Fx.varr 14 (fun zq => if zq < 1 then .int .i64 (0) else if zq < 8 then .int .u64 (0) else if zq < 9 then .int .u8 (0) else if zq < 10 then .int .u64 (0) else if zq < 12 then .int .i64 (0) else .int .u64 (0))), rV Try.results18 ⟨_, rfl, Fx.run_loadV m148.cel (by kernel_rfl) (by kernel_rfl)⟩, ?_⟩))))
 have m156 : Fx.Own w15 B 71 1 (.slice M.la (M.n) (M.lc)) M.n (ptX M.pl) := m154.congV (congrArg (fun q => Value.slice q M.n M.lc) eq2.symm)
 exact ⟨zeroE, congrArg (fun z => Ending.returned (Value.agg z)) (Fx.varr_congr (y := evY zeroE) fun j hj => by rcases j with _|_|_|_|_|_|_|_|_|_|_|_|_|_|j <;> first | rfl | omega), zeroE_wf, M, { c := m149, l := m156, a := m150, g := m151, inv := fun i hi => (hW.inv i hi).mono (by omega), wf := hW.wf, may := hW.may, sm := hW.sm, cz := hW.cz, pB := hpB, n1 := hn1, n6 := hn6 }, ⟨rfl, fun _ _ => rfl, .inl ⟨rfl, rfl, rfl, .inl rfl⟩⟩, by omega, (fun _ => rfl), b19, fun _ h => .inl h⟩
theorem l_doM (M : WM) (B p T : Nat) (x : ActM) (w : World) (hW : WldO w B p M T) (hB : B ≤ w.heap.size) (hx : ActOk x) (han : M.an ≤ 60) (hT : T ≤ 890000) :
    Calls Try.prog 18 #[(pt p), .agg (Fx.varr 9 (actY x))] w fun e w' => ∃ v, e = .returned (.agg (Fx.varr 14 (evY v))) ∧ EvWf v ∧ ∃ M', WldO w' B p M' (T + 3660) ∧ DoR (x.who % M.n) x M M' v ∧ M'.an ≤ M.an + 1 ∧ (x.meet = true → M'.an = M.an) ∧ Below B w w' :=
  (l_doC M B p T x w hW hB hx han hT).mono fun _ _ ⟨v, h1, h2, M', h3, h4, h5, h6, h7, _⟩ => ⟨v, h1, h2, M', h3, h4, h5, h6, hW.belowS hB h7⟩
end Go.Proofs.Ytleajegppehbdaa
namespace Go.Proofs.Ytleajegppehbdaa
open Go.RowKit
namespace Fx
section
variable {S S' : Nat → Prop}
theorem Chg.trans (w w' w2 : World) (h : Chg S w w') (k : Chg S w' w2) : Chg S w w2 := ⟨k.os.trans h.os, k.tape.trans h.tape, k.output.trans h.output, Nat.le_trans h.size k.size, fun i hi hS => (k.block i (Nat.lt_of_lt_of_le hi h.size) hS).trans (h.block i hi hS)⟩
theorem Chg.mono {w w' : World} (h : Chg S w w') (hS : ∀ k, S k → S' k) : Chg S' w w' := ⟨h.os, h.tape, h.output, h.size, fun i hi hn => h.block i hi fun hs => hn (hS i hs)⟩
theorem Chg.of_stp {g : Nat} {w w' : World} (h : Stp g w w') : Chg (fun k => k = g) w w' := (Chg.refl _ w).then h (.inl rfl)
end
end Fx
end Go.Proofs.Ytleajegppehbdaa
namespace Go.Proofs.Ytleajegppehbdaa
open Go.RowKit Rt
open Fx (x_move x_assign x_field x_load1 x_pickF x_pickT x_nil x_conv x_indexS x_index x_leqF x_loadA x_len x_gtrF x_build x_eqlF x_eqlT Lv sN Ln Ws Qv Wl Rp Wc Qs Wr Sb Lk Wk rC rV sR)
section
theorem l_newWorld2 (n : Nat) (m : Int) (w : World) (hm : m = (n : Int)) (hn1 : 1 ≤ n) (hn6 : n ≤ 6) :
    Calls Try.prog 16 #[.int .i64 m] w fun e w' => ∃ p M, e = .returned (.pointer (some ⟨p, 0, none⟩)) ∧ M.n = n ∧ M.an = 0 ∧ WldO w' w.heap.size p M 0 ∧ Below w.heap.size w w' := by
  subst hm; exact (l_newWorld n w hn1 hn6).mono fun _ _ ⟨p, M, h1, h2, h3, _, h4, h5⟩ => ⟨p, M, h1, h2, h3, h4, h5⟩
theorem Fx.Blk.belowB {w w' : World} {B g n : Nat} {x : Nat → Value} {T : TypeId} (h : Fx.Blk w g n x T) (hb : Below B w w') (hg : g < B) : Fx.Blk w' g n x T := (hb.block g hg).trans h
theorem bchB {B : Nat} {w0 w1 w2 : World} (h : Below w0.heap.size w0 w1) (hb : Below B w1 w2) (hB : w0.heap.size ≤ B) : Below w0.heap.size w0 w2 := h.trans (hb.mono hB)
namespace Rt
structure LTw (m : LgM) (r : RlM) (G : List ItM) : Prop where
  g : Gs m G
  R : r.R = G.map ItM.e
  K : r.K = m.K
def r0 : RlM := ⟨none, 0, [], fun _ => 0⟩
theorem LTw.new : LTw newL r0 [] := ⟨Gs.new, rfl, rfl⟩
section
variable {m m' : LgM} {r r' : RlM} {G : List ItM} {v : EvM} {V : Nat → Int}
theorem LTw.add (h : LTw m r G) (ha : addG m v = 0) (hr : AddR m m' v) (hv : EvWf v) (h1 : r'.R = r.R ++ [v]) (h2 : r'.K = upd r.K (regN v) v.seq) : LTw m' r' (G ++ [⟨v, m.cnt⟩]) :=
  ⟨h.g.add ha hr hv, by rw [h1, h.R, List.map_append]; rfl, by rw [h2, hr.1, h.K]⟩
theorem RlO.chg {w w' : World} {B q T : Nat} {S : Nat → Prop} (h : RlO w B q r T) (hs : Fx.Chg S w w') (ne : ∀ k, rlS q r k → ¬ S k) : RlO w' B q r T := { h with blk := h.blk.chg hs (ne q (.inl rfl)), own := h.own.chg hs fun g hg => ne g (.inr hg) }
theorem keep_map (V : Nat → Int) (G : List ItM) : (G.filter (keepB V)).map ItM.e = (G.map ItM.e).filter (keepE V) := by
  rw [List.filter_map]; rfl
theorem LTw.prune (h : LTw m r G) (hp : PruneR m m' V) (h1 : r'.R = r.R.filter (keepE V)) (h2 : r'.K = r.K) : LTw m' r' (G.filter (keepB V)) :=
  ⟨h.g.prune hp, by rw [h1, h.R, keep_map], by rw [h2, hp.K, h.K]⟩
theorem LTw.gone (h : LTw m r G) : ((goneN m V 6 : Nat) : Int) = (r.R.length : Int) - ((r.R.filter (keepE V)).length : Int) := by
  rw [h.g.gone, h.R, ← keep_map, List.length_map, List.length_map]
  have := List.length_filter_le (keepB V) G
  omega
theorem LTw.len (h : LTw m r G) : ((lenN m 6 : Nat) : Int) = ((r.R.length : Nat) : Int) := by rw [h.g.len, h.R, List.length_map]
theorem LTw.get (h : LTw m r G) {i q : Int} {v v' : EvM} {b b' : Bool} (hg : GetR m i q v b) (hr : RGetR r.R i q v' b') : v = v' ∧ b = b' := by
  rcases h.g.get hg with ⟨rfl, x, hx, rfl, h1, h2⟩ | ⟨rfl, rfl, h3⟩ <;> rcases hr with ⟨rfl, hv, h4, h5⟩ | ⟨rfl, rfl, h6⟩
  · refine ⟨?_, rfl⟩
    rw [h.R] at hv
    obtain ⟨y, hy, rfl⟩ := List.mem_map.1 hv
    rw [h.g.uniq hx hy (h1.trans h4.symm) (h2.trans h5.symm)]
  · exact absurd ⟨h1, h2⟩ (h6 x.e (by rw [h.R]; exact List.mem_map_of_mem hx))
  · rw [h.R] at hv
    obtain ⟨y, hy, rfl⟩ := List.mem_map.1 hv
    exact absurd ⟨h4, h5⟩ (h3 y hy)
  exact ⟨rfl, rfl⟩
theorem LTw.addE (h : LTw m r G) : addK r.K v = addG m v := by rw [addG_K, h.K]
def sinR (r : RlM) (V : Nat → Int) (most : Int) : List EvM := (r.R.filter (keepE V)).take most.toNat
theorem take_get {l : List ItM} {n k : Nat} (h : k < n) (hn : n ≤ l.length) : (l.getD k it0).e = ((l.map ItM.e).take n).getD k zeroE := by
  rw [List.getD_eq_getElem?_getD, List.getD_eq_getElem?_getD, List.getElem?_take, if_pos h, List.getElem?_map, List.getElem?_eq_getElem (by omega)]; rfl
end
end Rt
open Rt
theorem t_since (V : Nat → Int) (most : Int) {m : LgM} {B p T : Nat} {w : World} {r : RlM} {G : List ItM} (h : LgO w B p m T) (hT : T ≤ 100000) (tw : LTw m r G) :
    Calls Try.prog 29 #[.pointer (some ⟨p, 0, none⟩), .agg (Fx.varr 6 (Fx.rv .u64 V)), .int .i64 (most)] w fun e w' => ∃ a c, e = .returned (.slice a (sinR r V most).length c) ∧ Fx.Own w' w.heap.size 50 14 (.slice a (sinR r V most).length c) (sinR r V most).length (evL (sinR r V most)) ∧ Below w.heap.size w w' :=
  (o_since V most m B p T w h hT tw.g.seqUp).mono fun e w' ⟨a, n, c, l, he, ho, hs, hb⟩ => by
    obtain ⟨e1, e2⟩ := tw.g.since hs
    have e3 : n = (sinR r V most).length := by unfold sinR; rw [e2, tw.R, ← keep_map, List.length_take, List.length_map]
    have e4 : n ≤ (G.filter (keepB V)).length := by rw [e2]; exact Nat.min_le_right _ _
    have e5 : sinR r V most = ((G.filter (keepB V)).map ItM.e).take most.toNat := by unfold sinR; rw [tw.R, ← keep_map]
    rw [← e3]
    refine ⟨a, c, he, ho.congr (Fx.flat_cong fun k hk j hj => ?_), hb⟩
    have e6 : (l.getD k it0).e = (sinR r V most).getD k zeroE := by
      rw [e1, take_get hk e4, e5, List.getD_eq_getElem?_getD, List.getD_eq_getElem?_getD, List.getElem?_take, List.getElem?_take, if_pos hk, if_pos (by omega)]
    exact congrArg (fun z => evY z j) e6
end
section
set_option linter.unusedVariables false
namespace Rt
def bump (K : Nat → Int) (r : Nat) : Nat → Int := updA K r (K r + 1)
def Chain : (Nat → Int) → List EvM → Prop
  | _, [] => True
  | K, e :: l => readyE K e = true ∧ Chain (bump K (regN e)) l
def endK : (Nat → Int) → List EvM → (Nat → Int)
  | K, [] => K
  | K, e :: l => endK (bump K (regN e)) l
def mnK (K u : Nat → Int) : Nat → Int := fun j => if K j ≤ u j then K j else u j
def mxK (K u : Nat → Int) : Nat → Int := fun j => if u j ≤ K j then K j else u j
def inU (u : Nat → Int) (e : EvM) : Bool := decide (e.seq ≤ u (regN e))
def tr6 (K : Nat → Int) : Nat → Int := fun j => if j < 6 then K j else 0
def evs (ev : Nat → EvM) (n : Nat) : List EvM := (List.range n).map ev
section
variable {K K' u : Nat → Int} {e : EvM} {l A : List EvM} {t : Nat}
theorem bump_ge (r j : Nat) : K j ≤ bump K r j := by unfold bump updA; split <;> (try subst_vars) <;> omega
theorem bump_at (r : Nat) : bump K r r = K r + 1 := by unfold bump updA; rw [if_pos rfl]
theorem bump_ne {r j : Nat} (h : j ≠ r) : bump K r j = K j := by unfold bump updA; rw [if_neg h]
theorem endK_ge : ∀ (l : List EvM) (K : Nat → Int) (j : Nat), K j ≤ endK K l j
  | [], _, _ => Int.le_refl _
  | e :: l, K, j => Int.le_trans (bump_ge (regN e) j) (endK_ge l _ j)
theorem endK_snoc : ∀ (l : List EvM) (K : Nat → Int) (e : EvM), endK K (l ++ [e]) = bump (endK K l) (regN e)
  | [], _, _ => rfl
  | x :: l, K, e => endK_snoc l (bump K (regN x)) e
theorem endK_app : ∀ (l l2 : List EvM) (K : Nat → Int), endK K (l ++ l2) = endK (endK K l) l2
  | [], _, _ => rfl
  | x :: l, l2, K => endK_app l l2 (bump K (regN x))
theorem Chain.snoc : ∀ (l : List EvM) (K : Nat → Int) (e : EvM), Chain K l → readyE (endK K l) e = true → Chain K (l ++ [e])
  | [], _, _, _, h => ⟨h, trivial⟩
  | x :: l, K, e, h, h2 => ⟨h.1, Chain.snoc l (bump K (regN x)) e h.2 h2⟩
theorem Chain.app : ∀ (l l2 : List EvM) (K : Nat → Int), Chain K l → Chain (endK K l) l2 → Chain K (l ++ l2)
  | [], _, _, _, h => h
  | x :: l, l2, K, h, h2 => ⟨h.1, Chain.app l l2 (bump K (regN x)) h.2 h2⟩
theorem Chain.take : ∀ (l : List EvM) (K : Nat → Int) (t : Nat), Chain K l → Chain K (l.take t)
  | [], _, t, _ => by rw [List.take_nil]; trivial
  | x :: l, K, 0, _ => trivial
  | x :: l, K, t + 1, h => ⟨h.1, Chain.take l _ t h.2⟩
theorem Chain.gt : ∀ (l : List EvM) (K : Nat → Int), Chain K l → ∀ x ∈ l, K (regN x) < x.seq
  | [], _, _, _, h => by cases h
  | e :: l, K, h, x, hx => by
    rcases List.mem_cons.1 hx with rfl | hx
    · have := (rdy h.1).2.1; omega
    · exact Int.lt_of_le_of_lt (bump_ge (regN e) (regN x)) (Chain.gt l _ h.2 x hx)
theorem Chain.get : ∀ (l : List EvM) (K : Nat → Int) (t : Nat), Chain K l → t < l.length → readyE (endK K (l.take t)) (l.getD t zeroE) = true
  | [], _, _, _, h => absurd h (Nat.not_lt_zero _)
  | e :: l, K, 0, h, _ => h.1
  | e :: l, K, t + 1, h, ht => Chain.get l _ t h.2 (Nat.lt_of_succ_lt_succ ht)
theorem Chain.drop : ∀ (l : List EvM) (K : Nat → Int) (t : Nat), Chain K l → l.filter (keepE (endK K (l.take t))) = l.drop t
  | [], _, t, _ => by rw [List.drop_nil]; rfl
  | e :: l, K, 0, h => List.filter_eq_self.2 fun x hx => decide_eq_true (Chain.gt (e :: l) K h x hx)
  | e :: l, K, t + 1, h => by
    show (e :: l).filter (keepE (endK (bump K (regN e)) (l.take t))) = l.drop t
    rw [List.filter_cons, if_neg, Chain.drop l _ t h.2]
    have h1 := (rdy h.1).2.1
    have h2 := endK_ge (l.take t) (bump K (regN e)) (regN e)
    rw [bump_at] at h2
    unfold keepE
    rw [decide_eq_true_eq]
    omega
theorem mx_bump {r : Nat} (h : u r ≤ K r) : mxK (bump K r) u = bump (mxK K u) r := by
  funext j
  by_cases e : j = r
  · subst e; unfold mxK; rw [bump_at, bump_at, if_pos (by omega), if_pos h]
  unfold mxK; rw [bump_ne e, bump_ne e]
theorem mx_low {r : Nat} (h : K r + 1 ≤ u r) : mxK (bump K r) u = mxK K u := by
  funext j
  by_cases e : j = r
  · subst e; unfold mxK; rw [bump_at, if_neg (c := u j ≤ K j) (by omega)]; split <;> omega
  unfold mxK; rw [bump_ne e]
theorem mn_bump {r : Nat} (h : K r + 1 ≤ u r) : mnK (bump K r) u = bump (mnK K u) r := by
  funext j
  by_cases e : j = r
  · subst e; unfold mnK; rw [bump_at, bump_at, if_pos h, if_pos (by omega)]
  unfold mnK; rw [bump_ne e, bump_ne e]
theorem mn_high {r : Nat} (h : u r ≤ K r) : mnK (bump K r) u = mnK K u := by
  funext j
  by_cases e : j = r
  · subst e; unfold mnK; rw [bump_at, if_neg (by omega)]; split <;> omega
  unfold mnK; rw [bump_ne e]
theorem Chain.high : ∀ (l : List EvM) (K : Nat → Int), Chain K l → Chain (mxK K u) (l.filter (keepE u)) ∧ endK (mxK K u) (l.filter (keepE u)) = mxK (endK K l) u
  | [], _, _ => ⟨trivial, rfl⟩
  | e :: l, K, h => by
    obtain ⟨r1, r2, r3⟩ := rdy h.1
    obtain ⟨i1, i2⟩ := Chain.high l (bump K (regN e)) h.2
    rw [List.filter_cons]
    by_cases c : u (regN e) < e.seq
    · rw [if_pos (show keepE u e = true from decide_eq_true c)]
      rw [mx_bump (by omega)] at i1 i2
      refine ⟨⟨rdy_mk r1 ?_ fun i hi => ?_, i1⟩, i2⟩
      · unfold mxK; rw [if_pos (by omega)]; exact r2
      · have := r3 i hi; unfold mxK; split <;> omega
    · rw [if_neg (by unfold keepE; rw [decide_eq_true_eq]; exact c)]
      rw [mx_low (by omega)] at i1 i2
      exact ⟨i1, i2⟩
theorem readyE_late (h : readyE K e = true) : lateE K e = false := by
  have h1 := (rdy h).2.1
  show (mayE e && decide (e.seq ≤ K (regN e))) = false
  rw [decide_eq_false (by omega), Bool.and_false]
theorem addG_rdy {m : LgM} (h : readyE m.K e = true) : addG m e = 0 := by
  have h1 := (rdy h).1
  unfold addG
  rw [if_neg (by rw [h1]; decide), if_neg (by rw [readyE_late h]; decide), if_neg (by rw [h]; decide)]
theorem evs_s (ev : Nat → EvM) (n : Nat) : evs ev (n + 1) = evs ev n ++ [ev n] := by unfold evs; rw [List.range_succ, List.map_append]; rfl
theorem evs_len (ev : Nat → EvM) (n : Nat) : (evs ev n).length = n := by unfold evs; rw [List.length_map, List.length_range]
theorem cnt_bump (ev : Nat → EvM) (i : Nat) : bump (cntE ev i) (regN (ev i)) = cntE ev (i + 1) := by
  funext j
  show _ = cntE ev i j + if regN (ev i) = j then 1 else 0
  by_cases e : j = regN (ev i)
  · subst e; rw [bump_at, if_pos rfl]
  rw [bump_ne e, if_neg (fun h => e h.symm), Int.add_zero]
end
def LgE (m : LgM) (E : List EvM) : Prop := ∃ G, Gs m G ∧ G.map ItM.e = E
section
variable {m m' : LgM} {E : List EvM} {v : EvM} {V : Nat → Int}
theorem LgE.new : LgE newL [] := ⟨[], Gs.new, rfl⟩
theorem LgE.add (h : LgE m E) (ha : addG m v = 0) (hr : AddR m m' v) (hv : EvWf v) : LgE m' (E ++ [v]) ∧ m'.K = bump m.K (regN v) := by
  obtain ⟨G, h1, rfl⟩ := h
  refine ⟨⟨_, h1.add ha hr hv, by rw [List.map_append]; rfl⟩, ?_⟩
  rw [hr.1, (ready_seq (addG_ok ha).2).1]; rfl
theorem LgE.up (h : LgE m E) : ∀ i, i < 6 → SeqUp (m.L i) := let ⟨_, h1, _⟩ := h; h1.seqUp
theorem LgE.prune (h : LgE m E) (hp : PruneR m m' V) : LgE m' (E.filter (keepE V)) := by
  obtain ⟨G, h1, rfl⟩ := h
  exact ⟨_, h1.prune hp, keep_map V G⟩
theorem LgE.gone (h : LgE m E) (V : Nat → Int) : ((goneN m V 6 : Nat) : Int) = (E.length : Int) - ((E.filter (keepE V)).length : Int) := by
  obtain ⟨G, h1, rfl⟩ := h
  rw [h1.gone, ← keep_map, List.length_map, List.length_map]
  have := List.length_filter_le (keepB V) G
  omega
theorem LgE.len (h : LgE m E) : ((lenN m 6 : Nat) : Int) = ((E.length : Nat) : Int) := by obtain ⟨G, h1, rfl⟩ := h; rw [h1.len, List.length_map]
theorem LgE.wf (h : LgE m E) : ∀ x ∈ E, EvWf x := by
  obtain ⟨G, h1, rfl⟩ := h
  intro x hx; obtain ⟨y, hy, rfl⟩ := List.mem_map.1 hx; exact h1.wf y hy
end
end Rt
open Rt
theorem e_since (V : Nat → Int) (most : Int) {m : LgM} {B p T : Nat} {w : World} {E X : List EvM} (h : LgO w B p m T) (hT : T ≤ 100000) (hE : LgE m E) (hX : (E.filter (keepE V)).take most.toNat = X) :
    Calls Try.prog 29 #[.pointer (some ⟨p, 0, none⟩), .agg (Fx.varr 6 (Fx.rv .u64 V)), .int .i64 (most)] w fun e w' => ∃ a c, e = .returned (.slice a X.length c) ∧ Fx.Own w' w.heap.size 50 14 (.slice a X.length c) X.length (evL X) ∧ Below w.heap.size w w' := by
  obtain ⟨G, hG, rfl⟩ := hE
  subst hX
  exact t_since V most h hT (r := ⟨none, 0, G.map ItM.e, m.K⟩) ⟨hG, rfl, rfl⟩
theorem e_add {m : LgM} {B p T : Nat} {w : World} {E : List EvM} {v : EvM} (h : LgO w B p m T) (hB : B ≤ w.heap.size) (hT : T ≤ 900000) (hE : LgE m E) (hv : EvWf v) (hr : readyE m.K v = true) :
    Calls Try.prog 19 #[.pointer (some ⟨p, 0, none⟩), .agg (Fx.varr 14 (evY v))] w fun e w' => e = .returned (.int .i64 0) ∧ Fx.Chg (lgS p m) w w' ∧ ∃ m', LgO w' B p m' (T + 1) ∧ LgE m' (E ++ [v]) ∧ m'.K = bump m.K (regN v) ∧ SepS w p m m' :=
  (o_add v m B p T w h hB hT hv).mono fun e w' ⟨h1, h2, h3, _⟩ => by
    have h0 := addG_rdy (m := m) hr
    obtain ⟨m', q1, q2, q3⟩ := h3 h0
    obtain ⟨q4, q5⟩ := hE.add h0 q2 hv
    exact ⟨by rw [h1, h0], h2, m', q1, q4, q5, q3⟩
theorem e_prune (V : Nat → Int) {m : LgM} {B p T : Nat} {w : World} {E : List EvM} (h : LgO w B p m T) (hB : B ≤ w.heap.size) (hT : T ≤ 1000000) (hE : LgE m E) :
    Calls Try.prog 28 #[.pointer (some ⟨p, 0, none⟩), .agg (Fx.varr 6 (Fx.rv .u64 V))] w fun e w' => e = .returned (.int .i64 ((E.length : Int) - ((E.filter (keepE V)).length : Int))) ∧ Fx.Chg (lgS p m) w w' ∧ ∃ m', LgO w' B p m' T ∧ LgE m' (E.filter (keepE V)) ∧ m'.K = m.K ∧ SepS w p m m' :=
  (o_prune V m B p T w h hB hT hE.up).mono fun e w' ⟨h1, h2, m', h3, h4, h5⟩ => ⟨by rw [h1, hE.gone], h2, m', h3, hE.prune h4, h4.K, h5⟩
end
section
namespace Rt
theorem told_u {K v : Nat → Int} {i : Int} (hK : ∀ p, U64r (K p)) (hv : ∀ j, j < 6 → U64r (v j)) : ∀ p, U64r (toldK K i v p) := fun p => by
  unfold toldK
  split
  · unfold Fx.ovrI
    split
    · rename_i h
      show U64r (mx6 (K _) (v _))
      unfold mx6; split
      · exact hv _ (by omega)
      · exact hK _
    · exact hK p
  · exact hK p
theorem u64_zero : U64r 0 := ⟨by decide, by decide⟩
theorem of_u {K : Nat → Int} {i : Int} (hK : ∀ p, U64r (K p)) : ∀ p, U64r (ofV K i p) := fun p => by
  unfold ofV; split
  · exact hK _
  · exact u64_zero
theorem foldS_u {F : Nat → Nat → Int} (h : ∀ i p, U64r (F i p)) (p : Nat) : ∀ n, U64r (foldS mn6 F n p)
  | 0 => h 0 p
  | n + 1 => by
    have h1 := foldS_u h p n; have h2 := h (n + 1) p
    show U64r (mn6 (foldS mn6 F n p) (F (n + 1) p))
    unfold mn6; split <;> assumption
theorem least_u {K X : Nat → Int} (hK : ∀ p, U64r (K p)) (n : Nat) : ∀ p, U64r (leastV K X n p) := fun p => by
  unfold leastV
  cases n with
  | zero => exact ⟨by show (0 : Int) ≤ 0; decide, by show (0 : Int) ≤ _; decide⟩
  | succ n => exact foldS_u (fun i p => of_u hK p) p n
theorem kd_u {x : Nat → Int} (h : ∀ p, U64r (x p)) : Fx.Kd (List.replicate 6 (some .u64)) (Fx.rv .u64 x) := Fx.kd_rv fun i _ => Fx.wfu64 (h i)
theorem arr_its {w : World} {a : Option Addr} {n : Nat} {X : Nat → Int} (h : Fx.Arr w a n 1 (Fx.rv .i64 X)) : Its w a n X := fun h0 => by
  obtain ⟨b, off, e, c⟩ := h h0
  exact ⟨b, off, e, by rw [Nat.mul_one] at c; exact c⟩
def SepRW (q : Nat) (r : RlM) (p : Nat) (M : WM) : Prop := ∀ k, rlS q r k → ¬ wdS p M k
section
variable {w w' : World} {B B2 q p T T2 : Nat} {r r' : RlM} {M M' : WM} {S : Nat → Prop}
theorem SepRW.new (h : ¬ wdS p M q) : SepRW q r0 p M := fun k h1 h2 => h1.elim (fun e => h (e ▸ h2)) (fun e => by cases e)
theorem SepRW.add (h : SepRW q r p M) (hS : SepR w q r r') (hW : WldO w B p M T) : SepRW q r' p M := fun k h1 h2 => by
  rcases hS k h1 with h3 | h3
  · exact h k h3 h2
  · have := (hW.ge k h2).2; omega
end
end Rt
open Rt
theorem g_lacks (K : Nat → Int) (gp : Nat) (n most : Int) {m : LgM} {B p T : Nat} {E X : List EvM} (w : World) (hp : Fx.Blk w gp 36 (Fx.rv .u64 K) 92) (h : LgO w B p m T) (hT : T ≤ 100000) (hE : LgE m E) (hX : (E.filter (keepE (ofV K n))).take most.toNat = X) :
    Calls Try.prog 24 #[(pt gp), .int .i64 (n), (pt p), .int .i64 (most)] w fun e w' => ∃ a c, e = .returned (.slice a X.length c) ∧ Fx.Own w' w.heap.size 50 14 (.slice a X.length c) X.length (evL X) ∧ Below w.heap.size w w' := by
 have lgp := hp.lt
 have lpp := h.blk.lt
 refine Fx.enter Try.func24 rfl (n := 17) rfl (by rfl) ?_
 refine Ws (Wl (Lv (.slice none 0 0) (x_assign rfl rfl) (Ln (sN (Ws (Ws (Wl (Lv ((pt gp)) (x_move rfl rfl) (Lv (.bool false) (Fx.x_eqNil rfl rfl rfl (by kernel_rfl)) (Ln (sN (Wc (b := false) rfl (fun h => nomatch h) (fun _ => Wk (sN (Ws (Wl (Lv ((pt p)) (x_move rfl rfl) (Lv ((pt gp)) (x_move rfl rfl) (Lv (.int .i64 (n)) (x_move rfl rfl) (Fx.L.call (by rfl) (rC (args := [(pt gp), .int .i64 (n)]) rfl rfl Try.func14 rfl rfl) rfl ((g_of K gp n _ hp).mono ?_)))))))))))))))))))))
 rintro e w1 ⟨he, hb1⟩
 refine ⟨.agg (Fx.varr 6 (Fx.rv .u64 (ofV K n))), by rw [he], ?_⟩
 clear he
 have s1 := Sb hb1
 have m2 := h.up s1.old
 have b1 := s1.below (Below.refl w.heap.size w) (Below.refl w.heap.size w).size (Below.refl w.heap.size w).size
 refine Lv (.int .i64 (most)) (x_move rfl rfl) (Fx.L.call (by rfl) (rC (args := [(pt p), .agg (Fx.varr 6 (Fx.rv .u64 (ofV K n))), .int .i64 (most)]) rfl rfl Try.func29 rfl rfl) rfl ((e_since (ofV K n) most (X := X) m2 hT hE hX).mono ?_))
 rintro e9 w2 ⟨a1, c1, he, ho1, hb2⟩
 refine ⟨_, he, ?_⟩
 clear he
 have s2 := Sb hb2
 have b2 := s2.below b1 b1.size b1.size
 refine Lv (.slice a1 (X.length) (c1)) (x_assign rfl rfl) (Ln (sN (Wr (⟨.slice a1 (X.length) (c1), rV Try.results24 (by exact rfl), ?_⟩))))
 exact ⟨_, _, rfl, ho1.mono (by first | exact Nat.le_refl _ | exact b1.size), b2⟩
end
end Go.Proofs.Ytleajegppehbdaa
