/-
  What the proof of the law rests on, part 6: walks of functions, and plain laws; each says its conditions itself.
-/
import Derived.Deep.Slices
import Derived.Lib.SmallJoins
import Derived.ChangeArms
import Derived.Test.YtleajegppehbdaaZF5
namespace Go.Proofs.Ytleajegppehbdaa
open Go.RowKit Rt
open Fx (x_move x_assign x_field x_load1 x_pickF x_pickT x_nil x_conv x_indexS x_index x_leqF x_loadA x_len x_gtrF x_build x_eqlF x_eqlT Lv sN Ln Ws Qv Wl Rp Wc Qs Wr Sb Lk Wk rC rV sR)
section
set_option linter.unusedVariables false
namespace Rt
structure LoU (m : LgM) (ev : Nat → EvM) (c : Nat) (u : Nat → Int) : Prop where
  E : LgE m ((evs ev c).filter (inU u))
  K : m.K = mnK (cntE ev c) u
def nx (c j : Nat) : Nat := if c = j then j + 1 else c
section
variable {m m' : LgM} {ev : Nat → EvM} {an c j : Nat} {u : Nat → Int}
theorem LoU.new (h : ∀ j, 0 ≤ u j) : LoU newL ev 0 u := ⟨LgE.new, by
  show (fun _ => (0 : Int)) = mnK (fun _ => 0) u
  funext j; unfold mnK; have := h j; rw [if_pos this]⟩
theorem LoU.skip (h : LoU m ev c u) (hr : readyE (cntE ev j) (ev j) = true) (hs : ¬ (ev j).seq ≤ u (regN (ev j))) : LoU m ev (nx c j) u := by
  unfold nx
  split
  · rename_i e; subst e
    have h1 := (rdy hr).2.1
    refine ⟨?_, ?_⟩
    · rw [evs_s, List.filter_append, List.filter_cons, if_neg (by unfold inU; rw [decide_eq_true_eq]; exact hs), List.filter_nil, List.append_nil]; exact h.E
    rw [← cnt_bump, mn_high (by omega)]; exact h.K
  exact h
theorem LoU.rdy (h : LoU m ev j u) (hr : readyE (cntE ev j) (ev j) = true) (hcl : ∀ i, i < 6 → (ev j).deps i ≤ u i) (hs : (ev j).seq ≤ u (regN (ev j))) : readyE m.K (ev j) = true := by
  obtain ⟨r1, r2, r3⟩ := Rt.rdy hr
  rw [h.K]
  refine rdy_mk r1 ?_ fun i hi => ?_
  · unfold mnK; rw [if_pos (by omega)]; exact r2
  have h1 := r3 i hi; have h2 := hcl i hi; unfold mnK; split <;> assumption
theorem LoU.add (h : LoU m ev j u) (hr : readyE (cntE ev j) (ev j) = true) (hs : (ev j).seq ≤ u (regN (ev j))) (h1 : LgE m' ((evs ev j).filter (inU u) ++ [ev j])) (h2 : m'.K = bump m.K (regN (ev j))) : LoU m' ev (j + 1) u := by
  have r2 := (Rt.rdy hr).2.1
  refine ⟨?_, ?_⟩
  · rw [evs_s, List.filter_append, List.filter_cons, if_pos (show inU u (ev j) = true from decide_eq_true hs), List.filter_nil]; exact h1
  rw [← cnt_bump, mn_bump (by omega), h2, h.K]
theorem mn_all (h : ∀ j, u j ≤ cntE ev an j) : mnK (cntE ev an) u = u := by
  funext j; unfold mnK; have := h j; split <;> omega
theorem mx_zero (h : ∀ j, 0 ≤ u j) : mxK (fun _ => 0) u = u := by
  funext j; have := h j; show (if u j ≤ (0 : Int) then (0 : Int) else u j) = u j; split <;> omega
structure KnU (ev : Nat → EvM) (an : Nat) (u : Nat → Int) : Prop where
  pos : ∀ j, 0 ≤ u j
  le : ∀ j, u j ≤ cntE ev an j
  cl : ∀ k, k < an → (ev k).seq ≤ u (regN (ev k)) → ∀ i, i < 6 → (ev k).deps i ≤ u i
theorem tr6_lt {K : Nat → Int} {j : Nat} (h : j < 6) : tr6 K j = K j := if_pos h
theorem KnU.of {n : Nat} {kn : Nat → Nat → Int} (h : Cz n an ev kn) {o : Nat} (ho : o < n) (hk : KnOk (kn o)) : KnU ev an (tr6 (kn o)) := by
  refine ⟨fun j => ?_, fun j => ?_, fun k hk2 hs i hi => ?_⟩
  · unfold tr6; split
    · rename_i hj; exact (hk j hj).1
    exact Int.le_refl _
  · unfold tr6; split
    · rename_i hj; exact (h.kc o ho).le j hj
    exact cnt_nonneg _ _
  have h6 : regN (ev k) < 6 := (regN_may (Rt.rdy (h.rd k hk2)).1).1
  rw [tr6_lt h6] at hs
  rw [tr6_lt hi]
  exact (h.kc o ho).cl k hk2 hs i hi
end
end Rt
open Rt
end
section
namespace Rt
def SepL (p : Nat) (m : LgM) (q : Nat) (n : LgM) : Prop := ∀ k, lgS p m k → ¬ lgS q n k
section
variable {w w' : World} {B p q T T' : Nat} {m n n' : LgM}
theorem SepL.symm (h : SepL p m q n) : SepL q n p m := fun k h1 h2 => h k h2 h1
theorem SepL.step (h : SepL p m q n) (hS : SepS w q n n') (hp : LgO w B p m T) : SepL p m q n' := fun k h1 h2 => by
  rcases hS k h2 with h3 | h3
  · exact h k h1 h3
  · have := (hp.ge k h1).2; omega
theorem SepL.of_new (ha : LgO w B p m T) (hb : LgO w' w.heap.size q n T') : SepL p m q n := fun k h1 h2 => by
  have := (ha.ge k h1).2; have := (hb.ge k h2).1; omega
theorem getD_drop {A X : List EvM} {t n i : Nat} (e : X = (A.drop t).take n) (hi : i < X.length) : X.getD i zeroE = A.getD (t + i) zeroE := by
  subst e
  have h1 : i < n := by rw [List.length_take] at hi; omega
  rw [List.getD_eq_getElem?_getD, List.getD_eq_getElem?_getD, List.getElem?_take, if_pos h1, List.getElem?_drop]
end
end Rt
open Rt
theorem e_len {m : LgM} {B p T : Nat} {w : World} {E : List EvM} (h : LgO w B p m T) (hT : T ≤ 1000000) (hE : LgE m E) :
    Calls Try.prog 30 #[.pointer (some ⟨p, 0, none⟩)] w fun e w' => e = .returned (.int .i64 (E.length : Int)) ∧ Below w.heap.size w w' :=
  (o_len m B p T w h hT).mono fun e w' h => ⟨by rw [h.1, hE.len], h.2⟩
end
section
set_option linter.unusedVariables false
namespace Rt
def zK : Nat → Int := fun _ => 0
def sum6 (K : Nat → Int) : Int := K 0 + K 1 + K 2 + K 3 + K 4 + K 5
section
variable {ev : Nat → EvM} {an k i j o t n ρ r : Nat} {E E' F : List EvM} {K u : Nat → Int} {Es : Nat → List EvM}
theorem bump_sum (hr : r < 6) : sum6 (bump K r) = sum6 K + 1 := by
  unfold sum6
  have hc : r = 0 ∨ r = 1 ∨ r = 2 ∨ r = 3 ∨ r = 4 ∨ r = 5 := by omega
  rcases hc with rfl | rfl | rfl | rfl | rfl | rfl <;>
    rw [bump_at, bump_ne (by decide), bump_ne (by decide), bump_ne (by decide), bump_ne (by decide), bump_ne (by decide)] <;> omega
theorem rdy_reg {v : EvM} (h : readyE K v = true) : regN v < 6 := (regN_may (rdy h).1).1
theorem chain_sum : ∀ (l : List EvM) (K : Nat → Int), Chain K l → sum6 (endK K l) = sum6 K + (l.length : Int)
  | [], K, _ => by show sum6 K = sum6 K + ((0 : Nat) : Int); omega
  | e :: l, K, h => by
    have h1 := chain_sum l _ h.2
    rw [bump_sum (rdy_reg h.1)] at h1
    show sum6 (endK (bump K (regN e)) l) = sum6 K + ((l.length + 1 : Nat) : Int)
    omega
theorem cnt_sum (h : ∀ k, k < an → readyE (cntE ev k) (ev k) = true) : ∀ n, n ≤ an → sum6 (cntE ev n) = (n : Int)
  | 0, _ => rfl
  | n + 1, hn => by
    have h1 := cnt_sum h n (by omega)
    rw [← cnt_bump, bump_sum (rdy_reg (h n (by omega))), h1]; omega
theorem endK_pos (E : List EvM) (r : Nat) : 0 ≤ endK zK E r := endK_ge E zK r
structure LSt (ev : Nat → EvM) (an o : Nat) (E : List EvM) : Prop where
  ch : Chain zK E
  kc : KnC ev an (endK zK E)
  own : endK zK E o = cntE ev an o
  mem : ∀ e ∈ E, ∃ q, q < an ∧ e = ev q
theorem LSt.sum (h : LSt ev an o E) : sum6 (endK zK E) = (E.length : Int) := by
  rw [chain_sum E zK h.ch]; show (0 : Int) + 0 + 0 + 0 + 0 + 0 + _ = _; omega
theorem LSt.le (h : LSt ev an o E) (hr : ∀ k, k < an → readyE (cntE ev k) (ev k) = true) : E.length ≤ an := by
  have h1 := h.sum; have h2 := cnt_sum hr an (Nat.le_refl _)
  have a0 := h.kc.le 0 (by decide); have a1 := h.kc.le 1 (by decide); have a2 := h.kc.le 2 (by decide); have a3 := h.kc.le 3 (by decide); have a4 := h.kc.le 4 (by decide); have a5 := h.kc.le 5 (by decide)
  unfold sum6 at h1 h2; omega
theorem LSt.full (h : LSt ev an o E) (hr : ∀ k, k < an → readyE (cntE ev k) (ev k) = true) (hl : an ≤ E.length) : ∀ r, r < 6 → endK zK E r = cntE ev an r := fun r hr6 => by
  have h1 := h.sum; have h2 := cnt_sum hr an (Nat.le_refl _)
  have a0 := h.kc.le 0 (by decide); have a1 := h.kc.le 1 (by decide); have a2 := h.kc.le 2 (by decide); have a3 := h.kc.le 3 (by decide); have a4 := h.kc.le 4 (by decide); have a5 := h.kc.le 5 (by decide)
  unfold sum6 at h1 h2
  have hc : r = 0 ∨ r = 1 ∨ r = 2 ∨ r = 3 ∨ r = 4 ∨ r = 5 := by omega
  rcases hc with rfl | rfl | rfl | rfl | rfl | rfl <;> omega
theorem LSt.fullN (h : LSt ev an o E) (hr : ∀ k, k < an → readyE (cntE ev k) (ev k) = true) (hK : ∀ r, r < 6 → endK zK E r = cntE ev an r) : an ≤ E.length := by
  have h1 := h.sum; have h2 := cnt_sum hr an (Nat.le_refl _)
  have a0 := hK 0 (by decide); have a1 := hK 1 (by decide); have a2 := hK 2 (by decide); have a3 := hK 3 (by decide); have a4 := hK 4 (by decide); have a5 := hK 5 (by decide)
  unfold sum6 at h1 h2; omega
theorem kc_chain {kn : Nat → Nat → Int} (hz : Cz n an ev kn) : ∀ (l : List EvM) (K : Nat → Int), KnC ev an K → Chain K l → (∀ e ∈ l, ∃ q, q < an ∧ e = ev q) → KnC ev an (endK K l)
  | [], _, h, _, _ => h
  | e :: l, K, h, hc, hm => by
    obtain ⟨q, hq, rfl⟩ := hm e List.mem_cons_self
    exact kc_chain hz l _ (hz.step h hq hc.1) hc.2 fun x hx => hm x (List.mem_cons_of_mem _ hx)
def lack (E E' : List EvM) : List EvM := E.filter (keepE (endK zK E'))
theorem lack_chain {i j : Nat} (h : LSt ev an i E) : Chain (endK zK E') (lack E E') ∧ endK (endK zK E') (lack E E') = mxK (endK zK E) (endK zK E') := by
  have h1 := Chain.high (u := endK zK E') E zK h.ch
  rw [show mxK zK (endK zK E') = endK zK E' from mx_zero fun r => endK_pos E' r] at h1
  exact h1
theorem lack_none (h : LSt ev an i E) (he : lack E E' = []) : ∀ r, endK zK E r ≤ endK zK E' r := fun r => by
  have h1 := (lack_chain (E' := E') (i := i) (j := 0) h).2
  rw [he] at h1
  have h2 : endK zK E' r = mxK (endK zK E) (endK zK E') r := congrFun h1 r
  unfold mxK at h2
  split at h2 <;> omega
theorem lack_mem (h : LSt ev an i E) : ∀ e ∈ lack E E', ∃ q, q < an ∧ e = ev q := fun e he => h.mem e (List.mem_filter.1 he).1
theorem LSt.grow {kn : Nat → Nat → Int} (hz : Cz n an ev kn) (ho : o < 6) (h : LSt ev an i E) (h' : LSt ev an o E') (t : Nat) : LSt ev an o (E' ++ (lack E E').take t) := by
  have hc := Chain.take _ _ t (lack_chain (E' := E') (j := 0) h).1
  have hm : ∀ e ∈ (lack E E').take t, ∃ q, q < an ∧ e = ev q := fun e he => lack_mem h e (List.mem_of_mem_take he)
  have hk : KnC ev an (endK zK (E' ++ (lack E E').take t)) := by rw [endK_app]; exact kc_chain hz _ _ h'.kc hc hm
  refine ⟨Chain.app _ _ _ h'.ch hc, hk, ?_, fun e he => ?_⟩
  · have h1 := hk.le o ho
    have h2 := endK_ge ((lack E E').take t) (endK zK E') o
    rw [endK_app] at h1 ⊢
    have := h'.own
    omega
  rcases List.mem_append.1 he with h1 | h1
  · exact h'.mem e h1
  exact hm e h1
theorem lack_rdy (h : LSt ev an i E) (ht : t < (lack E E').length) : readyE (endK zK (E' ++ (lack E E').take t)) ((lack E E').getD t zeroE) = true := by
  rw [endK_app]; exact Chain.get _ _ _ (lack_chain (j := 0) h).1 ht
structure Spr (ev : Nat → EvM) (an k : Nat) (Es : Nat → List EvM) (P : Nat → Nat → Int) : Prop where
  ls : ∀ i, i < k → LSt ev an i (Es i)
  pk : ∀ i, i < k → ∀ j, j < k → ∀ r, r < 6 → P i (6 * j + r) ≤ endK zK (Es j) r
  pu : ∀ i p, U64r (P i p)
def Prog0 (an k ρ : Nat) (Es : Nat → List EvM) : Prop := ∀ q, q < k → ρ ≤ (Es q).length ∨ an ≤ (Es q).length
def Prog (ev : Nat → EvM) (an k ρ i j : Nat) (Es : Nat → List EvM) : Prop := ∀ q, q < k → (ρ ≤ (Es q).length ∨ an ≤ (Es q).length) ∧ (ρ + 1 ≤ (Es q).length ∨ ∀ r, r < k → (r < i ∨ (r = i ∧ q < j)) → endK zK (Es q) r = cntE ev an r)
theorem Prog.start (h : Prog0 an k ρ Es) : Prog ev an k ρ 0 0 Es := fun q hq => ⟨h q hq, .inr fun r _ h1 => by omega⟩
theorem Prog.next (h : Prog ev an k ρ i k Es) : Prog ev an k ρ (i + 1) 0 Es := fun q hq => ⟨(h q hq).1, (h q hq).2.imp id fun h1 r hr h2 => h1 r hr (by omega)⟩
theorem cnt_none (hz : ∀ q, q < an → regN (ev q) < k) (hr : k ≤ r) : ∀ n, n ≤ an → cntE ev n r = 0
  | 0, _ => rfl
  | n + 1, hn => by
    have h1 := cnt_none hz hr n (by omega)
    have h2 := hz n (by omega)
    show cntE ev n r + (if regN (ev n) = r then 1 else 0) = 0
    rw [if_neg (by omega), h1]; rfl
theorem Prog.fin {P : Nat → Nat → Int} (h : Prog ev an k ρ k 0 Es) (hS : Spr ev an k Es P) (hr : ∀ k, k < an → readyE (cntE ev k) (ev k) = true) (hz : ∀ q, q < an → regN (ev q) < k) : Prog0 an k (ρ + 1) Es := fun q hq => by
  rcases (h q hq).2 with h1 | h1
  · exact .inl h1
  · refine .inr ((hS.ls q hq).fullN hr fun r hr6 => ?_)
    by_cases hk : r < k
    · exact h1 r hk (.inl hk)
    · have h2 := cnt_none hz (Nat.not_lt.1 hk) an (Nat.le_refl _)
      have h3 := (hS.ls q hq).kc.le r hr6
      have h4 := endK_pos (Es q) r
      omega
theorem Prog.self {P : Nat → Nat → Int} (h : Prog ev an k ρ i i Es) (hS : Spr ev an k Es P) (hi : i < k) : Prog ev an k ρ i (i + 1) Es := fun q hq => ⟨(h q hq).1, (h q hq).2.imp id fun h1 r hr h2 => by
  by_cases e : q = i ∧ r = i
  · obtain ⟨rfl, rfl⟩ := e; exact (hS.ls _ hq).own
  · exact h1 r hr (by omega)⟩
theorem Prog.tell {P : Nat → Nat → Int} (h : Prog ev an k ρ i j Es) (hS : Spr ev an k Es P) (hi : i < k) (hj : j < k) (hij : i ≠ j) (hr : ∀ k, k < an → readyE (cntE ev k) (ev k) = true) (hn : 1 ≤ n) (hE : LSt ev an j (Es j ++ (lack (Es i) (Es j)).take n)) (h6 : k ≤ 6) :
    Prog ev an k ρ i (j + 1) (updA Es j (Es j ++ (lack (Es i) (Es j)).take n)) := fun q hq => by
  by_cases e : q = j
  · subst e
    have e1 : updA Es q (Es q ++ (lack (Es i) (Es q)).take n) q = Es q ++ (lack (Es i) (Es q)).take n := by unfold updA; rw [if_pos rfl]
    rw [e1]
    have hl : (Es q ++ (lack (Es i) (Es q)).take n).length = (Es q).length + min n (lack (Es i) (Es q)).length := by rw [List.length_append, List.length_take]
    have hle := hE.le hr
    refine ⟨by have := (h q hq).1; omega, ?_⟩
    by_cases hL : lack (Es i) (Es q) = []
    · rw [hL, List.take_nil, List.append_nil]
      refine (h q hq).2.imp id fun h1 r hr2 h2 => ?_
      by_cases e3 : r = i
      · subst e3
        have h3 := lack_none (hS.ls r hi) hL r
        have h4 := (hS.ls r hi).own
        have h5 := (hS.ls q hq).kc.le r (by omega)
        omega
      · exact h1 r hr2 (by omega)
    · left
      have : 0 < (lack (Es i) (Es q)).length := List.length_pos_iff.2 hL
      have := (h q hq).1
      omega
  · have e1 : updA Es j (Es j ++ (lack (Es i) (Es j)).take n) q = Es q := by unfold updA; rw [if_neg e]
    rw [e1]
    exact ⟨(h q hq).1, (h q hq).2.imp id fun h1 r hr2 h2 => h1 r hr2 (by omega)⟩
theorem Spr.tell {P : Nat → Nat → Int} (hS : Spr ev an k Es P) (hE : LSt ev an j (Es j ++ F)) : Spr ev an k (updA Es j (Es j ++ F)) P := by
  refine ⟨fun i hi => ?_, fun i hi q hq r hr => ?_, hS.pu⟩
  · by_cases e : i = j
    · subst e; unfold updA; rw [if_pos rfl]; exact hE
    unfold updA; rw [if_neg e]; exact hS.ls i hi
  have h1 := hS.pk i hi q hq r hr
  by_cases e : q = j
  · subst e; unfold updA; rw [if_pos rfl, endK_app]; exact Int.le_trans h1 (endK_ge _ _ _)
  unfold updA; rw [if_neg e]; exact h1
theorem Spr.told {P : Nat → Nat → Int} (hS : Spr ev an k Es P) (h6 : k ≤ 6) (hj : j < k) (hu : ∀ r, r < 6 → U64r (endK zK (Es j) r)) : Spr ev an k Es (updA P i (toldK (P i) ((j : Int) + 1) (endK zK (Es j)))) := by
  have hg : regG ((j : Int) + 1) = true := by unfold regG; simp; omega
  refine ⟨hS.ls, fun a ha q hq r hr => ?_, fun a p => ?_⟩
  · have h1 := hS.pk a ha q hq r hr
    by_cases e : a = i
    · subst e
      unfold updA; rw [if_pos rfl]
      unfold toldK; rw [if_pos hg, show ((j : Int) + 1 - 1).toNat = j by omega]
      unfold Fx.ovrI
      by_cases e2 : q = j
      · subst e2
        rw [if_pos (by omega)]
        show mx6 (P a (6 * q + (6 * q + r - 6 * q))) (endK zK (Es q) (6 * q + r - 6 * q)) ≤ _
        rw [show 6 * q + r - 6 * q = r by omega]
        unfold mx6; split <;> omega
      rw [if_neg (by omega)]; exact h1
    unfold updA; rw [if_neg e]; exact h1
  by_cases e : a = i
  · subst e; unfold updA; rw [if_pos rfl]; exact told_u (hS.pu a) hu p
  unfold updA; rw [if_neg e]; exact hS.pu a p
theorem Spr.lacks {P : Nat → Nat → Int} (hS : Spr ev an k Es P) (h6 : k ≤ 6) (hi : i < k) (hj : j < k) (n : Nat) :
    ((Es i).filter (keepE (ofV (updA P i (toldK (P i) ((j : Int) + 1) (endK zK (Es j))) i) ((j : Int) + 1)))).take n = (lack (Es i) (Es j)).take n := by
  have hg : regG ((j : Int) + 1) = true := by unfold regG; simp; omega
  congr 1
  refine List.filter_congr fun x hx => ?_
  obtain ⟨q, hq, e⟩ := (hS.ls i hi).mem x hx
  have hx6 : regN x < 6 := by
    have := Chain.get
    have h1 : ∀ (l : List EvM) (K : Nat → Int), Chain K l → ∀ y ∈ l, regN y < 6 := by
      intro l
      induction l with
      | nil => intro K _ y hy; cases hy
      | cons a l ih =>
        intro K hc y hy
        rcases List.mem_cons.1 hy with rfl | hy
        · exact rdy_reg hc.1
        · exact ih _ hc.2 y hy
    exact h1 _ _ (hS.ls i hi).ch x hx
  have h1 := hS.pk i hi j hj (regN x) hx6
  have e2 : ofV (updA P i (toldK (P i) ((j : Int) + 1) (endK zK (Es j))) i) ((j : Int) + 1) (regN x) = endK zK (Es j) (regN x) := by
    unfold updA; rw [if_pos rfl]
    unfold ofV; rw [if_pos hg, show ((j : Int) + 1 - 1).toNat = j by omega]
    unfold toldK; rw [if_pos hg, show ((j : Int) + 1 - 1).toNat = j by omega]
    show Fx.ovrI _ _ _ _ (6 * j + regN x) = _
    unfold Fx.ovrI
    rw [if_pos (by omega)]
    show mx6 (P i (6 * j + (6 * j + regN x - 6 * j))) (endK zK (Es j) (6 * j + regN x - 6 * j)) = _
    rw [show 6 * j + regN x - 6 * j = regN x by omega]
    unfold mx6; split <;> omega
  unfold keepE
  rw [e2]
theorem low_chain (hr : ∀ k, k < an → readyE (cntE ev k) (ev k) = true) (hk : KnU ev an u) : ∀ n, n ≤ an → Chain zK ((evs ev n).filter (inU u)) ∧ endK zK ((evs ev n).filter (inU u)) = mnK (cntE ev n) u
  | 0, _ => ⟨trivial, by
    show zK = mnK (fun _ => 0) u
    funext j; have := hk.pos j; unfold mnK; rw [if_pos this]; rfl⟩
  | n + 1, hn => by
    obtain ⟨h1, h2⟩ := low_chain hr hk n (by omega)
    obtain ⟨r1, r2, r3⟩ := Rt.rdy (hr n (by omega))
    rw [evs_s, List.filter_append, List.filter_cons]
    by_cases c : (ev n).seq ≤ u (regN (ev n))
    · rw [if_pos (show inU u (ev n) = true from decide_eq_true c), List.filter_nil]
      have hcl := hk.cl n (by omega) c
      refine ⟨Chain.snoc _ _ _ h1 ?_, ?_⟩
      · rw [h2]
        refine rdy_mk r1 ?_ fun i hi => ?_
        · unfold mnK; rw [if_pos (by omega)]; exact r2
        · have h3 := r3 i hi; have h4 := hcl i hi; unfold mnK; split <;> assumption
      · rw [endK_snoc, h2, ← cnt_bump, mn_bump (by omega)]
    · rw [if_neg (by unfold inU; rw [decide_eq_true_eq]; exact c), List.filter_nil, List.append_nil]
      exact ⟨h1, by rw [h2, ← cnt_bump, mn_high (by omega)]⟩
theorem LSt.low {kn : Nat → Nat → Int} (hz : Cz n an ev kn) (ho : o < n) (hk : KnOk (kn o)) (h6 : o < 6) : LSt ev an o ((evs ev an).filter (inU (tr6 (kn o)))) := by
  have hU := KnU.of hz ho hk
  obtain ⟨h1, h2⟩ := low_chain hz.rd hU an (Nat.le_refl _)
  rw [mn_all hU.le] at h2
  refine ⟨h1, ?_, ?_, fun e he => ?_⟩
  · rw [h2]; exact ⟨fun i _ => hU.le i, hU.cl⟩
  · rw [h2, tr6_lt h6]; exact hz.own o ho
  have h3 := (List.mem_filter.1 he).1
  unfold evs at h3
  obtain ⟨q, hq, rfl⟩ := List.mem_map.1 h3
  exact ⟨q, List.mem_range.1 hq, rfl⟩
end
end Rt
end
section
set_option linter.unusedVariables false
namespace Rt
structure LgF (w : World) (B k : Nat) (pl : Nat → Nat) (ml : Nat → LgM) (E : Nat → List EvM) (K : Nat → Nat → Int) (T : Nat → Nat) : Prop where
  a : ∀ i, i < k → LgO w B (pl i) (ml i) (T i)
  e : ∀ i, i < k → LgE (ml i) (E i)
  K : ∀ i, i < k → (ml i).K = K i
  s : ∀ i j, i < k → j < k → i ≠ j → SepL (pl i) (ml i) (pl j) (ml j)
def eK (E : Nat → List EvM) : Nat → Nat → Int := fun q => endK zK (E q)
def eN (E : Nat → List EvM) : Nat → Nat := fun q => (E q).length
def LgQ (w : World) (B k : Nat) (pl : Nat → Nat) (ml : Nat → LgM) (E : Nat → List EvM) : Prop := LgF w B k pl ml E (eK E) (eN E)
section
variable {w w' : World} {B k j p T2 : Nat} {pl : Nat → Nat} {ml : Nat → LgM} {E : Nat → List EvM} {K : Nat → Nat → Int} {T : Nat → Nat} {m' : LgM} {Ts : List TypeId}
theorem LgF.up (h : LgF w B k pl ml E K T) (hb : Below w.heap.size w w') : LgF w' B k pl ml E K T := { h with a := fun i hi => (h.a i hi).up hb }
theorem LgF.chT (h : LgF w B k pl ml E K T) (hs : Fx.ChT Ts w w') (h1 : Ts.contains 106 = false ∧ Ts.contains 100 = false) : LgF w' B k pl ml E K T := { h with a := fun i hi => (h.a i hi).chT hs h1 }
theorem LgQ.up (h : LgQ w B k pl ml E) (hb : Below w.heap.size w w') : LgQ w' B k pl ml E := LgF.up h hb
theorem LgQ.chT (h : LgQ w B k pl ml E) (hs : Fx.ChT Ts w w') (h1 : Ts.contains 106 = false ∧ Ts.contains 100 = false) : LgQ w' B k pl ml E := LgF.chT h hs h1
theorem LgF.put (h : LgF w B k pl ml E K T) (hj : j < k) (hc : Fx.Chg (lgS (pl j) (ml j)) w w') {E2 : List EvM} {K2 : Nat → Int} (hm : LgO w' B (pl j) m' T2) (hE : LgE m' E2) (hK : m'.K = K2) (hS : SepS w (pl j) (ml j) m') :
    LgF w' B k pl (updA ml j m') (updA E j E2) (updA K j K2) (updA T j T2) where
  a := fun i hi => by
    by_cases e : i = j
    · subst e; unfold updA; rw [if_pos rfl, if_pos rfl]; exact hm
    · unfold updA; rw [if_neg e, if_neg e]; exact (h.a i hi).chg hc (h.s i j hi hj e)
  e := fun i hi => by
    by_cases e : i = j
    · subst e; unfold updA; rw [if_pos rfl, if_pos rfl]; exact hE
    · unfold updA; rw [if_neg e, if_neg e]; exact h.e i hi
  K := fun i hi => by
    by_cases e : i = j
    · subst e; unfold updA; rw [if_pos rfl, if_pos rfl]; exact hK
    · unfold updA; rw [if_neg e, if_neg e]; exact h.K i hi
  s := fun i q hi hq hiq => by
    by_cases e : i = j
    · subst e
      have e2 : ¬ q = i := fun x => hiq x.symm
      unfold updA; rw [if_pos rfl, if_neg e2]
      exact (SepL.step (h.s q i hq hj e2) hS (h.a q hq)).symm
    · by_cases e2 : q = j
      · subst e2
        unfold updA; rw [if_neg e, if_pos rfl]
        exact SepL.step (h.s i q hi hj e) hS (h.a i hi)
      · unfold updA; rw [if_neg e, if_neg e2]; exact h.s i q hi hq hiq
theorem updA_id {α : Type} (f : Nat → α) (j : Nat) : updA f j (f j) = f := by
  funext q; show (if q = j then f j else f q) = f q; split
  · rename_i e; rw [e]
  rfl
theorem updA_eK (E : Nat → List EvM) (j : Nat) (E2 : List EvM) : updA (eK E) j (endK zK E2) = eK (updA E j E2) := by
  funext q; show (if q = j then endK zK E2 else endK zK (E q)) = endK zK (if q = j then E2 else E q); split <;> rfl
theorem updA_eN (E : Nat → List EvM) (j : Nat) (E2 : List EvM) : updA (eN E) j E2.length = eN (updA E j E2) := by
  funext q; show (if q = j then E2.length else (E q).length) = (if q = j then E2 else E q).length; split <;> rfl
theorem LgQ.put (h : LgQ w B k pl ml E) (hj : j < k) (hc : Fx.Chg (lgS (pl j) (ml j)) w w') {E2 : List EvM} (hm : LgO w' B (pl j) m' E2.length) (hE : LgE m' E2) (hK : m'.K = endK zK E2) (hS : SepS w (pl j) (ml j) m') : LgQ w' B k pl (updA ml j m') (updA E j E2) := by
  have h1 := LgF.put h hj hc hm hE hK hS
  rw [updA_eK, updA_eN] at h1; exact h1
theorem LgQ.nil : LgQ w B 0 pl ml E := ⟨fun _ h => absurd h (Nat.not_lt_zero _), fun _ h => absurd h (Nat.not_lt_zero _), fun _ h => absurd h (Nat.not_lt_zero _), fun _ _ h => absurd h (Nat.not_lt_zero _)⟩
theorem LgQ.snoc (h : LgQ w B k pl ml E) (hb : Below w.heap.size w w') (hn : LgO w' w.heap.size p newL 0) (hB : B ≤ w.heap.size) (hE : E k = []) : LgQ w' B (k + 1) (updA pl k p) (updA ml k newL) E where
  a := fun i hi => by
    by_cases e : i = k
    · subst e
      unfold updA eN; rw [if_pos rfl, if_pos rfl, hE]; exact hn.weak hB
    · unfold updA; rw [if_neg e, if_neg e]; exact (h.a i (by omega)).up hb
  e := fun i hi => by
    by_cases e : i = k
    · subst e; unfold updA; rw [if_pos rfl, hE]; exact LgE.new
    · unfold updA; rw [if_neg e]; exact h.e i (by omega)
  K := fun i hi => by
    by_cases e : i = k
    · subst e; unfold updA eK; rw [if_pos rfl, hE]; rfl
    · unfold updA; rw [if_neg e]; exact h.K i (by omega)
  s := fun i q hi hq hiq => by
    by_cases e : i = k
    · subst e
      have e2 : ¬ q = i := fun x => hiq x.symm
      unfold updA; rw [if_pos rfl, if_pos rfl, if_neg e2, if_neg e2]
      exact (SepL.of_new (h.a q (by omega)) hn).symm
    · by_cases e2 : q = k
      · subst e2
        unfold updA; rw [if_neg e, if_neg e, if_pos rfl, if_pos rfl]
        exact SepL.of_new (h.a i (by omega)) hn
      · unfold updA; rw [if_neg e, if_neg e, if_neg e2, if_neg e2]; exact h.s i q (by omega) (by omega) hiq
theorem LgQ.cong {E2 : Nat → List EvM} (h : LgQ w B k pl ml E) (e : ∀ i, i < k → E i = E2 i) : LgQ w B k pl ml E2 where
  a := fun i hi => by have := h.a i hi; unfold eN at this ⊢; rw [← e i hi]; exact this
  e := fun i hi => by rw [← e i hi]; exact h.e i hi
  K := fun i hi => by have := h.K i hi; unfold eK at this ⊢; rw [← e i hi]; exact this
  s := h.s
end
structure PrF (w : World) (B k : Nat) (pp : Nat → Nat) (P : Nat → Nat → Int) : Prop where
  a : ∀ i, i < k → Fx.Blk w (pp i) 36 (Fx.rv .u64 (P i)) 92
  g : ∀ i, i < k → B ≤ pp i
  d : ∀ i j, i < k → j < k → pp i = pp j → i = j
section
variable {w w' : World} {B k j p : Nat} {pp : Nat → Nat} {P : Nat → Nat → Int} {K2 : Nat → Int} {Ts : List TypeId}
theorem PrF.up (h : PrF w B k pp P) (hb : Below w.heap.size w w') : PrF w' B k pp P := { h with a := fun i hi => (h.a i hi).stp (Sb hb) (Nat.ne_of_lt (h.a i hi).lt) }
theorem PrF.chT (h : PrF w B k pp P) (hs : Fx.ChT Ts w w') (h1 : Ts.contains 92 = false) : PrF w' B k pp P := { h with a := fun i hi => (h.a i hi).chT hs h1 }
theorem PrF.nil : PrF w B 0 pp P := ⟨fun _ h => absurd h (Nat.not_lt_zero _), fun _ h => absurd h (Nat.not_lt_zero _), fun _ _ h => absurd h (Nat.not_lt_zero _)⟩
theorem PrF.put (h : PrF w B k pp P) (hj : j < k) (hs : Fx.Stp (pp j) w w') (hn : Fx.Blk w' (pp j) 36 (Fx.rv .u64 K2) 92) : PrF w' B k pp (updA P j K2) where
  a := fun i hi => by
    by_cases e : i = j
    · subst e; unfold updA; rw [if_pos rfl]; exact hn
    · unfold updA; rw [if_neg e]; exact (h.a i hi).stp hs fun x => e (h.d i j hi hj x)
  g := h.g
  d := h.d
theorem PrF.snoc (h : PrF w B k pp P) (hb : Below w.heap.size w w') (hn : Fx.Blk w' p 36 (Fx.rv .u64 fun _ => 0) 92) (hp : w.heap.size ≤ p) (hB : B ≤ w.heap.size) (hP : P k = fun _ => 0) : PrF w' B (k + 1) (updA pp k p) P where
  a := fun i hi => by
    by_cases e : i = k
    · subst e; unfold updA; rw [if_pos rfl, hP]; exact hn
    · unfold updA; rw [if_neg e]; exact (h.a i (by omega)).stp (Sb hb) (Nat.ne_of_lt (h.a i (by omega)).lt)
  g := fun i hi => by
    by_cases e : i = k
    · subst e; unfold updA; rw [if_pos rfl]; omega
    · unfold updA; rw [if_neg e]; exact h.g i (by omega)
  d := fun i q hi hq => by
    unfold updA
    intro x
    split at x <;> split at x
    · omega
    · have := (h.a q (by omega)).lt; omega
    · have := (h.a i (by omega)).lt; omega
    · exact h.d i q (by omega) (by omega) x
end
end Rt
open Rt
theorem f_add {w : World} {B k j : Nat} {pl : Nat → Nat} {ml : Nat → LgM} {E : Nat → List EvM} {v : EvM} (h : LgQ w B k pl ml E) (hj : j < k) (hB : B ≤ w.heap.size) (hT : (E j).length ≤ 900000) (hv : EvWf v) (hr : readyE (endK zK (E j)) v = true) :
    Calls Try.prog 19 #[.pointer (some ⟨pl j, 0, none⟩), .agg (Fx.varr 14 (evY v))] w fun e w' => e = .returned (.int .i64 0) ∧ Fx.Chg (lgS (pl j) (ml j)) w w' ∧ ∃ ml', LgQ w' B k pl ml' (updA E j (E j ++ [v])) :=
  (e_add (h.a j hj) hB hT (h.e j hj) hv (by rw [h.K j hj]; exact hr)).mono fun e w' ⟨h1, h2, m', h3, h4, h5, h6⟩ =>
    ⟨h1, h2, _, h.put hj h2 (by rw [List.length_append]; exact h3) h4 (by rw [h5, h.K j hj, endK_snoc]; rfl) h6⟩
theorem f_known {w : World} {B k j : Nat} {pl : Nat → Nat} {ml : Nat → LgM} {E : Nat → List EvM} {K : Nat → Nat → Int} {T : Nat → Nat} (h : LgF w B k pl ml E K T) (hj : j < k) :
    Calls Try.prog 27 #[.pointer (some ⟨pl j, 0, none⟩)] w fun e w' => e = .returned (.agg (Fx.varr 6 (Fx.rv .u64 (K j)))) ∧ Below w.heap.size w w' :=
  (o_known (ml j) B (pl j) (T j) w (h.a j hj)).mono fun e w' ⟨h1, h2⟩ => ⟨by rw [h1, h.K j hj], h2⟩
theorem f_len {w : World} {B k j : Nat} {pl : Nat → Nat} {ml : Nat → LgM} {E : Nat → List EvM} {K : Nat → Nat → Int} {T : Nat → Nat} (h : LgF w B k pl ml E K T) (hj : j < k) (hT : T j ≤ 1000000) :
    Calls Try.prog 30 #[.pointer (some ⟨pl j, 0, none⟩)] w fun e w' => e = .returned (.int .i64 ((E j).length : Int)) ∧ Below w.heap.size w w' := e_len (h.a j hj) hT (h.e j hj)
theorem f_prune (V : Nat → Int) {w : World} {B k j : Nat} {pl : Nat → Nat} {ml : Nat → LgM} {E : Nat → List EvM} {K : Nat → Nat → Int} {T : Nat → Nat} (h : LgF w B k pl ml E K T) (hj : j < k) (hB : B ≤ w.heap.size) (hT : T j ≤ 1000000) (hE : (E j).filter (keepE V) = []) :
    Calls Try.prog 28 #[.pointer (some ⟨pl j, 0, none⟩), .agg (Fx.varr 6 (Fx.rv .u64 V))] w fun e w' => e = .returned (.int .i64 ((E j).length : Int)) ∧ Fx.Chg (lgS (pl j) (ml j)) w w' ∧ ∃ ml', LgF w' B k pl ml' (updA E j []) K T :=
  (e_prune V (h.a j hj) hB hT (h.e j hj)).mono fun e w' ⟨h1, h2, m', h3, h4, h5, h6⟩ => by
    rw [hE] at h1 h4
    have h7 := h.put hj h2 h3 h4 (h5.trans (h.K j hj)) h6
    rw [updA_id, updA_id] at h7
    exact ⟨by rw [h1]; simp, h2, _, h7⟩
theorem f_lacks {w : World} {B k i : Nat} {pl : Nat → Nat} {ml : Nat → LgM} {E : Nat → List EvM} {K : Nat → Nat → Int} {T : Nat → Nat} {Kp : Nat → Int} {gp : Nat} {jj most : Int} {X : List EvM} (hp : Fx.Blk w gp 36 (Fx.rv .u64 Kp) 92) (h : LgF w B k pl ml E K T) (hi : i < k) (hT : T i ≤ 100000) (hX : ((E i).filter (keepE (ofV Kp jj))).take most.toNat = X) :
    Calls Try.prog 24 #[.pointer (some ⟨gp, 0, none⟩), .int .i64 jj, .pointer (some ⟨pl i, 0, none⟩), .int .i64 most] w fun e w' => ∃ a c, e = .returned (.slice a X.length c) ∧ Fx.Own w' w.heap.size 50 14 (.slice a X.length c) X.length (evL X) ∧ Below w.heap.size w w' :=
  g_lacks Kp gp jj most w hp (h.a i hi) hT (h.e i hi) hX
end
section
set_option linter.unusedVariables false
namespace Rt
def eIn (ev : Nat → EvM) (an : Nat) (kn : Nat → Nat → Int) (i j : Nat) : Nat → List EvM := fun q => if q < i then (evs ev an).filter (inU (tr6 (kn q))) else if q = i then (evs ev j).filter (inU (tr6 (kn q))) else []
section
variable {ev : Nat → EvM} {an n i j q k c : Nat} {kn : Nat → Nat → Int} {u : Nat → Int} {w : World} {B : Nat} {pl : Nat → Nat} {ml : Nat → LgM} {E : Nat → List EvM} {P : Nat → Nat → Int} {F X : List EvM}
theorem eIn_0 : eIn ev an kn i 0 i = [] := by
  show (if i < i then (evs ev an).filter (inU (tr6 (kn i))) else if i = i then (evs ev 0).filter (inU (tr6 (kn i))) else []) = []
  rw [if_neg (Nat.lt_irrefl _), if_pos rfl]; rfl
theorem eIn_at : eIn ev an kn i j i = (evs ev j).filter (inU (tr6 (kn i))) := by
  show (if i < i then (evs ev an).filter (inU (tr6 (kn i))) else if i = i then (evs ev j).filter (inU (tr6 (kn i))) else []) = _
  rw [if_neg (Nat.lt_irrefl _), if_pos rfl]
theorem eIn_len : (eIn ev an kn i j i).length ≤ j := by
  rw [eIn_at]; have := List.length_filter_le (inU (tr6 (kn i))) (evs ev j); rw [evs_len] at this; exact this
theorem eIn_lt (h : q < i) : eIn ev an kn i j q = (evs ev an).filter (inU (tr6 (kn q))) := if_pos h
theorem low_rdy (hz : Cz n an ev kn) (ho : i < n) (hk : KnOk (kn i)) (hj : j < an) (h6 : regN (ev j) < 6) (hs : (ev j).seq ≤ kn i (regN (ev j))) : readyE (endK zK (eIn ev an kn i j i)) (ev j) = true := by
  have hU := KnU.of hz ho hk
  have hs2 : (ev j).seq ≤ tr6 (kn i) (regN (ev j)) := by rw [tr6_lt h6]; exact hs
  rw [eIn_at, (low_chain hz.rd hU j (by omega)).2]
  obtain ⟨r1, r2, r3⟩ := Rt.rdy (hz.rd j hj)
  have hcl := hU.cl j hj hs2
  refine rdy_mk r1 ?_ fun i hi => ?_
  · unfold mnK; rw [if_pos (by omega)]; exact r2
  have h3 := r3 i hi; have h4 := hcl i hi; unfold mnK; split <;> assumption
theorem LgQ.eInY (h : LgQ w B (i + 1) pl ml (updA (eIn ev an kn i j) i (eIn ev an kn i j i ++ [ev j]))) (h6 : regN (ev j) < 6) (hs : (ev j).seq ≤ kn i (regN (ev j))) : LgQ w B (i + 1) pl ml (eIn ev an kn i (j + 1)) := LgQ.cong h fun q hq => by
  by_cases e : q = i
  · subst e
    unfold updA; rw [if_pos rfl, eIn_at, eIn_at, evs_s, List.filter_append, List.filter_cons, if_pos (show inU (tr6 (kn q)) (ev j) = true from decide_eq_true (by rw [tr6_lt h6]; exact hs)), List.filter_nil]
  · unfold updA; rw [if_neg e, eIn_lt (by omega), eIn_lt (by omega)]
theorem LgQ.eInN (h : LgQ w B (i + 1) pl ml (eIn ev an kn i j)) (h6 : regN (ev j) < 6) (hs : ¬ (ev j).seq ≤ kn i (regN (ev j))) : LgQ w B (i + 1) pl ml (eIn ev an kn i (j + 1)) := LgQ.cong h fun q hq => by
  by_cases e : q = i
  · subst e
    rw [eIn_at, eIn_at, evs_s, List.filter_append, List.filter_cons, if_neg (by unfold inU; rw [decide_eq_true_eq, tr6_lt h6]; exact hs), List.filter_nil, List.append_nil]
  · rw [eIn_lt (by omega), eIn_lt (by omega)]
theorem LgQ.eInS (h : LgQ w B (i + 1) pl ml (eIn ev an kn i an)) : LgQ w B (i + 1) pl ml (eIn ev an kn (i + 1) 0) := LgQ.cong h fun q hq => by
  rw [eIn_lt (i := i + 1) hq]
  by_cases e : q = i
  · subst e; rw [eIn_at]
  · rw [eIn_lt (by omega)]
theorem Spr.begin (hz : Cz n an ev kn) (hk : ∀ o, o < n → KnOk (kn o)) (h6 : n ≤ 6) (hi : i = n) : Spr ev an n (eIn ev an kn i 0) (fun _ _ => 0) := by
  subst hi
  refine ⟨fun q hq => by rw [eIn_lt hq]; exact LSt.low hz hq (hk q hq) (by omega), fun a ha q hq r hr => endK_pos _ _, fun _ _ => u64_zero⟩
theorem Prog0.begin : Prog0 an k 0 E := fun q _ => .inl (Nat.zero_le _)
theorem cnt_n : ∀ m r, cntE ev m r ≤ (m : Int)
  | 0, _ => Int.le_refl _
  | m + 1, r => by have := cnt_n m r; show cntE ev m r + (if regN (ev m) = r then 1 else 0) ≤ ((m + 1 : Nat) : Int); split <;> omega
theorem Spr.kU (h : Spr ev an k E P) (hj : j < k) (ha : an ≤ 1000) : ∀ r, r < 6 → U64r (endK zK (E j) r) := fun r hr => by
  have h1 := (h.ls j hj).kc.le r hr
  have h2 := cnt_n (ev := ev) an r
  have h3 := endK_pos (E j) r
  unfold U64r; omega
theorem tE_ok (h : j < 6) : tE ((j : Int) + 1) = 0 := by unfold tE; rw [if_pos (by unfold regG; simp; omega)]
theorem getD_take (e : X = F.take n) (hq : q < X.length) : X.getD q zeroE = F.getD q zeroE := by
  have := getD_drop (A := F) (t := 0) (by rw [List.drop_zero]; exact e) hq
  rw [Nat.zero_add] at this; exact this
theorem len_take (e : X = F.take n) : X.length = min n F.length := by rw [e, List.length_take]
theorem take_take' (e : X = F.take n) : F.take X.length = F.take n := by
  rw [e, List.length_take]
  by_cases h : n ≤ F.length
  · rw [Nat.min_eq_left h]
  rw [Nat.min_eq_right (by omega), List.take_length, List.take_of_length_le (by omega)]
theorem updA_at {α : Type} (f : Nat → α) (j : Nat) (x : α) : updA f j x j = x := if_pos rfl
theorem updA_updA {α : Type} (f : Nat → α) (j : Nat) (x y : α) : updA (updA f j x) j y = updA f j y := by
  funext q; show (if q = j then y else if q = j then x else f q) = if q = j then y else f q
  split <;> rfl
theorem tell_up (hq : q < F.length) : updA (updA E j (E j ++ F.take q)) j (updA E j (E j ++ F.take q) j ++ [F.getD q zeroE]) = updA E j (E j ++ F.take (q + 1)) := by
  rw [updA_updA, updA_at, take_next hq, List.append_assoc]
theorem tell_0 : updA E j (E j ++ F.take 0) = E := by rw [List.take_zero, List.append_nil, updA_id]
theorem Spr.all (hS : Spr ev an k E P) (hr : ∀ k, k < an → readyE (cntE ev k) (ev k) = true) (hp : Prog0 an k (an + 1) E ∨ Prog0 an k (an + 2) E) : ∀ q, q < k → (E q).length = an ∧ ∀ r, r < 6 → endK zK (E q) r = cntE ev an r := fun q hq => by
  have h1 := (hS.ls q hq).le hr
  have h2 : an ≤ (E q).length := by
    rcases hp with hp | hp
    · have := hp q hq; omega
    · have := hp q hq; omega
  exact ⟨by omega, (hS.ls q hq).full hr h2⟩
theorem chain_le : ∀ (l : List EvM) (K : Nat → Int), Chain K l → ∀ x ∈ l, x.seq ≤ endK K l (regN x)
  | [], _, _, _, h => by cases h
  | e :: l, K, h, x, hx => by
    rcases List.mem_cons.1 hx with rfl | hx
    · have h1 := (rdy h.1).2.1
      have h2 := endK_ge l (bump K (regN x)) (regN x)
      rw [bump_at] at h2
      show x.seq ≤ endK (bump K (regN x)) l (regN x)
      omega
    · exact chain_le l _ h.2 x hx
theorem Spr.gone (hS : Spr ev an k E P) (hA : ∀ q, q < k → (E q).length = an ∧ ∀ r, r < 6 → endK zK (E q) r = cntE ev an r) (hc : c < k) (h0 : 0 < k) : (E c).filter (keepE (eK E 0)) = [] := by
  rw [List.filter_eq_nil_iff]
  intro x hx
  have h1 := chain_le _ _ (hS.ls c hc).ch x hx
  have h6 : regN x < 6 := by
    obtain ⟨y, hy, e⟩ := (hS.ls c hc).mem x hx
    have h2 : ∀ (l : List EvM) (K : Nat → Int), Chain K l → ∀ y ∈ l, regN y < 6 := by
      intro l
      induction l with
      | nil => intro K _ y hy; cases hy
      | cons a l ih =>
        intro K hc y hy
        rcases List.mem_cons.1 hy with rfl | hy
        · exact rdy_reg hc.1
        · exact ih _ hc.2 y hy
    exact h2 _ _ (hS.ls c hc).ch x hx
  have h2 := (hA c hc).2 _ h6
  have h3 := (hA 0 h0).2 _ h6
  unfold keepE eK
  rw [decide_eq_true_eq, h3, ← h2]
  omega
def eOut (E : Nat → List EvM) (c : Nat) : Nat → List EvM := fun q => if q < c then [] else E q
theorem eOut_0 : eOut E 0 = E := by funext q; exact if_neg (Nat.not_lt_zero _)
theorem eOut_s : updA (eOut E c) c [] = eOut E (c + 1) := by
  funext q
  show (if q = c then [] else if q < c then [] else E q) = if q < c + 1 then [] else E q
  by_cases e : q = c
  · subst e; rw [if_pos rfl, if_pos (by omega)]
  rw [if_neg e]
  by_cases h : q < c
  · rw [if_pos h, if_pos (by omega)]
  rw [if_neg h, if_neg (by omega)]
theorem eOut_at : eOut E c c = E c := if_neg (Nat.lt_irrefl _)
theorem mn6_le (a b : Int) : mn6 a b ≤ a := by unfold mn6; split <;> omega
theorem fold_le {F : Nat → Nat → Int} (p : Nat) : ∀ n, foldS mn6 F n p ≤ F 0 p
  | 0 => Int.le_refl _
  | n + 1 => by
    have := fold_le (F := F) p n
    have h2 : mn6 (foldS mn6 F n p) (F (n + 1) p) ≤ foldS mn6 F n p := mn6_le _ _
    show mn6 (foldS mn6 F n p) (F (n + 1) p) ≤ _
    omega
theorem Spr.least (hS : Spr ev an k E P) (hc : c < k) (h0 : 0 < k) : ∀ r, r < 6 → leastV (P c) (fun q => (q : Int) + 1) k r ≤ eK E 0 r := fun r hr => by
  obtain ⟨m, rfl⟩ : ∃ m, k = m + 1 := ⟨k - 1, by omega⟩
  have h1 := fold_le (F := fun i => ofV (P c) (((i : Nat) : Int) + 1)) r m
  have h2 : ofV (P c) (((0 : Nat) : Int) + 1) r = P c (6 * 0 + r) := by unfold ofV; rw [if_pos (by decide)]; rfl
  have h3 := hS.pk c hc 0 h0 r hr
  show foldS mn6 (fun i => ofV (P c) (((i : Nat) : Int) + 1)) m r ≤ endK zK (E 0) r
  omega
theorem int_app {z : Nat → Value} {n : Nat} : ∀ j, j < (n + 1) * 1 → Fx.appX (Fx.rv .i64 fun q => (q : Int) + 1) (n * 1) (Fx.ovr z (0 * 1) 1 (fun _ => .int .i64 ((n : Int) + 1))) j = Fx.rv .i64 (fun q => (q : Int) + 1) j := fun j hj => by
  unfold Fx.appX
  by_cases h : j < n * 1
  · rw [if_pos h]
  · rw [if_neg h]
    obtain rfl : j = n := by omega
    unfold Fx.ovr
    rw [if_pos (by omega)]; rfl
end
end Rt
open Rt
theorem f_knownQ {w : World} {B k j : Nat} {pl : Nat → Nat} {ml : Nat → LgM} {E : Nat → List EvM} (h : LgQ w B k pl ml E) (hj : j < k) :
    Calls Try.prog 27 #[.pointer (some ⟨pl j, 0, none⟩)] w fun e w' => e = .returned (.agg (Fx.varr 6 (Fx.rv .u64 (endK zK (E j))))) ∧ Below w.heap.size w w' := f_known h hj
theorem f_addP {w : World} {B k j p : Nat} {pl : Nat → Nat} {ml : Nat → LgM} {E : Nat → List EvM} {v : EvM} (hp : pl j = p) (h : LgQ w B k pl ml E) (hj : j < k) (hB : B ≤ w.heap.size) (hT : (E j).length ≤ 900000) (hv : EvWf v) (hr : readyE (endK zK (E j)) v = true) :
    Calls Try.prog 19 #[.pointer (some ⟨p, 0, none⟩), .agg (Fx.varr 14 (evY v))] w fun e w' => e = .returned (.int .i64 0) ∧ Fx.Chg (lgS (pl j) (ml j)) w w' ∧ ∃ ml', LgQ w' B k pl ml' (updA E j (E j ++ [v])) := by
  subst hp; exact f_add h hj hB hT hv hr
end
theorem lessEq_any (x y : Nat → Int) (w : World) (h : ∀ r, r < 6 → x r ≤ y r) :
    Calls Try.prog 34 #[.agg (Fx.varr 6 (Fx.rv .u64 x)), .agg (Fx.varr 6 (Fx.rv .u64 y))] w fun e w' => e = .returned (.bool true) ∧ Below w.heap.size w w' := by
 refine Fx.enter Try.func34 rfl (n := 17) rfl (by rfl) ?_
 refine Ws (Wl (Fx.L.box (m := 6) (y := Fx.rv .u64 x) (by rfl) rfl rfl (Fx.cells_agg _ _) rfl fun g1 w1 eg1 m1 s1 z1 => ?_))
 have b1 := s1.below (Below.refl w.heap.size w) (Below.refl w.heap.size w).size (Below.refl w.heap.size w).size
 have lg1 : w.heap.size ≤ g1 := by rw [eg1]; exact (Below.refl w.heap.size w).size
 have tg1 : g1 < w1.heap.size := m1.lt
 clear eg1
 refine Fx.L.box (m := 6) (y := Fx.rv .u64 y) (by rfl) rfl rfl (Fx.cells_agg _ _) rfl fun g2 w2 eg2 m2 s2 z2 => ?_
 have m3 := m1.stp s2 m1.ne
 have b2 := s2.below b1 b1.size b1.size
 have lg2 : w.heap.size ≤ g2 := by rw [eg2]; exact b1.size
 have ng2m3 : g1 ≠ g2 := by rw [eg2]; exact Nat.ne_of_lt (m1.lt)
 have tg2 : g2 < w2.heap.size := m2.lt
 clear eg2
 refine Lv (.bool false) (x_assign rfl rfl) (Ln (sN (Ws (Ws (Wl (Lv (.int .i64 (0)) (x_assign rfl rfl) (Ln (sN (Fx.W.block (Fx.W.loop (fun f w_ => ∃ k : Nat, k ≤ 6 ∧ f 2 = (pt g1) ∧ f 3 = (pt g2) ∧ f 5 = .int .i64 ((k : Int)) ∧ Fx.Blk w_ g1 6 (Fx.rv .u64 x) 32 ∧ Fx.Blk w_ g2 6 (Fx.rv .u64 y) 32 ∧ Below w.heap.size w w_) (fun f _ => (6 - (intOf (f 5)).toNat)) ⟨0, by omega, (by rfl), (by rfl), Fx.ic, m3, m2, b2⟩ ?_))))))))))
 rintro f1 w3 ⟨k, hk, h1, h2, h3, m4, m5, b3⟩
 refine Ws (Ws (Wl (Lv (.int .i64 ((k : Int))) (x_move rfl h3) ?_)))
 by_cases c7 : (k : Int) < 6
 ·refine Lv (.bool true) (Fx.x_lssT rfl rfl rfl c7) (Ln (sN (Wc (b := true) rfl (fun _ => Wk (sN (Ws (Fx.W.block (Ws ?_))))) (fun h => nomatch h))))
  -- region 4 draws
  refine Fx.W.quiet (fun v1 => ∃ q, v1 = World.drewN w3 q) (by kernel_rfl) (by kernel_rfl) ⟨1, rfl⟩ ?_
  refine Qv (.int .i64 ((k : Int))) (fun v1 hv1 => x_move rfl h3) (Qv ((pf g1 k)) (fun v1 hv1 => x_index rfl h1 rfl Try.underlying32 (s := 1) (by kernel_rfl) (by omega) (by omega) (by omega)) (Qv (.int .u64 (x k)) (fun v1 hv1 => x_load1 (x := Fx.rv .u64 x) rfl rfl (by kernel_rfl) (by obtain ⟨qd, rfl⟩ := hv1; exact m4.cel) (i := k) (by omega) (by omega) rfl) (Qv (.int .i64 ((k : Int))) (fun v1 hv1 => x_move rfl h3) (Qv ((pf g2 k)) (fun v1 hv1 => x_index rfl h2 rfl Try.underlying32 (s := 1) (by kernel_rfl) (by omega) (by omega) (by omega)) (Qv (.int .u64 (y k)) (fun v1 hv1 => x_load1 (x := Fx.rv .u64 y) rfl rfl (by kernel_rfl) (by obtain ⟨qd, rfl⟩ := hv1; exact m5.cel) (i := k) (by omega) (by omega) rfl) (Qv (.bool false) (fun v1 hv1 => x_gtrF rfl rfl rfl (by have := h k (by omega); omega)) (Fx.Qt.nil ?_)))))))
  rintro _ ⟨qd, rfl⟩
  obtain ⟨wq1, ewq1⟩ : ∃ v1, v1 = World.drewN w3 qd := ⟨_, rfl⟩
  rw [← ewq1]
  have s3 : Fx.Stp w3.heap.size w3 wq1 := by rw [ewq1]; exact Sb (bdrN w3 qd)
  have m6 := m4.stp s3 m4.ne
  have m7 := m5.stp s3 m5.ne
  have b4 := s3.below b3 b3.size b3.size
  clear ewq1
  refine sN (Wc (b := false) rfl (fun h => nomatch h) (fun _ => Wk (Fx.blkN (sN (Wl (Lv (.int .i64 ((k : Int))) (x_move rfl h3) (Lv (.int .i64 ((k : Int) + 1)) (Fx.x_add rfl rfl rfl Fx.io) (Lv (.int .i64 ((k : Int) + 1)) (x_assign rfl rfl) (Ln (Fx.lpN ⟨k + 1, by omega, h1, h2, Fx.ic, m6, m7, b4⟩ ?_))))))))))
  show (6 - (intOf ((.int .i64 ((k : Int) + 1)))).toNat) < _
  simp only [h3, intOf]; omega
 refine Lv (.bool false) (Fx.x_lssF rfl rfl rfl c7) (Ln (sN (Wc (b := false) rfl (fun h => nomatch h) (fun _ => Fx.W.exit (Fx.seqX (Fx.lpX (Fx.blkX (sN (Ws (Wl (Lv (.bool true) (x_assign rfl rfl) (Ln (sN (Wr (⟨.bool true, rV Try.results34 (by exact rfl), ?_⟩)))))))))))))))
 exact ⟨rfl, b3⟩
theorem Rt.x_wf {ev : Nat → EvM} {an o q n : Nat} {E E' X : List EvM} (h : LSt ev an o E) (eX : X = (lack E E').take n) (hw : ∀ k, k < an → EvWf (ev k)) (hq : q < X.length) : EvWf (X.getD q zeroE) := by
  have h1 := getD_mem hq
  rw [eX] at h1
  obtain ⟨k, hk, e⟩ := lack_mem h _ (List.mem_of_mem_take h1)
  rw [eX, e]; exact hw k hk
set_option maxRecDepth 20000 in
set_option maxHeartbeats 4000000 in
theorem spreads_any (rb : Nat) (aa0 : Option Addr) (na ca : Nat) (xa : Nat → ActM) (mo : Nat) (w : World) (hrb : rb ≤ 255) (hmo : mo ≤ 255) (hxa : ∀ k, k < na → ActOk (xa k)) (hacts : Fx.Arr w aa0 na 9 (Fx.flat 9 fun k => actY (xa k))) :
    Calls Try.prog 8 #[.int .u8 ((rb : Int)), .slice aa0 (na) (ca), .int .u8 ((mo : Int))] w fun e w' => e = .returned (.bool true) ∧ Below w.heap.size w w' := by
 refine Fx.enter Try.func8 rfl (n := 283) rfl (by rfl) ?_
 refine Ws (Wl (Lv (.bool false) (x_assign rfl rfl) (Ln (sN (Ws (Ws (Wl (Lv (.slice aa0 (na) (ca)) (x_move rfl rfl) ?_))))))))
 by_cases c26 : (decide ((na : Int) ≤ 60)) = true
 ·refine Fx.L.call (by rfl) (rC (args := [.slice aa0 (na) (ca)]) rfl rfl Try.func9 rfl rfl) rfl ((l_few _ _ _ _).mono ?_)
  rintro e v1 ⟨he, hv1⟩
  subst v1
  refine ⟨.bool true, by rw [he, c26], ?_⟩
  clear he
  refine Lv (.bool false) (Fx.x_notF rfl rfl) (Lv (.bool false) (x_move rfl rfl) (Lv (.slice aa0 (na) (ca)) (x_move rfl rfl) (Lv (.int .i64 ((na : Int))) (x_len rfl rfl rfl (by kernel_rfl)) ?_)))
  by_cases c31 : 50 < (na : Int)
  ·refine Lv (.bool true) (Fx.x_gtrT rfl rfl rfl c31) (Lv (.bool true) (x_pickF rfl rfl rfl) (Ln (sN (Wc (b := true) rfl (fun _ => Ws (Wl (Fx.L.call (by rfl) (rC (args := []) rfl rfl Try.func10 rfl rfl) rfl ((works17_any _).mono ?_)))) (fun h => nomatch h)))))
   rintro e w1 ⟨he, hb1⟩
   refine ⟨.bool true, by rw [he], ?_⟩
   clear he
   have s1 := Sb hb1
   have b1 := s1.below (Below.refl w.heap.size w) (Below.refl w.heap.size w).size (Below.refl w.heap.size w).size
   refine Lv (.bool true) (x_assign rfl rfl) (Ln (sN (Wr (sR (⟨.bool true, rV Try.results8 (by exact rfl), ?_⟩)))))
   exact ⟨rfl, b1⟩
  refine Lv (.bool false) (x_gtrF rfl rfl rfl c31) (Lv (.bool false) (x_pickF rfl rfl rfl) (Ln (sN (Wc (b := false) rfl (fun h => nomatch h) (fun _ => Wk (sN (Ws ?_)))))))
  have hna0 := of_decide_eq_true c26
  have hna : na ≤ 60 := by omega
  obtain ⟨rn, ern⟩ : ∃ r, r = rb % 6 := ⟨_, rfl⟩
  have hrn : rn < 6 := by rw [ern]; exact Nat.mod_lt _ (by omega)
  refine Wl (Lv (.int .u8 ((rb : Int))) (x_move rfl rfl) (Lv (.int .i64 ((rb : Int))) (x_conv rfl rfl (by kernel_rfl) Try.underlying3 (Fx.i64e (by omega) rfl)) (Lv (.int .i64 ((rn : Int))) (Fx.x_rem rfl rfl rfl (by omega) (remL ern)) (Lv (.int .i64 ((rn : Int) + 1)) (Fx.x_add rfl rfl rfl Fx.io) (Fx.L.call (by rfl) (rC (args := [.int .i64 ((rn : Int) + 1)]) rfl rfl Try.func16 rfl rfl) rfl ((l_newWorld2 (rn + 1) _ _ (by omega) (by omega) (by omega)).mono ?_))))))
  rintro e9 w2 ⟨pw, M0, he, hMn, hMa, hW0, hbw⟩
  refine ⟨(pt pw), he, ?_⟩
  clear he
  have sB := (Below.refl w.heap.size w).size
  have s2 := Sb hbw
  have b2 := s2.below (Below.refl w.heap.size w) (Below.refl w.heap.size w).size (Below.refl w.heap.size w).size
  have sW : w.heap.size ≤ w2.heap.size := hbw.size
  refine Lv ((pt pw)) (x_assign rfl rfl) (Ln (sN (Ws (Ws (Wl (Lv (.int .i64 (0)) (x_assign rfl rfl) (Ln (sN (Fx.W.block (Fx.W.loop (fun f w_ => ∃ k : Nat, ∃ M9 : WM, ∃ T9 : Nat, k ≤ na ∧ T9 ≤ 3660 * k ∧ M9.n = M0.n ∧ M9.an ≤ k ∧ w.heap.size ≤ w_.heap.size ∧ f 1 = .slice aa0 (na) (ca) ∧ f 2 = .int .u8 ((mo : Int)) ∧ f 7 = (pt pw) ∧ f 8 = .int .i64 ((k : Int)) ∧ WldO w_ w.heap.size pw M9 T9 ∧ Below w.heap.size w w_) (fun f _ => (na - (intOf (f 8)).toNat)) ⟨0, M0, 0, by omega, by omega, rfl, by omega, sW, (by rfl), Fx.ic, (by rfl), Fx.ic, hW0, b2⟩ ?_))))))))))
  rintro f1 w3 ⟨k, M9, T9, hk, hTk, hMn9, hMa9, sWk, h1, h2, h3, h4, m1, b3⟩
  refine Ws (Ws (Wl (Lv (.int .i64 ((k : Int))) (x_move rfl h4) (Lv (.slice aa0 (na) (ca)) (x_move rfl h1) (Lv (.int .i64 ((na : Int))) (x_len rfl rfl rfl (by kernel_rfl)) ?_)))))
  by_cases c42 : (k : Int) < (na : Int)
  ·refine Lv (.bool true) (Fx.x_lssT rfl rfl rfl c42) (Ln (sN (Wc (b := true) rfl (fun _ => Wk (sN (Ws (Fx.W.block (Wl (Lv ((pt pw)) (x_move rfl h3) ?_)))))) (fun h => nomatch h))))
   refine Lv (.slice aa0 (na) (ca)) (x_move rfl h1) (Lv (.int .i64 ((k : Int))) (x_move rfl h4) ?_)
   obtain ⟨bq1, oq1, eq1, m2⟩ := (hacts.up b3 rfl) (by omega)
   have lbq1 : bq1 < w3.heap.size := m2.lt (by omega)
   refine Lv ((pf bq1 (9 * k + oq1))) (x_indexS rfl (rfl.trans (congrArg (fun q => Value.slice q (na) (ca)) eq1)) rfl Try.underlying24 (s := 9) (by kernel_rfl) (by omega) (by omega) (by omega)) (Lv (.agg (Fx.varr 9 (actY (xa k)))) (x_loadA (x := Fx.flat 9 fun k => actY (xa k)) (y := actY (xa k)) rfl rfl (by kernel_rfl) (by kernel_rfl) m2 (i := 9 * k) (by omega) (by omega) (fun jq hjq => Fx.flat_at (k := k) (by omega) hjq)) (Fx.L.call (by rfl) (rC (args := [(pt pw), .agg (Fx.varr 9 (actY (xa k)))]) rfl rfl Try.func18 rfl rfl) rfl ((l_doM M9 w.heap.size pw T9 (xa k) _ m1 sWk (hxa k (by omega)) (by omega) (by omega)).mono ?_)))
   rintro e9 w4 ⟨v9, he, hv9, M2, hW1, hM2, hM2a, hM2m, hb2⟩
   refine ⟨_, he, ?_⟩
   clear he
   have hM2n := hM2.n
   have b4 : Below w.heap.size w w4 := bchB b3 hb2 sB
   have sW1 : w.heap.size ≤ w4.heap.size := by have := hb2.size; omega
   have sWn : w.heap.size ≤ w4.heap.size := by have := hb2.size; omega
   refine Ln (Fx.blkN (sN (Wl (Lv (.int .i64 ((k : Int))) (x_move rfl h4) (Lv (.int .i64 ((k : Int) + 1)) (Fx.x_add rfl rfl rfl Fx.io) (Lv (.int .i64 ((k : Int) + 1)) (x_assign rfl rfl) (Ln (Fx.lpN ⟨k + 1, M2, (T9 + 3660), by omega, by omega, (hM2n.trans hMn9), by omega, sWn, h1, (h2.trans Fx.ic), h3, Fx.ic, hW1, b4⟩ ?_))))))))
   show (na - (intOf ((.int .i64 ((k : Int) + 1)))).toNat) < _
   simp only [h4, intOf]; omega
  refine Lv (.bool false) (Fx.x_lssF rfl rfl rfl c42) (Ln (sN (Wc (b := false) rfl (fun h => nomatch h) (fun _ => Fx.W.exit (Fx.seqX (Fx.lpX (Fx.blkX (sN (Ws ?_)))))))))
  have hWc := m1.c
  have hWa := m1.a
  have hevw := m1.wf
  have hevm := m1.may
  have hcz := m1.cz
  have hWw := m1
  have haA : Fx.Arr w3 M9.aa M9.an 14 (evX M9.ev) := hWa.arr
  have lpw : pw < w3.heap.size := hWc.lt
  have hMn1 : M9.n = rn + 1 := hMn9.trans hMn
  have haL : Fx.Arr w3 M9.la M9.n 1 (ptX M9.pl) := m1.l.arr
  have hM60 : M9.an ≤ 60 := by omega
  have hn6 := hWw.n6
  have hn1 := hWw.n1
  have hkn : ∀ o, o < M9.n → KnOk ((fun o => (M9.ml o).s.known) o) := fun o ho => (hWw.inv o ho).kn
  refine Wl (Lv ((pt pw)) (x_move rfl h3) (Lv ((pt pw)) (x_nil rfl rfl) (Lv ((pt pw)) (x_field rfl rfl Try.underlying74 rfl (s := 1) (by kernel_rfl) rfl rfl) (Lv (.slice M9.la (M9.n) (M9.lc)) (x_load1 (x := wdY (.slice M9.la (M9.n) (M9.lc)) (.slice M9.aa (M9.an) (M9.ac))) rfl rfl (by kernel_rfl) hWc.cel (i := 0) (by omega) (by omega) rfl) (Lv (.int .i64 ((M9.n : Int))) (x_len rfl rfl rfl (by kernel_rfl)) (Lv (.int .i64 ((M9.n : Int))) (x_assign rfl rfl) (Ln (sN (Ws ?_)))))))))
  obtain ⟨mm, emm⟩ : ∃ r, r = mo % 16 := ⟨_, rfl⟩
  have hmm : mm < 16 := by rw [emm]; exact Nat.mod_lt _ (by omega)
  refine Wl (Lv (.int .u8 ((mo : Int))) (x_move rfl h2) (Lv (.int .i64 ((mo : Int))) (x_conv rfl rfl (by kernel_rfl) Try.underlying3 (Fx.i64e (by omega) rfl)) (Lv (.int .i64 ((mm : Int))) (Fx.x_rem rfl rfl rfl (by omega) (remL emm)) (Lv (.int .i64 ((mm : Int) + 1)) (Fx.x_add rfl rfl rfl Fx.io) (Lv (.int .i64 ((mm : Int) + 1)) (x_assign rfl rfl) (Ln (sN (Ws (Wl (Lv (.slice none 0 0) (x_assign rfl rfl) (Ln (sN (Ws (Wl (Lv (.slice none 0 0) (x_assign rfl rfl) (Ln (sN (Ws (Wl (Lv (.slice none 0 0) (x_assign rfl rfl) (Ln (sN (Ws (Ws (Wl (Lv (.int .i64 (0)) (x_assign rfl rfl) (Ln (sN (Fx.W.block ?_)))))))))))))))))))))))))))))
  have m3 : LgQ w3 w3.heap.size 0 (fun _ => 0) (fun _ => newL) (eIn M9.ev M9.an (fun o => (M9.ml o).s.known) 0 0) := LgQ.nil
  have m4 : PrF w3 w3.heap.size 0 (fun _ => 0) (fun _ _ => 0) := PrF.nil
  have m5 : Fx.Own w3 w3.heap.size 43 1 (.slice none 0 0) 0 (ptX (fun _ => 0)) := Fx.Own.nil _ _ _ _ _
  have m6 : Fx.Own w3 w3.heap.size 27 1 (.slice none 0 0) 0 (ptX (fun _ => 0)) := Fx.Own.nil _ _ _ _ _
  have m7 : Fx.Own w3 w3.heap.size 3 1 (.slice none 0 0) 0 (Fx.rv .i64 fun q => (q : Int) + 1) := Fx.Own.nil _ _ _ _ _
  refine Fx.W.loop (fun f w_ => ∃ i : Nat, ∃ al : Option Addr, ∃ cl : Nat, ∃ ap : Option Addr, ∃ cp : Nat, ∃ aa : Option Addr, ∃ ca_ : Nat, ∃ pl : Nat → Nat, ∃ ml : Nat → LgM, ∃ pp : Nat → Nat, i ≤ M9.n ∧ f 7 = (pt pw) ∧ f 9 = .int .i64 ((M9.n : Int)) ∧ f 10 = .int .i64 ((mm : Int) + 1) ∧ f 11 = .slice al (i) (cl) ∧ f 12 = .slice ap (i) (cp) ∧ f 13 = .slice aa (i) (ca_) ∧ f 14 = .int .i64 ((i : Int)) ∧ Fx.Blk w_ pw 2 (wdY (.slice M9.la (M9.n) (M9.lc)) (.slice M9.aa (M9.an) (M9.ac))) 74 ∧ LgQ w_ w3.heap.size i pl ml (eIn M9.ev M9.an (fun o => (M9.ml o).s.known) i 0) ∧ PrF w_ w3.heap.size i pp (fun _ _ => 0) ∧ Fx.Own w_ w3.heap.size 43 1 (.slice al (i) (cl)) i (ptX pl) ∧ Fx.Own w_ w3.heap.size 27 1 (.slice ap (i) (cp)) i (ptX pp) ∧ Fx.Own w_ w3.heap.size 3 1 (.slice aa (i) (ca_)) i (Fx.rv .i64 fun q => (q : Int) + 1) ∧ Below w3.heap.size w3 w_) (fun f _ => (M9.n - (intOf (f 14)).toNat)) ⟨0, none, 0, none, 0, none, 0, (fun _ => 0), (fun _ => newL), (fun _ => 0), by omega, h3, Fx.ic, Fx.ic, (by rfl), (by rfl), (by rfl), Fx.ic, hWc, m3, m4, m5, m6, m7, (Below.refl w3.heap.size w3)⟩ ?_
  rintro f2 w5 ⟨i, al, cl, ap, cp, aa, ca_, pl, ml, pp, hi, h5, h6, h7, h8, h9, h10, h11, m8, m9, m10, m11, m12, m13, b5⟩
  refine Ws (Ws (Wl (Lv (.int .i64 ((i : Int))) (x_move rfl h11) (Lv (.int .i64 ((M9.n : Int))) (x_move rfl h6) ?_))))
  by_cases c62 : (i : Int) < (M9.n : Int)
  ·refine Lv (.bool true) (Fx.x_lssT rfl rfl rfl c62) (Ln (sN (Wc (b := true) rfl (fun _ => Wk (sN (Ws (Fx.W.block (Ws (Wl (Fx.L.call (by rfl) (rC (args := []) rfl rfl Try.func17 rfl rfl) rfl ((o_new 0 _).mono ?_)))))))) (fun h => nomatch h))))
   rintro e9 w6 ⟨px, he, hl1, hb3⟩
   refine ⟨_, he, ?_⟩
   clear he
   have s3 := Sb hb3
   have hF1 := m9.snoc hb3 hl1 b5.size eIn_0
   have m14 := m8.stp s3 m8.ne
   have m15 := m10.up s3.old
   have m16 := m11.stp s3 (m11.notNew (Nat.le_refl _))
   have m17 := m12.stp s3 (m12.notNew (Nat.le_refl _))
   have m18 := m13.stp s3 (m13.notNew (Nat.le_refl _))
   have b6 := s3.below b5 b5.size b5.size
   refine Lv ((pt px)) (x_assign rfl rfl) (Ln (sN (Ws (Ws (Wl (Lv (.int .i64 (0)) (x_assign rfl rfl) (Ln (sN (Fx.W.block (Fx.W.loop (fun f w_ => ∃ j : Nat, ∃ mlj : Nat → LgM, j ≤ M9.an ∧ f 7 = (pt pw) ∧ f 9 = .int .i64 ((M9.n : Int)) ∧ f 10 = .int .i64 ((mm : Int) + 1) ∧ f 11 = .slice al (i) (cl) ∧ f 12 = .slice ap (i) (cp) ∧ f 13 = .slice aa (i) (ca_) ∧ f 14 = .int .i64 ((i : Int)) ∧ f 15 = (pt px) ∧ f 16 = .int .i64 ((j : Int)) ∧ Fx.Blk w_ pw 2 (wdY (.slice M9.la (M9.n) (M9.lc)) (.slice M9.aa (M9.an) (M9.ac))) 74 ∧ PrF w_ w3.heap.size i pp (fun _ _ => 0) ∧ Fx.Own w_ w3.heap.size 43 1 (.slice al (i) (cl)) i (ptX pl) ∧ Fx.Own w_ w3.heap.size 27 1 (.slice ap (i) (cp)) i (ptX pp) ∧ Fx.Own w_ w3.heap.size 3 1 (.slice aa (i) (ca_)) i (Fx.rv .i64 fun q => (q : Int) + 1) ∧ LgQ w_ w3.heap.size (i + 1) (updA pl i px) mlj (eIn M9.ev M9.an (fun o => (M9.ml o).s.known) i j) ∧ Below w3.heap.size w3 w_) (fun f _ => (M9.an - (intOf (f 16)).toNat)) ⟨0, (updA ml i newL), by omega, h5, (h6.trans Fx.ic), (h7.trans Fx.ic), h8, h9, h10, (h11.trans Fx.ic), (by rfl), Fx.ic, m14, m15, m16, m17, m18, hF1, b6⟩ ?_))))))))))
   rintro f3 w7 ⟨j, mlj, hj, h12, h13, h14, h15, h16, h17, h18, h19, h20, m19, m20, m21, m22, m23, m24, b7⟩
   refine Ws (Ws (Wl (Lv (.int .i64 ((j : Int))) (x_move rfl h20) (Lv ((pt pw)) (x_move rfl h12) (Lv ((pt pw)) (x_nil rfl rfl) (Lv ((pf pw 1)) (x_field rfl rfl Try.underlying74 rfl (s := 1) (by kernel_rfl) rfl (by show _ + 1 = _; omega)) (Lv (.slice M9.aa (M9.an) (M9.ac)) (x_load1 (x := wdY (.slice M9.la (M9.n) (M9.lc)) (.slice M9.aa (M9.an) (M9.ac))) rfl rfl (by kernel_rfl) m19.cel (i := 1) (by omega) (by omega) rfl) (Lv (.int .i64 ((M9.an : Int))) (x_len rfl rfl rfl (by kernel_rfl)) ?_))))))))
   by_cases c72 : (j : Int) < (M9.an : Int)
   ·refine Lv (.bool true) (Fx.x_lssT rfl rfl rfl c72) (Ln (sN (Wc (b := true) rfl (fun _ => Wk (sN (Ws (Fx.W.block (Ws (Wl (Lv ((pt pw)) (x_move rfl h12) ?_))))))) (fun h => nomatch h))))
    refine Lv ((pt pw)) (x_nil rfl rfl) (Lv ((pf pw 1)) (x_field rfl rfl Try.underlying74 rfl (s := 1) (by kernel_rfl) rfl (by show _ + 1 = _; omega)) (Lv (.slice M9.aa (M9.an) (M9.ac)) (x_load1 (x := wdY (.slice M9.la (M9.n) (M9.lc)) (.slice M9.aa (M9.an) (M9.ac))) rfl rfl (by kernel_rfl) m19.cel (i := 1) (by omega) (by omega) rfl) (Lv (.int .i64 ((j : Int))) (x_move rfl h20) ?_)))
    obtain ⟨bq2, oq2, eq2, m25z⟩ := haA (by omega)
    have lbq2z : bq2 < w3.heap.size := m25z.lt (by omega)
    have m25 := m25z.below b7 lbq2z
    have lbq2 : bq2 < w7.heap.size := m25.lt (by omega)
    refine Lv ((pf bq2 (14 * j + oq2))) (x_indexS rfl (rfl.trans (congrArg (fun q => Value.slice q (M9.an) (M9.ac)) eq2)) rfl Try.underlying46 (s := 14) (by kernel_rfl) (by omega) (by omega) (by omega)) (Lv (.agg (Fx.varr 14 (evY (M9.ev j)))) (x_loadA (x := evX M9.ev) (y := evY (M9.ev j)) rfl rfl (by kernel_rfl) (by kernel_rfl) m25 (i := 14 * j) (by omega) (by omega) (fun jq hjq => Fx.flat_at (k := j) (by omega) hjq)) (Fx.L.new (m := 14) (y := evY zeroE) (by rfl) rfl (by kernel_rfl) rfl fun g1 w8 eg1 m26 s4 z1 => ?_))
    have m27 := m19.stp s4 m19.ne
    have m28 := m20.up s4.old
    have m29 := m21.stp s4 (m21.notNew (Nat.le_refl _))
    have m30 := m22.stp s4 (m22.notNew (Nat.le_refl _))
    have m31 := m23.stp s4 (m23.notNew (Nat.le_refl _))
    have m32 := m24.up s4.old
    have m33 := m25.stp s4 (Nat.ne_of_lt (m25.lt (by omega)))
    have b8 := s4.below b7 b7.size b7.size
    have lg1 : w3.heap.size ≤ g1 := by rw [eg1]; exact b7.size
    have ng1m27 : pw ≠ g1 := by rw [eg1]; exact Nat.ne_of_lt (m19.lt)
    have ng1m33 : bq2 ≠ g1 := by rw [eg1]; exact Nat.ne_of_lt (m25.lt (by omega))
    have tg1 : g1 < w8.heap.size := m26.lt
    have nlgg1 : ¬ lgS ((updA pl i px) i) (mlj i) g1 := by rw [eg1]; exact fun h => Nat.lt_irrefl _ ((m24.a i (by omega)).ge _ h).2
    clear eg1
    refine Fx.L.storeA (x := evY zeroE) (y := evY (M9.ev j)) (by rfl) rfl rfl rfl rfl (evY_one _) (by kernel_rfl) m26 (i := 0) (by omega) fun w9 m34 s5 z2 => ?_
    have m35 : Fx.Blk w9 g1 14 (evY (M9.ev j)) 50 := Fx.ovr_all m34
    have hct1 := Fx.ChT.of_stp s5 m26.ty
    have m36 := m27.chT hct1 (by decide)
    have m37 := m28.chT hct1 (by decide)
    have m38 := m29.chT hct1 (by decide)
    have m39 := m30.chT hct1 (by decide)
    have m40 := m31.chT hct1 (by decide)
    have m41 := m32.chT hct1 (by decide)
    have m42 := m33.stp s5 (by omega)
    have b9 := s5.below b8 b8.size (by omega)
    refine Ln (sN (Ws ?_))
    obtain ⟨aj, haj, eaj⟩ := regE_nat (may_reg (hevm j (by omega)))
    have haN : regN (M9.ev j) = aj := by unfold regN; omega
    have hLi0 := (hWw.g i (by omega)).c
    have lpl : M9.pl i < w3.heap.size := hLi0.lt
    have hLi := hLi0.belowB b9 lpl
    have hTi := eIn_len (ev := M9.ev) (an := M9.an) (kn := (fun o => (M9.ml o).s.known)) (i := i) (j := j)
    -- region 21 draws
    have hS1 : ∀ k, (lgS ((updA pl i px) i) (mlj i)) k → w3.heap.size ≤ k := fun k hk => ((m41.a i (by omega)).ge k hk).1
    refine Fx.W.reord [0, 2, 3, 4, 6, 9, 1, 5, 7, 8, 12, 13, 14, 10, 11, 15, 16, 17, 18, 19, 20, 21, 22, 23] [0, 4, 0, 0, 0, 4, 0, 0, 4, 0, 4, 0, 0, 0, 0, 0, 4, 0, 0, 0, 4, 2, 0, 0] (Fx.Chg (lgS ((updA pl i px) i) (mlj i))) (Fx.Chg.refl _) Fx.Chg.trans (certs := [(21, 1, [18, 17, 1]), (21, 5, [18, 17, 16, 15, 14, 13, 12, 8, 7, 5]), (21, 8, [18, 17, 16, 15, 14, 13, 12, 8]), (21, 10, [18, 17, 16, 15, 11, 10]), (21, 16, [18, 17, 16]), (21, 20, [20]), (22, 21, [21]), (23, 21, [22, 21])]) (by kernel_rfl) (by kernel_rfl) (by kernel_rfl) (by kernel_rfl) (by kernel_rfl) fun wt1 hbwt1 hzwt1 => ?_
    have s6 : Fx.Stp w9.heap.size w9 wt1 := Sb hbwt1
    have m43 := m36.stp s6 m36.ne
    have m44 := m37.up s6.old
    have m45 := m38.stp s6 (m38.notNew (Nat.le_refl _))
    have m46 := m39.stp s6 (m39.notNew (Nat.le_refl _))
    have m47 := m40.stp s6 (m40.notNew (Nat.le_refl _))
    have m48 := m41.up s6.old
    have m50 := m35.stp s6 m35.ne
    have m51 := hLi.stp s6 hLi.ne
    have b10 := s6.below b9 b9.size b9.size
    refine Rp ((pf g1 1)) (fun v1 => x_field rfl rfl Try.underlying50 rfl (s := 1) (by kernel_rfl) rfl (by show _ + 1 = _; omega)) (Rp ((pt pw)) (fun v1 => x_move rfl h12) (Rp ((pt pw)) (fun v1 => x_nil rfl rfl) (Rp ((pt pw)) (fun v1 => x_field rfl rfl Try.underlying74 rfl (s := 1) (by kernel_rfl) rfl rfl) (Rp (.int .i64 ((i : Int))) (fun v1 => x_move rfl h18) (Rp ((pt g1)) (fun v1 => x_field rfl rfl Try.underlying50 rfl (s := 1) (by kernel_rfl) rfl rfl) (Fx.R.s (.int .u64 ((M9.ev j).seq)) (x_load1 (x := evY (M9.ev j)) rfl rfl (by kernel_rfl) m50.cel (i := 1) (by omega) (by omega) rfl) ?_))))))
    refine Fx.R.s (.slice M9.la (M9.n) (M9.lc)) (x_load1 (x := wdY (.slice M9.la (M9.n) (M9.lc)) (.slice M9.aa (M9.an) (M9.ac))) rfl rfl (by kernel_rfl) m43.cel (i := 0) (by omega) (by omega) rfl) ?_
    obtain ⟨bq3, oq3, eq3, m52z⟩ := haL (by omega)
    have lbq3z : bq3 < w3.heap.size := m52z.lt (by omega)
    have m52 := m52z.below b10 lbq3z
    have lbq3 : bq3 < wt1.heap.size := m52.lt (by omega)
    refine Rp ((pf bq3 (i + oq3))) (fun v1 => x_indexS rfl (rfl.trans (congrArg (fun q => Value.slice q (M9.n) (M9.lc)) eq3)) rfl Try.underlying72 (s := 1) (by kernel_rfl) (by omega) (by omega) (by omega)) (Fx.R.s ((pt (M9.pl i))) (x_load1 (x := ptX M9.pl) rfl rfl (by kernel_rfl) m52 (i := i) (by omega) (by omega) rfl) ?_)
    refine Rp ((pt (M9.pl i))) (fun v1 => x_nil rfl rfl) (Rp ((pt (M9.pl i))) (fun v1 => x_field rfl rfl Try.underlying70 rfl (s := 20) (by kernel_rfl) rfl rfl) (Rp ((pf (M9.pl i) 12)) (fun v1 => x_field rfl rfl Try.underlying65 rfl (s := 6) (by kernel_rfl) rfl (by show _ + 12 = _; omega)) (Fx.R.s (.int .i64 ((M9.ev j).o)) (x_load1 (x := evY (M9.ev j)) rfl rfl (by kernel_rfl) m50.cel (i := 0) (by omega) (by omega) rfl) ?_)))
    refine Rp (.int .i64 ((aj : Int))) (fun v1 => Fx.x_sub rfl rfl rfl Fx.io) (Rp ((pf (M9.pl i) (aj + 12))) (fun v1 => x_index rfl rfl rfl Try.underlying32 (s := 1) (by kernel_rfl) (by omega) (by omega) (by omega)) (Fx.R.s (.int .u64 ((M9.ml i).s.known aj)) (x_load1 (x := ldY (M9.ml i)) rfl rfl (by kernel_rfl) m51.cel (i := aj + 12) (by omega) (by omega) (ldY_st _ (by omega) (stY_known _ (by omega) (by omega)))) ?_))
    by_cases c99 : ((M9.ev j).seq) ≤ ((M9.ml i).s.known aj)
    ·refine Rp (.bool true) (fun v1 => Fx.x_leqT rfl rfl rfl c99) (Rp (.bool true) (fun v1 => x_move rfl rfl) (Rp ((pt px)) (fun v1 => x_move rfl h19) (Fx.R.s (.agg (Fx.varr 14 (evY (M9.ev j)))) (x_loadA (x := evY (M9.ev j)) (y := evY (M9.ev j)) rfl rfl (by kernel_rfl) (by kernel_rfl) m50.cel (i := 0) (by omega) (by omega) (fun j _ => by rw [Nat.zero_add])) ?_)))
     refine Fx.R.make (by rfl) ?_
     refine Fx.L.call (by rfl) (rC (args := [(pt px), .agg (Fx.varr 14 (evY (M9.ev j)))]) rfl rfl Try.func19 rfl rfl) rfl ((f_addP (v := (M9.ev j)) (j := i) (updA_at pl i px) m48 (by omega) b10.size (by omega) (hevw j (by omega)) (low_rdy hcz (by omega) (hkn i (by omega)) (by omega) (by rw [haN]; exact haj) (by rw [haN]; exact c99))).mono ?_)
     rintro e9 w10 ⟨he, hc1, ml1, hF2⟩
     refine ⟨_, he, ?_⟩
     clear he
     have hF3 := LgQ.eInY hF2 (by rw [haN]; exact haj) (by rw [haN]; exact c99)
     have ct1 := (m48.a i (by omega)).chm hc1
     have b11 := b10.trans ((m48.a i (by omega)).below b10.size hc1)
     have m53 := m43.chT ct1 (by decide)
     have m54 := m44.chT ct1 (by decide)
     have m55 := m45.chT ct1 (by decide)
     have m56 := m46.chT ct1 (by decide)
     have m57 := m47.chT ct1 (by decide)
     refine Ln ⟨hc1, ?_⟩
     refine Rp (.bool false) (fun v1 => Fx.x_neqF rfl rfl rfl rfl) (Rp (.bool false) (fun v1 => x_pickT rfl rfl rfl) (Fx.R.nil (sN (Wc (b := false) rfl (fun h => nomatch h) (fun _ => Wk (Fx.blkN (sN (Wl (Lv (.int .i64 ((j : Int))) (x_move rfl h20) ?_)))))))))
     refine Lv (.int .i64 ((j : Int) + 1)) (Fx.x_add rfl rfl rfl Fx.io) (Lv (.int .i64 ((j : Int) + 1)) (x_assign rfl rfl) (Ln ?_))
     skip
     refine Fx.lpN ⟨j + 1, ml1, by omega, h12, (h13.trans Fx.ic), (h14.trans Fx.ic), h15, h16, h17, (h18.trans Fx.ic), h19, Fx.ic, m53, m54, m55, m56, m57, hF3, b11⟩ ?_
     show (M9.an - (intOf ((.int .i64 ((j : Int) + 1)))).toNat) < _
     simp only [h20, intOf]; omega
    refine Rp (.bool false) (fun v1 => x_leqF rfl rfl rfl c99) (Rp (.bool false) (fun v1 => x_move rfl rfl) (Fx.R.skip (by rfl) (Fx.R.skip (by rfl) (Fx.R.skip (by rfl) (Fx.R.skip (by rfl) (Rp (.bool false) (fun v1 => x_pickF rfl rfl rfl) (Fx.R.nil (sN (Wc (b := false) rfl (fun h => nomatch h) (fun _ => Wk (Fx.blkN (sN (Wl (Lv (.int .i64 ((j : Int))) (x_move rfl h20) ?_))))))))))))))
    refine Lv (.int .i64 ((j : Int) + 1)) (Fx.x_add rfl rfl rfl Fx.io) (Lv (.int .i64 ((j : Int) + 1)) (x_assign rfl rfl) (Ln ?_))
    have m60 := LgQ.eInN m48 (by rw [haN]; exact haj) (by rw [haN]; exact c99)
    skip
    refine Fx.lpN ⟨j + 1, mlj, by omega, h12, (h13.trans Fx.ic), (h14.trans Fx.ic), h15, h16, h17, (h18.trans Fx.ic), h19, Fx.ic, m43, m44, m45, m46, m47, m60, b10⟩ ?_
    show (M9.an - (intOf ((.int .i64 ((j : Int) + 1)))).toNat) < _
    simp only [h20, intOf]; omega
   refine Lv (.bool false) (Fx.x_lssF rfl rfl rfl c72) (Ln (sN (Wc (b := false) rfl (fun h => nomatch h) (fun _ => Fx.W.exit (Fx.seqX (Fx.lpX (Fx.blkX (sN (Ws (Wl (Lv (.slice al (i) (cl)) (x_move rfl h15) (Lv ((pt px)) (x_move rfl h19) (Fx.L.bslice (vs := [(0, (pt px))]) (s := 1) (zc := fun _ => .pointer none) (y := Fx.ovr (fun j => .pointer none) (0 * 1) 1 (fun _ => (pt px))) (by rfl) rfl rfl Try.underlying87 (by kernel_rfl) (by rfl) (by rfl) (by kernel_rfl) (by rw [Fx.fill_step (off := 0 * 1) (s := 1) (y := fun _ => (pt px)) rfl (Fx.cells_one (by rfl)) (by rfl)]; rfl) rfl fun g2 w11 eg2 m61 s7 z3 => ?_)))))))))))))
   have m62 := m19.stp s7 m19.ne
   have m63 := m20.up s7.old
   have m64 := m21.stp s7 (m21.notNew (Nat.le_refl _))
   have m65 := m22.stp s7 (m22.notNew (Nat.le_refl _))
   have m66 := m23.stp s7 (m23.notNew (Nat.le_refl _))
   have m67 := m24.up s7.old
   have b12 := s7.below b7 b7.size b7.size
   have lg2 : w3.heap.size ≤ g2 := by rw [eg2]; exact b7.size
   have ng2m62 : pw ≠ g2 := by rw [eg2]; exact Nat.ne_of_lt (m19.lt)
   have ng2m64 : (.slice al (i) (cl) : Value).ownBlock ≠ some g2 := by rw [eg2]; exact m21.notNew (Nat.le_refl _)
   have tg2 : g2 < w11.heap.size := m61.lt
   have nlgg2 : ¬ lgS ((updA pl i px) i) (mlj i) g2 := by rw [eg2]; exact fun h => Nat.lt_irrefl _ ((m24.a i (by omega)).ge _ h).2
   clear eg2
   refine Fx.L.app (B := w3.heap.size) (s := 1) (bytes := 8) (k := i) (m := 1) (v := .slice al (i) (cl)) (x := ptX pl) (by rfl) rfl rfl rfl Try.underlying87 (by kernel_rfl) (by kernel_rfl) rfl rfl m64 m61.cel (ovr_one (fun _ => rfl)) (by omega) (by omega) (by omega) b12.size fun g3 cap1 w12 ho1 hg1 hgv1 hlt1 => ?_
   have hct2 := Fx.ChT.of_grown hg1 m64
   have m69 := m62.chT hct2 (by decide)
   have m70 := m63.chT hct2 (by decide)
   have m71 := m65.chT hct2 (by decide)
   have m72 := m66.chT hct2 (by decide)
   have m73 := m67.chT hct2 (by decide)
   have m68 : Fx.Own w12 w3.heap.size 43 1 (.slice (some ⟨g3, 0, none⟩) (i + 1) cap1) (i + 1) (ptX (updA pl i px)) := (ho1.congr (fun j hj => pt_app j hj))
   have b13 : Below w3.heap.size w3 w12 := Fx.Below.grow b12 hg1 b12.size (fun q hq => (m64.ge hq).1)
   refine Lv (.slice (some ⟨g3, 0, none⟩) (i + 1) (cap1)) (x_assign rfl rfl) (Ln (sN (Ws (Wl (Lv (.slice ap (i) (cp)) (x_move rfl h16) (Fx.L.call (by rfl) (rC (args := []) rfl rfl Try.func11 rfl rfl) rfl ((g_new _).mono ?_)))))))
   rintro e9 w13 ⟨pq, he, hg2, m74, hb4⟩
   refine ⟨_, he, ?_⟩
   clear he
   have s8 := Sb hb4
   have hP1 := m70.snoc hb4 m74 hg2 b13.size rfl
   have m75 := m69.stp s8 m69.ne
   have m76 := m71.stp s8 (m71.notNew (Nat.le_refl _))
   have m77 := m72.stp s8 (m72.notNew (Nat.le_refl _))
   have m78 := m73.up s8.old
   have m79 := m68.stpB s8 (Nat.ne_of_lt (m68.lt))
   have b14 := s8.below b13 b13.size b13.size
   refine Fx.L.bslice (vs := [(0, (pt pq))]) (s := 1) (zc := fun _ => .pointer none) (y := Fx.ovr (fun j => .pointer none) (0 * 1) 1 (fun _ => (pt pq))) (by rfl) rfl rfl Try.underlying88 (by kernel_rfl) (by rfl) (by rfl) (by kernel_rfl) (by rw [Fx.fill_step (off := 0 * 1) (s := 1) (y := fun _ => (pt pq)) rfl (Fx.cells_one (by rfl)) (by rfl)]; rfl) rfl fun g4 w14 eg4 m80 s9 z4 => ?_
   have m81 := m75.stp s9 m75.ne
   have m82 := m76.stp s9 (m76.notNew (Nat.le_refl _))
   have m83 := m77.stp s9 (m77.notNew (Nat.le_refl _))
   have m84 := m78.up s9.old
   have m85 := m79.stpB s9 (Nat.ne_of_lt (m79.lt))
   have m86 := hP1.up s9.old
   have b15 := s9.below b14 b14.size b14.size
   have lg4 : w3.heap.size ≤ g4 := by rw [eg4]; exact b14.size
   have ng4m81 : pw ≠ g4 := by rw [eg4]; exact Nat.ne_of_lt (m75.lt)
   have ng4m82 : (.slice ap (i) (cp) : Value).ownBlock ≠ some g4 := by rw [eg4]; exact m76.notNew (Nat.le_refl _)
   have ng4m85 : g3 ≠ g4 := by rw [eg4]; exact Nat.ne_of_lt (m79.lt)
   have tg4 : g4 < w14.heap.size := m80.lt
   have nlgg4 : ¬ lgS ((updA pl i px) i) (mlj i) g4 := by rw [eg4]; exact fun h => Nat.lt_irrefl _ ((m78.a i (by omega)).ge _ h).2
   clear eg4
   refine Fx.L.app (B := w3.heap.size) (s := 1) (bytes := 8) (k := i) (m := 1) (v := .slice ap (i) (cp)) (x := ptX pp) (by rfl) rfl rfl rfl Try.underlying88 (by kernel_rfl) (by kernel_rfl) rfl rfl m82 m80.cel (ovr_one (fun _ => rfl)) (by omega) (by omega) (by omega) b15.size fun g5 cap2 w15 ho2 hg3 hgv2 hlt2 => ?_
   have hct3 := Fx.ChT.of_grown hg3 m82
   have m88 := m81.chT hct3 (by decide)
   have m89 := m83.chT hct3 (by decide)
   have m90 := m84.chT hct3 (by decide)
   have m91 := m85.chT hct3 (by decide)
   have m92 := m86.chT hct3 (by decide)
   have m87 : Fx.Own w15 w3.heap.size 27 1 (.slice (some ⟨g5, 0, none⟩) (i + 1) cap2) (i + 1) (ptX (updA pp i pq)) := (ho2.congr (fun j hj => pt_app j hj))
   have b16 : Below w3.heap.size w3 w15 := Fx.Below.grow b15 hg3 b15.size (fun q hq => (m82.ge hq).1)
   refine Lv (.slice (some ⟨g5, 0, none⟩) (i + 1) (cap2)) (x_assign rfl rfl) (Ln (sN (Wl (Lv (.slice aa (i) (ca_)) (x_move rfl h17) (Lv (.int .i64 ((i : Int))) (x_move rfl h18) (Lv (.int .i64 ((i : Int) + 1)) (Fx.x_add rfl rfl rfl Fx.io) (Fx.L.bslice (vs := [(0, .int .i64 ((i : Int) + 1))]) (s := 1) (zc := Fx.rv .i64 (fun _ => 0)) (y := Fx.ovr (fun j => (Fx.rv .i64 (fun _ => 0)) (j % 1)) (0 * 1) 1 (fun _ => .int .i64 ((i : Int) + 1))) (by rfl) rfl rfl Try.underlying23 (by kernel_rfl) (by rfl) (by rfl) (by kernel_rfl) (by rw [Fx.fill_step (off := 0 * 1) (s := 1) (y := fun _ => .int .i64 ((i : Int) + 1)) rfl (Fx.cells_one (by rfl)) (by rfl)]; rfl) rfl fun g6 w16 eg6 m93 s10 z5 => ?_)))))))
   have m94 := m88.stp s10 m88.ne
   have m95 := m89.stp s10 (m89.notNew (Nat.le_refl _))
   have m96 := m90.up s10.old
   have m97 := m91.stpB s10 (Nat.ne_of_lt (m91.lt))
   have m98 := m92.up s10.old
   have m99 := m87.stpB s10 (Nat.ne_of_lt (m87.lt))
   have b17 := s10.below b16 b16.size b16.size
   have lg6 : w3.heap.size ≤ g6 := by rw [eg6]; exact b16.size
   have ng6m94 : pw ≠ g6 := by rw [eg6]; exact Nat.ne_of_lt (m88.lt)
   have ng6m95 : (.slice aa (i) (ca_) : Value).ownBlock ≠ some g6 := by rw [eg6]; exact m89.notNew (Nat.le_refl _)
   have ng6m97 : g3 ≠ g6 := by rw [eg6]; exact Nat.ne_of_lt (m91.lt)
   have ng6m99 : g5 ≠ g6 := by rw [eg6]; exact Nat.ne_of_lt (m87.lt)
   have tg6 : g6 < w16.heap.size := m93.lt
   have nlgg6 : ¬ lgS ((updA pl i px) i) (mlj i) g6 := by rw [eg6]; exact fun h => Nat.lt_irrefl _ ((m90.a i (by omega)).ge _ h).2
   clear eg6
   refine Fx.L.app (B := w3.heap.size) (s := 1) (bytes := 8) (k := i) (m := 1) (v := .slice aa (i) (ca_)) (x := Fx.rv .i64 fun q => (q : Int) + 1) (by rfl) rfl rfl rfl Try.underlying23 (by kernel_rfl) (by kernel_rfl) rfl rfl m95 m93.cel (ovr_one (fun _ => rfl)) (by omega) (by omega) (by omega) b17.size fun g7 cap3 w17 ho3 hg4 hgv3 hlt3 => ?_
   have hct4 := Fx.ChT.of_grown hg4 m95
   have m101 := m94.chT hct4 (by decide)
   have m102 := m96.chT hct4 (by decide)
   have m103 := m97.chT hct4 (by decide)
   have m104 := m98.chT hct4 (by decide)
   have m105 := m99.chT hct4 (by decide)
   have m100 : Fx.Own w17 w3.heap.size 3 1 (.slice (some ⟨g7, 0, none⟩) (i + 1) cap3) (i + 1) (Fx.rv .i64 fun q => (q : Int) + 1) := (ho3.congr (fun j hj => int_app j hj))
   have b18 : Below w3.heap.size w3 w17 := Fx.Below.grow b17 hg4 b17.size (fun q hq => (m95.ge hq).1)
   refine Lv (.slice (some ⟨g7, 0, none⟩) (i + 1) (cap3)) (x_assign rfl rfl) (Ln (Fx.blkN (sN (Wl (Lv (.int .i64 ((i : Int))) (x_move rfl h18) (Lv (.int .i64 ((i : Int) + 1)) (Fx.x_add rfl rfl rfl Fx.io) (Lv (.int .i64 ((i : Int) + 1)) (x_assign rfl rfl) (Ln ?_))))))))
   have ej : j = M9.an := by omega
   have m106 : LgQ w17 w3.heap.size (i + 1) (updA pl i px) mlj (eIn M9.ev M9.an (fun o => (M9.ml o).s.known) (i + 1) 0) := LgQ.eInS ((congrArg (fun z => LgQ w17 w3.heap.size (i + 1) (updA pl i px) mlj (eIn M9.ev M9.an (fun o => (M9.ml o).s.known) i z)) ej).mp m102)
   skip
   refine Fx.lpN ⟨i + 1, (some ⟨g3, 0, none⟩), cap1, (some ⟨g5, 0, none⟩), cap2, (some ⟨g7, 0, none⟩), cap3, (updA pl i px), mlj, (updA pp i pq), by omega, h12, (h13.trans Fx.ic), (h14.trans Fx.ic), (by rfl), (by rfl), (by rfl), Fx.ic, m101, m106, m104, m103, m105, m100, b18⟩ ?_
   show (M9.n - (intOf ((.int .i64 ((i : Int) + 1)))).toNat) < _
   simp only [h11, intOf]; omega
  refine Lv (.bool false) (Fx.x_lssF rfl rfl rfl c62) (Ln (sN (Wc (b := false) rfl (fun h => nomatch h) (fun _ => Fx.W.exit (Fx.seqX (Fx.lpX (Fx.blkX (sN (Ws (Ws ?_))))))))))
  have ei : i = M9.n := by omega
  have hS0 := Spr.begin hcz hkn hn6 ei
  have hp00 : Prog0 M9.an M9.n 0 (eIn M9.ev M9.an (fun o => (M9.ml o).s.known) i 0) := Prog0.begin
  skip
  have m107 : LgQ w5 w3.heap.size M9.n pl ml (eIn M9.ev M9.an (fun o => (M9.ml o).s.known) i 0) := (congrArg (fun z => LgQ w5 w3.heap.size z pl ml (eIn M9.ev M9.an (fun o => (M9.ml o).s.known) i 0)) ei).mp m9
  have m108 : PrF w5 w3.heap.size M9.n pp (fun _ _ => 0) := (congrArg (fun z => PrF w5 w3.heap.size z pp (fun _ _ => 0)) ei).mp m10
  have m109 : Fx.Own w5 w3.heap.size 43 1 (.slice al (M9.n) (cl)) M9.n (ptX pl) := ei ▸ m11
  have m110 : Fx.Own w5 w3.heap.size 27 1 (.slice ap (M9.n) (cp)) M9.n (ptX pp) := ei ▸ m12
  have m111 : Fx.Own w5 w3.heap.size 3 1 (.slice aa (M9.n) (ca_)) M9.n (Fx.rv .i64 fun q => (q : Int) + 1) := ei ▸ m13
  have h21 := h8
  rw [ei] at h21
  have h22 := h9
  rw [ei] at h22
  have h23 := h10
  rw [ei] at h23
  refine Wl (Lv (.int .i64 (0)) (x_assign rfl rfl) (Ln (sN (Fx.W.block (Fx.W.loop (fun f w_ => ∃ rd : Nat, ∃ m3 : Nat → LgM, ∃ E3 : Nat → List EvM, ∃ P3 : Nat → Nat → Int, rd ≤ M9.an + 2 ∧ Spr M9.ev M9.an M9.n E3 P3 ∧ Prog0 M9.an M9.n rd E3 ∧ f 7 = (pt pw) ∧ f 9 = .int .i64 ((M9.n : Int)) ∧ f 10 = .int .i64 ((mm : Int) + 1) ∧ f 11 = .slice al (M9.n) (cl) ∧ f 12 = .slice ap (M9.n) (cp) ∧ f 13 = .slice aa (M9.n) (ca_) ∧ f 18 = .int .i64 ((rd : Int)) ∧ Fx.Blk w_ pw 2 (wdY (.slice M9.la (M9.n) (M9.lc)) (.slice M9.aa (M9.an) (M9.ac))) 74 ∧ Fx.Own w_ w3.heap.size 43 1 (.slice al (M9.n) (cl)) M9.n (ptX pl) ∧ Fx.Own w_ w3.heap.size 27 1 (.slice ap (M9.n) (cp)) M9.n (ptX pp) ∧ Fx.Own w_ w3.heap.size 3 1 (.slice aa (M9.n) (ca_)) M9.n (Fx.rv .i64 fun q => (q : Int) + 1) ∧ LgQ w_ w3.heap.size M9.n pl m3 E3 ∧ PrF w_ w3.heap.size M9.n pp P3 ∧ Below w3.heap.size w3 w_) (fun f _ => (M9.an + 2 - (intOf (f 18)).toNat)) ⟨0, ml, (eIn M9.ev M9.an (fun o => (M9.ml o).s.known) i 0), (fun _ _ => 0), by omega, hS0, hp00, h5, (h6.trans Fx.ic), (h7.trans Fx.ic), h21, h22, h23, Fx.ic, m8, m109, m110, m111, m107, m108, b5⟩ ?_)))))
  rintro f4 w18 ⟨rd, m3, E3, P3, hrd, hS3, hp3, h24, h25, h26, h27, h28, h29, h30, m112, m113, m114, m115, m116, m117, b19⟩
  refine Ws (Ws (Wl (Lv (.int .i64 ((rd : Int))) (x_move rfl h30) (Lv ((pt pw)) (x_move rfl h24) (Lv ((pt pw)) (x_nil rfl rfl) (Lv ((pf pw 1)) (x_field rfl rfl Try.underlying74 rfl (s := 1) (by kernel_rfl) rfl (by show _ + 1 = _; omega)) (Lv (.slice M9.aa (M9.an) (M9.ac)) (x_load1 (x := wdY (.slice M9.la (M9.n) (M9.lc)) (.slice M9.aa (M9.an) (M9.ac))) rfl rfl (by kernel_rfl) m112.cel (i := 1) (by omega) (by omega) rfl) (Lv (.int .i64 ((M9.an : Int))) (x_len rfl rfl rfl (by kernel_rfl)) (Lv (.int .i64 ((M9.an : Int) + 1)) (Fx.x_add rfl rfl rfl Fx.io) ?_)))))))))
  by_cases c126 : (rd : Int) ≤ ((M9.an : Int) + 1)
  ·refine Lv (.bool true) (Fx.x_leqT rfl rfl rfl c126) (Ln (sN (Wc (b := true) rfl (fun _ => Wk (sN (Ws (Fx.W.block (Ws (Wl (Lv (.int .i64 (0)) (x_assign rfl rfl) ?_))))))) (fun h => nomatch h))))
   refine Ln (sN (Fx.W.block (Fx.W.loop (fun f w_ => ∃ i4 : Nat, ∃ m4 : Nat → LgM, ∃ E4 : Nat → List EvM, ∃ P4 : Nat → Nat → Int, i4 ≤ M9.n ∧ Spr M9.ev M9.an M9.n E4 P4 ∧ Prog M9.ev M9.an M9.n rd i4 0 E4 ∧ f 7 = (pt pw) ∧ f 9 = .int .i64 ((M9.n : Int)) ∧ f 10 = .int .i64 ((mm : Int) + 1) ∧ f 18 = .int .i64 ((rd : Int)) ∧ f 11 = .slice al (M9.n) (cl) ∧ f 12 = .slice ap (M9.n) (cp) ∧ f 13 = .slice aa (M9.n) (ca_) ∧ f 19 = .int .i64 ((i4 : Int)) ∧ Fx.Blk w_ pw 2 (wdY (.slice M9.la (M9.n) (M9.lc)) (.slice M9.aa (M9.an) (M9.ac))) 74 ∧ Fx.Own w_ w3.heap.size 43 1 (.slice al (M9.n) (cl)) M9.n (ptX pl) ∧ Fx.Own w_ w3.heap.size 27 1 (.slice ap (M9.n) (cp)) M9.n (ptX pp) ∧ Fx.Own w_ w3.heap.size 3 1 (.slice aa (M9.n) (ca_)) M9.n (Fx.rv .i64 fun q => (q : Int) + 1) ∧ LgQ w_ w3.heap.size M9.n pl m4 E4 ∧ PrF w_ w3.heap.size M9.n pp P4 ∧ Below w3.heap.size w3 w_) (fun f _ => (M9.n - (intOf (f 19)).toNat)) ⟨0, m3, E3, P3, by omega, hS3, (Prog.start hp3), h24, (h25.trans Fx.ic), (h26.trans Fx.ic), (h30.trans Fx.ic), h27, h28, h29, Fx.ic, m112, m113, m114, m115, m116, m117, b19⟩ ?_)))
   rintro f5 w19 ⟨i4, m4, E4, P4, hi4, hS4, hpg4, h31, h32, h33, h34, h35, h36, h37, h38, m118, m119, m120, m121, m122, m123, b20⟩
   refine Ws (Ws (Wl (Lv (.int .i64 ((i4 : Int))) (x_move rfl h38) (Lv (.int .i64 ((M9.n : Int))) (x_move rfl h32) ?_))))
   by_cases c131 : (i4 : Int) < (M9.n : Int)
   ·refine Lv (.bool true) (Fx.x_lssT rfl rfl rfl c131) (Ln (sN (Wc (b := true) rfl (fun _ => Wk (sN (Ws (Fx.W.block (Ws (Ws (Wl (Lv (.int .i64 (0)) (x_assign rfl rfl) ?_)))))))) (fun h => nomatch h))))
    refine Ln (sN (Fx.W.block (Fx.W.loop (fun f w_ => ∃ j5 : Nat, ∃ m5 : Nat → LgM, ∃ E5 : Nat → List EvM, ∃ P5 : Nat → Nat → Int, j5 ≤ M9.n ∧ Spr M9.ev M9.an M9.n E5 P5 ∧ Prog M9.ev M9.an M9.n rd i4 j5 E5 ∧ f 7 = (pt pw) ∧ f 9 = .int .i64 ((M9.n : Int)) ∧ f 10 = .int .i64 ((mm : Int) + 1) ∧ f 18 = .int .i64 ((rd : Int)) ∧ f 19 = .int .i64 ((i4 : Int)) ∧ f 11 = .slice al (M9.n) (cl) ∧ f 12 = .slice ap (M9.n) (cp) ∧ f 13 = .slice aa (M9.n) (ca_) ∧ f 20 = .int .i64 ((j5 : Int)) ∧ Fx.Blk w_ pw 2 (wdY (.slice M9.la (M9.n) (M9.lc)) (.slice M9.aa (M9.an) (M9.ac))) 74 ∧ Fx.Own w_ w3.heap.size 43 1 (.slice al (M9.n) (cl)) M9.n (ptX pl) ∧ Fx.Own w_ w3.heap.size 27 1 (.slice ap (M9.n) (cp)) M9.n (ptX pp) ∧ Fx.Own w_ w3.heap.size 3 1 (.slice aa (M9.n) (ca_)) M9.n (Fx.rv .i64 fun q => (q : Int) + 1) ∧ LgQ w_ w3.heap.size M9.n pl m5 E5 ∧ PrF w_ w3.heap.size M9.n pp P5 ∧ Below w3.heap.size w3 w_) (fun f _ => (M9.n - (intOf (f 20)).toNat)) ⟨0, m4, E4, P4, by omega, hS4, hpg4, h31, (h32.trans Fx.ic), (h33.trans Fx.ic), (h34.trans Fx.ic), (h38.trans Fx.ic), h35, h36, h37, Fx.ic, m118, m119, m120, m121, m122, m123, b20⟩ ?_)))
    rintro f6 w20 ⟨j5, m5, E5, P5, hj5, hS5, hpg5, h39, h40, h41, h42, h43, h44, h45, h46, h47, m124, m125, m126, m127, m128, m129, b21⟩
    refine Ws (Ws (Wl (Lv (.int .i64 ((j5 : Int))) (x_move rfl h47) (Lv (.int .i64 ((M9.n : Int))) (x_move rfl h40) ?_))))
    by_cases c136 : (j5 : Int) < (M9.n : Int)
    ·refine Lv (.bool true) (Fx.x_lssT rfl rfl rfl c136) (Ln (sN (Wc (b := true) rfl (fun _ => Wk (sN (Ws (Fx.W.block (Ws (Ws ?_)))))) (fun h => nomatch h))))
     -- region 35 draws
     refine Fx.W.reord [0, 1, 2, 3, 4, 5, 6, 8, 9, 10, 11, 12, 7, 13, 14, 15, 16, 17] [0, 0, 0, 0, 0, 0, 0, 1, 0, 0, 0, 0, 0, 4, 2, 2, 0, 0] (Fx.ChX [92]) Fx.ChX.refl Fx.ChX.trans (certs := [(14, 13, [13]), (15, 13, [14, 13]), (15, 14, [14]), (16, 14, [15, 14]), (17, 14, [16, 15, 14]), (16, 15, [15]), (17, 15, [16, 15])]) (by kernel_rfl) (by kernel_rfl) (by kernel_rfl) (by kernel_rfl) (by kernel_rfl) fun wt2 hbwt2 hzwt2 => ?_
     have s11 : Fx.Stp w20.heap.size w20 wt2 := Sb hbwt2
     have m130 := m124.stp s11 m124.ne
     have m131 := m125.stp s11 (m125.notNew (Nat.le_refl _))
     have m132 := m126.stp s11 (m126.notNew (Nat.le_refl _))
     have m133 := m127.stp s11 (m127.notNew (Nat.le_refl _))
     have m134 := m128.up s11.old
     have m135 := m129.up s11.old
     have b22 := s11.below b21 b21.size b21.size
     refine Rp (.int .i64 ((i4 : Int))) (fun v1 => x_move rfl h43) (Rp (.int .i64 ((j5 : Int))) (fun v1 => x_move rfl h47) ?_)
     by_cases c141 : (i4 : Int) = (j5 : Int)
     ·refine Rp (.bool true) (fun v1 => x_eqlT rfl rfl rfl c141) (Rp (.bool true) (fun v1 => x_move rfl rfl) (Fx.R.skip (by rfl) (Fx.R.skip (by rfl) (Fx.R.skip (by rfl) (Fx.R.skip (by rfl) (Fx.R.skip (by rfl) (Fx.R.skip (by rfl) (Fx.R.skip (by rfl) (Fx.R.skip (by rfl) (Fx.R.skip (by rfl) (Fx.R.skip (by rfl) (Fx.R.skip (by rfl) (Fx.R.skip (by rfl) (Fx.R.skip (by rfl) (Rp (.bool true) (fun v1 => x_pickT rfl rfl rfl) (Fx.R.nil (sN (Wc (b := true) rfl (fun _ => Ws (Ws (Wl (Lv (.int .i64 ((i4 : Int))) (x_move rfl h43) ?_)))) (fun h => nomatch h)))))))))))))))))))
      refine Lv (.int .i64 ((j5 : Int))) (x_move rfl h47) (Lv (.bool true) (x_eqlT rfl rfl rfl c141) (Ln (sN (Wc (b := true) rfl (fun _ => Fx.W.exit (Fx.seqX (Fx.seqX (Fx.blkX (sN (Wl (Lv (.int .i64 ((j5 : Int))) (x_move rfl h47) ?_))))))) (fun h => nomatch h)))))
      refine Lv (.int .i64 ((j5 : Int) + 1)) (Fx.x_add rfl rfl rfl Fx.io) (Lv (.int .i64 ((j5 : Int) + 1)) (x_assign rfl rfl) (Ln ?_))
      skip
      refine Fx.lpN ⟨j5 + 1, m5, E5, P5, by omega, hS5, (by have e : j5 = i4 := (by omega); subst e; exact hpg5.self hS5 (by omega)), h39, (h40.trans Fx.ic), (h41.trans Fx.ic), (h42.trans Fx.ic), (h43.trans Fx.ic), h44, h45, h46, Fx.ic, m130, m131, m132, m133, m134, m135, b22⟩ ?_
      show (M9.n - (intOf ((.int .i64 ((j5 : Int) + 1)))).toNat) < _
      simp only [h47, intOf]; omega
     refine Rp (.bool false) (fun v1 => x_eqlF rfl rfl rfl c141) (Rp (.bool false) (fun v1 => x_move rfl rfl) (Rp (.slice ap (M9.n) (cp)) (fun v1 => x_move rfl h45) (Rp (.int .i64 ((i4 : Int))) (fun v1 => x_move rfl h43) ?_)))
     obtain ⟨gq1, eq4⟩ := m132.addr (by omega)
     have m136 : Fx.Own wt2 w3.heap.size 27 1 (.slice (some ⟨gq1, 0, none⟩) M9.n cp) M9.n (ptX pp) := m132.congV (congrArg (fun q => Value.slice q M9.n cp) eq4)
     refine Rp ((pf gq1 i4)) (fun v1 => x_indexS rfl (rfl.trans (congrArg (fun q => Value.slice q (M9.n) (cp)) eq4)) rfl Try.underlying88 (s := 1) (by kernel_rfl) (by omega) (by omega) (by omega)) (Rp (.int .i64 ((j5 : Int))) (fun v1 => x_move rfl h47) (Rp (.int .i64 ((j5 : Int) + 1)) (fun v1 => Fx.x_add rfl rfl rfl Fx.io) (Rp (.slice al (M9.n) (cl)) (fun v1 => x_move rfl h44) (Rp (.int .i64 ((j5 : Int))) (fun v1 => x_move rfl h47) ?_))))
     obtain ⟨gq2, eq5⟩ := m131.addr (by omega)
     have m137 : Fx.Own wt2 w3.heap.size 43 1 (.slice (some ⟨gq2, 0, none⟩) M9.n cl) M9.n (ptX pl) := m131.congV (congrArg (fun q => Value.slice q M9.n cl) eq5)
     refine Rp ((pf gq2 j5)) (fun v1 => x_indexS rfl (rfl.trans (congrArg (fun q => Value.slice q (M9.n) (cl)) eq5)) rfl Try.underlying87 (s := 1) (by kernel_rfl) (by omega) (by omega) (by omega)) (Fx.R.read (v := (pt (pp i4))) (by rfl) (by rfl) (Fx.ChX.refl _) (fun v1 hv1 => x_load1 (x := ptX pp) rfl rfl (by kernel_rfl) (m136.chX hv1 (by decide)).cel (i := i4) (by omega) (by omega) rfl) ?_)
     refine Fx.R.s ((pt (pl j5))) (x_load1 (x := ptX pl) rfl rfl (by kernel_rfl) m137.cel (i := j5) (by omega) (by omega) rfl) ?_
     refine Fx.R.make (by rfl) ?_
     refine Fx.L.call (by rfl) (rC (args := [(pt (pl j5))]) rfl rfl Try.func27 rfl rfl) rfl ((f_knownQ (j := j5) m134 (by omega)).mono ?_)
     rintro e w21 ⟨he, hb5⟩
     refine ⟨.agg (Fx.varr 6 (Fx.rv .u64 (endK zK (E5 j5)))), by rw [he], ?_⟩
     clear he
     have s12 := Sb hb5
     have m138 := m130.stp s12 m130.ne
     have m139 := m133.stp s12 (m133.notNew (Nat.le_refl _))
     have m140 := m134.up s12.old
     have m141 := m135.up s12.old
     have m142 := m136.stpB s12 (Nat.ne_of_lt (m136.lt))
     have m143 := m137.stpB s12 (Nat.ne_of_lt (m137.lt))
     have b23 := s12.below b22 b22.size b22.size
     refine Ln ⟨Fx.ChX.of_below s12.old, ?_⟩
     refine Fx.R.make (by rfl) ?_
     refine Fx.L.call (by rfl) (rC (args := [(pt (pp i4)), .int .i64 ((j5 : Int) + 1), .agg (Fx.varr 6 (Fx.rv .u64 (endK zK (E5 j5))))]) rfl rfl Try.func12 rfl rfl) rfl ((g_told (P5 i4) (endK zK (E5 j5)) (pp i4) ((j5 : Int) + 1) _ (m141.a i4 (by omega))).mono ?_)
     rintro e9 w22 ⟨he, m144, s13⟩
     refine ⟨_, he, ?_⟩
     clear he
     have hP2 := m141.put (by omega) s13 m144
     have ct2 := Fx.ChT.of_stp s13 (m141.a i4 (by omega)).ty
     have b24 := s13.below b23 b23.size (m141.g i4 (by omega))
     have m145 := m138.chT ct2 (by decide)
     have m146 := m139.chT ct2 (by decide)
     have m147 := m140.chT ct2 (by decide)
     have m148 := m142.chT ct2 (by decide)
     have m149 := m143.chT ct2 (by decide)
     refine Ln ⟨(Fx.ChX.of_chT ct2), ?_⟩
     refine Rp (.bool false) (fun v1 => Fx.x_neqF rfl rfl rfl (tE_ok (by omega))) (Rp (.bool false) (fun v1 => x_pickF rfl rfl rfl) (Fx.R.nil (sN (Wc (b := false) rfl (fun h => nomatch h) (fun _ => Wk (sN (Ws ?_)))))))
     have hij : ¬ i4 = j5 := by omega
     have hSt := hS5.told (i := i4) hn6 (show j5 < M9.n by omega) (hS5.kU (by omega) (by omega))
     obtain ⟨X, eX⟩ : ∃ X, X = (lack (E5 i4) (E5 j5)).take (mm + 1) := ⟨_, rfl⟩
     have hXl := len_take eX
     have hG6 := (hS5.ls i4 (by omega)).grow hcz (show j5 < 6 by omega) (hS5.ls j5 (by omega)) (mm + 1)
     have hEle := (hS5.ls i4 (by omega)).le hcz.rd
     have hEle2 := (hS5.ls j5 (by omega)).le hcz.rd
     have hGle := hG6.le hcz.rd
     have hapl : (E5 j5 ++ (lack (E5 i4) (E5 j5)).take (mm + 1)).length = (E5 j5).length + X.length := by rw [List.length_append, eX]
     -- region 38 draws
     refine Fx.W.reord [0, 1, 2, 4, 5, 6, 7, 8, 10, 3, 9, 11, 12] [0, 0, 0, 4, 0, 0, 0, 0, 0, 4, 0, 2, 0] Fx.Mk Fx.Mk.refl Fx.Mk.trans (certs := [(11, 3, [3]), (11, 9, [9]), (12, 11, [11])]) (by kernel_rfl) (by kernel_rfl) (by kernel_rfl) (by kernel_rfl) (by kernel_rfl) fun wt3 hbwt3 hzwt3 => ?_
     have s14 : Fx.Stp w22.heap.size w22 wt3 := Sb hbwt3
     have m150 := m145.stp s14 m145.ne
     have m151 := m146.stp s14 (m146.notNew (Nat.le_refl _))
     have m152 := m147.up s14.old
     have m153 := m148.stpB s14 (Nat.ne_of_lt (m148.lt))
     have m154 := m149.stpB s14 (Nat.ne_of_lt (m149.lt))
     have m155 := hP2.up s14.old
     have b25 := s14.below b24 b24.size b24.size
     refine Rp (.slice ap (M9.n) (cp)) (fun v1 => x_move rfl h45) (Rp (.int .i64 ((i4 : Int))) (fun v1 => x_move rfl h43) (Rp ((pf gq1 i4)) (fun v1 => x_indexS rfl (rfl.trans (congrArg (fun q => Value.slice q (M9.n) (cp)) eq4)) rfl Try.underlying88 (s := 1) (by kernel_rfl) (by omega) (by omega) (by omega)) (Rp (.int .i64 ((j5 : Int))) (fun v1 => x_move rfl h47) (Rp (.int .i64 ((j5 : Int) + 1)) (fun v1 => Fx.x_add rfl rfl rfl Fx.io) (Rp (.slice al (M9.n) (cl)) (fun v1 => x_move rfl h44) (Rp (.int .i64 ((i4 : Int))) (fun v1 => x_move rfl h43) (Rp ((pf gq2 i4)) (fun v1 => x_indexS rfl (rfl.trans (congrArg (fun q => Value.slice q (M9.n) (cl)) eq5)) rfl Try.underlying87 (s := 1) (by kernel_rfl) (by omega) (by omega) (by omega)) (Rp (.int .i64 ((mm : Int) + 1)) (fun v1 => x_move rfl h41) (Fx.R.s ((pt (pp i4))) (x_load1 (x := ptX pp) rfl rfl (by kernel_rfl) m153.cel (i := i4) (by omega) (by omega) rfl) ?_)))))))))
     refine Fx.R.s ((pt (pl i4))) (x_load1 (x := ptX pl) rfl rfl (by kernel_rfl) m154.cel (i := i4) (by omega) (by omega) rfl) ?_
     refine Fx.R.make (by rfl) ?_
     refine Fx.L.call (by rfl) (rC (args := [(pt (pp i4)), .int .i64 ((j5 : Int) + 1), (pt (pl i4)), .int .i64 ((mm : Int) + 1)]) rfl rfl Try.func24 rfl rfl) rfl ((f_lacks (i := i4) (X := X) (m155.a i4 (by omega)) m152 (by omega) (by show (E5 i4).length ≤ _; omega) (by rw [show ((mm : Int) + 1).toNat = mm + 1 by omega, hS5.lacks hn6 (by omega) (by omega), eX])).mono ?_)
     rintro e9 w23 ⟨a1, c1, he, ho4, hb6⟩
     refine ⟨_, he, ?_⟩
     clear he
     have s15 := Sb hb6
     have m156 := m150.stp s15 m150.ne
     have m157 := m151.stp s15 (m151.notNew (Nat.le_refl _))
     have m158 := m152.up s15.old
     have m159 := m153.stpB s15 (Nat.ne_of_lt (m153.lt))
     have m160 := m154.stpB s15 (Nat.ne_of_lt (m154.lt))
     have m161 := m155.up s15.old
     have b26 := s15.below b25 b25.size b25.size
     refine Ln ⟨s15.old, ?_⟩
     refine Rp (.slice a1 (X.length) (c1)) (fun v1 => x_assign rfl rfl) (Fx.R.nil (sN (Ws (Ws (Wl (Lv (.slice a1 (X.length) (c1)) (x_move rfl rfl) ?_))))))
     refine Lv (.int .i64 ((X.length : Int))) (x_len rfl rfl rfl (by kernel_rfl)) (Lv (.int .i64 ((mm : Int) + 1)) (x_move rfl h41) (Lv (.bool false) (x_gtrF rfl rfl rfl (by omega)) (Ln (sN (Wc (b := false) rfl (fun h => nomatch h) (fun _ => Wk (sN (Ws (Wl (Lv (.int .i64 (0)) (x_assign rfl rfl) (Ln (sN (Fx.W.block ?_)))))))))))))
     have m162 : Fx.Own w23 w3.heap.size 27 1 (.slice ap (M9.n) (cp)) M9.n (ptX pp) := m159.congV (congrArg (fun q => Value.slice q M9.n cp) eq4.symm)
     have m163 : Fx.Own w23 w3.heap.size 43 1 (.slice al (M9.n) (cl)) M9.n (ptX pl) := m160.congV (congrArg (fun q => Value.slice q M9.n cl) eq5.symm)
     have m164 : LgQ w23 w3.heap.size M9.n pl m5 (updA E5 j5 (E5 j5 ++ (lack (E5 i4) (E5 j5)).take 0)) := by rw [tell_0]; exact m158
     refine Fx.W.loop (fun f w_ => ∃ q6 : Nat, ∃ m6 : Nat → LgM, q6 ≤ X.length ∧ f 7 = (pt pw) ∧ f 9 = .int .i64 ((M9.n : Int)) ∧ f 10 = .int .i64 ((mm : Int) + 1) ∧ f 18 = .int .i64 ((rd : Int)) ∧ f 19 = .int .i64 ((i4 : Int)) ∧ f 20 = .int .i64 ((j5 : Int)) ∧ f 21 = .slice a1 (X.length) (c1) ∧ f 11 = .slice al (M9.n) (cl) ∧ f 12 = .slice ap (M9.n) (cp) ∧ f 13 = .slice aa (M9.n) (ca_) ∧ f 22 = .int .i64 ((q6 : Int)) ∧ Fx.Blk w_ pw 2 (wdY (.slice M9.la (M9.n) (M9.lc)) (.slice M9.aa (M9.an) (M9.ac))) 74 ∧ Fx.Own w_ w3.heap.size 43 1 (.slice al (M9.n) (cl)) M9.n (ptX pl) ∧ Fx.Own w_ w3.heap.size 27 1 (.slice ap (M9.n) (cp)) M9.n (ptX pp) ∧ Fx.Own w_ w3.heap.size 3 1 (.slice aa (M9.n) (ca_)) M9.n (Fx.rv .i64 fun q => (q : Int) + 1) ∧ Fx.Own w_ wt3.heap.size 50 14 (.slice a1 (X.length) (c1)) X.length (evL X) ∧ LgQ w_ w3.heap.size M9.n pl m6 (updA E5 j5 (E5 j5 ++ (lack (E5 i4) (E5 j5)).take q6)) ∧ PrF w_ w3.heap.size M9.n pp (updA P5 i4 (toldK (P5 i4) ((j5 : Int) + 1) (endK zK (E5 j5)))) ∧ Below w3.heap.size w3 w_) (fun f _ => (X.length - (intOf (f 22)).toNat)) ⟨0, m5, by omega, h39, (h40.trans Fx.ic), (h41.trans Fx.ic), (h42.trans Fx.ic), (h43.trans Fx.ic), (h47.trans Fx.ic), (by rfl), h44, h45, h46, Fx.ic, m156, m163, m162, m157, ho4, m164, m161, b26⟩ ?_
     rintro f7 w24 ⟨q6, m6, hq6, h48, h49, h50, h51, h52, h53, h54, h55, h56, h57, h58, m165, m166, m167, m168, m169, m170, m171, b27⟩
     refine Ws (Ws (Wl (Lv (.int .i64 ((q6 : Int))) (x_move rfl h58) (Lv (.slice a1 (X.length) (c1)) (x_move rfl h54) (Lv (.int .i64 ((X.length : Int))) (x_len rfl rfl rfl (by kernel_rfl)) ?_)))))
     by_cases c179 : (q6 : Int) < (X.length : Int)
     ·refine Lv (.bool true) (Fx.x_lssT rfl rfl rfl c179) (Ln (sN (Wc (b := true) rfl (fun _ => Wk (sN (Ws (Fx.W.block (Ws ?_))))) (fun h => nomatch h))))
      have hvX : X.getD q6 zeroE = (lack (E5 i4) (E5 j5)).getD q6 zeroE := getD_take eX (by omega)
      have hat : (updA E5 j5 (E5 j5 ++ (lack (E5 i4) (E5 j5)).take q6)) j5 = E5 j5 ++ (lack (E5 i4) (E5 j5)).take q6 := updA_at _ _ _
      have hwX := x_wf (hS5.ls i4 (by omega)) eX hevw (show q6 < X.length by omega)
      have hlq : (E5 j5 ++ (lack (E5 i4) (E5 j5)).take q6).length ≤ 900000 := by rw [List.length_append, List.length_take]; omega
      -- region 44 draws
      refine Fx.W.reord [0, 1, 2, 4, 5, 6, 3, 7, 8, 9] [0, 0, 0, 4, 0, 0, 0, 4, 2, 0] (Fx.ChX [106, 100]) Fx.ChX.refl Fx.ChX.trans (certs := [(8, 3, [3]), (8, 7, [7]), (9, 8, [8])]) (by kernel_rfl) (by kernel_rfl) (by kernel_rfl) (by kernel_rfl) (by kernel_rfl) fun wt4 hbwt4 hzwt4 => ?_
      have s16 : Fx.Stp w24.heap.size w24 wt4 := Sb hbwt4
      have m172 := m165.stp s16 m165.ne
      have m173 := m166.stp s16 (m166.notNew (Nat.le_refl _))
      have m174 := m167.stp s16 (m167.notNew (Nat.le_refl _))
      have m175 := m168.stp s16 (m168.notNew (Nat.le_refl _))
      have m176 := m169.stp s16 (m169.notNew (Nat.le_refl _))
      have m177 := m170.up s16.old
      have m178 := m171.up s16.old
      have b28 := s16.below b27 b27.size b27.size
      refine Rp (.slice al (M9.n) (cl)) (fun v1 => x_move rfl h55) (Rp (.int .i64 ((j5 : Int))) (fun v1 => x_move rfl h53) ?_)
      obtain ⟨gq3, eq6⟩ := m173.addr (by omega)
      have m179 : Fx.Own wt4 w3.heap.size 43 1 (.slice (some ⟨gq3, 0, none⟩) M9.n cl) M9.n (ptX pl) := m173.congV (congrArg (fun q => Value.slice q M9.n cl) eq6)
      refine Rp ((pf gq3 j5)) (fun v1 => x_indexS rfl (rfl.trans (congrArg (fun q => Value.slice q (M9.n) (cl)) eq6)) rfl Try.underlying87 (s := 1) (by kernel_rfl) (by omega) (by omega) (by omega)) (Rp (.slice a1 (X.length) (c1)) (fun v1 => x_move rfl h54) (Rp (.int .i64 ((q6 : Int))) (fun v1 => x_move rfl h58) ?_))
      obtain ⟨gq4, eq7⟩ := m176.addr (by omega)
      have m180 : Fx.Own wt4 wt3.heap.size 50 14 (.slice (some ⟨gq4, 0, none⟩) X.length c1) X.length (evL X) := m176.congV (congrArg (fun q => Value.slice q X.length c1) eq7)
      refine Rp ((pf gq4 (14 * q6))) (fun v1 => x_indexS rfl (rfl.trans (congrArg (fun q => Value.slice q (X.length) (c1)) eq7)) rfl Try.underlying46 (s := 14) (by kernel_rfl) (by omega) (by omega) (by omega)) (Fx.R.s ((pt (pl j5))) (x_load1 (x := ptX pl) rfl rfl (by kernel_rfl) m179.cel (i := j5) (by omega) (by omega) rfl) ?_)
      refine Fx.R.s (.agg (Fx.varr 14 (evY ((X).getD q6 zeroE)))) (x_loadA (x := evL X) (y := evY ((X).getD q6 zeroE)) rfl rfl (by kernel_rfl) (by kernel_rfl) m180.cel (i := 14 * q6) (by omega) (by omega) (fun jq hjq => Fx.flat_at (k := q6) (by omega) hjq)) ?_
      refine Fx.R.make (by rfl) ?_
      refine Fx.L.call (by rfl) (rC (args := [(pt (pl j5)), .agg (Fx.varr 14 (evY ((X).getD q6 zeroE)))]) rfl rfl Try.func19 rfl rfl) rfl ((f_addP (v := (X.getD q6 zeroE)) (j := j5) rfl m177 (by omega) b28.size (by rw [hat]; exact hlq) hwX (by rw [hat, hvX]; exact lack_rdy (hS5.ls i4 (by omega)) (by omega))).mono ?_)
      rintro e9 w25 ⟨he, hc2, ml2, hF4⟩
      refine ⟨_, he, ?_⟩
      clear he
      rw [getD_take eX (by omega), tell_up (by omega)] at hF4
      have hF5 := hF4
      have ct3 := (m177.a j5 (by omega)).chm hc2
      have b29 := b28.trans ((m177.a j5 (by omega)).below b28.size hc2)
      have m181 := m172.chT ct3 (by decide)
      have m182 := m174.chT ct3 (by decide)
      have m183 := m175.chT ct3 (by decide)
      have m184 := m178.chT ct3 (by decide)
      have m185 := m179.chT ct3 (by decide)
      have m186 := m180.chT ct3 (by decide)
      refine Ln ⟨(Fx.ChX.of_chT ct3), ?_⟩
      refine Rp (.bool false) (fun v1 => Fx.x_neqF rfl rfl rfl rfl) (Fx.R.nil (sN (Wc (b := false) rfl (fun h => nomatch h) (fun _ => Wk (Fx.blkN (sN (Wl (Lv (.int .i64 ((q6 : Int))) (x_move rfl h58) ?_))))))))
      refine Lv (.int .i64 ((q6 : Int) + 1)) (Fx.x_add rfl rfl rfl Fx.io) (Lv (.int .i64 ((q6 : Int) + 1)) (x_assign rfl rfl) (Ln ?_))
      have m187 : Fx.Own w25 w3.heap.size 43 1 (.slice al (M9.n) (cl)) M9.n (ptX pl) := m185.congV (congrArg (fun q => Value.slice q M9.n cl) eq6.symm)
      have m188 : Fx.Own w25 wt3.heap.size 50 14 (.slice a1 (X.length) (c1)) X.length (evL X) := m186.congV (congrArg (fun q => Value.slice q X.length c1) eq7.symm)
      refine Fx.lpN ⟨q6 + 1, ml2, by omega, h48, (h49.trans Fx.ic), (h50.trans Fx.ic), (h51.trans Fx.ic), (h52.trans Fx.ic), (h53.trans Fx.ic), h54, h55, h56, h57, Fx.ic, m181, m187, m182, m183, m188, hF5, m184, b29⟩ ?_
      show (X.length - (intOf ((.int .i64 ((q6 : Int) + 1)))).toNat) < _
      simp only [h58, intOf]; omega
     refine Lv (.bool false) (Fx.x_lssF rfl rfl rfl c179) (Ln (sN (Wc (b := false) rfl (fun h => nomatch h) (fun _ => Fx.W.exit (Fx.seqX (Fx.lpX (Fx.blkX (Fx.blkN (sN (Wl (Lv (.int .i64 ((j5 : Int))) (x_move rfl h53) (Lv (.int .i64 ((j5 : Int) + 1)) (Fx.x_add rfl rfl rfl Fx.io) (Lv (.int .i64 ((j5 : Int) + 1)) (x_assign rfl rfl) (Ln ?_))))))))))))))
     have e6 : q6 = X.length := by omega
     have m189 : LgQ w24 w3.heap.size M9.n pl m6 (updA E5 j5 (E5 j5 ++ (lack (E5 i4) (E5 j5)).take (mm + 1))) := by have h := m170; rw [e6, take_take' eX] at h; exact h
     skip
     refine Fx.lpN ⟨j5 + 1, m6, (updA E5 j5 (E5 j5 ++ (lack (E5 i4) (E5 j5)).take (mm + 1))), (updA P5 i4 (toldK (P5 i4) ((j5 : Int) + 1) (endK zK (E5 j5)))), by omega, (hSt.tell hG6), (hpg5.tell hS5 (by omega) (by omega) (by omega) hcz.rd (by omega) hG6 hn6), h48, (h49.trans Fx.ic), (h50.trans Fx.ic), (h51.trans Fx.ic), (h52.trans Fx.ic), h55, h56, h57, Fx.ic, m165, m166, m167, m168, m189, m171, b27⟩ ?_
     show (M9.n - (intOf ((.int .i64 ((j5 : Int) + 1)))).toNat) < _
     simp only [h47, intOf]; omega
    refine Lv (.bool false) (Fx.x_lssF rfl rfl rfl c136) (Ln (sN (Wc (b := false) rfl (fun h => nomatch h) (fun _ => Fx.W.exit (Fx.seqX (Fx.lpX (Fx.blkX (sN ?_))))))))
    -- region 46 draws
    refine Fx.W.reord [0, 1, 2, 4, 5, 6, 7, 8, 3, 9, 10, 11] [0, 0, 0, 1, 0, 0, 0, 0, 0, 4, 2, 2] (Fx.ChX [92]) Fx.ChX.refl Fx.ChX.trans (certs := [(10, 9, [9]), (11, 9, [10, 9]), (11, 10, [10])]) (by kernel_rfl) (by kernel_rfl) (by kernel_rfl) (by kernel_rfl) (by kernel_rfl) fun wt5 hbwt5 hzwt5 => ?_
    have s17 : Fx.Stp w20.heap.size w20 wt5 := Sb hbwt5
    have m190 := m124.stp s17 m124.ne
    have m191 := m125.stp s17 (m125.notNew (Nat.le_refl _))
    have m192 := m126.stp s17 (m126.notNew (Nat.le_refl _))
    have m193 := m127.stp s17 (m127.notNew (Nat.le_refl _))
    have m194 := m128.up s17.old
    have m195 := m129.up s17.old
    have b30 := s17.below b21 b21.size b21.size
    refine Rp (.slice ap (M9.n) (cp)) (fun v1 => x_move rfl h45) (Rp (.int .i64 ((i4 : Int))) (fun v1 => x_move rfl h43) ?_)
    obtain ⟨gq5, eq8⟩ := m192.addr (by omega)
    have m196 : Fx.Own wt5 w3.heap.size 27 1 (.slice (some ⟨gq5, 0, none⟩) M9.n cp) M9.n (ptX pp) := m192.congV (congrArg (fun q => Value.slice q M9.n cp) eq8)
    refine Rp ((pf gq5 i4)) (fun v1 => x_indexS rfl (rfl.trans (congrArg (fun q => Value.slice q (M9.n) (cp)) eq8)) rfl Try.underlying88 (s := 1) (by kernel_rfl) (by omega) (by omega) (by omega)) (Rp (.int .i64 ((i4 : Int))) (fun v1 => x_move rfl h43) (Rp (.int .i64 ((i4 : Int) + 1)) (fun v1 => Fx.x_add rfl rfl rfl Fx.io) (Rp (.slice al (M9.n) (cl)) (fun v1 => x_move rfl h44) (Rp (.int .i64 ((i4 : Int))) (fun v1 => x_move rfl h43) ?_))))
    obtain ⟨gq6, eq9⟩ := m191.addr (by omega)
    have m197 : Fx.Own wt5 w3.heap.size 43 1 (.slice (some ⟨gq6, 0, none⟩) M9.n cl) M9.n (ptX pl) := m191.congV (congrArg (fun q => Value.slice q M9.n cl) eq9)
    refine Rp ((pf gq6 i4)) (fun v1 => x_indexS rfl (rfl.trans (congrArg (fun q => Value.slice q (M9.n) (cl)) eq9)) rfl Try.underlying87 (s := 1) (by kernel_rfl) (by omega) (by omega) (by omega)) (Fx.R.read (v := (pt (pp i4))) (by rfl) (by rfl) (Fx.ChX.refl _) (fun v1 hv1 => x_load1 (x := ptX pp) rfl rfl (by kernel_rfl) (m196.chX hv1 (by decide)).cel (i := i4) (by omega) (by omega) rfl) ?_)
    refine Fx.R.s ((pt (pl i4))) (x_load1 (x := ptX pl) rfl rfl (by kernel_rfl) m197.cel (i := i4) (by omega) (by omega) rfl) ?_
    refine Fx.R.make (by rfl) ?_
    refine Fx.L.call (by rfl) (rC (args := [(pt (pl i4))]) rfl rfl Try.func27 rfl rfl) rfl ((f_knownQ (j := i4) m194 (by omega)).mono ?_)
    rintro e w26 ⟨he, hb7⟩
    refine ⟨.agg (Fx.varr 6 (Fx.rv .u64 (endK zK (E5 i4)))), by rw [he], ?_⟩
    clear he
    have s18 := Sb hb7
    have m198 := m190.stp s18 m190.ne
    have m199 := m193.stp s18 (m193.notNew (Nat.le_refl _))
    have m200 := m194.up s18.old
    have m201 := m195.up s18.old
    have m202 := m196.stpB s18 (Nat.ne_of_lt (m196.lt))
    have m203 := m197.stpB s18 (Nat.ne_of_lt (m197.lt))
    have b31 := s18.below b30 b30.size b30.size
    refine Ln ⟨Fx.ChX.of_below s18.old, ?_⟩
    refine Fx.R.make (by rfl) ?_
    refine Fx.L.call (by rfl) (rC (args := [(pt (pp i4)), .int .i64 ((i4 : Int) + 1), .agg (Fx.varr 6 (Fx.rv .u64 (endK zK (E5 i4))))]) rfl rfl Try.func12 rfl rfl) rfl ((g_told (P5 i4) (endK zK (E5 i4)) (pp i4) ((i4 : Int) + 1) _ (m201.a i4 (by omega))).mono ?_)
    rintro e9 w27 ⟨he, m204, s19⟩
    refine ⟨_, he, ?_⟩
    clear he
    have hP3 := m201.put (by omega) s19 m204
    have ct4 := Fx.ChT.of_stp s19 (m201.a i4 (by omega)).ty
    have b32 := s19.below b31 b31.size (m201.g i4 (by omega))
    have m205 := m198.chT ct4 (by decide)
    have m206 := m199.chT ct4 (by decide)
    have m207 := m200.chT ct4 (by decide)
    have m208 := m202.chT ct4 (by decide)
    have m209 := m203.chT ct4 (by decide)
    refine Ln ⟨(Fx.ChX.of_chT ct4), ?_⟩
    refine Fx.R.nil (Fx.blkN (sN (Wl (Lv (.int .i64 ((i4 : Int))) (x_move rfl h43) ?_))))
    refine Lv (.int .i64 ((i4 : Int) + 1)) (Fx.x_add rfl rfl rfl Fx.io) (Lv (.int .i64 ((i4 : Int) + 1)) (x_assign rfl rfl) (Ln ?_))
    have m210 : Fx.Own w27 w3.heap.size 27 1 (.slice ap (M9.n) (cp)) M9.n (ptX pp) := m208.congV (congrArg (fun q => Value.slice q M9.n cp) eq8.symm)
    have m211 : Fx.Own w27 w3.heap.size 43 1 (.slice al (M9.n) (cl)) M9.n (ptX pl) := m209.congV (congrArg (fun q => Value.slice q M9.n cl) eq9.symm)
    refine Fx.lpN ⟨i4 + 1, m5, E5, (updA P5 i4 (toldK (P5 i4) ((i4 : Int) + 1) (endK zK (E5 i4)))), by omega, (hS5.told hn6 (by omega) (hS5.kU (by omega) (by omega))), (Prog.next (by have e : j5 = M9.n := (by omega); rw [e] at hpg5; exact hpg5)), h39, (h40.trans Fx.ic), (h41.trans Fx.ic), (h42.trans Fx.ic), h44, h45, h46, Fx.ic, m205, m211, m210, m206, m207, hP3, b32⟩ ?_
    show (M9.n - (intOf ((.int .i64 ((i4 : Int) + 1)))).toNat) < _
    simp only [h38, intOf]; omega
   refine Lv (.bool false) (Fx.x_lssF rfl rfl rfl c131) (Ln (sN (Wc (b := false) rfl (fun h => nomatch h) (fun _ => Fx.W.exit (Fx.seqX (Fx.lpX (Fx.blkX (Fx.blkN (sN (Wl (Lv (.int .i64 ((rd : Int))) (x_move rfl h34) (Lv (.int .i64 ((rd : Int) + 1)) (Fx.x_add rfl rfl rfl Fx.io) (Lv (.int .i64 ((rd : Int) + 1)) (x_assign rfl rfl) (Ln (Fx.lpN ⟨rd + 1, m4, E4, P4, by omega, hS4, (Prog.fin (by have e : i4 = M9.n := (by omega); rw [← e]; rw [← e] at hpg4; exact hpg4) hS4 hcz.rd hcz.reg), h31, (h32.trans Fx.ic), (h33.trans Fx.ic), h35, h36, h37, Fx.ic, m118, m119, m120, m121, m122, m123, b20⟩ ?_)))))))))))))))
   show (M9.an + 2 - (intOf ((.int .i64 ((rd : Int) + 1)))).toNat) < _
   simp only [h30, intOf]; omega
  refine Lv (.bool false) (x_leqF rfl rfl rfl c126) (Ln (sN (Wc (b := false) rfl (fun h => nomatch h) (fun _ => Fx.W.exit (Fx.seqX (Fx.lpX (Fx.blkX (sN (Ws (Ws ?_))))))))))
  have erd : rd = M9.an + 2 := by omega
  have hA := hS3.all hcz.rd (.inr (by rw [← erd]; exact hp3))
  have m212 : LgF w18 w3.heap.size M9.n pl m3 (eOut E3 0) (eK E3) (eN E3) := by rw [eOut_0]; exact m116
  refine Wl (Lv (.int .i64 (0)) (x_assign rfl rfl) (Ln (sN (Fx.W.block (Fx.W.loop (fun f w_ => ∃ c7 : Nat, ∃ m7 : Nat → LgM, c7 ≤ M9.n ∧ f 7 = (pt pw) ∧ f 9 = .int .i64 ((M9.n : Int)) ∧ f 11 = .slice al (M9.n) (cl) ∧ f 12 = .slice ap (M9.n) (cp) ∧ f 13 = .slice aa (M9.n) (ca_) ∧ f 23 = .int .i64 ((c7 : Int)) ∧ Fx.Blk w_ pw 2 (wdY (.slice M9.la (M9.n) (M9.lc)) (.slice M9.aa (M9.an) (M9.ac))) 74 ∧ Fx.Own w_ w3.heap.size 43 1 (.slice al (M9.n) (cl)) M9.n (ptX pl) ∧ Fx.Own w_ w3.heap.size 27 1 (.slice ap (M9.n) (cp)) M9.n (ptX pp) ∧ Fx.Own w_ w3.heap.size 3 1 (.slice aa (M9.n) (ca_)) M9.n (Fx.rv .i64 fun q => (q : Int) + 1) ∧ LgF w_ w3.heap.size M9.n pl m7 (eOut E3 c7) (eK E3) (eN E3) ∧ PrF w_ w3.heap.size M9.n pp P3 ∧ Below w3.heap.size w3 w_) (fun f _ => (M9.n - (intOf (f 23)).toNat)) ⟨0, m3, by omega, h24, (h25.trans Fx.ic), h27, h28, h29, Fx.ic, m112, m113, m114, m115, m212, m117, b19⟩ ?_)))))
  rintro f8 w28 ⟨c7, m7, hc7, h59, h60, h61, h62, h63, h64, m213, m214, m215, m216, m217, m218, b33⟩
  refine Ws (Ws (Wl (Lv (.int .i64 ((c7 : Int))) (x_move rfl h64) (Lv (.int .i64 ((M9.n : Int))) (x_move rfl h60) ?_))))
  by_cases c206 : (c7 : Int) < (M9.n : Int)
  ·refine Lv (.bool true) (Fx.x_lssT rfl rfl rfl c206) (Ln (sN (Wc (b := true) rfl (fun _ => Wk (sN (Ws (Fx.W.block (Ws ?_))))) (fun h => nomatch h))))
   have hAc := hA c7 (by omega)
   have hA0 := hA 0 (by omega)
   have hEc : ((eOut E3 c7 c7).length : Int) = (M9.an : Int) := by rw [eOut_at]; have := hAc.1; omega
   have hEd : ((eOut E3 (c7 + 1) c7).length : Int) = 0 := by rw [show eOut E3 (c7 + 1) c7 = [] from if_pos (by omega)]; rfl
   have hlq := hS3.least (c := c7) (by omega) (by omega)
   refine Wl (Lv (.slice ap (M9.n) (cp)) (x_move rfl h62) (Lv (.int .i64 ((c7 : Int))) (x_move rfl h64) ?_))
   obtain ⟨gq7, eq10⟩ := m215.addr (by omega)
   have m219 : Fx.Own w28 w3.heap.size 27 1 (.slice (some ⟨gq7, 0, none⟩) M9.n cp) M9.n (ptX pp) := m215.congV (congrArg (fun q => Value.slice q M9.n cp) eq10)
   refine Lv ((pf gq7 c7)) (x_indexS rfl (rfl.trans (congrArg (fun q => Value.slice q (M9.n) (cp)) eq10)) rfl Try.underlying88 (s := 1) (by kernel_rfl) (by omega) (by omega) (by omega)) (Lv ((pt (pp c7))) (x_load1 (x := ptX pp) rfl rfl (by kernel_rfl) m219.cel (i := c7) (by omega) (by omega) rfl) (Lv (.slice aa (M9.n) (ca_)) (x_move rfl h63) (Fx.L.call (by rfl) (rC (args := [(pt (pp c7)), .slice aa (M9.n) (ca_)]) rfl rfl Try.func21 rfl rfl) rfl ((g_least (P3 c7) (fun q => (q : Int) + 1) (pp c7) aa M9.n ca_ _ (by omega) (arr_its m216.arr) (m218.a c7 (by omega))).mono ?_))))
   rintro e w29 ⟨he, hb8⟩
   refine ⟨.agg (Fx.varr 6 (Fx.rv .u64 (leastV (P3 c7) (fun q => (q : Int) + 1) M9.n))), by rw [he], ?_⟩
   clear he
   have s20 := Sb hb8
   have m220 := m213.stp s20 m213.ne
   have m221 := m214.stp s20 (m214.notNew (Nat.le_refl _))
   have m222 := m216.stp s20 (m216.notNew (Nat.le_refl _))
   have m223 := m217.up s20.old
   have m224 := m218.up s20.old
   have m225 := m219.stpB s20 (Nat.ne_of_lt (m219.lt))
   have b34 := s20.below b33 b33.size b33.size
   refine Fx.L.new (m := 6) (y := Fx.rv .u64 (fun _ => 0)) (by rfl) rfl (by kernel_rfl) rfl fun g8 w30 eg8 m226 s21 z6 => ?_
   have m227 := m220.stp s21 m220.ne
   have m228 := m221.stp s21 (m221.notNew (Nat.le_refl _))
   have m229 := m222.stp s21 (m222.notNew (Nat.le_refl _))
   have m230 := m223.up s21.old
   have m231 := m224.up s21.old
   have m232 := m225.stpB s21 (Nat.ne_of_lt (m225.lt))
   have b35 := s21.below b34 b34.size b34.size
   have lg8 : w3.heap.size ≤ g8 := by rw [eg8]; exact b34.size
   have ng8m227 : pw ≠ g8 := by rw [eg8]; exact Nat.ne_of_lt (m220.lt)
   have ng8m232 : gq7 ≠ g8 := by rw [eg8]; exact Nat.ne_of_lt (m225.lt)
   have tg8 : g8 < w30.heap.size := m226.lt
   clear eg8
   refine Fx.L.storeA (x := Fx.rv .u64 (fun _ => 0)) (y := Fx.rv .u64 (leastV (P3 c7) (fun q => (q : Int) + 1) M9.n)) (by rfl) rfl rfl rfl rfl (fun _ _ => rfl) (by kernel_rfl) m226 (i := 0) (by omega) fun w31 m233 s22 z7 => ?_
   have m234 : Fx.Blk w31 g8 6 (Fx.rv .u64 (leastV (P3 c7) (fun q => (q : Int) + 1) M9.n)) 32 := Fx.ovr_all m233
   have hct5 := Fx.ChT.of_stp s22 m226.ty
   have m235 := m227.chT hct5 (by decide)
   have m236 := m228.chT hct5 (by decide)
   have m237 := m229.chT hct5 (by decide)
   have m238 := m230.chT hct5 (by decide)
   have m239 := m231.chT hct5 (by decide)
   have m240 := m232.chT hct5 (by decide)
   have b36 := s22.below b35 b35.size (by omega)
   refine Ln (sN (Ws (Ws ?_)))
   -- region 51 draws
   refine Fx.W.quiet (fun v1 => Below w31.heap.size w31 v1) (by kernel_rfl) (by kernel_rfl) (Below.refl _ _).drew ?_
   refine Qv (.slice al (M9.n) (cl)) (fun v1 hv1 => x_move rfl h61) (Qv (.int .i64 ((c7 : Int))) (fun v1 hv1 => x_move rfl h64) ?_)
   obtain ⟨gq8, eq11⟩ := m236.addr (by omega)
   have m241 : Fx.Own w31 w3.heap.size 43 1 (.slice (some ⟨gq8, 0, none⟩) M9.n cl) M9.n (ptX pl) := m236.congV (congrArg (fun q => Value.slice q M9.n cl) eq11)
   refine Qv ((pf gq8 c7)) (fun v1 hv1 => x_indexS rfl (rfl.trans (congrArg (fun q => Value.slice q (M9.n) (cl)) eq11)) rfl Try.underlying87 (s := 1) (by kernel_rfl) (by omega) (by omega) (by omega)) (Qv ((pt (pl c7))) (fun v1 hv1 => x_load1 (x := ptX pl) rfl rfl (by kernel_rfl) (m241.cel.below hv1 (by have := m241.lt; omega)) (i := c7) (by omega) (by omega) rfl) (Fx.Qt.call (v := .agg (Fx.varr 6 (Fx.rv .u64 ((eK E3) c7)))) (by rfl) (fun v1 hv1 => rC (args := [(pt (pl c7))]) rfl rfl Try.func27 rfl rfl) rfl (fun v1 hv1 => (f_known (j := c7) (m238.up hv1) (by omega)).mono fun e v2 h => ⟨h.1, bch hv1 h.2⟩) ?_))
   refine Qv (.slice al (M9.n) (cl)) (fun v1 hv1 => x_move rfl h61) (Qv ((pt gq8)) (fun v1 hv1 => x_indexS rfl (rfl.trans (congrArg (fun q => Value.slice q (M9.n) (cl)) eq11)) rfl Try.underlying87 (s := 1) (by kernel_rfl) (by omega) (by omega) (by omega)) (Qv ((pt (pl 0))) (fun v1 hv1 => x_load1 (x := ptX pl) rfl rfl (by kernel_rfl) (m241.cel.below hv1 (by have := m241.lt; omega)) (i := 0) (by omega) (by omega) rfl) (Fx.Qt.call (v := .agg (Fx.varr 6 (Fx.rv .u64 ((eK E3) 0)))) (by rfl) (fun v1 hv1 => rC (args := [(pt (pl 0))]) rfl rfl Try.func27 rfl rfl) rfl (fun v1 hv1 => (f_known (j := 0) (m238.up hv1) (by omega)).mono fun e v2 h => ⟨h.1, bch hv1 h.2⟩) ?_)))
   refine Qv (.bool false) (fun v1 hv1 => Fx.x_neqA (n := 6) (ks := List.replicate 6 (some .u64)) (X := Fx.rv .u64 ((eK E3) c7)) (Y := Fx.rv .u64 ((eK E3) 0)) 12 true rfl rfl rfl (Fx.yesb (fun r hr => congrArg (Value.int .u64) ((hAc.2 r hr).trans (hA0.2 r hr).symm))) (Fx.kd_rv fun i hi => Fx.wfu64 (hS3.kU (j := c7) (by omega) (by omega) i (by simpa using hi))) (Fx.kd_rv fun i hi => Fx.wfu64 (hS3.kU (j := 0) (by omega) (by omega) i (by simpa using hi))) rfl (by kernel_rfl) (by kernel_rfl) (by kernel_rfl) (by kernel_rfl) (by kernel_rfl)) (Qv (.bool false) (fun v1 hv1 => x_move rfl rfl) (Qv (.slice al (M9.n) (cl)) (fun v1 hv1 => x_move rfl h61) (Qv (.int .i64 ((c7 : Int))) (fun v1 hv1 => x_move rfl h64) (Qv ((pf gq8 c7)) (fun v1 hv1 => x_indexS rfl (rfl.trans (congrArg (fun q => Value.slice q (M9.n) (cl)) eq11)) rfl Try.underlying87 (s := 1) (by kernel_rfl) (by omega) (by omega) (by omega)) (Qv ((pt (pl c7))) (fun v1 hv1 => x_load1 (x := ptX pl) rfl rfl (by kernel_rfl) (m241.cel.below hv1 (by have := m241.lt; omega)) (i := c7) (by omega) (by omega) rfl) (Fx.Qt.call (v := .int .i64 ((((eOut E3 c7) c7).length : Int))) (by rfl) (fun v1 hv1 => rC (args := [(pt (pl c7))]) rfl rfl Try.func30 rfl rfl) rfl (fun v1 hv1 => (f_len (j := c7) (m238.up hv1) (by omega) (by show (E3 c7).length ≤ _; have := (hA c7 (by omega)).1; omega)).mono fun e v2 h => ⟨h.1, bch hv1 h.2⟩) ?_))))))
   refine Qv ((pt pw)) (fun v1 hv1 => x_move rfl h59) (Qv ((pt pw)) (fun v1 hv1 => x_nil rfl rfl) (Qv ((pf pw 1)) (fun v1 hv1 => x_field rfl rfl Try.underlying74 rfl (s := 1) (by kernel_rfl) rfl (by show _ + 1 = _; omega)) (Qv (.slice M9.aa (M9.an) (M9.ac)) (fun v1 hv1 => x_load1 (x := wdY (.slice M9.la (M9.n) (M9.lc)) (.slice M9.aa (M9.an) (M9.ac))) rfl rfl (by kernel_rfl) (m235.cel.below hv1 (by have := m235.lt; omega)) (i := 1) (by omega) (by omega) rfl) (Qv (.int .i64 ((M9.an : Int))) (fun v1 hv1 => x_len rfl rfl rfl (by kernel_rfl)) (Qv (.bool false) (fun v1 hv1 => Fx.x_neqF rfl rfl rfl hEc) (Qv (.bool false) (fun v1 hv1 => x_pickF rfl rfl rfl) (Qv (.bool false) (fun v1 hv1 => x_move rfl rfl) (Qv (.agg (Fx.varr 6 (Fx.rv .u64 (leastV (P3 c7) (fun q => (q : Int) + 1) M9.n)))) (fun v1 hv1 => x_loadA (x := Fx.rv .u64 (leastV (P3 c7) (fun q => (q : Int) + 1) M9.n)) (y := Fx.rv .u64 (leastV (P3 c7) (fun q => (q : Int) + 1) M9.n)) rfl rfl (by kernel_rfl) (by kernel_rfl) (m234.cel.below hv1 (by have := m234.lt; omega)) (i := 0) (by omega) (by omega) (fun j _ => by rw [Nat.zero_add])) (Qv (.slice al (M9.n) (cl)) (fun v1 hv1 => x_move rfl h61) (Qv ((pt gq8)) (fun v1 hv1 => x_indexS rfl (rfl.trans (congrArg (fun q => Value.slice q (M9.n) (cl)) eq11)) rfl Try.underlying87 (s := 1) (by kernel_rfl) (by omega) (by omega) (by omega)) (Qv ((pt (pl 0))) (fun v1 hv1 => x_load1 (x := ptX pl) rfl rfl (by kernel_rfl) (m241.cel.below hv1 (by have := m241.lt; omega)) (i := 0) (by omega) (by omega) rfl) (Fx.Qt.call (v := .agg (Fx.varr 6 (Fx.rv .u64 ((eK E3) 0)))) (by rfl) (fun v1 hv1 => rC (args := [(pt (pl 0))]) rfl rfl Try.func27 rfl rfl) rfl (fun v1 hv1 => (f_known (j := 0) (m238.up hv1) (by omega)).mono fun e v2 h => ⟨h.1, bch hv1 h.2⟩) ?_))))))))))))
   by_cases c244 : ∀ i, i < 6 → (Fx.rv .u64 (leastV (P3 c7) (fun q => (q : Int) + 1) M9.n)) i = (Fx.rv .u64 ((eK E3) 0)) i
   ·refine Qv (.bool false) (fun v1 hv1 => Fx.x_neqA (n := 6) (ks := List.replicate 6 (some .u64)) (X := Fx.rv .u64 (leastV (P3 c7) (fun q => (q : Int) + 1) M9.n)) (Y := Fx.rv .u64 ((eK E3) 0)) 12 true rfl rfl rfl (Fx.yesb c244) (kd_u (least_u (hS3.pu c7) _)) (Fx.kd_rv fun i hi => Fx.wfu64 (hS3.kU (j := 0) (by omega) (by omega) i (by simpa using hi))) rfl (by kernel_rfl) (by kernel_rfl) (by kernel_rfl) (by kernel_rfl) (by kernel_rfl)) (Qv (.bool false) (fun v1 hv1 => x_move rfl rfl) (Qs (by rfl) rfl (Qs (by rfl) rfl (Qv (.bool false) (fun v1 hv1 => x_pickF rfl rfl rfl) (Qv (.bool false) (fun v1 hv1 => x_move rfl rfl) (Qs (by rfl) rfl (Qs (by rfl) rfl (Qs (by rfl) rfl (Qs (by rfl) rfl (Qs (by rfl) rfl (Qs (by rfl) rfl (Qs (by rfl) rfl (Qv (.bool false) (fun v1 hv1 => x_pickF rfl rfl rfl) (Qv (.bool false) (fun v1 hv1 => x_pickF rfl rfl rfl) (Fx.Qt.nil ?_)))))))))))))))
    intro wb1 hbwb1
    have s23 : Fx.Stp w31.heap.size w31 wb1 := Sb hbwb1
    have m242 := m235.stp s23 m235.ne
    have m243 := m237.stp s23 (m237.notNew (Nat.le_refl _))
    have m244 := m238.up s23.old
    have m245 := m239.up s23.old
    have m246 := m240.stpB s23 (Nat.ne_of_lt (m240.lt))
    have m248 := m241.stpB s23 (Nat.ne_of_lt (m241.lt))
    have b37 := s23.below b36 b36.size b36.size
    refine sN (Wc (b := false) rfl (fun h => nomatch h) (fun _ => Wk (sN (Ws ?_))))
    -- region 53 draws
    refine Fx.W.reord [0, 1, 2, 4, 5, 9, 10, 11, 3, 6, 12, 13, 7, 8, 14, 15, 16, 17, 18, 19, 20, 21, 22] [0, 0, 0, 1, 0, 0, 4, 2, 2, 0, 0, 0, 1, 0, 0, 0, 0, 0, 0, 4, 2, 0, 0] (Fx.ChX [106, 100]) Fx.ChX.refl Fx.ChX.trans (certs := [(7, 6, [6]), (8, 6, [7, 6]), (20, 6, [15, 8, 7, 6]), (8, 7, [7]), (14, 7, [8, 7]), (15, 7, [8, 7]), (16, 7, [15, 8, 7]), (17, 7, [15, 8, 7]), (18, 7, [15, 8, 7]), (19, 7, [15, 8, 7]), (20, 7, [15, 8, 7]), (21, 7, [15, 8, 7]), (22, 7, [15, 8, 7]), (14, 8, [8]), (15, 8, [8]), (16, 8, [15, 8]), (17, 8, [15, 8]), (18, 8, [15, 8]), (19, 8, [15, 8]), (20, 8, [15, 8]), (21, 8, [15, 8]), (22, 8, [15, 8]), (20, 19, [19]), (21, 20, [20]), (22, 20, [21, 20])]) (by kernel_rfl) (by kernel_rfl) (by kernel_rfl) (by kernel_rfl) (by kernel_rfl) fun wt6 hbwt6 hzwt6 => ?_
    have s24 : Fx.Stp wb1.heap.size wb1 wt6 := Sb hbwt6
    have m249 := m242.stp s24 m242.ne
    have m250 := m243.stp s24 (m243.notNew (Nat.le_refl _))
    have m251 := m244.up s24.old
    have m252 := m245.up s24.old
    have m253 := m246.stpB s24 (Nat.ne_of_lt (m246.lt))
    have m255 := m248.stpB s24 (Nat.ne_of_lt (m248.lt))
    have b38 := s24.below b37 b37.size b37.size
    refine Rp (.slice al (M9.n) (cl)) (fun v1 => x_move rfl h61) (Rp (.int .i64 ((c7 : Int))) (fun v1 => x_move rfl h64) (Rp ((pf gq8 c7)) (fun v1 => x_indexS rfl (rfl.trans (congrArg (fun q => Value.slice q (M9.n) (cl)) eq11)) rfl Try.underlying87 (s := 1) (by kernel_rfl) (by omega) (by omega) (by omega)) (Rp (.slice al (M9.n) (cl)) (fun v1 => x_move rfl h61) (Rp ((pt gq8)) (fun v1 => x_indexS rfl (rfl.trans (congrArg (fun q => Value.slice q (M9.n) (cl)) eq11)) rfl Try.underlying87 (s := 1) (by kernel_rfl) (by omega) (by omega) (by omega)) (Rp ((pt pw)) (fun v1 => x_move rfl h59) (Rp ((pt pw)) (fun v1 => x_nil rfl rfl) (Rp ((pf pw 1)) (fun v1 => x_field rfl rfl Try.underlying74 rfl (s := 1) (by kernel_rfl) rfl (by show _ + 1 = _; omega)) (Fx.R.read (v := (pt (pl c7))) (by rfl) (by rfl) (Fx.ChX.refl _) (fun v1 hv1 => x_load1 (x := ptX pl) rfl rfl (by kernel_rfl) (m255.chX hv1 (by decide)).cel (i := c7) (by omega) (by omega) rfl) ?_))))))))
    refine Fx.R.s ((pt (pl 0))) (x_load1 (x := ptX pl) rfl rfl (by kernel_rfl) m255.cel (i := 0) (by omega) (by omega) rfl) ?_
    refine Fx.R.read (v := .slice M9.aa (M9.an) (M9.ac)) (by rfl) (by rfl) (Fx.ChX.refl _) (fun v1 hv1 => x_load1 (x := wdY (.slice M9.la (M9.n) (M9.lc)) (.slice M9.aa (M9.an) (M9.ac))) rfl rfl (by kernel_rfl) (m249.chX hv1 (by decide)).cel (i := 1) (by omega) (by omega) rfl) ?_
    refine Rp (.int .i64 ((M9.an : Int))) (fun v1 => x_len rfl rfl rfl (by kernel_rfl)) (Fx.R.make (by rfl) ?_)
    refine Fx.L.call (by rfl) (rC (args := [(pt (pl 0))]) rfl rfl Try.func27 rfl rfl) rfl ((f_known (j := 0) m251 (by omega)).mono ?_)
    rintro e w32 ⟨he, hb9⟩
    refine ⟨.agg (Fx.varr 6 (Fx.rv .u64 ((eK E3) 0))), by rw [he], ?_⟩
    clear he
    have s25 := Sb hb9
    have m256 := m249.stp s25 m249.ne
    have m257 := m250.stp s25 (m250.notNew (Nat.le_refl _))
    have m258 := m251.up s25.old
    have m259 := m252.up s25.old
    have m260 := m253.stpB s25 (Nat.ne_of_lt (m253.lt))
    have m262 := m255.stpB s25 (Nat.ne_of_lt (m255.lt))
    have b39 := s25.below b38 b38.size b38.size
    refine Ln ⟨Fx.ChX.of_below s25.old, ?_⟩
    refine Fx.R.make (by rfl) ?_
    refine Fx.L.call (by rfl) (rC (args := [(pt (pl c7)), .agg (Fx.varr 6 (Fx.rv .u64 ((eK E3) 0)))]) rfl rfl Try.func28 rfl rfl) rfl ((f_prune (eK E3 0) (j := c7) m258 (by omega) b39.size (by show (E3 c7).length ≤ _; have := (hA c7 (by omega)).1; omega) (by rw [eOut_at]; exact hS3.gone hA (by omega) (by omega))).mono ?_)
    rintro e9 w33 ⟨he, hc3, ml3, hF6⟩
    refine ⟨_, he, ?_⟩
    clear he
    rw [eOut_s] at hF6
    have ct5 := (m258.a c7 (by omega)).chm hc3
    have b40 := b39.trans ((m258.a c7 (by omega)).below b39.size hc3)
    have m263 := m256.chT ct5 (by decide)
    have m264 := m257.chT ct5 (by decide)
    have m265 := m259.chT ct5 (by decide)
    have m266 := m260.chT ct5 (by decide)
    have m268 := m262.chT ct5 (by decide)
    refine Ln ⟨(Fx.ChX.of_chT ct5), ?_⟩
    refine Rp (.bool false) (fun v1 => Fx.x_neqF rfl rfl rfl hEc) (Rp (.bool false) (fun v1 => x_move rfl rfl) (Rp (.slice al (M9.n) (cl)) (fun v1 => x_move rfl h61) (Rp (.int .i64 ((c7 : Int))) (fun v1 => x_move rfl h64) (Rp ((pf gq8 c7)) (fun v1 => x_indexS rfl (rfl.trans (congrArg (fun q => Value.slice q (M9.n) (cl)) eq11)) rfl Try.underlying87 (s := 1) (by kernel_rfl) (by omega) (by omega) (by omega)) (Fx.R.s ((pt (pl c7))) (x_load1 (x := ptX pl) rfl rfl (by kernel_rfl) m268.cel (i := c7) (by omega) (by omega) rfl) ?_)))))
    refine Fx.R.make (by rfl) ?_
    refine Fx.L.call (by rfl) (rC (args := [(pt (pl c7))]) rfl rfl Try.func30 rfl rfl) rfl ((f_len (j := c7) hF6 (by omega) (by show (E3 c7).length ≤ _; have := (hA c7 (by omega)).1; omega)).mono ?_)
    rintro e w34 ⟨he, hb10⟩
    refine ⟨.int .i64 ((((eOut E3 (c7 + 1)) c7).length : Int)), by rw [he], ?_⟩
    clear he
    have s26 := Sb hb10
    have m269 := m263.stp s26 m263.ne
    have m270 := m264.stp s26 (m264.notNew (Nat.le_refl _))
    have m271 := m265.up s26.old
    have m272 := m266.stpB s26 (Nat.ne_of_lt (m266.lt))
    have m274 := m268.stpB s26 (Nat.ne_of_lt (m268.lt))
    have m275 := hF6.up s26.old
    have b41 := s26.below b40 b40.size b40.size
    refine Ln ⟨Fx.ChX.of_below s26.old, ?_⟩
    refine Rp (.bool false) (fun v1 => Fx.x_neqF rfl rfl rfl hEd) (Rp (.bool false) (fun v1 => x_pickF rfl rfl rfl) (Fx.R.nil (sN (Wc (b := false) rfl (fun h => nomatch h) (fun _ => Wk (Fx.blkN (sN (Wl (Lv (.int .i64 ((c7 : Int))) (x_move rfl h64) ?_)))))))))
    refine Lv (.int .i64 ((c7 : Int) + 1)) (Fx.x_add rfl rfl rfl Fx.io) (Lv (.int .i64 ((c7 : Int) + 1)) (x_assign rfl rfl) (Ln ?_))
    have m276 : Fx.Own w34 w3.heap.size 27 1 (.slice ap (M9.n) (cp)) M9.n (ptX pp) := m272.congV (congrArg (fun q => Value.slice q M9.n cp) eq10.symm)
    have m277 : Fx.Own w34 w3.heap.size 43 1 (.slice al (M9.n) (cl)) M9.n (ptX pl) := m274.congV (congrArg (fun q => Value.slice q M9.n cl) eq11.symm)
    refine Fx.lpN ⟨c7 + 1, ml3, by omega, h59, (h60.trans Fx.ic), h61, h62, h63, Fx.ic, m269, m277, m276, m270, m275, m271, b41⟩ ?_
    show (M9.n - (intOf ((.int .i64 ((c7 : Int) + 1)))).toNat) < _
    simp only [h64, intOf]; omega
   refine Qv (.bool true) (fun v1 hv1 => Fx.x_neqA (n := 6) (ks := List.replicate 6 (some .u64)) (X := Fx.rv .u64 (leastV (P3 c7) (fun q => (q : Int) + 1) M9.n)) (Y := Fx.rv .u64 ((eK E3) 0)) 12 false rfl rfl rfl (Fx.nob c244) (kd_u (least_u (hS3.pu c7) _)) (Fx.kd_rv fun i hi => Fx.wfu64 (hS3.kU (j := 0) (by omega) (by omega) i (by simpa using hi))) rfl (by kernel_rfl) (by kernel_rfl) (by kernel_rfl) (by kernel_rfl) (by kernel_rfl)) (Qv (.bool true) (fun v1 hv1 => x_move rfl rfl) (Qv (.int .i64 ((M9.n : Int))) (fun v1 hv1 => x_move rfl h60) ?_))
   by_cases c247 : 1 < (M9.n : Int)
   ·refine Qv (.bool true) (fun v1 hv1 => Fx.x_gtrT rfl rfl rfl c247) (Qv (.bool true) (fun v1 hv1 => x_pickT rfl rfl rfl) (Qv (.bool true) (fun v1 hv1 => x_move rfl rfl) (Qv (.agg (Fx.varr 6 (Fx.rv .u64 (leastV (P3 c7) (fun q => (q : Int) + 1) M9.n)))) (fun v1 hv1 => x_loadA (x := Fx.rv .u64 (leastV (P3 c7) (fun q => (q : Int) + 1) M9.n)) (y := Fx.rv .u64 (leastV (P3 c7) (fun q => (q : Int) + 1) M9.n)) rfl rfl (by kernel_rfl) (by kernel_rfl) (m234.cel.below hv1 (by have := m234.lt; omega)) (i := 0) (by omega) (by omega) (fun j _ => by rw [Nat.zero_add])) (Qv (.slice al (M9.n) (cl)) (fun v1 hv1 => x_move rfl h61) (Qv ((pt gq8)) (fun v1 hv1 => x_indexS rfl (rfl.trans (congrArg (fun q => Value.slice q (M9.n) (cl)) eq11)) rfl Try.underlying87 (s := 1) (by kernel_rfl) (by omega) (by omega) (by omega)) (Qv ((pt (pl 0))) (fun v1 hv1 => x_load1 (x := ptX pl) rfl rfl (by kernel_rfl) (m241.cel.below hv1 (by have := m241.lt; omega)) (i := 0) (by omega) (by omega) rfl) (Fx.Qt.call (v := .agg (Fx.varr 6 (Fx.rv .u64 ((eK E3) 0)))) (by rfl) (fun v1 hv1 => rC (args := [(pt (pl 0))]) rfl rfl Try.func27 rfl rfl) rfl (fun v1 hv1 => (f_known (j := 0) (m238.up hv1) (by omega)).mono fun e v2 h => ⟨h.1, bch hv1 h.2⟩) ?_)))))))
    refine Fx.Qt.call (v := .bool true) (by rfl) (fun v1 hv1 => rC (args := [.agg (Fx.varr 6 (Fx.rv .u64 (leastV (P3 c7) (fun q => (q : Int) + 1) M9.n))), .agg (Fx.varr 6 (Fx.rv .u64 ((eK E3) 0)))]) rfl rfl Try.func34 rfl rfl) rfl (fun v1 hv1 => (lessEq_any (leastV (P3 c7) (fun q => (q : Int) + 1) M9.n) ((eK E3) 0) _ hlq).mono fun e v2 h => ⟨h.1, bch hv1 h.2⟩) ?_
    refine Qv (.bool false) (fun v1 hv1 => Fx.x_notF rfl rfl) (Qv (.bool false) (fun v1 hv1 => x_pickT rfl rfl rfl) (Qv (.bool false) (fun v1 hv1 => x_pickF rfl rfl rfl) (Fx.Qt.nil ?_)))
    intro wb2 hbwb2
    have s27 : Fx.Stp w31.heap.size w31 wb2 := Sb hbwb2
    have m278 := m235.stp s27 m235.ne
    have m279 := m237.stp s27 (m237.notNew (Nat.le_refl _))
    have m280 := m238.up s27.old
    have m281 := m239.up s27.old
    have m282 := m240.stpB s27 (Nat.ne_of_lt (m240.lt))
    have m284 := m241.stpB s27 (Nat.ne_of_lt (m241.lt))
    have b42 := s27.below b36 b36.size b36.size
    refine sN (Wc (b := false) rfl (fun h => nomatch h) (fun _ => Wk (sN (Ws ?_))))
    -- region 53 draws
    refine Fx.W.reord [0, 1, 2, 4, 5, 9, 10, 11, 3, 6, 12, 13, 7, 8, 14, 15, 16, 17, 18, 19, 20, 21, 22] [0, 0, 0, 1, 0, 0, 4, 2, 2, 0, 0, 0, 1, 0, 0, 0, 0, 0, 0, 4, 2, 0, 0] (Fx.ChX [106, 100]) Fx.ChX.refl Fx.ChX.trans (certs := [(7, 6, [6]), (8, 6, [7, 6]), (20, 6, [15, 8, 7, 6]), (8, 7, [7]), (14, 7, [8, 7]), (15, 7, [8, 7]), (16, 7, [15, 8, 7]), (17, 7, [15, 8, 7]), (18, 7, [15, 8, 7]), (19, 7, [15, 8, 7]), (20, 7, [15, 8, 7]), (21, 7, [15, 8, 7]), (22, 7, [15, 8, 7]), (14, 8, [8]), (15, 8, [8]), (16, 8, [15, 8]), (17, 8, [15, 8]), (18, 8, [15, 8]), (19, 8, [15, 8]), (20, 8, [15, 8]), (21, 8, [15, 8]), (22, 8, [15, 8]), (20, 19, [19]), (21, 20, [20]), (22, 20, [21, 20])]) (by kernel_rfl) (by kernel_rfl) (by kernel_rfl) (by kernel_rfl) (by kernel_rfl) fun wt7 hbwt7 hzwt7 => ?_
    have s28 : Fx.Stp wb2.heap.size wb2 wt7 := Sb hbwt7
    have m285 := m278.stp s28 m278.ne
    have m286 := m279.stp s28 (m279.notNew (Nat.le_refl _))
    have m287 := m280.up s28.old
    have m288 := m281.up s28.old
    have m289 := m282.stpB s28 (Nat.ne_of_lt (m282.lt))
    have m291 := m284.stpB s28 (Nat.ne_of_lt (m284.lt))
    have b43 := s28.below b42 b42.size b42.size
    refine Rp (.slice al (M9.n) (cl)) (fun v1 => x_move rfl h61) (Rp (.int .i64 ((c7 : Int))) (fun v1 => x_move rfl h64) (Rp ((pf gq8 c7)) (fun v1 => x_indexS rfl (rfl.trans (congrArg (fun q => Value.slice q (M9.n) (cl)) eq11)) rfl Try.underlying87 (s := 1) (by kernel_rfl) (by omega) (by omega) (by omega)) (Rp (.slice al (M9.n) (cl)) (fun v1 => x_move rfl h61) (Rp ((pt gq8)) (fun v1 => x_indexS rfl (rfl.trans (congrArg (fun q => Value.slice q (M9.n) (cl)) eq11)) rfl Try.underlying87 (s := 1) (by kernel_rfl) (by omega) (by omega) (by omega)) (Rp ((pt pw)) (fun v1 => x_move rfl h59) (Rp ((pt pw)) (fun v1 => x_nil rfl rfl) (Rp ((pf pw 1)) (fun v1 => x_field rfl rfl Try.underlying74 rfl (s := 1) (by kernel_rfl) rfl (by show _ + 1 = _; omega)) (Fx.R.read (v := (pt (pl c7))) (by rfl) (by rfl) (Fx.ChX.refl _) (fun v1 hv1 => x_load1 (x := ptX pl) rfl rfl (by kernel_rfl) (m291.chX hv1 (by decide)).cel (i := c7) (by omega) (by omega) rfl) ?_))))))))
    refine Fx.R.s ((pt (pl 0))) (x_load1 (x := ptX pl) rfl rfl (by kernel_rfl) m291.cel (i := 0) (by omega) (by omega) rfl) ?_
    refine Fx.R.read (v := .slice M9.aa (M9.an) (M9.ac)) (by rfl) (by rfl) (Fx.ChX.refl _) (fun v1 hv1 => x_load1 (x := wdY (.slice M9.la (M9.n) (M9.lc)) (.slice M9.aa (M9.an) (M9.ac))) rfl rfl (by kernel_rfl) (m285.chX hv1 (by decide)).cel (i := 1) (by omega) (by omega) rfl) ?_
    refine Rp (.int .i64 ((M9.an : Int))) (fun v1 => x_len rfl rfl rfl (by kernel_rfl)) (Fx.R.make (by rfl) ?_)
    refine Fx.L.call (by rfl) (rC (args := [(pt (pl 0))]) rfl rfl Try.func27 rfl rfl) rfl ((f_known (j := 0) m287 (by omega)).mono ?_)
    rintro e w35 ⟨he, hb11⟩
    refine ⟨.agg (Fx.varr 6 (Fx.rv .u64 ((eK E3) 0))), by rw [he], ?_⟩
    clear he
    have s29 := Sb hb11
    have m292 := m285.stp s29 m285.ne
    have m293 := m286.stp s29 (m286.notNew (Nat.le_refl _))
    have m294 := m287.up s29.old
    have m295 := m288.up s29.old
    have m296 := m289.stpB s29 (Nat.ne_of_lt (m289.lt))
    have m298 := m291.stpB s29 (Nat.ne_of_lt (m291.lt))
    have b44 := s29.below b43 b43.size b43.size
    refine Ln ⟨Fx.ChX.of_below s29.old, ?_⟩
    refine Fx.R.make (by rfl) ?_
    refine Fx.L.call (by rfl) (rC (args := [(pt (pl c7)), .agg (Fx.varr 6 (Fx.rv .u64 ((eK E3) 0)))]) rfl rfl Try.func28 rfl rfl) rfl ((f_prune (eK E3 0) (j := c7) m294 (by omega) b44.size (by show (E3 c7).length ≤ _; have := (hA c7 (by omega)).1; omega) (by rw [eOut_at]; exact hS3.gone hA (by omega) (by omega))).mono ?_)
    rintro e9 w36 ⟨he, hc4, ml4, hF8⟩
    refine ⟨_, he, ?_⟩
    clear he
    rw [eOut_s] at hF8
    have ct6 := (m294.a c7 (by omega)).chm hc4
    have b45 := b44.trans ((m294.a c7 (by omega)).below b44.size hc4)
    have m299 := m292.chT ct6 (by decide)
    have m300 := m293.chT ct6 (by decide)
    have m301 := m295.chT ct6 (by decide)
    have m302 := m296.chT ct6 (by decide)
    have m304 := m298.chT ct6 (by decide)
    refine Ln ⟨(Fx.ChX.of_chT ct6), ?_⟩
    refine Rp (.bool false) (fun v1 => Fx.x_neqF rfl rfl rfl hEc) (Rp (.bool false) (fun v1 => x_move rfl rfl) (Rp (.slice al (M9.n) (cl)) (fun v1 => x_move rfl h61) (Rp (.int .i64 ((c7 : Int))) (fun v1 => x_move rfl h64) (Rp ((pf gq8 c7)) (fun v1 => x_indexS rfl (rfl.trans (congrArg (fun q => Value.slice q (M9.n) (cl)) eq11)) rfl Try.underlying87 (s := 1) (by kernel_rfl) (by omega) (by omega) (by omega)) (Fx.R.s ((pt (pl c7))) (x_load1 (x := ptX pl) rfl rfl (by kernel_rfl) m304.cel (i := c7) (by omega) (by omega) rfl) ?_)))))
    refine Fx.R.make (by rfl) ?_
    refine Fx.L.call (by rfl) (rC (args := [(pt (pl c7))]) rfl rfl Try.func30 rfl rfl) rfl ((f_len (j := c7) hF8 (by omega) (by show (E3 c7).length ≤ _; have := (hA c7 (by omega)).1; omega)).mono ?_)
    rintro e w37 ⟨he, hb12⟩
    refine ⟨.int .i64 ((((eOut E3 (c7 + 1)) c7).length : Int)), by rw [he], ?_⟩
    clear he
    have s30 := Sb hb12
    have m305 := m299.stp s30 m299.ne
    have m306 := m300.stp s30 (m300.notNew (Nat.le_refl _))
    have m307 := m301.up s30.old
    have m308 := m302.stpB s30 (Nat.ne_of_lt (m302.lt))
    have m310 := m304.stpB s30 (Nat.ne_of_lt (m304.lt))
    have m311 := hF8.up s30.old
    have b46 := s30.below b45 b45.size b45.size
    refine Ln ⟨Fx.ChX.of_below s30.old, ?_⟩
    refine Rp (.bool false) (fun v1 => Fx.x_neqF rfl rfl rfl hEd) (Rp (.bool false) (fun v1 => x_pickF rfl rfl rfl) (Fx.R.nil (sN (Wc (b := false) rfl (fun h => nomatch h) (fun _ => Wk (Fx.blkN (sN (Wl (Lv (.int .i64 ((c7 : Int))) (x_move rfl h64) ?_)))))))))
    refine Lv (.int .i64 ((c7 : Int) + 1)) (Fx.x_add rfl rfl rfl Fx.io) (Lv (.int .i64 ((c7 : Int) + 1)) (x_assign rfl rfl) (Ln ?_))
    have m312 : Fx.Own w37 w3.heap.size 27 1 (.slice ap (M9.n) (cp)) M9.n (ptX pp) := m308.congV (congrArg (fun q => Value.slice q M9.n cp) eq10.symm)
    have m313 : Fx.Own w37 w3.heap.size 43 1 (.slice al (M9.n) (cl)) M9.n (ptX pl) := m310.congV (congrArg (fun q => Value.slice q M9.n cl) eq11.symm)
    refine Fx.lpN ⟨c7 + 1, ml4, by omega, h59, (h60.trans Fx.ic), h61, h62, h63, Fx.ic, m305, m313, m312, m306, m311, m307, b46⟩ ?_
    show (M9.n - (intOf ((.int .i64 ((c7 : Int) + 1)))).toNat) < _
    simp only [h64, intOf]; omega
   refine Qv (.bool false) (fun v1 hv1 => x_gtrF rfl rfl rfl c247) (Qv (.bool false) (fun v1 hv1 => x_pickT rfl rfl rfl) (Qv (.bool false) (fun v1 hv1 => x_move rfl rfl) (Qs (by rfl) rfl (Qs (by rfl) rfl (Qs (by rfl) rfl (Qs (by rfl) rfl (Qs (by rfl) rfl (Qs (by rfl) rfl (Qs (by rfl) rfl (Qv (.bool false) (fun v1 hv1 => x_pickF rfl rfl rfl) (Qv (.bool false) (fun v1 hv1 => x_pickF rfl rfl rfl) (Fx.Qt.nil ?_))))))))))))
   intro wb3 hbwb3
   have s31 : Fx.Stp w31.heap.size w31 wb3 := Sb hbwb3
   have m314 := m235.stp s31 m235.ne
   have m315 := m237.stp s31 (m237.notNew (Nat.le_refl _))
   have m316 := m238.up s31.old
   have m317 := m239.up s31.old
   have m318 := m240.stpB s31 (Nat.ne_of_lt (m240.lt))
   have m320 := m241.stpB s31 (Nat.ne_of_lt (m241.lt))
   have b47 := s31.below b36 b36.size b36.size
   refine sN (Wc (b := false) rfl (fun h => nomatch h) (fun _ => Wk (sN (Ws ?_))))
   -- region 53 draws
   refine Fx.W.reord [0, 1, 2, 4, 5, 9, 10, 11, 3, 6, 12, 13, 7, 8, 14, 15, 16, 17, 18, 19, 20, 21, 22] [0, 0, 0, 1, 0, 0, 4, 2, 2, 0, 0, 0, 1, 0, 0, 0, 0, 0, 0, 4, 2, 0, 0] (Fx.ChX [106, 100]) Fx.ChX.refl Fx.ChX.trans (certs := [(7, 6, [6]), (8, 6, [7, 6]), (20, 6, [15, 8, 7, 6]), (8, 7, [7]), (14, 7, [8, 7]), (15, 7, [8, 7]), (16, 7, [15, 8, 7]), (17, 7, [15, 8, 7]), (18, 7, [15, 8, 7]), (19, 7, [15, 8, 7]), (20, 7, [15, 8, 7]), (21, 7, [15, 8, 7]), (22, 7, [15, 8, 7]), (14, 8, [8]), (15, 8, [8]), (16, 8, [15, 8]), (17, 8, [15, 8]), (18, 8, [15, 8]), (19, 8, [15, 8]), (20, 8, [15, 8]), (21, 8, [15, 8]), (22, 8, [15, 8]), (20, 19, [19]), (21, 20, [20]), (22, 20, [21, 20])]) (by kernel_rfl) (by kernel_rfl) (by kernel_rfl) (by kernel_rfl) (by kernel_rfl) fun wt8 hbwt8 hzwt8 => ?_
   have s32 : Fx.Stp wb3.heap.size wb3 wt8 := Sb hbwt8
   have m321 := m314.stp s32 m314.ne
   have m322 := m315.stp s32 (m315.notNew (Nat.le_refl _))
   have m323 := m316.up s32.old
   have m324 := m317.up s32.old
   have m325 := m318.stpB s32 (Nat.ne_of_lt (m318.lt))
   have m327 := m320.stpB s32 (Nat.ne_of_lt (m320.lt))
   have b48 := s32.below b47 b47.size b47.size
   refine Rp (.slice al (M9.n) (cl)) (fun v1 => x_move rfl h61) (Rp (.int .i64 ((c7 : Int))) (fun v1 => x_move rfl h64) (Rp ((pf gq8 c7)) (fun v1 => x_indexS rfl (rfl.trans (congrArg (fun q => Value.slice q (M9.n) (cl)) eq11)) rfl Try.underlying87 (s := 1) (by kernel_rfl) (by omega) (by omega) (by omega)) (Rp (.slice al (M9.n) (cl)) (fun v1 => x_move rfl h61) (Rp ((pt gq8)) (fun v1 => x_indexS rfl (rfl.trans (congrArg (fun q => Value.slice q (M9.n) (cl)) eq11)) rfl Try.underlying87 (s := 1) (by kernel_rfl) (by omega) (by omega) (by omega)) (Rp ((pt pw)) (fun v1 => x_move rfl h59) (Rp ((pt pw)) (fun v1 => x_nil rfl rfl) (Rp ((pf pw 1)) (fun v1 => x_field rfl rfl Try.underlying74 rfl (s := 1) (by kernel_rfl) rfl (by show _ + 1 = _; omega)) (Fx.R.read (v := (pt (pl c7))) (by rfl) (by rfl) (Fx.ChX.refl _) (fun v1 hv1 => x_load1 (x := ptX pl) rfl rfl (by kernel_rfl) (m327.chX hv1 (by decide)).cel (i := c7) (by omega) (by omega) rfl) ?_))))))))
   refine Fx.R.s ((pt (pl 0))) (x_load1 (x := ptX pl) rfl rfl (by kernel_rfl) m327.cel (i := 0) (by omega) (by omega) rfl) ?_
   refine Fx.R.read (v := .slice M9.aa (M9.an) (M9.ac)) (by rfl) (by rfl) (Fx.ChX.refl _) (fun v1 hv1 => x_load1 (x := wdY (.slice M9.la (M9.n) (M9.lc)) (.slice M9.aa (M9.an) (M9.ac))) rfl rfl (by kernel_rfl) (m321.chX hv1 (by decide)).cel (i := 1) (by omega) (by omega) rfl) ?_
   refine Rp (.int .i64 ((M9.an : Int))) (fun v1 => x_len rfl rfl rfl (by kernel_rfl)) (Fx.R.make (by rfl) ?_)
   refine Fx.L.call (by rfl) (rC (args := [(pt (pl 0))]) rfl rfl Try.func27 rfl rfl) rfl ((f_known (j := 0) m323 (by omega)).mono ?_)
   rintro e w38 ⟨he, hb13⟩
   refine ⟨.agg (Fx.varr 6 (Fx.rv .u64 ((eK E3) 0))), by rw [he], ?_⟩
   clear he
   have s33 := Sb hb13
   have m328 := m321.stp s33 m321.ne
   have m329 := m322.stp s33 (m322.notNew (Nat.le_refl _))
   have m330 := m323.up s33.old
   have m331 := m324.up s33.old
   have m332 := m325.stpB s33 (Nat.ne_of_lt (m325.lt))
   have m334 := m327.stpB s33 (Nat.ne_of_lt (m327.lt))
   have b49 := s33.below b48 b48.size b48.size
   refine Ln ⟨Fx.ChX.of_below s33.old, ?_⟩
   refine Fx.R.make (by rfl) ?_
   refine Fx.L.call (by rfl) (rC (args := [(pt (pl c7)), .agg (Fx.varr 6 (Fx.rv .u64 ((eK E3) 0)))]) rfl rfl Try.func28 rfl rfl) rfl ((f_prune (eK E3 0) (j := c7) m330 (by omega) b49.size (by show (E3 c7).length ≤ _; have := (hA c7 (by omega)).1; omega) (by rw [eOut_at]; exact hS3.gone hA (by omega) (by omega))).mono ?_)
   rintro e9 w39 ⟨he, hc5, ml5, hF10⟩
   refine ⟨_, he, ?_⟩
   clear he
   rw [eOut_s] at hF10
   have ct7 := (m330.a c7 (by omega)).chm hc5
   have b50 := b49.trans ((m330.a c7 (by omega)).below b49.size hc5)
   have m335 := m328.chT ct7 (by decide)
   have m336 := m329.chT ct7 (by decide)
   have m337 := m331.chT ct7 (by decide)
   have m338 := m332.chT ct7 (by decide)
   have m340 := m334.chT ct7 (by decide)
   refine Ln ⟨(Fx.ChX.of_chT ct7), ?_⟩
   refine Rp (.bool false) (fun v1 => Fx.x_neqF rfl rfl rfl hEc) (Rp (.bool false) (fun v1 => x_move rfl rfl) (Rp (.slice al (M9.n) (cl)) (fun v1 => x_move rfl h61) (Rp (.int .i64 ((c7 : Int))) (fun v1 => x_move rfl h64) (Rp ((pf gq8 c7)) (fun v1 => x_indexS rfl (rfl.trans (congrArg (fun q => Value.slice q (M9.n) (cl)) eq11)) rfl Try.underlying87 (s := 1) (by kernel_rfl) (by omega) (by omega) (by omega)) (Fx.R.s ((pt (pl c7))) (x_load1 (x := ptX pl) rfl rfl (by kernel_rfl) m340.cel (i := c7) (by omega) (by omega) rfl) ?_)))))
   refine Fx.R.make (by rfl) ?_
   refine Fx.L.call (by rfl) (rC (args := [(pt (pl c7))]) rfl rfl Try.func30 rfl rfl) rfl ((f_len (j := c7) hF10 (by omega) (by show (E3 c7).length ≤ _; have := (hA c7 (by omega)).1; omega)).mono ?_)
   rintro e w40 ⟨he, hb14⟩
   refine ⟨.int .i64 ((((eOut E3 (c7 + 1)) c7).length : Int)), by rw [he], ?_⟩
   clear he
   have s34 := Sb hb14
   have m341 := m335.stp s34 m335.ne
   have m342 := m336.stp s34 (m336.notNew (Nat.le_refl _))
   have m343 := m337.up s34.old
   have m344 := m338.stpB s34 (Nat.ne_of_lt (m338.lt))
   have m346 := m340.stpB s34 (Nat.ne_of_lt (m340.lt))
   have m347 := hF10.up s34.old
   have b51 := s34.below b50 b50.size b50.size
   refine Ln ⟨Fx.ChX.of_below s34.old, ?_⟩
   refine Rp (.bool false) (fun v1 => Fx.x_neqF rfl rfl rfl hEd) (Rp (.bool false) (fun v1 => x_pickF rfl rfl rfl) (Fx.R.nil (sN (Wc (b := false) rfl (fun h => nomatch h) (fun _ => Wk (Fx.blkN (sN (Wl (Lv (.int .i64 ((c7 : Int))) (x_move rfl h64) ?_)))))))))
   refine Lv (.int .i64 ((c7 : Int) + 1)) (Fx.x_add rfl rfl rfl Fx.io) (Lv (.int .i64 ((c7 : Int) + 1)) (x_assign rfl rfl) (Ln ?_))
   have m348 : Fx.Own w40 w3.heap.size 27 1 (.slice ap (M9.n) (cp)) M9.n (ptX pp) := m344.congV (congrArg (fun q => Value.slice q M9.n cp) eq10.symm)
   have m349 : Fx.Own w40 w3.heap.size 43 1 (.slice al (M9.n) (cl)) M9.n (ptX pl) := m346.congV (congrArg (fun q => Value.slice q M9.n cl) eq11.symm)
   refine Fx.lpN ⟨c7 + 1, ml5, by omega, h59, (h60.trans Fx.ic), h61, h62, h63, Fx.ic, m341, m349, m348, m342, m347, m343, b51⟩ ?_
   show (M9.n - (intOf ((.int .i64 ((c7 : Int) + 1)))).toNat) < _
   simp only [h64, intOf]; omega
  refine Lv (.bool false) (Fx.x_lssF rfl rfl rfl c206) (Ln (sN (Wc (b := false) rfl (fun h => nomatch h) (fun _ => Fx.W.exit (Fx.seqX (Fx.lpX (Fx.blkX (sN (Ws (Wl (Fx.L.call (by rfl) (rC (args := []) rfl rfl Try.func10 rfl rfl) rfl ((works17_any _).mono ?_))))))))))))
  rintro e w41 ⟨he, hb15⟩
  refine ⟨.bool true, by rw [he], ?_⟩
  clear he
  have s35 := Sb hb15
  have b52 := s35.below b33 b33.size b33.size
  refine Lv (.bool true) (x_assign rfl rfl) (Ln (sN (Wr (⟨.bool true, rV Try.results8 (by exact rfl), ?_⟩))))
  exact ⟨rfl, (bchB b3 b52 b3.size)⟩
 rw [Bool.not_eq_true] at c26
 refine Fx.L.call (by rfl) (rC (args := [.slice aa0 (na) (ca)]) rfl rfl Try.func9 rfl rfl) rfl ((l_few _ _ _ _).mono ?_)
 rintro e v1 ⟨he, hv1⟩
 subst v1
 refine ⟨.bool false, by rw [he, c26], ?_⟩
 clear he
 refine Lv (.bool true) (Fx.x_notT rfl rfl) (Lv (.bool true) (x_move rfl rfl) (Lk (by rfl) rfl (Lk (by rfl) rfl (Lk (by rfl) rfl (Lv (.bool true) (x_pickT rfl rfl rfl) (Ln (sN (Wc (b := true) rfl (fun _ => Ws (Wl (Fx.L.call (by rfl) (rC (args := []) rfl rfl Try.func10 rfl rfl) rfl ((works17_any _).mono ?_)))) (fun h => nomatch h)))))))))
 rintro e w42 ⟨he, hb16⟩
 refine ⟨.bool true, by rw [he], ?_⟩
 clear he
 have s36 := Sb hb16
 have b53 := s36.below (Below.refl w.heap.size w) (Below.refl w.heap.size w).size (Below.refl w.heap.size w).size
 refine Lv (.bool true) (x_assign rfl rfl) (Ln (sN (Wr (sR (⟨.bool true, rV Try.results8 (by exact rfl), ?_⟩)))))
 exact ⟨rfl, b53⟩
end Go.Proofs.Ytleajegppehbdaa
namespace Go.Proofs.Ytleajegppehbdaa
open Go.RowKit Go.WideShapes Go.ChangeShapes Go.Deep
theorem spotless1 {w : World} {x : Addr} {v : Value} (h : w.cell? x = some v) : ∃ b off, x = ⟨b, off, none⟩ := by
  obtain ⟨b, off, spot⟩ := x
  cases spot with
  | none => exact ⟨b, off, rfl⟩
  | some q =>
    unfold World.cell? at h
    simp at h
    split at h <;> cases h
def At4 (k0 k1 k2 k3 : IntKind) (w : World) (b off : Nat) (x0 x1 x2 x3 : Int) : Prop :=
  w.cell? ⟨b, off, none⟩ = some (.int k0 x0) ∧ w.cell? ⟨b, off + 1, none⟩ = some (.int k1 x1) ∧ w.cell? ⟨b, off + 2, none⟩ = some (.int k2 x2) ∧ w.cell? ⟨b, off + 3, none⟩ = some (.int k3 x3)
def Wf4 (k0 k1 k2 k3 : IntKind) (x0 x1 x2 x3 : Int) : Prop := (Lit.int k0 x0).wf = true ∧ (Lit.int k1 x1).wf = true ∧ (Lit.int k2 x2).wf = true ∧ (Lit.int k3 x3).wf = true
def Sl4 (k0 k1 k2 k3 : IntKind) (w : World) (a : Option Addr) (len : Nat) (X0 X1 X2 X3 : Nat → Int) : Prop :=
  ∀ i, i < len → (∃ b off, a = some ⟨b, off, none⟩ ∧ At4 k0 k1 k2 k3 w b (off + i * 4) (X0 i) (X1 i) (X2 i) (X3 i)) ∧ Wf4 k0 k1 k2 k3 (X0 i) (X1 i) (X2 i) (X3 i)
theorem Sl4.up {k0 k1 k2 k3 : IntKind} {w w' : World} {a : Option Addr} {len : Nat} {X0 X1 X2 X3 : Nat → Int} (h : Sl4 k0 k1 k2 k3 w a len X0 X1 X2 X3) (hb : Below w.heap.size w w') : Sl4 k0 k1 k2 k3 w' a len X0 X1 X2 X3 := by
  intro i hi
  obtain ⟨⟨b, off, e, q0, q1, q2, q3⟩, hw⟩ := h i hi
  have hlt := block_lt_of_cell q0
  dsimp only at hlt
  exact ⟨⟨b, off, e, (hb.cell (p := ⟨b, off + i * 4, none⟩) hlt).trans q0, (hb.cell (p := ⟨b, off + i * 4 + 1, none⟩) hlt).trans q1, (hb.cell (p := ⟨b, off + i * 4 + 2, none⟩) hlt).trans q2, (hb.cell (p := ⟨b, off + i * 4 + 3, none⟩) hlt).trans q3⟩, hw⟩
end Go.Proofs.Ytleajegppehbdaa
namespace Go.Proofs.Ytleajegppehbdaa
open Go.RowKit Go.WideShapes Go.ChangeShapes Go.Deep
def flatKb (P : Program) : Nat → TypeId → Option (List (Option IntKind))
  | 0, _ => none
  | d + 1, t => match P.underlying t with
    | some (.int k) => some [some k]
    | some .bool => some [none]
    | some (.array n e) => (flatKb P d e).bind fun ks => if P.cellsOf e = ks.length ∧ P.cellsOf t = n * ks.length then some (List.replicate n ks).flatten else none
    | some (.struct fs) => (fs.toList.foldlM (fun l f => (flatKb P d f.type).bind fun ks => if f.offset = l.length ∧ P.cellsOf f.type = ks.length then some (l ++ ks) else none) []).bind fun l => if P.cellsOf t = l.length then some l else none
    | _ => none
def OkV (k : Option IntKind) (v : Value) : Prop := match k with | some k => ∃ n, v = .int k n ∧ (Lit.int k n).wf = true | none => ∃ b, v = .bool b
def FlatV (ks : List (Option IntKind)) (cs : List Value) : Prop := cs.length = ks.length ∧ ∀ (j : Nat) (k : Option IntKind), ks[j]? = some k → ∃ v, cs[j]? = some v ∧ OkV k v
theorem flatb_rep {ks : List (Option IntKind)} {k : Option IntKind} : ∀ (n j : Nat), (List.replicate n ks).flatten[j]? = some k → ks[j % ks.length]? = some k ∧ j / ks.length < n
  | 0, j, h => by simp at h
  | n + 1, j, h => by
    rw [List.replicate_succ, List.flatten_cons] at h
    by_cases hj : j < ks.length
    · rw [List.getElem?_append_left hj] at h
      rw [Nat.mod_eq_of_lt hj, Nat.div_eq_of_lt hj]; exact ⟨h, by omega⟩
    · rw [List.getElem?_append_right (by omega)] at h
      have hs : 0 < ks.length := by
        rcases Nat.eq_zero_or_pos ks.length with e | e
        · obtain ⟨h1, _⟩ := flatb_rep n _ h
          have := (List.getElem?_eq_some_iff.1 h1).1; omega
        · exact e
      obtain ⟨h1, h2⟩ := flatb_rep n _ h
      rw [Nat.mod_eq_sub_mod (by omega), Nat.div_eq_sub_div hs (by omega)]
      exact ⟨h1, by omega⟩
section
variable {H : Type} {enc : TypeId × Value → H} {P : Program} {w : World} {base : Nat} {spare : Nat → Bool} {held : Bool}
theorem flatb_part {ks : List (Option IntKind)} {cs : List Value} {o s j : Nat} {k : Option IntKind} (h : FlatV ks ((cs.drop o).take s)) (hs : s = ks.length) (hk : ks[j]? = some k) : ∃ v, cs[o + j]? = some v ∧ OkV k v := by
  obtain ⟨n, h1, h2⟩ := h.2 j k hk
  have hj := (List.getElem?_eq_some_iff.1 hk).1
  rw [List.getElem?_take_of_lt (by omega), List.getElem?_drop] at h1
  exact ⟨n, h1, h2⟩
theorem flatKb_ok : ∀ (d : Nat) (t : TypeId) (ks : List (Option IntKind)), flatKb P d t = some ks → ∀ (fuel : Nat) (cs : List Value) (x : DataW H × List MemPlace), DataW.trod enc P w base spare held fuel t cs = some x → FlatV ks cs
  | 0, _, _, h => by simp [flatKb] at h
  | d + 1, t, ks, h => by
    intro fuel cs x hx
    unfold flatKb at h
    split at h
    · rename_i k hu
      simp only [Option.some.injEq] at h; subst h
      obtain ⟨n, rfl, _, hw⟩ := DataW.trod_int hu hx
      refine ⟨rfl, fun j k' hk => ?_⟩
      match j, hk with
      | 0, hk => simp at hk; subst hk; exact ⟨_, rfl, n, rfl, hw⟩
      | j + 1, hk => simp at hk
    · rename_i hu
      simp only [Option.some.injEq] at h; subst h
      obtain ⟨b, rfl, _⟩ := DataW.trod_bool hu hx
      refine ⟨rfl, fun j k' hk => ?_⟩
      match j, hk with
      | 0, hk => simp at hk; subst hk; exact ⟨_, rfl, b, rfl⟩
      | j + 1, hk => simp at hk
    · rename_i n e hu
      obtain ⟨ks', hks, h⟩ := Option.bind_eq_some_iff.1 h
      split at h
      · rename_i hc
        simp only [Option.some.injEq] at h; subst h
        obtain ⟨xs, m, _, _, hl, hlen, hel⟩ := DataW.trod_array hu hx
        refine ⟨by rw [hl, hc.2]; simp, fun j k hk => ?_⟩
        obtain ⟨h1, h2⟩ := flatb_rep n j hk
        have hi := hel (j / ks'.length) h2
        rw [List.getElem?_eq_getElem (by omega), hc.1] at hi
        have := flatb_part (flatKb_ok d e ks' hks _ _ _ hi) rfl h1
        rw [Nat.mul_comm, Nat.div_add_mod] at this
        exact this
      · cases h
    · rename_i fs hu
      obtain ⟨l, hl, h⟩ := Option.bind_eq_some_iff.1 h
      split at h
      · rename_i hc
        simp only [Option.some.injEq] at h; subst h
        obtain ⟨xs, m, _, _, hlc, hlen, hf⟩ := DataW.trod_struct hu hx
        refine ⟨by rw [hlc, hc], ?_⟩
        have hf' : ∀ f, f ∈ fs.toList → ∃ y, DataW.trod enc P w base spare held m f.type ((cs.drop f.offset).take (P.cellsOf f.type)) = some y := by
          intro f hfm
          obtain ⟨i, hi, e⟩ := List.mem_iff_getElem.1 hfm
          have hi' : i < fs.size := by simpa using hi
          have h1 : fs[i]? = some f := by rw [Array.getElem?_eq_getElem hi']; simpa using e
          have := hf i f h1
          rw [List.getElem?_eq_getElem (by rw [hlen]; exact hi')] at this
          exact ⟨_, this⟩
        have key : ∀ (L : List Field) (acc : List (Option IntKind)), (∀ f, f ∈ L → ∃ y, DataW.trod enc P w base spare held m f.type ((cs.drop f.offset).take (P.cellsOf f.type)) = some y) → (∀ (j : Nat) (k : Option IntKind), acc[j]? = some k → ∃ v, cs[j]? = some v ∧ OkV k v) → ∀ l, L.foldlM (fun l f => (flatKb P d f.type).bind fun ks => if f.offset = l.length ∧ P.cellsOf f.type = ks.length then some (l ++ ks) else none) acc = some l → ∀ (j : Nat) (k : Option IntKind), l[j]? = some k → ∃ v, cs[j]? = some v ∧ OkV k v := by
          intro L
          induction L with
          | nil => intro acc _ ha l hl; simp at hl; subst hl; exact ha
          | cons f L ih =>
            intro acc hL ha l hl
            rw [List.foldlM_cons] at hl
            obtain ⟨l1, h1, h2⟩ := Option.bind_eq_some_iff.1 hl
            obtain ⟨kf, hkf, h3⟩ := Option.bind_eq_some_iff.1 h1
            split at h3
            · rename_i hcc
              simp only [Option.some.injEq] at h3; subst h3
              refine ih (acc ++ kf) (fun g hg => hL g (List.mem_cons_of_mem _ hg)) (fun j k hk => ?_) l h2
              by_cases hj : j < acc.length
              · rw [List.getElem?_append_left hj] at hk; exact ha j k hk
              · rw [List.getElem?_append_right (by omega)] at hk
                obtain ⟨y, hy⟩ := hL f (List.mem_cons_self ..)
                have := flatb_part (flatKb_ok d f.type kf hkf _ _ _ hy) hcc.2 hk
                rw [hcc.1, show acc.length + (j - acc.length) = j by omega] at this
                exact this
            · cases h3
        exact key fs.toList [] hf' (fun j k hk => by simp at hk) l hl
      · cases h
    · cases h
end
section
variable {H : Type} {enc : TypeId × Value → H} {P : Program} {w : World} {base : Nat} {spare : Nat → Bool} {held : Bool}
theorem open_rows {t e : TypeId} {ks : List (Option IntKind)} {fuel D : Nat} {cs : List Value} {x : DataW H × List MemPlace} (ht : P.underlying t = some (.slice e)) (hk : flatKb P D e = some ks) (ce : P.cellsOf e = ks.length) (hs : 0 < ks.length)
    (h : DataW.trod enc P w base spare held fuel t cs = some x) : ∃ a len cap, cs = [.slice a len cap] ∧ len ≤ maxLen ∧ len ≤ cap ∧ ∃ X : Nat → Nat → Value, (∀ i, i < len → ∀ (j : Nat) (k : Option IntKind), ks[j]? = some k → OkV k (X i j)) ∧ Fx.Arr w a len ks.length (Fx.flat ks.length X) := by
  rcases open_slice ht h with ⟨rfl, _⟩ | ⟨a', len, cap, m, n, D', Pl, rfl, _, hl, hm, hmm, _, hx⟩
  · exact ⟨none, 0, 0, rfl, by unfold maxLen; omega, Nat.le_refl _, fun _ _ => undef, fun i hi => absurd hi (by omega), fun h => absurd h (by omega)⟩
  have hlm : len ≤ m := by rw [hmm]; split <;> omega
  have each : ∀ i j : Nat, ∃ q : Value, i < len → ∀ k, ks[j]? = some k → w.cell? (a'.add (i * ks.length + j)) = some q ∧ OkV k q := by
    intro i j
    by_cases hi : i < len ∧ j < ks.length
    · obtain ⟨cs', g1, g2⟩ := hx i (by omega)
      rw [ce] at g1
      obtain ⟨_, hlen, hcell⟩ := World.cells?_some g1
      obtain ⟨q, h1, h2⟩ := (flatKb_ok _ _ _ hk _ _ _ g2).2 j _ (List.getElem?_eq_getElem hi.2)
      refine ⟨q, fun _ k hkj => ?_⟩
      rw [List.getElem?_eq_getElem hi.2, Option.some.injEq] at hkj
      subst hkj
      have q0 := hcell j (by omega)
      rw [add_add] at q0
      exact ⟨by rw [← h1]; simpa using q0, h2⟩
    · refine ⟨undef, fun h1 k h2 => absurd ⟨h1, (List.getElem?_eq_some_iff.1 h2).1⟩ hi⟩
  refine ⟨some a', len, cap, rfl, by omega, hl, fun i j => Classical.choose (each i j), fun i hi j k hkj => (Classical.choose_spec (each i j) hi k hkj).2, fun h0 => ?_⟩
  have e0 : a'.add (0 * ks.length + 0) = a' := by unfold Addr.add; simp
  obtain ⟨q00, h00⟩ := each 0 0
  have hk0 := List.getElem?_eq_getElem hs
  have h00' := (h00 h0 _ hk0)
  have h01 := h00'.1
  rw [e0] at h01
  have e1 : ∃ b off, a' = ⟨b, off, none⟩ := by
    have h02 := h00'.2
    unfold OkV at h02
    split at h02
    · obtain ⟨nn, rfl, _⟩ := h02; exact spotless1 h01
    · obtain ⟨bb, rfl⟩ := h02
      unfold World.cell? at h01
      cases a' with
      | mk b off sp =>
        cases sp with
        | none => exact ⟨b, off, rfl⟩
        | some s => simp at h01; split at h01 <;> simp_all
  obtain ⟨b, off, e1⟩ := e1
  refine ⟨b, off, by rw [e1], fun p hp => ?_⟩
  have hj : p % ks.length < ks.length := Nat.mod_lt _ hs
  have hi : p / ks.length < len := Nat.div_lt_of_lt_mul (by rw [Nat.mul_comm]; exact hp)
  have := (Classical.choose_spec (each (p / ks.length) (p % ks.length)) hi _ (List.getElem?_eq_getElem hj)).1
  have ea : a'.add (p / ks.length * ks.length + p % ks.length) = ⟨b, off + p, none⟩ := by rw [e1, addr_add, Nat.mul_comm, Nat.div_add_mod]
  exact (congrArg w.cell? ea).symm.trans this
end
section
variable {H : Type} {enc : TypeId × Value → H} {P : Program} {w : World}
theorem Arr.cong {w : World} {a : Option Addr} {n s : Nat} {x y : Nat → Value} (h : Fx.Arr w a n s x) (e : ∀ p, p < n * s → x p = y p) : Fx.Arr w a n s y := fun h0 => by
  obtain ⟨b, off, ea, hc⟩ := h h0
  exact ⟨b, off, ea, fun i hi => by rw [← e i hi]; exact hc i hi⟩
end
end Go.Proofs.Ytleajegppehbdaa
namespace Go.Proofs.Ytleajegppehbdaa
open Go.RowKit Go.WideShapes Go.ChangeShapes Go.Deep Rt
def boolOf : Value → Bool | .bool b => b | _ => false
theorem OkV.int {k : IntKind} {v : Value} (h : OkV (some k) v) : v = .int k (intOf v) ∧ (Lit.int k (intOf v)).wf = true := by
  obtain ⟨n, rfl, hw⟩ := h; exact ⟨rfl, hw⟩
theorem OkV.bool {v : Value} (h : OkV none v) : v = .bool (boolOf v) := by
  obtain ⟨b, rfl⟩ := h; rfl
theorem wf_u8 {n : Int} (h : (Lit.int .u8 n).wf = true) : 0 ≤ n ∧ n ≤ 255 := by simp [Lit.wf, IntKind.min, IntKind.max, IntKind.bits, IntKind.signed] at h; omega
theorem wf_u16 {n : Int} (h : (Lit.int .u16 n).wf = true) : 0 ≤ n ∧ n ≤ 65535 := by simp [Lit.wf, IntKind.min, IntKind.max, IntKind.bits, IntKind.signed] at h; omega
theorem nat_u8 {n : Int} (h : (Lit.int .u8 n).wf = true) : ∃ m : Nat, n = (m : Int) ∧ m ≤ 255 := by
  have := wf_u8 h; exact ⟨n.toNat, by omega, by omega⟩
theorem Fx.Arr.congr {w : World} {a : Option Addr} {n s : Nat} {x y : Nat → Value} (h : Fx.Arr w a n s x) (e : ∀ p, p < n * s → x p = y p) : Fx.Arr w a n s y := fun h0 => by
  obtain ⟨b, off, ea, hc⟩ := h h0
  exact ⟨b, off, ea, fun i hi => by rw [← e i hi]; exact hc i hi⟩
def actKs : List (Option IntKind) := [some .u8, none, some .u8, some .u8, some .u8, some .u8, some .u16, some .u8, some .u8]
def actOf (X : Nat → Value) : ActM := ⟨(intOf (X 0)).toNat, boolOf (X 1), (intOf (X 2)).toNat, (intOf (X 3)).toNat, (intOf (X 4)).toNat, (intOf (X 5)).toNat, (intOf (X 6)).toNat, (intOf (X 7)).toNat, (intOf (X 8)).toNat⟩
theorem actOf_ok {X : Nat → Value} (h : ∀ (j : Nat) (k : Option IntKind), actKs[j]? = some k → OkV k (X j)) : ActOk (actOf X) ∧ ∀ j, j < 9 → X j = actY (actOf X) j := by
  have u8 : ∀ j, actKs[j]? = some (some .u8) → X j = .int .u8 ((intOf (X j)).toNat : Int) ∧ (intOf (X j)).toNat ≤ 255 := fun j hj => by
    obtain ⟨e, hw⟩ := (h j _ hj).int
    have := wf_u8 hw
    exact ⟨by rw [Int.toNat_of_nonneg this.1]; exact e, by omega⟩
  have h6 : X 6 = .int .u16 ((intOf (X 6)).toNat : Int) ∧ (intOf (X 6)).toNat ≤ 65535 := by
    obtain ⟨e, hw⟩ := (h 6 (some .u16) rfl).int
    have := wf_u16 hw
    exact ⟨by rw [Int.toNat_of_nonneg this.1]; exact e, by omega⟩
  refine ⟨⟨(u8 0 rfl).2, (u8 2 rfl).2, (u8 3 rfl).2, (u8 4 rfl).2, (u8 5 rfl).2, h6.2, (u8 7 rfl).2, (u8 8 rfl).2⟩, fun j hj => ?_⟩
  rcases j with _|_|_|_|_|_|_|_|_|j
  · exact (u8 0 rfl).1
  · exact (h 1 none rfl).bool
  · exact (u8 2 rfl).1
  · exact (u8 3 rfl).1
  · exact (u8 4 rfl).1
  · exact (u8 5 rfl).1
  · exact h6.1
  · exact (u8 7 rfl).1
  · exact (u8 8 rfl).1
  omega
section
variable {H : Type} {enc : TypeId × Value → H} {P : Program} {w : World}
theorem open_acts {t e : TypeId} {a : Option Addr} {len cap D : Nat} {d : DataW H} {ps : List MemPlace} (ht : P.underlying t = some (.slice e)) (hk : flatKb P D e = some actKs) (ce : P.cellsOf e = 9)
    (h : DataW.Trod enc P w 0 (fun _ => true) true t (.slice a len cap) d ps) : ∃ xa : Nat → ActM, (∀ i, i < len → ActOk (xa i)) ∧ Fx.Arr w a len 9 (Fx.flat 9 fun k => actY (xa k)) := by
  obtain ⟨fuel, hf⟩ := h
  obtain ⟨a', l', c', hcs, _, _, X, hX, hA⟩ := open_rows ht hk ce (by decide) hf
  simp [Value.cells] at hcs
  obtain ⟨rfl, rfl, rfl⟩ := hcs
  exact ⟨fun i => actOf (X i), fun i hi => (actOf_ok (hX i hi)).1, hA.congr (Fx.flat_cong fun k hk j hj => (actOf_ok (hX k hk)).2 j hj)⟩
end
end Go.Proofs.Ytleajegppehbdaa
