/-
  What the proof of the law rests on, part 3: walks of functions, and plain laws; each says its conditions itself.
-/
import Derived.Test.YtkajcjefckjijaaRows
import Derived.WalkKit
import Derived.WalkSpells
import Derived.WalkLawsBesides
import Derived.Test.YtkajcjefckjijaaZD2
set_option maxHeartbeats 1600000
set_option linter.unusedVariables false
set_option linter.unusedSimpArgs false
namespace Go.Proofs.Ytkajcjefckjijaa
open Go.RowKit Rt
set_option linter.unusedVariables false
namespace Fx
def slA (s j c : Nat) (a : Option Addr) : Option Addr := if c = j then a else a.map (·.add (j * s))
theorem x_slA {P : Program} {f : Nat → Value} {w : World} {o : Oper} {T E : TypeId} {x lo : Operand} {a : Option Addr} {k c s j : Nat} (ho : o.op = .slice T x (some lo) none none) (hx : ev f x = .slice a k c) (hl : ev f lo = .int .i64 j)
    (hu : P.underlying T = some (.slice E)) (hs : (P.info? E).map (·.size) = some s) (h1 : j ≤ k) (h2 : k ≤ c) : Runs P f o w (.slice (slA s j c a) (k - j) (c - j)) :=
  x_sl (h := k) ho hx (by rw [if_neg (by rintro ⟨_, h⟩; cases h)]; exact congrArg some hl) (by rw [if_pos ⟨rfl, rfl⟩]; rfl) hu hs h1 h2
theorem Arr.sl {w : World} {a : Option Addr} {k c s j : Nat} {y : Nat → Value} (hA : Arr w a k s y) (h2 : k ≤ c) : Arr w (slA s j c a) (k - j) s (fun p => y (j * s + p)) := fun h0 => by
  have hj : j < k := by
    rcases Nat.lt_or_ge j k with h | h
    · exact h
    · rw [show k - j = 0 by omega] at h0; simp at h0
  obtain ⟨b, off, rfl, hcel⟩ := hA (by have := Nat.mul_le_mul_right s (show k - j ≤ k by omega); omega)
  unfold slA
  rw [if_neg (by omega)]
  refine ⟨b, off + j * s, by simp [addr_add], fun p hp => ?_⟩
  have hlt : j * s + p < k * s := by
    have e : (k - j) * s = k * s - j * s := Nat.sub_mul _ _ _
    have := Nat.mul_le_mul_right s (show j ≤ k by omega)
    omega
  have := hcel (j * s + p) hlt
  rw [show off + j * s + p = off + (j * s + p) by omega]; exact this
theorem Arr.to {w : World} {a : Option Addr} {n n' s : Nat} {x y : Nat → Value} (h : Arr w a n s x) (hn : n = n') (e : ∀ j, j < n' * s → x j = y j) : Arr w a n' s y := fun h0 => by
  subst hn
  obtain ⟨b, off, e1, hc⟩ := h h0
  exact ⟨b, off, e1, fun p hp => by rw [← e p hp]; exact hc p hp⟩
theorem getD_app {α : Type} {d : α} {l r : List α} {k : Nat} : (l ++ r).getD k d = if k < l.length then l.getD k d else r.getD (k - l.length) d := by
  rw [List.getD_eq_getElem?_getD, List.getD_eq_getElem?_getD, List.getD_eq_getElem?_getD]
  by_cases c : k < l.length
  · rw [if_pos c, List.getElem?_append_left c]
  rw [if_neg c, List.getElem?_append_right (by omega)]
theorem flat_app {α : Type} {d : α} {Y : α → Nat → Value} {s n : Nat} {l r : List α} (hs : 0 < s) (hn : n = l.length) : ∀ j, appX (flat s fun k => Y (l.getD k d)) (n * s) (flat s fun k => Y (r.getD k d)) j = flat s (fun k => Y ((l ++ r).getD k d)) j := fun j => by
  subst hn
  unfold appX flat
  show _ = Y ((l ++ r).getD (j / s) d) (j % s)
  rw [getD_app]
  by_cases c : j < l.length * s
  · rw [if_pos c, if_pos (Nat.div_lt_of_lt_mul (by rw [Nat.mul_comm]; exact c))]
  · have h1 : l.length ≤ j / s := (Nat.le_div_iff_mul_le hs).2 (by omega)
    rw [if_neg c, if_neg (by omega)]
    have e1 : j - l.length * s = j - s * l.length := by rw [Nat.mul_comm]
    rw [e1, Nat.sub_mul_div, Nat.sub_mul_mod (by rw [Nat.mul_comm]; omega)]
theorem flat_app1 {α : Type} {d : α} {Y : α → Nat → Value} {s n : Nat} {l : List α} {x : α} {z : Nat → Value} (hs : 0 < s) (hn : n = l.length) : ∀ j, j < (n + 1) * s → appX (flat s fun k => Y (l.getD k d)) (n * s) (ovr z (0 * s) s (Y x)) j = flat s (fun k => Y ((l ++ [x]).getD k d)) j := fun j hj => by
  rw [← flat_app hs hn]
  unfold appX
  by_cases c : j < n * s
  · rw [if_pos c, if_pos c]
  · rw [if_neg c, if_neg c]
    have h2 : j - n * s < s := by rw [Nat.add_mul] at hj; omega
    unfold ovr flat
    rw [if_pos ⟨by omega, by omega⟩, Nat.div_eq_of_lt h2, Nat.mod_eq_of_lt h2, Nat.zero_mul, Nat.sub_zero]; rfl
theorem flat_tail {α : Type} {d : α} {Y : α → Nat → Value} {s : Nat} {l : List α} (hs : 0 < s) (p : Nat) : flat s (fun k => Y (l.getD k d)) (1 * s + p) = flat s (fun k => Y (l.tail.getD k d)) p := by
  unfold flat
  have e : l.getD ((1 * s + p) / s) d = l.tail.getD (p / s) d := by
    rw [Nat.one_mul, Nat.add_div_left _ hs]; cases l <;> rfl
  rw [show (1 * s + p) % s = p % s by rw [Nat.one_mul, Nat.add_mod_left]]
  show Y (l.getD ((1 * s + p) / s) d) _ = _
  rw [e]
end Fx
namespace Rt
theorem tailN {w : World} {a : Option Addr} {n c : Nat} {l : List NdM} (h : Fx.Arr w a n 56 (ndsX l)) (hc : n ≤ c) : Fx.Arr w (Fx.slA 56 1 c a) (n - 1) 56 (ndsX l.tail) := (h.sl hc).to rfl fun p _ => Fx.flat_tail (Y := ndZ) (d := nd0) (by decide) p
theorem tailG {w : World} {a : Option Addr} {n c : Nat} {l : List GrM} (h : Fx.Arr w a n 5 (grsX l)) (hc : n ≤ c) : Fx.Arr w (Fx.slA 5 1 c a) (n - 1) 5 (grsX l.tail) := (h.sl hc).to rfl fun p _ => Fx.flat_tail (Y := grZ) (d := gr0) (by decide) p
theorem nds_app1 {n : Nat} {l : List NdM} {x : NdM} {z : Nat → Value} (hn : n = l.length) : ∀ j, j < (n + 1) * 56 → Fx.appX (ndsX l) (n * 56) (Fx.ovr z (0 * 56) 56 (ndZ x)) j = ndsX (l ++ [x]) j := Fx.flat_app1 (by decide) hn
theorem grs_app1 {n : Nat} {l : List GrM} {x : GrM} {z : Nat → Value} (hn : n = l.length) : ∀ j, j < (n + 1) * 5 → Fx.appX (grsX l) (n * 5) (Fx.ovr z (0 * 5) 5 (grZ x)) j = grsX (l ++ [x]) j := Fx.flat_app1 (by decide) hn
theorem nds_app {n : Nat} {l r : List NdM} (hn : n = l.length) : ∀ j, Fx.appX (ndsX l) (n * 56) (ndsX r) j = ndsX (l ++ r) j := Fx.flat_app (by decide) hn
theorem grs_app {n : Nat} {l r : List GrM} (hn : n = l.length) : ∀ j, Fx.appX (grsX l) (n * 5) (grsX r) j = grsX (l ++ r) j := Fx.flat_app (by decide) hn
theorem nds_one (l : List NdM) (j : Nat) : (ndsX l j).oneCell' = true := ndZ_one _ _
theorem grs_one (l : List GrM) (j : Nat) : (grsX l j).oneCell' = true := grZ_one _ _
theorem mN_lt {a b : List NdM} (ha : 0 < a.length) (hb : 0 < b.length) (h : (ndA a 0).id < (ndA b 0).id) : mergeN a b = (mergeN a.tail b).map (ndA a 0 :: ·) := by
  rcases a with _ | ⟨x, a⟩
  · cases ha
  rcases b with _ | ⟨y, b⟩
  · cases hb
  rw [mergeN]; exact if_pos h
theorem mN_gt {a b : List NdM} (ha : 0 < a.length) (hb : 0 < b.length) (h : (ndA b 0).id < (ndA a 0).id) : mergeN a b = (mergeN a b.tail).map (ndA b 0 :: ·) := by
  rcases a with _ | ⟨x, a⟩
  · cases ha
  rcases b with _ | ⟨y, b⟩
  · cases hb
  have h : y.id < x.id := h
  rw [mergeN, if_neg (by omega)]; exact if_pos h
theorem mN_no {a b : List NdM} (ha : 0 < a.length) (hb : 0 < b.length) (h1 : ¬ (ndA a 0).id < (ndA b 0).id) (h2 : ¬ (ndA b 0).id < (ndA a 0).id) (h : ¬ (ndA a 0).par = (ndA b 0).par) : mergeN a b = none := by
  rcases a with _ | ⟨x, a⟩
  · cases ha
  rcases b with _ | ⟨y, b⟩
  · cases hb
  rw [mergeN]; exact (if_neg h1).trans ((if_neg h2).trans (if_pos h))
theorem mN_yes {a b : List NdM} (ha : 0 < a.length) (hb : 0 < b.length) (h1 : ¬ (ndA a 0).id < (ndA b 0).id) (h2 : ¬ (ndA b 0).id < (ndA a 0).id) (h : (ndA a 0).par = (ndA b 0).par) : mergeN a b = (mergeN a.tail b.tail).map (ndJ (ndA a 0) (ndA b 0) :: ·) := by
  rcases a with _ | ⟨x, a⟩
  · cases ha
  rcases b with _ | ⟨y, b⟩
  · cases hb
  rw [mergeN]; exact (if_neg h1).trans ((if_neg h2).trans (if_neg (fun q => q h)))
theorem mN_end {a b : List NdM} (h : a = [] ∨ b = []) : mergeN a b = some (a ++ b) := by
  rcases a with _ | ⟨x, a⟩
  · rw [mergeN]; rfl
  rcases b with _ | ⟨y, b⟩
  · rw [mergeN, List.append_nil]
  rcases h with h | h <;> cases h
theorem mG_lt {a b : List GrM} (ha : 0 < a.length) (hb : 0 < b.length) (h : grLt (grA a 0) (grA b 0)) : mergeG a b = (mergeG a.tail b).map (grA a 0 :: ·) := by
  rcases a with _ | ⟨x, a⟩
  · cases ha
  rcases b with _ | ⟨y, b⟩
  · cases hb
  rw [mergeG]; exact if_pos h
theorem grLt_asym {x y : GrM} (h : grLt x y) : ¬ grLt y x := by unfold grLt at *; omega
theorem mG_gt {a b : List GrM} (ha : 0 < a.length) (hb : 0 < b.length) (h : grLt (grA b 0) (grA a 0)) : mergeG a b = (mergeG a b.tail).map (grA b 0 :: ·) := by
  rcases a with _ | ⟨x, a⟩
  · cases ha
  rcases b with _ | ⟨y, b⟩
  · cases hb
  have h : grLt y x := h
  rw [mergeG, if_neg (grLt_asym h)]; exact if_pos h
theorem mG_no {a b : List GrM} (ha : 0 < a.length) (hb : 0 < b.length) (h1 : ¬ grLt (grA a 0) (grA b 0)) (h2 : ¬ grLt (grA b 0) (grA a 0)) (h : GrBad (grA a 0) (grA b 0)) : mergeG a b = none := by
  rcases a with _ | ⟨x, a⟩
  · cases ha
  rcases b with _ | ⟨y, b⟩
  · cases hb
  rw [mergeG]; exact (if_neg h1).trans ((if_neg h2).trans (if_pos h))
theorem mG_yes {a b : List GrM} (ha : 0 < a.length) (hb : 0 < b.length) (h1 : ¬ grLt (grA a 0) (grA b 0)) (h2 : ¬ grLt (grA b 0) (grA a 0)) (h : ¬ GrBad (grA a 0) (grA b 0)) : mergeG a b = (mergeG a.tail b.tail).map (grJ (grA a 0) (grA b 0) :: ·) := by
  rcases a with _ | ⟨x, a⟩
  · cases ha
  rcases b with _ | ⟨y, b⟩
  · cases hb
  rw [mergeG]; exact (if_neg h1).trans ((if_neg h2).trans (if_neg h))
theorem mG_end {a b : List GrM} (h : a = [] ∨ b = []) : mergeG a b = some (a ++ b) := by
  rcases a with _ | ⟨x, a⟩
  · rw [mergeG]; rfl
  rcases b with _ | ⟨y, b⟩
  · rw [mergeG, List.append_nil]
  rcases h with h | h <;> cases h
theorem m_step {α : Type} {p q r : Option (List α)} {ol : List α} {x : α} (h : p = q.map (ol ++ ·)) (e : q = r.map (x :: ·)) : p = r.map ((ol ++ [x]) ++ ·) := by
  rw [h, e]; cases r <;> simp
theorem nonneg_tail {l : List GrM} (h : ∀ k, k < l.length → 0 ≤ (grA l k).b) : ∀ k, k < l.tail.length → 0 ≤ (grA l.tail k).b := fun k hk => by
  rcases l with _ | ⟨x, l⟩
  · cases hk
  · exact h (k + 1) (Nat.succ_lt_succ hk)
end Rt
set_option maxRecDepth 20000 in
theorem s_mergeN (aa ba : Option Addr) (cpa cpb : Nat) (la lb : List NdM) (w : World) (hl1 : la.length ≤ 1000000) (hl2 : lb.length ≤ 1000000) (ha : Fx.Arr w aa la.length 56 (ndsX la)) (hb : Fx.Arr w ba lb.length 56 (ndsX lb)) (ha2 : la.length ≤ cpa) (hb2 : lb.length ≤ cpb) :
    Calls Try.prog 21 #[.slice aa (la.length) (cpa), .slice ba (lb.length) (cpb), .func (.func 22) #[] #[], .func (.func 23) #[] #[]] w fun e w' => (mergeN la lb = none ∧ e = .returned (.tuple #[.slice none 0 0, .int .i64 9]) ∧ Below w.heap.size w w') ∨ (∃ l a' c', mergeN la lb = some l ∧ e = .returned (.tuple #[.slice a' l.length c', .int .i64 0]) ∧ Fx.Own w' w.heap.size 50 56 (.slice a' l.length c') l.length (ndsX l) ∧ Below w.heap.size w w') := by
 refine Kent Try.func21 78 ?_
 refine KWsl (KLq (.slice none 0 0) (KLq (Ki6 0) (KLe (Fx.Ws (Fx.Wb ?_)))))
 have m1 : Fx.Own w w.heap.size 50 56 (.slice none (0) (0)) 0 (ndsX ([])) := Fx.oNl _ _ _ _ _
 refine Fx.WoE (fun kE f w_ => ∃ na : Nat, ∃ nb : Nat, ∃ ca : Nat, ∃ cb : Nat, ∃ aa1 : Option Addr, ∃ bb1 : Option Addr, ∃ ra : List NdM, ∃ rb : List NdM, ∃ ol : List NdM, ∃ n : Nat, ∃ ao : Option Addr, ∃ co : Nat, kE = na + nb ∧ Fx.Arr w aa1 na 56 (ndsX ra) ∧ Fx.Arr w bb1 nb 56 (ndsX rb) ∧ na = ra.length ∧ nb = rb.length ∧ na ≤ ca ∧ nb ≤ cb ∧ n = ol.length ∧ n + na + nb ≤ 2000000 ∧ mergeN la lb = (mergeN ra rb).map (ol ++ ·) ∧ f 0 = .slice aa1 (na) (ca) ∧ f 1 = .slice bb1 (nb) (cb) ∧ f 2 = .func (.func 22) #[] #[] ∧ f 3 = .func (.func 23) #[] #[] ∧ f 8 = .slice ao (n) (co) ∧ Fx.Own w_ w.heap.size 50 56 (.slice ao (n) (co)) n (ndsX ol) ∧ Below w.heap.size w w_) (la.length + lb.length) ⟨la.length, lb.length, cpa, cpb, aa, ba, la, lb, [], 0, none, 0, rfl, ha, hb, rfl, rfl, ha2, hb2, rfl, (by omega), (by cases mergeN la lb <;> rfl), (by rfl), (by rfl), (by rfl), (by rfl), (by rfl), m1, (Below.refl w.heap.size w)⟩ ?_
 rintro kE f1 w1 ⟨na, nb, ca, cb, aa1, bb1, ra, rb, ol, n, ao, co, hk, hA, hB, hra, hrb, hca, hcb, hn, hs, hj, h1, h2, h3, h4, h5, m2, b1⟩
 refine Fx.Ws (KWsl (KLh h1 (KLq (Ki6 na) ?_)))
 by_cases c15 : 0 < (na : Int)
 ·refine Fx.Lv KbT (KgtT c15) (KLq KbT (KLh h2 (KLq (Ki6 nb) ?_)))
  by_cases c19 : 0 < (nb : Int)
  ·refine Fx.Lv KbT (KgtT c19) (KLq KbT (KLe (KWcT (Fx.Wk (Fx.sN (Fx.Wb (Fx.Ws ?_)))))))
   -- region 2 draws
   refine KWqb (KQh h3 (KQh h1 ?_))
   obtain ⟨bq1, oq1, eq1, m3z⟩ := hA (by omega)
   have lbq1z : bq1 < w.heap.size := m3z.lt (by omega)
   have m3 := m3z.below b1 lbq1z
   have lbq1 : bq1 < w1.heap.size := m3.lt (by omega)
   refine Fx.Qv (.pointer (some ⟨bq1, oq1, none⟩)) (fun v1 hv1 => Kxi 56 (hx := (rfl.trans (congrArg (fun q => Value.slice q (na) (ca)) eq1)))) (Fx.Qv (.agg (Fx.varr 56 (ndZ (ndA ra 0)))) (fun v1 hv1 => KxA (m3.below hv1 (m3.lt (by omega))) 0 (x := ndsX ra) (fun jq hjq => Fx.flat_at (k := 0) (by omega) hjq)) (KQh h2 ?_))
   obtain ⟨bq2, oq2, eq2, m4z⟩ := hB (by omega)
   have lbq2z : bq2 < w.heap.size := m4z.lt (by omega)
   have m4 := m4z.below b1 lbq2z
   have lbq2 : bq2 < w1.heap.size := m4.lt (by omega)
   refine Fx.Qv (.pointer (some ⟨bq2, oq2, none⟩)) (fun v1 hv1 => Kxi 56 (hx := (rfl.trans (congrArg (fun q => Value.slice q (nb) (cb)) eq2)))) (Fx.Qv (.agg (Fx.varr 56 (ndZ (ndA rb 0)))) (fun v1 hv1 => KxA (m4.below hv1 (m4.lt (by omega))) 0 (x := ndsX rb) (fun jq hjq => Fx.flat_at (k := 0) (by omega) hjq)) (Fx.Qcl (v := .int .i64 (cmp3 (ndA ra 0).id (ndA rb 0).id)) (by rfl) (fun v1 hv1 => Fx.r_clo (args := [.agg (Fx.varr 56 (ndZ (ndA ra 0))), .agg (Fx.varr 56 (ndZ (ndA rb 0)))]) rfl rfl rfl (all := #[.agg (Fx.varr 56 (ndZ (ndA ra 0))), .agg (Fx.varr 56 (ndZ (ndA rb 0)))]) rfl Try.func22 rfl rfl) rfl (fun v1 hv1 => (s_byId (ndA ra 0) (ndA rb 0) _).mono fun e v2 h => ⟨h.1, bch hv1 h.2⟩) ?_))
   refine KQq (Ki6 (cmp3 (ndA ra 0).id (ndA rb 0).id)) (Fx.Qn ?_)
   intro wb1 hbwb1
   have ⟨m5, m6, m7, b2⟩ := KTk4 hbwb1 m2 m3 m4 b1
   refine Fx.sN (Fx.Wb (KWsl (KLq (Ki6 (cmp3 (ndA ra 0).id (ndA rb 0).id)) ?_)))
   by_cases c53 : (cmp3 (ndA ra 0).id (ndA rb 0).id) < 0
   ·refine Fx.Lv KbT (KltT c53) (KLq KbT (KLe (KWcT ?_)))
    -- region 8 draws
    refine Fx.W.reordR [0, 1, 2, 6, 7, 3, 4, 5, 8, 9] [0, 0, 0, 4, 2, 2, 0, 0, 0, 0] (Fx.ChT [50]) Fx.cRf Fx.ChT.trans (certs := [(4, 3, [3]), (5, 3, [4, 3]), (5, 4, [4]), (8, 4, [4]), (9, 4, [4]), (8, 5, [5]), (9, 5, [5])]) (by kernel_rfl) (by kernel_rfl) (by kernel_rfl) (by kernel_rfl) (by kernel_rfl) fun wt1 hbwt1 hzwt1 => ?_
    have ⟨m8, m9, m10, b3⟩ := KTk4 hbwt1 m5 m6 m7 b2
    refine KRh h5 (KRh h1 (Fx.Rp (.pointer (some ⟨bq1, oq1, none⟩)) (fun _ => Kxi 56 (hx := (rfl.trans (congrArg (fun q => Value.slice q (na) (ca)) eq1)))) (KRh h1 (Fx.Rp (.slice (Fx.slA 56 1 ca aa1) (na - 1) (ca - 1)) (fun v1 => Fx.x_slA (j := 1) (s := 56) rfl rfl rfl Try.underlying26 (by kernel_rfl) (by omega) hca) (Fx.Rs (.agg (Fx.varr 56 (ndZ (ndA ra 0)))) (KxA m9 0 (fun jq hjq => Fx.flat_at (k := 0) (by omega) hjq)) ?_)))))
    refine KRk (Fx.Lbs (vs := [(0, .agg (Fx.varr 56 (ndZ (ndA ra 0))))]) (s := 56) (zc := fun i => (#[.int .u64 (0), .int .u64 (0), .int .i64 (0), .int .i64 (0), .int .i64 (0), .int .i64 (0), .int .i64 (0), .int .i64 (0), .int .i64 (0), .int .i64 (0), .int .i64 (0), .int .i64 (0), .int .i64 (0), .int .i64 (0), .int .i64 (0), .int .i64 (0), .int .i64 (0), .int .i64 (0), .int .i64 (0), .int .i64 (0), .int .i64 (0), .int .i64 (0), .int .i64 (0), .int .i64 (0), .int .i64 (0), .int .i64 (0), .int .i64 (0), .int .i64 (0), .int .i64 (0), .int .i64 (0), .int .i64 (0), .int .i64 (0), .int .i64 (0), .int .i64 (0), .int .i64 (0), .int .i64 (0), .int .i64 (0), .int .i64 (0), .int .i64 (0), .int .i64 (0), .int .i64 (0), .int .i64 (0), .int .i64 (0), .int .i64 (0), .int .i64 (0), .int .i64 (0), .int .i64 (0), .int .i64 (0), .int .i64 (0), .int .i64 (0), .int .i64 (0), .int .i64 (0), .int .i64 (0), .int .i64 (0), .int .i64 (0), .int .i64 (0)] : Array Value).getD i undef) (y := Fx.ovr (fun j => (#[.int .u64 (0), .int .u64 (0), .int .i64 (0), .int .i64 (0), .int .i64 (0), .int .i64 (0), .int .i64 (0), .int .i64 (0), .int .i64 (0), .int .i64 (0), .int .i64 (0), .int .i64 (0), .int .i64 (0), .int .i64 (0), .int .i64 (0), .int .i64 (0), .int .i64 (0), .int .i64 (0), .int .i64 (0), .int .i64 (0), .int .i64 (0), .int .i64 (0), .int .i64 (0), .int .i64 (0), .int .i64 (0), .int .i64 (0), .int .i64 (0), .int .i64 (0), .int .i64 (0), .int .i64 (0), .int .i64 (0), .int .i64 (0), .int .i64 (0), .int .i64 (0), .int .i64 (0), .int .i64 (0), .int .i64 (0), .int .i64 (0), .int .i64 (0), .int .i64 (0), .int .i64 (0), .int .i64 (0), .int .i64 (0), .int .i64 (0), .int .i64 (0), .int .i64 (0), .int .i64 (0), .int .i64 (0), .int .i64 (0), .int .i64 (0), .int .i64 (0), .int .i64 (0), .int .i64 (0), .int .i64 (0), .int .i64 (0), .int .i64 (0)] : Array Value).getD (j % 56) undef) (0 * 56) 56 (ndZ (ndA ra 0))) (by rfl) rfl rfl Try.underlying26 (by kernel_rfl) (by rfl) (by rfl) (by kernel_rfl) (by rw [Fx.fill_step (off := 0 * 56) (s := 56) (y := ndZ (ndA ra 0)) rfl (Fx.cells_agg _ _) (by rfl)]; rfl) rfl fun g1 w2 eg1 m11 s3 z1 => ?_)
    have ⟨m12, b4⟩ := KTk2 s3.old m8 b3
    have lg1 := KGk eg1 b3.size
    have ng1m12 : (.slice ao (n) (co) : Value).ownBlock ≠ some g1 := by rw [eg1]; exact m8.notNew (Nat.le_refl _)
    have ng1m13 : bq1 ≠ g1 := by rw [eg1]; exact Nat.ne_of_lt (m9.lt (by omega))
    have ng1m14 : bq2 ≠ g1 := by rw [eg1]; exact Nat.ne_of_lt (m10.lt (by omega))
    have tg1 := m11.lt
    refine Fx.Ln ⟨Fx.ChT.of_below s3.old, ?_⟩
    refine KRk (Fx.Lap (B := w.heap.size) (s := 56) (bytes := 448) (k := n) (m := 1) (v := .slice ao (n) (co)) (x := ndsX ol) (by rfl) rfl rfl rfl Try.underlying26 (by kernel_rfl) (by kernel_rfl) rfl rfl m12 m11.cel (fun j hj => by unfold Fx.ovr; rw [if_pos ⟨by omega, by omega⟩]; exact ndZ_one _ _) (by omega) (by omega) (by omega) b4.size fun g2 cap1 w3 ho1 hg1 hgv1 hlt1 => ?_)
    have hct1 := Fx.cOg hg1 m12
    have m15 : Fx.Own w3 w.heap.size 50 56 (.slice (some ⟨g2, 0, none⟩) (n + 1) cap1) (n + 1) (ndsX (ol ++ [(ndA ra 0)])) := (ho1.congr (nds_app1 (l := ol) (x := (ndA ra 0)) hn))
    have b5 : Below w.heap.size w w3 := Fx.bGr b4 hg1 b4.size (fun q hq => (m12.ge hq).1)
    refine Fx.Ln ⟨hct1, ?_⟩
    refine KRq (.slice (some ⟨g2, 0, none⟩) (n + 1) (cap1)) (KRq (.slice (Fx.slA 56 1 ca aa1) (na - 1) (ca - 1)) (Fx.Rn (Fx.blkN (Fx.blkN ?_))))
    skip
    refine Fx.lpN ⟨na - 1 + nb, (by omega), na - 1, nb, ca - 1, cb, Fx.slA 56 1 ca aa1, bb1, ra.tail, rb, ol ++ [(ndA ra 0)], n + 1, (some ⟨g2, 0, none⟩), cap1, (by omega), (tailN hA hca), hB, (by rw [List.length_tail]; omega), hrb, (by omega), hcb, (by rw [List.length_append]; exact congrArg (· + 1) hn), (by omega), (m_step hj (mN_lt (by omega) (by omega) (cmp_neg.1 c53))), (by rfl), h2, h3, h4, (by rfl), m15, b5⟩ (by decide)
   refine Fx.Lv KbF (KltF c53) (KLq KbF (KLe (KWcF (KWsl (KLq (Ki6 (cmp3 (ndA ra 0).id (ndA rb 0).id)) ?_)))))
   by_cases c64 : 0 < (cmp3 (ndA ra 0).id (ndA rb 0).id)
   ·refine Fx.Lv KbT (KgtT c64) (KLq KbT (KLe (KWcT ?_)))
    -- region 10 draws
    refine Fx.W.reordR [0, 1, 2, 6, 7, 3, 4, 5, 8, 9] [0, 0, 0, 4, 2, 2, 0, 0, 0, 0] (Fx.ChT [50]) Fx.cRf Fx.ChT.trans (certs := [(4, 3, [3]), (5, 3, [4, 3]), (5, 4, [4]), (8, 4, [4]), (9, 4, [4]), (8, 5, [5]), (9, 5, [5])]) (by kernel_rfl) (by kernel_rfl) (by kernel_rfl) (by kernel_rfl) (by kernel_rfl) fun wt2 hbwt2 hzwt2 => ?_
    have ⟨m18, m19, m20, b6⟩ := KTk4 hbwt2 m5 m6 m7 b2
    refine KRh h5 (KRh h2 (Fx.Rp (.pointer (some ⟨bq2, oq2, none⟩)) (fun _ => Kxi 56 (hx := (rfl.trans (congrArg (fun q => Value.slice q (nb) (cb)) eq2)))) (KRh h2 (Fx.Rp (.slice (Fx.slA 56 1 cb bb1) (nb - 1) (cb - 1)) (fun v1 => Fx.x_slA (j := 1) (s := 56) rfl rfl rfl Try.underlying26 (by kernel_rfl) (by omega) hcb) (Fx.Rs (.agg (Fx.varr 56 (ndZ (ndA rb 0)))) (KxA m20 0 (fun jq hjq => Fx.flat_at (k := 0) (by omega) hjq)) ?_)))))
    refine KRk (Fx.Lbs (vs := [(0, .agg (Fx.varr 56 (ndZ (ndA rb 0))))]) (s := 56) (zc := fun i => (#[.int .u64 (0), .int .u64 (0), .int .i64 (0), .int .i64 (0), .int .i64 (0), .int .i64 (0), .int .i64 (0), .int .i64 (0), .int .i64 (0), .int .i64 (0), .int .i64 (0), .int .i64 (0), .int .i64 (0), .int .i64 (0), .int .i64 (0), .int .i64 (0), .int .i64 (0), .int .i64 (0), .int .i64 (0), .int .i64 (0), .int .i64 (0), .int .i64 (0), .int .i64 (0), .int .i64 (0), .int .i64 (0), .int .i64 (0), .int .i64 (0), .int .i64 (0), .int .i64 (0), .int .i64 (0), .int .i64 (0), .int .i64 (0), .int .i64 (0), .int .i64 (0), .int .i64 (0), .int .i64 (0), .int .i64 (0), .int .i64 (0), .int .i64 (0), .int .i64 (0), .int .i64 (0), .int .i64 (0), .int .i64 (0), .int .i64 (0), .int .i64 (0), .int .i64 (0), .int .i64 (0), .int .i64 (0), .int .i64 (0), .int .i64 (0), .int .i64 (0), .int .i64 (0), .int .i64 (0), .int .i64 (0), .int .i64 (0), .int .i64 (0)] : Array Value).getD i undef) (y := Fx.ovr (fun j => (#[.int .u64 (0), .int .u64 (0), .int .i64 (0), .int .i64 (0), .int .i64 (0), .int .i64 (0), .int .i64 (0), .int .i64 (0), .int .i64 (0), .int .i64 (0), .int .i64 (0), .int .i64 (0), .int .i64 (0), .int .i64 (0), .int .i64 (0), .int .i64 (0), .int .i64 (0), .int .i64 (0), .int .i64 (0), .int .i64 (0), .int .i64 (0), .int .i64 (0), .int .i64 (0), .int .i64 (0), .int .i64 (0), .int .i64 (0), .int .i64 (0), .int .i64 (0), .int .i64 (0), .int .i64 (0), .int .i64 (0), .int .i64 (0), .int .i64 (0), .int .i64 (0), .int .i64 (0), .int .i64 (0), .int .i64 (0), .int .i64 (0), .int .i64 (0), .int .i64 (0), .int .i64 (0), .int .i64 (0), .int .i64 (0), .int .i64 (0), .int .i64 (0), .int .i64 (0), .int .i64 (0), .int .i64 (0), .int .i64 (0), .int .i64 (0), .int .i64 (0), .int .i64 (0), .int .i64 (0), .int .i64 (0), .int .i64 (0), .int .i64 (0)] : Array Value).getD (j % 56) undef) (0 * 56) 56 (ndZ (ndA rb 0))) (by rfl) rfl rfl Try.underlying26 (by kernel_rfl) (by rfl) (by rfl) (by kernel_rfl) (by rw [Fx.fill_step (off := 0 * 56) (s := 56) (y := ndZ (ndA rb 0)) rfl (Fx.cells_agg _ _) (by rfl)]; rfl) rfl fun g3 w4 eg3 m21 s5 z2 => ?_)
    have ⟨m22, b7⟩ := KTk2 s5.old m18 b6
    have lg3 := KGk eg3 b6.size
    have ng3m22 : (.slice ao (n) (co) : Value).ownBlock ≠ some g3 := by rw [eg3]; exact m18.notNew (Nat.le_refl _)
    have ng3m23 : bq1 ≠ g3 := by rw [eg3]; exact Nat.ne_of_lt (m19.lt (by omega))
    have ng3m24 : bq2 ≠ g3 := by rw [eg3]; exact Nat.ne_of_lt (m20.lt (by omega))
    have tg3 := m21.lt
    refine Fx.Ln ⟨Fx.ChT.of_below s5.old, ?_⟩
    refine KRk (Fx.Lap (B := w.heap.size) (s := 56) (bytes := 448) (k := n) (m := 1) (v := .slice ao (n) (co)) (x := ndsX ol) (by rfl) rfl rfl rfl Try.underlying26 (by kernel_rfl) (by kernel_rfl) rfl rfl m22 m21.cel (fun j hj => by unfold Fx.ovr; rw [if_pos ⟨by omega, by omega⟩]; exact ndZ_one _ _) (by omega) (by omega) (by omega) b7.size fun g4 cap2 w5 ho2 hg2 hgv2 hlt2 => ?_)
    have hct2 := Fx.cOg hg2 m22
    have m25 : Fx.Own w5 w.heap.size 50 56 (.slice (some ⟨g4, 0, none⟩) (n + 1) cap2) (n + 1) (ndsX (ol ++ [(ndA rb 0)])) := (ho2.congr (nds_app1 (l := ol) (x := (ndA rb 0)) hn))
    have b8 : Below w.heap.size w w5 := Fx.bGr b7 hg2 b7.size (fun q hq => (m22.ge hq).1)
    refine Fx.Ln ⟨hct2, ?_⟩
    refine KRq (.slice (some ⟨g4, 0, none⟩) (n + 1) (cap2)) (KRq (.slice (Fx.slA 56 1 cb bb1) (nb - 1) (cb - 1)) (Fx.Rn (Fx.blkN (Fx.blkN ?_))))
    skip
    refine Fx.lpN ⟨na + (nb - 1), (by omega), na, nb - 1, ca, cb - 1, aa1, Fx.slA 56 1 cb bb1, ra, rb.tail, ol ++ [(ndA rb 0)], n + 1, (some ⟨g4, 0, none⟩), cap2, (by omega), hA, (tailN hB hcb), hra, (by rw [List.length_tail]; omega), hca, (by omega), (by rw [List.length_append]; exact congrArg (· + 1) hn), (by omega), (m_step hj (mN_gt (by omega) (by omega) (cmp_gt.1 c64))), h1, (by rfl), h3, h4, (by rfl), m25, b8⟩ (by decide)
   refine Fx.Lv KbF (KgtF c64) (KLq KbF (KLe (KWcF (Fx.Ws ?_))))
   have n53 : ¬ (ndA ra 0).id < (ndA rb 0).id := fun h => c53 (cmp_neg.2 h)
   have n64 : ¬ (ndA rb 0).id < (ndA ra 0).id := fun h => c64 (cmp_gt.2 h)
   -- region 3 draws
   refine Fx.Wone (T := 50) (T' := 50) (a := .tmp 11) (v := .tmp 38) (m := 56) (z := fun i => (#[.int .u64 (0), .int .u64 (0), .int .i64 (0), .int .i64 (0), .int .i64 (0), .int .i64 (0), .int .i64 (0), .int .i64 (0), .int .i64 (0), .int .i64 (0), .int .i64 (0), .int .i64 (0), .int .i64 (0), .int .i64 (0), .int .i64 (0), .int .i64 (0), .int .i64 (0), .int .i64 (0), .int .i64 (0), .int .i64 (0), .int .i64 (0), .int .i64 (0), .int .i64 (0), .int .i64 (0), .int .i64 (0), .int .i64 (0), .int .i64 (0), .int .i64 (0), .int .i64 (0), .int .i64 (0), .int .i64 (0), .int .i64 (0), .int .i64 (0), .int .i64 (0), .int .i64 (0), .int .i64 (0), .int .i64 (0), .int .i64 (0), .int .i64 (0), .int .i64 (0), .int .i64 (0), .int .i64 (0), .int .i64 (0), .int .i64 (0), .int .i64 (0), .int .i64 (0), .int .i64 (0), .int .i64 (0), .int .i64 (0), .int .i64 (0), .int .i64 (0), .int .i64 (0), .int .i64 (0), .int .i64 (0), .int .i64 (0), .int .i64 (0)] : Array Value).getD i undef) (y := ndZ (if (ndA ra 0).par = (ndA rb 0).par then ndJ (ndA ra 0) (ndA rb 0) else (ndA ra 0))) (u := .agg (Fx.varr 56 (ndZ (if (ndA ra 0).par = (ndA rb 0).par then ndJ (ndA ra 0) (ndA rb 0) else (ndA ra 0))))) 11 12 (List.replicate 14 (0, 2, [], [])) #[.func (.func 23) #[] #[], .slice aa1 (na) (ca), .pointer (some ⟨bq1, oq1, none⟩), .agg (Fx.varr 56 (ndZ (ndA ra 0))), .slice bb1 (nb) (cb), .pointer (some ⟨bq2, oq2, none⟩), .agg (Fx.varr 56 (ndZ (ndA rb 0))), .tuple #[.agg (Fx.varr 56 (ndZ (if (ndA ra 0).par = (ndA rb 0).par then ndJ (ndA ra 0) (ndA rb 0) else (ndA ra 0)))), .int .i64 (if (ndA ra 0).par = (ndA rb 0).par then (0 : Int) else 9)], .tuple #[.agg (Fx.varr 56 (ndZ (if (ndA ra 0).par = (ndA rb 0).par then ndJ (ndA ra 0) (ndA rb 0) else (ndA ra 0)))), .int .i64 (if (ndA ra 0).par = (ndA rb 0).par then (0 : Int) else 9)], .agg (Fx.varr 56 (ndZ (if (ndA ra 0).par = (ndA rb 0).par then ndJ (ndA ra 0) (ndA rb 0) else (ndA ra 0)))), .int .i64 (if (ndA ra 0).par = (ndA rb 0).par then (0 : Int) else 9), undef, undef, .int .i64 (if (ndA ra 0).par = (ndA rb 0).par then (0 : Int) else 9)] (by kernel_rfl) (by kernel_rfl) (by kernel_rfl) (by kernel_rfl) (by kernel_rfl) (by kernel_rfl) rfl (by kernel_rfl) rfl rfl (by kernel_rfl) (fun g5 => (show Fx.ev _ (.tmp 11) = .pointer (some ⟨g5, 0, none⟩) from by kernel_rfl)) (fun g5 => (show Fx.ev _ (.tmp 38) = .agg (Fx.varr 56 (ndZ (if (ndA ra 0).par = (ndA rb 0).par then ndJ (ndA ra 0) (ndA rb 0) else (ndA ra 0)))) from by kernel_rfl)) (Fx.cells_agg _ _) (fun j _ => ndZ_one _ j) (by kernel_rfl) (fun g5 => ?_) ?_
   ·refine ⟨?_, ?_, ?_, ?_, ?_, ?_, ?_, ?_, ?_, ?_, ?_, ?_, ?_, ?_, trivial⟩
    ·exact .inr (.inr (KqV (.func (.func 23) #[] #[]) fun v1 hv1 => Fx.x_move rfl ((Fx.fOne_out (by kernel_rfl)).trans h4)))
    ·exact .inr (.inr (KqV (.slice aa1 (na) (ca)) fun v1 hv1 => Fx.x_move rfl ((Fx.fOne_out (by kernel_rfl)).trans h1)))
    ·exact .inr (.inr (KqV (.pointer (some ⟨bq1, oq1, none⟩)) fun v1 hv1 => Fx.x_indexS rfl ((show Fx.ev _ (.tmp 31) = .slice aa1 (na) (ca) from by kernel_rfl).trans (congrArg (fun q => Value.slice q (na) (ca)) eq1)) (show Fx.ev _ (.const (.int .i64 (0))) = .int .i64 (0) from by kernel_rfl) Try.underlying26 (s := 56) (by kernel_rfl) (by omega) (by omega) (by omega)))
    ·exact .inr (.inr (KqV (.agg (Fx.varr 56 (ndZ (ndA ra 0)))) fun v1 hv1 => Fx.x_loadA (x := ndsX ra) (y := ndZ (ndA ra 0)) rfl (show Fx.ev _ (.tmp 32) = .pointer (some ⟨bq1, oq1, none⟩) from by kernel_rfl) (by kernel_rfl) (by kernel_rfl) (m6.below hv1 (m6.lt (by omega))) (i := 0) (by omega) (by omega) (fun jq hjq => Fx.flat_at (k := 0) (by omega) hjq)))
    ·exact .inr (.inr (KqV (.slice bb1 (nb) (cb)) fun v1 hv1 => Fx.x_move rfl ((Fx.fOne_out (by kernel_rfl)).trans h2)))
    ·exact .inr (.inr (KqV (.pointer (some ⟨bq2, oq2, none⟩)) fun v1 hv1 => Fx.x_indexS rfl ((show Fx.ev _ (.tmp 34) = .slice bb1 (nb) (cb) from by kernel_rfl).trans (congrArg (fun q => Value.slice q (nb) (cb)) eq2)) (show Fx.ev _ (.const (.int .i64 (0))) = .int .i64 (0) from by kernel_rfl) Try.underlying26 (s := 56) (by kernel_rfl) (by omega) (by omega) (by omega)))
    ·exact .inr (.inr (KqV (.agg (Fx.varr 56 (ndZ (ndA rb 0)))) fun v1 hv1 => Fx.x_loadA (x := ndsX rb) (y := ndZ (ndA rb 0)) rfl (show Fx.ev _ (.tmp 35) = .pointer (some ⟨bq2, oq2, none⟩) from by kernel_rfl) (by kernel_rfl) (by kernel_rfl) (m7.below hv1 (m7.lt (by omega))) (i := 0) (by omega) (by omega) (fun jq hjq => Fx.flat_at (k := 0) (by omega) hjq)))
    ·exact .inr (.inr (Fx.qb_yes (v := .tuple #[.agg (Fx.varr 56 (ndZ (if (ndA ra 0).par = (ndA rb 0).par then ndJ (ndA ra 0) (ndA rb 0) else (ndA ra 0)))), .int .i64 (if (ndA ra 0).par = (ndA rb 0).par then (0 : Int) else 9)]) (by kernel_rfl) (by kernel_rfl) (Fx.qbC (fun v1 hv1 => Fx.r_clo (args := [.agg (Fx.varr 56 (ndZ (ndA ra 0))), .agg (Fx.varr 56 (ndZ (ndA rb 0)))]) rfl (show Fx.ev _ (.tmp 30) = .func (.func 23) #[] #[] from by kernel_rfl) (Fx.args2 (show Fx.ev _ (.tmp 33) = .agg (Fx.varr 56 (ndZ (ndA ra 0))) from by kernel_rfl) (show Fx.ev _ (.tmp 36) = .agg (Fx.varr 56 (ndZ (ndA rb 0))) from by kernel_rfl)) (all := #[.agg (Fx.varr 56 (ndZ (ndA ra 0))), .agg (Fx.varr 56 (ndZ (ndA rb 0)))]) rfl Try.func23 rfl rfl) (fun v1 hv1 => (s_node (ndA ra 0) (ndA rb 0) _).mono fun e v2 h => ⟨h.1, h.2⟩))))
    ·exact .inr (.inr KqE)
    ·exact .inr (.inr KqE)
    ·exact .inr (.inr KqE)
    ·exact .inl rfl
    ·exact .inr (.inl rfl)
    exact .inr (.inr KqE)
   rintro g5 w6 f2 hf1 lg5 m28 hb1
   have ng5m6 : bq1 ≠ g5 := Nat.ne_of_lt (Nat.lt_of_lt_of_le (m6.lt (by omega)) lg5)
   have ng5m7 : bq2 ≠ g5 := Nat.ne_of_lt (Nat.lt_of_lt_of_le (m7.lt (by omega)) lg5)
   have ng5m5 : (.slice ao (n) (co) : Value).ownBlock ≠ some g5 := fun e => by have := (m5.ge e).2; omega
   have ⟨m29, m30, m31, b9⟩ := KTk4 hb1 m5 m6 m7 b2
   have lg5 : w.heap.size ≤ g5 := Nat.le_trans b2.size lg5
   have tg5 := m28.lt
   have q1 : f2 0 = .slice aa1 (na) (ca) := by rw [hf1]; exact (Fx.fOne_out (by kernel_rfl)).trans h1
   have q2 : f2 1 = .slice bb1 (nb) (cb) := by rw [hf1]; exact (Fx.fOne_out (by kernel_rfl)).trans h2
   have q3 : f2 2 = .func (.func 22) #[] #[] := by rw [hf1]; exact (Fx.fOne_out (by kernel_rfl)).trans h3
   have q4 : f2 3 = .func (.func 23) #[] #[] := by rw [hf1]; exact (Fx.fOne_out (by kernel_rfl)).trans h4
   have q5 : f2 8 = .slice ao (n) (co) := by rw [hf1]; exact (Fx.fOne_out (by kernel_rfl)).trans h5
   have q9 : f2 16 = .bool true := by rw [hf1]; kernel_rfl
   have q40 : f2 11 = .pointer (some ⟨g5, 0, none⟩) := by rw [hf1]; kernel_rfl
   have q41 : f2 12 = .int .i64 (if (ndA ra 0).par = (ndA rb 0).par then (0 : Int) else 9) := by rw [hf1]; kernel_rfl
   clear hf1
   refine Fx.sN (Fx.Ws (KWsl (KLh q41 ?_)))
   by_cases c41 : (if (ndA ra 0).par = (ndA rb 0).par then (0 : Int) else 9) = 0
   ·refine Fx.Lv KbF (KneF c41) (KLe (KWcF (Fx.Wk (Fx.sN ?_))))
    have c40p : (ndA ra 0).par = (ndA rb 0).par := Classical.byContradiction fun h => by rw [if_neg h] at c41; exact absurd c41 (by decide)
    have m32 : Fx.Blk w6 g5 56 (ndZ (ndJ (ndA ra 0) (ndA rb 0))) 50 := by have q9 := m28; rw [if_pos c40p] at q9; exact q9
    -- region 6 draws
    refine Fx.W.reordR [0, 4, 5, 6, 7, 1, 2, 3, 8, 9, 10] [0, 4, 2, 2, 0, 0, 0, 0, 0, 0, 0] (Fx.ChT [50]) Fx.cRf Fx.ChT.trans (certs := [(2, 1, [1]), (3, 1, [2, 1]), (3, 2, [2]), (8, 2, [2]), (9, 2, [2]), (10, 2, [2]), (8, 3, [3]), (9, 3, [3]), (10, 3, [3])]) (by kernel_rfl) (by kernel_rfl) (by kernel_rfl) (by kernel_rfl) (by kernel_rfl) fun wt3 hbwt3 hzwt3 => ?_
    have ⟨m33, m34, m35, m36, b10⟩ := KTk5 hbwt3 m29 m30 m31 m32 b9
    refine KRh q5 (KRh q1 (Fx.Rp (.slice (Fx.slA 56 1 ca aa1) (na - 1) (ca - 1)) (fun v1 => Fx.x_slA (j := 1) (s := 56) rfl rfl rfl Try.underlying26 (by kernel_rfl) (by omega) hca) (KRh q2 (Fx.Rp (.slice (Fx.slA 56 1 cb bb1) (nb - 1) (cb - 1)) (fun v1 => Fx.x_slA (j := 1) (s := 56) rfl rfl rfl Try.underlying26 (by kernel_rfl) (by omega) hcb) (Fx.Rs (.agg (Fx.varr 56 (ndZ (ndJ (ndA ra 0) (ndA rb 0))))) (KxA m36.cel 0 (ha := q40)) ?_)))))
    refine KRk (Fx.Lbs (vs := [(0, .agg (Fx.varr 56 (ndZ (ndJ (ndA ra 0) (ndA rb 0)))))]) (s := 56) (zc := fun i => (#[.int .u64 (0), .int .u64 (0), .int .i64 (0), .int .i64 (0), .int .i64 (0), .int .i64 (0), .int .i64 (0), .int .i64 (0), .int .i64 (0), .int .i64 (0), .int .i64 (0), .int .i64 (0), .int .i64 (0), .int .i64 (0), .int .i64 (0), .int .i64 (0), .int .i64 (0), .int .i64 (0), .int .i64 (0), .int .i64 (0), .int .i64 (0), .int .i64 (0), .int .i64 (0), .int .i64 (0), .int .i64 (0), .int .i64 (0), .int .i64 (0), .int .i64 (0), .int .i64 (0), .int .i64 (0), .int .i64 (0), .int .i64 (0), .int .i64 (0), .int .i64 (0), .int .i64 (0), .int .i64 (0), .int .i64 (0), .int .i64 (0), .int .i64 (0), .int .i64 (0), .int .i64 (0), .int .i64 (0), .int .i64 (0), .int .i64 (0), .int .i64 (0), .int .i64 (0), .int .i64 (0), .int .i64 (0), .int .i64 (0), .int .i64 (0), .int .i64 (0), .int .i64 (0), .int .i64 (0), .int .i64 (0), .int .i64 (0), .int .i64 (0)] : Array Value).getD i undef) (y := Fx.ovr (fun j => (#[.int .u64 (0), .int .u64 (0), .int .i64 (0), .int .i64 (0), .int .i64 (0), .int .i64 (0), .int .i64 (0), .int .i64 (0), .int .i64 (0), .int .i64 (0), .int .i64 (0), .int .i64 (0), .int .i64 (0), .int .i64 (0), .int .i64 (0), .int .i64 (0), .int .i64 (0), .int .i64 (0), .int .i64 (0), .int .i64 (0), .int .i64 (0), .int .i64 (0), .int .i64 (0), .int .i64 (0), .int .i64 (0), .int .i64 (0), .int .i64 (0), .int .i64 (0), .int .i64 (0), .int .i64 (0), .int .i64 (0), .int .i64 (0), .int .i64 (0), .int .i64 (0), .int .i64 (0), .int .i64 (0), .int .i64 (0), .int .i64 (0), .int .i64 (0), .int .i64 (0), .int .i64 (0), .int .i64 (0), .int .i64 (0), .int .i64 (0), .int .i64 (0), .int .i64 (0), .int .i64 (0), .int .i64 (0), .int .i64 (0), .int .i64 (0), .int .i64 (0), .int .i64 (0), .int .i64 (0), .int .i64 (0), .int .i64 (0), .int .i64 (0)] : Array Value).getD (j % 56) undef) (0 * 56) 56 (ndZ (ndJ (ndA ra 0) (ndA rb 0)))) (by rfl) rfl rfl Try.underlying26 (by kernel_rfl) (by rfl) (by rfl) (by kernel_rfl) (by rw [Fx.fill_step (off := 0 * 56) (s := 56) (y := ndZ (ndJ (ndA ra 0) (ndA rb 0))) rfl (Fx.cells_agg _ _) (by rfl)]; rfl) rfl fun g6 w7 eg6 m37 s8 z3 => ?_)
    have ⟨m38, m41, b11⟩ := KTk3 s8.old m33 m36 b10
    have lg6 := KGk eg6 b10.size
    have ng6m38 : (.slice ao (n) (co) : Value).ownBlock ≠ some g6 := by rw [eg6]; exact m33.notNew (Nat.le_refl _)
    have ng6m39 : bq1 ≠ g6 := by rw [eg6]; exact Nat.ne_of_lt (m34.lt (by omega))
    have ng6m40 : bq2 ≠ g6 := by rw [eg6]; exact Nat.ne_of_lt (m35.lt (by omega))
    have ng6m41 := KNk1 eg6 m36.lt
    have tg6 := m37.lt
    refine Fx.Ln ⟨Fx.ChT.of_below s8.old, ?_⟩
    refine KRk (Fx.Lap (B := w.heap.size) (s := 56) (bytes := 448) (k := n) (m := 1) (v := .slice ao (n) (co)) (x := ndsX ol) (by rfl) rfl rfl rfl Try.underlying26 (by kernel_rfl) (by kernel_rfl) rfl rfl m38 m37.cel (fun j hj => by unfold Fx.ovr; rw [if_pos ⟨by omega, by omega⟩]; exact ndZ_one _ _) (by omega) (by omega) (by omega) b11.size fun g7 cap3 w8 ho3 hg3 hgv3 hlt3 => ?_)
    have hct3 := Fx.cOg hg3 m38
    have ng7m45 : g5 ≠ g7 := fun e => hgv3.elim (fun e2 => ng5m5 (by rw [e]; exact e2)) (fun e2 => by have := m41.lt; omega)
    have m42 : Fx.Own w8 w.heap.size 50 56 (.slice (some ⟨g7, 0, none⟩) (n + 1) cap3) (n + 1) (ndsX (ol ++ [(ndJ (ndA ra 0) (ndA rb 0))])) := (ho3.congr (nds_app1 (l := ol) (x := (ndJ (ndA ra 0) (ndA rb 0))) hn))
    have b12 : Below w.heap.size w w8 := Fx.bGr b11 hg3 b11.size (fun q hq => (m38.ge hq).1)
    refine Fx.Ln ⟨hct3, ?_⟩
    refine KRq (.slice (some ⟨g7, 0, none⟩) (n + 1) (cap3)) (KRq (.slice (Fx.slA 56 1 ca aa1) (na - 1) (ca - 1)) (KRq (.slice (Fx.slA 56 1 cb bb1) (nb - 1) (cb - 1)) (Fx.Rn (Fx.blkN (Fx.blkN ?_)))))
    skip
    refine Fx.lpN ⟨na - 1 + (nb - 1), (by omega), na - 1, nb - 1, ca - 1, cb - 1, Fx.slA 56 1 ca aa1, Fx.slA 56 1 cb bb1, ra.tail, rb.tail, ol ++ [ndJ (ndA ra 0) (ndA rb 0)], n + 1, (some ⟨g7, 0, none⟩), cap3, (by omega), (tailN hA hca), (tailN hB hcb), (by rw [List.length_tail]; omega), (by rw [List.length_tail]; omega), (by omega), (by omega), (by rw [List.length_append]; exact congrArg (· + 1) hn), (by omega), (m_step hj (mN_yes (by omega) (by omega) n53 n64 c40p)), (by rfl), (by rfl), q3, q4, (by rfl), m42, b12⟩ (by decide)
   refine Fx.Lv KbT (KneT c41) (KLe (KWcT (Fx.Ws ?_)))
   have c40p : ¬ (ndA ra 0).par = (ndA rb 0).par := fun h => c41 (if_pos h)
   refine Fx.Wl (KLh q41 (KLq (.slice none 0 0) (KLq (Ki6 (if (ndA ra 0).par = (ndA rb 0).par then (0 : Int) else 9)) (KLe (Fx.Wr (Fx.sR (Fx.blkR (Fx.blkR (Fx.lpR (Fx.blkR (Fx.sR (Kret (.tuple #[.slice none 0 0, .int .i64 (if (ndA ra 0).par = (ndA rb 0).par then (0 : Int) else 9)]) ?_))))))))))))
   exact .inl ⟨by rw [hj, mN_no (by omega) (by omega) n53 n64 c40p]; rfl, by rw [if_neg c40p], b9⟩
  refine Fx.Lv KbF (KgtF c19) (KLq KbF (KLe (KWcF (Fx.Wx (Fx.seqX (Fx.lpX (Fx.blkX (Fx.sN (KWsl (KLh h5 (KLh h1 (Fx.L.appAny (B := w.heap.size) (s := 56) (bytes := 448) (k := n) (m := na) (v := .slice ao (n) (co)) (x := ndsX ol) (by rfl) rfl rfl rfl Try.underlying26 (by kernel_rfl) (by kernel_rfl) rfl rfl m2 (hA.up b1 rfl) (fun j _ => nds_one _ j) (by omega) (by omega) b1.size fun vv1 w9 ho4 hg4 hgv4 => ?_))))))))))))
  obtain ⟨a1, cap4, rfl⟩ := ho4.val
  have m46 : Fx.Own w9 w.heap.size 50 56 (.slice a1 (n + na) (cap4)) (n + na) (ndsX (ol ++ ra)) := (ho4.congr (fun j _ => nds_app (l := ol) (r := ra) hn j))
  have b13 : Below w.heap.size w w9 := Fx.bGr b1 hg4 b1.size (fun q hq => (m2.ge hq).1)
  refine KLh h2 (Fx.L.appAny (B := w.heap.size) (s := 56) (bytes := 448) (k := n + na) (m := nb) (v := .slice a1 (n + na) (cap4)) (x := ndsX (ol ++ ra)) (by rfl) rfl rfl rfl Try.underlying26 (by kernel_rfl) (by kernel_rfl) rfl rfl m46 (hB.up b13 rfl) (fun j _ => nds_one _ j) (by omega) (by omega) b13.size fun vv2 w10 ho5 hg5 hgv5 => ?_)
  obtain ⟨a2, cap5, rfl⟩ := ho5.val
  have m47 : Fx.Own w10 w.heap.size 50 56 (.slice a2 (n + na + nb) (cap5)) (n + na + nb) (ndsX (ol ++ ra ++ rb)) := (ho5.congr (fun j _ => nds_app (l := (ol ++ ra)) (r := rb) (by rw [List.length_append, ← hn, ← hra]) j))
  have b14 : Below w.heap.size w w10 := Fx.bGr b13 hg5 b13.size (fun q hq => (m46.ge hq).1)
  refine KLq (.slice a2 (n + na + nb) (cap5)) (KLq (Ki6 0) (KLe (Fx.Wr (Kret (.tuple #[.slice a2 (n + na + nb) (cap5), .int .i64 (0)]) ?_))))
  have e9 : mergeN la lb = some (ol ++ ra ++ rb) := by rw [hj, mN_end (by first | exact .inl (List.eq_nil_of_length_eq_zero (by omega)) | exact .inr (List.eq_nil_of_length_eq_zero (by omega)))]; simp
  have l9 : (ol ++ ra ++ rb).length = n + na + nb := by simp only [List.length_append]; omega
  exact .inr ⟨_, a2, cap5, e9, by rw [l9], by rw [l9]; exact m47, b14⟩
 refine Fx.Lv KbF (KgtF c15) (KLq KbF (KLu (KLu (KLu (KLq KbF (KLe (KWcF (Fx.Wx (Fx.seqX (Fx.lpX (Fx.blkX (Fx.sN (KWsl (KLh h5 (KLh h1 (Fx.L.appAny (B := w.heap.size) (s := 56) (bytes := 448) (k := n) (m := na) (v := .slice ao (n) (co)) (x := ndsX ol) (by rfl) rfl rfl rfl Try.underlying26 (by kernel_rfl) (by kernel_rfl) rfl rfl m2 (hA.up b1 rfl) (fun j _ => nds_one _ j) (by omega) (by omega) b1.size fun vv3 w11 ho6 hg6 hgv6 => ?_))))))))))))))))
 obtain ⟨a3, cap6, rfl⟩ := ho6.val
 have m48 : Fx.Own w11 w.heap.size 50 56 (.slice a3 (n + na) (cap6)) (n + na) (ndsX (ol ++ ra)) := (ho6.congr (fun j _ => nds_app (l := ol) (r := ra) hn j))
 have b15 : Below w.heap.size w w11 := Fx.bGr b1 hg6 b1.size (fun q hq => (m2.ge hq).1)
 refine KLh h2 (Fx.L.appAny (B := w.heap.size) (s := 56) (bytes := 448) (k := n + na) (m := nb) (v := .slice a3 (n + na) (cap6)) (x := ndsX (ol ++ ra)) (by rfl) rfl rfl rfl Try.underlying26 (by kernel_rfl) (by kernel_rfl) rfl rfl m48 (hB.up b15 rfl) (fun j _ => nds_one _ j) (by omega) (by omega) b15.size fun vv4 w12 ho7 hg7 hgv7 => ?_)
 obtain ⟨a4, cap7, rfl⟩ := ho7.val
 have m49 : Fx.Own w12 w.heap.size 50 56 (.slice a4 (n + na + nb) (cap7)) (n + na + nb) (ndsX (ol ++ ra ++ rb)) := (ho7.congr (fun j _ => nds_app (l := (ol ++ ra)) (r := rb) (by rw [List.length_append, ← hn, ← hra]) j))
 have b16 : Below w.heap.size w w12 := Fx.bGr b15 hg7 b15.size (fun q hq => (m48.ge hq).1)
 refine KLq (.slice a4 (n + na + nb) (cap7)) (KLq (Ki6 0) (KLe (Fx.Wr (Kret (.tuple #[.slice a4 (n + na + nb) (cap7), .int .i64 (0)]) ?_))))
 have e9 : mergeN la lb = some (ol ++ ra ++ rb) := by rw [hj, mN_end (by first | exact .inl (List.eq_nil_of_length_eq_zero (by omega)) | exact .inr (List.eq_nil_of_length_eq_zero (by omega)))]; simp
 have l9 : (ol ++ ra ++ rb).length = n + na + nb := by simp only [List.length_append]; omega
 exact .inr ⟨_, a4, cap7, e9, by rw [l9], by rw [l9]; exact m49, b16⟩
set_option maxRecDepth 20000 in
theorem s_mergeG (aa ba : Option Addr) (cpa cpb : Nat) (la lb : List GrM) (w : World) (hl1 : la.length ≤ 1000000) (hl2 : lb.length ≤ 1000000) (ha : Fx.Arr w aa la.length 5 (grsX la)) (hb : Fx.Arr w ba lb.length 5 (grsX lb)) (ha2 : la.length ≤ cpa) (hb2 : lb.length ≤ cpb) (hpla : ∀ k, k < la.length → 0 ≤ (grA la k).b) (hplb : ∀ k, k < lb.length → 0 ≤ (grA lb k).b) :
    Calls Try.prog 24 #[.slice aa (la.length) (cpa), .slice ba (lb.length) (cpb), .func (.func 25) #[] #[], .func (.func 26) #[] #[]] w fun e w' => (mergeG la lb = none ∧ e = .returned (.tuple #[.slice none 0 0, .int .i64 14]) ∧ Below w.heap.size w w') ∨ (∃ l a' c', mergeG la lb = some l ∧ e = .returned (.tuple #[.slice a' l.length c', .int .i64 0]) ∧ Fx.Own w' w.heap.size 59 5 (.slice a' l.length c') l.length (grsX l) ∧ Below w.heap.size w w') := by
 refine Kent Try.func24 78 ?_
 refine KWsl (KLq (.slice none 0 0) (KLq (Ki6 0) (KLe (Fx.Ws (Fx.Wb ?_)))))
 have m1 : Fx.Own w w.heap.size 59 5 (.slice none (0) (0)) 0 (grsX ([])) := Fx.oNl _ _ _ _ _
 refine Fx.WoE (fun kE f w_ => ∃ na : Nat, ∃ nb : Nat, ∃ ca : Nat, ∃ cb : Nat, ∃ aa1 : Option Addr, ∃ bb1 : Option Addr, ∃ ra : List GrM, ∃ rb : List GrM, ∃ ol : List GrM, ∃ n : Nat, ∃ ao : Option Addr, ∃ co : Nat, kE = na + nb ∧ Fx.Arr w aa1 na 5 (grsX ra) ∧ Fx.Arr w bb1 nb 5 (grsX rb) ∧ na = ra.length ∧ nb = rb.length ∧ na ≤ ca ∧ nb ≤ cb ∧ n = ol.length ∧ n + na + nb ≤ 2000000 ∧ mergeG la lb = (mergeG ra rb).map (ol ++ ·) ∧ (∀ k, k < ra.length → 0 ≤ (grA ra k).b) ∧ (∀ k, k < rb.length → 0 ≤ (grA rb k).b) ∧ f 0 = .slice aa1 (na) (ca) ∧ f 1 = .slice bb1 (nb) (cb) ∧ f 2 = .func (.func 25) #[] #[] ∧ f 3 = .func (.func 26) #[] #[] ∧ f 8 = .slice ao (n) (co) ∧ Fx.Own w_ w.heap.size 59 5 (.slice ao (n) (co)) n (grsX ol) ∧ Below w.heap.size w w_) (la.length + lb.length) ⟨la.length, lb.length, cpa, cpb, aa, ba, la, lb, [], 0, none, 0, rfl, ha, hb, rfl, rfl, ha2, hb2, rfl, (by omega), (by cases mergeG la lb <;> rfl), hpla, hplb, (by rfl), (by rfl), (by rfl), (by rfl), (by rfl), m1, (Below.refl w.heap.size w)⟩ ?_
 rintro kE f1 w1 ⟨na, nb, ca, cb, aa1, bb1, ra, rb, ol, n, ao, co, hk, hA, hB, hra, hrb, hca, hcb, hn, hs, hj, hpa, hpb, h1, h2, h3, h4, h5, m2, b1⟩
 refine Fx.Ws (KWsl (KLh h1 (KLq (Ki6 na) ?_)))
 by_cases c15 : 0 < (na : Int)
 ·refine Fx.Lv KbT (KgtT c15) (KLq KbT (KLh h2 (KLq (Ki6 nb) ?_)))
  by_cases c19 : 0 < (nb : Int)
  ·refine Fx.Lv KbT (KgtT c19) (KLq KbT (KLe (KWcT (Fx.Wk (Fx.sN (Fx.Wb (Fx.Ws ?_)))))))
   -- region 2 draws
   refine KWqb (KQh h3 (KQh h1 ?_))
   obtain ⟨bq1, oq1, eq1, m3z⟩ := hA (by omega)
   have lbq1z : bq1 < w.heap.size := m3z.lt (by omega)
   have m3 := m3z.below b1 lbq1z
   have lbq1 : bq1 < w1.heap.size := m3.lt (by omega)
   refine Fx.Qv (.pointer (some ⟨bq1, oq1, none⟩)) (fun v1 hv1 => Kxi 5 (hx := (rfl.trans (congrArg (fun q => Value.slice q (na) (ca)) eq1)))) (Fx.Qv (.agg (Fx.varr 5 (grZ (grA ra 0)))) (fun v1 hv1 => KxA (m3.below hv1 (m3.lt (by omega))) 0 (x := grsX ra) (fun jq hjq => Fx.flat_at (k := 0) (by omega) hjq)) (KQh h2 ?_))
   obtain ⟨bq2, oq2, eq2, m4z⟩ := hB (by omega)
   have lbq2z : bq2 < w.heap.size := m4z.lt (by omega)
   have m4 := m4z.below b1 lbq2z
   have lbq2 : bq2 < w1.heap.size := m4.lt (by omega)
   refine Fx.Qv (.pointer (some ⟨bq2, oq2, none⟩)) (fun v1 hv1 => Kxi 5 (hx := (rfl.trans (congrArg (fun q => Value.slice q (nb) (cb)) eq2)))) (Fx.Qv (.agg (Fx.varr 5 (grZ (grA rb 0)))) (fun v1 hv1 => KxA (m4.below hv1 (m4.lt (by omega))) 0 (x := grsX rb) (fun jq hjq => Fx.flat_at (k := 0) (by omega) hjq)) (Fx.Qcl (v := .int .i64 (cmpG (grA ra 0) (grA rb 0))) (by rfl) (fun v1 hv1 => Fx.r_clo (args := [.agg (Fx.varr 5 (grZ (grA ra 0))), .agg (Fx.varr 5 (grZ (grA rb 0)))]) rfl rfl rfl (all := #[.agg (Fx.varr 5 (grZ (grA ra 0))), .agg (Fx.varr 5 (grZ (grA rb 0)))]) rfl Try.func25 rfl rfl) rfl (fun v1 hv1 => (s_byReq (grA ra 0) (grA rb 0) _).mono fun e v2 h => ⟨h.1, bch hv1 h.2⟩) ?_))
   refine KQq (Ki6 (cmpG (grA ra 0) (grA rb 0))) (Fx.Qn ?_)
   intro wb1 hbwb1
   have ⟨m5, m6, m7, b2⟩ := KTk4 hbwb1 m2 m3 m4 b1
   refine Fx.sN (Fx.Wb (KWsl (KLq (Ki6 (cmpG (grA ra 0) (grA rb 0))) ?_)))
   by_cases c53 : (cmpG (grA ra 0) (grA rb 0)) < 0
   ·refine Fx.Lv KbT (KltT c53) (KLq KbT (KLe (KWcT ?_)))
    -- region 8 draws
    refine Fx.W.reordR [0, 1, 2, 6, 7, 3, 4, 5, 8, 9] [0, 0, 0, 4, 2, 2, 0, 0, 0, 0] (Fx.ChT [59]) Fx.cRf Fx.ChT.trans (certs := [(4, 3, [3]), (5, 3, [4, 3]), (5, 4, [4]), (8, 4, [4]), (9, 4, [4]), (8, 5, [5]), (9, 5, [5])]) (by kernel_rfl) (by kernel_rfl) (by kernel_rfl) (by kernel_rfl) (by kernel_rfl) fun wt1 hbwt1 hzwt1 => ?_
    have ⟨m8, m9, m10, b3⟩ := KTk4 hbwt1 m5 m6 m7 b2
    refine KRh h5 (KRh h1 (Fx.Rp (.pointer (some ⟨bq1, oq1, none⟩)) (fun _ => Kxi 5 (hx := (rfl.trans (congrArg (fun q => Value.slice q (na) (ca)) eq1)))) (KRh h1 (Fx.Rp (.slice (Fx.slA 5 1 ca aa1) (na - 1) (ca - 1)) (fun v1 => Fx.x_slA (j := 1) (s := 5) rfl rfl rfl Try.underlying27 (by kernel_rfl) (by omega) hca) (Fx.Rs (.agg (Fx.varr 5 (grZ (grA ra 0)))) (KxA m9 0 (fun jq hjq => Fx.flat_at (k := 0) (by omega) hjq)) ?_)))))
    refine KRk (Fx.Lbs (vs := [(0, .agg (Fx.varr 5 (grZ (grA ra 0))))]) (s := 5) (zc := fun i => (#[.int .i64 (0), .int .u64 (0), .int .u64 (0), .int .i64 (0), .int .u64 (0)] : Array Value).getD i undef) (y := Fx.ovr (fun j => (#[.int .i64 (0), .int .u64 (0), .int .u64 (0), .int .i64 (0), .int .u64 (0)] : Array Value).getD (j % 5) undef) (0 * 5) 5 (grZ (grA ra 0))) (by rfl) rfl rfl Try.underlying27 (by kernel_rfl) (by rfl) (by rfl) (by kernel_rfl) (by rw [Fx.fill_step (off := 0 * 5) (s := 5) (y := grZ (grA ra 0)) rfl (Fx.cells_agg _ _) (by rfl)]; rfl) rfl fun g1 w2 eg1 m11 s3 z1 => ?_)
    have ⟨m12, b4⟩ := KTk2 s3.old m8 b3
    have lg1 := KGk eg1 b3.size
    have ng1m12 : (.slice ao (n) (co) : Value).ownBlock ≠ some g1 := by rw [eg1]; exact m8.notNew (Nat.le_refl _)
    have ng1m13 : bq1 ≠ g1 := by rw [eg1]; exact Nat.ne_of_lt (m9.lt (by omega))
    have ng1m14 : bq2 ≠ g1 := by rw [eg1]; exact Nat.ne_of_lt (m10.lt (by omega))
    have tg1 := m11.lt
    refine Fx.Ln ⟨Fx.ChT.of_below s3.old, ?_⟩
    refine KRk (Fx.Lap (B := w.heap.size) (s := 5) (bytes := 40) (k := n) (m := 1) (v := .slice ao (n) (co)) (x := grsX ol) (by rfl) rfl rfl rfl Try.underlying27 (by kernel_rfl) (by kernel_rfl) rfl rfl m12 m11.cel (fun j hj => by unfold Fx.ovr; rw [if_pos ⟨by omega, by omega⟩]; exact grZ_one _ _) (by omega) (by omega) (by omega) b4.size fun g2 cap1 w3 ho1 hg1 hgv1 hlt1 => ?_)
    have hct1 := Fx.cOg hg1 m12
    have m15 : Fx.Own w3 w.heap.size 59 5 (.slice (some ⟨g2, 0, none⟩) (n + 1) cap1) (n + 1) (grsX (ol ++ [(grA ra 0)])) := (ho1.congr (grs_app1 (l := ol) (x := (grA ra 0)) hn))
    have b5 : Below w.heap.size w w3 := Fx.bGr b4 hg1 b4.size (fun q hq => (m12.ge hq).1)
    refine Fx.Ln ⟨hct1, ?_⟩
    refine KRq (.slice (some ⟨g2, 0, none⟩) (n + 1) (cap1)) (KRq (.slice (Fx.slA 5 1 ca aa1) (na - 1) (ca - 1)) (Fx.Rn (Fx.blkN (Fx.blkN ?_))))
    skip
    refine Fx.lpN ⟨na - 1 + nb, (by omega), na - 1, nb, ca - 1, cb, Fx.slA 5 1 ca aa1, bb1, ra.tail, rb, ol ++ [(grA ra 0)], n + 1, (some ⟨g2, 0, none⟩), cap1, (by omega), (tailG hA hca), hB, (by rw [List.length_tail]; omega), hrb, (by omega), hcb, (by rw [List.length_append]; exact congrArg (· + 1) hn), (by omega), (m_step hj (mG_lt (by omega) (by omega) (cmpG_neg.1 c53))), (nonneg_tail hpa), hpb, (by rfl), h2, h3, h4, (by rfl), m15, b5⟩ (by decide)
   refine Fx.Lv KbF (KltF c53) (KLq KbF (KLe (KWcF (KWsl (KLq (Ki6 (cmpG (grA ra 0) (grA rb 0))) ?_)))))
   by_cases c64 : 0 < (cmpG (grA ra 0) (grA rb 0))
   ·refine Fx.Lv KbT (KgtT c64) (KLq KbT (KLe (KWcT ?_)))
    -- region 10 draws
    refine Fx.W.reordR [0, 1, 2, 6, 7, 3, 4, 5, 8, 9] [0, 0, 0, 4, 2, 2, 0, 0, 0, 0] (Fx.ChT [59]) Fx.cRf Fx.ChT.trans (certs := [(4, 3, [3]), (5, 3, [4, 3]), (5, 4, [4]), (8, 4, [4]), (9, 4, [4]), (8, 5, [5]), (9, 5, [5])]) (by kernel_rfl) (by kernel_rfl) (by kernel_rfl) (by kernel_rfl) (by kernel_rfl) fun wt2 hbwt2 hzwt2 => ?_
    have ⟨m18, m19, m20, b6⟩ := KTk4 hbwt2 m5 m6 m7 b2
    refine KRh h5 (KRh h2 (Fx.Rp (.pointer (some ⟨bq2, oq2, none⟩)) (fun _ => Kxi 5 (hx := (rfl.trans (congrArg (fun q => Value.slice q (nb) (cb)) eq2)))) (KRh h2 (Fx.Rp (.slice (Fx.slA 5 1 cb bb1) (nb - 1) (cb - 1)) (fun v1 => Fx.x_slA (j := 1) (s := 5) rfl rfl rfl Try.underlying27 (by kernel_rfl) (by omega) hcb) (Fx.Rs (.agg (Fx.varr 5 (grZ (grA rb 0)))) (KxA m20 0 (fun jq hjq => Fx.flat_at (k := 0) (by omega) hjq)) ?_)))))
    refine KRk (Fx.Lbs (vs := [(0, .agg (Fx.varr 5 (grZ (grA rb 0))))]) (s := 5) (zc := fun i => (#[.int .i64 (0), .int .u64 (0), .int .u64 (0), .int .i64 (0), .int .u64 (0)] : Array Value).getD i undef) (y := Fx.ovr (fun j => (#[.int .i64 (0), .int .u64 (0), .int .u64 (0), .int .i64 (0), .int .u64 (0)] : Array Value).getD (j % 5) undef) (0 * 5) 5 (grZ (grA rb 0))) (by rfl) rfl rfl Try.underlying27 (by kernel_rfl) (by rfl) (by rfl) (by kernel_rfl) (by rw [Fx.fill_step (off := 0 * 5) (s := 5) (y := grZ (grA rb 0)) rfl (Fx.cells_agg _ _) (by rfl)]; rfl) rfl fun g3 w4 eg3 m21 s5 z2 => ?_)
    have ⟨m22, b7⟩ := KTk2 s5.old m18 b6
    have lg3 := KGk eg3 b6.size
    have ng3m22 : (.slice ao (n) (co) : Value).ownBlock ≠ some g3 := by rw [eg3]; exact m18.notNew (Nat.le_refl _)
    have ng3m23 : bq1 ≠ g3 := by rw [eg3]; exact Nat.ne_of_lt (m19.lt (by omega))
    have ng3m24 : bq2 ≠ g3 := by rw [eg3]; exact Nat.ne_of_lt (m20.lt (by omega))
    have tg3 := m21.lt
    refine Fx.Ln ⟨Fx.ChT.of_below s5.old, ?_⟩
    refine KRk (Fx.Lap (B := w.heap.size) (s := 5) (bytes := 40) (k := n) (m := 1) (v := .slice ao (n) (co)) (x := grsX ol) (by rfl) rfl rfl rfl Try.underlying27 (by kernel_rfl) (by kernel_rfl) rfl rfl m22 m21.cel (fun j hj => by unfold Fx.ovr; rw [if_pos ⟨by omega, by omega⟩]; exact grZ_one _ _) (by omega) (by omega) (by omega) b7.size fun g4 cap2 w5 ho2 hg2 hgv2 hlt2 => ?_)
    have hct2 := Fx.cOg hg2 m22
    have m25 : Fx.Own w5 w.heap.size 59 5 (.slice (some ⟨g4, 0, none⟩) (n + 1) cap2) (n + 1) (grsX (ol ++ [(grA rb 0)])) := (ho2.congr (grs_app1 (l := ol) (x := (grA rb 0)) hn))
    have b8 : Below w.heap.size w w5 := Fx.bGr b7 hg2 b7.size (fun q hq => (m22.ge hq).1)
    refine Fx.Ln ⟨hct2, ?_⟩
    refine KRq (.slice (some ⟨g4, 0, none⟩) (n + 1) (cap2)) (KRq (.slice (Fx.slA 5 1 cb bb1) (nb - 1) (cb - 1)) (Fx.Rn (Fx.blkN (Fx.blkN ?_))))
    skip
    refine Fx.lpN ⟨na + (nb - 1), (by omega), na, nb - 1, ca, cb - 1, aa1, Fx.slA 5 1 cb bb1, ra, rb.tail, ol ++ [(grA rb 0)], n + 1, (some ⟨g4, 0, none⟩), cap2, (by omega), hA, (tailG hB hcb), hra, (by rw [List.length_tail]; omega), hca, (by omega), (by rw [List.length_append]; exact congrArg (· + 1) hn), (by omega), (m_step hj (mG_gt (by omega) (by omega) (cmpG_gt.1 c64))), hpa, (nonneg_tail hpb), h1, (by rfl), h3, h4, (by rfl), m25, b8⟩ (by decide)
   refine Fx.Lv KbF (KgtF c64) (KLq KbF (KLe (KWcF (Fx.Ws ?_))))
   have n53 : ¬ grLt (grA ra 0) (grA rb 0) := fun h => c53 (cmpG_neg.2 h)
   have n64 : ¬ grLt (grA rb 0) (grA ra 0) := fun h => c64 (cmpG_gt.2 h)
   -- region 3 draws
   refine Fx.Wone (T := 59) (T' := 59) (a := .tmp 11) (v := .tmp 38) (m := 5) (z := fun i => (#[.int .i64 (0), .int .u64 (0), .int .u64 (0), .int .i64 (0), .int .u64 (0)] : Array Value).getD i undef) (y := grZ (if GrBad (grA ra 0) (grA rb 0) then (grA ra 0) else grJ (grA ra 0) (grA rb 0))) (u := .agg (Fx.varr 5 (grZ (if GrBad (grA ra 0) (grA rb 0) then (grA ra 0) else grJ (grA ra 0) (grA rb 0))))) 11 12 (List.replicate 14 (0, 2, [], [])) #[.func (.func 26) #[] #[], .slice aa1 (na) (ca), .pointer (some ⟨bq1, oq1, none⟩), .agg (Fx.varr 5 (grZ (grA ra 0))), .slice bb1 (nb) (cb), .pointer (some ⟨bq2, oq2, none⟩), .agg (Fx.varr 5 (grZ (grA rb 0))), .tuple #[.agg (Fx.varr 5 (grZ (if GrBad (grA ra 0) (grA rb 0) then (grA ra 0) else grJ (grA ra 0) (grA rb 0)))), .int .i64 (if GrBad (grA ra 0) (grA rb 0) then (14 : Int) else 0)], .tuple #[.agg (Fx.varr 5 (grZ (if GrBad (grA ra 0) (grA rb 0) then (grA ra 0) else grJ (grA ra 0) (grA rb 0)))), .int .i64 (if GrBad (grA ra 0) (grA rb 0) then (14 : Int) else 0)], .agg (Fx.varr 5 (grZ (if GrBad (grA ra 0) (grA rb 0) then (grA ra 0) else grJ (grA ra 0) (grA rb 0)))), .int .i64 (if GrBad (grA ra 0) (grA rb 0) then (14 : Int) else 0), undef, undef, .int .i64 (if GrBad (grA ra 0) (grA rb 0) then (14 : Int) else 0)] (by kernel_rfl) (by kernel_rfl) (by kernel_rfl) (by kernel_rfl) (by kernel_rfl) (by kernel_rfl) rfl (by kernel_rfl) rfl rfl (by kernel_rfl) (fun g5 => (show Fx.ev _ (.tmp 11) = .pointer (some ⟨g5, 0, none⟩) from by kernel_rfl)) (fun g5 => (show Fx.ev _ (.tmp 38) = .agg (Fx.varr 5 (grZ (if GrBad (grA ra 0) (grA rb 0) then (grA ra 0) else grJ (grA ra 0) (grA rb 0)))) from by kernel_rfl)) (Fx.cells_agg _ _) (fun j _ => grZ_one _ j) (by kernel_rfl) (fun g5 => ?_) ?_
   ·refine ⟨?_, ?_, ?_, ?_, ?_, ?_, ?_, ?_, ?_, ?_, ?_, ?_, ?_, ?_, trivial⟩
    ·exact .inr (.inr (KqV (.func (.func 26) #[] #[]) fun v1 hv1 => Fx.x_move rfl ((Fx.fOne_out (by kernel_rfl)).trans h4)))
    ·exact .inr (.inr (KqV (.slice aa1 (na) (ca)) fun v1 hv1 => Fx.x_move rfl ((Fx.fOne_out (by kernel_rfl)).trans h1)))
    ·exact .inr (.inr (KqV (.pointer (some ⟨bq1, oq1, none⟩)) fun v1 hv1 => Fx.x_indexS rfl ((show Fx.ev _ (.tmp 31) = .slice aa1 (na) (ca) from by kernel_rfl).trans (congrArg (fun q => Value.slice q (na) (ca)) eq1)) (show Fx.ev _ (.const (.int .i64 (0))) = .int .i64 (0) from by kernel_rfl) Try.underlying27 (s := 5) (by kernel_rfl) (by omega) (by omega) (by omega)))
    ·exact .inr (.inr (KqV (.agg (Fx.varr 5 (grZ (grA ra 0)))) fun v1 hv1 => Fx.x_loadA (x := grsX ra) (y := grZ (grA ra 0)) rfl (show Fx.ev _ (.tmp 32) = .pointer (some ⟨bq1, oq1, none⟩) from by kernel_rfl) (by kernel_rfl) (by kernel_rfl) (m6.below hv1 (m6.lt (by omega))) (i := 0) (by omega) (by omega) (fun jq hjq => Fx.flat_at (k := 0) (by omega) hjq)))
    ·exact .inr (.inr (KqV (.slice bb1 (nb) (cb)) fun v1 hv1 => Fx.x_move rfl ((Fx.fOne_out (by kernel_rfl)).trans h2)))
    ·exact .inr (.inr (KqV (.pointer (some ⟨bq2, oq2, none⟩)) fun v1 hv1 => Fx.x_indexS rfl ((show Fx.ev _ (.tmp 34) = .slice bb1 (nb) (cb) from by kernel_rfl).trans (congrArg (fun q => Value.slice q (nb) (cb)) eq2)) (show Fx.ev _ (.const (.int .i64 (0))) = .int .i64 (0) from by kernel_rfl) Try.underlying27 (s := 5) (by kernel_rfl) (by omega) (by omega) (by omega)))
    ·exact .inr (.inr (KqV (.agg (Fx.varr 5 (grZ (grA rb 0)))) fun v1 hv1 => Fx.x_loadA (x := grsX rb) (y := grZ (grA rb 0)) rfl (show Fx.ev _ (.tmp 35) = .pointer (some ⟨bq2, oq2, none⟩) from by kernel_rfl) (by kernel_rfl) (by kernel_rfl) (m7.below hv1 (m7.lt (by omega))) (i := 0) (by omega) (by omega) (fun jq hjq => Fx.flat_at (k := 0) (by omega) hjq)))
    ·exact .inr (.inr (Fx.qb_yes (v := .tuple #[.agg (Fx.varr 5 (grZ (if GrBad (grA ra 0) (grA rb 0) then (grA ra 0) else grJ (grA ra 0) (grA rb 0)))), .int .i64 (if GrBad (grA ra 0) (grA rb 0) then (14 : Int) else 0)]) (by kernel_rfl) (by kernel_rfl) (Fx.qbC (fun v1 hv1 => Fx.r_clo (args := [.agg (Fx.varr 5 (grZ (grA ra 0))), .agg (Fx.varr 5 (grZ (grA rb 0)))]) rfl (show Fx.ev _ (.tmp 30) = .func (.func 26) #[] #[] from by kernel_rfl) (Fx.args2 (show Fx.ev _ (.tmp 33) = .agg (Fx.varr 5 (grZ (grA ra 0))) from by kernel_rfl) (show Fx.ev _ (.tmp 36) = .agg (Fx.varr 5 (grZ (grA rb 0))) from by kernel_rfl)) (all := #[.agg (Fx.varr 5 (grZ (grA ra 0))), .agg (Fx.varr 5 (grZ (grA rb 0)))]) rfl Try.func26 rfl rfl) (fun v1 hv1 => (s_grant (grA ra 0) (grA rb 0) _ (hpa 0 (by omega)) (hpb 0 (by omega))).mono fun e v2 h => ⟨h.1, h.2⟩))))
    ·exact .inr (.inr KqE)
    ·exact .inr (.inr KqE)
    ·exact .inr (.inr KqE)
    ·exact .inl rfl
    ·exact .inr (.inl rfl)
    exact .inr (.inr KqE)
   rintro g5 w6 f2 hf1 lg5 m28 hb1
   have ng5m6 : bq1 ≠ g5 := Nat.ne_of_lt (Nat.lt_of_lt_of_le (m6.lt (by omega)) lg5)
   have ng5m7 : bq2 ≠ g5 := Nat.ne_of_lt (Nat.lt_of_lt_of_le (m7.lt (by omega)) lg5)
   have ng5m5 : (.slice ao (n) (co) : Value).ownBlock ≠ some g5 := fun e => by have := (m5.ge e).2; omega
   have ⟨m29, m30, m31, b9⟩ := KTk4 hb1 m5 m6 m7 b2
   have lg5 : w.heap.size ≤ g5 := Nat.le_trans b2.size lg5
   have tg5 := m28.lt
   have q1 : f2 0 = .slice aa1 (na) (ca) := by rw [hf1]; exact (Fx.fOne_out (by kernel_rfl)).trans h1
   have q2 : f2 1 = .slice bb1 (nb) (cb) := by rw [hf1]; exact (Fx.fOne_out (by kernel_rfl)).trans h2
   have q3 : f2 2 = .func (.func 25) #[] #[] := by rw [hf1]; exact (Fx.fOne_out (by kernel_rfl)).trans h3
   have q4 : f2 3 = .func (.func 26) #[] #[] := by rw [hf1]; exact (Fx.fOne_out (by kernel_rfl)).trans h4
   have q5 : f2 8 = .slice ao (n) (co) := by rw [hf1]; exact (Fx.fOne_out (by kernel_rfl)).trans h5
   have q9 : f2 16 = .bool true := by rw [hf1]; kernel_rfl
   have q40 : f2 11 = .pointer (some ⟨g5, 0, none⟩) := by rw [hf1]; kernel_rfl
   have q41 : f2 12 = .int .i64 (if GrBad (grA ra 0) (grA rb 0) then (14 : Int) else 0) := by rw [hf1]; kernel_rfl
   clear hf1
   refine Fx.sN (Fx.Ws (KWsl (KLh q41 ?_)))
   by_cases c41 : (if GrBad (grA ra 0) (grA rb 0) then (14 : Int) else 0) = 0
   ·refine Fx.Lv KbF (KneF c41) (KLe (KWcF (Fx.Wk (Fx.sN ?_))))
    have c40p : ¬ GrBad (grA ra 0) (grA rb 0) := fun h => by rw [if_pos h] at c41; exact absurd c41 (by decide)
    have m32 : Fx.Blk w6 g5 5 (grZ (grJ (grA ra 0) (grA rb 0))) 59 := by have q9 := m28; rw [if_neg c40p] at q9; exact q9
    -- region 6 draws
    refine Fx.W.reordR [0, 4, 5, 6, 7, 1, 2, 3, 8, 9, 10] [0, 4, 2, 2, 0, 0, 0, 0, 0, 0, 0] (Fx.ChT [59]) Fx.cRf Fx.ChT.trans (certs := [(2, 1, [1]), (3, 1, [2, 1]), (3, 2, [2]), (8, 2, [2]), (9, 2, [2]), (10, 2, [2]), (8, 3, [3]), (9, 3, [3]), (10, 3, [3])]) (by kernel_rfl) (by kernel_rfl) (by kernel_rfl) (by kernel_rfl) (by kernel_rfl) fun wt3 hbwt3 hzwt3 => ?_
    have ⟨m33, m34, m35, m36, b10⟩ := KTk5 hbwt3 m29 m30 m31 m32 b9
    refine KRh q5 (KRh q1 (Fx.Rp (.slice (Fx.slA 5 1 ca aa1) (na - 1) (ca - 1)) (fun v1 => Fx.x_slA (j := 1) (s := 5) rfl rfl rfl Try.underlying27 (by kernel_rfl) (by omega) hca) (KRh q2 (Fx.Rp (.slice (Fx.slA 5 1 cb bb1) (nb - 1) (cb - 1)) (fun v1 => Fx.x_slA (j := 1) (s := 5) rfl rfl rfl Try.underlying27 (by kernel_rfl) (by omega) hcb) (Fx.Rs (.agg (Fx.varr 5 (grZ (grJ (grA ra 0) (grA rb 0))))) (KxA m36.cel 0 (ha := q40)) ?_)))))
    refine KRk (Fx.Lbs (vs := [(0, .agg (Fx.varr 5 (grZ (grJ (grA ra 0) (grA rb 0)))))]) (s := 5) (zc := fun i => (#[.int .i64 (0), .int .u64 (0), .int .u64 (0), .int .i64 (0), .int .u64 (0)] : Array Value).getD i undef) (y := Fx.ovr (fun j => (#[.int .i64 (0), .int .u64 (0), .int .u64 (0), .int .i64 (0), .int .u64 (0)] : Array Value).getD (j % 5) undef) (0 * 5) 5 (grZ (grJ (grA ra 0) (grA rb 0)))) (by rfl) rfl rfl Try.underlying27 (by kernel_rfl) (by rfl) (by rfl) (by kernel_rfl) (by rw [Fx.fill_step (off := 0 * 5) (s := 5) (y := grZ (grJ (grA ra 0) (grA rb 0))) rfl (Fx.cells_agg _ _) (by rfl)]; rfl) rfl fun g6 w7 eg6 m37 s8 z3 => ?_)
    have ⟨m38, m41, b11⟩ := KTk3 s8.old m33 m36 b10
    have lg6 := KGk eg6 b10.size
    have ng6m38 : (.slice ao (n) (co) : Value).ownBlock ≠ some g6 := by rw [eg6]; exact m33.notNew (Nat.le_refl _)
    have ng6m39 : bq1 ≠ g6 := by rw [eg6]; exact Nat.ne_of_lt (m34.lt (by omega))
    have ng6m40 : bq2 ≠ g6 := by rw [eg6]; exact Nat.ne_of_lt (m35.lt (by omega))
    have ng6m41 := KNk1 eg6 m36.lt
    have tg6 := m37.lt
    refine Fx.Ln ⟨Fx.ChT.of_below s8.old, ?_⟩
    refine KRk (Fx.Lap (B := w.heap.size) (s := 5) (bytes := 40) (k := n) (m := 1) (v := .slice ao (n) (co)) (x := grsX ol) (by rfl) rfl rfl rfl Try.underlying27 (by kernel_rfl) (by kernel_rfl) rfl rfl m38 m37.cel (fun j hj => by unfold Fx.ovr; rw [if_pos ⟨by omega, by omega⟩]; exact grZ_one _ _) (by omega) (by omega) (by omega) b11.size fun g7 cap3 w8 ho3 hg3 hgv3 hlt3 => ?_)
    have hct3 := Fx.cOg hg3 m38
    have ng7m45 : g5 ≠ g7 := fun e => hgv3.elim (fun e2 => ng5m5 (by rw [e]; exact e2)) (fun e2 => by have := m41.lt; omega)
    have m42 : Fx.Own w8 w.heap.size 59 5 (.slice (some ⟨g7, 0, none⟩) (n + 1) cap3) (n + 1) (grsX (ol ++ [(grJ (grA ra 0) (grA rb 0))])) := (ho3.congr (grs_app1 (l := ol) (x := (grJ (grA ra 0) (grA rb 0))) hn))
    have b12 : Below w.heap.size w w8 := Fx.bGr b11 hg3 b11.size (fun q hq => (m38.ge hq).1)
    refine Fx.Ln ⟨hct3, ?_⟩
    refine KRq (.slice (some ⟨g7, 0, none⟩) (n + 1) (cap3)) (KRq (.slice (Fx.slA 5 1 ca aa1) (na - 1) (ca - 1)) (KRq (.slice (Fx.slA 5 1 cb bb1) (nb - 1) (cb - 1)) (Fx.Rn (Fx.blkN (Fx.blkN ?_)))))
    skip
    refine Fx.lpN ⟨na - 1 + (nb - 1), (by omega), na - 1, nb - 1, ca - 1, cb - 1, Fx.slA 5 1 ca aa1, Fx.slA 5 1 cb bb1, ra.tail, rb.tail, ol ++ [grJ (grA ra 0) (grA rb 0)], n + 1, (some ⟨g7, 0, none⟩), cap3, (by omega), (tailG hA hca), (tailG hB hcb), (by rw [List.length_tail]; omega), (by rw [List.length_tail]; omega), (by omega), (by omega), (by rw [List.length_append]; exact congrArg (· + 1) hn), (by omega), (m_step hj (mG_yes (by omega) (by omega) n53 n64 c40p)), (nonneg_tail hpa), (nonneg_tail hpb), (by rfl), (by rfl), q3, q4, (by rfl), m42, b12⟩ (by decide)
   refine Fx.Lv KbT (KneT c41) (KLe (KWcT (Fx.Ws ?_)))
   have c40p : GrBad (grA ra 0) (grA rb 0) := Classical.byContradiction fun h => c41 (if_neg h)
   refine Fx.Wl (KLh q41 (KLq (.slice none 0 0) (KLq (Ki6 (if GrBad (grA ra 0) (grA rb 0) then (14 : Int) else 0)) (KLe (Fx.Wr (Fx.sR (Fx.blkR (Fx.blkR (Fx.lpR (Fx.blkR (Fx.sR (Kret (.tuple #[.slice none 0 0, .int .i64 (if GrBad (grA ra 0) (grA rb 0) then (14 : Int) else 0)]) ?_))))))))))))
   exact .inl ⟨by rw [hj, mG_no (by omega) (by omega) n53 n64 c40p]; rfl, by rw [if_pos c40p], b9⟩
  refine Fx.Lv KbF (KgtF c19) (KLq KbF (KLe (KWcF (Fx.Wx (Fx.seqX (Fx.lpX (Fx.blkX (Fx.sN (KWsl (KLh h5 (KLh h1 (Fx.L.appAny (B := w.heap.size) (s := 5) (bytes := 40) (k := n) (m := na) (v := .slice ao (n) (co)) (x := grsX ol) (by rfl) rfl rfl rfl Try.underlying27 (by kernel_rfl) (by kernel_rfl) rfl rfl m2 (hA.up b1 rfl) (fun j _ => grs_one _ j) (by omega) (by omega) b1.size fun vv1 w9 ho4 hg4 hgv4 => ?_))))))))))))
  obtain ⟨a1, cap4, rfl⟩ := ho4.val
  have m46 : Fx.Own w9 w.heap.size 59 5 (.slice a1 (n + na) (cap4)) (n + na) (grsX (ol ++ ra)) := (ho4.congr (fun j _ => grs_app (l := ol) (r := ra) hn j))
  have b13 : Below w.heap.size w w9 := Fx.bGr b1 hg4 b1.size (fun q hq => (m2.ge hq).1)
  refine KLh h2 (Fx.L.appAny (B := w.heap.size) (s := 5) (bytes := 40) (k := n + na) (m := nb) (v := .slice a1 (n + na) (cap4)) (x := grsX (ol ++ ra)) (by rfl) rfl rfl rfl Try.underlying27 (by kernel_rfl) (by kernel_rfl) rfl rfl m46 (hB.up b13 rfl) (fun j _ => grs_one _ j) (by omega) (by omega) b13.size fun vv2 w10 ho5 hg5 hgv5 => ?_)
  obtain ⟨a2, cap5, rfl⟩ := ho5.val
  have m47 : Fx.Own w10 w.heap.size 59 5 (.slice a2 (n + na + nb) (cap5)) (n + na + nb) (grsX (ol ++ ra ++ rb)) := (ho5.congr (fun j _ => grs_app (l := (ol ++ ra)) (r := rb) (by rw [List.length_append, ← hn, ← hra]) j))
  have b14 : Below w.heap.size w w10 := Fx.bGr b13 hg5 b13.size (fun q hq => (m46.ge hq).1)
  refine KLq (.slice a2 (n + na + nb) (cap5)) (KLq (Ki6 0) (KLe (Fx.Wr (Kret (.tuple #[.slice a2 (n + na + nb) (cap5), .int .i64 (0)]) ?_))))
  have e9 : mergeG la lb = some (ol ++ ra ++ rb) := by rw [hj, mG_end (by first | exact .inl (List.eq_nil_of_length_eq_zero (by omega)) | exact .inr (List.eq_nil_of_length_eq_zero (by omega)))]; simp
  have l9 : (ol ++ ra ++ rb).length = n + na + nb := by simp only [List.length_append]; omega
  exact .inr ⟨_, a2, cap5, e9, by rw [l9], by rw [l9]; exact m47, b14⟩
 refine Fx.Lv KbF (KgtF c15) (KLq KbF (KLu (KLu (KLu (KLq KbF (KLe (KWcF (Fx.Wx (Fx.seqX (Fx.lpX (Fx.blkX (Fx.sN (KWsl (KLh h5 (KLh h1 (Fx.L.appAny (B := w.heap.size) (s := 5) (bytes := 40) (k := n) (m := na) (v := .slice ao (n) (co)) (x := grsX ol) (by rfl) rfl rfl rfl Try.underlying27 (by kernel_rfl) (by kernel_rfl) rfl rfl m2 (hA.up b1 rfl) (fun j _ => grs_one _ j) (by omega) (by omega) b1.size fun vv3 w11 ho6 hg6 hgv6 => ?_))))))))))))))))
 obtain ⟨a3, cap6, rfl⟩ := ho6.val
 have m48 : Fx.Own w11 w.heap.size 59 5 (.slice a3 (n + na) (cap6)) (n + na) (grsX (ol ++ ra)) := (ho6.congr (fun j _ => grs_app (l := ol) (r := ra) hn j))
 have b15 : Below w.heap.size w w11 := Fx.bGr b1 hg6 b1.size (fun q hq => (m2.ge hq).1)
 refine KLh h2 (Fx.L.appAny (B := w.heap.size) (s := 5) (bytes := 40) (k := n + na) (m := nb) (v := .slice a3 (n + na) (cap6)) (x := grsX (ol ++ ra)) (by rfl) rfl rfl rfl Try.underlying27 (by kernel_rfl) (by kernel_rfl) rfl rfl m48 (hB.up b15 rfl) (fun j _ => grs_one _ j) (by omega) (by omega) b15.size fun vv4 w12 ho7 hg7 hgv7 => ?_)
 obtain ⟨a4, cap7, rfl⟩ := ho7.val
 have m49 : Fx.Own w12 w.heap.size 59 5 (.slice a4 (n + na + nb) (cap7)) (n + na + nb) (grsX (ol ++ ra ++ rb)) := (ho7.congr (fun j _ => grs_app (l := (ol ++ ra)) (r := rb) (by rw [List.length_append, ← hn, ← hra]) j))
 have b16 : Below w.heap.size w w12 := Fx.bGr b15 hg7 b15.size (fun q hq => (m48.ge hq).1)
 refine KLq (.slice a4 (n + na + nb) (cap7)) (KLq (Ki6 0) (KLe (Fx.Wr (Kret (.tuple #[.slice a4 (n + na + nb) (cap7), .int .i64 (0)]) ?_))))
 have e9 : mergeG la lb = some (ol ++ ra ++ rb) := by rw [hj, mG_end (by first | exact .inl (List.eq_nil_of_length_eq_zero (by omega)) | exact .inr (List.eq_nil_of_length_eq_zero (by omega)))]; simp
 have l9 : (ol ++ ra ++ rb).length = n + na + nb := by simp only [List.length_append]; omega
 exact .inr ⟨_, a4, cap7, e9, by rw [l9], by rw [l9]; exact m49, b16⟩
end Go.Proofs.Ytkajcjefckjijaa
namespace Go.Proofs.Ytkajcjefckjijaa
open Go.RowKit Rt
open Fx (x_move x_assign x_field x_load1 x_conv x_indexS x_index x_leqF x_loadA x_len x_gtrF x_eqlF x_eqlT Lv sN Ln Ws Qv Wl Rp Wc Qs Wr Sb Lk Wk rV sR Rs Rn Rd Rk Wb Wx Wo WoE Wt Wone Qn Qcl Lcl Lbs Lap Lnw Lbx Stv cOs cOg sRf mRf gRf cRf oNl bGr WsJ Wro rv varr Blk ovr putI ev Stp ovr_all flat updV Mp run_loadV Cel fill_step ret0 Chg i64e Arr flat_cong cells_agg cells_one ChT ovr_ones jnN u64e appX fOne_out upd_all blkR blkN seqX blkX lpX lpN lpR retV2)
set_option linter.unusedVariables false
namespace Fx
theorem Own.le {w : World} {B : Nat} {E : TypeId} {s n c : Nat} {a : Option Addr} {x : Nat → Value} (h : Own w B E s (.slice a n c) n x) : n ≤ c := by
  rcases h.2 with ⟨e, e2⟩ | ⟨g, cap, cur, e, hb, hg, hle, _⟩
  · injection e with _ e1 e3; omega
  injection e with _ e1 e3; omega
end Fx
namespace Rt
structure NdR (x : NdM) : Prop where
  id : U64r x.id
  par : U64r x.par
  R : ∀ p, p < 54 → I64r (x.R p)
structure GrR (x : GrM) : Prop where
  o : I64r x.o
  r : U64r x.r
  n : U64r x.n
  a : I64r x.a
  b : U64r x.b
structure SnR (m : SnM) : Prop where
  k : Kr m.known
  n : ∀ x ∈ m.ns, NdR x
  g : ∀ x ∈ m.gs, GrR x
theorem ndA_mem {l : List NdM} {k : Nat} (h : k < l.length) : ndA l k ∈ l := by
  unfold ndA; rw [List.getD_eq_getElem?_getD, List.getElem?_eq_getElem h]; exact List.getElem_mem h
theorem grA_mem {l : List GrM} {k : Nat} (h : k < l.length) : grA l k ∈ l := by
  unfold grA; rw [List.getD_eq_getElem?_getD, List.getElem?_eq_getElem h]; exact List.getElem_mem h
structure StW (w : World) (m : SnM) (na : Option Addr) (nc : Nat) (ga : Option Addr) (gc : Nat) : Prop where
  r : SnR m
  l1 : m.ns.length ≤ 1000000
  l2 : m.gs.length ≤ 1000000
  n : Arr w na m.ns.length 56 (ndsX m.ns)
  g : Arr w ga m.gs.length 5 (grsX m.gs)
  c1 : m.ns.length ≤ nc
  c2 : m.gs.length ≤ gc
theorem StW.up {w w' : World} {m : SnM} {na ga : Option Addr} {nc gc : Nat} (h : StW w m na nc ga gc) (hb : Below w.heap.size w w') : StW w' m na nc ga gc := ⟨h.r, h.l1, h.l2, h.n.up hb rfl, h.g.up hb rfl, h.c1, h.c2⟩
instance {w w' : World} {m : SnM} {na ga : Option Addr} {nc gc : Nat} : Rt.Tr w w' (StW w m na nc ga gc) (StW w' m na nc ga gc) := ⟨fun b h => h.up b⟩
theorem StW.b0 {w : World} {m : SnM} {na ga : Option Addr} {nc gc : Nat} (h : StW w m na nc ga gc) : ∀ k, k < m.gs.length → 0 ≤ (grA m.gs k).b := fun k hk => (h.r.g _ (grA_mem hk)).b.1
theorem sn0_r : SnR sn0 := ⟨fun _ _ => ⟨Int.le_refl 0, show (0 : Int) ≤ 18446744073709551615 by decide⟩, fun x hx => (nomatch hx), fun x hx => (nomatch hx)⟩
theorem mx_u {a b : Int} (ha : U64r a) (hb : U64r b) : U64r (mxI a b) := by unfold mxI; split <;> assumption
theorem mx_i {a b : Int} (ha : I64r a) (hb : I64r b) : I64r (mxI a b) := by unfold mxI; split <;> assumption
theorem mergeN_r {a b l : List NdM} (ha : ∀ x ∈ a, NdR x) (hb : ∀ x ∈ b, NdR x) (h : mergeN a b = some l) : ∀ x ∈ l, NdR x := by
  induction a, b using mergeN.induct generalizing l with
  | case1 b => rw [mergeN] at h; cases h; exact hb
  | case2 x a => rw [mergeN] at h; cases h; exact ha
  | case3 x a y b c ih =>
    rw [mergeN, if_pos c] at h; obtain ⟨q, hq, rfl⟩ := Option.map_eq_some_iff.1 h
    intro z hz; rcases List.mem_cons.1 hz with rfl | hz
    · exact ha _ (List.mem_cons_self ..)
    · exact ih (fun x hx => ha x (List.mem_cons_of_mem _ hx)) hb hq z hz
  | case4 x a y b c c2 ih =>
    rw [mergeN, if_neg c, if_pos c2] at h; obtain ⟨q, hq, rfl⟩ := Option.map_eq_some_iff.1 h
    intro z hz; rcases List.mem_cons.1 hz with rfl | hz
    · exact hb _ (List.mem_cons_self ..)
    · exact ih ha (fun x hx => hb x (List.mem_cons_of_mem _ hx)) hq z hz
  | case5 x a y b c c2 c3 => rw [mergeN, if_neg c, if_neg c2, if_pos c3] at h; cases h
  | case6 x a y b c c2 c3 ih =>
    rw [mergeN, if_neg c, if_neg c2, if_neg c3] at h; obtain ⟨q, hq, rfl⟩ := Option.map_eq_some_iff.1 h
    have hx := ha _ (List.mem_cons_self ..); have hy := hb _ (List.mem_cons_self ..)
    intro z hz; rcases List.mem_cons.1 hz with rfl | hz
    · exact ⟨hx.id, hx.par, fun p hp => mx_i (hx.R p hp) (hy.R p hp)⟩
    · exact ih (fun x hx => ha x (List.mem_cons_of_mem _ hx)) (fun x hx => hb x (List.mem_cons_of_mem _ hx)) hq z hz
theorem mergeG_r {a b l : List GrM} (ha : ∀ x ∈ a, GrR x) (hb : ∀ x ∈ b, GrR x) (h : mergeG a b = some l) : ∀ x ∈ l, GrR x := by
  induction a, b using mergeG.induct generalizing l with
  | case1 b => rw [mergeG] at h; cases h; exact hb
  | case2 x a => rw [mergeG] at h; cases h; exact ha
  | case3 x a y b c ih =>
    rw [mergeG, if_pos c] at h; obtain ⟨q, hq, rfl⟩ := Option.map_eq_some_iff.1 h
    intro z hz; rcases List.mem_cons.1 hz with rfl | hz
    · exact ha _ (List.mem_cons_self ..)
    · exact ih (fun x hx => ha x (List.mem_cons_of_mem _ hx)) hb hq z hz
  | case4 x a y b c c2 ih =>
    rw [mergeG, if_neg c, if_pos c2] at h; obtain ⟨q, hq, rfl⟩ := Option.map_eq_some_iff.1 h
    intro z hz; rcases List.mem_cons.1 hz with rfl | hz
    · exact hb _ (List.mem_cons_self ..)
    · exact ih ha (fun x hx => hb x (List.mem_cons_of_mem _ hx)) hq z hz
  | case5 x a y b c c2 c3 => rw [mergeG, if_neg c, if_neg c2, if_pos c3] at h; cases h
  | case6 x a y b c c2 c3 ih =>
    rw [mergeG, if_neg c, if_neg c2, if_neg c3] at h; obtain ⟨q, hq, rfl⟩ := Option.map_eq_some_iff.1 h
    have hx := ha _ (List.mem_cons_self ..); have hy := hb _ (List.mem_cons_self ..)
    intro z hz; rcases List.mem_cons.1 hz with rfl | hz
    · exact ⟨hx.o, hx.r, hx.n, hx.a, mx_u hx.b hy.b⟩
    · exact ih (fun x hx => ha x (List.mem_cons_of_mem _ hx)) (fun x hx => hb x (List.mem_cons_of_mem _ hx)) hq z hz
theorem mergeN_len {a b l : List NdM} (h : mergeN a b = some l) : l.length ≤ a.length + b.length := by
  induction a, b using mergeN.induct generalizing l with
  | case1 b => rw [mergeN] at h; cases h; simp
  | case2 x a => rw [mergeN] at h; cases h; simp
  | case3 x a y b c ih => rw [mergeN, if_pos c] at h; obtain ⟨q, hq, rfl⟩ := Option.map_eq_some_iff.1 h; have := ih hq; simp at this ⊢; omega
  | case4 x a y b c c2 ih => rw [mergeN, if_neg c, if_pos c2] at h; obtain ⟨q, hq, rfl⟩ := Option.map_eq_some_iff.1 h; have := ih hq; simp at this ⊢; omega
  | case5 x a y b c c2 c3 => rw [mergeN, if_neg c, if_neg c2, if_pos c3] at h; cases h
  | case6 x a y b c c2 c3 ih => rw [mergeN, if_neg c, if_neg c2, if_neg c3] at h; obtain ⟨q, hq, rfl⟩ := Option.map_eq_some_iff.1 h; have := ih hq; simp at this ⊢; omega
theorem mergeG_len {a b l : List GrM} (h : mergeG a b = some l) : l.length ≤ a.length + b.length := by
  induction a, b using mergeG.induct generalizing l with
  | case1 b => rw [mergeG] at h; cases h; simp
  | case2 x a => rw [mergeG] at h; cases h; simp
  | case3 x a y b c ih => rw [mergeG, if_pos c] at h; obtain ⟨q, hq, rfl⟩ := Option.map_eq_some_iff.1 h; have := ih hq; simp at this ⊢; omega
  | case4 x a y b c c2 ih => rw [mergeG, if_neg c, if_pos c2] at h; obtain ⟨q, hq, rfl⟩ := Option.map_eq_some_iff.1 h; have := ih hq; simp at this ⊢; omega
  | case5 x a y b c c2 c3 => rw [mergeG, if_neg c, if_neg c2, if_pos c3] at h; cases h
  | case6 x a y b c c2 c3 ih => rw [mergeG, if_neg c, if_neg c2, if_neg c3] at h; obtain ⟨q, hq, rfl⟩ := Option.map_eq_some_iff.1 h; have := ih hq; simp at this ⊢; omega
def mz : StM := ⟨fun _ => false, fun _ => false, fun _ => 0, none, 0, 0, none, 0, 0⟩
def orF (x y : Nat → Bool) (i : Nat) : Nat → Bool := fun q => if q < i then x q || y q else false
def JM (a b : SnM) (i : Nat) : StM := ⟨orF a.inn b.inn i, orF a.left b.left i, fun p => mx6 (a.known p) (b.known p), none, 0, 0, none, 0, 0⟩
theorem stY_cong {m k : StM} (h1 : ∀ q, q < 6 → m.inn q = k.inn q) (h2 : ∀ q, q < 6 → m.left q = k.left q) (h3 : ∀ q, q < 6 → m.known q = k.known q) (h4 : Value.slice m.na m.nn m.nc = .slice k.na k.nn k.nc) (h5 : Value.slice m.ga m.gn m.gc = .slice k.ga k.gn k.gc) : ∀ j, j < 20 → stY m j = stY k j := fun j hj => by
  unfold stY
  by_cases c1 : j < 6
  · rw [if_pos c1, if_pos c1, h1 j c1]
  · rw [if_neg c1, if_neg c1]
    by_cases c2 : j < 12
    · rw [if_pos c2, if_pos c2, h2 _ (by omega)]
    · rw [if_neg c2, if_neg c2]
      by_cases c3 : j < 18
      · rw [if_pos c3, if_pos c3, h3 _ (by omega)]
      · rw [if_neg c3, if_neg c3, h4, h5]
theorem J_known {a b : SnM} : ∀ j, j < 20 → ovr (stY mz) 12 6 (rv .u64 fun p => mx6 (a.known p) (b.known p)) j = stY (JM a b 0) j := fun j hj => by
  unfold ovr
  by_cases c : 12 ≤ j ∧ j < 12 + 6
  · rw [if_pos c]; exact (stY_known (p := j - 12) (q := j) (JM a b 0) (by omega) (by omega)).symm
  · rw [if_neg c]; unfold stY JM orF mz
    by_cases c1 : j < 6
    · rw [if_pos c1, if_pos c1]; rfl
    · rw [if_neg c1, if_neg c1]
      by_cases c2 : j < 12
      · rw [if_pos c2, if_pos c2]; rfl
      · have h18 : ¬ j < 18 := by omega
        rw [if_neg c2, if_neg c2, if_neg h18, if_neg h18]
def JM1 (a b : SnM) (i : Nat) : StM := { JM a b i with inn := orF a.inn b.inn (i + 1) }
theorem orF_set {x y : Nat → Bool} {i q : Nat} {v : Bool} (hv : v = (x i || y i)) : (if q = i then v else orF x y i q) = orF x y (i + 1) q := by
  unfold orF
  by_cases e : q = i
  · rw [if_pos e, if_pos (by omega), e, hv]
  rw [if_neg e]
  by_cases c : q < i
  · rw [if_pos c, if_pos (by omega)]
  rw [if_neg c, if_neg (by omega)]
theorem J_in {a b : SnM} {i : Nat} {v : Bool} (hi : i < 6) (hv : v = (a.inn i || b.inn i)) : ∀ j, j < 20 → updV (stY (JM a b i)) i (.bool v) j = stY (JM1 a b i) j := fun j hj => by
  unfold updV
  by_cases c1 : j < 6
  · rw [stY_in _ c1, stY_in _ c1]; show _ = Value.bool (orF a.inn b.inn (i + 1) j); rw [← orF_set hv]; show _ = Value.bool (if j = i then v else orF a.inn b.inn i j); split <;> rfl
  · rw [if_neg (by omega)]; unfold stY; rw [if_neg c1, if_neg c1]; rfl
theorem J_left {a b : SnM} {i p : Nat} {v : Bool} (hi : i < 6) (hp : p = 6 + i) (hv : v = (a.left i || b.left i)) : ∀ j, j < 20 → updV (stY (JM1 a b i)) p (.bool v) j = stY (JM a b (i + 1)) j := fun j hj => by
  subst hp
  unfold updV
  by_cases c1 : j < 6
  · rw [if_neg (by omega), stY_in _ c1, stY_in _ c1]; rfl
  · by_cases c2 : j < 12
    · rw [stY_left (p := j - 6) (JM1 a b i) (by omega) (by omega), stY_left (p := j - 6) (JM a b (i + 1)) (by omega) (by omega)]
      show _ = Value.bool (orF a.left b.left (i + 1) (j - 6)); rw [← orF_set hv]
      by_cases e : j = 6 + i
      · rw [if_pos e, if_pos (by omega)]
      · rw [if_neg e, if_neg (by omega)]; rfl
    · rw [if_neg (by omega)]; unfold stY; rw [if_neg c1, if_neg c1, if_neg c2, if_neg c2]; rfl
def JM2 (a b : SnM) (na : Option Addr) (nn nc : Nat) : StM := { JM a b 6 with na := na, nn := nn, nc := nc }
def JM3 (a b : SnM) (na : Option Addr) (nn nc : Nat) (ga : Option Addr) (gn gc : Nat) : StM := { JM2 a b na nn nc with ga := ga, gn := gn, gc := gc }
theorem J_ns {a b : SnM} {na : Option Addr} {nn nc : Nat} : ∀ j, j < 20 → updV (stY (JM a b 6)) 18 (.slice na nn nc) j = stY (JM2 a b na nn nc) j := fun j hj => by
  unfold updV
  by_cases e : j = 18
  · subst e; rfl
  · rw [if_neg e]; unfold stY; simp only [e, if_false]; rfl
theorem J_gs {a b : SnM} {na ga : Option Addr} {nn nc gn gc : Nat} : ∀ j, j < 20 → updV (stY (JM2 a b na nn nc)) 19 (.slice ga gn gc) j = stY (JM3 a b na nn nc ga gn gc) j := fun j hj => by
  unfold updV
  by_cases e : j = 19
  · subst e; rfl
  · rw [if_neg e]; unfold stY
    by_cases c : j < 18
    · by_cases c1 : j < 6
      · rw [if_pos c1, if_pos c1]; rfl
      · by_cases c2 : j < 12
        · rw [if_neg c1, if_neg c1, if_pos c2, if_pos c2]; rfl
        · rw [if_neg c1, if_neg c1, if_neg c2, if_neg c2, if_pos c, if_pos c]; rfl
    · have : j = 18 := by omega
      subst this; rfl
theorem J_end {a b : SnM} {l : List NdM} {g : List GrM} {na ga : Option Addr} {nc gc : Nat} : ∀ j, j < 20 → stY (JM3 a b na l.length nc ga g.length gc) j = stY (stS (joinR a b l g) na nc ga gc) j :=
  stY_cong (fun q hq => if_pos hq) (fun q hq => if_pos hq) (fun _ _ => rfl) rfl rfl
theorem joinR_r {a b : SnM} {l : List NdM} {g : List GrM} (ha : SnR a) (hb : SnR b) (h1 : mergeN a.ns b.ns = some l) (h2 : mergeG a.gs b.gs = some g) : SnR (joinR a b l g) := ⟨fun i hi => mx_u (ha.k i hi) (hb.k i hi), mergeN_r ha.n hb.n h1, mergeG_r ha.g hb.g h2⟩
theorem jS_arg {a b : SnM} (h : mayS a = false ∨ mayS b = false) : joinS a b = (sn0, 1) := by
  unfold joinS; rw [if_pos]; rcases h with h | h
  · exact .inl fun q => by rw [mayS_y q] at h; cases h
  exact .inr fun q => by rw [mayS_y q] at h; cases h
theorem jS_n {a b : SnM} (h1 : mayS a = true) (h2 : mayS b = true) (h : mergeN a.ns b.ns = none) : joinS a b = (sn0, 9) := by
  unfold joinS; rw [if_neg (fun q => q.elim (fun q => q (mayS_iff.1 h1)) (fun q => q (mayS_iff.1 h2))), h]
theorem jS_g {a b : SnM} {l : List NdM} (h1 : mayS a = true) (h2 : mayS b = true) (h : mergeN a.ns b.ns = some l) (h3 : mergeG a.gs b.gs = none) : joinS a b = (sn0, 14) := by
  unfold joinS; rw [if_neg (fun q => q.elim (fun q => q (mayS_iff.1 h1)) (fun q => q (mayS_iff.1 h2))), h, h3]
theorem jS_m {a b : SnM} {l : List NdM} {g : List GrM} (h1 : mayS a = true) (h2 : mayS b = true) (h : mergeN a.ns b.ns = some l) (h3 : mergeG a.gs b.gs = some g) (h4 : mayS (joinR a b l g) = false) : joinS a b = (sn0, 6) := by
  unfold joinS; rw [if_neg (fun q => q.elim (fun q => q (mayS_iff.1 h1)) (fun q => q (mayS_iff.1 h2))), h, h3]; exact if_neg fun q => by rw [mayS_y q] at h4; cases h4
theorem jS_y {a b : SnM} {l : List NdM} {g : List GrM} (h1 : mayS a = true) (h2 : mayS b = true) (h : mergeN a.ns b.ns = some l) (h3 : mergeG a.gs b.gs = some g) (h4 : mayS (joinR a b l g) = true) : joinS a b = (joinR a b l g, 0) := by
  unfold joinS; rw [if_neg (fun q => q.elim (fun q => q (mayS_iff.1 h1)) (fun q => q (mayS_iff.1 h2))), h, h3]; exact if_pos (mayS_iff.1 h4)
theorem joinS_r {a b : SnM} (ha : SnR a) (hb : SnR b) : SnR (joinS a b).1 := by
  unfold joinS
  split
  · exact sn0_r
  split
  · exact sn0_r
  split
  · exact sn0_r
  split
  · exact joinR_r ha hb (by assumption) (by assumption)
  exact sn0_r
end Rt
set_option maxRecDepth 20000 in
theorem s_join (a b : SnM) (ana : Option Addr) (anc : Nat) (aga : Option Addr) (agc : Nat) (bna : Option Addr) (bnc : Nat) (bga : Option Addr) (bgc : Nat) (w : World) (ha : StW w a ana anc aga agc) (hb : StW w b bna bnc bga bgc) :
    Calls Try.prog 8 #[.agg (varr 20 (stY (stS a ana anc aga agc))), .agg (varr 20 (stY (stS b bna bnc bga bgc)))] w fun e w' => ∃ na nc ga gc, e = .returned (.tuple #[.agg (varr 20 (stY (stS (joinS a b).1 na nc ga gc))), .int .i64 (joinS a b).2]) ∧ Fx.Own w' w.heap.size 50 56 (.slice na (joinS a b).1.ns.length nc) (joinS a b).1.ns.length (ndsX (joinS a b).1.ns) ∧ Fx.Own w' w.heap.size 59 5 (.slice ga (joinS a b).1.gs.length gc) (joinS a b).1.gs.length (grsX (joinS a b).1.gs) ∧ Below w.heap.size w w' := by
 refine Kent Try.func8 84 ?_
 refine KWsl (KLb fun g1 w1 eg1 m1 s1 z1 => ?_)
 have b1 := KTk1 s1.old (Below.refl w.heap.size w)
 have lg1 := KGk0 eg1
 have tg1 := m1.lt
 refine KLb fun g2 w2 eg2 m2 s2 z2 => ?_
 have ⟨m3, b2⟩ := KTk2 s2.old m1 b1
 have lg2 := KGk eg2 b1.size
 have ng2m3 := KNk1 eg2 m1.lt
 have tg2 := m2.lt
 refine KLw 20 (fun i => (#[.bool false, .bool false, .bool false, .bool false, .bool false, .bool false, .bool false, .bool false, .bool false, .bool false, .bool false, .bool false, .int .u64 (0), .int .u64 (0), .int .u64 (0), .int .u64 (0), .int .u64 (0), .int .u64 (0), .slice none 0 0, .slice none 0 0] : Array Value).getD i undef) fun g3 w3 eg3 m4 s3 z3 => ?_
 have ⟨m5, m6, b3⟩ := KTk3 s3.old m3 m2 b2
 have lg3 := KGk eg3 b2.size
 have ⟨ng3m5, ng3m6⟩ := KNk2 eg3 m3.lt m2.lt
 have tg3 := m4.lt
 refine KLq (Ki6 0) (KLe (Ws (Ws ?_)))
 have m7 : Blk w3 g3 20 (stY mz) 29 := m4.congr (fun j hj => match j, hj with | 0, _ => rfl | 1, _ => rfl | 2, _ => rfl | 3, _ => rfl | 4, _ => rfl | 5, _ => rfl | 6, _ => rfl | 7, _ => rfl | 8, _ => rfl | 9, _ => rfl | 10, _ => rfl | 11, _ => rfl | 12, _ => rfl | 13, _ => rfl | 14, _ => rfl | 15, _ => rfl | 16, _ => rfl | 17, _ => rfl | 18, _ => rfl | 19, _ => rfl | j + 20, h => absurd h (by omega))
 refine Wl (Lv (.agg (varr 20 (stY (stS a ana anc aga agc)))) (KxA m5.cel 0) ?_)
 by_cases c8 : (mayS a) = true
 ·refine KLc1 (s_may a ana anc aga agc _ ha.r.k ha.l1 ha.l2 (ha.up b3).n (ha.up b3).g) KbT (by rw [c8]) ?_
  intro w4 hb1
  have ⟨m8, m9, m10, b4⟩ := KTk4 hb1 m5 m6 m7 b3
  refine KLq KbF (KLq KbF (Lv (.agg (varr 20 (stY (stS b bna bnc bga bgc)))) (KxA m9.cel 0) ?_))
  by_cases c12 : (mayS b) = true
  ·refine KLc1 (s_may b bna bnc bga bgc _ hb.r.k hb.l1 hb.l2 (hb.up b4).n (hb.up b4).g) KbT (by rw [c12]) ?_
   intro w5 hb2
   have ⟨m11, m12, m13, b5⟩ := KTk4 hb2 m8 m9 m10 b4
   refine KLq KbF (KLq KbF (KLe (KWcF (Wk (sN (KWsl (KLq (.pointer (some ⟨g1, 12, none⟩)) (Lv (.agg (varr 6 (rv .u64 a.known))) (KxA m11.cel 12 (fun j hj => stY_known (p := j) _ hj (by omega))) (KLq (.pointer (some ⟨g2, 12, none⟩)) (Lv (.agg (varr 6 (rv .u64 b.known))) (KxA m12.cel 12 (fun j hj => stY_known (p := j) _ hj (by omega))) (Lbs (vs := [(0, .agg (varr 6 (rv .u64 a.known))), (1, .agg (varr 6 (rv .u64 b.known)))]) (s := 6) (zc := rv .u64 (fun _ => 0)) (y := ovr (ovr (fun j => (rv .u64 (fun _ => 0)) (j % 6)) (0 * 6) 6 (rv .u64 a.known)) (1 * 6) 6 (rv .u64 b.known)) (by rfl) rfl rfl Try.underlying102 (by kernel_rfl) (by rfl) (by rfl) (by kernel_rfl) (by rw [fill_step (off := 0 * 6) (s := 6) (y := rv .u64 a.known) rfl (cells_agg _ _) (by rfl)]; rw [fill_step (off := 1 * 6) (s := 6) (y := rv .u64 b.known) rfl (cells_agg _ _) (by rfl)]; rfl) rfl fun g4 w6 eg4 m14 s6 z4 => ?_)))))))))))
   have ⟨m15, m16, m17, b6⟩ := KTk4 s6.old m11 m12 m13 b5
   have lg4 := KGk eg4 b5.size
   have ⟨ng4m15, ng4m16, ng4m17⟩ := KNk3 eg4 m11.lt m12.lt m13.lt
   have tg4 := m14.lt
   refine KLc1 (g_join2 a.known b.known m14 (V2_cells _ _ _)) _ rfl ?_
   intro w7 hb3
   have ⟨m18, m19, m20, b7⟩ := KTk4 hb3 m15 m16 m17 b6
   refine KLq (.pointer (some ⟨g3, 12, none⟩)) (KLsA m20 12 fun w8 m22 s8 z5 => ?_)
   have m23 : Blk w8 g3 20 (stY (JM a b 0)) 29 := m22.congr J_known
   have m24 := m18.stp s8 (by omega)
   have m25 := m19.stp s8 (by omega)
   have b8 := s8.below b7 b7.size (by omega)
   refine KLe (Ws (KWsl (KLq (Ki6 0) (KLe (Wb (Wo (fun f w_ => ∃ i : Nat, i ≤ 6 ∧ f 2 = .pointer (some ⟨g1, 0, none⟩) ∧ f 3 = .pointer (some ⟨g2, 0, none⟩) ∧ f 4 = .pointer (some ⟨g3, 0, none⟩) ∧ f 23 = .int .i64 ((i : Int)) ∧ Blk w_ g1 20 (stY (stS a ana anc aga agc)) 29 ∧ Blk w_ g2 20 (stY (stS b bna bnc bga bgc)) 29 ∧ Blk w_ g3 20 (stY (JM a b i)) 29 ∧ Below w.heap.size w w_) (fun f _ => (6 - (intOf (f 23)).toNat)) ⟨0, by omega, (by rfl), (by rfl), (by rfl), (by first | rfl | exact congrArg (Value.int .i64) (by omega)), m24, m25, m23, b8⟩ ?_))))))
   rintro f1 w9 ⟨i, hi, h1, h2, h3, h4, m27, m28, m29, b9⟩
   refine KWsl ?_
   by_cases c24 : (i : Int) < 6
   ·refine Lv KbT (KltT c24 (hx := h4)) (KLe (Ws (KWcT (Wk (sN (Ws (Wb (KWsl (KLh h4 (KLq (Ki6 i) (KLe ?_)))))))))))
    -- region 7 draws
    refine Wro [0, 1, 2, 3, 4, 12, 13, 14, 22, 25, 5, 6, 7, 8, 9, 10, 11, 23, 15, 16, 17, 18, 19, 20, 21, 24, 26, 27] [0, 0, 0, 0, 0, 4, 0, 0, 0, 0, 4, 0, 0, 0, 0, 4, 0, 0, 0, 0, 1, 0, 0, 0, 2, 0, 0, 2] (Chg (fun q => q = g3)) (gRf _) Fx.Chg.trans (certs := [(24, 5, [5]), (27, 5, [5]), (24, 10, [10]), (27, 10, [10]), (24, 15, [16, 15]), (27, 15, [15]), (26, 24, [24]), (27, 24, [24])]) (by kernel_rfl) (by kernel_rfl) (by kernel_rfl) (by kernel_rfl) (by kernel_rfl) fun wt1 hbwt1 hzwt1 => ?_
    have ⟨m30, m31, m32, b10⟩ := KTk4 hbwt1 m27 m28 m29 b9
    refine KRq (Ki6 i) (KRq (Ki6 i) (KRq (Ki6 i) (Rp (.pointer (some ⟨g1, 0, none⟩)) (fun _ => Kxf h1 0) (Rp (.pointer (some ⟨g1, i, none⟩)) (fun _ => Kxj 6 1) (KRq (Ki6 i) (Rp (.pointer (some ⟨g1, 6, none⟩)) (fun _ => Kxf h1 6) (Rp (.pointer (some ⟨g1, i + 6, none⟩)) (fun _ => Kxj 6 1) (Rp (.pointer (some ⟨g3, 0, none⟩)) (fun _ => Kxf h3 0) (Rp (.pointer (some ⟨g3, 6, none⟩)) (fun _ => Kxf h3 6) ?_)))))))))
    by_cases c31 : (a.inn i) = true
    ·refine Rs KbT (Kxl m30.cel i ((stY_in _ (by omega)).trans (congrArg Value.bool c31))) ?_
     refine KRq KbT (Rk (by rfl) (Rk (by rfl) (Rk (by rfl) (Rk (by rfl) (KRq KbT (Rp (.pointer (some ⟨g3, i, none⟩)) (fun _ => Kxj 6 1) ?_))))))
     by_cases c41 : (a.left i) = true
     ·refine Rs KbT (Kxl m30.cel (i + 6) ((stY_left _ (by omega) (by omega)).trans (congrArg Value.bool c41))) ?_
      refine KRq KbT (Rk (by rfl) (Rk (by rfl) (Rk (by rfl) (Rk (by rfl) (KRq KbT (KRk (KLs m32 i KbT fun w10 m33 s10 z6 => ?_)))))))
      have m34 : Blk w10 g3 20 (stY (JM1 a b i)) 29 := m33.congr (J_in (by omega) (by rw [c31]; rfl))
      have m35 := m30.stp s10 (by omega)
      have m36 := m31.stp s10 (by omega)
      have b11 := s10.below b10 b10.size (by omega)
      refine Ln ⟨Fx.Chg.of_stp s10, ?_⟩
      refine Rp (.pointer (some ⟨g3, i + 6, none⟩)) (fun _ => Kxj 6 1) (KRk (KLs m34 (i + 6) KbT fun w11 m37 s11 z7 => ?_))
      have m38 : Blk w11 g3 20 (stY (JM a b (i + 1))) 29 := m37.congr (J_left (by omega) (by omega) (by rw [c41]; rfl))
      have m39 := m35.stp s11 (by omega)
      have m40 := m36.stp s11 (by omega)
      have b12 := s11.below b11 b11.size (by omega)
      refine Ln ⟨Fx.Chg.of_stp s11, ?_⟩
      refine Rn (blkN (sN (Wl (Lv (Ki6 ((i : Int) + 1)) (KxP (hx := h4)) ?_))))
      refine KLq (Ki6 ((i : Int) + 1)) (Ln (lpN ⟨i + 1, by omega, h1, h2, h3, (by first | rfl | exact congrArg (Value.int .i64) (by omega)), m39, m40, m38, b12⟩ ?_))
      show (6 - (intOf ((.int .i64 ((i : Int) + 1)))).toNat) < _
      simp only [h4, intOf]; omega
     rw [Bool.not_eq_true] at c41
     refine Rs KbF (Kxl m30.cel (i + 6) ((stY_left _ (by omega) (by omega)).trans (congrArg Value.bool c41))) ?_
     refine KRq KbF (KRq (Ki6 i) (Rp (.pointer (some ⟨g2, 6, none⟩)) (fun _ => Kxf h2 6) (Rp (.pointer (some ⟨g2, i + 6, none⟩)) (fun _ => Kxj 6 1) ?_)))
     by_cases c46 : (b.left i) = true
     ·refine Rd (v := .bool true) (by rfl) (by rfl) (gRf _ _) (fun v1 hv1 => x_load1 (x := stY (stS b bna bnc bga bgc)) rfl rfl (by kernel_rfl) (m31.chg hv1 (show ¬ (g2 = g3) by omega)).cel (i := i + 6) (by omega) (by omega) ((stY_left _ (by omega) (by omega)).trans (congrArg Value.bool c46))) ?_
      refine KRq KbT (KRk (KLs m32 i KbT fun w12 m41 s12 z8 => ?_))
      have m42 : Blk w12 g3 20 (stY (JM1 a b i)) 29 := m41.congr (J_in (by omega) (by rw [c31]; rfl))
      have m43 := m30.stp s12 (by omega)
      have m44 := m31.stp s12 (by omega)
      have b13 := s12.below b10 b10.size (by omega)
      refine Ln ⟨Fx.Chg.of_stp s12, ?_⟩
      refine Rp (.pointer (some ⟨g3, i + 6, none⟩)) (fun _ => Kxj 6 1) (KRk (KLs m42 (i + 6) KbT fun w13 m45 s13 z9 => ?_))
      have m46 : Blk w13 g3 20 (stY (JM a b (i + 1))) 29 := m45.congr (J_left (by omega) (by omega) (by rw [c41, c46]; rfl))
      have m47 := m43.stp s13 (by omega)
      have m48 := m44.stp s13 (by omega)
      have b14 := s13.below b13 b13.size (by omega)
      refine Ln ⟨Fx.Chg.of_stp s13, ?_⟩
      refine Rn (blkN (sN (Wl (Lv (Ki6 ((i : Int) + 1)) (KxP (hx := h4)) ?_))))
      refine KLq (Ki6 ((i : Int) + 1)) (Ln (lpN ⟨i + 1, by omega, h1, h2, h3, (by first | rfl | exact congrArg (Value.int .i64) (by omega)), m47, m48, m46, b14⟩ ?_))
      show (6 - (intOf ((.int .i64 ((i : Int) + 1)))).toNat) < _
      simp only [h4, intOf]; omega
     rw [Bool.not_eq_true] at c46
     refine Rd (v := .bool false) (by rfl) (by rfl) (gRf _ _) (fun v1 hv1 => x_load1 (x := stY (stS b bna bnc bga bgc)) rfl rfl (by kernel_rfl) (m31.chg hv1 (show ¬ (g2 = g3) by omega)).cel (i := i + 6) (by omega) (by omega) ((stY_left _ (by omega) (by omega)).trans (congrArg Value.bool c46))) ?_
     refine KRq KbF (KRk (KLs m32 i KbT fun w14 m49 s14 z10 => ?_))
     have m50 : Blk w14 g3 20 (stY (JM1 a b i)) 29 := m49.congr (J_in (by omega) (by rw [c31]; rfl))
     have m51 := m30.stp s14 (by omega)
     have m52 := m31.stp s14 (by omega)
     have b15 := s14.below b10 b10.size (by omega)
     refine Ln ⟨Fx.Chg.of_stp s14, ?_⟩
     refine Rp (.pointer (some ⟨g3, i + 6, none⟩)) (fun _ => Kxj 6 1) (KRk (KLs m50 (i + 6) KbF fun w15 m53 s15 z11 => ?_))
     have m54 : Blk w15 g3 20 (stY (JM a b (i + 1))) 29 := m53.congr (J_left (by omega) (by omega) (by rw [c41, c46]; rfl))
     have m55 := m51.stp s15 (by omega)
     have m56 := m52.stp s15 (by omega)
     have b16 := s15.below b15 b15.size (by omega)
     refine Ln ⟨Fx.Chg.of_stp s15, ?_⟩
     refine Rn (blkN (sN (Wl (Lv (Ki6 ((i : Int) + 1)) (KxP (hx := h4)) ?_))))
     refine KLq (Ki6 ((i : Int) + 1)) (Ln (lpN ⟨i + 1, by omega, h1, h2, h3, (by first | rfl | exact congrArg (Value.int .i64) (by omega)), m55, m56, m54, b16⟩ ?_))
     show (6 - (intOf ((.int .i64 ((i : Int) + 1)))).toNat) < _
     simp only [h4, intOf]; omega
    rw [Bool.not_eq_true] at c31
    refine Rs KbF (Kxl m30.cel i ((stY_in _ (by omega)).trans (congrArg Value.bool c31))) ?_
    refine KRq KbF (KRq (Ki6 i) (Rp (.pointer (some ⟨g2, 0, none⟩)) (fun _ => Kxf h2 0) (Rp (.pointer (some ⟨g2, i, none⟩)) (fun _ => Kxj 6 1) ?_)))
    by_cases c36 : (b.inn i) = true
    ·refine Rs KbT (Kxl m31.cel i ((stY_in _ (by omega)).trans (congrArg Value.bool c36))) ?_
     refine KRq KbT (Rp (.pointer (some ⟨g3, i, none⟩)) (fun _ => Kxj 6 1) ?_)
     by_cases c41 : (a.left i) = true
     ·refine Rs KbT (Kxl m30.cel (i + 6) ((stY_left _ (by omega) (by omega)).trans (congrArg Value.bool c41))) ?_
      refine KRq KbT (Rk (by rfl) (Rk (by rfl) (Rk (by rfl) (Rk (by rfl) (KRq KbT (KRk (KLs m32 i KbT fun w16 m57 s16 z12 => ?_)))))))
      have m58 : Blk w16 g3 20 (stY (JM1 a b i)) 29 := m57.congr (J_in (by omega) (by rw [c31, c36]; rfl))
      have m59 := m30.stp s16 (by omega)
      have m60 := m31.stp s16 (by omega)
      have b17 := s16.below b10 b10.size (by omega)
      refine Ln ⟨Fx.Chg.of_stp s16, ?_⟩
      refine Rp (.pointer (some ⟨g3, i + 6, none⟩)) (fun _ => Kxj 6 1) (KRk (KLs m58 (i + 6) KbT fun w17 m61 s17 z13 => ?_))
      have m62 : Blk w17 g3 20 (stY (JM a b (i + 1))) 29 := m61.congr (J_left (by omega) (by omega) (by rw [c41]; rfl))
      have m63 := m59.stp s17 (by omega)
      have m64 := m60.stp s17 (by omega)
      have b18 := s17.below b17 b17.size (by omega)
      refine Ln ⟨Fx.Chg.of_stp s17, ?_⟩
      refine Rn (blkN (sN (Wl (Lv (Ki6 ((i : Int) + 1)) (KxP (hx := h4)) ?_))))
      refine KLq (Ki6 ((i : Int) + 1)) (Ln (lpN ⟨i + 1, by omega, h1, h2, h3, (by first | rfl | exact congrArg (Value.int .i64) (by omega)), m63, m64, m62, b18⟩ ?_))
      show (6 - (intOf ((.int .i64 ((i : Int) + 1)))).toNat) < _
      simp only [h4, intOf]; omega
     rw [Bool.not_eq_true] at c41
     refine Rs KbF (Kxl m30.cel (i + 6) ((stY_left _ (by omega) (by omega)).trans (congrArg Value.bool c41))) ?_
     refine KRq KbF (KRq (Ki6 i) (Rp (.pointer (some ⟨g2, 6, none⟩)) (fun _ => Kxf h2 6) (Rp (.pointer (some ⟨g2, i + 6, none⟩)) (fun _ => Kxj 6 1) ?_)))
     by_cases c46 : (b.left i) = true
     ·refine Rd (v := .bool true) (by rfl) (by rfl) (gRf _ _) (fun v1 hv1 => x_load1 (x := stY (stS b bna bnc bga bgc)) rfl rfl (by kernel_rfl) (m31.chg hv1 (show ¬ (g2 = g3) by omega)).cel (i := i + 6) (by omega) (by omega) ((stY_left _ (by omega) (by omega)).trans (congrArg Value.bool c46))) ?_
      refine KRq KbT (KRk (KLs m32 i KbT fun w18 m65 s18 z14 => ?_))
      have m66 : Blk w18 g3 20 (stY (JM1 a b i)) 29 := m65.congr (J_in (by omega) (by rw [c31, c36]; rfl))
      have m67 := m30.stp s18 (by omega)
      have m68 := m31.stp s18 (by omega)
      have b19 := s18.below b10 b10.size (by omega)
      refine Ln ⟨Fx.Chg.of_stp s18, ?_⟩
      refine Rp (.pointer (some ⟨g3, i + 6, none⟩)) (fun _ => Kxj 6 1) (KRk (KLs m66 (i + 6) KbT fun w19 m69 s19 z15 => ?_))
      have m70 : Blk w19 g3 20 (stY (JM a b (i + 1))) 29 := m69.congr (J_left (by omega) (by omega) (by rw [c41, c46]; rfl))
      have m71 := m67.stp s19 (by omega)
      have m72 := m68.stp s19 (by omega)
      have b20 := s19.below b19 b19.size (by omega)
      refine Ln ⟨Fx.Chg.of_stp s19, ?_⟩
      refine Rn (blkN (sN (Wl (Lv (Ki6 ((i : Int) + 1)) (KxP (hx := h4)) ?_))))
      refine KLq (Ki6 ((i : Int) + 1)) (Ln (lpN ⟨i + 1, by omega, h1, h2, h3, (by first | rfl | exact congrArg (Value.int .i64) (by omega)), m71, m72, m70, b20⟩ ?_))
      show (6 - (intOf ((.int .i64 ((i : Int) + 1)))).toNat) < _
      simp only [h4, intOf]; omega
     rw [Bool.not_eq_true] at c46
     refine Rd (v := .bool false) (by rfl) (by rfl) (gRf _ _) (fun v1 hv1 => x_load1 (x := stY (stS b bna bnc bga bgc)) rfl rfl (by kernel_rfl) (m31.chg hv1 (show ¬ (g2 = g3) by omega)).cel (i := i + 6) (by omega) (by omega) ((stY_left _ (by omega) (by omega)).trans (congrArg Value.bool c46))) ?_
     refine KRq KbF (KRk (KLs m32 i KbT fun w20 m73 s20 z16 => ?_))
     have m74 : Blk w20 g3 20 (stY (JM1 a b i)) 29 := m73.congr (J_in (by omega) (by rw [c31, c36]; rfl))
     have m75 := m30.stp s20 (by omega)
     have m76 := m31.stp s20 (by omega)
     have b21 := s20.below b10 b10.size (by omega)
     refine Ln ⟨Fx.Chg.of_stp s20, ?_⟩
     refine Rp (.pointer (some ⟨g3, i + 6, none⟩)) (fun _ => Kxj 6 1) (KRk (KLs m74 (i + 6) KbF fun w21 m77 s21 z17 => ?_))
     have m78 : Blk w21 g3 20 (stY (JM a b (i + 1))) 29 := m77.congr (J_left (by omega) (by omega) (by rw [c41, c46]; rfl))
     have m79 := m75.stp s21 (by omega)
     have m80 := m76.stp s21 (by omega)
     have b22 := s21.below b21 b21.size (by omega)
     refine Ln ⟨Fx.Chg.of_stp s21, ?_⟩
     refine Rn (blkN (sN (Wl (Lv (Ki6 ((i : Int) + 1)) (KxP (hx := h4)) ?_))))
     refine KLq (Ki6 ((i : Int) + 1)) (Ln (lpN ⟨i + 1, by omega, h1, h2, h3, (by first | rfl | exact congrArg (Value.int .i64) (by omega)), m79, m80, m78, b22⟩ ?_))
     show (6 - (intOf ((.int .i64 ((i : Int) + 1)))).toNat) < _
     simp only [h4, intOf]; omega
    rw [Bool.not_eq_true] at c36
    refine Rs KbF (Kxl m31.cel i ((stY_in _ (by omega)).trans (congrArg Value.bool c36))) ?_
    refine KRq KbF (Rp (.pointer (some ⟨g3, i, none⟩)) (fun _ => Kxj 6 1) ?_)
    by_cases c41 : (a.left i) = true
    ·refine Rs KbT (Kxl m30.cel (i + 6) ((stY_left _ (by omega) (by omega)).trans (congrArg Value.bool c41))) ?_
     refine KRq KbT (Rk (by rfl) (Rk (by rfl) (Rk (by rfl) (Rk (by rfl) (KRq KbT (KRk (KLs m32 i KbF fun w22 m81 s22 z18 => ?_)))))))
     have m82 : Blk w22 g3 20 (stY (JM1 a b i)) 29 := m81.congr (J_in (by omega) (by rw [c31, c36]; rfl))
     have m83 := m30.stp s22 (by omega)
     have m84 := m31.stp s22 (by omega)
     have b23 := s22.below b10 b10.size (by omega)
     refine Ln ⟨Fx.Chg.of_stp s22, ?_⟩
     refine Rp (.pointer (some ⟨g3, i + 6, none⟩)) (fun _ => Kxj 6 1) (KRk (KLs m82 (i + 6) KbT fun w23 m85 s23 z19 => ?_))
     have m86 : Blk w23 g3 20 (stY (JM a b (i + 1))) 29 := m85.congr (J_left (by omega) (by omega) (by rw [c41]; rfl))
     have m87 := m83.stp s23 (by omega)
     have m88 := m84.stp s23 (by omega)
     have b24 := s23.below b23 b23.size (by omega)
     refine Ln ⟨Fx.Chg.of_stp s23, ?_⟩
     refine Rn (blkN (sN (Wl (Lv (Ki6 ((i : Int) + 1)) (KxP (hx := h4)) ?_))))
     refine KLq (Ki6 ((i : Int) + 1)) (Ln (lpN ⟨i + 1, by omega, h1, h2, h3, (by first | rfl | exact congrArg (Value.int .i64) (by omega)), m87, m88, m86, b24⟩ ?_))
     show (6 - (intOf ((.int .i64 ((i : Int) + 1)))).toNat) < _
     simp only [h4, intOf]; omega
    rw [Bool.not_eq_true] at c41
    refine Rs KbF (Kxl m30.cel (i + 6) ((stY_left _ (by omega) (by omega)).trans (congrArg Value.bool c41))) ?_
    refine KRq KbF (KRq (Ki6 i) (Rp (.pointer (some ⟨g2, 6, none⟩)) (fun _ => Kxf h2 6) (Rp (.pointer (some ⟨g2, i + 6, none⟩)) (fun _ => Kxj 6 1) ?_)))
    by_cases c46 : (b.left i) = true
    ·refine Rd (v := .bool true) (by rfl) (by rfl) (gRf _ _) (fun v1 hv1 => x_load1 (x := stY (stS b bna bnc bga bgc)) rfl rfl (by kernel_rfl) (m31.chg hv1 (show ¬ (g2 = g3) by omega)).cel (i := i + 6) (by omega) (by omega) ((stY_left _ (by omega) (by omega)).trans (congrArg Value.bool c46))) ?_
     refine KRq KbT (KRk (KLs m32 i KbF fun w24 m89 s24 z20 => ?_))
     have m90 : Blk w24 g3 20 (stY (JM1 a b i)) 29 := m89.congr (J_in (by omega) (by rw [c31, c36]; rfl))
     have m91 := m30.stp s24 (by omega)
     have m92 := m31.stp s24 (by omega)
     have b25 := s24.below b10 b10.size (by omega)
     refine Ln ⟨Fx.Chg.of_stp s24, ?_⟩
     refine Rp (.pointer (some ⟨g3, i + 6, none⟩)) (fun _ => Kxj 6 1) (KRk (KLs m90 (i + 6) KbT fun w25 m93 s25 z21 => ?_))
     have m94 : Blk w25 g3 20 (stY (JM a b (i + 1))) 29 := m93.congr (J_left (by omega) (by omega) (by rw [c41, c46]; rfl))
     have m95 := m91.stp s25 (by omega)
     have m96 := m92.stp s25 (by omega)
     have b26 := s25.below b25 b25.size (by omega)
     refine Ln ⟨Fx.Chg.of_stp s25, ?_⟩
     refine Rn (blkN (sN (Wl (Lv (Ki6 ((i : Int) + 1)) (KxP (hx := h4)) ?_))))
     refine KLq (Ki6 ((i : Int) + 1)) (Ln (lpN ⟨i + 1, by omega, h1, h2, h3, (by first | rfl | exact congrArg (Value.int .i64) (by omega)), m95, m96, m94, b26⟩ ?_))
     show (6 - (intOf ((.int .i64 ((i : Int) + 1)))).toNat) < _
     simp only [h4, intOf]; omega
    rw [Bool.not_eq_true] at c46
    refine Rd (v := .bool false) (by rfl) (by rfl) (gRf _ _) (fun v1 hv1 => x_load1 (x := stY (stS b bna bnc bga bgc)) rfl rfl (by kernel_rfl) (m31.chg hv1 (show ¬ (g2 = g3) by omega)).cel (i := i + 6) (by omega) (by omega) ((stY_left _ (by omega) (by omega)).trans (congrArg Value.bool c46))) ?_
    refine KRq KbF (KRk (KLs m32 i KbF fun w26 m97 s26 z22 => ?_))
    have m98 : Blk w26 g3 20 (stY (JM1 a b i)) 29 := m97.congr (J_in (by omega) (by rw [c31, c36]; rfl))
    have m99 := m30.stp s26 (by omega)
    have m100 := m31.stp s26 (by omega)
    have b27 := s26.below b10 b10.size (by omega)
    refine Ln ⟨Fx.Chg.of_stp s26, ?_⟩
    refine Rp (.pointer (some ⟨g3, i + 6, none⟩)) (fun _ => Kxj 6 1) (KRk (KLs m98 (i + 6) KbF fun w27 m101 s27 z23 => ?_))
    have m102 : Blk w27 g3 20 (stY (JM a b (i + 1))) 29 := m101.congr (J_left (by omega) (by omega) (by rw [c41, c46]; rfl))
    have m103 := m99.stp s27 (by omega)
    have m104 := m100.stp s27 (by omega)
    have b28 := s27.below b27 b27.size (by omega)
    refine Ln ⟨Fx.Chg.of_stp s27, ?_⟩
    refine Rn (blkN (sN (Wl (Lv (Ki6 ((i : Int) + 1)) (KxP (hx := h4)) ?_))))
    refine KLq (Ki6 ((i : Int) + 1)) (Ln (lpN ⟨i + 1, by omega, h1, h2, h3, (by first | rfl | exact congrArg (Value.int .i64) (by omega)), m103, m104, m102, b28⟩ ?_))
    show (6 - (intOf ((.int .i64 ((i : Int) + 1)))).toNat) < _
    simp only [h4, intOf]; omega
   refine Lv KbF (KltF c24 (hx := h4)) (KLe (Ws (KWcF (Wx (seqX (lpX (blkX (sN (Ws (Ws ?_))))))))))
   have m105 : Blk w9 g3 20 (stY (JM a b 6)) 29 := by have q9 := m29; rw [show i = 6 by omega] at q9; exact q9
   refine Wl (Lv (.pointer (some ⟨g1, 18, none⟩)) (Kxf h1 18) (Lv (.slice ana (a.ns.length) (anc)) (Kxl m27.cel 18) (Lv (.pointer (some ⟨g2, 18, none⟩)) (Kxf h2 18) (Lv (.slice bna (b.ns.length) (bnc)) (Kxl m28.cel 18) (KLc (s_mergeN ana bna anc bnc a.ns b.ns _ ha.l1 hb.l1 (ha.up b9).n (hb.up b9).n ha.c1 hb.c1) ?_)))))
   intro e9 w28 hor; rcases hor with ⟨e9n, he, hb4⟩ | ⟨l9, alN, clN, e9n, he, hm1, hb4⟩
   ·refine ⟨_, he, ?_⟩
    clear he
    have ⟨m106, m107, m108, b29⟩ := KTk4 hb4 m27 m28 m105 b9
    refine KLq (.tuple #[.slice none 0 0, .int .i64 (9)]) (KLq (.slice none 0 0) (KLq (Ki6 9) (Lv (.pointer (some ⟨g3, 18, none⟩)) (Kxf h3 18) (KLs m108 18 (.slice none 0 0) fun w29 m109 s29 z24 => ?_))))
    have m110 : Blk w29 g3 20 (stY (JM2 a b none 0 0)) 29 := m109.congr J_ns
    have m111 := m106.stp s29 (by omega)
    have m112 := m107.stp s29 (by omega)
    have b30 := s29.below b29 b29.size (by omega)
    refine KLq (Ki6 9) (KLe (KWsl (KLq (Ki6 9) (Lv KbT KneTo (KLe (KWcT (KWsl (KLq (.agg (varr 20 (fun i => (#[.bool false, .bool false, .bool false, .bool false, .bool false, .bool false, .bool false, .bool false, .bool false, .bool false, .bool false, .bool false, .int .u64 (0), .int .u64 (0), .int .u64 (0), .int .u64 (0), .int .u64 (0), .int .u64 (0), .slice none 0 0, .slice none 0 0] : Array Value).getD i undef))) (KLq (Ki6 9) (KLsA m110 0 (ha := h3) (h1 := (by exact fun j hj => match j, hj with | 0, _ => rfl | 1, _ => rfl | 2, _ => rfl | 3, _ => rfl | 4, _ => rfl | 5, _ => rfl | 6, _ => rfl | 7, _ => rfl | 8, _ => rfl | 9, _ => rfl | 10, _ => rfl | 11, _ => rfl | 12, _ => rfl | 13, _ => rfl | 14, _ => rfl | 15, _ => rfl | 16, _ => rfl | 17, _ => rfl | 18, _ => rfl | 19, _ => rfl | j + 20, h => absurd h (by omega))) fun w30 m113 s30 z25 => ?_))))))))))
    have m114 : Blk w30 g3 20 (fun i => (#[.bool false, .bool false, .bool false, .bool false, .bool false, .bool false, .bool false, .bool false, .bool false, .bool false, .bool false, .bool false, .int .u64 (0), .int .u64 (0), .int .u64 (0), .int .u64 (0), .int .u64 (0), .int .u64 (0), .slice none 0 0, .slice none 0 0] : Array Value).getD i undef) 29 := ovr_all m113
    have m115 : Blk w30 g3 20 (stY mz) 29 := m114.congr (fun j hj => match j, hj with | 0, _ => rfl | 1, _ => rfl | 2, _ => rfl | 3, _ => rfl | 4, _ => rfl | 5, _ => rfl | 6, _ => rfl | 7, _ => rfl | 8, _ => rfl | 9, _ => rfl | 10, _ => rfl | 11, _ => rfl | 12, _ => rfl | 13, _ => rfl | 14, _ => rfl | 15, _ => rfl | 16, _ => rfl | 17, _ => rfl | 18, _ => rfl | 19, _ => rfl | j + 20, h => absurd h (by omega))
    have m116 := m111.stp s30 (by omega)
    have m117 := m112.stp s30 (by omega)
    have b31 := s30.below b30 b30.size (by omega)
    refine KLq (Ki6 9) (KLe (Wr (sR (⟨.tuple #[.agg (varr 20 (stY mz)), .int .i64 (9)], retV2 Try.results8 ⟨_, h3, run_loadV m115.cel (by kernel_rfl) (by kernel_rfl)⟩ (by exact rfl), ?_⟩))))
    rw [jS_n c8 c12 e9n]
    exact ⟨none, 0, none, 0, rfl, oNl _ _ _ _ _, oNl _ _ _ _ _, b31⟩
   refine ⟨_, he, ?_⟩
   clear he
   have ⟨m118, m119, m120, b32⟩ := KTk4 hb4 m27 m28 m105 b9
   have m121 : Fx.Own w28 w.heap.size 50 56 (.slice alN (l9.length) (clN)) l9.length (ndsX l9) := hm1.mono b9.size
   refine KLq (.tuple #[.slice alN (l9.length) (clN), .int .i64 (0)]) (KLq (.slice alN (l9.length) (clN)) (KLq (Ki6 0) (Lv (.pointer (some ⟨g3, 18, none⟩)) (Kxf h3 18) (KLs m120 18 (.slice alN (l9.length) (clN)) fun w32 m122 s32 z26 => ?_))))
   have m123 : Blk w32 g3 20 (stY (JM2 a b alN l9.length clN)) 29 := m122.congr J_ns
   have m124 := m118.stp s32 (by omega)
   have m125 := m119.stp s32 (by omega)
   have hct2 := cOs s32 m120.ty
   have m126 := KCk1 hct2 m121
   have b33 := s32.below b32 b32.size (by omega)
   refine KLq (Ki6 0) (KLe (KWsl (KLq (Ki6 0) (Lv KbF KneFo (KLe (KWcF (Wk (sN (Ws (KWsl (Lv (.pointer (some ⟨g1, 19, none⟩)) (Kxf h1 19) (Lv (.slice aga (a.gs.length) (agc)) (Kxl m124.cel 19) (Lv (.pointer (some ⟨g2, 19, none⟩)) (Kxf h2 19) (Lv (.slice bga (b.gs.length) (bgc)) (Kxl m125.cel 19) (KLc (s_mergeG aga bga agc bgc a.gs b.gs _ ha.l2 hb.l2 (ha.up b33).g (hb.up b33).g ha.c2 hb.c2 ha.b0 hb.b0) ?_)))))))))))))))
   intro e9 w33 hor; rcases hor with ⟨e9g, he, hb6⟩ | ⟨g9, alG, clG, e9g, he, hm3, hb6⟩
   ·refine ⟨_, he, ?_⟩
    clear he
    have ⟨m127, m128, m130, b34⟩ := KTk4 hb6 m124 m125 m123 b33
    refine KLq (.tuple #[.slice none 0 0, .int .i64 (14)]) (KLq (.slice none 0 0) (KLq (Ki6 14) (Lv (.pointer (some ⟨g3, 19, none⟩)) (Kxf h3 19) (KLs m130 19 (.slice none 0 0) fun w34 m131 s34 z27 => ?_))))
    have m132 : Blk w34 g3 20 (stY (JM3 a b alN l9.length clN none 0 0)) 29 := m131.congr J_gs
    have m133 := m127.stp s34 (by omega)
    have m134 := m128.stp s34 (by omega)
    have b35 := s34.below b34 b34.size (by omega)
    refine KLq (Ki6 14) (KLe (KWsl (KLq (Ki6 14) (Lv KbT KneTo (KLe (KWcT (KWsl (KLq (.agg (varr 20 (fun i => (#[.bool false, .bool false, .bool false, .bool false, .bool false, .bool false, .bool false, .bool false, .bool false, .bool false, .bool false, .bool false, .int .u64 (0), .int .u64 (0), .int .u64 (0), .int .u64 (0), .int .u64 (0), .int .u64 (0), .slice none 0 0, .slice none 0 0] : Array Value).getD i undef))) (KLq (Ki6 14) (KLsA m132 0 (ha := h3) (h1 := (by exact fun j hj => match j, hj with | 0, _ => rfl | 1, _ => rfl | 2, _ => rfl | 3, _ => rfl | 4, _ => rfl | 5, _ => rfl | 6, _ => rfl | 7, _ => rfl | 8, _ => rfl | 9, _ => rfl | 10, _ => rfl | 11, _ => rfl | 12, _ => rfl | 13, _ => rfl | 14, _ => rfl | 15, _ => rfl | 16, _ => rfl | 17, _ => rfl | 18, _ => rfl | 19, _ => rfl | j + 20, h => absurd h (by omega))) fun w35 m136 s35 z28 => ?_))))))))))
    have m137 : Blk w35 g3 20 (fun i => (#[.bool false, .bool false, .bool false, .bool false, .bool false, .bool false, .bool false, .bool false, .bool false, .bool false, .bool false, .bool false, .int .u64 (0), .int .u64 (0), .int .u64 (0), .int .u64 (0), .int .u64 (0), .int .u64 (0), .slice none 0 0, .slice none 0 0] : Array Value).getD i undef) 29 := ovr_all m136
    have m138 : Blk w35 g3 20 (stY mz) 29 := m137.congr (fun j hj => match j, hj with | 0, _ => rfl | 1, _ => rfl | 2, _ => rfl | 3, _ => rfl | 4, _ => rfl | 5, _ => rfl | 6, _ => rfl | 7, _ => rfl | 8, _ => rfl | 9, _ => rfl | 10, _ => rfl | 11, _ => rfl | 12, _ => rfl | 13, _ => rfl | 14, _ => rfl | 15, _ => rfl | 16, _ => rfl | 17, _ => rfl | 18, _ => rfl | 19, _ => rfl | j + 20, h => absurd h (by omega))
    have m139 := m133.stp s35 (by omega)
    have m140 := m134.stp s35 (by omega)
    have b36 := s35.below b35 b35.size (by omega)
    refine KLq (Ki6 14) (KLe (Wr (sR (⟨.tuple #[.agg (varr 20 (stY mz)), .int .i64 (14)], retV2 Try.results8 ⟨_, h3, run_loadV m138.cel (by kernel_rfl) (by kernel_rfl)⟩ (by exact rfl), ?_⟩))))
    rw [jS_g c8 c12 e9n e9g]
    exact ⟨none, 0, none, 0, rfl, oNl _ _ _ _ _, oNl _ _ _ _ _, b36⟩
   refine ⟨_, he, ?_⟩
   clear he
   have ⟨m142, m143, m144, m145, b37⟩ := KTk5 hb6 m124 m125 m126 m123 b33
   have m146 : Fx.Own w33 w.heap.size 59 5 (.slice alG (g9.length) (clG)) g9.length (grsX g9) := hm3.mono b33.size
   refine KLq (.tuple #[.slice alG (g9.length) (clG), .int .i64 (0)]) (KLq (.slice alG (g9.length) (clG)) (KLq (Ki6 0) (Lv (.pointer (some ⟨g3, 19, none⟩)) (Kxf h3 19) (KLs m145 19 (.slice alG (g9.length) (clG)) fun w37 m147 s37 z29 => ?_))))
   have m148 : Blk w37 g3 20 (stY (JM3 a b alN l9.length clN alG g9.length clG)) 29 := m147.congr J_gs
   have m149 := m142.stp s37 (by omega)
   have m150 := m143.stp s37 (by omega)
   have hct5 := cOs s37 m145.ty
   have ⟨m151, m152⟩ := KCk2 hct5 m144 m146
   have b38 := s37.below b37 b37.size (by omega)
   refine KLq (Ki6 0) (KLe (KWsl (KLq (Ki6 0) (Lv KbF KneFo (KLe (KWcF (Wk (sN (Ws (KWsl (Lv (.agg (varr 20 (stY (JM3 a b alN l9.length clN alG g9.length clG)))) (KxA m148.cel 0 (ha := h3)) ?_)))))))))))
   by_cases c80 : (mayS (joinR a b l9 g9)) = true
   ·refine KLc1 ((s_may (joinR a b l9 g9) alN clN alG clG _ (joinR_r ha.r hb.r e9n e9g).k (by have := mergeN_len e9n; have := (mayS_iff.1 c8).nn; have := (mayS_iff.1 c12).nn; show l9.length ≤ 1000000; omega) (by have := mergeG_len e9g; have := (mayS_iff.1 c8).gn; have := (mayS_iff.1 c12).gn; show g9.length ≤ 1000000; omega) m151.arr m152.arr)) KbT (by rw [c80]) ?_
    intro w38 hb8
    have ⟨m153, m154, m155, m156, m157, b39⟩ := KTk6 hb8 m149 m150 m151 m152 m148 b38
    refine KLq KbF (KLe (KWcF (Wk (sN (KWsl (Lv (.agg (varr 20 (stY (JM3 a b alN l9.length clN alG g9.length clG)))) (KxA m157.cel 0 (ha := h3)) (KLsA m157 0 (ha := h3) (h1 := (fun j _ => stY_one _ j)) fun w39 m158 s39 z30 => ?_)))))))
    have m159 : Blk w39 g3 20 (stY (JM3 a b alN l9.length clN alG g9.length clG)) 29 := ovr_all m158
    have m161 := m153.stp s39 (by omega)
    have m162 := m154.stp s39 (by omega)
    have hct6 := cOs s39 m157.ty
    have ⟨m163, m164⟩ := KCk2 hct6 m155 m156
    have b40 := s39.below b39 b39.size (by omega)
    refine KLq (Ki6 0) (KLe (Wr (⟨.tuple #[.agg (varr 20 (stY (JM3 a b alN l9.length clN alG g9.length clG))), .int .i64 (0)], retV2 Try.results8 ⟨_, h3, run_loadV m159.cel (by kernel_rfl) (by kernel_rfl)⟩ (by exact rfl), ?_⟩)))
    rw [jS_y c8 c12 e9n e9g c80]
    exact ⟨alN, clN, alG, clG, by rw [Fx.varr_congr (J_end (a := a) (b := b) (l := l9) (g := g9))], m163, m164, b40⟩
   rw [Bool.not_eq_true] at c80
   refine KLc1 ((s_may (joinR a b l9 g9) alN clN alG clG _ (joinR_r ha.r hb.r e9n e9g).k (by have := mergeN_len e9n; have := (mayS_iff.1 c8).nn; have := (mayS_iff.1 c12).nn; show l9.length ≤ 1000000; omega) (by have := mergeG_len e9g; have := (mayS_iff.1 c8).gn; have := (mayS_iff.1 c12).gn; show g9.length ≤ 1000000; omega) m151.arr m152.arr)) KbF (by rw [c80]) ?_
   intro w40 hb9
   have ⟨m165, m166, m169, b41⟩ := KTk4 hb9 m149 m150 m148 b38
   refine KLq KbT (KLe (KWcT (KWsl (KLq (.agg (varr 20 (fun i => (#[.bool false, .bool false, .bool false, .bool false, .bool false, .bool false, .bool false, .bool false, .bool false, .bool false, .bool false, .bool false, .int .u64 (0), .int .u64 (0), .int .u64 (0), .int .u64 (0), .int .u64 (0), .int .u64 (0), .slice none 0 0, .slice none 0 0] : Array Value).getD i undef))) (KLsA m169 0 (ha := h3) (h1 := (by exact fun j hj => match j, hj with | 0, _ => rfl | 1, _ => rfl | 2, _ => rfl | 3, _ => rfl | 4, _ => rfl | 5, _ => rfl | 6, _ => rfl | 7, _ => rfl | 8, _ => rfl | 9, _ => rfl | 10, _ => rfl | 11, _ => rfl | 12, _ => rfl | 13, _ => rfl | 14, _ => rfl | 15, _ => rfl | 16, _ => rfl | 17, _ => rfl | 18, _ => rfl | 19, _ => rfl | j + 20, h => absurd h (by omega))) fun w41 m170 s41 z31 => ?_)))))
   have m171 : Blk w41 g3 20 (fun i => (#[.bool false, .bool false, .bool false, .bool false, .bool false, .bool false, .bool false, .bool false, .bool false, .bool false, .bool false, .bool false, .int .u64 (0), .int .u64 (0), .int .u64 (0), .int .u64 (0), .int .u64 (0), .int .u64 (0), .slice none 0 0, .slice none 0 0] : Array Value).getD i undef) 29 := ovr_all m170
   have m172 : Blk w41 g3 20 (stY mz) 29 := m171.congr (fun j hj => match j, hj with | 0, _ => rfl | 1, _ => rfl | 2, _ => rfl | 3, _ => rfl | 4, _ => rfl | 5, _ => rfl | 6, _ => rfl | 7, _ => rfl | 8, _ => rfl | 9, _ => rfl | 10, _ => rfl | 11, _ => rfl | 12, _ => rfl | 13, _ => rfl | 14, _ => rfl | 15, _ => rfl | 16, _ => rfl | 17, _ => rfl | 18, _ => rfl | 19, _ => rfl | j + 20, h => absurd h (by omega))
   have m173 := m165.stp s41 (by omega)
   have m174 := m166.stp s41 (by omega)
   have b42 := s41.below b41 b41.size (by omega)
   refine KLq (Ki6 6) (KLe (Wr (sR (⟨.tuple #[.agg (varr 20 (stY mz)), .int .i64 (6)], retV2 Try.results8 ⟨_, h3, run_loadV m172.cel (by kernel_rfl) (by kernel_rfl)⟩ (by exact rfl), ?_⟩))))
   rw [jS_m c8 c12 e9n e9g c80]
   exact ⟨none, 0, none, 0, rfl, oNl _ _ _ _ _, oNl _ _ _ _ _, b42⟩
  rw [Bool.not_eq_true] at c12
  refine KLc1 (s_may b bna bnc bga bgc _ hb.r.k hb.l1 hb.l2 (hb.up b4).n (hb.up b4).g) KbF (by rw [c12]) ?_
  intro w42 hb10
  have ⟨m177, m178, m179, b43⟩ := KTk4 hb10 m8 m9 m10 b4
  refine KLq KbT (KLq KbT (KLe (KWcT (KWsl (KLq (.agg (varr 20 (fun i => (#[.bool false, .bool false, .bool false, .bool false, .bool false, .bool false, .bool false, .bool false, .bool false, .bool false, .bool false, .bool false, .int .u64 (0), .int .u64 (0), .int .u64 (0), .int .u64 (0), .int .u64 (0), .int .u64 (0), .slice none 0 0, .slice none 0 0] : Array Value).getD i undef))) (KLsA m179 0 (h1 := (by exact fun j hj => match j, hj with | 0, _ => rfl | 1, _ => rfl | 2, _ => rfl | 3, _ => rfl | 4, _ => rfl | 5, _ => rfl | 6, _ => rfl | 7, _ => rfl | 8, _ => rfl | 9, _ => rfl | 10, _ => rfl | 11, _ => rfl | 12, _ => rfl | 13, _ => rfl | 14, _ => rfl | 15, _ => rfl | 16, _ => rfl | 17, _ => rfl | 18, _ => rfl | 19, _ => rfl | j + 20, h => absurd h (by omega))) fun w43 m180 s43 z32 => ?_))))))
  have m181 : Blk w43 g3 20 (fun i => (#[.bool false, .bool false, .bool false, .bool false, .bool false, .bool false, .bool false, .bool false, .bool false, .bool false, .bool false, .bool false, .int .u64 (0), .int .u64 (0), .int .u64 (0), .int .u64 (0), .int .u64 (0), .int .u64 (0), .slice none 0 0, .slice none 0 0] : Array Value).getD i undef) 29 := ovr_all m180
  have m182 : Blk w43 g3 20 (stY mz) 29 := m181.congr (fun j hj => match j, hj with | 0, _ => rfl | 1, _ => rfl | 2, _ => rfl | 3, _ => rfl | 4, _ => rfl | 5, _ => rfl | 6, _ => rfl | 7, _ => rfl | 8, _ => rfl | 9, _ => rfl | 10, _ => rfl | 11, _ => rfl | 12, _ => rfl | 13, _ => rfl | 14, _ => rfl | 15, _ => rfl | 16, _ => rfl | 17, _ => rfl | 18, _ => rfl | 19, _ => rfl | j + 20, h => absurd h (by omega))
  have m183 := m177.stp s43 (by omega)
  have m184 := m178.stp s43 (by omega)
  have b44 := s43.below b43 b43.size (by omega)
  refine KLq (Ki6 1) (KLe (Wr (sR (⟨.tuple #[.agg (varr 20 (stY mz)), .int .i64 (1)], retV2 Try.results8 ⟨_, rfl, run_loadV m182.cel (by kernel_rfl) (by kernel_rfl)⟩ (by exact rfl), ?_⟩))))
  rw [jS_arg (.inr c12)]
  exact ⟨none, 0, none, 0, rfl, oNl _ _ _ _ _, oNl _ _ _ _ _, b44⟩
 rw [Bool.not_eq_true] at c8
 refine KLc1 (s_may a ana anc aga agc _ ha.r.k ha.l1 ha.l2 (ha.up b3).n (ha.up b3).g) KbF (by rw [c8]) ?_
 intro w44 hb11
 have ⟨m185, m186, m187, b45⟩ := KTk4 hb11 m5 m6 m7 b3
 refine KLq KbT (KLq KbT (KLu (KLu (KLu (KLq KbT (KLe (KWcT (KWsl (KLq (.agg (varr 20 (fun i => (#[.bool false, .bool false, .bool false, .bool false, .bool false, .bool false, .bool false, .bool false, .bool false, .bool false, .bool false, .bool false, .int .u64 (0), .int .u64 (0), .int .u64 (0), .int .u64 (0), .int .u64 (0), .int .u64 (0), .slice none 0 0, .slice none 0 0] : Array Value).getD i undef))) (KLsA m187 0 (h1 := (by exact fun j hj => match j, hj with | 0, _ => rfl | 1, _ => rfl | 2, _ => rfl | 3, _ => rfl | 4, _ => rfl | 5, _ => rfl | 6, _ => rfl | 7, _ => rfl | 8, _ => rfl | 9, _ => rfl | 10, _ => rfl | 11, _ => rfl | 12, _ => rfl | 13, _ => rfl | 14, _ => rfl | 15, _ => rfl | 16, _ => rfl | 17, _ => rfl | 18, _ => rfl | 19, _ => rfl | j + 20, h => absurd h (by omega))) fun w45 m188 s45 z33 => ?_))))))))))
 have m189 : Blk w45 g3 20 (fun i => (#[.bool false, .bool false, .bool false, .bool false, .bool false, .bool false, .bool false, .bool false, .bool false, .bool false, .bool false, .bool false, .int .u64 (0), .int .u64 (0), .int .u64 (0), .int .u64 (0), .int .u64 (0), .int .u64 (0), .slice none 0 0, .slice none 0 0] : Array Value).getD i undef) 29 := ovr_all m188
 have m190 : Blk w45 g3 20 (stY mz) 29 := m189.congr (fun j hj => match j, hj with | 0, _ => rfl | 1, _ => rfl | 2, _ => rfl | 3, _ => rfl | 4, _ => rfl | 5, _ => rfl | 6, _ => rfl | 7, _ => rfl | 8, _ => rfl | 9, _ => rfl | 10, _ => rfl | 11, _ => rfl | 12, _ => rfl | 13, _ => rfl | 14, _ => rfl | 15, _ => rfl | 16, _ => rfl | 17, _ => rfl | 18, _ => rfl | 19, _ => rfl | j + 20, h => absurd h (by omega))
 have m191 := m185.stp s45 (by omega)
 have m192 := m186.stp s45 (by omega)
 have b46 := s45.below b45 b45.size (by omega)
 refine KLq (Ki6 1) (KLe (Wr (sR (⟨.tuple #[.agg (varr 20 (stY mz)), .int .i64 (1)], retV2 Try.results8 ⟨_, rfl, run_loadV m190.cel (by kernel_rfl) (by kernel_rfl)⟩ (by exact rfl), ?_⟩))))
 rw [jS_arg (.inl c8)]
 exact ⟨none, 0, none, 0, rfl, oNl _ _ _ _ _, oNl _ _ _ _ _, b46⟩
set_option linter.unusedVariables false
set_option maxRecDepth 20000
namespace Rt
theorem wfu {n : Int} (h : U64r n) : litOf (some .u64) (.int .u64 n) = some (.int .u64 n) := by simp [litOf, Fx.wfu64 h]
theorem wfi {n : Int} (h : I64r n) : litOf (some .i64) (.int .i64 n) = some (.int .i64 n) := by simp [litOf, Fx.wf64 h]
theorem kdB (b : Nat → Bool) : Fx.Kd (List.replicate 6 none) (fun j => .bool (b j)) := fun i hi => ⟨.bool (b i), by rw [List.getElem_replicate]; rfl⟩
theorem ndZ_R (x : NdM) (p : Nat) : ndZ x (p + 2) = Ki6 (x.R p) := by unfold ndZ ndY; rw [if_neg (by omega), if_neg (by omega)]; rfl
theorem kdN {x : NdM} (h : NdR x) : Fx.Kd (some .u64 :: some .u64 :: List.replicate 54 (some .i64)) (ndZ x) := fun i hi => by
  match i, hi with
  | 0, _ => exact ⟨_, wfu h.id⟩
  | 1, _ => exact ⟨_, wfu h.par⟩
  | i + 2, hi =>
    have hi2 : i < 54 := by simp at hi; omega
    have e : (some IntKind.u64 :: some IntKind.u64 :: List.replicate 54 (some IntKind.i64))[i + 2] = some .i64 := by rw [List.getElem_cons_succ, List.getElem_cons_succ, List.getElem_replicate]
    rw [e, ndZ_R]
    exact ⟨_, wfi (h.R i hi2)⟩
theorem kdG {x : GrM} (h : GrR x) : Fx.Kd [some .i64, some .u64, some .u64, some .i64, some .u64] (grZ x) := fun i hi => by
  match i, hi with
  | 0, _ => exact ⟨_, wfi h.o⟩
  | 1, _ => exact ⟨_, wfu h.r⟩
  | 2, _ => exact ⟨_, wfu h.n⟩
  | 3, _ => exact ⟨_, wfi h.a⟩
  | 4, _ => exact ⟨_, wfu h.b⟩
theorem vi {k : IntKind} {a b : Int} (h : Value.int k a = .int k b) : a = b := by injection h
theorem same_nd {x y : NdM} : (∀ i, i < 56 → ndZ x i = ndZ y i) ↔ SameNd x y := by
  constructor
  · intro h
    refine ⟨vi (h 0 (by decide)), vi (h 1 (by decide)), fun p hp => ?_⟩
    have := h (p + 2) (by omega)
    rw [ndZ_R, ndZ_R] at this
    exact vi this
  rintro ⟨h1, h2, h3⟩ i hi
  match i, hi with
  | 0, _ => exact congrArg (Value.int .u64) h1
  | 1, _ => exact congrArg (Value.int .u64) h2
  | p + 2, hi => rw [ndZ_R, ndZ_R, h3 p (by omega)]
theorem same_gr {x y : GrM} : (∀ i, i < 5 → grZ x i = grZ y i) ↔ x = y := by
  constructor
  · intro h
    have h0 := vi (h 0 (by decide)); have h1 := vi (h 1 (by decide)); have h2 := vi (h 2 (by decide)); have h3 := vi (h 3 (by decide)); have h4 := vi (h 4 (by decide))
    cases x; cases y; simp only at h0 h1 h2 h3 h4; rw [h0, h1, h2, h3, h4]
  rintro rfl i hi; rfl
theorem same_u {x y : Nat → Int} : (∀ i, i < 6 → rv .u64 x i = rv .u64 y i) ↔ ∀ i, i < 6 → x i = y i := ⟨fun h i hi => vi (h i hi), fun h i hi => congrArg (Value.int .u64) (h i hi)⟩
theorem same_b {x y : Nat → Bool} : (∀ i, i < 6 → (fun j => Value.bool (x j)) i = (fun j => Value.bool (y j)) i) ↔ ∀ i, i < 6 → x i = y i := ⟨fun h i hi => by have := h i hi; injection this, fun h i hi => congrArg Value.bool (h i hi)⟩
def EqN (a b : List NdM) : Prop := a.length = b.length ∧ ∀ k, k < a.length → SameNd (ndA a k) (ndA b k)
def EqG (a b : List GrM) : Prop := a.length = b.length ∧ ∀ k, k < a.length → grA a k = grA b k
open Classical in
noncomputable def eqN (a b : List NdM) : Bool := decide (EqN a b)
open Classical in
noncomputable def eqG (a b : List GrM) : Bool := decide (EqG a b)
open Classical in
noncomputable def sameS (a b : SnM) : Bool := decide (SameSn a b)
open Classical in
theorem eqN_y {a b : List NdM} (h : EqN a b) : eqN a b = true := decide_eq_true h
open Classical in
theorem eqN_n {a b : List NdM} (h : ¬ EqN a b) : eqN a b = false := decide_eq_false h
open Classical in
theorem eqG_y {a b : List GrM} (h : EqG a b) : eqG a b = true := decide_eq_true h
open Classical in
theorem eqG_n {a b : List GrM} (h : ¬ EqG a b) : eqG a b = false := decide_eq_false h
open Classical in
theorem sameS_y {a b : SnM} (h : SameSn a b) : sameS a b = true := decide_eq_true h
open Classical in
theorem sameS_n {a b : SnM} (h : ¬ SameSn a b) : sameS a b = false := decide_eq_false h
open Classical in
theorem eqN_p {a b : List NdM} (h : eqN a b = true) : EqN a b := of_decide_eq_true h
open Classical in
theorem eqN_q {a b : List NdM} (h : eqN a b = false) : ¬ EqN a b := of_decide_eq_false h
open Classical in
theorem eqG_p {a b : List GrM} (h : eqG a b = true) : EqG a b := of_decide_eq_true h
open Classical in
theorem eqG_q {a b : List GrM} (h : eqG a b = false) : ¬ EqG a b := of_decide_eq_false h
open Classical in
theorem sameS_iff {a b : SnM} : sameS a b = true ↔ SameSn a b := decide_eq_true_iff
open Classical in
theorem lessS_y {a b u : SnM} {ev : Int} (e : joinS a b = (u, ev)) (h0 : ev = 0) (h : SameSn u b) : lessS a b = true := decide_eq_true (by rw [e]; exact ⟨h0, h⟩)
open Classical in
theorem lessS_n {a b u : SnM} {ev : Int} (e : joinS a b = (u, ev)) (h : ¬ (ev = 0 ∧ SameSn u b)) : lessS a b = false := decide_eq_false (by rw [e]; exact h)
theorem joinS_l {a b : SnM} : (joinS a b).1.ns.length ≤ 32 ∧ (joinS a b).1.gs.length ≤ 4096 := by
  unfold joinS
  split
  · exact ⟨Nat.zero_le _, Nat.zero_le _⟩
  split
  · exact ⟨Nat.zero_le _, Nat.zero_le _⟩
  split
  · exact ⟨Nat.zero_le _, Nat.zero_le _⟩
  split
  · rename_i h; exact ⟨h.nn, h.gn⟩
  exact ⟨Nat.zero_le _, Nat.zero_le _⟩
end Rt
theorem s_eqN (aa ba : Option Addr) (cpa cpb : Nat) (la lb : List NdM) (w : World) (hl1 : la.length ≤ 1000000) (hl2 : lb.length ≤ 1000000) (ha : Arr w aa la.length 56 (ndsX la)) (hb : Arr w ba lb.length 56 (ndsX lb)) (ra : ∀ x ∈ la, NdR x) (rb : ∀ x ∈ lb, NdR x) :
    Calls Try.prog 55 #[.slice aa (la.length) (cpa), .slice ba (lb.length) (cpb)] w fun e w' => e = .returned (.bool (eqN la lb)) ∧ Below w.heap.size w w' := by
 refine Kent Try.func55 26 ?_
 refine KWsl (KLq KbF (KLe (Ws (KWsl (KLq (.slice aa (la.length) (cpa)) (KLq (Ki6 la.length) (KLq (.slice ba (lb.length) (cpb)) (KLq (Ki6 lb.length) ?_))))))))
 by_cases c10 : (la.length : Int) = (lb.length : Int)
 ·refine Lv KbF (KneF c10) (KLe (KWcF (Wk (sN (Ws (KWsl (KLq (.slice aa (la.length) (cpa)) (KLq (Ki6 la.length) (KLq (Ki6 0) (KLe (Wb (Wo (fun f w_ => ∃ k : Nat, k ≤ la.length ∧ (∀ q, q < k → SameNd (ndA la q) (ndA lb q)) ∧ f 0 = .slice aa (la.length) (cpa) ∧ f 1 = .slice ba (lb.length) (cpb) ∧ f 12 = Ki6 ((la.length : Int)) ∧ f 13 = Ki6 ((k : Int)) ∧ Below w.heap.size w w_) (fun f _ => (la.length - (intOf (f 13)).toNat)) ⟨0, (Nat.zero_le _), (fun q h => absurd h (by omega)), (by rfl), (by rfl), Fx.ic, Fx.ic, (Below.refl w.heap.size w)⟩ ?_))))))))))))
  rintro f1 w1 ⟨k, hk, hall, h1, h2, h3, h4, b1⟩
  refine KWsl ?_
  by_cases c14 : (k : Int) < (la.length : Int)
  ·refine Lv KbT (KltT c14 (hx := h4) (hy := h3)) (KLe (Ws (KWcT (Wk (sN (Ws (Wb (KWsl (KLh h4 (KLq (Ki6 k) (KLe (Ws ?_))))))))))))
   -- region 6 draws
   refine KWqd (KQh h1 (KQq (Ki6 k) ?_))
   obtain ⟨bq1, oq1, eq1, m1⟩ := (ha.up b1 rfl) (by omega)
   have lbq1 : bq1 < w1.heap.size := m1.lt (by omega)
   refine Qv ((pf bq1 (56 * k + oq1))) (fun v1 hv1 => Kxi 56 (hx := (rfl.trans (congrArg (fun q => Value.slice q (la.length) (cpa)) eq1)))) (Qv (.agg (varr 56 (ndZ (ndA la k)))) (fun v1 hv1 => KxA (m1.dr hv1) (56 * k) (fun jq hjq => Fx.flat_at (k := k) (by omega) hjq)) (KQh h2 (KQq (Ki6 k) ?_)))
   obtain ⟨bq2, oq2, eq2, m2⟩ := (hb.up b1 rfl) (by omega)
   have lbq2 : bq2 < w1.heap.size := m2.lt (by omega)
   refine Qv ((pf bq2 (56 * k + oq2))) (fun v1 hv1 => Kxi 56 (hx := (rfl.trans (congrArg (fun q => Value.slice q (lb.length) (cpb)) eq2)))) (Qv (.agg (varr 56 (ndZ (ndA lb k)))) (fun v1 hv1 => KxA (m2.dr hv1) (56 * k) (fun jq hjq => Fx.flat_at (k := k) (by omega) hjq)) ?_)
   by_cases c24 : ∀ i, i < 56 → (ndZ (ndA la k)) i = (ndZ (ndA lb k)) i
   ·refine Qv KbF (fun v1 hv1 => Fx.x_neqA (n := 56) (ks := ((some .u64) :: (some .u64) :: List.replicate 54 (some .i64))) (X := ndZ (ndA la k)) (Y := ndZ (ndA lb k)) 12 true rfl rfl rfl (Fx.yesb c24) (kdN (ra _ (ndA_mem (by omega)))) (kdN (rb _ (ndA_mem (by omega)))) rfl (by kernel_rfl) (by kernel_rfl) (by kernel_rfl) (by kernel_rfl) (by kernel_rfl)) (Qn ?_)
    rintro _ ⟨qd, rfl⟩
    obtain ⟨wq1, ewq1⟩ : ∃ v1, v1 = World.drewN w1 qd := ⟨_, rfl⟩
    rw [← ewq1]
    have s1 : Stp w1.heap.size w1 wq1 := by rw [ewq1]; exact Sb (bdrN w1 qd)
    have b2 := KTk1 s1.old b1
    clear ewq1
    refine sN (KWcF (Wk (blkN (sN (Wl (Lv (Ki6 ((k : Int) + 1)) (KxP (hx := h4)) (KLq (Ki6 ((k : Int) + 1)) (Ln (lpN ⟨k + 1, (by omega), (all_step hall (same_nd.1 c24)), h1, h2, (h3.trans Fx.ic), Fx.ic, b2⟩ ?_)))))))))
    show (la.length - (intOf ((Ki6 ((k : Int) + 1)))).toNat) < _
    simp only [h4, intOf]; omega
   refine Qv KbT (fun v1 hv1 => Fx.x_neqA (n := 56) (ks := ((some .u64) :: (some .u64) :: List.replicate 54 (some .i64))) (X := ndZ (ndA la k)) (Y := ndZ (ndA lb k)) 12 false rfl rfl rfl (Fx.nob c24) (kdN (ra _ (ndA_mem (by omega)))) (kdN (rb _ (ndA_mem (by omega)))) rfl (by kernel_rfl) (by kernel_rfl) (by kernel_rfl) (by kernel_rfl) (by kernel_rfl)) (Qn ?_)
   rintro _ ⟨qd, rfl⟩
   obtain ⟨wq2, ewq2⟩ : ∃ v1, v1 = World.drewN w1 qd := ⟨_, rfl⟩
   rw [← ewq2]
   have s2 : Stp w1.heap.size w1 wq2 := by rw [ewq2]; exact Sb (bdrN w1 qd)
   have b3 := KTk1 s2.old b1
   clear ewq2
   refine sN (KWcT (KWsl (KLq KbF (KLe (Wr (blkR (sR (lpR (blkR (sR (Kret KbF ?_)))))))))))
   exact ⟨KrB (Eq.symm (eqN_n (fun h => c24 (same_nd.2 (h.2 k (by omega)))))), b3⟩
  refine Lv KbF (KltF c14 (hx := h4) (hy := h3)) (KLe (Ws (KWcF (Wx (seqX (lpX (blkX (sN (KWsl (KLq KbT (KLe (Wr (Kret KbT ?_)))))))))))))
  exact ⟨KrB (Eq.symm (eqN_y ⟨by omega, fun q hq => hall q (by omega)⟩)), b1⟩
 refine Lv KbT (KneT c10) (KLe (KWcT (KWsl (KLq KbF (KLe (Wr (sR (Kret KbF ?_))))))))
 exact ⟨KrB (Eq.symm (eqN_n (fun h => by have := h.1; omega))), (Below.refl w.heap.size w)⟩
theorem s_eqG (aa ba : Option Addr) (cpa cpb : Nat) (la lb : List GrM) (w : World) (hl1 : la.length ≤ 1000000) (hl2 : lb.length ≤ 1000000) (ha : Arr w aa la.length 5 (grsX la)) (hb : Arr w ba lb.length 5 (grsX lb)) (ra : ∀ x ∈ la, GrR x) (rb : ∀ x ∈ lb, GrR x) :
    Calls Try.prog 56 #[.slice aa (la.length) (cpa), .slice ba (lb.length) (cpb)] w fun e w' => e = .returned (.bool (eqG la lb)) ∧ Below w.heap.size w w' := by
 refine Kent Try.func56 26 ?_
 refine KWsl (KLq KbF (KLe (Ws (KWsl (KLq (.slice aa (la.length) (cpa)) (KLq (Ki6 la.length) (KLq (.slice ba (lb.length) (cpb)) (KLq (Ki6 lb.length) ?_))))))))
 by_cases c10 : (la.length : Int) = (lb.length : Int)
 ·refine Lv KbF (KneF c10) (KLe (KWcF (Wk (sN (Ws (KWsl (KLq (.slice aa (la.length) (cpa)) (KLq (Ki6 la.length) (KLq (Ki6 0) (KLe (Wb (Wo (fun f w_ => ∃ k : Nat, k ≤ la.length ∧ (∀ q, q < k → grA la q = grA lb q) ∧ f 0 = .slice aa (la.length) (cpa) ∧ f 1 = .slice ba (lb.length) (cpb) ∧ f 12 = Ki6 ((la.length : Int)) ∧ f 13 = Ki6 ((k : Int)) ∧ Below w.heap.size w w_) (fun f _ => (la.length - (intOf (f 13)).toNat)) ⟨0, (Nat.zero_le _), (fun q h => absurd h (by omega)), (by rfl), (by rfl), Fx.ic, Fx.ic, (Below.refl w.heap.size w)⟩ ?_))))))))))))
  rintro f1 w1 ⟨k, hk, hall, h1, h2, h3, h4, b1⟩
  refine KWsl ?_
  by_cases c14 : (k : Int) < (la.length : Int)
  ·refine Lv KbT (KltT c14 (hx := h4) (hy := h3)) (KLe (Ws (KWcT (Wk (sN (Ws (Wb (KWsl (KLh h4 (KLq (Ki6 k) (KLe (Ws ?_))))))))))))
   -- region 6 draws
   refine KWqd (KQh h1 (KQq (Ki6 k) ?_))
   obtain ⟨bq1, oq1, eq1, m1⟩ := (ha.up b1 rfl) (by omega)
   have lbq1 : bq1 < w1.heap.size := m1.lt (by omega)
   refine Qv ((pf bq1 (5 * k + oq1))) (fun v1 hv1 => Kxi 5 (hx := (rfl.trans (congrArg (fun q => Value.slice q (la.length) (cpa)) eq1)))) (Qv (.agg (varr 5 (grZ (grA la k)))) (fun v1 hv1 => KxA (m1.dr hv1) (5 * k) (fun jq hjq => Fx.flat_at (k := k) (by omega) hjq)) (KQh h2 (KQq (Ki6 k) ?_)))
   obtain ⟨bq2, oq2, eq2, m2⟩ := (hb.up b1 rfl) (by omega)
   have lbq2 : bq2 < w1.heap.size := m2.lt (by omega)
   refine Qv ((pf bq2 (5 * k + oq2))) (fun v1 hv1 => Kxi 5 (hx := (rfl.trans (congrArg (fun q => Value.slice q (lb.length) (cpb)) eq2)))) (Qv (.agg (varr 5 (grZ (grA lb k)))) (fun v1 hv1 => KxA (m2.dr hv1) (5 * k) (fun jq hjq => Fx.flat_at (k := k) (by omega) hjq)) ?_)
   by_cases c24 : ∀ i, i < 5 → (grZ (grA la k)) i = (grZ (grA lb k)) i
   ·refine Qv KbF (fun v1 hv1 => Fx.x_neqA (n := 5) (ks := [(some .i64), (some .u64), (some .u64), (some .i64), (some .u64)]) (X := grZ (grA la k)) (Y := grZ (grA lb k)) 12 true rfl rfl rfl (Fx.yesb c24) (kdG (ra _ (grA_mem (by omega)))) (kdG (rb _ (grA_mem (by omega)))) rfl (by kernel_rfl) (by kernel_rfl) (by kernel_rfl) (by kernel_rfl) (by kernel_rfl)) (Qn ?_)
    rintro _ ⟨qd, rfl⟩
    obtain ⟨wq1, ewq1⟩ : ∃ v1, v1 = World.drewN w1 qd := ⟨_, rfl⟩
    rw [← ewq1]
    have s1 : Stp w1.heap.size w1 wq1 := by rw [ewq1]; exact Sb (bdrN w1 qd)
    have b2 := KTk1 s1.old b1
    clear ewq1
    refine sN (KWcF (Wk (blkN (sN (Wl (Lv (Ki6 ((k : Int) + 1)) (KxP (hx := h4)) (KLq (Ki6 ((k : Int) + 1)) (Ln (lpN ⟨k + 1, (by omega), (all_step hall (same_gr.1 c24)), h1, h2, (h3.trans Fx.ic), Fx.ic, b2⟩ ?_)))))))))
    show (la.length - (intOf ((Ki6 ((k : Int) + 1)))).toNat) < _
    simp only [h4, intOf]; omega
   refine Qv KbT (fun v1 hv1 => Fx.x_neqA (n := 5) (ks := [(some .i64), (some .u64), (some .u64), (some .i64), (some .u64)]) (X := grZ (grA la k)) (Y := grZ (grA lb k)) 12 false rfl rfl rfl (Fx.nob c24) (kdG (ra _ (grA_mem (by omega)))) (kdG (rb _ (grA_mem (by omega)))) rfl (by kernel_rfl) (by kernel_rfl) (by kernel_rfl) (by kernel_rfl) (by kernel_rfl)) (Qn ?_)
   rintro _ ⟨qd, rfl⟩
   obtain ⟨wq2, ewq2⟩ : ∃ v1, v1 = World.drewN w1 qd := ⟨_, rfl⟩
   rw [← ewq2]
   have s2 : Stp w1.heap.size w1 wq2 := by rw [ewq2]; exact Sb (bdrN w1 qd)
   have b3 := KTk1 s2.old b1
   clear ewq2
   refine sN (KWcT (KWsl (KLq KbF (KLe (Wr (blkR (sR (lpR (blkR (sR (Kret KbF ?_)))))))))))
   exact ⟨KrB (Eq.symm (eqG_n (fun h => c24 (same_gr.2 (h.2 k (by omega)))))), b3⟩
  refine Lv KbF (KltF c14 (hx := h4) (hy := h3)) (KLe (Ws (KWcF (Wx (seqX (lpX (blkX (sN (KWsl (KLq KbT (KLe (Wr (Kret KbT ?_)))))))))))))
  exact ⟨KrB (Eq.symm (eqG_y ⟨by omega, fun q hq => hall q (by omega)⟩)), b1⟩
 refine Lv KbT (KneT c10) (KLe (KWcT (KWsl (KLq KbF (KLe (Wr (sR (Kret KbF ?_))))))))
 exact ⟨KrB (Eq.symm (eqG_n (fun h => by have := h.1; omega))), (Below.refl w.heap.size w)⟩
theorem s_same (a b : SnM) (ana : Option Addr) (anc : Nat) (aga : Option Addr) (agc : Nat) (bna : Option Addr) (bnc : Nat) (bga : Option Addr) (bgc : Nat) (w : World) (ha : StW w a ana anc aga agc) (hb : StW w b bna bnc bga bgc) :
    Calls Try.prog 16 #[.agg (varr 20 (stY (stS a ana anc aga agc))), .agg (varr 20 (stY (stS b bna bnc bga bgc)))] w fun e w' => e = .returned (.bool (sameS a b)) ∧ Below w.heap.size w w' := by
 have hna := ha.n
 have hnb := hb.n
 have hga := ha.g
 have hgb := hb.g
 have hal1 := ha.l1
 have hal2 := ha.l2
 have hbl1 := hb.l1
 have hbl2 := hb.l2
 refine Kent Try.func16 80 ?_
 refine KWsl (KLb fun g1 w1 eg1 m1 s1 z1 => ?_)
 have b1 := KTk1 s1.old (Below.refl w.heap.size w)
 have lg1 := KGk0 eg1
 have tg1 := m1.lt
 refine KLb fun g2 w2 eg2 m2 s2 z2 => ?_
 have ⟨m3, b2⟩ := KTk2 s2.old m1 b1
 have lg2 := KGk eg2 b1.size
 have ng2m3 := KNk1 eg2 m1.lt
 have tg2 := m2.lt
 refine KLq KbF (KLe (Ws (KWsl (KLq ((pt g1)) (Lv (.agg (varr 6 (fun j => Value.bool (a.inn j)))) (KxA m3.cel 0 (fun j hj => by rw [Nat.zero_add]; exact stY_in _ hj)) (KLq ((pt g2)) (Lv (.agg (varr 6 (fun j => Value.bool (b.inn j)))) (KxA m2.cel 0 (fun j hj => by rw [Nat.zero_add]; exact stY_in _ hj)) ?_)))))))
 by_cases c11 : ∀ i, i < 6 → (fun j => Value.bool (a.inn j)) i = (fun j => Value.bool (b.inn j)) i
 ·refine Lv KbF (Fx.x_neqA (n := 6) (ks := List.replicate 6 none) (X := fun j => Value.bool (a.inn j)) (Y := fun j => Value.bool (b.inn j)) 12 true rfl rfl rfl (Fx.yesb c11) (kdB _) (kdB _) rfl (by kernel_rfl) (by kernel_rfl) (by kernel_rfl) (by kernel_rfl) (by kernel_rfl)) (KLq KbF (KLq ((pf g1 6)) (Lv (.agg (varr 6 (fun j => Value.bool (a.left j)))) (KxA m3.cel 6 (fun j hj => stY_left (p := j) _ hj (by omega))) (KLq ((pf g2 6)) (Lv (.agg (varr 6 (fun j => Value.bool (b.left j)))) (KxA m2.cel 6 (fun j hj => stY_left (p := j) _ hj (by omega))) ?_)))))
  by_cases c17 : ∀ i, i < 6 → (fun j => Value.bool (a.left j)) i = (fun j => Value.bool (b.left j)) i
  ·refine Lv KbF (Fx.x_neqA (n := 6) (ks := List.replicate 6 none) (X := fun j => Value.bool (a.left j)) (Y := fun j => Value.bool (b.left j)) 12 true rfl rfl rfl (Fx.yesb c17) (kdB _) (kdB _) rfl (by kernel_rfl) (by kernel_rfl) (by kernel_rfl) (by kernel_rfl) (by kernel_rfl)) (KLq KbF (KLq KbF (KLq ((pf g1 12)) (Lv (.agg (varr 6 (rv .u64 a.known))) (KxA m3.cel 12 (fun j hj => stY_known (p := j) _ hj (by omega))) (KLq ((pf g2 12)) (Lv (.agg (varr 6 (rv .u64 b.known))) (KxA m2.cel 12 (fun j hj => stY_known (p := j) _ hj (by omega))) ?_))))))
   by_cases c24 : ∀ i, i < 6 → (rv .u64 a.known) i = (rv .u64 b.known) i
   ·refine Lv KbF (Fx.x_neqA (n := 6) (ks := List.replicate 6 (some .u64)) (X := rv .u64 a.known) (Y := rv .u64 b.known) 12 true rfl rfl rfl (Fx.yesb c24) (Kr.kd ha.r.k) (Kr.kd hb.r.k) rfl (by kernel_rfl) (by kernel_rfl) (by kernel_rfl) (by kernel_rfl) (by kernel_rfl)) (KLq KbF (KLq KbF (KLq ((pf g1 18)) (Lv (.slice ana (a.ns.length) (anc)) (Kxl m3.cel 18) (KLq (Ki6 a.ns.length) (KLq ((pf g2 18)) (Lv (.slice bna (b.ns.length) (bnc)) (Kxl m2.cel 18) (KLq (Ki6 b.ns.length) ?_))))))))
    by_cases c33 : (a.ns.length : Int) = (b.ns.length : Int)
    ·refine Lv KbF (KneF c33) (KLq KbF (KLq KbF (KLq ((pf g1 19)) (Lv (.slice aga (a.gs.length) (agc)) (Kxl m3.cel 19) (KLq (Ki6 a.gs.length) (KLq ((pf g2 19)) (Lv (.slice bga (b.gs.length) (bgc)) (Kxl m2.cel 19) (KLq (Ki6 b.gs.length) ?_))))))))
     by_cases c42 : (a.gs.length : Int) = (b.gs.length : Int)
     ·refine Lv KbF (KneF c42) (KLq KbF (KLe (KWcF (Wk (sN (Ws (KWsl (KLq (Ki6 0) (KLe (Wb (Wo (fun f w_ => ∃ k : Nat, k ≤ a.ns.length ∧ (∀ q, q < k → SameNd (ndA a.ns q) (ndA b.ns q)) ∧ f 2 = (pt g1) ∧ f 3 = (pt g2) ∧ f 5 = Ki6 ((k : Int)) ∧ Blk w_ g1 20 (stY (stS a ana anc aga agc)) 29 ∧ Blk w_ g2 20 (stY (stS b bna bnc bga bgc)) 29 ∧ Below w.heap.size w w_) (fun f _ => (a.ns.length - (intOf (f 5)).toNat)) ⟨0, (Nat.zero_le _), (fun q h => absurd h (by omega)), (by rfl), (by rfl), Fx.ic, m3, m2, b2⟩ ?_)))))))))))
      rintro f1 w3 ⟨k, hk, hnn, h1, h2, h3, m4, m5, b3⟩
      refine Ws (KWsl (KLh h3 (Lv ((pf g1 18)) (Kxf h1 18) (Lv (.slice ana (a.ns.length) (anc)) (Kxl m4.cel 18) (KLq (Ki6 a.ns.length) ?_)))))
      by_cases c48 : (k : Int) < (a.ns.length : Int)
      ·refine Lv KbT (KltT c48) (KLe (KWcT (Wk (sN (Ws (Wb (Ws ?_)))))))
       -- region 6 draws
       refine KWqd (Qv ((pf g1 18)) (fun v1 hv1 => Kxf h1 18) (Qv (.slice ana (a.ns.length) (anc)) (fun v1 hv1 => Kxl (m4.cel.dr hv1) 18) (KQh h3 ?_)))
       obtain ⟨bq1, oq1, eq1, m6⟩ := (hna.up b3 rfl) (by omega)
       have lbq1 : bq1 < w3.heap.size := m6.lt (by omega)
       refine Qv ((pf bq1 (56 * k + oq1))) (fun v1 hv1 => Kxi 56 (hx := (rfl.trans (congrArg (fun q => Value.slice q (a.ns.length) (anc)) eq1)))) (Qv (.agg (varr 56 (ndZ (ndA a.ns k)))) (fun v1 hv1 => KxA (m6.dr hv1) (56 * k) (fun jq hjq => Fx.flat_at (k := k) (by omega) hjq)) (Qv ((pf g2 18)) (fun v1 hv1 => Kxf h2 18) (Qv (.slice bna (b.ns.length) (bnc)) (fun v1 hv1 => Kxl (m5.cel.dr hv1) 18) (KQh h3 ?_))))
       obtain ⟨bq2, oq2, eq2, m7⟩ := (hnb.up b3 rfl) (by omega)
       have lbq2 : bq2 < w3.heap.size := m7.lt (by omega)
       refine Qv ((pf bq2 (56 * k + oq2))) (fun v1 hv1 => Kxi 56 (hx := (rfl.trans (congrArg (fun q => Value.slice q (b.ns.length) (bnc)) eq2)))) (Qv (.agg (varr 56 (ndZ (ndA b.ns k)))) (fun v1 hv1 => KxA (m7.dr hv1) (56 * k) (fun jq hjq => Fx.flat_at (k := k) (by omega) hjq)) ?_)
       by_cases c61 : ∀ i, i < 56 → (ndZ (ndA a.ns k)) i = (ndZ (ndA b.ns k)) i
       ·refine Qv KbF (fun v1 hv1 => Fx.x_neqA (n := 56) (ks := ((some .u64) :: (some .u64) :: List.replicate 54 (some .i64))) (X := ndZ (ndA a.ns k)) (Y := ndZ (ndA b.ns k)) 12 true rfl rfl rfl (Fx.yesb c61) (kdN (ha.r.n _ (ndA_mem (by omega)))) (kdN (hb.r.n _ (ndA_mem (by omega)))) rfl (by kernel_rfl) (by kernel_rfl) (by kernel_rfl) (by kernel_rfl) (by kernel_rfl)) (Qn ?_)
        rintro _ ⟨qd, rfl⟩
        obtain ⟨wq1, ewq1⟩ : ∃ v1, v1 = World.drewN w3 qd := ⟨_, rfl⟩
        rw [← ewq1]
        have s3 : Stp w3.heap.size w3 wq1 := by rw [ewq1]; exact Sb (bdrN w3 qd)
        have ⟨m8, m9, b4⟩ := KTk3 s3.old m4 m5 b3
        clear ewq1
        refine sN (KWcF (Wk (blkN (sN (Wl (KLh h3 (Lv (Ki6 ((k : Int) + 1)) KxP (KLq (Ki6 ((k : Int) + 1)) (Ln (lpN ⟨k + 1, (by omega), (all_step hnn (same_nd.1 c61)), h1, h2, Fx.ic, m8, m9, b4⟩ ?_))))))))))
        show (a.ns.length - (intOf ((Ki6 ((k : Int) + 1)))).toNat) < _
        simp only [h3, intOf]; omega
       refine Qv KbT (fun v1 hv1 => Fx.x_neqA (n := 56) (ks := ((some .u64) :: (some .u64) :: List.replicate 54 (some .i64))) (X := ndZ (ndA a.ns k)) (Y := ndZ (ndA b.ns k)) 12 false rfl rfl rfl (Fx.nob c61) (kdN (ha.r.n _ (ndA_mem (by omega)))) (kdN (hb.r.n _ (ndA_mem (by omega)))) rfl (by kernel_rfl) (by kernel_rfl) (by kernel_rfl) (by kernel_rfl) (by kernel_rfl)) (Qn ?_)
       rintro _ ⟨qd, rfl⟩
       obtain ⟨wq2, ewq2⟩ : ∃ v1, v1 = World.drewN w3 qd := ⟨_, rfl⟩
       rw [← ewq2]
       have s4 : Stp w3.heap.size w3 wq2 := by rw [ewq2]; exact Sb (bdrN w3 qd)
       have b5 := KTk1 s4.old b3
       clear ewq2
       refine sN (KWcT (KWsl (KLq KbF (KLe (Wr (blkR (sR (lpR (blkR (sR (Kret KbF ?_)))))))))))
       exact ⟨KrB (Eq.symm (sameS_n (fun h => c61 (same_nd.2 (h.n k (by omega)))))), b5⟩
      refine Lv KbF (KltF c48) (KLe (KWcF (Wx (seqX (lpX (blkX (sN (Ws (KWsl (KLq (Ki6 0) (KLe (Wb (Wo (fun f w_ => ∃ k : Nat, k ≤ a.gs.length ∧ (∀ q, q < k → grA a.gs q = grA b.gs q) ∧ f 2 = (pt g1) ∧ f 3 = (pt g2) ∧ f 6 = Ki6 ((k : Int)) ∧ Blk w_ g1 20 (stY (stS a ana anc aga agc)) 29 ∧ Blk w_ g2 20 (stY (stS b bna bnc bga bgc)) 29 ∧ Below w.heap.size w w_) (fun f _ => (a.gs.length - (intOf (f 6)).toNat)) ⟨0, (Nat.zero_le _), (fun q h => absurd h (by omega)), h1, h2, Fx.ic, m4, m5, b3⟩ ?_)))))))))))))
      rintro f2 w4 ⟨k, hk, hgg, h4, h5, h6, m16, m17, b6⟩
      refine Ws (KWsl (KLh h6 (Lv ((pf g1 19)) (Kxf h4 19) (Lv (.slice aga (a.gs.length) (agc)) (Kxl m16.cel 19) (KLq (Ki6 a.gs.length) ?_)))))
      by_cases c66 : (k : Int) < (a.gs.length : Int)
      ·refine Lv KbT (KltT c66) (KLe (KWcT (Wk (sN (Ws (Wb (Ws ?_)))))))
       -- region 11 draws
       refine KWqd (Qv ((pf g1 19)) (fun v1 hv1 => Kxf h4 19) (Qv (.slice aga (a.gs.length) (agc)) (fun v1 hv1 => Kxl (m16.cel.dr hv1) 19) (KQh h6 ?_)))
       obtain ⟨bq3, oq3, eq3, m18⟩ := (hga.up b6 rfl) (by omega)
       have lbq3 : bq3 < w4.heap.size := m18.lt (by omega)
       refine Qv ((pf bq3 (5 * k + oq3))) (fun v1 hv1 => Kxi 5 (hx := (rfl.trans (congrArg (fun q => Value.slice q (a.gs.length) (agc)) eq3)))) (Qv (.agg (varr 5 (grZ (grA a.gs k)))) (fun v1 hv1 => KxA (m18.dr hv1) (5 * k) (fun jq hjq => Fx.flat_at (k := k) (by omega) hjq)) (Qv ((pf g2 19)) (fun v1 hv1 => Kxf h5 19) (Qv (.slice bga (b.gs.length) (bgc)) (fun v1 hv1 => Kxl (m17.cel.dr hv1) 19) (KQh h6 ?_))))
       obtain ⟨bq4, oq4, eq4, m19⟩ := (hgb.up b6 rfl) (by omega)
       have lbq4 : bq4 < w4.heap.size := m19.lt (by omega)
       refine Qv ((pf bq4 (5 * k + oq4))) (fun v1 hv1 => Kxi 5 (hx := (rfl.trans (congrArg (fun q => Value.slice q (b.gs.length) (bgc)) eq4)))) (Qv (.agg (varr 5 (grZ (grA b.gs k)))) (fun v1 hv1 => KxA (m19.dr hv1) (5 * k) (fun jq hjq => Fx.flat_at (k := k) (by omega) hjq)) ?_)
       by_cases c79 : ∀ i, i < 5 → (grZ (grA a.gs k)) i = (grZ (grA b.gs k)) i
       ·refine Qv KbF (fun v1 hv1 => Fx.x_neqA (n := 5) (ks := [(some .i64), (some .u64), (some .u64), (some .i64), (some .u64)]) (X := grZ (grA a.gs k)) (Y := grZ (grA b.gs k)) 12 true rfl rfl rfl (Fx.yesb c79) (kdG (ha.r.g _ (grA_mem (by omega)))) (kdG (hb.r.g _ (grA_mem (by omega)))) rfl (by kernel_rfl) (by kernel_rfl) (by kernel_rfl) (by kernel_rfl) (by kernel_rfl)) (Qn ?_)
        rintro _ ⟨qd, rfl⟩
        obtain ⟨wq3, ewq3⟩ : ∃ v1, v1 = World.drewN w4 qd := ⟨_, rfl⟩
        rw [← ewq3]
        have s5 : Stp w4.heap.size w4 wq3 := by rw [ewq3]; exact Sb (bdrN w4 qd)
        have ⟨m20, m21, b7⟩ := KTk3 s5.old m16 m17 b6
        clear ewq3
        refine sN (KWcF (Wk (blkN (sN (Wl (KLh h6 (Lv (Ki6 ((k : Int) + 1)) KxP (KLq (Ki6 ((k : Int) + 1)) (Ln (lpN ⟨k + 1, (by omega), (all_step hgg (same_gr.1 c79)), h4, h5, Fx.ic, m20, m21, b7⟩ ?_))))))))))
        show (a.gs.length - (intOf ((Ki6 ((k : Int) + 1)))).toNat) < _
        simp only [h6, intOf]; omega
       refine Qv KbT (fun v1 hv1 => Fx.x_neqA (n := 5) (ks := [(some .i64), (some .u64), (some .u64), (some .i64), (some .u64)]) (X := grZ (grA a.gs k)) (Y := grZ (grA b.gs k)) 12 false rfl rfl rfl (Fx.nob c79) (kdG (ha.r.g _ (grA_mem (by omega)))) (kdG (hb.r.g _ (grA_mem (by omega)))) rfl (by kernel_rfl) (by kernel_rfl) (by kernel_rfl) (by kernel_rfl) (by kernel_rfl)) (Qn ?_)
       rintro _ ⟨qd, rfl⟩
       obtain ⟨wq4, ewq4⟩ : ∃ v1, v1 = World.drewN w4 qd := ⟨_, rfl⟩
       rw [← ewq4]
       have s6 : Stp w4.heap.size w4 wq4 := by rw [ewq4]; exact Sb (bdrN w4 qd)
       have b8 := KTk1 s6.old b6
       clear ewq4
       refine sN (KWcT (KWsl (KLq KbF (KLe (Wr (blkR (sR (lpR (blkR (sR (Kret KbF ?_)))))))))))
       exact ⟨KrB (Eq.symm (sameS_n (fun h => c79 (same_gr.2 (h.g k (by omega)))))), b8⟩
      refine Lv KbF (KltF c66) (KLe (KWcF (Wx (seqX (lpX (blkX (sN (KWsl (KLq KbT (KLe (Wr (Kret KbT ?_))))))))))))
      exact ⟨KrB (Eq.symm (sameS_y ⟨same_b.1 c11, same_b.1 c17, same_u.1 c24, by omega, by omega, fun q hq => hnn q (by omega), fun q hq => hgg q (by omega)⟩)), b6⟩
     refine Lv KbT (KneT c42) (KLq KbT (KLe (KWcT (KWsl (KLq KbF (KLe (Wr (sR (Kret KbF ?_)))))))))
     exact ⟨KrB (Eq.symm (sameS_n (fun h => (by have h1 := h.nn; have h2 := h.gn; omega)))), b2⟩
    refine Lv KbT (KneT c33) (KLq KbT (KLq KbT (KLu (KLu (KLu (KLu (KLu (KLu (KLu (KLq KbT (KLe (KWcT (KWsl (KLq KbF (KLe (Wr (sR (Kret KbF ?_))))))))))))))))))
    exact ⟨KrB (Eq.symm (sameS_n (fun h => (by have h1 := h.nn; have h2 := h.gn; omega)))), b2⟩
   refine Lv KbT (Fx.x_neqA (n := 6) (ks := List.replicate 6 (some .u64)) (X := rv .u64 a.known) (Y := rv .u64 b.known) 12 false rfl rfl rfl (Fx.nob c24) (Kr.kd ha.r.k) (Kr.kd hb.r.k) rfl (by kernel_rfl) (by kernel_rfl) (by kernel_rfl) (by kernel_rfl) (by kernel_rfl)) (KLq KbT (KLq KbT (KLu (KLu (KLu (KLu (KLu (KLu (KLu (KLq KbT (KLq KbT (KLu (KLu (KLu (KLu (KLu (KLu (KLu (KLq KbT (KLe (KWcT (KWsl (KLq KbF (KLe (Wr (sR (Kret KbF ?_)))))))))))))))))))))))))))
   exact ⟨KrB (Eq.symm (sameS_n (fun h => c24 (same_u.2 h.known)))), b2⟩
  refine Lv KbT (Fx.x_neqA (n := 6) (ks := List.replicate 6 none) (X := fun j => Value.bool (a.left j)) (Y := fun j => Value.bool (b.left j)) 12 false rfl rfl rfl (Fx.nob c17) (kdB _) (kdB _) rfl (by kernel_rfl) (by kernel_rfl) (by kernel_rfl) (by kernel_rfl) (by kernel_rfl)) (KLq KbT (KLq KbT (KLu (KLu (KLu (KLu (KLu (KLq KbT (KLq KbT (KLu (KLu (KLu (KLu (KLu (KLu (KLu (KLq KbT (KLq KbT (KLu (KLu (KLu (KLu (KLu (KLu ?_))))))))))))))))))))))))
  refine KLu (KLq KbT (KLe (KWcT (KWsl (KLq KbF (KLe (Wr (sR (Kret KbF ?_)))))))))
  exact ⟨KrB (Eq.symm (sameS_n (fun h => c17 (same_b.2 h.left)))), b2⟩
 refine Lv KbT (Fx.x_neqA (n := 6) (ks := List.replicate 6 none) (X := fun j => Value.bool (a.inn j)) (Y := fun j => Value.bool (b.inn j)) 12 false rfl rfl rfl (Fx.nob c11) (kdB _) (kdB _) rfl (by kernel_rfl) (by kernel_rfl) (by kernel_rfl) (by kernel_rfl) (by kernel_rfl)) (KLq KbT (KLu (KLu (KLu (KLu (KLu (KLq KbT (KLq KbT (KLu (KLu (KLu (KLu (KLu (KLq KbT (KLq KbT (KLu (KLu (KLu (KLu (KLu (KLu (KLu (KLq KbT (KLq KbT ?_))))))))))))))))))))))))
 refine KLu (KLu (KLu (KLu (KLu (KLu (KLu (KLq KbT (KLe (KWcT (KWsl (KLq KbF (KLe (Wr (sR (Kret KbF ?_)))))))))))))))
 exact ⟨KrB (Eq.symm (sameS_n (fun h => c11 (same_b.2 h.inn)))), b2⟩
theorem s_joinE (a b : SnM) (ana : Option Addr) (anc : Nat) (aga : Option Addr) (agc : Nat) (bna : Option Addr) (bnc : Nat) (bga : Option Addr) (bgc : Nat) (u : SnM) (ev : Int) (w : World) (ha : StW w a ana anc aga agc) (hb : StW w b bna bnc bga bgc) (hj : joinS a b = (u, ev)) :
    Calls Try.prog 8 #[.agg (varr 20 (stY (stS a ana anc aga agc))), .agg (varr 20 (stY (stS b bna bnc bga bgc)))] w fun e w' => ∃ na nc ga gc, e = .returned (.tuple #[.agg (varr 20 (stY (stS u na nc ga gc))), Ki6 ev]) ∧ Fx.Own w' w.heap.size 50 56 (.slice na u.ns.length nc) u.ns.length (ndsX u.ns) ∧ Fx.Own w' w.heap.size 59 5 (.slice ga u.gs.length gc) u.gs.length (grsX u.gs) ∧ Below w.heap.size w w' := by
  have h := s_join a b ana anc aga agc bna bnc bga bgc w ha hb
  rw [hj] at h; exact h
theorem joinE_w {a b u : SnM} {ev : Int} {w : World} {B : Nat} {na ga : Option Addr} {nc gc : Nat} (ra : SnR a) (rb : SnR b) (hj : joinS a b = (u, ev)) (hn : Fx.Own w B 50 56 (.slice na u.ns.length nc) u.ns.length (ndsX u.ns)) (hg : Fx.Own w B 59 5 (.slice ga u.gs.length gc) u.gs.length (grsX u.gs)) : StW w u na nc ga gc := by
  have h1 := joinS_r ra rb
  have h2 := @joinS_l a b
  rw [hj] at h1 h2
  exact ⟨h1, Nat.le_trans h2.1 (by decide), Nat.le_trans h2.2 (by decide), hn.arr, hg.arr, hn.le, hg.le⟩
theorem s_less (a b : SnM) (ana : Option Addr) (anc : Nat) (aga : Option Addr) (agc : Nat) (bna : Option Addr) (bnc : Nat) (bga : Option Addr) (bgc : Nat) (w : World) (ha : StW w a ana anc aga agc) (hb : StW w b bna bnc bga bgc) :
    Calls Try.prog 17 #[.agg (varr 20 (stY (stS a ana anc aga agc))), .agg (varr 20 (stY (stS b bna bnc bga bgc)))] w fun e w' => e = .returned (.bool (lessS a b)) ∧ Below w.heap.size w w' := by
 obtain ⟨u, ev, hj⟩ : ∃ q r, joinS a b = (q, r) := ⟨_, _, rfl⟩
 have hur : SnR u := by have := joinS_r ha.r hb.r; rw [hj] at this; exact this
 refine Kent Try.func17 50 ?_
 refine KWsl (KLb fun g1 w1 eg1 m1 s1 z1 => ?_)
 have b1 := KTk1 s1.old (Below.refl w.heap.size w)
 have lg1 := KGk0 eg1
 have tg1 := m1.lt
 refine KLb fun g2 w2 eg2 m2 s2 z2 => ?_
 have ⟨m3, b2⟩ := KTk2 s2.old m1 b1
 have lg2 := KGk eg2 b1.size
 have ng2m3 := KNk1 eg2 m1.lt
 have tg2 := m2.lt
 refine KLq KbF (KLe (KWsl (Lv (.agg (varr 20 (stY (stS a ana anc aga agc)))) (KxA m3.cel 0) (Lv (.agg (varr 20 (stY (stS b bna bnc bga bgc)))) (KxA m2.cel 0) (KLc (s_joinE a b ana anc aga agc bna bnc bga bgc u ev _ (ha.up b2) (hb.up b2) hj) ?_)))))
 rintro e9 w3 ⟨una, unc, uga, ugc, he, hon1, hog1, hb1⟩
 refine ⟨_, he, ?_⟩
 clear he
 have ⟨m4, m5, b3⟩ := KTk3 hb1 m3 m2 b2
 have m6 : Fx.Own w3 w.heap.size 50 56 (.slice una (u.ns.length) (unc)) u.ns.length (ndsX u.ns) := hon1.mono b2.size
 have m7 : Fx.Own w3 w.heap.size 59 5 (.slice uga (u.gs.length) (ugc)) u.gs.length (grsX u.gs) := hog1.mono b2.size
 refine KLq (.tuple #[.agg (varr 20 (stY (stS u una unc uga ugc))), Ki6 ev]) (KLq (.agg (varr 20 (stY (stS u una unc uga ugc)))) (KLq (Ki6 ev) (KLw 20 (fun i => (#[.bool false, .bool false, .bool false, .bool false, .bool false, .bool false, .bool false, .bool false, .bool false, .bool false, .bool false, .bool false, Ku6 0, Ku6 0, Ku6 0, Ku6 0, Ku6 0, Ku6 0, .slice none 0 0, .slice none 0 0] : Array Value).getD i undef) fun g3 w4 eg3 m8 s4 z3 => ?_)))
 have ⟨m9, m10, m11, m12, b4⟩ := KTk5 s4.old m4 m5 m6 m7 b3
 have lg3 := KGk eg3 b3.size
 have ⟨ng3m9, ng3m10⟩ := KNk2 eg3 m4.lt m5.lt
 have tg3 := m8.lt
 refine KLsA m8 0 (h1 := (fun j _ => stY_one _ j)) fun w5 m13 s5 z4 => ?_
 have m14 : Blk w5 g3 20 (stY (stS u una unc uga ugc)) 29 := ovr_all m13
 have m15 := m9.stp s5 (by omega)
 have m16 := m10.stp s5 (by omega)
 have hct1 := cOs s5 m8.ty
 have ⟨m17, m18⟩ := KCk2 hct1 m11 m12
 have b5 := s5.below b4 b4.size (by omega)
 refine KLq (Ki6 ev) (KLe (KWsl (KLq (Ki6 ev) ?_)))
 by_cases c14 : ev = 0
 ·refine Lv KbT (KeqT c14) (KLq KbT (KLq ((pt g3)) (Lv (.agg (varr 6 (fun j => Value.bool (u.inn j)))) (KxA m14.cel 0 (fun j hj => by rw [Nat.zero_add]; exact stY_in _ hj)) (KLq ((pt g2)) (Lv (.agg (varr 6 (fun j => Value.bool (b.inn j)))) (KxA m16.cel 0 (fun j hj => by rw [Nat.zero_add]; exact stY_in _ hj)) ?_)))))
  by_cases c20 : ∀ i, i < 6 → (fun j => Value.bool (u.inn j)) i = (fun j => Value.bool (b.inn j)) i
  ·refine Lv KbT (Fx.x_eqlA (n := 6) (ks := List.replicate 6 none) (X := fun j => Value.bool (u.inn j)) (Y := fun j => Value.bool (b.inn j)) 12 true rfl rfl rfl (Fx.yesb c20) (kdB _) (kdB _) rfl (by kernel_rfl) (by kernel_rfl) (by kernel_rfl) (by kernel_rfl) (by kernel_rfl)) (KLq KbT (KLq KbT (KLq ((pf g3 6)) (Lv (.agg (varr 6 (fun j => Value.bool (u.left j)))) (KxA m14.cel 6 (fun j hj => stY_left (p := j) _ hj (by omega))) (KLq ((pf g2 6)) (Lv (.agg (varr 6 (fun j => Value.bool (b.left j)))) (KxA m16.cel 6 (fun j hj => stY_left (p := j) _ hj (by omega))) ?_))))))
   by_cases c27 : ∀ i, i < 6 → (fun j => Value.bool (u.left j)) i = (fun j => Value.bool (b.left j)) i
   ·refine Lv KbT (Fx.x_eqlA (n := 6) (ks := List.replicate 6 none) (X := fun j => Value.bool (u.left j)) (Y := fun j => Value.bool (b.left j)) 12 true rfl rfl rfl (Fx.yesb c27) (kdB _) (kdB _) rfl (by kernel_rfl) (by kernel_rfl) (by kernel_rfl) (by kernel_rfl) (by kernel_rfl)) (KLq KbT (KLq KbT (KLq ((pf g3 12)) (Lv (.agg (varr 6 (rv .u64 u.known))) (KxA m14.cel 12 (fun j hj => stY_known (p := j) _ hj (by omega))) (KLq ((pf g2 12)) (Lv (.agg (varr 6 (rv .u64 b.known))) (KxA m16.cel 12 (fun j hj => stY_known (p := j) _ hj (by omega))) ?_))))))
    by_cases c34 : ∀ i, i < 6 → (rv .u64 u.known) i = (rv .u64 b.known) i
    ·refine Lv KbT (Fx.x_eqlA (n := 6) (ks := List.replicate 6 (some .u64)) (X := rv .u64 u.known) (Y := rv .u64 b.known) 12 true rfl rfl rfl (Fx.yesb c34) (Kr.kd hur.k) (Kr.kd hb.r.k) rfl (by kernel_rfl) (by kernel_rfl) (by kernel_rfl) (by kernel_rfl) (by kernel_rfl)) (KLq KbT (KLq KbT (KLq ((pf g3 18)) (Lv (.slice una (u.ns.length) (unc)) (Kxl m14.cel 18) (KLq ((pf g2 18)) (Lv (.slice bna (b.ns.length) (bnc)) (Kxl m16.cel 18) ?_))))))
     by_cases c41 : (eqN u.ns b.ns) = true
     ·refine KLc1 (s_eqN una bna unc bnc u.ns b.ns _ (joinE_w ha.r hb.r hj m17 m18).l1 hb.l1 (joinE_w ha.r hb.r hj m17 m18).n (hb.up b5).n (joinE_w ha.r hb.r hj m17 m18).r.n hb.r.n) KbT (by rw [c41]) ?_
      intro w6 hb2
      have ⟨m20, m21, m22, m23, b6⟩ := KTk5 hb2 m16 m17 m18 m14 b5
      refine KLq KbT (KLq KbT (KLq ((pf g3 19)) (Lv (.slice uga (u.gs.length) (ugc)) (Kxl m23.cel 19) (KLq ((pf g2 19)) (Lv (.slice bga (b.gs.length) (bgc)) (Kxl m20.cel 19) ?_)))))
      by_cases c48 : (eqG u.gs b.gs) = true
      ·refine KLc1 (s_eqG uga bga ugc bgc u.gs b.gs _ (joinE_w ha.r hb.r hj m21 m22).l2 hb.l2 (joinE_w ha.r hb.r hj m21 m22).g (hb.up b6).g (joinE_w ha.r hb.r hj m21 m22).r.g hb.r.g) KbT (by rw [c48]) ?_
       intro w7 hb3
       have b7 := KTk1 hb3 b6
       refine KLq KbT (KLq KbT (KLe (Wr (Kret KbT ?_))))
       exact ⟨KrB (Eq.symm (lessS_y hj c14 ⟨same_b.1 c20, same_b.1 c27, same_u.1 c34, (eqN_p c41).1, (eqG_p c48).1, (eqN_p c41).2, (eqG_p c48).2⟩)), b7⟩
      rw [Bool.not_eq_true] at c48
      refine KLc1 (s_eqG uga bga ugc bgc u.gs b.gs _ (joinE_w ha.r hb.r hj m21 m22).l2 hb.l2 (joinE_w ha.r hb.r hj m21 m22).g (hb.up b6).g (joinE_w ha.r hb.r hj m21 m22).r.g hb.r.g) KbF (by rw [c48]) ?_
      intro w8 hb4
      have b8 := KTk1 hb4 b6
      refine KLq KbF (KLq KbF (KLe (Wr (Kret KbF ?_))))
      exact ⟨KrB (Eq.symm (lessS_n hj (fun h => eqG_q c48 ⟨h.2.gn, h.2.g⟩))), b8⟩
     rw [Bool.not_eq_true] at c41
     refine KLc1 (s_eqN una bna unc bnc u.ns b.ns _ (joinE_w ha.r hb.r hj m17 m18).l1 hb.l1 (joinE_w ha.r hb.r hj m17 m18).n (hb.up b5).n (joinE_w ha.r hb.r hj m17 m18).r.n hb.r.n) KbF (by rw [c41]) ?_
     intro w9 hb5
     have b9 := KTk1 hb5 b5
     refine KLq KbF (KLq KbF (KLu (KLu (KLu (KLu (KLu (KLq KbF (KLq KbF (KLe (Wr (Kret KbF ?_)))))))))))
     exact ⟨KrB (Eq.symm (lessS_n hj (fun h => eqN_q c41 ⟨h.2.nn, h.2.n⟩))), b9⟩
    refine Lv KbF (Fx.x_eqlA (n := 6) (ks := List.replicate 6 (some .u64)) (X := rv .u64 u.known) (Y := rv .u64 b.known) 12 false rfl rfl rfl (Fx.nob c34) (Kr.kd hur.k) (Kr.kd hb.r.k) rfl (by kernel_rfl) (by kernel_rfl) (by kernel_rfl) (by kernel_rfl) (by kernel_rfl)) (KLq KbF (KLq KbF (KLu (KLu (KLu (KLu (KLu (KLq KbF (KLq KbF (KLu (KLu (KLu (KLu (KLu (KLq KbF (KLq KbF (KLe (Wr (Kret KbF ?_)))))))))))))))))))
    exact ⟨KrB (Eq.symm (lessS_n hj (fun h => c34 (same_u.2 h.2.known)))), b5⟩
   refine Lv KbF (Fx.x_eqlA (n := 6) (ks := List.replicate 6 none) (X := fun j => Value.bool (u.left j)) (Y := fun j => Value.bool (b.left j)) 12 false rfl rfl rfl (Fx.nob c27) (kdB _) (kdB _) rfl (by kernel_rfl) (by kernel_rfl) (by kernel_rfl) (by kernel_rfl) (by kernel_rfl)) (KLq KbF (KLq KbF (KLu (KLu (KLu (KLu (KLu (KLq KbF (KLq KbF (KLu (KLu (KLu (KLu (KLu (KLq KbF (KLq KbF (KLu (KLu (KLu (KLu (KLu (KLq KbF (KLq KbF (KLe (Wr (Kret KbF ?_))))))))))))))))))))))))))
   exact ⟨KrB (Eq.symm (lessS_n hj (fun h => c27 (same_b.2 h.2.left)))), b5⟩
  refine Lv KbF (Fx.x_eqlA (n := 6) (ks := List.replicate 6 none) (X := fun j => Value.bool (u.inn j)) (Y := fun j => Value.bool (b.inn j)) 12 false rfl rfl rfl (Fx.nob c20) (kdB _) (kdB _) rfl (by kernel_rfl) (by kernel_rfl) (by kernel_rfl) (by kernel_rfl) (by kernel_rfl)) (KLq KbF (KLq KbF (KLu (KLu (KLu (KLu (KLu (KLq KbF (KLq KbF (KLu (KLu (KLu (KLu (KLu (KLq KbF (KLq KbF (KLu (KLu (KLu (KLu (KLu (KLq KbF (KLq KbF (KLu ?_))))))))))))))))))))))))
  refine KLu (KLu (KLu (KLu (KLq KbF (KLq KbF (KLe (Wr (Kret KbF ?_))))))))
  exact ⟨KrB (Eq.symm (lessS_n hj (fun h => c20 (same_b.2 h.2.inn)))), b5⟩
 refine Lv KbF (KeqF c14) (KLq KbF (KLu (KLu (KLu (KLu (KLu (KLq KbF (KLq KbF (KLu (KLu (KLu (KLu (KLu (KLq KbF (KLq KbF (KLu (KLu (KLu (KLu (KLu (KLq KbF (KLq KbF (KLu (KLu ?_))))))))))))))))))))))))
 refine KLu (KLu (KLu (KLq KbF (KLq KbF (KLu (KLu (KLu (KLu (KLu (KLq KbF (KLq KbF (KLe (Wr (Kret KbF ?_))))))))))))))
 exact ⟨KrB (Eq.symm (lessS_n hj (fun h => c14 h.1))), b5⟩
end Go.Proofs.Ytkajcjefckjijaa
namespace Go.Proofs.Ytkajcjefckjijaa.Fx
open Go.RowKit
section
variable {P : Program} {n : Nat} {ops : List Oper} {cs : List Nat} {S : World → World → Prop} {Q : Post}
def certB (ops : List Oper) (certs : List (Nat × Nat × List Nat)) (j i : Nat) : Bool := certs.any fun c => Nat.beq c.1 j && Nat.beq c.2.1 i && pathB ops j c.2.2 i
def candB (ops : List Oper) (cs : List Nat) (certs : List (Nat × Nat × List Nat)) (rem : List Nat) (e : Nat) : Bool := !stillC (cs.getD e 3) && rem.all fun x => Nat.beq x e || !certB ops certs e x
def RA (P : Program) (n : Nat) (ops : List Oper) (cs : List Nat) (certs : List (Nat × Nat × List Nat)) (S : World → World → Prop) (Q : Post) : Nat → List Nat → (Nat → Value) → World → Prop
  | 0, _, _, _ => False
  | _ + 1, [], f, w => Q .normal f w
  | k + 1, i :: l, f, w => (stillC (cs.getD i 3) = true → R P n ops cs S (fun _ f w => RA P n ops cs certs S Q k l f w) [i] f w) ∧
    (stillC (cs.getD i 3) = false → ∀ e, e ∈ i :: l → candB ops cs certs (i :: l) e = true → R P n ops cs S (fun _ f w => RA P n ops cs certs S Q k ((i :: l).erase e) f w) [e] f w)
def pairA (ops : List Oper) (cs : List Nat) (certs : List (Nat × Nat × List Nat)) (i j : Nat) : Bool := pairOk ops cs certs i j || (!isAfter (opAt ops i) j && !stillC (cs.getD i 3) && !stillC (cs.getD j 3))
def pairsA (ops : List Oper) (cs : List Nat) (certs : List (Nat × Nat × List Nat)) : List Nat → Bool
  | [] => true
  | i :: l => l.all (pairA ops cs certs i) && pairsA ops cs certs l
theorem pairsA_pw {certs : List (Nat × Nat × List Nat)} : ∀ {l : List Nat}, pairsA ops cs certs l = true → l.Pairwise fun i j => pairA ops cs certs i j = true
  | [], _ => List.Pairwise.nil
  | i :: l, h => by
    unfold pairsA at h
    rw [Bool.and_eq_true, List.all_eq_true] at h
    exact List.Pairwise.cons h.1 (pairsA_pw h.2)
theorem R.monoQ {Q' : Post} (hQ : ∀ f w, Q .normal f w → Q' .normal f w) : ∀ {l : List Nat} {f : Nat → Value} {w : World}, R P n ops cs S Q l f w → R P n ops cs S Q' l f w
  | [], f, w, h => by unfold R at h ⊢; exact hQ f w h
  | _ :: _, f, w, h => by
    unfold R at h ⊢
    rcases h with ⟨h1, h2⟩ | ⟨h1, ⟨h2, v, h3, h4⟩ | ⟨h2, h3⟩⟩
    · exact .inl ⟨h1, R.monoQ hQ h2⟩
    · exact .inr ⟨h1, .inl ⟨h2, v, h3, R.monoQ hQ h4⟩⟩
    · exact .inr ⟨h1, .inr ⟨h2, h3.mono fun v w' hv => ⟨hv.1, R.monoQ hQ hv.2⟩⟩⟩
theorem R.two {i : Nat} {l : List Nat} {f : Nat → Value} {w : World} : R P n ops cs S (fun _ f w => R P n ops cs S Q l f w) [i] f w ↔ R P n ops cs S Q (i :: l) f w := by simp only [R]
theorem pairA_of {certs : List (Nat × Nat × List Nat)} {i j : Nat} (h : pairA ops cs certs i j = true) : isAfter (opAt ops i) j = false := by
  unfold pairA pairOk at h
  cases hq : isAfter (opAt ops i) j with
  | false => rfl
  | true => rw [hq] at h; simp at h
theorem RA.pull (hok : opsOkR n ops = true) (hsel : Region.noSelect ops.toArray = true) (hS : ∀ w, S w w) (hT : ∀ a b c, S a b → S b c → S a c) {certs : List (Nat × Nat × List Nat)} {j : Nat} : ∀ (l : List Nat) (k : Nat), l.length ≤ k → j ∈ l → (∀ i ∈ l, i < ops.length) → l.Nodup → (l.Pairwise fun i j => pairA ops cs certs i j = true) →
    (∀ i ∈ l, i ≠ j → isAfter (opAt ops j) i = false ∧ certB ops certs j i = false) → ∀ f w, RA P n ops cs certs S Q (k + 1) l f w → R P n ops cs S (fun _ f w => RA P n ops cs certs S Q k (l.erase j) f w) [j] f w := by
  intro l
  induction l with
  | nil => intro k _ hj; cases hj
  | cons i l ih =>
    intro k hk hj hlt hnd hpw hun f w h
    have cand : stillC (cs.getD j 3) = false → candB ops cs certs (i :: l) j = true := fun hs => by
      unfold candB
      rw [hs, Bool.not_false, Bool.true_and, List.all_eq_true]
      intro x hx
      by_cases e : x = j
      · rw [e, Nat.beq_refl]; rfl
      · rw [(hun x hx e).2]; simp
    unfold RA at h
    by_cases e : i = j
    · subst e
      rw [List.erase_cons_head]
      cases hs : stillC (cs.getD i 3) with
      | true => exact h.1 hs
      | false => have := h.2 hs i (List.mem_cons_self ..) (cand hs); rw [List.erase_cons_head] at this; exact this
    · have hjl : j ∈ l := (List.mem_cons.1 hj).resolve_left (fun q => e q.symm)
      have hp := (List.pairwise_cons.1 hpw).1 j hjl
      have hne := hun i (List.mem_cons_self ..) e
      have hpa := pairA_of hp
      rw [List.erase_cons_tail (by simpa using e)]
      cases hs : stillC (cs.getD i 3) with
      | false =>
        have hsj : stillC (cs.getD j 3) = false := by
          cases hq : stillC (cs.getD j 3) with
          | false => rfl
          | true =>
            unfold pairA pairOk at hp
            unfold certB at hne
            rw [hs, hq, hne.2] at hp; simp at hp
        have := h.2 hs j hj (cand hsj)
        rw [List.erase_cons_tail (by simpa using e)] at this
        exact this
      | true =>
        cases k with
        | zero => simp at hk
        | succ k =>
          have h1 := h.1 hs
          have h2 : R P n ops cs S (fun _ f w => RA P n ops cs certs S Q k (l.erase j) f w) [i, j] f w := R.two.1 (R.monoQ (fun f w hq => ih k (by simpa using hk) hjl (fun x hx => hlt x (List.mem_cons_of_mem _ hx)) (List.nodup_cons.1 hnd).2 (List.pairwise_cons.1 hpw).2 (fun x hx => hun x (List.mem_cons_of_mem _ hx)) f w hq) h1)
          have h3 := swapR hok hsel (hlt i (List.mem_cons_self ..)) (hlt j hj) e hne.1 hpa hS hT hs (by
            unfold pairA pairOk at hp
            have hc := hne.2
            unfold certB at hc
            rw [hs, hc] at hp
            simp only [Bool.or_false, Bool.not_true, Bool.and_false, Bool.false_and, Bool.true_and, Bool.and_eq_true, Bool.or_eq_true] at hp
            rcases hp.2 with (q | q) | q
            · exact .inl (Nat.eq_of_beq_eq_true q)
            · exact .inr (.inl q)
            · exact .inr (.inr ⟨Nat.eq_of_beq_eq_true q.1, Nat.eq_of_beq_eq_true q.2⟩)) h2
          refine R.monoQ (fun f w hq => ?_) (R.two.2 h3)
          unfold RA
          exact ⟨fun _ => hq, fun hf => by rw [hs] at hf; cases hf⟩
theorem RA.any (hok : opsOkR n ops = true) (hsel : Region.noSelect ops.toArray = true) (hS : ∀ w, S w w) (hT : ∀ a b c, S a b → S b c → S a c) {certs : List (Nat × Nat × List Nat)} : ∀ (k : Nat) (rem : List Nat) (listed : Array Bool) (a : Act) (f : Nat → Value) (w : World), rem.length = k → listed.size = ops.length → Clo ops.toArray .any listed →
    (∀ i, i ∈ rem ↔ i < ops.length ∧ listed.getD i false = false) → rem.Nodup → (rem.Pairwise fun i j => pairA ops cs certs i j = true) → Fr a n f → RA P n ops cs certs S Q (k + 1) rem f w → wpAny P .any ops.toArray (lift n Q) k listed a w := by
  intro k
  induction k with
  | zero =>
    intro rem listed a f w hl hsz hclo hmem hnd hpw ha h
    have : rem = [] := List.eq_nil_of_length_eq_zero hl
    subst this
    refine ⟨?_, f, ha, by unfold RA at h; exact h⟩
    rw [List.eq_nil_iff_forall_not_mem]
    intro j hj
    obtain ⟨h1, h2, _, _⟩ := ready_after hj
    exact absurd ((hmem j).2 ⟨h2, h1⟩) (by simp)
  | succ k ih =>
    intro rem listed a f w hl hsz hclo hmem hnd hpw ha h
    refine ⟨fun hr => ?_, fun j hj => ?_⟩
    · cases rem with
      | nil => simp at hl
      | cons r rem' =>
        exfalso
        obtain ⟨h1, h2⟩ := (hmem r).1 (List.mem_cons_self ..)
        have : r ∈ Region.ready .any ops.toArray listed := by
          refine mem_ready.2 ⟨getD_in (by omega) h2, opAt ops r, by unfold opAt; rw [List.getElem?_toArray, List.getD_eq_getElem?_getD, List.getElem?_eq_getElem h1]; rfl, fun e he hb => ?_⟩
          have haf : isAfter (opAt ops r) e.on = true := by
            unfold isAfter; rw [Array.any_eq_true']; exact ⟨e, he, by rw [hb, Nat.beq_refl]; rfl⟩
          have hlt := (opsOkR_at hok h1).2.2.2 e.on haf
          cases hle : listed.getD e.on false with
          | true => rfl
          | false =>
            have hm := (hmem e.on).2 ⟨by omega, hle⟩
            rcases List.mem_cons.1 hm with e1 | e1
            · omega
            · have hp := pairA_of ((List.pairwise_cons.1 hpw).1 _ e1)
              rw [haf] at hp; cases hp
        rw [hr] at this; simp at this
    · obtain ⟨h1, h2, h3, h4⟩ := ready_after hj
      have hjm := (hmem j).2 ⟨h2, h1⟩
      have hb := RA.pull (P := P) (cs := cs) (S := S) (Q := Q) hok hsel hS hT rem (k + 1) (by omega) hjm (fun i hi => ((hmem i).1 hi).1) hnd hpw (fun i hi hne => by
        have h6 := ((hmem i).1 hi).2
        refine ⟨?_, ?_⟩
        · cases hq : isAfter (opAt ops j) i with
          | false => rfl
          | true => have := h4 i hq; rw [h6] at this; cases this
        · cases hp : certB ops certs j i with
          | false => rfl
          | true =>
            exfalso
            unfold certB at hp
            rw [List.any_eq_true] at hp
            obtain ⟨c, _, hc⟩ := hp
            rw [Bool.and_eq_true, Bool.and_eq_true] at hc
            obtain ⟨m, hm⟩ := pathB_reach hc.2
            cases m with
            | zero => unfold reach at hm; simp at hm; exact hne hm.symm
            | succ m =>
              unfold reach at hm
              rw [Bool.or_eq_true] at hm
              rcases hm with hm | hm
              · simp at hm; exact hne hm.symm
              · rw [h3] at hm
                simp only at hm
                rw [Array.any_eq_true'] at hm
                obtain ⟨e, he, hm⟩ := hm
                rw [Bool.and_eq_true] at hm
                have haf : isAfter (opAt ops j) e.on = true := by
                  unfold isAfter; rw [Array.any_eq_true']; exact ⟨e, he, by rw [hm.1, Nat.beq_refl]; rfl⟩
                have := hclo.reach _ _ hm.2 (h4 e.on haf)
                rw [h6] at this; cases this) f w h
      have hmem' : ∀ i, i ∈ rem.erase j ↔ i < ops.length ∧ (listed.setIfInBounds j true).getD i false = false := fun i => by
        rw [hnd.mem_erase_iff]
        by_cases e : j = i
        · subst e
          rw [set_self (by omega)]
          exact ⟨fun q => absurd rfl q.1, fun q => by cases q.2⟩
        · rw [set_other e, ← hmem i]
          exact ⟨fun q => q.2, fun q => ⟨fun c => e c.symm, q⟩⟩
      have next : ∀ (v : Value) (w' : World), RA P n ops cs certs S Q (k + 1) (rem.erase j) (put f (opAt ops j).dst v) w' → wpAny P .any ops.toArray (lift n Q) k (listed.setIfInBounds j true) (a.put (opAt ops j).dst v) w' := fun v w' hR =>
        ih (rem.erase j) _ _ _ w' (by rw [List.length_erase_of_mem hjm]; omega) (by simp [hsz]) (hclo.set hj) hmem' (hnd.erase j) (hpw.sublist (List.erase_sublist ..)) (ha.put (by
          cases hd : (opAt ops j).dst with
          | none => rfl
          | some d => have := ((opsOkR_at hok h2).1 d hd).2; simpa [inn, Nat.blt_eq] using this) v) hR
      unfold wpOp
      rw [h3]
      simp only
      rw [ha.yf]
      unfold R at hb
      rcases hb with ⟨q1, q2⟩ | ⟨q1, ⟨q2, v, q3, q4⟩ | ⟨q2, q3⟩⟩
      · rw [if_neg (by rw [q1]; decide)]; unfold R at q2; exact next _ _ q2
      · rw [if_pos q1]
        refine .inl (Out.wp (K := fun v' w' => v' = v ∧ w' = w) ha (.inl ⟨v, w, q3 w (.inr (.inr rfl)), rfl, rfl⟩) ?_)
        rintro v' w' ⟨rfl, rfl⟩
        unfold R at q4; exact next _ _ q4
      · rw [if_pos q1]
        exact .inl (Out.wp ha q3 fun v w' hk => next v w' (by have := hk.2; unfold R at this; exact this))
theorem RA.stills {certs : List (Nat × Nat × List Nat)} {k : Nat} {E : List Nat} : ∀ {l : List Nat} {f : Nat → Value} {w : World}, (l.all fun i => stillC (cs.getD i 3)) = true → R P n ops cs S (fun _ f w => RA P n ops cs certs S Q k E f w) l f w → RA P n ops cs certs S Q (l.length + k) (l ++ E) f w
  | [], f, w, _, h => by unfold R at h; rw [List.length_nil, Nat.zero_add]; exact h
  | i :: l, f, w, hs, h => by
    rw [List.all_cons, Bool.and_eq_true] at hs
    rw [List.length_cons, show l.length + 1 + k = (l.length + k) + 1 by omega]
    show RA P n ops cs certs S Q (l.length + k + 1) (i :: (l ++ E)) f w
    unfold RA
    exact ⟨fun _ => R.monoQ (fun f w hq => RA.stills hs.2 hq) (R.two.2 h), fun hf => by rw [hs.1] at hf; cases hf⟩
theorem W.reordA {f : Nat → Value} {w : World} {id : Nat} (l E : List Nat) (cs : List Nat) (S : World → World → Prop) (hS : ∀ w, S w w) (hT : ∀ a b c, S a b → S b c → S a c) (certs : List (Nat × Nat × List Nat)) (hm : P.follows .mixedOrders = true) (hok : opsOkR n ops = true) (hsel : Region.noSelect ops.toArray = true) (hp : permOk ops (l ++ E) = true) (hpp : pairsA ops cs certs (l ++ E) = true) (hst : (l.all fun i => stillC (cs.getD i 3)) = true)
    (h : ∀ w1, Below w.heap.size w w1 → w1.heap.size = w.heap.size → R P n ops cs S (fun _ f w => RA P n ops cs certs S Q (E.length + 1) E f w) l f w1) : W P n (.region id ops.toArray true) Q f w := fun a ha => by
  refine wp_region_any hm ?_
  unfold permOk at hp
  rw [Bool.and_eq_true, Bool.and_eq_true, Bool.and_eq_true, List.all_eq_true, List.all_eq_true] at hp
  obtain ⟨⟨⟨p1, p2⟩, p3⟩, p4⟩ := hp
  have hlen := Nat.eq_of_beq_eq_true p1
  have p3' : (l ++ E).Nodup := of_decide_eq_true p3
  have hl2 : l.length + (E.length + 1) = ops.length + 1 := by rw [← hlen, List.length_append]; omega
  have := RA.any (P := P) (Q := Q) (certs := certs) hok hsel hS hT ops.length (l ++ E) (Array.replicate ops.length false) a f { w with drawn := w.drawn + 1 } hlen (by simp) (Clo.start _ _ _) (fun i => by
    have hg : ∀ i, (Array.replicate ops.length false).getD i false = false := fun i => getD_replicate_false _ _
    constructor
    · intro hi; exact ⟨by simpa [Nat.blt_eq] using p2 i hi, hg i⟩
    · intro hi
      obtain ⟨k, hk, hk2⟩ := List.any_eq_true.1 (p4 i (by simpa using hi.1))
      rw [Nat.eq_of_beq_eq_true hk2]; exact hk) p3' (pairsA_pw hpp) ha (by
      have := RA.stills hst (h { w with drawn := w.drawn + 1 } (Below.refl _ _).drew rfl)
      rw [hl2] at this; exact this)
  simpa using this
theorem RA.nil {certs : List (Nat × Nat × List Nat)} {k : Nat} {f : Nat → Value} {w : World} (h : Q .normal f w) : RA P n ops cs certs S Q (k + 1) [] f w := by unfold RA; exact h
theorem RA.still {certs : List (Nat × Nat × List Nat)} {k i : Nat} {l : List Nat} {f : Nat → Value} {w : World} (hs : stillC (cs.getD i 3) = true) (h : R P n ops cs S (fun _ f w => RA P n ops cs certs S Q k l f w) [i] f w) : RA P n ops cs certs S Q (k + 1) (i :: l) f w := by
  unfold RA; exact ⟨fun _ => h, fun hf => by rw [hs] at hf; cases hf⟩
theorem RA.eff {certs : List (Nat × Nat × List Nat)} {k i : Nat} {l es : List Nat} {f : Nat → Value} {w : World} (hs : stillC (cs.getD i 3) = false) (hes : (i :: l).filter (candB ops cs certs (i :: l)) = es) (h : ∀ e, e ∈ es → R P n ops cs S (fun _ f w => RA P n ops cs certs S Q k ((i :: l).erase e) f w) [e] f w) : RA P n ops cs certs S Q (k + 1) (i :: l) f w := by
  unfold RA; exact ⟨fun hf => (by rw [hs] at hf; cases hf), fun _ e he hc => h e (by rw [← hes]; exact List.mem_filter.2 ⟨he, hc⟩)⟩
theorem RA.one {certs : List (Nat × Nat × List Nat)} {k i : Nat} {l : List Nat} {f : Nat → Value} {w : World} (e : Nat) (r : List Nat) (hs : stillC (cs.getD i 3) = false) (hes : (i :: l).filter (candB ops cs certs (i :: l)) = [e]) (hr : (i :: l).erase e = r) (h : R P n ops cs S (fun _ f w => RA P n ops cs certs S Q k r f w) [e] f w) : RA P n ops cs certs S Q (k + 1) (i :: l) f w :=
  RA.eff hs hes fun e' he => by rw [List.mem_singleton.1 he, hr]; exact h
theorem RA.two {certs : List (Nat × Nat × List Nat)} {k i : Nat} {l : List Nat} {f : Nat → Value} {w : World} (e e2 : Nat) (r r2 : List Nat) (hs : stillC (cs.getD i 3) = false) (hes : (i :: l).filter (candB ops cs certs (i :: l)) = [e, e2]) (hr : (i :: l).erase e = r) (hr2 : (i :: l).erase e2 = r2) (h : R P n ops cs S (fun _ f w => RA P n ops cs certs S Q k r f w) [e] f w) (h2 : R P n ops cs S (fun _ f w => RA P n ops cs certs S Q k r2 f w) [e2] f w) : RA P n ops cs certs S Q (k + 1) (i :: l) f w :=
  RA.eff hs hes fun e' he => by
    rcases List.mem_cons.1 he with q | q
    · rw [q, hr]; exact h
    · rw [List.mem_singleton.1 q, hr2]; exact h2
end
end Go.Proofs.Ytkajcjefckjijaa.Fx
namespace Go.Proofs.Ytkajcjefckjijaa.Fx
open Go.RowKit
def Apd (w : World) (B : Nat) (E : TypeId) (a : Option Addr) (n c : Nat) (x : Nat → Value) : Prop := Own w B E 1 (.slice a n c) n x ∨ (n = 4 ∧ c = 4 ∧ ∃ g, a = some ⟨g, 0, none⟩ ∧ B ≤ g ∧ Cel w g 0 4 x)
theorem Cel.to {w : World} {b off n : Nat} {x y : Nat → Value} (h : Cel w b off n x) (e : ∀ j, j < n → x j = y j) : Cel w b off n y := fun i hi => by rw [← e i hi]; exact h i hi
theorem Apd.up {w w' : World} {B : Nat} {E : TypeId} {a : Option Addr} {n c : Nat} {x : Nat → Value} (h : Apd w B E a n c x) (hb : Below w.heap.size w w') : Apd w' B E a n c x := by
  rcases h with h | ⟨h1, h2, g, h3, h4, h5⟩
  · exact .inl (h.up hb)
  · exact .inr ⟨h1, h2, g, h3, h4, h5.below hb (h5.lt (by omega))⟩
instance {w w' : World} {B : Nat} {E : TypeId} {a : Option Addr} {n c : Nat} {x : Nat → Value} : Rt.Tr w w' (Apd w B E a n c x) (Apd w' B E a n c x) := ⟨fun b h => h.up b⟩
theorem Apd.own {w : World} {B : Nat} {E : TypeId} {a : Option Addr} {n c : Nat} {x : Nat → Value} (h : Apd w B E a n c x) (hn : n ≠ 4) : Own w B E 1 (.slice a n c) n x := h.resolve_right fun q => hn q.1
section
variable {P : Program} {n : Nat} {Q : Post} {f : Nat → Value} {w : World} {ops : Array Oper} {rest : List Oper} {o : Oper}
theorem L.appD {w0 : World} {B k c c2 b2 off2 : Nat} {E T : TypeId} {x y : Nat → Value} {a : Option Addr} {sx xx : Operand} (hw : Region.wanted o (yf ops f) = true) (ho : o.op = .call { callee := .builtin .append, args := #[sx, xx], argTypes := #[T, T] }) (hsx : ev f sx = .slice a k c) (hxx : ev f xx = .slice (some ⟨b2, off2, none⟩) 1 c2)
    (hu : P.underlying T = some (.slice E)) (hi : (P.info? E).map (fun i => (i.size, i.bytes)) = some (1, 1)) (hz : ((P.info? E).bind (·.zero)).map (·.cells.size) = some 1) (hd : inn n o.dst = true)
    (h : Apd w B E a k c x) (hy : Cel w b2 off2 (1 * 1) y) (h1 : ∀ j, j < 1 * 1 → (y j).oneCell' = true) (h63 : k ≤ 100000000) (hB : B ≤ w.heap.size) (hbw : Below B w0 w)
    (hc : ∀ a' c' w', Own w' B E 1 (.slice a' (k + 1) c') (k + 1) (appX x (k * 1) y) → ChT [E] w w' → Below B w0 w' → L P n ops Q rest (put f o.dst (.slice a' (k + 1) c')) w') : L P n ops Q (o :: rest) f w := by
  rcases h with h | ⟨rfl, rfl, g, rfl, hg, hx⟩
  · exact Lap (B := B) (s := 1) (bytes := 1) hw ho hsx hxx hu hi hz (by rfl) hd h hy h1 (by decide) (by omega) (by omega) hB fun g cap w' ho' hgr hv hlt => hc _ _ w' ho' (cOg hgr h) (bGr hbw hgr hB (fun q hq => (h.ge hq).1))
  exact L.appG (B := B) (s := 1) (bytes := 1) hw ho hsx hxx hu hi hz (by rfl) hd hx hy (by decide) (by decide) (by omega) (by omega) hB fun g' cap w' _ ho' hs => hc _ _ w' ho' (ChT.of_below hs.old) (hs.below hbw hB hB)
end
end Go.Proofs.Ytkajcjefckjijaa.Fx
namespace Go.Proofs.Ytkajcjefckjijaa.Fx
open Go.RowKit
section
variable {P : Program} {n0 : Nat} {Q : Post} {f : Nat → Value} {w : World} {ops : Array Oper} {rest : List Oper} {o : Oper}
theorem x_sliceArr {T E : TypeId} {x : Operand} {b off n s : Nat} (ho : o.op = .slice T x none none none) (hx : ev f x = .pointer (some ⟨b, off, none⟩)) (hu : P.underlying T = some (.array n E)) (hs : (P.info? E).map (·.size) = some s) :
    Runs P f o w (.slice (some ⟨b, off, none⟩) n n) := by
  obtain ⟨i, hi', hs'⟩ := Option.map_eq_some_iff.1 hs
  unfold Runs execOp
  simp only [ho, hx, Option.map_none]
  by_cases h : n = 0
  · subst h; simp [Instr.sliceAt, Instr.sureAddr, underlying, hu, Instr.sliceBounds, sizeOf, typeInfo, hi']
  simp [Instr.sliceAt, Instr.sureAddr, underlying, hu, Instr.sliceBounds, sizeOf, typeInfo, hi', Addr.add, hs']
end
end Go.Proofs.Ytkajcjefckjijaa.Fx
namespace Go.Proofs.Ytkajcjefckjijaa
open Go.RowKit Rt
open Fx (x_move x_assign x_field x_load1 x_conv x_indexS x_index x_leqF x_loadA x_len x_gtrF x_eqlF x_eqlT Lv sN Ln Ws Qv Wl Rp Wc Qs Wr Sb Lk Wk rV sR Rs Rn Rd Rk Wb Wx Wo WoE Wt Wone Qn Qcl Lcl Lbs Lap Lnw Lbx Stv cOs cOg sRf mRf gRf cRf oNl bGr WsJ Wro rv varr Blk ovr putI ev Stp ovr_all flat updV Mp run_loadV Cel fill_step ret0 Chg i64e Arr flat_cong cells_agg cells_one ChT ovr_ones jnN u64e appX fOne_out upd_all blkR blkN seqX blkX lpX lpN lpR retV2)
set_option linter.unusedVariables false
namespace Rt
def rowsX (g o : Nat) : Nat → Value := fun q => .slice (some ⟨g, o + 6 * q, none⟩) 6 6
theorem rows_app {g o p i : Nat} {z : Nat → Value} (hp : p = o + 6 * (i + 3)) : ∀ q, q < (i + 3 + 1) * 1 → appX (rowsX g o) ((i + 3) * 1) (ovr z (0 * 1) 1 (fun _ => .slice (some ⟨g, p, none⟩) 6 6)) q = rowsX g o q := fun q hq => by
  subst hp
  unfold appX
  by_cases c : q < (i + 3) * 1
  · rw [if_pos c]
  · have e : q = i + 3 := by omega
    subst e
    rw [if_neg c]; unfold ovr; rw [if_pos ⟨by omega, by omega⟩]; rfl
end Rt
theorem s_rows (g o : Nat) (w : World) :
    Calls Try.prog 31 #[(pf g o)] w fun e w' => ∃ a c, e = .returned (.slice a 9 c) ∧ Fx.Own w' w.heap.size 73 1 (.slice a 9 c) 9 (rowsX g o) ∧ Below w.heap.size w w' := by
 refine Kent Try.func31 32 ?_
 refine KWsl (KLq (.slice none 0 0) (KLe (Ws ?_)))
 -- region 1 draws
 refine KWm [0, 1, 2, 3, 4, 5, 6, 7, 8, 9, 10, 11, 12, 13] [0, 0, 0, 0, 0, 0, 0, 0, 0, 0, 0, 0, 2, 0] [(13, 12, [12])] fun wt1 hbwt1 hzwt1 => ?_
 have b1 := KTk1 hbwt1 (Below.refl w.heap.size w)
 refine KRq ((pf g o)) (KRq ((pf g o)) (KRq ((pf g o)) (Rp (.slice (some ⟨g, o, none⟩) (6) (6)) (fun v1 => Fx.x_sliceArr rfl rfl Try.underlying45 (s := 1) (by kernel_rfl)) (KRq ((pf g o)) (KRq ((pf g o)) (KRq ((pf g (o + 6))) (Rp (.slice (some ⟨g, o + 6, none⟩) (6) (6)) (fun v1 => Fx.x_sliceArr rfl rfl Try.underlying45 (s := 1) (by kernel_rfl)) (KRq ((pf g o)) (KRq ((pf g o)) (KRq ((pf g (o + 12))) (Rp (.slice (some ⟨g, o + 12, none⟩) (6) (6)) (fun v1 => Fx.x_sliceArr rfl rfl Try.underlying45 (s := 1) (by kernel_rfl)) (KRk (Lbs (vs := [(0, .slice (some ⟨g, o, none⟩) (6) (6)), (1, .slice (some ⟨g, o + 6, none⟩) (6) (6)), (2, .slice (some ⟨g, o + 12, none⟩) (6) (6))]) (s := 1) (zc := fun _ => .slice none 0 0) (y := ovr (ovr (ovr (fun j => .slice none 0 0) (0 * 1) 1 (fun _ => .slice (some ⟨g, o, none⟩) (6) (6))) (1 * 1) 1 (fun _ => .slice (some ⟨g, o + 6, none⟩) (6) (6))) (2 * 1) 1 (fun _ => .slice (some ⟨g, o + 12, none⟩) (6) (6))) (by rfl) rfl rfl Try.underlying70 (by kernel_rfl) (by rfl) (by rfl) (by kernel_rfl) (by rw [fill_step (off := 0 * 1) (s := 1) (y := fun _ => .slice (some ⟨g, o, none⟩) (6) (6)) rfl (cells_one (by rfl)) (by rfl)]; rw [fill_step (off := 1 * 1) (s := 1) (y := fun _ => .slice (some ⟨g, o + 6, none⟩) (6) (6)) rfl (cells_one (by rfl)) (by rfl)]; rw [fill_step (off := 2 * 1) (s := 1) (y := fun _ => .slice (some ⟨g, o + 12, none⟩) (6) (6)) rfl (cells_one (by rfl)) (by rfl)]; rfl) rfl fun g1 w1 eg1 m1 s2 z1 => ?_)))))))))))))
 have b2 := KTk1 s2.old b1
 have lg1 := KGk eg1 b1.size
 have tg1 := m1.lt
 refine Ln ⟨s2.old, ?_⟩
 refine KRq (Ksl g1 3 3) (KRend (Ws (Ws ?_)))
 have m2 : Fx.Own w1 w.heap.size 73 1 (Ksl g1 3 3) 3 (rowsX g o) := Fx.Blk.own (cap := 3) m1 lg1 (by omega) (by decide) (fun p hp => match p, hp with | 0, _ => rfl | 1, _ => rfl | 2, _ => rfl | p + 3, h => absurd h (by omega))
 refine Wl (KLq (Ki6 0) (KLe (Wb (Wo (fun f w_ => ∃ i : Nat, ∃ ao : Option Addr, ∃ co : Nat, i ≤ 6 ∧ f 0 = (pf g o) ∧ f 3 = .slice ao (i + 3) (co) ∧ f 18 = Ki6 ((i : Int)) ∧ Fx.Own w_ w.heap.size 73 1 (.slice ao (i + 3) (co)) (i + 3) (rowsX g o) ∧ Below w.heap.size w w_) (fun f _ => (6 - (intOf (f 18)).toNat)) ⟨0, (some ⟨g1, 0, none⟩), 3, by omega, (by rfl), (by rfl), Fx.ic, m2, b2⟩ ?_))))
 rintro f1 w2 ⟨i, ao, co, hi, h1, h2, h3, m3, b3⟩
 refine KWsl ?_
 by_cases c19 : (i : Int) < 6
 ·refine Lv KbT (KltT c19 (hx := h3)) (KLe (Ws (KWcT (Wk (sN (Ws (Wb (KWsl (KLh h3 (KLq (Ki6 i) (KLe (Wl (KLh h2 (KLh h1 (KLq (Ki6 i) (KLq ((pf g o)) (KLq ((pf g (o + 18))) (Lv ((pf g (6 * i + o + 18))) (Kxj 6 6) (Lv (.slice (some ⟨g, 6 * i + o + 18, none⟩) (6) (6)) (Fx.x_sliceArr rfl rfl Try.underlying45 (s := 1) (by kernel_rfl)) (Lbs (vs := [(0, .slice (some ⟨g, 6 * i + o + 18, none⟩) (6) (6))]) (s := 1) (zc := fun _ => .slice none 0 0) (y := ovr (fun j => .slice none 0 0) (0 * 1) 1 (fun _ => .slice (some ⟨g, 6 * i + o + 18, none⟩) (6) (6))) (by rfl) rfl rfl Try.underlying70 (by kernel_rfl) (by rfl) (by rfl) (by kernel_rfl) (by rw [fill_step (off := 0 * 1) (s := 1) (y := fun _ => .slice (some ⟨g, 6 * i + o + 18, none⟩) (6) (6)) rfl (cells_one (by rfl)) (by rfl)]; rfl) rfl fun g2 w3 eg2 m4 s3 z2 => ?_))))))))))))))))))))
  have ⟨m5, b4⟩ := KTk2 s3.old m3 b3
  have lg2 := KGk eg2 b3.size
  have ng2m5 : (.slice ao (i + 3) (co) : Value).ownBlock ≠ some g2 := by rw [eg2]; exact m3.notNew (Nat.le_refl _)
  have tg2 := m4.lt
  refine Lap (B := w.heap.size) (s := 1) (bytes := 24) (k := i + 3) (m := 1) (v := .slice ao (i + 3) (co)) (x := rowsX g o) (by rfl) rfl rfl rfl Try.underlying70 (by kernel_rfl) (by kernel_rfl) rfl rfl m5 m4.cel (fun j hj => by unfold ovr; rw [if_pos ⟨by omega, by omega⟩]; rfl) (by omega) (by omega) (by omega) b4.size fun g3 cap1 w4 ho1 hg1 hgv1 hlt1 => ?_
  have m6 : Fx.Own w4 w.heap.size 73 1 (Ksl g3 (i + 4) cap1) (i + 4) (rowsX g o) := (ho1.congr (rows_app (by omega)))
  have b5 : Below w.heap.size w w4 := bGr b4 hg1 b4.size (fun q hq => (m5.ge hq).1)
  refine KLq (Ksl g3 (i + 4) cap1) (Ln (blkN (sN (Wl (Lv (Ki6 ((i : Int) + 1)) (KxP (hx := h3)) (KLq (Ki6 ((i : Int) + 1)) (Ln ?_)))))))
  skip
  refine lpN ⟨i + 1, (some ⟨g3, 0, none⟩), cap1, by omega, h1, (by rfl), Fx.ic, m6, b5⟩ ?_
  show (6 - (intOf ((Ki6 ((i : Int) + 1)))).toNat) < _
  simp only [h3, intOf]; omega
 refine Lv KbF (KltF c19 (hx := h3)) (KLe (Ws (KWcF (Wx (seqX (lpX (blkX (sN (KWsl (KLh h2 (KLq (.slice ao (i + 3) (co)) (KLe (Wr (Kret (.slice ao (i + 3) (co)) (⟨ao, co, by rw [show i + 3 = 9 by omega], ?_, b3⟩)))))))))))))))
 have q9 := m3
 rw [show i + 3 = 9 by omega] at q9; exact q9
end Go.Proofs.Ytkajcjefckjijaa
namespace Go.Proofs.Ytkajcjefckjijaa
namespace Crc
theorem and1 (s : W32) : (s &&& 1#32 = 1#32) ↔ s.getLsbD 0 = true := by
  constructor
  · intro h
    have : (s &&& 1#32).getLsbD 0 = (1#32).getLsbD 0 := by rw [h]
    simpa using this
  intro h
  rcases and_one s with h0 | h1
  · exfalso
    have : (s &&& 1#32).getLsbD 0 = (0#32).getLsbD 0 := by rw [h0]
    rw [BitVec.getLsbD_and, h] at this
    exact absurd this (by decide)
  exact h1
theorem stp_bit (s : W32) : stp s = (s >>> 1) ^^^ (if s.getLsbD 0 = true then pat else 0#32) := by
  unfold stp
  by_cases h : s.getLsbD 0 = true
  · rw [if_pos ((and1 s).2 h), if_pos h]
  rw [if_neg (fun e => h ((and1 s).1 e)), if_neg h]
theorem stp_xor (a b : W32) : stp (a ^^^ b) = stp a ^^^ stp b := by
  rw [stp_bit, stp_bit, stp_bit, BitVec.getLsbD_xor, BitVec.ushiftRight_xor_distrib]
  generalize a >>> 1 = x
  generalize b >>> 1 = y
  cases a.getLsbD 0 <;> cases b.getLsbD 0
  · simp
  · simp only [if_true, if_false, Bool.false_eq_true, BitVec.xor_zero, Bool.false_xor]; ac_rfl
  · simp only [if_true, if_false, Bool.false_eq_true, BitVec.xor_zero, Bool.xor_false]; ac_rfl
  simp only [if_true, if_false, Bool.false_eq_true, Bool.xor_self]
  calc x ^^^ y ^^^ 0#32 = x ^^^ y ^^^ (pat ^^^ pat) := by rw [BitVec.xor_self]
    _ = x ^^^ pat ^^^ (y ^^^ pat) := by ac_rfl
theorem rstep_bit (s : W32) (y : W32) : rstep s (y &&& 1#32) = stp (s ^^^ (y &&& 1#32)) := by
  have hs : (s ^^^ (y &&& 1#32)) >>> 1 = s >>> 1 := by
    rw [BitVec.ushiftRight_xor_distrib]
    rcases and_one y with h | h <;> rw [h] <;> simp
  have hb : (s ^^^ (y &&& 1#32)) &&& 1#32 = (s &&& 1#32) ^^^ (y &&& 1#32) := by
    ext i hi; simp only [BitVec.getElem_and, BitVec.getElem_xor]; cases s[i] <;> cases y[i] <;> cases (1#32)[i] <;> rfl
  unfold rstep stp
  rw [hs, hb]
  by_cases h : (s &&& 1#32) ^^^ (y &&& 1#32) = 1#32
  · rw [if_pos h, if_pos h]
  rw [if_neg h, if_neg h, BitVec.xor_zero]
theorem stp_even (y : W32) : stp ((y >>> 1) <<< 1) = y >>> 1 := by
  rw [stp_bit, if_neg (by simp), BitVec.xor_zero]
  apply BitVec.eq_of_toNat_eq
  simp [Nat.shiftRight_eq_div_pow, Nat.shiftLeft_eq]
  have := y.isLt
  omega
theorem split1 (y : W32) : y = (y &&& 1#32) ^^^ ((y >>> 1) <<< 1) := by
  ext i hi
  rw [BitVec.getElem_xor, BitVec.getElem_and, BitVec.getElem_shiftLeft]
  by_cases h : i = 0
  · subst h; simp
  rw [show (1#32)[i] = false by rw [BitVec.getElem_one]; simp [h], show decide (i < 1) = false by simp; omega]
  simp only [Bool.and_false, Bool.false_xor, Bool.not_false, Bool.true_and, BitVec.getElem_ushiftRight]
  rw [← BitVec.getLsbD_eq_getElem]
  congr 1; omega
theorem rbyteN_eq (c : UInt8) (s : W32) : ∀ n, stpN n (s ^^^ B c) = rbyteN c n s ^^^ (B c >>> n)
  | 0 => by rw [BitVec.ushiftRight_zero]; rfl
  | n + 1 => by
    rw [stpN, rbyteN_eq c s n, rbyteN, rstep_bit, BitVec.shiftRight_add]
    generalize B c >>> n = y
    generalize rbyteN c n s = r
    calc stp (r ^^^ y) = stp ((r ^^^ (y &&& 1#32)) ^^^ ((y >>> 1) <<< 1)) := by rw [BitVec.xor_assoc, ← split1]
      _ = stp (r ^^^ (y &&& 1#32)) ^^^ y >>> 1 := by rw [stp_xor, stp_even]
theorem byteStep_eq (s : W32) (c : UInt8) : byteStep s c = rbyte s c := by
  unfold byteStep rbyte
  rw [rbyteN_eq]
  have : B c >>> 8 = 0#32 := by
    apply BitVec.eq_of_toNat_eq
    unfold B
    simp [Nat.shiftRight_eq_div_pow]
    have := c.toNat_lt
    omega
  rw [this, BitVec.xor_zero]
theorem more_eq (s : W32) (l : List UInt8) : more s l = rmore s l := by
  unfold more rmore
  congr 2
  funext s c; exact byteStep_eq s c
theorem sum_eq (l : List UInt8) : sum l = rsum l := more_eq _ l
end Crc
end Go.Proofs.Ytkajcjefckjijaa
namespace Go.Proofs.Ytkajcjefckjijaa
open Go.RowKit Crc
attribute [local go_sem] signed_u32 bnotm bxor band bxorb bone bshr bpat stp_mul stp_walk wrap_I wrap_J bshb
set_option maxHeartbeats 400000 in
theorem stepped_any (s : W32) (w : World) :
    Calls Try.prog 83 #[.int .u32 (I s)] w fun e w' => e = .returned (.int .u32 (I (stpN 8 s))) ∧ w' = w := by
  go_enter Try.func83, Try.ntmps83
  go_wp2
  go_loop [0, 3] (fun v i => ∃ k : Nat, k ≤ 8 ∧ i = .int .i64 k ∧ v = .int .u32 (I (stpN k s))) (fun _ i => 8 - (intOf i).toNat)
  case atStart => exact ⟨0, Nat.zero_le _, rfl, rfl⟩
  case round =>
    obtain ⟨k, hk, rfl, rfl⟩ := hrel
    by_cases hlt : k < 8
    · go_wp2
      go_round
      case rel => exact ⟨k + 1, by omega, by go_num, rfl⟩
      case measure => simp [intOf]; omega
    · obtain rfl : k = 8 := by omega
      go_wp2
      go_ret
      exact ⟨rfl, rfl⟩
set_option maxHeartbeats 400000 in
theorem more_any (s : W32) (a : Option Addr) (len cap : Nat) (bs : List UInt8) (w : World)
  (hlen : len ≤ 140737488355328) (hbs : bs.length = len) (hr : Rd w a bs) :
    Calls Try.prog 77 #[.int .u32 (I s), .slice a len cap] w fun e w' => e = .returned (.int .u32 (I (more s bs))) ∧ w' = w := by
  have Hbs : Hid (bs.length = len) := hbs
  clear hbs
  go_enter Try.func77, Try.ntmps77
  go_wp2
  go_loop [5, 12] (fun v i => ∃ k : Nat, k ≤ len ∧ i = .int .i64 k ∧ v = .int .u32 (I ((bs.take k).foldl byteStep (~~~ s)))) (fun _ i => len - (intOf i).toNat)
  case atStart => exact ⟨0, Nat.zero_le _, rfl, rfl⟩
  case round =>
    obtain ⟨k, hk, rfl, rfl⟩ := hrel
    by_cases hlt : k < len
    · have hk' : k < bs.length := by rw [Hbs.out]; exact hlt
      have HT : Hid ((bs.take (k + 1)).foldl byteStep (~~~ s) = byteStep ((bs.take k).foldl byteStep (~~~ s)) bs[k]) := take_succ_foldl _ _ _ _ hk'
      obtain ⟨b, off, rfl, hc⟩ := rd_at hr k hk'
      clear hr
      go_wp2_with (go_at_call 83; refine (stepped_any _ _).mono ?_; rintro e w' ⟨rfl, rfl⟩)
      go_round
      case rel => exact ⟨k + 1, by omega, by go_num, by rw [HT.out]; rfl⟩
      case measure => simp [intOf]; omega
    · have hm := more_all s bs k (by rw [Hbs.out]; exact hlt)
      have Hm : Hid (_ = _) := hm
      clear hm
      go_wp2
      go_ret
      rw [Hm.out]
      exact ⟨rfl, rfl⟩
set_option maxHeartbeats 400000 in
theorem csum_any (a : Option Addr) (len cap : Nat) (bs : List UInt8) (w : World)
  (hlen : len ≤ 140737488355328) (hbs : Hid (bs.length = len)) (hr : Rd w a bs) :
    Calls Try.prog 53 #[.slice a len cap] w fun e w' => e = .returned (.int .u32 (I (sum bs))) ∧ w' = w := by
  go_enter Try.func53, Try.ntmps53
  go_wp2_with (go_at_call 77; refine (more_any 0#32 a len cap bs _ hlen hbs.out hr).mono ?_; rintro e w' ⟨rfl, rfl⟩)
  go_ret
  exact ⟨rfl, rfl⟩
set_option maxHeartbeats 400000 in
theorem rstep_any (s x : W32) (w : World) :
    Calls Try.prog 78 #[.int .u32 (I s), .int .u32 (I x)] w fun e w' => e = .returned (.int .u32 (I (rstep s x))) ∧ w' = w := by
  go_enter Try.func78, Try.ntmps78
  go_wp2
  · have h : (I (s &&& 1#32 ^^^ x) == 1) = true := by assumption
    have Hh : Hid _ := rstep_hi s x h
    go_ret
    rw [← Hh.out]; exact ⟨rfl, rfl⟩
  have h : (I (s &&& 1#32 ^^^ x) == 1) = false := by assumption
  have Hh : Hid _ := rstep_lo s x h
  go_ret
  rw [← Hh.out]; exact ⟨rfl, rfl⟩
set_option maxHeartbeats 400000 in
theorem rmore_any (s : W32) (a : Option Addr) (len cap : Nat) (bs : List UInt8) (w : World)
  (hlen : len ≤ 140737488355328) (hbs : bs.length = len) (hr : Rd w a bs) :
    Calls Try.prog 57 #[.int .u32 (I s), .slice a len cap] w fun e w' => e = .returned (.int .u32 (I (rmore s bs))) ∧ w' = w := by
  have Hbs : Hid (bs.length = len) := hbs
  clear hbs
  go_enter Try.func57, Try.ntmps57
  go_wp2
  go_loop [5, 6] (fun v i => ∃ k : Nat, k ≤ len ∧ i = .int .i64 k ∧ v = .int .u32 (I ((bs.take k).foldl rbyte (~~~ s)))) (fun _ i => len - (intOf i).toNat)
  case atStart => exact ⟨0, Nat.zero_le _, rfl, rfl⟩
  case round =>
    obtain ⟨k, hk, rfl, rfl⟩ := hrel
    by_cases hlt : k < len
    · have hk' : k < bs.length := by rw [Hbs.out]; exact hlt
      have HT : Hid ((bs.take (k + 1)).foldl rbyte (~~~ s) = rbyte ((bs.take k).foldl rbyte (~~~ s)) bs[k]) := take_succ_foldl _ _ _ _ hk'
      obtain ⟨b, off, rfl, hc⟩ := rd_at hr k hk'
      clear hr
      generalize (bs.take k).foldl rbyte (~~~ s) = s0 at *
      generalize bs[k] = c at *
      go_wp2
      go_loop [5, 7] (fun v i => ∃ m : Nat, m ≤ 8 ∧ i = .int .i64 m ∧ v = .int .u32 (I (rbyteN c m s0))) (fun _ i => 8 - (intOf i).toNat)
      case atStart => exact ⟨0, Nat.zero_le _, rfl, rfl⟩
      case round =>
        obtain ⟨m, hm, rfl, rfl⟩ := hrel
        by_cases hlm : m < 8
        · go_wp2_with (go_at_call 78; refine (rstep_any _ _ _).mono ?_; rintro e w' ⟨rfl, rfl⟩)
          go_round
          case rel => exact ⟨m + 1, by omega, by go_num, rfl⟩
          case measure => simp [intOf]; omega
        · obtain rfl : m = 8 := by omega
          go_wp2
          go_round
          case rel => exact ⟨k + 1, by omega, by go_num, by rw [HT.out]; rfl⟩
          case measure => simp [intOf]; omega
    · have hm := rmore_all s bs k (by rw [Hbs.out]; exact hlt)
      have Hm : Hid (_ = _) := hm
      clear hm
      go_wp2
      go_ret
      rw [Hm.out]
      exact ⟨rfl, rfl⟩
set_option maxHeartbeats 400000 in
theorem rsum_any (a : Option Addr) (len cap : Nat) (bs : List UInt8) (w : World)
  (hlen : len ≤ 140737488355328) (hbs : Hid (bs.length = len)) (hr : Rd w a bs) :
    Calls Try.prog 19 #[.slice a len cap] w fun e w' => e = .returned (.int .u32 (I (rsum bs))) ∧ w' = w := by
  go_enter Try.func19, Try.ntmps19
  go_wp2_with (go_at_call 57; refine (rmore_any 0#32 a len cap bs _ hlen hbs.out hr).mono ?_; rintro e w' ⟨rfl, rfl⟩)
  go_ret
  exact ⟨rfl, rfl⟩
theorem rd_arr {w : World} {a : Option Addr} {n : Nat} {l : List UInt8} (h : Fx.Arr w a n 1 (Fx.byY l)) (hn : n = l.length) : Rd w a l := fun k hk => by
  subst hn
  obtain ⟨b, off, e, hc⟩ := h (by omega)
  refine ⟨b, off, e, ?_⟩
  rw [hc k (by omega)]
  unfold Fx.byY J
  rw [List.getD_eq_getElem?_getD, List.getElem?_eq_getElem hk]; rfl
theorem c_sum {a : Option Addr} {n c : Nat} {l : List UInt8} {w : World} (hn : n = l.length) (hl : n ≤ 100000000) (h : Fx.Arr w a n 1 (Fx.byY l)) :
    Calls Try.prog 53 #[.slice a n c] w fun e w' => e = .returned (.int .u32 (I (sum l))) ∧ Below w.heap.size w w' :=
  (csum_any a n c l w (by omega) hn.symm (rd_arr h hn)).mono fun e w' ⟨he, hw⟩ => ⟨he, by rw [hw]; exact Below.refl _ _⟩
theorem r_sum {a : Option Addr} {n c : Nat} {l : List UInt8} {w : World} (hn : n = l.length) (hl : n ≤ 100000000) (h : Fx.Arr w a n 1 (Fx.byY l)) :
    Calls Try.prog 19 #[.slice a n c] w fun e w' => e = .returned (.int .u32 (I (sum l))) ∧ Below w.heap.size w w' :=
  (rsum_any a n c l w (by omega) hn.symm (rd_arr h hn)).mono fun e w' ⟨he, hw⟩ => ⟨by rw [he, sum_eq], by rw [hw]; exact Below.refl _ _⟩
end Go.Proofs.Ytkajcjefckjijaa
namespace Go.Proofs.Ytkajcjefckjijaa
open Go.RowKit Rt
open Fx (x_move x_assign x_field x_load1 x_conv x_indexS x_index x_leqF x_loadA x_len x_gtrF x_eqlF x_eqlT Lv sN Ln Ws Qv Wl Rp Wc Qs Wr Sb Lk Wk rV sR Rs Rn Rd Rk Wb Wx Wo WoE Wt Wone Qn Qcl Lcl Lbs Lap Lnw Lbx Stv cOs cOg sRf mRf gRf cRf oNl bGr WsJ Wro rv varr Blk ovr putI ev Stp ovr_all flat updV Mp run_loadV Cel fill_step ret0 Chg i64e Arr flat_cong cells_agg cells_one ChT ovr_ones jnN u64e appX fOne_out upd_all blkR blkN seqX blkX lpX lpN lpR retV2)
set_option linter.unusedVariables false
namespace Fx
theorem Blk.arrAt {w : World} {g n off k : Nat} {x y : Nat → Value} {T : TypeId} (h : Blk w g n x T) (hk : off + k ≤ n) (e : ∀ j, j < k → x (off + j) = y j) : Arr w (some ⟨g, off, none⟩) k 1 y := fun _ => ⟨g, off, rfl, fun j hj => by
  have := h.cel (off + j) (by omega)
  rw [e j (by omega), Nat.zero_add] at this; exact this⟩
end Fx
namespace Rt
def two (a b : Int) : Nat → Int := fun i => if i = 0 then a else b
def four (a b c d : Int) : Nat → Int := fun i => if i = 0 then a else if i = 1 then b else if i = 2 then c else d
def lsnp : List UInt8 := [76, 83, 78, 80]
def P1 (m : SnM) (i : Nat) : List UInt8 := lsnp ++ (flagsB m).take i
def hdB (m : SnM) : List UInt8 := lsnp ++ flagsB m ++ rowB m.known 6 ++ be 2 m.ns.length
def P2 (m : SnM) (k : Nat) : List UInt8 := hdB m ++ (m.ns.take k).flatMap ndB
def P3 (m : SnM) (k q : Nat) : List UInt8 := P2 m k ++ (rowB (two (ndA m.ns k).id (ndA m.ns k).par) 2 ++ rowB (ndA m.ns k).R (6 * q))
def P4 (m : SnM) (k : Nat) : List UInt8 := hdB m ++ m.ns.flatMap ndB ++ be 2 m.gs.length ++ (m.gs.take k).flatMap grB
theorem flags_len (m : SnM) : (flagsB m).length = 6 := by unfold flagsB; simp
theorem flags_get (m : SnM) {i : Nat} (h : i < 6) : (flagsB m)[i]? = some (flag (m.inn i) (m.left i)) := by unfold flagsB; rw [List.getElem?_map, List.getElem?_range h]; rfl
theorem P1_0 (m : SnM) : P1 m 0 = lsnp := by unfold P1; rw [List.take_zero, List.append_nil]
theorem P1_s (m : SnM) {i : Nat} (h : i < 6) : P1 m (i + 1) = P1 m i ++ [flag (m.inn i) (m.left i)] := by unfold P1; rw [List.take_add_one, flags_get m h, List.append_assoc]; rfl
theorem P1_len (m : SnM) {i : Nat} (h : i ≤ 6) : (P1 m i).length = i + 4 := by unfold P1; rw [List.length_append, List.length_take, flags_len]; show 4 + min i 6 = _; omega
theorem P1_6 (m : SnM) : P1 m 6 = lsnp ++ flagsB m := by unfold P1; rw [List.take_of_length_le (by rw [flags_len]; exact Nat.le_refl _)]
theorem fl_app {m : SnM} {i : Nat} {v : Int} {z : Nat → Value} (hi : i < 6) (hv : v = ((flag (m.inn i) (m.left i)).toNat : Int)) : ∀ q, q < (i + 4 + 1) * 1 → appX (Fx.byY (P1 m i)) ((i + 4) * 1) (ovr z (0 * 1) 1 (fun _ => .int .u8 v)) q = Fx.byY (P1 m (i + 1)) q := by
  subst hv; rw [P1_s m hi]; exact byY_app1 (P1_len m (by omega)).symm
theorem rowB_cut (x : Nat → Int) (a : Nat) : ∀ b, rowB x (a + b) = rowB x a ++ rowB (fun j => x (a + j)) b
  | 0 => by rw [Nat.add_zero]; exact (List.append_nil _).symm
  | b + 1 => by rw [← Nat.add_assoc, rowB_succ, rowB_succ, rowB_cut x a b, List.append_assoc]
theorem P2_0 (m : SnM) : P1 m 6 ++ rowB m.known 6 ++ be 2 m.ns.length = P2 m 0 := by unfold P2 hdB; rw [P1_6, List.take_zero]; exact (List.append_nil _).symm
theorem P3_0 (m : SnM) (k : Nat) : P2 m k ++ rowB (two (ndA m.ns k).id (ndA m.ns k).par) 2 = P3 m k 0 := by unfold P3; rw [Nat.mul_zero]; exact congrArg _ (List.append_nil _).symm
theorem P3_s (m : SnM) (k q : Nat) : P3 m k q ++ rowB (fun j => (ndA m.ns k).R (6 * q + j)) 6 = P3 m k (q + 1) := by unfold P3; rw [Nat.mul_succ, rowB_cut, List.append_assoc, List.append_assoc]
theorem two_row (a b : Int) : rowB (two a b) 2 = be 8 a ++ be 8 b := rowB_succ _ _ ▸ rfl
theorem nd_row (x : NdM) : rowB (two x.id x.par) 2 ++ rowB x.R 54 = ndB x := by rw [two_row]; rfl
theorem take_nd {l : List NdM} {k : Nat} (h : k < l.length) : l.take (k + 1) = l.take k ++ [ndA l k] := by
  unfold ndA; rw [List.take_add_one, List.getElem?_eq_getElem h, List.getD_eq_getElem?_getD, List.getElem?_eq_getElem h]; rfl
theorem take_gr {l : List GrM} {k : Nat} (h : k < l.length) : l.take (k + 1) = l.take k ++ [grA l k] := by
  unfold grA; rw [List.take_add_one, List.getElem?_eq_getElem h, List.getD_eq_getElem?_getD, List.getElem?_eq_getElem h]; rfl
theorem P3_9 (m : SnM) {k : Nat} (h : k < m.ns.length) : P3 m k 9 = P2 m (k + 1) := by
  unfold P3 P2; rw [take_nd h, List.flatMap_append, nd_row]; simp
theorem ndB_len (x : NdM) : (ndB x).length = 448 := by rw [← nd_row, List.length_append, rowB_len, rowB_len]
theorem four_row (a b c d : Int) : rowB (four a b c d) 4 = be 8 a ++ be 8 b ++ be 8 c ++ be 8 d := by rw [rowB_succ, rowB_succ, rowB_succ, rowB_succ]; rfl
theorem grB_len (g : GrM) : (grB g).length = 33 := by unfold grB; simp [be_len]
theorem fm_len {α : Type} {f : α → List UInt8} {c : Nat} (h : ∀ x, (f x).length = c) : ∀ (l : List α), (l.flatMap f).length = c * l.length
  | [] => by simp
  | x :: l => by rw [List.flatMap_cons, List.length_append, h, fm_len h l, List.length_cons, Nat.mul_succ]; omega
theorem hd_len (m : SnM) : (hdB m).length = 60 := by unfold hdB; rw [List.length_append, List.length_append, List.length_append, flags_len, rowB_len, be_len]; rfl
theorem P2_len (m : SnM) {k : Nat} (h : k ≤ m.ns.length) : (P2 m k).length = 60 + 448 * k := by unfold P2; rw [List.length_append, hd_len, fm_len ndB_len, List.length_take]; omega
theorem P3_len (m : SnM) {k q : Nat} (h : k ≤ m.ns.length) : (P3 m k q).length = 76 + 448 * k + 48 * q := by unfold P3; rw [List.length_append, P2_len m h, List.length_append, rowB_len, rowB_len]; omega
theorem P4_0 (m : SnM) : P2 m m.ns.length ++ be 2 m.gs.length = P4 m 0 := by unfold P2 P4; rw [List.take_length, List.take_zero]; exact (List.append_nil _).symm
theorem P4_len (m : SnM) {k : Nat} (h : k ≤ m.gs.length) : (P4 m k).length = 62 + 448 * m.ns.length + 33 * k := by unfold P4; rw [List.length_append, List.length_append, List.length_append, hd_len, fm_len ndB_len, be_len, fm_len grB_len, List.length_take]; omega
theorem P4_s (m : SnM) {k : Nat} (h : k < m.gs.length) : P4 m k ++ [byI (grA m.gs k).o] ++ rowB (four (grA m.gs k).r (grA m.gs k).n (grA m.gs k).a (grA m.gs k).b) 4 = P4 m (k + 1) := by
  unfold P4; rw [take_gr h, List.flatMap_append, four_row]; simp [grB]
theorem P4_e (m : SnM) : P4 m m.gs.length = bodyB m := by unfold P4; rw [List.take_length]; rfl
theorem two_u {a b : Int} (ha : U64r a) (hb : U64r b) : ∀ i, i < 2 → 0 ≤ two a b i ∧ two a b i ≤ 18446744073709551615 := fun i _ => by unfold two; split <;> assumption
theorem four_u {a b c d : Int} (ha : U64r a) (hb : U64r b) (hc : U64r c) (hd : U64r d) : ∀ i, i < 4 → 0 ≤ four a b c d i ∧ four a b c d i ≤ 18446744073709551615 := fun i _ => by
  unfold four
  repeat' split
  all_goals assumption
theorem by_o {x : Int} (h : 0 ≤ x) : IntKind.u8.wrap x = ((byI x).toNat : Int) := by have := by8 (x := x) (i := 0) (sh := 0) h rfl; simpa using this
theorem putB_n {m : SnM} (h : mayS m = false) : putB m = [] := by unfold putB; rw [if_neg (fun q => by rw [mayS_y q] at h; cases h)]
theorem putB_y {m : SnM} (h : MayP m) : putB m = bytesB m := by unfold putB; rw [if_pos h]
theorem body_len (m : SnM) : (bodyB m).length = 62 + 448 * m.ns.length + 33 * m.gs.length := by rw [← P4_e, P4_len m (Nat.le_refl _)]
theorem crc_u (x : Crc.W32) : 0 ≤ Crc.I x ∧ Crc.I x < 256 ^ 4 := by
  unfold Crc.I
  have := x.isLt
  exact ⟨by omega, by rw [show (256 : Int) ^ 4 = 4294967296 by decide]; omega⟩
end Rt
set_option maxRecDepth 20000 in
theorem s_put (m : SnM) (na : Option Addr) (nc : Nat) (ga : Option Addr) (gc : Nat) (w : World) (hm : StW w m na nc ga gc) :
    Calls Try.prog 14 #[.agg (varr 20 (stY (stS m na nc ga gc)))] w fun e w' => ∃ a c, e = .returned (.slice a (putB m).length c) ∧ Fx.Own w' w.heap.size 5 1 (.slice a (putB m).length c) (putB m).length (Fx.byY (putB m)) ∧ Below w.heap.size w w' := by
 have hn := hm.n
 have hg := hm.g
 have hl1 := hm.l1
 have hl2 := hm.l2
 refine Kent Try.func14 105 ?_
 refine KWsl (KLb fun g1 w1 eg1 m1 s1 z1 => ?_)
 have b1 := KTk1 s1.old (Below.refl w.heap.size w)
 have lg1 := KGk0 eg1
 have tg1 := m1.lt
 refine KLq (.slice none 0 0) (KLe (Ws (KWsl (Lv (.agg (varr 20 (stY (stS m na nc ga gc)))) (KxA m1.cel 0) ?_))))
 by_cases c13 : (mayS m) = true
 ·refine KLc1 (s_may m na nc ga gc _ hm.r.k hm.l1 hm.l2 (hm.up b1).n (hm.up b1).g) KbT (by rw [c13]) ?_
  intro w2 hb1
  have ⟨m2, b2⟩ := KTk2 hb1 m1 b1
  refine KLq KbF (KLe (KWcF (Wk (sN (Ws ?_)))))
  have hM := mayS_iff.1 c13
  have hnn := hM.nn
  have hgn := hM.gn
  refine Wl (Lbs (vs := [(0, .int .u8 (76)), (1, .int .u8 (83)), (2, .int .u8 (78)), (3, .int .u8 (80))]) (s := 1) (zc := rv .u8 (fun _ => 0)) (y := ovr (ovr (ovr (ovr (fun j => (rv .u8 (fun _ => 0)) (j % 1)) (0 * 1) 1 (fun _ => .int .u8 (76))) (1 * 1) 1 (fun _ => .int .u8 (83))) (2 * 1) 1 (fun _ => .int .u8 (78))) (3 * 1) 1 (fun _ => .int .u8 (80))) (by rfl) rfl rfl Try.underlying30 (by kernel_rfl) (by rfl) (by rfl) (by kernel_rfl) (by rw [fill_step (off := 0 * 1) (s := 1) (y := fun _ => .int .u8 (76)) rfl (cells_one (by rfl)) (by rfl)]; rw [fill_step (off := 1 * 1) (s := 1) (y := fun _ => .int .u8 (83)) rfl (cells_one (by rfl)) (by rfl)]; rw [fill_step (off := 2 * 1) (s := 1) (y := fun _ => .int .u8 (78)) rfl (cells_one (by rfl)) (by rfl)]; rw [fill_step (off := 3 * 1) (s := 1) (y := fun _ => .int .u8 (80)) rfl (cells_one (by rfl)) (by rfl)]; rfl) rfl fun g2 w3 eg2 m3 s3 z2 => ?_)
  have ⟨m4, b3⟩ := KTk2 s3.old m2 b2
  have lg2 := KGk eg2 b2.size
  have ng2m4 := KNk1 eg2 m2.lt
  have tg2 := m3.lt
  refine Fx.L.mark (g := g2) (m := 4) (q := 4) (c := 4) (y := ovr (ovr (ovr (ovr (fun j => (rv .u8 (fun _ => 0)) (j % 1)) (0 * 1) 1 (fun _ => .int .u8 (76))) (1 * 1) 1 (fun _ => .int .u8 (83))) (2 * 1) 1 (fun _ => .int .u8 (78))) (3 * 1) 1 (fun _ => .int .u8 (80))) (by rfl) (by rfl) rfl rfl Try.underlying30 Try.underlying5 m3 fun w4 hmk1 s4 => ?_
  have hct1 := cOs s4 m3.ty
  have m5 := KCk1 hct1 m4
  have b4 := s4.below b3 b3.size (by omega)
  have m6 : Fx.Apd w4 w.heap.size 5 (some ⟨g2, 0, none⟩) 4 4 (Fx.byY (P1 m 0)) := .inr ⟨rfl, rfl, g2, rfl, lg2, hmk1.to (fun j hj => by rw [P1_0]; exact (match j, hj with | 0, _ => rfl | 1, _ => rfl | 2, _ => rfl | 3, _ => rfl | j + 4, h => absurd h (by omega)))⟩
  refine KLq (.slice (some ⟨g2, 0, none⟩) (4) (4)) (KLe (Ws (KWsl (KLq (Ki6 0) (KLe (Wb (Wo (fun f w_ => ∃ i : Nat, ∃ ao : Option Addr, ∃ co : Nat, i ≤ 6 ∧ f 1 = .pointer (some ⟨g1, 0, none⟩) ∧ f 3 = .slice ao (i + 4) (co) ∧ f 17 = .int .i64 ((i : Int)) ∧ Blk w_ g1 20 (stY (stS m na nc ga gc)) 29 ∧ Fx.Apd w_ w.heap.size 5 ao (i + 4) co (Fx.byY (P1 m i)) ∧ Below w.heap.size w w_) (fun f _ => (6 - (intOf (f 17)).toNat)) ⟨0, (some ⟨g2, 0, none⟩), 4, by omega, (by rfl), (by rfl), (by first | rfl | exact congrArg (Value.int .i64) (by omega)), m5, m6, b4⟩ ?_)))))))
  rintro f1 w5 ⟨i, ao, co, hi, h1, h2, h3, m7, m8, b5⟩
  refine KWsl ?_
  by_cases c18 : (i : Int) < 6
  ·refine Lv KbT (KltT c18 (hx := h3)) (KLe (Ws (KWcT (Wk (sN (Ws (Wb (KWsl (KLh h3 (KLq (Ki6 i) (KLe (KWsl (KLq (.int .u8 (0)) (KLe (Ws (KWsl (KLq (Ki6 i) (Lv (.pointer (some ⟨g1, 0, none⟩)) (Kxf h1 0) (Lv (.pointer (some ⟨g1, i, none⟩)) (Kxj 6 1) ?_)))))))))))))))))))
   by_cases c23 : (m.inn i) = true
   ·refine Lv KbT (Kxl m7.cel i ((stY_in _ (by omega)).trans (congrArg Value.bool c23))) (KLe (KWcT (Wl (KLq (.int .u8 (0)) (Lv (.int .u8 (1)) (Fx.x_or rfl rfl rfl (by rfl)) (KLq (.int .u8 (1)) (KLe (Ws (KWsl (KLq (Ki6 i) (Lv (.pointer (some ⟨g1, 6, none⟩)) (Kxf h1 6) (Lv (.pointer (some ⟨g1, i + 6, none⟩)) (Kxj 6 1) ?_))))))))))))
    by_cases c29 : (m.left i) = true
    ·refine Lv KbT (Kxl m7.cel (i + 6) ((stY_left _ (by omega) (by omega)).trans (congrArg Value.bool c29))) (KLe (KWcT (Wl (KLq (.int .u8 (1)) (Lv (.int .u8 (3)) (Fx.x_or rfl rfl rfl (by rfl)) (KLq (.int .u8 (3)) (KLe (Wl (KLh h2 (KLq (.int .u8 (3)) (Lbs (vs := [(0, .int .u8 (3))]) (s := 1) (zc := rv .u8 (fun _ => 0)) (y := ovr (fun j => (rv .u8 (fun _ => 0)) (j % 1)) (0 * 1) 1 (fun _ => .int .u8 (3))) (by rfl) rfl rfl Try.underlying30 (by kernel_rfl) (by rfl) (by rfl) (by kernel_rfl) (by rw [fill_step (off := 0 * 1) (s := 1) (y := fun _ => .int .u8 (3)) rfl (cells_one (by rfl)) (by rfl)]; rfl) rfl fun g3 w6 eg3 m9 s5 z3 => ?_)))))))))))
     have ⟨m10, m11, b6⟩ := KTk3 s5.old m7 m8 b5
     have lg3 := KGk eg3 b5.size
     have ng3m10 := KNk1 eg3 m7.lt
     have tg3 := m9.lt
     refine Fx.L.appD (B := w.heap.size) (k := i + 4) (x := Fx.byY (P1 m i)) (by rfl) rfl rfl rfl Try.underlying30 (by kernel_rfl) (by kernel_rfl) rfl m11 m9.cel (fun j hj => by unfold ovr; rw [if_pos ⟨by omega, by omega⟩]; rfl) (by omega) b6.size b6 fun a1 cap1 w7 ho1 hct2 b7 => ?_
     have m12 := KCk1 hct2 m10
     have m13 : Fx.Apd w7 w.heap.size 5 a1 (i + 4 + 1) cap1 (Fx.byY (P1 m (i + 1))) := .inl (ho1.congr (fl_app (by omega) (by rw [c23, c29]; rfl)))
     refine KLq (.slice a1 (i + 4 + 1) (cap1)) (Ln (blkN (sN (Wl (Lv (Ki6 ((i : Int) + 1)) (KxP (hx := h3)) (KLq (Ki6 ((i : Int) + 1)) (Ln (lpN ⟨i + 1, a1, cap1, by omega, h1, (by rfl), (by first | rfl | exact congrArg (Value.int .i64) (by omega)), m12, m13, b7⟩ ?_))))))))
     show (6 - (intOf ((.int .i64 ((i : Int) + 1)))).toNat) < _
     simp only [h3, intOf]; omega
    rw [Bool.not_eq_true] at c29
    refine Lv KbF (Kxl m7.cel (i + 6) ((stY_left _ (by omega) (by omega)).trans (congrArg Value.bool c29))) (KLe (KWcF (Wk (sN (Wl (KLh h2 (KLq (.int .u8 (1)) (Lbs (vs := [(0, .int .u8 (1))]) (s := 1) (zc := rv .u8 (fun _ => 0)) (y := ovr (fun j => (rv .u8 (fun _ => 0)) (j % 1)) (0 * 1) 1 (fun _ => .int .u8 (1))) (by rfl) rfl rfl Try.underlying30 (by kernel_rfl) (by rfl) (by rfl) (by kernel_rfl) (by rw [fill_step (off := 0 * 1) (s := 1) (y := fun _ => .int .u8 (1)) rfl (cells_one (by rfl)) (by rfl)]; rfl) rfl fun g4 w8 eg4 m14 s6 z4 => ?_))))))))
    have ⟨m15, m16, b8⟩ := KTk3 s6.old m7 m8 b5
    have lg4 := KGk eg4 b5.size
    have ng4m15 := KNk1 eg4 m7.lt
    have tg4 := m14.lt
    refine Fx.L.appD (B := w.heap.size) (k := i + 4) (x := Fx.byY (P1 m i)) (by rfl) rfl rfl rfl Try.underlying30 (by kernel_rfl) (by kernel_rfl) rfl m16 m14.cel (fun j hj => by unfold ovr; rw [if_pos ⟨by omega, by omega⟩]; rfl) (by omega) b8.size b8 fun a2 cap2 w9 ho2 hct3 b9 => ?_
    have m17 := KCk1 hct3 m15
    have m18 : Fx.Apd w9 w.heap.size 5 a2 (i + 4 + 1) cap2 (Fx.byY (P1 m (i + 1))) := .inl (ho2.congr (fl_app (by omega) (by rw [c23, c29]; rfl)))
    refine KLq (.slice a2 (i + 4 + 1) (cap2)) (Ln (blkN (sN (Wl (Lv (Ki6 ((i : Int) + 1)) (KxP (hx := h3)) (KLq (Ki6 ((i : Int) + 1)) (Ln (lpN ⟨i + 1, a2, cap2, by omega, h1, (by rfl), (by first | rfl | exact congrArg (Value.int .i64) (by omega)), m17, m18, b9⟩ ?_))))))))
    show (6 - (intOf ((.int .i64 ((i : Int) + 1)))).toNat) < _
    simp only [h3, intOf]; omega
   rw [Bool.not_eq_true] at c23
   refine Lv KbF (Kxl m7.cel i ((stY_in _ (by omega)).trans (congrArg Value.bool c23))) (KLe (KWcF (Wk (sN (Ws (KWsl (KLq (Ki6 i) (Lv (.pointer (some ⟨g1, 6, none⟩)) (Kxf h1 6) (Lv (.pointer (some ⟨g1, i + 6, none⟩)) (Kxj 6 1) ?_)))))))))
   by_cases c29 : (m.left i) = true
   ·refine Lv KbT (Kxl m7.cel (i + 6) ((stY_left _ (by omega) (by omega)).trans (congrArg Value.bool c29))) (KLe (KWcT (Wl (KLq (.int .u8 (0)) (Lv (.int .u8 (2)) (Fx.x_or rfl rfl rfl (by rfl)) (KLq (.int .u8 (2)) (KLe (Wl (KLh h2 (KLq (.int .u8 (2)) (Lbs (vs := [(0, .int .u8 (2))]) (s := 1) (zc := rv .u8 (fun _ => 0)) (y := ovr (fun j => (rv .u8 (fun _ => 0)) (j % 1)) (0 * 1) 1 (fun _ => .int .u8 (2))) (by rfl) rfl rfl Try.underlying30 (by kernel_rfl) (by rfl) (by rfl) (by kernel_rfl) (by rw [fill_step (off := 0 * 1) (s := 1) (y := fun _ => .int .u8 (2)) rfl (cells_one (by rfl)) (by rfl)]; rfl) rfl fun g5 w10 eg5 m19 s7 z5 => ?_)))))))))))
    have ⟨m20, m21, b10⟩ := KTk3 s7.old m7 m8 b5
    have lg5 := KGk eg5 b5.size
    have ng5m20 := KNk1 eg5 m7.lt
    have tg5 := m19.lt
    refine Fx.L.appD (B := w.heap.size) (k := i + 4) (x := Fx.byY (P1 m i)) (by rfl) rfl rfl rfl Try.underlying30 (by kernel_rfl) (by kernel_rfl) rfl m21 m19.cel (fun j hj => by unfold ovr; rw [if_pos ⟨by omega, by omega⟩]; rfl) (by omega) b10.size b10 fun a3 cap3 w11 ho3 hct4 b11 => ?_
    have m22 := KCk1 hct4 m20
    have m23 : Fx.Apd w11 w.heap.size 5 a3 (i + 4 + 1) cap3 (Fx.byY (P1 m (i + 1))) := .inl (ho3.congr (fl_app (by omega) (by rw [c23, c29]; rfl)))
    refine KLq (.slice a3 (i + 4 + 1) (cap3)) (Ln (blkN (sN (Wl (Lv (Ki6 ((i : Int) + 1)) (KxP (hx := h3)) (KLq (Ki6 ((i : Int) + 1)) (Ln (lpN ⟨i + 1, a3, cap3, by omega, h1, (by rfl), (by first | rfl | exact congrArg (Value.int .i64) (by omega)), m22, m23, b11⟩ ?_))))))))
    show (6 - (intOf ((.int .i64 ((i : Int) + 1)))).toNat) < _
    simp only [h3, intOf]; omega
   rw [Bool.not_eq_true] at c29
   refine Lv KbF (Kxl m7.cel (i + 6) ((stY_left _ (by omega) (by omega)).trans (congrArg Value.bool c29))) (KLe (KWcF (Wk (sN (Wl (KLh h2 (KLq (.int .u8 (0)) (Lbs (vs := [(0, .int .u8 (0))]) (s := 1) (zc := rv .u8 (fun _ => 0)) (y := ovr (fun j => (rv .u8 (fun _ => 0)) (j % 1)) (0 * 1) 1 (fun _ => .int .u8 (0))) (by rfl) rfl rfl Try.underlying30 (by kernel_rfl) (by rfl) (by rfl) (by kernel_rfl) (by rw [fill_step (off := 0 * 1) (s := 1) (y := fun _ => .int .u8 (0)) rfl (cells_one (by rfl)) (by rfl)]; rfl) rfl fun g6 w12 eg6 m24 s8 z6 => ?_))))))))
   have ⟨m25, m26, b12⟩ := KTk3 s8.old m7 m8 b5
   have lg6 := KGk eg6 b5.size
   have ng6m25 := KNk1 eg6 m7.lt
   have tg6 := m24.lt
   refine Fx.L.appD (B := w.heap.size) (k := i + 4) (x := Fx.byY (P1 m i)) (by rfl) rfl rfl rfl Try.underlying30 (by kernel_rfl) (by kernel_rfl) rfl m26 m24.cel (fun j hj => by unfold ovr; rw [if_pos ⟨by omega, by omega⟩]; rfl) (by omega) b12.size b12 fun a4 cap4 w13 ho4 hct5 b13 => ?_
   have m27 := KCk1 hct5 m25
   have m28 : Fx.Apd w13 w.heap.size 5 a4 (i + 4 + 1) cap4 (Fx.byY (P1 m (i + 1))) := .inl (ho4.congr (fl_app (by omega) (by rw [c23, c29]; rfl)))
   refine KLq (.slice a4 (i + 4 + 1) (cap4)) (Ln (blkN (sN (Wl (Lv (Ki6 ((i : Int) + 1)) (KxP (hx := h3)) (KLq (Ki6 ((i : Int) + 1)) (Ln (lpN ⟨i + 1, a4, cap4, by omega, h1, (by rfl), (by first | rfl | exact congrArg (Value.int .i64) (by omega)), m27, m28, b13⟩ ?_))))))))
   show (6 - (intOf ((.int .i64 ((i : Int) + 1)))).toNat) < _
   simp only [h3, intOf]; omega
  refine Lv KbF (KltF c18 (hx := h3)) (KLe (Ws (KWcF (Wx (seqX (lpX (blkX (sN (Ws ?_)))))))))
  have m29 : Fx.Own w5 w.heap.size 5 1 (.slice ao (10) (co)) 10 (Fx.byY (P1 m 6)) := by have q9 := m8; rw [show i = 6 by omega] at q9; exact q9.own (by decide)
  -- region 14 draws
  refine Fx.W.reordR [0, 1, 2, 4, 5, 6, 3, 7, 8] [0, 0, 0, 2, 0, 1, 0, 2, 0] Fx.Mk mRf Fx.Mk.trans (certs := [(7, 3, [3]), (8, 3, [3]), (8, 7, [7])]) (by kernel_rfl) (by kernel_rfl) (by kernel_rfl) (by kernel_rfl) (by kernel_rfl) fun wt1 hbwt1 hzwt1 => ?_
  have ⟨m30, m31, b14⟩ := KTk3 hbwt1 m7 m29 b5
  refine KRh (h2.trans (congrArg (fun q => Value.slice ao q co) (show i + 4 = 10 by omega))) (Rp (.pointer (some ⟨g1, 12, none⟩)) (fun _ => Kxf h1 12) (Rp (.slice (some ⟨g1, 12, none⟩) (6) (6)) (fun v1 => Fx.x_sliceArr rfl rfl Try.underlying25 (s := 1) (by kernel_rfl)) (Rp (.pointer (some ⟨g1, 18, none⟩)) (fun _ => Kxf h1 18) (Rd (v := .slice na (m.ns.length) (nc)) (by rfl) (by rfl) (mRf _) (fun v1 hv1 => x_load1 (x := stY (stS m na nc ga gc)) rfl rfl (by kernel_rfl) (m30.cel.below hv1 (by have := m30.lt; omega)) (i := 18) (by omega) (by omega) rfl) ?_))))
  refine KRq (Ki6 m.ns.length) (KRk (KLc (p_allu ao 10 co (P1 m 6) (some ⟨g1, 12, none⟩) 6 6 m.known _ (fun i hi => hm.r.k i hi) (by decide) (P1_len m (Nat.le_refl _)).symm (by omega) m31.arr (Fx.Blk.arrAt (off := 12) m30 (by decide) (fun j hj => stY_known (p := j) _ hj (by omega)))) ?_))
  rintro e9 w14 ⟨ab1, cb1, he, hm1, hb2⟩
  refine ⟨_, he, ?_⟩
  clear he
  have s10 := Sb hb2
  have ⟨m33, b15⟩ := KTk2 hb2 m30 b14
  have m32 : Fx.Own w14 w.heap.size 5 1 (.slice ab1 (58) (cb1)) 58 (Fx.byY (P1 m 6 ++ rowB m.known 6)) := hm1.mono b14.size
  refine Ln ⟨s10.old, ?_⟩
  refine KRk (KLc (p_int ab1 58 cb1 (P1 m 6 ++ rowB m.known 6) (m.ns.length : Int) 2 _ (by decide) ⟨by omega, by rw [show (256 : Int) ^ 2 = 65536 by decide]; omega⟩ (by rw [List.length_append, P1_len m (Nat.le_refl _), rowB_len]) (by omega) m32.arr) ?_)
  rintro e9 w15 ⟨ab2, cb2, he, hm2, hb3⟩
  refine ⟨_, he, ?_⟩
  clear he
  have s11 := Sb hb3
  have ⟨m35, b16⟩ := KTk2 hb3 m33 b15
  have m34 : Fx.Own w15 w.heap.size 5 1 (.slice ab2 (60) (cb2)) 60 (Fx.byY (P2 m 0)) := by have q9 := hm2.mono b15.size; rw [P2_0] at q9; exact q9
  refine Ln ⟨s11.old, ?_⟩
  refine KRq (.slice ab2 (60) (cb2)) (KRend (Ws (KWsl (Lv (.pointer (some ⟨g1, 18, none⟩)) (Kxf h1 18) (Lv (.slice na (m.ns.length) (nc)) (Kxl m35.cel 18) (KLq (Ki6 m.ns.length) (KLq (Ki6 0) (KLe (Wb (Wo (fun f w_ => ∃ k : Nat, ∃ n : Nat, ∃ ao : Option Addr, ∃ co : Nat, k ≤ m.ns.length ∧ n = 60 + 448 * k ∧ f 1 = .pointer (some ⟨g1, 0, none⟩) ∧ f 46 = .slice na (m.ns.length) (nc) ∧ f 47 = .int .i64 ((m.ns.length : Int)) ∧ f 3 = .slice ao (n) (co) ∧ f 48 = .int .i64 ((k : Int)) ∧ Blk w_ g1 20 (stY (stS m na nc ga gc)) 29 ∧ Fx.Own w_ w.heap.size 5 1 (.slice ao (n) (co)) n (Fx.byY (P2 m k)) ∧ Below w.heap.size w w_) (fun f _ => (m.ns.length - (intOf (f 48)).toNat)) ⟨0, 60, ab2, cb2, Nat.zero_le _, by omega, h1, (by rfl), (by first | rfl | exact congrArg (Value.int .i64) (by omega)), (by rfl), (by first | rfl | exact congrArg (Value.int .i64) (by omega)), m35, m34, b16⟩ ?_))))))))))
  rintro f2 w16 ⟨k, n, ao, co, hk, hn9, h4, h5, h6, h7, h8, m36, m37, b17⟩
  refine KWsl ?_
  by_cases c49 : (k : Int) < (m.ns.length : Int)
  ·refine Lv KbT (KltT c49 (hx := h8) (hy := h6)) (KLe (Ws (KWcT (Wk (sN (Ws (Wb (KWsl ?_))))))))
   obtain ⟨bq1, oq1, eq1, m38z⟩ := hn (by omega)
   have lbq1z : bq1 < w.heap.size := m38z.lt (by omega)
   have m38 := m38z.below b17 lbq1z
   have lbq1 : bq1 < w16.heap.size := m38.lt (by omega)
   refine Lv (.pointer (some ⟨bq1, 56 * k + oq1, none⟩)) (Kxi 56 (hx := (h5.trans (congrArg (fun q => Value.slice q (m.ns.length) (nc)) eq1))) (hi := h8)) (Lv (.agg (varr 56 (ndZ (ndA m.ns k)))) (KxA m38 (56 * k) (fun jq hjq => Fx.flat_at (k := k) (by omega) hjq)) (KLw 56 (fun i => (#[.int .u64 (0), .int .u64 (0), .int .i64 (0), .int .i64 (0), .int .i64 (0), .int .i64 (0), .int .i64 (0), .int .i64 (0), .int .i64 (0), .int .i64 (0), .int .i64 (0), .int .i64 (0), .int .i64 (0), .int .i64 (0), .int .i64 (0), .int .i64 (0), .int .i64 (0), .int .i64 (0), .int .i64 (0), .int .i64 (0), .int .i64 (0), .int .i64 (0), .int .i64 (0), .int .i64 (0), .int .i64 (0), .int .i64 (0), .int .i64 (0), .int .i64 (0), .int .i64 (0), .int .i64 (0), .int .i64 (0), .int .i64 (0), .int .i64 (0), .int .i64 (0), .int .i64 (0), .int .i64 (0), .int .i64 (0), .int .i64 (0), .int .i64 (0), .int .i64 (0), .int .i64 (0), .int .i64 (0), .int .i64 (0), .int .i64 (0), .int .i64 (0), .int .i64 (0), .int .i64 (0), .int .i64 (0), .int .i64 (0), .int .i64 (0), .int .i64 (0), .int .i64 (0), .int .i64 (0), .int .i64 (0), .int .i64 (0), .int .i64 (0)] : Array Value).getD i undef) fun g7 w17 eg7 m39 s12 z7 => ?_))
   have ⟨m40, m41, m42, b18⟩ := KTk4 s12.old m36 m37 m38 b17
   have lg7 := KGk eg7 b17.size
   have ng7m40 := KNk1 eg7 m36.lt
   have ng7m42 : bq1 ≠ g7 := by rw [eg7]; exact Nat.ne_of_lt (m38.lt (by omega))
   have tg7 := m39.lt
   refine KLsA m39 0 (h1 := (fun j _ => ndZ_one _ j)) fun w18 m43 s13 z8 => ?_
   have m44 : Blk w18 g7 56 (ndZ (ndA m.ns k)) 50 := ovr_all m43
   have hct6 := cOs s13 m39.ty
   have ⟨m45, m46⟩ := KCk2 hct6 m40 m41
   have m47 := m42.stp s13 (by omega)
   have b19 := s13.below b18 b18.size (by omega)
   refine KLe (KWsl (KLh h7 (KLq (.pointer (some ⟨g7, 0, none⟩)) (Lv (Ku6 ((ndA m.ns k).id)) (Kxl m44.cel 0) (KLq (.pointer (some ⟨g7, 1, none⟩)) (Lv (Ku6 ((ndA m.ns k).par)) (Kxl m44.cel 1) (Lbs (vs := [(0, .int .u64 ((ndA m.ns k).id)), (1, .int .u64 ((ndA m.ns k).par))]) (s := 1) (zc := rv .u64 (fun _ => 0)) (y := ovr (ovr (fun j => (rv .u64 (fun _ => 0)) (j % 1)) (0 * 1) 1 (fun _ => .int .u64 ((ndA m.ns k).id))) (1 * 1) 1 (fun _ => .int .u64 ((ndA m.ns k).par))) (by rfl) rfl rfl Try.underlying69 (by kernel_rfl) (by rfl) (by rfl) (by kernel_rfl) (by rw [fill_step (off := 0 * 1) (s := 1) (y := fun _ => .int .u64 ((ndA m.ns k).id)) rfl (cells_one (by rfl)) (by rfl)]; rw [fill_step (off := 1 * 1) (s := 1) (y := fun _ => .int .u64 ((ndA m.ns k).par)) rfl (cells_one (by rfl)) (by rfl)]; rfl) rfl fun g8 w19 eg8 m48 s14 z9 => ?_)))))))
   have ⟨m49, m50, m52, b20⟩ := KTk4 s14.old m45 m46 m44 b19
   have lg8 := KGk eg8 b19.size
   have ng8m49 := KNk1 eg8 m45.lt
   have ng8m51 : bq1 ≠ g8 := by rw [eg8]; exact Nat.ne_of_lt (m47.lt (by omega))
   have ng8m52 := KNk1 eg8 m44.lt
   have tg8 := m48.lt
   refine KLc (p_allu ao n co (P2 m k) (some ⟨g8, 0, none⟩) 2 2 (two (ndA m.ns k).id (ndA m.ns k).par) _ (two_u (hm.r.n _ (ndA_mem (by omega))).id (hm.r.n _ (ndA_mem (by omega))).par) (by decide) (by rw [P2_len m (by omega)]; omega) (by omega) m50.arr (Fx.Blk.arrAt (off := 0) m48 (by decide) (fun j hj => match j, hj with | 0, _ => rfl | 1, _ => rfl | j + 2, h => absurd h (by omega)))) ?_
   rintro e9 w20 ⟨ab3, cb3, he, hm3, hb4⟩
   refine ⟨_, he, ?_⟩
   clear he
   have ⟨m54, m56, b21⟩ := KTk3 hb4 m49 m52 b20
   have m53 : Fx.Own w20 w.heap.size 5 1 (.slice ab3 (n + 16) (cb3)) (n + 16) (Fx.byY (P3 m k 0)) := by have q9 := hm3.mono b20.size; rw [P3_0] at q9; exact q9
   refine KLq (.slice ab3 (n + 16) (cb3)) (KLe (KWsl (KLq (.pointer (some ⟨g7, 2, none⟩)) (KLc (s_rows g7 2 _) ?_))))
   rintro e9 w21 ⟨ra1, rc1, he, hm4, hb5⟩
   refine ⟨_, he, ?_⟩
   clear he
   have ⟨m59, m61, m63, b22⟩ := KTk4 hb5 m54 m56 m53 b21
   have m58 : Fx.Own w21 w.heap.size 73 1 (.slice ra1 (9) (rc1)) 9 (rowsX g7 2) := hm4.mono b21.size
   refine KLq (Ki6 9) (KLq (Ki6 0) (KLe (Wb (Wo (fun f w_ => ∃ q : Nat, ∃ n2 : Nat, ∃ ao2 : Option Addr, ∃ co2 : Nat, q ≤ 9 ∧ n2 = 76 + 448 * k + 48 * q ∧ f 1 = .pointer (some ⟨g1, 0, none⟩) ∧ f 7 = .pointer (some ⟨g7, 0, none⟩) ∧ f 46 = .slice na (m.ns.length) (nc) ∧ f 47 = .int .i64 ((m.ns.length : Int)) ∧ f 48 = .int .i64 ((k : Int)) ∧ f 60 = .slice ra1 (9) (rc1) ∧ f 61 = .int .i64 (9) ∧ f 3 = .slice ao2 (n2) (co2) ∧ f 62 = .int .i64 ((q : Int)) ∧ Blk w_ g1 20 (stY (stS m na nc ga gc)) 29 ∧ Blk w_ g7 56 (ndZ (ndA m.ns k)) 50 ∧ Fx.Own w_ w.heap.size 5 1 (.slice ao2 (n2) (co2)) n2 (Fx.byY (P3 m k q)) ∧ Fx.Own w_ w.heap.size 73 1 (.slice ra1 (9) (rc1)) 9 (rowsX g7 2) ∧ Below w.heap.size w w_) (fun f _ => (9 - (intOf (f 62)).toNat)) ⟨0, n + 16, ab3, cb3, by omega, by omega, h4, (by rfl), h5, (h6.trans (by first | rfl | exact congrArg (Value.int .i64) (by omega))), (h8.trans (by first | rfl | exact congrArg (Value.int .i64) (by omega))), (by rfl), (by first | rfl | exact congrArg (Value.int .i64) (by omega)), (by rfl), (by first | rfl | exact congrArg (Value.int .i64) (by omega)), m59, m61, m63, m58, b22⟩ ?_))))
   rintro f3 w22 ⟨q, n2, ao2, co2, hq, hn2, h9, h10, h11, h12, h13, h14, h15, h16, h17, m64, m65, m66, m67, b23⟩
   refine KWsl ?_
   by_cases c63 : (q : Int) < 9
   ·refine Lv KbT (KltT c63 (hx := h17) (hy := h15)) (KLe (Ws (KWcT (Wk (sN (Ws (Wb (KWsl ?_))))))))
    obtain ⟨gq1, eq2⟩ := m67.addr (by omega)
    have m68 : Fx.Own w22 w.heap.size 73 1 (.slice (some ⟨gq1, 0, none⟩) 9 rc1) 9 (rowsX g7 2) := m67.congV (congrArg (fun q => Value.slice q 9 rc1) eq2)
    refine Lv (.pointer (some ⟨gq1, q, none⟩)) (Kxi 1 (hx := (h14.trans (congrArg (fun q => Value.slice q (9) (rc1)) eq2))) (hi := h17)) (Lv (.slice (some ⟨g7, 2 + 6 * q, none⟩) (6) (6)) (Kxl m68.cel q) (KLq (.slice (some ⟨g7, 2 + 6 * q, none⟩) (6) (6)) (KLe (Wl (KLh h16 (KLq (.slice (some ⟨g7, 2 + 6 * q, none⟩) (6) (6)) (KLc (p_alli ao2 n2 co2 (P3 m k q) (some ⟨g7, 2 + 6 * q, none⟩) 6 6 (fun j => (ndA m.ns k).R (6 * q + j)) _ (fun j hj => by have q9 := may_ent (hM.nd k (by omega)).2.1 (6 * q + j) (by omega); show 0 ≤ (ndA m.ns k).R (6 * q + j) ∧ (ndA m.ns k).R (6 * q + j) ≤ 18446744073709551615; omega) (by decide) (by rw [P3_len m (by omega)]; omega) (by omega) m66.arr (Fx.Blk.arrAt (off := 2 + 6 * q) m65 (by omega) (fun j hj => by rw [show 2 + 6 * q + j = 6 * q + j + 2 by omega]; exact ndZ_R _ _))) ?_)))))))
    rintro e9 w23 ⟨ab4, cb4, he, hm5, hb6⟩
    refine ⟨_, he, ?_⟩
    clear he
    have ⟨m70, m71, m72, b24⟩ := KTk4 hb6 m64 m65 m68 b23
    have m69 : Fx.Own w23 w.heap.size 5 1 (.slice ab4 (n2 + 48) (cb4)) (n2 + 48) (Fx.byY (P3 m k (q + 1))) := by have q9 := hm5.mono b23.size; rw [P3_s] at q9; exact q9
    refine KLq (.slice ab4 (n2 + 48) (cb4)) (Ln (blkN (sN (Wl (Lv (Ki6 ((q : Int) + 1)) (KxP (hx := h17)) (KLq (Ki6 ((q : Int) + 1)) (Ln ?_)))))))
    have m73 : Fx.Own w23 w.heap.size 73 1 (.slice ra1 (9) (rc1)) 9 (rowsX g7 2) := m72.congV (congrArg (fun q => Value.slice q 9 rc1) eq2.symm)
    refine lpN ⟨q + 1, n2 + 48, ab4, cb4, by omega, by omega, h9, h10, h11, (h12.trans (by first | rfl | exact congrArg (Value.int .i64) (by omega))), (h13.trans (by first | rfl | exact congrArg (Value.int .i64) (by omega))), h14, (h15.trans (by first | rfl | exact congrArg (Value.int .i64) (by omega))), (by rfl), (by first | rfl | exact congrArg (Value.int .i64) (by omega)), m70, m71, m69, m73, b24⟩ ?_
    show (9 - (intOf ((.int .i64 ((q : Int) + 1)))).toNat) < _
    simp only [h17, intOf]; omega
   refine Lv KbF (KltF c63 (hx := h17) (hy := h15)) (KLe (Ws (KWcF (Wx (seqX (lpX (blkX (blkN (sN ?_)))))))))
   have m74 : Fx.Own w22 w.heap.size 5 1 (.slice ao2 (n2) (co2)) n2 (Fx.byY (P2 m (k + 1))) := by have q9 := m66; rw [show q = 9 by omega, P3_9 m (by omega)] at q9; exact q9
   refine Wl (Lv (Ki6 ((k : Int) + 1)) (KxP (hx := h13)) (KLq (Ki6 ((k : Int) + 1)) (Ln (lpN ⟨k + 1, n2, ao2, co2, by omega, by omega, h9, h11, (h12.trans (by first | rfl | exact congrArg (Value.int .i64) (by omega))), h16, (by first | rfl | exact congrArg (Value.int .i64) (by omega)), m64, m74, b23⟩ ?_))))
   show (m.ns.length - (intOf ((.int .i64 ((k : Int) + 1)))).toNat) < _
   simp only [h8, intOf]; omega
  refine Lv KbF (KltF c49 (hx := h8) (hy := h6)) (KLe (Ws (KWcF (Wx (seqX (lpX (blkX (sN (Ws ?_)))))))))
  have m75 : Fx.Own w16 w.heap.size 5 1 (.slice ao (n) (co)) n (Fx.byY (P2 m m.ns.length)) := by have q9 := m37; rw [show k = m.ns.length by omega] at q9; exact q9
  refine Wl (KLh h7 (Lv (.pointer (some ⟨g1, 19, none⟩)) (Kxf h4 19) (Lv (.slice ga (m.gs.length) (gc)) (Kxl m36.cel 19) (KLq (Ki6 m.gs.length) (KLc (p_int ao n co (P2 m m.ns.length) (m.gs.length : Int) 2 _ (by decide) ⟨by omega, by rw [show (256 : Int) ^ 2 = 65536 by decide]; omega⟩ (by rw [P2_len m (by omega)]; omega) (by omega) m75.arr) ?_)))))
  rintro e9 w24 ⟨ab5, cb5, he, hm6, hb7⟩
  refine ⟨_, he, ?_⟩
  clear he
  have ⟨m77, b25⟩ := KTk2 hb7 m36 b17
  have m76 : Fx.Own w24 w.heap.size 5 1 (.slice ab5 (n + 2) (cb5)) (n + 2) (Fx.byY (P4 m 0)) := by have q9 := hm6.mono b17.size; rw [P4_0] at q9; exact q9
  refine KLq (.slice ab5 (n + 2) (cb5)) (KLe (Ws (KWsl (Lv (.pointer (some ⟨g1, 19, none⟩)) (Kxf h4 19) (Lv (.slice ga (m.gs.length) (gc)) (Kxl m77.cel 19) (KLq (Ki6 m.gs.length) (KLq (Ki6 0) (KLe (Wb (Wo (fun f w_ => ∃ k : Nat, ∃ n : Nat, ∃ ao : Option Addr, ∃ co : Nat, k ≤ m.gs.length ∧ n = 62 + 448 * m.ns.length + 33 * k ∧ f 1 = .pointer (some ⟨g1, 0, none⟩) ∧ f 77 = .slice ga (m.gs.length) (gc) ∧ f 78 = .int .i64 ((m.gs.length : Int)) ∧ f 3 = .slice ao (n) (co) ∧ f 79 = .int .i64 ((k : Int)) ∧ Blk w_ g1 20 (stY (stS m na nc ga gc)) 29 ∧ Fx.Own w_ w.heap.size 5 1 (.slice ao (n) (co)) n (Fx.byY (P4 m k)) ∧ Below w.heap.size w w_) (fun f _ => (m.gs.length - (intOf (f 79)).toNat)) ⟨0, n + 2, ab5, cb5, Nat.zero_le _, by omega, h4, (by rfl), (by first | rfl | exact congrArg (Value.int .i64) (by omega)), (by rfl), (by first | rfl | exact congrArg (Value.int .i64) (by omega)), m77, m76, b25⟩ ?_))))))))))
  rintro f4 w25 ⟨k, n, ao, co, hk, hn9, h18, h19, h20, h21, h22, m78, m79, b26⟩
  refine KWsl ?_
  by_cases c80 : (k : Int) < (m.gs.length : Int)
  ·refine Lv KbT (KltT c80 (hx := h22) (hy := h20)) (KLe (Ws (KWcT (Wk (sN (Ws (Wb (KWsl ?_))))))))
   obtain ⟨bq2, oq2, eq3, m80z⟩ := hg (by omega)
   have lbq2z : bq2 < w.heap.size := m80z.lt (by omega)
   have m80 := m80z.below b26 lbq2z
   have lbq2 : bq2 < w25.heap.size := m80.lt (by omega)
   refine Lv (.pointer (some ⟨bq2, 5 * k + oq2, none⟩)) (Kxi 5 (hx := (h19.trans (congrArg (fun q => Value.slice q (m.gs.length) (gc)) eq3))) (hi := h22)) (Lv (.agg (varr 5 (grZ (grA m.gs k)))) (KxA m80 (5 * k) (fun jq hjq => Fx.flat_at (k := k) (by omega) hjq)) (KLw 5 (fun i => (#[.int .i64 (0), .int .u64 (0), .int .u64 (0), .int .i64 (0), .int .u64 (0)] : Array Value).getD i undef) fun g9 w26 eg9 m81 s19 z10 => ?_))
   have ⟨m82, m83, m84, b27⟩ := KTk4 s19.old m78 m79 m80 b26
   have lg9 := KGk eg9 b26.size
   have ng9m82 := KNk1 eg9 m78.lt
   have ng9m84 : bq2 ≠ g9 := by rw [eg9]; exact Nat.ne_of_lt (m80.lt (by omega))
   have tg9 := m81.lt
   refine KLsA m81 0 (h1 := (fun j _ => grZ_one _ j)) fun w27 m85 s20 z11 => ?_
   have m86 : Blk w27 g9 5 (grZ (grA m.gs k)) 59 := ovr_all m85
   have hct7 := cOs s20 m81.ty
   have ⟨m87, m88⟩ := KCk2 hct7 m82 m83
   have m89 := m84.stp s20 (by omega)
   have b28 := s20.below b27 b27.size (by omega)
   refine KLe ?_
   obtain ⟨go1, go2, go3, go4, go5, go6, go7⟩ := hM.gd k (by omega)
   -- region 29 draws
   refine Fx.W.reordA [0, 1, 6, 8, 10, 13, 2, 3, 7, 9, 11, 12, 14] [4, 5, 15, 16, 17] [0, 0, 1, 0, 2, 2, 0, 1, 0, 1, 0, 1, 0, 0, 1, 2, 2, 0] (ChT [5]) cRf Fx.ChT.trans (certs := [(5, 4, [4]), (16, 4, [5, 4]), (17, 4, [4]), (16, 5, [5]), (17, 5, [5]), (16, 15, [15]), (17, 15, [15]), (17, 16, [16])]) (by kernel_rfl) (by kernel_rfl) (by kernel_rfl) (by kernel_rfl) (by kernel_rfl) (by kernel_rfl) fun wt2 hbwt2 hzwt2 => ?_
   have ⟨m90, m91, m92, m93, b29⟩ := KTk5 hbwt2 m87 m88 m89 m86 b28
   refine KRh h21 (KRq (.pointer (some ⟨g9, 0, none⟩)) (KRq (.pointer (some ⟨g9, 1, none⟩)) (KRq (.pointer (some ⟨g9, 2, none⟩)) (KRq (.pointer (some ⟨g9, 3, none⟩)) (KRq (.pointer (some ⟨g9, 4, none⟩)) (Rd (v := .int .i64 ((grA m.gs k).o)) (by rfl) (by rfl) (cRf _) (fun v1 hv1 => x_load1 (x := grZ (grA m.gs k)) rfl rfl (by kernel_rfl) (m93.chT hv1 (by decide)).cel (i := 0) (by omega) (by omega) rfl) ?_))))))
   refine Rp (.int .u8 (((byI (grA m.gs k).o).toNat : Int))) (fun v1 => x_conv rfl rfl (by kernel_rfl) Try.underlying5 (by_o (by omega))) (Rd (v := .int .u64 ((grA m.gs k).r)) (by rfl) (by rfl) (cRf _) (fun v1 hv1 => x_load1 (x := grZ (grA m.gs k)) rfl rfl (by kernel_rfl) (m93.chT hv1 (by decide)).cel (i := 1) (by omega) (by omega) rfl) ?_)
   refine Rd (v := .int .u64 ((grA m.gs k).n)) (by rfl) (by rfl) (cRf _) (fun v1 hv1 => x_load1 (x := grZ (grA m.gs k)) rfl rfl (by kernel_rfl) (m93.chT hv1 (by decide)).cel (i := 2) (by omega) (by omega) rfl) ?_
   refine Rd (v := .int .i64 ((grA m.gs k).a)) (by rfl) (by rfl) (cRf _) (fun v1 hv1 => x_load1 (x := grZ (grA m.gs k)) rfl rfl (by kernel_rfl) (m93.chT hv1 (by decide)).cel (i := 3) (by omega) (by omega) rfl) ?_
   refine Rp (Ku6 ((grA m.gs k).a)) (fun v1 => x_conv rfl rfl (by kernel_rfl) Try.underlying23 (u64e (by omega) rfl)) (Rd (v := .int .u64 ((grA m.gs k).b)) (by rfl) (by rfl) (cRf _) (fun v1 hv1 => x_load1 (x := grZ (grA m.gs k)) rfl rfl (by kernel_rfl) (m93.chT hv1 (by decide)).cel (i := 4) (by omega) (by omega) rfl) ?_)
   refine Rn (Fx.RA.two 4 15 [5, 15, 16, 17] [4, 5, 16, 17] (by rfl) (by kernel_rfl) (by kernel_rfl) (by kernel_rfl) ?_ ?_)
   ·refine KRk (Lbs (vs := [(0, .int .u8 (((byI (grA m.gs k).o).toNat : Int)))]) (s := 1) (zc := rv .u8 (fun _ => 0)) (y := ovr (fun j => (rv .u8 (fun _ => 0)) (j % 1)) (0 * 1) 1 (fun _ => .int .u8 (((byI (grA m.gs k).o).toNat : Int)))) (by rfl) rfl rfl Try.underlying30 (by kernel_rfl) (by rfl) (by rfl) (by kernel_rfl) (by rw [fill_step (off := 0 * 1) (s := 1) (y := fun _ => .int .u8 (((byI (grA m.gs k).o).toNat : Int))) rfl (cells_one (by rfl)) (by rfl)]; rfl) rfl fun g10 w28 eg10 m94 s22 z12 => ?_)
    have ⟨m95, m96, m97, m98, b30⟩ := KTk5 s22.old m90 m91 m92 m93 b29
    have lg10 := KGk eg10 b29.size
    have ng10m95 := KNk1 eg10 m90.lt
    have ng10m96 : (.slice ao (n) (co) : Value).ownBlock ≠ some g10 := by rw [eg10]; exact m91.notNew (Nat.le_refl _)
    have ng10m97 : bq2 ≠ g10 := by rw [eg10]; exact Nat.ne_of_lt (m92.lt (by omega))
    have ng10m98 := KNk1 eg10 m93.lt
    have tg10 := m94.lt
    refine Ln ⟨Fx.ChT.of_below s22.old, ?_⟩
    refine Rn (Fx.RA.two 5 15 [15, 16, 17] [5, 16, 17] (by rfl) (by kernel_rfl) (by kernel_rfl) (by kernel_rfl) ?_ ?_)
    ·refine KRk (Lap (B := w.heap.size) (s := 1) (bytes := 1) (k := n) (m := 1) (v := .slice ao (n) (co)) (x := Fx.byY (P4 m k)) (by rfl) rfl rfl rfl Try.underlying30 (by kernel_rfl) (by kernel_rfl) rfl rfl m96 m94.cel (fun j hj => by unfold ovr; rw [if_pos ⟨by omega, by omega⟩]; rfl) (by omega) (by omega) (by omega) b30.size fun g11 cap5 w29 ho5 hg1 hgv1 hlt1 => ?_)
     have hct8 := cOg hg1 m96
     have m100 := KCk1 hct8 m95
     have m101 := m97.grown hg1 (m96.not (by omega))
     have m102 := KCk1 hct8 m98
     have m99 : Fx.Own w29 w.heap.size 5 1 (.slice (some ⟨g11, 0, none⟩) (n + 1) cap5) (n + 1) (Fx.byY (P4 m k ++ [byI (grA m.gs k).o])) := (ho5.congr (byY_app1 (by rw [P4_len m (by omega)]; omega)))
     have b31 : Below w.heap.size w w29 := bGr b30 hg1 b30.size (fun q hq => (m96.ge hq).1)
     refine Ln ⟨hct8, ?_⟩
     refine Rn (Fx.RA.one 15 [16, 17] (by rfl) (by kernel_rfl) (by kernel_rfl) ?_)
     refine KRk (Lbs (vs := [(0, .int .u64 ((grA m.gs k).r)), (1, .int .u64 ((grA m.gs k).n)), (2, .int .u64 ((grA m.gs k).a)), (3, .int .u64 ((grA m.gs k).b))]) (s := 1) (zc := rv .u64 (fun _ => 0)) (y := ovr (ovr (ovr (ovr (fun j => (rv .u64 (fun _ => 0)) (j % 1)) (0 * 1) 1 (fun _ => .int .u64 ((grA m.gs k).r))) (1 * 1) 1 (fun _ => .int .u64 ((grA m.gs k).n))) (2 * 1) 1 (fun _ => .int .u64 ((grA m.gs k).a))) (3 * 1) 1 (fun _ => .int .u64 ((grA m.gs k).b))) (by rfl) rfl rfl Try.underlying69 (by kernel_rfl) (by rfl) (by rfl) (by kernel_rfl) (by rw [fill_step (off := 0 * 1) (s := 1) (y := fun _ => .int .u64 ((grA m.gs k).r)) rfl (cells_one (by rfl)) (by rfl)]; rw [fill_step (off := 1 * 1) (s := 1) (y := fun _ => .int .u64 ((grA m.gs k).n)) rfl (cells_one (by rfl)) (by rfl)]; rw [fill_step (off := 2 * 1) (s := 1) (y := fun _ => .int .u64 ((grA m.gs k).a)) rfl (cells_one (by rfl)) (by rfl)]; rw [fill_step (off := 3 * 1) (s := 1) (y := fun _ => .int .u64 ((grA m.gs k).b)) rfl (cells_one (by rfl)) (by rfl)]; rfl) rfl fun g12 w30 eg12 m103 s23 z13 => ?_)
     have ⟨m104, m107, b32⟩ := KTk3 s23.old m100 m99 b31
     have lg12 := KGk eg12 b31.size
     have ng12m104 := KNk1 eg12 m100.lt
     have ng12m105 : bq2 ≠ g12 := by rw [eg12]; exact Nat.ne_of_lt (m101.lt (by omega))
     have ⟨ng12m106, ng12m107⟩ := KNk2 eg12 m102.lt m99.lt
     have tg12 := m103.lt
     refine Ln ⟨Fx.ChT.of_below s23.old, ?_⟩
     refine Rn (Fx.RA.one 16 [17] (by rfl) (by kernel_rfl) (by kernel_rfl) ?_)
     refine KRk (KLc (p_allu (some ⟨g11, 0, none⟩) (n + 1) cap5 (P4 m k ++ [byI (grA m.gs k).o]) (some ⟨g12, 0, none⟩) 4 4 (four (grA m.gs k).r (grA m.gs k).n (grA m.gs k).a (grA m.gs k).b) _ (four_u (hm.r.g _ (grA_mem (by omega))).r (hm.r.g _ (grA_mem (by omega))).n ⟨by omega, by omega⟩ (hm.r.g _ (grA_mem (by omega))).b) (by decide) (by rw [List.length_append, P4_len m (by omega)]; simp only [List.length_cons, List.length_nil]; omega) (by omega) m107.arr (Fx.Blk.arrAt (off := 0) m103 (by decide) (fun j hj => match j, hj with | 0, _ => rfl | 1, _ => rfl | 2, _ => rfl | 3, _ => rfl | j + 4, h => absurd h (by omega)))) ?_)
     rintro e9 w31 ⟨ab6, cb6, he, hm7, hb8⟩
     refine ⟨_, he, ?_⟩
     clear he
     have s24 := Sb hb8
     have ⟨m109, b33⟩ := KTk2 hb8 m104 b32
     have m108 : Fx.Own w31 w.heap.size 5 1 (.slice ab6 (n + 33) (cb6)) (n + 33) (Fx.byY (P4 m (k + 1))) := by have q9 := hm7.mono b32.size; rw [P4_s m (by omega)] at q9; exact q9
     refine Ln ⟨Fx.ChT.of_below s24.old, ?_⟩
     refine Rn (Fx.RA.still (by rfl) ?_)
     refine KRq (.slice ab6 (n + 33) (cb6)) (Rn (Fx.RA.nil ?_))
     refine blkN (sN (Wl (Lv (Ki6 ((k : Int) + 1)) (KxP (hx := h22)) (KLq (Ki6 ((k : Int) + 1)) (Ln (lpN ⟨k + 1, n + 33, ab6, cb6, by omega, by omega, h18, h19, (h20.trans (by first | rfl | exact congrArg (Value.int .i64) (by omega))), (by rfl), (by first | rfl | exact congrArg (Value.int .i64) (by omega)), m109, m108, b33⟩ ?_))))))
     show (m.gs.length - (intOf ((.int .i64 ((k : Int) + 1)))).toNat) < _
     simp only [h22, intOf]; omega
    refine KRk (Lbs (vs := [(0, .int .u64 ((grA m.gs k).r)), (1, .int .u64 ((grA m.gs k).n)), (2, .int .u64 ((grA m.gs k).a)), (3, .int .u64 ((grA m.gs k).b))]) (s := 1) (zc := rv .u64 (fun _ => 0)) (y := ovr (ovr (ovr (ovr (fun j => (rv .u64 (fun _ => 0)) (j % 1)) (0 * 1) 1 (fun _ => .int .u64 ((grA m.gs k).r))) (1 * 1) 1 (fun _ => .int .u64 ((grA m.gs k).n))) (2 * 1) 1 (fun _ => .int .u64 ((grA m.gs k).a))) (3 * 1) 1 (fun _ => .int .u64 ((grA m.gs k).b))) (by rfl) rfl rfl Try.underlying69 (by kernel_rfl) (by rfl) (by rfl) (by kernel_rfl) (by rw [fill_step (off := 0 * 1) (s := 1) (y := fun _ => .int .u64 ((grA m.gs k).r)) rfl (cells_one (by rfl)) (by rfl)]; rw [fill_step (off := 1 * 1) (s := 1) (y := fun _ => .int .u64 ((grA m.gs k).n)) rfl (cells_one (by rfl)) (by rfl)]; rw [fill_step (off := 2 * 1) (s := 1) (y := fun _ => .int .u64 ((grA m.gs k).a)) rfl (cells_one (by rfl)) (by rfl)]; rw [fill_step (off := 3 * 1) (s := 1) (y := fun _ => .int .u64 ((grA m.gs k).b)) rfl (cells_one (by rfl)) (by rfl)]; rfl) rfl fun g13 w32 eg13 m113 s25 z14 => ?_)
    have ⟨m114, m115, m118, b34⟩ := KTk4 s25.old m95 m96 m94 b30
    have lg13 := KGk eg13 b30.size
    have ng13m114 := KNk1 eg13 m95.lt
    have ng13m116 : bq2 ≠ g13 := by rw [eg13]; exact Nat.ne_of_lt (m97.lt (by omega))
    have ⟨ng13m117, ng13m118⟩ := KNk2 eg13 m98.lt m94.lt
    have tg13 := m113.lt
    refine Ln ⟨Fx.ChT.of_below s25.old, ?_⟩
    refine Rn (Fx.RA.one 5 [16, 17] (by rfl) (by kernel_rfl) (by kernel_rfl) ?_)
    refine KRk (Lap (B := w.heap.size) (s := 1) (bytes := 1) (k := n) (m := 1) (v := .slice ao (n) (co)) (x := Fx.byY (P4 m k)) (by rfl) rfl rfl rfl Try.underlying30 (by kernel_rfl) (by kernel_rfl) rfl rfl m115 m118.cel (fun j hj => by unfold ovr; rw [if_pos ⟨by omega, by omega⟩]; rfl) (by omega) (by omega) (by omega) b34.size fun g14 cap6 w33 ho6 hg2 hgv2 hlt2 => ?_)
    have hct9 := cOg hg2 m115
    have ⟨m120, m123⟩ := KCk2 hct9 m114 m113
    have m119 : Fx.Own w33 w.heap.size 5 1 (.slice (some ⟨g14, 0, none⟩) (n + 1) cap6) (n + 1) (Fx.byY (P4 m k ++ [byI (grA m.gs k).o])) := (ho6.congr (byY_app1 (by rw [P4_len m (by omega)]; omega)))
    have b35 : Below w.heap.size w w33 := bGr b34 hg2 b34.size (fun q hq => (m115.ge hq).1)
    refine Ln ⟨hct9, ?_⟩
    refine Rn (Fx.RA.one 16 [17] (by rfl) (by kernel_rfl) (by kernel_rfl) ?_)
    refine KRk (KLc (p_allu (some ⟨g14, 0, none⟩) (n + 1) cap6 (P4 m k ++ [byI (grA m.gs k).o]) (some ⟨g13, 0, none⟩) 4 4 (four (grA m.gs k).r (grA m.gs k).n (grA m.gs k).a (grA m.gs k).b) _ (four_u (hm.r.g _ (grA_mem (by omega))).r (hm.r.g _ (grA_mem (by omega))).n ⟨by omega, by omega⟩ (hm.r.g _ (grA_mem (by omega))).b) (by decide) (by rw [List.length_append, P4_len m (by omega)]; simp only [List.length_cons, List.length_nil]; omega) (by omega) m119.arr (Fx.Blk.arrAt (off := 0) m123 (by decide) (fun j hj => match j, hj with | 0, _ => rfl | 1, _ => rfl | 2, _ => rfl | 3, _ => rfl | j + 4, h => absurd h (by omega)))) ?_)
    rintro e9 w34 ⟨ab7, cb7, he, hm8, hb9⟩
    refine ⟨_, he, ?_⟩
    clear he
    have s26 := Sb hb9
    have ⟨m125, b36⟩ := KTk2 hb9 m120 b35
    have m124 : Fx.Own w34 w.heap.size 5 1 (.slice ab7 (n + 33) (cb7)) (n + 33) (Fx.byY (P4 m (k + 1))) := by have q9 := hm8.mono b35.size; rw [P4_s m (by omega)] at q9; exact q9
    refine Ln ⟨Fx.ChT.of_below s26.old, ?_⟩
    refine Rn (Fx.RA.still (by rfl) ?_)
    refine KRq (.slice ab7 (n + 33) (cb7)) (Rn (Fx.RA.nil ?_))
    refine blkN (sN (Wl (Lv (Ki6 ((k : Int) + 1)) (KxP (hx := h22)) (KLq (Ki6 ((k : Int) + 1)) (Ln (lpN ⟨k + 1, n + 33, ab7, cb7, by omega, by omega, h18, h19, (h20.trans (by first | rfl | exact congrArg (Value.int .i64) (by omega))), (by rfl), (by first | rfl | exact congrArg (Value.int .i64) (by omega)), m125, m124, b36⟩ ?_))))))
    show (m.gs.length - (intOf ((.int .i64 ((k : Int) + 1)))).toNat) < _
    simp only [h22, intOf]; omega
   refine KRk (Lbs (vs := [(0, .int .u64 ((grA m.gs k).r)), (1, .int .u64 ((grA m.gs k).n)), (2, .int .u64 ((grA m.gs k).a)), (3, .int .u64 ((grA m.gs k).b))]) (s := 1) (zc := rv .u64 (fun _ => 0)) (y := ovr (ovr (ovr (ovr (fun j => (rv .u64 (fun _ => 0)) (j % 1)) (0 * 1) 1 (fun _ => .int .u64 ((grA m.gs k).r))) (1 * 1) 1 (fun _ => .int .u64 ((grA m.gs k).n))) (2 * 1) 1 (fun _ => .int .u64 ((grA m.gs k).a))) (3 * 1) 1 (fun _ => .int .u64 ((grA m.gs k).b))) (by rfl) rfl rfl Try.underlying69 (by kernel_rfl) (by rfl) (by rfl) (by kernel_rfl) (by rw [fill_step (off := 0 * 1) (s := 1) (y := fun _ => .int .u64 ((grA m.gs k).r)) rfl (cells_one (by rfl)) (by rfl)]; rw [fill_step (off := 1 * 1) (s := 1) (y := fun _ => .int .u64 ((grA m.gs k).n)) rfl (cells_one (by rfl)) (by rfl)]; rw [fill_step (off := 2 * 1) (s := 1) (y := fun _ => .int .u64 ((grA m.gs k).a)) rfl (cells_one (by rfl)) (by rfl)]; rw [fill_step (off := 3 * 1) (s := 1) (y := fun _ => .int .u64 ((grA m.gs k).b)) rfl (cells_one (by rfl)) (by rfl)]; rfl) rfl fun g15 w35 eg15 m129 s27 z15 => ?_)
   have ⟨m130, m131, m132, m133, b37⟩ := KTk5 s27.old m90 m91 m92 m93 b29
   have lg15 := KGk eg15 b29.size
   have ng15m130 := KNk1 eg15 m90.lt
   have ng15m132 : bq2 ≠ g15 := by rw [eg15]; exact Nat.ne_of_lt (m92.lt (by omega))
   have ng15m133 := KNk1 eg15 m93.lt
   have tg15 := m129.lt
   refine Ln ⟨Fx.ChT.of_below s27.old, ?_⟩
   refine Rn (Fx.RA.one 4 [5, 16, 17] (by rfl) (by kernel_rfl) (by kernel_rfl) ?_)
   refine KRk (Lbs (vs := [(0, .int .u8 (((byI (grA m.gs k).o).toNat : Int)))]) (s := 1) (zc := rv .u8 (fun _ => 0)) (y := ovr (fun j => (rv .u8 (fun _ => 0)) (j % 1)) (0 * 1) 1 (fun _ => .int .u8 (((byI (grA m.gs k).o).toNat : Int)))) (by rfl) rfl rfl Try.underlying30 (by kernel_rfl) (by rfl) (by rfl) (by kernel_rfl) (by rw [fill_step (off := 0 * 1) (s := 1) (y := fun _ => .int .u8 (((byI (grA m.gs k).o).toNat : Int))) rfl (cells_one (by rfl)) (by rfl)]; rfl) rfl fun g16 w36 eg16 m134 s28 z16 => ?_)
   have ⟨m135, m136, m139, b38⟩ := KTk4 s28.old m130 m131 m129 b37
   have lg16 := KGk eg16 b37.size
   have ng16m135 := KNk1 eg16 m130.lt
   have ng16m136 : (.slice ao (n) (co) : Value).ownBlock ≠ some g16 := by rw [eg16]; exact m131.notNew (Nat.le_refl _)
   have ng16m137 : bq2 ≠ g16 := by rw [eg16]; exact Nat.ne_of_lt (m132.lt (by omega))
   have ⟨ng16m138, ng16m139⟩ := KNk2 eg16 m133.lt m129.lt
   have tg16 := m134.lt
   refine Ln ⟨Fx.ChT.of_below s28.old, ?_⟩
   refine Rn (Fx.RA.one 5 [16, 17] (by rfl) (by kernel_rfl) (by kernel_rfl) ?_)
   refine KRk (Lap (B := w.heap.size) (s := 1) (bytes := 1) (k := n) (m := 1) (v := .slice ao (n) (co)) (x := Fx.byY (P4 m k)) (by rfl) rfl rfl rfl Try.underlying30 (by kernel_rfl) (by kernel_rfl) rfl rfl m136 m134.cel (fun j hj => by unfold ovr; rw [if_pos ⟨by omega, by omega⟩]; rfl) (by omega) (by omega) (by omega) b38.size fun g17 cap7 w37 ho7 hg3 hgv3 hlt3 => ?_)
   have hct10 := cOg hg3 m136
   have ⟨m141, m144⟩ := KCk2 hct10 m135 m139
   have m140 : Fx.Own w37 w.heap.size 5 1 (.slice (some ⟨g17, 0, none⟩) (n + 1) cap7) (n + 1) (Fx.byY (P4 m k ++ [byI (grA m.gs k).o])) := (ho7.congr (byY_app1 (by rw [P4_len m (by omega)]; omega)))
   have b39 : Below w.heap.size w w37 := bGr b38 hg3 b38.size (fun q hq => (m136.ge hq).1)
   refine Ln ⟨hct10, ?_⟩
   refine Rn (Fx.RA.one 16 [17] (by rfl) (by kernel_rfl) (by kernel_rfl) ?_)
   refine KRk (KLc (p_allu (some ⟨g17, 0, none⟩) (n + 1) cap7 (P4 m k ++ [byI (grA m.gs k).o]) (some ⟨g15, 0, none⟩) 4 4 (four (grA m.gs k).r (grA m.gs k).n (grA m.gs k).a (grA m.gs k).b) _ (four_u (hm.r.g _ (grA_mem (by omega))).r (hm.r.g _ (grA_mem (by omega))).n ⟨by omega, by omega⟩ (hm.r.g _ (grA_mem (by omega))).b) (by decide) (by rw [List.length_append, P4_len m (by omega)]; simp only [List.length_cons, List.length_nil]; omega) (by omega) m140.arr (Fx.Blk.arrAt (off := 0) m144 (by decide) (fun j hj => match j, hj with | 0, _ => rfl | 1, _ => rfl | 2, _ => rfl | 3, _ => rfl | j + 4, h => absurd h (by omega)))) ?_)
   rintro e9 w38 ⟨ab8, cb8, he, hm9, hb10⟩
   refine ⟨_, he, ?_⟩
   clear he
   have s29 := Sb hb10
   have ⟨m146, b40⟩ := KTk2 hb10 m141 b39
   have m145 : Fx.Own w38 w.heap.size 5 1 (.slice ab8 (n + 33) (cb8)) (n + 33) (Fx.byY (P4 m (k + 1))) := by have q9 := hm9.mono b39.size; rw [P4_s m (by omega)] at q9; exact q9
   refine Ln ⟨Fx.ChT.of_below s29.old, ?_⟩
   refine Rn (Fx.RA.still (by rfl) ?_)
   refine KRq (.slice ab8 (n + 33) (cb8)) (Rn (Fx.RA.nil ?_))
   refine blkN (sN (Wl (Lv (Ki6 ((k : Int) + 1)) (KxP (hx := h22)) (KLq (Ki6 ((k : Int) + 1)) (Ln (lpN ⟨k + 1, n + 33, ab8, cb8, by omega, by omega, h18, h19, (h20.trans (by first | rfl | exact congrArg (Value.int .i64) (by omega))), (by rfl), (by first | rfl | exact congrArg (Value.int .i64) (by omega)), m146, m145, b40⟩ ?_))))))
   show (m.gs.length - (intOf ((.int .i64 ((k : Int) + 1)))).toNat) < _
   simp only [h22, intOf]; omega
  refine Lv KbF (KltF c80 (hx := h22) (hy := h20)) (KLe (Ws (KWcF (Wx (seqX (lpX (blkX (sN (Ws ?_)))))))))
  have m150 : Fx.Own w25 w.heap.size 5 1 (.slice ao (n) (co)) n (Fx.byY (bodyB m)) := by have q9 := m79; rw [show k = m.gs.length by omega, P4_e] at q9; exact q9
  refine Wl (KLh h21 (KLh h21 (KLc1 (c_sum (a := ao) (n := n) (c := co) (by rw [body_len]; omega) (by omega) m150.arr) _ rfl ?_)))
  intro w39 hb11
  have ⟨m152, b41⟩ := KTk2 hb11 m150 b26
  refine KLc (p_u32 ao n co (bodyB m) (Crc.I (Crc.sum (bodyB m))) 4 _ (by decide) (crc_u _) (by rw [body_len]; omega) (by omega) m152.arr) ?_
  rintro e9 w40 ⟨ab9, cb9, he, hm10, hb12⟩
  refine ⟨_, he, ?_⟩
  clear he
  have b42 := KTk1 hb12 b41
  have m153 : Fx.Own w40 w.heap.size 5 1 (.slice ab9 (n + 4) (cb9)) (n + 4) (Fx.byY (bodyB m ++ be 4 (Crc.I (Crc.sum (bodyB m))))) := hm10.mono b41.size
  refine KLq (.slice ab9 (n + 4) (cb9)) (KLe (Wr (Kret (.slice ab9 (n + 4) (cb9)) ?_)))
  rw [putB_y hM]; have l9 : (bytesB m).length = n + 4 := by unfold bytesB; rw [List.length_append, body_len, be_len]; omega
  exact ⟨ab9, cb9, by rw [l9], by rw [l9]; exact m153, b42⟩
 rw [Bool.not_eq_true] at c13
 refine KLc1 (s_may m na nc ga gc _ hm.r.k hm.l1 hm.l2 (hm.up b1).n (hm.up b1).g) KbF (by rw [c13]) ?_
 intro w41 hb13
 have b43 := KTk1 hb13 b1
 refine KLq KbT (KLe (KWcT (KWsl (KLq (.slice none 0 0) (KLe (Wr (sR (Kret (.slice none 0 0) ?_))))))))
 rw [putB_n c13]; exact ⟨none, 0, rfl, oNl _ _ _ _ _, b43⟩
end Go.Proofs.Ytkajcjefckjijaa
namespace Go.Proofs.Ytkajcjefckjijaa
open Go.RowKit Go
set_option linter.unusedVariables false
namespace Rt
theorem u8_bd (x : UInt8) : 0 ≤ (x.toNat : Int) ∧ (x.toNat : Int) ≤ 255 := by have := x.toNat_lt; omega
theorem val_app (l : List UInt8) (c : UInt8) : valB (l ++ [c]) = valB l * 256 + (c.toNat : Int) := by
  unfold valB; rw [List.foldl_append]; rfl
theorem val_bd (l : List UInt8) : 0 ≤ valB l ∧ valB l < 256 ^ l.length := by
  have h : ∀ (k : Nat) (l : List UInt8), l.length = k → 0 ≤ valB l ∧ valB l < 256 ^ k := by
    intro k
    induction k with
    | zero =>
      intro l hl
      rw [List.length_eq_zero_iff.1 hl]
      exact ⟨Int.le_refl _, by decide⟩
    | succ k ih =>
      intro l hl
      have hne : l ≠ [] := fun e => by rw [e] at hl; simp at hl
      obtain ⟨r, c, rfl⟩ : ∃ r c, l = r ++ [c] := ⟨l.dropLast, l.getLast hne, (List.dropLast_concat_getLast hne).symm⟩
      rw [List.length_append] at hl
      have hk : r.length = k := by simpa using hl
      obtain ⟨h1, h2⟩ := ih r hk
      have hc := u8_bd c
      rw [val_app]
      have e : (256 : Int) ^ (k + 1) = 256 ^ k * 256 := Int.pow_succ ..
      rw [e]
      omega
  exact h l.length l rfl
theorem val_take {l : List UInt8} {i : Nat} (h : i < 8) : 0 ≤ valB (l.take i) ∧ valB (l.take i) ≤ 72057594037927935 := by
  obtain ⟨h1, h2⟩ := val_bd (l.take i)
  refine ⟨h1, ?_⟩
  have hle : (l.take i).length ≤ 7 := by rw [List.length_take]; omega
  have : ∀ n, n ≤ 7 → (256 : Int) ^ n ≤ 72057594037927936 := by decide
  have := this _ hle
  omega
theorem val_step {l : List UInt8} {i : Nat} (h : i < l.length) : valB (l.take (i + 1)) = 256 * valB (l.take i) + ((l.getD i 0).toNat : Int) := by
  rw [List.take_add_one, List.getElem?_eq_getElem h, List.getD_eq_getElem?_getD, List.getElem?_eq_getElem h]
  show valB (l.take i ++ [l[i]]) = _
  rw [val_app]
  simp
  omega
theorem or256 {a b : Int} (h0 : 0 ≤ a ∧ a ≤ 72057594037927935) (hb : 0 ≤ b ∧ b ≤ 255) : bits .or .u64 (256 * a) b = 256 * a + b := by
  obtain ⟨n, rfl⟩ := Int.eq_ofNat_of_zero_le h0.1
  obtain ⟨m, rfl⟩ := Int.eq_ofNat_of_zero_le hb.1
  have e : ((BitVec.ofInt 64 (256 * (n : Int)) ||| BitVec.ofInt 64 (m : Int)).toNat : Int) = 256 * (n : Int) + m := by
    rw [BitVec.toNat_or, BitVec.toNat_ofInt, BitVec.toNat_ofInt]
    rw [show ((256 * (n : Int)) % ((2 ^ 64 : Nat) : Int)).toNat = 256 * n by omega, show ((m : Int) % ((2 ^ 64 : Nat) : Int)).toNat = m by omega]
    have h := Nat.shiftLeft_add_eq_or_of_lt (i := 8) (b := m) (by omega) n
    rw [Nat.shiftLeft_eq] at h
    rw [show 256 * n = n * 2 ^ 8 by omega, ← h]
    omega
  show IntKind.u64.wrap ((BitVec.ofInt 64 (256 * (n : Int)) ||| BitVec.ofInt 64 (m : Int)).toNat : Int) = _
  rw [e]; exact Fx.u64e (by omega) rfl
theorem or_step {l : List UInt8} {i : Nat} (h : i < l.length) (h8 : i < 8) : bits .or .u64 (256 * valB (l.take i)) ((l.getD i 0).toNat : Int) = valB (l.take (i + 1)) := by
  rw [or256 (val_take h8) (u8_bd _), val_step h]
theorem val_top {l : List UInt8} (h : l.length ≤ 8) : 0 ≤ valB l ∧ valB l ≤ 18446744073709551615 := by
  obtain ⟨h1, h2⟩ := val_bd l
  have : ∀ n, n ≤ 8 → (256 : Int) ^ n ≤ 18446744073709551616 := by decide
  have := this _ h
  omega
theorem by_part {l : List UInt8} {p k : Nat} : ∀ q, q < k * 1 → (fun q => Fx.byY l (p * 1 + q)) q = Fx.byY ((l.drop p).take k) q := fun q hq => by
  show Fx.byY l (p * 1 + q) = _
  unfold Fx.byY
  rw [List.getD_eq_getElem?_getD, List.getD_eq_getElem?_getD, List.getElem?_take, if_pos (by omega), List.getElem?_drop, Nat.mul_one]
theorem part_len {l : List UInt8} {p k : Nat} (h : p + k ≤ l.length) : ((l.drop p).take k).length = k := by
  rw [List.length_take, List.length_drop]; omega
theorem arr_part {w : World} {a : Option Addr} {l : List UInt8} {p k n : Nat} (h : Fx.Arr w a n 1 (fun q => Fx.byY l (p * 1 + q))) (e : n = k) : Fx.Arr w a k 1 (Fx.byY ((l.drop p).take k)) := fun h0 => by
  subst e
  obtain ⟨b, off, ea, hc⟩ := h h0
  exact ⟨b, off, ea, fun i hi => (hc i hi).trans (congrArg some (by_part i hi))⟩
end Rt
end Go.Proofs.Ytkajcjefckjijaa
namespace Go.Proofs.Ytkajcjefckjijaa
open Go.RowKit Rt
open Fx (x_move x_assign x_field x_load1 x_conv x_indexS x_index x_leqF x_loadA x_len x_gtrF x_eqlF x_eqlT Lv sN Ln Ws Qv Wl Rp Wc Qs Wr Sb Lk Wk rV sR Rs Rn Rd Rk Wb Wx Wo WoE Wt Wone Qn Qcl Lcl Lbs Lap Lnw Lbx Stv cOs cOg sRf mRf gRf cRf oNl bGr WsJ Wro rv varr Blk ovr putI ev Stp ovr_all flat updV Mp run_loadV Cel fill_step ret0 Chg i64e Arr flat_cong cells_agg cells_one ChT ovr_ones jnN u64e appX fOne_out upd_all blkR blkN seqX blkX lpX lpN lpR retV2)
theorem o_takeN (a : Option Addr) (n c : Nat) (l : List UInt8) (p k : Nat) (w : World) (hk : k = 1 ∨ k = 2 ∨ k = 4 ∨ k = 8) (hp : p ≤ n) (hn : n = l.length) (hc : n ≤ c) (hl : n ≤ 100000000) (hb : Arr w a n 1 (Fx.byY l)) (hs : n < p + k) :
    Calls Try.prog 65 #[.slice a (n) (c), Ki6 ((p : Int)), Ki6 ((k : Int))] w fun e w' => e = .returned (.tuple #[Ku6 0, Ki6 0, Ki6 5]) ∧ Below w.heap.size w w' := by
 refine Kent Try.func65 48 ?_
 refine KWsl (KLq (Ku6 0) (KLq (Ki6 0) (KLq (Ki6 0) (KLe (Ws (Wb (Ws (KWsl (KLq (Ki6 k) (KLc0 (o_width k (8 * k) hk rfl _) _ rfl (Lv KbF KeqFo (KLq KbF (KLe (KWcF (KWsl (KLq (Ki6 p) (Lv KbF KltFo (KLq KbF (KLe (KWcF (Wl (KLq (Ki6 p) (KLq (.slice a (n) (c)) (KLq (Ki6 n) (Lv KbF KgtFo (KLq KbF (KLe (KWcF (KWsl (KLq (.slice a (n) (c)) (KLq (Ki6 n) (KLq (Ki6 p) (Lv (Ki6 ((n : Int) - (p : Int))) KxM (KLq (Ki6 k) (Lv KbT KltTo (KLq KbT (KLe (KWcT (KWsl (KLq (Ku6 0) (KLq (Ki6 0) (KLq (Ki6 5) ?_))))))))))))))))))))))))))))))))))))))))))
 refine KLe (Wr (blkR (sR (⟨.tuple #[Ku6 0, Ki6 0, Ki6 5], Fx.retV3 Try.results65 (by exact rfl) (by exact rfl) (by exact rfl), ?_⟩))))
 exact ⟨rfl, (Below.refl w.heap.size w)⟩
theorem o_takeY (a : Option Addr) (n c : Nat) (l : List UInt8) (p k : Nat) (w : World) (hk : k = 1 ∨ k = 2 ∨ k = 4 ∨ k = 8) (hp : p ≤ n) (hn : n = l.length) (hc : n ≤ c) (hl : n ≤ 100000000) (hb : Arr w a n 1 (Fx.byY l)) (hs : p + k ≤ n) :
    Calls Try.prog 65 #[.slice a (n) (c), Ki6 ((p : Int)), Ki6 ((k : Int))] w fun e w' => e = .returned (.tuple #[Ku6 (valB ((l.drop p).take k)), Ki6 ((p + k : Nat) : Int), Ki6 0]) ∧ Below w.heap.size w w' := by
 refine Kent Try.func65 48 ?_
 refine KWsl (KLq (Ku6 0) (KLq (Ki6 0) (KLq (Ki6 0) (KLe (Ws (Wb (Ws (KWsl (KLq (Ki6 k) (KLc0 (o_width k (8 * k) hk rfl _) _ rfl (Lv KbF KeqFo (KLq KbF (KLe (KWcF (KWsl (KLq (Ki6 p) (Lv KbF KltFo (KLq KbF (KLe (KWcF (Wl (KLq (Ki6 p) (KLq (.slice a (n) (c)) (KLq (Ki6 n) (Lv KbF KgtFo (KLq KbF (KLe (KWcF (KWsl (KLq (.slice a (n) (c)) (KLq (Ki6 n) (KLq (Ki6 p) (Lv (Ki6 ((n : Int) - (p : Int))) KxM (KLq (Ki6 k) (Lv KbF KltFo (KLq KbF (KLe (KWcF (Wk (blkN (sN (KWsl (KLq (Ki6 p) (KLq (Ki6 k) (Lv (Ki6 ((p + k : Nat) : Int)) KxP ?_)))))))))))))))))))))))))))))))))))))))))))))
 refine KLq (Ki6 ((p + k : Nat) : Int)) (KLe (Ws (KWsl (KLq (.slice a (n) (c)) (KLq (Ki6 p) (KLq (Ki6 ((p + k : Nat) : Int)) (Fx.L.sl (j := p) (h := p + k) (s := 1) (y := Fx.byY l) (by rfl) (by rfl) rfl rfl (by rw [if_neg (by rintro ⟨_, h⟩; cases h)]; exact congrArg some rfl) (by rw [if_neg (by rintro ⟨_, h⟩; cases h)]; exact congrArg some rfl) Try.underlying30 (by kernel_rfl) (by omega) (by omega) hc (hb.up (Below.refl w.heap.size w) rfl) fun as1 has1 => ?_)))))))
 obtain ⟨pt, ept⟩ : ∃ q, q = (l.drop p).take k := ⟨_, rfl⟩
 have hpl : pt.length = k := by rw [ept]; exact part_len (by omega)
 have hpt : Arr w as1 k 1 (Fx.byY pt) := by rw [ept]; exact arr_part has1 (by omega)
 refine Lv (Ki6 k) (x_len rfl rfl (congrArg (fun q => Value.slice as1 q (c - p)) (show (p + k - p) = k by omega)) (by kernel_rfl)) (KLq (Ki6 0) (KLe (Wb (Wo (fun f w_ => ∃ i : Nat, i ≤ k ∧ f 6 = Ku6 (valB (pt.take i)) ∧ f 7 = Ki6 (((p + k : Nat) : Int)) ∧ f 34 = .slice as1 (k) ((c - p)) ∧ f 35 = Ki6 ((k : Int)) ∧ f 36 = Ki6 ((i : Int)) ∧ Below w.heap.size w w_) (fun f _ => (k - (intOf (f 36)).toNat)) ⟨0, by omega, (congrArg (Value.int .u64) (show (0 : Int) = valB (pt.take 0) from rfl)), Fx.ic, (congrArg (fun q => Value.slice as1 q (c - p)) (show (p + k - p) = k by omega)), Fx.ic, Fx.ic, (Below.refl w.heap.size w)⟩ ?_))))
 rintro f1 w1 ⟨i, hi, h1, h2, h3, h4, h5, b1⟩
 refine KWsl ?_
 by_cases c37 : (i : Int) < (k : Int)
 ·refine Lv KbT (KltT c37 (hx := h5) (hy := h4)) (KLe (Ws (KWcT (Wk (sN (Ws (Wb (Ws ?_))))))))
  have hv8 := val_take (l := pt) (show i < 8 by omega)
  have hcb := u8_bd (pt.getD i 0)
  refine Wl ?_
  obtain ⟨bq1, oq1, eq1, m1⟩ := (hpt.up b1 rfl) (by omega)
  have lbq1 : bq1 < w1.heap.size := m1.lt (by omega)
  refine Lv ((pf bq1 (i + oq1))) (Kxi 1 (hx := (h3.trans (congrArg (fun q => Value.slice q (k) ((c - p))) eq1))) (hi := h5)) (Lv (.int .u8 ((((pt).getD i 0).toNat : Int))) (Kxl m1 i) (KLq (.int .u8 ((((pt).getD i 0).toNat : Int))) (KLe (Wl (KLh h1 (Lv (Ku6 (256 * valB (pt.take i))) (Fx.x_shl (b := 8) rfl rfl rfl (by decide) (u64e (by omega) (by omega))) (KLq (.int .u8 ((((pt).getD i 0).toNat : Int))) (Lv (Ku6 (((pt).getD i 0).toNat : Int)) (x_conv rfl rfl (by kernel_rfl) Try.underlying23 (u64e (by omega) rfl)) (Lv (Ku6 (valB (pt.take (i + 1)))) (Fx.x_or rfl rfl rfl (or_step (by omega) (by omega))) (KLq (Ku6 (valB (pt.take (i + 1)))) (Ln (blkN (sN (Wl (Lv (Ki6 ((i : Int) + 1)) (KxP (hx := h5)) (KLq (Ki6 ((i : Int) + 1)) (Ln (lpN ⟨i + 1, by omega, (by rfl), (h2.trans Fx.ic), h3, (h4.trans Fx.ic), Fx.ic, b1⟩ ?_))))))))))))))))))
  show (k - (intOf ((Ki6 ((i : Int) + 1)))).toNat) < _
  simp only [h5, intOf]; omega
 refine Lv KbF (KltF c37 (hx := h5) (hy := h4)) (KLe (Ws (KWcF (Wx (seqX (lpX (blkX (sN (KWsl (KLh h1 (KLh h2 (KLq (Ku6 (valB (pt.take i))) (KLq (Ki6 ((p + k : Nat) : Int)) (KLq (Ki6 0) (KLe (Wr (⟨.tuple #[Ku6 (valB (pt.take i)), Ki6 (((p + k : Nat) : Int)), Ki6 0], Fx.retV3 Try.results65 (by exact rfl) (by exact rfl) (by exact rfl), ?_⟩)))))))))))))))))
 have e9 := List.take_of_length_le (show pt.length ≤ i by omega)
 exact ⟨by rw [← ept, e9], b1⟩
section
namespace Rt
def ctY (a : Option Addr) (n c : Nat) (s : Ct) : Nat → Value := fun j => if j = 0 then .slice a n c else if j = 1 then Ki6 (s.1 : Int) else .bool s.2
section
variable {l : List UInt8} {s : Ct} {k n i : Nat}
theorem cut_y (h : s.2 = true ∨ l.length < s.1 + k) (hs : s.1 ≤ l.length) : cutS l s k = (s.1, true) ∧ cutV l s k = 0 := by
  have h : s.2 = true ∨ l.length - s.1 < k := h.imp id (fun h => by omega)
  unfold cutS cutV; rw [if_pos h, if_pos h]; exact ⟨rfl, rfl⟩
theorem cut_n (h : s.2 = false) (h2 : ¬ l.length < s.1 + k) (hs : s.1 ≤ l.length) : cutS l s k = (s.1 + k, false) ∧ cutV l s k = valB ((l.drop s.1).take k) := by
  have h : ¬ (s.2 = true ∨ l.length - s.1 < k) := fun q => q.elim (fun q => by rw [h] at q; cases q) (fun q => by omega)
  unfold cutS cutV; rw [if_neg h, if_neg h]; exact ⟨rfl, rfl⟩
theorem cut_le (hs : s.1 ≤ l.length) : (cutS l s k).1 ≤ l.length := by
  by_cases h : s.2 = true ∨ l.length < s.1 + k
  · rw [(cut_y h hs).1]; exact hs
  have h1 : s.2 = false := by cases e : s.2; rfl; exact absurd (.inl e) h
  rw [(cut_n h1 (fun q => h (.inr q)) hs).1]; show s.1 + k ≤ _; have := fun q => h (.inr q); omega
theorem cutN_le (hs : s.1 ≤ l.length) : ∀ n, (cutN l k n s).1 ≤ l.length
  | 0 => hs
  | n + 1 => cut_le (cutN_le hs n)
theorem cutV_bd (hk : k ≤ 8) : 0 ≤ cutV l s k ∧ cutV l s k ≤ 18446744073709551615 := by
  unfold cutV
  split
  · exact ⟨Int.le_refl _, by decide⟩
  exact val_top (by rw [List.length_take]; omega)
end
theorem o_take {a : Option Addr} {n c : Nat} {l : List UInt8} {p k : Nat} {w : World} (hk : k = 1 ∨ k = 2 ∨ k = 4 ∨ k = 8) (hp : p ≤ n) (hn : n = l.length) (hc : n ≤ c) (hl : n ≤ 100000000) (hb : Arr w a n 1 (Fx.byY l)) :
    Calls Try.prog 65 #[.slice a n c, Ki6 (p : Int), Ki6 (k : Int)] w fun e w' => e = .returned (.tuple #[Ku6 (if l.length < p + k then 0 else valB ((l.drop p).take k)), Ki6 (if l.length < p + k then 0 else ((p + k : Nat) : Int)), Ki6 (if l.length < p + k then 5 else 0)]) ∧ Below w.heap.size w w' := by
  by_cases h : l.length < p + k
  · rw [if_pos h, if_pos h, if_pos h]; exact o_takeN a n c l p k w hk hp hn hc hl hb (by omega)
  rw [if_neg h, if_neg h, if_neg h]; exact o_takeY a n c l p k w hk hp hn hc hl hb (by omega)
end Rt
theorem c_number (gc : Nat) (a : Option Addr) (n c : Nat) (l : List UInt8) (s : Ct) (k : Nat) (w : World) (hk : k = 1 ∨ k = 2 ∨ k = 4 ∨ k = 8) (hs : s.1 ≤ n) (hn : n = l.length) (hc : n ≤ c) (hl : n ≤ 100000000) (hb : Arr w a n 1 (Fx.byY l)) (hg : Blk w gc 3 (ctY a n c s) 66) :
    Calls Try.prog 29 #[(pt gc), Ki6 ((k : Int))] w fun e w' => e = .returned (Ku6 (cutV l s k)) ∧ Blk w' gc 3 (ctY a n c (cutS l s k)) 66 ∧ Stp gc w w' := by
 refine Kent Try.func29 42 ?_
 refine KWsl (KLq (Ku6 0) (KLe (Ws ?_)))
 -- region 1 draws
 refine KWqb (KQq ((pt gc)) (KQq ((pt gc)) (KQq ((pt gc)) (Qv (.slice a (n) (c)) (fun v1 hv1 => Kxl (hg.cb hv1) 0) (KQq ((pt gc)) (KQq ((pt gc)) (KQq ((pf gc 1)) (Qv (Ki6 s.1) (fun v1 hv1 => Kxl (hg.cb hv1) 1) (KQq (Ki6 k) (KQc1 (fun v1 hv1 => o_take hk hs hn hc hl (hb.up hv1 rfl)) _ rfl (KQq (.tuple #[Ku6 ((if l.length < s.1 + k then 0 else valB ((l.drop s.1).take k))), Ki6 ((if l.length < s.1 + k then 0 else ((s.1 + k : Nat) : Int))), Ki6 ((if l.length < s.1 + k then (5 : Int) else 0))]) (KQq (Ku6 (if l.length < s.1 + k then 0 else valB ((l.drop s.1).take k))) (KQq (Ki6 (if l.length < s.1 + k then 0 else ((s.1 + k : Nat) : Int))) (KQq (Ki6 (if l.length < s.1 + k then (5 : Int) else 0)) (KQq (Ku6 (if l.length < s.1 + k then 0 else valB ((l.drop s.1).take k))) (KQq (Ki6 (if l.length < s.1 + k then 0 else ((s.1 + k : Nat) : Int))) (KQq (Ki6 (if l.length < s.1 + k then (5 : Int) else 0)) (Qn ?_))))))))))))))))))
 intro wb1 hbwb1
 have s1 : Stp w.heap.size w wb1 := Sb hbwb1
 have m1 := KTk1 hbwb1 hg
 have b1 := (sRf gc w).then s1 (.inr (sRf gc w).size)
 refine sN (Ws (KWsl (KLq ((pt gc)) (KLq ((pt gc)) (KLq ((pt gc)) (KLq ((pf gc 2)) ?_))))))
 by_cases c26 : s.2 = true
 ·refine Lv KbT (Kxl m1.cel 2 ((show _ = Value.bool s.2 from rfl).trans (congrArg Value.bool c26))) (KLq KbT (KLu (KLu (KLq KbT (KLq ((pt gc)) (KLq ((pf gc 2)) (KLs m1 2 KbT fun w1 m2 s2 z1 => ?_)))))))
  have b2 := b1.then s2 (by omega)
  refine KLe (KWsl (KLq ((pt gc)) (KLq ((pt gc)) (KLq ((pf gc 2)) (Lv KbT (Kxl m2.cel 2 (Fx.updV_eq (by omega))) (KLe (KWcT (KWsl (KLq (Ku6 0) (KLe (Wr (sR (Kret (Ku6 0) ?_)))))))))))))
  have hcy := cut_y (l := l) (s := s) (k := k) (.inl c26) (by omega)
  refine ⟨by rw [hcy.2], ?_, b2⟩
  rw [hcy.1]; exact m2.congr (fun j hj => by rcases j with _|_|_|j <;> first | rfl | omega)
 rw [Bool.not_eq_true] at c26
 refine Lv KbF (Kxl m1.cel 2 ((show _ = Value.bool s.2 from rfl).trans (congrArg Value.bool c26))) (KLq KbF (KLq (Ki6 (if l.length < s.1 + k then (5 : Int) else 0)) ?_))
 by_cases c29 : (if l.length < s.1 + k then (5 : Int) else 0) = 0
 ·refine Lv KbF (KneF c29) (KLq KbF (KLq ((pt gc)) (KLq ((pf gc 2)) (KLs m1 2 KbF fun w2 m3 s3 z2 => ?_))))
  have b3 := b1.then s3 (by omega)
  refine KLe (KWsl (KLq ((pt gc)) (KLq ((pt gc)) (KLq ((pf gc 2)) (Lv KbF (Kxl m3.cel 2 (Fx.updV_eq (by omega))) (KLe (KWcF (Wk (sN (KWsl (KLq ((pt gc)) (KLq (Ki6 (if l.length < s.1 + k then 0 else ((s.1 + k : Nat) : Int))) (KLq ((pt gc)) (KLq ((pf gc 1)) (KLs m3 1 (Ki6 (if l.length < s.1 + k then 0 else ((s.1 + k : Nat) : Int))) fun w3 m4 s4 z3 => ?_)))))))))))))))
  have b4 := b3.then s4 (by omega)
  refine KLe (KWsl (KLq (Ku6 (if l.length < s.1 + k then 0 else valB ((l.drop s.1).take k))) (KLq (Ku6 (if l.length < s.1 + k then 0 else valB ((l.drop s.1).take k))) (KLe (Wr (Kret (Ku6 (if l.length < s.1 + k then 0 else valB ((l.drop s.1).take k))) ?_))))))
  have hq : ¬ l.length < s.1 + k := fun q => by rw [if_pos q] at c29; exact absurd c29 (by decide)
  have hcy := cut_n (l := l) (s := s) (k := k) c26 hq (by omega)
  refine ⟨by rw [hcy.2, if_neg hq], ?_, b4⟩
  rw [hcy.1]; exact m4.congr (fun j hj => by rw [if_neg hq]; rcases j with _|_|_|j <;> first | rfl | omega)
 refine Lv KbT (KneT c29) (KLq KbT (KLq ((pt gc)) (KLq ((pf gc 2)) (KLs m1 2 KbT fun w4 m5 s5 z4 => ?_))))
 have b5 := b1.then s5 (by omega)
 refine KLe (KWsl (KLq ((pt gc)) (KLq ((pt gc)) (KLq ((pf gc 2)) (Lv KbT (Kxl m5.cel 2 (Fx.updV_eq (by omega))) (KLe (KWcT (KWsl (KLq (Ku6 0) (KLe (Wr (sR (Kret (Ku6 0) ?_)))))))))))))
 have hcy := cut_y (l := l) (s := s) (k := k) (.inr (Classical.byContradiction fun q => c29 (if_neg q))) (by omega)
 refine ⟨by rw [hcy.2], ?_, b5⟩
 rw [hcy.1]; exact m5.congr (fun j hj => by rcases j with _|_|_|j <;> first | rfl | omega)
end
namespace Rt
theorem ovr_row (Y : Nat → Value) (off i : Nat) (kx : Nat → Value) {N : Nat} {v : Value} (hv : v = kx i) : ∀ j, j < N → updV (ovr Y off i kx) (i + off) v j = ovr Y off (i + 1) kx j := fun j _ => by
  subst hv
  unfold updV ovr
  by_cases c : j = i + off
  · rw [if_pos c, if_pos (by omega), c, Nat.add_sub_cancel]
  · rw [if_neg c]
    by_cases c2 : off ≤ j ∧ j < off + i
    · rw [if_pos c2, if_pos (by omega)]
    · rw [if_neg c2, if_neg (by omega)]
end Rt
theorem c_manyu (gc gt : Nat) (a : Option Addr) (n c : Nat) (l : List UInt8) (s : Ct) (off m rc : Nat) (Y : Nat → Value) (w : World) (hs : s.1 ≤ n) (hn : n = l.length) (hc : n ≤ c) (hl : n ≤ 100000000) (hm : off + m ≤ 20) (hA : ∀ w', Chg (fun q => q = gc ∨ q = gt) w w' → Arr w' a n 1 (Fx.byY l)) (hg : Blk w gc 3 (ctY a n c s) 66) (ht : Blk w gt 20 Y 29) :
    Calls Try.prog 30 #[(pt gc), .slice (some ⟨gt, off, none⟩) (m) (rc)] w fun e w' => e = .returned (.tuple #[]) ∧ Blk w' gc 3 (ctY a n c (cutN l 8 m s)) 66 ∧ Blk w' gt 20 (ovr Y off m (rv .u64 (rowV l s 8))) 29 ∧ Chg (fun q => q = gc ∨ q = gt) w w' := by
 have lgc := hg.lt
 have lgt := ht.lt
 have ne9 : gc ≠ gt := fun e => absurd (Fx.Ty.only (e ▸ hg.ty) ht.ty) (by decide)
 refine Kent Try.func30 16 ?_
 refine Ws ?_
 have m1 : Blk w gt 20 (ovr Y off 0 (rv .u64 (rowV l s 8))) 29 := ht.congr (fun j _ => (by unfold ovr; rw [if_neg (by omega)]))
 refine Wl (KLq (.slice (some ⟨gt, off, none⟩) (m) (rc)) (KLq (Ki6 m) (KLq (Ki6 0) (KLe (Wb (Wo (fun f w_ => ∃ i : Nat, i ≤ m ∧ f 0 = (pt gc) ∧ f 1 = .slice (some ⟨gt, off, none⟩) (m) (rc) ∧ f 5 = .slice (some ⟨gt, off, none⟩) (m) (rc) ∧ f 6 = Ki6 ((m : Int)) ∧ f 7 = Ki6 ((i : Int)) ∧ Blk w_ gc 3 (ctY a n c (cutN l 8 i s)) 66 ∧ Blk w_ gt 20 (ovr Y off i (rv .u64 (rowV l s 8))) 29 ∧ Chg (fun q => q = gc ∨ q = gt) w w_) (fun f _ => (m - (intOf (f 7)).toNat)) ⟨0, by omega, (by rfl), (by rfl), (by rfl), Fx.ic, Fx.ic, hg, m1, (gRf _ w)⟩ ?_))))))
 rintro f1 w1 ⟨i, hi, h1, h2, h3, h4, h5, m2, m3, b1⟩
 refine KWsl ?_
 by_cases c8 : (i : Int) < (m : Int)
 ·refine Lv KbT (KltT c8 (hx := h5) (hy := h4)) (KLe (Ws (KWcT (Wk (sN (Ws (Wb (KWsl (KLh h5 (KLq (Ki6 i) (KLe (Wl (KLh h2 (KLq (Ki6 i) (KLh h1 (KLc1 (c_number gc a n c l (cutN l 8 i s) 8 _ (by omega) (by rw [hn]; exact cutN_le (by omega) i) hn hc hl (hA _ b1) m2) _ rfl ?_))))))))))))))))
  rintro w2 ⟨hq1, s1⟩
  have hct1 := cOs s1 m2.ty
  have m4 := KCk1 hct1 m3
  have b2 := b1.then s1 (.inl (.inl rfl))
  refine Lv ((pf gt (i + off))) (Kxi 1) (KLs m4 (i + off) (Ku6 (rowV l s 8 i)) fun w3 m5 s2 z1 => ?_)
  have m6 : Blk w3 gt 20 (ovr Y off (i + 1) (rv .u64 (rowV l s 8))) 29 := m5.congr (ovr_row _ _ _ _ rfl)
  have hct2 := cOs s2 m4.ty
  have m7 := KCk1 hct2 hq1
  have b3 := b2.then s2 (.inl (.inr rfl))
  refine Ln (blkN (sN (Wl (Lv (Ki6 ((i : Int) + 1)) (KxP (hx := h5)) (KLq (Ki6 ((i : Int) + 1)) (Ln (lpN ⟨i + 1, by omega, h1, h2, h3, (h4.trans Fx.ic), Fx.ic, m7, m6, b3⟩ ?_)))))))
  show (m - (intOf ((Ki6 ((i : Int) + 1)))).toNat) < _
  simp only [h5, intOf]; omega
 refine Lv KbF (KltF c8 (hx := h5) (hy := h4)) (KLe (Ws (KWcF (Wx (seqX (lpX (blkX (⟨.tuple #[], ret0 Try.results30, ?_⟩))))))))
 have ei : i = m := by omega
 exact ⟨rfl, by rw [← ei]; exact m2, by rw [← ei]; exact m3, b1⟩
theorem c_manyi (gc gt : Nat) (a : Option Addr) (n c : Nat) (l : List UInt8) (s : Ct) (off m rc : Nat) (Y : Nat → Value) (w : World) (hs : s.1 ≤ n) (hn : n = l.length) (hc : n ≤ c) (hl : n ≤ 100000000) (hm : off + m ≤ 56) (hA : ∀ w', Chg (fun q => q = gc ∨ q = gt) w w' → Arr w' a n 1 (Fx.byY l)) (hg : Blk w gc 3 (ctY a n c s) 66) (ht : Blk w gt 56 Y 50) :
    Calls Try.prog 32 #[(pt gc), .slice (some ⟨gt, off, none⟩) (m) (rc)] w fun e w' => e = .returned (.tuple #[]) ∧ Blk w' gc 3 (ctY a n c (cutN l 8 m s)) 66 ∧ Blk w' gt 56 (ovr Y off m (rv .i64 (fun q => i64w (rowV l s 8 q)))) 50 ∧ Chg (fun q => q = gc ∨ q = gt) w w' := by
 have lgc := hg.lt
 have lgt := ht.lt
 have ne9 : gc ≠ gt := fun e => absurd (Fx.Ty.only (e ▸ hg.ty) ht.ty) (by decide)
 refine Kent Try.func32 17 ?_
 refine Ws ?_
 have m1 : Blk w gt 56 (ovr Y off 0 (rv .i64 (fun q => i64w (rowV l s 8 q)))) 50 := ht.congr (fun j _ => (by unfold ovr; rw [if_neg (by omega)]))
 refine Wl (KLq (.slice (some ⟨gt, off, none⟩) (m) (rc)) (KLq (Ki6 m) (KLq (Ki6 0) (KLe (Wb (Wo (fun f w_ => ∃ i : Nat, i ≤ m ∧ f 0 = (pt gc) ∧ f 1 = .slice (some ⟨gt, off, none⟩) (m) (rc) ∧ f 5 = .slice (some ⟨gt, off, none⟩) (m) (rc) ∧ f 6 = Ki6 ((m : Int)) ∧ f 7 = Ki6 ((i : Int)) ∧ Blk w_ gc 3 (ctY a n c (cutN l 8 i s)) 66 ∧ Blk w_ gt 56 (ovr Y off i (rv .i64 (fun q => i64w (rowV l s 8 q)))) 50 ∧ Chg (fun q => q = gc ∨ q = gt) w w_) (fun f _ => (m - (intOf (f 7)).toNat)) ⟨0, by omega, (by rfl), (by rfl), (by rfl), Fx.ic, Fx.ic, hg, m1, (gRf _ w)⟩ ?_))))))
 rintro f1 w1 ⟨i, hi, h1, h2, h3, h4, h5, m2, m3, b1⟩
 refine KWsl ?_
 by_cases c8 : (i : Int) < (m : Int)
 ·refine Lv KbT (KltT c8 (hx := h5) (hy := h4)) (KLe (Ws (KWcT (Wk (sN (Ws (Wb (KWsl (KLh h5 (KLq (Ki6 i) (KLe (Wl (KLh h2 (KLq (Ki6 i) (KLh h1 (KLc1 (c_number gc a n c l (cutN l 8 i s) 8 _ (by omega) (by rw [hn]; exact cutN_le (by omega) i) hn hc hl (hA _ b1) m2) _ rfl ?_))))))))))))))))
  rintro w2 ⟨hq1, s1⟩
  have hct1 := cOs s1 m2.ty
  have m4 := KCk1 hct1 m3
  have b2 := b1.then s1 (.inl (.inl rfl))
  refine Lv (Ki6 (i64w (rowV l s 8 i))) (x_conv rfl rfl (by kernel_rfl) Try.underlying2 rfl) (Lv ((pf gt (i + off))) (Kxi 1) (KLs m4 (i + off) (Ki6 (i64w (rowV l s 8 i))) fun w3 m5 s2 z1 => ?_))
  have m6 : Blk w3 gt 56 (ovr Y off (i + 1) (rv .i64 (fun q => i64w (rowV l s 8 q)))) 50 := m5.congr (ovr_row _ _ _ _ rfl)
  have hct2 := cOs s2 m4.ty
  have m7 := KCk1 hct2 hq1
  have b3 := b2.then s2 (.inl (.inr rfl))
  refine Ln (blkN (sN (Wl (Lv (Ki6 ((i : Int) + 1)) (KxP (hx := h5)) (KLq (Ki6 ((i : Int) + 1)) (Ln (lpN ⟨i + 1, by omega, h1, h2, h3, (h4.trans Fx.ic), Fx.ic, m7, m6, b3⟩ ?_)))))))
  show (m - (intOf ((Ki6 ((i : Int) + 1)))).toNat) < _
  simp only [h5, intOf]; omega
 refine Lv KbF (KltF c8 (hx := h5) (hy := h4)) (KLe (Ws (KWcF (Wx (seqX (lpX (blkX (⟨.tuple #[], ret0 Try.results32, ?_⟩))))))))
 have ei : i = m := by omega
 exact ⟨rfl, by rw [← ei]; exact m2, by rw [← ei]; exact m3, b1⟩
end Go.Proofs.Ytkajcjefckjijaa
