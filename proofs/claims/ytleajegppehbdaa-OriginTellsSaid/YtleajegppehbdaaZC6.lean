/-
  What the proof of the law rests on, part 6: walks of functions, and plain laws; each says its conditions itself.
-/
import Derived.Deep.Slices
import Derived.Lib.SmallJoins
import Derived.ChangeArms
import Derived.Test.YtleajegppehbdaaZC5
namespace Go.Proofs.Ytleajegppehbdaa
open Go.RowKit Rt
open Fx (x_move x_assign x_field x_load1 x_pickF x_pickT x_nil x_conv x_indexS x_index x_leqF x_loadA x_len x_gtrF x_build x_eqlF x_eqlT Lv sN Ln Ws Qv Wl Rp Wc Qs Wr Sb Lk Wk rC rV sR)
section
set_option linter.unusedVariables false
namespace Rt
structure LoU (m : LgM) (ev : Nat → EvM) (c : Nat) (u : Nat → Int) : Prop where
  E : LgE m ((evs ev c).filter (inU u))
  K : m.K = mnK (cntE ev c) u
def nx (c j : Nat) : Nat := if c = j then j + 1 else c
section
variable {m m' : LgM} {ev : Nat → EvM} {an c j : Nat} {u : Nat → Int}
theorem nx_or (hj : j < an) (hc : c = an ∨ c = j) : nx c j = an ∨ nx c j = j + 1 := by unfold nx; split <;> omega
theorem LoU.new (h : ∀ j, 0 ≤ u j) : LoU newL ev 0 u := ⟨LgE.new, by
  show (fun _ => (0 : Int)) = mnK (fun _ => 0) u
  funext j; unfold mnK; have := h j; rw [if_pos this]⟩
theorem LoU.skip (h : LoU m ev c u) (hr : readyE (cntE ev j) (ev j) = true) (hs : ¬ (ev j).seq ≤ u (regN (ev j))) : LoU m ev (nx c j) u := by
  unfold nx
  split
  · rename_i e; subst e
    have h1 := (rdy hr).2.1
    refine ⟨?_, ?_⟩
    · rw [evs_s, List.filter_append, List.filter_cons, if_neg (by unfold inU; rw [decide_eq_true_eq]; exact hs), List.filter_nil, List.append_nil]; exact h.E
    rw [← cnt_bump, mn_high (by omega)]; exact h.K
  exact h
theorem LoU.rdy (h : LoU m ev j u) (hr : readyE (cntE ev j) (ev j) = true) (hcl : ∀ i, i < 6 → (ev j).deps i ≤ u i) (hs : (ev j).seq ≤ u (regN (ev j))) : readyE m.K (ev j) = true := by
  obtain ⟨r1, r2, r3⟩ := Rt.rdy hr
  rw [h.K]
  refine rdy_mk r1 ?_ fun i hi => ?_
  · unfold mnK; rw [if_pos (by omega)]; exact r2
  have h1 := r3 i hi; have h2 := hcl i hi; unfold mnK; split <;> assumption
theorem LoU.add (h : LoU m ev j u) (hr : readyE (cntE ev j) (ev j) = true) (hs : (ev j).seq ≤ u (regN (ev j))) (h1 : LgE m' ((evs ev j).filter (inU u) ++ [ev j])) (h2 : m'.K = bump m.K (regN (ev j))) : LoU m' ev (j + 1) u := by
  have r2 := (Rt.rdy hr).2.1
  refine ⟨?_, ?_⟩
  · rw [evs_s, List.filter_append, List.filter_cons, if_pos (show inU u (ev j) = true from decide_eq_true hs), List.filter_nil]; exact h1
  rw [← cnt_bump, mn_bump (by omega), h2, h.K]
theorem mn_all (h : ∀ j, u j ≤ cntE ev an j) : mnK (cntE ev an) u = u := by
  funext j; unfold mnK; have := h j; split <;> omega
theorem mx_zero (h : ∀ j, 0 ≤ u j) : mxK (fun _ => 0) u = u := by
  funext j; have := h j; show (if u j ≤ (0 : Int) then (0 : Int) else u j) = u j; split <;> omega
theorem mx_all {K : Nat → Int} (h : ∀ j, u j ≤ K j) : mxK K u = K := by
  funext j; unfold mxK; have := h j; rw [if_pos this]
structure KnU (ev : Nat → EvM) (an : Nat) (u : Nat → Int) : Prop where
  pos : ∀ j, 0 ≤ u j
  le : ∀ j, u j ≤ cntE ev an j
  cl : ∀ k, k < an → (ev k).seq ≤ u (regN (ev k)) → ∀ i, i < 6 → (ev k).deps i ≤ u i
theorem tr6_lt {K : Nat → Int} {j : Nat} (h : j < 6) : tr6 K j = K j := if_pos h
theorem KnU.of {n : Nat} {kn : Nat → Nat → Int} (h : Cz n an ev kn) {o : Nat} (ho : o < n) (hk : KnOk (kn o)) : KnU ev an (tr6 (kn o)) := by
  refine ⟨fun j => ?_, fun j => ?_, fun k hk2 hs i hi => ?_⟩
  · unfold tr6; split
    · rename_i hj; exact (hk j hj).1
    exact Int.le_refl _
  · unfold tr6; split
    · rename_i hj; exact (h.kc o ho).le j hj
    exact cnt_nonneg _ _
  have h6 : regN (ev k) < 6 := (regN_may (Rt.rdy (h.rd k hk2)).1).1
  rw [tr6_lt h6] at hs
  rw [tr6_lt hi]
  exact (h.kc o ho).cl k hk2 hs i hi
theorem KnU.chain (h : KnU ev an u) (hr : ∀ k, k < an → readyE (cntE ev k) (ev k) = true) : Chain u ((evs ev an).filter (keepE u)) ∧ endK u ((evs ev an).filter (keepE u)) = cntE ev an := by
  obtain ⟨h1, h2⟩ := evs_chain hr an (Nat.le_refl _)
  obtain ⟨h3, h4⟩ := Chain.high (u := u) _ _ h1
  rw [mx_zero h.pos] at h3 h4
  rw [h2, mx_all h.le] at h4
  exact ⟨h3, h4⟩
end
end Rt
open Rt
theorem e_addU {m : LgM} {B p c j an : Nat} {w : World} {ev : Nat → EvM} {u : Nat → Int} (h : LgO w B p m c) (hB : B ≤ w.heap.size) (hT : an ≤ 900000) (hU : LoU m ev c u) (hk : KnU ev an u) (hr : ∀ k, k < an → readyE (cntE ev k) (ev k) = true) (hv : EvWf (ev j)) (hj : j < an) (hc : c = an ∨ c = j) (hs : (ev j).seq ≤ u (regN (ev j))) :
    Calls Try.prog 19 #[.pointer (some ⟨p, 0, none⟩), .agg (Fx.varr 14 (evY (ev j)))] w fun e w' => (∃ n, e = .returned (.int .i64 n)) ∧ Fx.Chg (lgS p m) w w' ∧ ∃ m', LgO w' B p m' (nx c j) ∧ LoU m' ev (nx c j) u ∧ SepS w p m m' := by
  by_cases e : c = j
  · subst e
    have hrdy := hU.rdy (hr c hj) (hk.cl c hj hs) hs
    refine (e_add h hB (by omega) hU.E hv hrdy).mono fun e w' ⟨h1, h2, m', h3, h4, h5, h6⟩ => ⟨⟨_, h1⟩, h2, m', ?_, ?_, h6⟩
    · unfold nx; rw [if_pos rfl]; exact h3
    unfold nx; rw [if_pos rfl]; exact hU.add (hr c hj) hs h4 h5
  have hca : c = an := hc.resolve_right e
  have en : nx c j = c := by unfold nx; rw [if_neg e]
  refine (o_add (ev j) m B p c w h hB (by omega) hv).mono fun e w' ⟨h1, h2, _, h3⟩ => ⟨⟨_, h1⟩, h2, m, ?_, ?_, fun k hk => .inl hk⟩
  · rw [en]
    refine h3 fun h0 => ?_
    have h5 := (ready_seq (addG_ok h0).2).1
    rw [hU.K, hca] at h5
    have r2 := (Rt.rdy (hr j hj)).2.1
    have h6 := cnt_hit (ev := ev) hj
    unfold mnK at h5
    split at h5 <;> omega
  rw [en]; exact hU
end
section
namespace Rt
def SepL (p : Nat) (m : LgM) (q : Nat) (n : LgM) : Prop := ∀ k, lgS p m k → ¬ lgS q n k
section
variable {w w' : World} {B p q T T' : Nat} {m n n' : LgM}
theorem SepL.symm (h : SepL p m q n) : SepL q n p m := fun k h1 h2 => h k h2 h1
theorem SepL.step (h : SepL p m q n) (hS : SepS w q n n') (hp : LgO w B p m T) : SepL p m q n' := fun k h1 h2 => by
  rcases hS k h2 with h3 | h3
  · exact h k h1 h3
  · have := (hp.ge k h1).2; omega
theorem SepL.of_new (ha : LgO w B p m T) (hb : LgO w' w.heap.size q n T') : SepL p m q n := fun k h1 h2 => by
  have := (ha.ge k h1).2; have := (hb.ge k h2).1; omega
theorem nx_ge (c j : Nat) : c ≤ nx c j := by unfold nx; split <;> omega
theorem getD_drop {A X : List EvM} {t n i : Nat} (e : X = (A.drop t).take n) (hi : i < X.length) : X.getD i zeroE = A.getD (t + i) zeroE := by
  subst e
  have h1 : i < n := by rw [List.length_take] at hi; omega
  rw [List.getD_eq_getElem?_getD, List.getD_eq_getElem?_getD, List.getElem?_take, if_pos h1, List.getElem?_drop]
theorem len_drop {A X : List EvM} {t n : Nat} (e : X = (A.drop t).take n) : X.length = min n (A.length - t) := by rw [e, List.length_take, List.length_drop]
section
variable {A X E0 : List EvM} {u : Nat → Int} {t i k : Nat} {v : EvM}
theorem tell_E (h : LgE m (E0 ++ A.take k ++ [v])) (hv : v = A.getD k zeroE) (hk : k < A.length) : LgE m (E0 ++ A.take (k + 1)) := by
  rw [take_next hk, ← List.append_assoc, ← hv]; exact h
theorem tell_K {mb : LgM} (h : m.K = bump mb.K (regN v)) (hb : mb.K = endK u (A.take k)) (hv : v = A.getD k zeroE) (hk : k < A.length) : m.K = endK u (A.take (k + 1)) := by
  rw [take_next hk, endK_snoc, h, hb, hv]
end
end
end Rt
end
set_option maxRecDepth 20000 in
set_option maxHeartbeats 2000000 in
theorem tells16_any (rb : Nat) (aa0 : Option Addr) (na ca : Nat) (xa : Nat → ActM) (wh ob mo : Nat) (w : World) (hrb : rb ≤ 255) (hob : ob ≤ 255) (hmo : mo ≤ 255) (hxa : ∀ k, k < na → ActOk (xa k)) (hacts : Fx.Arr w aa0 na 9 (Fx.flat 9 fun k => actY (xa k))) :
    Calls Try.prog 4 #[.int .u8 ((rb : Int)), .slice aa0 (na) (ca), .int .u8 ((wh : Int)), .int .u8 ((ob : Int)), .int .u8 ((mo : Int))] w fun e w' => e = .returned (.bool true) ∧ Below w.heap.size w w' := by
 refine Fx.enter Try.func4 rfl (n := 178) rfl (by rfl) ?_
 refine Ws (Wl (Lv (.bool false) (x_assign rfl rfl) (Ln (sN (Ws (Ws (Wl (Lv (.slice aa0 (na) (ca)) (x_move rfl rfl) ?_))))))))
 by_cases c25 : (decide ((na : Int) ≤ 60)) = true
 ·refine Fx.L.call (by rfl) (rC (args := [.slice aa0 (na) (ca)]) rfl rfl Try.func9 rfl rfl) rfl ((l_few _ _ _ _).mono ?_)
  rintro e v1 ⟨he, hv1⟩
  subst v1
  refine ⟨.bool true, by rw [he, c25], ?_⟩
  clear he
  refine Lv (.bool false) (Fx.x_notF rfl rfl) (Ln (sN (Wc (b := false) rfl (fun h => nomatch h) (fun _ => Wk (sN (Ws ?_))))))
  have hna := of_decide_eq_true c25
  obtain ⟨rn, ern⟩ : ∃ r, r = rb % 6 := ⟨_, rfl⟩
  have hrn : rn < 6 := by rw [ern]; exact Nat.mod_lt _ (by omega)
  refine Wl (Lv (.int .u8 ((rb : Int))) (x_move rfl rfl) (Lv (.int .i64 ((rb : Int))) (x_conv rfl rfl (by kernel_rfl) Try.underlying3 (Fx.i64e (by omega) rfl)) (Lv (.int .i64 ((rn : Int))) (Fx.x_rem rfl rfl rfl (by omega) (remL ern)) (Lv (.int .i64 ((rn : Int) + 1)) (Fx.x_add rfl rfl rfl (Fx.i64e (by omega) (by omega))) (Lv (.int .i64 ((rn : Int) + 1)) (x_assign rfl rfl) (Ln (sN (Ws (Wl (Lv (.int .i64 ((rn : Int) + 1)) (x_move rfl rfl) (Fx.L.call (by rfl) (rC (args := [.int .i64 ((rn : Int) + 1)]) rfl rfl Try.func16 rfl rfl) rfl ((l_newWorld2 (rn + 1) _ _ (by omega) (by omega) (by omega)).mono ?_))))))))))))
  rintro e9 w1 ⟨pw, M0, he, hMn, hMa, hW0, hbw⟩
  refine ⟨.pointer (some ⟨pw, 0, none⟩), he, ?_⟩
  clear he
  have sB := (Below.refl w.heap.size w).size
  have s1 := Sb hbw
  have b1 := s1.below (Below.refl w.heap.size w) (Below.refl w.heap.size w).size (Below.refl w.heap.size w).size
  have sW : w.heap.size ≤ w1.heap.size := hbw.size
  refine Lv (.pointer (some ⟨pw, 0, none⟩)) (x_assign rfl rfl) (Ln (sN (Ws (Ws (Wl (Lv (.int .i64 (0)) (x_assign rfl rfl) (Ln (sN (Fx.W.block (Fx.W.loop (fun f w_ => ∃ k : Nat, ∃ M9 : WM, ∃ T9 : Nat, k ≤ na ∧ T9 ≤ 3660 * k ∧ M9.n = M0.n ∧ M9.an ≤ k ∧ w.heap.size ≤ w_.heap.size ∧ f 1 = .slice aa0 (na) (ca) ∧ f 3 = .int .u8 ((ob : Int)) ∧ f 4 = .int .u8 ((mo : Int)) ∧ f 11 = .int .i64 ((rn : Int) + 1) ∧ f 12 = .pointer (some ⟨pw, 0, none⟩) ∧ f 13 = .int .i64 ((k : Int)) ∧ WldO w_ w.heap.size pw M9 T9 ∧ Below w.heap.size w w_) (fun f _ => (na - (intOf (f 13)).toNat)) ⟨0, M0, 0, by omega, by omega, rfl, by omega, sW, (by rfl), (by first | rfl | exact congrArg (Value.int .u8) (by omega)), (by first | rfl | exact congrArg (Value.int .u8) (by omega)), (by first | rfl | exact congrArg (Value.int .i64) (by omega)), (by rfl), (by first | rfl | exact congrArg (Value.int .i64) (by omega)), hW0, b1⟩ ?_))))))))))
  rintro f1 w2 ⟨k, M9, T9, hk, hTk, hMn9, hMa9, sWk, h1, h2, h3, h4, h5, h6, m1, b2⟩
  refine Ws (Ws (Wl (Lv (.int .i64 ((k : Int))) (x_move rfl h6) (Lv (.slice aa0 (na) (ca)) (x_move rfl h1) (Lv (.int .i64 ((na : Int))) (x_len rfl rfl rfl (by kernel_rfl)) ?_)))))
  by_cases c37 : (k : Int) < (na : Int)
  ·refine Lv (.bool true) (Fx.x_lssT rfl rfl rfl c37) (Ln (sN (Wc (b := true) rfl (fun _ => Wk (sN (Ws (Fx.W.block (Wl (Lv (.pointer (some ⟨pw, 0, none⟩)) (x_move rfl h5) ?_)))))) (fun h => nomatch h))))
   refine Lv (.slice aa0 (na) (ca)) (x_move rfl h1) (Lv (.int .i64 ((k : Int))) (x_move rfl h6) ?_)
   obtain ⟨bq1, oq1, eq1, m2⟩ := (hacts.up b2 rfl) (by omega)
   have lbq1 : bq1 < w2.heap.size := m2.lt (by omega)
   refine Lv (.pointer (some ⟨bq1, 9 * k + oq1, none⟩)) (x_indexS rfl (rfl.trans (congrArg (fun q => Value.slice q (na) (ca)) eq1)) rfl Try.underlying24 (s := 9) (by kernel_rfl) (by omega) (by omega) (by omega)) (Lv (.agg (Fx.varr 9 (actY (xa k)))) (x_loadA (x := Fx.flat 9 fun k => actY (xa k)) (y := actY (xa k)) rfl rfl (by kernel_rfl) (by kernel_rfl) m2 (i := 9 * k) (by omega) (by omega) (fun jq hjq => Fx.flat_at (k := k) (by omega) hjq)) (Fx.L.call (by rfl) (rC (args := [.pointer (some ⟨pw, 0, none⟩), .agg (Fx.varr 9 (actY (xa k)))]) rfl rfl Try.func18 rfl rfl) rfl ((l_doM M9 w.heap.size pw T9 (xa k) _ m1 sWk (hxa k (by omega)) (by omega) (by omega)).mono ?_)))
   rintro e9 w3 ⟨v9, he, hv9, M2, hW1, hM2, hM2a, hM2m, hb1⟩
   refine ⟨_, he, ?_⟩
   clear he
   have hM2n := hM2.n
   have b3 : Below w.heap.size w w3 := bchB b2 hb1 sB
   have sW1 : w.heap.size ≤ w3.heap.size := by have := hb1.size; omega
   have sWn : w.heap.size ≤ w3.heap.size := by have := hb1.size; omega
   refine Ln (Fx.blkN (sN (Wl (Lv (.int .i64 ((k : Int))) (x_move rfl h6) (Lv (.int .i64 ((k : Int) + 1)) (Fx.x_add rfl rfl rfl (Fx.i64e (by omega) (by omega))) (Lv (.int .i64 ((k : Int) + 1)) (x_assign rfl rfl) (Ln (Fx.lpN ⟨k + 1, M2, (T9 + 3660), by omega, by omega, (hM2n.trans hMn9), by omega, sWn, h1, (h2.trans (by first | rfl | exact congrArg (Value.int .u8) (by omega))), (h3.trans (by first | rfl | exact congrArg (Value.int .u8) (by omega))), (h4.trans (by first | rfl | exact congrArg (Value.int .i64) (by omega))), h5, (by first | rfl | exact congrArg (Value.int .i64) (by omega)), hW1, b3⟩ ?_))))))))
   show (na - (intOf ((.int .i64 ((k : Int) + 1)))).toNat) < _
   simp only [h6, intOf]; omega
  refine Lv (.bool false) (Fx.x_lssF rfl rfl rfl c37) (Ln (sN (Wc (b := false) rfl (fun h => nomatch h) (fun _ => Fx.W.exit (Fx.seqX (Fx.lpX (Fx.blkX (sN (Ws ?_)))))))))
  have hWc := m1.c
  have hWa := m1.a
  have hevw := m1.wf
  have hevm := m1.may
  have hcz := m1.cz
  have hWw := m1
  have haA : Fx.Arr w2 M9.aa M9.an 14 (evX M9.ev) := hWa.arr
  have lpw : pw < w2.heap.size := hWc.lt
  have hMn1 : M9.n = rn + 1 := hMn9.trans hMn
  obtain ⟨qo, eqo⟩ : ∃ r, r = ob % M9.n := ⟨_, rfl⟩
  have hqo : qo < M9.n := by rw [eqo]; exact Nat.mod_lt _ (by omega)
  have haL : Fx.Arr w2 M9.la M9.n 1 (ptX M9.pl) := m1.l.arr
  have hLoc := (m1.g qo hqo).c
  have lpl : M9.pl qo < w2.heap.size := hLoc.lt
  obtain ⟨u, eu⟩ : ∃ u, u = tr6 (M9.ml qo).s.known := ⟨_, rfl⟩
  have hU : KnU M9.ev M9.an u := by rw [eu]; exact KnU.of hcz hqo (m1.inv qo hqo).kn
  have hM60 : M9.an ≤ 60 := by omega
  refine Wl (Fx.L.call (by rfl) (rC (args := []) rfl rfl Try.func17 rfl rfl) rfl ((o_new 0 _).mono ?_))
  rintro e9 w4 ⟨pa, he, hl1, hb2⟩
  refine ⟨_, he, ?_⟩
  clear he
  have s2 := Sb hb2
  have hl2 := hl1.weak (Below.refl w2.heap.size w2).size
  have m3 := hWc.stp s2 (Nat.ne_of_lt (hWc.lt))
  have m4 := hLoc.stp s2 (Nat.ne_of_lt (hLoc.lt))
  have b4 := s2.below (Below.refl w2.heap.size w2) (Below.refl w2.heap.size w2).size (Below.refl w2.heap.size w2).size
  refine Lv (.pointer (some ⟨pa, 0, none⟩)) (x_assign rfl rfl) (Ln (sN (Ws (Wl (Fx.L.call (by rfl) (rC (args := []) rfl rfl Try.func17 rfl rfl) rfl ((o_new 0 _).mono ?_))))))
  rintro e9 w5 ⟨pb, he, hl3, hb3⟩
  refine ⟨_, he, ?_⟩
  clear he
  have s3 := Sb hb3
  have hl4 := hl3.weak b4.size
  have hsp1 := SepL.of_new hl2 hl3
  have m5 := m3.stp s3 (Nat.ne_of_lt (m3.lt))
  have m6 := m4.stp s3 (Nat.ne_of_lt (m4.lt))
  have m7 := hl2.up s3.old
  have b5 := s3.below b4 b4.size b4.size
  refine Lv (.pointer (some ⟨pb, 0, none⟩)) (x_assign rfl rfl) (Ln (sN (Ws ?_)))
  -- region 11 draws
  refine Fx.W.reord [0, 1, 2, 4, 5, 6, 7, 3, 8, 9, 10, 11, 12, 13, 14, 15] [0, 0, 0, 1, 0, 0, 0, 0, 0, 1, 0, 0, 0, 1, 2, 3] Fx.Mk Fx.Mk.refl Fx.Mk.trans (certs := [(15, 3, [3]), (15, 9, [9]), (15, 13, [13]), (15, 14, [14])]) (by kernel_rfl) (by kernel_rfl) (by kernel_rfl) (by kernel_rfl) (by kernel_rfl) fun wt1 hbwt1 hzwt1 => ?_
  have s4 : Fx.Stp w5.heap.size w5 wt1 := Sb hbwt1
  have m8 := m5.stp s4 (Nat.ne_of_lt (m5.lt))
  have m9 := m6.stp s4 (Nat.ne_of_lt (m6.lt))
  have m10 := m7.up s4.old
  have m11 := hl4.up s4.old
  have b6 := s4.below b5 b5.size b5.size
  refine Rp (.pointer (some ⟨pw, 0, none⟩)) (fun v1 => x_move rfl h5) (Rp (.pointer (some ⟨pw, 0, none⟩)) (fun v1 => x_nil rfl rfl) (Rp (.pointer (some ⟨pw, 0, none⟩)) (fun v1 => x_field rfl rfl Try.underlying74 rfl (s := 1) (by kernel_rfl) rfl rfl) (Rp (.int .u8 ((ob : Int))) (fun v1 => x_move rfl h2) (Rp (.int .i64 ((ob : Int))) (fun v1 => x_conv rfl rfl (by kernel_rfl) Try.underlying3 (Fx.i64e (by omega) rfl)) (Rp (.int .i64 ((rn : Int) + 1)) (fun v1 => x_move rfl h4) (Rp (.int .i64 ((qo : Int))) (fun v1 => Fx.x_rem rfl rfl rfl (by omega) (by rw [show ((rn : Int) + 1) = ((M9.n : Nat) : Int) by omega]; exact remL eqo)) (Fx.R.read (v := .slice M9.la (M9.n) (M9.lc)) (by rfl) (by rfl) (Fx.Mk.refl _) (fun v1 hv1 => x_load1 (x := wdY (.slice M9.la (M9.n) (M9.lc)) (.slice M9.aa (M9.an) (M9.ac))) rfl rfl (by kernel_rfl) (m8.cel.below hv1 (by have := m8.lt; omega)) (i := 0) (by omega) (by omega) rfl) ?_)))))))
  obtain ⟨bq2, oq2, eq2, m12z⟩ := haL (by omega)
  have lbq2z : bq2 < w2.heap.size := m12z.lt (by omega)
  have m12 := m12z.below b6 lbq2z
  have lbq2 : bq2 < wt1.heap.size := m12.lt (by omega)
  refine Rp (.pointer (some ⟨bq2, oq2 + qo, none⟩)) (fun v1 => x_indexS rfl (rfl.trans (congrArg (fun q => Value.slice q (M9.n) (M9.lc)) eq2)) rfl Try.underlying72 (s := 1) (by kernel_rfl) (by omega) (by omega) (by omega)) (Fx.R.read (v := .pointer (some ⟨(M9.pl qo), 0, none⟩)) (by rfl) (by rfl) (Fx.Mk.refl _) (fun v1 hv1 => x_load1 (x := ptX M9.pl) rfl rfl (by kernel_rfl) (m12.below hv1 (m12.lt (by omega))) (i := qo) (by omega) (by omega) rfl) ?_)
  refine Rp (.pointer (some ⟨(M9.pl qo), 0, none⟩)) (fun v1 => x_nil rfl rfl) (Rp (.pointer (some ⟨(M9.pl qo), 0, none⟩)) (fun v1 => x_field rfl rfl Try.underlying70 rfl (s := 20) (by kernel_rfl) rfl rfl) (Rp (.pointer (some ⟨(M9.pl qo), 12, none⟩)) (fun v1 => x_field rfl rfl Try.underlying65 rfl (s := 6) (by kernel_rfl) rfl (by show _ + 12 = _; omega)) (Fx.R.read (v := .agg (Fx.varr 6 (Fx.rv .u64 u))) (by rfl) (by rfl) (Fx.Mk.refl _) (fun v1 hv1 => x_loadA (x := ldY (M9.ml qo)) (y := Fx.rv .u64 u) rfl rfl (by kernel_rfl) (by kernel_rfl) (m9.cel.below hv1 (by have := m9.lt; omega)) (i := 12) (by omega) (by omega) (fun jq hjq => (ldY_st _ (by omega) (stY_known _ hjq (by omega))).trans (by rw [eu]; exact congrArg (Value.int .u64) (tr6_lt hjq).symm))) ?_)))
  refine Fx.R.make (by rfl) ?_
  refine Fx.L.new (m := 6) (y := Fx.rv .u64 (fun _ => 0)) (by rfl) rfl (by kernel_rfl) rfl fun g1 w6 eg1 m13 s5 z1 => ?_
  have m14 := m8.stp s5 (Nat.ne_of_lt (m8.lt))
  have m16 := m10.up s5.old
  have m17 := m11.up s5.old
  have m18 := m12.stp s5 (Nat.ne_of_lt (m12.lt (by omega)))
  have b7 := s5.below b6 b6.size b6.size
  have lg1 : w2.heap.size ≤ g1 := by rw [eg1]; exact b6.size
  have ng1m14 : pw ≠ g1 := by rw [eg1]; exact Nat.ne_of_lt (m8.lt)
  have ng1m15 : (M9.pl qo) ≠ g1 := by rw [eg1]; exact Nat.ne_of_lt (m9.lt)
  have ng1m18 : bq2 ≠ g1 := by rw [eg1]; exact Nat.ne_of_lt (m12.lt (by omega))
  have tg1 : g1 < w6.heap.size := m13.lt
  clear eg1
  refine Ln ⟨s5.old, ?_⟩
  refine Fx.R.eff (by rfl) ?_
  refine Fx.L.storeA (x := Fx.rv .u64 (fun _ => 0)) (y := Fx.rv .u64 u) (by rfl) rfl rfl rfl rfl (fun _ _ => rfl) (by kernel_rfl) m13 (i := 0) (by omega) fun w7 m19 s6 z2 => ?_
  have m20 : Fx.Blk w7 g1 6 (Fx.rv .u64 u) 32 := Fx.ovr_all m19
  have hct1 := Fx.ChT.of_stp s6 m13.ty
  have m21 := m14.chT hct1 (by decide)
  have m23 := m16.chT hct1 (by decide)
  have m24 := m17.chT hct1 (by decide)
  have m25 := m18.stp s6 (by omega)
  have b8 := s6.below b7 b7.size (by omega)
  refine Ln (Fx.R.nil (sN (Ws (Ws (Wl (Lv (.int .i64 (0)) (x_assign rfl rfl) (Ln (sN (Fx.W.block (Fx.W.loop (fun f w_ => ∃ i : Nat, ∃ ma : LgM, i ≤ M9.an ∧ LgE ma (evs M9.ev i) ∧ ma.K = cntE M9.ev i ∧ SepL pa ma pb newL ∧ f 4 = .int .u8 ((mo : Int)) ∧ f 12 = .pointer (some ⟨pw, 0, none⟩) ∧ f 14 = .pointer (some ⟨pa, 0, none⟩) ∧ f 15 = .pointer (some ⟨pb, 0, none⟩) ∧ f 16 = .pointer (some ⟨g1, 0, none⟩) ∧ f 17 = .int .i64 ((i : Int)) ∧ Fx.Blk w_ pw 2 (wdY (.slice M9.la (M9.n) (M9.lc)) (.slice M9.aa (M9.an) (M9.ac))) 74 ∧ Fx.Blk w_ g1 6 (Fx.rv .u64 u) 32 ∧ LgO w_ w2.heap.size pa ma i ∧ LgO w_ w2.heap.size pb newL 0 ∧ Below w2.heap.size w2 w_) (fun f _ => (M9.an - (intOf (f 17)).toNat)) ⟨0, newL, by omega, LgE.new, rfl, hsp1, (h3.trans (by first | rfl | exact congrArg (Value.int .u8) (by omega))), h5, (by rfl), (by rfl), (by rfl), (by first | rfl | exact congrArg (Value.int .i64) (by omega)), m21, m20, m23, m24, b8⟩ ?_))))))))))
  rintro f2 w8 ⟨i, ma, hi, hEa, hKa, hsa, h7, h8, h9, h10, h11, h12, m26, m27, m28, m29, b9⟩
  refine Ws (Ws (Wl (Lv (.int .i64 ((i : Int))) (x_move rfl h12) (Lv (.pointer (some ⟨pw, 0, none⟩)) (x_move rfl h8) (Lv (.pointer (some ⟨pw, 0, none⟩)) (x_nil rfl rfl) (Lv (.pointer (some ⟨pw, 1, none⟩)) (x_field rfl rfl Try.underlying74 rfl (s := 1) (by kernel_rfl) rfl (by show _ + 1 = _; omega)) (Lv (.slice M9.aa (M9.an) (M9.ac)) (x_load1 (x := wdY (.slice M9.la (M9.n) (M9.lc)) (.slice M9.aa (M9.an) (M9.ac))) rfl rfl (by kernel_rfl) m26.cel (i := 1) (by omega) (by omega) rfl) (Lv (.int .i64 ((M9.an : Int))) (x_len rfl rfl rfl (by kernel_rfl)) ?_))))))))
  by_cases c68 : (i : Int) < (M9.an : Int)
  ·refine Lv (.bool true) (Fx.x_lssT rfl rfl rfl c68) (Ln (sN (Wc (b := true) rfl (fun _ => Wk (sN (Ws (Fx.W.block (Ws (Wl (Lv (.pointer (some ⟨pa, 0, none⟩)) (x_move rfl h9) ?_))))))) (fun h => nomatch h))))
   refine Lv (.pointer (some ⟨pw, 0, none⟩)) (x_move rfl h8) (Lv (.pointer (some ⟨pw, 0, none⟩)) (x_nil rfl rfl) (Lv (.pointer (some ⟨pw, 1, none⟩)) (x_field rfl rfl Try.underlying74 rfl (s := 1) (by kernel_rfl) rfl (by show _ + 1 = _; omega)) (Lv (.slice M9.aa (M9.an) (M9.ac)) (x_load1 (x := wdY (.slice M9.la (M9.n) (M9.lc)) (.slice M9.aa (M9.an) (M9.ac))) rfl rfl (by kernel_rfl) m26.cel (i := 1) (by omega) (by omega) rfl) (Lv (.int .i64 ((i : Int))) (x_move rfl h12) ?_))))
   obtain ⟨bq3, oq3, eq3, m30z⟩ := haA (by omega)
   have lbq3z : bq3 < w2.heap.size := m30z.lt (by omega)
   have m30 := m30z.below b9 lbq3z
   have lbq3 : bq3 < w8.heap.size := m30.lt (by omega)
   refine Lv (.pointer (some ⟨bq3, 14 * i + oq3, none⟩)) (x_indexS rfl (rfl.trans (congrArg (fun q => Value.slice q (M9.an) (M9.ac)) eq3)) rfl Try.underlying46 (s := 14) (by kernel_rfl) (by omega) (by omega) (by omega)) (Lv (.agg (Fx.varr 14 (evY (M9.ev i)))) (x_loadA (x := evX M9.ev) (y := evY (M9.ev i)) rfl rfl (by kernel_rfl) (by kernel_rfl) m30 (i := 14 * i) (by omega) (by omega) (fun jq hjq => Fx.flat_at (k := i) (by omega) hjq)) (Fx.L.call (by rfl) (rC (args := [.pointer (some ⟨pa, 0, none⟩), .agg (Fx.varr 14 (evY (M9.ev i)))]) rfl rfl Try.func19 rfl rfl) rfl ((e_add (v := (M9.ev i)) m28 b9.size (by omega) hEa (hevw i (by omega)) (by rw [hKa]; exact hcz.rd i (by omega))).mono ?_)))
   rintro e9 w9 ⟨he, hc1, ml1, hl5, hE1, hK1, hS1⟩
   refine ⟨_, he, ?_⟩
   clear he
   have ct1 := m28.chm hc1
   have b10 := b9.trans (m28.below b9.size hc1)
   have m31 := m26.chT ct1 (by decide)
   have m32 := m27.chT ct1 (by decide)
   have m33 := m29.chg hc1 hsa.symm
   have hsp2 := SepL.step hsa.symm hS1 m29
   refine Lv (.bool false) (Fx.x_neqF rfl rfl rfl rfl) (Ln (sN (Wc (b := false) rfl (fun h => nomatch h) (fun _ => Wk (Fx.blkN (sN (Wl (Lv (.int .i64 ((i : Int))) (x_move rfl h12) (Lv (.int .i64 ((i : Int) + 1)) (Fx.x_add rfl rfl rfl (Fx.i64e (by omega) (by omega))) (Lv (.int .i64 ((i : Int) + 1)) (x_assign rfl rfl) (Ln (Fx.lpN ⟨i + 1, ml1, by omega, (by rw [evs_s]; exact hE1), (by rw [hK1, hKa, cnt_bump]), hsp2.symm, (h7.trans (by first | rfl | exact congrArg (Value.int .u8) (by omega))), h8, h9, h10, h11, (by first | rfl | exact congrArg (Value.int .i64) (by omega)), m31, m32, hl5, m33, b10⟩ ?_))))))))))))
   show (M9.an - (intOf ((.int .i64 ((i : Int) + 1)))).toNat) < _
   simp only [h12, intOf]; omega
  refine Lv (.bool false) (Fx.x_lssF rfl rfl rfl c68) (Ln (sN (Wc (b := false) rfl (fun h => nomatch h) (fun _ => Fx.W.exit (Fx.seqX (Fx.lpX (Fx.blkX (sN (Ws (Ws (Wl (Lv (.int .i64 (0)) (x_assign rfl rfl) (Ln (sN (Fx.W.block (Fx.W.loop (fun f w_ => ∃ rd : Nat, ∃ mb : LgM, ∃ cb : Nat, rd ≤ M9.an ∧ ((cb = M9.an ∨ (rd = 0 ∧ cb = 0))) ∧ LoU mb M9.ev cb u ∧ SepL pa ma pb mb ∧ f 4 = .int .u8 ((mo : Int)) ∧ f 12 = .pointer (some ⟨pw, 0, none⟩) ∧ f 14 = .pointer (some ⟨pa, 0, none⟩) ∧ f 15 = .pointer (some ⟨pb, 0, none⟩) ∧ f 16 = .pointer (some ⟨g1, 0, none⟩) ∧ f 18 = .int .i64 ((rd : Int)) ∧ Fx.Blk w_ pw 2 (wdY (.slice M9.la (M9.n) (M9.lc)) (.slice M9.aa (M9.an) (M9.ac))) 74 ∧ Fx.Blk w_ g1 6 (Fx.rv .u64 u) 32 ∧ LgO w_ w2.heap.size pa ma i ∧ LgO w_ w2.heap.size pb mb cb ∧ Below w2.heap.size w2 w_) (fun f _ => (M9.an - (intOf (f 18)).toNat)) ⟨0, newL, 0, by omega, .inr ⟨rfl, rfl⟩, LoU.new hU.pos, hsa, (h7.trans (by first | rfl | exact congrArg (Value.int .u8) (by omega))), h8, h9, h10, h11, (by first | rfl | exact congrArg (Value.int .i64) (by omega)), m26, m27, m28, m29, b9⟩ ?_))))))))))))))))
  rintro f3 w10 ⟨rd, mb, cb, hrd, hcb, hLo, hsb, h13, h14, h15, h16, h17, h18, m34, m35, m36, m37, b11⟩
  refine Ws (Ws (Wl (Lv (.int .i64 ((rd : Int))) (x_move rfl h18) (Lv (.pointer (some ⟨pw, 0, none⟩)) (x_move rfl h14) (Lv (.pointer (some ⟨pw, 0, none⟩)) (x_nil rfl rfl) (Lv (.pointer (some ⟨pw, 1, none⟩)) (x_field rfl rfl Try.underlying74 rfl (s := 1) (by kernel_rfl) rfl (by show _ + 1 = _; omega)) (Lv (.slice M9.aa (M9.an) (M9.ac)) (x_load1 (x := wdY (.slice M9.la (M9.n) (M9.lc)) (.slice M9.aa (M9.an) (M9.ac))) rfl rfl (by kernel_rfl) m34.cel (i := 1) (by omega) (by omega) rfl) (Lv (.int .i64 ((M9.an : Int))) (x_len rfl rfl rfl (by kernel_rfl)) ?_))))))))
  by_cases c87 : (rd : Int) < (M9.an : Int)
  ·refine Lv (.bool true) (Fx.x_lssT rfl rfl rfl c87) (Ln (sN (Wc (b := true) rfl (fun _ => Wk (sN (Ws (Fx.W.block (Ws (Wl (Lv (.int .i64 (0)) (x_assign rfl rfl) ?_))))))) (fun h => nomatch h))))
   refine Ln (sN (Fx.W.block (Fx.W.loop (fun f w_ => ∃ j : Nat, ∃ mb2 : LgM, ∃ cb2 : Nat, j ≤ M9.an ∧ ((cb2 = M9.an ∨ cb2 = j)) ∧ LoU mb2 M9.ev cb2 u ∧ SepL pa ma pb mb2 ∧ f 4 = .int .u8 ((mo : Int)) ∧ f 12 = .pointer (some ⟨pw, 0, none⟩) ∧ f 14 = .pointer (some ⟨pa, 0, none⟩) ∧ f 15 = .pointer (some ⟨pb, 0, none⟩) ∧ f 16 = .pointer (some ⟨g1, 0, none⟩) ∧ f 18 = .int .i64 ((rd : Int)) ∧ f 19 = .int .i64 ((j : Int)) ∧ Fx.Blk w_ pw 2 (wdY (.slice M9.la (M9.n) (M9.lc)) (.slice M9.aa (M9.an) (M9.ac))) 74 ∧ Fx.Blk w_ g1 6 (Fx.rv .u64 u) 32 ∧ LgO w_ w2.heap.size pa ma i ∧ LgO w_ w2.heap.size pb mb2 cb2 ∧ Below w2.heap.size w2 w_) (fun f _ => (M9.an - (intOf (f 19)).toNat)) ⟨0, mb, cb, by omega, (by omega), hLo, hsb, (h13.trans (by first | rfl | exact congrArg (Value.int .u8) (by omega))), h14, h15, h16, h17, (h18.trans (by first | rfl | exact congrArg (Value.int .i64) (by omega))), (by first | rfl | exact congrArg (Value.int .i64) (by omega)), m34, m35, m36, m37, b11⟩ ?_)))
   rintro f4 w11 ⟨j, mb2, cb2, hj, hcj, hLo2, hsb2, h19, h20, h21, h22, h23, h24, h25, m38, m39, m40, m41, b12⟩
   refine Ws (Ws (Wl (Lv (.int .i64 ((j : Int))) (x_move rfl h25) (Lv (.pointer (some ⟨pw, 0, none⟩)) (x_move rfl h20) (Lv (.pointer (some ⟨pw, 0, none⟩)) (x_nil rfl rfl) (Lv (.pointer (some ⟨pw, 1, none⟩)) (x_field rfl rfl Try.underlying74 rfl (s := 1) (by kernel_rfl) rfl (by show _ + 1 = _; omega)) (Lv (.slice M9.aa (M9.an) (M9.ac)) (x_load1 (x := wdY (.slice M9.la (M9.n) (M9.lc)) (.slice M9.aa (M9.an) (M9.ac))) rfl rfl (by kernel_rfl) m38.cel (i := 1) (by omega) (by omega) rfl) (Lv (.int .i64 ((M9.an : Int))) (x_len rfl rfl rfl (by kernel_rfl)) ?_))))))))
   by_cases c96 : (j : Int) < (M9.an : Int)
   ·refine Lv (.bool true) (Fx.x_lssT rfl rfl rfl c96) (Ln (sN (Wc (b := true) rfl (fun _ => Wk (sN (Ws (Fx.W.block (Ws ?_))))) (fun h => nomatch h))))
    obtain ⟨aj, haj, eaj⟩ := regE_nat (may_reg (hevm j (by omega)))
    have haN : regN (M9.ev j) = aj := by unfold regN; omega
    -- region 23 draws
    refine Fx.W.quiet (fun v1 => ∃ q, v1 = World.drewN w11 q) (by kernel_rfl) (by kernel_rfl) ⟨1, rfl⟩ ?_
    refine Qv (.pointer (some ⟨pw, 0, none⟩)) (fun v1 hv1 => x_move rfl h20) (Qv (.pointer (some ⟨pw, 0, none⟩)) (fun v1 hv1 => x_nil rfl rfl) (Qv (.pointer (some ⟨pw, 1, none⟩)) (fun v1 hv1 => x_field rfl rfl Try.underlying74 rfl (s := 1) (by kernel_rfl) rfl (by show _ + 1 = _; omega)) (Qv (.slice M9.aa (M9.an) (M9.ac)) (fun v1 hv1 => x_load1 (x := wdY (.slice M9.la (M9.n) (M9.lc)) (.slice M9.aa (M9.an) (M9.ac))) rfl rfl (by kernel_rfl) (by obtain ⟨qd, rfl⟩ := hv1; exact m38.cel) (i := 1) (by omega) (by omega) rfl) (Qv (.int .i64 ((j : Int))) (fun v1 hv1 => x_move rfl h25) ?_))))
    obtain ⟨bq4, oq4, eq4, m42z⟩ := haA (by omega)
    have lbq4z : bq4 < w2.heap.size := m42z.lt (by omega)
    have m42 := m42z.below b12 lbq4z
    have lbq4 : bq4 < w11.heap.size := m42.lt (by omega)
    refine Qv (.pointer (some ⟨bq4, 14 * j + oq4, none⟩)) (fun v1 hv1 => x_indexS rfl (rfl.trans (congrArg (fun q => Value.slice q (M9.an) (M9.ac)) eq4)) rfl Try.underlying46 (s := 14) (by kernel_rfl) (by omega) (by omega) (by omega)) (Qv (.pointer (some ⟨bq4, 14 * j + oq4 + 1, none⟩)) (fun v1 hv1 => x_field rfl rfl Try.underlying50 rfl (s := 1) (by kernel_rfl) rfl (by show _ + 1 = _; omega)) (Qv (.int .u64 ((M9.ev j).seq)) (fun v1 hv1 => x_load1 (x := evX M9.ev) rfl rfl (by kernel_rfl) (by obtain ⟨qd, rfl⟩ := hv1; exact m42) (i := 14 * j + 1) (by omega) (by omega) (Fx.flat_cell (k := j) (j := 1) (by omega) (by omega) rfl)) (Qv (.pointer (some ⟨pw, 0, none⟩)) (fun v1 hv1 => x_move rfl h20) (Qv (.pointer (some ⟨pw, 0, none⟩)) (fun v1 hv1 => x_nil rfl rfl) (Qv (.pointer (some ⟨pw, 1, none⟩)) (fun v1 hv1 => x_field rfl rfl Try.underlying74 rfl (s := 1) (by kernel_rfl) rfl (by show _ + 1 = _; omega)) (Qv (.slice M9.aa (M9.an) (M9.ac)) (fun v1 hv1 => x_load1 (x := wdY (.slice M9.la (M9.n) (M9.lc)) (.slice M9.aa (M9.an) (M9.ac))) rfl rfl (by kernel_rfl) (by obtain ⟨qd, rfl⟩ := hv1; exact m38.cel) (i := 1) (by omega) (by omega) rfl) (Qv (.int .i64 ((j : Int))) (fun v1 hv1 => x_move rfl h25) (Qv (.pointer (some ⟨bq4, 14 * j + oq4, none⟩)) (fun v1 hv1 => x_indexS rfl (rfl.trans (congrArg (fun q => Value.slice q (M9.an) (M9.ac)) eq4)) rfl Try.underlying46 (s := 14) (by kernel_rfl) (by omega) (by omega) (by omega)) (Qv (.pointer (some ⟨bq4, 14 * j + oq4, none⟩)) (fun v1 hv1 => x_field rfl rfl Try.underlying50 rfl (s := 1) (by kernel_rfl) rfl rfl) (Qv (.int .i64 ((M9.ev j).o)) (fun v1 hv1 => x_load1 (x := evX M9.ev) rfl rfl (by kernel_rfl) (by obtain ⟨qd, rfl⟩ := hv1; exact m42) (i := 14 * j) (by omega) (by omega) (Fx.flat_cell (k := j) (j := 0) (by omega) (by omega) rfl)) (Qv (.int .i64 ((aj : Int))) (fun v1 hv1 => Fx.x_sub rfl rfl rfl (Fx.i64e (by omega) (by omega))) (Qv (.pointer (some ⟨g1, aj, none⟩)) (fun v1 hv1 => x_index rfl h23 rfl Try.underlying32 (s := 1) (by kernel_rfl) (by omega) (by omega) (by omega)) (Qv (.int .u64 (u aj)) (fun v1 hv1 => x_load1 (x := Fx.rv .u64 u) rfl rfl (by kernel_rfl) (by obtain ⟨qd, rfl⟩ := hv1; exact m39.cel) (i := aj) (by omega) (by omega) rfl) ?_)))))))))))))
    by_cases c118 : ((M9.ev j).seq) ≤ (u aj)
    ·refine Qv (.bool true) (fun v1 hv1 => Fx.x_leqT rfl rfl rfl c118) (Fx.Qt.nil ?_)
     rintro _ ⟨qd, rfl⟩
     obtain ⟨wq1, ewq1⟩ : ∃ v1, v1 = World.drewN w11 qd := ⟨_, rfl⟩
     rw [← ewq1]
     have s7 : Fx.Stp w11.heap.size w11 wq1 := by rw [ewq1]; exact Sb (bdrN w11 qd)
     have m43 := m38.stp s7 (Nat.ne_of_lt (m38.lt))
     have m44 := m39.stp s7 (Nat.ne_of_lt (m39.lt))
     have m45 := m40.up s7.old
     have m46 := m41.up s7.old
     have m47 := m42.stp s7 (Nat.ne_of_lt (m42.lt (by omega)))
     have b13 := s7.below b12 b12.size b12.size
     clear ewq1
     refine sN (Wc (b := true) rfl (fun _ => Wl (Lv (.pointer (some ⟨pb, 0, none⟩)) (x_move rfl h22) ?_)) (fun h => nomatch h))
     refine Lv (.pointer (some ⟨pw, 0, none⟩)) (x_move rfl h20) (Lv (.pointer (some ⟨pw, 0, none⟩)) (x_nil rfl rfl) (Lv (.pointer (some ⟨pw, 1, none⟩)) (x_field rfl rfl Try.underlying74 rfl (s := 1) (by kernel_rfl) rfl (by show _ + 1 = _; omega)) (Lv (.slice M9.aa (M9.an) (M9.ac)) (x_load1 (x := wdY (.slice M9.la (M9.n) (M9.lc)) (.slice M9.aa (M9.an) (M9.ac))) rfl rfl (by kernel_rfl) m43.cel (i := 1) (by omega) (by omega) rfl) (Lv (.int .i64 ((j : Int))) (x_move rfl h25) (Lv (.pointer (some ⟨bq4, 14 * j + oq4, none⟩)) (x_indexS rfl (rfl.trans (congrArg (fun q => Value.slice q (M9.an) (M9.ac)) eq4)) rfl Try.underlying46 (s := 14) (by kernel_rfl) (by omega) (by omega) (by omega)) (Lv (.agg (Fx.varr 14 (evY (M9.ev j)))) (x_loadA (x := evX M9.ev) (y := evY (M9.ev j)) rfl rfl (by kernel_rfl) (by kernel_rfl) m47 (i := 14 * j) (by omega) (by omega) (fun jq hjq => Fx.flat_at (k := j) (by omega) hjq)) (Fx.L.call (by rfl) (rC (args := [.pointer (some ⟨pb, 0, none⟩), .agg (Fx.varr 14 (evY (M9.ev j)))]) rfl rfl Try.func19 rfl rfl) rfl ((e_addU m46 b13.size (by omega) hLo2 hU hcz.rd (hevw j (by omega)) (by omega) hcj (by rw [haN]; exact c118)).mono ?_))))))))
     rintro e9 w12 ⟨⟨nv1, he⟩, hc2, ml2, hl6, hLo1, hS2⟩
     refine ⟨_, he, ?_⟩
     clear he
     have ct2 := m46.chm hc2
     have b14 := b13.trans (m46.below b13.size hc2)
     have m48 := m43.chT ct2 (by decide)
     have m49 := m44.chT ct2 (by decide)
     have m50 := m45.chg hc2 hsb2
     have hsp3 := SepL.step hsb2 hS2 m45
     refine Ln (Fx.blkN (sN (Wl (Lv (.int .i64 ((j : Int))) (x_move rfl h25) (Lv (.int .i64 ((j : Int) + 1)) (Fx.x_add rfl rfl rfl (Fx.i64e (by omega) (by omega))) (Lv (.int .i64 ((j : Int) + 1)) (x_assign rfl rfl) (Ln ?_)))))))
     skip
     refine Fx.lpN ⟨j + 1, ml2, (nx cb2 j), by omega, (nx_or (by omega) hcj), hLo1, hsp3, (h19.trans (by first | rfl | exact congrArg (Value.int .u8) (by omega))), h20, h21, h22, h23, (h24.trans (by first | rfl | exact congrArg (Value.int .i64) (by omega))), (by first | rfl | exact congrArg (Value.int .i64) (by omega)), m48, m49, m50, hl6, b14⟩ ?_
     show (M9.an - (intOf ((.int .i64 ((j : Int) + 1)))).toNat) < _
     simp only [h25, intOf]; omega
    refine Qv (.bool false) (fun v1 hv1 => x_leqF rfl rfl rfl c118) (Fx.Qt.nil ?_)
    rintro _ ⟨qd, rfl⟩
    obtain ⟨wq2, ewq2⟩ : ∃ v1, v1 = World.drewN w11 qd := ⟨_, rfl⟩
    rw [← ewq2]
    have s8 : Fx.Stp w11.heap.size w11 wq2 := by rw [ewq2]; exact Sb (bdrN w11 qd)
    have m51 := m38.stp s8 (Nat.ne_of_lt (m38.lt))
    have m52 := m39.stp s8 (Nat.ne_of_lt (m39.lt))
    have m53 := m40.up s8.old
    have m54 := m41.up s8.old
    have b15 := s8.below b12 b12.size b12.size
    clear ewq2
    refine sN (Wc (b := false) rfl (fun h => nomatch h) (fun _ => Wk (Fx.blkN (sN (Wl (Lv (.int .i64 ((j : Int))) (x_move rfl h25) (Lv (.int .i64 ((j : Int) + 1)) (Fx.x_add rfl rfl rfl (Fx.i64e (by omega) (by omega))) (Lv (.int .i64 ((j : Int) + 1)) (x_assign rfl rfl) (Ln ?_)))))))))
    have m56 := m54.mono (nx_ge cb2 j)
    skip
    refine Fx.lpN ⟨j + 1, mb2, (nx cb2 j), by omega, (nx_or (by omega) hcj), (hLo2.skip (hcz.rd j (by omega)) (by rw [haN]; exact c118)), hsb2, (h19.trans (by first | rfl | exact congrArg (Value.int .u8) (by omega))), h20, h21, h22, h23, (h24.trans (by first | rfl | exact congrArg (Value.int .i64) (by omega))), (by first | rfl | exact congrArg (Value.int .i64) (by omega)), m51, m52, m53, m56, b15⟩ ?_
    show (M9.an - (intOf ((.int .i64 ((j : Int) + 1)))).toNat) < _
    simp only [h25, intOf]; omega
   refine Lv (.bool false) (Fx.x_lssF rfl rfl rfl c96) (Ln (sN (Wc (b := false) rfl (fun h => nomatch h) (fun _ => Fx.W.exit (Fx.seqX (Fx.lpX (Fx.blkX (Fx.blkN (sN (Wl (Lv (.int .i64 ((rd : Int))) (x_move rfl h24) (Lv (.int .i64 ((rd : Int) + 1)) (Fx.x_add rfl rfl rfl (Fx.i64e (by omega) (by omega))) (Lv (.int .i64 ((rd : Int) + 1)) (x_assign rfl rfl) (Ln (Fx.lpN ⟨rd + 1, mb2, cb2, by omega, .inl (by omega), hLo2, hsb2, (h19.trans (by first | rfl | exact congrArg (Value.int .u8) (by omega))), h20, h21, h22, h23, (by first | rfl | exact congrArg (Value.int .i64) (by omega)), m38, m39, m40, m41, b12⟩ ?_)))))))))))))))
   show (M9.an - (intOf ((.int .i64 ((rd : Int) + 1)))).toNat) < _
   simp only [h18, intOf]; omega
  refine Lv (.bool false) (Fx.x_lssF rfl rfl rfl c87) (Ln (sN (Wc (b := false) rfl (fun h => nomatch h) (fun _ => Fx.W.exit (Fx.seqX (Fx.lpX (Fx.blkX (sN (Ws (Ws ?_))))))))))
  have hcf : cb = M9.an := by omega
  have hKbf : mb.K = u := by rw [hLo.K, hcf, mn_all hU.le]
  have hkrb := m37.kr
  obtain ⟨E0, eE0⟩ : ∃ E0, E0 = (evs M9.ev cb).filter (inU u) := ⟨_, rfl⟩
  have hEb := hLo.E
  rw [← eE0] at hEb
  have eia : i = M9.an := by omega
  obtain ⟨A, eA⟩ : ∃ A, A = (evs M9.ev M9.an).filter (keepE u) := ⟨_, rfl⟩
  have hAl : A.length ≤ M9.an := by rw [eA]; have := List.length_filter_le (keepE u) (evs M9.ev M9.an); rw [evs_len] at this; exact this
  have hch : Chain u A ∧ endK u A = cntE M9.ev M9.an := by rw [eA]; exact hU.chain hcz.rd
  subst eia
  have hcf2 : cb ≤ M9.an := by omega
  -- region 25 draws
  refine Fx.W.quiet (fun v1 => Below w10.heap.size w10 v1) (by kernel_rfl) (by kernel_rfl) (Below.refl _ _).drew ?_
  refine Qv (.pointer (some ⟨pb, 0, none⟩)) (fun v1 hv1 => x_move rfl h16) (Fx.Qt.call (v := .agg (Fx.varr 6 (Fx.rv .u64 mb.K))) (by rfl) (fun v1 hv1 => rC (args := [.pointer (some ⟨pb, 0, none⟩)]) rfl rfl Try.func27 rfl rfl) rfl (fun v1 hv1 => (o_known mb _ _ _ _ (m37.up hv1)).mono fun e v2 h => ⟨h.1, bch hv1 h.2⟩) ?_)
  refine Qv (.agg (Fx.varr 6 (Fx.rv .u64 u))) (fun v1 hv1 => x_loadA (x := Fx.rv .u64 u) (y := Fx.rv .u64 u) rfl h17 (by kernel_rfl) (by kernel_rfl) (m35.cel.below hv1 (by have := m35.lt; omega)) (i := 0) (by omega) (by omega) (fun j _ => by rw [Nat.zero_add])) (Qv (.bool false) (fun v1 hv1 => Fx.x_neqA (n := 6) (ks := List.replicate 6 (some .u64)) (X := Fx.rv .u64 mb.K) (Y := Fx.rv .u64 u) 12 true rfl rfl rfl (Fx.yesb (fun j _ => by rw [hKbf])) (hkrb.kd) (by rw [← hKbf]; exact hkrb.kd) rfl (by kernel_rfl) (by kernel_rfl) (by kernel_rfl) (by kernel_rfl) (by kernel_rfl)) (Fx.Qt.nil ?_))
  intro wb1 hbwb1
  have s9 : Fx.Stp w10.heap.size w10 wb1 := Sb hbwb1
  have m57 := m34.stp s9 (Nat.ne_of_lt (m34.lt))
  have m58 := m35.stp s9 (Nat.ne_of_lt (m35.lt))
  have m59 := m37.up s9.old
  have m60 := m36.up s9.old
  have b16 := s9.below b11 b11.size b11.size
  refine sN (Wc (b := false) rfl (fun h => nomatch h) (fun _ => Wk (sN (Ws (Wl (Lv (.pointer (some ⟨pa, 0, none⟩)) (x_move rfl h15) (Lv (.agg (Fx.varr 6 (Fx.rv .u64 u))) (x_loadA (x := Fx.rv .u64 u) (y := Fx.rv .u64 u) rfl h17 (by kernel_rfl) (by kernel_rfl) m58.cel (i := 0) (by omega) (by omega) (fun j _ => by rw [Nat.zero_add])) (Fx.L.call (by rfl) (rC (args := [.pointer (some ⟨pa, 0, none⟩), .agg (Fx.varr 6 (Fx.rv .u64 u))]) rfl rfl Try.func28 rfl rfl) rfl ((e_prune u m60 b16.size (by omega) hEa).mono ?_)))))))))
  rintro e9 w13 ⟨he, hc3, ml3, hl7, hE2, hK2, hS3⟩
  refine ⟨_, he, ?_⟩
  clear he
  have ct3 := m60.chm hc3
  have b17 := b16.trans (m60.below b16.size hc3)
  have m61 := m57.chT ct3 (by decide)
  have m62 := m58.chT ct3 (by decide)
  have m63 := m59.chg hc3 hsb.symm
  have hsp4 := SepL.step hsb.symm hS3 m59
  refine Ln (sN (Ws ?_))
  have hEaP := hE2
  rw [← eA] at hEaP
  have hKaP : ml3.K = cntE M9.ev M9.an := hK2.trans hKa
  have hwA := hEaP.wf
  obtain ⟨mm, emm⟩ : ∃ r, r = mo % 20 := ⟨_, rfl⟩
  have hmm : mm < 20 := by rw [emm]; exact Nat.mod_lt _ (by omega)
  have m64 := m63.mono (T' := M9.an + 0) (by omega)
  refine Wl (Lv (.int .u8 ((mo : Int))) (x_move rfl h13) (Lv (.int .i64 ((mo : Int))) (x_conv rfl rfl (by kernel_rfl) Try.underlying3 (Fx.i64e (by omega) rfl)) (Lv (.int .i64 ((mm : Int))) (Fx.x_rem rfl rfl rfl (by omega) (remL emm)) (Lv (.int .i64 ((mm : Int) + 1)) (Fx.x_add rfl rfl rfl (Fx.i64e (by omega) (by omega))) (Lv (.int .i64 ((mm : Int) + 1)) (x_assign rfl rfl) (Ln (sN (Ws (Ws (Wl (Lv (.int .i64 (0)) (x_assign rfl rfl) (Ln (sN (Fx.W.block (Fx.W.loop (fun f w_ => ∃ rd4 : Nat, ∃ mb4 : LgM, ∃ t4 : Nat, rd4 ≤ M9.an + 1 ∧ t4 ≤ A.length ∧ ((rd4 ≤ t4 ∨ t4 = A.length)) ∧ LgE mb4 (E0 ++ A.take t4) ∧ mb4.K = endK u (A.take t4) ∧ SepL pa ml3 pb mb4 ∧ f 12 = .pointer (some ⟨pw, 0, none⟩) ∧ f 14 = .pointer (some ⟨pa, 0, none⟩) ∧ f 15 = .pointer (some ⟨pb, 0, none⟩) ∧ f 20 = .int .i64 ((mm : Int) + 1) ∧ f 21 = .int .i64 ((rd4 : Int)) ∧ Fx.Blk w_ pw 2 (wdY (.slice M9.la (M9.n) (M9.lc)) (.slice M9.aa (M9.an) (M9.ac))) 74 ∧ Fx.Blk w_ g1 6 (Fx.rv .u64 u) 32 ∧ LgO w_ w2.heap.size pa ml3 M9.an ∧ LgO w_ w2.heap.size pb mb4 (M9.an + t4) ∧ Below w2.heap.size w2 w_) (fun f _ => (M9.an + 1 - (intOf (f 21)).toNat)) ⟨0, mb, 0, by omega, by omega, .inl (Nat.le_refl _), (by rw [List.take_zero, List.append_nil]; exact hEb), (by rw [List.take_zero]; exact hKbf), hsp4.symm, h14, h15, h16, (by first | rfl | exact congrArg (Value.int .i64) (by omega)), (by first | rfl | exact congrArg (Value.int .i64) (by omega)), m61, m62, hl7, m64, b17⟩ ?_)))))))))))))))
  rintro f5 w14 ⟨rd4, mb4, t4, hrd4, ht4, hpr, hEb4, hKb4, hsb4, h26, h27, h28, h29, h30, m65, m66, m67, m68, b18⟩
  refine Ws (Ws (Wl (Lv (.int .i64 ((rd4 : Int))) (x_move rfl h30) (Lv (.pointer (some ⟨pw, 0, none⟩)) (x_move rfl h26) (Lv (.pointer (some ⟨pw, 0, none⟩)) (x_nil rfl rfl) (Lv (.pointer (some ⟨pw, 1, none⟩)) (x_field rfl rfl Try.underlying74 rfl (s := 1) (by kernel_rfl) rfl (by show _ + 1 = _; omega)) (Lv (.slice M9.aa (M9.an) (M9.ac)) (x_load1 (x := wdY (.slice M9.la (M9.n) (M9.lc)) (.slice M9.aa (M9.an) (M9.ac))) rfl rfl (by kernel_rfl) m65.cel (i := 1) (by omega) (by omega) rfl) (Lv (.int .i64 ((M9.an : Int))) (x_len rfl rfl rfl (by kernel_rfl)) ?_))))))))
  by_cases c145 : (rd4 : Int) ≤ (M9.an : Int)
  ·refine Lv (.bool true) (Fx.x_leqT rfl rfl rfl c145) (Ln (sN (Wc (b := true) rfl (fun _ => Wk (sN (Ws (Fx.W.block (Ws ?_))))) (fun h => nomatch h))))
   obtain ⟨X, eX⟩ : ∃ X, X = (A.drop t4).take (mm + 1) := ⟨_, rfl⟩
   have hXl := len_drop eX
   refine Wl (Lv (.pointer (some ⟨pa, 0, none⟩)) (x_move rfl h27) (Lv (.pointer (some ⟨pb, 0, none⟩)) (x_move rfl h28) (Fx.L.call (by rfl) (rC (args := [.pointer (some ⟨pb, 0, none⟩)]) rfl rfl Try.func27 rfl rfl) rfl ((o_known mb4 _ _ _ _ m68).mono ?_))))
   rintro e w15 ⟨he, hb4⟩
   refine ⟨.agg (Fx.varr 6 (Fx.rv .u64 mb4.K)), by rw [he], ?_⟩
   clear he
   have s10 := Sb hb4
   have m69 := m65.stp s10 (Nat.ne_of_lt (m65.lt))
   have m70 := m66.stp s10 (Nat.ne_of_lt (m66.lt))
   have m71 := m67.up s10.old
   have m72 := m68.up s10.old
   have b19 := s10.below b18 b18.size b18.size
   refine Lv (.int .i64 ((mm : Int) + 1)) (x_move rfl h29) (Fx.L.call (by rfl) (rC (args := [.pointer (some ⟨pa, 0, none⟩), .agg (Fx.varr 6 (Fx.rv .u64 mb4.K)), .int .i64 ((mm : Int) + 1)]) rfl rfl Try.func29 rfl rfl) rfl ((e_since mb4.K ((mm : Int) + 1) (X := X) m71 (by omega) hEaP (by rw [hKb4, Chain.drop _ _ _ hch.1, eX, show ((mm : Int) + 1).toNat = mm + 1 by omega])).mono ?_))
   rintro e9 w16 ⟨a1, c1, he, ho1, hb5⟩
   refine ⟨_, he, ?_⟩
   clear he
   have s11 := Sb hb5
   have m73 := m69.stp s11 (Nat.ne_of_lt (m69.lt))
   have m74 := m70.stp s11 (Nat.ne_of_lt (m70.lt))
   have m75 := m71.up s11.old
   have m76 := m72.up s11.old
   have b20 := s11.below b19 b19.size b19.size
   refine Lv (.slice a1 (X.length) (c1)) (x_assign rfl rfl) (Ln (sN (Ws (Ws (Wl (Lv (.slice a1 (X.length) (c1)) (x_move rfl rfl) (Lv (.int .i64 ((X.length : Int))) (x_len rfl rfl rfl (by kernel_rfl)) (Lv (.int .i64 ((mm : Int) + 1)) (x_move rfl h29) (Lv (.bool false) (x_gtrF rfl rfl rfl (by omega)) (Ln (sN (Wc (b := false) rfl (fun h => nomatch h) (fun _ => Wk (sN (Ws (Wl (Lv (.int .i64 (0)) (x_assign rfl rfl) (Ln (sN (Fx.W.block (Fx.W.loop (fun f w_ => ∃ i5 : Nat, ∃ mb5 : LgM, i5 ≤ X.length ∧ LgE mb5 (E0 ++ A.take (t4 + i5)) ∧ mb5.K = endK u (A.take (t4 + i5)) ∧ SepL pa ml3 pb mb5 ∧ f 12 = .pointer (some ⟨pw, 0, none⟩) ∧ f 14 = .pointer (some ⟨pa, 0, none⟩) ∧ f 15 = .pointer (some ⟨pb, 0, none⟩) ∧ f 20 = .int .i64 ((mm : Int) + 1) ∧ f 21 = .int .i64 ((rd4 : Int)) ∧ f 22 = .slice a1 (X.length) (c1) ∧ f 23 = .int .i64 ((i5 : Int)) ∧ Fx.Blk w_ pw 2 (wdY (.slice M9.la (M9.n) (M9.lc)) (.slice M9.aa (M9.an) (M9.ac))) 74 ∧ Fx.Blk w_ g1 6 (Fx.rv .u64 u) 32 ∧ Fx.Own w_ w15.heap.size 50 14 (.slice a1 (X.length) (c1)) X.length (evL X) ∧ LgO w_ w2.heap.size pa ml3 M9.an ∧ LgO w_ w2.heap.size pb mb5 (M9.an + t4 + i5) ∧ Below w2.heap.size w2 w_) (fun f _ => (X.length - (intOf (f 23)).toNat)) ⟨0, mb4, by omega, hEb4, hKb4, hsb4, h26, h27, h28, (h29.trans (by first | rfl | exact congrArg (Value.int .i64) (by omega))), (h30.trans (by first | rfl | exact congrArg (Value.int .i64) (by omega))), (by rfl), (by first | rfl | exact congrArg (Value.int .i64) (by omega)), m73, m74, ho1, m75, m76, b20⟩ ?_)))))))))))))))))))))
   rintro f6 w17 ⟨i5, mb5, hi5, hEb5, hKb5, hsb5, h31, h32, h33, h34, h35, h36, h37, m77, m78, m79, m80, m81, b21⟩
   refine Ws (Ws (Wl (Lv (.int .i64 ((i5 : Int))) (x_move rfl h37) (Lv (.slice a1 (X.length) (c1)) (x_move rfl h36) (Lv (.int .i64 ((X.length : Int))) (x_len rfl rfl rfl (by kernel_rfl)) ?_)))))
   by_cases c160 : (i5 : Int) < (X.length : Int)
   ·refine Lv (.bool true) (Fx.x_lssT rfl rfl rfl c160) (Ln (sN (Wc (b := true) rfl (fun _ => Wk (sN (Ws (Fx.W.block (Ws (Wl (Lv (.pointer (some ⟨pb, 0, none⟩)) (x_move rfl h33) ?_))))))) (fun h => nomatch h))))
    refine Lv (.slice a1 (X.length) (c1)) (x_move rfl h36) (Lv (.int .i64 ((i5 : Int))) (x_move rfl h37) ?_)
    obtain ⟨gq1, eq5⟩ := m79.addr (by omega)
    have m82 : Fx.Own w17 w15.heap.size 50 14 (.slice (some ⟨gq1, 0, none⟩) X.length c1) X.length (evL X) := m79.congV (congrArg (fun q => Value.slice q X.length c1) eq5)
    refine Lv (.pointer (some ⟨gq1, 14 * i5, none⟩)) (x_indexS rfl (rfl.trans (congrArg (fun q => Value.slice q (X.length) (c1)) eq5)) rfl Try.underlying46 (s := 14) (by kernel_rfl) (by omega) (by omega) (by omega)) (Lv (.agg (Fx.varr 14 (evY ((X).getD i5 zeroE)))) (x_loadA (x := evL X) (y := evY ((X).getD i5 zeroE)) rfl rfl (by kernel_rfl) (by kernel_rfl) m82.cel (i := 14 * i5) (by omega) (by omega) (fun jq hjq => Fx.flat_at (k := i5) (by omega) hjq)) (Fx.L.call (by rfl) (rC (args := [.pointer (some ⟨pb, 0, none⟩), .agg (Fx.varr 14 (evY ((X).getD i5 zeroE)))]) rfl rfl Try.func19 rfl rfl) rfl ((e_add (v := (X.getD i5 zeroE)) m81 b21.size (by omega) hEb5 (hwA _ (by rw [getD_drop eX (by omega)]; exact getD_mem (by omega))) (by rw [hKb5, getD_drop eX (by omega)]; exact Chain.get _ _ _ hch.1 (by omega))).mono ?_)))
    rintro e9 w18 ⟨he, hc4, ml4, hl8, hE3, hK3, hS4⟩
    refine ⟨_, he, ?_⟩
    clear he
    have ct4 := m81.chm hc4
    have b22 := b21.trans (m81.below b21.size hc4)
    have m83 := m77.chT ct4 (by decide)
    have m84 := m78.chT ct4 (by decide)
    have m85 := m80.chg hc4 hsb5
    have hsp5 := SepL.step hsb5 hS4 m80
    have m86 := m82.chT ct4 (by decide)
    refine Lv (.bool false) (Fx.x_neqF rfl rfl rfl rfl) (Ln (sN (Wc (b := false) rfl (fun h => nomatch h) (fun _ => Wk (Fx.blkN (sN (Wl (Lv (.int .i64 ((i5 : Int))) (x_move rfl h37) (Lv (.int .i64 ((i5 : Int) + 1)) (Fx.x_add rfl rfl rfl (Fx.i64e (by omega) (by omega))) (Lv (.int .i64 ((i5 : Int) + 1)) (x_assign rfl rfl) (Ln ?_)))))))))))
    have m87 : Fx.Own w18 w15.heap.size 50 14 (.slice a1 (X.length) (c1)) X.length (evL X) := m86.congV (congrArg (fun q => Value.slice q X.length c1) eq5.symm)
    refine Fx.lpN ⟨i5 + 1, ml4, by omega, (tell_E (k := t4 + i5) hE3 (getD_drop eX (by omega)) (by omega)), (tell_K (k := t4 + i5) hK3 hKb5 (getD_drop eX (by omega)) (by omega)), hsp5, h31, h32, h33, (h34.trans (by first | rfl | exact congrArg (Value.int .i64) (by omega))), (h35.trans (by first | rfl | exact congrArg (Value.int .i64) (by omega))), h36, (by first | rfl | exact congrArg (Value.int .i64) (by omega)), m83, m84, m87, m85, hl8, b22⟩ ?_
    show (X.length - (intOf ((.int .i64 ((i5 : Int) + 1)))).toNat) < _
    simp only [h37, intOf]; omega
   refine Lv (.bool false) (Fx.x_lssF rfl rfl rfl c160) (Ln (sN (Wc (b := false) rfl (fun h => nomatch h) (fun _ => Fx.W.exit (Fx.seqX (Fx.lpX (Fx.blkX (Fx.blkN (sN (Wl (Lv (.int .i64 ((rd4 : Int))) (x_move rfl h35) (Lv (.int .i64 ((rd4 : Int) + 1)) (Fx.x_add rfl rfl rfl (Fx.i64e (by omega) (by omega))) (Lv (.int .i64 ((rd4 : Int) + 1)) (x_assign rfl rfl) (Ln ?_))))))))))))))
   have m88 := m81.mono (T' := M9.an + (t4 + X.length)) (by omega)
   skip
   refine Fx.lpN ⟨rd4 + 1, mb5, (t4 + X.length), by omega, by omega, (by omega), (by have e : i5 = X.length := (by omega); rw [← e]; exact hEb5), (by have e : i5 = X.length := (by omega); rw [← e]; exact hKb5), hsb5, h31, h32, h33, (h34.trans (by first | rfl | exact congrArg (Value.int .i64) (by omega))), (by first | rfl | exact congrArg (Value.int .i64) (by omega)), m77, m78, m80, m88, b21⟩ ?_
   show (M9.an + 1 - (intOf ((.int .i64 ((rd4 : Int) + 1)))).toNat) < _
   simp only [h30, intOf]; omega
  refine Lv (.bool false) (x_leqF rfl rfl rfl c145) (Ln (sN (Wc (b := false) rfl (fun h => nomatch h) (fun _ => Fx.W.exit (Fx.seqX (Fx.lpX (Fx.blkX (sN (Ws ?_)))))))))
  have et : t4 = A.length := by omega
  have hKend : mb4.K = ml3.K := by rw [hKaP, ← hch.2, hKb4, et, List.take_length]
  have hkrb := m68.kr
  refine Wl (Lv (.pointer (some ⟨pb, 0, none⟩)) (x_move rfl h28) (Fx.L.call (by rfl) (rC (args := [.pointer (some ⟨pb, 0, none⟩)]) rfl rfl Try.func27 rfl rfl) rfl ((o_known mb4 _ _ _ _ m68).mono ?_)))
  rintro e w19 ⟨he, hb6⟩
  refine ⟨.agg (Fx.varr 6 (Fx.rv .u64 mb4.K)), by rw [he], ?_⟩
  clear he
  have s12 := Sb hb6
  have m91 := m67.up s12.old
  have b23 := s12.below b18 b18.size b18.size
  refine Lv (.pointer (some ⟨pa, 0, none⟩)) (x_move rfl h27) (Fx.L.call (by rfl) (rC (args := [.pointer (some ⟨pa, 0, none⟩)]) rfl rfl Try.func27 rfl rfl) rfl ((o_known ml3 _ _ _ _ m91).mono ?_))
  rintro e w20 ⟨he, hb7⟩
  refine ⟨.agg (Fx.varr 6 (Fx.rv .u64 ml3.K)), by rw [he], ?_⟩
  clear he
  have s13 := Sb hb7
  have b24 := s13.below b23 b23.size b23.size
  refine Lv (.bool true) (Fx.x_eqlA (n := 6) (ks := List.replicate 6 (some .u64)) (X := Fx.rv .u64 mb4.K) (Y := Fx.rv .u64 ml3.K) 12 true rfl rfl rfl (Fx.yesb (fun j _ => by rw [hKend])) (hkrb.kd) (by rw [← hKend]; exact hkrb.kd) rfl (by kernel_rfl) (by kernel_rfl) (by kernel_rfl) (by kernel_rfl) (by kernel_rfl)) (Lv (.bool true) (x_move rfl rfl) (Fx.L.call (by rfl) (rC (args := []) rfl rfl Try.func26 rfl rfl) rfl ((works16_any _).mono ?_)))
  rintro e w21 ⟨he, hb8⟩
  refine ⟨.bool true, by rw [he], ?_⟩
  clear he
  have s14 := Sb hb8
  have b25 := s14.below b24 b24.size b24.size
  refine Lv (.bool true) (x_pickT rfl rfl rfl) (Lv (.bool true) (x_assign rfl rfl) (Ln (sN (Wr (⟨.bool true, rV Try.results4 (by exact rfl), ?_⟩)))))
  exact ⟨rfl, (bchB b2 b25 b2.size)⟩
 rw [Bool.not_eq_true] at c25
 refine Fx.L.call (by rfl) (rC (args := [.slice aa0 (na) (ca)]) rfl rfl Try.func9 rfl rfl) rfl ((l_few _ _ _ _).mono ?_)
 rintro e v1 ⟨he, hv1⟩
 subst v1
 refine ⟨.bool false, by rw [he, c25], ?_⟩
 clear he
 refine Lv (.bool true) (Fx.x_notT rfl rfl) (Ln (sN (Wc (b := true) rfl (fun _ => Ws (Wl (Fx.L.call (by rfl) (rC (args := []) rfl rfl Try.func26 rfl rfl) rfl ((works16_any _).mono ?_)))) (fun h => nomatch h))))
 rintro e w22 ⟨he, hb9⟩
 refine ⟨.bool true, by rw [he], ?_⟩
 clear he
 have s15 := Sb hb9
 have b26 := s15.below (Below.refl w.heap.size w) (Below.refl w.heap.size w).size (Below.refl w.heap.size w).size
 refine Lv (.bool true) (x_assign rfl rfl) (Ln (sN (Wr (sR (⟨.bool true, rV Try.results4 (by exact rfl), ?_⟩)))))
 exact ⟨rfl, b26⟩
end Go.Proofs.Ytleajegppehbdaa
namespace Go.Proofs.Ytleajegppehbdaa
open Go.RowKit Go.WideShapes Go.ChangeShapes Go.Deep
theorem spotless1 {w : World} {x : Addr} {v : Value} (h : w.cell? x = some v) : ∃ b off, x = ⟨b, off, none⟩ := by
  obtain ⟨b, off, spot⟩ := x
  cases spot with
  | none => exact ⟨b, off, rfl⟩
  | some q =>
    unfold World.cell? at h
    simp at h
    split at h <;> cases h
def At4 (k0 k1 k2 k3 : IntKind) (w : World) (b off : Nat) (x0 x1 x2 x3 : Int) : Prop :=
  w.cell? ⟨b, off, none⟩ = some (.int k0 x0) ∧ w.cell? ⟨b, off + 1, none⟩ = some (.int k1 x1) ∧ w.cell? ⟨b, off + 2, none⟩ = some (.int k2 x2) ∧ w.cell? ⟨b, off + 3, none⟩ = some (.int k3 x3)
def Wf4 (k0 k1 k2 k3 : IntKind) (x0 x1 x2 x3 : Int) : Prop := (Lit.int k0 x0).wf = true ∧ (Lit.int k1 x1).wf = true ∧ (Lit.int k2 x2).wf = true ∧ (Lit.int k3 x3).wf = true
def Sl4 (k0 k1 k2 k3 : IntKind) (w : World) (a : Option Addr) (len : Nat) (X0 X1 X2 X3 : Nat → Int) : Prop :=
  ∀ i, i < len → (∃ b off, a = some ⟨b, off, none⟩ ∧ At4 k0 k1 k2 k3 w b (off + i * 4) (X0 i) (X1 i) (X2 i) (X3 i)) ∧ Wf4 k0 k1 k2 k3 (X0 i) (X1 i) (X2 i) (X3 i)
theorem Sl4.up {k0 k1 k2 k3 : IntKind} {w w' : World} {a : Option Addr} {len : Nat} {X0 X1 X2 X3 : Nat → Int} (h : Sl4 k0 k1 k2 k3 w a len X0 X1 X2 X3) (hb : Below w.heap.size w w') : Sl4 k0 k1 k2 k3 w' a len X0 X1 X2 X3 := by
  intro i hi
  obtain ⟨⟨b, off, e, q0, q1, q2, q3⟩, hw⟩ := h i hi
  have hlt := block_lt_of_cell q0
  dsimp only at hlt
  exact ⟨⟨b, off, e, (hb.cell (p := ⟨b, off + i * 4, none⟩) hlt).trans q0, (hb.cell (p := ⟨b, off + i * 4 + 1, none⟩) hlt).trans q1, (hb.cell (p := ⟨b, off + i * 4 + 2, none⟩) hlt).trans q2, (hb.cell (p := ⟨b, off + i * 4 + 3, none⟩) hlt).trans q3⟩, hw⟩
end Go.Proofs.Ytleajegppehbdaa
namespace Go.Proofs.Ytleajegppehbdaa
open Go.RowKit Go.WideShapes Go.ChangeShapes Go.Deep
def flatKb (P : Program) : Nat → TypeId → Option (List (Option IntKind))
  | 0, _ => none
  | d + 1, t => match P.underlying t with
    | some (.int k) => some [some k]
    | some .bool => some [none]
    | some (.array n e) => (flatKb P d e).bind fun ks => if P.cellsOf e = ks.length ∧ P.cellsOf t = n * ks.length then some (List.replicate n ks).flatten else none
    | some (.struct fs) => (fs.toList.foldlM (fun l f => (flatKb P d f.type).bind fun ks => if f.offset = l.length ∧ P.cellsOf f.type = ks.length then some (l ++ ks) else none) []).bind fun l => if P.cellsOf t = l.length then some l else none
    | _ => none
def OkV (k : Option IntKind) (v : Value) : Prop := match k with | some k => ∃ n, v = .int k n ∧ (Lit.int k n).wf = true | none => ∃ b, v = .bool b
def FlatV (ks : List (Option IntKind)) (cs : List Value) : Prop := cs.length = ks.length ∧ ∀ (j : Nat) (k : Option IntKind), ks[j]? = some k → ∃ v, cs[j]? = some v ∧ OkV k v
theorem flatb_rep {ks : List (Option IntKind)} {k : Option IntKind} : ∀ (n j : Nat), (List.replicate n ks).flatten[j]? = some k → ks[j % ks.length]? = some k ∧ j / ks.length < n
  | 0, j, h => by simp at h
  | n + 1, j, h => by
    rw [List.replicate_succ, List.flatten_cons] at h
    by_cases hj : j < ks.length
    · rw [List.getElem?_append_left hj] at h
      rw [Nat.mod_eq_of_lt hj, Nat.div_eq_of_lt hj]; exact ⟨h, by omega⟩
    · rw [List.getElem?_append_right (by omega)] at h
      have hs : 0 < ks.length := by
        rcases Nat.eq_zero_or_pos ks.length with e | e
        · obtain ⟨h1, _⟩ := flatb_rep n _ h
          have := (List.getElem?_eq_some_iff.1 h1).1; omega
        · exact e
      obtain ⟨h1, h2⟩ := flatb_rep n _ h
      rw [Nat.mod_eq_sub_mod (by omega), Nat.div_eq_sub_div hs (by omega)]
      exact ⟨h1, by omega⟩
section
variable {H : Type} {enc : TypeId × Value → H} {P : Program} {w : World} {base : Nat} {spare : Nat → Bool} {held : Bool}
theorem flatb_part {ks : List (Option IntKind)} {cs : List Value} {o s j : Nat} {k : Option IntKind} (h : FlatV ks ((cs.drop o).take s)) (hs : s = ks.length) (hk : ks[j]? = some k) : ∃ v, cs[o + j]? = some v ∧ OkV k v := by
  obtain ⟨n, h1, h2⟩ := h.2 j k hk
  have hj := (List.getElem?_eq_some_iff.1 hk).1
  rw [List.getElem?_take_of_lt (by omega), List.getElem?_drop] at h1
  exact ⟨n, h1, h2⟩
theorem flatKb_ok : ∀ (d : Nat) (t : TypeId) (ks : List (Option IntKind)), flatKb P d t = some ks → ∀ (fuel : Nat) (cs : List Value) (x : DataW H × List MemPlace), DataW.trod enc P w base spare held fuel t cs = some x → FlatV ks cs
  | 0, _, _, h => by simp [flatKb] at h
  | d + 1, t, ks, h => by
    intro fuel cs x hx
    unfold flatKb at h
    split at h
    · rename_i k hu
      simp only [Option.some.injEq] at h; subst h
      obtain ⟨n, rfl, _, hw⟩ := DataW.trod_int hu hx
      refine ⟨rfl, fun j k' hk => ?_⟩
      match j, hk with
      | 0, hk => simp at hk; subst hk; exact ⟨_, rfl, n, rfl, hw⟩
      | j + 1, hk => simp at hk
    · rename_i hu
      simp only [Option.some.injEq] at h; subst h
      obtain ⟨b, rfl, _⟩ := DataW.trod_bool hu hx
      refine ⟨rfl, fun j k' hk => ?_⟩
      match j, hk with
      | 0, hk => simp at hk; subst hk; exact ⟨_, rfl, b, rfl⟩
      | j + 1, hk => simp at hk
    · rename_i n e hu
      obtain ⟨ks', hks, h⟩ := Option.bind_eq_some_iff.1 h
      split at h
      · rename_i hc
        simp only [Option.some.injEq] at h; subst h
        obtain ⟨xs, m, _, _, hl, hlen, hel⟩ := DataW.trod_array hu hx
        refine ⟨by rw [hl, hc.2]; simp, fun j k hk => ?_⟩
        obtain ⟨h1, h2⟩ := flatb_rep n j hk
        have hi := hel (j / ks'.length) h2
        rw [List.getElem?_eq_getElem (by omega), hc.1] at hi
        have := flatb_part (flatKb_ok d e ks' hks _ _ _ hi) rfl h1
        rw [Nat.mul_comm, Nat.div_add_mod] at this
        exact this
      · cases h
    · rename_i fs hu
      obtain ⟨l, hl, h⟩ := Option.bind_eq_some_iff.1 h
      split at h
      · rename_i hc
        simp only [Option.some.injEq] at h; subst h
        obtain ⟨xs, m, _, _, hlc, hlen, hf⟩ := DataW.trod_struct hu hx
        refine ⟨by rw [hlc, hc], ?_⟩
        have hf' : ∀ f, f ∈ fs.toList → ∃ y, DataW.trod enc P w base spare held m f.type ((cs.drop f.offset).take (P.cellsOf f.type)) = some y := by
          intro f hfm
          obtain ⟨i, hi, e⟩ := List.mem_iff_getElem.1 hfm
          have hi' : i < fs.size := by simpa using hi
          have h1 : fs[i]? = some f := by rw [Array.getElem?_eq_getElem hi']; simpa using e
          have := hf i f h1
          rw [List.getElem?_eq_getElem (by rw [hlen]; exact hi')] at this
          exact ⟨_, this⟩
        have key : ∀ (L : List Field) (acc : List (Option IntKind)), (∀ f, f ∈ L → ∃ y, DataW.trod enc P w base spare held m f.type ((cs.drop f.offset).take (P.cellsOf f.type)) = some y) → (∀ (j : Nat) (k : Option IntKind), acc[j]? = some k → ∃ v, cs[j]? = some v ∧ OkV k v) → ∀ l, L.foldlM (fun l f => (flatKb P d f.type).bind fun ks => if f.offset = l.length ∧ P.cellsOf f.type = ks.length then some (l ++ ks) else none) acc = some l → ∀ (j : Nat) (k : Option IntKind), l[j]? = some k → ∃ v, cs[j]? = some v ∧ OkV k v := by
          intro L
          induction L with
          | nil => intro acc _ ha l hl; simp at hl; subst hl; exact ha
          | cons f L ih =>
            intro acc hL ha l hl
            rw [List.foldlM_cons] at hl
            obtain ⟨l1, h1, h2⟩ := Option.bind_eq_some_iff.1 hl
            obtain ⟨kf, hkf, h3⟩ := Option.bind_eq_some_iff.1 h1
            split at h3
            · rename_i hcc
              simp only [Option.some.injEq] at h3; subst h3
              refine ih (acc ++ kf) (fun g hg => hL g (List.mem_cons_of_mem _ hg)) (fun j k hk => ?_) l h2
              by_cases hj : j < acc.length
              · rw [List.getElem?_append_left hj] at hk; exact ha j k hk
              · rw [List.getElem?_append_right (by omega)] at hk
                obtain ⟨y, hy⟩ := hL f (List.mem_cons_self ..)
                have := flatb_part (flatKb_ok d f.type kf hkf _ _ _ hy) hcc.2 hk
                rw [hcc.1, show acc.length + (j - acc.length) = j by omega] at this
                exact this
            · cases h3
        exact key fs.toList [] hf' (fun j k hk => by simp at hk) l hl
      · cases h
    · cases h
end
section
variable {H : Type} {enc : TypeId × Value → H} {P : Program} {w : World} {base : Nat} {spare : Nat → Bool} {held : Bool}
theorem open_rows {t e : TypeId} {ks : List (Option IntKind)} {fuel D : Nat} {cs : List Value} {x : DataW H × List MemPlace} (ht : P.underlying t = some (.slice e)) (hk : flatKb P D e = some ks) (ce : P.cellsOf e = ks.length) (hs : 0 < ks.length)
    (h : DataW.trod enc P w base spare held fuel t cs = some x) : ∃ a len cap, cs = [.slice a len cap] ∧ len ≤ maxLen ∧ len ≤ cap ∧ ∃ X : Nat → Nat → Value, (∀ i, i < len → ∀ (j : Nat) (k : Option IntKind), ks[j]? = some k → OkV k (X i j)) ∧ Fx.Arr w a len ks.length (Fx.flat ks.length X) := by
  rcases open_slice ht h with ⟨rfl, _⟩ | ⟨a', len, cap, m, n, D', Pl, rfl, _, hl, hm, hmm, _, hx⟩
  · exact ⟨none, 0, 0, rfl, by unfold maxLen; omega, Nat.le_refl _, fun _ _ => undef, fun i hi => absurd hi (by omega), fun h => absurd h (by omega)⟩
  have hlm : len ≤ m := by rw [hmm]; split <;> omega
  have each : ∀ i j : Nat, ∃ q : Value, i < len → ∀ k, ks[j]? = some k → w.cell? (a'.add (i * ks.length + j)) = some q ∧ OkV k q := by
    intro i j
    by_cases hi : i < len ∧ j < ks.length
    · obtain ⟨cs', g1, g2⟩ := hx i (by omega)
      rw [ce] at g1
      obtain ⟨_, hlen, hcell⟩ := World.cells?_some g1
      obtain ⟨q, h1, h2⟩ := (flatKb_ok _ _ _ hk _ _ _ g2).2 j _ (List.getElem?_eq_getElem hi.2)
      refine ⟨q, fun _ k hkj => ?_⟩
      rw [List.getElem?_eq_getElem hi.2, Option.some.injEq] at hkj
      subst hkj
      have q0 := hcell j (by omega)
      rw [add_add] at q0
      exact ⟨by rw [← h1]; simpa using q0, h2⟩
    · refine ⟨undef, fun h1 k h2 => absurd ⟨h1, (List.getElem?_eq_some_iff.1 h2).1⟩ hi⟩
  refine ⟨some a', len, cap, rfl, by omega, hl, fun i j => Classical.choose (each i j), fun i hi j k hkj => (Classical.choose_spec (each i j) hi k hkj).2, fun h0 => ?_⟩
  have e0 : a'.add (0 * ks.length + 0) = a' := by unfold Addr.add; simp
  obtain ⟨q00, h00⟩ := each 0 0
  have hk0 := List.getElem?_eq_getElem hs
  have h00' := (h00 h0 _ hk0)
  have h01 := h00'.1
  rw [e0] at h01
  have e1 : ∃ b off, a' = ⟨b, off, none⟩ := by
    have h02 := h00'.2
    unfold OkV at h02
    split at h02
    · obtain ⟨nn, rfl, _⟩ := h02; exact spotless1 h01
    · obtain ⟨bb, rfl⟩ := h02
      unfold World.cell? at h01
      cases a' with
      | mk b off sp =>
        cases sp with
        | none => exact ⟨b, off, rfl⟩
        | some s => simp at h01; split at h01 <;> simp_all
  obtain ⟨b, off, e1⟩ := e1
  refine ⟨b, off, by rw [e1], fun p hp => ?_⟩
  have hj : p % ks.length < ks.length := Nat.mod_lt _ hs
  have hi : p / ks.length < len := Nat.div_lt_of_lt_mul (by rw [Nat.mul_comm]; exact hp)
  have := (Classical.choose_spec (each (p / ks.length) (p % ks.length)) hi _ (List.getElem?_eq_getElem hj)).1
  have ea : a'.add (p / ks.length * ks.length + p % ks.length) = ⟨b, off + p, none⟩ := by rw [e1, addr_add, Nat.mul_comm, Nat.div_add_mod]
  exact (congrArg w.cell? ea).symm.trans this
end
end Go.Proofs.Ytleajegppehbdaa
namespace Go.Proofs.Ytleajegppehbdaa
open Go.RowKit Go.WideShapes Go.ChangeShapes Go.Deep Rt
def boolOf : Value → Bool | .bool b => b | _ => false
theorem OkV.int {k : IntKind} {v : Value} (h : OkV (some k) v) : v = .int k (intOf v) ∧ (Lit.int k (intOf v)).wf = true := by
  obtain ⟨n, rfl, hw⟩ := h; exact ⟨rfl, hw⟩
theorem OkV.bool {v : Value} (h : OkV none v) : v = .bool (boolOf v) := by
  obtain ⟨b, rfl⟩ := h; rfl
theorem wf_u8 {n : Int} (h : (Lit.int .u8 n).wf = true) : 0 ≤ n ∧ n ≤ 255 := by simp [Lit.wf, IntKind.min, IntKind.max, IntKind.bits, IntKind.signed] at h; omega
theorem wf_u16 {n : Int} (h : (Lit.int .u16 n).wf = true) : 0 ≤ n ∧ n ≤ 65535 := by simp [Lit.wf, IntKind.min, IntKind.max, IntKind.bits, IntKind.signed] at h; omega
theorem nat_u8 {n : Int} (h : (Lit.int .u8 n).wf = true) : ∃ m : Nat, n = (m : Int) ∧ m ≤ 255 := by
  have := wf_u8 h; exact ⟨n.toNat, by omega, by omega⟩
theorem Fx.Arr.congr {w : World} {a : Option Addr} {n s : Nat} {x y : Nat → Value} (h : Fx.Arr w a n s x) (e : ∀ p, p < n * s → x p = y p) : Fx.Arr w a n s y := fun h0 => by
  obtain ⟨b, off, ea, hc⟩ := h h0
  exact ⟨b, off, ea, fun i hi => by rw [← e i hi]; exact hc i hi⟩
def actKs : List (Option IntKind) := [some .u8, none, some .u8, some .u8, some .u8, some .u8, some .u16, some .u8, some .u8]
def actOf (X : Nat → Value) : ActM := ⟨(intOf (X 0)).toNat, boolOf (X 1), (intOf (X 2)).toNat, (intOf (X 3)).toNat, (intOf (X 4)).toNat, (intOf (X 5)).toNat, (intOf (X 6)).toNat, (intOf (X 7)).toNat, (intOf (X 8)).toNat⟩
theorem actOf_ok {X : Nat → Value} (h : ∀ (j : Nat) (k : Option IntKind), actKs[j]? = some k → OkV k (X j)) : ActOk (actOf X) ∧ ∀ j, j < 9 → X j = actY (actOf X) j := by
  have u8 : ∀ j, actKs[j]? = some (some .u8) → X j = .int .u8 ((intOf (X j)).toNat : Int) ∧ (intOf (X j)).toNat ≤ 255 := fun j hj => by
    obtain ⟨e, hw⟩ := (h j _ hj).int
    have := wf_u8 hw
    exact ⟨by rw [Int.toNat_of_nonneg this.1]; exact e, by omega⟩
  have h6 : X 6 = .int .u16 ((intOf (X 6)).toNat : Int) ∧ (intOf (X 6)).toNat ≤ 65535 := by
    obtain ⟨e, hw⟩ := (h 6 (some .u16) rfl).int
    have := wf_u16 hw
    exact ⟨by rw [Int.toNat_of_nonneg this.1]; exact e, by omega⟩
  refine ⟨⟨(u8 0 rfl).2, (u8 2 rfl).2, (u8 3 rfl).2, (u8 4 rfl).2, (u8 5 rfl).2, h6.2, (u8 7 rfl).2, (u8 8 rfl).2⟩, fun j hj => ?_⟩
  rcases j with _|_|_|_|_|_|_|_|_|j
  · exact (u8 0 rfl).1
  · exact (h 1 none rfl).bool
  · exact (u8 2 rfl).1
  · exact (u8 3 rfl).1
  · exact (u8 4 rfl).1
  · exact (u8 5 rfl).1
  · exact h6.1
  · exact (u8 7 rfl).1
  · exact (u8 8 rfl).1
  omega
section
variable {H : Type} {enc : TypeId × Value → H} {P : Program} {w : World}
theorem open_acts {t e : TypeId} {a : Option Addr} {len cap D : Nat} {d : DataW H} {ps : List MemPlace} (ht : P.underlying t = some (.slice e)) (hk : flatKb P D e = some actKs) (ce : P.cellsOf e = 9)
    (h : DataW.Trod enc P w 0 (fun _ => true) true t (.slice a len cap) d ps) : ∃ xa : Nat → ActM, (∀ i, i < len → ActOk (xa i)) ∧ Fx.Arr w a len 9 (Fx.flat 9 fun k => actY (xa k)) := by
  obtain ⟨fuel, hf⟩ := h
  obtain ⟨a', l', c', hcs, _, _, X, hX, hA⟩ := open_rows ht hk ce (by decide) hf
  simp [Value.cells] at hcs
  obtain ⟨rfl, rfl, rfl⟩ := hcs
  exact ⟨fun i => actOf (X i), fun i hi => (actOf_ok (hX i hi)).1, hA.congr (Fx.flat_cong fun k hk j hj => (actOf_ok (hX k hk)).2 j hj)⟩
end
end Go.Proofs.Ytleajegppehbdaa
