/-
  What the proof of the law rests on, part 3: walks of functions, and plain laws; each says its conditions itself.
-/
import Derived.Laws.StructEq
import Derived.Test.YtleajegppehbdaaZF2
namespace Go.Proofs.Ytleajegppehbdaa
open Go.RowKit Rt
open Fx (x_move x_assign x_field x_load1 x_pickF x_pickT x_nil x_conv x_indexS x_index x_leqF x_loadA x_len x_gtrF x_build x_eqlF x_eqlT Lv sN Ln Ws Qv Wl Rp Wc Qs Wr Sb Lk Wk rC rV sR)
section
structure LdM where
  s : StM
  id : Nat → Int
  par : Nat → Int
  R : Nat → Nat → Int
  g : Nat → Nat → Int
  tb : Nat
  ta : Option Addr
  tn : Nat
  tc : Nat
  t : Nat → Nat → Int
  ra : Nat → Option Addr
  rn : Nat → Nat
  rc : Nat → Nat
  rq : Nat → Nat → Int
structure LdC where
  inn : Nat → Bool
  left : Nat → Bool
  known : Nat → Int
  nn : Nat
  id : Nat → Int
  par : Nat → Int
  R : Nat → Nat → Int
  gn : Nat
  g : Nat → Nat → Int
  tn : Nat
  t : Nat → Nat → Int
  rn : Nat → Nat
  rq : Nat → Nat → Int
def LdM.core (m : LdM) : LdC := ⟨m.s.inn, m.s.left, m.s.known, m.s.nn, m.id, m.par, m.R, m.s.gn, m.g, m.tn, m.t, m.rn, m.rq⟩
def ldY (m : LdM) : Nat → Value := fun p => if p < 20 then stY m.s p else if p = 20 then .pointer (some ⟨m.tb, 0, none⟩) else .slice (m.ra (p - 21)) (m.rn (p - 21)) (m.rc (p - 21))
theorem ldY_st (m : LdM) {p : Nat} {v : Value} (h : p < 20) (e : stY m.s p = v) : ldY m p = v := by unfold ldY; rw [if_pos h]; exact e
theorem ldY_req (m : LdM) {p q : Nat} (e : q = p + 21) : ldY m q = .slice (m.ra p) (m.rn p) (m.rc p) := by
  subst e; unfold ldY; rw [if_neg (by omega), if_neg (by omega), Nat.add_sub_cancel]
def grY (x : Nat → Int) : Nat → Value := fun p => if p = 0 then .int .i64 (x 0) else if p = 3 then .int .i64 (x 3) else .int .u64 (x p)
def ndX (m : LdM) : Nat → Value := Fx.flat 56 fun k => ndY (m.id k) (m.par k) (m.R k)
def grX (m : LdM) : Nat → Value := Fx.flat 5 fun k => grY (m.g k)
def flatT (c : Nat → Nat → Int) : Nat → Int := fun p => c (p / 2) (p % 2)
def trX (t : Nat → Nat → Int) : Nat → Value := Fx.flat 2 fun k => Fx.rv .u64 (t k)
structure Ldg (w : World) (p : Nat) (m : LdM) : Prop where
  c : Fx.Cel w p 0 27 (ldY m)
  an : Fx.Arr w m.s.na m.s.nn 56 (ndX m)
  ag : Fx.Arr w m.s.ga m.s.gn 5 (grX m)
  tc : Fx.Cel w m.tb 0 1 (fun _ => .slice m.ta m.tn m.tc)
  at2 : Fx.Arr w m.ta m.tn 2 (trX m.t)
  ar : ∀ i, i < 6 → Fx.Arr w (m.ra i) (m.rn i) 1 (Fx.rv .u64 (m.rq i))
  bn : m.s.nn ≤ 1000000
  bg : m.s.gn ≤ 1000000
  bt : m.tn ≤ 1000000
  br : ∀ i, i < 6 → m.rn i ≤ 1000000
section
variable {w w' : World} {p : Nat} {m : LdM}
theorem Ldg.n (h : Ldg w p m) : Nds w m.s.na m.s.nn m.id m.par m.R := fun _ hk => h.an.at hk
theorem Ldg.g (h : Ldg w p m) : ∀ k, k < m.s.gn → ∃ b off, m.s.ga = some ⟨b, off, none⟩ ∧ Fx.Cel w b (off + 5 * k) 5 (grY (m.g k)) := fun _ hk => h.ag.at hk
theorem Ldg.t (h : Ldg w p m) : ∀ k, k < m.tn → ∃ b off, m.ta = some ⟨b, off, none⟩ ∧ Fx.Cel w b (off + 2 * k) 2 (Fx.rv .u64 (m.t k)) := fun _ hk => h.at2.at hk
theorem Ldg.r (h : Ldg w p m) : ∀ i, i < 6 → ∀ k, k < m.rn i → ∃ b off, m.ra i = some ⟨b, off, none⟩ ∧ Fx.Cel w b (off + k) 1 (fun _ => .int .u64 (m.rq i k)) := fun i hi k hk => by
  obtain ⟨b, off, e, hc⟩ := h.ar i hi (by omega)
  refine ⟨b, off, e, fun j hj => ?_⟩
  obtain rfl : j = 0 := by omega
  exact hc k (by omega)
theorem Ldg.below (h : Ldg w p m) (hb : Below w.heap.size w w') : Ldg w' p m where
  c := h.c.below hb (h.c.lt (by omega))
  an := h.an.up hb rfl
  ag := h.ag.up hb rfl
  tc := h.tc.below hb (h.tc.lt (by omega))
  at2 := h.at2.up hb rfl
  ar := fun i hi => (h.ar i hi).up hb rfl
  bn := h.bn
  bg := h.bg
  bt := h.bt
  br := h.br
end
def firstI (P : Nat → Bool) : Nat → Int
  | 0 => -1
  | n + 1 => if 0 ≤ firstI P n then firstI P n else if P n then (n : Int) else -1
theorem firstI_none {P : Nat → Bool} : ∀ {n : Nat}, (∀ i, i < n → P i = false) → firstI P n = -1
  | 0, _ => rfl
  | n + 1, h => by
    have := firstI_none (P := P) (n := n) fun i hi => h i (by omega)
    simp only [firstI]; rw [this, if_neg (by omega), h n (by omega)]; rfl
theorem firstI_hit {P : Nat → Bool} {k : Nat} (hb : ∀ i, i < k → P i = false) (hk : P k = true) : ∀ {n : Nat}, k < n → firstI P n = (k : Int)
  | 0, h => absurd h (by omega)
  | n + 1, h => by
    simp only [firstI]
    by_cases e : k = n
    · subst e; rw [firstI_none hb, if_neg (by omega), hk]; rfl
    · rw [firstI_hit hb hk (n := n) (by omega), if_pos (by omega)]
theorem firstI_spec (P : Nat → Bool) : ∀ n : Nat, (∃ k : Nat, k < n ∧ firstI P n = (k : Int) ∧ P k = true) ∨ (firstI P n = -1 ∧ ∀ i, i < n → P i = false)
  | 0 => .inr ⟨rfl, fun i h => absurd h (by omega)⟩
  | n + 1 => by
    rcases firstI_spec P n with ⟨k, hk, e, hp⟩ | ⟨e, hp⟩
    · exact .inl ⟨k, by omega, by simp only [firstI]; rw [e, if_pos (by omega)], hp⟩
    · by_cases h : P n = true
      · exact .inl ⟨n, by omega, by simp only [firstI]; rw [e, if_neg (by omega), h]; rfl, h⟩
      · rw [Bool.not_eq_true] at h
        refine .inr ⟨by simp only [firstI]; rw [e, if_neg (by omega), h]; rfl, fun i hi => ?_⟩
        by_cases e2 : i = n
        · subst e2; exact h
        · exact hp i (by omega)
theorem none_step {P : Nat → Bool} {k : Nat} (h : ∀ i, i < k → P i = false) (hk : P k = false) : ∀ i, i < k + 1 → P i = false := fun i hi => by
  by_cases e : i = k
  · subst e; exact hk
  · exact h i (by omega)
def LdM.node (m : LdM) (id : Int) : Int := firstI (fun i => decide (m.id i = id)) m.s.nn
def LdM.grant (m : LdM) (o r : Int) : Int := firstI (fun i => decide (m.g i 0 = o) && decide (m.g i 1 = r)) m.s.gn
def LdM.askedN (m : LdM) (a : Nat) (r : Int) : Int := firstI (fun i => decide (m.rq a i = r)) (m.rn a)
structure TreeR (w : World) (tb : Nat) (ta : Option Addr) (tn tc : Nat) (t : Nat → Nat → Int) : Prop where
  tc : Fx.Cel w tb 0 1 (fun _ => .slice ta tn tc)
  t : ∀ k, k < tn → ∃ b off, ta = some ⟨b, off, none⟩ ∧ Fx.Cel w b (off + 2 * k) 2 (Fx.rv .u64 (t k))
  bt : tn ≤ 1000000
theorem TreeR.below {w w' : World} {tb : Nat} {ta : Option Addr} {tn tc : Nat} {t : Nat → Nat → Int} (h : TreeR w tb ta tn tc t) (hb : Below w.heap.size w w') : TreeR w' tb ta tn tc t where
  tc := h.tc.below hb (h.tc.lt (by omega))
  t := fun k hk => by obtain ⟨b, off, e, hc⟩ := h.t k hk; exact ⟨b, off, e, hc.below hb (hc.lt (by omega))⟩
  bt := h.bt
def findT (t : Nat → Nat → Int) (tn : Nat) (x : Int) : Int := firstI (fun i => decide (t i 0 = x)) tn
def iterT (t : Nat → Nat → Int) (tn : Nat) : Nat → Int → Int
  | 0, x => x
  | k + 1, x => t (findT t tn (iterT t tn k x)).toNat 1
def lenV : Value → Nat
  | .slice _ n _ => n
  | _ => 0
end
theorem l_node (m : LdM) (p : Nat) (x : Int) (w : World) (h : Ldg w p m) :
    Calls Try.prog 75 #[(pt p), .int .u64 (x)] w fun e w' => e = .returned (.int .i64 (m.node x)) ∧ Below w.heap.size w w' := by
 have hc := h.c
 have lp : p < w.heap.size := hc.lt (by omega)
 have bn := h.bn
 have bg := h.bg
 have bt := h.bt
 refine Fx.enter Try.func75 rfl (n := 28) rfl (by rfl) ?_
 refine Ws (Wl (Lv (.int .i64 (0)) (x_assign rfl rfl) (Ln (sN (Ws (Ws (Wl (Lv (.int .i64 (0)) (x_assign rfl rfl) (Ln (sN (Fx.W.block (Fx.W.loop (fun f w_ => ∃ k : Nat, k ≤ m.s.nn ∧ (∀ i, i < k → (fun i => decide (m.id i = x)) i = false) ∧ f 0 = (pt p) ∧ f 1 = .int .u64 (x) ∧ f 5 = .int .i64 ((k : Int)) ∧ Fx.Cel w_ p 0 27 (ldY m) ∧ Below w.heap.size w w_) (fun f _ => (m.s.nn - (intOf (f 5)).toNat)) ⟨0, by omega, (fun i h => absurd h (by omega)), (by rfl), Fx.ic, Fx.ic, hc, (Below.refl w.heap.size w)⟩ ?_))))))))))))
 rintro f1 w1 ⟨k, hk, hall, h1, h2, h3, m1, b1⟩
 refine Ws (Ws (Wl (Lv (.int .i64 ((k : Int))) (x_move rfl h3) (Lv ((pt p)) (x_move rfl h1) (Lv ((pt p)) (x_nil rfl rfl) (Lv ((pt p)) (x_field rfl rfl Try.underlying70 rfl (s := 20) (by kernel_rfl) rfl rfl) (Lv ((pf p 18)) (x_field rfl rfl Try.underlying65 rfl (s := 1) (by kernel_rfl) rfl (by show _ + 18 = _; omega)) (Lv (.slice m.s.na (m.s.nn) (m.s.nc)) (x_load1 (x := ldY m) rfl rfl (by kernel_rfl) m1 (i := 18) (by omega) (by omega) rfl) (Lv (.int .i64 ((m.s.nn : Int))) (x_len rfl rfl rfl (by kernel_rfl)) ?_)))))))))
 by_cases c13 : (k : Int) < (m.s.nn : Int)
 ·refine Lv (.bool true) (Fx.x_lssT rfl rfl rfl c13) (Ln (sN (Wc (b := true) rfl (fun _ => Wk (sN (Ws (Fx.W.block (Ws ?_))))) (fun h => nomatch h))))
  obtain ⟨b, off, ea, hb⟩ := h.n k (by omega)
  have lb : b < w.heap.size := hb.lt (by omega)
  have m2 := hb.below b1 lb
  refine Wl (Lv ((pt p)) (x_move rfl h1) (Lv ((pt p)) (x_nil rfl rfl) (Lv ((pt p)) (x_field rfl rfl Try.underlying70 rfl (s := 20) (by kernel_rfl) rfl rfl) (Lv ((pf p 18)) (x_field rfl rfl Try.underlying65 rfl (s := 1) (by kernel_rfl) rfl (by show _ + 18 = _; omega)) (Lv (.slice m.s.na (m.s.nn) (m.s.nc)) (x_load1 (x := ldY m) rfl rfl (by kernel_rfl) m1 (i := 18) (by omega) (by omega) rfl) (Lv (.int .i64 ((k : Int))) (x_move rfl h3) (Lv ((pf b (56 * k + off))) (x_indexS rfl (rfl.trans (congrArg (fun q => Value.slice q (m.s.nn) (m.s.nc)) ea)) rfl Try.underlying62 (s := 56) (by kernel_rfl) (by omega) (by omega) (by omega)) (Lv ((pf b (56 * k + off))) (x_field rfl rfl Try.underlying123 rfl (s := 1) (by kernel_rfl) rfl rfl) (Lv (.int .u64 (m.id k)) (x_load1 (x := ndY (m.id k) (m.par k) (m.R k)) rfl rfl (by kernel_rfl) m2 (i := 0) (by omega) (by omega) rfl) (Lv (.int .u64 (x)) (x_move rfl h2) ?_))))))))))
  by_cases c26 : (m.id k) = x
  ·refine Lv (.bool true) (x_eqlT rfl rfl rfl c26) (Ln (sN (Wc (b := true) rfl (fun _ => Ws (Wl (Lv (.int .i64 ((k : Int))) (x_move rfl h3) ?_))) (fun h => nomatch h))))
   refine Lv (.int .i64 ((k : Int))) (x_assign rfl rfl) (Ln (sN (Wr (Fx.blkR (sR (Fx.lpR (Fx.blkR (sR (⟨.int .i64 ((k : Int)), rV Try.results75 (by exact rfl), ?_⟩)))))))))
   exact ⟨congrArg (fun q => Ending.returned (Value.int .i64 q)) (Eq.symm (firstI_hit hall (decide_eq_true c26) (by omega))), b1⟩
  refine Lv (.bool false) (x_eqlF rfl rfl rfl c26) (Ln (sN (Wc (b := false) rfl (fun h => nomatch h) (fun _ => Wk (Fx.blkN (sN (Wl (Lv (.int .i64 ((k : Int))) (x_move rfl h3) (Lv (.int .i64 ((k : Int) + 1)) (Fx.x_add rfl rfl rfl Fx.io) (Lv (.int .i64 ((k : Int) + 1)) (x_assign rfl rfl) (Ln (Fx.lpN ⟨k + 1, by omega, (none_step hall (decide_eq_false c26)), h1, (h2.trans Fx.ic), Fx.ic, m1, b1⟩ ?_))))))))))))
  show (m.s.nn - (intOf ((.int .i64 ((k : Int) + 1)))).toNat) < _
  simp only [h3, intOf]; omega
 refine Lv (.bool false) (Fx.x_lssF rfl rfl rfl c13) (Ln (sN (Wc (b := false) rfl (fun h => nomatch h) (fun _ => Fx.W.exit (Fx.seqX (Fx.lpX (Fx.blkX (sN (Ws (Wl (Lv (.int .i64 (-1)) (x_assign rfl rfl) (Ln (sN (Wr (⟨.int .i64 (-1), rV Try.results75 (by exact rfl), ?_⟩)))))))))))))))
 exact ⟨congrArg (fun q => Ending.returned (Value.int .i64 q)) (Eq.symm (firstI_none (fun i hi => hall i (by omega)))), b1⟩
theorem l_find (tb : Nat) (ta : Option Addr) (tn tc : Nat) (t : Nat → Nat → Int) (x : Int) (w : World) (h : TreeR w tb ta tn tc t) :
    Calls Try.prog 110 #[(pt tb), .int .u64 (x)] w fun e w' => e = .returned (.int .i64 (findT t tn x)) ∧ Below w.heap.size w w' := by
 have hc := h.tc
 have lp : tb < w.heap.size := hc.lt (by omega)
 have bt := h.bt
 refine Fx.enter Try.func110 rfl (n := 26) rfl (by rfl) ?_
 refine Ws (Wl (Lv (.int .i64 (0)) (x_assign rfl rfl) (Ln (sN (Ws (Ws (Wl (Lv (.int .i64 (0)) (x_assign rfl rfl) (Ln (sN (Fx.W.block (Fx.W.loop (fun f w_ => ∃ k : Nat, k ≤ tn ∧ (∀ i, i < k → (fun i => decide (t i 0 = x)) i = false) ∧ f 0 = (pt tb) ∧ f 1 = .int .u64 (x) ∧ f 5 = .int .i64 ((k : Int)) ∧ Fx.Cel w_ tb 0 1 (fun _ => .slice ta tn tc) ∧ Below w.heap.size w w_) (fun f _ => (tn - (intOf (f 5)).toNat)) ⟨0, by omega, (fun i h => absurd h (by omega)), (by rfl), Fx.ic, Fx.ic, hc, (Below.refl w.heap.size w)⟩ ?_))))))))))))
 rintro f1 w1 ⟨k, hk, hall, h1, h2, h3, m1, b1⟩
 refine Ws (Ws (Wl (Lv (.int .i64 ((k : Int))) (x_move rfl h3) (Lv ((pt tb)) (x_move rfl h1) (Lv ((pt tb)) (x_nil rfl rfl) (Lv ((pt tb)) (x_field rfl rfl Try.underlying117 rfl (s := 1) (by kernel_rfl) rfl rfl) (Lv (.slice ta (tn) (tc)) (x_load1 (x := fun _ => .slice ta tn tc) rfl rfl (by kernel_rfl) m1 (i := 0) (by omega) (by omega) rfl) (Lv (.int .i64 ((tn : Int))) (x_len rfl rfl rfl (by kernel_rfl)) ?_))))))))
 by_cases c12 : (k : Int) < (tn : Int)
 ·refine Lv (.bool true) (Fx.x_lssT rfl rfl rfl c12) (Ln (sN (Wc (b := true) rfl (fun _ => Wk (sN (Ws (Fx.W.block (Ws ?_))))) (fun h => nomatch h))))
  obtain ⟨b, off, ea, hb⟩ := h.t k (by omega)
  have lb : b < w.heap.size := hb.lt (by omega)
  have m2 := hb.below b1 lb
  refine Wl (Lv ((pt tb)) (x_move rfl h1) (Lv ((pt tb)) (x_nil rfl rfl) (Lv ((pt tb)) (x_field rfl rfl Try.underlying117 rfl (s := 1) (by kernel_rfl) rfl rfl) (Lv (.slice ta (tn) (tc)) (x_load1 (x := fun _ => .slice ta tn tc) rfl rfl (by kernel_rfl) m1 (i := 0) (by omega) (by omega) rfl) (Lv (.int .i64 ((k : Int))) (x_move rfl h3) (Lv ((pf b (2 * k + off))) (x_indexS rfl (rfl.trans (congrArg (fun q => Value.slice q (tn) (tc)) ea)) rfl Try.underlying115 (s := 2) (by kernel_rfl) (by omega) (by omega) (by omega)) (Lv ((pf b (2 * k + off))) (x_field rfl rfl Try.underlying170 rfl (s := 1) (by kernel_rfl) rfl rfl) (Lv (.int .u64 ((t k) 0)) (x_load1 (x := Fx.rv .u64 (t k)) rfl rfl (by kernel_rfl) m2 (i := 0) (by omega) (by omega) rfl) (Lv (.int .u64 (x)) (x_move rfl h2) ?_)))))))))
  by_cases c24 : ((t k) 0) = x
  ·refine Lv (.bool true) (x_eqlT rfl rfl rfl c24) (Ln (sN (Wc (b := true) rfl (fun _ => Ws (Wl (Lv (.int .i64 ((k : Int))) (x_move rfl h3) ?_))) (fun h => nomatch h))))
   refine Lv (.int .i64 ((k : Int))) (x_assign rfl rfl) (Ln (sN (Wr (Fx.blkR (sR (Fx.lpR (Fx.blkR (sR (⟨.int .i64 ((k : Int)), rV Try.results110 (by exact rfl), ?_⟩)))))))))
   exact ⟨congrArg (fun q => Ending.returned (Value.int .i64 q)) (Eq.symm (firstI_hit hall (decide_eq_true c24) (by omega))), b1⟩
  refine Lv (.bool false) (x_eqlF rfl rfl rfl c24) (Ln (sN (Wc (b := false) rfl (fun h => nomatch h) (fun _ => Wk (Fx.blkN (sN (Wl (Lv (.int .i64 ((k : Int))) (x_move rfl h3) (Lv (.int .i64 ((k : Int) + 1)) (Fx.x_add rfl rfl rfl Fx.io) (Lv (.int .i64 ((k : Int) + 1)) (x_assign rfl rfl) (Ln (Fx.lpN ⟨k + 1, by omega, (none_step hall (decide_eq_false c24)), h1, (h2.trans Fx.ic), Fx.ic, m1, b1⟩ ?_))))))))))))
  show (tn - (intOf ((.int .i64 ((k : Int) + 1)))).toNat) < _
  simp only [h3, intOf]; omega
 refine Lv (.bool false) (Fx.x_lssF rfl rfl rfl c12) (Ln (sN (Wc (b := false) rfl (fun h => nomatch h) (fun _ => Fx.W.exit (Fx.seqX (Fx.lpX (Fx.blkX (sN (Ws (Wl (Lv (.int .i64 (-1)) (x_assign rfl rfl) (Ln (sN (Wr (⟨.int .i64 (-1), rV Try.results110 (by exact rfl), ?_⟩)))))))))))))))
 exact ⟨congrArg (fun q => Ending.returned (Value.int .i64 q)) (Eq.symm (firstI_none (fun i hi => hall i (by omega)))), b1⟩
theorem and_noL {a b : Prop} [Decidable a] [Decidable b] (h : ¬ a) : (decide a && decide b) = false := by rw [decide_eq_false h]; rfl
theorem and_noR {a b : Prop} [Decidable a] [Decidable b] (h : ¬ b) : (decide a && decide b) = false := by rw [decide_eq_false h, Bool.and_false]
theorem and_yes {a b : Prop} [Decidable a] [Decidable b] (h : a) (h2 : b) : (decide a && decide b) = true := by rw [decide_eq_true h, decide_eq_true h2]; rfl
theorem l_grant (m : LdM) (p : Nat) (x r : Int) (w : World) (h : Ldg w p m) :
    Calls Try.prog 99 #[(pt p), .int .i64 (x), .int .u64 (r)] w fun e w' => e = .returned (.int .i64 (m.grant x r)) ∧ Below w.heap.size w w' := by
 have hc := h.c
 have lp : p < w.heap.size := hc.lt (by omega)
 have bn := h.bn
 have bg := h.bg
 have bt := h.bt
 refine Fx.enter Try.func99 rfl (n := 43) rfl (by rfl) ?_
 refine Ws (Wl (Lv (.int .i64 (0)) (x_assign rfl rfl) (Ln (sN (Ws (Ws (Wl (Lv (.int .i64 (0)) (x_assign rfl rfl) (Ln (sN (Fx.W.block (Fx.W.loop (fun f w_ => ∃ k : Nat, k ≤ m.s.gn ∧ (∀ i, i < k → (fun i => decide (m.g i 0 = x) && decide (m.g i 1 = r)) i = false) ∧ f 0 = (pt p) ∧ f 1 = .int .i64 (x) ∧ f 2 = .int .u64 (r) ∧ f 7 = .int .i64 ((k : Int)) ∧ Fx.Cel w_ p 0 27 (ldY m) ∧ Below w.heap.size w w_) (fun f _ => (m.s.gn - (intOf (f 7)).toNat)) ⟨0, by omega, (fun i h => absurd h (by omega)), (by rfl), Fx.ic, Fx.ic, Fx.ic, hc, (Below.refl w.heap.size w)⟩ ?_))))))))))))
 rintro f1 w1 ⟨k, hk, hall, h1, h2, h3, h4, m1, b1⟩
 refine Ws (Ws (Wl (Lv (.int .i64 ((k : Int))) (x_move rfl h4) (Lv ((pt p)) (x_move rfl h1) (Lv ((pt p)) (x_nil rfl rfl) (Lv ((pt p)) (x_field rfl rfl Try.underlying70 rfl (s := 20) (by kernel_rfl) rfl rfl) (Lv ((pf p 19)) (x_field rfl rfl Try.underlying65 rfl (s := 1) (by kernel_rfl) rfl (by show _ + 19 = _; omega)) (Lv (.slice m.s.ga (m.s.gn) (m.s.gc)) (x_load1 (x := ldY m) rfl rfl (by kernel_rfl) m1 (i := 19) (by omega) (by omega) rfl) (Lv (.int .i64 ((m.s.gn : Int))) (x_len rfl rfl rfl (by kernel_rfl)) ?_)))))))))
 by_cases c15 : (k : Int) < (m.s.gn : Int)
 ·refine Lv (.bool true) (Fx.x_lssT rfl rfl rfl c15) (Ln (sN (Wc (b := true) rfl (fun _ => Wk (sN (Ws (Fx.W.block (Ws ?_))))) (fun h => nomatch h))))
  obtain ⟨b, off, ea, hb⟩ := h.g k (by omega)
  have lb : b < w.heap.size := hb.lt (by omega)
  have m2 := hb.below b1 lb
  refine Wl (Lv ((pt p)) (x_move rfl h1) (Lv ((pt p)) (x_nil rfl rfl) (Lv ((pt p)) (x_field rfl rfl Try.underlying70 rfl (s := 20) (by kernel_rfl) rfl rfl) (Lv ((pf p 19)) (x_field rfl rfl Try.underlying65 rfl (s := 1) (by kernel_rfl) rfl (by show _ + 19 = _; omega)) (Lv (.slice m.s.ga (m.s.gn) (m.s.gc)) (x_load1 (x := ldY m) rfl rfl (by kernel_rfl) m1 (i := 19) (by omega) (by omega) rfl) (Lv (.int .i64 ((k : Int))) (x_move rfl h4) (Lv ((pf b (5 * k + off))) (x_indexS rfl (rfl.trans (congrArg (fun q => Value.slice q (m.s.gn) (m.s.gc)) ea)) rfl Try.underlying63 (s := 5) (by kernel_rfl) (by omega) (by omega) (by omega)) (Lv ((pf b (5 * k + off))) (x_field rfl rfl Try.underlying159 rfl (s := 1) (by kernel_rfl) rfl rfl) (Lv (.int .i64 (m.g k 0)) (x_load1 (x := grY (m.g k)) rfl rfl (by kernel_rfl) m2 (i := 0) (by omega) (by omega) rfl) (Lv (.int .i64 (x)) (x_move rfl h2) ?_))))))))))
  by_cases c28 : (m.g k 0) = x
  ·refine Lv (.bool true) (x_eqlT rfl rfl rfl c28) (Lv (.bool true) (x_move rfl rfl) (Lv ((pt p)) (x_move rfl h1) (Lv ((pt p)) (x_nil rfl rfl) (Lv ((pt p)) (x_field rfl rfl Try.underlying70 rfl (s := 20) (by kernel_rfl) rfl rfl) (Lv ((pf p 19)) (x_field rfl rfl Try.underlying65 rfl (s := 1) (by kernel_rfl) rfl (by show _ + 19 = _; omega)) (Lv (.slice m.s.ga (m.s.gn) (m.s.gc)) (x_load1 (x := ldY m) rfl rfl (by kernel_rfl) m1 (i := 19) (by omega) (by omega) rfl) (Lv (.int .i64 ((k : Int))) (x_move rfl h4) (Lv ((pf b (5 * k + off))) (x_indexS rfl (rfl.trans (congrArg (fun q => Value.slice q (m.s.gn) (m.s.gc)) ea)) rfl Try.underlying63 (s := 5) (by kernel_rfl) (by omega) (by omega) (by omega)) (Lv ((pf b (5 * k + off + 1))) (x_field rfl rfl Try.underlying159 rfl (s := 1) (by kernel_rfl) rfl (by show _ + 1 = _; omega)) (Lv (.int .u64 (m.g k 1)) (x_load1 (x := grY (m.g k)) rfl rfl (by kernel_rfl) m2 (i := 1) (by omega) (by omega) rfl) (Lv (.int .u64 (r)) (x_move rfl h3) ?_)))))))))))
   by_cases c40 : (m.g k 1) = r
   ·refine Lv (.bool true) (x_eqlT rfl rfl rfl c40) (Lv (.bool true) (x_pickT rfl rfl rfl) (Ln (sN (Wc (b := true) rfl (fun _ => Ws (Wl (Lv (.int .i64 ((k : Int))) (x_move rfl h4) ?_))) (fun h => nomatch h)))))
    refine Lv (.int .i64 ((k : Int))) (x_assign rfl rfl) (Ln (sN (Wr (Fx.blkR (sR (Fx.lpR (Fx.blkR (sR (⟨.int .i64 ((k : Int)), rV Try.results99 (by exact rfl), ?_⟩)))))))))
    exact ⟨congrArg (fun q => Ending.returned (Value.int .i64 q)) (Eq.symm (firstI_hit hall (and_yes c28 c40) (by omega))), b1⟩
   refine Lv (.bool false) (x_eqlF rfl rfl rfl c40) (Lv (.bool false) (x_pickT rfl rfl rfl) (Ln (sN (Wc (b := false) rfl (fun h => nomatch h) (fun _ => Wk (Fx.blkN (sN (Wl (Lv (.int .i64 ((k : Int))) (x_move rfl h4) (Lv (.int .i64 ((k : Int) + 1)) (Fx.x_add rfl rfl rfl Fx.io) (Lv (.int .i64 ((k : Int) + 1)) (x_assign rfl rfl) (Ln (Fx.lpN ⟨k + 1, by omega, (none_step hall (and_noR c40)), h1, (h2.trans Fx.ic), (h3.trans Fx.ic), Fx.ic, m1, b1⟩ ?_)))))))))))))
   show (m.s.gn - (intOf ((.int .i64 ((k : Int) + 1)))).toNat) < _
   simp only [h4, intOf]; omega
  refine Lv (.bool false) (x_eqlF rfl rfl rfl c28) (Lv (.bool false) (x_move rfl rfl) (Lk (by rfl) rfl (Lk (by rfl) rfl (Lk (by rfl) rfl (Lk (by rfl) rfl (Lk (by rfl) rfl (Lk (by rfl) rfl (Lk (by rfl) rfl (Lk (by rfl) rfl (Lk (by rfl) rfl (Lk (by rfl) rfl (Lk (by rfl) rfl (Lv (.bool false) (x_pickF rfl rfl rfl) (Ln (sN (Wc (b := false) rfl (fun h => nomatch h) (fun _ => Wk (Fx.blkN (sN (Wl (Lv (.int .i64 ((k : Int))) (x_move rfl h4) (Lv (.int .i64 ((k : Int) + 1)) (Fx.x_add rfl rfl rfl Fx.io) (Lv (.int .i64 ((k : Int) + 1)) (x_assign rfl rfl) (Ln (Fx.lpN ⟨k + 1, by omega, (none_step hall (and_noL c28)), h1, (h2.trans Fx.ic), (h3.trans Fx.ic), Fx.ic, m1, b1⟩ ?_)))))))))))))))))))))))))
  show (m.s.gn - (intOf ((.int .i64 ((k : Int) + 1)))).toNat) < _
  simp only [h4, intOf]; omega
 refine Lv (.bool false) (Fx.x_lssF rfl rfl rfl c15) (Ln (sN (Wc (b := false) rfl (fun h => nomatch h) (fun _ => Fx.W.exit (Fx.seqX (Fx.lpX (Fx.blkX (sN (Ws (Wl (Lv (.int .i64 (-1)) (x_assign rfl rfl) (Ln (sN (Wr (⟨.int .i64 (-1), rV Try.results99 (by exact rfl), ?_⟩)))))))))))))))
 exact ⟨congrArg (fun q => Ending.returned (Value.int .i64 q)) (Eq.symm (firstI_none (fun i hi => hall i (by omega)))), b1⟩
theorem dec_of {n : Int} {k : Nat} (h : n = (k : Int)) : decide (0 ≤ n) = true := decide_eq_true (by omega)
theorem dec_no {n : Int} (h : n = -1) : decide (0 ≤ n) = false := decide_eq_false (by omega)
theorem l_asked (m : LdM) (p a : Nat) (r : Int) (w : World) (h : Ldg w p m) (ha : a < 6) :
    Calls Try.prog 96 #[(pt p), .int .i64 ((a : Int) + 1), .int .u64 (r)] w fun e w' => e = .returned (.bool (decide (0 ≤ m.askedN a r))) ∧ Below w.heap.size w w' := by
 have hc := h.c
 have lp : p < w.heap.size := hc.lt (by omega)
 have bn := h.bn
 have bg := h.bg
 have bt := h.bt
 have br := h.br a ha
 refine Fx.enter Try.func96 rfl (n := 32) rfl (by rfl) ?_
 refine Ws (Wl (Lv (.bool false) (x_assign rfl rfl) (Ln (sN (Ws (Ws (Wl (Lv (.int .i64 (0)) (x_assign rfl rfl) (Ln (sN (Fx.W.block (Fx.W.loop (fun f w_ => ∃ k : Nat, k ≤ m.rn a ∧ (∀ i, i < k → (fun i => decide (m.rq a i = r)) i = false) ∧ f 0 = (pt p) ∧ f 1 = .int .i64 ((a : Int) + 1) ∧ f 2 = .int .u64 (r) ∧ f 7 = .int .i64 ((k : Int)) ∧ Fx.Cel w_ p 0 27 (ldY m) ∧ Below w.heap.size w w_) (fun f _ => (m.rn a - (intOf (f 7)).toNat)) ⟨0, by omega, (fun i h => absurd h (by omega)), (by rfl), Fx.ic, Fx.ic, Fx.ic, hc, (Below.refl w.heap.size w)⟩ ?_))))))))))))
 rintro f1 w1 ⟨k, hk, hall, h1, h2, h3, h4, m1, b1⟩
 refine Ws (Ws (Wl (Lv (.int .i64 ((k : Int))) (x_move rfl h4) (Lv ((pt p)) (x_move rfl h1) (Lv (.int .i64 ((a : Int) + 1)) (x_move rfl h2) (Lv (.int .i64 ((a : Int))) (Fx.x_sub rfl rfl rfl Fx.io) (Lv ((pt p)) (x_nil rfl rfl) (Lv ((pf p 21)) (x_field rfl rfl Try.underlying70 rfl (s := 6) (by kernel_rfl) rfl (by show _ + 21 = _; omega)) (Lv ((pf p (a + 21))) (x_index rfl rfl rfl Try.underlying68 (s := 1) (by kernel_rfl) (by omega) (by omega) (by omega)) (Lv (.slice (m.ra a) ((m.rn a)) ((m.rc a))) (x_load1 (x := ldY m) rfl rfl (by kernel_rfl) m1 (i := a + 21) (by omega) (by omega) (ldY_req _ (by omega))) (Lv (.int .i64 ((((m.rn a) : Nat) : Int))) (x_len rfl rfl rfl (by kernel_rfl)) ?_)))))))))))
 by_cases c17 : (k : Int) < (((m.rn a) : Nat) : Int)
 ·refine Lv (.bool true) (Fx.x_lssT rfl rfl rfl c17) (Ln (sN (Wc (b := true) rfl (fun _ => Wk (sN (Ws (Fx.W.block (Ws ?_))))) (fun h => nomatch h))))
  obtain ⟨b, off, ea, hb⟩ := h.r a ha k (by omega)
  have lb : b < w.heap.size := hb.lt (by omega)
  have m2 := hb.below b1 lb
  refine Wl (Lv ((pt p)) (x_move rfl h1) (Lv (.int .i64 ((a : Int) + 1)) (x_move rfl h2) (Lv (.int .i64 ((a : Int))) (Fx.x_sub rfl rfl rfl Fx.io) (Lv ((pt p)) (x_nil rfl rfl) (Lv ((pf p 21)) (x_field rfl rfl Try.underlying70 rfl (s := 6) (by kernel_rfl) rfl (by show _ + 21 = _; omega)) (Lv ((pf p (a + 21))) (x_index rfl rfl rfl Try.underlying68 (s := 1) (by kernel_rfl) (by omega) (by omega) (by omega)) (Lv (.slice (m.ra a) ((m.rn a)) ((m.rc a))) (x_load1 (x := ldY m) rfl rfl (by kernel_rfl) m1 (i := a + 21) (by omega) (by omega) (ldY_req _ (by omega))) (Lv (.int .i64 ((k : Int))) (x_move rfl h4) (Lv ((pf b (k + off))) (x_indexS rfl (rfl.trans (congrArg (fun q => Value.slice q ((m.rn a)) ((m.rc a))) ea)) rfl Try.underlying67 (s := 1) (by kernel_rfl) (by omega) (by omega) (by omega)) (Lv (.int .u64 (m.rq a k)) (x_load1 (x := fun _ => .int .u64 (m.rq a k)) rfl rfl (by kernel_rfl) m2 (i := 0) (by omega) (by omega) rfl) (Lv (.int .u64 (r)) (x_move rfl h3) ?_)))))))))))
  by_cases c31 : (m.rq a k) = r
  ·refine Lv (.bool true) (x_eqlT rfl rfl rfl c31) (Ln (sN (Wc (b := true) rfl (fun _ => Ws (Wl (Lv (.bool true) (x_assign rfl rfl) ?_))) (fun h => nomatch h))))
   refine Ln (sN (Wr (Fx.blkR (sR (Fx.lpR (Fx.blkR (sR (⟨.bool true, rV Try.results96 (by exact rfl), ?_⟩))))))))
   exact ⟨congrArg (fun q => Ending.returned (Value.bool q)) (Eq.symm (dec_of (firstI_hit hall (decide_eq_true c31) (by omega)))), b1⟩
  refine Lv (.bool false) (x_eqlF rfl rfl rfl c31) (Ln (sN (Wc (b := false) rfl (fun h => nomatch h) (fun _ => Wk (Fx.blkN (sN (Wl (Lv (.int .i64 ((k : Int))) (x_move rfl h4) (Lv (.int .i64 ((k : Int) + 1)) (Fx.x_add rfl rfl rfl Fx.io) (Lv (.int .i64 ((k : Int) + 1)) (x_assign rfl rfl) (Ln (Fx.lpN ⟨k + 1, by omega, (none_step hall (decide_eq_false c31)), h1, (h2.trans Fx.ic), (h3.trans Fx.ic), Fx.ic, m1, b1⟩ ?_))))))))))))
  show (m.rn a - (intOf ((.int .i64 ((k : Int) + 1)))).toNat) < _
  simp only [h4, intOf]; omega
 refine Lv (.bool false) (Fx.x_lssF rfl rfl rfl c17) (Ln (sN (Wc (b := false) rfl (fun h => nomatch h) (fun _ => Fx.W.exit (Fx.seqX (Fx.lpX (Fx.blkX (sN (Ws (Wl (Lv (.bool false) (x_assign rfl rfl) (Ln (sN (Wr (⟨.bool false, rV Try.results96 (by exact rfl), ?_⟩)))))))))))))))
 exact ⟨congrArg (fun q => Ending.returned (Value.bool q)) (Eq.symm (dec_no (firstI_none (fun i hi => hall i (by omega))))), b1⟩
namespace Rt
theorem own_step1 {k : Nat} {X : Nat → Int} {z : Int} (hz : X k = z) : ∀ j, j < (k + 1) * 1 → Fx.appX (Fx.rv .u64 X) (k * 1) (Fx.ovr (fun j => Fx.rv .u64 (fun _ => 0) (j % 1)) (0 * 1) 1 (fun _ => .int .u64 z)) j = Fx.rv .u64 X j := by
  intro j hj
  unfold Fx.appX
  by_cases h : j < k * 1
  · rw [if_pos h]
  rw [if_neg h]
  have e : j = k := by omega
  subst e
  unfold Fx.ovr Fx.rv
  rw [if_pos (by omega), hz]
theorem path_lt {t : Nat → Nat → Int} {tn k D : Nat} {x : Int} (hk : k ≤ D) (hD : findT t tn (iterT t tn D x) < 0) (h : 0 ≤ findT t tn (iterT t tn k x)) : k + 1 ≤ D := Nat.lt_of_le_of_ne hk fun e => by subst e; omega
theorem all_step {t : Nat → Nat → Int} {tn k : Nat} {x : Int} (h : ∀ i, i < k → 0 ≤ findT t tn (iterT t tn i x)) (hk : 0 ≤ findT t tn (iterT t tn k x)) : ∀ i, i < k + 1 → 0 ≤ findT t tn (iterT t tn i x) := fun i hi => by
  by_cases e : i = k
  · subst e; exact hk
  · exact h i (by omega)
theorem find_nat {t : Nat → Nat → Int} {tn : Nat} {x : Int} (h : 0 ≤ findT t tn x) : ∃ j : Nat, j < tn ∧ findT t tn x = (j : Int) ∧ t j 0 = x := by
  rcases firstI_spec (fun i => decide (t i 0 = x)) tn with ⟨k, hk, e, hp⟩ | ⟨e, _⟩
  · exact ⟨k, hk, e, of_decide_eq_true hp⟩
  unfold findT at h; rw [e] at h; omega
theorem iter_next {t : Nat → Nat → Int} {tn k j : Nat} {x : Int} (h : findT t tn (iterT t tn k x) = (j : Int)) : t j 1 = iterT t tn (k + 1) x := by
  show _ = t (findT t tn (iterT t tn k x)).toNat 1
  rw [h]; rfl
end Rt
theorem l_has (tb : Nat) (ta : Option Addr) (tn tc : Nat) (t : Nat → Nat → Int) (x : Int) (w : World) (h : TreeR w tb ta tn tc t) :
    Calls Try.prog 109 #[(pt tb), .int .u64 (x)] w fun e w' => e = .returned (.bool (decide (0 ≤ findT t tn x))) ∧ Below w.heap.size w w' := by
 have hc := h.tc
 have lp : tb < w.heap.size := hc.lt (by omega)
 have bt := h.bt
 refine Fx.enter Try.func109 rfl (n := 9) rfl (by rfl) ?_
 refine Ws (Wl (Lv (.bool false) (x_assign rfl rfl) (Ln (sN (Ws (Wl (Lv ((pt tb)) (x_move rfl rfl) (Lv (.int .u64 (x)) (x_move rfl rfl) (Fx.L.call (by rfl) (rC (args := [(pt tb), .int .u64 (x)]) rfl rfl Try.func110 rfl rfl) rfl ((l_find tb ta tn tc t x _ (h.below (Below.refl w.heap.size w))).mono ?_))))))))))
 rintro e w1 ⟨he, hb1⟩
 refine ⟨.int .i64 (findT t tn x), by rw [he], ?_⟩
 clear he
 have s1 := Sb hb1
 have b1 := s1.below (Below.refl w.heap.size w) (Below.refl w.heap.size w).size (Below.refl w.heap.size w).size
 by_cases c8 : 0 ≤ (findT t tn x)
 ·refine Lv (.bool true) (Fx.x_geqT rfl rfl rfl c8) (Lv (.bool true) (x_assign rfl rfl) (Ln (sN (Wr (⟨.bool true, rV Try.results109 (by exact rfl), ?_⟩)))))
  exact ⟨congrArg (fun q => Ending.returned (Value.bool q)) (Eq.symm (decide_eq_true c8)), b1⟩
 refine Lv (.bool false) (Fx.x_geqF rfl rfl rfl c8) (Lv (.bool false) (x_assign rfl rfl) (Ln (sN (Wr (⟨.bool false, rV Try.results109 (by exact rfl), ?_⟩)))))
 exact ⟨congrArg (fun q => Ending.returned (Value.bool q)) (Eq.symm (decide_eq_false c8)), b1⟩
theorem l_path (tb : Nat) (ta : Option Addr) (tn tc : Nat) (t : Nat → Nat → Int) (x : Int) (D : Nat) (w : World) (h : TreeR w tb ta tn tc t) (hD : findT t tn (iterT t tn D x) < 0) (hD2 : D ≤ 1000) :
    Calls Try.prog 97 #[(pt tb), .int .u64 (x)] w fun e w' => ∃ K v, e = .returned v ∧ Fx.Own w' w.heap.size 30 1 v K (Fx.rv .u64 (fun i => iterT t tn i x)) ∧ (∀ i, i < K → 0 ≤ findT t tn (iterT t tn i x)) ∧ findT t tn (iterT t tn K x) < 0 ∧ Below w.heap.size w w' := by
 have hc := h.tc
 have lp : tb < w.heap.size := hc.lt (by omega)
 have bt := h.bt
 refine Fx.enter Try.func97 rfl (n := 25) rfl (by rfl) ?_
 refine Ws (Wl (Lv (.slice none 0 0) (x_assign rfl rfl) (Ln (sN (Ws (Wl (Lv (.slice none 0 0) (x_assign rfl rfl) (Ln (sN (Ws (Fx.W.block ?_)))))))))))
 have m1 : Fx.Own w w.heap.size 30 1 (.slice none 0 0) 0 (Fx.rv .u64 (fun i => iterT t tn i x)) := Fx.Own.nil _ _ _ _ _
 refine Fx.W.loop (fun f w_ => ∃ k : Nat, ∃ a : Option Addr, ∃ cap : Nat, k ≤ D ∧ (∀ i, i < k → 0 ≤ findT t tn (iterT t tn i x)) ∧ f 0 = (pt tb) ∧ f 1 = .int .u64 (iterT t tn k x) ∧ f 5 = .slice a (k) (cap) ∧ Fx.Cel w_ tb 0 1 (fun _ => .slice ta tn tc) ∧ Fx.Own w_ w.heap.size 30 1 (.slice a k cap) k (Fx.rv .u64 (fun i => iterT t tn i x)) ∧ Below w.heap.size w w_) (fun f _ => (D - lenV (f 5))) ⟨0, none, 0, by omega, (fun i h => absurd h (by omega)), (by rfl), (by rfl), (by rfl), hc, m1, (Below.refl w.heap.size w)⟩ ?_
 rintro f1 w1 ⟨k, a, cap, hk, hall, h1, h2, h3, m2, m3, b1⟩
 refine Ws (Ws (Wl (Lv ((pt tb)) (x_move rfl h1) (Lv (.int .u64 (iterT t tn k x)) (x_move rfl h2) (Fx.L.call (by rfl) (rC (args := [(pt tb), .int .u64 (iterT t tn k x)]) rfl rfl Try.func110 rfl rfl) rfl ((l_find tb ta tn tc t (iterT t tn k x) _ (h.below b1)).mono ?_))))))
 rintro e w2 ⟨he, hb1⟩
 refine ⟨.int .i64 (findT t tn (iterT t tn k x)), by rw [he], ?_⟩
 clear he
 have s1 := Sb hb1
 have m4 := m2.stp s1 (Nat.ne_of_lt (m2.lt (by omega)))
 have m5 := m3.stp s1 (m3.notNew (Nat.le_refl _))
 have b2 := s1.below b1 b1.size b1.size
 by_cases c9 : 0 ≤ (findT t tn (iterT t tn k x))
 ·refine Lv (.bool true) (Fx.x_geqT rfl rfl rfl c9) (Ln (sN (Wc (b := true) rfl (fun _ => Wk (sN (Fx.W.block (Ws ?_)))) (fun h => nomatch h))))
  obtain ⟨j, hj, ej, _⟩ := find_nat c9
  refine Wl (Lv (.slice a (k) (cap)) (x_move rfl h3) (Lv (.int .u64 (iterT t tn k x)) (x_move rfl h2) (Fx.L.bslice (vs := [(0, .int .u64 (iterT t tn k x))]) (s := 1) (zc := Fx.rv .u64 (fun _ => 0)) (y := Fx.ovr (fun j => (Fx.rv .u64 (fun _ => 0)) (j % 1)) (0 * 1) 1 (fun _ => .int .u64 (iterT t tn k x))) (by rfl) rfl rfl Try.underlying67 (by kernel_rfl) (by rfl) (by rfl) (by kernel_rfl) (by rw [Fx.fill_step (off := 0 * 1) (s := 1) (y := fun _ => .int .u64 (iterT t tn k x)) rfl (Fx.cells_one (by rfl)) (by rfl)]; rfl) rfl fun g1 w3 eg1 m6 s2 z1 => ?_)))
  have m7 := m4.stp s2 (Nat.ne_of_lt (m4.lt (by omega)))
  have m8 := m5.stp s2 (m5.notNew (Nat.le_refl _))
  have b3 := s2.below b2 b2.size b2.size
  have lg1 : w.heap.size ≤ g1 := by rw [eg1]; exact b2.size
  have ng1m7 : tb ≠ g1 := by rw [eg1]; exact Nat.ne_of_lt (m4.lt (by omega))
  have ng1m8 : (.slice a k cap : Value).ownBlock ≠ some g1 := by rw [eg1]; exact m5.notNew (Nat.le_refl _)
  have tg1 : g1 < w3.heap.size := m6.lt
  clear eg1
  refine Fx.L.app (B := w.heap.size) (s := 1) (bytes := 8) (k := k) (m := 1) (by rfl) rfl rfl rfl Try.underlying67 (by kernel_rfl) (by kernel_rfl) rfl rfl m8 m6.cel (fun j hj => by rcases j with _|j <;> first | rfl | omega) (by omega) (by omega) (by omega) b3.size fun g2 cap1 w4 ho1 hg1 hgv1 hlt1 => ?_
  have m10 : Fx.Cel w4 tb 0 1 (fun _ => .slice ta tn tc) := m7.grown hg1 (m8.not (by omega))
  have m9 : Fx.Own w4 w.heap.size 30 1 (.slice (some ⟨g2, 0, none⟩) (k + 1) cap1) (k + 1) (Fx.rv .u64 (fun i => iterT t tn i x)) := ho1.congr (own_step1 rfl)
  have b4 : Below w.heap.size w w4 := Fx.Below.grow b3 hg1 b3.size (fun q hq => (m8.ge hq).1)
  refine Lv (.slice (some ⟨g2, 0, none⟩) (k + 1) (cap1)) (x_assign rfl rfl) (Ln (sN ?_))
  obtain ⟨b, off, ea, hb⟩ := h.t j hj
  have lb : b < w.heap.size := hb.lt (by omega)
  have m11 := hb.below b4 lb
  -- region 4 draws
  refine Fx.W.quiet (fun v1 => Below w4.heap.size w4 v1) (by kernel_rfl) (by kernel_rfl) (Below.refl _ _).drew ?_
  refine Qv ((pt tb)) (fun v1 hv1 => x_move rfl h1) (Qv ((pt tb)) (fun v1 hv1 => x_nil rfl rfl) (Qv ((pt tb)) (fun v1 hv1 => x_field rfl rfl Try.underlying117 rfl (s := 1) (by kernel_rfl) rfl rfl) (Qv (.slice ta (tn) (tc)) (fun v1 hv1 => x_load1 (x := fun _ => .slice ta tn tc) rfl rfl (by kernel_rfl) (m10.below hv1 (m10.lt (by omega))) (i := 0) (by omega) (by omega) rfl) (Qv ((pt tb)) (fun v1 hv1 => x_move rfl h1) (Qv (.int .u64 (iterT t tn k x)) (fun v1 hv1 => x_move rfl h2) (Fx.Qt.call (v := .int .i64 ((j : Int))) (by rfl) (fun v1 hv1 => rC (args := [(pt tb), .int .u64 (iterT t tn k x)]) rfl rfl Try.func110 rfl rfl) rfl (fun v1 hv1 => (((l_find tb ta tn tc t (iterT t tn k x) _ (h.below (bch b4 hv1))).mono fun e w2 h2 => (⟨h2.1.trans (by rw [ej]), h2.2⟩ : e = .returned (.int .i64 (j : Int)) ∧ _))).mono fun e v2 h => ⟨h.1, bch hv1 h.2⟩) ?_))))))
  refine Qv ((pf b (2 * j + off))) (fun v1 hv1 => x_indexS rfl (rfl.trans (congrArg (fun q => Value.slice q (tn) (tc)) ea)) rfl Try.underlying115 (s := 2) (by kernel_rfl) (by omega) (by omega) (by omega)) (Qv ((pf b (2 * j + off + 1))) (fun v1 hv1 => x_field rfl rfl Try.underlying170 rfl (s := 1) (by kernel_rfl) rfl (by show _ + 1 = _; omega)) (Qv (.int .u64 ((t j) 1)) (fun v1 hv1 => x_load1 (x := Fx.rv .u64 (t j)) rfl rfl (by kernel_rfl) (m11.below hv1 (m11.lt (by omega))) (i := 1) (by omega) (by omega) rfl) (Qv (.int .u64 ((t j) 1)) (fun v1 hv1 => x_assign rfl rfl) (Fx.Qt.nil ?_))))
  intro wb1 hbwb1
  have s3 : Fx.Stp w4.heap.size w4 wb1 := Sb hbwb1
  have m12 := m10.stp s3 (Nat.ne_of_lt (m10.lt (by omega)))
  have m13 := m9.stp s3 (m9.notNew (Nat.le_refl _))
  have b5 := s3.below b4 b4.size b4.size
  refine Fx.blkN ?_
  have kD := path_lt hk hD c9
  refine Fx.lpN ⟨k + 1, (some ⟨g2, 0, none⟩), cap1, (path_lt hk hD c9), (all_step hall c9), h1, (congrArg (Value.int .u64) (iter_next ej)), (by rfl), m12, m13, b5⟩ ?_
  show (D - lenV ((.slice (some ⟨g2, 0, none⟩) (k + 1) (cap1)))) < _
  simp only [h3, intOf, lenV]; omega
 refine Lv (.bool false) (Fx.x_geqF rfl rfl rfl c9) (Ln (sN (Wc (b := false) rfl (fun h => nomatch h) (fun _ => Fx.W.exit (Fx.seqX (Fx.lpX (Fx.blkX (sN (Ws (Wl (Lv (.slice a (k) (cap)) (x_move rfl h3) (Lv (.slice a (k) (cap)) (x_assign rfl rfl) (Ln (sN (Wr (⟨.slice a (k) (cap), rV Try.results97 (by exact rfl), ?_⟩))))))))))))))))
 exact ⟨k, _, rfl, m5, hall, by omega, b2⟩
namespace Rt
def newM (k tb : Nat) : LdM := { s := ⟨fun i => decide (i < k), fun _ => false, fun _ => 0, none, 0, 0, none, 0, 0⟩, id := fun _ => 0, par := fun _ => 0, R := fun _ _ => 0, g := fun _ _ => 0, tb := tb, ta := none, tn := 0, tc := 0, t := fun _ _ => 0, ra := fun _ => none, rn := fun _ => 0, rc := fun _ => 0, rq := fun _ _ => 0 }
theorem newM_step (k tb : Nat) (hk : k < 6) : Fx.updV (ldY (newM k tb)) k (.bool true) = ldY (newM (k + 1) tb) := by
  funext p
  unfold Fx.updV
  by_cases e : p = k
  · subst e; rw [if_pos rfl]
    exact (ldY_st _ (by omega) ((stY_in _ hk).trans (congrArg Value.bool (decide_eq_true (show p < p + 1 by omega))))).symm
  rw [if_neg e]
  unfold ldY
  by_cases h : p < 20
  · rw [if_pos h, if_pos h]
    unfold stY
    by_cases h6 : p < 6
    · rw [if_pos h6, if_pos h6]
      show Value.bool (decide (p < k)) = Value.bool (decide (p < k + 1))
      by_cases h7 : p < k
      · rw [decide_eq_true h7, decide_eq_true (show p < k + 1 by omega)]
      rw [decide_eq_false h7, decide_eq_false (show ¬ p < k + 1 by omega)]
    rw [if_neg h6, if_neg h6]; rfl
  rw [if_neg h, if_neg h]; rfl
end Rt
-- (*leatref11.Ledger).Node is not in this seat
set_option maxRecDepth 10000 in
theorem l_new (n : Nat) (w : World) (h1 : 1 ≤ n) (h6 : n ≤ 6) :
    Calls Try.prog 38 #[.int .i64 ((n : Int))] w fun e w' => ∃ p tb, e = .returned (.tuple #[(pt p), .int .i64 (0)]) ∧ w.heap.size ≤ p ∧ Ldg w' p (newM n tb) ∧ Below w.heap.size w w' ∧ Fx.Blk w' p 27 (ldY (newM n tb)) 70 ∧ Fx.Blk w' tb 1 (fun _ => .slice none 0 0) 117 ∧ w.heap.size ≤ tb := by
 refine Fx.enter Try.func38 rfl (n := 28) rfl (by rfl) ?_
 refine Ws (Wl (Lv (.pointer none) (x_assign rfl rfl) (Lv (.int .i64 (0)) (x_assign rfl rfl) (Ln (sN (Ws (Ws (Wl (Lv (.int .i64 ((n : Int))) (x_move rfl rfl) (Lv (.bool false) (Fx.x_lssF rfl rfl rfl (by omega)) (Lv (.bool false) (x_move rfl rfl) (Lv (.int .i64 ((n : Int))) (x_move rfl rfl) (Lv (.bool false) (x_gtrF rfl rfl rfl (by omega)) (Lv (.bool false) (x_pickF rfl rfl rfl) (Ln (sN (Wc (b := false) rfl (fun h => nomatch h) (fun _ => Wk (sN (Ws (Wl (Lv (.agg (Fx.varr 1 (fun _ => .slice none 0 0))) (x_build (vs := []) (places := #[(0, 1)]) (m := 1) (x := fun _ => .slice none 0 0) rfl rfl Try.underlying117 (by kernel_rfl) (by kernel_rfl) (by rfl)) (Fx.L.box (m := 1) (y := fun _ => .slice none 0 0) (by rfl) rfl rfl (Fx.cells_agg _ _) rfl fun g1 w1 eg1 m1 s1 z1 => ?_)))))))))))))))))))))))
 have b1 := s1.below (Below.refl w.heap.size w) (Below.refl w.heap.size w).size (Below.refl w.heap.size w).size
 have lg1 : w.heap.size ≤ g1 := by rw [eg1]; exact (Below.refl w.heap.size w).size
 have tg1 : g1 < w1.heap.size := m1.lt
 clear eg1
 refine Lv (.agg (Fx.varr 27 (Fx.ovr (fun i => (#[.bool false, .bool false, .bool false, .bool false, .bool false, .bool false, .bool false, .bool false, .bool false, .bool false, .bool false, .bool false, .int .u64 (0), .int .u64 (0), .int .u64 (0), .int .u64 (0), .int .u64 (0), .int .u64 (0), .slice none 0 0, .slice none 0 0, .pointer none, .slice none 0 0, .slice none 0 0, .slice none 0 0, .slice none 0 0, .slice none 0 0, .slice none 0 0] : Array Value).getD i undef) 20 1 (fun _ => (pt g1))))) (x_build (vs := [(1, (pt g1))]) (places := #[(0, 20), (20, 1), (21, 6)]) (m := 27) (x := fun i => (#[.bool false, .bool false, .bool false, .bool false, .bool false, .bool false, .bool false, .bool false, .bool false, .bool false, .bool false, .bool false, .int .u64 (0), .int .u64 (0), .int .u64 (0), .int .u64 (0), .int .u64 (0), .int .u64 (0), .slice none 0 0, .slice none 0 0, .pointer none, .slice none 0 0, .slice none 0 0, .slice none 0 0, .slice none 0 0, .slice none 0 0, .slice none 0 0] : Array Value).getD i undef) rfl rfl Try.underlying70 (by kernel_rfl) (by kernel_rfl) (by rw [Fx.fill_step (off := 20) (s := 1) (y := fun _ => (pt g1)) (by kernel_rfl) (Fx.cells_one (by rfl)) (by rfl)]; rfl)) (Fx.L.box (m := 27) (y := Fx.ovr (fun i => (#[.bool false, .bool false, .bool false, .bool false, .bool false, .bool false, .bool false, .bool false, .bool false, .bool false, .bool false, .bool false, .int .u64 (0), .int .u64 (0), .int .u64 (0), .int .u64 (0), .int .u64 (0), .int .u64 (0), .slice none 0 0, .slice none 0 0, .pointer none, .slice none 0 0, .slice none 0 0, .slice none 0 0, .slice none 0 0, .slice none 0 0, .slice none 0 0] : Array Value).getD i undef) 20 1 (fun _ => (pt g1))) (by rfl) rfl rfl (Fx.cells_agg _ _) rfl fun g2 w2 eg2 m2 s2 z2 => ?_)
 have m3 := m1.stp s2 m1.ne
 have b2 := s2.below b1 b1.size b1.size
 have lg2 : w.heap.size ≤ g2 := by rw [eg2]; exact b1.size
 have ng2m3 : g1 ≠ g2 := by rw [eg2]; exact Nat.ne_of_lt (m1.lt)
 have tg2 : g2 < w2.heap.size := m2.lt
 clear eg2
 refine Lv ((pt g2)) (x_assign rfl rfl) (Ln (sN (Ws (Ws (Wl (Lv (.int .i64 (0)) (x_assign rfl rfl) (Ln (sN (Fx.W.block ?_)))))))))
 have m4 : Fx.Blk w2 g2 27 (ldY (newM 0 g1)) 70 := m2.congr (fun j hj => by rcases j with _|_|_|_|_|_|_|_|_|_|_|_|_|_|_|_|_|_|_|_|_|_|_|_|_|_|_|j <;> first | rfl | omega)
 refine Fx.W.loop (fun f w_ => ∃ k : Nat, k ≤ n ∧ f 0 = .int .i64 ((n : Int)) ∧ f 4 = (pt g2) ∧ f 5 = .int .i64 ((k : Int)) ∧ Fx.Blk w_ g1 1 (fun _ => .slice none 0 0) 117 ∧ Fx.Blk w_ g2 27 (ldY (newM k g1)) 70 ∧ Below w.heap.size w w_) (fun f _ => (n - (intOf (f 5)).toNat)) ⟨0, by omega, Fx.ic, (by rfl), Fx.ic, m3, m4, b2⟩ ?_
 rintro f1 w3 ⟨k, hk, h1, h2, h3, m5, m6, b3⟩
 refine Ws (Ws (Wl (Lv (.int .i64 ((k : Int))) (x_move rfl h3) (Lv (.int .i64 ((n : Int))) (x_move rfl h1) ?_))))
 by_cases c18 : (k : Int) < (n : Int)
 ·refine Lv (.bool true) (Fx.x_lssT rfl rfl rfl c18) (Ln (sN (Wc (b := true) rfl (fun _ => Wk (sN (Ws (Fx.W.block (Wl (Lv ((pt g2)) (x_move rfl h2) ?_)))))) (fun h => nomatch h))))
  refine Lv (.int .i64 ((k : Int))) (x_move rfl h3) (Lv ((pt g2)) (x_nil rfl rfl) (Lv ((pt g2)) (x_field rfl rfl Try.underlying70 rfl (s := 20) (by kernel_rfl) rfl rfl) (Lv ((pt g2)) (x_field rfl rfl Try.underlying65 rfl (s := 6) (by kernel_rfl) rfl rfl) (Lv ((pf g2 k)) (x_index rfl rfl rfl Try.underlying61 (s := 1) (by kernel_rfl) (by omega) (by omega) (by omega)) (Fx.L.store1 (x := ldY (newM k g1)) (u := .bool true) (by rfl) rfl rfl rfl rfl (by rfl) (by kernel_rfl) m6 (i := k) (by omega) fun w4 m7 s3 z3 => ?_)))))
  have m8 := m5.stp s3 (by omega)
  have b4 := s3.below b3 b3.size (by omega)
  refine Ln (Fx.blkN (sN (Wl (Lv (.int .i64 ((k : Int))) (x_move rfl h3) (Lv (.int .i64 ((k : Int) + 1)) (Fx.x_add rfl rfl rfl Fx.io) (Lv (.int .i64 ((k : Int) + 1)) (x_assign rfl rfl) (Ln ?_)))))))
  have m9 : Fx.Blk w4 g2 27 (ldY (newM (k + 1) g1)) 70 := m7.to (newM_step k g1 (by omega))
  skip
  refine Fx.lpN ⟨k + 1, by omega, (h1.trans Fx.ic), h2, Fx.ic, m8, m9, b4⟩ ?_
  show (n - (intOf ((.int .i64 ((k : Int) + 1)))).toNat) < _
  simp only [h3, intOf]; omega
 refine Lv (.bool false) (Fx.x_lssF rfl rfl rfl c18) (Ln (sN (Wc (b := false) rfl (fun h => nomatch h) (fun _ => Fx.W.exit (Fx.seqX (Fx.lpX (Fx.blkX (sN (Ws (Wl (Lv ((pt g2)) (x_move rfl h2) (Lv ((pt g2)) (x_assign rfl rfl) (Lv (.int .i64 (0)) (x_assign rfl rfl) (Ln (sN (Wr (⟨.tuple #[(pt g2), .int .i64 (0)], Fx.retV2 Try.results38 (by exact rfl) (by exact rfl), ?_⟩)))))))))))))))))
 have ek : k = n := by omega
 subst ek
 exact ⟨_, _, rfl, lg2, { c := m6.cel, an := fun h0 => absurd h0 (Nat.lt_irrefl 0), ag := fun h0 => absurd h0 (Nat.lt_irrefl 0), tc := m5.cel, at2 := fun h0 => absurd h0 (Nat.lt_irrefl 0), ar := fun i hi h0 => absurd h0 (Nat.lt_irrefl 0), bn := Nat.zero_le _, bg := Nat.zero_le _, bt := Nat.zero_le _, br := fun i hi => Nat.zero_le _ }, b3, m6, m5, lg1⟩
namespace Rt
def shT (t : Nat → Nat → Int) (n k : Nat) : Nat → Nat → Int := fun i => if i ≤ k then (if i < n then t i else fun _ => 0) else t (i - 1)
def insT (t : Nat → Nat → Int) (k : Nat) (id par : Int) : Nat → Nat → Int := fun i => if i < k then t i else if i = k then (fun j => if j = 0 then id else par) else t (i - 1)
theorem ownTree {w : World} {B tb tn tc : Nat} {ta : Option Addr} {t : Nat → Nat → Int} (hT : Fx.Blk w tb 1 (fun _ => .slice ta tn tc) 117) (hO : Fx.Own w B 170 2 (.slice ta tn tc) tn (Fx.rv .u64 (flatT t))) (hn : tn ≤ 1000) : TreeR w tb ta tn tc t where
  tc := hT.cel
  t := fun k hk => by
    obtain ⟨g, cap, e, _, _, _, hc⟩ := hO.form (by omega)
    simp only [Value.slice.injEq, true_and] at e
    refine ⟨g, 0, e.1, fun i hi => ?_⟩
    have := hc (2 * k + i) (by omega)
    rw [Nat.zero_add] at this
    rw [Nat.zero_add, this]
    show some (Value.int .u64 (t ((2 * k + i) / 2) ((2 * k + i) % 2))) = some (Value.int .u64 (t k i))
    rw [show (2 * k + i) / 2 = k by omega, show (2 * k + i) % 2 = i by omega]
  bt := by omega
theorem sh_start (t : Nat → Nat → Int) (n : Nat) : ∀ j, j < (n + 1) * 2 → Fx.appX (Fx.rv .u64 (flatT t)) (n * 2) (Fx.ovr (fun j => Fx.rv .u64 (fun _ => 0) (j % 2)) (0 * 2) 2 (Fx.rv .u64 (fun _ => 0))) j = Fx.rv .u64 (flatT (shT t n n)) j := fun j hj => by
  unfold Fx.appX
  by_cases h : j < n * 2
  · rw [if_pos h]
    show Value.int .u64 (t (j / 2) (j % 2)) = Value.int .u64 (shT t n n (j / 2) (j % 2))
    unfold shT; rw [if_pos (by omega), if_pos (by omega)]
  · rw [if_neg h]
    unfold Fx.ovr; rw [if_pos (by omega)]
    show Value.int .u64 0 = Value.int .u64 (shT t n n (j / 2) (j % 2))
    unfold shT; rw [if_pos (by omega), if_neg (by omega)]
theorem sh_at {t : Nat → Nat → Int} {n k j p : Nat} (hp : p = 2 * j) (h : j < k) (hk : k ≤ n) : Fx.rv .u64 (flatT (shT t n k)) p = .int .u64 (t j 0) := by
  subst hp
  show Value.int .u64 (shT t n k (2 * j / 2) (2 * j % 2)) = _
  unfold shT; rw [if_pos (by omega), if_pos (by omega), show 2 * j / 2 = j by omega, show 2 * j % 2 = 0 by omega]
theorem sh_row {t : Nat → Nat → Int} {n k j i : Nat} (h : j < k) (hk : k ≤ n) (hi : i < 2) : Fx.rv .u64 (flatT (shT t n k)) (2 * j + i) = Fx.rv .u64 (t j) i := by
  show Value.int .u64 (shT t n k ((2 * j + i) / 2) ((2 * j + i) % 2)) = Value.int .u64 (t j i)
  unfold shT; rw [if_pos (by omega), if_pos (by omega), show (2 * j + i) / 2 = j by omega, show (2 * j + i) % 2 = i by omega]
theorem sh_step {t : Nat → Nat → Int} {n k j : Nat} (e : k = j + 1) (_hk : k ≤ n) : ∀ p, p < (n + 1) * 2 → Fx.ovr (Fx.rv .u64 (flatT (shT t n k))) (2 * k) 2 (Fx.rv .u64 (t j)) p = Fx.rv .u64 (flatT (shT t n j)) p := fun p hp => by
  unfold Fx.ovr
  by_cases h : 2 * k ≤ p ∧ p < 2 * k + 2
  · rw [if_pos h]
    show Value.int .u64 (t j (p - 2 * k)) = Value.int .u64 (shT t n j (p / 2) (p % 2))
    unfold shT; rw [if_neg (by omega), show p / 2 - 1 = j by omega, show p - 2 * k = p % 2 by omega]
  · rw [if_neg h]
    show Value.int .u64 (shT t n k (p / 2) (p % 2)) = Value.int .u64 (shT t n j (p / 2) (p % 2))
    unfold shT
    by_cases h1 : p / 2 ≤ j
    · rw [if_pos (by omega), if_pos h1]
    · rw [if_neg (by omega), if_neg h1]
theorem ins_end {t : Nat → Nat → Int} {n k : Nat} {id par : Int} (_hk : k ≤ n) : ∀ p, p < (n + 1) * 2 → Fx.ovr (Fx.rv .u64 (flatT (shT t n k))) (2 * k) 2 (Fx.ovr (Fx.ovr (Fx.rv .u64 (fun _ => 0)) 0 1 (fun _ => .int .u64 id)) 1 1 (fun _ => .int .u64 par)) p = Fx.rv .u64 (flatT (insT t k id par)) p := fun p hp => by
  by_cases h : 2 * k ≤ p ∧ p < 2 * k + 2
  · rw [Fx.ovr, if_pos h]
    show _ = Value.int .u64 (insT t k id par (p / 2) (p % 2))
    unfold insT; rw [if_neg (by omega), if_pos (by omega)]
    by_cases h0 : p = 2 * k
    · subst h0; rw [show 2 * k - 2 * k = 0 by omega, if_pos (by omega)]; rfl
    · rw [show p - 2 * k = 1 by omega, if_neg (by omega)]; rfl
  · rw [Fx.ovr, if_neg h]
    show Value.int .u64 (shT t n k (p / 2) (p % 2)) = Value.int .u64 (insT t k id par (p / 2) (p % 2))
    unfold shT insT
    by_cases h1 : p / 2 < k
    · rw [if_pos (by omega), if_pos (by omega), if_pos h1]
    · rw [if_neg (by omega), if_neg h1, if_neg (by omega)]
def deepT (t : Nat → Nat → Int) (tn : Nat) (x : Int) : Prop := ∀ i, i < 4 → 0 ≤ findT t tn (iterT t tn i x)
theorem deep_yes {t : Nat → Nat → Int} {tn K : Nat} {x : Int} (h : ∀ i, i < K → 0 ≤ findT t tn (iterT t tn i x)) (hK : 4 ≤ K) : deepT t tn x := fun i hi => h i (by omega)
theorem deep_no {t : Nat → Nat → Int} {tn K : Nat} {x : Int} (h : findT t tn (iterT t tn K x) < 0) (hK : K < 4) : ¬ deepT t tn x := fun hd => by have := hd K hK; omega
open Classical in
noncomputable def addE (t : Nat → Nat → Int) (tn : Nat) (id par : Int) : Int := if id = 0 then 1 else if 0 ≤ findT t tn id then 14 else if par ≠ 0 ∧ findT t tn par < 0 then 9 else if 32 ≤ tn ∨ deepT t tn par then 6 else 0
theorem gt_step {t : Nat → Nat → Int} {n k j : Nat} {id : Int} (e : k = j + 1) (h : ∀ i, k ≤ i → i < n → id < t i 0) (hj : id < t j 0) : ∀ i, j ≤ i → i < n → id < t i 0 := fun i h1 h2 => by
  by_cases e2 : i = j
  · subst e2; exact hj
  · exact h i (by omega) h2
end Rt
set_option maxRecDepth 10000 in
theorem l_add (B : Nat) (tb : Nat) (ta : Option Addr) (tn tc : Nat) (t : Nat → Nat → Int) (id par : Int) (D : Nat) (w : World) (hT : Fx.Blk w tb 1 (fun _ => .slice ta tn tc) 117) (hO : Fx.Own w B 170 2 (.slice ta tn tc) tn (Fx.rv .u64 (flatT t))) (hne : (Value.slice ta tn tc).ownBlock ≠ some tb) (hB : B ≤ w.heap.size) (hn : tn ≤ 1000) (hD : findT t tn (iterT t tn D par) < 0) (hD2 : D ≤ 1000) :
    Calls Try.prog 95 #[(pt tb), .int .u64 (id), .int .u64 (par)] w fun e w' => e = .returned (.int .i64 (addE t tn id par)) ∧ Fx.Chg (fun k => k = tb ∨ (Value.slice ta tn tc).ownBlock = some k) w w' ∧ ((addE t tn id par ≠ 0 ∧ Fx.Blk w' tb 1 (fun _ => .slice ta tn tc) 117 ∧ Fx.Own w' B 170 2 (.slice ta tn tc) tn (Fx.rv .u64 (flatT t))) ∨ (addE t tn id par = 0 ∧ ∃ g cap, Fx.Blk w' tb 1 (fun _ => .slice (some ⟨g, 0, none⟩) (tn + 1) cap) 117 ∧ Fx.Own w' B 170 2 (.slice (some ⟨g, 0, none⟩) (tn + 1) cap) (tn + 1) (Fx.rv .u64 (flatT (insT t (Fx.down (fun i => decide (id < t i 0)) tn) id par))) ∧ (Value.slice (some ⟨g, 0, none⟩) (tn + 1) cap).ownBlock ≠ some tb)) := by
 have lp : tb < w.heap.size := hT.lt
 refine Fx.enter Try.func95 rfl (n := 89) rfl (by rfl) ?_
 refine Ws (Wl (Lv (.int .i64 (0)) (x_assign rfl rfl) (Ln (sN (Ws (Ws (Wl (Lv (.int .u64 (id)) (x_move rfl rfl) ?_))))))))
 by_cases c9 : id = 0
 ·refine Lv (.bool true) (x_eqlT rfl rfl rfl c9) (Ln (sN (Wc (b := true) rfl (fun _ => Ws (Wl (Lv (.int .i64 (1)) (x_assign rfl rfl) ?_))) (fun h => nomatch h))))
  refine Ln (sN (Wr (sR (⟨.int .i64 (1), rV Try.results95 (by exact rfl), ?_⟩))))
  have ea : addE t tn id par = 1 := by unfold addE; rw [if_pos c9]
  exact ⟨congrArg (fun q => Ending.returned (Value.int .i64 q)) ea.symm, (Fx.Chg.refl (fun k => k = tb ∨ (Value.slice ta tn tc).ownBlock = some k) w), .inl ⟨by rw [ea]; decide, hT, hO⟩⟩
 refine Lv (.bool false) (x_eqlF rfl rfl rfl c9) (Ln (sN (Wc (b := false) rfl (fun h => nomatch h) (fun _ => Wk (sN (Ws (Ws (Wl (Lv ((pt tb)) (x_move rfl rfl) (Lv (.int .u64 (id)) (x_move rfl rfl) ?_))))))))))
 by_cases c12 : (decide (0 ≤ findT t tn id)) = true
 ·refine Fx.L.call (by rfl) (rC (args := [(pt tb), .int .u64 (id)]) rfl rfl Try.func109 rfl rfl) rfl ((l_has tb ta tn tc t id _ (ownTree hT hO hn)).mono ?_)
  rintro e w1 ⟨he, hb1⟩
  refine ⟨.bool true, by rw [he, c12], ?_⟩
  clear he
  have s1 := Sb hb1
  have m1 := hT.stp s1 hT.ne
  have m2 := hO.stp s1 (hO.notNew (Nat.le_refl _))
  have b1 := (Fx.Chg.refl (fun k => k = tb ∨ (Value.slice ta tn tc).ownBlock = some k) w).then s1 (.inr (Fx.Chg.refl (fun k => k = tb ∨ (Value.slice ta tn tc).ownBlock = some k) w).size)
  refine Ln (sN (Wc (b := true) rfl (fun _ => Ws (Wl (Lv (.int .i64 (14)) (x_assign rfl rfl) ?_))) (fun h => nomatch h)))
  refine Ln (sN (Wr (sR (⟨.int .i64 (14), rV Try.results95 (by exact rfl), ?_⟩))))
  have ea : addE t tn id par = 14 := by unfold addE; rw [if_neg c9, if_pos (of_decide_eq_true c12)]
  exact ⟨congrArg (fun q => Ending.returned (Value.int .i64 q)) ea.symm, b1, .inl ⟨by rw [ea]; decide, m1, m2⟩⟩
 rw [Bool.not_eq_true] at c12
 refine Fx.L.call (by rfl) (rC (args := [(pt tb), .int .u64 (id)]) rfl rfl Try.func109 rfl rfl) rfl ((l_has tb ta tn tc t id _ (ownTree hT hO hn)).mono ?_)
 rintro e w2 ⟨he, hb2⟩
 refine ⟨.bool false, by rw [he, c12], ?_⟩
 clear he
 have s2 := Sb hb2
 have m3 := hT.stp s2 hT.ne
 have m4 := hO.stp s2 (hO.notNew (Nat.le_refl _))
 have b2 := (Fx.Chg.refl (fun k => k = tb ∨ (Value.slice ta tn tc).ownBlock = some k) w).then s2 (.inr (Fx.Chg.refl (fun k => k = tb ∨ (Value.slice ta tn tc).ownBlock = some k) w).size)
 refine Ln (sN (Wc (b := false) rfl (fun h => nomatch h) (fun _ => Wk (sN (Ws (Ws (Wl (Lv (.int .u64 (par)) (x_move rfl rfl) ?_))))))))
 by_cases c14 : par = 0
 ·refine Lv (.bool false) (Fx.x_neqF rfl rfl rfl c14) (Lv (.bool false) (x_move rfl rfl) (Lk (by rfl) rfl (Lk (by rfl) rfl (Lk (by rfl) rfl (Lk (by rfl) rfl (Lv (.bool false) (x_pickF rfl rfl rfl) (Ln (sN (Wc (b := false) rfl (fun h => nomatch h) (fun _ => Wk (sN (Ws (Ws (Wl (Lv ((pt tb)) (x_move rfl rfl) (Lv ((pt tb)) (x_nil rfl rfl) (Lv ((pt tb)) (x_field rfl rfl Try.underlying117 rfl (s := 1) (by kernel_rfl) rfl rfl) (Lv (.slice ta (tn) (tc)) (x_load1 (x := fun _ => .slice ta tn tc) rfl rfl (by kernel_rfl) m3.cel (i := 0) (by omega) (by omega) rfl) (Lv (.int .i64 ((tn : Int))) (x_len rfl rfl rfl (by kernel_rfl)) ?_)))))))))))))))))))
  by_cases c26 : 32 ≤ (tn : Int)
  ·refine Lv (.bool true) (Fx.x_geqT rfl rfl rfl c26) (Lv (.bool true) (x_move rfl rfl) (Lk (by rfl) rfl (Lk (by rfl) rfl (Lk (by rfl) rfl (Lk (by rfl) rfl (Lk (by rfl) rfl (Lv (.bool true) (x_pickT rfl rfl rfl) (Ln (sN (Wc (b := true) rfl (fun _ => Ws (Wl (Lv (.int .i64 (6)) (x_assign rfl rfl) ?_))) (fun h => nomatch h)))))))))))
   refine Ln (sN (Wr (sR (⟨.int .i64 (6), rV Try.results95 (by exact rfl), ?_⟩))))
   have ea : addE t tn id par = 6 := by unfold addE; rw [if_neg c9, if_neg (of_decide_eq_false c12), if_neg (fun h => h.1 c14), if_pos (.inl (by omega))]
   exact ⟨congrArg (fun q => Ending.returned (Value.int .i64 q)) ea.symm, b2, .inl ⟨by rw [ea]; decide, m3, m4⟩⟩
  refine Lv (.bool false) (Fx.x_geqF rfl rfl rfl c26) (Lv (.bool false) (x_move rfl rfl) (Lv ((pt tb)) (x_move rfl rfl) (Lv (.int .u64 (par)) (x_move rfl rfl) (Fx.L.call (by rfl) (rC (args := [(pt tb), .int .u64 (par)]) rfl rfl Try.func97 rfl rfl) rfl ((l_path tb ta tn tc t par D _ (ownTree m3 m4 hn) hD hD2).mono ?_)))))
  rintro e w3 ⟨K, vv, he, hown, hall1, hK1, hb3⟩
  obtain ⟨a1, cap1, rfl⟩ := hown.val
  refine ⟨.slice a1 K cap1, he, ?_⟩
  clear he hown
  have s3 := Sb hb3
  have m5 := m3.stp s3 m3.ne
  have m6 := m4.stp s3 (m4.notNew (Nat.le_refl _))
  have b3 := b2.then s3 (.inr b2.size)
  refine Lv (.int .i64 ((K : Int))) (x_len rfl rfl rfl (by kernel_rfl)) ?_
  by_cases c32 : 4 ≤ (K : Int)
  ·refine Lv (.bool true) (Fx.x_geqT rfl rfl rfl c32) (Lv (.bool true) (x_pickF rfl rfl rfl) (Ln (sN (Wc (b := true) rfl (fun _ => Ws (Wl (Lv (.int .i64 (6)) (x_assign rfl rfl) ?_))) (fun h => nomatch h)))))
   refine Ln (sN (Wr (sR (⟨.int .i64 (6), rV Try.results95 (by exact rfl), ?_⟩))))
   have ea : addE t tn id par = 6 := by unfold addE; rw [if_neg c9, if_neg (of_decide_eq_false c12), if_neg (fun h => h.1 c14), if_pos (.inr (deep_yes hall1 (by omega)))]
   exact ⟨congrArg (fun q => Ending.returned (Value.int .i64 q)) ea.symm, b3, .inl ⟨by rw [ea]; decide, m5, m6⟩⟩
  refine Lv (.bool false) (Fx.x_geqF rfl rfl rfl c32) (Lv (.bool false) (x_pickF rfl rfl rfl) (Ln (sN (Wc (b := false) rfl (fun h => nomatch h) (fun _ => Wk (sN (Ws (Wl (Lv ((pt tb)) (x_move rfl rfl) (Lv ((pt tb)) (x_nil rfl rfl) (Lv ((pt tb)) (x_field rfl rfl Try.underlying117 rfl (s := 1) (by kernel_rfl) rfl rfl) (Lv (.slice ta (tn) (tc)) (x_load1 (x := fun _ => .slice ta tn tc) rfl rfl (by kernel_rfl) m5.cel (i := 0) (by omega) (by omega) rfl) (Lv (.int .i64 ((tn : Int))) (x_len rfl rfl rfl (by kernel_rfl)) (Lv (.int .i64 ((tn : Int))) (x_assign rfl rfl) (Ln (sN (Ws (Wl (Lv ((pt tb)) (x_move rfl rfl) (Lv ((pt tb)) (x_move rfl rfl) (Lv ((pt tb)) (x_nil rfl rfl) (Lv ((pt tb)) (x_field rfl rfl Try.underlying117 rfl (s := 1) (by kernel_rfl) rfl rfl) (Lv (.slice ta (tn) (tc)) (x_load1 (x := fun _ => .slice ta tn tc) rfl rfl (by kernel_rfl) m5.cel (i := 0) (by omega) (by omega) rfl) (Lv (.agg (Fx.varr 2 (Fx.rv .u64 (fun _ => 0)))) (x_build (vs := []) (places := #[(0, 1), (1, 1)]) (m := 2) (x := Fx.rv .u64 (fun _ => 0)) rfl rfl Try.underlying170 (by kernel_rfl) (by kernel_rfl) (by rfl)) (Fx.L.bslice (vs := [(0, .agg (Fx.varr 2 (Fx.rv .u64 (fun _ => 0))))]) (s := 2) (zc := Fx.rv .u64 (fun _ => 0)) (y := Fx.ovr (fun j => (Fx.rv .u64 (fun _ => 0)) (j % 2)) (0 * 2) 2 (Fx.rv .u64 (fun _ => 0))) (by rfl) rfl rfl Try.underlying115 (by kernel_rfl) (by rfl) (by rfl) (by kernel_rfl) (by rw [Fx.fill_step (off := 0 * 2) (s := 2) (y := Fx.rv .u64 (fun _ => 0)) rfl (Fx.cells_agg _ _) (by rfl)]; rfl) rfl fun g1 w4 eg1 m7 s4 z1 => ?_)))))))))))))))))))))))))
  have m8 := m5.stp s4 m5.ne
  have m9 := m6.stp s4 (m6.notNew (Nat.le_refl _))
  have b4 := b3.then s4 (.inr b3.size)
  have lg1 : w.heap.size ≤ g1 := by rw [eg1]; exact b3.size
  have ng1m8 : tb ≠ g1 := by rw [eg1]; exact Nat.ne_of_lt (m5.lt)
  have ng1m9 : (.slice ta tn tc : Value).ownBlock ≠ some g1 := by rw [eg1]; exact m6.notNew (Nat.le_refl _)
  have tg1 : g1 < w4.heap.size := m7.lt
  clear eg1
  refine Fx.L.app (B := B) (s := 2) (bytes := 16) (k := tn) (m := 1) (v := .slice ta tn tc) (by rfl) rfl rfl rfl Try.underlying115 (by kernel_rfl) (by kernel_rfl) rfl rfl m9 m7.cel (fun j hj => by rcases j with _|_|j <;> first | rfl | omega) (by omega) (by omega) (by omega) (Nat.le_trans hB b4.size) fun g2 cap1 w5 ho1 hg1 hgv1 hlt1 => ?_
  have m11 : Fx.Blk w5 tb 1 (fun _ => .slice ta tn tc) 117 := m8.grown hg1 hne
  have neg2 : tb ≠ g2 := fun e => hgv1.elim (fun e2 => hne (by rw [e2, e])) (fun e2 => by have := m8.lt; omega)
  have m10 : Fx.Own w5 B 170 2 (.slice (some ⟨g2, 0, none⟩) (tn + 1) cap1) (tn + 1) (Fx.rv .u64 (flatT (shT t tn tn))) := ho1.congr (sh_start t tn)
  have b5 : Fx.Chg (fun k => k = tb ∨ (Value.slice ta tn tc).ownBlock = some k) w w5 := Fx.Chg.grow b4 hg1 (fun k e => .inl (.inr e))
  have ing2 : (fun k => k = tb ∨ (Value.slice ta tn tc).ownBlock = some k) g2 ∨ w.heap.size ≤ g2 := hgv1.elim (fun e => .inl (.inr e)) (fun e => .inr (by rw [e]; exact b4.size))
  refine Lv ((pt tb)) (x_nil rfl rfl) (Lv ((pt tb)) (x_field rfl rfl Try.underlying117 rfl (s := 1) (by kernel_rfl) rfl rfl) (Fx.L.store1 (x := fun _ => .slice ta tn tc) (u := .slice (some ⟨g2, 0, none⟩) (tn + 1) (cap1)) (by rfl) rfl rfl rfl rfl (by rfl) (by kernel_rfl) m11 (i := 0) (by omega) fun w6 m12 s5 z2 => ?_))
  have m13 : Fx.Blk w6 tb 1 (fun _ => .slice (some ⟨g2, 0, none⟩) (tn + 1) (cap1)) 117 := Fx.upd_all m12
  have m14 := m10.stpB s5 (by omega)
  have b6 := b5.then s5 (.inl (.inl rfl))
  refine Ln (sN (Ws (Fx.W.block (Fx.W.loop (fun f w_ => ∃ k : Nat, k ≤ tn ∧ (∀ i, k ≤ i → i < tn → id < t i 0) ∧ f 0 = (pt tb) ∧ f 1 = .int .u64 (id) ∧ f 2 = .int .u64 (par) ∧ f 7 = .int .i64 ((k : Int)) ∧ Fx.Blk w_ tb 1 (fun _ => .slice (some ⟨g2, 0, none⟩) (tn + 1) (cap1)) 117 ∧ Fx.Own w_ B 170 2 (.slice (some ⟨g2, 0, none⟩) (tn + 1) cap1) (tn + 1) (Fx.rv .u64 (flatT (shT t tn k))) ∧ Fx.Chg (fun k => k = tb ∨ (Value.slice ta tn tc).ownBlock = some k) w w_) (fun f _ => (intOf (f 7)).toNat) ⟨tn, by omega, (fun i h1 h2 => absurd h1 (by omega)), (by rfl), Fx.ic, Fx.ic, Fx.ic, m13, m14, b6⟩ ?_))))
  rintro f1 w7 ⟨k, hk, hgt, h1, h2, h3, h4, m15, m16, b7⟩
  refine Ws (Ws (Wl (Lv (.int .i64 ((k : Int))) (x_move rfl h4) ?_)))
  by_cases c50 : 0 < (k : Int)
  ·obtain ⟨j, ej⟩ : ∃ j, k = j + 1 := ⟨k - 1, by omega⟩
   refine Lv (.bool true) (Fx.x_gtrT rfl rfl rfl c50) (Lv (.bool true) (x_move rfl rfl) (Lv ((pt tb)) (x_move rfl h1) (Lv ((pt tb)) (x_nil rfl rfl) (Lv ((pt tb)) (x_field rfl rfl Try.underlying117 rfl (s := 1) (by kernel_rfl) rfl rfl) (Lv (.slice (some ⟨g2, 0, none⟩) (tn + 1) (cap1)) (x_load1 (x := fun _ => .slice (some ⟨g2, 0, none⟩) (tn + 1) (cap1)) rfl rfl (by kernel_rfl) m15.cel (i := 0) (by omega) (by omega) rfl) (Lv (.int .i64 ((k : Int))) (x_move rfl h4) (Lv (.int .i64 ((j : Int))) (Fx.x_sub rfl rfl rfl Fx.io) (Lv ((pf g2 (2 * j))) (x_indexS rfl rfl rfl Try.underlying115 (s := 2) (by kernel_rfl) (by omega) (by omega) (by omega)) (Lv ((pf g2 (2 * j))) (x_field rfl rfl Try.underlying170 rfl (s := 1) (by kernel_rfl) rfl rfl) (Lv (.int .u64 (t j 0)) (x_load1 (x := Fx.rv .u64 (flatT (shT t tn k))) rfl rfl (by kernel_rfl) m16.cel (i := 2 * j) (by omega) (by omega) (sh_at (by omega) (by omega) (by omega))) (Lv (.int .u64 (id)) (x_move rfl h2) ?_)))))))))))
   by_cases c62 : id < (t j 0)
   ·refine Lv (.bool true) (Fx.x_gtrT rfl rfl rfl c62) (Lv (.bool true) (x_pickT rfl rfl rfl) (Ln (sN (Wc (b := true) rfl (fun _ => Wk (sN (Fx.W.block (Ws ?_)))) (fun h => nomatch h)))))
    -- region 12 draws
    refine Fx.W.tail 14 (by kernel_rfl) (by kernel_rfl) fun wt1 hbwt1 hzwt1 => ?_
    have s6 : Fx.Stp w7.heap.size w7 wt1 := Sb hbwt1
    have m17 := m15.stp s6 m15.ne
    have m18 := m16.stpB s6 (Nat.ne_of_lt (m16.lt))
    have b8 := b7.then s6 (.inr b7.size)
    refine Fx.St.v ((pt tb)) (x_move rfl h1) (Fx.St.v ((pt tb)) (x_nil rfl rfl) (Fx.St.v ((pt tb)) (x_field rfl rfl Try.underlying117 rfl (s := 1) (by kernel_rfl) rfl rfl) (Fx.St.v (.slice (some ⟨g2, 0, none⟩) (tn + 1) (cap1)) (x_load1 (x := fun _ => .slice (some ⟨g2, 0, none⟩) (tn + 1) (cap1)) rfl rfl (by kernel_rfl) m17.cel (i := 0) (by omega) (by omega) rfl) (Fx.St.v (.int .i64 ((k : Int))) (x_move rfl h4) (Fx.St.v ((pt tb)) (x_move rfl h1) (Fx.St.v ((pt tb)) (x_nil rfl rfl) (Fx.St.v ((pt tb)) (x_field rfl rfl Try.underlying117 rfl (s := 1) (by kernel_rfl) rfl rfl) (Fx.St.v (.slice (some ⟨g2, 0, none⟩) (tn + 1) (cap1)) (x_load1 (x := fun _ => .slice (some ⟨g2, 0, none⟩) (tn + 1) (cap1)) rfl rfl (by kernel_rfl) m17.cel (i := 0) (by omega) (by omega) rfl) (Fx.St.v (.int .i64 ((k : Int))) (x_move rfl h4) (Fx.St.v (.int .i64 ((j : Int))) (Fx.x_sub rfl rfl rfl Fx.io) (Fx.St.v ((pf g2 (2 * j))) (x_indexS rfl rfl rfl Try.underlying115 (s := 2) (by kernel_rfl) (by omega) (by omega) (by omega)) (Fx.St.v (.agg (Fx.varr 2 (Fx.rv .u64 (t j)))) (x_loadA (x := Fx.rv .u64 (flatT (shT t tn k))) (y := Fx.rv .u64 (t j)) rfl rfl (by kernel_rfl) (by kernel_rfl) m18.cel (i := 2 * j) (by omega) (by omega) (fun i hi => sh_row (by omega) (by omega) hi)) (Fx.St.v ((pf g2 (2 * k))) (x_indexS rfl rfl rfl Try.underlying115 (s := 2) (by kernel_rfl) (by omega) (by omega) (by omega)) (Fx.St.nil ?_))))))))))))))
    refine Fx.L.ownA (x := Fx.rv .u64 (flatT (shT t tn k))) (y := Fx.rv .u64 (t j)) (by rfl) rfl rfl rfl rfl (fun _ _ => rfl) (by kernel_rfl) m18 (i := 2 * k) (by omega) fun w8 m19 s7 z3 => ?_
    have m20 := m17.stp s7 (by omega)
    have b9 := b8.then s7 ing2
    have m21 : Fx.Own w8 B 170 2 (.slice (some ⟨g2, 0, none⟩) (tn + 1) cap1) (tn + 1) (Fx.rv .u64 (flatT (shT t tn j))) := m19.congr (sh_step ej (by omega))
    refine Ln (sN (Wl (Lv (.int .i64 ((k : Int))) (x_move rfl h4) (Lv (.int .i64 ((j : Int))) (Fx.x_sub rfl rfl rfl Fx.io) (Lv (.int .i64 ((j : Int))) (x_assign rfl rfl) (Ln (Fx.blkN (Fx.lpN ⟨j, by omega, (gt_step ej hgt c62), h1, (h2.trans Fx.ic), (h3.trans Fx.ic), Fx.ic, m20, m21, b9⟩ ?_))))))))
    show (intOf ((.int .i64 ((j : Int))))).toNat < _
    simp only [h4, intOf]; omega
   refine Lv (.bool false) (x_gtrF rfl rfl rfl c62) (Lv (.bool false) (x_pickT rfl rfl rfl) (Ln (sN (Wc (b := false) rfl (fun h => nomatch h) (fun _ => Fx.W.exit (Fx.seqX (Fx.lpX (Fx.blkX (sN (Ws (Wl (Lv ((pt tb)) (x_move rfl h1) (Lv ((pt tb)) (x_nil rfl rfl) (Lv ((pt tb)) (x_field rfl rfl Try.underlying117 rfl (s := 1) (by kernel_rfl) rfl rfl) (Lv (.slice (some ⟨g2, 0, none⟩) (tn + 1) (cap1)) (x_load1 (x := fun _ => .slice (some ⟨g2, 0, none⟩) (tn + 1) (cap1)) rfl rfl (by kernel_rfl) m15.cel (i := 0) (by omega) (by omega) rfl) (Lv (.int .i64 ((k : Int))) (x_move rfl h4) (Lv (.int .u64 (id)) (x_move rfl h2) (Lv (.int .u64 (par)) (x_move rfl h3) (Lv (.agg (Fx.varr 2 (Fx.ovr (Fx.ovr (Fx.rv .u64 (fun _ => 0)) 0 1 (fun _ => .int .u64 (id))) 1 1 (fun _ => .int .u64 (par))))) (x_build (vs := [(0, .int .u64 (id)), (1, .int .u64 (par))]) (places := #[(0, 1), (1, 1)]) (m := 2) (x := Fx.rv .u64 (fun _ => 0)) rfl rfl Try.underlying170 (by kernel_rfl) (by kernel_rfl) (by rw [Fx.fill_step (off := 0) (s := 1) (y := fun _ => .int .u64 (id)) (by kernel_rfl) (Fx.cells_one (by rfl)) (by rfl)]; rw [Fx.fill_step (off := 1) (s := 1) (y := fun _ => .int .u64 (par)) (by kernel_rfl) (Fx.cells_one (by rfl)) (by rfl)]; rfl)) (Lv ((pf g2 (2 * k))) (x_indexS rfl rfl rfl Try.underlying115 (s := 2) (by kernel_rfl) (by omega) (by omega) (by omega)) (Fx.L.ownA (x := Fx.rv .u64 (flatT (shT t tn k))) (y := Fx.ovr (Fx.ovr (Fx.rv .u64 (fun _ => 0)) 0 1 (fun _ => .int .u64 (id))) 1 1 (fun _ => .int .u64 (par))) (by rfl) rfl rfl rfl rfl (fun j hj => by rcases j with _|_|j <;> first | rfl | omega) (by kernel_rfl) m16 (i := 2 * k) (by omega) fun w9 m22 s8 z4 => ?_)))))))))))))))))))))
   have m23 := m15.stp s8 (by omega)
   have b10 := b7.then s8 ing2
   have m24 : Fx.Own w9 B 170 2 (.slice (some ⟨g2, 0, none⟩) (tn + 1) cap1) (tn + 1) (Fx.rv .u64 (flatT (insT t k id par))) := m22.congr (ins_end (by omega))
   refine Ln (sN (Ws (Wl (Lv (.int .i64 (0)) (x_assign rfl rfl) (Ln (sN (Wr (⟨.int .i64 (0), rV Try.results95 (by exact rfl), ?_⟩))))))))
   have ea : addE t tn id par = 0 := by unfold addE; rw [if_neg c9, if_neg (of_decide_eq_false c12), if_neg (fun h => h.1 c14), if_neg (fun h => h.elim (fun h => by omega) (deep_no hK1 (by omega)))]
   have ek : k = Fx.down (fun i => decide (id < t i 0)) tn := Fx.down_eq hk (fun i a b => decide_eq_true (hgt i a b)) (.inr (fun j e => by have e2 : j = _ := Nat.succ.inj (e.symm.trans ej); subst e2; exact decide_eq_false c62))
   exact ⟨congrArg (fun q => Ending.returned (Value.int .i64 q)) ea.symm, b10, .inr ⟨ea, g2, cap1, m23, by rw [← ek]; exact m24, fun e => neg2 (Option.some.inj e).symm⟩⟩
  refine Lv (.bool false) (x_gtrF rfl rfl rfl c50) (Lv (.bool false) (x_move rfl rfl) (Lk (by rfl) rfl (Lk (by rfl) rfl (Lk (by rfl) rfl (Lk (by rfl) rfl (Lk (by rfl) rfl (Lk (by rfl) rfl (Lk (by rfl) rfl (Lk (by rfl) rfl (Lk (by rfl) rfl (Lk (by rfl) rfl (Lk (by rfl) rfl (Lv (.bool false) (x_pickF rfl rfl rfl) (Ln (sN (Wc (b := false) rfl (fun h => nomatch h) (fun _ => Fx.W.exit (Fx.seqX (Fx.lpX (Fx.blkX (sN (Ws (Wl (Lv ((pt tb)) (x_move rfl h1) (Lv ((pt tb)) (x_nil rfl rfl) (Lv ((pt tb)) (x_field rfl rfl Try.underlying117 rfl (s := 1) (by kernel_rfl) rfl rfl) (Lv (.slice (some ⟨g2, 0, none⟩) (tn + 1) (cap1)) (x_load1 (x := fun _ => .slice (some ⟨g2, 0, none⟩) (tn + 1) (cap1)) rfl rfl (by kernel_rfl) m15.cel (i := 0) (by omega) (by omega) rfl) (Lv (.int .i64 ((k : Int))) (x_move rfl h4) (Lv (.int .u64 (id)) (x_move rfl h2) (Lv (.int .u64 (par)) (x_move rfl h3) (Lv (.agg (Fx.varr 2 (Fx.ovr (Fx.ovr (Fx.rv .u64 (fun _ => 0)) 0 1 (fun _ => .int .u64 (id))) 1 1 (fun _ => .int .u64 (par))))) (x_build (vs := [(0, .int .u64 (id)), (1, .int .u64 (par))]) (places := #[(0, 1), (1, 1)]) (m := 2) (x := Fx.rv .u64 (fun _ => 0)) rfl rfl Try.underlying170 (by kernel_rfl) (by kernel_rfl) (by rw [Fx.fill_step (off := 0) (s := 1) (y := fun _ => .int .u64 (id)) (by kernel_rfl) (Fx.cells_one (by rfl)) (by rfl)]; rw [Fx.fill_step (off := 1) (s := 1) (y := fun _ => .int .u64 (par)) (by kernel_rfl) (Fx.cells_one (by rfl)) (by rfl)]; rfl)) (Lv ((pf g2 (2 * k))) (x_indexS rfl rfl rfl Try.underlying115 (s := 2) (by kernel_rfl) (by omega) (by omega) (by omega)) (Fx.L.ownA (x := Fx.rv .u64 (flatT (shT t tn k))) (y := Fx.ovr (Fx.ovr (Fx.rv .u64 (fun _ => 0)) 0 1 (fun _ => .int .u64 (id))) 1 1 (fun _ => .int .u64 (par))) (by rfl) rfl rfl rfl rfl (fun j hj => by rcases j with _|_|j <;> first | rfl | omega) (by kernel_rfl) m16 (i := 2 * k) (by omega) fun w10 m25 s9 z5 => ?_)))))))))))))))))))))))))))))))))
  have m26 := m15.stp s9 (by omega)
  have b11 := b7.then s9 ing2
  have m27 : Fx.Own w10 B 170 2 (.slice (some ⟨g2, 0, none⟩) (tn + 1) cap1) (tn + 1) (Fx.rv .u64 (flatT (insT t k id par))) := m25.congr (ins_end (by omega))
  refine Ln (sN (Ws (Wl (Lv (.int .i64 (0)) (x_assign rfl rfl) (Ln (sN (Wr (⟨.int .i64 (0), rV Try.results95 (by exact rfl), ?_⟩))))))))
  have ea : addE t tn id par = 0 := by unfold addE; rw [if_neg c9, if_neg (of_decide_eq_false c12), if_neg (fun h => h.1 c14), if_neg (fun h => h.elim (fun h => by omega) (deep_no hK1 (by omega)))]
  have ek : k = Fx.down (fun i => decide (id < t i 0)) tn := Fx.down_eq hk (fun i a b => decide_eq_true (hgt i a b)) (.inl (by omega))
  exact ⟨congrArg (fun q => Ending.returned (Value.int .i64 q)) ea.symm, b11, .inr ⟨ea, g2, cap1, m26, by rw [← ek]; exact m27, fun e => neg2 (Option.some.inj e).symm⟩⟩
 refine Lv (.bool true) (Fx.x_neqT rfl rfl rfl c14) (Lv (.bool true) (x_move rfl rfl) (Lv ((pt tb)) (x_move rfl rfl) (Lv (.int .u64 (par)) (x_move rfl rfl) ?_)))
 by_cases c18 : (decide (0 ≤ findT t tn par)) = true
 ·refine Fx.L.call (by rfl) (rC (args := [(pt tb), .int .u64 (par)]) rfl rfl Try.func109 rfl rfl) rfl ((l_has tb ta tn tc t par _ (ownTree m3 m4 hn)).mono ?_)
  rintro e w11 ⟨he, hb4⟩
  refine ⟨.bool true, by rw [he, c18], ?_⟩
  clear he
  have s10 := Sb hb4
  have m28 := m3.stp s10 m3.ne
  have m29 := m4.stp s10 (m4.notNew (Nat.le_refl _))
  have b12 := b2.then s10 (.inr b2.size)
  refine Lv (.bool false) (Fx.x_notF rfl rfl) (Lv (.bool false) (x_pickT rfl rfl rfl) (Ln (sN (Wc (b := false) rfl (fun h => nomatch h) (fun _ => Wk (sN (Ws (Ws (Wl (Lv ((pt tb)) (x_move rfl rfl) (Lv ((pt tb)) (x_nil rfl rfl) (Lv ((pt tb)) (x_field rfl rfl Try.underlying117 rfl (s := 1) (by kernel_rfl) rfl rfl) (Lv (.slice ta (tn) (tc)) (x_load1 (x := fun _ => .slice ta tn tc) rfl rfl (by kernel_rfl) m28.cel (i := 0) (by omega) (by omega) rfl) (Lv (.int .i64 ((tn : Int))) (x_len rfl rfl rfl (by kernel_rfl)) ?_))))))))))))))
  by_cases c26 : 32 ≤ (tn : Int)
  ·refine Lv (.bool true) (Fx.x_geqT rfl rfl rfl c26) (Lv (.bool true) (x_move rfl rfl) (Lk (by rfl) rfl (Lk (by rfl) rfl (Lk (by rfl) rfl (Lk (by rfl) rfl (Lk (by rfl) rfl (Lv (.bool true) (x_pickT rfl rfl rfl) (Ln (sN (Wc (b := true) rfl (fun _ => Ws (Wl (Lv (.int .i64 (6)) (x_assign rfl rfl) ?_))) (fun h => nomatch h)))))))))))
   refine Ln (sN (Wr (sR (⟨.int .i64 (6), rV Try.results95 (by exact rfl), ?_⟩))))
   have ea : addE t tn id par = 6 := by unfold addE; rw [if_neg c9, if_neg (of_decide_eq_false c12), if_neg (fun h => by have := of_decide_eq_true c18; omega), if_pos (.inl (by omega))]
   exact ⟨congrArg (fun q => Ending.returned (Value.int .i64 q)) ea.symm, b12, .inl ⟨by rw [ea]; decide, m28, m29⟩⟩
  refine Lv (.bool false) (Fx.x_geqF rfl rfl rfl c26) (Lv (.bool false) (x_move rfl rfl) (Lv ((pt tb)) (x_move rfl rfl) (Lv (.int .u64 (par)) (x_move rfl rfl) (Fx.L.call (by rfl) (rC (args := [(pt tb), .int .u64 (par)]) rfl rfl Try.func97 rfl rfl) rfl ((l_path tb ta tn tc t par D _ (ownTree m28 m29 hn) hD hD2).mono ?_)))))
  rintro e w12 ⟨K, vv, he, hown, hall1, hK1, hb5⟩
  obtain ⟨a1, cap1, rfl⟩ := hown.val
  refine ⟨.slice a1 K cap1, he, ?_⟩
  clear he hown
  have s11 := Sb hb5
  have m30 := m28.stp s11 m28.ne
  have m31 := m29.stp s11 (m29.notNew (Nat.le_refl _))
  have b13 := b12.then s11 (.inr b12.size)
  refine Lv (.int .i64 ((K : Int))) (x_len rfl rfl rfl (by kernel_rfl)) ?_
  by_cases c32 : 4 ≤ (K : Int)
  ·refine Lv (.bool true) (Fx.x_geqT rfl rfl rfl c32) (Lv (.bool true) (x_pickF rfl rfl rfl) (Ln (sN (Wc (b := true) rfl (fun _ => Ws (Wl (Lv (.int .i64 (6)) (x_assign rfl rfl) ?_))) (fun h => nomatch h)))))
   refine Ln (sN (Wr (sR (⟨.int .i64 (6), rV Try.results95 (by exact rfl), ?_⟩))))
   have ea : addE t tn id par = 6 := by unfold addE; rw [if_neg c9, if_neg (of_decide_eq_false c12), if_neg (fun h => by have := of_decide_eq_true c18; omega), if_pos (.inr (deep_yes hall1 (by omega)))]
   exact ⟨congrArg (fun q => Ending.returned (Value.int .i64 q)) ea.symm, b13, .inl ⟨by rw [ea]; decide, m30, m31⟩⟩
  refine Lv (.bool false) (Fx.x_geqF rfl rfl rfl c32) (Lv (.bool false) (x_pickF rfl rfl rfl) (Ln (sN (Wc (b := false) rfl (fun h => nomatch h) (fun _ => Wk (sN (Ws (Wl (Lv ((pt tb)) (x_move rfl rfl) (Lv ((pt tb)) (x_nil rfl rfl) (Lv ((pt tb)) (x_field rfl rfl Try.underlying117 rfl (s := 1) (by kernel_rfl) rfl rfl) (Lv (.slice ta (tn) (tc)) (x_load1 (x := fun _ => .slice ta tn tc) rfl rfl (by kernel_rfl) m30.cel (i := 0) (by omega) (by omega) rfl) (Lv (.int .i64 ((tn : Int))) (x_len rfl rfl rfl (by kernel_rfl)) (Lv (.int .i64 ((tn : Int))) (x_assign rfl rfl) (Ln (sN (Ws (Wl (Lv ((pt tb)) (x_move rfl rfl) (Lv ((pt tb)) (x_move rfl rfl) (Lv ((pt tb)) (x_nil rfl rfl) (Lv ((pt tb)) (x_field rfl rfl Try.underlying117 rfl (s := 1) (by kernel_rfl) rfl rfl) (Lv (.slice ta (tn) (tc)) (x_load1 (x := fun _ => .slice ta tn tc) rfl rfl (by kernel_rfl) m30.cel (i := 0) (by omega) (by omega) rfl) (Lv (.agg (Fx.varr 2 (Fx.rv .u64 (fun _ => 0)))) (x_build (vs := []) (places := #[(0, 1), (1, 1)]) (m := 2) (x := Fx.rv .u64 (fun _ => 0)) rfl rfl Try.underlying170 (by kernel_rfl) (by kernel_rfl) (by rfl)) (Fx.L.bslice (vs := [(0, .agg (Fx.varr 2 (Fx.rv .u64 (fun _ => 0))))]) (s := 2) (zc := Fx.rv .u64 (fun _ => 0)) (y := Fx.ovr (fun j => (Fx.rv .u64 (fun _ => 0)) (j % 2)) (0 * 2) 2 (Fx.rv .u64 (fun _ => 0))) (by rfl) rfl rfl Try.underlying115 (by kernel_rfl) (by rfl) (by rfl) (by kernel_rfl) (by rw [Fx.fill_step (off := 0 * 2) (s := 2) (y := Fx.rv .u64 (fun _ => 0)) rfl (Fx.cells_agg _ _) (by rfl)]; rfl) rfl fun g3 w13 eg3 m32 s12 z6 => ?_)))))))))))))))))))))))))
  have m33 := m30.stp s12 m30.ne
  have m34 := m31.stp s12 (m31.notNew (Nat.le_refl _))
  have b14 := b13.then s12 (.inr b13.size)
  have lg3 : w.heap.size ≤ g3 := by rw [eg3]; exact b13.size
  have ng3m33 : tb ≠ g3 := by rw [eg3]; exact Nat.ne_of_lt (m30.lt)
  have ng3m34 : (.slice ta tn tc : Value).ownBlock ≠ some g3 := by rw [eg3]; exact m31.notNew (Nat.le_refl _)
  have tg3 : g3 < w13.heap.size := m32.lt
  clear eg3
  refine Fx.L.app (B := B) (s := 2) (bytes := 16) (k := tn) (m := 1) (v := .slice ta tn tc) (by rfl) rfl rfl rfl Try.underlying115 (by kernel_rfl) (by kernel_rfl) rfl rfl m34 m32.cel (fun j hj => by rcases j with _|_|j <;> first | rfl | omega) (by omega) (by omega) (by omega) (Nat.le_trans hB b14.size) fun g4 cap2 w14 ho2 hg2 hgv2 hlt2 => ?_
  have m36 : Fx.Blk w14 tb 1 (fun _ => .slice ta tn tc) 117 := m33.grown hg2 hne
  have neg4 : tb ≠ g4 := fun e => hgv2.elim (fun e2 => hne (by rw [e2, e])) (fun e2 => by have := m33.lt; omega)
  have m35 : Fx.Own w14 B 170 2 (.slice (some ⟨g4, 0, none⟩) (tn + 1) cap2) (tn + 1) (Fx.rv .u64 (flatT (shT t tn tn))) := ho2.congr (sh_start t tn)
  have b15 : Fx.Chg (fun k => k = tb ∨ (Value.slice ta tn tc).ownBlock = some k) w w14 := Fx.Chg.grow b14 hg2 (fun k e => .inl (.inr e))
  have ing4 : (fun k => k = tb ∨ (Value.slice ta tn tc).ownBlock = some k) g4 ∨ w.heap.size ≤ g4 := hgv2.elim (fun e => .inl (.inr e)) (fun e => .inr (by rw [e]; exact b14.size))
  refine Lv ((pt tb)) (x_nil rfl rfl) (Lv ((pt tb)) (x_field rfl rfl Try.underlying117 rfl (s := 1) (by kernel_rfl) rfl rfl) (Fx.L.store1 (x := fun _ => .slice ta tn tc) (u := .slice (some ⟨g4, 0, none⟩) (tn + 1) (cap2)) (by rfl) rfl rfl rfl rfl (by rfl) (by kernel_rfl) m36 (i := 0) (by omega) fun w15 m37 s13 z7 => ?_))
  have m38 : Fx.Blk w15 tb 1 (fun _ => .slice (some ⟨g4, 0, none⟩) (tn + 1) (cap2)) 117 := Fx.upd_all m37
  have m39 := m35.stpB s13 (by omega)
  have b16 := b15.then s13 (.inl (.inl rfl))
  refine Ln (sN (Ws (Fx.W.block (Fx.W.loop (fun f w_ => ∃ k : Nat, k ≤ tn ∧ (∀ i, k ≤ i → i < tn → id < t i 0) ∧ f 0 = (pt tb) ∧ f 1 = .int .u64 (id) ∧ f 2 = .int .u64 (par) ∧ f 7 = .int .i64 ((k : Int)) ∧ Fx.Blk w_ tb 1 (fun _ => .slice (some ⟨g4, 0, none⟩) (tn + 1) (cap2)) 117 ∧ Fx.Own w_ B 170 2 (.slice (some ⟨g4, 0, none⟩) (tn + 1) cap2) (tn + 1) (Fx.rv .u64 (flatT (shT t tn k))) ∧ Fx.Chg (fun k => k = tb ∨ (Value.slice ta tn tc).ownBlock = some k) w w_) (fun f _ => (intOf (f 7)).toNat) ⟨tn, by omega, (fun i h1 h2 => absurd h1 (by omega)), (by rfl), Fx.ic, Fx.ic, Fx.ic, m38, m39, b16⟩ ?_))))
  rintro f2 w16 ⟨k, hk, hgt, h5, h6, h7, h8, m40, m41, b17⟩
  refine Ws (Ws (Wl (Lv (.int .i64 ((k : Int))) (x_move rfl h8) ?_)))
  by_cases c50 : 0 < (k : Int)
  ·obtain ⟨j, ej⟩ : ∃ j, k = j + 1 := ⟨k - 1, by omega⟩
   refine Lv (.bool true) (Fx.x_gtrT rfl rfl rfl c50) (Lv (.bool true) (x_move rfl rfl) (Lv ((pt tb)) (x_move rfl h5) (Lv ((pt tb)) (x_nil rfl rfl) (Lv ((pt tb)) (x_field rfl rfl Try.underlying117 rfl (s := 1) (by kernel_rfl) rfl rfl) (Lv (.slice (some ⟨g4, 0, none⟩) (tn + 1) (cap2)) (x_load1 (x := fun _ => .slice (some ⟨g4, 0, none⟩) (tn + 1) (cap2)) rfl rfl (by kernel_rfl) m40.cel (i := 0) (by omega) (by omega) rfl) (Lv (.int .i64 ((k : Int))) (x_move rfl h8) (Lv (.int .i64 ((j : Int))) (Fx.x_sub rfl rfl rfl Fx.io) (Lv ((pf g4 (2 * j))) (x_indexS rfl rfl rfl Try.underlying115 (s := 2) (by kernel_rfl) (by omega) (by omega) (by omega)) (Lv ((pf g4 (2 * j))) (x_field rfl rfl Try.underlying170 rfl (s := 1) (by kernel_rfl) rfl rfl) (Lv (.int .u64 (t j 0)) (x_load1 (x := Fx.rv .u64 (flatT (shT t tn k))) rfl rfl (by kernel_rfl) m41.cel (i := 2 * j) (by omega) (by omega) (sh_at (by omega) (by omega) (by omega))) (Lv (.int .u64 (id)) (x_move rfl h6) ?_)))))))))))
   by_cases c62 : id < (t j 0)
   ·refine Lv (.bool true) (Fx.x_gtrT rfl rfl rfl c62) (Lv (.bool true) (x_pickT rfl rfl rfl) (Ln (sN (Wc (b := true) rfl (fun _ => Wk (sN (Fx.W.block (Ws ?_)))) (fun h => nomatch h)))))
    -- region 12 draws
    refine Fx.W.tail 14 (by kernel_rfl) (by kernel_rfl) fun wt2 hbwt2 hzwt2 => ?_
    have s14 : Fx.Stp w16.heap.size w16 wt2 := Sb hbwt2
    have m42 := m40.stp s14 m40.ne
    have m43 := m41.stpB s14 (Nat.ne_of_lt (m41.lt))
    have b18 := b17.then s14 (.inr b17.size)
    refine Fx.St.v ((pt tb)) (x_move rfl h5) (Fx.St.v ((pt tb)) (x_nil rfl rfl) (Fx.St.v ((pt tb)) (x_field rfl rfl Try.underlying117 rfl (s := 1) (by kernel_rfl) rfl rfl) (Fx.St.v (.slice (some ⟨g4, 0, none⟩) (tn + 1) (cap2)) (x_load1 (x := fun _ => .slice (some ⟨g4, 0, none⟩) (tn + 1) (cap2)) rfl rfl (by kernel_rfl) m42.cel (i := 0) (by omega) (by omega) rfl) (Fx.St.v (.int .i64 ((k : Int))) (x_move rfl h8) (Fx.St.v ((pt tb)) (x_move rfl h5) (Fx.St.v ((pt tb)) (x_nil rfl rfl) (Fx.St.v ((pt tb)) (x_field rfl rfl Try.underlying117 rfl (s := 1) (by kernel_rfl) rfl rfl) (Fx.St.v (.slice (some ⟨g4, 0, none⟩) (tn + 1) (cap2)) (x_load1 (x := fun _ => .slice (some ⟨g4, 0, none⟩) (tn + 1) (cap2)) rfl rfl (by kernel_rfl) m42.cel (i := 0) (by omega) (by omega) rfl) (Fx.St.v (.int .i64 ((k : Int))) (x_move rfl h8) (Fx.St.v (.int .i64 ((j : Int))) (Fx.x_sub rfl rfl rfl Fx.io) (Fx.St.v ((pf g4 (2 * j))) (x_indexS rfl rfl rfl Try.underlying115 (s := 2) (by kernel_rfl) (by omega) (by omega) (by omega)) (Fx.St.v (.agg (Fx.varr 2 (Fx.rv .u64 (t j)))) (x_loadA (x := Fx.rv .u64 (flatT (shT t tn k))) (y := Fx.rv .u64 (t j)) rfl rfl (by kernel_rfl) (by kernel_rfl) m43.cel (i := 2 * j) (by omega) (by omega) (fun i hi => sh_row (by omega) (by omega) hi)) (Fx.St.v ((pf g4 (2 * k))) (x_indexS rfl rfl rfl Try.underlying115 (s := 2) (by kernel_rfl) (by omega) (by omega) (by omega)) (Fx.St.nil ?_))))))))))))))
    refine Fx.L.ownA (x := Fx.rv .u64 (flatT (shT t tn k))) (y := Fx.rv .u64 (t j)) (by rfl) rfl rfl rfl rfl (fun _ _ => rfl) (by kernel_rfl) m43 (i := 2 * k) (by omega) fun w17 m44 s15 z8 => ?_
    have m45 := m42.stp s15 (by omega)
    have b19 := b18.then s15 ing4
    have m46 : Fx.Own w17 B 170 2 (.slice (some ⟨g4, 0, none⟩) (tn + 1) cap2) (tn + 1) (Fx.rv .u64 (flatT (shT t tn j))) := m44.congr (sh_step ej (by omega))
    refine Ln (sN (Wl (Lv (.int .i64 ((k : Int))) (x_move rfl h8) (Lv (.int .i64 ((j : Int))) (Fx.x_sub rfl rfl rfl Fx.io) (Lv (.int .i64 ((j : Int))) (x_assign rfl rfl) (Ln (Fx.blkN (Fx.lpN ⟨j, by omega, (gt_step ej hgt c62), h5, (h6.trans Fx.ic), (h7.trans Fx.ic), Fx.ic, m45, m46, b19⟩ ?_))))))))
    show (intOf ((.int .i64 ((j : Int))))).toNat < _
    simp only [h8, intOf]; omega
   refine Lv (.bool false) (x_gtrF rfl rfl rfl c62) (Lv (.bool false) (x_pickT rfl rfl rfl) (Ln (sN (Wc (b := false) rfl (fun h => nomatch h) (fun _ => Fx.W.exit (Fx.seqX (Fx.lpX (Fx.blkX (sN (Ws (Wl (Lv ((pt tb)) (x_move rfl h5) (Lv ((pt tb)) (x_nil rfl rfl) (Lv ((pt tb)) (x_field rfl rfl Try.underlying117 rfl (s := 1) (by kernel_rfl) rfl rfl) (Lv (.slice (some ⟨g4, 0, none⟩) (tn + 1) (cap2)) (x_load1 (x := fun _ => .slice (some ⟨g4, 0, none⟩) (tn + 1) (cap2)) rfl rfl (by kernel_rfl) m40.cel (i := 0) (by omega) (by omega) rfl) (Lv (.int .i64 ((k : Int))) (x_move rfl h8) (Lv (.int .u64 (id)) (x_move rfl h6) (Lv (.int .u64 (par)) (x_move rfl h7) (Lv (.agg (Fx.varr 2 (Fx.ovr (Fx.ovr (Fx.rv .u64 (fun _ => 0)) 0 1 (fun _ => .int .u64 (id))) 1 1 (fun _ => .int .u64 (par))))) (x_build (vs := [(0, .int .u64 (id)), (1, .int .u64 (par))]) (places := #[(0, 1), (1, 1)]) (m := 2) (x := Fx.rv .u64 (fun _ => 0)) rfl rfl Try.underlying170 (by kernel_rfl) (by kernel_rfl) (by rw [Fx.fill_step (off := 0) (s := 1) (y := fun _ => .int .u64 (id)) (by kernel_rfl) (Fx.cells_one (by rfl)) (by rfl)]; rw [Fx.fill_step (off := 1) (s := 1) (y := fun _ => .int .u64 (par)) (by kernel_rfl) (Fx.cells_one (by rfl)) (by rfl)]; rfl)) (Lv ((pf g4 (2 * k))) (x_indexS rfl rfl rfl Try.underlying115 (s := 2) (by kernel_rfl) (by omega) (by omega) (by omega)) (Fx.L.ownA (x := Fx.rv .u64 (flatT (shT t tn k))) (y := Fx.ovr (Fx.ovr (Fx.rv .u64 (fun _ => 0)) 0 1 (fun _ => .int .u64 (id))) 1 1 (fun _ => .int .u64 (par))) (by rfl) rfl rfl rfl rfl (fun j hj => by rcases j with _|_|j <;> first | rfl | omega) (by kernel_rfl) m41 (i := 2 * k) (by omega) fun w18 m47 s16 z9 => ?_)))))))))))))))))))))
   have m48 := m40.stp s16 (by omega)
   have b20 := b17.then s16 ing4
   have m49 : Fx.Own w18 B 170 2 (.slice (some ⟨g4, 0, none⟩) (tn + 1) cap2) (tn + 1) (Fx.rv .u64 (flatT (insT t k id par))) := m47.congr (ins_end (by omega))
   refine Ln (sN (Ws (Wl (Lv (.int .i64 (0)) (x_assign rfl rfl) (Ln (sN (Wr (⟨.int .i64 (0), rV Try.results95 (by exact rfl), ?_⟩))))))))
   have ea : addE t tn id par = 0 := by unfold addE; rw [if_neg c9, if_neg (of_decide_eq_false c12), if_neg (fun h => by have := of_decide_eq_true c18; omega), if_neg (fun h => h.elim (fun h => by omega) (deep_no hK1 (by omega)))]
   have ek : k = Fx.down (fun i => decide (id < t i 0)) tn := Fx.down_eq hk (fun i a b => decide_eq_true (hgt i a b)) (.inr (fun j e => by have e2 : j = _ := Nat.succ.inj (e.symm.trans ej); subst e2; exact decide_eq_false c62))
   exact ⟨congrArg (fun q => Ending.returned (Value.int .i64 q)) ea.symm, b20, .inr ⟨ea, g4, cap2, m48, by rw [← ek]; exact m49, fun e => neg4 (Option.some.inj e).symm⟩⟩
  refine Lv (.bool false) (x_gtrF rfl rfl rfl c50) (Lv (.bool false) (x_move rfl rfl) (Lk (by rfl) rfl (Lk (by rfl) rfl (Lk (by rfl) rfl (Lk (by rfl) rfl (Lk (by rfl) rfl (Lk (by rfl) rfl (Lk (by rfl) rfl (Lk (by rfl) rfl (Lk (by rfl) rfl (Lk (by rfl) rfl (Lk (by rfl) rfl (Lv (.bool false) (x_pickF rfl rfl rfl) (Ln (sN (Wc (b := false) rfl (fun h => nomatch h) (fun _ => Fx.W.exit (Fx.seqX (Fx.lpX (Fx.blkX (sN (Ws (Wl (Lv ((pt tb)) (x_move rfl h5) (Lv ((pt tb)) (x_nil rfl rfl) (Lv ((pt tb)) (x_field rfl rfl Try.underlying117 rfl (s := 1) (by kernel_rfl) rfl rfl) (Lv (.slice (some ⟨g4, 0, none⟩) (tn + 1) (cap2)) (x_load1 (x := fun _ => .slice (some ⟨g4, 0, none⟩) (tn + 1) (cap2)) rfl rfl (by kernel_rfl) m40.cel (i := 0) (by omega) (by omega) rfl) (Lv (.int .i64 ((k : Int))) (x_move rfl h8) (Lv (.int .u64 (id)) (x_move rfl h6) (Lv (.int .u64 (par)) (x_move rfl h7) (Lv (.agg (Fx.varr 2 (Fx.ovr (Fx.ovr (Fx.rv .u64 (fun _ => 0)) 0 1 (fun _ => .int .u64 (id))) 1 1 (fun _ => .int .u64 (par))))) (x_build (vs := [(0, .int .u64 (id)), (1, .int .u64 (par))]) (places := #[(0, 1), (1, 1)]) (m := 2) (x := Fx.rv .u64 (fun _ => 0)) rfl rfl Try.underlying170 (by kernel_rfl) (by kernel_rfl) (by rw [Fx.fill_step (off := 0) (s := 1) (y := fun _ => .int .u64 (id)) (by kernel_rfl) (Fx.cells_one (by rfl)) (by rfl)]; rw [Fx.fill_step (off := 1) (s := 1) (y := fun _ => .int .u64 (par)) (by kernel_rfl) (Fx.cells_one (by rfl)) (by rfl)]; rfl)) (Lv ((pf g4 (2 * k))) (x_indexS rfl rfl rfl Try.underlying115 (s := 2) (by kernel_rfl) (by omega) (by omega) (by omega)) (Fx.L.ownA (x := Fx.rv .u64 (flatT (shT t tn k))) (y := Fx.ovr (Fx.ovr (Fx.rv .u64 (fun _ => 0)) 0 1 (fun _ => .int .u64 (id))) 1 1 (fun _ => .int .u64 (par))) (by rfl) rfl rfl rfl rfl (fun j hj => by rcases j with _|_|j <;> first | rfl | omega) (by kernel_rfl) m41 (i := 2 * k) (by omega) fun w19 m50 s17 z10 => ?_)))))))))))))))))))))))))))))))))
  have m51 := m40.stp s17 (by omega)
  have b21 := b17.then s17 ing4
  have m52 : Fx.Own w19 B 170 2 (.slice (some ⟨g4, 0, none⟩) (tn + 1) cap2) (tn + 1) (Fx.rv .u64 (flatT (insT t k id par))) := m50.congr (ins_end (by omega))
  refine Ln (sN (Ws (Wl (Lv (.int .i64 (0)) (x_assign rfl rfl) (Ln (sN (Wr (⟨.int .i64 (0), rV Try.results95 (by exact rfl), ?_⟩))))))))
  have ea : addE t tn id par = 0 := by unfold addE; rw [if_neg c9, if_neg (of_decide_eq_false c12), if_neg (fun h => by have := of_decide_eq_true c18; omega), if_neg (fun h => h.elim (fun h => by omega) (deep_no hK1 (by omega)))]
  have ek : k = Fx.down (fun i => decide (id < t i 0)) tn := Fx.down_eq hk (fun i a b => decide_eq_true (hgt i a b)) (.inl (by omega))
  exact ⟨congrArg (fun q => Ending.returned (Value.int .i64 q)) ea.symm, b21, .inr ⟨ea, g4, cap2, m51, by rw [← ek]; exact m52, fun e => neg4 (Option.some.inj e).symm⟩⟩
 rw [Bool.not_eq_true] at c18
 refine Fx.L.call (by rfl) (rC (args := [(pt tb), .int .u64 (par)]) rfl rfl Try.func109 rfl rfl) rfl ((l_has tb ta tn tc t par _ (ownTree m3 m4 hn)).mono ?_)
 rintro e w20 ⟨he, hb6⟩
 refine ⟨.bool false, by rw [he, c18], ?_⟩
 clear he
 have s18 := Sb hb6
 have m53 := m3.stp s18 m3.ne
 have m54 := m4.stp s18 (m4.notNew (Nat.le_refl _))
 have b22 := b2.then s18 (.inr b2.size)
 refine Lv (.bool true) (Fx.x_notT rfl rfl) (Lv (.bool true) (x_pickT rfl rfl rfl) (Ln (sN (Wc (b := true) rfl (fun _ => Ws (Wl (Lv (.int .i64 (9)) (x_assign rfl rfl) ?_))) (fun h => nomatch h)))))
 refine Ln (sN (Wr (sR (⟨.int .i64 (9), rV Try.results95 (by exact rfl), ?_⟩))))
 have ea : addE t tn id par = 9 := by unfold addE; rw [if_neg c9, if_neg (of_decide_eq_false c12), if_pos ⟨c14, by have := of_decide_eq_false c18; omega⟩]
 exact ⟨congrArg (fun q => Ending.returned (Value.int .i64 q)) ea.symm, b22, .inl ⟨by rw [ea]; decide, m53, m54⟩⟩
namespace Rt
def idE (o seq : Int) : Int := if 1 ≤ o ∧ o ≤ 6 ∧ 1 ≤ seq ∧ seq < 1099511627776 then 1099511627776 * o + seq else 0
end Rt
theorem e_id (o seq : Int) (w : World) :
    Calls Try.prog 94 #[.int .i64 (o), .int .u64 (seq)] w fun e w' => e = .returned (.int .u64 (idE o seq)) ∧ w' = w := by
 refine Fx.enter Try.func94 rfl (n := 24) rfl (by rfl) ?_
 refine Ws (Wl (Lv (.int .u64 (0)) (x_assign rfl rfl) (Ln (sN (Ws (Ws (Wl (Lv (.int .i64 (o)) (x_move rfl rfl) ?_))))))))
 by_cases c6 : o < 1
 ·refine Lv (.bool true) (Fx.x_lssT rfl rfl rfl c6) (Lv (.bool true) (x_move rfl rfl) (Lk (by rfl) rfl (Lk (by rfl) rfl (Lv (.bool true) (x_pickT rfl rfl rfl) (Lv (.bool true) (x_move rfl rfl) (Lk (by rfl) rfl (Lk (by rfl) rfl (Lv (.bool true) (x_pickT rfl rfl rfl) (Lv (.bool true) (x_move rfl rfl) (Lk (by rfl) rfl (Lk (by rfl) rfl (Lv (.bool true) (x_pickT rfl rfl rfl) (Ln (sN (Wc (b := true) rfl (fun _ => Ws (Wl (Lv (.int .u64 (0)) (x_assign rfl rfl) ?_))) (fun h => nomatch h))))))))))))))))
  refine Ln (sN (Wr (sR (⟨.int .u64 (0), rV Try.results94 (by exact rfl), ?_⟩))))
  exact ⟨congrArg (fun q => Ending.returned (Value.int .u64 q)) (Eq.symm (by unfold idE; rw [if_neg (by omega)])), rfl⟩
 refine Lv (.bool false) (Fx.x_lssF rfl rfl rfl c6) (Lv (.bool false) (x_move rfl rfl) (Lv (.int .i64 (o)) (x_move rfl rfl) ?_))
 by_cases c9 : 6 < o
 ·refine Lv (.bool true) (Fx.x_gtrT rfl rfl rfl c9) (Lv (.bool true) (x_pickF rfl rfl rfl) (Lv (.bool true) (x_move rfl rfl) (Lk (by rfl) rfl (Lk (by rfl) rfl (Lv (.bool true) (x_pickT rfl rfl rfl) (Lv (.bool true) (x_move rfl rfl) (Lk (by rfl) rfl (Lk (by rfl) rfl (Lv (.bool true) (x_pickT rfl rfl rfl) (Ln (sN (Wc (b := true) rfl (fun _ => Ws (Wl (Lv (.int .u64 (0)) (x_assign rfl rfl) ?_))) (fun h => nomatch h)))))))))))))
  refine Ln (sN (Wr (sR (⟨.int .u64 (0), rV Try.results94 (by exact rfl), ?_⟩))))
  exact ⟨congrArg (fun q => Ending.returned (Value.int .u64 q)) (Eq.symm (by unfold idE; rw [if_neg (by omega)])), rfl⟩
 refine Lv (.bool false) (x_gtrF rfl rfl rfl c9) (Lv (.bool false) (x_pickF rfl rfl rfl) (Lv (.bool false) (x_move rfl rfl) (Lv (.int .u64 (seq)) (x_move rfl rfl) ?_)))
 by_cases c13 : seq < 1
 ·refine Lv (.bool true) (Fx.x_lssT rfl rfl rfl c13) (Lv (.bool true) (x_pickF rfl rfl rfl) (Lv (.bool true) (x_move rfl rfl) (Lk (by rfl) rfl (Lk (by rfl) rfl (Lv (.bool true) (x_pickT rfl rfl rfl) (Ln (sN (Wc (b := true) rfl (fun _ => Ws (Wl (Lv (.int .u64 (0)) (x_assign rfl rfl) ?_))) (fun h => nomatch h)))))))))
  refine Ln (sN (Wr (sR (⟨.int .u64 (0), rV Try.results94 (by exact rfl), ?_⟩))))
  exact ⟨congrArg (fun q => Ending.returned (Value.int .u64 q)) (Eq.symm (by unfold idE; rw [if_neg (by omega)])), rfl⟩
 refine Lv (.bool false) (Fx.x_lssF rfl rfl rfl c13) (Lv (.bool false) (x_pickF rfl rfl rfl) (Lv (.bool false) (x_move rfl rfl) (Lv (.int .u64 (seq)) (x_move rfl rfl) ?_)))
 by_cases c17 : 1099511627776 ≤ seq
 ·refine Lv (.bool true) (Fx.x_geqT rfl rfl rfl c17) (Lv (.bool true) (x_pickF rfl rfl rfl) (Ln (sN (Wc (b := true) rfl (fun _ => Ws (Wl (Lv (.int .u64 (0)) (x_assign rfl rfl) ?_))) (fun h => nomatch h)))))
  refine Ln (sN (Wr (sR (⟨.int .u64 (0), rV Try.results94 (by exact rfl), ?_⟩))))
  exact ⟨congrArg (fun q => Ending.returned (Value.int .u64 q)) (Eq.symm (by unfold idE; rw [if_neg (by omega)])), rfl⟩
 refine Lv (.bool false) (Fx.x_geqF rfl rfl rfl c17) (Lv (.bool false) (x_pickF rfl rfl rfl) (Ln (sN (Wc (b := false) rfl (fun h => nomatch h) (fun _ => Wk (sN (Ws (Wl (Lv (.int .i64 (o)) (x_move rfl rfl) (Lv (.int .u64 (o)) (x_conv rfl rfl (by kernel_rfl) Try.underlying30 (Fx.u64e (by omega) rfl)) (Lv (.int .u64 (1099511627776 * o)) (Fx.x_shl (b := 40) rfl rfl rfl (by decide) (Fx.u64e (by omega) (by omega))) (Lv (.int .u64 (seq)) (x_move rfl rfl) (Lv (.int .u64 (1099511627776 * o + seq)) (Fx.x_add rfl rfl rfl (Fx.u64e (by omega) (by omega))) (Lv (.int .u64 (1099511627776 * o + seq)) (x_assign rfl rfl) (Ln (sN (Wr (⟨.int .u64 (1099511627776 * o + seq), rV Try.results94 (by exact rfl), ?_⟩))))))))))))))))))
 exact ⟨congrArg (fun q => Ending.returned (Value.int .u64 q)) (Eq.symm (by unfold idE; rw [if_pos (by omega)])), rfl⟩
theorem l_few (a : Option Addr) (n cap : Nat) (w : World) :
    Calls Try.prog 9 #[.slice a (n) (cap)] w fun e w' => e = .returned (.bool (decide ((n : Int) ≤ 60))) ∧ w' = w := by
 refine Fx.enter Try.func9 rfl (n := 6) rfl (by rfl) ?_
 refine Ws (Wl (Lv (.bool false) (x_assign rfl rfl) (Ln (sN (Ws (Wl (Lv (.slice a (n) (cap)) (x_move rfl rfl) (Lv (.int .i64 ((n : Int))) (x_len rfl rfl rfl (by kernel_rfl)) ?_))))))))
 by_cases c5 : (n : Int) ≤ 60
 ·refine Lv (.bool true) (Fx.x_leqT rfl rfl rfl c5) (Lv (.bool true) (x_assign rfl rfl) (Ln (sN (Wr (⟨.bool true, rV Try.results9 (by exact rfl), ?_⟩)))))
  exact ⟨congrArg (fun q => Ending.returned (Value.bool q)) (Eq.symm (decide_eq_true c5)), rfl⟩
 refine Lv (.bool false) (x_leqF rfl rfl rfl c5) (Lv (.bool false) (x_assign rfl rfl) (Ln (sN (Wr (⟨.bool false, rV Try.results9 (by exact rfl), ?_⟩)))))
 exact ⟨congrArg (fun q => Ending.returned (Value.bool q)) (Eq.symm (decide_eq_false c5)), rfl⟩
section
theorem app0 {s : Nat} {x y : Nat → Value} (j : Nat) : Fx.appX x (0 * s) y j = y j := by unfold Fx.appX; rw [Nat.zero_mul, if_neg (Nat.not_lt_zero _)]; rfl
theorem ndY_one' (id par : Int) (R : Nat → Int) (j : Nat) : (ndY id par R j).oneCell' = true := by unfold ndY; split <;> (try split) <;> rfl
theorem ndY_at (id par : Int) (R : Nat → Int) {q p : Nat} (h : q = p + 2) : ndY id par R q = .int .i64 (R p) := by subst h; unfold ndY; rw [if_neg (by omega), if_neg (by omega), Nat.add_sub_cancel]
theorem grY_one (x : Nat → Int) (j : Nat) : (grY x j).oneCell' = true := by unfold grY; split <;> (try split) <;> rfl
theorem ndX_one (m : LdM) (j : Nat) : (ndX m j).oneCell' = true := ndY_one' _ _ _ _
theorem grX_one (m : LdM) (j : Nat) : (grX m j).oneCell' = true := grY_one _ _
def reqV (m : LdM) (i : Nat) : Value := .slice (m.ra i) (m.rn i) (m.rc i)
def Rqs (w : World) (B k : Nat) (m : LdM) : Prop :=
  (∀ i, i < k → Fx.Own w B 30 1 (reqV m i) (m.rn i) (Fx.rv .u64 (m.rq i))) ∧ ∀ i j, i < k → j < k → i ≠ j → ∀ g, (reqV m i).ownBlock = some g → (reqV m j).ownBlock ≠ some g
section
variable {w w' : World} {B k : Nat} {m : LdM}
theorem Rqs.up (h : Rqs w B k m) (hb : Below w.heap.size w w') : Rqs w' B k m := ⟨fun i hi => (h.1 i hi).up hb, h.2⟩
theorem Rqs.chT {Ts : List TypeId} (h : Rqs w B k m) (hs : Fx.ChT Ts w w') (ne : Ts.contains 30 = false) : Rqs w' B k m := ⟨fun i hi => (h.1 i hi).chT hs ne, h.2⟩
theorem Rqs.zero (w : World) (B : Nat) (m : LdM) : Rqs w B 0 m := ⟨fun _ h => absurd h (Nat.not_lt_zero _), fun _ _ h => absurd h (Nat.not_lt_zero _)⟩
theorem Rqs.fresh (h : Rqs w B k m) {v : Value} (hv : v = .slice none 0 0 ∨ v.ownBlock = (Value.slice none 0 0).ownBlock ∨ v.ownBlock = some w.heap.size) : ∀ i, i < k → ∀ g, (reqV m i).ownBlock = some g → v.ownBlock ≠ some g := fun i hi g hg e => by
  have h1 := ((h.1 i hi).ge hg).2
  rcases hv with rfl | e2 | e2
  · cases e
  · rw [e] at e2; cases e2
  · rw [e] at e2; have := Option.some.inj e2; omega
theorem Rqs.snoc {m' : LdM} (h : Rqs w B k m) (hm : ∀ i, i < k → reqV m' i = reqV m i ∧ m'.rn i = m.rn i ∧ m'.rq i = m.rq i) (hO : Fx.Own w B 30 1 (reqV m' k) (m'.rn k) (Fx.rv .u64 (m'.rq k))) (hf : ∀ i, i < k → ∀ g, (reqV m i).ownBlock = some g → (reqV m' k).ownBlock ≠ some g) : Rqs w B (k + 1) m' := by
  refine ⟨fun i hi => ?_, fun i j hi hj hne g hg => ?_⟩
  · by_cases e : i = k
    · subst e; exact hO
    obtain ⟨h1, h2, h3⟩ := hm i (by omega)
    rw [h1, h2, h3]; exact h.1 i (by omega)
  by_cases ei : i = k
  · subst ei
    by_cases ej : j = i
    · exact absurd ej.symm hne
    intro e2
    rw [(hm j (by omega)).1] at e2
    exact hf j (by omega) g e2 hg
  rw [(hm i (by omega)).1] at hg
  by_cases ej : j = k
  · subst ej; exact hf i (by omega) g hg
  rw [(hm j (by omega)).1]; exact h.2 i j (by omega) (by omega) hne g hg
end
structure LdO (w : World) (B p : Nat) (m : LdM) : Prop where
  c : Fx.Blk w p 27 (ldY m) 70
  n : Fx.Own w B 123 56 (.slice m.s.na m.s.nn m.s.nc) m.s.nn (ndX m)
  g : Fx.Own w B 159 5 (.slice m.s.ga m.s.gn m.s.gc) m.s.gn (grX m)
  tc : Fx.Blk w m.tb 1 (fun _ => .slice m.ta m.tn m.tc) 117
  t : Fx.Own w B 170 2 (.slice m.ta m.tn m.tc) m.tn (trX m.t)
  r : Rqs w B 6 m
  pB : B ≤ p
  tB : B ≤ m.tb
  bn : m.s.nn ≤ 1000
  bg : m.s.gn ≤ 1000000
  bt : m.tn ≤ 1000
  br : ∀ i, i < 6 → m.rn i ≤ 1000000
section
variable {w w' : World} {B p : Nat} {m : LdM}
theorem LdO.ldg (h : LdO w B p m) : Ldg w p m where
  c := h.c.cel
  an := h.n.arr
  ag := h.g.arr
  tc := h.tc.cel
  at2 := h.t.arr
  ar := fun i hi => (h.r.1 i hi).arr
  bn := by have := h.bn; omega
  bg := h.bg
  bt := by have := h.bt; omega
  br := h.br
theorem LdO.up (h : LdO w B p m) (hb : Below w.heap.size w w') : LdO w' B p m := { h with c := h.c.stp (Sb hb) (Nat.ne_of_lt h.c.lt), n := h.n.up hb, g := h.g.up hb, tc := h.tc.stp (Sb hb) (Nat.ne_of_lt h.tc.lt), t := h.t.up hb, r := h.r.up hb }
def ldTs : List Nat := [70, 123, 159, 117, 170, 30]
theorem LdO.chT {Ts : List TypeId} (h : LdO w B p m) (hs : Fx.ChT Ts w w') (ne : (ldTs.all fun T => !Ts.contains T) = true) : LdO w' B p m := by
  have hq : ∀ T' ∈ ldTs, Ts.contains T' = false := fun T' hT => by
    have := List.all_eq_true.1 ne T' hT
    simpa using this
  exact { h with
    c := h.c.chT hs (hq _ (by decide)), n := h.n.chT hs (hq _ (by decide)), g := h.g.chT hs (hq _ (by decide)), tc := h.tc.chT hs (hq _ (by decide)), t := h.t.chT hs (hq _ (by decide)), r := h.r.chT hs (hq _ (by decide)) }
theorem LdO.mono {B' : Nat} (h : LdO w B p m) (hB : B' ≤ B) : LdO w B' p m := { h with n := h.n.mono hB, g := h.g.mono hB, t := h.t.mono hB, r := ⟨fun i hi => (h.r.1 i hi).mono hB, h.r.2⟩, pB := Nat.le_trans hB h.pB, tB := Nat.le_trans hB h.tB }
end
def cpM (m : LdM) (na : Option Addr) (nc : Nat) (ga : Option Addr) (gc tb : Nat) (ta : Option Addr) (tc : Nat) (ra : Nat → Option Addr) (rc : Nat → Nat) (k : Nat) : LdM :=
  { m with s := { m.s with na := na, nc := nc, ga := ga, gc := gc }, tb := tb, ta := ta, tc := tc, ra := fun i => if i < k then ra i else none, rn := fun i => if i < k then m.rn i else 0, rc := fun i => if i < k then rc i else 0 }
def updA {α : Type} (f : Nat → α) (k : Nat) (v : α) : Nat → α := fun i => if i = k then v else f i
section
variable {m : LdM} {na : Option Addr} {nc : Nat} {ga : Option Addr} {gc tb : Nat} {ta : Option Addr} {tc : Nat} {ra : Nat → Option Addr} {rc : Nat → Nat} {k : Nat}
theorem cpM_nil {q : Nat} (h : q = k + 21) : ldY (cpM m na nc ga gc tb ta tc ra rc k) q = .slice none 0 0 := by
  subst h
  rw [ldY_req (p := k) _ rfl]
  show Value.slice (if k < k then ra k else none) (if k < k then m.rn k else 0) (if k < k then rc k else 0) = _
  rw [if_neg (Nat.lt_irrefl _), if_neg (Nat.lt_irrefl _), if_neg (Nat.lt_irrefl _)]
theorem cpM_req {i : Nat} (h : i < k) : reqV (cpM m na nc ga gc tb ta tc ra rc k) i = .slice (ra i) (m.rn i) (rc i) := by
  show Value.slice (if i < k then ra i else none) (if i < k then m.rn i else 0) (if i < k then rc i else 0) = _
  rw [if_pos h, if_pos h, if_pos h]
theorem cpM_step {a : Option Addr} {c q : Nat} (hq : q = k + 21) : Fx.updV (ldY (cpM m na nc ga gc tb ta tc ra rc k)) q (.slice a (m.rn k) c) = ldY (cpM m na nc ga gc tb ta tc (updA ra k a) (updA rc k c) (k + 1)) := by
  subst hq
  funext p
  unfold Fx.updV
  by_cases e : p = k + 21
  · subst e; rw [if_pos rfl]
    rw [ldY_req (p := k) _ rfl]
    show _ = Value.slice (if k < k + 1 then updA ra k a k else none) (if k < k + 1 then m.rn k else 0) (if k < k + 1 then updA rc k c k else 0)
    simp [updA]
  rw [if_neg e]
  unfold ldY
  by_cases h : p < 20
  · rw [if_pos h, if_pos h]; rfl
  rw [if_neg h, if_neg h]
  by_cases h2 : p = 20
  · rw [if_pos h2, if_pos h2]; rfl
  rw [if_neg h2, if_neg h2]
  show Value.slice (if p - 21 < k then ra (p - 21) else none) (if p - 21 < k then m.rn (p - 21) else 0) (if p - 21 < k then rc (p - 21) else 0) = Value.slice (if p - 21 < k + 1 then updA ra k a (p - 21) else none) (if p - 21 < k + 1 then m.rn (p - 21) else 0) (if p - 21 < k + 1 then updA rc k c (p - 21) else 0)
  by_cases h3 : p - 21 < k
  · simp [updA, h3, show p - 21 < k + 1 by omega, show ¬ p - 21 = k by omega]
  simp [h3, show ¬ p - 21 < k + 1 by omega]
theorem cpM_rqs {w : World} {B : Nat} {a : Option Addr} {c : Nat} (h : Rqs w B k (cpM m na nc ga gc tb ta tc ra rc k)) (hO : Fx.Own w B 30 1 (.slice a (m.rn k) c) (m.rn k) (Fx.rv .u64 (m.rq k)))
    (hf : ∀ i, i < k → ∀ g, (reqV (cpM m na nc ga gc tb ta tc ra rc k) i).ownBlock = some g → (Value.slice a (m.rn k) c).ownBlock ≠ some g) : Rqs w B (k + 1) (cpM m na nc ga gc tb ta tc (updA ra k a) (updA rc k c) (k + 1)) := by
  have e1 : reqV (cpM m na nc ga gc tb ta tc (updA ra k a) (updA rc k c) (k + 1)) k = .slice a (m.rn k) c := by
    rw [cpM_req (by omega)]; unfold updA; rw [if_pos rfl, if_pos rfl]
  refine h.snoc (fun i hi => ⟨?_, ?_, rfl⟩) ?_ ?_
  · rw [cpM_req (by omega), cpM_req hi]; unfold updA; rw [if_neg (by omega), if_neg (by omega)]
  · show (if i < k + 1 then m.rn i else 0) = (if i < k then m.rn i else 0)
    rw [if_pos (by omega), if_pos hi]
  · rw [e1]
    show Fx.Own w B 30 1 _ (if k < k + 1 then m.rn k else 0) _
    rw [if_pos (by omega)]; exact hO
  rw [e1]; exact hf
end
def atM (m : LdM) (na : Option Addr) (nc : Nat) (ga : Option Addr) (gc tb : Nat) (ta : Option Addr) (tc : Nat) (ra : Nat → Option Addr) (rc : Nat → Nat) : LdM :=
  { m with s := { m.s with na := na, nc := nc, ga := ga, gc := gc }, tb := tb, ta := ta, tc := tc, ra := ra, rc := rc }
section
variable {m : LdM} {na : Option Addr} {nc : Nat} {ga : Option Addr} {gc tb : Nat} {ta : Option Addr} {tc : Nat} {ra : Nat → Option Addr} {rc : Nat → Nat}
theorem atM_y : ∀ j, j < 27 → ldY (cpM m na nc ga gc tb ta tc ra rc 6) j = ldY (atM m na nc ga gc tb ta tc ra rc) j := fun j hj => by
  unfold ldY
  by_cases h : j < 20
  · rw [if_pos h, if_pos h]; rfl
  · rw [if_neg h, if_neg h]
    by_cases h2 : j = 20
    · rw [if_pos h2, if_pos h2]; rfl
    · rw [if_neg h2, if_neg h2]
      show Value.slice (if j - 21 < 6 then ra (j - 21) else none) (if j - 21 < 6 then m.rn (j - 21) else 0) (if j - 21 < 6 then rc (j - 21) else 0) = Value.slice (ra (j - 21)) (m.rn (j - 21)) (rc (j - 21))
      rw [if_pos (by omega), if_pos (by omega), if_pos (by omega)]
theorem atM_rqs {w : World} {B : Nat} (h : Rqs w B 6 (cpM m na nc ga gc tb ta tc ra rc 6)) : Rqs w B 6 (atM m na nc ga gc tb ta tc ra rc) := by
  refine ⟨fun i hi => ?_, fun i j hi hj hne g hg => ?_⟩
  · have := h.1 i hi
    rw [cpM_req hi] at this
    have e : (cpM m na nc ga gc tb ta tc ra rc 6).rn i = m.rn i := by show (if i < 6 then m.rn i else 0) = _; rw [if_pos hi]
    rw [e] at this
    exact this
  have := h.2 i j hi hj hne g
  rw [cpM_req hi, cpM_req hj] at this
  exact this hg
end
end
section
namespace Rt
structure LgM where
  K : Nat → Int
  cnt : Int
  a : Nat → Option Addr
  c : Nat → Nat
  L : Nat → List ItM
def lvV (m : LgM) (k : Nat) : Value := .slice (m.a k) (m.L k).length (m.c k)
def lgY (m : LgM) : Nat → Value := fun p => if p < 6 then lvV m p else if p < 12 then .int .u64 (m.K (p - 6)) else .int .u64 m.cnt
theorem lgY_v (m : LgM) {k : Nat} (h : k < 6) : lgY m k = lvV m k := if_pos h
theorem lgY_K (m : LgM) {p k : Nat} (e : p = k + 6) (h : k < 6) : lgY m p = .int .u64 (m.K k) := by
  subst e; unfold lgY; rw [if_neg (by omega), if_pos (by omega), Nat.add_sub_cancel]
theorem lgY_put (m : LgM) {i : Nat} (hi : i < 6) (a : Option Addr) (n c : Nat) (l : List ItM) (hl : n = l.length) : Fx.updV (lgY m) i (.slice a n c) = lgY { m with a := updA m.a i a, c := updA m.c i c, L := updA m.L i l } := by
  subst hl
  funext p
  unfold Fx.updV lgY
  by_cases h : p = i
  · subst h; rw [if_pos rfl, if_pos hi]; simp [lvV, updA]
  rw [if_neg h]
  by_cases h2 : p < 6
  · rw [if_pos h2, if_pos h2]; simp [lvV, updA, h]
  rw [if_neg h2, if_neg h2]
theorem lgY_known (m : LgM) {i q : Nat} (hq : q = i + 6) (hi : i < 6) (x : Int) : Fx.updV (lgY m) q (.int .u64 x) = lgY { m with K := upd m.K i x } := by
  subst hq
  funext p
  unfold Fx.updV lgY
  by_cases h : p = i + 6
  · subst h; rw [if_pos rfl, if_neg (by omega), if_pos (by omega), Nat.add_sub_cancel]; simp [upd]
  rw [if_neg h]
  by_cases h2 : p < 6
  · rw [if_pos h2, if_pos h2]; rfl
  rw [if_neg h2, if_neg h2]
  by_cases h3 : p < 12
  · rw [if_pos h3, if_pos h3]; simp [upd, show ¬ p - 6 = i by omega]
  rw [if_neg h3, if_neg h3]
theorem lgY_cnt (m : LgM) (x : Int) : ∀ j, j < 13 → Fx.updV (lgY m) 12 (.int .u64 x) j = lgY { m with cnt := x } j := fun j hj => by
  unfold Fx.updV lgY
  by_cases h : j = 12
  · subst h; rfl
  · rw [if_neg h]
    by_cases h2 : j < 6
    · rw [if_pos h2, if_pos h2]; rfl
    · rw [if_neg h2, if_neg h2]
      by_cases h3 : j < 12
      · rw [if_pos h3, if_pos h3]
      · omega
def Lss (w : World) (B : Nat) (m : LgM) : Prop :=
  (∀ i, i < 6 → Fx.Own w B 106 15 (lvV m i) (m.L i).length (itX (m.L i))) ∧ ∀ i j, i < 6 → j < 6 → i ≠ j → ∀ g, (lvV m i).ownBlock = some g → (lvV m j).ownBlock ≠ some g
section
variable {w w' : World} {B : Nat} {m : LgM}
theorem Lss.up (h : Lss w B m) (hb : Below w.heap.size w w') : Lss w' B m := ⟨fun i hi => (h.1 i hi).up hb, h.2⟩
theorem Lss.chT {Ts : List TypeId} (h : Lss w B m) (hs : Fx.ChT Ts w w') (ne : Ts.contains 106 = false) : Lss w' B m := ⟨fun i hi => (h.1 i hi).chT hs ne, h.2⟩
theorem Lss.chg {S : Nat → Prop} (h : Lss w B m) (hs : Fx.Chg S w w') (ne : ∀ i, i < 6 → ∀ g, (lvV m i).ownBlock = some g → ¬ S g) : Lss w' B m := ⟨fun i hi => (h.1 i hi).chg hs (ne i hi), h.2⟩
theorem Lss.put {a cap : Nat} {ad : Option Addr} {l : List ItM} (h : Lss w B m) (ha : a < 6)
    (hO : Fx.Own w' B 106 15 (.slice ad l.length cap) l.length (itX l)) (hk : ∀ i, i < 6 → i ≠ a → Fx.Own w' B 106 15 (lvV m i) (m.L i).length (itX (m.L i))) (hgv : ∀ g, (Value.slice ad l.length cap).ownBlock = some g → (lvV m a).ownBlock = some g ∨ w.heap.size ≤ g) :
    Lss w' B { m with a := updA m.a a ad, c := updA m.c a cap, L := updA m.L a l } := by
  have e1 : ∀ i, i ≠ a → lvV { m with a := updA m.a a ad, c := updA m.c a cap, L := updA m.L a l } i = lvV m i := fun i hi => by unfold lvV; simp [updA, hi]
  have e2 : lvV { m with a := updA m.a a ad, c := updA m.c a cap, L := updA m.L a l } a = .slice ad l.length cap := by unfold lvV; simp [updA]
  have hne : ∀ i, i < 6 → i ≠ a → ∀ q, (lvV m i).ownBlock = some q → (Value.slice ad l.length cap).ownBlock ≠ some q := fun i hi hia q hq e => by
    rcases hgv q e with e3 | e3
    · exact h.2 i a hi ha hia q hq e3
    · have := ((h.1 i hi).ge hq).2; omega
  refine ⟨fun i hi => ?_, fun i j hi hj hij q hq => ?_⟩
  · by_cases e : i = a
    · subst e; rw [e2]; simp only [updA, if_true]; exact hO
    rw [e1 i e]; simp only [updA, if_neg e]; exact hk i hi e
  by_cases e : i = a
  · subst e
    rw [e2] at hq
    rw [e1 j (fun e => hij e.symm)]
    intro h5
    exact hne j hj (fun e => hij e.symm) q h5 hq
  rw [e1 i e] at hq
  by_cases e4 : j = a
  · subst e4; rw [e2]; intro h5; exact hne i hi e q hq h5
  rw [e1 j e4]; exact h.2 i j hi hj hij q hq
end
structure LgO (w : World) (B p : Nat) (m : LgM) (T : Nat) : Prop where
  blk : Fx.Blk w p 13 (lgY m) 100
  ls : Lss w B m
  gp : B ≤ p
  len : ∀ i, i < 6 → (m.L i).length ≤ T
  cn : 0 ≤ m.cnt ∧ m.cnt ≤ T
  kr : Kr m.K
  wf : ∀ i, i < 6 → ∀ x ∈ m.L i, EvWf x.e
def lgS (p : Nat) (m : LgM) (k : Nat) : Prop := k = p ∨ ∃ i, i < 6 ∧ (lvV m i).ownBlock = some k
section
variable {w w' : World} {B p T : Nat} {m : LgM}
theorem LgO.up (h : LgO w B p m T) (hb : Below w.heap.size w w') : LgO w' B p m T := { h with blk := h.blk.stp (Sb hb) (Nat.ne_of_lt h.blk.lt), ls := h.ls.up hb }
theorem LgO.chT {Ts : List TypeId} (h : LgO w B p m T) (hs : Fx.ChT Ts w w') (h1 : Ts.contains 106 = false ∧ Ts.contains 100 = false) : LgO w' B p m T := { h with blk := h.blk.chT hs h1.2, ls := h.ls.chT hs h1.1 }
theorem LgO.chg {S : Nat → Prop} (h : LgO w B p m T) (hs : Fx.Chg S w w') (ne : ∀ k, lgS p m k → ¬ S k) : LgO w' B p m T := { h with blk := h.blk.chg hs (ne p (.inl rfl)), ls := h.ls.chg hs fun i hi g hg => ne g (.inr ⟨i, hi, hg⟩) }
theorem LgO.mono {T' : Nat} (h : LgO w B p m T) (hT : T ≤ T') : LgO w B p m T' := { h with len := fun i hi => Nat.le_trans (h.len i hi) hT, cn := ⟨h.cn.1, by have := h.cn.2; omega⟩ }
theorem LgO.ge (h : LgO w B p m T) : ∀ k, lgS p m k → B ≤ k ∧ k < w.heap.size := fun k hk => by
  rcases hk with rfl | ⟨i, hi, e⟩
  · exact ⟨h.gp, h.blk.lt⟩
  · exact (h.ls.1 i hi).ge e
theorem LgO.typ (h : LgO w B p m T) : ∀ k, lgS p m k → ∃ T, Fx.Ty w k T ∧ [106, 100].contains T = true := fun k hk => by
  rcases hk with rfl | ⟨i, hi, e⟩
  · exact ⟨_, h.blk.ty, by decide⟩
  · exact ⟨_, (h.ls.1 i hi).ty e, by decide⟩
theorem LgO.arr (h : LgO w B p m T) {i : Nat} (hi : i < 6) : Fx.Arr w (m.a i) (m.L i).length 15 (itX (m.L i)) := (h.ls.1 i hi).arr
theorem LgO.chm (h : LgO w B p m T) (hs : Fx.Chg (lgS p m) w w') : Fx.ChT [106, 100] w w' := Fx.ChT.of_chg hs h.typ
theorem LgO.below (h : LgO w B p m T) (hB : B ≤ w.heap.size) (hs : Fx.Chg (lgS p m) w w') : Below B w w' := Fx.Chg.below (Below.refl B w) hs (fun k hk => (h.ge k hk).1) hB
end
def lenN (m : LgM) : Nat → Nat
  | 0 => 0
  | k + 1 => lenN m k + (m.L k).length
theorem lenN_le {m : LgM} {T : Nat} (h : ∀ i, i < 6 → (m.L i).length ≤ T) : ∀ k, k ≤ 6 → lenN m k ≤ k * T
  | 0, _ => Nat.zero_le _
  | k + 1, hk => by have h1 := lenN_le h k (by omega); have h2 := h k (by omega); unfold lenN; rw [Nat.add_mul, Nat.one_mul]; omega
def newL : LgM := ⟨fun _ => 0, 0, fun _ => none, fun _ => 0, fun _ => []⟩
end Rt
open Rt
theorem o_new (T : Nat) (w : World) :
    Calls Try.prog 17 #[] w fun e w' => ∃ p, e = .returned ((pt p)) ∧ LgO w' w.heap.size p newL T ∧ Below w.heap.size w w' := by
 refine Fx.enter Try.func17 rfl (n := 3) rfl (by rfl) ?_
 refine Ws (Wl (Lv (.pointer none) (x_assign rfl rfl) (Ln (sN (Ws (Wl (Lv (.agg (Fx.varr 13 (fun zq => if zq < 6 then .slice none 0 0 else .int .u64 (0)))) (x_build (vs := []) (places := #[(0, 6), (6, 6), (12, 1)]) (m := 13) (x := fun zq => if zq < 6 then .slice none 0 0 else .int .u64 (0)) rfl rfl Try.underlying100 (by kernel_rfl) (by kernel_rfl) (by rfl)) (Fx.L.box (m := 13) (y := fun zq => if zq < 6 then .slice none 0 0 else .int .u64 (0)) (by rfl) rfl rfl (Fx.cells_agg _ _) rfl fun g1 w1 eg1 m1 s1 z1 => ?_))))))))
 have b1 := s1.below (Below.refl w.heap.size w) (Below.refl w.heap.size w).size (Below.refl w.heap.size w).size
 have lg1 : w.heap.size ≤ g1 := by rw [eg1]; exact (Below.refl w.heap.size w).size
 have tg1 : g1 < w1.heap.size := m1.lt
 clear eg1
 refine Lv ((pt g1)) (x_assign rfl rfl) (Ln (sN (Wr (⟨(pt g1), rV Try.results17 (by exact rfl), ?_⟩))))
 exact ⟨_, rfl, ⟨m1.congr (fun j hj => by rcases j with _|_|_|_|_|_|_|_|_|_|_|_|_|j <;> first | rfl | omega), ⟨fun i hi => Fx.Own.nil _ _ _ _ _, fun i j hi hj hij g hg => by cases hg⟩, lg1, fun i hi => Nat.zero_le _, ⟨Int.le_refl _, by show (0 : Int) ≤ _; omega⟩, fun i hi => ⟨Int.le_refl _, by show (0 : Int) ≤ _; decide⟩, fun i hi x hx => by cases hx⟩, b1⟩
theorem o_known (m : LgM) (B p T : Nat) (w : World) (h : LgO w B p m T) :
    Calls Try.prog 27 #[(pt p)] w fun e w' => e = .returned (.agg (Fx.varr 6 (Fx.rv .u64 m.K))) ∧ Below w.heap.size w w' := by
 refine Fx.enter Try.func27 rfl (n := 10) rfl (by rfl) ?_
 have hbk := h.blk
 have tp := hbk.lt
 refine Ws (Wl (Fx.L.new (m := 6) (y := Fx.rv .u64 (fun _ => 0)) (by rfl) rfl (by kernel_rfl) rfl fun g1 w1 eg1 m1 s1 z1 => ?_))
 have m2 := hbk.stp s1 hbk.ne
 have b1 := s1.below (Below.refl w.heap.size w) (Below.refl w.heap.size w).size (Below.refl w.heap.size w).size
 have lg1 : w.heap.size ≤ g1 := by rw [eg1]; exact (Below.refl w.heap.size w).size
 have ng1m2 : p ≠ g1 := by rw [eg1]; exact Nat.ne_of_lt (hbk.lt)
 have tg1 : g1 < w1.heap.size := m1.lt
 clear eg1
 refine Ln (sN (Ws (Ws (Wl (Lv ((pt p)) (x_move rfl rfl) (Lv (.bool false) (Fx.x_eqNil rfl rfl rfl (by kernel_rfl)) (Ln (sN (Wc (b := false) rfl (fun h => nomatch h) (fun _ => Wk (sN (Ws (Wl (Lv ((pt p)) (x_move rfl rfl) (Lv ((pt p)) (x_nil rfl rfl) (Lv ((pf p 6)) (x_field rfl rfl Try.underlying100 rfl (s := 6) (by kernel_rfl) rfl (by show _ + 6 = _; omega)) (Lv (.agg (Fx.varr 6 (Fx.rv .u64 m.K))) (x_loadA (x := lgY m) (y := Fx.rv .u64 m.K) rfl rfl (by kernel_rfl) (by kernel_rfl) m2.cel (i := 6) (by omega) (by omega) (fun j hj => lgY_K m (by omega) hj)) (Fx.L.storeA (x := Fx.rv .u64 (fun _ => 0)) (y := Fx.rv .u64 m.K) (by rfl) rfl rfl rfl rfl (fun _ _ => rfl) (by kernel_rfl) m1 (i := 0) (by omega) fun w2 m3 s2 z2 => ?_))))))))))))))))))
 have m4 : Fx.Blk w2 g1 6 (Fx.rv .u64 m.K) 32 := Fx.ovr_all m3
 have m5 := m2.stp s2 (by omega)
 have b2 := s2.below b1 b1.size (by omega)
 refine Ln (sN (Wr (⟨.agg (Fx.varr 6 (Fx.rv .u64 m.K)), rV Try.results27 ⟨_, rfl, Fx.run_loadV m4.cel (by kernel_rfl) (by kernel_rfl)⟩, ?_⟩)))
 exact ⟨rfl, b2⟩
theorem o_len (m : LgM) (B p T : Nat) (w : World) (h : LgO w B p m T) (hT : T ≤ 1000000) :
    Calls Try.prog 30 #[(pt p)] w fun e w' => e = .returned (.int .i64 ((lenN m 6 : Nat) : Int)) ∧ Below w.heap.size w w' := by
 refine Fx.enter Try.func30 rfl (n := 20) rfl (by rfl) ?_
 have hbk := h.blk
 have tp := hbk.lt
 refine Ws (Wl (Lv (.int .i64 (0)) (x_assign rfl rfl) (Ln (sN (Ws (Ws (Wl (Lv ((pt p)) (x_move rfl rfl) (Lv (.bool false) (Fx.x_eqNil rfl rfl rfl (by kernel_rfl)) (Ln (sN (Wc (b := false) rfl (fun h => nomatch h) (fun _ => Wk (sN (Ws (Ws (Wl (Lv ((pt p)) (x_move rfl rfl) (Lv ((pt p)) (x_nil rfl rfl) (Lv ((pt p)) (x_field rfl rfl Try.underlying100 rfl (s := 6) (by kernel_rfl) rfl rfl) (Lv (.agg (Fx.varr 6 (lvV m))) (x_loadA (x := lgY m) (y := lvV m) rfl rfl (by kernel_rfl) (by kernel_rfl) hbk.cel (i := 0) (by omega) (by omega) (fun j hj => by rw [Nat.zero_add]; exact lgY_v m hj)) (Lv (.int .i64 (0)) (x_move rfl rfl) (Ln (sN (Fx.W.block (Fx.W.loop (fun f w_ => ∃ k : Nat, k ≤ 6 ∧ f 2 = .int .i64 (((lenN m k : Nat) : Int)) ∧ f 10 = .agg (Fx.varr 6 (lvV m)) ∧ f 11 = .int .i64 ((k : Int)) ∧ Fx.Blk w_ p 13 (lgY m) 100 ∧ Below w.heap.size w w_) (fun f _ => (6 - (intOf (f 11)).toNat)) ⟨0, by omega, (by rfl), (by rfl), Fx.ic, hbk, (Below.refl w.heap.size w)⟩ ?_))))))))))))))))))))))))))
 rintro f1 w1 ⟨k, hk, h1, h2, h3, m1, b1⟩
 refine Ws (Wl ?_)
 by_cases c12 : (k : Int) < 6
 ·refine Lv (.bool true) (Fx.x_lssT rfl h3 rfl c12) (Ln (sN (Ws (Wc (b := true) rfl (fun _ => Wk (sN (Ws (Fx.W.block (Ws (Wl (Lv (.slice (m.a k) ((m.L k).length) ((m.c k))) (Fx.x_indexV (j := k) (y := lvV m) rfl h2 h3 Try.underlying98 (by kernel_rfl) (by kernel_rfl) (by omega) (rfl)) ?_))))))) (fun h => nomatch h)))))
  refine Lv (.slice (m.a k) ((m.L k).length) ((m.c k))) (x_assign rfl rfl) (Ln (sN ?_))
  have hk1 := h.len k (by omega)
  have hk2 := lenN_le h.len k (by omega)
  have hk3 : k * T ≤ 6 * 1000000 := Nat.mul_le_mul (by omega) hT
  refine Wl (Lv (.int .i64 (((lenN m k : Nat) : Int))) (x_move rfl h1) (Lv (.slice (m.a k) ((m.L k).length) ((m.c k))) (x_move rfl rfl) (Lv (.int .i64 ((((m.L k).length : Nat) : Int))) (x_len rfl rfl rfl (by kernel_rfl)) (Lv (.int .i64 (((lenN m k : Nat) : Int) + (((m.L k).length : Nat) : Int))) (Fx.x_add rfl rfl rfl Fx.io) (Lv (.int .i64 (((lenN m k : Nat) : Int) + (((m.L k).length : Nat) : Int))) (x_assign rfl rfl) (Ln (Fx.blkN (sN (Wl (Lv (.int .i64 ((k : Int) + 1)) (Fx.x_add rfl h3 rfl Fx.io) (Lv (.int .i64 ((k : Int) + 1)) (x_move rfl rfl) (Ln (Fx.lpN ⟨k + 1, by omega, (congrArg (Value.int .i64) (by show _ = ((lenN m k + (m.L k).length : Nat) : Int); omega)), h2, Fx.ic, m1, b1⟩ ?_)))))))))))))
  show (6 - (intOf ((.int .i64 ((k : Int) + 1)))).toNat) < _
  simp only [h3, intOf]; omega
 refine Lv (.bool false) (Fx.x_lssF rfl h3 rfl c12) (Ln (sN (Ws (Wc (b := false) rfl (fun h => nomatch h) (fun _ => Fx.W.exit (Fx.seqX (Fx.lpX (Fx.blkX (sN (Ws (Wl (Lv (.int .i64 (((lenN m k : Nat) : Int))) (x_move rfl h1) (Lv (.int .i64 (((lenN m k : Nat) : Int))) (x_assign rfl rfl) (Ln (sN (Wr (⟨.int .i64 (((lenN m k : Nat) : Int)), rV Try.results30 (by exact rfl), ?_⟩)))))))))))))))))
 have e6 : k = 6 := by omega
 exact ⟨by rw [e6], b1⟩
end
set_option maxRecDepth 20000 in
set_option maxHeartbeats 1000000 in
theorem l_copy (m : LdM) (p : Nat) (w : World) (h : Ldg w p m) (bn1 : m.s.nn ≤ 1000) (bt1 : m.tn ≤ 1000) :
    Calls Try.prog 56 #[(pt p)] w fun e w' => ∃ p' m', e = .returned ((pt p')) ∧ m'.core = m.core ∧ LdO w' w.heap.size p' m' ∧ Below w.heap.size w w' := by
 have hc := h.c
 have lp : p < w.heap.size := hc.lt (by omega)
 have bn := h.bn
 have bg := h.bg
 have bt := h.bt
 have han := h.an
 have hag := h.ag
 have hat := h.at2
 have htc := h.tc
 have ltb : m.tb < w.heap.size := htc.lt (by omega)
 refine Fx.enter Try.func56 rfl (n := 79) rfl (by rfl) ?_
 refine Ws (Wl (Lv (.pointer none) (x_assign rfl rfl) (Ln (sN (Ws (Wl (Lv ((pt p)) (x_move rfl rfl) (Lv ((pt p)) (x_nil rfl rfl) (Lv ((pt p)) (x_field rfl rfl Try.underlying70 rfl (s := 20) (by kernel_rfl) rfl rfl) (Lv (.agg (Fx.varr 20 (stY m.s))) (x_loadA (x := ldY m) (y := stY m.s) rfl rfl (by kernel_rfl) (by kernel_rfl) hc (i := 0) (by omega) (by omega) (fun j hj => (show ldY _ (0 + j) = stY _ j by rw [Nat.zero_add]; exact ldY_st _ hj rfl))) (Lv (.agg (Fx.varr 1 (fun _ => .slice none 0 0))) (x_build (vs := []) (places := #[(0, 1)]) (m := 1) (x := fun _ => .slice none 0 0) rfl rfl Try.underlying117 (by kernel_rfl) (by kernel_rfl) (by rfl)) (Fx.L.box (m := 1) (y := fun _ => .slice none 0 0) (by rfl) rfl rfl (Fx.cells_agg _ _) rfl fun g1 w1 eg1 m1 s1 z1 => ?_))))))))))))
 have m2 := hc.stp s1 (Nat.ne_of_lt (hc.lt (by omega)))
 have m3 := htc.stp s1 (Nat.ne_of_lt (htc.lt (by omega)))
 have b1 := s1.below (Below.refl w.heap.size w) (Below.refl w.heap.size w).size (Below.refl w.heap.size w).size
 have lg1 : w.heap.size ≤ g1 := by rw [eg1]; exact (Below.refl w.heap.size w).size
 have ng1m2 : p ≠ g1 := by rw [eg1]; exact Nat.ne_of_lt (hc.lt (by omega))
 have ng1m3 : m.tb ≠ g1 := by rw [eg1]; exact Nat.ne_of_lt (htc.lt (by omega))
 have tg1 : g1 < w1.heap.size := m1.lt
 clear eg1
 refine Lv (.agg (Fx.varr 27 (Fx.ovr (Fx.ovr (fun zq => if zq < 12 then .bool false else if zq < 18 then .int .u64 (0) else if zq < 20 then .slice none 0 0 else if zq < 21 then .pointer none else .slice none 0 0) 0 20 (stY m.s)) 20 1 (fun _ => (pt g1))))) (x_build (vs := [(0, .agg (Fx.varr 20 (stY m.s))), (1, (pt g1))]) (places := #[(0, 20), (20, 1), (21, 6)]) (m := 27) (x := fun zq => if zq < 12 then .bool false else if zq < 18 then .int .u64 (0) else if zq < 20 then .slice none 0 0 else if zq < 21 then .pointer none else .slice none 0 0) rfl rfl Try.underlying70 (by kernel_rfl) (by kernel_rfl) (by rw [Fx.fill_step (off := 0) (s := 20) (y := stY m.s) (by kernel_rfl) (Fx.cells_agg _ _) (by rfl)]; rw [Fx.fill_step (off := 20) (s := 1) (y := fun _ => (pt g1)) (by kernel_rfl) (Fx.cells_one (by rfl)) (by rfl)]; rfl)) (Fx.L.box (m := 27) (y := Fx.ovr (Fx.ovr (fun zq => if zq < 12 then .bool false else if zq < 18 then .int .u64 (0) else if zq < 20 then .slice none 0 0 else if zq < 21 then .pointer none else .slice none 0 0) 0 20 (stY m.s)) 20 1 (fun _ => (pt g1))) (by rfl) rfl rfl (Fx.cells_agg _ _) rfl fun g2 w2 eg2 m4 s2 z2 => ?_)
 have m5 := m2.stp s2 (Nat.ne_of_lt (m2.lt (by omega)))
 have m6 := m3.stp s2 (Nat.ne_of_lt (m3.lt (by omega)))
 have m7 := m1.stp s2 m1.ne
 have b2 := s2.below b1 b1.size b1.size
 have lg2 : w.heap.size ≤ g2 := by rw [eg2]; exact b1.size
 have ng2m5 : p ≠ g2 := by rw [eg2]; exact Nat.ne_of_lt (m2.lt (by omega))
 have ng2m6 : m.tb ≠ g2 := by rw [eg2]; exact Nat.ne_of_lt (m3.lt (by omega))
 have ng2m7 : g1 ≠ g2 := by rw [eg2]; exact Nat.ne_of_lt (m1.lt)
 have tg2 : g2 < w2.heap.size := m4.lt
 clear eg2
 refine Lv ((pt g2)) (x_assign rfl rfl) (Ln (sN (Ws (Wl (Lv ((pt g2)) (x_move rfl rfl) (Fx.L.bslice0 (s := 56) (by rfl) rfl Try.underlying62 (by kernel_rfl) rfl fun g3 w3 eg3 hO1 s3 => ?_))))))
 have m8 : Fx.Own w3 w.heap.size 123 56 (.slice (some ⟨g3, 0, none⟩) 0 0) 0 (ndX m) := hO1 _ _ (by rw [eg3]; exact b2.size)
 have m9 := m5.stp s3 (Nat.ne_of_lt (m5.lt (by omega)))
 have m10 := m6.stp s3 (Nat.ne_of_lt (m6.lt (by omega)))
 have m11 := m7.stp s3 m7.ne
 have m12 := m4.stp s3 m4.ne
 have b3 := s3.below b2 b2.size b2.size
 clear eg3
 refine Lv ((pt p)) (x_move rfl rfl) (Lv ((pt p)) (x_nil rfl rfl) (Lv ((pt p)) (x_field rfl rfl Try.underlying70 rfl (s := 20) (by kernel_rfl) rfl rfl) (Lv ((pf p 18)) (x_field rfl rfl Try.underlying65 rfl (s := 1) (by kernel_rfl) rfl (by show _ + 18 = _; omega)) (Lv (.slice m.s.na (m.s.nn) (m.s.nc)) (x_load1 (x := ldY m) rfl rfl (by kernel_rfl) m9 (i := 18) (by omega) (by omega) rfl) (Fx.L.appAny (B := w.heap.size) (s := 56) (bytes := 448) (k := 0) (m := m.s.nn) (v := .slice (some ⟨g3, 0, none⟩) (0) (0)) (x := ndX m) (by rfl) rfl rfl rfl Try.underlying62 (by kernel_rfl) (by kernel_rfl) rfl rfl m8 (han.up b3 rfl) (fun j _ => ndX_one m j) (by omega) (by omega) b3.size fun vv1 w4 ho1 hg1 hgv1 => ?_)))))
 rw [Nat.zero_add] at ho1
 obtain ⟨a1, cap1, rfl⟩ := ho1.val
 have hct1 := Fx.ChT.of_grown hg1 m8
 have m14 := m9.grown hg1 (m8.not (by omega))
 have m15 := m10.grown hg1 (m8.not (by omega))
 have m16 := m11.chT hct1 (by decide)
 have m17 := m12.chT hct1 (by decide)
 have m13 : Fx.Own w4 w.heap.size 123 56 (.slice a1 (m.s.nn) (cap1)) m.s.nn (ndX m) := (ho1.congr (fun j _ => app0 j))
 have b4 : Below w.heap.size w w4 := Fx.Below.grow b3 hg1 b3.size (fun q hq => (m8.ge hq).1)
 refine Lv ((pt g2)) (x_nil rfl rfl) (Lv ((pt g2)) (x_field rfl rfl Try.underlying70 rfl (s := 20) (by kernel_rfl) rfl rfl) (Lv ((pf g2 18)) (x_field rfl rfl Try.underlying65 rfl (s := 1) (by kernel_rfl) rfl (by show _ + 18 = _; omega)) (Fx.L.store1 (x := Fx.ovr (Fx.ovr (fun zq => if zq < 12 then .bool false else if zq < 18 then .int .u64 (0) else if zq < 20 then .slice none 0 0 else if zq < 21 then .pointer none else .slice none 0 0) 0 20 (stY m.s)) 20 1 (fun _ => (pt g1))) (u := .slice a1 (m.s.nn) (cap1)) (by rfl) rfl rfl rfl rfl (by rfl) (by kernel_rfl) m17 (i := 18) (by omega) fun w5 m18 s4 z3 => ?_)))
 have m19 := m14.stp s4 (by omega)
 have m20 := m15.stp s4 (by omega)
 have hct2 := Fx.ChT.of_stp s4 m17.ty
 have m21 := m16.chT hct2 (by decide)
 have m22 := m13.chT hct2 (by decide)
 have b5 := s4.below b4 b4.size (by omega)
 refine Ln (sN (Ws (Wl (Lv ((pt g2)) (x_move rfl rfl) (Fx.L.bslice0 (s := 5) (by rfl) rfl Try.underlying63 (by kernel_rfl) rfl fun g4 w6 eg4 hO2 s5 => ?_)))))
 have m23 : Fx.Own w6 w.heap.size 159 5 (.slice (some ⟨g4, 0, none⟩) 0 0) 0 (grX m) := hO2 _ _ (by rw [eg4]; exact b5.size)
 have m24 := m19.stp s5 (Nat.ne_of_lt (m19.lt (by omega)))
 have m25 := m20.stp s5 (Nat.ne_of_lt (m20.lt (by omega)))
 have m26 := m21.stp s5 m21.ne
 have m27 := m22.stp s5 (m22.notNew (Nat.le_refl _))
 have m28 := m18.stp s5 m18.ne
 have b6 := s5.below b5 b5.size b5.size
 clear eg4
 refine Lv ((pt p)) (x_move rfl rfl) (Lv ((pt p)) (x_nil rfl rfl) (Lv ((pt p)) (x_field rfl rfl Try.underlying70 rfl (s := 20) (by kernel_rfl) rfl rfl) (Lv ((pf p 19)) (x_field rfl rfl Try.underlying65 rfl (s := 1) (by kernel_rfl) rfl (by show _ + 19 = _; omega)) (Lv (.slice m.s.ga (m.s.gn) (m.s.gc)) (x_load1 (x := ldY m) rfl rfl (by kernel_rfl) m24 (i := 19) (by omega) (by omega) rfl) (Fx.L.appAny (B := w.heap.size) (s := 5) (bytes := 40) (k := 0) (m := m.s.gn) (v := .slice (some ⟨g4, 0, none⟩) (0) (0)) (x := grX m) (by rfl) rfl rfl rfl Try.underlying63 (by kernel_rfl) (by kernel_rfl) rfl rfl m23 (hag.up b6 rfl) (fun j _ => grX_one m j) (by omega) (by omega) b6.size fun vv2 w7 ho2 hg2 hgv2 => ?_)))))
 rw [Nat.zero_add] at ho2
 obtain ⟨a2, cap2, rfl⟩ := ho2.val
 have hct3 := Fx.ChT.of_grown hg2 m23
 have m30 := m24.grown hg2 (m23.not (by omega))
 have m31 := m25.grown hg2 (m23.not (by omega))
 have m32 := m26.chT hct3 (by decide)
 have m33 := m27.chT hct3 (by decide)
 have m34 := m28.chT hct3 (by decide)
 have m29 : Fx.Own w7 w.heap.size 159 5 (.slice a2 (m.s.gn) (cap2)) m.s.gn (grX m) := (ho2.congr (fun j _ => app0 j))
 have b7 : Below w.heap.size w w7 := Fx.Below.grow b6 hg2 b6.size (fun q hq => (m23.ge hq).1)
 refine Lv ((pt g2)) (x_nil rfl rfl) (Lv ((pt g2)) (x_field rfl rfl Try.underlying70 rfl (s := 20) (by kernel_rfl) rfl rfl) (Lv ((pf g2 19)) (x_field rfl rfl Try.underlying65 rfl (s := 1) (by kernel_rfl) rfl (by show _ + 19 = _; omega)) (Fx.L.store1 (x := Fx.updV (Fx.ovr (Fx.ovr (fun zq => if zq < 12 then .bool false else if zq < 18 then .int .u64 (0) else if zq < 20 then .slice none 0 0 else if zq < 21 then .pointer none else .slice none 0 0) 0 20 (stY m.s)) 20 1 (fun _ => (pt g1))) 18 (.slice a1 (m.s.nn) (cap1))) (u := .slice a2 (m.s.gn) (cap2)) (by rfl) rfl rfl rfl rfl (by rfl) (by kernel_rfl) m34 (i := 19) (by omega) fun w8 m35 s6 z4 => ?_)))
 have m36 := m30.stp s6 (by omega)
 have m37 := m31.stp s6 (by omega)
 have hct4 := Fx.ChT.of_stp s6 m34.ty
 have m38 := m32.chT hct4 (by decide)
 have m39 := m33.chT hct4 (by decide)
 have m40 := m29.chT hct4 (by decide)
 have b8 := s6.below b7 b7.size (by omega)
 refine Ln (sN (Ws ?_))
 -- region 4 draws
 refine Fx.W.reord [0, 1, 2, 4, 5, 6, 11, 12, 13, 3, 7, 8, 9, 10, 14, 15, 16, 17, 18, 19, 20, 21] [0, 0, 0, 1, 0, 0, 0, 4, 0, 0, 4, 0, 0, 0, 4, 0, 0, 4, 2, 0, 0, 3] (Fx.ChT [170]) Fx.ChT.refl Fx.ChT.trans (certs := [(21, 3, [3]), (18, 7, [10, 9, 8, 7]), (21, 7, [7]), (18, 10, [10]), (21, 10, [10]), (18, 14, [17, 16, 15, 14]), (21, 14, [14]), (18, 17, [17]), (21, 17, [17]), (19, 18, [18]), (20, 18, [18]), (21, 18, [18])]) (by kernel_rfl) (by kernel_rfl) (by kernel_rfl) (by kernel_rfl) (by kernel_rfl) fun wt1 hbwt1 hzwt1 => ?_
 have s7 : Fx.Stp w8.heap.size w8 wt1 := Sb hbwt1
 have m41 := m36.stp s7 (Nat.ne_of_lt (m36.lt (by omega)))
 have m42 := m37.stp s7 (Nat.ne_of_lt (m37.lt (by omega)))
 have m43 := m38.stp s7 m38.ne
 have m44 := m39.stp s7 (m39.notNew (Nat.le_refl _))
 have m45 := m40.stp s7 (m40.notNew (Nat.le_refl _))
 have m46 := m35.stp s7 m35.ne
 have b9 := s7.below b8 b8.size b8.size
 refine Rp ((pt g2)) (fun v1 => x_move rfl rfl) (Rp ((pt g2)) (fun v1 => x_nil rfl rfl) (Rp ((pf g2 20)) (fun v1 => x_field rfl rfl Try.underlying70 rfl (s := 1) (by kernel_rfl) rfl (by show _ + 20 = _; omega)) (Rp ((pt g2)) (fun v1 => x_move rfl rfl) (Rp ((pt g2)) (fun v1 => x_nil rfl rfl) (Rp ((pf g2 20)) (fun v1 => x_field rfl rfl Try.underlying70 rfl (s := 1) (by kernel_rfl) rfl (by show _ + 20 = _; omega)) (Rp ((pt p)) (fun v1 => x_move rfl rfl) (Rp ((pt p)) (fun v1 => x_nil rfl rfl) (Rp ((pf p 20)) (fun v1 => x_field rfl rfl Try.underlying70 rfl (s := 1) (by kernel_rfl) rfl (by show _ + 20 = _; omega)) (Fx.R.read (v := (pt g1)) (by rfl) (by rfl) (Fx.ChT.refl _) (fun v1 hv1 => x_load1 (x := Fx.updV (Fx.updV (Fx.ovr (Fx.ovr (fun zq => if zq < 12 then .bool false else if zq < 18 then .int .u64 (0) else if zq < 20 then .slice none 0 0 else if zq < 21 then .pointer none else .slice none 0 0) 0 20 (stY m.s)) 20 1 (fun _ => (pt g1))) 18 (.slice a1 (m.s.nn) (cap1))) 19 (.slice a2 (m.s.gn) (cap2))) rfl rfl (by kernel_rfl) (m46.chT hv1 (by decide)).cel (i := 20) (by omega) (by omega) (Fx.updV_ne (by omega) (Fx.updV_ne (by omega) (Fx.ovr_in (j := 0) (by omega) (by omega) rfl)))) ?_)))))))))
 refine Fx.R.s ((pt g1)) (x_load1 (x := Fx.updV (Fx.updV (Fx.ovr (Fx.ovr (fun zq => if zq < 12 then .bool false else if zq < 18 then .int .u64 (0) else if zq < 20 then .slice none 0 0 else if zq < 21 then .pointer none else .slice none 0 0) 0 20 (stY m.s)) 20 1 (fun _ => (pt g1))) 18 (.slice a1 (m.s.nn) (cap1))) 19 (.slice a2 (m.s.gn) (cap2))) rfl rfl (by kernel_rfl) m46.cel (i := 20) (by omega) (by omega) (Fx.updV_ne (by omega) (Fx.updV_ne (by omega) (Fx.ovr_in (j := 0) (by omega) (by omega) rfl)))) ?_
 refine Rp ((pt g1)) (fun v1 => x_nil rfl rfl) (Rp ((pt g1)) (fun v1 => x_field rfl rfl Try.underlying117 rfl (s := 1) (by kernel_rfl) rfl rfl) (Fx.R.s (.slice none 0 0) (x_load1 (x := fun _ => .slice none 0 0) rfl rfl (by kernel_rfl) m43.cel (i := 0) (by omega) (by omega) rfl) ?_))
 refine Fx.R.s ((pt m.tb)) (x_load1 (x := ldY m) rfl rfl (by kernel_rfl) m41 (i := 20) (by omega) (by omega) rfl) ?_
 refine Rp ((pt m.tb)) (fun v1 => x_nil rfl rfl) (Rp ((pt m.tb)) (fun v1 => x_field rfl rfl Try.underlying117 rfl (s := 1) (by kernel_rfl) rfl rfl) (Fx.R.s (.slice m.ta (m.tn) (m.tc)) (x_load1 (x := fun _ => .slice m.ta m.tn m.tc) rfl rfl (by kernel_rfl) m42 (i := 0) (by omega) (by omega) rfl) ?_))
 refine Fx.R.make (by rfl) ?_
 refine Fx.L.appAny (B := w.heap.size) (s := 2) (bytes := 16) (k := 0) (m := m.tn) (v := .slice none 0 0) (x := trX m.t) (by rfl) rfl rfl rfl Try.underlying115 (by kernel_rfl) (by kernel_rfl) rfl rfl (Fx.Own.nil wt1 w.heap.size 170 2 (trX m.t)) (hat.up b9 rfl) (fun _ _ => rfl) (by omega) (by omega) b9.size fun vv3 w9 ho3 hg3 hgv3 => ?_
 rw [Nat.zero_add] at ho3
 obtain ⟨a3, cap3, rfl⟩ := ho3.val
 have hct5 := Fx.ChT.of_grown hg3 (Fx.Own.nil wt1 w.heap.size 170 2 (trX m.t))
 have hq1 : Below wt1.heap.size wt1 w9 := ⟨hg3.os, hg3.tape, hg3.output, hg3.size, fun q hq => hg3.block q hq (fun e => by cases e)⟩
 have m48 := m41.stp (Sb hq1) (Nat.ne_of_lt (m41.lt (by omega)))
 have hq2 : Below wt1.heap.size wt1 w9 := ⟨hg3.os, hg3.tape, hg3.output, hg3.size, fun q hq => hg3.block q hq (fun e => by cases e)⟩
 have m49 := m42.stp (Sb hq2) (Nat.ne_of_lt (m42.lt (by omega)))
 have m50 := m43.chT hct5 (by decide)
 have m51 := m44.chT hct5 (by decide)
 have m52 := m45.chT hct5 (by decide)
 have m53 := m46.chT hct5 (by decide)
 have m47 : Fx.Own w9 w.heap.size 170 2 (.slice a3 (m.tn) (cap3)) m.tn (trX m.t) := (ho3.congr (fun j _ => app0 j))
 have b10 : Below w.heap.size w w9 := Fx.Below.grow b9 hg3 b9.size (fun q hq => ((Fx.Own.nil wt1 w.heap.size 170 2 (trX m.t)).ge hq).1)
 refine Ln ⟨hct5, ?_⟩
 refine Rp ((pt g1)) (fun v1 => x_nil rfl rfl) (Rp ((pt g1)) (fun v1 => x_field rfl rfl Try.underlying117 rfl (s := 1) (by kernel_rfl) rfl rfl) (Fx.R.eff (by rfl) ?_))
 refine Fx.L.store1 (x := fun _ => .slice none 0 0) (u := .slice a3 (m.tn) (cap3)) (by rfl) rfl rfl rfl rfl (by rfl) (by kernel_rfl) m50 (i := 0) (by omega) fun w10 m54 s8 z5 => ?_
 have m55 : Fx.Blk w10 g1 1 (fun _ => .slice a3 (m.tn) (cap3)) 117 := Fx.upd_all m54
 have m56 := m48.stp s8 (by omega)
 have m57 := m49.stp s8 (by omega)
 have hct6 := Fx.ChT.of_stp s8 m50.ty
 have m58 := m51.chT hct6 (by decide)
 have m59 := m52.chT hct6 (by decide)
 have m60 := m53.chT hct6 (by decide)
 have m61 := m47.chT hct6 (by decide)
 have b11 := s8.below b10 b10.size (by omega)
 refine Ln (Fx.R.nil (sN (Ws (Ws (Wl (Lv (.int .i64 (0)) (x_assign rfl rfl) (Ln (sN (Fx.W.block ?_)))))))))
 have m62 : Fx.Blk w10 g2 27 (ldY (cpM m a1 cap1 a2 cap2 g1 a3 cap3 (fun _ => none) (fun _ => 0) 0)) 70 := m60.congr (fun j hj => by rcases j with _|_|_|_|_|_|_|_|_|_|_|_|_|_|_|_|_|_|_|_|_|_|_|_|_|_|_|j <;> first | rfl | omega)
 have m63 := Rqs.zero w10 w.heap.size (cpM m a1 cap1 a2 cap2 g1 a3 cap3 (fun _ => none) (fun _ => 0) 0)
 refine Fx.W.loop (fun f w_ => ∃ k : Nat, ∃ ra : Nat → Option Addr, ∃ rc : Nat → Nat, k ≤ 6 ∧ f 0 = (pt p) ∧ f 3 = (pt g2) ∧ f 4 = .int .i64 ((k : Int)) ∧ Fx.Cel w_ p 0 27 (ldY m) ∧ Fx.Own w_ w.heap.size 123 56 (.slice a1 (m.s.nn) (cap1)) m.s.nn (ndX m) ∧ Fx.Own w_ w.heap.size 159 5 (.slice a2 (m.s.gn) (cap2)) m.s.gn (grX m) ∧ Fx.Own w_ w.heap.size 170 2 (.slice a3 (m.tn) (cap3)) m.tn (trX m.t) ∧ Fx.Blk w_ g1 1 (fun _ => .slice a3 (m.tn) (cap3)) 117 ∧ Fx.Blk w_ g2 27 (ldY (cpM m a1 cap1 a2 cap2 g1 a3 cap3 ra rc k)) 70 ∧ Rqs w_ w.heap.size k (cpM m a1 cap1 a2 cap2 g1 a3 cap3 ra rc k) ∧ Below w.heap.size w w_) (fun f _ => (6 - (intOf (f 4)).toNat)) ⟨0, (fun _ => none), (fun _ => 0), by omega, (by rfl), (by rfl), Fx.ic, m56, m58, m59, m61, m55, m62, m63, b11⟩ ?_
 rintro f1 w11 ⟨k, ra, rc, hk, h1, h2, h3, m64, m65, m66, m67, m68, m69, m70, b12⟩
 refine Ws (Ws (Wl (Lv (.int .i64 ((k : Int))) (x_move rfl h3) ?_)))
 by_cases c57 : (k : Int) < 6
 ·refine Lv (.bool true) (Fx.x_lssT rfl rfl rfl c57) (Ln (sN (Wc (b := true) rfl (fun _ => Wk (sN (Ws (Fx.W.block ?_)))) (fun h => nomatch h))))
  have brk := h.br k (by omega)
  have m71 := hc.below b12 lp
  -- region 8 draws
  refine Fx.W.reord [0, 1, 2, 3, 4, 5, 6, 8, 9, 10, 11, 12, 15, 16, 7, 13, 14, 17, 18] [0, 0, 0, 0, 0, 0, 0, 4, 0, 0, 0, 0, 0, 4, 2, 0, 0, 0, 3] (Fx.ChT [30]) Fx.ChT.refl Fx.ChT.trans (certs := [(14, 7, [7]), (18, 7, [7]), (14, 13, [13]), (18, 13, [13]), (17, 14, [14]), (18, 14, [14])]) (by kernel_rfl) (by kernel_rfl) (by kernel_rfl) (by kernel_rfl) (by kernel_rfl) fun wt2 hbwt2 hzwt2 => ?_
  have s9 : Fx.Stp w11.heap.size w11 wt2 := Sb hbwt2
  have m72 := m64.stp s9 (Nat.ne_of_lt (m64.lt (by omega)))
  have m73 := m65.stp s9 (m65.notNew (Nat.le_refl _))
  have m74 := m66.stp s9 (m66.notNew (Nat.le_refl _))
  have m75 := m67.stp s9 (m67.notNew (Nat.le_refl _))
  have m76 := m68.stp s9 m68.ne
  have m77 := m69.stp s9 m69.ne
  have m78 := m70.up s9.old
  have m79 := m71.stp s9 (Nat.ne_of_lt (m71.lt (by omega)))
  have b13 := s9.below b12 b12.size b12.size
  refine Rp ((pt g2)) (fun v1 => x_move rfl h2) (Rp (.int .i64 ((k : Int))) (fun v1 => x_move rfl h3) (Rp ((pt g2)) (fun v1 => x_move rfl h2) (Rp (.int .i64 ((k : Int))) (fun v1 => x_move rfl h3) (Rp ((pt g2)) (fun v1 => x_nil rfl rfl) (Rp ((pf g2 21)) (fun v1 => x_field rfl rfl Try.underlying70 rfl (s := 6) (by kernel_rfl) rfl (by show _ + 21 = _; omega)) (Rp ((pf g2 (k + 21))) (fun v1 => x_index rfl rfl rfl Try.underlying68 (s := 1) (by kernel_rfl) (by omega) (by omega) (by omega)) (Rp ((pt p)) (fun v1 => x_move rfl h1) (Rp (.int .i64 ((k : Int))) (fun v1 => x_move rfl h3) (Rp ((pt p)) (fun v1 => x_nil rfl rfl) (Rp ((pf p 21)) (fun v1 => x_field rfl rfl Try.underlying70 rfl (s := 6) (by kernel_rfl) rfl (by show _ + 21 = _; omega)) (Rp ((pf p (k + 21))) (fun v1 => x_index rfl rfl rfl Try.underlying68 (s := 1) (by kernel_rfl) (by omega) (by omega) (by omega)) (Rp ((pt g2)) (fun v1 => x_nil rfl rfl) (Rp ((pf g2 21)) (fun v1 => x_field rfl rfl Try.underlying70 rfl (s := 6) (by kernel_rfl) rfl (by show _ + 21 = _; omega)) (Fx.R.s (.slice none 0 0) (x_load1 (x := ldY (cpM m a1 cap1 a2 cap2 g1 a3 cap3 ra rc k)) rfl rfl (by kernel_rfl) m77.cel (i := k + 21) (by omega) (by omega) (cpM_nil (by omega))) ?_))))))))))))))
  refine Fx.R.s (.slice (m.ra k) ((m.rn k)) ((m.rc k))) (x_load1 (x := ldY m) rfl rfl (by kernel_rfl) m72 (i := k + 21) (by omega) (by omega) (ldY_req _ (by omega))) ?_
  refine Fx.R.make (by rfl) ?_
  refine Fx.L.appAny (B := w.heap.size) (s := 1) (bytes := 8) (k := 0) (m := (m.rn k)) (v := .slice none 0 0) (x := Fx.rv .u64 (m.rq k)) (by rfl) rfl rfl rfl Try.underlying67 (by kernel_rfl) (by kernel_rfl) rfl rfl (Fx.Own.nil wt2 w.heap.size 30 1 (Fx.rv .u64 (m.rq k))) ((h.ar k (by omega)).up b13 rfl) (fun _ _ => rfl) (by omega) (by omega) b13.size fun vv4 w12 ho4 hg4 hgv4 => ?_
  rw [Nat.zero_add] at ho4
  obtain ⟨a4, cap4, rfl⟩ := ho4.val
  have hct7 := Fx.ChT.of_grown hg4 (Fx.Own.nil wt2 w.heap.size 30 1 (Fx.rv .u64 (m.rq k)))
  have hq3 : Below wt2.heap.size wt2 w12 := ⟨hg4.os, hg4.tape, hg4.output, hg4.size, fun q hq => hg4.block q hq (fun e => by cases e)⟩
  have m81 := m72.stp (Sb hq3) (Nat.ne_of_lt (m72.lt (by omega)))
  have m82 := m73.chT hct7 (by decide)
  have m83 := m74.chT hct7 (by decide)
  have m84 := m75.chT hct7 (by decide)
  have m85 := m76.chT hct7 (by decide)
  have m86 := m77.chT hct7 (by decide)
  have hq4 : Below wt2.heap.size wt2 w12 := ⟨hg4.os, hg4.tape, hg4.output, hg4.size, fun q hq => hg4.block q hq (fun e => by cases e)⟩
  have m87 := m78.up hq4
  have hq5 : Below wt2.heap.size wt2 w12 := ⟨hg4.os, hg4.tape, hg4.output, hg4.size, fun q hq => hg4.block q hq (fun e => by cases e)⟩
  have m88 := m79.stp (Sb hq5) (Nat.ne_of_lt (m79.lt (by omega)))
  have m80 : Fx.Own w12 w.heap.size 30 1 (.slice a4 ((m.rn k)) (cap4)) (m.rn k) (Fx.rv .u64 (m.rq k)) := (ho4.congr (fun j _ => app0 j))
  have b14 : Below w.heap.size w w12 := Fx.Below.grow b13 hg4 b13.size (fun q hq => ((Fx.Own.nil wt2 w.heap.size 30 1 (Fx.rv .u64 (m.rq k))).ge hq).1)
  have hf1 := m78.fresh hgv4
  refine Ln ⟨hct7, ?_⟩
  refine Rp ((pf g2 (k + 21))) (fun v1 => x_index rfl rfl rfl Try.underlying68 (s := 1) (by kernel_rfl) (by omega) (by omega) (by omega)) (Fx.R.eff (by rfl) ?_)
  refine Fx.L.store1 (x := ldY (cpM m a1 cap1 a2 cap2 g1 a3 cap3 ra rc k)) (u := .slice a4 ((m.rn k)) (cap4)) (by rfl) rfl rfl rfl rfl (by rfl) (by kernel_rfl) m86 (i := k + 21) (by omega) fun w13 m89 s10 z6 => ?_
  have m90 := m81.stp s10 (by omega)
  have hct8 := Fx.ChT.of_stp s10 m86.ty
  have m91 := m82.chT hct8 (by decide)
  have m92 := m83.chT hct8 (by decide)
  have m93 := m84.chT hct8 (by decide)
  have m94 := m85.chT hct8 (by decide)
  have m95 := m87.chT hct8 (by decide)
  have m96 := m88.stp s10 (by omega)
  have m97 := m80.chT hct8 (by decide)
  have b15 := s10.below b14 b14.size (by omega)
  refine Ln (Fx.R.nil (Fx.blkN (sN (Wl (Lv (.int .i64 ((k : Int))) (x_move rfl h3) (Lv (.int .i64 ((k : Int) + 1)) (Fx.x_add rfl rfl rfl Fx.io) (Lv (.int .i64 ((k : Int) + 1)) (x_assign rfl rfl) (Ln ?_))))))))
  have m98 : Fx.Blk w13 g2 27 (ldY (cpM m a1 cap1 a2 cap2 g1 a3 cap3 (updA ra k a4) (updA rc k cap4) (k + 1))) 70 := m89.to (cpM_step (by omega))
  have m99 : Rqs w13 w.heap.size (k + 1) (cpM m a1 cap1 a2 cap2 g1 a3 cap3 (updA ra k a4) (updA rc k cap4) (k + 1)) := cpM_rqs m95 m97 hf1
  skip
  refine Fx.lpN ⟨k + 1, (updA ra k a4), (updA rc k cap4), by omega, h1, h2, Fx.ic, m90, m91, m92, m93, m94, m98, m99, b15⟩ ?_
  show (6 - (intOf ((.int .i64 ((k : Int) + 1)))).toNat) < _
  simp only [h3, intOf]; omega
 refine Lv (.bool false) (Fx.x_lssF rfl rfl rfl c57) (Ln (sN (Wc (b := false) rfl (fun h => nomatch h) (fun _ => Fx.W.exit (Fx.seqX (Fx.lpX (Fx.blkX (sN (Ws (Wl (Lv ((pt g2)) (x_move rfl h2) (Lv ((pt g2)) (x_assign rfl rfl) (Ln (sN (Wr (⟨(pt g2), rV Try.results56 (by exact rfl), ?_⟩))))))))))))))))
 have ek : k = 6 := by omega
 subst ek
 exact ⟨g2, atM m a1 cap1 a2 cap2 g1 a3 cap3 ra rc, rfl, rfl, { c := m69.congr atM_y, n := m65, g := m66, tc := m68, t := m67, r := atM_rqs m70, pB := lg2, tB := lg1, bn := bn1, bg := bg, bt := bt1, br := h.br }, b12⟩
namespace Rt
def ownN (id : Nat → Int) (o : Int) : Nat → Nat
  | 0 => 0
  | n + 1 => ownN id o n + if id n / 1099511627776 = o then 1 else 0
theorem ownN_yes {id : Nat → Int} {o : Int} {c k : Nat} (h : c = ownN id o k) (e : id k / 1099511627776 = o) : c + 1 = ownN id o (k + 1) := by unfold ownN; rw [if_pos e, h]
theorem ownN_no {id : Nat → Int} {o : Int} {c k : Nat} (h : c = ownN id o k) (e : ¬ id k / 1099511627776 = o) : c = ownN id o (k + 1) := by unfold ownN; rw [if_neg e, h]; rfl
noncomputable def makesE (L : LdC) (v : EvM) : Int := if 5 ≤ ownN L.id v.o L.nn ∨ 140737488355328 < v.amt then 6 else addE L.t L.tn (idE v.o v.seq) v.node
def downI (f : Nat → Int) (n : Nat) (x : Int) : Nat := Fx.down (fun i => decide (x < f i)) n
def makesC (L : LdC) (v : EvM) : LdC :=
  { L with nn := L.nn + 1, id := Fx.insI L.id (downI L.id L.nn (idE v.o v.seq)) (idE v.o v.seq), par := Fx.insI L.par (downI L.id L.nn (idE v.o v.seq)) v.node,
           R := Fx.insI L.R (downI L.id L.nn (idE v.o v.seq)) (upd (fun _ => 0) (v.o - 1).toNat v.amt),
           tn := L.tn + 1, t := insT L.t (Fx.down (fun i => decide (idE v.o v.seq < L.t i 0)) L.tn) (idE v.o v.seq) v.node }
theorem nd_start {id par : Int} (j : Nat) : Fx.ovr (Fx.ovr (fun zq => if zq < 2 then .int .u64 (0) else .int .i64 (0)) 0 1 (fun _ => .int .u64 id)) 1 1 (fun _ => .int .u64 par) j = ndY id par (fun _ => 0) j := by
  unfold Fx.ovr ndY
  by_cases h0 : j = 0
  · subst h0; rfl
  by_cases h1 : j = 1
  · subst h1; rfl
  rw [if_neg (by omega), if_neg (by omega), if_neg h0, if_neg h1]; show (if j < 2 then _ else _) = _; rw [if_neg (by omega)]
theorem ndY_upd {id par : Int} {R : Nat → Int} {a q : Nat} {x : Int} (hq : q = a + 2) : Fx.updV (ndY id par R) q (.int .i64 x) = ndY id par (upd R a x) := by
  subst hq
  funext p
  unfold Fx.updV ndY upd
  by_cases h : p = a + 2
  · subst h; rw [if_pos rfl, if_neg (by omega), if_neg (by omega), if_pos (by omega)]
  rw [if_neg h]
  by_cases h0 : p = 0
  · rw [if_pos h0, if_pos h0]
  by_cases h1 : p = 1
  · rw [if_neg h0, if_pos h1, if_neg h0, if_pos h1]
  rw [if_neg h0, if_neg h1, if_neg h0, if_neg h1, if_neg (by omega)]
theorem insF_nd {id par : Nat → Int} {R : Nat → Nat → Int} {k : Nat} {a b : Int} {c : Nat → Int} : Fx.insF (fun kq => ndY (id kq) (par kq) (R kq)) k (ndY a b c) = fun kq => ndY (Fx.insI id k a kq) (Fx.insI par k b kq) (Fx.insI R k c kq) := by
  funext i
  unfold Fx.insF Fx.insI
  by_cases h : i < k
  · simp only [if_pos h]
  by_cases h2 : i = k
  · simp only [if_neg h, if_pos h2]
  simp only [if_neg h, if_neg h2]
theorem ldY_nodes (m : LdM) (a : Option Addr) (n c : Nat) : Fx.updV (ldY m) 18 (.slice a n c) = ldY { m with s := { m.s with na := a, nn := n, nc := c } } := by
  funext p
  unfold Fx.updV ldY
  by_cases h : p = 18
  · subst h; rfl
  rw [if_neg h]
  by_cases h2 : p < 20
  · rw [if_pos h2, if_pos h2]; unfold stY
    by_cases h3 : p < 6
    · rw [if_pos h3, if_pos h3]
    by_cases h4 : p < 12
    · rw [if_neg h3, if_pos h4, if_neg h3, if_pos h4]
    by_cases h5 : p < 18
    · rw [if_neg h3, if_neg h4, if_pos h5, if_neg h3, if_neg h4, if_pos h5]
    rw [if_neg h3, if_neg h4, if_neg h5, if_neg h, if_neg h3, if_neg h4, if_neg h5, if_neg h]
  rw [if_neg h2, if_neg h2]
theorem ovr_one {s : Nat} {z y : Nat → Value} (hy : ∀ j, (y j).oneCell' = true) : ∀ j, j < 1 * s → (Fx.ovr z (0 * s) s y j).oneCell' = true := fun j hj => by
  unfold Fx.ovr; rw [if_pos (by omega)]; exact hy _
theorem gtI_step {f : Nat → Int} {n k j : Nat} {x : Int} (e : k = j + 1) (h : ∀ i, k ≤ i → i < n → x < f i) (hj : x < f j) : ∀ i, j ≤ i → i < n → x < f i := fun i h1 h2 => by
  by_cases e2 : i = j
  · subst e2; exact hj
  · exact h i (by omega) h2
end Rt
theorem Rt.add_room {t : Nat → Nat → Int} {tn : Nat} {id par : Int} (h : addE t tn id par = 0) : tn + 1 ≤ 33 := by
  unfold addE at h
  split at h; · cases h
  split at h; · cases h
  split at h; · cases h
  split at h; · cases h
  rename_i h4
  rcases Nat.lt_or_ge tn 32 with h5 | h5
  · omega
  exact absurd (Or.inl h5) h4
set_option maxRecDepth 20000 in
set_option maxHeartbeats 2000000 in
theorem l_makes (m : LdM) (B p a D : Nat) (v : EvM) (w : World) (hL : LdO w B p m) (hB : B ≤ w.heap.size) (ha : a < 6) (ho : v.o = (a : Int) + 1) (bnn : m.s.nn ≤ 900) (hD : findT m.t m.tn (iterT m.t m.tn D v.node) < 0) (hD2 : D ≤ 1000) :
    Calls Try.prog 74 #[(pt p), .agg (Fx.varr 14 (evY v))] w fun e w' => e = .returned (.int .i64 (makesE m.core v)) ∧ Below B w w' ∧ (makesE m.core v = 0 → ∃ m', m'.core = makesC m.core v ∧ LdO w' B p m') := by
 have hLc := hL.c
 have hLn := hL.n
 have hLg := hL.g
 have hLt := hL.tc
 have hLtr := hL.t
 have hLr := hL.r
 have hLp := hL.pB
 have hLtb := hL.tB
 have bn := hL.bn
 have bg := hL.bg
 have bt := hL.bt
 have lpp : p < w.heap.size := hLc.lt
 have ltb : m.tb < w.heap.size := hLt.lt
 refine Fx.enter Try.func74 rfl (n := 132) rfl (by rfl) ?_
 refine Ws (Wl (Fx.L.box (m := 14) (y := evY v) (by rfl) rfl rfl (Fx.cells_agg _ _) rfl fun g1 w1 eg1 m1 s1 z1 => ?_))
 have m2 := hLc.stp s1 hLc.ne
 have m3 := hLn.stp s1 (hLn.notNew (Nat.le_refl _))
 have m4 := hLg.stp s1 (hLg.notNew (Nat.le_refl _))
 have m5 := hLt.stp s1 hLt.ne
 have m6 := hLtr.stp s1 (hLtr.notNew (Nat.le_refl _))
 have m7 := hLr.up s1.old
 have b1 := s1.below (Below.refl B w) (Nat.le_trans hB (Below.refl B w).size) (Nat.le_trans hB (Below.refl B w).size)
 have lg1 : w.heap.size ≤ g1 := by rw [eg1]; exact (Below.refl B w).size
 have ng1m2 : p ≠ g1 := by rw [eg1]; exact Nat.ne_of_lt (hLc.lt)
 have ng1m5 : m.tb ≠ g1 := by rw [eg1]; exact Nat.ne_of_lt (hLt.lt)
 have tg1 : g1 < w1.heap.size := m1.lt
 clear eg1
 refine Lv (.int .i64 (0)) (x_assign rfl rfl) (Ln (sN (Ws (Wl (Lv (.int .i64 (0)) (x_assign rfl rfl) (Ln (sN (Ws (Ws (Wl (Lv (.int .i64 (0)) (x_assign rfl rfl) (Ln (sN (Fx.W.block (Fx.W.loop (fun f w_ => ∃ k : Nat, ∃ cn : Nat, k ≤ m.s.nn ∧ cn ≤ k ∧ cn = ownN m.id v.o k ∧ f 0 = (pt p) ∧ f 3 = (pt g1) ∧ f 5 = .int .i64 ((cn : Int)) ∧ f 6 = .int .i64 ((k : Int)) ∧ Fx.Blk w_ p 27 (ldY m) 70 ∧ Fx.Own w_ B 123 56 (.slice m.s.na (m.s.nn) (m.s.nc)) m.s.nn (ndX m) ∧ Fx.Own w_ B 159 5 (.slice m.s.ga (m.s.gn) (m.s.gc)) m.s.gn (grX m) ∧ Fx.Blk w_ m.tb 1 (fun _ => .slice m.ta m.tn m.tc) 117 ∧ Fx.Own w_ B 170 2 (.slice m.ta (m.tn) (m.tc)) m.tn (trX m.t) ∧ Rqs w_ B 6 m ∧ Fx.Blk w_ g1 14 (evY v) 50 ∧ Below B w w_) (fun f _ => (m.s.nn - (intOf (f 6)).toNat)) ⟨0, 0, by omega, by omega, rfl, (by rfl), (by rfl), Fx.ic, Fx.ic, m2, m3, m4, m5, m6, m7, m1, b1⟩ ?_)))))))))))))))
 rintro f1 w2 ⟨k, cn, hk, hcl, hcn, h1, h2, h3, h4, m8, m9, m10, m11, m12, m13, m14, b2⟩
 refine Ws (Ws (Wl (Lv (.int .i64 ((k : Int))) (x_move rfl h4) (Lv ((pt p)) (x_move rfl h1) (Lv ((pt p)) (x_nil rfl rfl) (Lv ((pt p)) (x_field rfl rfl Try.underlying70 rfl (s := 20) (by kernel_rfl) rfl rfl) (Lv ((pf p 18)) (x_field rfl rfl Try.underlying65 rfl (s := 1) (by kernel_rfl) rfl (by show _ + 18 = _; omega)) (Lv (.slice m.s.na (m.s.nn) (m.s.nc)) (x_load1 (x := ldY m) rfl rfl (by kernel_rfl) m8.cel (i := 18) (by omega) (by omega) rfl) (Lv (.int .i64 ((m.s.nn : Int))) (x_len rfl rfl rfl (by kernel_rfl)) ?_)))))))))
 by_cases c18 : (k : Int) < (m.s.nn : Int)
 ·refine Lv (.bool true) (Fx.x_lssT rfl rfl rfl c18) (Ln (sN (Wc (b := true) rfl (fun _ => Wk (sN (Ws (Fx.W.block (Ws ?_))))) (fun h => nomatch h))))
  -- region 5 draws
  refine Fx.W.quiet (fun v1 => ∃ q, v1 = World.drewN w2 q) (by kernel_rfl) (by kernel_rfl) ⟨1, rfl⟩ ?_
  refine Qv ((pt p)) (fun v1 hv1 => x_move rfl h1) (Qv ((pt p)) (fun v1 hv1 => x_nil rfl rfl) (Qv ((pt p)) (fun v1 hv1 => x_field rfl rfl Try.underlying70 rfl (s := 20) (by kernel_rfl) rfl rfl) (Qv ((pf p 18)) (fun v1 hv1 => x_field rfl rfl Try.underlying65 rfl (s := 1) (by kernel_rfl) rfl (by show _ + 18 = _; omega)) (Qv (.slice m.s.na (m.s.nn) (m.s.nc)) (fun v1 hv1 => x_load1 (x := ldY m) rfl rfl (by kernel_rfl) (by obtain ⟨qd, rfl⟩ := hv1; exact m8.cel) (i := 18) (by omega) (by omega) rfl) (Qv (.int .i64 ((k : Int))) (fun v1 hv1 => x_move rfl h4) ?_)))))
  obtain ⟨gq1, eq1⟩ := m9.addr (by omega)
  have m15 : Fx.Own w2 B 123 56 (.slice (some ⟨gq1, 0, none⟩) m.s.nn m.s.nc) m.s.nn (ndX m) := m9.congV (congrArg (fun q => Value.slice q m.s.nn m.s.nc) eq1)
  refine Qv ((pf gq1 (56 * k))) (fun v1 hv1 => x_indexS rfl (rfl.trans (congrArg (fun q => Value.slice q (m.s.nn) (m.s.nc)) eq1)) rfl Try.underlying62 (s := 56) (by kernel_rfl) (by omega) (by omega) (by omega)) (Qv ((pf gq1 (56 * k))) (fun v1 hv1 => x_field rfl rfl Try.underlying123 rfl (s := 1) (by kernel_rfl) rfl rfl) (Qv (.int .u64 (m.id k)) (fun v1 hv1 => x_load1 (x := ndX m) rfl rfl (by kernel_rfl) (by obtain ⟨qd, rfl⟩ := hv1; exact m15.cel) (i := 56 * k) (by omega) (by omega) (Fx.flat_cell (k := k) (j := 0) (by omega) (by omega) rfl)) (Qv (.int .u64 ((m.id k) / 1099511627776)) (fun v1 hv1 => Fx.x_shr (b := 40) (q := 1099511627776) rfl rfl rfl (by decide) (by decide)) (Qv ((pt g1)) (fun v1 hv1 => x_field rfl h2 Try.underlying50 rfl (s := 1) (by kernel_rfl) rfl rfl) (Qv (.int .i64 (v.o)) (fun v1 hv1 => x_load1 (x := evY v) rfl rfl (by kernel_rfl) (by obtain ⟨qd, rfl⟩ := hv1; exact m14.cel) (i := 0) (by omega) (by omega) rfl) (Qv (.int .u64 (v.o)) (fun v1 hv1 => x_conv rfl rfl (by kernel_rfl) Try.underlying30 (Fx.u64e (by omega) rfl)) ?_))))))
  by_cases c34 : ((m.id k) / 1099511627776) = v.o
  ·refine Qv (.bool true) (fun v1 hv1 => x_eqlT rfl rfl rfl c34) (Fx.Qt.nil ?_)
   rintro _ ⟨qd, rfl⟩
   obtain ⟨wq1, ewq1⟩ : ∃ v1, v1 = World.drewN w2 qd := ⟨_, rfl⟩
   rw [← ewq1]
   have s2 : Fx.Stp w2.heap.size w2 wq1 := by rw [ewq1]; exact Sb (bdrN w2 qd)
   have m16 := m8.stp s2 m8.ne
   have m17 := m10.stp s2 (m10.notNew (Nat.le_refl _))
   have m18 := m11.stp s2 m11.ne
   have m19 := m12.stp s2 (m12.notNew (Nat.le_refl _))
   have m20 := m13.up s2.old
   have m21 := m14.stp s2 m14.ne
   have m22 := m15.stpB s2 (Nat.ne_of_lt (m15.lt))
   have b3 := s2.below b2 (Nat.le_trans hB b2.size) (Nat.le_trans hB b2.size)
   clear ewq1
   refine sN (Wc (b := true) rfl (fun _ => Wl (Lv (.int .i64 ((cn : Int))) (x_move rfl h3) ?_)) (fun h => nomatch h))
   refine Lv (.int .i64 ((cn : Int) + 1)) (Fx.x_add rfl rfl rfl Fx.io) (Lv (.int .i64 ((cn : Int) + 1)) (x_assign rfl rfl) (Ln (Fx.blkN (sN (Wl (Lv (.int .i64 ((k : Int))) (x_move rfl h4) (Lv (.int .i64 ((k : Int) + 1)) (Fx.x_add rfl rfl rfl Fx.io) (Lv (.int .i64 ((k : Int) + 1)) (x_assign rfl rfl) (Ln ?_)))))))))
   have m23 : Fx.Own wq1 B 123 56 (.slice m.s.na (m.s.nn) (m.s.nc)) m.s.nn (ndX m) := m22.congV (congrArg (fun q => Value.slice q m.s.nn m.s.nc) eq1.symm)
   refine Fx.lpN ⟨k + 1, cn + 1, by omega, by omega, (ownN_yes hcn c34), h1, h2, Fx.ic, Fx.ic, m16, m23, m17, m18, m19, m20, m21, b3⟩ ?_
   show (m.s.nn - (intOf ((.int .i64 ((k : Int) + 1)))).toNat) < _
   simp only [h4, intOf]; omega
  refine Qv (.bool false) (fun v1 hv1 => x_eqlF rfl rfl rfl c34) (Fx.Qt.nil ?_)
  rintro _ ⟨qd, rfl⟩
  obtain ⟨wq2, ewq2⟩ : ∃ v1, v1 = World.drewN w2 qd := ⟨_, rfl⟩
  rw [← ewq2]
  have s3 : Fx.Stp w2.heap.size w2 wq2 := by rw [ewq2]; exact Sb (bdrN w2 qd)
  have m24 := m8.stp s3 m8.ne
  have m25 := m10.stp s3 (m10.notNew (Nat.le_refl _))
  have m26 := m11.stp s3 m11.ne
  have m27 := m12.stp s3 (m12.notNew (Nat.le_refl _))
  have m28 := m13.up s3.old
  have m29 := m14.stp s3 m14.ne
  have m30 := m15.stpB s3 (Nat.ne_of_lt (m15.lt))
  have b4 := s3.below b2 (Nat.le_trans hB b2.size) (Nat.le_trans hB b2.size)
  clear ewq2
  refine sN (Wc (b := false) rfl (fun h => nomatch h) (fun _ => Wk (Fx.blkN (sN (Wl (Lv (.int .i64 ((k : Int))) (x_move rfl h4) (Lv (.int .i64 ((k : Int) + 1)) (Fx.x_add rfl rfl rfl Fx.io) (Lv (.int .i64 ((k : Int) + 1)) (x_assign rfl rfl) (Ln ?_)))))))))
  have m31 : Fx.Own wq2 B 123 56 (.slice m.s.na (m.s.nn) (m.s.nc)) m.s.nn (ndX m) := m30.congV (congrArg (fun q => Value.slice q m.s.nn m.s.nc) eq1.symm)
  refine Fx.lpN ⟨k + 1, cn, by omega, by omega, (ownN_no hcn c34), h1, h2, (h3.trans Fx.ic), Fx.ic, m24, m31, m25, m26, m27, m28, m29, b4⟩ ?_
  show (m.s.nn - (intOf ((.int .i64 ((k : Int) + 1)))).toNat) < _
  simp only [h4, intOf]; omega
 refine Lv (.bool false) (Fx.x_lssF rfl rfl rfl c18) (Ln (sN (Wc (b := false) rfl (fun h => nomatch h) (fun _ => Fx.W.exit (Fx.seqX (Fx.lpX (Fx.blkX (sN (Ws (Ws (Wl (Lv (.int .i64 ((cn : Int))) (x_move rfl h3) ?_))))))))))))
 by_cases c38 : 5 ≤ (cn : Int)
 ·refine Lv (.bool true) (Fx.x_geqT rfl rfl rfl c38) (Lv (.bool true) (x_move rfl rfl) (Lk (by rfl) rfl (Lk (by rfl) rfl (Lk (by rfl) rfl (Lv (.bool true) (x_pickT rfl rfl rfl) (Ln (sN (Wc (b := true) rfl (fun _ => Ws (Wl (Lv (.int .i64 (6)) (x_assign rfl rfl) ?_))) (fun h => nomatch h)))))))))
  refine Ln (sN (Wr (sR (⟨.int .i64 (6), rV Try.results74 (by exact rfl), ?_⟩))))
  have ek : k = m.s.nn := by omega
  subst ek
  have ee : makesE m.core v = 6 := if_pos (.inl (by rw [show ownN m.core.id v.o m.core.nn = cn from hcn.symm]; omega))
  exact ⟨congrArg (fun q => Ending.returned (Value.int .i64 q)) ee.symm, b2, fun h0 => by rw [ee] at h0; cases h0⟩
 refine Lv (.bool false) (Fx.x_geqF rfl rfl rfl c38) (Lv (.bool false) (x_move rfl rfl) (Lv ((pf g1 11)) (x_field rfl h2 Try.underlying50 rfl (s := 1) (by kernel_rfl) rfl (by show _ + 11 = _; omega)) (Lv (.int .i64 (v.amt)) (x_load1 (x := evY v) rfl rfl (by kernel_rfl) m14.cel (i := 11) (by omega) (by omega) rfl) ?_)))
 by_cases c42 : 140737488355328 < v.amt
 ·refine Lv (.bool true) (Fx.x_gtrT rfl rfl rfl c42) (Lv (.bool true) (x_pickF rfl rfl rfl) (Ln (sN (Wc (b := true) rfl (fun _ => Ws (Wl (Lv (.int .i64 (6)) (x_assign rfl rfl) ?_))) (fun h => nomatch h)))))
  refine Ln (sN (Wr (sR (⟨.int .i64 (6), rV Try.results74 (by exact rfl), ?_⟩))))
  have ek : k = m.s.nn := by omega
  subst ek
  have ee : makesE m.core v = 6 := if_pos (.inr (by omega))
  exact ⟨congrArg (fun q => Ending.returned (Value.int .i64 q)) ee.symm, b2, fun h0 => by rw [ee] at h0; cases h0⟩
 refine Lv (.bool false) (x_gtrF rfl rfl rfl c42) (Lv (.bool false) (x_pickF rfl rfl rfl) (Ln (sN (Wc (b := false) rfl (fun h => nomatch h) (fun _ => Wk (sN (Ws (Wl (Lv ((pt g1)) (x_field rfl h2 Try.underlying50 rfl (s := 1) (by kernel_rfl) rfl rfl) (Lv (.int .i64 (v.o)) (x_load1 (x := evY v) rfl rfl (by kernel_rfl) m14.cel (i := 0) (by omega) (by omega) rfl) (Lv ((pf g1 1)) (x_field rfl h2 Try.underlying50 rfl (s := 1) (by kernel_rfl) rfl (by show _ + 1 = _; omega)) (Lv (.int .u64 (v.seq)) (x_load1 (x := evY v) rfl rfl (by kernel_rfl) m14.cel (i := 1) (by omega) (by omega) rfl) (Fx.L.call (by rfl) (rC (args := [.int .i64 (v.o), .int .u64 (v.seq)]) rfl rfl Try.func94 rfl rfl) rfl ((e_id v.o v.seq _).mono ?_))))))))))))))
 rintro e v1 ⟨he, hv1⟩
 subst v1
 refine ⟨.int .u64 (idE v.o v.seq), by rw [he], ?_⟩
 clear he
 refine Lv (.int .u64 (idE v.o v.seq)) (x_assign rfl rfl) (Ln (sN (Ws ?_)))
 -- region 10 draws
 refine Fx.W.reord [0, 1, 2, 4, 5, 3, 6, 7, 8] [0, 0, 0, 4, 0, 0, 4, 3, 0] Fx.Mk Fx.Mk.refl Fx.Mk.trans (certs := [(7, 3, [3]), (7, 6, [6]), (8, 7, [7])]) (by kernel_rfl) (by kernel_rfl) (by kernel_rfl) (by kernel_rfl) (by kernel_rfl) fun wt1 hbwt1 hzwt1 => ?_
 have s4 : Fx.Stp w2.heap.size w2 wt1 := Sb hbwt1
 have m32 := m8.stp s4 m8.ne
 have m33 := m9.stp s4 (m9.notNew (Nat.le_refl _))
 have m34 := m10.stp s4 (m10.notNew (Nat.le_refl _))
 have m35 := m11.stp s4 m11.ne
 have m36 := m12.stp s4 (m12.notNew (Nat.le_refl _))
 have m37 := m13.up s4.old
 have m38 := m14.stp s4 m14.ne
 have b5 := s4.below b2 (Nat.le_trans hB b2.size) (Nat.le_trans hB b2.size)
 refine Rp ((pt p)) (fun v1 => x_move rfl h1) (Rp ((pt p)) (fun v1 => x_nil rfl rfl) (Rp ((pf p 20)) (fun v1 => x_field rfl rfl Try.underlying70 rfl (s := 1) (by kernel_rfl) rfl (by show _ + 20 = _; omega)) (Rp (.int .u64 (idE v.o v.seq)) (fun v1 => x_move rfl rfl) (Rp ((pf g1 9)) (fun v1 => x_field rfl h2 Try.underlying50 rfl (s := 1) (by kernel_rfl) rfl (by show _ + 9 = _; omega)) (Fx.R.s ((pt m.tb)) (x_load1 (x := ldY m) rfl rfl (by kernel_rfl) m32.cel (i := 20) (by omega) (by omega) rfl) ?_)))))
 refine Fx.R.s (.int .u64 (v.node)) (x_load1 (x := evY v) rfl rfl (by kernel_rfl) m38.cel (i := 9) (by omega) (by omega) rfl) ?_
 refine Fx.R.eff (by rfl) ?_
 refine Fx.L.call (by rfl) (rC (args := [(pt m.tb), .int .u64 (idE v.o v.seq), .int .u64 (v.node)]) rfl rfl Try.func95 rfl rfl) rfl ((l_add B m.tb m.ta m.tn m.tc m.t (idE v.o v.seq) v.node D _ m35 m36 (fun e => Fx.Ty.ne (m36.ty e) m35.ty (by decide) rfl) (Nat.le_trans hB b5.size) bt hD hD2).mono ?_)
 rintro e w3 ⟨he, hch1, hcs1⟩
 refine ⟨.int .i64 (addE m.t m.tn (idE v.o v.seq) v.node), he, ?_⟩
 clear he
 have hc1 : Fx.ChT [117, 170] wt1 w3 := Fx.ChT.of_chg hch1 (by rintro k (rfl | e) <;> first | exact ⟨_, m35.ty, by decide⟩ | exact ⟨_, m36.ty e, by decide⟩)
 have m39 : Fx.Blk w3 p 27 (ldY m) 70 := m32.chT hc1 (by decide)
 have m40 : Fx.Own w3 B 123 56 (.slice m.s.na (m.s.nn) (m.s.nc)) m.s.nn (ndX m) := m33.chT hc1 (by decide)
 have m41 : Fx.Own w3 B 159 5 (.slice m.s.ga (m.s.gn) (m.s.gc)) m.s.gn (grX m) := m34.chT hc1 (by decide)
 have m42 : Rqs w3 B 6 m := m37.chT hc1 (by decide)
 have m43 : Fx.Blk w3 g1 14 (evY v) 50 := m38.chT hc1 (by decide)
 have b6 : Below B w w3 := Fx.Chg.below b5 hch1 (by rintro k (rfl | e) <;> first | exact hLtb | exact (m36.ge e).1) (Nat.le_trans hB b5.size)
 rcases hcs1 with ⟨hc0, hT1, hO1⟩ | ⟨hc0, g9, cap9, hT1, hO1, hne1⟩
 ·refine Ln (Rp (.int .i64 (addE m.t m.tn (idE v.o v.seq) v.node)) (fun v1 => x_assign rfl rfl) (Fx.R.nil (sN (Ws (Ws (Wl (Lv (.int .i64 (addE m.t m.tn (idE v.o v.seq) v.node)) (x_move rfl rfl) ?_)))))))
  refine Lv (.bool true) (Fx.x_neqT rfl rfl rfl hc0) (Ln (sN (Wc (b := true) rfl (fun _ => Ws (Wl (Lv (.int .i64 (addE m.t m.tn (idE v.o v.seq) v.node)) (x_move rfl rfl) ?_))) (fun h => nomatch h))))
  refine Lv (.int .i64 (addE m.t m.tn (idE v.o v.seq) v.node)) (x_assign rfl rfl) (Ln (sN (Wr (sR (⟨.int .i64 (addE m.t m.tn (idE v.o v.seq) v.node), rV Try.results74 (by exact rfl), ?_⟩)))))
  have ek : k = m.s.nn := by omega
  subst ek
  have ee : makesE m.core v = addE m.t m.tn (idE v.o v.seq) v.node := if_neg (fun h => h.elim (fun h => by rw [show ownN m.core.id v.o m.core.nn = cn from hcn.symm] at h; omega) (fun h => by omega))
  exact ⟨congrArg (fun q => Ending.returned (Value.int .i64 q)) ee.symm, b6, fun h0 => absurd (ee.symm.trans h0) hc0⟩
 refine Ln (Rp (.int .i64 (addE m.t m.tn (idE v.o v.seq) v.node)) (fun v1 => x_assign rfl rfl) (Fx.R.nil (sN (Ws (Ws (Wl (Lv (.int .i64 (addE m.t m.tn (idE v.o v.seq) v.node)) (x_move rfl rfl) ?_)))))))
 refine Lv (.bool false) (Fx.x_neqF rfl rfl rfl hc0) (Ln (sN (Wc (b := false) rfl (fun h => nomatch h) (fun _ => Wk (sN (Ws (Wl (Lv (.int .u64 (idE v.o v.seq)) (x_move rfl rfl) (Lv ((pf g1 9)) (x_field rfl h2 Try.underlying50 rfl (s := 1) (by kernel_rfl) rfl (by show _ + 9 = _; omega)) (Lv (.int .u64 (v.node)) (x_load1 (x := evY v) rfl rfl (by kernel_rfl) m43.cel (i := 9) (by omega) (by omega) rfl) (Lv (.agg (Fx.varr 56 (Fx.ovr (Fx.ovr (fun zq => if zq < 2 then .int .u64 (0) else .int .i64 (0)) 0 1 (fun _ => .int .u64 (idE v.o v.seq))) 1 1 (fun _ => .int .u64 (v.node))))) (x_build (vs := [(0, .int .u64 (idE v.o v.seq)), (1, .int .u64 (v.node))]) (places := #[(0, 1), (1, 1), (2, 54)]) (m := 56) (x := fun zq => if zq < 2 then .int .u64 (0) else .int .i64 (0)) rfl rfl Try.underlying123 (by kernel_rfl) (by kernel_rfl) (by rw [Fx.fill_step (off := 0) (s := 1) (y := fun _ => .int .u64 (idE v.o v.seq)) (by kernel_rfl) (Fx.cells_one (by rfl)) (by rfl)]; rw [Fx.fill_step (off := 1) (s := 1) (y := fun _ => .int .u64 (v.node)) (by kernel_rfl) (Fx.cells_one (by rfl)) (by rfl)]; rfl)) (Fx.L.new (m := 56) (y := fun zq => if zq < 2 then .int .u64 (0) else .int .i64 (0)) (by rfl) rfl (by kernel_rfl) rfl fun g2 w4 eg2 m44 s5 z2 => ?_))))))))))))
 have m45 := m39.stp s5 m39.ne
 have m46 := m40.stp s5 (m40.notNew (Nat.le_refl _))
 have m47 := m41.stp s5 (m41.notNew (Nat.le_refl _))
 have m48 := m42.up s5.old
 have m49 := m43.stp s5 m43.ne
 have m50 := hT1.stp s5 hT1.ne
 have m51 := hO1.stpB s5 (Nat.ne_of_lt (hO1.lt))
 have b7 := s5.below b6 (Nat.le_trans hB b6.size) (Nat.le_trans hB b6.size)
 have lg2 : w.heap.size ≤ g2 := by rw [eg2]; exact b6.size
 have ng2m45 : p ≠ g2 := by rw [eg2]; exact Nat.ne_of_lt (m39.lt)
 have ng2m46 : (.slice m.s.na (m.s.nn) (m.s.nc) : Value).ownBlock ≠ some g2 := by rw [eg2]; exact m40.notNew (Nat.le_refl _)
 have ng2m49 : g1 ≠ g2 := by rw [eg2]; exact Nat.ne_of_lt (m43.lt)
 have ng2m50 : m.tb ≠ g2 := by rw [eg2]; exact Nat.ne_of_lt (hT1.lt)
 have ng2m51 : g9 ≠ g2 := by rw [eg2]; exact Nat.ne_of_lt (hO1.lt)
 have tg2 : g2 < w4.heap.size := m44.lt
 clear eg2
 refine Fx.L.storeA (x := fun zq => if zq < 2 then .int .u64 (0) else .int .i64 (0)) (y := Fx.ovr (Fx.ovr (fun zq => if zq < 2 then .int .u64 (0) else .int .i64 (0)) 0 1 (fun _ => .int .u64 (idE v.o v.seq))) 1 1 (fun _ => .int .u64 (v.node))) (by rfl) rfl rfl rfl rfl (Fx.ovr_ones (Fx.ovr_ones (fun jq _ => by show ((fun zq => if zq < 2 then .int .u64 (0) else .int .i64 (0) : Nat → Value) jq).oneCell' = true; simp only []; repeat (first | rfl | split)) (fun _ _ => rfl)) (fun _ _ => rfl)) (by kernel_rfl) m44 (i := 0) (by omega) fun w5 m52 s6 z3 => ?_
 have m53 : Fx.Blk w5 g2 56 (Fx.ovr (Fx.ovr (fun zq => if zq < 2 then .int .u64 (0) else .int .i64 (0)) 0 1 (fun _ => .int .u64 (idE v.o v.seq))) 1 1 (fun _ => .int .u64 (v.node))) 123 := Fx.ovr_all m52
 have hct1 := Fx.ChT.of_stp s6 m44.ty
 have m54 := m45.chT hct1 (by decide)
 have m55 := m46.stp s6 ng2m46
 have m56 := m47.chT hct1 (by decide)
 have m57 := m48.chT hct1 (by decide)
 have m58 := m49.chT hct1 (by decide)
 have m59 := m50.chT hct1 (by decide)
 have m60 := m51.chT hct1 (by decide)
 have b8 := s6.below b7 (Nat.le_trans hB b7.size) (by omega)
 refine Ln (sN (Ws ?_))
 have m61 : Fx.Blk w5 g2 56 (ndY (idE v.o v.seq) v.node (fun _ => 0)) 123 := m53.congr (fun j hj => nd_start j)
 refine Wl (Lv ((pt g1)) (x_field rfl h2 Try.underlying50 rfl (s := 1) (by kernel_rfl) rfl rfl) (Lv (.int .i64 (v.o)) (x_load1 (x := evY v) rfl rfl (by kernel_rfl) m58.cel (i := 0) (by omega) (by omega) rfl) (Lv (.int .i64 ((a : Int))) (Fx.x_sub rfl rfl rfl Fx.io) (Lv ((pf g1 11)) (x_field rfl h2 Try.underlying50 rfl (s := 1) (by kernel_rfl) rfl (by show _ + 11 = _; omega)) (Lv (.int .i64 (v.amt)) (x_load1 (x := evY v) rfl rfl (by kernel_rfl) m58.cel (i := 11) (by omega) (by omega) rfl) (Lv ((pf g2 2)) (x_field rfl rfl Try.underlying123 rfl (s := 54) (by kernel_rfl) rfl (by show _ + 2 = _; omega)) (Lv ((pf g2 2)) (x_field rfl rfl Try.underlying121 rfl (s := 6) (by kernel_rfl) rfl rfl) (Lv ((pf g2 (a + 2))) (x_index rfl rfl rfl Try.underlying118 (s := 1) (by kernel_rfl) (by omega) (by omega) (by omega)) (Fx.L.store1 (x := ndY (idE v.o v.seq) v.node (fun _ => 0)) (u := .int .i64 (v.amt)) (by rfl) rfl rfl rfl rfl (by rfl) (by kernel_rfl) m61 (i := a + 2) (by omega) fun w6 m62 s7 z4 => ?_)))))))))
 have m63 : Fx.Blk w6 g2 56 (ndY (idE v.o v.seq) v.node (upd (fun _ => 0) a v.amt)) 123 := m62.to (ndY_upd (by omega))
 have hct2 := Fx.ChT.of_stp s7 m61.ty
 have m64 := m54.chT hct2 (by decide)
 have m65 := m55.stp s7 ng2m46
 have m66 := m56.chT hct2 (by decide)
 have m67 := m57.chT hct2 (by decide)
 have m68 := m58.chT hct2 (by decide)
 have m69 := m59.chT hct2 (by decide)
 have m70 := m60.chT hct2 (by decide)
 have b9 := s7.below b8 (Nat.le_trans hB b8.size) (by omega)
 refine Ln (sN (Ws ?_))
 have ek0 : k = m.s.nn := by omega
 obtain ⟨cn0, hcn0, hc38⟩ : ∃ cn0, cn0 = ownN m.id v.o m.s.nn ∧ ¬ (5 : Int) ≤ (cn0 : Int) := ⟨cn, by rw [← ek0]; exact hcn, c38⟩
 clear hcn hcl ek0
 refine Wl (Lv ((pt p)) (x_move rfl h1) (Lv ((pt p)) (x_nil rfl rfl) (Lv ((pt p)) (x_field rfl rfl Try.underlying70 rfl (s := 20) (by kernel_rfl) rfl rfl) (Lv ((pf p 18)) (x_field rfl rfl Try.underlying65 rfl (s := 1) (by kernel_rfl) rfl (by show _ + 18 = _; omega)) (Lv (.slice m.s.na (m.s.nn) (m.s.nc)) (x_load1 (x := ldY m) rfl rfl (by kernel_rfl) m64.cel (i := 18) (by omega) (by omega) rfl) (Lv (.int .i64 ((m.s.nn : Int))) (x_len rfl rfl rfl (by kernel_rfl)) (Lv (.int .i64 ((m.s.nn : Int))) (x_assign rfl rfl) (Ln (sN (Ws ?_))))))))))
 -- region 16 draws
 refine Fx.W.reord [0, 1, 2, 3, 4, 5, 6, 7, 8, 9, 10, 11, 12] [0, 0, 0, 0, 0, 1, 4, 2, 2, 0, 0, 0, 3] (Fx.ChT [123]) Fx.ChT.refl Fx.ChT.trans (certs := [(12, 5, [5]), (7, 6, [6]), (8, 6, [7, 6]), (12, 6, [6]), (8, 7, [7]), (9, 7, [7]), (10, 7, [7]), (11, 7, [7]), (12, 7, [7]), (9, 8, [8]), (10, 8, [8]), (11, 8, [8]), (12, 8, [8])]) (by kernel_rfl) (by kernel_rfl) (by kernel_rfl) (by kernel_rfl) (by kernel_rfl) fun wt2 hbwt2 hzwt2 => ?_
 have s8 : Fx.Stp w6.heap.size w6 wt2 := Sb hbwt2
 have m71 := m64.stp s8 m64.ne
 have m72 := m65.stp s8 (m65.notNew (Nat.le_refl _))
 have m73 := m66.stp s8 (m66.notNew (Nat.le_refl _))
 have m74 := m67.up s8.old
 have m75 := m68.stp s8 m68.ne
 have m76 := m69.stp s8 m69.ne
 have m77 := m70.stpB s8 (Nat.ne_of_lt (m70.lt))
 have m78 := m63.stp s8 m63.ne
 have b10 := s8.below b9 (Nat.le_trans hB b9.size) (Nat.le_trans hB b9.size)
 refine Rp ((pt p)) (fun v1 => x_move rfl h1) (Rp ((pt p)) (fun v1 => x_move rfl h1) (Rp ((pt p)) (fun v1 => x_nil rfl rfl) (Rp ((pt p)) (fun v1 => x_field rfl rfl Try.underlying70 rfl (s := 20) (by kernel_rfl) rfl rfl) (Rp ((pf p 18)) (fun v1 => x_field rfl rfl Try.underlying65 rfl (s := 1) (by kernel_rfl) rfl (by show _ + 18 = _; omega)) (Fx.R.read (v := .slice m.s.na (m.s.nn) (m.s.nc)) (by rfl) (by rfl) (Fx.ChT.refl _) (fun v1 hv1 => x_load1 (x := ldY m) rfl rfl (by kernel_rfl) (m71.chT hv1 (by decide)).cel (i := 18) (by omega) (by omega) rfl) ?_)))))
 refine Fx.R.s (.agg (Fx.varr 56 (ndY (idE v.o v.seq) v.node (upd (fun _ => 0) a v.amt)))) (x_loadA (x := ndY (idE v.o v.seq) v.node (upd (fun _ => 0) a v.amt)) (y := ndY (idE v.o v.seq) v.node (upd (fun _ => 0) a v.amt)) rfl rfl (by kernel_rfl) (by kernel_rfl) m78.cel (i := 0) (by omega) (by omega) (fun j _ => by rw [Nat.zero_add])) ?_
 refine Fx.R.make (by rfl) ?_
 refine Fx.L.bslice (vs := [(0, .agg (Fx.varr 56 (ndY (idE v.o v.seq) v.node (upd (fun _ => 0) a v.amt))))]) (s := 56) (zc := fun zq => if zq < 2 then .int .u64 (0) else .int .i64 (0)) (y := Fx.ovr (fun j => (fun zq => if zq < 2 then .int .u64 (0) else .int .i64 (0)) (j % 56)) (0 * 56) 56 (ndY (idE v.o v.seq) v.node (upd (fun _ => 0) a v.amt))) (by rfl) rfl rfl Try.underlying62 (by kernel_rfl) (by rfl) (by rfl) (by kernel_rfl) (by rw [Fx.fill_step (off := 0 * 56) (s := 56) (y := ndY (idE v.o v.seq) v.node (upd (fun _ => 0) a v.amt)) rfl (Fx.cells_agg _ _) (by rfl)]; rfl) rfl fun g3 w7 eg3 m79 s9 z5 => ?_
 have m80 := m71.stp s9 m71.ne
 have m81 := m72.stp s9 (m72.notNew (Nat.le_refl _))
 have m82 := m73.stp s9 (m73.notNew (Nat.le_refl _))
 have m83 := m74.up s9.old
 have m84 := m75.stp s9 m75.ne
 have m85 := m76.stp s9 m76.ne
 have m86 := m77.stpB s9 (Nat.ne_of_lt (m77.lt))
 have m87 := m78.stp s9 m78.ne
 have b11 := s9.below b10 (Nat.le_trans hB b10.size) (Nat.le_trans hB b10.size)
 have lg3 : w.heap.size ≤ g3 := by rw [eg3]; exact b10.size
 have ng3m80 : p ≠ g3 := by rw [eg3]; exact Nat.ne_of_lt (m71.lt)
 have ng3m81 : (.slice m.s.na (m.s.nn) (m.s.nc) : Value).ownBlock ≠ some g3 := by rw [eg3]; exact m72.notNew (Nat.le_refl _)
 have ng3m84 : g1 ≠ g3 := by rw [eg3]; exact Nat.ne_of_lt (m75.lt)
 have ng3m85 : m.tb ≠ g3 := by rw [eg3]; exact Nat.ne_of_lt (m76.lt)
 have ng3m86 : g9 ≠ g3 := by rw [eg3]; exact Nat.ne_of_lt (m77.lt)
 have ng3m87 : g2 ≠ g3 := by rw [eg3]; exact Nat.ne_of_lt (m78.lt)
 have tg3 : g3 < w7.heap.size := m79.lt
 clear eg3
 refine Ln ⟨Fx.ChT.of_below s9.old, ?_⟩
 refine Fx.R.make (by rfl) ?_
 refine Fx.L.app (B := B) (s := 56) (bytes := 448) (k := m.s.nn) (m := 1) (v := .slice m.s.na (m.s.nn) (m.s.nc)) (x := ndX m) (by rfl) rfl rfl rfl Try.underlying62 (by kernel_rfl) (by kernel_rfl) rfl rfl m81 m79.cel (ovr_one (ndY_one' _ _ _)) (by omega) (by omega) (by omega) (Nat.le_trans hB b11.size) fun g4 cap1 w8 ho1 hg1 hgv1 hlt1 => ?_
 have hct3 := Fx.ChT.of_grown hg1 m81
 have m89 := m80.chT hct3 (by decide)
 have m90 := m82.chT hct3 (by decide)
 have m91 := m83.chT hct3 (by decide)
 have m92 := m84.chT hct3 (by decide)
 have m93 := m85.chT hct3 (by decide)
 have m94 := m86.chT hct3 (by decide)
 have m95 := m87.grown hg1 ng2m46
 have ng4m95 : g2 ≠ g4 := fun e => hgv1.elim (fun e2 => ng2m46 (by rw [e]; exact e2)) (fun e2 => by have := m87.lt; omega)
 have m88 : Fx.Own w8 B 123 56 (.slice (some ⟨g4, 0, none⟩) (m.s.nn + 1) cap1) (m.s.nn + 1) (Fx.flat 56 (Fx.shF (fun kq => ndY (m.id kq) (m.par kq) (m.R kq)) (ndY (idE v.o v.seq) v.node (upd (fun _ => 0) a v.amt)) m.s.nn m.s.nn)) := (ho1.congr (fun j hj => (Fx.app_flat j hj).trans (Fx.flat_cong (fun i hi q _ => Fx.sh_start i hi q) j hj)))
 have b12 : Below B w w8 := Fx.Below.grow b11 hg1 (Nat.le_trans hB b11.size) (fun q hq => (m81.ge hq).1)
 refine Ln ⟨hct3, ?_⟩
 refine Rp ((pt p)) (fun v1 => x_nil rfl rfl) (Rp ((pt p)) (fun v1 => x_field rfl rfl Try.underlying70 rfl (s := 20) (by kernel_rfl) rfl rfl) (Rp ((pf p 18)) (fun v1 => x_field rfl rfl Try.underlying65 rfl (s := 1) (by kernel_rfl) rfl (by show _ + 18 = _; omega)) (Fx.R.eff (by rfl) ?_)))
 refine Fx.L.store1 (x := ldY m) (u := .slice (some ⟨g4, 0, none⟩) (m.s.nn + 1) (cap1)) (by rfl) rfl rfl rfl rfl (by rfl) (by kernel_rfl) m89 (i := 18) (by omega) fun w9 m96 s10 z6 => ?_
 have hct4 := Fx.ChT.of_stp s10 m89.ty
 have m97 := m90.chT hct4 (by decide)
 have m98 := m91.chT hct4 (by decide)
 have m99 := m92.chT hct4 (by decide)
 have m100 := m93.chT hct4 (by decide)
 have m101 := m94.chT hct4 (by decide)
 have m102 := m95.chT hct4 (by decide)
 have m103 := m88.chT hct4 (by decide)
 have b13 := s10.below b12 (Nat.le_trans hB b12.size) (by omega)
 refine Ln (Fx.R.nil (sN (Ws (Fx.W.block (Fx.W.loop (fun f w_ => ∃ k : Nat, k ≤ m.s.nn ∧ (∀ i, k ≤ i → i < m.s.nn → (idE v.o v.seq) < m.id i) ∧ f 0 = (pt p) ∧ f 7 = .int .u64 ((idE v.o v.seq)) ∧ f 9 = (pt g2) ∧ f 10 = .int .i64 ((k : Int)) ∧ Fx.Own w_ B 159 5 (.slice m.s.ga (m.s.gn) (m.s.gc)) m.s.gn (grX m) ∧ Rqs w_ B 6 m ∧ Fx.Blk w_ g1 14 (evY v) 50 ∧ Fx.Blk w_ m.tb 1 (fun _ => .slice (some ⟨g9, 0, none⟩) (m.tn + 1) cap9) 117 ∧ Fx.Own w_ B 170 2 (.slice (some ⟨g9, 0, none⟩) (m.tn + 1) cap9) (m.tn + 1) (Fx.rv .u64 (flatT (insT m.t (Fx.down (fun i => decide ((idE v.o v.seq) < m.t i 0)) m.tn) (idE v.o v.seq) v.node))) ∧ Fx.Blk w_ g2 56 (ndY (idE v.o v.seq) v.node (upd (fun _ => 0) a v.amt)) 123 ∧ Fx.Blk w_ p 27 (Fx.updV (ldY m) 18 (.slice (some ⟨g4, 0, none⟩) (m.s.nn + 1) (cap1))) 70 ∧ Fx.Own w_ B 123 56 (.slice (some ⟨g4, 0, none⟩) (m.s.nn + 1) cap1) (m.s.nn + 1) (Fx.flat 56 (Fx.shF (fun kq => ndY (m.id kq) (m.par kq) (m.R kq)) (ndY (idE v.o v.seq) v.node (upd (fun _ => 0) a v.amt)) m.s.nn k)) ∧ Below B w w_) (fun f _ => (intOf (f 10)).toNat) ⟨m.s.nn, by omega, (fun i h1 h2 => absurd h1 (by omega)), h1, Fx.ic, (by rfl), Fx.ic, m97, m98, m99, m100, m101, m102, m96, m103, b13⟩ ?_)))))
 rintro f2 w10 ⟨k, hk, hgt, h5, h6, h7, h8, m104, m105, m106, m107, m108, m109, m110, m111, b14⟩
 refine Ws (Ws (Wl (Lv (.int .i64 ((k : Int))) (x_move rfl h8) ?_)))
 by_cases c91 : 0 < (k : Int)
 ·obtain ⟨j, ej⟩ : ∃ j, k = j + 1 := ⟨k - 1, by omega⟩
  refine Lv (.bool true) (Fx.x_gtrT rfl rfl rfl c91) (Lv (.bool true) (x_move rfl rfl) (Lv ((pt p)) (x_move rfl h5) (Lv ((pt p)) (x_nil rfl rfl) (Lv ((pt p)) (x_field rfl rfl Try.underlying70 rfl (s := 20) (by kernel_rfl) rfl rfl) (Lv ((pf p 18)) (x_field rfl rfl Try.underlying65 rfl (s := 1) (by kernel_rfl) rfl (by show _ + 18 = _; omega)) (Lv (.slice (some ⟨g4, 0, none⟩) (m.s.nn + 1) (cap1)) (x_load1 (x := Fx.updV (ldY m) 18 (.slice (some ⟨g4, 0, none⟩) (m.s.nn + 1) (cap1))) rfl rfl (by kernel_rfl) m110.cel (i := 18) (by omega) (by omega) (Fx.updV_eq (by omega))) (Lv (.int .i64 ((k : Int))) (x_move rfl h8) (Lv (.int .i64 ((j : Int))) (Fx.x_sub rfl rfl rfl Fx.io) (Lv ((pf g4 (56 * j))) (x_indexS rfl rfl rfl Try.underlying62 (s := 56) (by kernel_rfl) (by omega) (by omega) (by omega)) (Lv ((pf g4 (56 * j))) (x_field rfl rfl Try.underlying123 rfl (s := 1) (by kernel_rfl) rfl rfl) (Lv (.int .u64 (m.id j)) (x_load1 (x := Fx.flat 56 (Fx.shF (fun kq => ndY (m.id kq) (m.par kq) (m.R kq)) (ndY (idE v.o v.seq) v.node (upd (fun _ => 0) a v.amt)) m.s.nn k)) rfl rfl (by kernel_rfl) m111.cel (i := 56 * j) (by omega) (by omega) (Fx.flat_cell (k := j) (j := 0) (by omega) (by omega) ((congrFun (Fx.sh_at (by omega) (by omega)) 0).trans rfl))) (Lv (.int .u64 ((idE v.o v.seq))) (x_move rfl h6) ?_))))))))))))
  by_cases c104 : (idE v.o v.seq) < (m.id j)
  ·refine Lv (.bool true) (Fx.x_gtrT rfl rfl rfl c104) (Lv (.bool true) (x_pickT rfl rfl rfl) (Ln (sN (Wc (b := true) rfl (fun _ => Wk (sN (Fx.W.block (Ws ?_)))) (fun h => nomatch h)))))
   -- region 18 draws
   refine Fx.W.reord [0, 1, 2, 3, 5, 6, 7, 8, 9, 11, 12, 4, 10, 13, 14, 15, 16] [0, 0, 0, 0, 4, 0, 0, 0, 0, 0, 4, 0, 0, 0, 4, 0, 3] Fx.Mk Fx.Mk.refl Fx.Mk.trans (certs := [(16, 4, [4]), (16, 10, [10]), (16, 14, [14])]) (by kernel_rfl) (by kernel_rfl) (by kernel_rfl) (by kernel_rfl) (by kernel_rfl) fun wt3 hbwt3 hzwt3 => ?_
   have s11 : Fx.Stp w10.heap.size w10 wt3 := Sb hbwt3
   have m112 := m104.stp s11 (m104.notNew (Nat.le_refl _))
   have m113 := m105.up s11.old
   have m114 := m106.stp s11 m106.ne
   have m115 := m107.stp s11 m107.ne
   have m116 := m108.stpB s11 (Nat.ne_of_lt (m108.lt))
   have m117 := m109.stp s11 m109.ne
   have m118 := m110.stp s11 m110.ne
   have m119 := m111.stpB s11 (Nat.ne_of_lt (m111.lt))
   have b15 := s11.below b14 (Nat.le_trans hB b14.size) (Nat.le_trans hB b14.size)
   refine Rp ((pt p)) (fun v1 => x_move rfl h5) (Rp ((pt p)) (fun v1 => x_nil rfl rfl) (Rp ((pt p)) (fun v1 => x_field rfl rfl Try.underlying70 rfl (s := 20) (by kernel_rfl) rfl rfl) (Rp ((pf p 18)) (fun v1 => x_field rfl rfl Try.underlying65 rfl (s := 1) (by kernel_rfl) rfl (by show _ + 18 = _; omega)) (Rp (.int .i64 ((k : Int))) (fun v1 => x_move rfl h8) (Rp ((pt p)) (fun v1 => x_move rfl h5) (Rp ((pt p)) (fun v1 => x_nil rfl rfl) (Rp ((pt p)) (fun v1 => x_field rfl rfl Try.underlying70 rfl (s := 20) (by kernel_rfl) rfl rfl) (Rp ((pf p 18)) (fun v1 => x_field rfl rfl Try.underlying65 rfl (s := 1) (by kernel_rfl) rfl (by show _ + 18 = _; omega)) (Rp (.int .i64 ((k : Int))) (fun v1 => x_move rfl h8) (Rp (.int .i64 ((j : Int))) (fun v1 => Fx.x_sub rfl rfl rfl Fx.io) (Fx.R.s (.slice (some ⟨g4, 0, none⟩) (m.s.nn + 1) (cap1)) (x_load1 (x := Fx.updV (ldY m) 18 (.slice (some ⟨g4, 0, none⟩) (m.s.nn + 1) (cap1))) rfl rfl (by kernel_rfl) m118.cel (i := 18) (by omega) (by omega) (Fx.updV_eq (by omega))) ?_)))))))))))
   refine Fx.R.s (.slice (some ⟨g4, 0, none⟩) (m.s.nn + 1) (cap1)) (x_load1 (x := Fx.updV (ldY m) 18 (.slice (some ⟨g4, 0, none⟩) (m.s.nn + 1) (cap1))) rfl rfl (by kernel_rfl) m118.cel (i := 18) (by omega) (by omega) (Fx.updV_eq (by omega))) ?_
   refine Rp ((pf g4 (56 * j))) (fun v1 => x_indexS rfl rfl rfl Try.underlying62 (s := 56) (by kernel_rfl) (by omega) (by omega) (by omega)) (Fx.R.s (.agg (Fx.varr 56 (ndY (m.id j) (m.par j) (m.R j)))) (x_loadA (x := Fx.flat 56 (Fx.shF (fun kq => ndY (m.id kq) (m.par kq) (m.R kq)) (ndY (idE v.o v.seq) v.node (upd (fun _ => 0) a v.amt)) m.s.nn k)) (y := ndY (m.id j) (m.par j) (m.R j)) rfl rfl (by kernel_rfl) (by kernel_rfl) m119.cel (i := 56 * j) (by omega) (by omega) (fun jq hjq => (Fx.flat_at (k := j) (by omega) hjq).trans (congrFun (Fx.sh_at (by omega) (by omega)) jq))) ?_)
   refine Rp ((pf g4 (56 * k))) (fun v1 => x_indexS rfl rfl rfl Try.underlying62 (s := 56) (by kernel_rfl) (by omega) (by omega) (by omega)) (Fx.R.eff (by rfl) ?_)
   refine Fx.L.ownA (x := Fx.flat 56 (Fx.shF (fun kq => ndY (m.id kq) (m.par kq) (m.R kq)) (ndY (idE v.o v.seq) v.node (upd (fun _ => 0) a v.amt)) m.s.nn k)) (y := ndY (m.id j) (m.par j) (m.R j)) (by rfl) rfl rfl rfl rfl (fun j _ => ndY_one' _ _ _ j) (by kernel_rfl) m119 (i := 56 * k) (by omega) fun w11 m120 s12 z7 => ?_
   have hct5 := Fx.ChT.of_stp s12 m119.tyB
   have m121 := m112.chT hct5 (by decide)
   have m122 := m113.chT hct5 (by decide)
   have m123 := m114.chT hct5 (by decide)
   have m124 := m115.chT hct5 (by decide)
   have m125 := m116.chT hct5 (by decide)
   have m126 := m117.stp s12 (by omega)
   have m127 := m118.chT hct5 (by decide)
   have b16 := s12.below b15 (Nat.le_trans hB b15.size) m119.blk.1
   have m128 : Fx.Own w11 B 123 56 (.slice (some ⟨g4, 0, none⟩) (m.s.nn + 1) cap1) (m.s.nn + 1) (Fx.flat 56 (Fx.shF (fun kq => ndY (m.id kq) (m.par kq) (m.R kq)) (ndY (idE v.o v.seq) v.node (upd (fun _ => 0) a v.amt)) m.s.nn j)) := m120.congr (fun pq hp => (Fx.ovr_flat (k := k) (by omega) pq hp).trans (Fx.flat_cong (fun i hi q _ => Fx.sh_step ej (by omega) i hi q) pq hp))
   refine Ln (Fx.R.nil (sN (Wl (Lv (.int .i64 ((k : Int))) (x_move rfl h8) (Lv (.int .i64 ((j : Int))) (Fx.x_sub rfl rfl rfl Fx.io) (Lv (.int .i64 ((j : Int))) (x_assign rfl rfl) (Ln (Fx.blkN (Fx.lpN ⟨j, by omega, (gtI_step ej hgt c104), h5, (h6.trans Fx.ic), h7, Fx.ic, m121, m122, m123, m124, m125, m126, m127, m128, b16⟩ ?_)))))))))
   show (intOf ((.int .i64 ((j : Int))))).toNat < _
   simp only [h8, intOf]; omega
  refine Lv (.bool false) (x_gtrF rfl rfl rfl c104) (Lv (.bool false) (x_pickT rfl rfl rfl) (Ln (sN (Wc (b := false) rfl (fun h => nomatch h) (fun _ => Fx.W.exit (Fx.seqX (Fx.lpX (Fx.blkX (sN (Ws ?_))))))))))
  -- region 20 draws
  refine Fx.W.reord [0, 1, 2, 3, 5, 4, 6, 7, 8] [0, 0, 0, 0, 4, 0, 4, 0, 3] Fx.Mk Fx.Mk.refl Fx.Mk.trans (certs := [(8, 4, [4]), (8, 6, [6])]) (by kernel_rfl) (by kernel_rfl) (by kernel_rfl) (by kernel_rfl) (by kernel_rfl) fun wt4 hbwt4 hzwt4 => ?_
  have s13 : Fx.Stp w10.heap.size w10 wt4 := Sb hbwt4
  have m129 := m104.stp s13 (m104.notNew (Nat.le_refl _))
  have m130 := m105.up s13.old
  have m132 := m107.stp s13 m107.ne
  have m133 := m108.stpB s13 (Nat.ne_of_lt (m108.lt))
  have m134 := m109.stp s13 m109.ne
  have m135 := m110.stp s13 m110.ne
  have m136 := m111.stpB s13 (Nat.ne_of_lt (m111.lt))
  have b17 := s13.below b14 (Nat.le_trans hB b14.size) (Nat.le_trans hB b14.size)
  refine Rp ((pt p)) (fun v1 => x_move rfl h5) (Rp ((pt p)) (fun v1 => x_nil rfl rfl) (Rp ((pt p)) (fun v1 => x_field rfl rfl Try.underlying70 rfl (s := 20) (by kernel_rfl) rfl rfl) (Rp ((pf p 18)) (fun v1 => x_field rfl rfl Try.underlying65 rfl (s := 1) (by kernel_rfl) rfl (by show _ + 18 = _; omega)) (Rp (.int .i64 ((k : Int))) (fun v1 => x_move rfl h8) (Fx.R.s (.slice (some ⟨g4, 0, none⟩) (m.s.nn + 1) (cap1)) (x_load1 (x := Fx.updV (ldY m) 18 (.slice (some ⟨g4, 0, none⟩) (m.s.nn + 1) (cap1))) rfl rfl (by kernel_rfl) m135.cel (i := 18) (by omega) (by omega) (Fx.updV_eq (by omega))) ?_)))))
  refine Fx.R.s (.agg (Fx.varr 56 (ndY (idE v.o v.seq) v.node (upd (fun _ => 0) a v.amt)))) (x_loadA (x := ndY (idE v.o v.seq) v.node (upd (fun _ => 0) a v.amt)) (y := ndY (idE v.o v.seq) v.node (upd (fun _ => 0) a v.amt)) rfl h7 (by kernel_rfl) (by kernel_rfl) m134.cel (i := 0) (by omega) (by omega) (fun j _ => by rw [Nat.zero_add])) ?_
  refine Rp ((pf g4 (56 * k))) (fun v1 => x_indexS rfl rfl rfl Try.underlying62 (s := 56) (by kernel_rfl) (by omega) (by omega) (by omega)) (Fx.R.eff (by rfl) ?_)
  refine Fx.L.ownA (x := Fx.flat 56 (Fx.shF (fun kq => ndY (m.id kq) (m.par kq) (m.R kq)) (ndY (idE v.o v.seq) v.node (upd (fun _ => 0) a v.amt)) m.s.nn k)) (y := ndY (idE v.o v.seq) v.node (upd (fun _ => 0) a v.amt)) (by rfl) rfl rfl rfl rfl (fun j _ => ndY_one' _ _ _ j) (by kernel_rfl) m136 (i := 56 * k) (by omega) fun w12 m137 s14 z8 => ?_
  have hct6 := Fx.ChT.of_stp s14 m136.tyB
  have m138 := m129.chT hct6 (by decide)
  have m139 := m130.chT hct6 (by decide)
  have m141 := m132.chT hct6 (by decide)
  have m142 := m133.chT hct6 (by decide)
  have m143 := m134.stp s14 (by omega)
  have m144 := m135.chT hct6 (by decide)
  have b18 := s14.below b17 (Nat.le_trans hB b17.size) m136.blk.1
  have m145 : Fx.Own w12 B 123 56 (.slice (some ⟨g4, 0, none⟩) (m.s.nn + 1) cap1) (m.s.nn + 1) (Fx.flat 56 (Fx.insF (fun kq => ndY (m.id kq) (m.par kq) (m.R kq)) k (ndY (idE v.o v.seq) v.node (upd (fun _ => 0) a v.amt)))) := m137.congr (fun pq hp => (Fx.ovr_flat (k := k) (by omega) pq hp).trans (Fx.flat_cong (fun i hi q _ => Fx.ins_end (by omega) i hi q) pq hp))
  refine Ln (Fx.R.nil (sN (Ws (Wl (Lv (.int .i64 (0)) (x_assign rfl rfl) (Ln (sN (Wr (⟨.int .i64 (0), rV Try.results74 (by exact rfl), ?_⟩)))))))))
  have ee : makesE m.core v = addE m.t m.tn (idE v.o v.seq) v.node := if_neg (fun h => h.elim (fun h => by rw [show ownN m.core.id v.o m.core.nn = cn0 from hcn0.symm] at h; omega) (fun h => by omega))
  have ek : k = downI m.id m.s.nn (idE v.o v.seq) := Fx.down_eq hk (fun i a b => decide_eq_true (hgt i a b)) (.inr (fun j2 e => by rw [show j2 = j by omega]; exact decide_eq_false c104))
  have m146 : Fx.Own w12 B 123 56 (.slice (some ⟨g4, 0, none⟩) (m.s.nn + 1) cap1) (m.s.nn + 1) (Fx.flat 56 fun kq => ndY (Fx.insI m.id k (idE v.o v.seq) kq) (Fx.insI m.par k v.node kq) (Fx.insI m.R k (upd (fun _ => 0) a v.amt) kq)) := by rw [← insF_nd]; exact m145
  have eR : (upd (fun _ => 0) a v.amt) = upd (fun _ => 0) (v.o - 1).toNat v.amt := by rw [show (v.o - 1).toNat = a by omega]
  have bn9 : m.tn + 1 ≤ 33 := add_room hc0
  refine ⟨congrArg (fun q => Ending.returned (Value.int .i64 q)) (hc0.symm.trans ee.symm), b18, fun _ => ⟨{ m with s := { m.s with na := some ⟨g4, 0, none⟩, nn := m.s.nn + 1, nc := cap1 }, id := Fx.insI m.id k (idE v.o v.seq), par := Fx.insI m.par k v.node, R := Fx.insI m.R k (upd (fun _ => 0) a v.amt), ta := some ⟨g9, 0, none⟩, tn := m.tn + 1, tc := cap9, t := insT m.t (Fx.down (fun i => decide ((idE v.o v.seq) < m.t i 0)) m.tn) (idE v.o v.seq) v.node }, ?_, ?_⟩⟩
  ·unfold makesC; rw [show downI m.core.id m.core.nn (idE v.o v.seq) = k from ek.symm, ← eR]; rfl
  exact { c := m144.to (ldY_nodes m _ _ _), n := m146, g := m138, tc := m141, t := m142, r := m139, pB := hLp, tB := hLtb, bn := (by have := bnn; show m.s.nn + 1 ≤ 1000; omega), bg := bg, bt := (by show m.tn + 1 ≤ 1000; omega), br := hL.br }
 refine Lv (.bool false) (x_gtrF rfl rfl rfl c91) (Lv (.bool false) (x_move rfl rfl) (Lk (by rfl) rfl (Lk (by rfl) rfl (Lk (by rfl) rfl (Lk (by rfl) rfl (Lk (by rfl) rfl (Lk (by rfl) rfl (Lk (by rfl) rfl (Lk (by rfl) rfl (Lk (by rfl) rfl (Lk (by rfl) rfl (Lk (by rfl) rfl (Lk (by rfl) rfl (Lv (.bool false) (x_pickF rfl rfl rfl) (Ln (sN (Wc (b := false) rfl (fun h => nomatch h) (fun _ => Fx.W.exit (Fx.seqX (Fx.lpX (Fx.blkX (sN (Ws ?_)))))))))))))))))))))))
 -- region 20 draws
 refine Fx.W.reord [0, 1, 2, 3, 5, 4, 6, 7, 8] [0, 0, 0, 0, 4, 0, 4, 0, 3] Fx.Mk Fx.Mk.refl Fx.Mk.trans (certs := [(8, 4, [4]), (8, 6, [6])]) (by kernel_rfl) (by kernel_rfl) (by kernel_rfl) (by kernel_rfl) (by kernel_rfl) fun wt5 hbwt5 hzwt5 => ?_
 have s15 : Fx.Stp w10.heap.size w10 wt5 := Sb hbwt5
 have m148 := m104.stp s15 (m104.notNew (Nat.le_refl _))
 have m149 := m105.up s15.old
 have m151 := m107.stp s15 m107.ne
 have m152 := m108.stpB s15 (Nat.ne_of_lt (m108.lt))
 have m153 := m109.stp s15 m109.ne
 have m154 := m110.stp s15 m110.ne
 have m155 := m111.stpB s15 (Nat.ne_of_lt (m111.lt))
 have b19 := s15.below b14 (Nat.le_trans hB b14.size) (Nat.le_trans hB b14.size)
 refine Rp ((pt p)) (fun v1 => x_move rfl h5) (Rp ((pt p)) (fun v1 => x_nil rfl rfl) (Rp ((pt p)) (fun v1 => x_field rfl rfl Try.underlying70 rfl (s := 20) (by kernel_rfl) rfl rfl) (Rp ((pf p 18)) (fun v1 => x_field rfl rfl Try.underlying65 rfl (s := 1) (by kernel_rfl) rfl (by show _ + 18 = _; omega)) (Rp (.int .i64 ((k : Int))) (fun v1 => x_move rfl h8) (Fx.R.s (.slice (some ⟨g4, 0, none⟩) (m.s.nn + 1) (cap1)) (x_load1 (x := Fx.updV (ldY m) 18 (.slice (some ⟨g4, 0, none⟩) (m.s.nn + 1) (cap1))) rfl rfl (by kernel_rfl) m154.cel (i := 18) (by omega) (by omega) (Fx.updV_eq (by omega))) ?_)))))
 refine Fx.R.s (.agg (Fx.varr 56 (ndY (idE v.o v.seq) v.node (upd (fun _ => 0) a v.amt)))) (x_loadA (x := ndY (idE v.o v.seq) v.node (upd (fun _ => 0) a v.amt)) (y := ndY (idE v.o v.seq) v.node (upd (fun _ => 0) a v.amt)) rfl h7 (by kernel_rfl) (by kernel_rfl) m153.cel (i := 0) (by omega) (by omega) (fun j _ => by rw [Nat.zero_add])) ?_
 refine Rp ((pf g4 (56 * k))) (fun v1 => x_indexS rfl rfl rfl Try.underlying62 (s := 56) (by kernel_rfl) (by omega) (by omega) (by omega)) (Fx.R.eff (by rfl) ?_)
 refine Fx.L.ownA (x := Fx.flat 56 (Fx.shF (fun kq => ndY (m.id kq) (m.par kq) (m.R kq)) (ndY (idE v.o v.seq) v.node (upd (fun _ => 0) a v.amt)) m.s.nn k)) (y := ndY (idE v.o v.seq) v.node (upd (fun _ => 0) a v.amt)) (by rfl) rfl rfl rfl rfl (fun j _ => ndY_one' _ _ _ j) (by kernel_rfl) m155 (i := 56 * k) (by omega) fun w13 m156 s16 z9 => ?_
 have hct7 := Fx.ChT.of_stp s16 m155.tyB
 have m157 := m148.chT hct7 (by decide)
 have m158 := m149.chT hct7 (by decide)
 have m160 := m151.chT hct7 (by decide)
 have m161 := m152.chT hct7 (by decide)
 have m162 := m153.stp s16 (by omega)
 have m163 := m154.chT hct7 (by decide)
 have b20 := s16.below b19 (Nat.le_trans hB b19.size) m155.blk.1
 have m164 : Fx.Own w13 B 123 56 (.slice (some ⟨g4, 0, none⟩) (m.s.nn + 1) cap1) (m.s.nn + 1) (Fx.flat 56 (Fx.insF (fun kq => ndY (m.id kq) (m.par kq) (m.R kq)) k (ndY (idE v.o v.seq) v.node (upd (fun _ => 0) a v.amt)))) := m156.congr (fun pq hp => (Fx.ovr_flat (k := k) (by omega) pq hp).trans (Fx.flat_cong (fun i hi q _ => Fx.ins_end (by omega) i hi q) pq hp))
 refine Ln (Fx.R.nil (sN (Ws (Wl (Lv (.int .i64 (0)) (x_assign rfl rfl) (Ln (sN (Wr (⟨.int .i64 (0), rV Try.results74 (by exact rfl), ?_⟩)))))))))
 have ee : makesE m.core v = addE m.t m.tn (idE v.o v.seq) v.node := if_neg (fun h => h.elim (fun h => by rw [show ownN m.core.id v.o m.core.nn = cn0 from hcn0.symm] at h; omega) (fun h => by omega))
 have ek : k = downI m.id m.s.nn (idE v.o v.seq) := Fx.down_eq hk (fun i a b => decide_eq_true (hgt i a b)) (.inl (by omega))
 have m165 : Fx.Own w13 B 123 56 (.slice (some ⟨g4, 0, none⟩) (m.s.nn + 1) cap1) (m.s.nn + 1) (Fx.flat 56 fun kq => ndY (Fx.insI m.id k (idE v.o v.seq) kq) (Fx.insI m.par k v.node kq) (Fx.insI m.R k (upd (fun _ => 0) a v.amt) kq)) := by rw [← insF_nd]; exact m164
 have eR : (upd (fun _ => 0) a v.amt) = upd (fun _ => 0) (v.o - 1).toNat v.amt := by rw [show (v.o - 1).toNat = a by omega]
 have bn9 : m.tn + 1 ≤ 33 := add_room hc0
 refine ⟨congrArg (fun q => Ending.returned (Value.int .i64 q)) (hc0.symm.trans ee.symm), b20, fun _ => ⟨{ m with s := { m.s with na := some ⟨g4, 0, none⟩, nn := m.s.nn + 1, nc := cap1 }, id := Fx.insI m.id k (idE v.o v.seq), par := Fx.insI m.par k v.node, R := Fx.insI m.R k (upd (fun _ => 0) a v.amt), ta := some ⟨g9, 0, none⟩, tn := m.tn + 1, tc := cap9, t := insT m.t (Fx.down (fun i => decide ((idE v.o v.seq) < m.t i 0)) m.tn) (idE v.o v.seq) v.node }, ?_, ?_⟩⟩
 ·unfold makesC; rw [show downI m.core.id m.core.nn (idE v.o v.seq) = k from ek.symm, ← eR]; rfl
 exact { c := m163.to (ldY_nodes m _ _ _), n := m165, g := m157, tc := m160, t := m161, r := m158, pB := hLp, tB := hLtb, bn := (by have := bnn; show m.s.nn + 1 ≤ 1000; omega), bg := bg, bt := (by show m.tn + 1 ≤ 1000; omega), br := hL.br }
end Go.Proofs.Ytleajegppehbdaa
namespace Go.Proofs.Ytleajegppehbdaa
open Go.RowKit
namespace Rt
theorem turned_cases (x : Nat → Int) (n : Int) (is : Bool) (em : Int) (off : Nat) :
    ((turnedM x n is em off).1 = zero ∧ (turnedM x n is em off).2 ≠ 0 ∧ ¬ (may x = true ∧ 1 ≤ n ∧ n ≤ 1125899906842624 ∧ is = true ∧ em = 0 ∧ x off + n ≤ 1125899906842624)) ∨
    ((may x = true ∧ 1 ≤ n ∧ n ≤ 1125899906842624 ∧ is = true ∧ em = 0 ∧ x off + n ≤ 1125899906842624) ∧ turnedM x n is em off = (upd x off (x off + n), 0)) := by
  unfold turnedM
  by_cases h1 : may x = true
  · by_cases h2 : 1 ≤ n
    · by_cases h3 : n ≤ 1125899906842624
      · rw [h1, decide_eq_true h2, decide_eq_true h3]
        simp only [Bool.and_self, if_true]
        cases is
        · left; exact ⟨rfl, (by show (10 : Int) ≠ 0; decide), fun h => by cases h.2.2.2.1⟩
        by_cases h4 : em = 0
        · by_cases h5 : x off + n ≤ 1125899906842624
          · right; exact ⟨⟨trivial, h2, h3, rfl, h4, h5⟩, by rw [if_pos rfl, if_pos h4, if_pos h5]⟩
          left; rw [if_pos rfl, if_pos h4, if_neg h5]; exact ⟨rfl, by decide, fun h => h5 h.2.2.2.2.2⟩
        left; rw [if_pos rfl, if_neg h4]; exact ⟨rfl, h4, fun h => h4 h.2.2.2.2.1⟩
      left; rw [decide_eq_false h3, Bool.and_false, if_neg (by decide)]; exact ⟨rfl, by decide, fun h => h3 h.2.2.1⟩
    left; rw [decide_eq_false h2, Bool.and_false, Bool.false_and, if_neg (by decide)]; exact ⟨rfl, by decide, fun h => h2 h.2.1⟩
  left; rw [show may x = false by simpa using h1, Bool.false_and, Bool.false_and, if_neg (by decide)]; exact ⟨rfl, by decide, fun h => by cases h.1⟩
theorem upd_bd {x : Nat → Int} (h : Ent x) {off : Nat} {n : Int} (h1 : 1 ≤ n) (h2 : x off + n ≤ 1125899906842624) (ho : off < 54) : Ent (upd x off (x off + n)) := by
  intro p hp
  unfold upd
  split
  · have := h off ho; omega
  exact h p hp
theorem reg_nat {i : Int} (h : regB i = true) : ∃ a : Nat, a < 6 ∧ i = (a : Int) + 1 ∧ i.toNat - 1 = a := by
  have : 1 ≤ i ∧ i ≤ 6 := by unfold regB at h; simpa using h
  exact ⟨(i - 1).toNat, by omega, by omega, by omega⟩
structure Moved (x y : Nat → Int) (a b : Nat) (n : Int) : Prop where
  may : may y = true
  l : ∀ k, k < 6 → L y k = L x k + (if k = b then n else 0) - (if k = a then n else 0)
  g : gSum y = gSum x
  u : uSum y = uSum x
theorem move_ok {x : Nat → Int} {i j n : Int} (h : (moveM x i j n).2 = 0) : ∃ a b : Nat, a < 6 ∧ b < 6 ∧ a ≠ b ∧ i = (a : Int) + 1 ∧ j = (b : Int) + 1 ∧ 1 ≤ n ∧ n ≤ 1125899906842624 ∧ n ≤ L x a ∧ Moved x (moveM x i j n).1 a b n ∧ (moveM x i j n).1 = upd x (18 + a * 6 + b) (x (18 + a * 6 + b) + n) := by
  unfold moveM at *
  rcases turned_cases x n (regB i && regB j) (moveE x i j n) (moveO i j) with ⟨_, h2, _⟩ | ⟨⟨hm, h1, h2, hr, he, hx⟩, heq⟩
  · exact absurd h h2
  rw [Bool.and_eq_true] at hr
  obtain ⟨a, ha, hia, hta⟩ := reg_nat hr.1
  obtain ⟨b, hb, hjb, htb⟩ := reg_nat hr.2
  have ho : moveO i j = 18 + a * 6 + b := by unfold moveO; rw [hta, htb]
  rw [ho] at heq hx
  rw [ho]
  have hne : a ≠ b := by
    intro hab
    unfold moveE at he
    rw [if_pos (by rw [hia, hjb, hab])] at he
    cases he
  have hL : n ≤ L x a := by
    unfold moveE at he
    rw [if_neg (by omega)] at he
    by_cases hl : localV x i < n
    · rw [decide_eq_true hl] at he; cases he
    · rw [hia, localV_L hm a ha] at hl; omega
  obtain ⟨e, al, gs⟩ := (may_iff x).1 hm
  have hl := L_move x a b ha hb n
  have o1 : ∀ p, p < 18 → upd x (18 + a * 6 + b) (x (18 + a * 6 + b) + n) p = x p := fun p hp => upd_other _ _ _ _ (by omega)
  have hg : gSum (upd x (18 + a * 6 + b) (x (18 + a * 6 + b) + n)) = gSum x := by unfold gSum G; rw [o1 0 (by omega), o1 1 (by omega), o1 2 (by omega), o1 3 (by omega), o1 4 (by omega), o1 5 (by omega)]
  have hfst : (turnedM x n (regB i && regB j) (moveE x i j n) (18 + a * 6 + b)).1 = upd x (18 + a * 6 + b) (x (18 + a * 6 + b) + n) := by rw [heq]
  rw [hfst]
  refine ⟨a, b, ha, hb, hne, hia, hjb, h1, h2, hL, ⟨?_, hl, hg, ?_⟩, rfl⟩
  · rw [may_iff]
    refine ⟨upd_bd e h1 hx (by omega), fun k hk => ?_, by rw [hg]; exact gs⟩
    obtain ⟨c1, c2, c3⟩ := al k hk
    refine ⟨?_, ?_, ?_⟩
    · rw [hl k hk]
      split
      · split <;> omega
      split
      · rename_i hka; subst hka; omega
      omega
    · unfold F C at *; rw [o1 _ (by omega), o1 _ (by omega)]; exact c2
    unfold R at *; rw [upd_other _ _ _ _ (by omega)]; exact c3
  unfold uSum C F; simp only [o1 _ (show 6 + 0 < 18 by omega), o1 _ (show 6 + 1 < 18 by omega), o1 _ (show 6 + 2 < 18 by omega), o1 _ (show 6 + 3 < 18 by omega), o1 _ (show 6 + 4 < 18 by omega), o1 _ (show 6 + 5 < 18 by omega), o1 _ (show 12 + 0 < 18 by omega), o1 _ (show 12 + 1 < 18 by omega), o1 _ (show 12 + 2 < 18 by omega), o1 _ (show 12 + 3 < 18 by omega), o1 _ (show 12 + 4 < 18 by omega), o1 _ (show 12 + 5 < 18 by omega)]
theorem upd_rows (x : Nat → Int) (off : Nat) (ho : off < 18) (v : Int) (a b : Nat) : R (upd x off v) a b = R x a b := upd_other _ _ _ _ (by omega)
theorem L_low (x : Nat → Int) (off : Nat) (ho : off < 18) (v : Int) (k : Nat) : L (upd x off v) k = L x k + (G (upd x off v) k - G x k) + (F (upd x off v) k - F x k) - (C (upd x off v) k - C x k) := by
  unfold L
  simp only [upd_rows x off ho v]
  omega
theorem C_upd (x : Nat → Int) (a : Nat) (n : Int) (k : Nat) : C (upd x (6 + a) (x (6 + a) + n)) k = C x k + (if k = a then n else 0) := by
  unfold C upd
  by_cases h : k = a
  · subst h; simp
  rw [if_neg (by omega), if_neg h]; omega
theorem F_upd (x : Nat → Int) (a : Nat) (n : Int) (k : Nat) : F (upd x (12 + a) (x (12 + a) + n)) k = F x k + (if k = a then n else 0) := by
  unfold F upd
  by_cases h : k = a
  · subst h; simp
  rw [if_neg (by omega), if_neg h]; omega
theorem G_upd (x : Nat → Int) (a : Nat) (n : Int) (k : Nat) : G (upd x a (x a + n)) k = G x k + (if k = a then n else 0) := by
  unfold G upd
  by_cases h : k = a
  · subst h; simp
  rw [if_neg h, if_neg h]; omega
theorem six (a : Nat) (ha : a < 6) (n : Int) : (if 0 = a then n else 0) + (if 1 = a then n else 0) + (if 2 = a then n else 0) + (if 3 = a then n else 0) + (if 4 = a then n else 0) + (if 5 = a then n else 0) = n := by
  have : a = 0 ∨ a = 1 ∨ a = 2 ∨ a = 3 ∨ a = 4 ∨ a = 5 := by omega
  rcases this with h | h | h | h | h | h <;> subst h <;> simp
theorem take_ok {x : Nat → Int} {i n : Int} (h : (takeM x i n).2 = 0) : ∃ a : Nat, a < 6 ∧ i = (a : Int) + 1 ∧ 1 ≤ n ∧ n ≤ 1125899906842624 ∧ n ≤ L x a ∧ C x a + n ≤ 1125899906842624 ∧ may (takeM x i n).1 = true ∧
    (∀ k, k < 6 → L (takeM x i n).1 k = L x k - (if k = a then n else 0)) ∧ gSum (takeM x i n).1 = gSum x ∧ uSum (takeM x i n).1 = uSum x + n ∧ (takeM x i n).1 = upd x (6 + a) (x (6 + a) + n) := by
  unfold takeM at *
  rcases turned_cases x n (regB i) (takeE x i n) (6 + (i.toNat - 1)) with ⟨_, h2, _⟩ | ⟨⟨hm, h1, h2, hr, he, hx⟩, heq⟩
  · exact absurd h h2
  obtain ⟨a, ha, hia, hta⟩ := reg_nat hr
  rw [hta] at heq hx
  rw [hta]
  have hL : n ≤ L x a := by
    unfold takeE at he
    by_cases hl : localV x i < n
    · rw [decide_eq_true hl] at he; cases he
    · rw [hia, localV_L hm a ha] at hl; omega
  obtain ⟨e, al, gs⟩ := (may_iff x).1 hm
  have hfst : (turnedM x n (regB i) (takeE x i n) (6 + a)).1 = upd x (6 + a) (x (6 + a) + n) := by rw [heq]
  rw [hfst]
  have hC := C_upd x a n
  have hG : ∀ k, k < 6 → G (upd x (6 + a) (x (6 + a) + n)) k = G x k := fun k hk => upd_other _ _ _ _ (by omega)
  have hF : ∀ k, k < 6 → F (upd x (6 + a) (x (6 + a) + n)) k = F x k := fun k hk => upd_other _ _ _ _ (by omega)
  have hl : ∀ k, k < 6 → L (upd x (6 + a) (x (6 + a) + n)) k = L x k - (if k = a then n else 0) := by
    intro k hk
    rw [L_low x (6 + a) (by omega), hG k hk, hF k hk, hC k]; omega
  have hg : gSum (upd x (6 + a) (x (6 + a) + n)) = gSum x := by unfold gSum; rw [hG 0 (by omega), hG 1 (by omega), hG 2 (by omega), hG 3 (by omega), hG 4 (by omega), hG 5 (by omega)]
  refine ⟨a, ha, hia, h1, h2, hL, hx, ?_, hl, hg, ?_, rfl⟩
  · rw [may_iff]
    refine ⟨upd_bd e h1 hx (by omega), fun k hk => ?_, by rw [hg]; exact gs⟩
    obtain ⟨c1, c2, c3⟩ := al k hk
    refine ⟨?_, ?_, ?_⟩
    · rw [hl k hk]
      split
      · rename_i hka; subst hka; omega
      omega
    · rw [hF k hk, hC k]; split <;> omega
    rw [upd_rows x (6 + a) (by omega)]; exact c3
  unfold uSum
  rw [hF 0 (by omega), hF 1 (by omega), hF 2 (by omega), hF 3 (by omega), hF 4 (by omega), hF 5 (by omega), hC 0, hC 1, hC 2, hC 3, hC 4, hC 5]
  have := six a ha n
  omega
theorem free_ok {x : Nat → Int} {i n : Int} (h : (freeM x i n).2 = 0) : ∃ a : Nat, a < 6 ∧ i = (a : Int) + 1 ∧ 1 ≤ n ∧ n ≤ 1125899906842624 ∧ n ≤ C x a - F x a ∧ may (freeM x i n).1 = true ∧
    (∀ k, k < 6 → L (freeM x i n).1 k = L x k + (if k = a then n else 0)) ∧ gSum (freeM x i n).1 = gSum x ∧ uSum (freeM x i n).1 = uSum x - n ∧ (freeM x i n).1 = upd x (12 + a) (x (12 + a) + n) := by
  unfold freeM at *
  rcases turned_cases x n (regB i) (freeE x i n) (12 + (i.toNat - 1)) with ⟨_, h2, _⟩ | ⟨⟨hm, h1, h2, hr, he, hx⟩, heq⟩
  · exact absurd h h2
  obtain ⟨a, ha, hia, hta⟩ := reg_nat hr
  rw [hta] at heq hx
  rw [hta]
  have hL : n ≤ C x a - F x a := by
    unfold freeE at he
    rw [hta] at he
    by_cases hl : C x a - F x a < n
    · rw [decide_eq_true hl] at he; cases he
    · omega
  obtain ⟨e, al, gs⟩ := (may_iff x).1 hm
  have hfst : (turnedM x n (regB i) (freeE x i n) (12 + a)).1 = upd x (12 + a) (x (12 + a) + n) := by rw [heq]
  rw [hfst]
  have hF := F_upd x a n
  have hG : ∀ k, k < 6 → G (upd x (12 + a) (x (12 + a) + n)) k = G x k := fun k hk => upd_other _ _ _ _ (by omega)
  have hC : ∀ k, k < 6 → C (upd x (12 + a) (x (12 + a) + n)) k = C x k := fun k hk => upd_other _ _ _ _ (by omega)
  have hl : ∀ k, k < 6 → L (upd x (12 + a) (x (12 + a) + n)) k = L x k + (if k = a then n else 0) := by
    intro k hk
    rw [L_low x (12 + a) (by omega), hG k hk, hF k, hC k hk]; omega
  have hg : gSum (upd x (12 + a) (x (12 + a) + n)) = gSum x := by unfold gSum; rw [hG 0 (by omega), hG 1 (by omega), hG 2 (by omega), hG 3 (by omega), hG 4 (by omega), hG 5 (by omega)]
  refine ⟨a, ha, hia, h1, h2, hL, ?_, hl, hg, ?_, rfl⟩
  · rw [may_iff]
    refine ⟨upd_bd e h1 hx (by omega), fun k hk => ?_, by rw [hg]; exact gs⟩
    obtain ⟨c1, c2, c3⟩ := al k hk
    refine ⟨?_, ?_, ?_⟩
    · rw [hl k hk]; split <;> omega
    · rw [hF k, hC k hk]
      split
      · rename_i hka; subst hka; omega
      omega
    rw [upd_rows x (12 + a) (by omega)]; exact c3
  unfold uSum
  rw [hC 0 (by omega), hC 1 (by omega), hC 2 (by omega), hC 3 (by omega), hC 4 (by omega), hC 5 (by omega), hF 0, hF 1, hF 2, hF 3, hF 4, hF 5]
  have := six a ha n
  omega
end Rt
end Go.Proofs.Ytleajegppehbdaa
namespace Go.Proofs.Ytleajegppehbdaa
open Go.RowKit Rt
open Fx (x_move x_assign x_field x_load1 x_pickF x_pickT x_nil x_conv x_indexS x_index x_leqF x_loadA x_len x_gtrF x_build x_eqlF x_eqlT Lv sN Ln Ws Qv Wl Rp Wc Qs Wr Sb Lk Wk rC rV sR)
section
namespace Rt
def walkR (f : (Nat → Int) → (Nat → Int) × Int) (idx : Nat → Nat) (R : Nat → Nat → Int) : Nat → (Nat → Nat → Int) × Int
  | 0 => (R, 0)
  | j + 1 => if (walkR f idx R j).2 = 0 then (if (f ((walkR f idx R j).1 (idx j))).2 = 0 then (updA (walkR f idx R j).1 (idx j) (f ((walkR f idx R j).1 (idx j))).1, 0) else ((walkR f idx R j).1, (f ((walkR f idx R j).1 (idx j))).2)) else walkR f idx R j
section
variable {f : (Nat → Int) → (Nat → Int) × Int} {idx : Nat → Nat} {R Rk : Nat → Nat → Int} {k q : Nat}
theorem walkR_step (h : walkR f idx R k = (Rk, 0)) (e : idx k = q) (h0 : (f (Rk q)).2 = 0) : walkR f idx R (k + 1) = (updA Rk q (f (Rk q)).1, 0) := by
  unfold walkR; rw [h, if_pos rfl, e, if_pos h0]
theorem walkR_err (h : walkR f idx R k = (Rk, 0)) (e : idx k = q) (h0 : ¬ (f (Rk q)).2 = 0) : (walkR f idx R (k + 1)).2 = (f (Rk q)).2 := by
  unfold walkR; rw [h, if_pos rfl, e, if_neg h0]
theorem walkR_stop (h0 : ¬ (walkR f idx R k).2 = 0) : ∀ n, k ≤ n → walkR f idx R n = walkR f idx R k
  | 0, h => by obtain rfl : k = 0 := by omega
               rfl
  | n + 1, h => by
    by_cases e : k = n + 1
    · rw [e]
    · have := walkR_stop h0 n (by omega)
      rw [walkR, this, if_neg h0]
end
def lead (P : Nat → Bool) : Nat → Nat
  | 0 => 0
  | n + 1 => if lead P n = n ∧ P n = true then n + 1 else lead P n
theorem lead_le (P : Nat → Bool) : ∀ n, lead P n ≤ n
  | 0 => Nat.le_refl _
  | n + 1 => by
    unfold lead; split
    · exact Nat.le_refl _
    · have := lead_le P n; omega
theorem lead_all {P : Nat → Bool} : ∀ {n : Nat}, (∀ i, i < n → P i = true) → lead P n = n
  | 0, _ => rfl
  | n + 1, h => by unfold lead; rw [if_pos ⟨lead_all fun i hi => h i (by omega), h n (by omega)⟩]
theorem lead_eq {P : Nat → Bool} {K : Nat} (h1 : ∀ i, i < K → P i = true) (h2 : P K = false) : ∀ {n : Nat}, K ≤ n → lead P n = K
  | 0, h => by unfold lead; omega
  | n + 1, h => by
    unfold lead
    by_cases e : K = n + 1
    · rw [if_pos ⟨lead_all fun i hi => h1 i (by omega), h1 n (by omega)⟩]; exact e.symm
    · rw [lead_eq h1 h2 (n := n) (by omega), if_neg]
      rintro ⟨h3, h4⟩
      subst h3; rw [h2] at h4; cases h4
def pathK (t : Nat → Nat → Int) (tn : Nat) (x : Int) : Nat := lead (fun i => decide (0 ≤ findT t tn (iterT t tn i x))) 1000
theorem pathK_eq {t : Nat → Nat → Int} {tn K D : Nat} {x : Int} (h1 : ∀ i, i < K → 0 ≤ findT t tn (iterT t tn i x)) (h2 : findT t tn (iterT t tn K x) < 0) (hD : findT t tn (iterT t tn D x) < 0) (hD2 : D ≤ 1000) : K = pathK t tn x := by
  have hK : K ≤ 1000 := by
    rcases Nat.lt_or_ge D K with h | h
    · have := h1 D h; omega
    · omega
  exact (lead_eq (fun i hi => decide_eq_true (h1 i hi)) (decide_eq_false (by omega)) hK).symm
end Rt
def LdC.node (L : LdC) (x : Int) : Int := firstI (fun i => decide (L.id i = x)) L.nn
def LdC.grant (L : LdC) (o r : Int) : Int := firstI (fun i => decide (L.g i 0 = o) && decide (L.g i 1 = r)) L.gn
def LdC.askedN (L : LdC) (a : Nat) (r : Int) : Int := firstI (fun i => decide (L.rq a i = r)) (L.rn a)
namespace Rt
def idxT (L : LdC) (x : Int) (i : Nat) : Nat := (L.node (iterT L.t L.tn i x)).toNat
def grN (v : EvM) : Nat → Int := fun j => if j = 0 then v.o else if j = 1 then v.req else if j = 2 then v.node else if j = 3 then v.amt else 0
def gtG (v : EvM) (x : Nat → Int) : Bool := decide (v.o < x 0) || (decide (x 0 = v.o) && decide (v.req < x 1))
def regN (v : EvM) : Nat := (v.o - 1).toNat
def takesW (L : LdC) (v : EvM) : (Nat → Nat → Int) × Int := walkR (fun x => takeM x v.o v.amt) (idxT L v.node) L.R (pathK L.t L.tn v.node)
def takesE (L : LdC) (v : EvM) : Int := if 0 ≤ L.askedN (regN v) v.req then 14 else if pathK L.t L.tn v.node = 0 then 9 else (takesW L v).2
def addReq (L : LdC) (a : Nat) (r : Int) : LdC := { L with rn := updA L.rn a (L.rn a + 1), rq := updA L.rq a (updA (L.rq a) (L.rn a) r) }
def takesC (L : LdC) (v : EvM) : LdC :=
  addReq { L with R := (takesW L v).1, gn := L.gn + 1, g := Fx.insI L.g (Fx.down (fun i => gtG v (L.g i)) L.gn) (grN v) } (regN v) v.req
theorem ndR_store {n q : Nat} {id par : Nat → Int} {R : Nat → Nat → Int} {r : Nat → Int} : ∀ i, i < n → ∀ j, j < 56 → Fx.updF (fun kq => ndY (id kq) (par kq) (R kq)) q (Fx.ovr (ndY (id q) (par q) (R q)) 2 54 (Fx.rv .i64 r)) i j = ndY (id i) (par i) (updA R q r i) j := fun i _ j hj => by
  unfold Fx.updF updA
  by_cases h : i = q
  · subst h
    rw [if_pos rfl, if_pos rfl]
    unfold Fx.ovr ndY Fx.rv
    by_cases h0 : j = 0
    · subst h0; rfl
    · by_cases h1 : j = 1
      · subst h1; rfl
      · rw [if_pos (by omega), if_neg h0, if_neg h1]
  · rw [if_neg h, if_neg h]
theorem insF_gr {g : Nat → Nat → Int} {k : Nat} {x : Nat → Int} : Fx.insF (fun kq => grY (g kq)) k (grY x) = fun kq => grY (Fx.insI g k x kq) := by
  funext i
  unfold Fx.insF Fx.insI
  by_cases h : i < k
  · simp only [if_pos h]
  by_cases h2 : i = k
  · simp only [if_neg h, if_pos h2]
  simp only [if_neg h, if_neg h2]
theorem ldY_grants (m : LdM) (a : Option Addr) (n c : Nat) : Fx.updV (ldY m) 19 (.slice a n c) = ldY { m with s := { m.s with ga := a, gn := n, gc := c } } := by
  funext p
  unfold Fx.updV ldY
  by_cases h : p = 19
  · subst h; rfl
  rw [if_neg h]
  by_cases h2 : p < 20
  · rw [if_pos h2, if_pos h2]; unfold stY
    by_cases h3 : p < 6
    · rw [if_pos h3, if_pos h3]
    by_cases h4 : p < 12
    · rw [if_neg h3, if_pos h4, if_neg h3, if_pos h4]
    by_cases h5 : p < 18
    · rw [if_neg h3, if_neg h4, if_pos h5, if_neg h3, if_neg h4, if_pos h5]
    rw [if_neg h3, if_neg h4, if_neg h5, if_pos (by omega), if_neg h3, if_neg h4, if_neg h5, if_pos (by omega)]
  rw [if_neg h2, if_neg h2]
theorem ldY_reqs (m : LdM) {i q : Nat} (hq : q = i + 21) (a : Option Addr) (n c : Nat) : Fx.updV (ldY m) q (.slice a n c) = ldY { m with ra := updA m.ra i a, rn := updA m.rn i n, rc := updA m.rc i c } := by
  subst hq
  funext p
  unfold Fx.updV ldY
  by_cases h : p = i + 21
  · subst h
    rw [if_pos rfl, if_neg (by omega), if_neg (by omega), Nat.add_sub_cancel]
    simp [updA]
  rw [if_neg h]
  by_cases h2 : p < 20
  · rw [if_pos h2, if_pos h2]
  rw [if_neg h2, if_neg h2]
  by_cases h3 : p = 20
  · rw [if_pos h3, if_pos h3]
  rw [if_neg h3, if_neg h3]
  have h4 : ¬ p - 21 = i := by omega
  simp [updA, h4]
theorem Rqs.app {w w' : World} {B a g cap : Nat} {r : Int} {m m' : LdM} (h : Rqs w B 6 m) (_ha : a < 6) (h1 : m'.ra = updA m.ra a (some ⟨g, 0, none⟩)) (h2 : m'.rn = updA m.rn a (m.rn a + 1)) (h3 : m'.rc = updA m.rc a cap) (h4 : m'.rq = updA m.rq a (updA (m.rq a) (m.rn a) r))
    (hO : Fx.Own w' B 30 1 (.slice (some ⟨g, 0, none⟩) (m.rn a + 1) cap) (m.rn a + 1) (Fx.rv .u64 (updA (m.rq a) (m.rn a) r))) (hg : w.grownBy w' (reqV m a).ownBlock) (hgv : (reqV m a).ownBlock = some g ∨ g = w.heap.size) : Rqs w' B 6 m' := by
  have e1 : ∀ i, i ≠ a → reqV m' i = reqV m i := fun i hi => by unfold reqV; rw [h1, h2, h3]; simp [updA, hi]
  have e2 : reqV m' a = .slice (some ⟨g, 0, none⟩) (m.rn a + 1) cap := by unfold reqV; rw [h1, h2, h3]; simp [updA]
  have hne : ∀ i, i < 6 → i ≠ a → ∀ q, (reqV m i).ownBlock = some q → q ≠ g := fun i hi hia q hq e => by
    subst e
    rcases hgv with e3 | e3
    · exact h.2 i a hi _ha hia q hq e3
    · have := ((h.1 i hi).ge hq).2; omega
  refine ⟨fun i hi => ?_, fun i j hi hj hij q hq => ?_⟩
  · by_cases e : i = a
    · subst e; rw [e2, h2, h4]; simp only [updA, if_true]; exact hO
    rw [e1 i e, h2, h4]
    simp only [updA, if_neg e]
    refine World.ownsRow.kept (h.1 i hi) hg ?_
    by_cases hn : (reqV m i).ownBlock = none
    · exact .inl hn
    right
    intro e3
    cases hq : (reqV m i).ownBlock with
    | none => exact hn hq
    | some q => rw [hq] at e3; exact h.2 i a hi _ha e q hq e3.symm
  by_cases e : i = a
  · subst e
    rw [e2] at hq
    rw [e1 j (fun e => hij e.symm)]
    intro h5
    exact hne j hj (fun e => hij e.symm) q h5 (Option.some.inj hq).symm
  rw [e1 i e] at hq
  by_cases e4 : j = a
  · subst e4; rw [e2]; intro h5; exact hne i hi e q hq (Option.some.inj h5).symm
  rw [e1 j e4]; exact h.2 i j hi hj hij q hq
end Rt
end
end Go.Proofs.Ytleajegppehbdaa
namespace Go.Proofs.Ytleajegppehbdaa
open Go.RowKit
def Rws (w0 : World) (l : List (Nat × (Nat → Int))) (w' : World) : Prop := (∀ p ∈ l, w'.heap[p.1]? = some (.cells (iarr .i64 54 p.2) 121 (0, 0))) ∧ Below w0.heap.size w0 w'
theorem Rws.up {w0 w w' : World} {l : List (Nat × (Nat → Int))} (h : Rws w0 l w) (hb : Below w.heap.size w w') : Rws w0 l w' := ⟨fun p hp => row_kept (h.1 p hp) hb, bch h.2 hb⟩
theorem Rws.drew {w0 w : World} {l : List (Nat × (Nat → Int))} (h : Rws w0 l w) : Rws w0 l w.drew := ⟨h.1, bN h.2 1⟩
theorem Rws.drop {w0 w : World} {p : Nat × (Nat → Int)} {l : List (Nat × (Nat → Int))} (h : Rws w0 (p :: l) w) : Rws w0 l w := ⟨fun q hq => h.1 q (by simp [hq]), h.2⟩
theorem Rws.row {w0 w : World} {l : List (Nat × (Nat → Int))} (h : Rws w0 l w) (g : Nat) (x : Nat → Int) (hm : (g, x) ∈ l) : w.heap[g]? = some (.cells (iarr .i64 54 x) 121 (0, 0)) := h.1 (g, x) hm
theorem Rws.add {w0 w : World} {l : List (Nat × (Nat → Int))} (h : Rws w0 l w) {g : Nat} {x : Nat → Int} (c : w.heap[g]? = some (.cells (iarr .i64 54 x) 121 (0, 0))) : Rws w0 ((g, x) :: l) w :=
  ⟨fun p hp => by
    rcases List.mem_cons.1 hp with rfl | hp
    · exact c
    · exact h.1 p hp, h.2⟩
theorem Rws.start (w : World) (x : Nat → Int) : Rws w [(w.heap.size, x)] (w.alloc (.cells (iarr .i64 54 x) 121)) := ⟨fun p hp => by
    obtain rfl : p = (w.heap.size, x) := by simpa using hp
    exact heap_alloc_new w _, (Below.refl _ _).alloc (Nat.le_refl _) _⟩
end Go.Proofs.Ytleajegppehbdaa
namespace Go.Proofs.Ytleajegppehbdaa
open Go.RowKit Rt
open Fx (x_move x_assign x_field x_load1 x_pickF x_pickT x_nil x_conv x_indexS x_index x_leqF x_loadA x_len x_gtrF x_build x_eqlF x_eqlT Lv sN Ln Ws Qv Wl Rp Wc Qs Wr Sb Lk Wk rC rV sR)
namespace Rt
def lref (x : Nat → Int) (k : Nat) : Nat → Int
  | 0 => G x k - C x k + F x k
  | j + 1 => lref x k j + R x j k - R x k j
theorem lref_L (x : Nat → Int) (k : Nat) : lref x k 6 = L x k := by simp only [lref, L]; omega
theorem lref_bd {x : Nat → Int} (h : Ent x) (k : Nat) (hk : k < 6) : ∀ j : Nat, j ≤ 6 → -(1125899906842624 * ((j : Int) + 1)) ≤ lref x k j ∧ lref x k j ≤ 1125899906842624 * ((j : Int) + 2)
  | 0, _ => by
    have a := h k (by omega); have b := h (6 + k) (by omega); have c := h (12 + k) (by omega)
    simp only [lref, G, C, F]; omega
  | j + 1, hj => by
    have := lref_bd h k hk j (by omega)
    have a := h (18 + j * 6 + k) (by omega); have b := h (18 + k * 6 + j) (by omega)
    simp only [lref, R]; omega
end Rt
theorem f7_number (n : Int) (w : World) :
    Calls Try.prog 113 #[.int .i64 (n)] w fun e w' => e = .returned (.bool (okN n)) ∧ w' = w := by
 refine Fx.enter Try.func113 rfl (n := 9) rfl (by rfl) ?_
 refine Ws (Wl (Lv (.bool false) (x_assign rfl rfl) (Ln (sN (Ws (Wl (Lv (.int .i64 (n)) (x_move rfl rfl) ?_)))))))
 by_cases c4 : 0 ≤ n
 ·refine Lv (.bool true) (Fx.x_geqT rfl rfl rfl c4) (Lv (.bool true) (x_move rfl rfl) (Lv (.int .i64 (n)) (x_move rfl rfl) ?_))
  by_cases c7 : n ≤ 1125899906842624
  ·refine Lv (.bool true) (Fx.x_leqT rfl rfl rfl c7) (Lv (.bool true) (x_pickT rfl rfl rfl) (Lv (.bool true) (x_assign rfl rfl) (Ln (sN (Wr (⟨.bool true, rV Try.results113 (by exact rfl), ?_⟩))))))
   exact ⟨congrArg (fun q => Ending.returned (Value.bool q)) (by simp only [okN]; first | (symm; simp; omega) | (symm; simp; done)), rfl⟩
  refine Lv (.bool false) (x_leqF rfl rfl rfl c7) (Lv (.bool false) (x_pickT rfl rfl rfl) (Lv (.bool false) (x_assign rfl rfl) (Ln (sN (Wr (⟨.bool false, rV Try.results113 (by exact rfl), ?_⟩))))))
  exact ⟨congrArg (fun q => Ending.returned (Value.bool q)) (by simp only [okN]; first | (symm; simp; omega) | (symm; simp; done)), rfl⟩
 refine Lv (.bool false) (Fx.x_geqF rfl rfl rfl c4) (Lv (.bool false) (x_move rfl rfl) (Lk (by rfl) rfl (Lk (by rfl) rfl (Lv (.bool false) (x_pickF rfl rfl rfl) (Lv (.bool false) (x_assign rfl rfl) (Ln (sN (Wr (⟨.bool false, rV Try.results113 (by exact rfl), ?_⟩)))))))))
 exact ⟨congrArg (fun q => Ending.returned (Value.bool q)) (by simp only [okN]; first | (symm; simp; omega) | (symm; simp; done)), rfl⟩
theorem f7_region (n : Int) (w : World) :
    Calls Try.prog 102 #[.int .i64 (n)] w fun e w' => e = .returned (.bool (regB n)) ∧ w' = w := by
 refine Fx.enter Try.func102 rfl (n := 9) rfl (by rfl) ?_
 refine Ws (Wl (Lv (.bool false) (x_assign rfl rfl) (Ln (sN (Ws (Wl (Lv (.int .i64 (n)) (x_move rfl rfl) ?_)))))))
 by_cases c4 : 1 ≤ n
 ·refine Lv (.bool true) (Fx.x_geqT rfl rfl rfl c4) (Lv (.bool true) (x_move rfl rfl) (Lv (.int .i64 (n)) (x_move rfl rfl) ?_))
  by_cases c7 : n ≤ 6
  ·refine Lv (.bool true) (Fx.x_leqT rfl rfl rfl c7) (Lv (.bool true) (x_pickT rfl rfl rfl) (Lv (.bool true) (x_assign rfl rfl) (Ln (sN (Wr (⟨.bool true, rV Try.results102 (by exact rfl), ?_⟩))))))
   exact ⟨congrArg (fun q => Ending.returned (Value.bool q)) (by simp only [regB]; first | (symm; simp; omega) | (symm; simp; done)), rfl⟩
  refine Lv (.bool false) (x_leqF rfl rfl rfl c7) (Lv (.bool false) (x_pickT rfl rfl rfl) (Lv (.bool false) (x_assign rfl rfl) (Ln (sN (Wr (⟨.bool false, rV Try.results102 (by exact rfl), ?_⟩))))))
  exact ⟨congrArg (fun q => Ending.returned (Value.bool q)) (by simp only [regB]; first | (symm; simp; omega) | (symm; simp; done)), rfl⟩
 refine Lv (.bool false) (Fx.x_geqF rfl rfl rfl c4) (Lv (.bool false) (x_move rfl rfl) (Lk (by rfl) rfl (Lk (by rfl) rfl (Lv (.bool false) (x_pickF rfl rfl rfl) (Lv (.bool false) (x_assign rfl rfl) (Ln (sN (Wr (⟨.bool false, rV Try.results102 (by exact rfl), ?_⟩)))))))))
 exact ⟨congrArg (fun q => Ending.returned (Value.bool q)) (by simp only [regB]; first | (symm; simp; omega) | (symm; simp; done)), rfl⟩
theorem Rt.lref_succ (x : Nat → Int) (k j : Nat) : lref x k (j + 1) = lref x k j + x (18 + j * 6 + k) - x (18 + k * 6 + j) := rfl
theorem Rt.lref_zero (x : Nat → Int) (k : Nat) : lref x k 0 = x k - x (6 + k) + x (12 + k) := rfl
theorem f7_local (x : Nat → Int) (k : Nat) (w : World) (hk : k < 6) (he : Ent x) :
    Calls Try.prog 103 #[.agg (Fx.varr 54 (Fx.rv .i64 x)), .int .i64 ((k : Int) + 1)] w fun e w' => e = .returned (.int .i64 (L x k)) ∧ Below w.heap.size w w' := by
 have HL : lref x k 6 = L x k := lref_L x k
 have HB := fun j => lref_bd he k hk j
 have h0 : lref x k 0 = x k - x (k + 6) + x (k + 12) := by rw [lref_zero, Nat.add_comm 6 k, Nat.add_comm 12 k]
 have a1 := he k (by omega)
 have a2 := he (k + 6) (by omega)
 have a3 := he (k + 12) (by omega)
 refine Fx.enter Try.func103 rfl (n := 44) rfl (by rfl) ?_
 refine Ws (Wl (Fx.L.box (m := 54) (y := Fx.rv .i64 x) (by rfl) rfl rfl (Fx.cells_agg _ _) rfl fun g1 w1 eg1 m1 s1 z1 => ?_))
 have b1 := s1.below (Below.refl w.heap.size w) (Below.refl w.heap.size w).size (Below.refl w.heap.size w).size
 have lg1 : w.heap.size ≤ g1 := by rw [eg1]; exact (Below.refl w.heap.size w).size
 have tg1 : g1 < w1.heap.size := m1.lt
 clear eg1
 refine Lv (.int .i64 (0)) (x_assign rfl rfl) (Ln (sN (Ws (Wl (Lv (.int .i64 ((k : Int) + 1)) (x_move rfl rfl) (Lv (.int .i64 ((k : Int))) (Fx.x_sub rfl rfl rfl Fx.io) (Lv (.int .i64 ((k : Int))) (x_assign rfl rfl) (Ln (sN (Ws ?_))))))))))
 -- region 2 draws
 refine Fx.W.quiet (fun v1 => ∃ q, v1 = World.drewN w1 q) (by kernel_rfl) (by kernel_rfl) ⟨1, rfl⟩ ?_
 refine Qv (.int .i64 ((k : Int))) (fun v1 hv1 => x_move rfl rfl) (Qv ((pt g1)) (fun v1 hv1 => x_field rfl rfl Try.underlying121 rfl (s := 6) (by kernel_rfl) rfl rfl) (Qv ((pf g1 k)) (fun v1 hv1 => x_index rfl rfl rfl Try.underlying118 (s := 1) (by kernel_rfl) (by omega) (by omega) (by omega)) (Qv (.int .i64 (x k)) (fun v1 hv1 => x_load1 (x := Fx.rv .i64 x) rfl rfl (by kernel_rfl) (by obtain ⟨qd, rfl⟩ := hv1; exact m1.cel) (i := k) (by omega) (by omega) rfl) (Qv (.int .i64 ((k : Int))) (fun v1 hv1 => x_move rfl rfl) (Qv ((pf g1 6)) (fun v1 hv1 => x_field rfl rfl Try.underlying121 rfl (s := 6) (by kernel_rfl) rfl (by show _ + 6 = _; omega)) (Qv ((pf g1 (k + 6))) (fun v1 hv1 => x_index rfl rfl rfl Try.underlying118 (s := 1) (by kernel_rfl) (by omega) (by omega) (by omega)) (Qv (.int .i64 (x (k + 6))) (fun v1 hv1 => x_load1 (x := Fx.rv .i64 x) rfl rfl (by kernel_rfl) (by obtain ⟨qd, rfl⟩ := hv1; exact m1.cel) (i := k + 6) (by omega) (by omega) rfl) (Qv (.int .i64 ((x k) - (x (k + 6)))) (fun v1 hv1 => Fx.x_sub rfl rfl rfl Fx.io) (Qv (.int .i64 ((k : Int))) (fun v1 hv1 => x_move rfl rfl) (Qv ((pf g1 12)) (fun v1 hv1 => x_field rfl rfl Try.underlying121 rfl (s := 6) (by kernel_rfl) rfl (by show _ + 12 = _; omega)) (Qv ((pf g1 (k + 12))) (fun v1 hv1 => x_index rfl rfl rfl Try.underlying118 (s := 1) (by kernel_rfl) (by omega) (by omega) (by omega)) (Qv (.int .i64 (x (k + 12))) (fun v1 hv1 => x_load1 (x := Fx.rv .i64 x) rfl rfl (by kernel_rfl) (by obtain ⟨qd, rfl⟩ := hv1; exact m1.cel) (i := k + 12) (by omega) (by omega) rfl) (Qv (.int .i64 (((x k) - (x (k + 6))) + (x (k + 12)))) (fun v1 hv1 => Fx.x_add rfl rfl rfl Fx.io) (Qv (.int .i64 (((x k) - (x (k + 6))) + (x (k + 12)))) (fun v1 hv1 => x_assign rfl rfl) (Fx.Qt.nil ?_)))))))))))))))
 rintro _ ⟨qd, rfl⟩
 obtain ⟨wq1, ewq1⟩ : ∃ v1, v1 = World.drewN w1 qd := ⟨_, rfl⟩
 rw [← ewq1]
 have s2 : Fx.Stp w1.heap.size w1 wq1 := by rw [ewq1]; exact Sb (bdrN w1 qd)
 have m2 := m1.stp s2 m1.ne
 have b2 := s2.below b1 b1.size b1.size
 clear ewq1
 refine sN (Ws (Ws (Wl (Lv (.int .i64 (0)) (x_assign rfl rfl) (Ln (sN (Fx.W.block (Fx.W.loop (fun f w_ => ∃ j : Nat, j ≤ 6 ∧ f 2 = (pt g1) ∧ f 5 = .int .i64 ((k : Int)) ∧ f 6 = .int .i64 (lref x k j) ∧ f 7 = .int .i64 ((j : Int)) ∧ Fx.Blk w_ g1 54 (Fx.rv .i64 x) 121 ∧ Below w.heap.size w w_) (fun f _ => (6 - (intOf (f 7)).toNat)) ⟨0, by omega, (by rfl), Fx.ic, Fx.ic, Fx.ic, m2, b2⟩ ?_))))))))
 rintro f1 w2 ⟨j, p1, h1, h2, h3, h4, m3, b3⟩
 have hB := HB j (by omega)
 have HS : lref x k (j + 1) = lref x k j + x (6 * j + k + 18) - x (j + 6 * k + 18) := by rw [lref_succ, show 18 + j * 6 + k = 6 * j + k + 18 by omega, show 18 + k * 6 + j = j + 6 * k + 18 by omega]
 have b1 := he (6 * j + k + 18)
 have b2 := he (j + 6 * k + 18)
 refine Ws (Ws (Wl (Lv (.int .i64 ((j : Int))) (x_move rfl h4) ?_)))
 by_cases c25 : (j : Int) < 6
 ·refine Lv (.bool true) (Fx.x_lssT rfl rfl rfl c25) (Ln (sN (Wc (b := true) rfl (fun _ => Wk (sN (Ws (Fx.W.block ?_)))) (fun h => nomatch h))))
  -- region 6 draws
  refine Fx.W.quiet (fun v1 => ∃ q, v1 = World.drewN w2 q) (by kernel_rfl) (by kernel_rfl) ⟨1, rfl⟩ ?_
  refine Qv (.int .i64 (lref x k j)) (fun v1 hv1 => x_move rfl h3) (Qv (.int .i64 ((j : Int))) (fun v1 hv1 => x_move rfl h4) (Qv (.int .i64 ((k : Int))) (fun v1 hv1 => x_move rfl h2) (Qv ((pf g1 18)) (fun v1 hv1 => x_field rfl h1 Try.underlying121 rfl (s := 36) (by kernel_rfl) rfl (by show _ + 18 = _; omega)) (Qv ((pf g1 (6 * j + 18))) (fun v1 hv1 => x_index rfl rfl rfl Try.underlying119 (s := 6) (by kernel_rfl) (by omega) (by omega) (by omega)) (Qv ((pf g1 (6 * j + k + 18))) (fun v1 hv1 => x_index rfl rfl rfl Try.underlying118 (s := 1) (by kernel_rfl) (by omega) (by omega) (by omega)) (Qv (.int .i64 (x (6 * j + k + 18))) (fun v1 hv1 => x_load1 (x := Fx.rv .i64 x) rfl rfl (by kernel_rfl) (by obtain ⟨qd, rfl⟩ := hv1; exact m3.cel) (i := 6 * j + k + 18) (by omega) (by omega) rfl) (Qv (.int .i64 ((lref x k j) + (x (6 * j + k + 18)))) (fun v1 hv1 => Fx.x_add rfl rfl rfl Fx.io) (Qv (.int .i64 ((k : Int))) (fun v1 hv1 => x_move rfl h2) (Qv (.int .i64 ((j : Int))) (fun v1 hv1 => x_move rfl h4) (Qv ((pf g1 18)) (fun v1 hv1 => x_field rfl h1 Try.underlying121 rfl (s := 36) (by kernel_rfl) rfl (by show _ + 18 = _; omega)) (Qv ((pf g1 (6 * k + 18))) (fun v1 hv1 => x_index rfl rfl rfl Try.underlying119 (s := 6) (by kernel_rfl) (by omega) (by omega) (by omega)) (Qv ((pf g1 (j + 6 * k + 18))) (fun v1 hv1 => x_index rfl rfl rfl Try.underlying118 (s := 1) (by kernel_rfl) (by omega) (by omega) (by omega)) (Qv (.int .i64 (x (j + 6 * k + 18))) (fun v1 hv1 => x_load1 (x := Fx.rv .i64 x) rfl rfl (by kernel_rfl) (by obtain ⟨qd, rfl⟩ := hv1; exact m3.cel) (i := j + 6 * k + 18) (by omega) (by omega) rfl) (Qv (.int .i64 (((lref x k j) + (x (6 * j + k + 18))) - (x (j + 6 * k + 18)))) (fun v1 hv1 => Fx.x_sub rfl rfl rfl Fx.io) (Qv (.int .i64 (((lref x k j) + (x (6 * j + k + 18))) - (x (j + 6 * k + 18)))) (fun v1 hv1 => x_assign rfl rfl) (Fx.Qt.nil ?_))))))))))))))))
  rintro _ ⟨qd, rfl⟩
  obtain ⟨wq2, ewq2⟩ : ∃ v1, v1 = World.drewN w2 qd := ⟨_, rfl⟩
  rw [← ewq2]
  have s3 : Fx.Stp w2.heap.size w2 wq2 := by rw [ewq2]; exact Sb (bdrN w2 qd)
  have m4 := m3.stp s3 m3.ne
  have b4 := s3.below b3 b3.size b3.size
  clear ewq2
  refine Fx.blkN (sN (Wl (Lv (.int .i64 ((j : Int))) (x_move rfl h4) (Lv (.int .i64 ((j : Int) + 1)) (Fx.x_add rfl rfl rfl Fx.io) (Lv (.int .i64 ((j : Int) + 1)) (x_assign rfl rfl) (Ln (Fx.lpN ⟨j + 1, by omega, h1, (h2.trans Fx.ic), Fx.ic, Fx.ic, m4, b4⟩ ?_)))))))
  show (6 - (intOf ((.int .i64 ((j : Int) + 1)))).toNat) < _
  simp only [h4, intOf]; omega
 refine Lv (.bool false) (Fx.x_lssF rfl rfl rfl c25) (Ln (sN (Wc (b := false) rfl (fun h => nomatch h) (fun _ => Fx.W.exit (Fx.seqX (Fx.lpX (Fx.blkX (sN (Ws (Wl (Lv (.int .i64 (lref x k j)) (x_move rfl h3) (Lv (.int .i64 (lref x k j)) (x_assign rfl rfl) (Ln (sN (Wr (⟨.int .i64 (lref x k j), rV Try.results103 (by exact rfl), ?_⟩))))))))))))))))
 exact ⟨congrArg (fun q => Ending.returned (Value.int .i64 q)) (by rw [← HL]; exact congrArg _ (by omega)), b3⟩
namespace Rt
def RowOk (x : Nat → Int) (i : Nat) : Prop := okN (x i) = true ∧ okN (x (i + 6)) = true ∧ okN (x (i + 12)) = true ∧ x (i + 12) ≤ x (i + 6) ∧ x (7 * i + 18) = 0
def RowTo (x : Nat → Int) (i j : Nat) : Prop := ∀ q, q < j → okN (x (6 * i + q + 18)) = true
def OkTo (x : Nat → Int) (i : Nat) : Prop := ∀ k, k < i → RowOk x k ∧ RowTo x k 6
def sumG (x : Nat → Int) : Nat → Int
  | 0 => 0
  | i + 1 => sumG x i + x i
theorem okTo_zero (x : Nat → Int) : OkTo x 0 := fun _ h => absurd h (by omega)
theorem rowTo_zero (x : Nat → Int) (i : Nat) : RowTo x i 0 := fun _ h => absurd h (by omega)
theorem rowTo_succ {x : Nat → Int} {i j : Nat} (h : RowTo x i j) (hn : okN (x (6 * i + j + 18)) = true) : RowTo x i (j + 1) := fun q hq => by
  by_cases e : q = j
  · subst e; exact hn
  · exact h q (by omega)
theorem okTo_succ {x : Nat → Int} {i : Nat} (h : OkTo x i) (hr : RowOk x i) (ht : RowTo x i 6) : OkTo x (i + 1) := fun k hk => by
  by_cases e : k = i
  · subst e; exact ⟨hr, ht⟩
  · exact h k (by omega)
theorem okTo_ent {x : Nat → Int} (h : OkTo x 6) : Ent x := fun p hp => by
  by_cases h1 : p < 6
  · exact okN_bd (h p h1).1.1
  · by_cases h2 : p < 12
    · have := okN_bd (h (p - 6) (by omega)).1.2.1; rwa [show p - 6 + 6 = p by omega] at this
    · by_cases h3 : p < 18
      · have := okN_bd (h (p - 12) (by omega)).1.2.2.1; rwa [show p - 12 + 12 = p by omega] at this
      · have := okN_bd ((h ((p - 18) / 6) (by omega)).2 ((p - 18) % 6) (by omega)); rwa [show 6 * ((p - 18) / 6) + (p - 18) % 6 + 18 = p by omega] at this
theorem sumG_bd {x : Nat → Int} : ∀ {i : Nat}, OkTo x i → 0 ≤ sumG x i ∧ sumG x i ≤ 1125899906842624 * (i : Int)
  | 0, _ => by simp [sumG]
  | i + 1, h => by
    have a := sumG_bd (i := i) (fun k hk => h k (by omega))
    have b := okN_bd (h i (by omega)).1.1
    simp only [sumG]; omega
theorem no_ent {x : Nat → Int} {p : Nat} (hp : p < 54) (h : okN (x p) = false) : may x = false := by
  cases hm : may x
  · rfl
  have := (may_iff x).1 hm |>.1 p hp
  unfold okN at h; simp at h; omega
theorem no_fc {x : Nat → Int} {i : Nat} (hi : i < 6) (h : x (i + 6) < x (i + 12)) : may x = false := by
  cases hm : may x
  · rfl
  have := ((may_iff x).1 hm |>.2.1 i hi).2.1
  unfold F C at this; rw [Nat.add_comm 12 i, Nat.add_comm 6 i] at this; omega
theorem no_rr {x : Nat → Int} {i : Nat} (hi : i < 6) (h : ¬ x (7 * i + 18) = 0) : may x = false := by
  cases hm : may x
  · rfl
  have := ((may_iff x).1 hm |>.2.1 i hi).2.2
  unfold R at this; rw [show 18 + i * 6 + i = 7 * i + 18 by omega] at this; exact absurd this h
theorem no_loc {x : Nat → Int} {i : Nat} (hi : i < 6) (h : L x i < 0) : may x = false := by
  cases hm : may x
  · rfl
  have := ((may_iff x).1 hm |>.2.1 i hi).1
  omega
theorem loc_succ {x : Nat → Int} {m : Nat} (h : ∀ k, k < m → 0 ≤ L x k) (hm : 0 ≤ L x m) : ∀ k, k < m + 1 → 0 ≤ L x k := fun k hk => by
  by_cases e : k = m
  · rw [e]; exact hm
  · exact h k (by omega)
theorem may_fin {x : Nat → Int} (ha : OkTo x 6) (hl : ∀ k, k < 6 → 0 ≤ L x k) : may x = decide (sumG x 6 ≤ 1125899906842624) := by
  have hs : sumG x 6 = gSum x := by simp only [sumG, gSum, G]; omega
  rw [hs, Bool.eq_iff_iff, may_iff, decide_eq_true_iff]
  refine ⟨fun h => h.2.2, fun h => ⟨okTo_ent ha, fun k hk => ⟨hl k hk, ?_, ?_⟩, h⟩⟩
  · have := (ha k hk).1.2.2.2.1; unfold F C; rwa [Nat.add_comm 12 k, Nat.add_comm 6 k]
  have := (ha k hk).1.2.2.2.2; unfold R; rwa [show 18 + k * 6 + k = 7 * k + 18 by omega]
end Rt
set_option maxRecDepth 10000 in
set_option maxHeartbeats 1000000 in
theorem f7_may (x : Nat → Int) (w : World) :
    Calls Try.prog 111 #[.agg (Fx.varr 54 (Fx.rv .i64 x))] w fun e w' => e = .returned (.bool (may x)) ∧ Below w.heap.size w w' := by
 refine Fx.enter Try.func111 rfl (n := 81) rfl (by rfl) ?_
 refine Ws (Wl (Fx.L.box (m := 54) (y := Fx.rv .i64 x) (by rfl) rfl rfl (Fx.cells_agg _ _) rfl fun g1 w1 eg1 m1 s1 z1 => ?_))
 have b1 := s1.below (Below.refl w.heap.size w) (Below.refl w.heap.size w).size (Below.refl w.heap.size w).size
 have lg1 : w.heap.size ≤ g1 := by rw [eg1]; exact (Below.refl w.heap.size w).size
 have tg1 : g1 < w1.heap.size := m1.lt
 clear eg1
 refine Lv (.bool false) (x_assign rfl rfl) (Ln (sN (Ws (Wl (Lv (.int .i64 (0)) (x_assign rfl rfl) (Ln (sN (Ws (Ws (Wl (Lv (.int .i64 (0)) (x_assign rfl rfl) (Ln (sN (Fx.W.block (Fx.W.loop (fun f w_ => ∃ i : Nat, i ≤ 6 ∧ OkTo x i ∧ f 1 = (pt g1) ∧ f 3 = .int .i64 (sumG x i) ∧ f 4 = .int .i64 ((i : Int)) ∧ Fx.Blk w_ g1 54 (Fx.rv .i64 x) 121 ∧ Below w.heap.size w w_) (fun f _ => (6 - (intOf (f 4)).toNat)) ⟨0, by omega, okTo_zero x, (by rfl), Fx.ic, Fx.ic, m1, b1⟩ ?_)))))))))))))))
 rintro f1 w2 ⟨i, hi, hA, h1, h2, h3, m2, b2⟩
 have hG := sumG_bd hA
 have HG : sumG x (i + 1) = sumG x i + x i := rfl
 refine Ws (Ws (Wl (Lv (.int .i64 ((i : Int))) (x_move rfl h3) ?_)))
 by_cases c8 : (i : Int) < 6
 ·refine Lv (.bool true) (Fx.x_lssT rfl rfl rfl c8) (Ln (sN (Wc (b := true) rfl (fun _ => Wk (sN (Ws (Fx.W.block (Ws (Ws ?_)))))) (fun h => nomatch h))))
  -- region 5 draws
  refine Fx.W.quiet (fun v1 => ∃ q, v1 = World.drewN w2 q) (by kernel_rfl) (by kernel_rfl) ⟨1, rfl⟩ ?_
  refine Qv (.int .i64 ((i : Int))) (fun v1 hv1 => x_move rfl h3) (Qv ((pt g1)) (fun v1 hv1 => x_field rfl h1 Try.underlying121 rfl (s := 6) (by kernel_rfl) rfl rfl) (Qv ((pf g1 i)) (fun v1 hv1 => x_index rfl rfl rfl Try.underlying118 (s := 1) (by kernel_rfl) (by omega) (by omega) (by omega)) (Qv (.int .i64 (x i)) (fun v1 hv1 => x_load1 (x := Fx.rv .i64 x) rfl rfl (by kernel_rfl) (by obtain ⟨qd, rfl⟩ := hv1; exact m2.cel) (i := i) (by omega) (by omega) rfl) ?_)))
  by_cases c15 : (okN (x i)) = true
  ·refine Fx.Qt.call (v := .bool true) (by rfl) (fun v1 hv1 => rC (args := [.int .i64 (x i)]) rfl rfl Try.func113 rfl rfl) rfl (fun v1 hv1 => (f7_number (x i) _).mono fun e v2 h => ⟨by rw [h.1, c15], by rw [h.2]; exact hv1⟩) ?_
   refine Qv (.bool false) (fun v1 hv1 => Fx.x_notF rfl rfl) (Qv (.bool false) (fun v1 hv1 => x_move rfl rfl) (Qv (.int .i64 ((i : Int))) (fun v1 hv1 => x_move rfl h3) (Qv ((pf g1 6)) (fun v1 hv1 => x_field rfl h1 Try.underlying121 rfl (s := 6) (by kernel_rfl) rfl (by show _ + 6 = _; omega)) (Qv ((pf g1 (i + 6))) (fun v1 hv1 => x_index rfl rfl rfl Try.underlying118 (s := 1) (by kernel_rfl) (by omega) (by omega) (by omega)) (Qv (.int .i64 (x (i + 6))) (fun v1 hv1 => x_load1 (x := Fx.rv .i64 x) rfl rfl (by kernel_rfl) (by obtain ⟨qd, rfl⟩ := hv1; exact m2.cel) (i := i + 6) (by omega) (by omega) rfl) ?_)))))
   by_cases c22 : (okN (x (i + 6))) = true
   ·refine Fx.Qt.call (v := .bool true) (by rfl) (fun v1 hv1 => rC (args := [.int .i64 (x (i + 6))]) rfl rfl Try.func113 rfl rfl) rfl (fun v1 hv1 => (f7_number (x (i + 6)) _).mono fun e v2 h => ⟨by rw [h.1, c22], by rw [h.2]; exact hv1⟩) ?_
    refine Qv (.bool false) (fun v1 hv1 => Fx.x_notF rfl rfl) (Qv (.bool false) (fun v1 hv1 => x_pickF rfl rfl rfl) (Qv (.bool false) (fun v1 hv1 => x_move rfl rfl) (Qv (.int .i64 ((i : Int))) (fun v1 hv1 => x_move rfl h3) (Qv ((pf g1 12)) (fun v1 hv1 => x_field rfl h1 Try.underlying121 rfl (s := 6) (by kernel_rfl) rfl (by show _ + 12 = _; omega)) (Qv ((pf g1 (i + 12))) (fun v1 hv1 => x_index rfl rfl rfl Try.underlying118 (s := 1) (by kernel_rfl) (by omega) (by omega) (by omega)) (Qv (.int .i64 (x (i + 12))) (fun v1 hv1 => x_load1 (x := Fx.rv .i64 x) rfl rfl (by kernel_rfl) (by obtain ⟨qd, rfl⟩ := hv1; exact m2.cel) (i := i + 12) (by omega) (by omega) rfl) ?_))))))
    by_cases c30 : (okN (x (i + 12))) = true
    ·refine Fx.Qt.call (v := .bool true) (by rfl) (fun v1 hv1 => rC (args := [.int .i64 (x (i + 12))]) rfl rfl Try.func113 rfl rfl) rfl (fun v1 hv1 => (f7_number (x (i + 12)) _).mono fun e v2 h => ⟨by rw [h.1, c30], by rw [h.2]; exact hv1⟩) ?_
     refine Qv (.bool false) (fun v1 hv1 => Fx.x_notF rfl rfl) (Qv (.bool false) (fun v1 hv1 => x_pickF rfl rfl rfl) (Qv (.bool false) (fun v1 hv1 => x_move rfl rfl) (Qv (.int .i64 ((i : Int))) (fun v1 hv1 => x_move rfl h3) (Qv ((pf g1 12)) (fun v1 hv1 => x_field rfl h1 Try.underlying121 rfl (s := 6) (by kernel_rfl) rfl (by show _ + 12 = _; omega)) (Qv ((pf g1 (i + 12))) (fun v1 hv1 => x_index rfl rfl rfl Try.underlying118 (s := 1) (by kernel_rfl) (by omega) (by omega) (by omega)) (Qv (.int .i64 (x (i + 12))) (fun v1 hv1 => x_load1 (x := Fx.rv .i64 x) rfl rfl (by kernel_rfl) (by obtain ⟨qd, rfl⟩ := hv1; exact m2.cel) (i := i + 12) (by omega) (by omega) rfl) (Qv (.int .i64 ((i : Int))) (fun v1 hv1 => x_move rfl h3) (Qv ((pf g1 6)) (fun v1 hv1 => x_field rfl h1 Try.underlying121 rfl (s := 6) (by kernel_rfl) rfl (by show _ + 6 = _; omega)) (Qv ((pf g1 (i + 6))) (fun v1 hv1 => x_index rfl rfl rfl Try.underlying118 (s := 1) (by kernel_rfl) (by omega) (by omega) (by omega)) (Qv (.int .i64 (x (i + 6))) (fun v1 hv1 => x_load1 (x := Fx.rv .i64 x) rfl rfl (by kernel_rfl) (by obtain ⟨qd, rfl⟩ := hv1; exact m2.cel) (i := i + 6) (by omega) (by omega) rfl) ?_))))))))))
     by_cases c42 : (x (i + 6)) < (x (i + 12))
     ·refine Qv (.bool true) (fun v1 hv1 => Fx.x_gtrT rfl rfl rfl c42) (Qv (.bool true) (fun v1 hv1 => x_pickF rfl rfl rfl) (Qv (.bool true) (fun v1 hv1 => x_move rfl rfl) (Qs (by rfl) rfl (Qs (by rfl) rfl (Qs (by rfl) rfl (Qs (by rfl) rfl (Qs (by rfl) rfl (Qs (by rfl) rfl (Qs (by rfl) rfl (Qv (.bool true) (fun v1 hv1 => x_pickT rfl rfl rfl) (Fx.Qt.nil ?_)))))))))))
      rintro _ ⟨qd, rfl⟩
      obtain ⟨wq1, ewq1⟩ : ∃ v1, v1 = World.drewN w2 qd := ⟨_, rfl⟩
      rw [← ewq1]
      have s2 : Fx.Stp w2.heap.size w2 wq1 := by rw [ewq1]; exact Sb (bdrN w2 qd)
      have b3 := s2.below b2 b2.size b2.size
      clear ewq1
      refine sN (Wc (b := true) rfl (fun _ => Ws (Wl (Lv (.bool false) (x_assign rfl rfl) ?_))) (fun h => nomatch h))
      refine Ln (sN (Wr (sR (Fx.blkR (sR (Fx.lpR (Fx.blkR (sR (⟨.bool false, rV Try.results111 (by exact rfl), ?_⟩)))))))))
      refine ⟨congrArg (fun q => Ending.returned (Value.bool q)) (Eq.symm ?_), b3⟩
      exact no_fc (i := i) (by omega) c42
     refine Qv (.bool false) (fun v1 hv1 => x_gtrF rfl rfl rfl c42) (Qv (.bool false) (fun v1 hv1 => x_pickF rfl rfl rfl) (Qv (.bool false) (fun v1 hv1 => x_move rfl rfl) (Qv (.int .i64 ((i : Int))) (fun v1 hv1 => x_move rfl h3) (Qv (.int .i64 ((i : Int))) (fun v1 hv1 => x_move rfl h3) (Qv ((pf g1 18)) (fun v1 hv1 => x_field rfl h1 Try.underlying121 rfl (s := 36) (by kernel_rfl) rfl (by show _ + 18 = _; omega)) (Qv ((pf g1 (6 * i + 18))) (fun v1 hv1 => x_index rfl rfl rfl Try.underlying119 (s := 6) (by kernel_rfl) (by omega) (by omega) (by omega)) (Qv ((pf g1 (7 * i + 18))) (fun v1 hv1 => x_index rfl rfl rfl Try.underlying118 (s := 1) (by kernel_rfl) (by omega) (by omega) (by omega)) (Qv (.int .i64 (x (7 * i + 18))) (fun v1 hv1 => x_load1 (x := Fx.rv .i64 x) rfl rfl (by kernel_rfl) (by obtain ⟨qd, rfl⟩ := hv1; exact m2.cel) (i := 7 * i + 18) (by omega) (by omega) rfl) ?_))))))))
     by_cases c51 : (x (7 * i + 18)) = 0
     ·refine Qv (.bool false) (fun v1 hv1 => Fx.x_neqF rfl rfl rfl c51) (Qv (.bool false) (fun v1 hv1 => x_pickF rfl rfl rfl) (Fx.Qt.nil ?_))
      rintro _ ⟨qd, rfl⟩
      obtain ⟨wq2, ewq2⟩ : ∃ v1, v1 = World.drewN w2 qd := ⟨_, rfl⟩
      rw [← ewq2]
      have s3 : Fx.Stp w2.heap.size w2 wq2 := by rw [ewq2]; exact Sb (bdrN w2 qd)
      have m4 := m2.stp s3 m2.ne
      have b4 := s3.below b2 b2.size b2.size
      clear ewq2
      refine sN (Wc (b := false) rfl (fun h => nomatch h) (fun _ => Wk (sN (Ws ?_))))
      have hR : RowOk x i := ⟨c15, c22, c30, by omega, c51⟩
      have b15 := okN_bd c15
      refine Wl (Lv (.int .i64 (sumG x i)) (x_move rfl h2) (Lv (.int .i64 ((i : Int))) (x_move rfl h3) (Lv ((pt g1)) (x_field rfl h1 Try.underlying121 rfl (s := 6) (by kernel_rfl) rfl rfl) (Lv ((pf g1 i)) (x_index rfl rfl rfl Try.underlying118 (s := 1) (by kernel_rfl) (by omega) (by omega) (by omega)) (Lv (.int .i64 (x i)) (x_load1 (x := Fx.rv .i64 x) rfl rfl (by kernel_rfl) m4.cel (i := i) (by omega) (by omega) rfl) (Lv (.int .i64 ((sumG x i) + (x i))) (Fx.x_add rfl rfl rfl Fx.io) (Lv (.int .i64 ((sumG x i) + (x i))) (x_assign rfl rfl) (Ln (sN (Ws (Wl (Lv (.int .i64 (0)) (x_assign rfl rfl) (Ln (sN (Fx.W.block (Fx.W.loop (fun f w_ => ∃ j : Nat, j ≤ 6 ∧ RowTo x i j ∧ f 1 = (pt g1) ∧ f 3 = .int .i64 (sumG x (i + 1)) ∧ f 4 = .int .i64 ((i : Int)) ∧ f 5 = .int .i64 ((j : Int)) ∧ Fx.Blk w_ g1 54 (Fx.rv .i64 x) 121 ∧ Below w.heap.size w w_) (fun f _ => (6 - (intOf (f 5)).toNat)) ⟨0, by omega, rowTo_zero x i, h1, Fx.ic, (h3.trans Fx.ic), Fx.ic, m4, b4⟩ ?_))))))))))))))))
      rintro f2 w3 ⟨j, hj, hT, h4, h5, h6, h7, m5, b5⟩
      refine Ws (Ws (Wl (Lv (.int .i64 ((j : Int))) (x_move rfl h7) ?_)))
      by_cases c60 : (j : Int) < 6
      ·refine Lv (.bool true) (Fx.x_lssT rfl rfl rfl c60) (Ln (sN (Wc (b := true) rfl (fun _ => Wk (sN (Ws (Fx.W.block (Ws (Wl (Lv (.int .i64 ((i : Int))) (x_move rfl h6) ?_))))))) (fun h => nomatch h))))
       refine Lv (.int .i64 ((j : Int))) (x_move rfl h7) (Lv ((pf g1 18)) (x_field rfl h4 Try.underlying121 rfl (s := 36) (by kernel_rfl) rfl (by show _ + 18 = _; omega)) (Lv ((pf g1 (6 * i + 18))) (x_index rfl rfl rfl Try.underlying119 (s := 6) (by kernel_rfl) (by omega) (by omega) (by omega)) (Lv ((pf g1 (6 * i + j + 18))) (x_index rfl rfl rfl Try.underlying118 (s := 1) (by kernel_rfl) (by omega) (by omega) (by omega)) (Lv (.int .i64 (x (6 * i + j + 18))) (x_load1 (x := Fx.rv .i64 x) rfl rfl (by kernel_rfl) m5.cel (i := 6 * i + j + 18) (by omega) (by omega) rfl) ?_))))
       by_cases c69 : (okN (x (6 * i + j + 18))) = true
       ·refine Fx.L.call (by rfl) (rC (args := [.int .i64 (x (6 * i + j + 18))]) rfl rfl Try.func113 rfl rfl) rfl ((f7_number (x (6 * i + j + 18)) _).mono ?_)
        rintro e v1 ⟨he, hv1⟩
        subst v1
        refine ⟨.bool true, by rw [he, c69], ?_⟩
        clear he
        refine Lv (.bool false) (Fx.x_notF rfl rfl) (Ln (sN (Wc (b := false) rfl (fun h => nomatch h) (fun _ => Wk (Fx.blkN (sN (Wl (Lv (.int .i64 ((j : Int))) (x_move rfl h7) (Lv (.int .i64 ((j : Int) + 1)) (Fx.x_add rfl rfl rfl Fx.io) (Lv (.int .i64 ((j : Int) + 1)) (x_assign rfl rfl) (Ln (Fx.lpN ⟨j + 1, by omega, rowTo_succ hT c69, h4, (h5.trans Fx.ic), (h6.trans Fx.ic), Fx.ic, m5, b5⟩ ?_))))))))))))
        show (6 - (intOf ((.int .i64 ((j : Int) + 1)))).toNat) < _
        simp only [h7, intOf]; omega
       rw [Bool.not_eq_true] at c69
       refine Fx.L.call (by rfl) (rC (args := [.int .i64 (x (6 * i + j + 18))]) rfl rfl Try.func113 rfl rfl) rfl ((f7_number (x (6 * i + j + 18)) _).mono ?_)
       rintro e v1 ⟨he, hv1⟩
       subst v1
       refine ⟨.bool false, by rw [he, c69], ?_⟩
       clear he
       refine Lv (.bool true) (Fx.x_notT rfl rfl) (Ln (sN (Wc (b := true) rfl (fun _ => Ws (Wl (Lv (.bool false) (x_assign rfl rfl) ?_))) (fun h => nomatch h))))
       refine Ln (sN (Wr (Fx.blkR (sR (Fx.lpR (Fx.blkR (Fx.blkR (sR (Fx.lpR (Fx.blkR (sR (⟨.bool false, rV Try.results111 (by exact rfl), ?_⟩))))))))))))
       refine ⟨congrArg (fun q => Ending.returned (Value.bool q)) (Eq.symm ?_), b5⟩
       exact no_ent (p := 6 * i + j + 18) (by omega) c69
      refine Lv (.bool false) (Fx.x_lssF rfl rfl rfl c60) (Ln (sN (Wc (b := false) rfl (fun h => nomatch h) (fun _ => Fx.W.exit (Fx.seqX (Fx.lpX (Fx.blkX (Fx.blkN (sN (Wl (Lv (.int .i64 ((i : Int))) (x_move rfl h6) (Lv (.int .i64 ((i : Int) + 1)) (Fx.x_add rfl rfl rfl Fx.io) (Lv (.int .i64 ((i : Int) + 1)) (x_assign rfl rfl) (Ln ?_))))))))))))))
      have e6 : j = 6 := by omega
      have hT6 : RowTo x i 6 := by rw [e6] at hT; exact hT
      refine Fx.lpN ⟨i + 1, by omega, okTo_succ hA hR hT6, h4, (h5.trans Fx.ic), Fx.ic, m5, b5⟩ ?_
      show (6 - (intOf ((.int .i64 ((i : Int) + 1)))).toNat) < _
      simp only [h3, intOf]; omega
     refine Qv (.bool true) (fun v1 hv1 => Fx.x_neqT rfl rfl rfl c51) (Qv (.bool true) (fun v1 hv1 => x_pickF rfl rfl rfl) (Fx.Qt.nil ?_))
     rintro _ ⟨qd, rfl⟩
     obtain ⟨wq3, ewq3⟩ : ∃ v1, v1 = World.drewN w2 qd := ⟨_, rfl⟩
     rw [← ewq3]
     have s4 : Fx.Stp w2.heap.size w2 wq3 := by rw [ewq3]; exact Sb (bdrN w2 qd)
     have b6 := s4.below b2 b2.size b2.size
     clear ewq3
     refine sN (Wc (b := true) rfl (fun _ => Ws (Wl (Lv (.bool false) (x_assign rfl rfl) ?_))) (fun h => nomatch h))
     refine Ln (sN (Wr (sR (Fx.blkR (sR (Fx.lpR (Fx.blkR (sR (⟨.bool false, rV Try.results111 (by exact rfl), ?_⟩)))))))))
     refine ⟨congrArg (fun q => Ending.returned (Value.bool q)) (Eq.symm ?_), b6⟩
     exact no_rr (i := i) (by omega) c51
    rw [Bool.not_eq_true] at c30
    refine Fx.Qt.call (v := .bool false) (by rfl) (fun v1 hv1 => rC (args := [.int .i64 (x (i + 12))]) rfl rfl Try.func113 rfl rfl) rfl (fun v1 hv1 => (f7_number (x (i + 12)) _).mono fun e v2 h => ⟨by rw [h.1, c30], by rw [h.2]; exact hv1⟩) ?_
    refine Qv (.bool true) (fun v1 hv1 => Fx.x_notT rfl rfl) (Qv (.bool true) (fun v1 hv1 => x_pickF rfl rfl rfl) (Qv (.bool true) (fun v1 hv1 => x_move rfl rfl) (Qs (by rfl) rfl (Qs (by rfl) rfl (Qs (by rfl) rfl (Qs (by rfl) rfl (Qs (by rfl) rfl (Qs (by rfl) rfl (Qs (by rfl) rfl (Qs (by rfl) rfl (Qs (by rfl) rfl (Qv (.bool true) (fun v1 hv1 => x_pickT rfl rfl rfl) (Qv (.bool true) (fun v1 hv1 => x_move rfl rfl) (Qs (by rfl) rfl (Qs (by rfl) rfl (Qs (by rfl) rfl (Qs (by rfl) rfl (Qs (by rfl) rfl (Qs (by rfl) rfl (Qs (by rfl) rfl (Qv (.bool true) (fun v1 hv1 => x_pickT rfl rfl rfl) (Fx.Qt.nil ?_))))))))))))))))))))))
    rintro _ ⟨qd, rfl⟩
    obtain ⟨wq4, ewq4⟩ : ∃ v1, v1 = World.drewN w2 qd := ⟨_, rfl⟩
    rw [← ewq4]
    have s5 : Fx.Stp w2.heap.size w2 wq4 := by rw [ewq4]; exact Sb (bdrN w2 qd)
    have b7 := s5.below b2 b2.size b2.size
    clear ewq4
    refine sN (Wc (b := true) rfl (fun _ => Ws (Wl (Lv (.bool false) (x_assign rfl rfl) ?_))) (fun h => nomatch h))
    refine Ln (sN (Wr (sR (Fx.blkR (sR (Fx.lpR (Fx.blkR (sR (⟨.bool false, rV Try.results111 (by exact rfl), ?_⟩)))))))))
    refine ⟨congrArg (fun q => Ending.returned (Value.bool q)) (Eq.symm ?_), b7⟩
    exact no_ent (p := i + 12) (by omega) c30
   rw [Bool.not_eq_true] at c22
   refine Fx.Qt.call (v := .bool false) (by rfl) (fun v1 hv1 => rC (args := [.int .i64 (x (i + 6))]) rfl rfl Try.func113 rfl rfl) rfl (fun v1 hv1 => (f7_number (x (i + 6)) _).mono fun e v2 h => ⟨by rw [h.1, c22], by rw [h.2]; exact hv1⟩) ?_
   refine Qv (.bool true) (fun v1 hv1 => Fx.x_notT rfl rfl) (Qv (.bool true) (fun v1 hv1 => x_pickF rfl rfl rfl) (Qv (.bool true) (fun v1 hv1 => x_move rfl rfl) (Qs (by rfl) rfl (Qs (by rfl) rfl (Qs (by rfl) rfl (Qs (by rfl) rfl (Qs (by rfl) rfl (Qs (by rfl) rfl (Qv (.bool true) (fun v1 hv1 => x_pickT rfl rfl rfl) (Qv (.bool true) (fun v1 hv1 => x_move rfl rfl) (Qs (by rfl) rfl (Qs (by rfl) rfl (Qs (by rfl) rfl (Qs (by rfl) rfl (Qs (by rfl) rfl (Qs (by rfl) rfl (Qs (by rfl) rfl (Qs (by rfl) rfl (Qs (by rfl) rfl (Qv (.bool true) (fun v1 hv1 => x_pickT rfl rfl rfl) (Qv (.bool true) (fun v1 hv1 => x_move rfl rfl) (Qs (by rfl) rfl (Qs (by rfl) rfl (Qs (by rfl) rfl ?_))))))))))))))))))))))))
   refine Qs (by rfl) rfl (Qs (by rfl) rfl (Qs (by rfl) rfl (Qs (by rfl) rfl (Qv (.bool true) (fun v1 hv1 => x_pickT rfl rfl rfl) (Fx.Qt.nil ?_)))))
   rintro _ ⟨qd, rfl⟩
   obtain ⟨wq5, ewq5⟩ : ∃ v1, v1 = World.drewN w2 qd := ⟨_, rfl⟩
   rw [← ewq5]
   have s6 : Fx.Stp w2.heap.size w2 wq5 := by rw [ewq5]; exact Sb (bdrN w2 qd)
   have b8 := s6.below b2 b2.size b2.size
   clear ewq5
   refine sN (Wc (b := true) rfl (fun _ => Ws (Wl (Lv (.bool false) (x_assign rfl rfl) ?_))) (fun h => nomatch h))
   refine Ln (sN (Wr (sR (Fx.blkR (sR (Fx.lpR (Fx.blkR (sR (⟨.bool false, rV Try.results111 (by exact rfl), ?_⟩)))))))))
   refine ⟨congrArg (fun q => Ending.returned (Value.bool q)) (Eq.symm ?_), b8⟩
   exact no_ent (p := i + 6) (by omega) c22
  rw [Bool.not_eq_true] at c15
  refine Fx.Qt.call (v := .bool false) (by rfl) (fun v1 hv1 => rC (args := [.int .i64 (x i)]) rfl rfl Try.func113 rfl rfl) rfl (fun v1 hv1 => (f7_number (x i) _).mono fun e v2 h => ⟨by rw [h.1, c15], by rw [h.2]; exact hv1⟩) ?_
  refine Qv (.bool true) (fun v1 hv1 => Fx.x_notT rfl rfl) (Qv (.bool true) (fun v1 hv1 => x_move rfl rfl) (Qs (by rfl) rfl (Qs (by rfl) rfl (Qs (by rfl) rfl (Qs (by rfl) rfl (Qs (by rfl) rfl (Qs (by rfl) rfl (Qv (.bool true) (fun v1 hv1 => x_pickT rfl rfl rfl) (Qv (.bool true) (fun v1 hv1 => x_move rfl rfl) (Qs (by rfl) rfl (Qs (by rfl) rfl (Qs (by rfl) rfl (Qs (by rfl) rfl (Qs (by rfl) rfl (Qs (by rfl) rfl (Qv (.bool true) (fun v1 hv1 => x_pickT rfl rfl rfl) (Qv (.bool true) (fun v1 hv1 => x_move rfl rfl) (Qs (by rfl) rfl (Qs (by rfl) rfl (Qs (by rfl) rfl (Qs (by rfl) rfl (Qs (by rfl) rfl (Qs (by rfl) rfl (Qs (by rfl) rfl ?_))))))))))))))))))))))))
  refine Qs (by rfl) rfl (Qs (by rfl) rfl (Qv (.bool true) (fun v1 hv1 => x_pickT rfl rfl rfl) (Qv (.bool true) (fun v1 hv1 => x_move rfl rfl) (Qs (by rfl) rfl (Qs (by rfl) rfl (Qs (by rfl) rfl (Qs (by rfl) rfl (Qs (by rfl) rfl (Qs (by rfl) rfl (Qs (by rfl) rfl (Qv (.bool true) (fun v1 hv1 => x_pickT rfl rfl rfl) (Fx.Qt.nil ?_))))))))))))
  rintro _ ⟨qd, rfl⟩
  obtain ⟨wq6, ewq6⟩ : ∃ v1, v1 = World.drewN w2 qd := ⟨_, rfl⟩
  rw [← ewq6]
  have s7 : Fx.Stp w2.heap.size w2 wq6 := by rw [ewq6]; exact Sb (bdrN w2 qd)
  have b9 := s7.below b2 b2.size b2.size
  clear ewq6
  refine sN (Wc (b := true) rfl (fun _ => Ws (Wl (Lv (.bool false) (x_assign rfl rfl) ?_))) (fun h => nomatch h))
  refine Ln (sN (Wr (sR (Fx.blkR (sR (Fx.lpR (Fx.blkR (sR (⟨.bool false, rV Try.results111 (by exact rfl), ?_⟩)))))))))
  refine ⟨congrArg (fun q => Ending.returned (Value.bool q)) (Eq.symm ?_), b9⟩
  exact no_ent (p := i) (by omega) c15
 refine Lv (.bool false) (Fx.x_lssF rfl rfl rfl c8) (Ln (sN (Wc (b := false) rfl (fun h => nomatch h) (fun _ => Fx.W.exit (Fx.seqX (Fx.lpX (Fx.blkX (sN (Ws (Ws (Wl (Lv (.int .i64 (1)) (x_assign rfl rfl) (Ln (sN (Fx.W.block ?_)))))))))))))))
 have e6 : i = 6 := by omega
 rw [e6] at hA
 have HE := okTo_ent hA
 have HA : OkTo x 6 := hA
 refine Fx.W.loop (fun f w_ => ∃ m : Nat, m ≤ 6 ∧ (∀ k, k < m → 0 ≤ L x k) ∧ f 1 = (pt g1) ∧ f 3 = .int .i64 (sumG x i) ∧ f 6 = .int .i64 ((m : Int) + 1) ∧ Fx.Blk w_ g1 54 (Fx.rv .i64 x) 121 ∧ Below w.heap.size w w_) (fun f _ => (7 - (intOf (f 6)).toNat)) ⟨0, by omega, (fun _ h => absurd h (by omega)), h1, (h2.trans Fx.ic), Fx.ic, m2, b2⟩ ?_
 rintro f3 w4 ⟨m, hm, HL, h8, h9, h10, m10, b10⟩
 refine Ws (Ws (Wl (Lv (.int .i64 ((m : Int) + 1)) (x_move rfl h10) ?_)))
 by_cases c72 : ((m : Int) + 1) ≤ 6
 ·refine Lv (.bool true) (Fx.x_leqT rfl rfl rfl c72) (Ln (sN (Wc (b := true) rfl (fun _ => Wk (sN (Ws (Fx.W.block (Ws (Wl (Lv (.agg (Fx.varr 54 (Fx.rv .i64 x))) (x_loadA (x := Fx.rv .i64 x) (y := Fx.rv .i64 x) rfl h8 (by kernel_rfl) (by kernel_rfl) m10.cel (i := 0) (by omega) (by omega) (fun j _ => by rw [Nat.zero_add])) ?_))))))) (fun h => nomatch h))))
  refine Lv (.int .i64 ((m : Int) + 1)) (x_move rfl h10) (Fx.L.call (by rfl) (rC (args := [.agg (Fx.varr 54 (Fx.rv .i64 x)), .int .i64 ((m : Int) + 1)]) rfl rfl Try.func103 rfl rfl) rfl ((f7_local x m _ (by omega) HE).mono ?_))
  rintro e w5 ⟨he, hb1⟩
  refine ⟨.int .i64 (L x m), by rw [he], ?_⟩
  clear he
  have s8 := Sb hb1
  have m11 := m10.stp s8 m10.ne
  have b11 := s8.below b10 b10.size b10.size
  by_cases c78 : (L x m) < 0
  ·refine Lv (.bool true) (Fx.x_lssT rfl rfl rfl c78) (Ln (sN (Wc (b := true) rfl (fun _ => Ws (Wl (Lv (.bool false) (x_assign rfl rfl) ?_))) (fun h => nomatch h))))
   refine Ln (sN (Wr (Fx.blkR (sR (Fx.lpR (Fx.blkR (sR (⟨.bool false, rV Try.results111 (by exact rfl), ?_⟩))))))))
   refine ⟨congrArg (fun q => Ending.returned (Value.bool q)) (Eq.symm ?_), b11⟩
   exact no_loc (i := m) (by omega) c78
  refine Lv (.bool false) (Fx.x_lssF rfl rfl rfl c78) (Ln (sN (Wc (b := false) rfl (fun h => nomatch h) (fun _ => Wk (Fx.blkN (sN (Wl (Lv (.int .i64 ((m : Int) + 1)) (x_move rfl h10) (Lv (.int .i64 ((m : Int) + 2)) (Fx.x_add rfl rfl rfl Fx.io) (Lv (.int .i64 ((m : Int) + 2)) (x_assign rfl rfl) (Ln (Fx.lpN ⟨m + 1, by omega, loc_succ HL (by omega), h8, (h9.trans Fx.ic), Fx.ic, m11, b11⟩ ?_))))))))))))
  show (7 - (intOf ((.int .i64 ((m : Int) + 2)))).toNat) < _
  simp only [h10, intOf]; omega
 refine Lv (.bool false) (x_leqF rfl rfl rfl c72) (Ln (sN (Wc (b := false) rfl (fun h => nomatch h) (fun _ => Fx.W.exit (Fx.seqX (Fx.lpX (Fx.blkX (sN (Ws (Wl (Lv (.int .i64 (sumG x i)) (x_move rfl h9) ?_)))))))))))
 by_cases c80 : (sumG x i) ≤ 1125899906842624
 ·refine Lv (.bool true) (Fx.x_leqT rfl rfl rfl c80) (Lv (.bool true) (x_assign rfl rfl) (Ln (sN (Wr (⟨.bool true, rV Try.results111 (by exact rfl), ?_⟩)))))
  refine ⟨congrArg (fun q => Ending.returned (Value.bool q)) (Eq.symm ?_), b10⟩
  have e7 : m = 6 := by omega
  rw [e7] at HL
  rw [e6] at c80
  rw [may_fin HA HL]; exact decide_eq_true c80
 refine Lv (.bool false) (x_leqF rfl rfl rfl c80) (Lv (.bool false) (x_assign rfl rfl) (Ln (sN (Wr (⟨.bool false, rV Try.results111 (by exact rfl), ?_⟩)))))
 refine ⟨congrArg (fun q => Ending.returned (Value.bool q)) (Eq.symm ?_), b10⟩
 have e7 : m = 6 := by omega
 rw [e7] at HL
 rw [e6] at c80
 rw [may_fin HA HL]; exact decide_eq_false c80
namespace Rt
def rightE (x : Nat → Int) (i n : Int) : Int := if may x && decide (1 ≤ n) && decide (n ≤ 1125899906842624) then (if regB i then 0 else 10) else 1
end Rt
-- leatref07.Sums is not in this seat
-- leatref07.Local is not in this seat
theorem f7_right (x : Nat → Int) (i n : Int) (w : World) :
    Calls Try.prog 101 #[.agg (Fx.varr 54 (Fx.rv .i64 x)), .int .i64 (i), .int .i64 (n)] w fun e w' => e = .returned (.int .i64 (rightE x i n)) ∧ Below w.heap.size w w' := by
 refine Fx.enter Try.func101 rfl (n := 21) rfl (by rfl) ?_
 refine Ws (Wl (Fx.L.box (m := 54) (y := Fx.rv .i64 x) (by rfl) rfl rfl (Fx.cells_agg _ _) rfl fun g1 w1 eg1 m1 s1 z1 => ?_))
 have b1 := s1.below (Below.refl w.heap.size w) (Below.refl w.heap.size w).size (Below.refl w.heap.size w).size
 have lg1 : w.heap.size ≤ g1 := by rw [eg1]; exact (Below.refl w.heap.size w).size
 have tg1 : g1 < w1.heap.size := m1.lt
 clear eg1
 refine Lv (.int .i64 (0)) (x_assign rfl rfl) (Ln (sN (Ws (Ws (Wl (Lv (.agg (Fx.varr 54 (Fx.rv .i64 x))) (x_loadA (x := Fx.rv .i64 x) (y := Fx.rv .i64 x) rfl rfl (by kernel_rfl) (by kernel_rfl) m1.cel (i := 0) (by omega) (by omega) (fun j _ => by rw [Nat.zero_add])) ?_))))))
 by_cases c8 : (may x) = true
 ·refine Fx.L.call (by rfl) (rC (args := [.agg (Fx.varr 54 (Fx.rv .i64 x))]) rfl rfl Try.func111 rfl rfl) rfl ((f7_may x _).mono ?_)
  rintro e w2 ⟨he, hb1⟩
  refine ⟨.bool true, by rw [he, c8], ?_⟩
  clear he
  have s2 := Sb hb1
  have b2 := s2.below b1 b1.size b1.size
  refine Lv (.bool false) (Fx.x_notF rfl rfl) (Lv (.bool false) (x_move rfl rfl) (Lv (.int .i64 (n)) (x_move rfl rfl) ?_))
  by_cases c12 : n < 1
  ·refine Lv (.bool true) (Fx.x_lssT rfl rfl rfl c12) (Lv (.bool true) (x_pickF rfl rfl rfl) (Lv (.bool true) (x_move rfl rfl) (Lk (by rfl) rfl (Lk (by rfl) rfl (Lv (.bool true) (x_pickT rfl rfl rfl) (Ln (sN (Wc (b := true) rfl (fun _ => Ws (Wl (Lv (.int .i64 (1)) (x_assign rfl rfl) ?_))) (fun h => nomatch h)))))))))
   refine Ln (sN (Wr (sR (⟨.int .i64 (1), rV Try.results101 (by exact rfl), ?_⟩))))
   refine ⟨congrArg (fun q => Ending.returned (Value.int .i64 q)) ?_, b2⟩
   unfold rightE; rw [c8, decide_eq_false (show ¬ 1 ≤ n by omega)]; simp
  refine Lv (.bool false) (Fx.x_lssF rfl rfl rfl c12) (Lv (.bool false) (x_pickF rfl rfl rfl) (Lv (.bool false) (x_move rfl rfl) (Lv (.int .i64 (n)) (x_move rfl rfl) ?_)))
  by_cases c16 : 1125899906842624 < n
  ·refine Lv (.bool true) (Fx.x_gtrT rfl rfl rfl c16) (Lv (.bool true) (x_pickF rfl rfl rfl) (Ln (sN (Wc (b := true) rfl (fun _ => Ws (Wl (Lv (.int .i64 (1)) (x_assign rfl rfl) ?_))) (fun h => nomatch h)))))
   refine Ln (sN (Wr (sR (⟨.int .i64 (1), rV Try.results101 (by exact rfl), ?_⟩))))
   refine ⟨congrArg (fun q => Ending.returned (Value.int .i64 q)) ?_, b2⟩
   unfold rightE; rw [c8, decide_eq_true (show 1 ≤ n by omega), decide_eq_false (show ¬ n ≤ 1125899906842624 by omega)]; simp
  refine Lv (.bool false) (x_gtrF rfl rfl rfl c16) (Lv (.bool false) (x_pickF rfl rfl rfl) (Ln (sN (Wc (b := false) rfl (fun h => nomatch h) (fun _ => Wk (sN (Ws (Ws (Wl (Lv (.int .i64 (i)) (x_move rfl rfl) ?_))))))))))
  by_cases c19 : (regB i) = true
  ·refine Fx.L.call (by rfl) (rC (args := [.int .i64 (i)]) rfl rfl Try.func102 rfl rfl) rfl ((f7_region i _).mono ?_)
   rintro e v1 ⟨he, hv1⟩
   subst v1
   refine ⟨.bool true, by rw [he, c19], ?_⟩
   clear he
   refine Lv (.bool false) (Fx.x_notF rfl rfl) (Ln (sN (Wc (b := false) rfl (fun h => nomatch h) (fun _ => Wk (sN (Ws (Wl (Lv (.int .i64 (0)) (x_assign rfl rfl) (Ln (sN (Wr (⟨.int .i64 (0), rV Try.results101 (by exact rfl), ?_⟩))))))))))))
   refine ⟨congrArg (fun q => Ending.returned (Value.int .i64 q)) ?_, b2⟩
   unfold rightE; rw [c8, decide_eq_true (show 1 ≤ n by omega), decide_eq_true (show n ≤ 1125899906842624 by omega), c19]; simp
  rw [Bool.not_eq_true] at c19
  refine Fx.L.call (by rfl) (rC (args := [.int .i64 (i)]) rfl rfl Try.func102 rfl rfl) rfl ((f7_region i _).mono ?_)
  rintro e v1 ⟨he, hv1⟩
  subst v1
  refine ⟨.bool false, by rw [he, c19], ?_⟩
  clear he
  refine Lv (.bool true) (Fx.x_notT rfl rfl) (Ln (sN (Wc (b := true) rfl (fun _ => Ws (Wl (Lv (.int .i64 (10)) (x_assign rfl rfl) ?_))) (fun h => nomatch h))))
  refine Ln (sN (Wr (sR (⟨.int .i64 (10), rV Try.results101 (by exact rfl), ?_⟩))))
  refine ⟨congrArg (fun q => Ending.returned (Value.int .i64 q)) ?_, b2⟩
  unfold rightE; rw [c8, decide_eq_true (show 1 ≤ n by omega), decide_eq_true (show n ≤ 1125899906842624 by omega), c19]; simp
 rw [Bool.not_eq_true] at c8
 refine Fx.L.call (by rfl) (rC (args := [.agg (Fx.varr 54 (Fx.rv .i64 x))]) rfl rfl Try.func111 rfl rfl) rfl ((f7_may x _).mono ?_)
 rintro e w3 ⟨he, hb2⟩
 refine ⟨.bool false, by rw [he, c8], ?_⟩
 clear he
 have s3 := Sb hb2
 have b3 := s3.below b1 b1.size b1.size
 refine Lv (.bool true) (Fx.x_notT rfl rfl) (Lv (.bool true) (x_move rfl rfl) (Lk (by rfl) rfl (Lk (by rfl) rfl (Lv (.bool true) (x_pickT rfl rfl rfl) (Lv (.bool true) (x_move rfl rfl) (Lk (by rfl) rfl (Lk (by rfl) rfl (Lv (.bool true) (x_pickT rfl rfl rfl) (Ln (sN (Wc (b := true) rfl (fun _ => Ws (Wl (Lv (.int .i64 (1)) (x_assign rfl rfl) ?_))) (fun h => nomatch h))))))))))))
 refine Ln (sN (Wr (sR (⟨.int .i64 (1), rV Try.results101 (by exact rfl), ?_⟩))))
 refine ⟨congrArg (fun q => Ending.returned (Value.int .i64 q)) ?_, b3⟩
 unfold rightE; rw [c8]; simp
end Go.Proofs.Ytleajegppehbdaa
