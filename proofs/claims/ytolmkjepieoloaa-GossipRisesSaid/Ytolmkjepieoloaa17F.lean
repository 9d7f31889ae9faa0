/-
  The walk of leatlaw17.GossipRises.
-/
import Derived.Test.Ytolmkjepieoloaa17E
namespace Go.Proofs.Ytolmkjepieoloaa
open Go.RowKit Rt
namespace Rt
def stx (J : Nat → Int) (V : Nat → Nat → Int) : Nat → Value := fun p => if p % 7 = 0 then .int .i64 (J (p / 7)) else .int .u64 (V (p / 7) (p % 7 - 1))
theorem stx_J (J : Nat → Int) (V : Nat → Nat → Int) {p k : Nat} (h : p = 7 * k) : stx J V p = .int .i64 (J k) := by
  unfold stx; rw [if_pos (by omega), show p / 7 = k by omega]
theorem stx_V (J : Nat → Int) (V : Nat → Nat → Int) {p k j : Nat} (h : p = 7 * k + j + 1) (hj : j < 6) : stx J V p = .int .u64 (V k j) := by
  unfold stx; rw [if_neg (by omega), show p / 7 = k by omega, show p % 7 - 1 = j by omega]
def Sts (w : World) (a : Option Addr) (n : Nat) (J : Nat → Int) (V : Nat → Nat → Int) : Prop := 0 < n → ∃ b off, a = some ⟨b, off, none⟩ ∧ Fx.Cel w b off (7 * n) (stx J V)
def Kn (J : Nat → Int) (V : Nat → Nat → Int) : Nat → Nat → Int
  | 0 => fun _ => 0
  | k + 1 => toldK (Kn J V k) (J k) (V k)
def mI (K : Nat → Int) (a q : Nat) (v : Nat → Int) : Nat → Int := fun p => if 6 * a ≤ p ∧ p < 6 * a + q then mx6 (K p) (v (p - 6 * a)) else K p
theorem mI_zero (K : Nat → Int) (a : Nat) (v : Nat → Int) : K = mI K a 0 v := by
  funext p; unfold mI; rw [if_neg (by omega)]
theorem mI_succ (K : Nat → Int) (a q : Nat) (v : Nat → Int) : upd (mI K a q v) (6 * a + q) (mx6 (mI K a q v (6 * a + q)) (v q)) = mI K a (q + 1) v := by
  funext p; unfold upd mI
  by_cases h : p = 6 * a + q
  · subst h; rw [if_pos rfl, if_neg (by omega), if_pos (by omega), show 6 * a + q - 6 * a = q by omega]
  · rw [if_neg h]
    by_cases h2 : 6 * a ≤ p ∧ p < 6 * a + q
    · rw [if_pos h2, if_pos (by omega)]
    · rw [if_neg h2, if_neg (by omega)]
theorem mI_six {K : Nat → Int} {a q : Nat} {v : Nat → Int} {i : Int} (h : regG i = true) (ea : i = (a : Int) + 1) (e6 : q = 6) : mI K a q v = toldK K i v := by
  subst e6
  rw [← toldK_yes h ea]
  funext p; unfold mI Fx.ovrI
  by_cases h2 : 6 * a ≤ p ∧ p < 6 * a + 6
  · rw [if_pos h2, if_pos h2]
    show mx6 (K p) (v (p - 6 * a)) = mx6 (K (6 * a + (p - 6 * a))) (v (p - 6 * a))
    rw [show 6 * a + (p - 6 * a) = p by omega]
  · rw [if_neg h2, if_neg h2]
theorem ofV_told {K v : Nat → Int} {i : Int} {j : Nat} (h : regG i = true) (hj : j < 6) : ofV (toldK K i v) i j = mx6 (ofV K i j) (v j) := by
  obtain ⟨a, ha, ea⟩ := regG_nat h
  rw [← ofV_yes h ea, ← ofV_yes h ea, ← toldK_yes h ea]
  show Fx.ovrI K (6 * a) 6 (fun p => mx6 (K (6 * a + p)) (v p)) (6 * a + j) = _
  unfold Fx.ovrI; rw [if_pos (by omega), show 6 * a + j - 6 * a = j by omega]
theorem now_eq {K v : Nat → Int} {i : Int} {a q : Nat} (h : regG i = true) (ea : i = (a : Int) + 1) (e6 : q = 6) : ∀ j, j < 6 → Fx.rv .u64 (ofV (toldK K i v) i) j = Fx.rv .u64 (fun j => mI K a q v (6 * a + j)) j := fun j hj => by
  rw [mI_six h ea e6, ← ofV_yes h ea]
theorem tE_zero {i : Int} (h : tE i = 0) : regG i = true := by
  unfold tE at h; by_cases e : regG i = true
  · exact e
  · rw [if_neg e] at h; omega
theorem tE_not {i : Int} (h : ¬ tE i = 0) : regG i = false := by
  unfold tE at h; by_cases e : regG i = true
  · rw [if_pos e] at h; omega
  · exact Bool.not_eq_true _ |>.mp e
theorem tE_spec (i : Int) : (tE i = 0 ∧ 1 ≤ i ∧ i ≤ 6) ∨ (tE i = 10 ∧ (i < 1 ∨ 6 < i)) := by
  unfold tE; by_cases e : regG i = true
  · rw [if_pos e]; unfold regG at e; simp at e; omega
  · rw [if_neg e]; unfold regG at e; simp at e; omega
def U64 (x : Nat → Int) : Prop := ∀ p, 0 ≤ x p ∧ x p ≤ 18446744073709551615
theorem mx6_u {a b : Int} (h : 0 ≤ a ∧ a ≤ 18446744073709551615) (h2 : 0 ≤ b ∧ b ≤ 18446744073709551615) : 0 ≤ mx6 a b ∧ mx6 a b ≤ 18446744073709551615 := by unfold mx6; split <;> omega
theorem told_u {K v : Nat → Int} {i : Int} (hK : U64 K) (hv : ∀ j, j < 6 → 0 ≤ v j ∧ v j ≤ 18446744073709551615) : U64 (toldK K i v) := fun p => by
  unfold toldK; split
  · unfold Fx.ovrI; split
    · exact mx6_u (hK _) (hv _ (by omega))
    · exact hK p
  · exact hK p
theorem kn_u {J : Nat → Int} {V : Nat → Nat → Int} {n : Nat} (hV : ∀ i, i < n → ∀ j, j < 6 → 0 ≤ V i j ∧ V i j ≤ 18446744073709551615) : ∀ k, k ≤ n → U64 (Kn J V k)
  | 0, _ => fun _ => ⟨Int.le_refl _, by show (0 : Int) ≤ 18446744073709551615; decide⟩
  | k + 1, h => told_u (kn_u hV k (by omega)) (hV k (by omega))
theorem ofV_u {K : Nat → Int} {i : Int} (hK : U64 K) : U64 (ofV K i) := fun p => by
  unfold ofV; split
  · exact hK _
  · exact ⟨Int.le_refl _, by show (0 : Int) ≤ 18446744073709551615; decide⟩
theorem mI_u {K v : Nat → Int} {a q : Nat} (hK : U64 K) (hv : ∀ j, j < 6 → 0 ≤ v j ∧ v j ≤ 18446744073709551615) (hq : q = 6) : U64 (mI K a q v) := fun p => by
  unfold mI; split
  · exact mx6_u (hK _) (hv _ (by omega))
  · exact hK p
theorem n2a {K v : Nat → Int} {i : Int} {j : Nat} (h : regG i = true) (hj : j < 6) : ofV K i j ≤ ofV (toldK K i v) i j := by rw [ofV_told h hj]; unfold mx6; split <;> omega
theorem n2b {K v : Nat → Int} {i : Int} {j : Nat} (h : regG i = true) (hj : j < 6) : v j ≤ ofV (toldK K i v) i j := by rw [ofV_told h hj]; unfold mx6; split <;> omega
theorem kdU {x : Nat → Int} (h : U64 x) : Fx.Kd (List.replicate 6 (some .u64)) (Fx.rv .u64 x) := Fx.kd_rv fun i _ => Fx.wfu64 (h i)
theorem mn6_le (a b : Int) : mn6 a b ≤ a ∧ mn6 a b ≤ b := by unfold mn6; split <;> omega
theorem foldS_le (X : Nat → Nat → Int) (p : Nat) : ∀ m i, i ≤ m → foldS mn6 X m p ≤ X i p
  | 0, i, h => by rw [show i = 0 by omega]; exact Int.le_refl _
  | m + 1, i, h => by
    show mn6 (foldS mn6 X m p) (X (m + 1) p) ≤ _
    have h2 := mn6_le (foldS mn6 X m p) (X (m + 1) p)
    by_cases e : i = m + 1
    · subst e; exact h2.2
    · exact Int.le_trans h2.1 (foldS_le X p m i (by omega))
theorem least_le (K X : Nat → Int) {n i : Nat} (p : Nat) (h : i < n) : leastV K X n p ≤ ofV K (X i) p := by
  obtain ⟨m, rfl⟩ : ∃ m, n = m + 1 := ⟨n - 1, by omega⟩
  exact foldS_le (fun i => ofV K (X i)) p m i (by omega)
end Rt
theorem mI_u_sub {K v : Nat → Int} {a q : Nat} (hK : U64 K) (hv : ∀ j, j < 6 → 0 ≤ v j ∧ v j ≤ 18446744073709551615) (hq : q = 6) : U64 (fun j => mI K a q v (6 * a + j)) := fun _ => mI_u hK hv hq _
set_option maxRecDepth 10000 in
set_option maxHeartbeats 1000000 in
theorem rises_any (sl sa : Option Addr) (n cl m ca : Nat) (J X : Nat → Int) (V : Nat → Nat → Int) (w : World) (hL : Sts w sl n J V) (hS : Its w sa m X) (hV : ∀ i, i < n → ∀ j, j < 6 → 0 ≤ V i j ∧ V i j ≤ 18446744073709551615) :
    Calls Try.prog 3 #[.slice sl (n) (cl), .slice sa (m) (ca)] w fun e w' => e = .returned (.bool true) ∧ Below w.heap.size w w' := by
  refine Fx.enter Try.func3 rfl (n := 165) rfl (by rfl) ?_
  refine Fx.W.seq ?_
  refine Fx.W.list ?_
  refine Fx.L.val (v := .bool false) (by rfl) (Fx.x_assign rfl rfl) rfl ?_
  refine Fx.L.nil ?_
  refine Fx.seqN ?_
  refine Fx.W.seq ?_
  refine Fx.W.seq ?_
  refine Fx.W.list ?_
  refine Fx.L.val (v := .slice sl (n) (cl)) (by rfl) (Fx.x_move rfl rfl) rfl ?_
  refine Fx.L.val (v := .int .i64 ((n : Int))) (by rfl) (Fx.x_len rfl rfl rfl (by kernel_rfl)) rfl ?_
  by_cases c18 : 100 < (n : Int)
  · refine Fx.L.val (v := .bool true) (by rfl) (Fx.x_gtrT rfl rfl rfl c18) rfl ?_
    refine Fx.L.val (v := .bool true) (by rfl) (Fx.x_move rfl rfl) rfl ?_
    refine Fx.L.skip (by rfl) rfl ?_
    refine Fx.L.skip (by rfl) rfl ?_
    refine Fx.L.skip (by rfl) rfl ?_
    refine Fx.L.val (v := .bool true) (by rfl) (Fx.x_pickT rfl rfl rfl) rfl ?_
    refine Fx.L.nil ?_
    refine Fx.seqN ?_
    refine Fx.W.cond (b := true) rfl (fun _ => ?_) (fun h => nomatch h)
    refine Fx.W.seq ?_
    refine Fx.W.list ?_
    refine Fx.L.call (by rfl) (Fx.r_call (args := []) rfl rfl Try.func15 rfl rfl) rfl ((works17_any _).mono ?_)
    rintro e w1 ⟨he, hb1⟩
    refine ⟨.bool true, by rw [he], ?_⟩
    clear he
    have s1 := Fx.Stp.of_below hb1
    have b1 : Below w.heap.size w w1 := s1.below (Below.refl w.heap.size w) (Below.refl w.heap.size w).size (Below.refl w.heap.size w).size
    refine Fx.L.val (v := .bool true) (by rfl) (Fx.x_assign rfl rfl) rfl ?_
    refine Fx.L.nil ?_
    refine Fx.seqN ?_
    refine Fx.W.ret ?_
    refine Fx.seqR ?_
    refine ⟨.bool true, Fx.retV1 Try.results3 (by exact rfl), ?_⟩
    exact ⟨rfl, b1⟩
  · refine Fx.L.val (v := .bool false) (by rfl) (Fx.x_gtrF rfl rfl rfl c18) rfl ?_
    refine Fx.L.val (v := .bool false) (by rfl) (Fx.x_move rfl rfl) rfl ?_
    refine Fx.L.val (v := .slice sa (m) (ca)) (by rfl) (Fx.x_move rfl rfl) rfl ?_
    refine Fx.L.val (v := .int .i64 ((m : Int))) (by rfl) (Fx.x_len rfl rfl rfl (by kernel_rfl)) rfl ?_
    by_cases c22 : 20 < (m : Int)
    · refine Fx.L.val (v := .bool true) (by rfl) (Fx.x_gtrT rfl rfl rfl c22) rfl ?_
      refine Fx.L.val (v := .bool true) (by rfl) (Fx.x_pickF rfl rfl rfl) rfl ?_
      refine Fx.L.nil ?_
      refine Fx.seqN ?_
      refine Fx.W.cond (b := true) rfl (fun _ => ?_) (fun h => nomatch h)
      refine Fx.W.seq ?_
      refine Fx.W.list ?_
      refine Fx.L.call (by rfl) (Fx.r_call (args := []) rfl rfl Try.func15 rfl rfl) rfl ((works17_any _).mono ?_)
      rintro e w2 ⟨he, hb2⟩
      refine ⟨.bool true, by rw [he], ?_⟩
      clear he
      have s2 := Fx.Stp.of_below hb2
      have b2 : Below w.heap.size w w2 := s2.below (Below.refl w.heap.size w) (Below.refl w.heap.size w).size (Below.refl w.heap.size w).size
      refine Fx.L.val (v := .bool true) (by rfl) (Fx.x_assign rfl rfl) rfl ?_
      refine Fx.L.nil ?_
      refine Fx.seqN ?_
      refine Fx.W.ret ?_
      refine Fx.seqR ?_
      refine ⟨.bool true, Fx.retV1 Try.results3 (by exact rfl), ?_⟩
      exact ⟨rfl, b2⟩
    · refine Fx.L.val (v := .bool false) (by rfl) (Fx.x_gtrF rfl rfl rfl c22) rfl ?_
      refine Fx.L.val (v := .bool false) (by rfl) (Fx.x_pickF rfl rfl rfl) rfl ?_
      refine Fx.L.nil ?_
      refine Fx.seqN ?_
      refine Fx.W.cond (b := false) rfl (fun h => nomatch h) (fun _ => ?_)
      refine Fx.W.skip ?_
      refine Fx.seqN ?_
      refine Fx.W.seq ?_
      refine Fx.W.list ?_
      refine Fx.L.call (by rfl) (Fx.r_call (args := []) rfl rfl Try.func16 rfl rfl) rfl ((g_new _).mono ?_)
      rintro e w3 ⟨g1, he, l0g1, m1, hb3⟩
      refine ⟨.pointer (some ⟨g1, 0, none⟩), he, ?_⟩
      clear he
      have s3 := Fx.Stp.of_below hb3
      have b3 : Below w.heap.size w w3 := s3.below (Below.refl w.heap.size w) (Below.refl w.heap.size w).size (Below.refl w.heap.size w).size
      have lg1 : w.heap.size ≤ g1 := Nat.le_trans (Below.refl w.heap.size w).size l0g1
      have tg1 : g1 < w3.heap.size := m1.lt
      refine Fx.L.val (v := .pointer (some ⟨g1, 0, none⟩)) (by rfl) (Fx.x_assign rfl rfl) rfl ?_
      refine Fx.L.nil ?_
      refine Fx.seqN ?_
      refine Fx.W.seq ?_
      refine Fx.W.list ?_
      refine Fx.L.new (m := 36) (y := Fx.rv .u64 (fun _ => 0)) (by rfl) rfl (by kernel_rfl) rfl fun g2 w4 eg2 m2 s4 z1 => ?_
      have m3 : Fx.Blk w4 g1 36 (Fx.rv .u64 (fun _ => 0)) 128 := m1.stp s4 (Nat.ne_of_lt (m1.lt))
      have b4 : Below w.heap.size w w4 := s4.below b3 b3.size b3.size
      have lg2 : w.heap.size ≤ g2 := by rw [eg2]; exact b3.size
      have ng2m3 : g1 ≠ g2 := by rw [eg2]; exact Nat.ne_of_lt (m1.lt)
      have tg2 : g2 < w4.heap.size := m2.lt
      clear eg2
      refine Fx.L.nil ?_
      refine Fx.seqN ?_
      refine Fx.W.seq ?_
      refine Fx.W.seq ?_
      refine Fx.W.list ?_
      refine Fx.L.val (v := .int .i64 (0)) (by rfl) (Fx.x_assign rfl rfl) rfl ?_
      refine Fx.L.nil ?_
      refine Fx.seqN ?_
      refine Fx.W.block ?_
      refine Fx.W.loop (fun f w_ => ∃ k : Nat, k ≤ n ∧ f 0 = .slice sl (n) (cl) ∧ f 1 = .slice sa (m) (ca) ∧ f 5 = .pointer (some ⟨g1, 0, none⟩) ∧ f 6 = .pointer (some ⟨g2, 0, none⟩) ∧ f 7 = .int .i64 ((k : Int)) ∧ Fx.Blk w_ g1 36 (Fx.rv .u64 (Kn J V k)) 128 ∧ Fx.Blk w_ g2 36 (Fx.rv .u64 (Kn J V k)) 30 ∧ Below w.heap.size w w_) (fun f _ => (n - (intOf (f 7)).toNat)) ⟨0, by omega, (by rfl), (by rfl), (by rfl), (by rfl), (by first | rfl | exact congrArg (Value.int .i64) (by omega)), m3, m2, b4⟩ ?_
      rintro f1 w5 ⟨k, hk, h1, h2, h3, h4, h5, m4, m5, b5⟩
      refine Fx.W.seq ?_
      refine Fx.W.seq ?_
      refine Fx.W.list ?_
      refine Fx.L.val (v := .int .i64 ((k : Int))) (by rfl) (Fx.x_move rfl h5) rfl ?_
      refine Fx.L.val (v := .slice sl (n) (cl)) (by rfl) (Fx.x_move rfl h1) rfl ?_
      refine Fx.L.val (v := .int .i64 ((n : Int))) (by rfl) (Fx.x_len rfl rfl rfl (by kernel_rfl)) rfl ?_
      by_cases c29 : (k : Int) < (n : Int)
      · refine Fx.L.val (v := .bool true) (by rfl) (Fx.x_lssT rfl rfl rfl c29) rfl ?_
        refine Fx.L.nil ?_
        refine Fx.seqN ?_
        refine Fx.W.cond (b := true) rfl (fun _ => ?_) (fun h => nomatch h)
        refine Fx.W.skip ?_
        refine Fx.seqN ?_
        refine Fx.W.seq ?_
        refine Fx.W.block ?_
        refine Fx.W.seq ?_
        obtain ⟨b, off, ea0, hc⟩ := hL (by omega)
        have lb : b < w.heap.size := hc.lt (by omega)
        have m6 := hc.below b5 lb
        refine Fx.W.list ?_
        refine Fx.L.val (v := .pointer (some ⟨g1, 0, none⟩)) (by rfl) (Fx.x_move rfl h3) rfl ?_
        refine Fx.L.val (v := .slice sl (n) (cl)) (by rfl) (Fx.x_move rfl h1) rfl ?_
        refine Fx.L.val (v := .int .i64 ((k : Int))) (by rfl) (Fx.x_move rfl h5) rfl ?_
        refine Fx.L.val (v := .pointer (some ⟨b, 7 * k + off, none⟩)) (by rfl) (Fx.x_indexS rfl (rfl.trans (congrArg (fun q => Value.slice q (n) (cl)) ea0)) rfl Try.underlying22 (s := 7) (by kernel_rfl) (by omega) (by omega) (by omega)) rfl ?_
        refine Fx.L.val (v := .pointer (some ⟨b, 7 * k + off, none⟩)) (by rfl) (Fx.x_field rfl rfl Try.underlying33 rfl (s := 1) (by kernel_rfl) rfl rfl) rfl ?_
        refine Fx.L.val (v := .int .i64 (J k)) (by rfl) (Fx.x_load1 (x := stx J V) rfl rfl (by kernel_rfl) m6 (i := 7 * k) (by omega) (by omega) (stx_J _ _ (by omega))) rfl ?_
        refine Fx.L.call (by rfl) (Fx.r_call (args := [.pointer (some ⟨g1, 0, none⟩), .int .i64 (J k)]) rfl rfl Try.func17 rfl rfl) rfl ((g_of (Kn J V k) g1 (J k) _ m4).mono ?_)
        rintro e w6 ⟨he, hb4⟩
        refine ⟨.agg (Fx.varr 6 (Fx.rv .u64 (ofV (Kn J V k) (J k)))), by rw [he], ?_⟩
        clear he
        have s5 := Fx.Stp.of_below hb4
        have m7 : Fx.Blk w6 g1 36 (Fx.rv .u64 (Kn J V k)) 128 := m4.stp s5 (Nat.ne_of_lt (m4.lt))
        have m8 : Fx.Blk w6 g2 36 (Fx.rv .u64 (Kn J V k)) 30 := m5.stp s5 (Nat.ne_of_lt (m5.lt))
        have m9 : Fx.Cel w6 b off (7 * n) (stx J V) := m6.stp s5 (Nat.ne_of_lt (m6.lt (by omega)))
        have b6 : Below w.heap.size w w6 := s5.below b5 b5.size b5.size
        refine Fx.L.new (m := 6) (y := Fx.rv .u64 (fun _ => 0)) (by rfl) rfl (by kernel_rfl) rfl fun g3 w7 eg3 m10 s6 z2 => ?_
        have m11 : Fx.Blk w7 g1 36 (Fx.rv .u64 (Kn J V k)) 128 := m7.stp s6 (Nat.ne_of_lt (m7.lt))
        have m12 : Fx.Blk w7 g2 36 (Fx.rv .u64 (Kn J V k)) 30 := m8.stp s6 (Nat.ne_of_lt (m8.lt))
        have m13 : Fx.Cel w7 b off (7 * n) (stx J V) := m9.stp s6 (Nat.ne_of_lt (m9.lt (by omega)))
        have b7 : Below w.heap.size w w7 := s6.below b6 b6.size b6.size
        have lg3 : w.heap.size ≤ g3 := by rw [eg3]; exact b6.size
        have ng3m11 : g1 ≠ g3 := by rw [eg3]; exact Nat.ne_of_lt (m7.lt)
        have ng3m12 : g2 ≠ g3 := by rw [eg3]; exact Nat.ne_of_lt (m8.lt)
        have ng3m13 : b ≠ g3 := by rw [eg3]; exact Nat.ne_of_lt (m9.lt (by omega))
        have tg3 : g3 < w7.heap.size := m10.lt
        clear eg3
        refine Fx.L.storeA (x := Fx.rv .u64 (fun _ => 0)) (y := Fx.rv .u64 (ofV (Kn J V k) (J k))) (by rfl) rfl rfl rfl rfl (fun _ _ => rfl) (by kernel_rfl) m10 (i := 0) (by omega) fun w8 m14 s7 z3 => ?_
        have m15 : Fx.Blk w8 g3 6 (Fx.rv .u64 (ofV (Kn J V k) (J k))) 29 := Fx.ovr_all m14
        have m16 : Fx.Blk w8 g1 36 (Fx.rv .u64 (Kn J V k)) 128 := m11.stp s7 (by omega)
        have m17 : Fx.Blk w8 g2 36 (Fx.rv .u64 (Kn J V k)) 30 := m12.stp s7 (by omega)
        have m18 : Fx.Cel w8 b off (7 * n) (stx J V) := m13.stp s7 (by omega)
        have b8 : Below w.heap.size w w8 := s7.below b7 b7.size (by omega)
        refine Fx.L.nil ?_
        refine Fx.seqN ?_
        refine Fx.W.seq ?_
        -- region 9 draws
        refine Fx.W.tail 11 (by kernel_rfl) (by kernel_rfl) fun wt1 hbwt1 hzwt1 => ?_
        have s8 : Fx.Stp w8.heap.size w8 wt1 := Fx.Stp.of_below hbwt1
        have m19 : Fx.Blk wt1 g1 36 (Fx.rv .u64 (Kn J V k)) 128 := m16.stp s8 (Nat.ne_of_lt m16.lt)
        have m20 : Fx.Blk wt1 g2 36 (Fx.rv .u64 (Kn J V k)) 30 := m17.stp s8 (Nat.ne_of_lt m17.lt)
        have m21 : Fx.Cel wt1 b off (7 * n) (stx J V) := m18.stp s8 (Nat.ne_of_lt (m18.lt (by omega)))
        have m22 : Fx.Blk wt1 g3 6 (Fx.rv .u64 (ofV (Kn J V k) (J k))) 29 := m15.stp s8 (Nat.ne_of_lt m15.lt)
        have b9 : Below w.heap.size w wt1 := s8.below b8 b8.size b8.size
        refine Fx.St.val (v := .pointer (some ⟨g1, 0, none⟩)) (by rfl) (Fx.x_move rfl h3) rfl ?_
        refine Fx.St.val (v := .slice sl (n) (cl)) (by rfl) (Fx.x_move rfl h1) rfl ?_
        refine Fx.St.val (v := .int .i64 ((k : Int))) (by rfl) (Fx.x_move rfl h5) rfl ?_
        refine Fx.St.val (v := .pointer (some ⟨b, 7 * k + off, none⟩)) (by rfl) (Fx.x_indexS rfl (rfl.trans (congrArg (fun q => Value.slice q (n) (cl)) ea0)) rfl Try.underlying22 (s := 7) (by kernel_rfl) (by omega) (by omega) (by omega)) rfl ?_
        refine Fx.St.val (v := .pointer (some ⟨b, 7 * k + off, none⟩)) (by rfl) (Fx.x_field rfl rfl Try.underlying33 rfl (s := 1) (by kernel_rfl) rfl rfl) rfl ?_
        refine Fx.St.val (v := .int .i64 (J k)) (by rfl) (Fx.x_load1 (x := stx J V) rfl rfl (by kernel_rfl) m21 (i := 7 * k) (by omega) (by omega) (stx_J _ _ (by omega))) rfl ?_
        refine Fx.St.val (v := .slice sl (n) (cl)) (by rfl) (Fx.x_move rfl h1) rfl ?_
        refine Fx.St.val (v := .int .i64 ((k : Int))) (by rfl) (Fx.x_move rfl h5) rfl ?_
        refine Fx.St.val (v := .pointer (some ⟨b, 7 * k + off, none⟩)) (by rfl) (Fx.x_indexS rfl (rfl.trans (congrArg (fun q => Value.slice q (n) (cl)) ea0)) rfl Try.underlying22 (s := 7) (by kernel_rfl) (by omega) (by omega) (by omega)) rfl ?_
        refine Fx.St.val (v := .pointer (some ⟨b, 7 * k + off + 1, none⟩)) (by rfl) (Fx.x_field rfl rfl Try.underlying33 rfl (s := 6) (by kernel_rfl) rfl (by show _ + 1 = _; omega)) rfl ?_
        refine Fx.St.val (v := .agg (Fx.varr 6 (Fx.rv .u64 (V k)))) (by rfl) (Fx.x_loadA (x := stx J V) (y := Fx.rv .u64 (V k)) rfl rfl (by kernel_rfl) (by kernel_rfl) m21 (i := 7 * k + 1) (by omega) (by omega) (fun j hj => stx_V _ _ (by omega) hj)) rfl ?_
        refine Fx.St.nil ?_
        refine Fx.L.call (by rfl) (Fx.r_call (args := [.pointer (some ⟨g1, 0, none⟩), .int .i64 (J k), .agg (Fx.varr 6 (Fx.rv .u64 (V k)))]) rfl rfl Try.func18 rfl rfl) rfl ((g_told (Kn J V k) (V k) g1 (J k) _ m19).mono ?_)
        rintro e w9 ⟨he, m23, s9⟩
        refine ⟨.int .i64 (tE (J k)), he, ?_⟩
        clear he
        have m24 : Fx.Blk w9 g2 36 (Fx.rv .u64 (Kn J V k)) 30 := m20.stp s9 (by omega)
        have m25 : Fx.Cel w9 b off (7 * n) (stx J V) := m21.stp s9 (by omega)
        have m26 : Fx.Blk w9 g3 6 (Fx.rv .u64 (ofV (Kn J V k) (J k))) 29 := m22.stp s9 (by omega)
        have b10 : Below w.heap.size w w9 := s9.below b9 b9.size (by omega)
        refine Fx.L.val (v := .int .i64 (tE (J k))) (by rfl) (Fx.x_assign rfl rfl) rfl ?_
        refine Fx.L.nil ?_
        refine Fx.seqN ?_
        refine Fx.W.seq ?_
        refine Fx.W.seq ?_
        have TE := tE_spec (J k)
        refine Fx.W.list ?_
        refine Fx.L.val (v := .int .i64 (tE (J k))) (by rfl) (Fx.x_move rfl rfl) rfl ?_
        by_cases c52 : (tE (J k)) = 0
        · refine Fx.L.val (v := .bool true) (by rfl) (Fx.x_eqlT rfl rfl rfl c52) rfl ?_
          refine Fx.L.val (v := .slice sl (n) (cl)) (by rfl) (Fx.x_move rfl h1) rfl ?_
          refine Fx.L.val (v := .int .i64 ((k : Int))) (by rfl) (Fx.x_move rfl h5) rfl ?_
          refine Fx.L.val (v := .pointer (some ⟨b, 7 * k + off, none⟩)) (by rfl) (Fx.x_indexS rfl (rfl.trans (congrArg (fun q => Value.slice q (n) (cl)) ea0)) rfl Try.underlying22 (s := 7) (by kernel_rfl) (by omega) (by omega) (by omega)) rfl ?_
          refine Fx.L.val (v := .pointer (some ⟨b, 7 * k + off, none⟩)) (by rfl) (Fx.x_field rfl rfl Try.underlying33 rfl (s := 1) (by kernel_rfl) rfl rfl) rfl ?_
          refine Fx.L.val (v := .int .i64 (J k)) (by rfl) (Fx.x_load1 (x := stx J V) rfl rfl (by kernel_rfl) m25 (i := 7 * k) (by omega) (by omega) (stx_J _ _ (by omega))) rfl ?_
          refine Fx.L.val (v := .bool true) (by rfl) (Fx.x_geqT rfl rfl rfl (by omega)) rfl ?_
          refine Fx.L.val (v := .bool true) (by rfl) (Fx.x_move rfl rfl) rfl ?_
          refine Fx.L.val (v := .slice sl (n) (cl)) (by rfl) (Fx.x_move rfl h1) rfl ?_
          refine Fx.L.val (v := .int .i64 ((k : Int))) (by rfl) (Fx.x_move rfl h5) rfl ?_
          refine Fx.L.val (v := .pointer (some ⟨b, 7 * k + off, none⟩)) (by rfl) (Fx.x_indexS rfl (rfl.trans (congrArg (fun q => Value.slice q (n) (cl)) ea0)) rfl Try.underlying22 (s := 7) (by kernel_rfl) (by omega) (by omega) (by omega)) rfl ?_
          refine Fx.L.val (v := .pointer (some ⟨b, 7 * k + off, none⟩)) (by rfl) (Fx.x_field rfl rfl Try.underlying33 rfl (s := 1) (by kernel_rfl) rfl rfl) rfl ?_
          refine Fx.L.val (v := .int .i64 (J k)) (by rfl) (Fx.x_load1 (x := stx J V) rfl rfl (by kernel_rfl) m25 (i := 7 * k) (by omega) (by omega) (stx_J _ _ (by omega))) rfl ?_
          refine Fx.L.val (v := .bool true) (by rfl) (Fx.x_leqT rfl rfl rfl (by omega)) rfl ?_
          refine Fx.L.val (v := .bool true) (by rfl) (Fx.x_pickT rfl rfl rfl) rfl ?_
          refine Fx.L.val (v := .bool false) (by rfl) (Fx.x_neqB rfl rfl rfl (by kernel_rfl) rfl) rfl ?_
          refine Fx.L.nil ?_
          refine Fx.seqN ?_
          refine Fx.W.cond (b := false) rfl (fun h => nomatch h) (fun _ => ?_)
          refine Fx.W.skip ?_
          refine Fx.seqN ?_
          refine Fx.W.seq ?_
          refine Fx.W.seq ?_
          refine Fx.W.list ?_
          refine Fx.L.val (v := .int .i64 (tE (J k))) (by rfl) (Fx.x_move rfl rfl) rfl ?_
          refine Fx.L.val (v := .bool false) (by rfl) (Fx.x_neqF rfl rfl rfl c52) rfl ?_
          refine Fx.L.nil ?_
          refine Fx.seqN ?_
          refine Fx.W.cond (b := false) rfl (fun h => nomatch h) (fun _ => ?_)
          refine Fx.W.skip ?_
          refine Fx.seqN ?_
          refine Fx.W.seq ?_
          have hr := tE_zero c52
          obtain ⟨a, ha, ea⟩ := regG_nat hr
          refine Fx.W.list ?_
          refine Fx.L.val (v := .pointer (some ⟨g1, 0, none⟩)) (by rfl) (Fx.x_move rfl h3) rfl ?_
          refine Fx.L.val (v := .slice sl (n) (cl)) (by rfl) (Fx.x_move rfl h1) rfl ?_
          refine Fx.L.val (v := .int .i64 ((k : Int))) (by rfl) (Fx.x_move rfl h5) rfl ?_
          refine Fx.L.val (v := .pointer (some ⟨b, 7 * k + off, none⟩)) (by rfl) (Fx.x_indexS rfl (rfl.trans (congrArg (fun q => Value.slice q (n) (cl)) ea0)) rfl Try.underlying22 (s := 7) (by kernel_rfl) (by omega) (by omega) (by omega)) rfl ?_
          refine Fx.L.val (v := .pointer (some ⟨b, 7 * k + off, none⟩)) (by rfl) (Fx.x_field rfl rfl Try.underlying33 rfl (s := 1) (by kernel_rfl) rfl rfl) rfl ?_
          refine Fx.L.val (v := .int .i64 (J k)) (by rfl) (Fx.x_load1 (x := stx J V) rfl rfl (by kernel_rfl) m25 (i := 7 * k) (by omega) (by omega) (stx_J _ _ (by omega))) rfl ?_
          refine Fx.L.call (by rfl) (Fx.r_call (args := [.pointer (some ⟨g1, 0, none⟩), .int .i64 (J k)]) rfl rfl Try.func17 rfl rfl) rfl ((g_of (toldK (Kn J V k) (J k) (V k)) g1 (J k) _ m23).mono ?_)
          rintro e w10 ⟨he, hb5⟩
          refine ⟨.agg (Fx.varr 6 (Fx.rv .u64 (ofV (toldK (Kn J V k) (J k) (V k)) (J k)))), by rw [he], ?_⟩
          clear he
          have s10 := Fx.Stp.of_below hb5
          have m27 : Fx.Blk w10 g2 36 (Fx.rv .u64 (Kn J V k)) 30 := m24.stp s10 (Nat.ne_of_lt (m24.lt))
          have m28 : Fx.Cel w10 b off (7 * n) (stx J V) := m25.stp s10 (Nat.ne_of_lt (m25.lt (by omega)))
          have m29 : Fx.Blk w10 g3 6 (Fx.rv .u64 (ofV (Kn J V k) (J k))) 29 := m26.stp s10 (Nat.ne_of_lt (m26.lt))
          have m30 : Fx.Blk w10 g1 36 (Fx.rv .u64 (toldK (Kn J V k) (J k) (V k))) 128 := m23.stp s10 (Nat.ne_of_lt (m23.lt))
          have b11 : Below w.heap.size w w10 := s10.below b10 b10.size b10.size
          refine Fx.L.new (m := 6) (y := Fx.rv .u64 (fun _ => 0)) (by rfl) rfl (by kernel_rfl) rfl fun g4 w11 eg4 m31 s11 z4 => ?_
          have m32 : Fx.Blk w11 g2 36 (Fx.rv .u64 (Kn J V k)) 30 := m27.stp s11 (Nat.ne_of_lt (m27.lt))
          have m33 : Fx.Cel w11 b off (7 * n) (stx J V) := m28.stp s11 (Nat.ne_of_lt (m28.lt (by omega)))
          have m34 : Fx.Blk w11 g3 6 (Fx.rv .u64 (ofV (Kn J V k) (J k))) 29 := m29.stp s11 (Nat.ne_of_lt (m29.lt))
          have m35 : Fx.Blk w11 g1 36 (Fx.rv .u64 (toldK (Kn J V k) (J k) (V k))) 128 := m30.stp s11 (Nat.ne_of_lt (m30.lt))
          have b12 : Below w.heap.size w w11 := s11.below b11 b11.size b11.size
          have lg4 : w.heap.size ≤ g4 := by rw [eg4]; exact b11.size
          have ng4m32 : g2 ≠ g4 := by rw [eg4]; exact Nat.ne_of_lt (m27.lt)
          have ng4m33 : b ≠ g4 := by rw [eg4]; exact Nat.ne_of_lt (m28.lt (by omega))
          have ng4m34 : g3 ≠ g4 := by rw [eg4]; exact Nat.ne_of_lt (m29.lt)
          have ng4m35 : g1 ≠ g4 := by rw [eg4]; exact Nat.ne_of_lt (m30.lt)
          have tg4 : g4 < w11.heap.size := m31.lt
          clear eg4
          refine Fx.L.storeA (x := Fx.rv .u64 (fun _ => 0)) (y := Fx.rv .u64 (ofV (toldK (Kn J V k) (J k) (V k)) (J k))) (by rfl) rfl rfl rfl rfl (fun _ _ => rfl) (by kernel_rfl) m31 (i := 0) (by omega) fun w12 m36 s12 z5 => ?_
          have m37 : Fx.Blk w12 g4 6 (Fx.rv .u64 (ofV (toldK (Kn J V k) (J k) (V k)) (J k))) 29 := Fx.ovr_all m36
          have m38 : Fx.Blk w12 g2 36 (Fx.rv .u64 (Kn J V k)) 30 := m32.stp s12 (by omega)
          have m39 : Fx.Cel w12 b off (7 * n) (stx J V) := m33.stp s12 (by omega)
          have m40 : Fx.Blk w12 g3 6 (Fx.rv .u64 (ofV (Kn J V k) (J k))) 29 := m34.stp s12 (by omega)
          have m41 : Fx.Blk w12 g1 36 (Fx.rv .u64 (toldK (Kn J V k) (J k) (V k))) 128 := m35.stp s12 (by omega)
          have b13 : Below w.heap.size w w12 := s12.below b12 b12.size (by omega)
          refine Fx.L.nil ?_
          refine Fx.seqN ?_
          refine Fx.W.seq ?_
          refine Fx.W.seq ?_
          refine Fx.W.list ?_
          refine Fx.L.val (v := .int .i64 (0)) (by rfl) (Fx.x_assign rfl rfl) rfl ?_
          refine Fx.L.nil ?_
          refine Fx.seqN ?_
          refine Fx.W.block ?_
          have m42 : Fx.Blk w12 g2 36 (Fx.rv .u64 (mI (Kn J V k) a 0 (V k))) 30 := m38.to (congrArg (Fx.rv .u64) (mI_zero _ _ _))
          refine Fx.W.loop (fun f w_ => ∃ q : Nat, q ≤ 6 ∧ f 0 = .slice sl (n) (cl) ∧ f 1 = .slice sa (m) (ca) ∧ f 5 = .pointer (some ⟨g1, 0, none⟩) ∧ f 6 = .pointer (some ⟨g2, 0, none⟩) ∧ f 7 = .int .i64 ((k : Int)) ∧ f 8 = .pointer (some ⟨g3, 0, none⟩) ∧ f 10 = .pointer (some ⟨g4, 0, none⟩) ∧ f 11 = .int .i64 ((q : Int)) ∧ Fx.Blk w_ g2 36 (Fx.rv .u64 (mI (Kn J V k) a q (V k))) 30 ∧ Fx.Cel w_ b off (7 * n) (stx J V) ∧ Fx.Blk w_ g3 6 (Fx.rv .u64 (ofV (Kn J V k) (J k))) 29 ∧ Fx.Blk w_ g1 36 (Fx.rv .u64 (toldK (Kn J V k) (J k) (V k))) 128 ∧ Fx.Blk w_ g4 6 (Fx.rv .u64 (ofV (toldK (Kn J V k) (J k) (V k)) (J k))) 29 ∧ Below w.heap.size w w_) (fun f _ => (6 - (intOf (f 11)).toNat)) ⟨0, by omega, h1, h2, h3, h4, (h5.trans (by first | rfl | exact congrArg (Value.int .i64) (by omega))), (by rfl), (by rfl), (by first | rfl | exact congrArg (Value.int .i64) (by omega)), m42, m39, m40, m41, m37, b13⟩ ?_
          rintro f2 w13 ⟨q, hq, h6, h7, h8, h9, h10, h11, h12, h13, m43, m44, m45, m46, m47, b14⟩
          refine Fx.W.seq ?_
          refine Fx.W.seq ?_
          refine Fx.W.list ?_
          refine Fx.L.val (v := .int .i64 ((q : Int))) (by rfl) (Fx.x_move rfl h13) rfl ?_
          by_cases c78 : (q : Int) < 6
          · refine Fx.L.val (v := .bool true) (by rfl) (Fx.x_lssT rfl rfl rfl c78) rfl ?_
            refine Fx.L.nil ?_
            refine Fx.seqN ?_
            refine Fx.W.cond (b := true) rfl (fun _ => ?_) (fun h => nomatch h)
            refine Fx.W.skip ?_
            refine Fx.seqN ?_
            refine Fx.W.seq ?_
            refine Fx.W.block ?_
            refine Fx.W.seq ?_
            -- region 17 draws
            refine Fx.W.tail 27 (by kernel_rfl) (by kernel_rfl) fun wt2 hbwt2 hzwt2 => ?_
            have s13 : Fx.Stp w13.heap.size w13 wt2 := Fx.Stp.of_below hbwt2
            have m48 : Fx.Blk wt2 g2 36 (Fx.rv .u64 (mI (Kn J V k) a q (V k))) 30 := m43.stp s13 (Nat.ne_of_lt m43.lt)
            have m49 : Fx.Cel wt2 b off (7 * n) (stx J V) := m44.stp s13 (Nat.ne_of_lt (m44.lt (by omega)))
            have m50 : Fx.Blk wt2 g3 6 (Fx.rv .u64 (ofV (Kn J V k) (J k))) 29 := m45.stp s13 (Nat.ne_of_lt m45.lt)
            have m51 : Fx.Blk wt2 g1 36 (Fx.rv .u64 (toldK (Kn J V k) (J k) (V k))) 128 := m46.stp s13 (Nat.ne_of_lt m46.lt)
            have m52 : Fx.Blk wt2 g4 6 (Fx.rv .u64 (ofV (toldK (Kn J V k) (J k) (V k)) (J k))) 29 := m47.stp s13 (Nat.ne_of_lt m47.lt)
            have b15 : Below w.heap.size w wt2 := s13.below b14 b14.size b14.size
            refine Fx.St.val (v := .slice sl (n) (cl)) (by rfl) (Fx.x_move rfl h6) rfl ?_
            refine Fx.St.val (v := .int .i64 ((k : Int))) (by rfl) (Fx.x_move rfl h10) rfl ?_
            refine Fx.St.val (v := .pointer (some ⟨b, 7 * k + off, none⟩)) (by rfl) (Fx.x_indexS rfl (rfl.trans (congrArg (fun q => Value.slice q (n) (cl)) ea0)) rfl Try.underlying22 (s := 7) (by kernel_rfl) (by omega) (by omega) (by omega)) rfl ?_
            refine Fx.St.val (v := .pointer (some ⟨b, 7 * k + off, none⟩)) (by rfl) (Fx.x_field rfl rfl Try.underlying33 rfl (s := 1) (by kernel_rfl) rfl rfl) rfl ?_
            refine Fx.St.val (v := .int .i64 (J k)) (by rfl) (Fx.x_load1 (x := stx J V) rfl rfl (by kernel_rfl) m49 (i := 7 * k) (by omega) (by omega) (stx_J _ _ (by omega))) rfl ?_
            refine Fx.St.val (v := .int .i64 ((a : Int))) (by rfl) (Fx.x_sub rfl rfl rfl (Fx.i64e (by omega) (by omega))) rfl ?_
            refine Fx.St.val (v := .int .i64 ((q : Int))) (by rfl) (Fx.x_move rfl h13) rfl ?_
            refine Fx.St.val (v := .slice sl (n) (cl)) (by rfl) (Fx.x_move rfl h6) rfl ?_
            refine Fx.St.val (v := .int .i64 ((k : Int))) (by rfl) (Fx.x_move rfl h10) rfl ?_
            refine Fx.St.val (v := .pointer (some ⟨b, 7 * k + off, none⟩)) (by rfl) (Fx.x_indexS rfl (rfl.trans (congrArg (fun q => Value.slice q (n) (cl)) ea0)) rfl Try.underlying22 (s := 7) (by kernel_rfl) (by omega) (by omega) (by omega)) rfl ?_
            refine Fx.St.val (v := .pointer (some ⟨b, 7 * k + off, none⟩)) (by rfl) (Fx.x_field rfl rfl Try.underlying33 rfl (s := 1) (by kernel_rfl) rfl rfl) rfl ?_
            refine Fx.St.val (v := .int .i64 (J k)) (by rfl) (Fx.x_load1 (x := stx J V) rfl rfl (by kernel_rfl) m49 (i := 7 * k) (by omega) (by omega) (stx_J _ _ (by omega))) rfl ?_
            refine Fx.St.val (v := .int .i64 ((a : Int))) (by rfl) (Fx.x_sub rfl rfl rfl (Fx.i64e (by omega) (by omega))) rfl ?_
            refine Fx.St.val (v := .int .i64 ((q : Int))) (by rfl) (Fx.x_move rfl h13) rfl ?_
            refine Fx.St.val (v := .pointer (some ⟨g2, 6 * a, none⟩)) (by rfl) (Fx.x_index rfl h9 rfl Try.underlying30 (s := 6) (by kernel_rfl) (by omega) (by omega) (by omega)) rfl ?_
            refine Fx.St.val (v := .pointer (some ⟨g2, 6 * a + q, none⟩)) (by rfl) (Fx.x_index rfl rfl rfl Try.underlying29 (s := 1) (by kernel_rfl) (by omega) (by omega) (by omega)) rfl ?_
            refine Fx.St.val (v := .int .u64 ((mI (Kn J V k) a q (V k)) (6 * a + q))) (by rfl) (Fx.x_load1 (x := Fx.rv .u64 (mI (Kn J V k) a q (V k))) rfl rfl (by kernel_rfl) m48.cel (i := 6 * a + q) (by omega) (by omega) rfl) rfl ?_
            refine Fx.St.val (v := .slice sl (n) (cl)) (by rfl) (Fx.x_move rfl h6) rfl ?_
            refine Fx.St.val (v := .int .i64 ((k : Int))) (by rfl) (Fx.x_move rfl h10) rfl ?_
            refine Fx.St.val (v := .int .i64 ((q : Int))) (by rfl) (Fx.x_move rfl h13) rfl ?_
            refine Fx.St.val (v := .pointer (some ⟨b, 7 * k + off, none⟩)) (by rfl) (Fx.x_indexS rfl (rfl.trans (congrArg (fun q => Value.slice q (n) (cl)) ea0)) rfl Try.underlying22 (s := 7) (by kernel_rfl) (by omega) (by omega) (by omega)) rfl ?_
            refine Fx.St.val (v := .pointer (some ⟨b, 7 * k + off + 1, none⟩)) (by rfl) (Fx.x_field rfl rfl Try.underlying33 rfl (s := 6) (by kernel_rfl) rfl (by show _ + 1 = _; omega)) rfl ?_
            refine Fx.St.val (v := .pointer (some ⟨b, 7 * k + off + q + 1, none⟩)) (by rfl) (Fx.x_index rfl rfl rfl Try.underlying29 (s := 1) (by kernel_rfl) (by omega) (by omega) (by omega)) rfl ?_
            refine Fx.St.val (v := .int .u64 (V k q)) (by rfl) (Fx.x_load1 (x := stx J V) rfl rfl (by kernel_rfl) m49 (i := 7 * k + q + 1) (by omega) (by omega) (stx_V _ _ (by omega) (by omega))) rfl ?_
            refine Fx.St.val (v := .int .u64 (mx6 ((mI (Kn J V k) a q (V k)) (6 * a + q)) (V k q))) (by rfl) (Fx.x_max rfl rfl rfl) rfl ?_
            refine Fx.St.val (v := .pointer (some ⟨g2, 6 * a, none⟩)) (by rfl) (Fx.x_index rfl h9 rfl Try.underlying30 (s := 6) (by kernel_rfl) (by omega) (by omega) (by omega)) rfl ?_
            refine Fx.St.val (v := .pointer (some ⟨g2, 6 * a + q, none⟩)) (by rfl) (Fx.x_index rfl rfl rfl Try.underlying29 (s := 1) (by kernel_rfl) (by omega) (by omega) (by omega)) rfl ?_
            refine Fx.St.nil ?_
            refine Fx.L.store1 (x := Fx.rv .u64 (mI (Kn J V k) a q (V k))) (u := .int .u64 (mx6 ((mI (Kn J V k) a q (V k)) (6 * a + q)) (V k q))) (by rfl) rfl rfl rfl rfl (by rfl) (by kernel_rfl) m48 (i := 6 * a + q) (by omega) fun w14 m53 s14 z6 => ?_
            have m54 : Fx.Blk w14 g2 36 (Fx.rv .u64 (upd (mI (Kn J V k) a q (V k)) (6 * a + q) (mx6 ((mI (Kn J V k) a q (V k)) (6 * a + q)) (V k q)))) 30 := m53.to (Fx.updV_rv _ _ _ _)
            have m55 : Fx.Cel w14 b off (7 * n) (stx J V) := m49.stp s14 (by omega)
            have m56 : Fx.Blk w14 g3 6 (Fx.rv .u64 (ofV (Kn J V k) (J k))) 29 := m50.stp s14 (by omega)
            have m57 : Fx.Blk w14 g1 36 (Fx.rv .u64 (toldK (Kn J V k) (J k) (V k))) 128 := m51.stp s14 (by omega)
            have m58 : Fx.Blk w14 g4 6 (Fx.rv .u64 (ofV (toldK (Kn J V k) (J k) (V k)) (J k))) 29 := m52.stp s14 (by omega)
            have b16 : Below w.heap.size w w14 := s14.below b15 b15.size (by omega)
            refine Fx.L.nil ?_
            refine Fx.seqN ?_
            refine Fx.W.seq ?_
            -- region 18 draws
            refine Fx.W.quiet (fun v1 => ∃ q, v1 = World.drewN w14 q) (by kernel_rfl) (by kernel_rfl) ⟨1, rfl⟩ ?_
            refine Fx.Qt.val (v := .int .i64 ((q : Int))) (by rfl) (fun v1 hv1 => Fx.x_move rfl h13) rfl ?_
            refine Fx.Qt.val (v := .pointer (some ⟨g4, q, none⟩)) (by rfl) (fun v1 hv1 => Fx.x_index rfl h12 rfl Try.underlying29 (s := 1) (by kernel_rfl) (by omega) (by omega) (by omega)) rfl ?_
            refine Fx.Qt.val (v := .int .u64 ((ofV (toldK (Kn J V k) (J k) (V k)) (J k)) q)) (by rfl) (fun v1 hv1 => Fx.x_load1 (x := Fx.rv .u64 (ofV (toldK (Kn J V k) (J k) (V k)) (J k))) rfl rfl (by kernel_rfl) (by obtain ⟨qd, rfl⟩ := hv1; exact m58.cel) (i := q) (by omega) (by omega) rfl) rfl ?_
            refine Fx.Qt.val (v := .int .i64 ((q : Int))) (by rfl) (fun v1 hv1 => Fx.x_move rfl h13) rfl ?_
            refine Fx.Qt.val (v := .pointer (some ⟨g3, q, none⟩)) (by rfl) (fun v1 hv1 => Fx.x_index rfl h11 rfl Try.underlying29 (s := 1) (by kernel_rfl) (by omega) (by omega) (by omega)) rfl ?_
            refine Fx.Qt.val (v := .int .u64 ((ofV (Kn J V k) (J k)) q)) (by rfl) (fun v1 hv1 => Fx.x_load1 (x := Fx.rv .u64 (ofV (Kn J V k) (J k))) rfl rfl (by kernel_rfl) (by obtain ⟨qd, rfl⟩ := hv1; exact m56.cel) (i := q) (by omega) (by omega) rfl) rfl ?_
            refine Fx.Qt.val (v := .bool false) (by rfl) (fun v1 hv1 => Fx.x_lssF rfl rfl rfl (Int.not_lt.2 (n2a hr (by omega)))) rfl ?_
            refine Fx.Qt.val (v := .bool false) (by rfl) (fun v1 hv1 => Fx.x_move rfl rfl) rfl ?_
            refine Fx.Qt.val (v := .int .i64 ((q : Int))) (by rfl) (fun v1 hv1 => Fx.x_move rfl h13) rfl ?_
            refine Fx.Qt.val (v := .pointer (some ⟨g4, q, none⟩)) (by rfl) (fun v1 hv1 => Fx.x_index rfl h12 rfl Try.underlying29 (s := 1) (by kernel_rfl) (by omega) (by omega) (by omega)) rfl ?_
            refine Fx.Qt.val (v := .int .u64 ((ofV (toldK (Kn J V k) (J k) (V k)) (J k)) q)) (by rfl) (fun v1 hv1 => Fx.x_load1 (x := Fx.rv .u64 (ofV (toldK (Kn J V k) (J k) (V k)) (J k))) rfl rfl (by kernel_rfl) (by obtain ⟨qd, rfl⟩ := hv1; exact m58.cel) (i := q) (by omega) (by omega) rfl) rfl ?_
            refine Fx.Qt.val (v := .slice sl (n) (cl)) (by rfl) (fun v1 hv1 => Fx.x_move rfl h6) rfl ?_
            refine Fx.Qt.val (v := .int .i64 ((k : Int))) (by rfl) (fun v1 hv1 => Fx.x_move rfl h10) rfl ?_
            refine Fx.Qt.val (v := .int .i64 ((q : Int))) (by rfl) (fun v1 hv1 => Fx.x_move rfl h13) rfl ?_
            refine Fx.Qt.val (v := .pointer (some ⟨b, 7 * k + off, none⟩)) (by rfl) (fun v1 hv1 => Fx.x_indexS rfl (rfl.trans (congrArg (fun q => Value.slice q (n) (cl)) ea0)) rfl Try.underlying22 (s := 7) (by kernel_rfl) (by omega) (by omega) (by omega)) rfl ?_
            refine Fx.Qt.val (v := .pointer (some ⟨b, 7 * k + off + 1, none⟩)) (by rfl) (fun v1 hv1 => Fx.x_field rfl rfl Try.underlying33 rfl (s := 6) (by kernel_rfl) rfl (by show _ + 1 = _; omega)) rfl ?_
            refine Fx.Qt.val (v := .pointer (some ⟨b, 7 * k + off + q + 1, none⟩)) (by rfl) (fun v1 hv1 => Fx.x_index rfl rfl rfl Try.underlying29 (s := 1) (by kernel_rfl) (by omega) (by omega) (by omega)) rfl ?_
            refine Fx.Qt.val (v := .int .u64 (V k q)) (by rfl) (fun v1 hv1 => Fx.x_load1 (x := stx J V) rfl rfl (by kernel_rfl) (by obtain ⟨qd, rfl⟩ := hv1; exact m55) (i := 7 * k + q + 1) (by omega) (by omega) (stx_V _ _ (by omega) (by omega))) rfl ?_
            refine Fx.Qt.val (v := .bool false) (by rfl) (fun v1 hv1 => Fx.x_lssF rfl rfl rfl (Int.not_lt.2 (n2b hr (by omega)))) rfl ?_
            refine Fx.Qt.val (v := .bool false) (by rfl) (fun v1 hv1 => Fx.x_pickF rfl rfl rfl) rfl ?_
            refine Fx.Qt.nil ?_
            rintro _ ⟨qd, rfl⟩
            obtain ⟨wq1, ewq1⟩ : ∃ v1, v1 = World.drewN w14 qd := ⟨_, rfl⟩
            rw [← ewq1]
            have s15 : Fx.Stp w14.heap.size w14 wq1 := by rw [ewq1]; exact Fx.Stp.of_below (bdrN w14 qd)
            have m59 : Fx.Cel wq1 b off (7 * n) (stx J V) := m55.stp s15 (Nat.ne_of_lt (m55.lt (by omega)))
            have m60 : Fx.Blk wq1 g3 6 (Fx.rv .u64 (ofV (Kn J V k) (J k))) 29 := m56.stp s15 (Nat.ne_of_lt m56.lt)
            have m61 : Fx.Blk wq1 g1 36 (Fx.rv .u64 (toldK (Kn J V k) (J k) (V k))) 128 := m57.stp s15 (Nat.ne_of_lt m57.lt)
            have m62 : Fx.Blk wq1 g4 6 (Fx.rv .u64 (ofV (toldK (Kn J V k) (J k) (V k)) (J k))) 29 := m58.stp s15 (Nat.ne_of_lt m58.lt)
            have m63 : Fx.Blk wq1 g2 36 (Fx.rv .u64 (upd (mI (Kn J V k) a q (V k)) (6 * a + q) (mx6 ((mI (Kn J V k) a q (V k)) (6 * a + q)) (V k q)))) 30 := m54.stp s15 (Nat.ne_of_lt m54.lt)
            have b17 : Below w.heap.size w wq1 := s15.below b16 b16.size b16.size
            clear ewq1
            refine Fx.seqN ?_
            refine Fx.W.cond (b := false) rfl (fun h => nomatch h) (fun _ => ?_)
            refine Fx.W.skip ?_
            refine Fx.blkN ?_
            refine Fx.seqN ?_
            refine Fx.W.list ?_
            refine Fx.L.val (v := .int .i64 ((q : Int))) (by rfl) (Fx.x_move rfl h13) rfl ?_
            refine Fx.L.val (v := .int .i64 ((q : Int) + 1)) (by rfl) (Fx.x_add rfl rfl rfl (Fx.i64e (by omega) (by omega))) rfl ?_
            refine Fx.L.val (v := .int .i64 ((q : Int) + 1)) (by rfl) (Fx.x_assign rfl rfl) rfl ?_
            refine Fx.L.nil ?_
            have m64 : Fx.Blk wq1 g2 36 (Fx.rv .u64 (mI (Kn J V k) a (q + 1) (V k))) 30 := m63.to (congrArg (Fx.rv .u64) (mI_succ _ _ _ _))
            skip
            refine Fx.lpN ⟨q + 1, by omega, h6, h7, h8, h9, (h10.trans (by first | rfl | exact congrArg (Value.int .i64) (by omega))), h11, h12, (by first | rfl | exact congrArg (Value.int .i64) (by omega)), m64, m59, m60, m61, m62, b17⟩ ?_
            show (6 - (intOf ((.int .i64 ((q : Int) + 1)))).toNat) < _
            simp only [h13, intOf]; omega
          · refine Fx.L.val (v := .bool false) (by rfl) (Fx.x_lssF rfl rfl rfl c78) rfl ?_
            refine Fx.L.nil ?_
            refine Fx.seqN ?_
            refine Fx.W.cond (b := false) rfl (fun h => nomatch h) (fun _ => ?_)
            refine Fx.W.exit ?_
            refine Fx.seqX ?_
            refine Fx.lpX ?_
            refine Fx.blkX ?_
            refine Fx.seqN ?_
            refine Fx.W.seq ?_
            have eq6 : q = 6 := by omega
            have HK := kn_u (J := J) hV k (by omega)
            have HV := hV k (by omega)
            -- region 20 draws
            refine Fx.W.quiet (fun v1 => ∃ q, v1 = World.drewN w13 q) (by kernel_rfl) (by kernel_rfl) ⟨1, rfl⟩ ?_
            refine Fx.Qt.val (v := .agg (Fx.varr 6 (Fx.rv .u64 (ofV (toldK (Kn J V k) (J k) (V k)) (J k))))) (by rfl) (fun v1 hv1 => Fx.x_loadA (x := Fx.rv .u64 (ofV (toldK (Kn J V k) (J k) (V k)) (J k))) (y := Fx.rv .u64 (ofV (toldK (Kn J V k) (J k) (V k)) (J k))) rfl h12 (by kernel_rfl) (by kernel_rfl) (by obtain ⟨qd, rfl⟩ := hv1; exact m47.cel) (i := 0) (by omega) (by omega) (fun j _ => by rw [Nat.zero_add])) rfl ?_
            refine Fx.Qt.val (v := .slice sl (n) (cl)) (by rfl) (fun v1 hv1 => Fx.x_move rfl h6) rfl ?_
            refine Fx.Qt.val (v := .int .i64 ((k : Int))) (by rfl) (fun v1 hv1 => Fx.x_move rfl h10) rfl ?_
            refine Fx.Qt.val (v := .pointer (some ⟨b, 7 * k + off, none⟩)) (by rfl) (fun v1 hv1 => Fx.x_indexS rfl (rfl.trans (congrArg (fun q => Value.slice q (n) (cl)) ea0)) rfl Try.underlying22 (s := 7) (by kernel_rfl) (by omega) (by omega) (by omega)) rfl ?_
            refine Fx.Qt.val (v := .pointer (some ⟨b, 7 * k + off, none⟩)) (by rfl) (fun v1 hv1 => Fx.x_field rfl rfl Try.underlying33 rfl (s := 1) (by kernel_rfl) rfl rfl) rfl ?_
            refine Fx.Qt.val (v := .int .i64 (J k)) (by rfl) (fun v1 hv1 => Fx.x_load1 (x := stx J V) rfl rfl (by kernel_rfl) (by obtain ⟨qd, rfl⟩ := hv1; exact m44) (i := 7 * k) (by omega) (by omega) (stx_J _ _ (by omega))) rfl ?_
            refine Fx.Qt.val (v := .int .i64 ((a : Int))) (by rfl) (fun v1 hv1 => Fx.x_sub rfl rfl rfl (Fx.i64e (by omega) (by omega))) rfl ?_
            refine Fx.Qt.val (v := .pointer (some ⟨g2, 6 * a, none⟩)) (by rfl) (fun v1 hv1 => Fx.x_index rfl h9 rfl Try.underlying30 (s := 6) (by kernel_rfl) (by omega) (by omega) (by omega)) rfl ?_
            refine Fx.Qt.val (v := .agg (Fx.varr 6 (Fx.rv .u64 (fun j => (mI (Kn J V k) a q (V k)) (6 * a + j))))) (by rfl) (fun v1 hv1 => Fx.x_loadA (x := Fx.rv .u64 (mI (Kn J V k) a q (V k))) (y := Fx.rv .u64 (fun j => (mI (Kn J V k) a q (V k)) (6 * a + j))) rfl rfl (by kernel_rfl) (by kernel_rfl) (by obtain ⟨qd, rfl⟩ := hv1; exact m43.cel) (i := 6 * a) (by omega) (by omega) (fun j _ => congrArg (fun qz => Fx.rv .u64 (mI (Kn J V k) a q (V k)) qz) (by omega))) rfl ?_
            refine Fx.Qt.val (v := .bool false) (by rfl) (fun v1 hv1 => Fx.x_neqA (n := 6) (ks := List.replicate 6 (some .u64)) (X := Fx.rv .u64 (ofV (toldK (Kn J V k) (J k) (V k)) (J k))) (Y := Fx.rv .u64 (fun j => (mI (Kn J V k) a q (V k)) (6 * a + j))) 12 true rfl rfl rfl (Fx.yesb (now_eq hr ea eq6)) (kdU (ofV_u (told_u HK HV))) (kdU (mI_u_sub HK HV eq6)) rfl (by kernel_rfl) (by kernel_rfl) (by kernel_rfl) (by kernel_rfl) (by kernel_rfl)) rfl ?_
            refine Fx.Qt.nil ?_
            rintro _ ⟨qd, rfl⟩
            obtain ⟨wq2, ewq2⟩ : ∃ v1, v1 = World.drewN w13 qd := ⟨_, rfl⟩
            rw [← ewq2]
            have s16 : Fx.Stp w13.heap.size w13 wq2 := by rw [ewq2]; exact Fx.Stp.of_below (bdrN w13 qd)
            have m65 : Fx.Blk wq2 g2 36 (Fx.rv .u64 (mI (Kn J V k) a q (V k))) 30 := m43.stp s16 (Nat.ne_of_lt m43.lt)
            have m66 : Fx.Cel wq2 b off (7 * n) (stx J V) := m44.stp s16 (Nat.ne_of_lt (m44.lt (by omega)))
            have m67 : Fx.Blk wq2 g3 6 (Fx.rv .u64 (ofV (Kn J V k) (J k))) 29 := m45.stp s16 (Nat.ne_of_lt m45.lt)
            have m68 : Fx.Blk wq2 g1 36 (Fx.rv .u64 (toldK (Kn J V k) (J k) (V k))) 128 := m46.stp s16 (Nat.ne_of_lt m46.lt)
            have m69 : Fx.Blk wq2 g4 6 (Fx.rv .u64 (ofV (toldK (Kn J V k) (J k) (V k)) (J k))) 29 := m47.stp s16 (Nat.ne_of_lt m47.lt)
            have b18 : Below w.heap.size w wq2 := s16.below b14 b14.size b14.size
            clear ewq2
            refine Fx.seqN ?_
            refine Fx.W.cond (b := false) rfl (fun h => nomatch h) (fun _ => ?_)
            refine Fx.W.skip ?_
            refine Fx.blkN ?_
            refine Fx.seqN ?_
            refine Fx.W.list ?_
            refine Fx.L.val (v := .int .i64 ((k : Int))) (by rfl) (Fx.x_move rfl h10) rfl ?_
            refine Fx.L.val (v := .int .i64 ((k : Int) + 1)) (by rfl) (Fx.x_add rfl rfl rfl (Fx.i64e (by omega) (by omega))) rfl ?_
            refine Fx.L.val (v := .int .i64 ((k : Int) + 1)) (by rfl) (Fx.x_assign rfl rfl) rfl ?_
            refine Fx.L.nil ?_
            have m70 : Fx.Blk wq2 g2 36 (Fx.rv .u64 (toldK (Kn J V k) (J k) (V k))) 30 := m65.to (congrArg (Fx.rv .u64) (mI_six hr ea eq6))
            skip
            refine Fx.lpN ⟨k + 1, by omega, h6, h7, h8, h9, (by first | rfl | exact congrArg (Value.int .i64) (by omega)), m68, m70, b18⟩ ?_
            show (n - (intOf ((.int .i64 ((k : Int) + 1)))).toNat) < _
            simp only [h5, intOf]; omega
        · refine Fx.L.val (v := .bool false) (by rfl) (Fx.x_eqlF rfl rfl rfl c52) rfl ?_
          refine Fx.L.val (v := .slice sl (n) (cl)) (by rfl) (Fx.x_move rfl h1) rfl ?_
          refine Fx.L.val (v := .int .i64 ((k : Int))) (by rfl) (Fx.x_move rfl h5) rfl ?_
          refine Fx.L.val (v := .pointer (some ⟨b, 7 * k + off, none⟩)) (by rfl) (Fx.x_indexS rfl (rfl.trans (congrArg (fun q => Value.slice q (n) (cl)) ea0)) rfl Try.underlying22 (s := 7) (by kernel_rfl) (by omega) (by omega) (by omega)) rfl ?_
          refine Fx.L.val (v := .pointer (some ⟨b, 7 * k + off, none⟩)) (by rfl) (Fx.x_field rfl rfl Try.underlying33 rfl (s := 1) (by kernel_rfl) rfl rfl) rfl ?_
          refine Fx.L.val (v := .int .i64 (J k)) (by rfl) (Fx.x_load1 (x := stx J V) rfl rfl (by kernel_rfl) m25 (i := 7 * k) (by omega) (by omega) (stx_J _ _ (by omega))) rfl ?_
          by_cases c58 : 1 ≤ (J k)
          · refine Fx.L.val (v := .bool true) (by rfl) (Fx.x_geqT rfl rfl rfl c58) rfl ?_
            refine Fx.L.val (v := .bool true) (by rfl) (Fx.x_move rfl rfl) rfl ?_
            refine Fx.L.val (v := .slice sl (n) (cl)) (by rfl) (Fx.x_move rfl h1) rfl ?_
            refine Fx.L.val (v := .int .i64 ((k : Int))) (by rfl) (Fx.x_move rfl h5) rfl ?_
            refine Fx.L.val (v := .pointer (some ⟨b, 7 * k + off, none⟩)) (by rfl) (Fx.x_indexS rfl (rfl.trans (congrArg (fun q => Value.slice q (n) (cl)) ea0)) rfl Try.underlying22 (s := 7) (by kernel_rfl) (by omega) (by omega) (by omega)) rfl ?_
            refine Fx.L.val (v := .pointer (some ⟨b, 7 * k + off, none⟩)) (by rfl) (Fx.x_field rfl rfl Try.underlying33 rfl (s := 1) (by kernel_rfl) rfl rfl) rfl ?_
            refine Fx.L.val (v := .int .i64 (J k)) (by rfl) (Fx.x_load1 (x := stx J V) rfl rfl (by kernel_rfl) m25 (i := 7 * k) (by omega) (by omega) (stx_J _ _ (by omega))) rfl ?_
            refine Fx.L.val (v := .bool false) (by rfl) (Fx.x_leqF rfl rfl rfl (by omega)) rfl ?_
            refine Fx.L.val (v := .bool false) (by rfl) (Fx.x_pickT rfl rfl rfl) rfl ?_
            refine Fx.L.val (v := .bool false) (by rfl) (Fx.x_neqB rfl rfl rfl (by kernel_rfl) rfl) rfl ?_
            refine Fx.L.nil ?_
            refine Fx.seqN ?_
            refine Fx.W.cond (b := false) rfl (fun h => nomatch h) (fun _ => ?_)
            refine Fx.W.skip ?_
            refine Fx.seqN ?_
            refine Fx.W.seq ?_
            refine Fx.W.seq ?_
            refine Fx.W.list ?_
            refine Fx.L.val (v := .int .i64 (tE (J k))) (by rfl) (Fx.x_move rfl rfl) rfl ?_
            refine Fx.L.val (v := .bool true) (by rfl) (Fx.x_neqT rfl rfl rfl c52) rfl ?_
            refine Fx.L.nil ?_
            refine Fx.seqN ?_
            refine Fx.W.cond (b := true) rfl (fun _ => ?_) (fun h => nomatch h)
            refine Fx.W.exit ?_
            refine Fx.seqX ?_
            refine Fx.blkX ?_
            refine Fx.seqN ?_
            refine Fx.W.list ?_
            refine Fx.L.val (v := .int .i64 ((k : Int))) (by rfl) (Fx.x_move rfl h5) rfl ?_
            refine Fx.L.val (v := .int .i64 ((k : Int) + 1)) (by rfl) (Fx.x_add rfl rfl rfl (Fx.i64e (by omega) (by omega))) rfl ?_
            refine Fx.L.val (v := .int .i64 ((k : Int) + 1)) (by rfl) (Fx.x_assign rfl rfl) rfl ?_
            refine Fx.L.nil ?_
            have m71 : Fx.Blk w9 g2 36 (Fx.rv .u64 (toldK (Kn J V k) (J k) (V k))) 30 := m24.to (congrArg (Fx.rv .u64) (toldK_no (tE_not c52)))
            skip
            refine Fx.lpN ⟨k + 1, by omega, h1, h2, h3, h4, (by first | rfl | exact congrArg (Value.int .i64) (by omega)), m23, m71, b10⟩ ?_
            show (n - (intOf ((.int .i64 ((k : Int) + 1)))).toNat) < _
            simp only [h5, intOf]; omega
          · refine Fx.L.val (v := .bool false) (by rfl) (Fx.x_geqF rfl rfl rfl c58) rfl ?_
            refine Fx.L.val (v := .bool false) (by rfl) (Fx.x_move rfl rfl) rfl ?_
            refine Fx.L.skip (by rfl) rfl ?_
            refine Fx.L.skip (by rfl) rfl ?_
            refine Fx.L.skip (by rfl) rfl ?_
            refine Fx.L.skip (by rfl) rfl ?_
            refine Fx.L.skip (by rfl) rfl ?_
            refine Fx.L.skip (by rfl) rfl ?_
            refine Fx.L.val (v := .bool false) (by rfl) (Fx.x_pickF rfl rfl rfl) rfl ?_
            refine Fx.L.val (v := .bool false) (by rfl) (Fx.x_neqB rfl rfl rfl (by kernel_rfl) rfl) rfl ?_
            refine Fx.L.nil ?_
            refine Fx.seqN ?_
            refine Fx.W.cond (b := false) rfl (fun h => nomatch h) (fun _ => ?_)
            refine Fx.W.skip ?_
            refine Fx.seqN ?_
            refine Fx.W.seq ?_
            refine Fx.W.seq ?_
            refine Fx.W.list ?_
            refine Fx.L.val (v := .int .i64 (tE (J k))) (by rfl) (Fx.x_move rfl rfl) rfl ?_
            refine Fx.L.val (v := .bool true) (by rfl) (Fx.x_neqT rfl rfl rfl c52) rfl ?_
            refine Fx.L.nil ?_
            refine Fx.seqN ?_
            refine Fx.W.cond (b := true) rfl (fun _ => ?_) (fun h => nomatch h)
            refine Fx.W.exit ?_
            refine Fx.seqX ?_
            refine Fx.blkX ?_
            refine Fx.seqN ?_
            refine Fx.W.list ?_
            refine Fx.L.val (v := .int .i64 ((k : Int))) (by rfl) (Fx.x_move rfl h5) rfl ?_
            refine Fx.L.val (v := .int .i64 ((k : Int) + 1)) (by rfl) (Fx.x_add rfl rfl rfl (Fx.i64e (by omega) (by omega))) rfl ?_
            refine Fx.L.val (v := .int .i64 ((k : Int) + 1)) (by rfl) (Fx.x_assign rfl rfl) rfl ?_
            refine Fx.L.nil ?_
            have m72 : Fx.Blk w9 g2 36 (Fx.rv .u64 (toldK (Kn J V k) (J k) (V k))) 30 := m24.to (congrArg (Fx.rv .u64) (toldK_no (tE_not c52)))
            skip
            refine Fx.lpN ⟨k + 1, by omega, h1, h2, h3, h4, (by first | rfl | exact congrArg (Value.int .i64) (by omega)), m23, m72, b10⟩ ?_
            show (n - (intOf ((.int .i64 ((k : Int) + 1)))).toNat) < _
            simp only [h5, intOf]; omega
      · refine Fx.L.val (v := .bool false) (by rfl) (Fx.x_lssF rfl rfl rfl c29) rfl ?_
        refine Fx.L.nil ?_
        refine Fx.seqN ?_
        refine Fx.W.cond (b := false) rfl (fun h => nomatch h) (fun _ => ?_)
        refine Fx.W.exit ?_
        refine Fx.seqX ?_
        refine Fx.lpX ?_
        refine Fx.blkX ?_
        refine Fx.seqN ?_
        refine Fx.W.seq ?_
        refine Fx.W.list ?_
        refine Fx.L.val (v := .pointer (some ⟨g1, 0, none⟩)) (by rfl) (Fx.x_move rfl h3) rfl ?_
        refine Fx.L.val (v := .slice sa (m) (ca)) (by rfl) (Fx.x_move rfl h2) rfl ?_
        refine Fx.L.call (by rfl) (Fx.r_call (args := [.pointer (some ⟨g1, 0, none⟩), .slice sa (m) (ca)]) rfl rfl Try.func19 rfl rfl) rfl ((g_least (Kn J V k) X g1 sa m ca _ (by omega) (fun h0 => by obtain ⟨b2, off2, ea2, hc2⟩ := hS h0; exact ⟨b2, off2, ea2, hc2.below b5 (hc2.lt (by omega))⟩) m4).mono ?_)
        rintro e w15 ⟨he, hb6⟩
        refine ⟨.agg (Fx.varr 6 (Fx.rv .u64 (leastV (Kn J V k) X m))), by rw [he], ?_⟩
        clear he
        have s17 := Fx.Stp.of_below hb6
        have m73 : Fx.Blk w15 g1 36 (Fx.rv .u64 (Kn J V k)) 128 := m4.stp s17 (Nat.ne_of_lt (m4.lt))
        have m74 : Fx.Blk w15 g2 36 (Fx.rv .u64 (Kn J V k)) 30 := m5.stp s17 (Nat.ne_of_lt (m5.lt))
        have b19 : Below w.heap.size w w15 := s17.below b5 b5.size b5.size
        refine Fx.L.new (m := 6) (y := Fx.rv .u64 (fun _ => 0)) (by rfl) rfl (by kernel_rfl) rfl fun g5 w16 eg5 m75 s18 z7 => ?_
        have m76 : Fx.Blk w16 g1 36 (Fx.rv .u64 (Kn J V k)) 128 := m73.stp s18 (Nat.ne_of_lt (m73.lt))
        have m77 : Fx.Blk w16 g2 36 (Fx.rv .u64 (Kn J V k)) 30 := m74.stp s18 (Nat.ne_of_lt (m74.lt))
        have b20 : Below w.heap.size w w16 := s18.below b19 b19.size b19.size
        have lg5 : w.heap.size ≤ g5 := by rw [eg5]; exact b19.size
        have ng5m76 : g1 ≠ g5 := by rw [eg5]; exact Nat.ne_of_lt (m73.lt)
        have ng5m77 : g2 ≠ g5 := by rw [eg5]; exact Nat.ne_of_lt (m74.lt)
        have tg5 : g5 < w16.heap.size := m75.lt
        clear eg5
        refine Fx.L.storeA (x := Fx.rv .u64 (fun _ => 0)) (y := Fx.rv .u64 (leastV (Kn J V k) X m)) (by rfl) rfl rfl rfl rfl (fun _ _ => rfl) (by kernel_rfl) m75 (i := 0) (by omega) fun w17 m78 s19 z8 => ?_
        have m79 : Fx.Blk w17 g5 6 (Fx.rv .u64 (leastV (Kn J V k) X m)) 29 := Fx.ovr_all m78
        have m80 : Fx.Blk w17 g1 36 (Fx.rv .u64 (Kn J V k)) 128 := m76.stp s19 (by omega)
        have m81 : Fx.Blk w17 g2 36 (Fx.rv .u64 (Kn J V k)) 30 := m77.stp s19 (by omega)
        have b21 : Below w.heap.size w w17 := s19.below b20 b20.size (by omega)
        refine Fx.L.nil ?_
        refine Fx.seqN ?_
        refine Fx.W.seq ?_
        refine Fx.W.seq ?_
        refine Fx.W.list ?_
        refine Fx.L.val (v := .int .i64 (0)) (by rfl) (Fx.x_assign rfl rfl) rfl ?_
        refine Fx.L.nil ?_
        refine Fx.seqN ?_
        refine Fx.W.block ?_
        refine Fx.W.loop (fun f w_ => ∃ i : Nat, i ≤ m ∧ f 1 = .slice sa (m) (ca) ∧ f 5 = .pointer (some ⟨g1, 0, none⟩) ∧ f 12 = .pointer (some ⟨g5, 0, none⟩) ∧ f 13 = .int .i64 ((i : Int)) ∧ Fx.Blk w_ g1 36 (Fx.rv .u64 (Kn J V k)) 128 ∧ Fx.Blk w_ g5 6 (Fx.rv .u64 (leastV (Kn J V k) X m)) 29 ∧ Below w.heap.size w w_) (fun f _ => (m - (intOf (f 13)).toNat)) ⟨0, by omega, h2, h3, (by rfl), (by first | rfl | exact congrArg (Value.int .i64) (by omega)), m80, m79, b21⟩ ?_
        rintro f3 w18 ⟨i, hi, h14, h15, h16, h17, m82, m83, b22⟩
        refine Fx.W.seq ?_
        refine Fx.W.seq ?_
        refine Fx.W.list ?_
        refine Fx.L.val (v := .int .i64 ((i : Int))) (by rfl) (Fx.x_move rfl h17) rfl ?_
        refine Fx.L.val (v := .slice sa (m) (ca)) (by rfl) (Fx.x_move rfl h14) rfl ?_
        refine Fx.L.val (v := .int .i64 ((m : Int))) (by rfl) (Fx.x_len rfl rfl rfl (by kernel_rfl)) rfl ?_
        by_cases c144 : (i : Int) < (m : Int)
        · refine Fx.L.val (v := .bool true) (by rfl) (Fx.x_lssT rfl rfl rfl c144) rfl ?_
          refine Fx.L.nil ?_
          refine Fx.seqN ?_
          refine Fx.W.cond (b := true) rfl (fun _ => ?_) (fun h => nomatch h)
          refine Fx.W.skip ?_
          refine Fx.seqN ?_
          refine Fx.W.seq ?_
          refine Fx.W.block ?_
          refine Fx.W.seq ?_
          obtain ⟨b2, off2, ea2, hc2⟩ := hS (by omega)
          have lb2 : b2 < w.heap.size := hc2.lt (by omega)
          have m84 := hc2.below b22 lb2
          refine Fx.W.list ?_
          refine Fx.L.val (v := .pointer (some ⟨g1, 0, none⟩)) (by rfl) (Fx.x_move rfl h15) rfl ?_
          refine Fx.L.val (v := .slice sa (m) (ca)) (by rfl) (Fx.x_move rfl h14) rfl ?_
          refine Fx.L.val (v := .int .i64 ((i : Int))) (by rfl) (Fx.x_move rfl h17) rfl ?_
          refine Fx.L.val (v := .pointer (some ⟨b2, i + off2, none⟩)) (by rfl) (Fx.x_indexS rfl (rfl.trans (congrArg (fun q => Value.slice q (m) (ca)) ea2)) rfl Try.underlying23 (s := 1) (by kernel_rfl) (by omega) (by omega) (by omega)) rfl ?_
          refine Fx.L.val (v := .int .i64 (X i)) (by rfl) (Fx.x_load1 (x := Fx.rv .i64 X) rfl rfl (by kernel_rfl) m84 (i := i) (by omega) (by omega) rfl) rfl ?_
          refine Fx.L.call (by rfl) (Fx.r_call (args := [.pointer (some ⟨g1, 0, none⟩), .int .i64 (X i)]) rfl rfl Try.func17 rfl rfl) rfl ((g_of (Kn J V k) g1 (X i) _ m82).mono ?_)
          rintro e w19 ⟨he, hb7⟩
          refine ⟨.agg (Fx.varr 6 (Fx.rv .u64 (ofV (Kn J V k) (X i)))), by rw [he], ?_⟩
          clear he
          have s20 := Fx.Stp.of_below hb7
          have m85 : Fx.Blk w19 g1 36 (Fx.rv .u64 (Kn J V k)) 128 := m82.stp s20 (Nat.ne_of_lt (m82.lt))
          have m86 : Fx.Blk w19 g5 6 (Fx.rv .u64 (leastV (Kn J V k) X m)) 29 := m83.stp s20 (Nat.ne_of_lt (m83.lt))
          have m87 : Fx.Cel w19 b2 off2 m (Fx.rv .i64 X) := m84.stp s20 (Nat.ne_of_lt (m84.lt (by omega)))
          have b23 : Below w.heap.size w w19 := s20.below b22 b22.size b22.size
          refine Fx.L.new (m := 6) (y := Fx.rv .u64 (fun _ => 0)) (by rfl) rfl (by kernel_rfl) rfl fun g6 w20 eg6 m88 s21 z9 => ?_
          have m89 : Fx.Blk w20 g1 36 (Fx.rv .u64 (Kn J V k)) 128 := m85.stp s21 (Nat.ne_of_lt (m85.lt))
          have m90 : Fx.Blk w20 g5 6 (Fx.rv .u64 (leastV (Kn J V k) X m)) 29 := m86.stp s21 (Nat.ne_of_lt (m86.lt))
          have m91 : Fx.Cel w20 b2 off2 m (Fx.rv .i64 X) := m87.stp s21 (Nat.ne_of_lt (m87.lt (by omega)))
          have b24 : Below w.heap.size w w20 := s21.below b23 b23.size b23.size
          have lg6 : w.heap.size ≤ g6 := by rw [eg6]; exact b23.size
          have ng6m89 : g1 ≠ g6 := by rw [eg6]; exact Nat.ne_of_lt (m85.lt)
          have ng6m90 : g5 ≠ g6 := by rw [eg6]; exact Nat.ne_of_lt (m86.lt)
          have ng6m91 : b2 ≠ g6 := by rw [eg6]; exact Nat.ne_of_lt (m87.lt (by omega))
          have tg6 : g6 < w20.heap.size := m88.lt
          clear eg6
          refine Fx.L.storeA (x := Fx.rv .u64 (fun _ => 0)) (y := Fx.rv .u64 (ofV (Kn J V k) (X i))) (by rfl) rfl rfl rfl rfl (fun _ _ => rfl) (by kernel_rfl) m88 (i := 0) (by omega) fun w21 m92 s22 z10 => ?_
          have m93 : Fx.Blk w21 g6 6 (Fx.rv .u64 (ofV (Kn J V k) (X i))) 29 := Fx.ovr_all m92
          have m94 : Fx.Blk w21 g1 36 (Fx.rv .u64 (Kn J V k)) 128 := m89.stp s22 (by omega)
          have m95 : Fx.Blk w21 g5 6 (Fx.rv .u64 (leastV (Kn J V k) X m)) 29 := m90.stp s22 (by omega)
          have m96 : Fx.Cel w21 b2 off2 m (Fx.rv .i64 X) := m91.stp s22 (by omega)
          have b25 : Below w.heap.size w w21 := s22.below b24 b24.size (by omega)
          refine Fx.L.nil ?_
          refine Fx.seqN ?_
          refine Fx.W.seq ?_
          refine Fx.W.list ?_
          refine Fx.L.val (v := .int .i64 (0)) (by rfl) (Fx.x_assign rfl rfl) rfl ?_
          refine Fx.L.nil ?_
          refine Fx.seqN ?_
          refine Fx.W.block ?_
          refine Fx.W.loop (fun f w_ => ∃ j : Nat, j ≤ 6 ∧ f 1 = .slice sa (m) (ca) ∧ f 5 = .pointer (some ⟨g1, 0, none⟩) ∧ f 12 = .pointer (some ⟨g5, 0, none⟩) ∧ f 13 = .int .i64 ((i : Int)) ∧ f 14 = .pointer (some ⟨g6, 0, none⟩) ∧ f 15 = .int .i64 ((j : Int)) ∧ Fx.Blk w_ g1 36 (Fx.rv .u64 (Kn J V k)) 128 ∧ Fx.Blk w_ g5 6 (Fx.rv .u64 (leastV (Kn J V k) X m)) 29 ∧ Fx.Blk w_ g6 6 (Fx.rv .u64 (ofV (Kn J V k) (X i))) 29 ∧ Below w.heap.size w w_) (fun f _ => (6 - (intOf (f 15)).toNat)) ⟨0, by omega, h14, h15, h16, (h17.trans (by first | rfl | exact congrArg (Value.int .i64) (by omega))), (by rfl), (by first | rfl | exact congrArg (Value.int .i64) (by omega)), m94, m95, m93, b25⟩ ?_
          rintro f4 w22 ⟨j, hj, h18, h19, h20, h21, h22, h23, m97, m98, m99, b26⟩
          refine Fx.W.seq ?_
          refine Fx.W.seq ?_
          refine Fx.W.list ?_
          refine Fx.L.val (v := .int .i64 ((j : Int))) (by rfl) (Fx.x_move rfl h23) rfl ?_
          by_cases c154 : (j : Int) < 6
          · refine Fx.L.val (v := .bool true) (by rfl) (Fx.x_lssT rfl rfl rfl c154) rfl ?_
            refine Fx.L.nil ?_
            refine Fx.seqN ?_
            refine Fx.W.cond (b := true) rfl (fun _ => ?_) (fun h => nomatch h)
            refine Fx.W.skip ?_
            refine Fx.seqN ?_
            refine Fx.W.seq ?_
            refine Fx.W.block ?_
            refine Fx.W.seq ?_
            -- region 30 draws
            refine Fx.W.quiet (fun v1 => ∃ q, v1 = World.drewN w22 q) (by kernel_rfl) (by kernel_rfl) ⟨1, rfl⟩ ?_
            refine Fx.Qt.val (v := .int .i64 ((j : Int))) (by rfl) (fun v1 hv1 => Fx.x_move rfl h23) rfl ?_
            refine Fx.Qt.val (v := .pointer (some ⟨g5, j, none⟩)) (by rfl) (fun v1 hv1 => Fx.x_index rfl h20 rfl Try.underlying29 (s := 1) (by kernel_rfl) (by omega) (by omega) (by omega)) rfl ?_
            refine Fx.Qt.val (v := .int .u64 ((leastV (Kn J V k) X m) j)) (by rfl) (fun v1 hv1 => Fx.x_load1 (x := Fx.rv .u64 (leastV (Kn J V k) X m)) rfl rfl (by kernel_rfl) (by obtain ⟨qd, rfl⟩ := hv1; exact m98.cel) (i := j) (by omega) (by omega) rfl) rfl ?_
            refine Fx.Qt.val (v := .int .i64 ((j : Int))) (by rfl) (fun v1 hv1 => Fx.x_move rfl h23) rfl ?_
            refine Fx.Qt.val (v := .pointer (some ⟨g6, j, none⟩)) (by rfl) (fun v1 hv1 => Fx.x_index rfl h22 rfl Try.underlying29 (s := 1) (by kernel_rfl) (by omega) (by omega) (by omega)) rfl ?_
            refine Fx.Qt.val (v := .int .u64 ((ofV (Kn J V k) (X i)) j)) (by rfl) (fun v1 hv1 => Fx.x_load1 (x := Fx.rv .u64 (ofV (Kn J V k) (X i))) rfl rfl (by kernel_rfl) (by obtain ⟨qd, rfl⟩ := hv1; exact m99.cel) (i := j) (by omega) (by omega) rfl) rfl ?_
            refine Fx.Qt.val (v := .bool false) (by rfl) (fun v1 hv1 => Fx.x_gtrF rfl rfl rfl (Int.not_lt.2 (least_le (Kn J V k) X (n := m) (i := i) j (by omega)))) rfl ?_
            refine Fx.Qt.nil ?_
            rintro _ ⟨qd, rfl⟩
            obtain ⟨wq3, ewq3⟩ : ∃ v1, v1 = World.drewN w22 qd := ⟨_, rfl⟩
            rw [← ewq3]
            have s23 : Fx.Stp w22.heap.size w22 wq3 := by rw [ewq3]; exact Fx.Stp.of_below (bdrN w22 qd)
            have m100 : Fx.Blk wq3 g1 36 (Fx.rv .u64 (Kn J V k)) 128 := m97.stp s23 (Nat.ne_of_lt m97.lt)
            have m101 : Fx.Blk wq3 g5 6 (Fx.rv .u64 (leastV (Kn J V k) X m)) 29 := m98.stp s23 (Nat.ne_of_lt m98.lt)
            have m102 : Fx.Blk wq3 g6 6 (Fx.rv .u64 (ofV (Kn J V k) (X i))) 29 := m99.stp s23 (Nat.ne_of_lt m99.lt)
            have b27 : Below w.heap.size w wq3 := s23.below b26 b26.size b26.size
            clear ewq3
            refine Fx.seqN ?_
            refine Fx.W.cond (b := false) rfl (fun h => nomatch h) (fun _ => ?_)
            refine Fx.W.skip ?_
            refine Fx.blkN ?_
            refine Fx.seqN ?_
            refine Fx.W.list ?_
            refine Fx.L.val (v := .int .i64 ((j : Int))) (by rfl) (Fx.x_move rfl h23) rfl ?_
            refine Fx.L.val (v := .int .i64 ((j : Int) + 1)) (by rfl) (Fx.x_add rfl rfl rfl (Fx.i64e (by omega) (by omega))) rfl ?_
            refine Fx.L.val (v := .int .i64 ((j : Int) + 1)) (by rfl) (Fx.x_assign rfl rfl) rfl ?_
            refine Fx.L.nil ?_
            refine Fx.lpN ⟨j + 1, by omega, h18, h19, h20, (h21.trans (by first | rfl | exact congrArg (Value.int .i64) (by omega))), h22, (by first | rfl | exact congrArg (Value.int .i64) (by omega)), m100, m101, m102, b27⟩ ?_
            show (6 - (intOf ((.int .i64 ((j : Int) + 1)))).toNat) < _
            simp only [h23, intOf]; omega
          · refine Fx.L.val (v := .bool false) (by rfl) (Fx.x_lssF rfl rfl rfl c154) rfl ?_
            refine Fx.L.nil ?_
            refine Fx.seqN ?_
            refine Fx.W.cond (b := false) rfl (fun h => nomatch h) (fun _ => ?_)
            refine Fx.W.exit ?_
            refine Fx.seqX ?_
            refine Fx.lpX ?_
            refine Fx.blkX ?_
            refine Fx.blkN ?_
            refine Fx.seqN ?_
            refine Fx.W.list ?_
            refine Fx.L.val (v := .int .i64 ((i : Int))) (by rfl) (Fx.x_move rfl h21) rfl ?_
            refine Fx.L.val (v := .int .i64 ((i : Int) + 1)) (by rfl) (Fx.x_add rfl rfl rfl (Fx.i64e (by omega) (by omega))) rfl ?_
            refine Fx.L.val (v := .int .i64 ((i : Int) + 1)) (by rfl) (Fx.x_assign rfl rfl) rfl ?_
            refine Fx.L.nil ?_
            refine Fx.lpN ⟨i + 1, by omega, h18, h19, h20, (by first | rfl | exact congrArg (Value.int .i64) (by omega)), m97, m98, b26⟩ ?_
            show (m - (intOf ((.int .i64 ((i : Int) + 1)))).toNat) < _
            simp only [h17, intOf]; omega
        · refine Fx.L.val (v := .bool false) (by rfl) (Fx.x_lssF rfl rfl rfl c144) rfl ?_
          refine Fx.L.nil ?_
          refine Fx.seqN ?_
          refine Fx.W.cond (b := false) rfl (fun h => nomatch h) (fun _ => ?_)
          refine Fx.W.exit ?_
          refine Fx.seqX ?_
          refine Fx.lpX ?_
          refine Fx.blkX ?_
          refine Fx.seqN ?_
          refine Fx.W.seq ?_
          refine Fx.W.list ?_
          refine Fx.L.call (by rfl) (Fx.r_call (args := []) rfl rfl Try.func15 rfl rfl) rfl ((works17_any _).mono ?_)
          rintro e w23 ⟨he, hb8⟩
          refine ⟨.bool true, by rw [he], ?_⟩
          clear he
          have s24 := Fx.Stp.of_below hb8
          have m103 : Fx.Blk w23 g1 36 (Fx.rv .u64 (Kn J V k)) 128 := m82.stp s24 (Nat.ne_of_lt (m82.lt))
          have m104 : Fx.Blk w23 g5 6 (Fx.rv .u64 (leastV (Kn J V k) X m)) 29 := m83.stp s24 (Nat.ne_of_lt (m83.lt))
          have b28 : Below w.heap.size w w23 := s24.below b22 b22.size b22.size
          refine Fx.L.val (v := .bool true) (by rfl) (Fx.x_assign rfl rfl) rfl ?_
          refine Fx.L.nil ?_
          refine Fx.seqN ?_
          refine Fx.W.ret ?_
          refine ⟨.bool true, Fx.retV1 Try.results3 (by exact rfl), ?_⟩
          exact ⟨rfl, b28⟩
end Go.Proofs.Ytolmkjepieoloaa
