/-
  What the proof of the law rests on, part 5: walks of functions, and plain laws; each says its conditions itself.
-/
import Derived.Test.YtkajcjefckjijaaZD4
set_option maxHeartbeats 1600000
set_option linter.unusedVariables false
set_option linter.unusedSimpArgs false
namespace Go.Proofs.Ytkajcjefckjijaa
open Go.RowKit Rt
open Fx (x_move x_assign x_field x_load1 x_conv x_indexS x_index x_leqF x_loadA x_len x_gtrF x_eqlF x_eqlT Lv sN Ln Ws Qv Wl Rp Wc Qs Wr Sb Lk Wk rV sR Rs Rn Rd Rk Wb Wx Wo WoE Wt Wone Qn Qcl Lcl Lbs Lap Lnw Lbx Stv cOs cOg sRf mRf gRf cRf oNl bGr WsJ Wro rv varr Blk ovr putI ev Stp ovr_all flat updV Mp run_loadV Cel fill_step ret0 Chg i64e Arr flat_cong cells_agg cells_one ChT ovr_ones jnN u64e appX fOne_out upd_all blkR blkN seqX blkX lpX lpN lpR retV2)
section
set_option linter.unusedVariables false
namespace Rt
section
variable {α : Type}
structure Kord (lt : α → α → Prop) (J : α → α → α) : Prop where
  irr : ∀ x, ¬ lt x x
  tr : ∀ x y z, lt x y → lt y z → lt x z
  le : ∀ x y z, lt x y → ¬ lt z y → ¬ lt y z → lt x z
  el : ∀ x y z, ¬ lt x y → ¬ lt y x → lt y z → lt x z
  jl : ∀ x y, ¬ lt x y → ¬ lt y x → ¬ lt (J x y) x ∧ ¬ lt x (J x y)
inductive Mg (lt : α → α → Prop) (bad : α → α → Prop) (J : α → α → α) : List α → List α → List α → Prop
  | nil (b : List α) : Mg lt bad J [] b b
  | nilr (x : α) (a : List α) : Mg lt bad J (x :: a) [] (x :: a)
  | l {x y : α} {a b q : List α} : lt x y → Mg lt bad J a (y :: b) q → Mg lt bad J (x :: a) (y :: b) (x :: q)
  | r {x y : α} {a b q : List α} : ¬ lt x y → lt y x → Mg lt bad J (x :: a) b q → Mg lt bad J (x :: a) (y :: b) (y :: q)
  | j {x y : α} {a b q : List α} : ¬ lt x y → ¬ lt y x → ¬ bad x y → Mg lt bad J a b q → Mg lt bad J (x :: a) (y :: b) (J x y :: q)
def Eqk (lt : α → α → Prop) (x y : α) : Prop := ¬ lt x y ∧ ¬ lt y x
def Srt (lt : α → α → Prop) (l : List α) : Prop := l.Pairwise lt
variable {lt : α → α → Prop} {bad : α → α → Prop} {J : α → α → α}
theorem Eqk.symm {x y : α} (h : Eqk lt x y) : Eqk lt y x := ⟨h.2, h.1⟩
theorem Kord.eq_tr (K : Kord lt J) {x y z : α} (h : Eqk lt x y) (h2 : Eqk lt y z) : Eqk lt x z := ⟨fun q => h2.1 (K.el y x z h.2 h.1 q), fun q => h2.2 (K.le z x y q h.2 h.1)⟩
theorem Srt.one (K : Kord lt J) {l : List α} (h : Srt lt l) {x y : α} (hx : x ∈ l) (hy : y ∈ l) (e : Eqk lt x y) : x = y := by
  induction l with
  | nil => cases hx
  | cons z l ih =>
    obtain ⟨h1, h2⟩ := List.pairwise_cons.1 h
    rcases List.mem_cons.1 hx with ex | hx2
    · rcases List.mem_cons.1 hy with ey | hy2
      · rw [ex, ey]
      · exact absurd (by rw [ex]; exact h1 y hy2) e.1
    · rcases List.mem_cons.1 hy with ey | hy2
      · exact absurd (by rw [ey]; exact h1 x hx2) e.2
      · exact ih h2 hx2 hy2
theorem Mg.mem (K : Kord lt J) {a b l : List α} (h : Mg lt bad J a b l) : Srt lt a → Srt lt b → Srt lt l ∧
    (∀ z, z ∈ l ↔ (z ∈ a ∧ ∀ y ∈ b, ¬ Eqk lt z y) ∨ (z ∈ b ∧ ∀ x ∈ a, ¬ Eqk lt x z) ∨ ∃ x ∈ a, ∃ y ∈ b, Eqk lt x y ∧ z = J x y) := by
  induction h with
  | nil b =>
    intro _ hb
    refine ⟨hb, fun z => ⟨fun h => .inr (.inl ⟨h, fun x hx => nomatch hx⟩), fun h => ?_⟩⟩
    rcases h with ⟨h, _⟩ | ⟨h, _⟩ | ⟨x, hx, _⟩
    · cases h
    · exact h
    · cases hx
  | nilr x a =>
    intro ha _
    refine ⟨ha, fun z => ⟨fun h => .inl ⟨h, fun y hy => nomatch hy⟩, fun h => ?_⟩⟩
    rcases h with ⟨h, _⟩ | ⟨h, _⟩ | ⟨x, _, y, hy, _⟩
    · exact h
    · cases h
    · cases hy
  | @l x y a b q hxy hq ih =>
    intro ha hb
    obtain ⟨a1, a2⟩ := List.pairwise_cons.1 ha
    obtain ⟨b1, b2⟩ := List.pairwise_cons.1 hb
    obtain ⟨s1, s2⟩ := ih a2 hb
    have hxb : ∀ y' ∈ y :: b, lt x y' := fun y' hy' => by
      rcases List.mem_cons.1 hy' with rfl | hy'
      · exact hxy
      · exact K.tr _ _ _ hxy (b1 _ hy')
    have hlow : ∀ z ∈ q, lt x z := fun z hz => by
      rcases (s2 z).1 hz with ⟨h, _⟩ | ⟨h, _⟩ | ⟨x', hx', y', hy', e, rfl⟩
      · exact a1 z h
      · exact hxb z h
      · exact K.le _ _ _ (a1 x' hx') (K.jl x' y' e.1 e.2).1 (K.jl x' y' e.1 e.2).2
    refine ⟨List.pairwise_cons.2 ⟨hlow, s1⟩, fun z => ?_⟩
    rw [List.mem_cons, s2 z]
    constructor
    · rintro (rfl | ⟨h, h2⟩ | ⟨h, h2⟩ | ⟨x', hx', y', hy', e, rfl⟩)
      · exact .inl ⟨List.mem_cons_self .., fun y' hy' e => e.1 (hxb y' hy')⟩
      · exact .inl ⟨List.mem_cons_of_mem _ h, h2⟩
      · exact .inr (.inl ⟨h, fun x' hx' e => by
          rcases List.mem_cons.1 hx' with rfl | hx'
          · exact e.1 (hxb z h)
          · exact h2 x' hx' e⟩)
      · exact .inr (.inr ⟨x', List.mem_cons_of_mem _ hx', y', hy', e, rfl⟩)
    · rintro (⟨h, h2⟩ | ⟨h, h2⟩ | ⟨x', hx', y', hy', e, rfl⟩)
      · rcases List.mem_cons.1 h with rfl | h
        · exact .inl rfl
        · exact .inr (.inl ⟨h, h2⟩)
      · exact .inr (.inr (.inl ⟨h, fun x' hx' => h2 x' (List.mem_cons_of_mem _ hx')⟩))
      · rcases List.mem_cons.1 hx' with rfl | hx'
        · exact absurd (hxb y' hy') e.1
        · exact .inr (.inr (.inr ⟨x', hx', y', hy', e, rfl⟩))
  | @r x y a b q hxy hyx hq ih =>
    intro ha hb
    obtain ⟨a1, a2⟩ := List.pairwise_cons.1 ha
    obtain ⟨b1, b2⟩ := List.pairwise_cons.1 hb
    obtain ⟨s1, s2⟩ := ih ha b2
    have hya : ∀ x' ∈ x :: a, lt y x' := fun x' hx' => by
      rcases List.mem_cons.1 hx' with rfl | hx'
      · exact hyx
      · exact K.tr _ _ _ hyx (a1 _ hx')
    have hlow : ∀ z ∈ q, lt y z := fun z hz => by
      rcases (s2 z).1 hz with ⟨h, _⟩ | ⟨h, _⟩ | ⟨x', hx', y', hy', e, rfl⟩
      · exact hya z h
      · exact b1 z h
      · exact K.le _ _ _ (hya x' hx') (K.jl x' y' e.1 e.2).1 (K.jl x' y' e.1 e.2).2
    refine ⟨List.pairwise_cons.2 ⟨hlow, s1⟩, fun z => ?_⟩
    rw [List.mem_cons, s2 z]
    constructor
    · rintro (rfl | ⟨h, h2⟩ | ⟨h, h2⟩ | ⟨x', hx', y', hy', e, rfl⟩)
      · exact .inr (.inl ⟨List.mem_cons_self .., fun x' hx' e => e.2 (hya x' hx')⟩)
      · exact .inl ⟨h, fun y' hy' e => by
          rcases List.mem_cons.1 hy' with rfl | hy'
          · exact e.2 (hya z h)
          · exact h2 y' hy' e⟩
      · exact .inr (.inl ⟨List.mem_cons_of_mem _ h, h2⟩)
      · exact .inr (.inr ⟨x', hx', y', List.mem_cons_of_mem _ hy', e, rfl⟩)
    · rintro (⟨h, h2⟩ | ⟨h, h2⟩ | ⟨x', hx', y', hy', e, rfl⟩)
      · exact .inr (.inl ⟨h, fun y' hy' => h2 y' (List.mem_cons_of_mem _ hy')⟩)
      · rcases List.mem_cons.1 h with rfl | h
        · exact .inl rfl
        · exact .inr (.inr (.inl ⟨h, h2⟩))
      · rcases List.mem_cons.1 hy' with rfl | hy'
        · exact absurd (hya x' hx') e.2
        · exact .inr (.inr (.inr ⟨x', hx', y', hy', e, rfl⟩))
  | @j x y a b q hxy hyx hbad hq ih =>
    intro ha hb
    obtain ⟨a1, a2⟩ := List.pairwise_cons.1 ha
    obtain ⟨b1, b2⟩ := List.pairwise_cons.1 hb
    obtain ⟨s1, s2⟩ := ih a2 b2
    have e0 : Eqk lt x y := ⟨hxy, hyx⟩
    have j0 := K.jl x y hxy hyx
    have jx : Eqk lt (J x y) x := j0
    have xb : ∀ y' ∈ b, lt x y' := fun y' hy' => K.el x y y' hxy hyx (b1 y' hy')
    have ya : ∀ x' ∈ a, lt y x' := fun x' hx' => K.el y x x' hyx hxy (a1 x' hx')
    have hlow : ∀ z ∈ q, lt (J x y) z := fun z hz => by
      refine K.el _ x z j0.1 j0.2 ?_
      rcases (s2 z).1 hz with ⟨h, _⟩ | ⟨h, _⟩ | ⟨x', hx', y', hy', e, rfl⟩
      · exact a1 z h
      · exact xb z h
      · exact K.le _ _ _ (a1 x' hx') (K.jl x' y' e.1 e.2).1 (K.jl x' y' e.1 e.2).2
    refine ⟨List.pairwise_cons.2 ⟨hlow, s1⟩, fun z => ?_⟩
    rw [List.mem_cons, s2 z]
    constructor
    · rintro (rfl | ⟨h, h2⟩ | ⟨h, h2⟩ | ⟨x', hx', y', hy', e, rfl⟩)
      · exact .inr (.inr ⟨x, List.mem_cons_self .., y, List.mem_cons_self .., e0, rfl⟩)
      · exact .inl ⟨List.mem_cons_of_mem _ h, fun y' hy' e => by
          rcases List.mem_cons.1 hy' with rfl | hy'
          · exact e.2 (ya z h)
          · exact h2 y' hy' e⟩
      · exact .inr (.inl ⟨List.mem_cons_of_mem _ h, fun x' hx' e => by
          rcases List.mem_cons.1 hx' with rfl | hx'
          · exact e.1 (xb z h)
          · exact h2 x' hx' e⟩)
      · exact .inr (.inr ⟨x', List.mem_cons_of_mem _ hx', y', List.mem_cons_of_mem _ hy', e, rfl⟩)
    · rintro (⟨h, h2⟩ | ⟨h, h2⟩ | ⟨x', hx', y', hy', e, rfl⟩)
      · rcases List.mem_cons.1 h with rfl | h
        · exact absurd e0 (h2 y (List.mem_cons_self ..))
        · exact .inr (.inl ⟨h, fun y' hy' => h2 y' (List.mem_cons_of_mem _ hy')⟩)
      · rcases List.mem_cons.1 h with rfl | h
        · exact absurd e0 (h2 x (List.mem_cons_self ..))
        · exact .inr (.inr (.inl ⟨h, fun x' hx' => h2 x' (List.mem_cons_of_mem _ hx')⟩))
      · rcases List.mem_cons.1 hx' with rfl | hx'
        · rcases List.mem_cons.1 hy' with rfl | hy'
          · exact .inl rfl
          · exact absurd (xb y' hy') e.1
        · rcases List.mem_cons.1 hy' with rfl | hy'
          · exact absurd (ya x' hx') e.2
          · exact .inr (.inr (.inr ⟨x', hx', y', hy', e, rfl⟩))
theorem Srt.ext (K : Kord lt J) : ∀ {a b : List α}, Srt lt a → Srt lt b → (∀ z, z ∈ a ↔ z ∈ b) → a = b
  | [], [], _, _, _ => rfl
  | [], y :: b, _, _, h => by have := (h y).2 (List.mem_cons_self ..); cases this
  | x :: a, [], _, _, h => by have := (h x).1 (List.mem_cons_self ..); cases this
  | x :: a, y :: b, ha, hb, h => by
    obtain ⟨a1, a2⟩ := List.pairwise_cons.1 ha
    obtain ⟨b1, b2⟩ := List.pairwise_cons.1 hb
    have e : x = y := by
      rcases List.mem_cons.1 ((h x).1 (List.mem_cons_self ..)) with e | hx
      · exact e
      · rcases List.mem_cons.1 ((h y).2 (List.mem_cons_self ..)) with e | hy
        · exact e.symm
        · exact absurd (K.tr _ _ _ (a1 y hy) (b1 x hx)) (K.irr x)
    subst e
    rw [Srt.ext K a2 b2 fun z => ⟨fun hz => ?_, fun hz => ?_⟩]
    · rcases List.mem_cons.1 ((h z).1 (List.mem_cons_of_mem _ hz)) with e | hz2
      · exact absurd (e ▸ a1 z hz) (K.irr x)
      · exact hz2
    · rcases List.mem_cons.1 ((h z).2 (List.mem_cons_of_mem _ hz)) with e | hz2
      · exact absurd (e ▸ b1 z hz) (K.irr x)
      · exact hz2
end
end Rt
end
section
set_option linter.unusedVariables false
namespace Rt
section
variable {α : Type} {lt : α → α → Prop} {bad : α → α → Prop} {J : α → α → α}
theorem Mg.nb (K : Kord lt J) {a b l : List α} (h : Mg lt bad J a b l) : Srt lt a → Srt lt b → ∀ x ∈ a, ∀ y ∈ b, Eqk lt x y → ¬ bad x y := by
  induction h with
  | nil b => intro _ _ x hx; cases hx
  | nilr x a => intro _ _ x _ y hy; cases hy
  | @l x y a b q hxy hq ih =>
    intro ha hb x' hx' y' hy' e
    obtain ⟨a1, a2⟩ := List.pairwise_cons.1 ha
    obtain ⟨b1, b2⟩ := List.pairwise_cons.1 hb
    rcases List.mem_cons.1 hx' with ex | hx2
    · refine absurd ?_ e.1
      rw [ex]
      rcases List.mem_cons.1 hy' with ey | hy2
      · rw [ey]; exact hxy
      · exact K.tr _ _ _ hxy (b1 _ hy2)
    · exact ih a2 hb x' hx2 y' hy' e
  | @r x y a b q hxy hyx hq ih =>
    intro ha hb x' hx' y' hy' e
    obtain ⟨a1, a2⟩ := List.pairwise_cons.1 ha
    obtain ⟨b1, b2⟩ := List.pairwise_cons.1 hb
    rcases List.mem_cons.1 hy' with ey | hy2
    · refine absurd ?_ e.2
      rw [ey]
      rcases List.mem_cons.1 hx' with ex | hx2
      · rw [ex]; exact hyx
      · exact K.tr _ _ _ hyx (a1 _ hx2)
    · exact ih ha b2 x' hx' y' hy2 e
  | @j x y a b q hxy hyx hbad hq ih =>
    intro ha hb x' hx' y' hy' e
    obtain ⟨a1, a2⟩ := List.pairwise_cons.1 ha
    obtain ⟨b1, b2⟩ := List.pairwise_cons.1 hb
    rcases List.mem_cons.1 hx' with ex | hx2
    · rcases List.mem_cons.1 hy' with ey | hy2
      · rw [ex, ey]; exact hbad
      · rw [ex] at e; exact absurd (K.el x y y' hxy hyx (b1 y' hy2)) e.1
    · rcases List.mem_cons.1 hy' with ey | hy2
      · rw [ey] at e; exact absurd (K.el y x x' hyx hxy (a1 x' hx2)) e.2
      · exact ih a2 b2 x' hx2 y' hy2 e
end
def ltN (x y : NdM) : Prop := x.id < y.id
def badN (x y : NdM) : Prop := x.par ≠ y.par
theorem kN : Kord ltN ndJ := ⟨fun x => by unfold ltN; omega, fun x y z h1 h2 => by unfold ltN at *; omega, fun x y z h1 h2 h3 => by unfold ltN at *; omega, fun x y z h1 h2 h3 => by unfold ltN at *; omega, fun x y _ _ => ⟨Int.lt_irrefl _, Int.lt_irrefl _⟩⟩
theorem kG : Kord grLt grJ := ⟨grLt_irr, fun x y z h1 h2 => by unfold grLt at *; omega, fun x y z h1 h2 h3 => by unfold grLt at *; omega, fun x y z h1 h2 h3 => by unfold grLt at *; omega, fun x y _ _ => ⟨grLt_irr x, grLt_irr x⟩⟩
theorem mgN {a b l : List NdM} (h : mergeN a b = some l) : Mg ltN badN ndJ a b l := by
  induction a, b using mergeN.induct generalizing l with
  | case1 b => rw [mergeN] at h; cases h; exact .nil _
  | case2 x a => rw [mergeN] at h; cases h; exact .nilr _ _
  | case3 x a y b c ih => rw [mergeN, if_pos c] at h; obtain ⟨q, hq, rfl⟩ := Option.map_eq_some_iff.1 h; exact .l c (ih hq)
  | case4 x a y b c c2 ih => rw [mergeN, if_neg c, if_pos c2] at h; obtain ⟨q, hq, rfl⟩ := Option.map_eq_some_iff.1 h; exact .r c c2 (ih hq)
  | case5 x a y b c c2 c3 => rw [mergeN, if_neg c, if_neg c2, if_pos c3] at h; cases h
  | case6 x a y b c c2 c3 ih => rw [mergeN, if_neg c, if_neg c2, if_neg c3] at h; obtain ⟨q, hq, rfl⟩ := Option.map_eq_some_iff.1 h; exact .j c c2 c3 (ih hq)
theorem mgG {a b l : List GrM} (h : mergeG a b = some l) : Mg grLt GrBad grJ a b l := by
  induction a, b using mergeG.induct generalizing l with
  | case1 b => rw [mergeG] at h; cases h; exact .nil _
  | case2 x a => rw [mergeG] at h; cases h; exact .nilr _ _
  | case3 x a y b c ih => rw [mergeG, if_pos c] at h; obtain ⟨q, hq, rfl⟩ := Option.map_eq_some_iff.1 h; exact .l c (ih hq)
  | case4 x a y b c c2 ih => rw [mergeG, if_neg c, if_pos c2] at h; obtain ⟨q, hq, rfl⟩ := Option.map_eq_some_iff.1 h; exact .r c c2 (ih hq)
  | case5 x a y b c c2 c3 => rw [mergeG, if_neg c, if_neg c2, if_pos c3] at h; cases h
  | case6 x a y b c c2 c3 ih => rw [mergeG, if_neg c, if_neg c2, if_neg c3] at h; obtain ⟨q, hq, rfl⟩ := Option.map_eq_some_iff.1 h; exact .j c c2 c3 (ih hq)
theorem mN_ex (a b : List NdM) (h : ∀ x ∈ a, ∀ y ∈ b, Eqk ltN x y → ¬ badN x y) : ∃ l, mergeN a b = some l := by
  induction a, b using mergeN.induct with
  | case1 b => exact ⟨_, mN_end (.inl rfl)⟩
  | case2 x a => exact ⟨_, mN_end (.inr rfl)⟩
  | case3 x a y b c ih =>
    obtain ⟨l, hl⟩ := ih fun x' hx' y' hy' => h x' (List.mem_cons_of_mem _ hx') y' hy'
    exact ⟨_, by rw [mergeN, if_pos c, hl]; rfl⟩
  | case4 x a y b c c2 ih =>
    obtain ⟨l, hl⟩ := ih fun x' hx' y' hy' => h x' hx' y' (List.mem_cons_of_mem _ hy')
    exact ⟨_, by rw [mergeN, if_neg c, if_pos c2, hl]; rfl⟩
  | case5 x a y b c c2 c3 => exact absurd c3 (h x (List.mem_cons_self ..) y (List.mem_cons_self ..) ⟨c, c2⟩)
  | case6 x a y b c c2 c3 ih =>
    obtain ⟨l, hl⟩ := ih fun x' hx' y' hy' => h x' (List.mem_cons_of_mem _ hx') y' (List.mem_cons_of_mem _ hy')
    exact ⟨_, by rw [mergeN, if_neg c, if_neg c2, if_neg c3, hl]; rfl⟩
theorem mG_ex (a b : List GrM) (h : ∀ x ∈ a, ∀ y ∈ b, Eqk grLt x y → ¬ GrBad x y) : ∃ l, mergeG a b = some l := by
  induction a, b using mergeG.induct with
  | case1 b => exact ⟨_, mG_end (.inl rfl)⟩
  | case2 x a => exact ⟨_, mG_end (.inr rfl)⟩
  | case3 x a y b c ih =>
    obtain ⟨l, hl⟩ := ih fun x' hx' y' hy' => h x' (List.mem_cons_of_mem _ hx') y' hy'
    exact ⟨_, by rw [mergeG, if_pos c, hl]; rfl⟩
  | case4 x a y b c c2 ih =>
    obtain ⟨l, hl⟩ := ih fun x' hx' y' hy' => h x' hx' y' (List.mem_cons_of_mem _ hy')
    exact ⟨_, by rw [mergeG, if_neg c, if_pos c2, hl]; rfl⟩
  | case5 x a y b c c2 c3 => exact absurd c3 (h x (List.mem_cons_self ..) y (List.mem_cons_self ..) ⟨c, c2⟩)
  | case6 x a y b c c2 c3 ih =>
    obtain ⟨l, hl⟩ := ih fun x' hx' y' hy' => h x' (List.mem_cons_of_mem _ hx') y' (List.mem_cons_of_mem _ hy')
    exact ⟨_, by rw [mergeG, if_neg c, if_neg c2, if_neg c3, hl]; rfl⟩
theorem MayP.sn {m : SnM} (h : MayP m) : Srt ltN m.ns := List.pairwise_iff_getElem.2 fun i j hi hj hij => by
  have := rise_lt h.nr hij hj
  unfold ndA at this
  rwa [List.getD_eq_getElem?_getD, List.getD_eq_getElem?_getD, List.getElem?_eq_getElem hi, List.getElem?_eq_getElem hj] at this
theorem grise_lt {l : List GrM} (h : ∀ k, k + 1 < l.length → grLt (grA l k) (grA l (k + 1))) : ∀ {j i : Nat}, i < j → j < l.length → grLt (grA l i) (grA l j)
  | 0, _, h1, _ => absurd h1 (Nat.not_lt_zero _)
  | j + 1, i, h1, h2 => by
    have h3 := h j h2
    by_cases e : i = j
    · rw [e]; exact h3
    · exact kG.tr _ _ _ (grise_lt h (show i < j by omega) (by omega)) h3
theorem MayP.sg {m : SnM} (h : MayP m) : Srt grLt m.gs := List.pairwise_iff_getElem.2 fun i j hi hj hij => by
  have := grise_lt h.gr hij hj
  unfold grA at this
  rwa [List.getD_eq_getElem?_getD, List.getD_eq_getElem?_getD, List.getElem?_eq_getElem hi, List.getElem?_eq_getElem hj] at this
end Rt
end
set_option linter.unusedVariables false
set_option maxRecDepth 20000
namespace Rt
theorem sameS_self (u : SnM) : sameS u u = true := sameS_y (same_self u)
end Rt
section
set_option linter.unusedVariables false
namespace Rt
section
variable {α : Type} {lt : α → α → Prop} {bad : α → α → Prop} {J : α → α → α} {d : α}
structure Acc (lt : α → α → Prop) (bad : α → α → Prop) (J : α → α → α) (d : α) (a b : List α) (i : Nat) (al : List α) : Prop where
  mem : ∀ z, z ∈ al ↔ (z ∈ a ∧ ∀ y ∈ b.take i, ¬ Eqk lt z y) ∨ (z ∈ b.take i ∧ ∀ x ∈ a, ¬ Eqk lt x z) ∨ ∃ x ∈ a, ∃ y ∈ b.take i, Eqk lt x y ∧ z = J x y
  key : ∀ k, k < a.length → Eqk lt (al.getD k d) (a.getD k d)
  ge : a.length ≤ al.length
  le : al.length ≤ a.length + i
  nd : al.Pairwise fun x y => ¬ Eqk lt x y
  ok : ∀ x ∈ a, ∀ y ∈ b.take i, Eqk lt x y → ¬ bad x y
theorem getD_mem {l : List α} {k : Nat} (h : k < l.length) : l.getD k d ∈ l := by
  rw [List.getD_eq_getElem?_getD, List.getElem?_eq_getElem h]; exact List.getElem_mem h
theorem mem_getD {l : List α} {x : α} (h : x ∈ l) : ∃ k, k < l.length ∧ l.getD k d = x := by
  obtain ⟨k, hk, e⟩ := List.mem_iff_getElem.1 h
  exact ⟨k, hk, by rw [List.getD_eq_getElem?_getD, List.getElem?_eq_getElem hk]; exact e⟩
theorem getD_set {l : List α} {j k : Nat} {x : α} (h : j < l.length) : (l.set j x).getD k d = if j = k then x else l.getD k d := by
  rw [List.getD_eq_getElem?_getD, List.getD_eq_getElem?_getD, List.getElem?_set]
  by_cases e : j = k
  · rw [if_pos e, if_pos e, if_pos h]; rfl
  rw [if_neg e, if_neg e]
theorem take_one {l : List α} {i : Nat} (h : i < l.length) : l.take (i + 1) = l.take i ++ [l.getD i d] := by
  rw [List.take_add_one, List.getElem?_eq_getElem h, List.getD_eq_getElem?_getD, List.getElem?_eq_getElem h]; rfl
theorem mem_take1 {l : List α} {i : Nat} {z : α} (h : i < l.length) : z ∈ l.take (i + 1) ↔ z ∈ l.take i ∨ z = l.getD i d := by
  rw [take_one (d := d) h, List.mem_append, List.mem_singleton]
theorem pw_getD {R : α → α → Prop} {l : List α} : l.Pairwise R ↔ ∀ p q, p < q → q < l.length → R (l.getD p d) (l.getD q d) := by
  rw [List.pairwise_iff_getElem]
  constructor
  · intro h p q hpq hq
    have := h p q (by omega) hq hpq
    rw [List.getD_eq_getElem?_getD, List.getD_eq_getElem?_getD, List.getElem?_eq_getElem hq, List.getElem?_eq_getElem (show p < l.length by omega)]; exact this
  intro h p q hp hq hpq
  have := h p q hpq hq
  rw [List.getD_eq_getElem?_getD, List.getD_eq_getElem?_getD, List.getElem?_eq_getElem hq, List.getElem?_eq_getElem hp] at this; exact this
theorem Eqk.refl (K : Kord lt J) (x : α) : Eqk lt x x := ⟨K.irr x, K.irr x⟩
theorem Acc.zero (K : Kord lt J) {a b : List α} (ha : Srt lt a) : Acc lt bad J d a b 0 a :=
  ⟨fun z => ⟨fun h => .inl ⟨h, fun y hy => by rw [List.take_zero] at hy; cases hy⟩, fun h => by
      rcases h with ⟨h, _⟩ | ⟨h, _⟩ | ⟨x, _, y, hy, _⟩
      · exact h
      · rw [List.take_zero] at h; cases h
      · rw [List.take_zero] at hy; cases hy⟩,
    fun k _ => Eqk.refl K _, Nat.le_refl _, Nat.le_refl _, ha.imp fun h e => e.1 h, fun x _ y hy => by rw [List.take_zero] at hy; cases hy⟩
theorem fresh_b (K : Kord lt J) {b : List α} (hb : Srt lt b) {i : Nat} (hi : i < b.length) {y : α} (hy : y ∈ b.take i) : lt y (b.getD i d) := by
  have h := hb
  rw [Srt, pw_getD (d := d)] at h
  obtain ⟨k, hk, e⟩ := mem_getD (d := d) hy
  rw [List.length_take] at hk
  have := h k i (by omega) hi
  rw [← e, List.getD_eq_getElem?_getD, List.getElem?_take, if_pos (by omega), ← List.getD_eq_getElem?_getD]; exact this
theorem Acc.keyIn (K : Kord lt J) {a b al : List α} {i : Nat} (h : Acc lt bad J d a b i al) {z : α} (hz : z ∈ al) : (∃ x ∈ a, Eqk lt z x) ∨ (∃ y ∈ b.take i, Eqk lt z y) := by
  rcases (h.mem z).1 hz with ⟨h, _⟩ | ⟨h, _⟩ | ⟨x, hx, y, hy, e, rfl⟩
  · exact .inl ⟨z, h, Eqk.refl K z⟩
  · exact .inr ⟨z, h, Eqk.refl K z⟩
  have := K.jl x y e.1 e.2; exact .inl ⟨x, hx, this.1, this.2⟩
theorem Acc.snoc (K : Kord lt J) {a b al : List α} {i : Nat} (h : Acc lt bad J d a b i al) (hb : Srt lt b) (hi : i < b.length) (hn : ∀ x ∈ a, ¬ Eqk lt x (b.getD i d)) : Acc lt bad J d a b (i + 1) (al ++ [b.getD i d]) := by
  refine ⟨fun z => ?_, fun k hk => ?_, ?_, ?_, ?_, ?_⟩
  · rw [List.mem_append, List.mem_singleton, h.mem z, mem_take1 (d := d) hi]
    constructor
    · rintro ((⟨h1, h2⟩ | ⟨h1, h2⟩ | ⟨x, hx, y, hy, e, rfl⟩) | rfl)
      · exact .inl ⟨h1, fun y hy => ((mem_take1 (d := d) hi).1 hy).elim (h2 y) fun q => q ▸ hn z h1⟩
      · exact .inr (.inl ⟨.inl h1, h2⟩)
      · exact .inr (.inr ⟨x, hx, y, (mem_take1 (d := d) hi).2 (.inl hy), e, rfl⟩)
      exact .inr (.inl ⟨.inr rfl, hn⟩)
    rintro (⟨h1, h2⟩ | ⟨h1, h2⟩ | ⟨x, hx, y, hy, e, rfl⟩)
    · exact .inl (.inl ⟨h1, fun y hy => h2 y ((mem_take1 (d := d) hi).2 (.inl hy))⟩)
    · rcases h1 with h1 | h1
      · exact .inl (.inr (.inl ⟨h1, h2⟩))
      exact .inr h1
    rcases (mem_take1 (d := d) hi).1 hy with hy | hy
    · exact .inl (.inr (.inr ⟨x, hx, y, hy, e, rfl⟩))
    exact absurd (hy ▸ e) (hn x hx)
  · have := h.ge
    have e : (al ++ [b.getD i d]).getD k d = al.getD k d := by rw [List.getD_eq_getElem?_getD, List.getElem?_append_left (by omega), ← List.getD_eq_getElem?_getD]
    rw [e]; exact h.key k hk
  · rw [List.length_append]; exact Nat.le_trans h.ge (Nat.le_add_right _ _)
  · rw [List.length_append, List.length_singleton]; have := h.le; omega
  · rw [List.pairwise_append]
    refine ⟨h.nd, List.pairwise_singleton _ _, fun x hx y hy e => ?_⟩
    rw [List.mem_singleton] at hy; subst hy
    rcases h.keyIn K hx with ⟨z, hz, ez⟩ | ⟨z, hz, ez⟩
    · exact hn z hz (K.eq_tr ez.symm e)
    exact (K.eq_tr ez.symm e).1 (fresh_b K hb hi hz)
  intro x hx y hy e
  rcases (mem_take1 (d := d) hi).1 hy with hy | hy
  · exact h.ok x hx y hy e
  exact absurd (hy ▸ e) (hn x hx)
theorem Acc.inj (K : Kord lt J) {a b al : List α} {i : Nat} (h : Acc lt bad J d a b i al) {z u : α} (hz : z ∈ al) (hu : u ∈ al) (e : Eqk lt z u) : z = u := by
  have hp := h.nd
  obtain ⟨p, hp1, ep⟩ := mem_getD (d := d) hz
  obtain ⟨q, hq1, eq⟩ := mem_getD (d := d) hu
  rw [pw_getD (d := d)] at hp
  rcases Nat.lt_trichotomy p q with c | c | c
  · exact absurd (by rw [ep, eq]; exact e) (hp p q c hq1)
  · rw [← ep, ← eq, c]
  exact absurd (by rw [ep, eq]; exact e.symm) (hp q p c hp1)
theorem Acc.at (K : Kord lt J) {a b al : List α} {i k : Nat} (h : Acc lt bad J d a b i al) (ha : Srt lt a) (hb : Srt lt b) (hi : i < b.length) (hk : k < a.length) (e : Eqk lt (a.getD k d) (b.getD i d)) : al.getD k d = a.getD k d := by
  have hka : a.getD k d ∈ a := getD_mem hk
  have hin : a.getD k d ∈ al := (h.mem _).2 (.inl ⟨hka, fun y hy q => (K.eq_tr q.symm e).1 (fresh_b K hb hi hy)⟩)
  exact h.inj K (getD_mem (Nat.lt_of_lt_of_le hk h.ge)) hin (h.key k hk)
theorem Acc.set (K : Kord lt J) {a b al : List α} {i k : Nat} (h : Acc lt bad J d a b i al) (ha : Srt lt a) (hb : Srt lt b) (hi : i < b.length) (hk : k < a.length) (e : Eqk lt (a.getD k d) (b.getD i d)) (nb : ¬ bad (a.getD k d) (b.getD i d)) : Acc lt bad J d a b (i + 1) (al.set k (J (a.getD k d) (b.getD i d))) := by
  have hkl : k < al.length := Nat.lt_of_lt_of_le hk h.ge
  have hka : a.getD k d ∈ a := getD_mem hk
  have hat := h.at K ha hb hi hk e
  have hj := K.jl _ _ e.1 e.2
  have hrow : ∀ z, z ∈ al.set k (J (a.getD k d) (b.getD i d)) ↔ (z ∈ al ∧ z ≠ a.getD k d) ∨ z = J (a.getD k d) (b.getD i d) := fun z => by
    constructor
    · intro hz
      obtain ⟨p, hp, ep⟩ := mem_getD (d := d) hz
      rw [List.length_set] at hp
      rw [getD_set hkl] at ep
      by_cases c : k = p
      · rw [if_pos c] at ep; exact .inr ep.symm
      · rw [if_neg c] at ep
        refine .inl ⟨ep ▸ getD_mem hp, fun q => ?_⟩
        have hp2 := h.nd
        rw [pw_getD (d := d)] at hp2
        have e2 : Eqk lt (al.getD p d) (al.getD k d) := by rw [ep, hat, q]; exact Eqk.refl K _
        rcases Nat.lt_or_ge p k with g | g
        · exact hp2 p k g hkl e2
        · exact hp2 k p (by omega) hp e2.symm
    · rintro (⟨hz, hne⟩ | rfl)
      · obtain ⟨p, hp, ep⟩ := mem_getD (d := d) hz
        have c : k ≠ p := fun q => hne (by rw [← ep, ← q, hat])
        have : (al.set k (J (a.getD k d) (b.getD i d))).getD p d = z := by rw [getD_set hkl, if_neg c]; exact ep
        rw [← this]; exact getD_mem (by rw [List.length_set]; exact hp)
      · have : (al.set k (J (a.getD k d) (b.getD i d))).getD k d = J (a.getD k d) (b.getD i d) := by rw [getD_set hkl, if_pos rfl]
        have hin := getD_mem (d := d) (l := al.set k (J (a.getD k d) (b.getD i d))) (k := k) (by rw [List.length_set]; exact hkl)
        rw [this] at hin; exact hin
  refine ⟨fun z => ?_, fun p hp => ?_, by rw [List.length_set]; exact h.ge, by rw [List.length_set]; have := h.le; omega, ?_, ?_⟩
  · rw [hrow z, h.mem z]
    constructor
    · rintro (⟨h1, hne⟩ | rfl)
      · rcases h1 with ⟨h1, h2⟩ | ⟨h1, h2⟩ | ⟨x, hx, y, hy, e1, rfl⟩
        · refine .inl ⟨h1, fun y hy q => ?_⟩
          rcases (mem_take1 (d := d) hi).1 hy with hy | hy
          · exact h2 y hy q
          exact hne (ha.one K h1 hka (K.eq_tr (hy ▸ q) e.symm))
        · exact .inr (.inl ⟨(mem_take1 (d := d) hi).2 (.inl h1), h2⟩)
        exact .inr (.inr ⟨x, hx, y, (mem_take1 (d := d) hi).2 (.inl hy), e1, rfl⟩)
      exact .inr (.inr ⟨_, hka, _, (mem_take1 (d := d) hi).2 (.inr rfl), e, rfl⟩)
    rintro (⟨h1, h2⟩ | ⟨h1, h2⟩ | ⟨x, hx, y, hy, e1, rfl⟩)
    · refine .inl ⟨.inl ⟨h1, fun y hy => h2 y ((mem_take1 (d := d) hi).2 (.inl hy))⟩, fun q => ?_⟩
      exact h2 _ ((mem_take1 (d := d) hi).2 (.inr rfl)) (q ▸ e)
    · rcases (mem_take1 (d := d) hi).1 h1 with h1 | h1
      · refine .inl ⟨.inr (.inl ⟨h1, h2⟩), fun q => ?_⟩
        exact h2 _ hka (q ▸ Eqk.refl K _)
      exact absurd (h1 ▸ e) (h2 _ hka)
    rcases (mem_take1 (d := d) hi).1 hy with hy | hy
    · refine .inl ⟨.inr (.inr ⟨x, hx, y, hy, e1, rfl⟩), fun q => ?_⟩
      have hjx := K.jl x y e1.1 e1.2
      have ex : Eqk lt x (a.getD k d) := by rw [← q]; exact ⟨hjx.2, hjx.1⟩
      exact (K.eq_tr e1.symm (K.eq_tr ex e)).1 (fresh_b K hb hi hy)
    subst hy
    exact .inr (by rw [ha.one K hx hka (K.eq_tr e1 e.symm)])
  · rw [getD_set hkl]
    by_cases c : k = p
    · rw [if_pos c, ← c]; exact ⟨hj.1, hj.2⟩
    rw [if_neg c]; exact h.key p hp
  · rw [pw_getD (d := d)]
    intro p q hpq hq
    rw [List.length_set] at hq
    have hp2 := h.nd
    rw [pw_getD (d := d)] at hp2
    rw [getD_set hkl, getD_set hkl]
    have hje : ∀ z, Eqk lt (J (a.getD k d) (b.getD i d)) z → Eqk lt (al.getD k d) z := fun z hz => by rw [hat]; exact K.eq_tr ⟨hj.2, hj.1⟩ hz
    by_cases c1 : k = p
    · rw [if_pos c1, if_neg (by omega)]; exact fun q9 => hp2 k q (by omega) hq (hje _ q9)
    by_cases c2 : k = q
    · rw [if_neg c1, if_pos c2]; exact fun q9 => hp2 p k (by omega) hkl (hje _ q9.symm).symm
    rw [if_neg c1, if_neg c2]; exact hp2 p q hpq hq
  intro x hx y hy e1
  rcases (mem_take1 (d := d) hi).1 hy with hy | hy
  · exact h.ok x hx y hy e1
  subst hy; rw [ha.one K hx hka (K.eq_tr e1 e.symm)]; exact nb
structure Sd (lt : α → α → Prop) (d : α) (al L : List α) (i : Nat) : Prop where
  pm : L.Perm al
  so : ∀ p q, p < q → q < i → ¬ lt (L.getD q d) (L.getD p d)
structure Dn (lt : α → α → Prop) (d : α) (al L : List α) (i k : Nat) : Prop where
  pm : L.Perm al
  so : ∀ p q, p < q → q ≤ i → q ≠ k → ¬ lt (L.getD q d) (L.getD p d)
def swp (d : α) (L : List α) (k : Nat) : List α := (L.set (k - 1) (L.getD k d)).set k (L.getD (k - 1) d)
theorem Sd.zero (al : List α) : Sd lt d al al 0 := ⟨List.Perm.refl _, fun _ _ _ h => absurd h (Nat.not_lt_zero _)⟩
theorem Sd.dn {al L : List α} {i : Nat} (h : Sd lt d al L i) : Dn lt d al L i i := ⟨h.pm, fun p q hpq hq hne => h.so p q hpq (by omega)⟩
theorem swp_len (L : List α) (k : Nat) : (swp d L k).length = L.length := by unfold swp; rw [List.length_set, List.length_set]
theorem swp_get {L : List α} {k p : Nat} (h0 : 0 < k) (hk : k < L.length) : (swp d L k).getD p d = if p = k then L.getD (k - 1) d else if p = k - 1 then L.getD k d else L.getD p d := by
  unfold swp
  rw [getD_set (by rw [List.length_set]; exact hk)]
  by_cases c : p = k
  · rw [if_pos c.symm, if_pos c]
  rw [if_neg (fun q => c q.symm), if_neg c, getD_set (by omega)]
  by_cases c2 : p = k - 1
  · rw [if_pos c2.symm, if_pos c2]
  rw [if_neg (fun q => c2 q.symm), if_neg c2]
theorem swp_perm {L : List α} {k : Nat} (h0 : 0 < k) (hk : k < L.length) : (swp d L k).Perm L := by
  have e1 : L.getD k d = L[k] := by rw [List.getD_eq_getElem?_getD, List.getElem?_eq_getElem hk]; rfl
  have e2 : L.getD (k - 1) d = L[k - 1] := by rw [List.getD_eq_getElem?_getD, List.getElem?_eq_getElem (show k - 1 < L.length by omega)]; rfl
  unfold swp
  rw [e1, e2]
  exact List.set_set_perm (by omega) hk
theorem Dn.step (K : Kord lt J) {al L : List α} {i k : Nat} (h : Dn lt d al L i k) (h0 : 0 < k) (hki : k ≤ i) (hi : i < L.length) (hlt : lt (L.getD k d) (L.getD (k - 1) d)) : Dn lt d al (swp d L k) i (k - 1) := by
  refine ⟨(swp_perm h0 (by omega)).trans h.pm, fun p q hpq hq hne => ?_⟩
  rw [swp_get h0 (by omega), swp_get h0 (by omega)]
  by_cases c1 : q = k
  · rw [if_pos c1, if_neg (by omega)]
    by_cases c2 : p = k - 1
    · rw [if_pos c2]; exact fun q9 => K.irr _ (K.tr _ _ _ hlt q9)
    rw [if_neg c2]; exact h.so p (k - 1) (by omega) (by omega) (by omega)
  rw [if_neg c1, if_neg hne]
  by_cases c3 : p = k
  · rw [if_pos c3]; exact h.so (k - 1) q (by omega) hq c1
  rw [if_neg c3]
  by_cases c4 : p = k - 1
  · rw [if_pos c4]; exact h.so k q (by omega) hq c1
  rw [if_neg c4]; exact h.so p q hpq hq c1
theorem Dn.out (K : Kord lt J) {al L : List α} {i k : Nat} (h : Dn lt d al L i k) (hki : k ≤ i) (hlt : k = 0 ∨ ¬ lt (L.getD k d) (L.getD (k - 1) d)) : Sd lt d al L (i + 1) := by
  refine ⟨h.pm, fun p q hpq hq => ?_⟩
  by_cases c : q = k
  · subst c
    have hn : ¬ lt (L.getD q d) (L.getD (q - 1) d) := hlt.resolve_left (by omega)
    by_cases c2 : p = q - 1
    · rw [c2]; exact hn
    have h2 := h.so p (q - 1) (by omega) (by omega) (by omega)
    intro q9
    by_cases c3 : lt (L.getD p d) (L.getD (q - 1) d)
    · exact hn (K.tr _ _ _ q9 c3)
    exact hn (K.le _ _ _ q9 h2 c3)
  exact h.so p q hpq (by omega) c
theorem Acc.done (K : Kord lt J) {a b al L l : List α} (h : Acc lt bad J d a b b.length al) (ha : Srt lt a) (hb : Srt lt b) (s : Sd lt d al L L.length) (m : Mg lt bad J a b l) : L = l := by
  obtain ⟨sl, hl⟩ := m.mem K ha hb
  have hin : ∀ z, z ∈ L ↔ z ∈ l := fun z => by
    have := h.mem z
    rw [List.take_length] at this
    rw [s.pm.mem_iff, this, hl z]
  have nd2 : L.Pairwise fun x y => ¬ Eqk lt x y := (s.pm.pairwise_iff fun h1 h2 => h1 h2.symm).2 h.nd
  have sL : Srt lt L := by
    rw [Srt, pw_getD (d := d)]
    rw [pw_getD (d := d)] at nd2
    intro p q hpq hq
    exact Classical.byContradiction fun c => nd2 p q hpq hq ⟨c, s.so p q hpq hq⟩
  exact sL.ext K sl hin
theorem Acc.okAll {a b al : List α} (h : Acc lt bad J d a b b.length al) : ∀ x ∈ a, ∀ y ∈ b, Eqk lt x y → ¬ bad x y := by
  have := h.ok; rw [List.take_length] at this; exact this
end
def AccN (a b : List NdM) (i : Nat) (al : List NdM) : Prop := Acc ltN badN ndJ nd0 a b i al
theorem eqkN {x y : NdM} : Eqk ltN x y ↔ x.id = y.id := by unfold Eqk ltN; omega
theorem doneN {a b al L : List NdM} (h : AccN a b b.length al) (ha : Srt ltN a) (hb : Srt ltN b) (s : Sd ltN nd0 al L L.length) : mergeN a b = some L := by
  obtain ⟨l, hl⟩ := mN_ex a b h.okAll
  rw [hl, h.done kN ha hb s (mgN hl)]
theorem noneN {a b : List NdM} {i k : Nat} (ha : Srt ltN a) (hb : Srt ltN b) (hi : i < b.length) (hk : k < a.length) (e : (ndA a k).id = (ndA b i).id) (hp : ¬ (ndA a k).par = (ndA b i).par) : mergeN a b = none := by
  cases h : mergeN a b with
  | none => rfl
  | some l => exact absurd hp ((mgN h).nb kN ha hb _ (getD_mem (d := nd0) hk) _ (getD_mem (d := nd0) hi) (eqkN.2 e))
theorem AccN.zero {a b : List NdM} (ha : Srt ltN a) : AccN a b 0 a := Acc.zero kN ha
theorem AccN.snoc {a b al : List NdM} {i : Nat} (h : AccN a b i al) (hb : Srt ltN b) (hi : i < b.length) (hn : nodeI a (ndA b i).id < 0) : AccN a b (i + 1) (al ++ [ndA b i]) := by
  refine Acc.snoc kN h hb hi fun x hx e => ?_
  obtain ⟨k, hk, rfl⟩ := mem_getD (d := nd0) hx
  rcases firstI_spec (fun i_1 => decide ((ndA a i_1).id = (ndA b i).id)) a.length with ⟨j, _, e2, _⟩ | ⟨_, h2⟩
  · unfold nodeI at hn; omega
  exact of_decide_eq_false (h2 k hk) (eqkN.1 e)
theorem AccN.at {a b al : List NdM} {i k : Nat} (h : AccN a b i al) (ha : Srt ltN a) (hb : Srt ltN b) (hi : i < b.length) (hk : k < a.length) (e : (ndA a k).id = (ndA b i).id) : ndA al k = ndA a k := Acc.at kN h ha hb hi hk (eqkN.2 e)
theorem AccN.set {a b al : List NdM} {i k : Nat} (h : AccN a b i al) (ha : Srt ltN a) (hb : Srt ltN b) (hi : i < b.length) (hk : k < a.length) (e : (ndA a k).id = (ndA b i).id) (hp : (ndA a k).par = (ndA b i).par) : AccN a b (i + 1) (al.set k (ndJ (ndA a k) (ndA b i))) := Acc.set kN h ha hb hi hk (eqkN.2 e) (fun q => q hp)
theorem AccN.len {a b al : List NdM} {i : Nat} (h : AccN a b i al) : a.length ≤ al.length ∧ al.length ≤ a.length + i := ⟨Acc.ge h, Acc.le h⟩
def AccG (a b : List GrM) (i : Nat) (al : List GrM) : Prop := Acc grLt GrBad grJ gr0 a b i al
theorem eqkG {x y : GrM} : Eqk grLt x y ↔ x.o = y.o ∧ x.r = y.r := by unfold Eqk grLt; omega
theorem doneG {a b al L : List GrM} (h : AccG a b b.length al) (ha : Srt grLt a) (hb : Srt grLt b) (s : Sd grLt gr0 al L L.length) : mergeG a b = some L := by
  obtain ⟨l, hl⟩ := mG_ex a b h.okAll
  rw [hl, h.done kG ha hb s (mgG hl)]
theorem noneG {a b : List GrM} {i k : Nat} (ha : Srt grLt a) (hb : Srt grLt b) (hi : i < b.length) (hk : k < a.length) (e : (grA a k).o = (grA b i).o ∧ (grA a k).r = (grA b i).r) (hp : GrBad (grA a k) (grA b i)) : mergeG a b = none := by
  cases h : mergeG a b with
  | none => rfl
  | some l => exact absurd hp ((mgG h).nb kG ha hb _ (getD_mem (d := gr0) hk) _ (getD_mem (d := gr0) hi) (eqkG.2 e))
theorem AccG.zero {a b : List GrM} (ha : Srt grLt a) : AccG a b 0 a := Acc.zero kG ha
def AtG (a : List GrM) (g : GrM) (k : Nat) (x : Int) : Prop := (x = -1 ∧ ∀ q, q < k → ¬ ((grA a q).o = g.o ∧ (grA a q).r = g.r)) ∨ ∃ j, j < a.length ∧ x = (j : Int) ∧ (grA a j).o = g.o ∧ (grA a j).r = g.r
theorem AtG.zero (a : List GrM) (g : GrM) : AtG a g 0 (-1) := .inl ⟨rfl, fun _ h => absurd h (Nat.not_lt_zero _)⟩
theorem AtG.no {a : List GrM} {g : GrM} {k : Nat} {x : Int} (h : AtG a g k x) (hn : ¬ ((grA a k).o = g.o ∧ (grA a k).r = g.r)) : AtG a g (k + 1) x := h.imp (fun ⟨e, f⟩ => ⟨e, fun q hq => by
  by_cases c : q = k
  · rw [c]; exact hn
  · exact f q (by omega)⟩) id
theorem AtG.yes {a : List GrM} {g : GrM} {k : Nat} (hk : k < a.length) (hn : (grA a k).o = g.o ∧ (grA a k).r = g.r) : AtG a g (k + 1) (k : Int) := .inr ⟨k, hk, rfl, hn⟩
theorem AtG.ge {a : List GrM} {g : GrM} {k : Nat} {x : Int} (h : AtG a g k x) (hx : ¬ x < 0) : ∃ j, j < a.length ∧ x = (j : Int) ∧ (grA a j).o = g.o ∧ (grA a j).r = g.r := h.elim (fun q => absurd q.1 (by omega)) id
theorem AtG.lt {a : List GrM} {g : GrM} {x : Int} (h : AtG a g a.length x) (hx : x < 0) : ∀ q, q < a.length → ¬ ((grA a q).o = g.o ∧ (grA a q).r = g.r) := h.elim (fun q => q.2) fun ⟨j, _, e, _⟩ => by omega
theorem AccG.snoc {a b al : List GrM} {i : Nat} (h : AccG a b i al) (hb : Srt grLt b) (hi : i < b.length) (hn : ∀ q, q < a.length → ¬ ((grA a q).o = (grA b i).o ∧ (grA a q).r = (grA b i).r)) : AccG a b (i + 1) (al ++ [grA b i]) := by
  refine Acc.snoc kG h hb hi fun x hx e => ?_
  obtain ⟨k, hk, rfl⟩ := mem_getD (d := gr0) hx
  exact hn k hk (eqkG.1 e)
theorem AccG.at {a b al : List GrM} {i k : Nat} (h : AccG a b i al) (ha : Srt grLt a) (hb : Srt grLt b) (hi : i < b.length) (hk : k < a.length) (e : (grA a k).o = (grA b i).o ∧ (grA a k).r = (grA b i).r) : grA al k = grA a k := Acc.at kG h ha hb hi hk (eqkG.2 e)
theorem AccG.set {a b al : List GrM} {i k : Nat} (h : AccG a b i al) (ha : Srt grLt a) (hb : Srt grLt b) (hi : i < b.length) (hk : k < a.length) (e : (grA a k).o = (grA b i).o ∧ (grA a k).r = (grA b i).r) (hp : ¬ GrBad (grA a k) (grA b i)) : AccG a b (i + 1) (al.set k (grJ (grA a k) (grA b i))) := Acc.set kG h ha hb hi hk (eqkG.2 e) hp
theorem AccG.len {a b al : List GrM} {i : Nat} (h : AccG a b i al) : a.length ≤ al.length ∧ al.length ≤ a.length + i := ⟨Acc.ge h, Acc.le h⟩
theorem flat_set {α : Type} {d : α} {Y : α → Nat → Value} {s j n off m : Nat} {l : List α} {x : α} {y : Nat → Value} (hs : 0 < s) (hn : n = l.length) (hj : j < n) (hm : off + m ≤ s) (hx : ∀ q, q < s → ovr (Y (l.getD j d)) off m y q = Y x q) : ∀ p, p < n * s → ovr (flat s fun k => Y (l.getD k d)) (j * s + off) m y p = flat s (fun k => Y ((l.set j x).getD k d)) p := fun p hp => by
  subst hn
  unfold flat
  show ovr _ _ _ _ p = Y ((l.set j x).getD (p / s) d) (p % s)
  have hr := Nat.mod_lt p hs
  have hdm := Nat.div_add_mod p s
  rw [getD_set hj]
  by_cases c : j = p / s
  · rw [if_pos c, ← hx (p % s) hr]
    have e : p = j * s + p % s := by rw [c, Nat.mul_comm]; exact hdm.symm
    unfold ovr
    by_cases c2 : off ≤ p % s ∧ p % s < off + m
    · rw [if_pos c2, if_pos (by omega)]; congr 1; omega
    · rw [if_neg c2, if_neg (by omega), c]
  · rw [if_neg c]
    unfold ovr
    rw [if_neg fun q => ?_]
    have h1 : j * s ≤ p := by omega
    have h2 : p < (j + 1) * s := by rw [Nat.succ_mul]; omega
    exact c (Nat.le_antisymm ((Nat.le_div_iff_mul_le hs).2 h1) (Nat.le_of_lt_succ ((Nat.div_lt_iff_lt_mul hs).2 h2)))
theorem nds_set {n j : Nat} {l : List NdM} {x : NdM} {o : Nat} (hn : n = l.length) (hj : j < n) (ho : o = j * 56) : ∀ p, p < n * 56 → ovr (ndsX l) o 56 (ndZ x) p = ndsX (l.set j x) p := fun p hp => by
  have h := flat_set (Y := ndZ) (d := nd0) (s := 56) (off := 0) (m := 56) (x := x) (y := ndZ x) (l := l) (Nat.le_of_ble_eq_true rfl) hn hj (Nat.le_of_ble_eq_true rfl) (fun q hq => by unfold ovr; rw [if_pos ⟨Nat.zero_le _, by omega⟩, Nat.sub_zero]) p hp
  rw [Nat.add_zero, ← ho] at h
  unfold ndsX ndA; exact h
theorem grs_set {n j : Nat} {l : List GrM} {x : GrM} {o : Nat} (hn : n = l.length) (hj : j < n) (ho : o = j * 5) : ∀ p, p < n * 5 → ovr (grsX l) o 5 (grZ x) p = grsX (l.set j x) p := fun p hp => by
  have h := flat_set (Y := grZ) (d := gr0) (s := 5) (off := 0) (m := 5) (x := x) (y := grZ x) (l := l) (Nat.le_of_ble_eq_true rfl) hn hj (Nat.le_of_ble_eq_true rfl) (fun q hq => by unfold ovr; rw [if_pos ⟨Nat.zero_le _, by omega⟩, Nat.sub_zero]) p hp
  rw [Nat.add_zero, ← ho] at h
  unfold grsX grA; exact h
theorem nds_join {n j : Nat} {l : List NdM} {x y : NdM} {o : Nat} (hn : n = l.length) (hj : j < n) (ho : o = j * 56 + 2) (hx : ndA l j = x) : ∀ p, p < n * 56 → ovr (ndsX l) o 54 (rv .i64 (joinM x.R y.R)) p = ndsX (l.set j (ndJ x y)) p := fun p hp => by
  have h := flat_set (Y := ndZ) (d := nd0) (s := 56) (off := 2) (m := 54) (x := ndJ x y) (y := rv .i64 (joinM x.R y.R)) (l := l) (Nat.le_of_ble_eq_true rfl) hn hj (Nat.le_of_ble_eq_true rfl) (fun q hq => by rw [show l.getD j nd0 = x from hx]; exact ndZ_join q hq) p hp
  rw [← ho] at h
  unfold ndsX ndA; exact h
theorem grs_join {n j : Nat} {l : List GrM} {x y : GrM} {o : Nat} (hn : n = l.length) (hj : j < n) (ho : o = j * 5 + 4) (hx : grA l j = x) : ∀ p, p < n * 5 → updV (grsX l) o (Ku6 (mxI x.b y.b)) p = grsX (l.set j (grJ x y)) p := fun p hp => by
  have h := flat_set (Y := grZ) (d := gr0) (s := 5) (off := 4) (m := 1) (x := grJ x y) (y := fun _ => Ku6 (mxI x.b y.b)) (l := l) (Nat.le_of_ble_eq_true rfl) hn hj (Nat.le_of_ble_eq_true rfl) (fun q hq => by
    rw [show l.getD j gr0 = x from hx, ← grZ_join q hq]
    unfold ovr updV
    by_cases c : q = 4
    · rw [if_pos (by omega), if_pos c]
    · rw [if_neg (by omega), if_neg c]) p hp
  rw [← ho] at h
  unfold grsX grA
  refine Eq.trans ?_ h
  unfold updV ovr
  by_cases c : p = o
  · rw [if_pos c, if_pos (by omega)]
  · rw [if_neg c, if_neg (by omega)]
end Rt
end
namespace Rt
def jts (a b : Nat → Int) (k s : Nat) : Nat → Int := fun p => if own p < k ∨ (own p = k ∧ p < 6 * s) then mxI (a p) (b p) else a p
theorem jts_zero (a b : Nat → Int) (k : Nat) : jts a b k 0 = jt a b k := by
  funext p; unfold jts jt; by_cases h : own p < k
  · rw [if_pos (.inl h), if_pos h]
  rw [if_neg (by omega), if_neg h]
theorem own_low {k s : Nat} (hk : k < 6) (hs : s < 3) : own (6 * s + k) = k := by unfold own; split <;> (try split) <;> (try split) <;> omega
theorem own_of {p k s : Nat} (h : own p = k) (h1 : 6 * s ≤ p) (h2 : p < 6 * (s + 1)) (hs : s < 3) : p = 6 * s + k := by unfold own at h; split at h <;> (try split at h) <;> (try split at h) <;> omega
theorem jts_at {a b : Nat → Int} {k s : Nat} (hk : k < 6) (hs : s < 3) : jts a b k s (6 * s + k) = a (6 * s + k) := by
  unfold jts; rw [if_neg]; rw [own_low hk hs]; omega
theorem jts_cell {a b : Nat → Int} {k s p : Nat} (hk : k < 6) (hs : s < 3) (hp : p = 6 * s + k) : jts a b k s p = a p := by subst hp; exact jts_at hk hs
theorem jts_succ {a b : Nat → Int} {k s p : Nat} (hk : k < 6) (hs : s < 3) (hp : p = 6 * s + k) {v : Int} (hv : v = mxI (a p) (b p)) : upd (jts a b k s) p v = jts a b k (s + 1) := by
  subst hp hv
  funext q
  unfold upd
  by_cases e : q = 6 * s + k
  · rw [if_pos e, e]; unfold jts; rw [if_pos]; right; rw [own_low hk hs]; omega
  rw [if_neg e]; unfold jts
  by_cases h : own q < k ∨ (own q = k ∧ q < 6 * s)
  · rw [if_pos h, if_pos (by omega)]
  rw [if_neg h, if_neg]
  rintro (h1 | ⟨h1, h2⟩)
  · exact h (.inl h1)
  exact e (own_of h1 (by omega) h2 hs)
theorem jts_three (a b : Nat → Int) (k : Nat) : jts a b k 3 = jt2 a b k 0 := by
  funext p; unfold jts jt2; simp only [Nat.not_lt_zero, or_false]
theorem jt2_in {a b : Nat → Int} {k j : Nat} (_ : k < 6) (hj : j < 6) : jt2 a b k j (j + 6 * k + 18) = a (j + 6 * k + 18) := by
  have := jt2_at a b k j hj; rwa [show 18 + k * 6 + j = j + 6 * k + 18 by omega] at this
theorem jt2_succ {a b : Nat → Int} {k j : Nat} (hk : k < 6) (hj : j < 6) : upd (jt2 a b k j) (j + 6 * k + 18) (mxI (a (j + 6 * k + 18)) (b (j + 6 * k + 18))) = jt2 a b k (j + 1) := by
  funext p; have := jt2_step a b k j hk hj p; rwa [show 18 + k * 6 + j = j + 6 * k + 18 by omega] at this
theorem jt2_fin (a b : Nat → Int) (k : Nat) : jt2 a b k 6 = jt a b (k + 1) := funext (jt2_end a b k)
end Rt
set_option maxRecDepth 10000 in
set_option maxHeartbeats 400000 in
theorem f7_join (a b : Nat → Int) (w : World) :
    Calls Try.prog 64 #[.agg (varr 54 (rv .i64 a)), .agg (varr 54 (rv .i64 b))] w fun e w' => e = .returned (.agg (varr 54 (rv .i64 (joinM a b)))) ∧ Below w.heap.size w w' := by
 refine Kent Try.func64 70 ?_
 refine KWsl (KLb fun g1 w1 eg1 m1 s1 z1 => ?_)
 have b1 := KTk1 s1.old (Below.refl w.heap.size w)
 have lg1 := KGk0 eg1
 have tg1 := m1.lt
 refine KLb fun g2 w2 eg2 m2 s2 z2 => ?_
 have ⟨m3, b2⟩ := KTk2 s2.old m1 b1
 have lg2 := KGk eg2 b1.size
 have ng2m3 := KNk1 eg2 m1.lt
 have tg2 := m2.lt
 refine KLw 54 (rv .i64 (fun _ => 0)) fun g3 w3 eg3 m4 s3 z3 => ?_
 have ⟨m5, m6, b3⟩ := KTk3 s3.old m3 m2 b2
 have lg3 := KGk eg3 b2.size
 have ⟨ng3m5, ng3m6⟩ := KNk2 eg3 m3.lt m2.lt
 have tg3 := m4.lt
 refine KLe (Ws (KWsl (KLq (Ki6 0) (KLe (Wb ?_)))))
 have m7 := m5.to (congrArg (rv .i64) (jt_zero a b).symm)
 refine Wo (fun f w_ => ∃ k : Nat, k ≤ 6 ∧ f 2 = (pt g1) ∧ f 3 = (pt g2) ∧ f 4 = (pt g3) ∧ f 5 = Ki6 ((k : Int)) ∧ Blk w_ g1 54 (rv .i64 (jt a b k)) 48 ∧ Blk w_ g2 54 (rv .i64 b) 48 ∧ Blk w_ g3 54 (rv .i64 (fun _ => 0)) 48 ∧ Below w.heap.size w w_) (fun f _ => (6 - (intOf (f 5)).toNat)) ⟨0, by omega, (by rfl), (by rfl), (by rfl), Fx.ic, m7, m6, m4, b3⟩ ?_
 rintro f1 w4 ⟨k, hk, h1, h2, h3, h4, m8, m9, m10, b4⟩
 refine Ws (KWsl (KLh h4 ?_))
 by_cases c8 : (k : Int) < 6
 ·refine Lv KbT (KltT c8) (KLe (KWcT (Wk (sN (Ws (Wb (Ws ?_)))))))
  have m11 := m8.to (congrArg (rv .i64) (jts_zero a b k).symm)
  -- region 4 draws
  refine Wt 12 (by kernel_rfl) (by kernel_rfl) fun wt1 hbwt1 hzwt1 => ?_
  have ⟨m12, m13, m14, b5⟩ := KTk4 hbwt1 m11 m9 m10 b4
  refine Stv (Ki6 k) (Kxm h4) (Stv (Ki6 k) (Kxm h4) (Stv ((pt g1)) (Kxf h1 0) (Stv ((pf g1 k)) (Kxj 6 1) (Stv (Ki6 (a k)) (Kxl m12.cel k (congrArg (Value.int .i64) (jts_cell (by omega) (by omega) (show k = 6 * 0 + k by omega)))) (Stv (Ki6 k) (Kxm h4) (Stv ((pt g2)) (Kxf h2 0) (Stv ((pf g2 k)) (Kxj 6 1) (Stv (Ki6 (b k)) (Kxl m13.cel k) (Stv (Ki6 (mxI (a k) (b k))) (Fx.x_max rfl rfl rfl) (Stv ((pt g1)) (Kxf h1 0) (Stv ((pf g1 k)) (Kxj 6 1) (Fx.St.nil ?_))))))))))))
  refine KLs m12 k (Ki6 (mxI (a k) (b k))) fun w5 m15 s5 z4 => ?_
  have m16 : Blk w5 g1 54 (rv .i64 (upd (jts a b k 0) k (mxI (a k) (b k)))) 48 := m15.to (Fx.updV_rv _ _ _ _)
  have m17 := m13.stp s5 (by omega)
  have m18 := m14.stp s5 (by omega)
  have b6 := s5.below b5 b5.size (by omega)
  refine KLe (Ws ?_)
  have m19 := m16.to (congrArg (rv .i64) (jts_succ (by omega) (by omega) (by omega) rfl))
  -- region 5 draws
  refine Wt 12 (by kernel_rfl) (by kernel_rfl) fun wt2 hbwt2 hzwt2 => ?_
  have ⟨m20, m21, m22, b7⟩ := KTk4 hbwt2 m17 m18 m19 b6
  refine Stv (Ki6 k) (Kxm h4) (Stv (Ki6 k) (Kxm h4) (Stv ((pf g1 6)) (Kxf h1 6) (Stv ((pf g1 (k + 6))) (Kxj 6 1) (Stv (Ki6 (a (k + 6))) (Kxl m22.cel (k + 6) (congrArg (Value.int .i64) (jts_cell (by omega) (by omega) (show k + 6 = 6 * 1 + k by omega)))) (Stv (Ki6 k) (Kxm h4) (Stv ((pf g2 6)) (Kxf h2 6) (Stv ((pf g2 (k + 6))) (Kxj 6 1) (Stv (Ki6 (b (k + 6))) (Kxl m20.cel (k + 6)) (Stv (Ki6 (mxI (a (k + 6)) (b (k + 6)))) (Fx.x_max rfl rfl rfl) (Stv ((pf g1 6)) (Kxf h1 6) (Stv ((pf g1 (k + 6))) (Kxj 6 1) (Fx.St.nil ?_))))))))))))
  refine KLs m22 (k + 6) (Ki6 (mxI (a (k + 6)) (b (k + 6)))) fun w6 m23 s7 z5 => ?_
  have m24 : Blk w6 g1 54 (rv .i64 (upd (jts a b k 1) (k + 6) (mxI (a (k + 6)) (b (k + 6))))) 48 := m23.to (Fx.updV_rv _ _ _ _)
  have m25 := m20.stp s7 (by omega)
  have m26 := m21.stp s7 (by omega)
  have b8 := s7.below b7 b7.size (by omega)
  refine KLe (Ws ?_)
  have m27 := m24.to (congrArg (rv .i64) (jts_succ (by omega) (by omega) (by omega) rfl))
  -- region 6 draws
  refine Wt 12 (by kernel_rfl) (by kernel_rfl) fun wt3 hbwt3 hzwt3 => ?_
  have ⟨m28, m29, m30, b9⟩ := KTk4 hbwt3 m25 m26 m27 b8
  refine Stv (Ki6 k) (Kxm h4) (Stv (Ki6 k) (Kxm h4) (Stv ((pf g1 12)) (Kxf h1 12) (Stv ((pf g1 (k + 12))) (Kxj 6 1) (Stv (Ki6 (a (k + 12))) (Kxl m30.cel (k + 12) (congrArg (Value.int .i64) (jts_cell (by omega) (by omega) (show k + 12 = 6 * 2 + k by omega)))) (Stv (Ki6 k) (Kxm h4) (Stv ((pf g2 12)) (Kxf h2 12) (Stv ((pf g2 (k + 12))) (Kxj 6 1) (Stv (Ki6 (b (k + 12))) (Kxl m28.cel (k + 12)) (Stv (Ki6 (mxI (a (k + 12)) (b (k + 12)))) (Fx.x_max rfl rfl rfl) (Stv ((pf g1 12)) (Kxf h1 12) (Stv ((pf g1 (k + 12))) (Kxj 6 1) (Fx.St.nil ?_))))))))))))
  refine KLs m30 (k + 12) (Ki6 (mxI (a (k + 12)) (b (k + 12)))) fun w7 m31 s9 z6 => ?_
  have m32 : Blk w7 g1 54 (rv .i64 (upd (jts a b k 2) (k + 12) (mxI (a (k + 12)) (b (k + 12))))) 48 := m31.to (Fx.updV_rv _ _ _ _)
  have m33 := m28.stp s9 (by omega)
  have m34 := m29.stp s9 (by omega)
  have b10 := s9.below b9 b9.size (by omega)
  refine KLe (Ws ?_)
  have m35 := m32.to (congrArg (rv .i64) (jts_succ (by omega) (by omega) (by omega) rfl))
  have m36 := m35.to (congrArg (rv .i64) (jts_three a b k))
  refine Wl (KLq (Ki6 0) (KLe (Wb (Wo (fun f w_ => ∃ j : Nat, j ≤ 6 ∧ f 2 = (pt g1) ∧ f 3 = (pt g2) ∧ f 4 = (pt g3) ∧ f 5 = Ki6 ((k : Int)) ∧ f 6 = Ki6 ((j : Int)) ∧ Blk w_ g1 54 (rv .i64 (jt2 a b k j)) 48 ∧ Blk w_ g2 54 (rv .i64 b) 48 ∧ Blk w_ g3 54 (rv .i64 (fun _ => 0)) 48 ∧ Below w.heap.size w w_) (fun f _ => (6 - (intOf (f 6)).toNat)) ⟨0, by omega, h1, h2, h3, (h4.trans Fx.ic), Fx.ic, m36, m33, m34, b10⟩ ?_))))
  rintro f2 w8 ⟨j, hj, h5, h6, h7, h8, h9, m37, m38, m39, b11⟩
  refine Ws (KWsl (KLh h9 ?_))
  by_cases c48 : (j : Int) < 6
  ·refine Lv KbT (KltT c48) (KLe (KWcT (Wk (sN (Ws (Wb ?_))))))
   -- region 10 draws
   refine Wt 18 (by kernel_rfl) (by kernel_rfl) fun wt4 hbwt4 hzwt4 => ?_
   have ⟨m40, m41, m42, b12⟩ := KTk4 hbwt4 m37 m38 m39 b11
   refine Stv (Ki6 k) (Kxm h8) (Stv (Ki6 j) (Kxm h9) (Stv (Ki6 k) (Kxm h8) (Stv (Ki6 j) (Kxm h9) (Stv ((pf g1 18)) (Kxf h5 18) (Stv ((pf g1 (6 * k + 18))) (Kxj 6 6) (Stv ((pf g1 (j + 6 * k + 18))) (Kxj 6 1) (Stv (Ki6 (a (j + 6 * k + 18))) (Kxl m40.cel (j + 6 * k + 18) (congrArg (Value.int .i64) (jt2_in (a := a) (b := b) (k := k) (j := j) (by omega) (by omega)))) (Stv (Ki6 k) (Kxm h8) (Stv (Ki6 j) (Kxm h9) (Stv ((pf g2 18)) (Kxf h6 18) (Stv ((pf g2 (6 * k + 18))) (Kxj 6 6) (Stv ((pf g2 (j + 6 * k + 18))) (Kxj 6 1) (Stv (Ki6 (b (j + 6 * k + 18))) (Kxl m41.cel (j + 6 * k + 18)) (Stv (Ki6 (mxI (a (j + 6 * k + 18)) (b (j + 6 * k + 18)))) (Fx.x_max rfl rfl rfl) (Stv ((pf g1 18)) (Kxf h5 18) (Stv ((pf g1 (6 * k + 18))) (Kxj 6 6) (Stv ((pf g1 (j + 6 * k + 18))) (Kxj 6 1) (Fx.St.nil ?_))))))))))))))))))
   refine KLs m40 (j + 6 * k + 18) (Ki6 (mxI (a (j + 6 * k + 18)) (b (j + 6 * k + 18)))) fun w9 m43 s11 z7 => ?_
   have m44 : Blk w9 g1 54 (rv .i64 (upd (jt2 a b k j) (j + 6 * k + 18) (mxI (a (j + 6 * k + 18)) (b (j + 6 * k + 18))))) 48 := m43.to (Fx.updV_rv _ _ _ _)
   have m45 := m41.stp s11 (by omega)
   have m46 := m42.stp s11 (by omega)
   have b13 := s11.below b12 b12.size (by omega)
   refine Ln (blkN (sN (Wl (KLh h9 (Lv (Ki6 ((j : Int) + 1)) KxP (KLq (Ki6 ((j : Int) + 1)) (Ln ?_)))))))
   have m47 := m44.to (congrArg (rv .i64) (jt2_succ (a := a) (b := b) (k := k) (j := j) (by omega) (by omega)))
   refine lpN ⟨j + 1, by omega, h5, h6, h7, (h8.trans Fx.ic), Fx.ic, m47, m45, m46, b13⟩ ?_
   show (6 - (intOf ((Ki6 ((j : Int) + 1)))).toNat) < _
   simp only [h9, intOf]; omega
  refine Lv KbF (KltF c48) (KLe (KWcF (Wx (seqX (lpX (blkX (blkN (sN (Wl (KLh h8 (Lv (Ki6 ((k : Int) + 1)) KxP (KLq (Ki6 ((k : Int) + 1)) (Ln ?_)))))))))))))
  have e6 : j = 6 := by omega
  have m48 := m37.to (congrArg (rv .i64) (show jt2 a b k j = jt a b (k + 1) by rw [e6]; exact jt2_fin a b k))
  refine lpN ⟨k + 1, by omega, h5, h6, h7, Fx.ic, m48, m38, m39, b11⟩ ?_
  show (6 - (intOf ((Ki6 ((k : Int) + 1)))).toNat) < _
  simp only [h4, intOf]; omega
 refine Lv KbF (KltF c8) (KLe (KWcF (Wx (seqX (lpX (blkX (sN (KWsl (Lv (.agg (varr 54 (rv .i64 (jt a b k)))) (KxA m8.cel 0 (ha := h1)) (KLsA m10 0 (ha := h3) fun w10 m49 s12 z8 => ?_))))))))))
 have m50 : Blk w10 g3 54 (rv .i64 (jt a b k)) 48 := ovr_all m49
 have m51 := m8.stp s12 (by omega)
 have m52 := m9.stp s12 (by omega)
 have b14 := s12.below b4 b4.size (by omega)
 refine KLe (Wr (⟨.agg (varr 54 (rv .i64 (jt a b k))), rV Try.results64 ⟨_, h3, run_loadV m50.cel (by kernel_rfl) (by kernel_rfl)⟩, ?_⟩))
 refine ⟨congrArg (fun q => Ending.returned (Value.agg q)) (Fx.varr_congr fun p hp => congrArg (Value.int .i64) ?_), b14⟩
 have e6 : k = 6 := by omega
 rw [e6]; exact jt_end a b p hp
set_option linter.unusedVariables false
set_option maxRecDepth 20000 in
set_option maxHeartbeats 4000000 in
theorem r_nodes (a b : SnM) (ana : Option Addr) (anc : Nat) (aga : Option Addr) (agc : Nat) (bna : Option Addr) (bnc : Nat) (bga : Option Addr) (bgc : Nat) (w : World) (ha : StW w a ana anc aga agc) (hb : StW w b bna bnc bga bgc) (sa : Srt ltN a.ns) (sb : Srt ltN b.ns) :
    Calls Try.prog 27 #[.agg (varr 20 (stY (stS a ana anc aga agc))), .agg (varr 20 (stY (stS b bna bnc bga bgc)))] w fun e w' => (mergeN a.ns b.ns = none ∧ e = .returned (.tuple #[.slice none 0 0, Ki6 9]) ∧ Below w.heap.size w w') ∨ (∃ l a' c', mergeN a.ns b.ns = some l ∧ e = .returned (.tuple #[.slice a' l.length c', Ki6 0]) ∧ Fx.Own w' w.heap.size 50 56 (.slice a' l.length c') l.length (ndsX l) ∧ Below w.heap.size w w') := by
 have hna := ha.n
 have hnb := hb.n
 have hga := ha.g
 have hgb := hb.g
 have hal1 := ha.l1
 have hal2 := ha.l2
 have hbl1 := hb.l1
 have hbl2 := hb.l2
 refine Kent Try.func27 112 ?_
 refine KWsl (KLb fun g1 w1 eg1 m1 s1 z1 => ?_)
 have b1 := KTk1 s1.old (Below.refl w.heap.size w)
 have lg1 := KGk0 eg1
 have tg1 := m1.lt
 refine KLb fun g2 w2 eg2 m2 s2 z2 => ?_
 have ⟨m3, b2⟩ := KTk2 s2.old m1 b1
 have lg2 := KGk eg2 b1.size
 have ng2m3 := KNk1 eg2 m1.lt
 have tg2 := m2.lt
 refine KLq (.slice none 0 0) (KLq (Ki6 0) (KLe (KWsl (Fx.L.bslice0 (s := 56) (by rfl) rfl Try.underlying26 (by kernel_rfl) rfl fun g3 w3 eg3 hO1 s3 => ?_))))
 have m4 : Fx.Own w3 w.heap.size 50 56 (Ksl g3 0 0) 0 (ndsX []) := hO1 _ _ (by rw [eg3]; exact b2.size)
 have ⟨m5, m6, b3⟩ := KTk3 s3.old m3 m2 b2
 refine KLq ((pf g1 18)) (Lv (.slice ana (a.ns.length) (anc)) (Kxl m5.cel 18) (Fx.L.appAny (B := w.heap.size) (s := 56) (bytes := 448) (k := 0) (m := a.ns.length) (v := Ksl g3 0 0) (x := ndsX []) (by rfl) rfl rfl rfl Try.underlying26 (by kernel_rfl) (by kernel_rfl) rfl rfl m4 (hna.up b3 rfl) (fun j _ => nds_one _ j) (by omega) (by omega) b3.size fun vv1 w4 ho1 hg1 hgv1 => ?_))
 rw [Nat.zero_add] at ho1
 obtain ⟨a1, cap1, rfl⟩ := ho1.val
 have hct1 := cOg hg1 m4
 have ⟨m8, m9⟩ := KCk2 hct1 m5 m6
 have m7 : Fx.Own w4 w.heap.size 50 56 (.slice a1 (a.ns.length) (cap1)) a.ns.length (ndsX a.ns) := (ho1.congr (fun j hj => by rw [Nat.zero_mul]; rfl))
 have b4 : Below w.heap.size w w4 := bGr b3 hg1 b3.size (fun q hq => (m4.ge hq).1)
 refine KLq (.slice a1 (a.ns.length) (cap1)) (KLe (Ws (KWsl (KLq (Ki6 0) (KLe (Wb (Wo (fun f w_ => ∃ i : Nat, ∃ al : List NdM, ∃ n : Nat, ∃ ao : Option Addr, ∃ co : Nat, i ≤ b.ns.length ∧ AccN a.ns b.ns i al ∧ n = al.length ∧ f 2 = (pt g1) ∧ f 3 = (pt g2) ∧ f 6 = .slice ao (n) (co) ∧ f 7 = Ki6 ((i : Int)) ∧ Blk w_ g1 20 (stY (stS a ana anc aga agc)) 29 ∧ Blk w_ g2 20 (stY (stS b bna bnc bga bgc)) 29 ∧ Fx.Own w_ w.heap.size 50 56 (.slice ao (n) (co)) n (ndsX al) ∧ Below w.heap.size w w_) (fun f _ => (b.ns.length - (intOf (f 7)).toNat)) ⟨0, a.ns, a.ns.length, a1, cap1, Nat.zero_le _, (AccN.zero sa), rfl, (by rfl), (by rfl), (by rfl), Fx.ic, m8, m9, m7, b4⟩ ?_)))))))
 rintro f1 w5 ⟨i, al, n, ao, co, hi, hac, hn, h1, h2, h3, h4, m10, m11, m12, b5⟩
 have hla := hac.len
 refine Ws (KWsl (KLh h4 (Lv ((pf g2 18)) (Kxf h2 18) (Lv (.slice bna (b.ns.length) (bnc)) (Kxl m11.cel 18) (KLq (Ki6 b.ns.length) ?_)))))
 by_cases c19 : (i : Int) < (b.ns.length : Int)
 ·refine Lv KbT (KltT c19) (KLe (KWcT (Wk (sN (Ws (Wb (Ws ?_)))))))
  -- region 5 draws
  refine KWqb (Qv (.agg (varr 20 (stY (stS a ana anc aga agc)))) (fun v1 hv1 => KxA (m10.cb hv1) 0 (ha := h1)) (Qv ((pf g2 18)) (fun v1 hv1 => Kxf h2 18) (Qv (.slice bna (b.ns.length) (bnc)) (fun v1 hv1 => Kxl (m11.cb hv1) 18) (KQh h4 ?_))))
  obtain ⟨bq1, oq1, eq1, m13z⟩ := hnb (by omega)
  have lbq1z : bq1 < w.heap.size := m13z.lt (by omega)
  have m13 := m13z.below b5 lbq1z
  have lbq1 : bq1 < w5.heap.size := m13.lt (by omega)
  refine Qv ((pf bq1 (56 * i + oq1))) (fun v1 hv1 => Kxi 56 (hx := (rfl.trans (congrArg (fun q => Value.slice q (b.ns.length) (bnc)) eq1)))) (KQq ((pf bq1 (56 * i + oq1))) (Qv (Ku6 ((ndA b.ns i).id)) (fun v1 hv1 => Kxl (m13.below hv1 (m13.lt (by omega))) (56 * i) (x := ndsX b.ns) (Fx.flat_cell (k := i) (j := 0) (by omega) (by omega) rfl)) (KQc1 (fun v1 hv1 => r_node a ana anc aga agc ((ndA b.ns i).id) _ ha.l1 ((ha.up b5).up hv1).n) _ rfl (KQq (Ki6 (nodeI a.ns ((ndA b.ns i).id))) (Qn ?_)))))
  intro wb1 hbwb1
  have ⟨m14, m15, m16, m17, b6⟩ := KTk5 hbwb1 m10 m11 m12 m13 b5
  refine sN (Ws (KWsl (KLq (Ki6 (nodeI a.ns ((ndA b.ns i).id))) ?_)))
  by_cases c31 : (nodeI a.ns ((ndA b.ns i).id)) < 0
  ·refine Lv KbT (KltT c31) (KLe (KWcT (KWsl (KLh h3 (Lv ((pf g2 18)) (Kxf h2 18) (Lv (.slice bna (b.ns.length) (bnc)) (Kxl m15.cel 18) (KLh h4 (Lv ((pf bq1 (56 * i + oq1))) (Kxi 56 (hx := (rfl.trans (congrArg (fun q => Value.slice q (b.ns.length) (bnc)) eq1)))) (Lv (.agg (varr 56 (ndZ (ndA b.ns i)))) (KxA m17 (56 * i) (fun jq hjq => Fx.flat_at (k := i) (by omega) hjq)) (Lbs (vs := [(0, .agg (varr 56 (ndZ (ndA b.ns i))))]) (s := 56) (zc := fun i => (#[Ku6 0, Ku6 0, Ki6 0, Ki6 0, Ki6 0, Ki6 0, Ki6 0, Ki6 0, Ki6 0, Ki6 0, Ki6 0, Ki6 0, Ki6 0, Ki6 0, Ki6 0, Ki6 0, Ki6 0, Ki6 0, Ki6 0, Ki6 0, Ki6 0, Ki6 0, Ki6 0, Ki6 0, Ki6 0, Ki6 0, Ki6 0, Ki6 0, Ki6 0, Ki6 0, Ki6 0, Ki6 0, Ki6 0, Ki6 0, Ki6 0, Ki6 0, Ki6 0, Ki6 0, Ki6 0, Ki6 0, Ki6 0, Ki6 0, Ki6 0, Ki6 0, Ki6 0, Ki6 0, Ki6 0, Ki6 0, Ki6 0, Ki6 0, Ki6 0, Ki6 0, Ki6 0, Ki6 0, Ki6 0, Ki6 0] : Array Value).getD i undef) (y := ovr (fun j => (#[Ku6 0, Ku6 0, Ki6 0, Ki6 0, Ki6 0, Ki6 0, Ki6 0, Ki6 0, Ki6 0, Ki6 0, Ki6 0, Ki6 0, Ki6 0, Ki6 0, Ki6 0, Ki6 0, Ki6 0, Ki6 0, Ki6 0, Ki6 0, Ki6 0, Ki6 0, Ki6 0, Ki6 0, Ki6 0, Ki6 0, Ki6 0, Ki6 0, Ki6 0, Ki6 0, Ki6 0, Ki6 0, Ki6 0, Ki6 0, Ki6 0, Ki6 0, Ki6 0, Ki6 0, Ki6 0, Ki6 0, Ki6 0, Ki6 0, Ki6 0, Ki6 0, Ki6 0, Ki6 0, Ki6 0, Ki6 0, Ki6 0, Ki6 0, Ki6 0, Ki6 0, Ki6 0, Ki6 0, Ki6 0, Ki6 0] : Array Value).getD (j % 56) undef) (0 * 56) 56 (ndZ (ndA b.ns i))) (by rfl) rfl rfl Try.underlying26 (by kernel_rfl) (by rfl) (by rfl) (by kernel_rfl) (by rw [fill_step (off := 0 * 56) (s := 56) (y := ndZ (ndA b.ns i)) rfl (cells_agg _ _) (by rfl)]; rfl) rfl fun g4 w6 eg4 m18 s5 z3 => ?_))))))))))
   have ⟨m19, m20, m21, b7⟩ := KTk4 s5.old m14 m15 m16 b6
   have lg4 := KGk eg4 b6.size
   have ⟨ng4m19, ng4m20⟩ := KNk2 eg4 m14.lt m15.lt
   have ng4m21 : (.slice ao (n) (co) : Value).ownBlock ≠ some g4 := by rw [eg4]; exact m16.notNew (Nat.le_refl _)
   have ng4m22 : bq1 ≠ g4 := by rw [eg4]; exact Nat.ne_of_lt (m17.lt (by omega))
   have tg4 := m18.lt
   refine Lap (B := w.heap.size) (s := 56) (bytes := 448) (k := n) (m := 1) (v := .slice ao (n) (co)) (x := ndsX al) (by rfl) rfl rfl rfl Try.underlying26 (by kernel_rfl) (by kernel_rfl) rfl rfl m21 m18.cel (fun j hj => by unfold ovr; rw [if_pos ⟨by omega, by omega⟩]; exact ndZ_one _ _) (by omega) (by omega) (by omega) b7.size fun g5 cap2 w7 ho2 hg2 hgv2 hlt1 => ?_
   have hct2 := cOg hg2 m21
   have ⟨m24, m25⟩ := KCk2 hct2 m19 m20
   have m23 : Fx.Own w7 w.heap.size 50 56 (Ksl g5 (n + 1) cap2) (n + 1) (ndsX (al ++ [(ndA b.ns i)])) := (ho2.congr (nds_app1 (l := al) (x := (ndA b.ns i)) hn))
   have b8 : Below w.heap.size w w7 := bGr b7 hg2 b7.size (fun q hq => (m21.ge hq).1)
   refine KLq (Ksl g5 (n + 1) cap2) (KLe (Wx (seqX (blkX (sN (Wl (KLh h4 (Lv (Ki6 ((i : Int) + 1)) KxP (KLq (Ki6 ((i : Int) + 1)) (Ln ?_))))))))))
   skip
   refine lpN ⟨i + 1, al ++ [(ndA b.ns i)], n + 1, (some ⟨g5, 0, none⟩), cap2, by omega, (hac.snoc sb (by omega) c31), (by rw [List.length_append]; exact congrArg (· + 1) hn), h1, h2, (by rfl), Fx.ic, m24, m25, m23, b8⟩ ?_
   show (b.ns.length - (intOf ((Ki6 ((i : Int) + 1)))).toNat) < _
   simp only [h4, intOf]; omega
  refine Lv KbF (KltF c31) (KLe (KWcF (Wk (sN (Ws (Ws ?_))))))
  obtain ⟨kk, hkk, ekk, eid⟩ := nodeI_ge (l := a.ns) (x := (ndA b.ns i).id) (by omega)
  -- region 8 draws
  refine KWqd (Qv ((pf g1 18)) (fun v1 hv1 => Kxf h1 18) (Qv (.slice ana (a.ns.length) (anc)) (fun v1 hv1 => Kxl (m14.cel.dr hv1) 18) (KQh (congrArg (Value.int .i64) ekk) ?_)))
  obtain ⟨bq2, oq2, eq2, m27z⟩ := hna (by omega)
  have lbq2z : bq2 < w.heap.size := m27z.lt (by omega)
  have m27 := m27z.below b6 lbq2z
  have lbq2 : bq2 < wb1.heap.size := m27.lt (by omega)
  refine Qv ((pf bq2 (56 * kk + oq2))) (fun v1 hv1 => Kxi 56 (hx := (rfl.trans (congrArg (fun q => Value.slice q (a.ns.length) (anc)) eq2)))) (KQq ((pf bq2 (56 * kk + oq2 + 1))) (Qv (Ku6 ((ndA a.ns kk).par)) (fun v1 hv1 => Kxl (m27.dr hv1) (56 * kk + 1) (Fx.flat_cell (k := kk) (j := 1) (by omega) (by omega) rfl)) (Qv ((pf g2 18)) (fun v1 hv1 => Kxf h2 18) (Qv (.slice bna (b.ns.length) (bnc)) (fun v1 hv1 => Kxl (m15.cel.dr hv1) 18) (KQh h4 (Qv ((pf bq1 (56 * i + oq1))) (fun v1 hv1 => Kxi 56 (hx := (rfl.trans (congrArg (fun q => Value.slice q (b.ns.length) (bnc)) eq1)))) (KQq ((pf bq1 (56 * i + oq1 + 1))) (Qv (Ku6 ((ndA b.ns i).par)) (fun v1 hv1 => Kxl (m17.dr hv1) (56 * i + 1) (Fx.flat_cell (k := i) (j := 1) (by omega) (by omega) rfl)) ?_))))))))
  by_cases c52 : ((ndA a.ns kk).par) = ((ndA b.ns i).par)
  ·refine Qv KbF (fun v1 hv1 => KneF c52) (Qn ?_)
   rintro _ ⟨qd, rfl⟩
   obtain ⟨wq1, ewq1⟩ : ∃ v1, v1 = World.drewN wb1 qd := ⟨_, rfl⟩
   rw [← ewq1]
   have s6 : Stp wb1.heap.size wb1 wq1 := by rw [ewq1]; exact Sb (bdrN wb1 qd)
   have ⟨m28, m29, m30, m31, m32, b9⟩ := KTk6 s6.old m14 m15 m16 m17 m27 b6
   clear ewq1
   refine sN (KWcF (Wk (sN ?_)))
   obtain ⟨gq1, eq3⟩ := m30.addr (by omega)
   have m33 : Fx.Own wq1 w.heap.size 50 56 (Ksl gq1 n co) n (ndsX al) := m30.congV (congrArg (fun q => Value.slice q n co) eq3)
   have lqgq1 : w.heap.size ≤ gq1 := (m33.ge rfl).1
   -- region 10 draws
   refine KWm [0, 1, 2, 4, 8, 10, 3, 5, 6, 7, 9, 11, 12, 13, 14, 15, 16, 17] [0, 0, 0, 4, 0, 0, 0, 4, 0, 4, 0, 0, 0, 4, 2, 0, 0, 3] [(14, 3, [7, 6, 5, 3]), (17, 3, [3]), (14, 7, [7]), (17, 7, [7]), (14, 9, [13, 12, 11, 9]), (17, 9, [9]), (14, 13, [13]), (17, 13, [13]), (15, 14, [14]), (16, 14, [14]), (17, 14, [14])] fun wt1 hbwt1 hzwt1 => ?_
   have ⟨m34, m35, m36, m37, m38, b10⟩ := KTk6 hbwt1 m28 m29 m31 m32 m33 b9
   refine KRh h3 (KRh (congrArg (Value.int .i64) ekk) (Rp ((pf g1 18)) (fun _ => Kxf h1 18) (KRh (congrArg (Value.int .i64) ekk) (Rp ((pf g2 18)) (fun _ => Kxf h2 18) (KRh h4 (Rs (.slice ana (a.ns.length) (anc)) (Kxl m34.cel 18) ?_))))))
   refine Rp ((pf bq2 (56 * kk + oq2))) (fun _ => Kxi 56 (hx := (rfl.trans (congrArg (fun q => Value.slice q (a.ns.length) (anc)) eq2)))) (KRq ((pf bq2 (56 * kk + oq2 + 2))) (Rs (.agg (varr 54 (rv .i64 ((ndA a.ns kk).R)))) (KxA m37 (56 * kk + 2) (fun jq hjq => (Fx.flat_at (k := kk) (j := 2 + jq) (by omega) (by omega)).trans ((fun q _ => ndY_row _ _ _ q) jq hjq))) ?_))
   refine Rs (.slice bna (b.ns.length) (bnc)) (Kxl m35.cel 18) ?_
   refine Rp ((pf bq1 (56 * i + oq1))) (fun _ => Kxi 56 (hx := (rfl.trans (congrArg (fun q => Value.slice q (b.ns.length) (bnc)) eq1)))) (KRq ((pf bq1 (56 * i + oq1 + 2))) (Rs (.agg (varr 54 (rv .i64 ((ndA b.ns i).R)))) (KxA m36 (56 * i + 2) (fun jq hjq => (Fx.flat_at (k := i) (j := 2 + jq) (by omega) (by omega)).trans ((fun q _ => ndY_row _ _ _ q) jq hjq))) ?_))
   refine KRk (KLc1 (f7_join (ndA a.ns kk).R (ndA b.ns i).R _) _ rfl ?_)
   intro w8 hb1
   have s8 := Sb hb1
   have ⟨m39, m40, m41, m42, m43, b11⟩ := KTk6 hb1 m34 m35 m36 m37 m38 b10
   refine Ln ⟨s8.old, ?_⟩
   refine Rp ((pf gq1 (56 * kk))) (fun _ => Kxi 56 (hx := (rfl.trans (congrArg (fun q => Value.slice q (n) (co)) eq3)))) (KRq ((pf gq1 (56 * kk + 2))) (KRe (KLoA m43 (56 * kk + 2) fun w9 m44 s9 z4 => ?_)))
   have hct3 := cOs s9 m43.tyB
   have ⟨m45, m46⟩ := KCk2 hct3 m39 m40
   have m47 := m41.stp s9 (by omega)
   have m48 := m42.stp s9 (by omega)
   have b12 := s9.below b11 b11.size (by omega)
   have m49 : Fx.Own w9 w.heap.size 50 56 (Ksl gq1 n co) n (ndsX (al.set kk (ndJ (ndA a.ns kk) (ndA b.ns i)))) := m44.congr (nds_join hn (by omega) (by omega) (hac.at sa sb (by omega) hkk eid))
   refine Ln (Rn (blkN (sN (Wl (KLh h4 (Lv (Ki6 ((i : Int) + 1)) KxP (KLq (Ki6 ((i : Int) + 1)) (Ln ?_))))))))
   have m50 : Fx.Own w9 w.heap.size 50 56 (.slice ao (n) (co)) n (ndsX (al.set kk (ndJ (ndA a.ns kk) (ndA b.ns i)))) := m49.congV (congrArg (fun q => Value.slice q n co) eq3.symm)
   skip
   refine lpN ⟨i + 1, al.set kk (ndJ (ndA a.ns kk) (ndA b.ns i)), n, ao, co, by omega, (hac.set sa sb (by omega) hkk eid c52), (by rw [List.length_set]; exact hn), h1, h2, h3, Fx.ic, m45, m46, m50, b12⟩ ?_
   show (b.ns.length - (intOf ((Ki6 ((i : Int) + 1)))).toNat) < _
   simp only [h4, intOf]; omega
  refine Qv KbT (fun v1 hv1 => KneT c52) (Qn ?_)
  rintro _ ⟨qd, rfl⟩
  obtain ⟨wq2, ewq2⟩ : ∃ v1, v1 = World.drewN wb1 qd := ⟨_, rfl⟩
  rw [← ewq2]
  have s10 : Stp wb1.heap.size wb1 wq2 := by rw [ewq2]; exact Sb (bdrN wb1 qd)
  have b13 := KTk1 s10.old b6
  clear ewq2
  refine sN (KWcT (KWsl (KLq (.slice none 0 0) (KLq (Ki6 9) (KLe (Wr (sR (blkR (sR (lpR (blkR (sR (Kret (.tuple #[.slice none 0 0, Ki6 9]) ?_)))))))))))))
  exact .inl ⟨noneN sa sb (by omega) hkk eid c52, rfl, b13⟩
 refine Lv KbF (KltF c19) (KLe (KWcF (Wx (seqX (lpX (blkX (sN (Ws (KWsl (KLq (Ki6 0) (KLe (Wb ?_))))))))))))
 have hac2 := hac
 rw [show i = b.ns.length by omega] at hac2
 refine Wo (fun f w_ => ∃ x9 : Nat, ∃ L : List NdM, x9 ≤ n ∧ Sd ltN nd0 al L x9 ∧ n = L.length ∧ f 6 = .slice ao (n) (co) ∧ f 9 = Ki6 ((x9 : Int)) ∧ Fx.Own w_ w.heap.size 50 56 (.slice ao (n) (co)) n (ndsX L) ∧ Below w.heap.size w w_) (fun f _ => (n - (intOf (f 9)).toNat)) ⟨0, al, Nat.zero_le _, (Sd.zero al), hn, h3, Fx.ic, m12, b5⟩ ?_
 rintro f2 w10 ⟨x9, L, hx, hsd, hL, h5, h6, m56, b14⟩
 refine Ws (KWsl (KLh h6 (KLh h5 (KLq (Ki6 n) ?_))))
 by_cases c73 : (x9 : Int) < (n : Int)
 ·refine Lv KbT (KltT c73) (KLe (KWcT (Wk (sN (Ws (Wb (KWsl (KLh h6 (KLq (Ki6 x9) (KLe (Wb (Wo (fun f w_ => ∃ k : Nat, ∃ L2 : List NdM, k ≤ x9 ∧ Dn ltN nd0 al L2 x9 k ∧ n = L2.length ∧ f 6 = .slice ao (n) (co) ∧ f 9 = Ki6 ((x9 : Int)) ∧ f 10 = Ki6 ((k : Int)) ∧ Fx.Own w_ w.heap.size 50 56 (.slice ao (n) (co)) n (ndsX L2) ∧ Below w.heap.size w w_) (fun f _ => (intOf (f 10)).toNat) ⟨x9, L, (Nat.le_refl _), hsd.dn, hL, h5, (h6.trans Fx.ic), Fx.ic, m56, b14⟩ ?_))))))))))))
  rintro f3 w11 ⟨k, L2, hk, hdn, hL2, h7, h8, h9, m57, b15⟩
  refine Ws (Ws ?_)
  obtain ⟨gq2, eq4⟩ := m57.addr (by omega)
  have m58 : Fx.Own w11 w.heap.size 50 56 (Ksl gq2 n co) n (ndsX L2) := m57.congV (congrArg (fun q => Value.slice q n co) eq4)
  have lqgq2 : w.heap.size ≤ gq2 := (m58.ge rfl).1
  -- region 15 draws
  refine KWqd (KQh h9 ?_)
  by_cases c78 : 0 < (k : Int)
  ·refine Qv KbT (fun v1 hv1 => KgtT c78) (KQq KbT (KQh h7 (KQh h9 (Qv (Ki6 ((k : Int) - 1)) (fun v1 hv1 => KxM) (Qv ((pf gq2 (56 * k - 56))) (fun v1 hv1 => Kxi 56 (hx := (rfl.trans (congrArg (fun q => Value.slice q (n) (co)) eq4)))) (KQq ((pf gq2 (56 * k - 56))) (Qv (Ku6 ((ndA L2 (k - 1)).id)) (fun v1 hv1 => Kxl (m58.cel.dr hv1) (56 * k - 56) (Fx.flat_cell (k := k - 1) (j := 0) (by omega) (by omega) rfl)) (KQh h7 (KQh h9 (Qv ((pf gq2 (56 * k))) (fun v1 hv1 => Kxi 56 (hx := (rfl.trans (congrArg (fun q => Value.slice q (n) (co)) eq4)))) (KQq ((pf gq2 (56 * k))) (Qv (Ku6 ((ndA L2 k).id)) (fun v1 hv1 => Kxl (m58.cel.dr hv1) (56 * k) (Fx.flat_cell (k := k) (j := 0) (by omega) (by omega) rfl)) ?_))))))))))))
   by_cases c91 : ((ndA L2 k).id) < ((ndA L2 (k - 1)).id)
   ·refine Qv KbT (fun v1 hv1 => KgtT c91) (KQq KbT (Qn ?_))
    rintro _ ⟨qd, rfl⟩
    obtain ⟨wq3, ewq3⟩ : ∃ v1, v1 = World.drewN w11 qd := ⟨_, rfl⟩
    rw [← ewq3]
    have s11 : Stp w11.heap.size w11 wq3 := by rw [ewq3]; exact Sb (bdrN w11 qd)
    have ⟨m59, b16⟩ := KTk2 s11.old m58 b15
    clear ewq3
    refine sN (KWcT (Wk (sN (Ws (Wb ?_)))))
    -- region 17 draws
    refine KWm [0, 1, 2, 3, 4, 5, 6, 7, 9, 10, 11, 12, 8, 13, 14, 15, 16, 17] [0, 0, 0, 0, 0, 0, 0, 0, 4, 0, 0, 0, 0, 4, 0, 3, 0, 3] [(15, 8, [8]), (17, 8, [8]), (15, 13, [13]), (17, 13, [13]), (16, 15, [15]), (17, 15, [15])] fun wt2 hbwt2 hzwt2 => ?_
    have ⟨m60, b17⟩ := KTk2 hbwt2 m59 b16
    refine KRh h7 (KRh h9 (Rp (Ki6 ((k : Int) - 1)) (fun _ => KxM) (KRh h7 (KRh h9 (KRh h7 (KRh h9 (Rp ((pf gq2 (56 * k))) (fun _ => Kxi 56 (hx := (rfl.trans (congrArg (fun q => Value.slice q (n) (co)) eq4)))) (KRh h7 (KRh h9 (Rp (Ki6 ((k : Int) - 1)) (fun _ => KxM) (Rp ((pf gq2 (56 * k - 56))) (fun _ => Kxi 56 (hx := (rfl.trans (congrArg (fun q => Value.slice q (n) (co)) eq4)))) (Rs (.agg (varr 56 (ndZ (ndA L2 k)))) (KxA m60.cel (56 * k) (fun jq hjq => Fx.flat_at (k := k) (by omega) hjq)) ?_))))))))))))
    refine Rs (.agg (varr 56 (ndZ (ndA L2 (k - 1))))) (KxA m60.cel (56 * k - 56) (fun jq hjq => Fx.flat_at (k := k - 1) (by omega) hjq)) ?_
    refine Rp ((pf gq2 (56 * k - 56))) (fun _ => Kxi 56 (hx := (rfl.trans (congrArg (fun q => Value.slice q (n) (co)) eq4)))) (KRe (KLoA m60 (56 * k - 56) (h1 := (fun j _ => ndZ_one _ j)) fun w12 m61 s13 z5 => ?_))
    have b18 := s13.below b17 b17.size (by omega)
    have m62 : Fx.Own w12 w.heap.size 50 56 (Ksl gq2 n co) n (ndsX (L2.set (k - 1) (ndA L2 k))) := m61.congr (nds_set hL2 (by omega) (by omega))
    refine Ln (Rp ((pf gq2 (56 * k))) (fun _ => Kxi 56 (hx := (rfl.trans (congrArg (fun q => Value.slice q (n) (co)) eq4)))) (KRe (KLoA m62 (56 * k) (h1 := (fun j _ => ndZ_one _ j)) fun w13 m63 s14 z6 => ?_)))
    have b19 := s14.below b18 b18.size (by omega)
    have m64 : Fx.Own w13 w.heap.size 50 56 (Ksl gq2 n co) n (ndsX (swp nd0 L2 k)) := m63.congr (nds_set (x := ndA L2 (k - 1)) (by rw [List.length_set]; exact hL2) (by omega) (by omega))
    refine Ln (Rn (blkN (sN (Wl (KLh h9 (Lv (Ki6 ((k : Int) - 1)) KxM (KLq (Ki6 ((k : Int) - 1)) (Ln ?_))))))))
    have m65 : Fx.Own w13 w.heap.size 50 56 (.slice ao (n) (co)) n (ndsX (swp nd0 L2 k)) := m64.congV (congrArg (fun q => Value.slice q n co) eq4.symm)
    refine lpN ⟨k - 1, swp nd0 L2 k, (by omega), (hdn.step kN (by omega) (by omega) (by omega) c91), (by rw [swp_len]; exact hL2), h7, (h8.trans Fx.ic), Fx.ic, m65, b19⟩ ?_
    show (intOf ((Ki6 ((k : Int) - 1)))).toNat < _
    simp only [h9, intOf]; omega
   refine Qv KbF (fun v1 hv1 => KgtF c91) (KQq KbF (Qn ?_))
   rintro _ ⟨qd, rfl⟩
   obtain ⟨wq4, ewq4⟩ : ∃ v1, v1 = World.drewN w11 qd := ⟨_, rfl⟩
   rw [← ewq4]
   have s15 : Stp w11.heap.size w11 wq4 := by rw [ewq4]; exact Sb (bdrN w11 qd)
   have ⟨m66, b20⟩ := KTk2 s15.old m58 b15
   clear ewq4
   refine sN (KWcF (Wx (seqX (lpX (blkX (blkN (sN (Wl (KLh h8 (Lv (Ki6 ((x9 : Int) + 1)) KxP (KLq (Ki6 ((x9 : Int) + 1)) (Ln ?_))))))))))))
   have m67 : Fx.Own wq4 w.heap.size 50 56 (.slice ao (n) (co)) n (ndsX L2) := m66.congV (congrArg (fun q => Value.slice q n co) eq4.symm)
   refine lpN ⟨x9 + 1, L2, by omega, (hdn.out kN (by omega) (.inr c91)), hL2, h7, Fx.ic, m67, b20⟩ ?_
   show (n - (intOf ((Ki6 ((x9 : Int) + 1)))).toNat) < _
   simp only [h6, intOf]; omega
  refine Qv KbF (fun v1 hv1 => KgtF c78) (KQq KbF (KQu (KQu (KQu (KQu (KQu (KQu (KQu (KQu (KQu (KQu (KQu (KQu (KQq KbF (Qn ?_)))))))))))))))
  rintro _ ⟨qd, rfl⟩
  obtain ⟨wq5, ewq5⟩ : ∃ v1, v1 = World.drewN w11 qd := ⟨_, rfl⟩
  rw [← ewq5]
  have s16 : Stp w11.heap.size w11 wq5 := by rw [ewq5]; exact Sb (bdrN w11 qd)
  have ⟨m68, b21⟩ := KTk2 s16.old m58 b15
  clear ewq5
  refine sN (KWcF (Wx (seqX (lpX (blkX (blkN (sN (Wl (KLh h8 (Lv (Ki6 ((x9 : Int) + 1)) KxP (KLq (Ki6 ((x9 : Int) + 1)) (Ln ?_))))))))))))
  have m69 : Fx.Own wq5 w.heap.size 50 56 (.slice ao (n) (co)) n (ndsX L2) := m68.congV (congrArg (fun q => Value.slice q n co) eq4.symm)
  refine lpN ⟨x9 + 1, L2, by omega, (hdn.out kN (by omega) (.inl (by omega))), hL2, h7, Fx.ic, m69, b21⟩ ?_
  show (n - (intOf ((Ki6 ((x9 : Int) + 1)))).toNat) < _
  simp only [h6, intOf]; omega
 refine Lv KbF (KltF c73) (KLe (KWcF (Wx (seqX (lpX (blkX (sN (KWsl (KLh h5 (KLq (.slice ao (n) (co)) (KLq (Ki6 0) (KLe (Wr (Kret (.tuple #[.slice ao (n) (co), Ki6 0]) ?_))))))))))))))
 have hsd2 := hsd
 rw [show x9 = L.length by omega] at hsd2
 exact .inr ⟨L, ao, co, doneN hac2 sa sb hsd2, by rw [← hL], by rw [← hL]; exact m56, b14⟩
set_option maxRecDepth 20000 in
set_option maxHeartbeats 4000000 in
theorem r_grants (a b : SnM) (ana : Option Addr) (anc : Nat) (aga : Option Addr) (agc : Nat) (bna : Option Addr) (bnc : Nat) (bga : Option Addr) (bgc : Nat) (w : World) (ha : StW w a ana anc aga agc) (hb : StW w b bna bnc bga bgc) (sa : Srt grLt a.gs) (sb : Srt grLt b.gs) :
    Calls Try.prog 28 #[.agg (varr 20 (stY (stS a ana anc aga agc))), .agg (varr 20 (stY (stS b bna bnc bga bgc)))] w fun e w' => (mergeG a.gs b.gs = none ∧ e = .returned (.tuple #[.slice none 0 0, Ki6 14]) ∧ Below w.heap.size w w') ∨ (∃ l a' c', mergeG a.gs b.gs = some l ∧ e = .returned (.tuple #[.slice a' l.length c', Ki6 0]) ∧ Fx.Own w' w.heap.size 59 5 (.slice a' l.length c') l.length (grsX l) ∧ Below w.heap.size w w') := by
 have hna := ha.n
 have hnb := hb.n
 have hga := ha.g
 have hgb := hb.g
 have hal1 := ha.l1
 have hal2 := ha.l2
 have hbl1 := hb.l1
 have hbl2 := hb.l2
 refine Kent Try.func28 147 ?_
 refine KWsl (KLb fun g1 w1 eg1 m1 s1 z1 => ?_)
 have b1 := KTk1 s1.old (Below.refl w.heap.size w)
 have lg1 := KGk0 eg1
 have tg1 := m1.lt
 refine KLb fun g2 w2 eg2 m2 s2 z2 => ?_
 have ⟨m3, b2⟩ := KTk2 s2.old m1 b1
 have lg2 := KGk eg2 b1.size
 have ng2m3 := KNk1 eg2 m1.lt
 have tg2 := m2.lt
 refine KLq (.slice none 0 0) (KLq (Ki6 0) (KLe (KWsl (Fx.L.bslice0 (s := 5) (by rfl) rfl Try.underlying27 (by kernel_rfl) rfl fun g3 w3 eg3 hO1 s3 => ?_))))
 have m4 : Fx.Own w3 w.heap.size 59 5 (Ksl g3 0 0) 0 (grsX []) := hO1 _ _ (by rw [eg3]; exact b2.size)
 have ⟨m5, m6, b3⟩ := KTk3 s3.old m3 m2 b2
 refine KLq ((pf g1 19)) (Lv (.slice aga (a.gs.length) (agc)) (Kxl m5.cel 19) (Fx.L.appAny (B := w.heap.size) (s := 5) (bytes := 40) (k := 0) (m := a.gs.length) (v := Ksl g3 0 0) (x := grsX []) (by rfl) rfl rfl rfl Try.underlying27 (by kernel_rfl) (by kernel_rfl) rfl rfl m4 (hga.up b3 rfl) (fun j _ => grs_one _ j) (by omega) (by omega) b3.size fun vv1 w4 ho1 hg1 hgv1 => ?_))
 rw [Nat.zero_add] at ho1
 obtain ⟨a1, cap1, rfl⟩ := ho1.val
 have hct1 := cOg hg1 m4
 have ⟨m8, m9⟩ := KCk2 hct1 m5 m6
 have m7 : Fx.Own w4 w.heap.size 59 5 (.slice a1 (a.gs.length) (cap1)) a.gs.length (grsX a.gs) := (ho1.congr (fun j hj => by rw [Nat.zero_mul]; rfl))
 have b4 : Below w.heap.size w w4 := bGr b3 hg1 b3.size (fun q hq => (m4.ge hq).1)
 refine KLq (.slice a1 (a.gs.length) (cap1)) (KLe (Ws (KWsl (KLq (Ki6 0) (KLe (Wb (Wo (fun f w_ => ∃ i : Nat, ∃ al : List GrM, ∃ n : Nat, ∃ ao : Option Addr, ∃ co : Nat, i ≤ b.gs.length ∧ AccG a.gs b.gs i al ∧ n = al.length ∧ f 2 = (pt g1) ∧ f 3 = (pt g2) ∧ f 6 = .slice ao (n) (co) ∧ f 7 = Ki6 ((i : Int)) ∧ Blk w_ g1 20 (stY (stS a ana anc aga agc)) 29 ∧ Blk w_ g2 20 (stY (stS b bna bnc bga bgc)) 29 ∧ Fx.Own w_ w.heap.size 59 5 (.slice ao (n) (co)) n (grsX al) ∧ Below w.heap.size w w_) (fun f _ => (b.gs.length - (intOf (f 7)).toNat)) ⟨0, a.gs, a.gs.length, a1, cap1, Nat.zero_le _, (AccG.zero sa), rfl, (by rfl), (by rfl), (by rfl), Fx.ic, m8, m9, m7, b4⟩ ?_)))))))
 rintro f1 w5 ⟨i, al, n, ao, co, hi, hac, hn, h1, h2, h3, h4, m10, m11, m12, b5⟩
 have hla := hac.len
 refine Ws (KWsl (KLh h4 (Lv ((pf g2 19)) (Kxf h2 19) (Lv (.slice bga (b.gs.length) (bgc)) (Kxl m11.cel 19) (KLq (Ki6 b.gs.length) ?_)))))
 by_cases c22 : (i : Int) < (b.gs.length : Int)
 ·refine Lv KbT (KltT c22) (KLe (KWcT (Wk (sN (Ws (Wb (KWsl (Lv ((pf g2 19)) (Kxf h2 19) (Lv (.slice bga (b.gs.length) (bgc)) (Kxl m11.cel 19) (KLh h4 ?_))))))))))
  obtain ⟨bq1, oq1, eq1, m13z⟩ := hgb (by omega)
  have lbq1z : bq1 < w.heap.size := m13z.lt (by omega)
  have m13 := m13z.below b5 lbq1z
  have lbq1 : bq1 < w5.heap.size := m13.lt (by omega)
  refine Lv ((pf bq1 (5 * i + oq1))) (Kxi 5 (hx := (rfl.trans (congrArg (fun q => Value.slice q (b.gs.length) (bgc)) eq1)))) (Lv (.agg (varr 5 (grZ (grA b.gs i)))) (KxA m13 (5 * i) (fun jq hjq => Fx.flat_at (k := i) (by omega) hjq)) (KLw 5 (fun i => (#[Ki6 0, Ku6 0, Ku6 0, Ki6 0, Ku6 0] : Array Value).getD i undef) fun g4 w6 eg4 m14 s4 z3 => ?_))
  have ⟨m15, m16, m17, m18, b6⟩ := KTk5 s4.old m10 m11 m12 m13 b5
  have lg4 := KGk eg4 b5.size
  have ⟨ng4m15, ng4m16⟩ := KNk2 eg4 m10.lt m11.lt
  have ng4m17 : (.slice ao (n) (co) : Value).ownBlock ≠ some g4 := by rw [eg4]; exact m12.notNew (Nat.le_refl _)
  have ng4m18 : bq1 ≠ g4 := by rw [eg4]; exact Nat.ne_of_lt (m13.lt (by omega))
  have tg4 := m14.lt
  refine KLsA m14 0 (h1 := (fun j _ => grZ_one _ j)) fun w7 m19 s5 z4 => ?_
  have m20 : Blk w7 g4 5 (grZ (grA b.gs i)) 59 := ovr_all m19
  have hct2 := cOs s5 m14.ty
  have ⟨m21, m22⟩ := KCk2 hct2 m15 m16
  have m23 := m17.stp s5 ng4m17
  have m24 := m18.stp s5 (by omega)
  have b7 := s5.below b6 b6.size (by omega)
  refine KLe (KWsl (KLq (Ki6 (-1)) (KLe (Ws (KWsl (KLq (Ki6 0) (KLe (Wb (Wo (fun f w_ => ∃ k : Nat, ∃ at9 : Int, k ≤ a.gs.length ∧ AtG a.gs (grA b.gs i) k at9 ∧ f 2 = (pt g1) ∧ f 3 = (pt g2) ∧ f 6 = .slice ao (n) (co) ∧ f 7 = Ki6 ((i : Int)) ∧ f 8 = (pt g4) ∧ f 9 = Ki6 at9 ∧ f 10 = Ki6 ((k : Int)) ∧ Blk w_ g1 20 (stY (stS a ana anc aga agc)) 29 ∧ Blk w_ g2 20 (stY (stS b bna bnc bga bgc)) 29 ∧ Fx.Own w_ w.heap.size 59 5 (.slice ao (n) (co)) n (grsX al) ∧ Blk w_ g4 5 (grZ (grA b.gs i)) 59 ∧ Below w.heap.size w w_) (fun f _ => (a.gs.length - (intOf (f 10)).toNat)) ⟨0, -1, Nat.zero_le _, (AtG.zero _ _), h1, h2, h3, (h4.trans Fx.ic), (by rfl), Fx.ic, Fx.ic, m21, m22, m23, m20, b7⟩ ?_)))))))))
  rintro f2 w8 ⟨k, at9, hk, hat, h5, h6, h7, h8, h9, h10, h11, m25, m26, m27, m28, b8⟩
  refine Ws (KWsl (KLh h11 (Lv ((pf g1 19)) (Kxf h5 19) (Lv (.slice aga (a.gs.length) (agc)) (Kxl m25.cel 19) (KLq (Ki6 a.gs.length) ?_)))))
  by_cases c34 : (k : Int) < (a.gs.length : Int)
  ·refine Lv KbT (KltT c34) (KLe (KWcT (Wk (sN (Ws (Wb (Ws ?_)))))))
   -- region 10 draws
   refine KWqd (Qv ((pf g1 19)) (fun v1 hv1 => Kxf h5 19) (Qv (.slice aga (a.gs.length) (agc)) (fun v1 hv1 => Kxl (m25.cel.dr hv1) 19) (KQh h11 ?_)))
   obtain ⟨bq2, oq2, eq2, m29z⟩ := hga (by omega)
   have lbq2z : bq2 < w.heap.size := m29z.lt (by omega)
   have m29 := m29z.below b8 lbq2z
   have lbq2 : bq2 < w8.heap.size := m29.lt (by omega)
   refine Qv ((pf bq2 (5 * k + oq2))) (fun v1 hv1 => Kxi 5 (hx := (rfl.trans (congrArg (fun q => Value.slice q (a.gs.length) (agc)) eq2)))) (KQq ((pf bq2 (5 * k + oq2))) (Qv (Ki6 ((grA a.gs k).o)) (fun v1 hv1 => Kxl (m29.dr hv1) (5 * k) (Fx.flat_cell (k := k) (j := 0) (by omega) (by omega) rfl)) (Qv ((pt g4)) (fun v1 hv1 => Kxf h9 0) (Qv (Ki6 ((grA b.gs i).o)) (fun v1 hv1 => Kxl (m28.cel.dr hv1) 0) ?_))))
   by_cases c45 : ((grA a.gs k).o) = ((grA b.gs i).o)
   ·refine Qv KbT (fun v1 hv1 => KeqT c45) (KQq KbT (Qv ((pf g1 19)) (fun v1 hv1 => Kxf h5 19) (Qv (.slice aga (a.gs.length) (agc)) (fun v1 hv1 => Kxl (m25.cel.dr hv1) 19) (KQh h11 (Qv ((pf bq2 (5 * k + oq2))) (fun v1 hv1 => Kxi 5 (hx := (rfl.trans (congrArg (fun q => Value.slice q (a.gs.length) (agc)) eq2)))) (KQq ((pf bq2 (5 * k + oq2 + 1))) (Qv (Ku6 ((grA a.gs k).r)) (fun v1 hv1 => Kxl (m29.dr hv1) (5 * k + 1) (Fx.flat_cell (k := k) (j := 1) (by omega) (by omega) rfl)) (Qv ((pf g4 1)) (fun v1 hv1 => Kxf h9 1) (Qv (Ku6 ((grA b.gs i).r)) (fun v1 hv1 => Kxl (m28.cel.dr hv1) 1) ?_)))))))))
    by_cases c55 : ((grA a.gs k).r) = ((grA b.gs i).r)
    ·refine Qv KbT (fun v1 hv1 => KeqT c55) (KQq KbT (Qn ?_))
     rintro _ ⟨qd, rfl⟩
     obtain ⟨wq1, ewq1⟩ : ∃ v1, v1 = World.drewN w8 qd := ⟨_, rfl⟩
     rw [← ewq1]
     have s6 : Stp w8.heap.size w8 wq1 := by rw [ewq1]; exact Sb (bdrN w8 qd)
     have ⟨m30, m31, m32, m33, b9⟩ := KTk5 s6.old m25 m26 m27 m28 b8
     clear ewq1
     refine sN (KWcT (Wl (KLh h11 (KLq (Ki6 k) (Ln (blkN (sN (Wl (KLh h11 (Lv (Ki6 ((k : Int) + 1)) KxP (KLq (Ki6 ((k : Int) + 1)) (Ln (lpN ⟨k + 1, (k : Int), by omega, (AtG.yes (by omega) ⟨c45, c55⟩), h5, h6, h7, (h8.trans Fx.ic), h9, Fx.ic, Fx.ic, m30, m31, m32, m33, b9⟩ ?_)))))))))))))
     show (a.gs.length - (intOf ((Ki6 ((k : Int) + 1)))).toNat) < _
     simp only [h11, intOf]; omega
    refine Qv KbF (fun v1 hv1 => KeqF c55) (KQq KbF (Qn ?_))
    rintro _ ⟨qd, rfl⟩
    obtain ⟨wq2, ewq2⟩ : ∃ v1, v1 = World.drewN w8 qd := ⟨_, rfl⟩
    rw [← ewq2]
    have s7 : Stp w8.heap.size w8 wq2 := by rw [ewq2]; exact Sb (bdrN w8 qd)
    have ⟨m35, m36, m37, m38, b10⟩ := KTk5 s7.old m25 m26 m27 m28 b8
    clear ewq2
    refine sN (KWcF (Wk (blkN (sN (Wl (KLh h11 (Lv (Ki6 ((k : Int) + 1)) KxP (KLq (Ki6 ((k : Int) + 1)) (Ln (lpN ⟨k + 1, at9, by omega, (hat.no (fun h => c55 h.2)), h5, h6, h7, (h8.trans Fx.ic), h9, (h10.trans Fx.ic), Fx.ic, m35, m36, m37, m38, b10⟩ ?_))))))))))
    show (a.gs.length - (intOf ((Ki6 ((k : Int) + 1)))).toNat) < _
    simp only [h11, intOf]; omega
   refine Qv KbF (fun v1 hv1 => KeqF c45) (KQq KbF (KQu (KQu (KQu (KQu (KQu (KQu (KQu (KQu (KQu (KQq KbF (Qn ?_))))))))))))
   rintro _ ⟨qd, rfl⟩
   obtain ⟨wq3, ewq3⟩ : ∃ v1, v1 = World.drewN w8 qd := ⟨_, rfl⟩
   rw [← ewq3]
   have s8 : Stp w8.heap.size w8 wq3 := by rw [ewq3]; exact Sb (bdrN w8 qd)
   have ⟨m40, m41, m42, m43, b11⟩ := KTk5 s8.old m25 m26 m27 m28 b8
   clear ewq3
   refine sN (KWcF (Wk (blkN (sN (Wl (KLh h11 (Lv (Ki6 ((k : Int) + 1)) KxP (KLq (Ki6 ((k : Int) + 1)) (Ln (lpN ⟨k + 1, at9, by omega, (hat.no (fun h => c45 h.1)), h5, h6, h7, (h8.trans Fx.ic), h9, (h10.trans Fx.ic), Fx.ic, m40, m41, m42, m43, b11⟩ ?_))))))))))
   show (a.gs.length - (intOf ((Ki6 ((k : Int) + 1)))).toNat) < _
   simp only [h11, intOf]; omega
  refine Lv KbF (KltF c34) (KLe (KWcF (Wx (seqX (lpX (blkX (sN (Ws (Ws ?_)))))))))
  have hat2 := hat
  rw [show k = a.gs.length by omega] at hat2
  refine Wl (KLh h10 ?_)
  by_cases c59 : at9 < 0
  ·refine Lv KbT (KltT c59) (KLe (KWcT (KWsl (KLh h7 (Lv (.agg (varr 5 (grZ (grA b.gs i)))) (KxA m28.cel 0 (ha := h9)) (Lbs (vs := [(0, .agg (varr 5 (grZ (grA b.gs i))))]) (s := 5) (zc := fun i => (#[Ki6 0, Ku6 0, Ku6 0, Ki6 0, Ku6 0] : Array Value).getD i undef) (y := ovr (fun j => (#[Ki6 0, Ku6 0, Ku6 0, Ki6 0, Ku6 0] : Array Value).getD (j % 5) undef) (0 * 5) 5 (grZ (grA b.gs i))) (by rfl) rfl rfl Try.underlying27 (by kernel_rfl) (by rfl) (by rfl) (by kernel_rfl) (by rw [fill_step (off := 0 * 5) (s := 5) (y := grZ (grA b.gs i)) rfl (cells_agg _ _) (by rfl)]; rfl) rfl fun g5 w9 eg5 m45 s9 z5 => ?_))))))
   have ⟨m46, m47, m48, m49, b12⟩ := KTk5 s9.old m25 m26 m27 m28 b8
   have lg5 := KGk eg5 b8.size
   have ⟨ng5m46, ng5m47⟩ := KNk2 eg5 m25.lt m26.lt
   have ng5m48 : (.slice ao (n) (co) : Value).ownBlock ≠ some g5 := by rw [eg5]; exact m27.notNew (Nat.le_refl _)
   have ng5m49 := KNk1 eg5 m28.lt
   have tg5 := m45.lt
   refine Lap (B := w.heap.size) (s := 5) (bytes := 40) (k := n) (m := 1) (v := .slice ao (n) (co)) (x := grsX al) (by rfl) rfl rfl rfl Try.underlying27 (by kernel_rfl) (by kernel_rfl) rfl rfl m48 m45.cel (fun j hj => by unfold ovr; rw [if_pos ⟨by omega, by omega⟩]; exact grZ_one _ _) (by omega) (by omega) (by omega) b12.size fun g6 cap2 w10 ho2 hg2 hgv2 hlt1 => ?_
   have hct3 := cOg hg2 m48
   have ⟨m51, m52⟩ := KCk2 hct3 m46 m47
   have ng6m53 : g4 ≠ g6 := fun e => hgv2.elim (fun e2 => ng4m17 (by rw [e]; exact e2)) (fun e2 => by have := m49.lt; omega)
   have m50 : Fx.Own w10 w.heap.size 59 5 (Ksl g6 (n + 1) cap2) (n + 1) (grsX (al ++ [(grA b.gs i)])) := (ho2.congr (grs_app1 (l := al) (x := (grA b.gs i)) hn))
   have b13 : Below w.heap.size w w10 := bGr b12 hg2 b12.size (fun q hq => (m48.ge hq).1)
   refine KLq (Ksl g6 (n + 1) cap2) (KLe (Wx (seqX (blkX (sN (Wl (KLh h8 (Lv (Ki6 ((i : Int) + 1)) KxP (KLq (Ki6 ((i : Int) + 1)) (Ln ?_))))))))))
   skip
   refine lpN ⟨i + 1, al ++ [(grA b.gs i)], n + 1, (some ⟨g6, 0, none⟩), cap2, by omega, (hac.snoc sb (by omega) (hat2.lt c59)), (by rw [List.length_append]; exact congrArg (· + 1) hn), h5, h6, (by rfl), Fx.ic, m51, m52, m50, b13⟩ ?_
   show (b.gs.length - (intOf ((Ki6 ((i : Int) + 1)))).toNat) < _
   simp only [h4, intOf]; omega
  refine Lv KbF (KltF c59) (KLe (KWcF (Wk (sN (Ws ?_)))))
  obtain ⟨kk, hkk, ekk, eid1, eid2⟩ := hat2.ge c59
  refine Wl (Lv ((pf g1 19)) (Kxf h5 19) (Lv (.slice aga (a.gs.length) (agc)) (Kxl m25.cel 19) (KLh (h10.trans (congrArg (Value.int .i64) ekk)) ?_)))
  obtain ⟨bq3, oq3, eq3, m54z⟩ := hga (by omega)
  have lbq3z : bq3 < w.heap.size := m54z.lt (by omega)
  have m54 := m54z.below b8 lbq3z
  have lbq3 : bq3 < w8.heap.size := m54.lt (by omega)
  refine Lv ((pf bq3 (5 * kk + oq3))) (Kxi 5 (hx := (rfl.trans (congrArg (fun q => Value.slice q (a.gs.length) (agc)) eq3)))) (Lv (.agg (varr 5 (grZ (grA a.gs kk)))) (KxA m54 (5 * kk) (fun jq hjq => Fx.flat_at (k := kk) (by omega) hjq)) (KLw 5 (fun i => (#[Ki6 0, Ku6 0, Ku6 0, Ki6 0, Ku6 0] : Array Value).getD i undef) fun g7 w11 eg7 m55 s10 z6 => ?_))
  have ⟨m56, m57, m58, m59, m60, b14⟩ := KTk6 s10.old m25 m26 m27 m28 m54 b8
  have lg7 := KGk eg7 b8.size
  have ⟨ng7m56, ng7m57⟩ := KNk2 eg7 m25.lt m26.lt
  have ng7m58 : (.slice ao (n) (co) : Value).ownBlock ≠ some g7 := by rw [eg7]; exact m27.notNew (Nat.le_refl _)
  have ng7m59 := KNk1 eg7 m28.lt
  have ng7m60 : bq3 ≠ g7 := by rw [eg7]; exact Nat.ne_of_lt (m54.lt (by omega))
  have tg7 := m55.lt
  refine KLsA m55 0 (h1 := (fun j _ => grZ_one _ j)) fun w12 m61 s11 z7 => ?_
  have m62 : Blk w12 g7 5 (grZ (grA a.gs kk)) 59 := ovr_all m61
  have hct4 := cOs s11 m55.ty
  have ⟨m63, m64⟩ := KCk2 hct4 m56 m57
  have m65 := m58.stp s11 ng7m58
  have m66 := m59.stp s11 (by omega)
  have m67 := m60.stp s11 (by omega)
  have b15 := s11.below b14 b14.size (by omega)
  refine KLe (Ws (KWsl (KLq ((pf g7 2)) (Lv (Ku6 ((grA a.gs kk).n)) (Kxl m62.cel 2) (Lv ((pf g4 2)) (Kxf h9 2) (Lv (Ku6 ((grA b.gs i).n)) (Kxl m66.cel 2) ?_))))))
  by_cases c73 : ((grA a.gs kk).n) = ((grA b.gs i).n)
  ·refine Lv KbF (KneF c73) (KLq KbF (KLq ((pf g7 3)) (Lv (Ki6 ((grA a.gs kk).a)) (Kxl m62.cel 3) (Lv ((pf g4 3)) (Kxf h9 3) (Lv (Ki6 ((grA b.gs i).a)) (Kxl m66.cel 3) ?_)))))
   by_cases c79 : ((grA a.gs kk).a) = ((grA b.gs i).a)
   ·refine Lv KbF (KneF c79) (KLq KbF (KLq KbF (KLq ((pf g7 4)) (Lv (Ku6 ((grA a.gs kk).b)) (Kxl m62.cel 4) (Lv ((pf g4 4)) (Kxf h9 4) (Lv (Ku6 ((grA b.gs i).b)) (Kxl m66.cel 4) ?_))))))
    by_cases c86 : ((grA a.gs kk).b) = ((grA b.gs i).b)
    ·refine Lv KbF (KneF c86) (KLq KbF (KLu (KLu (KLu (KLq KbF (KLq KbF (KLu (KLu (KLu (KLq KbF (KLq KbF (KLe (KWcF (Wk (sN ?_)))))))))))))))
     have hnb : ¬ GrBad (grA a.gs kk) (grA b.gs i) := by unfold GrBad; omega
     obtain ⟨gq1, eq4⟩ := m65.addr (by omega)
     have m68 : Fx.Own w12 w.heap.size 59 5 (Ksl gq1 n co) n (grsX al) := m65.congV (congrArg (fun q => Value.slice q n co) eq4)
     have lqgq1 : w.heap.size ≤ gq1 := (m68.ge rfl).1
     refine Wl (KLh h7 (KLh (h10.trans (congrArg (Value.int .i64) ekk)) (KLq ((pf g7 4)) (Lv (Ku6 ((grA a.gs kk).b)) (Kxl m62.cel 4) (Lv ((pf g4 4)) (Kxf h9 4) (Lv (Ku6 ((grA b.gs i).b)) (Kxl m66.cel 4) (Lv (Ku6 (mxI (grA a.gs kk).b (grA b.gs i).b)) (Fx.x_max rfl rfl rfl) (Lv ((pf gq1 (5 * kk))) (Kxi 5 (hx := (rfl.trans (congrArg (fun q => Value.slice q (n) (co)) eq4)))) (KLq ((pf gq1 (5 * kk + 4))) (KLo m68 (5 * kk + 4) (Ku6 (mxI (grA a.gs kk).b (grA b.gs i).b)) fun w13 m69 s12 z8 => ?_))))))))))
     have hct5 := cOs s12 m68.tyB
     have ⟨m70, m71⟩ := KCk2 hct5 m63 m64
     have m72 := m67.stp s12 (by omega)
     have b16 := s12.below b15 b15.size (by omega)
     have m73 : Fx.Own w13 w.heap.size 59 5 (Ksl gq1 n co) n (grsX (al.set kk (grJ (grA a.gs kk) (grA b.gs i)))) := m69.congr (grs_join hn (by omega) (by omega) (hac.at sa sb (by omega) hkk ⟨eid1, eid2⟩))
     refine Ln (blkN (sN (Wl (KLh h8 (Lv (Ki6 ((i : Int) + 1)) KxP (KLq (Ki6 ((i : Int) + 1)) (Ln ?_)))))))
     have m74 : Fx.Own w13 w.heap.size 59 5 (.slice ao (n) (co)) n (grsX (al.set kk (grJ (grA a.gs kk) (grA b.gs i)))) := m73.congV (congrArg (fun q => Value.slice q n co) eq4.symm)
     skip
     refine lpN ⟨i + 1, al.set kk (grJ (grA a.gs kk) (grA b.gs i)), n, ao, co, by omega, (hac.set sa sb (by omega) hkk ⟨eid1, eid2⟩ hnb), (by rw [List.length_set]; exact hn), h5, h6, h7, Fx.ic, m70, m71, m74, b16⟩ ?_
     show (b.gs.length - (intOf ((Ki6 ((i : Int) + 1)))).toNat) < _
     simp only [h4, intOf]; omega
    refine Lv KbT (KneT c86) (KLq KbT (KLq ((pf g7 4)) (Lv (Ku6 ((grA a.gs kk).b)) (Kxl m62.cel 4) ?_)))
    by_cases c90 : ((grA a.gs kk).b) = 0
    ·refine Lv KbF (KneF c90) (KLq KbF (KLq KbF (KLu (KLu (KLu (KLq KbF (KLq KbF (KLe (KWcF (Wk (sN ?_)))))))))))
     have hnb : ¬ GrBad (grA a.gs kk) (grA b.gs i) := by unfold GrBad; omega
     obtain ⟨gq2, eq5⟩ := m65.addr (by omega)
     have m75 : Fx.Own w12 w.heap.size 59 5 (Ksl gq2 n co) n (grsX al) := m65.congV (congrArg (fun q => Value.slice q n co) eq5)
     have lqgq2 : w.heap.size ≤ gq2 := (m75.ge rfl).1
     refine Wl (KLh h7 (KLh (h10.trans (congrArg (Value.int .i64) ekk)) (KLq ((pf g7 4)) (Lv (Ku6 ((grA a.gs kk).b)) (Kxl m62.cel 4) (Lv ((pf g4 4)) (Kxf h9 4) (Lv (Ku6 ((grA b.gs i).b)) (Kxl m66.cel 4) (Lv (Ku6 (mxI (grA a.gs kk).b (grA b.gs i).b)) (Fx.x_max rfl rfl rfl) (Lv ((pf gq2 (5 * kk))) (Kxi 5 (hx := (rfl.trans (congrArg (fun q => Value.slice q (n) (co)) eq5)))) (KLq ((pf gq2 (5 * kk + 4))) (KLo m75 (5 * kk + 4) (Ku6 (mxI (grA a.gs kk).b (grA b.gs i).b)) fun w14 m76 s13 z9 => ?_))))))))))
     have hct6 := cOs s13 m75.tyB
     have ⟨m77, m78⟩ := KCk2 hct6 m63 m64
     have m79 := m67.stp s13 (by omega)
     have b17 := s13.below b15 b15.size (by omega)
     have m80 : Fx.Own w14 w.heap.size 59 5 (Ksl gq2 n co) n (grsX (al.set kk (grJ (grA a.gs kk) (grA b.gs i)))) := m76.congr (grs_join hn (by omega) (by omega) (hac.at sa sb (by omega) hkk ⟨eid1, eid2⟩))
     refine Ln (blkN (sN (Wl (KLh h8 (Lv (Ki6 ((i : Int) + 1)) KxP (KLq (Ki6 ((i : Int) + 1)) (Ln ?_)))))))
     have m81 : Fx.Own w14 w.heap.size 59 5 (.slice ao (n) (co)) n (grsX (al.set kk (grJ (grA a.gs kk) (grA b.gs i)))) := m80.congV (congrArg (fun q => Value.slice q n co) eq5.symm)
     skip
     refine lpN ⟨i + 1, al.set kk (grJ (grA a.gs kk) (grA b.gs i)), n, ao, co, by omega, (hac.set sa sb (by omega) hkk ⟨eid1, eid2⟩ hnb), (by rw [List.length_set]; exact hn), h5, h6, h7, Fx.ic, m77, m78, m81, b17⟩ ?_
     show (b.gs.length - (intOf ((Ki6 ((i : Int) + 1)))).toNat) < _
     simp only [h4, intOf]; omega
    refine Lv KbT (KneT c90) (KLq KbT (KLq KbT (Lv ((pf g4 4)) (Kxf h9 4) (Lv (Ku6 ((grA b.gs i).b)) (Kxl m66.cel 4) ?_))))
    by_cases c95 : ((grA b.gs i).b) = 0
    ·refine Lv KbF (KneF c95) (KLq KbF (KLq KbF (KLe (KWcF (Wk (sN ?_))))))
     have hnb : ¬ GrBad (grA a.gs kk) (grA b.gs i) := by unfold GrBad; omega
     obtain ⟨gq3, eq6⟩ := m65.addr (by omega)
     have m82 : Fx.Own w12 w.heap.size 59 5 (Ksl gq3 n co) n (grsX al) := m65.congV (congrArg (fun q => Value.slice q n co) eq6)
     have lqgq3 : w.heap.size ≤ gq3 := (m82.ge rfl).1
     refine Wl (KLh h7 (KLh (h10.trans (congrArg (Value.int .i64) ekk)) (KLq ((pf g7 4)) (Lv (Ku6 ((grA a.gs kk).b)) (Kxl m62.cel 4) (Lv ((pf g4 4)) (Kxf h9 4) (Lv (Ku6 ((grA b.gs i).b)) (Kxl m66.cel 4) (Lv (Ku6 (mxI (grA a.gs kk).b (grA b.gs i).b)) (Fx.x_max rfl rfl rfl) (Lv ((pf gq3 (5 * kk))) (Kxi 5 (hx := (rfl.trans (congrArg (fun q => Value.slice q (n) (co)) eq6)))) (KLq ((pf gq3 (5 * kk + 4))) (KLo m82 (5 * kk + 4) (Ku6 (mxI (grA a.gs kk).b (grA b.gs i).b)) fun w15 m83 s14 z10 => ?_))))))))))
     have hct7 := cOs s14 m82.tyB
     have ⟨m84, m85⟩ := KCk2 hct7 m63 m64
     have m86 := m67.stp s14 (by omega)
     have b18 := s14.below b15 b15.size (by omega)
     have m87 : Fx.Own w15 w.heap.size 59 5 (Ksl gq3 n co) n (grsX (al.set kk (grJ (grA a.gs kk) (grA b.gs i)))) := m83.congr (grs_join hn (by omega) (by omega) (hac.at sa sb (by omega) hkk ⟨eid1, eid2⟩))
     refine Ln (blkN (sN (Wl (KLh h8 (Lv (Ki6 ((i : Int) + 1)) KxP (KLq (Ki6 ((i : Int) + 1)) (Ln ?_)))))))
     have m88 : Fx.Own w15 w.heap.size 59 5 (.slice ao (n) (co)) n (grsX (al.set kk (grJ (grA a.gs kk) (grA b.gs i)))) := m87.congV (congrArg (fun q => Value.slice q n co) eq6.symm)
     skip
     refine lpN ⟨i + 1, al.set kk (grJ (grA a.gs kk) (grA b.gs i)), n, ao, co, by omega, (hac.set sa sb (by omega) hkk ⟨eid1, eid2⟩ hnb), (by rw [List.length_set]; exact hn), h5, h6, h7, Fx.ic, m84, m85, m88, b18⟩ ?_
     show (b.gs.length - (intOf ((Ki6 ((i : Int) + 1)))).toNat) < _
     simp only [h4, intOf]; omega
    refine Lv KbT (KneT c95) (KLq KbT (KLq KbT (KLe (KWcT (KWsl (KLq (.slice none 0 0) (KLq (Ki6 14) (KLe (Wr (sR (blkR (sR (lpR (blkR (sR (Kret (.tuple #[.slice none 0 0, Ki6 14]) ?_))))))))))))))))
    exact .inl ⟨noneG sa sb (by omega) hkk ⟨eid1, eid2⟩ (by unfold GrBad; omega), rfl, b15⟩
   refine Lv KbT (KneT c79) (KLq KbT (KLq KbT (KLu (KLu (KLu (KLu (KLu (KLu (KLu (KLu (KLu (KLu (KLu (KLu (KLu (KLu (KLu (KLq KbT (KLe (KWcT (KWsl (KLq (.slice none 0 0) (KLq (Ki6 14) (KLe (Wr (sR (blkR (sR (lpR (blkR (sR (Kret (.tuple #[.slice none 0 0, Ki6 14]) ?_))))))))))))))))))))))))))))))))
   exact .inl ⟨noneG sa sb (by omega) hkk ⟨eid1, eid2⟩ (by unfold GrBad; omega), rfl, b15⟩
  refine Lv KbT (KneT c73) (KLq KbT (KLu (KLu (KLu (KLu (KLu (KLq KbT (KLq KbT (KLu (KLu (KLu (KLu (KLu (KLu (KLu (KLu (KLu (KLu (KLu (KLu (KLu (KLu (KLu (KLq KbT ?_))))))))))))))))))))))))
  refine KLe (KWcT (KWsl (KLq (.slice none 0 0) (KLq (Ki6 14) (KLe (Wr (sR (blkR (sR (lpR (blkR (sR (Kret (.tuple #[.slice none 0 0, Ki6 14]) ?_)))))))))))))
  exact .inl ⟨noneG sa sb (by omega) hkk ⟨eid1, eid2⟩ (by unfold GrBad; omega), rfl, b15⟩
 refine Lv KbF (KltF c22) (KLe (KWcF (Wx (seqX (lpX (blkX (sN (Ws (KWsl (KLq (Ki6 0) (KLe (Wb ?_))))))))))))
 have hac2 := hac
 rw [show i = b.gs.length by omega] at hac2
 refine Wo (fun f w_ => ∃ x9 : Nat, ∃ L : List GrM, x9 ≤ n ∧ Sd grLt gr0 al L x9 ∧ n = L.length ∧ f 6 = .slice ao (n) (co) ∧ f 12 = Ki6 ((x9 : Int)) ∧ Fx.Own w_ w.heap.size 59 5 (.slice ao (n) (co)) n (grsX L) ∧ Below w.heap.size w w_) (fun f _ => (n - (intOf (f 12)).toNat)) ⟨0, al, Nat.zero_le _, (Sd.zero al), hn, h3, Fx.ic, m12, b5⟩ ?_
 rintro f3 w16 ⟨x9, L, hx, hsd, hL, h12, h13, m89, b19⟩
 refine Ws (KWsl (KLh h13 (KLh h12 (KLq (Ki6 n) ?_))))
 by_cases c110 : (x9 : Int) < (n : Int)
 ·refine Lv KbT (KltT c110) (KLe (KWcT (Wk (sN (Ws (Wb (KWsl (KLh h13 (KLq (Ki6 x9) (KLe (Wb (Wo (fun f w_ => ∃ k : Nat, ∃ L2 : List GrM, k ≤ x9 ∧ Dn grLt gr0 al L2 x9 k ∧ n = L2.length ∧ f 6 = .slice ao (n) (co) ∧ f 12 = Ki6 ((x9 : Int)) ∧ f 13 = Ki6 ((k : Int)) ∧ Fx.Own w_ w.heap.size 59 5 (.slice ao (n) (co)) n (grsX L2) ∧ Below w.heap.size w w_) (fun f _ => (intOf (f 13)).toNat) ⟨x9, L, (Nat.le_refl _), hsd.dn, hL, h12, (h13.trans Fx.ic), Fx.ic, m89, b19⟩ ?_))))))))))))
  rintro f4 w17 ⟨k, L2, hk, hdn, hL2, h14, h15, h16, m90, b20⟩
  refine Ws (Ws ?_)
  obtain ⟨gq4, eq7⟩ := m90.addr (by omega)
  have m91 : Fx.Own w17 w.heap.size 59 5 (Ksl gq4 n co) n (grsX L2) := m90.congV (congrArg (fun q => Value.slice q n co) eq7)
  have lqgq4 : w.heap.size ≤ gq4 := (m91.ge rfl).1
  -- region 22 draws
  refine KWqb (KQh h16 ?_)
  by_cases c115 : 0 < (k : Int)
  ·refine Qv KbT (fun v1 hv1 => KgtT c115) (KQq KbT (KQh h14 (KQh h16 (Qv ((pf gq4 (5 * k))) (fun v1 hv1 => Kxi 5 (hx := (rfl.trans (congrArg (fun q => Value.slice q (n) (co)) eq7)))) (Qv (.agg (varr 5 (grZ (grA L2 k)))) (fun v1 hv1 => KxA (m91.cb hv1) (5 * k) (fun jq hjq => Fx.flat_at (k := k) (by omega) hjq)) (KQh h14 (KQh h16 (Qv (Ki6 ((k : Int) - 1)) (fun v1 hv1 => KxM) (Qv ((pf gq4 (5 * k - 5))) (fun v1 hv1 => Kxi 5 (hx := (rfl.trans (congrArg (fun q => Value.slice q (n) (co)) eq7)))) (Qv (.agg (varr 5 (grZ (grA L2 (k - 1))))) (fun v1 hv1 => KxA (m91.cb hv1) (5 * k - 5) (fun jq hjq => Fx.flat_at (k := k - 1) (by omega) hjq)) ?_))))))))))
   by_cases c126 : (decide (grLt (grA L2 k) (grA L2 (k - 1)))) = true
   ·refine KQc1 (fun _ _ => r_before (grA L2 k) (grA L2 (k - 1)) _) KbT (by rw [c126]) (KQq KbT (Qn ?_))
    intro wb1 hbwb1
    have ⟨m92, b21⟩ := KTk2 hbwb1 m91 b20
    refine sN (KWcT (Wk (sN (Ws (Wb ?_)))))
    -- region 24 draws
    refine KWm [0, 1, 2, 3, 4, 5, 6, 7, 9, 10, 11, 12, 8, 13, 14, 15, 16, 17] [0, 0, 0, 0, 0, 0, 0, 0, 4, 0, 0, 0, 0, 4, 0, 3, 0, 3] [(15, 8, [8]), (17, 8, [8]), (15, 13, [13]), (17, 13, [13]), (16, 15, [15]), (17, 15, [15])] fun wt1 hbwt1 hzwt1 => ?_
    have ⟨m93, b22⟩ := KTk2 hbwt1 m92 b21
    refine KRh h14 (KRh h16 (Rp (Ki6 ((k : Int) - 1)) (fun _ => KxM) (KRh h14 (KRh h16 (KRh h14 (KRh h16 (Rp ((pf gq4 (5 * k))) (fun _ => Kxi 5 (hx := (rfl.trans (congrArg (fun q => Value.slice q (n) (co)) eq7)))) (KRh h14 (KRh h16 (Rp (Ki6 ((k : Int) - 1)) (fun _ => KxM) (Rp ((pf gq4 (5 * k - 5))) (fun _ => Kxi 5 (hx := (rfl.trans (congrArg (fun q => Value.slice q (n) (co)) eq7)))) (Rs (.agg (varr 5 (grZ (grA L2 k)))) (KxA m93.cel (5 * k) (fun jq hjq => Fx.flat_at (k := k) (by omega) hjq)) ?_))))))))))))
    refine Rs (.agg (varr 5 (grZ (grA L2 (k - 1))))) (KxA m93.cel (5 * k - 5) (fun jq hjq => Fx.flat_at (k := k - 1) (by omega) hjq)) ?_
    refine Rp ((pf gq4 (5 * k - 5))) (fun _ => Kxi 5 (hx := (rfl.trans (congrArg (fun q => Value.slice q (n) (co)) eq7)))) (KRe (KLoA m93 (5 * k - 5) (h1 := (fun j _ => grZ_one _ j)) fun w18 m94 s17 z11 => ?_))
    have b23 := s17.below b22 b22.size (by omega)
    have m95 : Fx.Own w18 w.heap.size 59 5 (Ksl gq4 n co) n (grsX (L2.set (k - 1) (grA L2 k))) := m94.congr (grs_set hL2 (by omega) (by omega))
    refine Ln (Rp ((pf gq4 (5 * k))) (fun _ => Kxi 5 (hx := (rfl.trans (congrArg (fun q => Value.slice q (n) (co)) eq7)))) (KRe (KLoA m95 (5 * k) (h1 := (fun j _ => grZ_one _ j)) fun w19 m96 s18 z12 => ?_)))
    have b24 := s18.below b23 b23.size (by omega)
    have m97 : Fx.Own w19 w.heap.size 59 5 (Ksl gq4 n co) n (grsX (swp gr0 L2 k)) := m96.congr (grs_set (x := grA L2 (k - 1)) (by rw [List.length_set]; exact hL2) (by omega) (by omega))
    refine Ln (Rn (blkN (sN (Wl (KLh h16 (Lv (Ki6 ((k : Int) - 1)) KxM (KLq (Ki6 ((k : Int) - 1)) (Ln ?_))))))))
    have m98 : Fx.Own w19 w.heap.size 59 5 (.slice ao (n) (co)) n (grsX (swp gr0 L2 k)) := m97.congV (congrArg (fun q => Value.slice q n co) eq7.symm)
    refine lpN ⟨k - 1, swp gr0 L2 k, (by omega), (hdn.step kG (by omega) (by omega) (by omega) (of_decide_eq_true c126)), (by rw [swp_len]; exact hL2), h14, (h15.trans Fx.ic), Fx.ic, m98, b24⟩ ?_
    show (intOf ((Ki6 ((k : Int) - 1)))).toNat < _
    simp only [h16, intOf]; omega
   rw [Bool.not_eq_true] at c126
   refine KQc1 (fun _ _ => r_before (grA L2 k) (grA L2 (k - 1)) _) KbF (by rw [c126]) (KQq KbF (Qn ?_))
   intro wb2 hbwb2
   have ⟨m99, b25⟩ := KTk2 hbwb2 m91 b20
   refine sN (KWcF (Wx (seqX (lpX (blkX (blkN (sN (Wl (KLh h15 (Lv (Ki6 ((x9 : Int) + 1)) KxP (KLq (Ki6 ((x9 : Int) + 1)) (Ln ?_))))))))))))
   have m100 : Fx.Own wb2 w.heap.size 59 5 (.slice ao (n) (co)) n (grsX L2) := m99.congV (congrArg (fun q => Value.slice q n co) eq7.symm)
   refine lpN ⟨x9 + 1, L2, by omega, (hdn.out kG (by omega) (.inr (of_decide_eq_false c126))), hL2, h14, Fx.ic, m100, b25⟩ ?_
   show (n - (intOf ((Ki6 ((x9 : Int) + 1)))).toNat) < _
   simp only [h13, intOf]; omega
  refine Qv KbF (fun v1 hv1 => KgtF c115) (KQq KbF (KQu (KQu (KQu (KQu (KQu (KQu (KQu (KQu (KQu (KQu (KQq KbF (Qn ?_)))))))))))))
  intro wb3 hbwb3
  have ⟨m101, b26⟩ := KTk2 hbwb3 m91 b20
  refine sN (KWcF (Wx (seqX (lpX (blkX (blkN (sN (Wl (KLh h15 (Lv (Ki6 ((x9 : Int) + 1)) KxP (KLq (Ki6 ((x9 : Int) + 1)) (Ln ?_))))))))))))
  have m102 : Fx.Own wb3 w.heap.size 59 5 (.slice ao (n) (co)) n (grsX L2) := m101.congV (congrArg (fun q => Value.slice q n co) eq7.symm)
  refine lpN ⟨x9 + 1, L2, by omega, (hdn.out kG (by omega) (.inl (by omega))), hL2, h14, Fx.ic, m102, b26⟩ ?_
  show (n - (intOf ((Ki6 ((x9 : Int) + 1)))).toNat) < _
  simp only [h13, intOf]; omega
 refine Lv KbF (KltF c110) (KLe (KWcF (Wx (seqX (lpX (blkX (sN (KWsl (KLh h12 (KLq (.slice ao (n) (co)) (KLq (Ki6 0) (KLe (Wr (Kret (.tuple #[.slice ao (n) (co), Ki6 0]) ?_))))))))))))))
 have hsd2 := hsd
 rw [show x9 = L.length by omega] at hsd2
 exact .inr ⟨L, ao, co, doneG hac2 sa sb hsd2, by rw [← hL], by rw [← hL]; exact m89, b19⟩
section
namespace Rt
def cuY (a : Option Addr) (n c : Nat) (b : Bool) : Nat → Value := fun j => if j = 0 then .slice a n c else .bool b
def CuP (w0 w : World) (gc : Nat) (l : List UInt8) (s : Ct) : Prop :=
  ∃ ab nb cb, Blk w gc 2 (cuY ab nb cb s.2) 78 ∧ nb = l.length - s.1 ∧ nb ≤ cb ∧ s.1 ≤ l.length ∧ Arr w0 ab nb 1 (Fx.byY (l.drop s.1))
section
variable {w0 w w' : World} {gc : Nat} {l : List UInt8} {s : Ct} {a : Option Addr} {p k n : Nat}
theorem CuP.lt (h : CuP w0 w gc l s) : gc < w.heap.size := by obtain ⟨_, _, _, hb, _⟩ := h; exact hb.lt
theorem CuP.ty (h : CuP w0 w gc l s) : Fx.Ty w gc 78 := by obtain ⟨_, _, _, hb, _⟩ := h; exact hb.ty
theorem CuP.up (h : CuP w0 w gc l s) (hb : Below w.heap.size w w') : CuP w0 w' gc l s := by
  obtain ⟨ab, nb, cb, h1, h2⟩ := h
  exact ⟨ab, nb, cb, h1.stp (Sb hb) (Nat.ne_of_lt h1.lt), h2⟩
instance : Rt.Tr w w' (CuP w0 w gc l s) (CuP w0 w' gc l s) := ⟨fun b h => h.up b⟩
theorem CuP.chT {Ts : List TypeId} (h : CuP w0 w gc l s) (hc : ChT Ts w w') (hd : Ts.contains 78 = false) : CuP w0 w' gc l s := by
  obtain ⟨ab, nb, cb, h1, h2⟩ := h
  exact ⟨ab, nb, cb, h1.chT hc hd, h2⟩
instance {Ts : List TypeId} : Rt.Tc Ts w w' (CuP w0 w gc l s) (CuP w0 w' gc l s) (!(Ts.contains 78)) := ⟨fun b h e => h.chT b (by simpa using e)⟩
theorem CuP.stp {g : Nat} (h : CuP w0 w gc l s) (hs : Stp g w w') (ne : gc ≠ g) : CuP w0 w' gc l s := by
  obtain ⟨ab, nb, cb, h1, h2⟩ := h
  exact ⟨ab, nb, cb, h1.stp hs ne, h2⟩
theorem arr_drop (h : Arr w a n 1 (fun q => Fx.byY (l.drop p) (k * 1 + q))) : Arr w a n 1 (Fx.byY (l.drop (p + k))) := fun h0 => by
  obtain ⟨b, off, ea, hc⟩ := h h0
  refine ⟨b, off, ea, fun i hi => (hc i hi).trans (congrArg some ?_)⟩
  show Value.int .u8 (((l.drop p).getD (k * 1 + i) 0).toNat : Int) = .int .u8 (((l.drop (p + k)).getD i 0).toNat : Int)
  rw [List.getD_eq_getElem?_getD, List.getD_eq_getElem?_getD, List.getElem?_drop, List.getElem?_drop, Nat.mul_one, Nat.add_assoc]
end
end Rt
theorem r_cword (w0 : World) (gc : Nat) (l : List UInt8) (s : Ct) (k : Nat) (w : World) (hk : k = 1 ∨ k = 2 ∨ k = 4 ∨ k = 8) (hB0 : Below w0.heap.size w0 w) (hgc : w0.heap.size ≤ gc) (hl : l.length ≤ 100000000) (h : CuP w0 w gc l s) :
    Calls Try.prog 34 #[(pt gc), Ki6 ((k : Int))] w fun e w' => e = .returned (Ku6 (cutV l s k)) ∧ CuP w0 w' gc l (cutS l s k) ∧ Stp gc w w' := by
 obtain ⟨ab, nb, cb, hg, hnb, hcb, hsl, hb⟩ := h
 refine Kent Try.func34 49 ?_
 refine KWsl (KLq (Ku6 0) (KLe (Ws (KWsl (KLq ((pt gc)) (KLq ((pt gc)) (KLq ((pf gc 1)) ?_)))))))
 by_cases c10 : s.2 = true
 ·refine Lv KbT (Kxl hg.cel 1 ((show _ = Value.bool s.2 from rfl).trans (congrArg Value.bool c10))) (KLq KbT (KLu (KLu (KLu (KLu (KLu (KLu (KLu (KLq KbT (KLe (KWcT (KWsl (KLq ((pt gc)) (KLq ((pt gc)) (KLq ((pf gc 1)) (KLs hg 1 KbT fun w1 m1 s1 z1 => ?_))))))))))))))))
  have b1 := (sRf gc w).then s1 (by omega)
  refine KLe (KWsl (KLq (Ku6 0) (KLe (Wr (sR (Kret (Ku6 0) ?_))))))
  have hcy := cut_y (l := l) (s := s) (k := k) (.inl c10) hsl
  exact ⟨by rw [hcy.2], by rw [hcy.1]; exact ⟨ab, nb, cb, m1.congr (fun j hj => by rcases j with _|_|j <;> first | rfl | omega), hnb, hcb, hsl, hb⟩, b1⟩
 rw [Bool.not_eq_true] at c10
 refine Lv KbF (Kxl hg.cel 1 ((show _ = Value.bool s.2 from rfl).trans (congrArg Value.bool c10))) (KLq KbF (KLq ((pt gc)) (KLq ((pt gc)) (KLq ((pt gc)) (Lv (.slice ab (nb) (cb)) (Kxl hg.cel 0) (KLq (Ki6 nb) (KLq (Ki6 k) ?_)))))))
 by_cases c18 : (nb : Int) < (k : Int)
 ·refine Lv KbT (KltT c18) (KLq KbT (KLe (KWcT (KWsl (KLq ((pt gc)) (KLq ((pt gc)) (KLq ((pf gc 1)) (KLs hg 1 KbT fun w2 m2 s2 z2 => ?_))))))))
  have b2 := (sRf gc w).then s2 (by omega)
  refine KLe (KWsl (KLq (Ku6 0) (KLe (Wr (sR (Kret (Ku6 0) ?_))))))
  have hcy := cut_y (l := l) (s := s) (k := k) (.inr (by omega)) hsl
  exact ⟨by rw [hcy.2], by rw [hcy.1]; exact ⟨ab, nb, cb, m2.congr (fun j hj => by rcases j with _|_|j <;> first | rfl | omega), hnb, hcb, hsl, hb⟩, b2⟩
 refine Lv KbF (KltF c18) (KLq KbF (KLe (KWcF (Wk (sN (KWsl (KLq (Ku6 0) (KLe (Ws (KWsl (KLq (Ki6 0) (KLe (Wb (Wo (fun f w_ => ∃ i : Nat, i ≤ k ∧ f 0 = (pt gc) ∧ f 1 = Ki6 ((k : Int)) ∧ f 5 = Ku6 (valB ((l.drop s.1).take i)) ∧ f 6 = Ki6 ((i : Int)) ∧ Blk w_ gc 2 (cuY ab nb cb s.2) 78 ∧ Stp gc w w_) (fun f _ => (k - (intOf (f 6)).toNat)) ⟨0, by omega, (by rfl), Fx.ic, (congrArg (Value.int .u64) (show (0 : Int) = valB ((l.drop s.1).take 0) from rfl)), Fx.ic, hg, (sRf gc w)⟩ ?_))))))))))))))
 rintro f1 w3 ⟨i, hi, h1, h2, h3, h4, m3, b3⟩
 refine Ws (KWsl (KLh h4 (KLh h2 ?_)))
 by_cases c25 : (i : Int) < (k : Int)
 ·refine Lv KbT (KltT c25) (KLe (KWcT (Wk (sN (Ws (Wb ?_))))))
  obtain ⟨bq9, oq9, eq9, mq9⟩ := (hb.up (b3.below hB0 hB0.size hgc) rfl) (by omega)
  have hv8 := val_take (l := l.drop s.1) (show i < 8 by omega)
  have hcb9 := u8_bd ((l.drop s.1).getD i 0)
  have hdl : (l.drop s.1).length = nb := by rw [List.length_drop, ← hnb]
  refine Wl (KLh h3 (Lv (Ku6 (256 * valB ((l.drop s.1).take i))) (Fx.x_shl (b := 8) rfl rfl rfl (by decide) (u64e (by omega) (by omega))) (KLh h1 (KLq ((pt gc)) (KLq ((pt gc)) (Lv (.slice ab (nb) (cb)) (Kxl m3.cel 0) (KLh h4 (Lv ((pf bq9 (i + oq9))) (Kxi 1 (hx := (rfl.trans (congrArg (fun q => Value.slice q (nb) (cb)) eq9)))) (Lv (.int .u8 (((((l.drop s.1)).getD i 0).toNat : Int))) (Kxl mq9 i) (Lv (Ku6 ((((l.drop s.1)).getD i 0).toNat : Int)) (x_conv rfl rfl (by kernel_rfl) Try.underlying23 (u64e (by omega) rfl)) (Lv (Ku6 (valB ((l.drop s.1).take (i + 1)))) (Fx.x_or rfl rfl rfl (or_step (by omega) (by omega))) (KLq (Ku6 (valB ((l.drop s.1).take (i + 1)))) (Ln (blkN (sN (Wl (KLh h4 (Lv (Ki6 ((i : Int) + 1)) KxP (KLq (Ki6 ((i : Int) + 1)) (Ln (lpN ⟨i + 1, by omega, h1, (h2.trans Fx.ic), (by rfl), Fx.ic, m3, b3⟩ ?_)))))))))))))))))))))
  show (k - (intOf ((Ki6 ((i : Int) + 1)))).toNat) < _
  simp only [h4, intOf]; omega
 refine Lv KbF (KltF c25) (KLe (KWcF (Wx (seqX (lpX (blkX (sN (KWsl (KLh h1 (KLh h1 (KLq ((pt gc)) (KLq ((pt gc)) (Lv (.slice ab (nb) (cb)) (Kxl m3.cel 0) (KLh h2 (Fx.L.sl (w0 := w0) (j := k) (h := nb) (s := 1) (y := Fx.byY (l.drop s.1)) (by rfl) (by rfl) rfl rfl (by rw [if_neg (by rintro ⟨_, h⟩; cases h)]; exact congrArg some rfl) (by rw [if_pos ⟨rfl, rfl⟩]; rfl) Try.underlying30 (by kernel_rfl) (by omega) (Nat.le_refl _) hcb hb fun as1 has1 => ?_)))))))))))))))
 refine KLq ((pt gc)) (KLq ((pt gc)) (KLs m3 0 (.slice as1 ((nb - k)) ((cb - k))) fun w4 m4 s3 z3 => ?_))
 have b4 := b3.then s3 (by omega)
 refine KLe (KWsl (KLh h3 (KLq (Ku6 (valB ((l.drop s.1).take i))) (KLe (Wr (Kret (Ku6 (valB ((l.drop s.1).take i))) ?_))))))
 have hcy := cut_n (l := l) (s := s) (k := k) c10 (by omega) hsl
 exact ⟨by rw [hcy.2, show k = i by omega], by rw [hcy.1]; exact ⟨as1, nb - k, cb - k, m4.congr (fun j hj => by rcases j with _|_|j <;> first | rfl | exact congrArg Value.bool c10 | omega), by show nb - k = l.length - (s.1 + k); omega, by omega, by show s.1 + k ≤ _; omega, arr_drop has1⟩, b4⟩
theorem r_crow (w0 : World) (gc : Nat) (l : List UInt8) (s : Ct) (w : World) (hB0 : Below w0.heap.size w0 w) (hgc : w0.heap.size ≤ gc) (hl : l.length ≤ 100000000) (h : CuP w0 w gc l s) :
    Calls Try.prog 35 #[(pt gc)] w fun e w' => e = .returned (.agg (varr 6 (rv .i64 (fun q => i64w (rowV l s 8 q))))) ∧ CuP w0 w' gc l (cutN l 8 6 s) ∧ Stp gc w w' := by
 have lgc := h.lt
 have h0 : CuP w0 w gc l (cutN l 8 0 s) := h
 refine Kent Try.func35 15 ?_
 refine KWsl (Lnw (m := 6) (y := rv .i64 (fun _ => 0)) (by rfl) rfl (by kernel_rfl) rfl fun g1 w1 eg1 m1 s1 z1 => ?_)
 have m2 := KTk1 s1.old h0
 have b1 := (sRf gc w).then s1 (.inr (sRf gc w).size)
 have lg1 : w.heap.size ≤ g1 := by rw [eg1]; exact (sRf gc w).size
 have tg1 := m1.lt
 refine KLe (KWsl (Lnw (m := 6) (y := rv .i64 (fun _ => 0)) (by rfl) rfl (by kernel_rfl) rfl fun g2 w2 eg2 m3 s2 z2 => ?_))
 have ⟨m4, m5⟩ := KTk2 s2.old m2 m1
 have b2 := b1.then s2 (.inr b1.size)
 have lg2 := KGk eg2 b1.size
 have ng2m5 := KNk1 eg2 m1.lt
 have tg2 := m3.lt
 refine KLe (Ws (Ws ?_))
 have m6 : Blk w2 g2 6 (ovr (fun _ => Ki6 0) 0 0 (rv .i64 (fun q => i64w (rowV l s 8 q)))) 45 := m3.congr (fun j _ => (by unfold ovr; rw [if_neg (by omega)]; rfl))
 refine Wl (KLq (Ki6 0) (KLe (Wb (Wo (fun f w_ => ∃ i : Nat, i ≤ 6 ∧ f 0 = (pt gc) ∧ f 2 = (pt g1) ∧ f 3 = (pt g2) ∧ f 4 = Ki6 ((i : Int)) ∧ CuP w0 w_ gc l (cutN l 8 i s) ∧ Blk w_ g2 6 (ovr (fun _ => Ki6 0) 0 i (rv .i64 (fun q => i64w (rowV l s 8 q)))) 45 ∧ Blk w_ g1 6 (rv .i64 (fun _ => 0)) 45 ∧ Stp gc w w_) (fun f _ => (6 - (intOf (f 4)).toNat)) ⟨0, by omega, (by rfl), (by rfl), (by rfl), Fx.ic, m4, m6, m5, b2⟩ ?_))))
 rintro f1 w3 ⟨i, hi, h1, h2, h3, h4, m7, m8, m9, b3⟩
 refine Ws (KWsl (KLh h4 ?_))
 by_cases c6 : (i : Int) < 6
 ·refine Lv KbT (KltT c6) (KLe (KWcT (Wk (sN (Ws (Wb (Wl (KLh h4 (KLh h1 (KLc1 (r_cword w0 gc l (cutN l 8 i s) 8 _ (by omega) (b3.below hB0 hB0.size hgc) hgc hl m7) _ rfl ?_))))))))))
  rintro w4 ⟨hq1, s3⟩
  have hct1 := cOs s3 m7.ty
  have ⟨m10, m11⟩ := KCk2 hct1 m8 m9
  have b4 := b3.then s3 (by omega)
  refine Lv (Ki6 (i64w (rowV l s 8 i))) (x_conv rfl rfl (by kernel_rfl) Try.underlying2 rfl) (Lv ((pf g2 i)) (Kxj 6 1 (hx := h3)) (KLs m10 i (Ki6 (i64w (rowV l s 8 i))) fun w5 m12 s4 z3 => ?_))
  have m13 : Blk w5 g2 6 (ovr (fun _ => Ki6 0) 0 (i + 1) (rv .i64 (fun q => i64w (rowV l s 8 q)))) 45 := m12.congr (fun j hj => (by have q9 := ovr_row (fun _ => Value.int .i64 0) 0 i (rv .i64 (fun q => i64w (rowV l s 8 q))) (N := 6) (v := Ki6 (i64w (rowV l s 8 i))) rfl j hj; rw [Nat.add_zero] at q9; exact q9))
  have m14 := m11.stp s4 (by omega)
  have hct2 := cOs s4 m10.ty
  have m15 := KCk1 hct2 hq1
  have b5 := b4.then s4 (by omega)
  refine Ln (blkN (sN (Wl (KLh h4 (Lv (Ki6 ((i : Int) + 1)) KxP (KLq (Ki6 ((i : Int) + 1)) (Ln (lpN ⟨i + 1, by omega, h1, h2, h3, Fx.ic, m15, m13, m14, b5⟩ ?_))))))))
  show (6 - (intOf ((Ki6 ((i : Int) + 1)))).toNat) < _
  simp only [h4, intOf]; omega
 refine Lv KbF (KltF c6) (KLe (KWcF (Wx (seqX (lpX (blkX (sN (Ws ?_))))))))
 have m16 : Blk w3 g2 6 (rv .i64 (fun q => i64w (rowV l s 8 q))) 45 := m8.congr (fun j hj => (by unfold ovr; rw [if_pos (by omega), Nat.sub_zero]))
 refine Wl (Lv (.agg (varr 6 (rv .i64 (fun q => i64w (rowV l s 8 q))))) (KxA m16.cel 0 (ha := h3)) (KLsA m9 0 (ha := h2) fun w6 m17 s5 z4 => ?_))
 have m18 : Blk w6 g1 6 (rv .i64 (fun q => i64w (rowV l s 8 q))) 45 := ovr_all m17
 have hct3 := cOs s5 m9.ty
 have m19 := KCk1 hct3 m7
 have m20 := m16.stp s5 (by omega)
 have b6 := b3.then s5 (by omega)
 refine KLe (Wr (⟨.agg (varr 6 (rv .i64 (fun q => i64w (rowV l s 8 q)))), rV Try.results35 ⟨_, h2, run_loadV m18.cel (by kernel_rfl) (by kernel_rfl)⟩, ?_⟩))
 exact ⟨rfl, by rw [← show i = 6 by omega]; exact m19, b6⟩
end
set_option linter.unusedVariables false
namespace Rt
theorem stY_setKnown (M : StM) {i p : Nat} {v : Int} (hi : i < 6) (hp : p = 12 + i) : ∀ j, j < 20 → updV (stY M) p (Ku6 v) j = stY { M with known := fun q => if q = i then v else M.known q } j := fun j hj => by
  subst hp
  unfold updV
  by_cases c1 : j < 6
  · rw [if_neg (by omega), stY_in _ c1, stY_in _ c1]
  · by_cases c2 : j < 12
    · rw [if_neg (by omega), stY_left (p := j - 6) M (by omega) (by omega), stY_left (p := j - 6) _ (by omega) (by omega)]
    · by_cases c3 : j < 18
      · rw [stY_known (p := j - 12) M (by omega) (by omega), stY_known (p := j - 12) _ (by omega) (by omega)]
        show _ = Value.int .u64 (if j - 12 = i then v else M.known (j - 12))
        by_cases e : j = 12 + i
        · rw [if_pos e, if_pos (by omega)]
        · rw [if_neg e, if_neg (by omega)]
      · rw [if_neg (by omega)]; unfold stY; rw [if_neg c1, if_neg c1, if_neg c2, if_neg c2, if_neg c3, if_neg c3]
def GK (l : List UInt8) (i : Nat) : StM := { GM l 6 6 with known := fun q => if q < i then rowV l (s10 l) 8 q else 0 }
theorem GK_0 (l : List UInt8) : ∀ j, j < 20 → stY (GM l 6 6) j = stY (GK l 0) j := stY_cong (m := GM l 6 6) (k := GK l 0) (fun _ _ => rfl) (fun _ _ => rfl) (fun q _ => by show (0 : Int) = (if q < 0 then rowV l (s10 l) 8 q else 0); rw [if_neg (Nat.not_lt_zero q)]) rfl rfl
theorem GK_s {l : List UInt8} {i p : Nat} (hi : i < 6) (hp : p = 12 + i) : ∀ j, j < 20 → updV (stY (GK l i)) p (Ku6 (rowV l (s10 l) 8 i)) j = stY (GK l (i + 1)) j := fun j hj => by
  rw [stY_setKnown _ hi hp j hj]
  refine stY_cong (m := { GK l i with known := fun q => if q = i then rowV l (s10 l) 8 i else (GK l i).known q }) (k := GK l (i + 1)) (fun _ _ => rfl) (fun _ _ => rfl) (fun q _ => ?_) rfl rfl j hj
  show (if q = i then rowV l (s10 l) 8 i else if q < i then rowV l (s10 l) 8 q else 0) = (if q < i + 1 then rowV l (s10 l) 8 q else 0)
  by_cases e : q = i
  · rw [if_pos e, if_pos (by omega), e]
  · rw [if_neg e]
    by_cases c : q < i
    · rw [if_pos c, if_pos (by omega)]
    · rw [if_neg c, if_neg (by omega)]
theorem GK_6 (l : List UInt8) : ∀ j, j < 20 → stY (GK l 6) j = stY (GN l none 0 0 none 0 0) j := stY_cong (m := GK l 6) (k := GN l none 0 0 none 0 0) (fun q hq => if_pos hq) (fun q hq => if_pos hq) (fun q hq => if_pos hq) rfl rfl
theorem rem2 {x : Int} (h : 0 ≤ x) : x.tmod 2 = x % 2 := Int.tmod_eq_emod_of_nonneg h
theorem quo2 {x : Int} (h : 0 ≤ x ∧ x ≤ 18446744073709551615) : IntKind.u64.wrap (x.tdiv 2) = x / 2 := by rw [Int.tdiv_eq_ediv_of_nonneg h.1]; exact u64e (by omega) rfl
end Rt
theorem Fx.x_neqS2 {P : Program} {f : Nat → Value} {o : Oper} {w : World} {T T' : TypeId} {x y : Operand} {l l' : List UInt8} (ho : o.op = .binOp .neq T x y T') (hx : ev f x = .string (Fx.strL l)) (hy : ev f y = .string (Fx.strL l')) : Fx.Runs P f o w (.bool (!decide (l = l'))) := by
  unfold Fx.Runs execOp
  simp only [ho, hx, hy]
  have hg : (eqGuard .neq T x y (.string (Fx.strL l)) (.string (Fx.strL l'))).run P w = .ok () w := by unfold eqGuard; rfl
  simp only [Sem.run_bind, hg, Result.andThen_ok]
  simp [binOp, Op.stringOp, Fx.strL_list]
  by_cases h : l = l'
  · simp [h]
  simp [h]
set_option maxRecDepth 20000 in
set_option maxHeartbeats 8000000 in
theorem r_get (a : Option Addr) (n c : Nat) (l : List UInt8) (w : World) (hn : n = l.length) (hc : n ≤ c) (hl : l.length ≤ 100000000) (hb : Arr w a n 1 (Fx.byY l)) :
    Calls Try.prog 11 #[.slice a (n) (c)] w fun e w' => ∃ na nc ga gc, e = .returned (.tuple #[.agg (varr 20 (stY (stS (getV l) na nc ga gc))), Ki6 (getE l)]) ∧ Fx.Own w' w.heap.size 50 56 (.slice na (getV l).ns.length nc) (getV l).ns.length (ndsX (getV l).ns) ∧ Fx.Own w' w.heap.size 59 5 (.slice ga (getV l).gs.length gc) (getV l).gs.length (grsX (getV l).gs) ∧ Below w.heap.size w w' := by
 refine Kent Try.func11 152 ?_
 refine KWsl (Lnw (m := 20) (y := fun zq => if zq < 12 then .bool false else if zq < 18 then Ku6 0 else .slice none 0 0) (by rfl) rfl (by kernel_rfl) rfl fun g1 w1 eg1 m1 s1 z1 => ?_)
 have b1 := KTk1 s1.old (Below.refl w.heap.size w)
 have lg1 := KGk0 eg1
 have tg1 := m1.lt
 refine KLq (Ki6 0) (KLe (KWsl (KLq (.slice a (n) (c)) (KLq (.agg (varr 2 (ovr (fun zq => if zq < 1 then .slice none 0 0 else .bool false) 0 1 (fun _ => .slice a (n) (c))))) (KLb fun g2 w2 eg2 m2 s2 z2 => ?_)))))
 have ⟨m3, b2⟩ := KTk2 s2.old m1 b1
 have lg2 := KGk eg2 b1.size
 have ng2m3 := KNk1 eg2 m1.lt
 have tg2 := m2.lt
 refine KLq ((pt g2)) (KLe (Ws ?_))
 have hcu1 : CuP w w2 g2 l (0, false) := ⟨a, n, c, m2.congr (fun j hj => match j, hj with | 0, _ => rfl | 1, _ => rfl | j + 2, h => absurd h (by omega)), by rw [hn]; rfl, hc, Nat.zero_le _, hb⟩
 refine Wl (KLq ((pt g2)) (KLc1 (r_cword w g2 l (0, false) 4 _ (by decide) b2 lg2 hl hcu1) _ rfl ?_))
 rintro w3 ⟨hq1, s3⟩
 have hct1 := cOs s3 hcu1.ty
 have m4 := KCk1 hct1 m3
 have b3 := s3.below b2 b2.size (by omega)
 have hcu2 : CuP w w3 g2 l (Rt.s4 l) := hq1
 refine KLe (KWsl (KLq (.agg (varr 20 (fun zq => if zq < 12 then .bool false else if zq < 18 then Ku6 0 else .slice none 0 0))) (KLw 20 (fun zq => if zq < 12 then .bool false else if zq < 18 then Ku6 0 else .slice none 0 0) fun g3 w4 eg3 m5 s4 z3 => ?_)))
 have ⟨m6, m7, b4⟩ := KTk3 s4.old m4 hcu2 b3
 have lg3 := KGk eg3 b3.size
 have ng3m6 := KNk1 eg3 m4.lt
 have tg3 := m5.lt
 refine KLsA m5 0 (h1 := (fun jq _ => by show ((fun zq => if zq < 12 then .bool false else if zq < 18 then Ku6 0 else .slice none 0 0 : Nat → Value) jq).oneCell' = true; simp only []; repeat (first | rfl | split))) fun w5 m8 s5 z4 => ?_
 have m9 : Blk w5 g3 20 (fun zq => if zq < 12 then .bool false else if zq < 18 then Ku6 0 else .slice none 0 0) 29 := ovr_all m8
 have m11 := m6.stp s5 (by omega)
 have hct2 := cOs s5 m5.ty
 have m12 := KCk1 hct2 m7
 have b5 := s5.below b4 b4.size (by omega)
 refine KLe (Ws (Ws ?_))
 have m13 : Blk w5 g3 20 (stY mz) 29 := m9.congr (fun j hj => match j, hj with | 0, _ => rfl | 1, _ => rfl | 2, _ => rfl | 3, _ => rfl | 4, _ => rfl | 5, _ => rfl | 6, _ => rfl | 7, _ => rfl | 8, _ => rfl | 9, _ => rfl | 10, _ => rfl | 11, _ => rfl | 12, _ => rfl | 13, _ => rfl | 14, _ => rfl | 15, _ => rfl | 16, _ => rfl | 17, _ => rfl | 18, _ => rfl | 19, _ => rfl | j + 20, h => absurd h (by omega))
 have m14 : Blk w5 g3 20 (stY (GM l 0 0)) 29 := m13.congr (GM_0 l)
 refine Wl (KLq (Ki6 0) (KLe (Wb (Wo (fun f w_ => ∃ i : Nat, i ≤ 6 ∧ f 0 = .slice a (n) (c) ∧ f 2 = (pt g1) ∧ f 4 = (pt g2) ∧ f 5 = (pt g3) ∧ f 6 = Ki6 ((i : Int)) ∧ Blk w_ g1 20 (fun zq => if zq < 12 then .bool false else if zq < 18 then Ku6 0 else .slice none 0 0) 29 ∧ CuP w w_ g2 l (cutN l 1 i (Rt.s4 l)) ∧ Blk w_ g3 20 (stY (GM l i i)) 29 ∧ Below w.heap.size w w_) (fun f _ => (6 - (intOf (f 6)).toNat)) ⟨0, by omega, (by rfl), (by rfl), (by rfl), (by rfl), Fx.ic, m11, m12, m14, b5⟩ ?_))))
 rintro f1 w6 ⟨i, hi, h1, h2, h3, h4, h5, m15, m16, m17, b6⟩
 refine Ws (KWsl (KLh h5 ?_))
 by_cases c22 : (i : Int) < 6
 ·refine Lv KbT (KltT c22) (KLe (KWcT (Wk (sN (Ws (Wb (KWsl (KLh h3 (KLc1 (r_cword w g2 l (cutN l 1 i (Rt.s4 l)) 1 _ (by decide) b6 lg2 hl m16) _ rfl ?_)))))))))
  rintro w7 ⟨hq2, s6⟩
  have hct3 := cOs s6 m16.ty
  have ⟨m18, m19⟩ := KCk2 hct3 m15 m17
  have b7 := s6.below b6 b6.size (by omega)
  have hcu3 : CuP w w7 g2 l (cutN l 1 (i + 1) (Rt.s4 l)) := hq2
  refine KLq (Ku6 (rowV l (Rt.s4 l) 1 i)) (KLe (KWsl (KLh h5 (KLq (Ku6 (rowV l (Rt.s4 l) 1 i)) (Lv (Ku6 (rowV l (Rt.s4 l) 1 i % 2)) (Fx.x_rem rfl rfl rfl (by omega) (rem2 (row_u 1 i (by decide)).1)) ?_)))))
  by_cases c30 : (rowV l (Rt.s4 l) 1 i % 2) = 1
  ·refine Lv KbT (KeqT c30) (Lv ((pt g3)) (Kxf h4 0) (Lv ((pf g3 i)) (Kxj 6 1) (KLs m19 i KbT fun w8 m20 s7 z5 => ?_)))
   have m21 : Blk w8 g3 20 (stY (GM l (i + 1) i)) 29 := m20.congr (G_in (by omega) (decide_eq_true c30).symm)
   have m22 := m18.stp s7 (by omega)
   have hct4 := cOs s7 m19.ty
   have m23 := KCk1 hct4 hcu3
   have b8 := s7.below b7 b7.size (by omega)
   refine KLe (Wl (KLh h5 (KLq (Ku6 (rowV l (Rt.s4 l) 1 i)) (Lv (Ku6 (rowV l (Rt.s4 l) 1 i / 2)) (Fx.x_quo rfl rfl rfl (by omega) (quo2 (row_u 1 i (by decide)))) (Lv (Ku6 (rowV l (Rt.s4 l) 1 i / 2 % 2)) (Fx.x_rem rfl rfl rfl (by omega) (rem2 (Int.ediv_nonneg (row_u 1 i (by decide)).1 (by decide)))) ?_)))))
   by_cases c37 : (rowV l (Rt.s4 l) 1 i / 2 % 2) = 1
   ·refine Lv KbT (KeqT c37) (Lv ((pf g3 6)) (Kxf h4 6) (Lv ((pf g3 (i + 6))) (Kxj 6 1) (KLs m21 (i + 6) KbT fun w9 m24 s8 z6 => ?_)))
    have m25 : Blk w9 g3 20 (stY (GM l (i + 1) (i + 1))) 29 := m24.congr (G_left (by omega) (by omega) (decide_eq_true c37).symm)
    have m26 := m22.stp s8 (by omega)
    have hct5 := cOs s8 m21.ty
    have m27 := KCk1 hct5 m23
    have b9 := s8.below b8 b8.size (by omega)
    refine Ln (blkN (sN (Wl (KLh h5 (Lv (Ki6 ((i : Int) + 1)) KxP (KLq (Ki6 ((i : Int) + 1)) (Ln (lpN ⟨i + 1, by omega, h1, h2, h3, h4, Fx.ic, m26, m27, m25, b9⟩ ?_))))))))
    show (6 - (intOf ((Ki6 ((i : Int) + 1)))).toNat) < _
    simp only [h5, intOf]; omega
   refine Lv KbF (KeqF c37) (Lv ((pf g3 6)) (Kxf h4 6) (Lv ((pf g3 (i + 6))) (Kxj 6 1) (KLs m21 (i + 6) KbF fun w10 m28 s9 z7 => ?_)))
   have m29 : Blk w10 g3 20 (stY (GM l (i + 1) (i + 1))) 29 := m28.congr (G_left (by omega) (by omega) (decide_eq_false c37).symm)
   have m30 := m22.stp s9 (by omega)
   have hct6 := cOs s9 m21.ty
   have m31 := KCk1 hct6 m23
   have b10 := s9.below b8 b8.size (by omega)
   refine Ln (blkN (sN (Wl (KLh h5 (Lv (Ki6 ((i : Int) + 1)) KxP (KLq (Ki6 ((i : Int) + 1)) (Ln (lpN ⟨i + 1, by omega, h1, h2, h3, h4, Fx.ic, m30, m31, m29, b10⟩ ?_))))))))
   show (6 - (intOf ((Ki6 ((i : Int) + 1)))).toNat) < _
   simp only [h5, intOf]; omega
  refine Lv KbF (KeqF c30) (Lv ((pt g3)) (Kxf h4 0) (Lv ((pf g3 i)) (Kxj 6 1) (KLs m19 i KbF fun w11 m32 s10 z8 => ?_)))
  have m33 : Blk w11 g3 20 (stY (GM l (i + 1) i)) 29 := m32.congr (G_in (by omega) (decide_eq_false c30).symm)
  have m34 := m18.stp s10 (by omega)
  have hct7 := cOs s10 m19.ty
  have m35 := KCk1 hct7 hcu3
  have b11 := s10.below b7 b7.size (by omega)
  refine KLe (Wl (KLh h5 (KLq (Ku6 (rowV l (Rt.s4 l) 1 i)) (Lv (Ku6 (rowV l (Rt.s4 l) 1 i / 2)) (Fx.x_quo rfl rfl rfl (by omega) (quo2 (row_u 1 i (by decide)))) (Lv (Ku6 (rowV l (Rt.s4 l) 1 i / 2 % 2)) (Fx.x_rem rfl rfl rfl (by omega) (rem2 (Int.ediv_nonneg (row_u 1 i (by decide)).1 (by decide)))) ?_)))))
  by_cases c37 : (rowV l (Rt.s4 l) 1 i / 2 % 2) = 1
  ·refine Lv KbT (KeqT c37) (Lv ((pf g3 6)) (Kxf h4 6) (Lv ((pf g3 (i + 6))) (Kxj 6 1) (KLs m33 (i + 6) KbT fun w12 m36 s11 z9 => ?_)))
   have m37 : Blk w12 g3 20 (stY (GM l (i + 1) (i + 1))) 29 := m36.congr (G_left (by omega) (by omega) (decide_eq_true c37).symm)
   have m38 := m34.stp s11 (by omega)
   have hct8 := cOs s11 m33.ty
   have m39 := KCk1 hct8 m35
   have b12 := s11.below b11 b11.size (by omega)
   refine Ln (blkN (sN (Wl (KLh h5 (Lv (Ki6 ((i : Int) + 1)) KxP (KLq (Ki6 ((i : Int) + 1)) (Ln (lpN ⟨i + 1, by omega, h1, h2, h3, h4, Fx.ic, m38, m39, m37, b12⟩ ?_))))))))
   show (6 - (intOf ((Ki6 ((i : Int) + 1)))).toNat) < _
   simp only [h5, intOf]; omega
  refine Lv KbF (KeqF c37) (Lv ((pf g3 6)) (Kxf h4 6) (Lv ((pf g3 (i + 6))) (Kxj 6 1) (KLs m33 (i + 6) KbF fun w13 m40 s12 z10 => ?_)))
  have m41 : Blk w13 g3 20 (stY (GM l (i + 1) (i + 1))) 29 := m40.congr (G_left (by omega) (by omega) (decide_eq_false c37).symm)
  have m42 := m34.stp s12 (by omega)
  have hct9 := cOs s12 m33.ty
  have m43 := KCk1 hct9 m35
  have b13 := s12.below b11 b11.size (by omega)
  refine Ln (blkN (sN (Wl (KLh h5 (Lv (Ki6 ((i : Int) + 1)) KxP (KLq (Ki6 ((i : Int) + 1)) (Ln (lpN ⟨i + 1, by omega, h1, h2, h3, h4, Fx.ic, m42, m43, m41, b13⟩ ?_))))))))
  show (6 - (intOf ((Ki6 ((i : Int) + 1)))).toNat) < _
  simp only [h5, intOf]; omega
 refine Lv KbF (KltF c22) (KLe (KWcF (Wx (seqX (lpX (blkX (sN (Ws (Ws ?_)))))))))
 have ei6 : i = 6 := by omega
 have m44 : Blk w6 g3 20 (stY (GM l 6 6)) 29 := by have q9 := m17; rw [ei6] at q9; exact q9
 have m45 : Blk w6 g3 20 (stY (GK l 0)) 29 := m44.congr (GK_0 l)
 have hcu4 : CuP w w6 g2 l (Rt.s10 l) := by have q9 := m16; rw [ei6] at q9; exact q9
 refine Wl (KLq (Ki6 0) (KLe (Wb (Wo (fun f w_ => ∃ i : Nat, i ≤ 6 ∧ f 0 = .slice a (n) (c) ∧ f 2 = (pt g1) ∧ f 4 = (pt g2) ∧ f 5 = (pt g3) ∧ f 8 = Ki6 ((i : Int)) ∧ Blk w_ g1 20 (fun zq => if zq < 12 then .bool false else if zq < 18 then Ku6 0 else .slice none 0 0) 29 ∧ CuP w w_ g2 l (cutN l 8 i (Rt.s10 l)) ∧ Blk w_ g3 20 (stY (GK l i)) 29 ∧ Below w.heap.size w w_) (fun f _ => (6 - (intOf (f 8)).toNat)) ⟨0, by omega, h1, h2, h3, h4, Fx.ic, m15, hcu4, m45, b6⟩ ?_))))
 rintro f2 w14 ⟨i, hi, h6, h7, h8, h9, h10, m46, m47, m48, b14⟩
 refine Ws (KWsl (KLh h10 ?_))
 by_cases c41 : (i : Int) < 6
 ·refine Lv KbT (KltT c41) (KLe (KWcT (Wk (sN (Ws (Wb (Wl (KLh h10 (KLh h8 (KLc1 (r_cword w g2 l (cutN l 8 i (Rt.s10 l)) 8 _ (by decide) b14 lg2 hl m47) _ rfl ?_))))))))))
  rintro w15 ⟨hq3, s13⟩
  have hct10 := cOs s13 m47.ty
  have ⟨m49, m50⟩ := KCk2 hct10 m46 m48
  have b15 := s13.below b14 b14.size (by omega)
  have hcu5 : CuP w w15 g2 l (cutN l 8 (i + 1) (Rt.s10 l)) := hq3
  refine Lv ((pf g3 12)) (Kxf h9 12) (Lv ((pf g3 (i + 12))) (Kxj 6 1) (KLs m50 (i + 12) (Ku6 (rowV l (Rt.s10 l) 8 i)) fun w16 m51 s14 z11 => ?_))
  have m52 : Blk w16 g3 20 (stY (GK l (i + 1))) 29 := m51.congr (GK_s (by omega) (by omega))
  have m53 := m49.stp s14 (by omega)
  have hct11 := cOs s14 m50.ty
  have m54 := KCk1 hct11 hcu5
  have b16 := s14.below b15 b15.size (by omega)
  refine Ln (blkN (sN (Wl (KLh h10 (Lv (Ki6 ((i : Int) + 1)) KxP (KLq (Ki6 ((i : Int) + 1)) (Ln (lpN ⟨i + 1, by omega, h6, h7, h8, h9, Fx.ic, m53, m54, m52, b16⟩ ?_))))))))
  show (6 - (intOf ((Ki6 ((i : Int) + 1)))).toNat) < _
  simp only [h10, intOf]; omega
 refine Lv KbF (KltF c41) (KLe (KWcF (Wx (seqX (lpX (blkX (sN (Ws ?_))))))))
 have ej6 : i = 6 := by omega
 have m55 : Blk w14 g3 20 (stY (GN l none 0 0 none 0 0)) 29 := by have q9 := m48; rw [ej6] at q9; exact q9.congr (GK_6 l)
 have hcu6 : CuP w w14 g2 l (Rt.s58 l) := by have q9 := m47; rw [ej6] at q9; exact q9
 have hc2 := @cut2 l (Rt.s58 l)
 refine Wl (KLh h8 (KLc1 (r_cword w g2 l (Rt.s58 l) 2 _ (by decide) b14 lg2 hl hcu6) _ rfl ?_))
 rintro w17 ⟨hq4, s15⟩
 have hct12 := cOs s15 hcu6.ty
 have ⟨m56, m57⟩ := KCk2 hct12 m46 m55
 have b17 := s15.below b14 b14.size (by omega)
 have hcu7 : CuP w w17 g2 l (Rt.s60 l) := hq4
 refine Lv (Ki6 (cutV l (Rt.s58 l) 2)) (x_conv rfl rfl (by kernel_rfl) Try.underlying3 (i64e (by omega) rfl)) (KLq (Ki6 (cutV l (Rt.s58 l) 2)) (KLe (Ws (KWsl (KLq (Ki6 0) (KLe (Wb ?_)))))))
 have m58 : Fx.Own w17 w.heap.size 50 56 (.slice none (0) (0)) 0 (ndsX ([])) := oNl _ _ _ _ _
 obtain ⟨k9N, hk9N⟩ : ∃ q, q = nnV l := ⟨_, rfl⟩
 have hk8N : k9N ≤ 65535 := by have := @nn_le l; omega
 have hk7N : Value.int .i64 (cutV l (Rt.s58 l) 2) = Ki6 (k9N : Int) := congrArg (Value.int .i64) (by rw [hk9N]; exact (Int.toNat_of_nonneg (cutV_bd (by decide)).1).symm)
 refine Wo (fun f w_ => ∃ i : Nat, ∃ s : Ct, ∃ ol : List NdM, ∃ n9 : Nat, ∃ ao : Option Addr, ∃ co : Nat, i ≤ k9N ∧ s.1 ≤ l.length ∧ ol ++ (ndsV l (k9N - i) s).1 = (nsV l).1 ∧ (ndsV l (k9N - i) s).2 = (nsV l).2 ∧ n9 = ol.length ∧ n9 + (k9N - i) ≤ 65535 ∧ f 0 = .slice a (n) (c) ∧ f 2 = (pt g1) ∧ f 4 = (pt g2) ∧ f 5 = (pt g3) ∧ f 9 = Ki6 ((k9N : Int)) ∧ f 10 = Ki6 ((i : Int)) ∧ Blk w_ g1 20 (fun zq => if zq < 12 then .bool false else if zq < 18 then Ku6 0 else .slice none 0 0) 29 ∧ CuP w w_ g2 l s ∧ Blk w_ g3 20 (stY (GN l ao n9 co none 0 0)) 29 ∧ Fx.Own w_ w.heap.size 50 56 (.slice ao (n9) (co)) n9 (ndsX ol) ∧ Below w.heap.size w w_) (fun f _ => (k9N - (intOf (f 10)).toNat)) ⟨0, Rt.s60 l, [], 0, none, 0, Nat.zero_le _, (cut_le (cutN_le (cutN_le (cut_le (Nat.zero_le _)) 6) 6)), (by rw [hk9N]; rfl), (by rw [hk9N]; rfl), rfl, (by omega), h6, h7, h8, h9, (hk7N.trans Fx.ic), Fx.ic, m56, hcu7, m57, m58, b17⟩ ?_
 rintro f3 w18 ⟨i, s, ol, n9, ao, co, hi, hs, hol, hst, hnl, hr, h11, h12, h13, h14, h15, h16, m59, m60, m61, m62, b18⟩
 refine Ws (Ws ?_)
 have hx1 := m60
 obtain ⟨abq1, nbq1, cbq1, hgc1, _⟩ := hx1
 refine Wl (KLh h16 (KLh h15 ?_))
 by_cases c54 : (i : Int) < (k9N : Int)
 ·refine Lv KbT (KltT c54) (KLq KbT (KLh h13 (KLq ((pt g2)) (KLq ((pf g2 1)) ?_))))
  by_cases c59 : s.2 = true
  ·refine Lv KbT (Kxl hgc1.cel 1 ((show _ = Value.bool s.2 from rfl).trans (congrArg Value.bool c59))) (KLq KbF (KLq KbF (KLe (KWcF (Wx (seqX (lpX (blkX (sN (Ws ?_))))))))))
   have he9N := nds_end (l := l) (r := k9N - i) (s := s) (.inr c59)
   have eoN : ol = (nsV l).1 := by have q9 := hol; rw [he9N] at q9; simpa using q9
   have esN : s = (nsV l).2 := by have q9 := hst; rw [he9N] at q9; exact q9
   have hcu8 : CuP w w18 g2 l ((nsV l).2) := by have q9 := m60; rw [esN] at q9; exact q9
   have hsN : (nsV l).2.1 ≤ l.length := by rw [← esN]; exact hs
   have hnN : n9 = (nsV l).1.length := by rw [← eoN]; exact hnl
   have hc2 := @cut2 l (nsV l).2
   have m63 : Fx.Own w18 w.heap.size 50 56 (.slice ao (n9) (co)) n9 (ndsX (nsV l).1) := by have q9 := m62; rw [eoN] at q9; exact q9
   refine Wl (KLh h13 (KLc1 (r_cword w g2 l ((nsV l).2) 2 _ (by decide) b18 lg2 hl hcu8) _ rfl ?_))
   rintro w19 ⟨hq5, s16⟩
   have hct13 := cOs s16 hcu8.ty
   have ⟨m64, m65, m66⟩ := KCk3 hct13 m59 m61 m63
   have b19 := s16.below b18 b18.size (by omega)
   have hcu9 : CuP w w19 g2 l (cutS l (nsV l).2 2) := hq5
   refine Lv (Ki6 (cutV l (nsV l).2 2)) (x_conv rfl rfl (by kernel_rfl) Try.underlying3 (i64e (by omega) rfl)) (KLq (Ki6 (cutV l (nsV l).2 2)) (KLe (Ws (KWsl (KLq (Ki6 0) (KLe (Wb ?_)))))))
   have m67 : Fx.Own w19 w.heap.size 59 5 (.slice none (0) (0)) 0 (grsX ([])) := oNl _ _ _ _ _
   obtain ⟨k9G, hk9G⟩ : ∃ q, q = gnV l := ⟨_, rfl⟩
   have hk8G : k9G ≤ 65535 := by have := @gn_le l; omega
   have hk7G : Value.int .i64 (cutV l (nsV l).2 2) = Ki6 (k9G : Int) := congrArg (Value.int .i64) (by rw [hk9G]; exact (Int.toNat_of_nonneg (cutV_bd (by decide)).1).symm)
   refine Wo (fun f w_ => ∃ i : Nat, ∃ s : Ct, ∃ gl : List GrM, ∃ n8 : Nat, ∃ bo : Option Addr, ∃ do9 : Nat, i ≤ k9G ∧ s.1 ≤ l.length ∧ gl ++ (grsV l (k9G - i) s).1 = (gsV l).1 ∧ (grsV l (k9G - i) s).2 = (gsV l).2 ∧ n8 = gl.length ∧ n8 + (k9G - i) ≤ 65535 ∧ f 0 = .slice a (n) (c) ∧ f 2 = (pt g1) ∧ f 4 = (pt g2) ∧ f 5 = (pt g3) ∧ f 9 = Ki6 ((k9G : Int)) ∧ f 13 = Ki6 ((i : Int)) ∧ Blk w_ g1 20 (fun zq => if zq < 12 then .bool false else if zq < 18 then Ku6 0 else .slice none 0 0) 29 ∧ CuP w w_ g2 l s ∧ Blk w_ g3 20 (stY (GN l ao n9 co bo n8 do9)) 29 ∧ Fx.Own w_ w.heap.size 59 5 (.slice bo (n8) (do9)) n8 (grsX gl) ∧ Fx.Own w_ w.heap.size 50 56 (.slice ao (n9) (co)) n9 (ndsX (nsV l).1) ∧ Below w.heap.size w w_) (fun f _ => (k9G - (intOf (f 13)).toNat)) ⟨0, cutS l (nsV l).2 2, [], 0, none, 0, Nat.zero_le _, (cut_le hsN), (by rw [hk9G]; rfl), (by rw [hk9G]; rfl), rfl, (by omega), h11, h12, h13, h14, (hk7G.trans Fx.ic), Fx.ic, m64, hcu9, m65, m67, m66, b19⟩ ?_
   rintro f4 w20 ⟨i, s, gl, n8, bo, do9, hi, hs, hol, hst, hnl, hr, h17, h18, h19, h20, h21, h22, m68, m69, m70, m71, m72, b20⟩
   refine Ws (Ws ?_)
   have hx2 := m69
   obtain ⟨abq2, nbq2, cbq2, hgc2, _⟩ := hx2
   refine Wl (KLh h22 (KLh h21 ?_))
   by_cases c102 : (i : Int) < (k9G : Int)
   ·refine Lv KbT (KltT c102) (KLq KbT (KLh h19 (KLq ((pt g2)) (KLq ((pf g2 1)) ?_))))
    by_cases c107 : s.2 = true
    ·refine Lv KbT (Kxl hgc2.cel 1 ((show _ = Value.bool s.2 from rfl).trans (congrArg Value.bool c107))) (KLq KbF (KLq KbF (KLe (KWcF (Wx (seqX (lpX (blkX (sN (Ws (Ws ?_)))))))))))
     have he9G := grs_end (l := l) (r := k9G - i) (s := s) (.inr c107)
     have eoG : gl = (gsV l).1 := by have q9 := hol; rw [he9G] at q9; simpa using q9
     have esG : s = (gsV l).2 := by have q9 := hst; rw [he9G] at q9; exact q9
     have hcu10 : CuP w w20 g2 l ((gsV l).2) := by have q9 := m69; rw [esG] at q9; exact q9
     have hnG : n8 = (gsV l).1.length := by rw [← eoG]; exact hnl
     have m73 : Fx.Own w20 w.heap.size 59 5 (.slice bo (n8) (do9)) n8 (grsX (gsV l).1) := by have q9 := m71; rw [eoG] at q9; exact q9
     have m74 : Blk w20 g3 20 (stY (stS (rawV l) ao co bo do9)) 29 := by have q9 := m70; rw [hnN, hnG, G_end] at q9; exact q9
     have m75 : Fx.Own w20 w.heap.size 50 56 (.slice ao ((rawV l).ns.length) (co)) ((rawV l).ns.length) (ndsX (rawV l).ns) := by have q9 := m72; rw [hnN] at q9; exact q9
     have m76 : Fx.Own w20 w.heap.size 59 5 (.slice bo ((rawV l).gs.length) (do9)) ((rawV l).gs.length) (grsX (rawV l).gs) := by have q9 := m73; rw [hnG] at q9; exact q9
     have hx3 := hcu10
     obtain ⟨abq3, nbq3, cbq3, hgc3, _⟩ := hx3
     -- region 35 draws
     refine KWm [0, 1, 2, 3, 4, 5, 6, 7, 8, 9, 13, 10, 14, 11, 12, 15, 16] [0, 0, 0, 4, 0, 0, 0, 0, 0, 0, 4, 2, 4, 0, 1, 0, 0] [(11, 3, [9, 4, 3]), (11, 10, [10]), (12, 11, [11]), (15, 11, [12, 11]), (16, 11, [15, 12, 11])] fun wt1 hbwt1 hzwt1 => ?_
     have ⟨m77, m79, m80, m81, m82, b21⟩ := KTk6 hbwt1 m68 m74 m75 m76 hgc3 b20
     refine KRh h19 (KRq ((pt g2)) (KRq ((pf g2 1)) ?_))
     by_cases c136 : (((gsV l).2).2) = true
     ·refine Rs KbT (Kxl m82.cel 1 ((show _ = Value.bool (((gsV l).2).2) from rfl).trans (congrArg Value.bool c136))) ?_
      refine KRq KbT (Rk (by rfl) (Rk (by rfl) (Rk (by rfl) (KRq KbT (KRq KbT (Rk (by rfl) (Rk (by rfl) (Rk (by rfl) (Rk (by rfl) (Rk (by rfl) (Rk (by rfl) (KRq KbT (KRend (KWcT (KWsl (KLq (.agg (varr 20 (fun zq => if zq < 12 then .bool false else if zq < 18 then Ku6 0 else .slice none 0 0))) (KLsA m77 0 (ha := h18) (h1 := (fun jq _ => by show ((fun zq => if zq < 12 then .bool false else if zq < 18 then Ku6 0 else .slice none 0 0 : Nat → Value) jq).oneCell' = true; simp only []; repeat (first | rfl | split))) fun w21 m83 s18 z12 => ?_)))))))))))))))))
      have m84 : Blk w21 g1 20 (fun zq => if zq < 12 then .bool false else if zq < 18 then Ku6 0 else .slice none 0 0) 29 := ovr_all m83
      have m86 : Blk w21 g1 20 (stY mz) 29 := m84.congr (fun j hj => match j, hj with | 0, _ => rfl | 1, _ => rfl | 2, _ => rfl | 3, _ => rfl | 4, _ => rfl | 5, _ => rfl | 6, _ => rfl | 7, _ => rfl | 8, _ => rfl | 9, _ => rfl | 10, _ => rfl | 11, _ => rfl | 12, _ => rfl | 13, _ => rfl | 14, _ => rfl | 15, _ => rfl | 16, _ => rfl | 17, _ => rfl | 18, _ => rfl | 19, _ => rfl | j + 20, h => absurd h (by omega))
      have m88 := m79.stp s18 (by omega)
      have b22 := s18.below b21 b21.size (by omega)
      refine KLq (Ki6 5) (KLe (Wr (sR (⟨.tuple #[.agg (varr 20 (stY mz)), Ki6 5], retV2 Try.results11 ⟨_, h18, run_loadV m86.cel (by kernel_rfl) (by kernel_rfl)⟩ (by exact rfl), ?_⟩))))
      have hg9 := get_n (l := l) (fun h => by have q9 := h.1; rw [c136] at q9; cases q9)
      rw [hg9.1, hg9.2]
      exact ⟨none, 0, none, 0, rfl, oNl _ _ _ _ _, oNl _ _ _ _ _, b22⟩
     rw [Bool.not_eq_true] at c136
     refine Rs KbF (Kxl m82.cel 1 ((show _ = Value.bool (((gsV l).2).2) from rfl).trans (congrArg Value.bool c136))) ?_
     refine KRq KbF (KRh h17 (KRq (Ki6 n) ?_))
     by_cases c140 : (n : Int) = 0
     ·refine Rp KbT (fun _ => KeqT c140) (KRq KbT (KRq KbT (Rk (by rfl) (Rk (by rfl) (Rk (by rfl) (Rk (by rfl) (Rk (by rfl) (Rk (by rfl) (KRq KbT (KRend (KWcT (KWsl (KLq (.agg (varr 20 (fun zq => if zq < 12 then .bool false else if zq < 18 then Ku6 0 else .slice none 0 0))) (KLsA m77 0 (ha := h18) (h1 := (fun jq _ => by show ((fun zq => if zq < 12 then .bool false else if zq < 18 then Ku6 0 else .slice none 0 0 : Nat → Value) jq).oneCell' = true; simp only []; repeat (first | rfl | split))) fun w22 m92 s19 z13 => ?_))))))))))))))
      have m93 : Blk w22 g1 20 (fun zq => if zq < 12 then .bool false else if zq < 18 then Ku6 0 else .slice none 0 0) 29 := ovr_all m92
      have m95 : Blk w22 g1 20 (stY mz) 29 := m93.congr (fun j hj => match j, hj with | 0, _ => rfl | 1, _ => rfl | 2, _ => rfl | 3, _ => rfl | 4, _ => rfl | 5, _ => rfl | 6, _ => rfl | 7, _ => rfl | 8, _ => rfl | 9, _ => rfl | 10, _ => rfl | 11, _ => rfl | 12, _ => rfl | 13, _ => rfl | 14, _ => rfl | 15, _ => rfl | 16, _ => rfl | 17, _ => rfl | 18, _ => rfl | 19, _ => rfl | j + 20, h => absurd h (by omega))
      have m97 := m79.stp s19 (by omega)
      have b23 := s19.below b21 b21.size (by omega)
      refine KLq (Ki6 5) (KLe (Wr (sR (⟨.tuple #[.agg (varr 20 (stY mz)), Ki6 5], retV2 Try.results11 ⟨_, h18, run_loadV m95.cel (by kernel_rfl) (by kernel_rfl)⟩ (by exact rfl), ?_⟩))))
      have hg9 := get_n (l := l) (fun h => h.2.1 (List.eq_nil_of_length_eq_zero (by omega)))
      rw [hg9.1, hg9.2]
      exact ⟨none, 0, none, 0, rfl, oNl _ _ _ _ _, oNl _ _ _ _ _, b23⟩
     refine Rp KbF (fun _ => KeqF c140) (KRq KbF (KRq KbF (KRh h17 (Rs (.agg (varr 20 (stY (stS (rawV l) ao co bo do9)))) (KxA m79.cel 0 (ha := h20)) ?_))))
     refine Rd (v := .string (Fx.strL l)) (by rfl) (by rfl) (mRf _) (fun v1 hv1 => Fx.x_bstr (l := l) rfl rfl Try.underlying30 Try.underlying5 Try.underlying9 hn ((hb.up b21 rfl).up hv1 rfl)) ?_
     refine KRk (KLc (r_put (rawV l) ao co bo do9 _ ⟨raw_r, Nat.le_trans raw_len.1 (by decide), Nat.le_trans raw_len.2 (by decide), m80.arr, m81.arr, m80.le, m81.le⟩) ?_)
     rintro e9 w23 ⟨pa1, pc1, he, hm1, hb1⟩
     refine ⟨_, he, ?_⟩
     clear he
     have s20 := Sb hb1
     have ⟨m102, m104, m105, m106, b24⟩ := KTk5 hb1 m77 m79 m80 m81 b21
     have m101 : Fx.Own w23 w.heap.size 5 1 (.slice pa1 ((putB (rawV l)).length) (pc1)) ((putB (rawV l)).length) (Fx.byY (putB (rawV l))) := hm1.mono b21.size
     refine Ln ⟨s20.old, ?_⟩
     refine Rs (.string (Fx.strL (putB (rawV l)))) (Fx.x_bstr (l := putB (rawV l)) rfl rfl Try.underlying30 Try.underlying5 Try.underlying9 rfl m101.arr) ?_
     refine Rp (.bool (!decide (putB (rawV l) = l))) (fun v1 => Fx.x_neqS2 rfl rfl rfl) (KRq (.bool (!decide (putB (rawV l) = l))) (KRend (Wc (b := !decide (putB (rawV l) = l)) rfl (fun c149 => ?_) (fun c149 => ?_))))
     ·have c149 := c149
      refine KWsl (KLq (.agg (varr 20 (fun zq => if zq < 12 then .bool false else if zq < 18 then Ku6 0 else .slice none 0 0))) (KLsA m102 0 (ha := h18) (h1 := (fun jq _ => by show ((fun zq => if zq < 12 then .bool false else if zq < 18 then Ku6 0 else .slice none 0 0 : Nat → Value) jq).oneCell' = true; simp only []; repeat (first | rfl | split))) fun w24 m108 s21 z14 => ?_))
      have m109 : Blk w24 g1 20 (fun zq => if zq < 12 then .bool false else if zq < 18 then Ku6 0 else .slice none 0 0) 29 := ovr_all m108
      have m111 : Blk w24 g1 20 (stY mz) 29 := m109.congr (fun j hj => match j, hj with | 0, _ => rfl | 1, _ => rfl | 2, _ => rfl | 3, _ => rfl | 4, _ => rfl | 5, _ => rfl | 6, _ => rfl | 7, _ => rfl | 8, _ => rfl | 9, _ => rfl | 10, _ => rfl | 11, _ => rfl | 12, _ => rfl | 13, _ => rfl | 14, _ => rfl | 15, _ => rfl | 16, _ => rfl | 17, _ => rfl | 18, _ => rfl | 19, _ => rfl | j + 20, h => absurd h (by omega))
      have m113 := m104.stp s21 (by omega)
      have b25 := s21.below b24 b24.size (by omega)
      refine KLq (Ki6 5) (KLe (Wr (sR (⟨.tuple #[.agg (varr 20 (stY mz)), Ki6 5], retV2 Try.results11 ⟨_, h18, run_loadV m111.cel (by kernel_rfl) (by kernel_rfl)⟩ (by exact rfl), ?_⟩))))
      have hg9 := get_n (l := l) (fun h => by rw [decide_eq_true h.2.2] at c149; cases c149)
      rw [hg9.1, hg9.2]
      exact ⟨none, 0, none, 0, rfl, oNl _ _ _ _ _, oNl _ _ _ _ _, b25⟩
     have c149 := c149
     refine Wk (sN (KWsl (Lv (.agg (varr 20 (stY (stS (rawV l) ao co bo do9)))) (KxA m104.cel 0 (ha := h20)) (KLsA m102 0 (ha := h18) (h1 := (fun j _ => stY_one _ j)) fun w25 m118 s22 z15 => ?_))))
     have m119 : Blk w25 g1 20 (stY (stS (rawV l) ao co bo do9)) 29 := ovr_all m118
     have hct17 := cOs s22 m102.ty
     have m123 := m104.stp s22 (by omega)
     have ⟨m124, m125⟩ := KCk2 hct17 m105 m106
     have b26 := s22.below b24 b24.size (by omega)
     refine KLq (Ki6 0) (KLe (Wr (⟨.tuple #[.agg (varr 20 (stY (stS (rawV l) ao co bo do9))), Ki6 0], retV2 Try.results11 ⟨_, h18, run_loadV m119.cel (by kernel_rfl) (by kernel_rfl)⟩ (by exact rfl), ?_⟩)))
     have hg9 := get_y (l := l) ⟨c136, (fun h => by rw [h] at hn; exact absurd hn (by rw [List.length_nil]; omega)), Classical.byContradiction fun q => by rw [decide_eq_false q] at c149; cases c149⟩
     rw [hg9.1, hg9.2]
     exact ⟨ao, co, bo, do9, rfl, m124, m125, b26⟩
    rw [Bool.not_eq_true] at c107
    refine Lv KbF (Kxl hgc2.cel 1 ((show _ = Value.bool s.2 from rfl).trans (congrArg Value.bool c107))) (KLq KbT (KLq KbT (KLe (KWcT (Wk (sN (Ws (Wb (Ws ?_)))))))))
    have hbad : s.2 = false := c107
    have hc1 := @cut1 l s
    refine Wl (KLh h19 (KLc1 (r_cword w g2 l s 1 _ (by decide) b20 lg2 hl m69) _ rfl ?_))
    rintro w26 ⟨hq6, s23⟩
    have hct18 := cOs s23 m69.ty
    have ⟨m128, m129, m130, m131⟩ := KCk4 hct18 m68 m70 m71 m72
    have b27 := s23.below b20 b20.size (by omega)
    have hcu11 : CuP w w26 g2 l (cutS l s 1) := hq6
    refine Lv (Ki6 (cutV l s 1)) (x_conv rfl rfl (by kernel_rfl) Try.underlying3 (i64e (by omega) rfl)) (KLh h19 (KLc1 (r_cword w g2 l (cutS l s 1) 8 _ (by decide) b27 lg2 hl hcu11) _ rfl ?_))
    rintro w27 ⟨hq7, s24⟩
    have hct19 := cOs s24 hcu11.ty
    have ⟨m132, m133, m134, m135⟩ := KCk4 hct19 m128 m129 m130 m131
    have b28 := s24.below b27 b27.size (by omega)
    have hcu12 : CuP w w27 g2 l (cutN l 8 1 (cutS l s 1)) := hq7
    refine KLh h19 (KLc1 (r_cword w g2 l (cutN l 8 1 (cutS l s 1)) 8 _ (by decide) b28 lg2 hl hcu12) _ rfl ?_)
    rintro w28 ⟨hq8, s25⟩
    have hct20 := cOs s25 hcu12.ty
    have ⟨m136, m137, m138, m139⟩ := KCk4 hct20 m132 m133 m134 m135
    have b29 := s25.below b28 b28.size (by omega)
    have hcu13 : CuP w w28 g2 l (cutN l 8 2 (cutS l s 1)) := hq8
    refine KLq (.agg (varr 5 (ovr (ovr (ovr (fun zq => if zq < 1 then Ki6 0 else if zq < 3 then Ku6 0 else if zq < 4 then Ki6 0 else Ku6 0) 0 1 (fun _ => Ki6 (cutV l s 1))) 1 1 (fun _ => Ku6 (rowV l (cutS l s 1) 8 0))) 2 1 (fun _ => Ku6 (rowV l (cutS l s 1) 8 1))))) (KLw 5 (fun zq => if zq < 1 then Ki6 0 else if zq < 3 then Ku6 0 else if zq < 4 then Ki6 0 else Ku6 0) fun g4 w29 eg4 m140 s26 z16 => ?_)
    have ⟨m141, m142, m143, m144, m145, b30⟩ := KTk6 s26.old m136 m137 m138 m139 hcu13 b29
    have lg4 := KGk eg4 b29.size
    have ⟨ng4m141, ng4m142⟩ := KNk2 eg4 m136.lt m137.lt
    have ng4m143 : (.slice bo (n8) (do9) : Value).ownBlock ≠ some g4 := by rw [eg4]; exact m138.notNew (Nat.le_refl _)
    have tg4 := m140.lt
    refine KLsA m140 0 (h1 := (ovr_ones (ovr_ones (ovr_ones (fun jq _ => by show ((fun zq => if zq < 1 then Ki6 0 else if zq < 3 then Ku6 0 else if zq < 4 then Ki6 0 else Ku6 0 : Nat → Value) jq).oneCell' = true; simp only []; repeat (first | rfl | split)) (fun _ _ => rfl)) (fun _ _ => rfl)) (fun _ _ => rfl))) fun w30 m146 s27 z17 => ?_
    have m147 : Blk w30 g4 5 (ovr (ovr (ovr (fun zq => if zq < 1 then Ki6 0 else if zq < 3 then Ku6 0 else if zq < 4 then Ki6 0 else Ku6 0) 0 1 (fun _ => Ki6 (cutV l s 1))) 1 1 (fun _ => Ku6 (rowV l (cutS l s 1) 8 0))) 2 1 (fun _ => Ku6 (rowV l (cutS l s 1) 8 1))) 59 := ovr_all m146
    have m149 : Blk w30 g4 5 (grZ ⟨cutV l s 1, rowV l (cutS l s 1) 8 0, rowV l (cutS l s 1) 8 1, 0, 0⟩) 59 := m147.congr (fun j hj => match j, hj with | 0, _ => rfl | 1, _ => rfl | 2, _ => rfl | 3, _ => rfl | 4, _ => rfl | j + 5, h => absurd h (by omega))
    have hct21 := cOs s27 m140.ty
    have ⟨m150, m151⟩ := KCk2 hct21 m141 m142
    have m152 := m143.stp s27 ng4m143
    have ⟨m153, m154⟩ := KCk2 hct21 m144 m145
    have b31 := s27.below b30 b30.size (by omega)
    refine KLe (KWsl (KLh h19 (KLc1 (r_cword w g2 l (cutN l 8 2 (cutS l s 1)) 8 _ (by decide) b31 lg2 hl m154) _ rfl ?_)))
    rintro w31 ⟨hq9, s28⟩
    have hct22 := cOs s28 m154.ty
    have ⟨m155, m156, m157, m158, m159⟩ := KCk5 hct22 m150 m151 m152 m153 m149
    have b32 := s28.below b31 b31.size (by omega)
    have hcu14 : CuP w w31 g2 l (cutN l 8 3 (cutS l s 1)) := hq9
    refine Lv (Ki6 (i64w (rowV l (cutS l s 1) 8 2))) (x_conv rfl rfl (by kernel_rfl) Try.underlying2 rfl) (KLq ((pf g4 3)) (KLs m159 3 (Ki6 (i64w (rowV l (cutS l s 1) 8 2))) fun w32 m160 s29 z18 => ?_))
    have m162 : Blk w32 g4 5 (grZ ⟨cutV l s 1, rowV l (cutS l s 1) 8 0, rowV l (cutS l s 1) 8 1, i64w (rowV l (cutS l s 1) 8 2), 0⟩) 59 := m160.congr (fun j hj => by rcases j with _|_|_|_|_|j <;> first | rfl | omega)
    have hct23 := cOs s29 m159.ty
    have ⟨m163, m164⟩ := KCk2 hct23 m155 m156
    have m165 := m157.stp s29 ng4m143
    have ⟨m166, m167⟩ := KCk2 hct23 m158 hcu14
    have b33 := s29.below b32 b32.size (by omega)
    refine KLe (KWsl (KLh h19 (KLc1 (r_cword w g2 l (cutN l 8 3 (cutS l s 1)) 8 _ (by decide) b33 lg2 hl m167) _ rfl ?_)))
    rintro w33 ⟨hq10, s30⟩
    have hct24 := cOs s30 m167.ty
    have ⟨m168, m169, m170, m171, m172⟩ := KCk5 hct24 m163 m164 m165 m166 m162
    have b34 := s30.below b33 b33.size (by omega)
    have hcu15 : CuP w w33 g2 l (grS l s) := hq10
    refine KLq ((pf g4 4)) (KLs m172 4 (Ku6 (rowV l (cutS l s 1) 8 3)) fun w34 m173 s31 z19 => ?_)
    have m175 : Blk w34 g4 5 (grZ (grV l s)) 59 := m173.congr (fun j hj => by rcases j with _|_|_|_|_|j <;> first | rfl | omega)
    have hct25 := cOs s31 m172.ty
    have ⟨m176, m177⟩ := KCk2 hct25 m168 m169
    have m178 := m170.stp s31 ng4m143
    have ⟨m179, m180⟩ := KCk2 hct25 m171 hcu15
    have b35 := s31.below b34 b34.size (by omega)
    refine KLe (Wl (Lv ((pf g3 19)) (Kxf h20 19) (Lv (.slice bo (n8) (do9)) (Kxl m177.cel 19) (Lv (.agg (varr 5 (grZ (grV l s)))) (KxA m175.cel 0) (Lbs (vs := [(0, .agg (varr 5 (grZ (grV l s))))]) (s := 5) (zc := fun zq => if zq < 1 then Ki6 0 else if zq < 3 then Ku6 0 else if zq < 4 then Ki6 0 else Ku6 0) (y := ovr (fun j => (fun zq => if zq < 1 then Ki6 0 else if zq < 3 then Ku6 0 else if zq < 4 then Ki6 0 else Ku6 0) (j % 5)) (0 * 5) 5 (grZ (grV l s))) (by rfl) rfl rfl Try.underlying27 (by kernel_rfl) (by rfl) (by rfl) (by kernel_rfl) (by rw [fill_step (off := 0 * 5) (s := 5) (y := grZ (grV l s)) rfl (cells_agg _ _) (by rfl)]; rfl) rfl fun g5 w35 eg5 m181 s32 z20 => ?_)))))
    have ⟨m182, m183, m184, m185, m186, m187, b36⟩ := KTk7 s32.old m176 m177 m178 m179 m180 m175 b35
    have lg5 := KGk eg5 b35.size
    have ⟨ng5m182, ng5m183⟩ := KNk2 eg5 m176.lt m177.lt
    have ng5m184 : (.slice bo (n8) (do9) : Value).ownBlock ≠ some g5 := by rw [eg5]; exact m178.notNew (Nat.le_refl _)
    have ng5m187 := KNk1 eg5 m175.lt
    have tg5 := m181.lt
    refine Lap (B := w.heap.size) (s := 5) (bytes := 40) (k := n8) (m := 1) (v := .slice bo (n8) (do9)) (x := grsX gl) (by rfl) rfl rfl rfl Try.underlying27 (by kernel_rfl) (by kernel_rfl) rfl rfl m184 m181.cel (fun j hj => by unfold ovr; rw [if_pos ⟨by omega, by omega⟩]; exact grZ_one _ _) (by omega) (by omega) (by omega) b36.size fun g6 cap1 w36 ho1 hg1 hgv1 hlt1 => ?_
    have hct26 := cOg hg1 m184
    have ⟨m189, m190, m191, m192⟩ := KCk4 hct26 m182 m183 m185 m186
    have ng6m193 : g4 ≠ g6 := fun e => hgv1.elim (fun e2 => ng4m143 (by rw [e]; exact e2)) (fun e2 => by have := m187.lt; omega)
    have m188 : Fx.Own w36 w.heap.size 59 5 (Ksl g6 (n8 + 1) cap1) (n8 + 1) (grsX (gl ++ [(grV l s)])) := (ho1.congr (grs_app1 (l := gl) (x := (grV l s)) hnl))
    have b37 : Below w.heap.size w w36 := bGr b36 hg1 b36.size (fun q hq => (m184.ge hq).1)
    refine Lv ((pf g3 19)) (Kxf h20 19) (KLs m190 19 (Ksl g6 (n8 + 1) cap1) fun w37 m194 s33 z21 => ?_)
    have m196 : Blk w37 g3 20 (stY (GN l ao n9 co (some ⟨g6, 0, none⟩) (n8 + 1) cap1)) 29 := m194.congr G_gs
    have m197 := m189.stp s33 (by omega)
    have hct27 := cOs s33 m190.ty
    have ⟨m198, m199, m201⟩ := KCk3 hct27 m191 m192 m188
    have b38 := s33.below b37 b37.size (by omega)
    refine Ln (blkN (sN (Wl (KLh h22 (Lv (Ki6 ((i : Int) + 1)) KxP (KLq (Ki6 ((i : Int) + 1)) (Ln ?_)))))))
    skip
    refine lpN ⟨i + 1, grS l s, gl ++ [(grV l s)], n8 + 1, (some ⟨g6, 0, none⟩), cap1, (by omega), (cutN_le (cut_le hs) 4), (ol_step (p := grsV l (k9G - i) s) (S := (grsV l ((k9G - i) - 1) (grS l s)).2) hol (grs_step (by omega) hbad)), (by rw [← hst, grs_step (by omega) hbad]; rfl), (by rw [List.length_append]; exact congrArg (· + 1) hnl), (by omega), h17, h18, h19, h20, (h21.trans Fx.ic), Fx.ic, m197, m199, m196, m201, m198, b38⟩ ?_
    show (k9G - (intOf ((Ki6 ((i : Int) + 1)))).toNat) < _
    simp only [h22, intOf]; omega
   refine Lv KbF (KltF c102) (KLq KbF (KLu (KLu (KLu (KLu (KLu (KLq KbF (KLe (KWcF (Wx (seqX (lpX (blkX (sN (Ws (Ws ?_))))))))))))))))
   have he9G := grs_end (l := l) (r := k9G - i) (s := s) (.inl (by omega))
   have eoG : gl = (gsV l).1 := by have q9 := hol; rw [he9G] at q9; simpa using q9
   have esG : s = (gsV l).2 := by have q9 := hst; rw [he9G] at q9; exact q9
   have hcu16 : CuP w w20 g2 l ((gsV l).2) := by have q9 := m69; rw [esG] at q9; exact q9
   have hnG : n8 = (gsV l).1.length := by rw [← eoG]; exact hnl
   have m202 : Fx.Own w20 w.heap.size 59 5 (.slice bo (n8) (do9)) n8 (grsX (gsV l).1) := by have q9 := m71; rw [eoG] at q9; exact q9
   have m203 : Blk w20 g3 20 (stY (stS (rawV l) ao co bo do9)) 29 := by have q9 := m70; rw [hnN, hnG, G_end] at q9; exact q9
   have m204 : Fx.Own w20 w.heap.size 50 56 (.slice ao ((rawV l).ns.length) (co)) ((rawV l).ns.length) (ndsX (rawV l).ns) := by have q9 := m72; rw [hnN] at q9; exact q9
   have m205 : Fx.Own w20 w.heap.size 59 5 (.slice bo ((rawV l).gs.length) (do9)) ((rawV l).gs.length) (grsX (rawV l).gs) := by have q9 := m202; rw [hnG] at q9; exact q9
   have hx4 := hcu16
   obtain ⟨abq4, nbq4, cbq4, hgc4, _⟩ := hx4
   -- region 35 draws
   refine KWm [0, 1, 2, 3, 4, 5, 6, 7, 8, 9, 13, 10, 14, 11, 12, 15, 16] [0, 0, 0, 4, 0, 0, 0, 0, 0, 0, 4, 2, 4, 0, 1, 0, 0] [(11, 3, [9, 4, 3]), (11, 10, [10]), (12, 11, [11]), (15, 11, [12, 11]), (16, 11, [15, 12, 11])] fun wt2 hbwt2 hzwt2 => ?_
   have ⟨m206, m208, m209, m210, m211, b39⟩ := KTk6 hbwt2 m68 m203 m204 m205 hgc4 b20
   refine KRh h19 (KRq ((pt g2)) (KRq ((pf g2 1)) ?_))
   by_cases c136 : (((gsV l).2).2) = true
   ·refine Rs KbT (Kxl m211.cel 1 ((show _ = Value.bool (((gsV l).2).2) from rfl).trans (congrArg Value.bool c136))) ?_
    refine KRq KbT (Rk (by rfl) (Rk (by rfl) (Rk (by rfl) (KRq KbT (KRq KbT (Rk (by rfl) (Rk (by rfl) (Rk (by rfl) (Rk (by rfl) (Rk (by rfl) (Rk (by rfl) (KRq KbT (KRend (KWcT (KWsl (KLq (.agg (varr 20 (fun zq => if zq < 12 then .bool false else if zq < 18 then Ku6 0 else .slice none 0 0))) (KLsA m206 0 (ha := h18) (h1 := (fun jq _ => by show ((fun zq => if zq < 12 then .bool false else if zq < 18 then Ku6 0 else .slice none 0 0 : Nat → Value) jq).oneCell' = true; simp only []; repeat (first | rfl | split))) fun w38 m212 s35 z22 => ?_)))))))))))))))))
    have m213 : Blk w38 g1 20 (fun zq => if zq < 12 then .bool false else if zq < 18 then Ku6 0 else .slice none 0 0) 29 := ovr_all m212
    have m215 : Blk w38 g1 20 (stY mz) 29 := m213.congr (fun j hj => match j, hj with | 0, _ => rfl | 1, _ => rfl | 2, _ => rfl | 3, _ => rfl | 4, _ => rfl | 5, _ => rfl | 6, _ => rfl | 7, _ => rfl | 8, _ => rfl | 9, _ => rfl | 10, _ => rfl | 11, _ => rfl | 12, _ => rfl | 13, _ => rfl | 14, _ => rfl | 15, _ => rfl | 16, _ => rfl | 17, _ => rfl | 18, _ => rfl | 19, _ => rfl | j + 20, h => absurd h (by omega))
    have m217 := m208.stp s35 (by omega)
    have b40 := s35.below b39 b39.size (by omega)
    refine KLq (Ki6 5) (KLe (Wr (sR (⟨.tuple #[.agg (varr 20 (stY mz)), Ki6 5], retV2 Try.results11 ⟨_, h18, run_loadV m215.cel (by kernel_rfl) (by kernel_rfl)⟩ (by exact rfl), ?_⟩))))
    have hg9 := get_n (l := l) (fun h => by have q9 := h.1; rw [c136] at q9; cases q9)
    rw [hg9.1, hg9.2]
    exact ⟨none, 0, none, 0, rfl, oNl _ _ _ _ _, oNl _ _ _ _ _, b40⟩
   rw [Bool.not_eq_true] at c136
   refine Rs KbF (Kxl m211.cel 1 ((show _ = Value.bool (((gsV l).2).2) from rfl).trans (congrArg Value.bool c136))) ?_
   refine KRq KbF (KRh h17 (KRq (Ki6 n) ?_))
   by_cases c140 : (n : Int) = 0
   ·refine Rp KbT (fun _ => KeqT c140) (KRq KbT (KRq KbT (Rk (by rfl) (Rk (by rfl) (Rk (by rfl) (Rk (by rfl) (Rk (by rfl) (Rk (by rfl) (KRq KbT (KRend (KWcT (KWsl (KLq (.agg (varr 20 (fun zq => if zq < 12 then .bool false else if zq < 18 then Ku6 0 else .slice none 0 0))) (KLsA m206 0 (ha := h18) (h1 := (fun jq _ => by show ((fun zq => if zq < 12 then .bool false else if zq < 18 then Ku6 0 else .slice none 0 0 : Nat → Value) jq).oneCell' = true; simp only []; repeat (first | rfl | split))) fun w39 m221 s36 z23 => ?_))))))))))))))
    have m222 : Blk w39 g1 20 (fun zq => if zq < 12 then .bool false else if zq < 18 then Ku6 0 else .slice none 0 0) 29 := ovr_all m221
    have m224 : Blk w39 g1 20 (stY mz) 29 := m222.congr (fun j hj => match j, hj with | 0, _ => rfl | 1, _ => rfl | 2, _ => rfl | 3, _ => rfl | 4, _ => rfl | 5, _ => rfl | 6, _ => rfl | 7, _ => rfl | 8, _ => rfl | 9, _ => rfl | 10, _ => rfl | 11, _ => rfl | 12, _ => rfl | 13, _ => rfl | 14, _ => rfl | 15, _ => rfl | 16, _ => rfl | 17, _ => rfl | 18, _ => rfl | 19, _ => rfl | j + 20, h => absurd h (by omega))
    have m226 := m208.stp s36 (by omega)
    have b41 := s36.below b39 b39.size (by omega)
    refine KLq (Ki6 5) (KLe (Wr (sR (⟨.tuple #[.agg (varr 20 (stY mz)), Ki6 5], retV2 Try.results11 ⟨_, h18, run_loadV m224.cel (by kernel_rfl) (by kernel_rfl)⟩ (by exact rfl), ?_⟩))))
    have hg9 := get_n (l := l) (fun h => h.2.1 (List.eq_nil_of_length_eq_zero (by omega)))
    rw [hg9.1, hg9.2]
    exact ⟨none, 0, none, 0, rfl, oNl _ _ _ _ _, oNl _ _ _ _ _, b41⟩
   refine Rp KbF (fun _ => KeqF c140) (KRq KbF (KRq KbF (KRh h17 (Rs (.agg (varr 20 (stY (stS (rawV l) ao co bo do9)))) (KxA m208.cel 0 (ha := h20)) ?_))))
   refine Rd (v := .string (Fx.strL l)) (by rfl) (by rfl) (mRf _) (fun v1 hv1 => Fx.x_bstr (l := l) rfl rfl Try.underlying30 Try.underlying5 Try.underlying9 hn ((hb.up b39 rfl).up hv1 rfl)) ?_
   refine KRk (KLc (r_put (rawV l) ao co bo do9 _ ⟨raw_r, Nat.le_trans raw_len.1 (by decide), Nat.le_trans raw_len.2 (by decide), m209.arr, m210.arr, m209.le, m210.le⟩) ?_)
   rintro e9 w40 ⟨pa2, pc2, he, hm2, hb2⟩
   refine ⟨_, he, ?_⟩
   clear he
   have s37 := Sb hb2
   have ⟨m231, m233, m234, m235, b42⟩ := KTk5 hb2 m206 m208 m209 m210 b39
   have m230 : Fx.Own w40 w.heap.size 5 1 (.slice pa2 ((putB (rawV l)).length) (pc2)) ((putB (rawV l)).length) (Fx.byY (putB (rawV l))) := hm2.mono b39.size
   refine Ln ⟨s37.old, ?_⟩
   refine Rs (.string (Fx.strL (putB (rawV l)))) (Fx.x_bstr (l := putB (rawV l)) rfl rfl Try.underlying30 Try.underlying5 Try.underlying9 rfl m230.arr) ?_
   refine Rp (.bool (!decide (putB (rawV l) = l))) (fun v1 => Fx.x_neqS2 rfl rfl rfl) (KRq (.bool (!decide (putB (rawV l) = l))) (KRend (Wc (b := !decide (putB (rawV l) = l)) rfl (fun c149 => ?_) (fun c149 => ?_))))
   ·have c149 := c149
    refine KWsl (KLq (.agg (varr 20 (fun zq => if zq < 12 then .bool false else if zq < 18 then Ku6 0 else .slice none 0 0))) (KLsA m231 0 (ha := h18) (h1 := (fun jq _ => by show ((fun zq => if zq < 12 then .bool false else if zq < 18 then Ku6 0 else .slice none 0 0 : Nat → Value) jq).oneCell' = true; simp only []; repeat (first | rfl | split))) fun w41 m237 s38 z24 => ?_))
    have m238 : Blk w41 g1 20 (fun zq => if zq < 12 then .bool false else if zq < 18 then Ku6 0 else .slice none 0 0) 29 := ovr_all m237
    have m240 : Blk w41 g1 20 (stY mz) 29 := m238.congr (fun j hj => match j, hj with | 0, _ => rfl | 1, _ => rfl | 2, _ => rfl | 3, _ => rfl | 4, _ => rfl | 5, _ => rfl | 6, _ => rfl | 7, _ => rfl | 8, _ => rfl | 9, _ => rfl | 10, _ => rfl | 11, _ => rfl | 12, _ => rfl | 13, _ => rfl | 14, _ => rfl | 15, _ => rfl | 16, _ => rfl | 17, _ => rfl | 18, _ => rfl | 19, _ => rfl | j + 20, h => absurd h (by omega))
    have m242 := m233.stp s38 (by omega)
    have b43 := s38.below b42 b42.size (by omega)
    refine KLq (Ki6 5) (KLe (Wr (sR (⟨.tuple #[.agg (varr 20 (stY mz)), Ki6 5], retV2 Try.results11 ⟨_, h18, run_loadV m240.cel (by kernel_rfl) (by kernel_rfl)⟩ (by exact rfl), ?_⟩))))
    have hg9 := get_n (l := l) (fun h => by rw [decide_eq_true h.2.2] at c149; cases c149)
    rw [hg9.1, hg9.2]
    exact ⟨none, 0, none, 0, rfl, oNl _ _ _ _ _, oNl _ _ _ _ _, b43⟩
   have c149 := c149
   refine Wk (sN (KWsl (Lv (.agg (varr 20 (stY (stS (rawV l) ao co bo do9)))) (KxA m233.cel 0 (ha := h20)) (KLsA m231 0 (ha := h18) (h1 := (fun j _ => stY_one _ j)) fun w42 m247 s39 z25 => ?_))))
   have m248 : Blk w42 g1 20 (stY (stS (rawV l) ao co bo do9)) 29 := ovr_all m247
   have hct31 := cOs s39 m231.ty
   have m252 := m233.stp s39 (by omega)
   have ⟨m253, m254⟩ := KCk2 hct31 m234 m235
   have b44 := s39.below b42 b42.size (by omega)
   refine KLq (Ki6 0) (KLe (Wr (⟨.tuple #[.agg (varr 20 (stY (stS (rawV l) ao co bo do9))), Ki6 0], retV2 Try.results11 ⟨_, h18, run_loadV m248.cel (by kernel_rfl) (by kernel_rfl)⟩ (by exact rfl), ?_⟩)))
   have hg9 := get_y (l := l) ⟨c136, (fun h => by rw [h] at hn; exact absurd hn (by rw [List.length_nil]; omega)), Classical.byContradiction fun q => by rw [decide_eq_false q] at c149; cases c149⟩
   rw [hg9.1, hg9.2]
   exact ⟨ao, co, bo, do9, rfl, m253, m254, b44⟩
  rw [Bool.not_eq_true] at c59
  refine Lv KbF (Kxl hgc1.cel 1 ((show _ = Value.bool s.2 from rfl).trans (congrArg Value.bool c59))) (KLq KbT (KLq KbT (KLe (KWcT (Wk (sN (Ws (Wb (Ws ?_)))))))))
  have hbad : s.2 = false := c59
  refine Wl (KLh h13 (KLc1 (r_cword w g2 l s 8 _ (by decide) b18 lg2 hl m60) _ rfl ?_))
  rintro w43 ⟨hq11, s40⟩
  have hct32 := cOs s40 m60.ty
  have ⟨m257, m258, m259⟩ := KCk3 hct32 m59 m61 m62
  have b45 := s40.below b18 b18.size (by omega)
  have hcu17 : CuP w w43 g2 l (cutN l 8 1 s) := hq11
  refine KLh h13 (KLc1 (r_cword w g2 l (cutN l 8 1 s) 8 _ (by decide) b45 lg2 hl hcu17) _ rfl ?_)
  rintro w44 ⟨hq12, s41⟩
  have hct33 := cOs s41 hcu17.ty
  have ⟨m260, m261, m262⟩ := KCk3 hct33 m257 m258 m259
  have b46 := s41.below b45 b45.size (by omega)
  have hcu18 : CuP w w44 g2 l (cutN l 8 2 s) := hq12
  refine KLq (.agg (varr 56 (ovr (ovr (fun zq => if zq < 2 then Ku6 0 else Ki6 0) 0 1 (fun _ => Ku6 (rowV l s 8 0))) 1 1 (fun _ => Ku6 (rowV l s 8 1))))) (KLw 56 (fun zq => if zq < 2 then Ku6 0 else Ki6 0) fun g7 w45 eg7 m263 s42 z26 => ?_)
  have ⟨m264, m265, m266, m267, b47⟩ := KTk5 s42.old m260 m261 m262 hcu18 b46
  have lg7 := KGk eg7 b46.size
  have ⟨ng7m264, ng7m265⟩ := KNk2 eg7 m260.lt m261.lt
  have ng7m266 : (.slice ao (n9) (co) : Value).ownBlock ≠ some g7 := by rw [eg7]; exact m262.notNew (Nat.le_refl _)
  have tg7 := m263.lt
  refine KLsA m263 0 (h1 := (ovr_ones (ovr_ones (fun jq _ => by show ((fun zq => if zq < 2 then Ku6 0 else Ki6 0 : Nat → Value) jq).oneCell' = true; simp only []; repeat (first | rfl | split)) (fun _ _ => rfl)) (fun _ _ => rfl))) fun w46 m268 s43 z27 => ?_
  have m269 : Blk w46 g7 56 (ovr (ovr (fun zq => if zq < 2 then Ku6 0 else Ki6 0) 0 1 (fun _ => Ku6 (rowV l s 8 0))) 1 1 (fun _ => Ku6 (rowV l s 8 1))) 50 := ovr_all m268
  have m271 : Blk w46 g7 56 (ndZ (ndQ l s 0)) 50 := m269.congr (nq_zero (fun p => if_neg (by omega)))
  have hct34 := cOs s43 m263.ty
  have ⟨m272, m273⟩ := KCk2 hct34 m264 m265
  have m274 := m266.stp s43 ng7m266
  have m275 := KCk1 hct34 m267
  have b48 := s43.below b47 b47.size (by omega)
  refine KLe (KWsl (KLh h13 (KLc1 (r_crow w g2 l (cutN l 8 2 s) _ b48 lg2 hl m275) _ rfl ?_)))
  rintro w47 ⟨hq13, s44⟩
  have hct35 := cOs s44 m275.ty
  have ⟨m276, m277, m278, m279⟩ := KCk4 hct35 m272 m273 m274 m271
  have b49 := s44.below b48 b48.size (by omega)
  have hcu19 : CuP w w47 g2 l (cutN l 8 8 s) := by have q9 := hq13; rw [cutN_add, show 2 + 6 = 8 by omega] at q9; exact q9
  refine KLq ((pf g7 2)) (KLq ((pf g7 2)) (KLsA m279 2 fun w48 m280 s45 z28 => ?_))
  have m281 : Blk w48 g7 56 (ndZ (ndQ l s 1)) 50 := m280.congr (fun j hj => by rw [show 2 = 2 + 6 * (0) by omega]; exact nq_step (by omega) j hj)
  have hct36 := cOs s45 m279.ty
  have ⟨m282, m283⟩ := KCk2 hct36 m276 m277
  have m284 := m278.stp s45 ng7m266
  have m285 := KCk1 hct36 hcu19
  have b50 := s45.below b49 b49.size (by omega)
  refine KLe (KWsl (KLh h13 (KLc1 (r_crow w g2 l (cutN l 8 8 s) _ b50 lg2 hl m285) _ rfl ?_)))
  rintro w49 ⟨hq14, s46⟩
  have hct37 := cOs s46 m285.ty
  have ⟨m286, m287, m288, m289⟩ := KCk4 hct37 m282 m283 m284 m281
  have b51 := s46.below b50 b50.size (by omega)
  have hcu20 : CuP w w49 g2 l (cutN l 8 14 s) := by have q9 := hq14; rw [cutN_add, show 8 + 6 = 14 by omega] at q9; exact q9
  refine KLq ((pf g7 2)) (KLq ((pf g7 8)) (KLsA m289 8 fun w50 m290 s47 z29 => ?_))
  have m291 : Blk w50 g7 56 (ndZ (ndQ l s 2)) 50 := m290.congr (fun j hj => by rw [show 8 = 2 + 6 * (1) by omega]; exact nq_step (by omega) j hj)
  have hct38 := cOs s47 m289.ty
  have ⟨m292, m293⟩ := KCk2 hct38 m286 m287
  have m294 := m288.stp s47 ng7m266
  have m295 := KCk1 hct38 hcu20
  have b52 := s47.below b51 b51.size (by omega)
  refine KLe (KWsl (KLh h13 (KLc1 (r_crow w g2 l (cutN l 8 14 s) _ b52 lg2 hl m295) _ rfl ?_)))
  rintro w51 ⟨hq15, s48⟩
  have hct39 := cOs s48 m295.ty
  have ⟨m296, m297, m298, m299⟩ := KCk4 hct39 m292 m293 m294 m291
  have b53 := s48.below b52 b52.size (by omega)
  have hcu21 : CuP w w51 g2 l (cutN l 8 20 s) := by have q9 := hq15; rw [cutN_add, show 14 + 6 = 20 by omega] at q9; exact q9
  refine KLq ((pf g7 2)) (KLq ((pf g7 14)) (KLsA m299 14 fun w52 m300 s49 z30 => ?_))
  have m301 : Blk w52 g7 56 (ndZ (ndQ l s 3)) 50 := m300.congr (fun j hj => by rw [show 14 = 2 + 6 * (2) by omega]; exact nq_step (by omega) j hj)
  have hct40 := cOs s49 m299.ty
  have ⟨m302, m303⟩ := KCk2 hct40 m296 m297
  have m304 := m298.stp s49 ng7m266
  have m305 := KCk1 hct40 hcu21
  have b54 := s49.below b53 b53.size (by omega)
  refine KLe (Ws (KWsl (KLq (Ki6 0) (KLe (Wb (Wo (fun f w_ => ∃ k : Nat, k ≤ 6 ∧ f 0 = .slice a (n) (c) ∧ f 2 = (pt g1) ∧ f 4 = (pt g2) ∧ f 5 = (pt g3) ∧ f 9 = Ki6 ((k9N : Int)) ∧ f 10 = Ki6 ((i : Int)) ∧ f 11 = (pt g7) ∧ f 12 = Ki6 ((k : Int)) ∧ Blk w_ g1 20 (fun zq => if zq < 12 then .bool false else if zq < 18 then Ku6 0 else .slice none 0 0) 29 ∧ Blk w_ g3 20 (stY (GN l ao n9 co none 0 0)) 29 ∧ CuP w w_ g2 l (cutN l 8 (6 * k + 20) s) ∧ Blk w_ g7 56 (ndZ (ndQ l s (k + 3))) 50 ∧ Fx.Own w_ w.heap.size 50 56 (.slice ao (n9) (co)) n9 (ndsX ol) ∧ Below w.heap.size w w_) (fun f _ => (6 - (intOf (f 12)).toNat)) ⟨0, by omega, h11, h12, h13, h14, (h15.trans Fx.ic), (h16.trans Fx.ic), (by rfl), Fx.ic, m302, m303, m305, m301, m304, b54⟩ ?_))))))
  rintro f5 w53 ⟨k, hk, h23, h24, h25, h26, h27, h28, h29, h30, m306, m307, m308, m309, m310, b55⟩
  refine Ws (KWsl (KLh h30 ?_))
  by_cases c82 : (k : Int) < 6
  ·refine Lv KbT (KltT c82) (KLe (KWcT (Wk (sN (Ws (Wb (Wl (KLh h30 (KLh h25 (KLc1 (r_crow w g2 l (cutN l 8 (6 * k + 20) s) _ b55 lg2 hl m308) _ rfl ?_))))))))))
   rintro w54 ⟨hq16, s50⟩
   have hct41 := cOs s50 m308.ty
   have ⟨m311, m312, m313, m314⟩ := KCk4 hct41 m306 m307 m309 m310
   have b56 := s50.below b55 b55.size (by omega)
   have hcu22 : CuP w w54 g2 l (cutN l 8 (6 * k + 26) s) := by have q9 := hq16; rw [cutN_add, show 6 * k + 20 + 6 = 6 * k + 26 by omega] at q9; exact q9
   refine Lv ((pf g7 2)) (Kxf h29 2) (KLq ((pf g7 20)) (Lv ((pf g7 (6 * k + 20))) (Kxj 6 6) (KLsA m313 (6 * k + 20) fun w55 m315 s51 z31 => ?_)))
   have m316 : Blk w55 g7 56 (ndZ (ndQ l s (k + 4))) 50 := m315.congr (fun j hj => by rw [show 6 * k + 20 = 2 + 6 * (k + 3) by omega]; exact nq_step (by omega) j hj)
   have hct42 := cOs s51 m313.ty
   have ⟨m317, m318⟩ := KCk2 hct42 m311 m312
   have m319 := m314.stp s51 ng7m266
   have m320 := KCk1 hct42 hcu22
   have b57 := s51.below b56 b56.size (by omega)
   refine Ln (blkN (sN (Wl (KLh h30 (Lv (Ki6 ((k : Int) + 1)) KxP (KLq (Ki6 ((k : Int) + 1)) (Ln (lpN ⟨k + 1, by omega, h23, h24, h25, h26, (h27.trans Fx.ic), (h28.trans Fx.ic), h29, Fx.ic, m317, m318, m320, m316, m319, b57⟩ ?_))))))))
   show (6 - (intOf ((Ki6 ((k : Int) + 1)))).toNat) < _
   simp only [h30, intOf]; omega
  refine Lv KbF (KltF c82) (KLe (KWcF (Wx (seqX (lpX (blkX (sN ?_)))))))
  have ek9 : k = 6 := by omega
  have m321 : Blk w53 g7 56 (ndZ (ndV l s)) 50 := (m309.congr (fun j hj => by rw [ek9]; exact nq_end j hj))
  have hcu23 : CuP w w53 g2 l (ndS l s) := by have q9 := m308; rw [ek9] at q9; exact q9
  refine Wl (Lv ((pf g3 18)) (Kxf h26 18) (Lv (.slice ao (n9) (co)) (Kxl m307.cel 18) (Lv (.agg (varr 56 (ndZ (ndV l s)))) (KxA m321.cel 0 (ha := h29)) (Lbs (vs := [(0, .agg (varr 56 (ndZ (ndV l s))))]) (s := 56) (zc := fun zq => if zq < 2 then Ku6 0 else Ki6 0) (y := ovr (fun j => (fun zq => if zq < 2 then Ku6 0 else Ki6 0) (j % 56)) (0 * 56) 56 (ndZ (ndV l s))) (by rfl) rfl rfl Try.underlying26 (by kernel_rfl) (by rfl) (by rfl) (by kernel_rfl) (by rw [fill_step (off := 0 * 56) (s := 56) (y := ndZ (ndV l s)) rfl (cells_agg _ _) (by rfl)]; rfl) rfl fun g8 w56 eg8 m322 s52 z32 => ?_))))
  have ⟨m323, m324, m325, m326, m327, b58⟩ := KTk6 s52.old m306 m307 m310 m321 hcu23 b55
  have lg8 := KGk eg8 b55.size
  have ⟨ng8m323, ng8m324⟩ := KNk2 eg8 m306.lt m307.lt
  have ng8m325 : (.slice ao (n9) (co) : Value).ownBlock ≠ some g8 := by rw [eg8]; exact m310.notNew (Nat.le_refl _)
  have ng8m326 := KNk1 eg8 m321.lt
  have tg8 := m322.lt
  refine Lap (B := w.heap.size) (s := 56) (bytes := 448) (k := n9) (m := 1) (v := .slice ao (n9) (co)) (x := ndsX ol) (by rfl) rfl rfl rfl Try.underlying26 (by kernel_rfl) (by kernel_rfl) rfl rfl m325 m322.cel (fun j hj => by unfold ovr; rw [if_pos ⟨by omega, by omega⟩]; exact ndZ_one _ _) (by omega) (by omega) (by omega) b58.size fun g9 cap2 w57 ho2 hg2 hgv2 hlt2 => ?_
  have hct43 := cOg hg2 m325
  have ⟨m329, m330⟩ := KCk2 hct43 m323 m324
  have ng9m331 : g7 ≠ g9 := fun e => hgv2.elim (fun e2 => ng7m266 (by rw [e]; exact e2)) (fun e2 => by have := m326.lt; omega)
  have m332 := KCk1 hct43 m327
  have m328 : Fx.Own w57 w.heap.size 50 56 (Ksl g9 (n9 + 1) cap2) (n9 + 1) (ndsX (ol ++ [(ndV l s)])) := (ho2.congr (nds_app1 (l := ol) (x := (ndV l s)) hnl))
  have b59 : Below w.heap.size w w57 := bGr b58 hg2 b58.size (fun q hq => (m325.ge hq).1)
  refine Lv ((pf g3 18)) (Kxf h26 18) (KLs m330 18 (Ksl g9 (n9 + 1) cap2) fun w58 m333 s53 z33 => ?_)
  have m335 : Blk w58 g3 20 (stY (GN l (some ⟨g9, 0, none⟩) (n9 + 1) cap2 none 0 0)) 29 := m333.congr G_ns
  have m336 := m329.stp s53 (by omega)
  have hct44 := cOs s53 m330.ty
  have ⟨m338, m339⟩ := KCk2 hct44 m332 m328
  have b60 := s53.below b59 b59.size (by omega)
  refine Ln (blkN (sN (Wl (KLh h28 (Lv (Ki6 ((i : Int) + 1)) KxP (KLq (Ki6 ((i : Int) + 1)) (Ln ?_)))))))
  skip
  refine lpN ⟨i + 1, ndS l s, ol ++ [(ndV l s)], n9 + 1, (some ⟨g9, 0, none⟩), cap2, (by omega), (cutN_le hs 56), (ol_step (p := ndsV l (k9N - i) s) (S := (ndsV l ((k9N - i) - 1) (ndS l s)).2) hol (nds_step (by omega) hbad)), (by rw [← hst, nds_step (by omega) hbad]; rfl), (by rw [List.length_append]; exact congrArg (· + 1) hnl), (by omega), h23, h24, h25, h26, (h27.trans Fx.ic), Fx.ic, m336, m338, m335, m339, b60⟩ ?_
  show (k9N - (intOf ((Ki6 ((i : Int) + 1)))).toNat) < _
  simp only [h16, intOf]; omega
 refine Lv KbF (KltF c54) (KLq KbF (KLu (KLu (KLu (KLu (KLu (KLq KbF (KLe (KWcF (Wx (seqX (lpX (blkX (sN (Ws ?_)))))))))))))))
 have he9N := nds_end (l := l) (r := k9N - i) (s := s) (.inl (by omega))
 have eoN : ol = (nsV l).1 := by have q9 := hol; rw [he9N] at q9; simpa using q9
 have esN : s = (nsV l).2 := by have q9 := hst; rw [he9N] at q9; exact q9
 have hcu24 : CuP w w18 g2 l ((nsV l).2) := by have q9 := m60; rw [esN] at q9; exact q9
 have hsN : (nsV l).2.1 ≤ l.length := by rw [← esN]; exact hs
 have hnN : n9 = (nsV l).1.length := by rw [← eoN]; exact hnl
 have hc2 := @cut2 l (nsV l).2
 have m340 : Fx.Own w18 w.heap.size 50 56 (.slice ao (n9) (co)) n9 (ndsX (nsV l).1) := by have q9 := m62; rw [eoN] at q9; exact q9
 refine Wl (KLh h13 (KLc1 (r_cword w g2 l ((nsV l).2) 2 _ (by decide) b18 lg2 hl hcu24) _ rfl ?_))
 rintro w59 ⟨hq17, s54⟩
 have hct45 := cOs s54 hcu24.ty
 have ⟨m341, m342, m343⟩ := KCk3 hct45 m59 m61 m340
 have b61 := s54.below b18 b18.size (by omega)
 have hcu25 : CuP w w59 g2 l (cutS l (nsV l).2 2) := hq17
 refine Lv (Ki6 (cutV l (nsV l).2 2)) (x_conv rfl rfl (by kernel_rfl) Try.underlying3 (i64e (by omega) rfl)) (KLq (Ki6 (cutV l (nsV l).2 2)) (KLe (Ws (KWsl (KLq (Ki6 0) (KLe (Wb ?_)))))))
 have m344 : Fx.Own w59 w.heap.size 59 5 (.slice none (0) (0)) 0 (grsX ([])) := oNl _ _ _ _ _
 obtain ⟨k9G, hk9G⟩ : ∃ q, q = gnV l := ⟨_, rfl⟩
 have hk8G : k9G ≤ 65535 := by have := @gn_le l; omega
 have hk7G : Value.int .i64 (cutV l (nsV l).2 2) = Ki6 (k9G : Int) := congrArg (Value.int .i64) (by rw [hk9G]; exact (Int.toNat_of_nonneg (cutV_bd (by decide)).1).symm)
 refine Wo (fun f w_ => ∃ i : Nat, ∃ s : Ct, ∃ gl : List GrM, ∃ n8 : Nat, ∃ bo : Option Addr, ∃ do9 : Nat, i ≤ k9G ∧ s.1 ≤ l.length ∧ gl ++ (grsV l (k9G - i) s).1 = (gsV l).1 ∧ (grsV l (k9G - i) s).2 = (gsV l).2 ∧ n8 = gl.length ∧ n8 + (k9G - i) ≤ 65535 ∧ f 0 = .slice a (n) (c) ∧ f 2 = (pt g1) ∧ f 4 = (pt g2) ∧ f 5 = (pt g3) ∧ f 9 = Ki6 ((k9G : Int)) ∧ f 13 = Ki6 ((i : Int)) ∧ Blk w_ g1 20 (fun zq => if zq < 12 then .bool false else if zq < 18 then Ku6 0 else .slice none 0 0) 29 ∧ CuP w w_ g2 l s ∧ Blk w_ g3 20 (stY (GN l ao n9 co bo n8 do9)) 29 ∧ Fx.Own w_ w.heap.size 59 5 (.slice bo (n8) (do9)) n8 (grsX gl) ∧ Fx.Own w_ w.heap.size 50 56 (.slice ao (n9) (co)) n9 (ndsX (nsV l).1) ∧ Below w.heap.size w w_) (fun f _ => (k9G - (intOf (f 13)).toNat)) ⟨0, cutS l (nsV l).2 2, [], 0, none, 0, Nat.zero_le _, (cut_le hsN), (by rw [hk9G]; rfl), (by rw [hk9G]; rfl), rfl, (by omega), h11, h12, h13, h14, (hk7G.trans Fx.ic), Fx.ic, m341, hcu25, m342, m344, m343, b61⟩ ?_
 rintro f6 w60 ⟨i, s, gl, n8, bo, do9, hi, hs, hol, hst, hnl, hr, h31, h32, h33, h34, h35, h36, m345, m346, m347, m348, m349, b62⟩
 refine Ws (Ws ?_)
 have hx5 := m346
 obtain ⟨abq5, nbq5, cbq5, hgc5, _⟩ := hx5
 refine Wl (KLh h36 (KLh h35 ?_))
 by_cases c102 : (i : Int) < (k9G : Int)
 ·refine Lv KbT (KltT c102) (KLq KbT (KLh h33 (KLq ((pt g2)) (KLq ((pf g2 1)) ?_))))
  by_cases c107 : s.2 = true
  ·refine Lv KbT (Kxl hgc5.cel 1 ((show _ = Value.bool s.2 from rfl).trans (congrArg Value.bool c107))) (KLq KbF (KLq KbF (KLe (KWcF (Wx (seqX (lpX (blkX (sN (Ws (Ws ?_)))))))))))
   have he9G := grs_end (l := l) (r := k9G - i) (s := s) (.inr c107)
   have eoG : gl = (gsV l).1 := by have q9 := hol; rw [he9G] at q9; simpa using q9
   have esG : s = (gsV l).2 := by have q9 := hst; rw [he9G] at q9; exact q9
   have hcu26 : CuP w w60 g2 l ((gsV l).2) := by have q9 := m346; rw [esG] at q9; exact q9
   have hnG : n8 = (gsV l).1.length := by rw [← eoG]; exact hnl
   have m350 : Fx.Own w60 w.heap.size 59 5 (.slice bo (n8) (do9)) n8 (grsX (gsV l).1) := by have q9 := m348; rw [eoG] at q9; exact q9
   have m351 : Blk w60 g3 20 (stY (stS (rawV l) ao co bo do9)) 29 := by have q9 := m347; rw [hnN, hnG, G_end] at q9; exact q9
   have m352 : Fx.Own w60 w.heap.size 50 56 (.slice ao ((rawV l).ns.length) (co)) ((rawV l).ns.length) (ndsX (rawV l).ns) := by have q9 := m349; rw [hnN] at q9; exact q9
   have m353 : Fx.Own w60 w.heap.size 59 5 (.slice bo ((rawV l).gs.length) (do9)) ((rawV l).gs.length) (grsX (rawV l).gs) := by have q9 := m350; rw [hnG] at q9; exact q9
   have hx6 := hcu26
   obtain ⟨abq6, nbq6, cbq6, hgc6, _⟩ := hx6
   -- region 35 draws
   refine KWm [0, 1, 2, 3, 4, 5, 6, 7, 8, 9, 13, 10, 14, 11, 12, 15, 16] [0, 0, 0, 4, 0, 0, 0, 0, 0, 0, 4, 2, 4, 0, 1, 0, 0] [(11, 3, [9, 4, 3]), (11, 10, [10]), (12, 11, [11]), (15, 11, [12, 11]), (16, 11, [15, 12, 11])] fun wt3 hbwt3 hzwt3 => ?_
   have ⟨m354, m356, m357, m358, m359, b63⟩ := KTk6 hbwt3 m345 m351 m352 m353 hgc6 b62
   refine KRh h33 (KRq ((pt g2)) (KRq ((pf g2 1)) ?_))
   by_cases c136 : (((gsV l).2).2) = true
   ·refine Rs KbT (Kxl m359.cel 1 ((show _ = Value.bool (((gsV l).2).2) from rfl).trans (congrArg Value.bool c136))) ?_
    refine KRq KbT (Rk (by rfl) (Rk (by rfl) (Rk (by rfl) (KRq KbT (KRq KbT (Rk (by rfl) (Rk (by rfl) (Rk (by rfl) (Rk (by rfl) (Rk (by rfl) (Rk (by rfl) (KRq KbT (KRend (KWcT (KWsl (KLq (.agg (varr 20 (fun zq => if zq < 12 then .bool false else if zq < 18 then Ku6 0 else .slice none 0 0))) (KLsA m354 0 (ha := h32) (h1 := (fun jq _ => by show ((fun zq => if zq < 12 then .bool false else if zq < 18 then Ku6 0 else .slice none 0 0 : Nat → Value) jq).oneCell' = true; simp only []; repeat (first | rfl | split))) fun w61 m360 s56 z34 => ?_)))))))))))))))))
    have m361 : Blk w61 g1 20 (fun zq => if zq < 12 then .bool false else if zq < 18 then Ku6 0 else .slice none 0 0) 29 := ovr_all m360
    have m363 : Blk w61 g1 20 (stY mz) 29 := m361.congr (fun j hj => match j, hj with | 0, _ => rfl | 1, _ => rfl | 2, _ => rfl | 3, _ => rfl | 4, _ => rfl | 5, _ => rfl | 6, _ => rfl | 7, _ => rfl | 8, _ => rfl | 9, _ => rfl | 10, _ => rfl | 11, _ => rfl | 12, _ => rfl | 13, _ => rfl | 14, _ => rfl | 15, _ => rfl | 16, _ => rfl | 17, _ => rfl | 18, _ => rfl | 19, _ => rfl | j + 20, h => absurd h (by omega))
    have m365 := m356.stp s56 (by omega)
    have b64 := s56.below b63 b63.size (by omega)
    refine KLq (Ki6 5) (KLe (Wr (sR (⟨.tuple #[.agg (varr 20 (stY mz)), Ki6 5], retV2 Try.results11 ⟨_, h32, run_loadV m363.cel (by kernel_rfl) (by kernel_rfl)⟩ (by exact rfl), ?_⟩))))
    have hg9 := get_n (l := l) (fun h => by have q9 := h.1; rw [c136] at q9; cases q9)
    rw [hg9.1, hg9.2]
    exact ⟨none, 0, none, 0, rfl, oNl _ _ _ _ _, oNl _ _ _ _ _, b64⟩
   rw [Bool.not_eq_true] at c136
   refine Rs KbF (Kxl m359.cel 1 ((show _ = Value.bool (((gsV l).2).2) from rfl).trans (congrArg Value.bool c136))) ?_
   refine KRq KbF (KRh h31 (KRq (Ki6 n) ?_))
   by_cases c140 : (n : Int) = 0
   ·refine Rp KbT (fun _ => KeqT c140) (KRq KbT (KRq KbT (Rk (by rfl) (Rk (by rfl) (Rk (by rfl) (Rk (by rfl) (Rk (by rfl) (Rk (by rfl) (KRq KbT (KRend (KWcT (KWsl (KLq (.agg (varr 20 (fun zq => if zq < 12 then .bool false else if zq < 18 then Ku6 0 else .slice none 0 0))) (KLsA m354 0 (ha := h32) (h1 := (fun jq _ => by show ((fun zq => if zq < 12 then .bool false else if zq < 18 then Ku6 0 else .slice none 0 0 : Nat → Value) jq).oneCell' = true; simp only []; repeat (first | rfl | split))) fun w62 m369 s57 z35 => ?_))))))))))))))
    have m370 : Blk w62 g1 20 (fun zq => if zq < 12 then .bool false else if zq < 18 then Ku6 0 else .slice none 0 0) 29 := ovr_all m369
    have m372 : Blk w62 g1 20 (stY mz) 29 := m370.congr (fun j hj => match j, hj with | 0, _ => rfl | 1, _ => rfl | 2, _ => rfl | 3, _ => rfl | 4, _ => rfl | 5, _ => rfl | 6, _ => rfl | 7, _ => rfl | 8, _ => rfl | 9, _ => rfl | 10, _ => rfl | 11, _ => rfl | 12, _ => rfl | 13, _ => rfl | 14, _ => rfl | 15, _ => rfl | 16, _ => rfl | 17, _ => rfl | 18, _ => rfl | 19, _ => rfl | j + 20, h => absurd h (by omega))
    have m374 := m356.stp s57 (by omega)
    have b65 := s57.below b63 b63.size (by omega)
    refine KLq (Ki6 5) (KLe (Wr (sR (⟨.tuple #[.agg (varr 20 (stY mz)), Ki6 5], retV2 Try.results11 ⟨_, h32, run_loadV m372.cel (by kernel_rfl) (by kernel_rfl)⟩ (by exact rfl), ?_⟩))))
    have hg9 := get_n (l := l) (fun h => h.2.1 (List.eq_nil_of_length_eq_zero (by omega)))
    rw [hg9.1, hg9.2]
    exact ⟨none, 0, none, 0, rfl, oNl _ _ _ _ _, oNl _ _ _ _ _, b65⟩
   refine Rp KbF (fun _ => KeqF c140) (KRq KbF (KRq KbF (KRh h31 (Rs (.agg (varr 20 (stY (stS (rawV l) ao co bo do9)))) (KxA m356.cel 0 (ha := h34)) ?_))))
   refine Rd (v := .string (Fx.strL l)) (by rfl) (by rfl) (mRf _) (fun v1 hv1 => Fx.x_bstr (l := l) rfl rfl Try.underlying30 Try.underlying5 Try.underlying9 hn ((hb.up b63 rfl).up hv1 rfl)) ?_
   refine KRk (KLc (r_put (rawV l) ao co bo do9 _ ⟨raw_r, Nat.le_trans raw_len.1 (by decide), Nat.le_trans raw_len.2 (by decide), m357.arr, m358.arr, m357.le, m358.le⟩) ?_)
   rintro e9 w63 ⟨pa3, pc3, he, hm3, hb3⟩
   refine ⟨_, he, ?_⟩
   clear he
   have s58 := Sb hb3
   have ⟨m379, m381, m382, m383, b66⟩ := KTk5 hb3 m354 m356 m357 m358 b63
   have m378 : Fx.Own w63 w.heap.size 5 1 (.slice pa3 ((putB (rawV l)).length) (pc3)) ((putB (rawV l)).length) (Fx.byY (putB (rawV l))) := hm3.mono b63.size
   refine Ln ⟨s58.old, ?_⟩
   refine Rs (.string (Fx.strL (putB (rawV l)))) (Fx.x_bstr (l := putB (rawV l)) rfl rfl Try.underlying30 Try.underlying5 Try.underlying9 rfl m378.arr) ?_
   refine Rp (.bool (!decide (putB (rawV l) = l))) (fun v1 => Fx.x_neqS2 rfl rfl rfl) (KRq (.bool (!decide (putB (rawV l) = l))) (KRend (Wc (b := !decide (putB (rawV l) = l)) rfl (fun c149 => ?_) (fun c149 => ?_))))
   ·have c149 := c149
    refine KWsl (KLq (.agg (varr 20 (fun zq => if zq < 12 then .bool false else if zq < 18 then Ku6 0 else .slice none 0 0))) (KLsA m379 0 (ha := h32) (h1 := (fun jq _ => by show ((fun zq => if zq < 12 then .bool false else if zq < 18 then Ku6 0 else .slice none 0 0 : Nat → Value) jq).oneCell' = true; simp only []; repeat (first | rfl | split))) fun w64 m385 s59 z36 => ?_))
    have m386 : Blk w64 g1 20 (fun zq => if zq < 12 then .bool false else if zq < 18 then Ku6 0 else .slice none 0 0) 29 := ovr_all m385
    have m388 : Blk w64 g1 20 (stY mz) 29 := m386.congr (fun j hj => match j, hj with | 0, _ => rfl | 1, _ => rfl | 2, _ => rfl | 3, _ => rfl | 4, _ => rfl | 5, _ => rfl | 6, _ => rfl | 7, _ => rfl | 8, _ => rfl | 9, _ => rfl | 10, _ => rfl | 11, _ => rfl | 12, _ => rfl | 13, _ => rfl | 14, _ => rfl | 15, _ => rfl | 16, _ => rfl | 17, _ => rfl | 18, _ => rfl | 19, _ => rfl | j + 20, h => absurd h (by omega))
    have m390 := m381.stp s59 (by omega)
    have b67 := s59.below b66 b66.size (by omega)
    refine KLq (Ki6 5) (KLe (Wr (sR (⟨.tuple #[.agg (varr 20 (stY mz)), Ki6 5], retV2 Try.results11 ⟨_, h32, run_loadV m388.cel (by kernel_rfl) (by kernel_rfl)⟩ (by exact rfl), ?_⟩))))
    have hg9 := get_n (l := l) (fun h => by rw [decide_eq_true h.2.2] at c149; cases c149)
    rw [hg9.1, hg9.2]
    exact ⟨none, 0, none, 0, rfl, oNl _ _ _ _ _, oNl _ _ _ _ _, b67⟩
   have c149 := c149
   refine Wk (sN (KWsl (Lv (.agg (varr 20 (stY (stS (rawV l) ao co bo do9)))) (KxA m381.cel 0 (ha := h34)) (KLsA m379 0 (ha := h32) (h1 := (fun j _ => stY_one _ j)) fun w65 m395 s60 z37 => ?_))))
   have m396 : Blk w65 g1 20 (stY (stS (rawV l) ao co bo do9)) 29 := ovr_all m395
   have hct49 := cOs s60 m379.ty
   have m400 := m381.stp s60 (by omega)
   have ⟨m401, m402⟩ := KCk2 hct49 m382 m383
   have b68 := s60.below b66 b66.size (by omega)
   refine KLq (Ki6 0) (KLe (Wr (⟨.tuple #[.agg (varr 20 (stY (stS (rawV l) ao co bo do9))), Ki6 0], retV2 Try.results11 ⟨_, h32, run_loadV m396.cel (by kernel_rfl) (by kernel_rfl)⟩ (by exact rfl), ?_⟩)))
   have hg9 := get_y (l := l) ⟨c136, (fun h => by rw [h] at hn; exact absurd hn (by rw [List.length_nil]; omega)), Classical.byContradiction fun q => by rw [decide_eq_false q] at c149; cases c149⟩
   rw [hg9.1, hg9.2]
   exact ⟨ao, co, bo, do9, rfl, m401, m402, b68⟩
  rw [Bool.not_eq_true] at c107
  refine Lv KbF (Kxl hgc5.cel 1 ((show _ = Value.bool s.2 from rfl).trans (congrArg Value.bool c107))) (KLq KbT (KLq KbT (KLe (KWcT (Wk (sN (Ws (Wb (Ws ?_)))))))))
  have hbad : s.2 = false := c107
  have hc1 := @cut1 l s
  refine Wl (KLh h33 (KLc1 (r_cword w g2 l s 1 _ (by decide) b62 lg2 hl m346) _ rfl ?_))
  rintro w66 ⟨hq18, s61⟩
  have hct50 := cOs s61 m346.ty
  have ⟨m405, m406, m407, m408⟩ := KCk4 hct50 m345 m347 m348 m349
  have b69 := s61.below b62 b62.size (by omega)
  have hcu27 : CuP w w66 g2 l (cutS l s 1) := hq18
  refine Lv (Ki6 (cutV l s 1)) (x_conv rfl rfl (by kernel_rfl) Try.underlying3 (i64e (by omega) rfl)) (KLh h33 (KLc1 (r_cword w g2 l (cutS l s 1) 8 _ (by decide) b69 lg2 hl hcu27) _ rfl ?_))
  rintro w67 ⟨hq19, s62⟩
  have hct51 := cOs s62 hcu27.ty
  have ⟨m409, m410, m411, m412⟩ := KCk4 hct51 m405 m406 m407 m408
  have b70 := s62.below b69 b69.size (by omega)
  have hcu28 : CuP w w67 g2 l (cutN l 8 1 (cutS l s 1)) := hq19
  refine KLh h33 (KLc1 (r_cword w g2 l (cutN l 8 1 (cutS l s 1)) 8 _ (by decide) b70 lg2 hl hcu28) _ rfl ?_)
  rintro w68 ⟨hq20, s63⟩
  have hct52 := cOs s63 hcu28.ty
  have ⟨m413, m414, m415, m416⟩ := KCk4 hct52 m409 m410 m411 m412
  have b71 := s63.below b70 b70.size (by omega)
  have hcu29 : CuP w w68 g2 l (cutN l 8 2 (cutS l s 1)) := hq20
  refine KLq (.agg (varr 5 (ovr (ovr (ovr (fun zq => if zq < 1 then Ki6 0 else if zq < 3 then Ku6 0 else if zq < 4 then Ki6 0 else Ku6 0) 0 1 (fun _ => Ki6 (cutV l s 1))) 1 1 (fun _ => Ku6 (rowV l (cutS l s 1) 8 0))) 2 1 (fun _ => Ku6 (rowV l (cutS l s 1) 8 1))))) (KLw 5 (fun zq => if zq < 1 then Ki6 0 else if zq < 3 then Ku6 0 else if zq < 4 then Ki6 0 else Ku6 0) fun g10 w69 eg10 m417 s64 z38 => ?_)
  have ⟨m418, m419, m420, m421, m422, b72⟩ := KTk6 s64.old m413 m414 m415 m416 hcu29 b71
  have lg10 := KGk eg10 b71.size
  have ⟨ng10m418, ng10m419⟩ := KNk2 eg10 m413.lt m414.lt
  have ng10m420 : (.slice bo (n8) (do9) : Value).ownBlock ≠ some g10 := by rw [eg10]; exact m415.notNew (Nat.le_refl _)
  have tg10 := m417.lt
  refine KLsA m417 0 (h1 := (ovr_ones (ovr_ones (ovr_ones (fun jq _ => by show ((fun zq => if zq < 1 then Ki6 0 else if zq < 3 then Ku6 0 else if zq < 4 then Ki6 0 else Ku6 0 : Nat → Value) jq).oneCell' = true; simp only []; repeat (first | rfl | split)) (fun _ _ => rfl)) (fun _ _ => rfl)) (fun _ _ => rfl))) fun w70 m423 s65 z39 => ?_
  have m424 : Blk w70 g10 5 (ovr (ovr (ovr (fun zq => if zq < 1 then Ki6 0 else if zq < 3 then Ku6 0 else if zq < 4 then Ki6 0 else Ku6 0) 0 1 (fun _ => Ki6 (cutV l s 1))) 1 1 (fun _ => Ku6 (rowV l (cutS l s 1) 8 0))) 2 1 (fun _ => Ku6 (rowV l (cutS l s 1) 8 1))) 59 := ovr_all m423
  have m426 : Blk w70 g10 5 (grZ ⟨cutV l s 1, rowV l (cutS l s 1) 8 0, rowV l (cutS l s 1) 8 1, 0, 0⟩) 59 := m424.congr (fun j hj => match j, hj with | 0, _ => rfl | 1, _ => rfl | 2, _ => rfl | 3, _ => rfl | 4, _ => rfl | j + 5, h => absurd h (by omega))
  have hct53 := cOs s65 m417.ty
  have ⟨m427, m428⟩ := KCk2 hct53 m418 m419
  have m429 := m420.stp s65 ng10m420
  have ⟨m430, m431⟩ := KCk2 hct53 m421 m422
  have b73 := s65.below b72 b72.size (by omega)
  refine KLe (KWsl (KLh h33 (KLc1 (r_cword w g2 l (cutN l 8 2 (cutS l s 1)) 8 _ (by decide) b73 lg2 hl m431) _ rfl ?_)))
  rintro w71 ⟨hq21, s66⟩
  have hct54 := cOs s66 m431.ty
  have ⟨m432, m433, m434, m435, m436⟩ := KCk5 hct54 m427 m428 m429 m430 m426
  have b74 := s66.below b73 b73.size (by omega)
  have hcu30 : CuP w w71 g2 l (cutN l 8 3 (cutS l s 1)) := hq21
  refine Lv (Ki6 (i64w (rowV l (cutS l s 1) 8 2))) (x_conv rfl rfl (by kernel_rfl) Try.underlying2 rfl) (KLq ((pf g10 3)) (KLs m436 3 (Ki6 (i64w (rowV l (cutS l s 1) 8 2))) fun w72 m437 s67 z40 => ?_))
  have m439 : Blk w72 g10 5 (grZ ⟨cutV l s 1, rowV l (cutS l s 1) 8 0, rowV l (cutS l s 1) 8 1, i64w (rowV l (cutS l s 1) 8 2), 0⟩) 59 := m437.congr (fun j hj => by rcases j with _|_|_|_|_|j <;> first | rfl | omega)
  have hct55 := cOs s67 m436.ty
  have ⟨m440, m441⟩ := KCk2 hct55 m432 m433
  have m442 := m434.stp s67 ng10m420
  have ⟨m443, m444⟩ := KCk2 hct55 m435 hcu30
  have b75 := s67.below b74 b74.size (by omega)
  refine KLe (KWsl (KLh h33 (KLc1 (r_cword w g2 l (cutN l 8 3 (cutS l s 1)) 8 _ (by decide) b75 lg2 hl m444) _ rfl ?_)))
  rintro w73 ⟨hq22, s68⟩
  have hct56 := cOs s68 m444.ty
  have ⟨m445, m446, m447, m448, m449⟩ := KCk5 hct56 m440 m441 m442 m443 m439
  have b76 := s68.below b75 b75.size (by omega)
  have hcu31 : CuP w w73 g2 l (grS l s) := hq22
  refine KLq ((pf g10 4)) (KLs m449 4 (Ku6 (rowV l (cutS l s 1) 8 3)) fun w74 m450 s69 z41 => ?_)
  have m452 : Blk w74 g10 5 (grZ (grV l s)) 59 := m450.congr (fun j hj => by rcases j with _|_|_|_|_|j <;> first | rfl | omega)
  have hct57 := cOs s69 m449.ty
  have ⟨m453, m454⟩ := KCk2 hct57 m445 m446
  have m455 := m447.stp s69 ng10m420
  have ⟨m456, m457⟩ := KCk2 hct57 m448 hcu31
  have b77 := s69.below b76 b76.size (by omega)
  refine KLe (Wl (Lv ((pf g3 19)) (Kxf h34 19) (Lv (.slice bo (n8) (do9)) (Kxl m454.cel 19) (Lv (.agg (varr 5 (grZ (grV l s)))) (KxA m452.cel 0) (Lbs (vs := [(0, .agg (varr 5 (grZ (grV l s))))]) (s := 5) (zc := fun zq => if zq < 1 then Ki6 0 else if zq < 3 then Ku6 0 else if zq < 4 then Ki6 0 else Ku6 0) (y := ovr (fun j => (fun zq => if zq < 1 then Ki6 0 else if zq < 3 then Ku6 0 else if zq < 4 then Ki6 0 else Ku6 0) (j % 5)) (0 * 5) 5 (grZ (grV l s))) (by rfl) rfl rfl Try.underlying27 (by kernel_rfl) (by rfl) (by rfl) (by kernel_rfl) (by rw [fill_step (off := 0 * 5) (s := 5) (y := grZ (grV l s)) rfl (cells_agg _ _) (by rfl)]; rfl) rfl fun g11 w75 eg11 m458 s70 z42 => ?_)))))
  have ⟨m459, m460, m461, m462, m463, m464, b78⟩ := KTk7 s70.old m453 m454 m455 m456 m457 m452 b77
  have lg11 := KGk eg11 b77.size
  have ⟨ng11m459, ng11m460⟩ := KNk2 eg11 m453.lt m454.lt
  have ng11m461 : (.slice bo (n8) (do9) : Value).ownBlock ≠ some g11 := by rw [eg11]; exact m455.notNew (Nat.le_refl _)
  have ng11m464 := KNk1 eg11 m452.lt
  have tg11 := m458.lt
  refine Lap (B := w.heap.size) (s := 5) (bytes := 40) (k := n8) (m := 1) (v := .slice bo (n8) (do9)) (x := grsX gl) (by rfl) rfl rfl rfl Try.underlying27 (by kernel_rfl) (by kernel_rfl) rfl rfl m461 m458.cel (fun j hj => by unfold ovr; rw [if_pos ⟨by omega, by omega⟩]; exact grZ_one _ _) (by omega) (by omega) (by omega) b78.size fun g12 cap3 w76 ho3 hg3 hgv3 hlt3 => ?_
  have hct58 := cOg hg3 m461
  have ⟨m466, m467, m468, m469⟩ := KCk4 hct58 m459 m460 m462 m463
  have ng12m470 : g10 ≠ g12 := fun e => hgv3.elim (fun e2 => ng10m420 (by rw [e]; exact e2)) (fun e2 => by have := m464.lt; omega)
  have m465 : Fx.Own w76 w.heap.size 59 5 (Ksl g12 (n8 + 1) cap3) (n8 + 1) (grsX (gl ++ [(grV l s)])) := (ho3.congr (grs_app1 (l := gl) (x := (grV l s)) hnl))
  have b79 : Below w.heap.size w w76 := bGr b78 hg3 b78.size (fun q hq => (m461.ge hq).1)
  refine Lv ((pf g3 19)) (Kxf h34 19) (KLs m467 19 (Ksl g12 (n8 + 1) cap3) fun w77 m471 s71 z43 => ?_)
  have m473 : Blk w77 g3 20 (stY (GN l ao n9 co (some ⟨g12, 0, none⟩) (n8 + 1) cap3)) 29 := m471.congr G_gs
  have m474 := m466.stp s71 (by omega)
  have hct59 := cOs s71 m467.ty
  have ⟨m475, m476, m478⟩ := KCk3 hct59 m468 m469 m465
  have b80 := s71.below b79 b79.size (by omega)
  refine Ln (blkN (sN (Wl (KLh h36 (Lv (Ki6 ((i : Int) + 1)) KxP (KLq (Ki6 ((i : Int) + 1)) (Ln ?_)))))))
  skip
  refine lpN ⟨i + 1, grS l s, gl ++ [(grV l s)], n8 + 1, (some ⟨g12, 0, none⟩), cap3, (by omega), (cutN_le (cut_le hs) 4), (ol_step (p := grsV l (k9G - i) s) (S := (grsV l ((k9G - i) - 1) (grS l s)).2) hol (grs_step (by omega) hbad)), (by rw [← hst, grs_step (by omega) hbad]; rfl), (by rw [List.length_append]; exact congrArg (· + 1) hnl), (by omega), h31, h32, h33, h34, (h35.trans Fx.ic), Fx.ic, m474, m476, m473, m478, m475, b80⟩ ?_
  show (k9G - (intOf ((Ki6 ((i : Int) + 1)))).toNat) < _
  simp only [h36, intOf]; omega
 refine Lv KbF (KltF c102) (KLq KbF (KLu (KLu (KLu (KLu (KLu (KLq KbF (KLe (KWcF (Wx (seqX (lpX (blkX (sN (Ws (Ws ?_))))))))))))))))
 have he9G := grs_end (l := l) (r := k9G - i) (s := s) (.inl (by omega))
 have eoG : gl = (gsV l).1 := by have q9 := hol; rw [he9G] at q9; simpa using q9
 have esG : s = (gsV l).2 := by have q9 := hst; rw [he9G] at q9; exact q9
 have hcu32 : CuP w w60 g2 l ((gsV l).2) := by have q9 := m346; rw [esG] at q9; exact q9
 have hnG : n8 = (gsV l).1.length := by rw [← eoG]; exact hnl
 have m479 : Fx.Own w60 w.heap.size 59 5 (.slice bo (n8) (do9)) n8 (grsX (gsV l).1) := by have q9 := m348; rw [eoG] at q9; exact q9
 have m480 : Blk w60 g3 20 (stY (stS (rawV l) ao co bo do9)) 29 := by have q9 := m347; rw [hnN, hnG, G_end] at q9; exact q9
 have m481 : Fx.Own w60 w.heap.size 50 56 (.slice ao ((rawV l).ns.length) (co)) ((rawV l).ns.length) (ndsX (rawV l).ns) := by have q9 := m349; rw [hnN] at q9; exact q9
 have m482 : Fx.Own w60 w.heap.size 59 5 (.slice bo ((rawV l).gs.length) (do9)) ((rawV l).gs.length) (grsX (rawV l).gs) := by have q9 := m479; rw [hnG] at q9; exact q9
 have hx7 := hcu32
 obtain ⟨abq7, nbq7, cbq7, hgc7, _⟩ := hx7
 -- region 35 draws
 refine KWm [0, 1, 2, 3, 4, 5, 6, 7, 8, 9, 13, 10, 14, 11, 12, 15, 16] [0, 0, 0, 4, 0, 0, 0, 0, 0, 0, 4, 2, 4, 0, 1, 0, 0] [(11, 3, [9, 4, 3]), (11, 10, [10]), (12, 11, [11]), (15, 11, [12, 11]), (16, 11, [15, 12, 11])] fun wt4 hbwt4 hzwt4 => ?_
 have ⟨m483, m485, m486, m487, m488, b81⟩ := KTk6 hbwt4 m345 m480 m481 m482 hgc7 b62
 refine KRh h33 (KRq ((pt g2)) (KRq ((pf g2 1)) ?_))
 by_cases c136 : (((gsV l).2).2) = true
 ·refine Rs KbT (Kxl m488.cel 1 ((show _ = Value.bool (((gsV l).2).2) from rfl).trans (congrArg Value.bool c136))) ?_
  refine KRq KbT (Rk (by rfl) (Rk (by rfl) (Rk (by rfl) (KRq KbT (KRq KbT (Rk (by rfl) (Rk (by rfl) (Rk (by rfl) (Rk (by rfl) (Rk (by rfl) (Rk (by rfl) (KRq KbT (KRend (KWcT (KWsl (KLq (.agg (varr 20 (fun zq => if zq < 12 then .bool false else if zq < 18 then Ku6 0 else .slice none 0 0))) (KLsA m483 0 (ha := h32) (h1 := (fun jq _ => by show ((fun zq => if zq < 12 then .bool false else if zq < 18 then Ku6 0 else .slice none 0 0 : Nat → Value) jq).oneCell' = true; simp only []; repeat (first | rfl | split))) fun w78 m489 s73 z44 => ?_)))))))))))))))))
  have m490 : Blk w78 g1 20 (fun zq => if zq < 12 then .bool false else if zq < 18 then Ku6 0 else .slice none 0 0) 29 := ovr_all m489
  have m492 : Blk w78 g1 20 (stY mz) 29 := m490.congr (fun j hj => match j, hj with | 0, _ => rfl | 1, _ => rfl | 2, _ => rfl | 3, _ => rfl | 4, _ => rfl | 5, _ => rfl | 6, _ => rfl | 7, _ => rfl | 8, _ => rfl | 9, _ => rfl | 10, _ => rfl | 11, _ => rfl | 12, _ => rfl | 13, _ => rfl | 14, _ => rfl | 15, _ => rfl | 16, _ => rfl | 17, _ => rfl | 18, _ => rfl | 19, _ => rfl | j + 20, h => absurd h (by omega))
  have m494 := m485.stp s73 (by omega)
  have b82 := s73.below b81 b81.size (by omega)
  refine KLq (Ki6 5) (KLe (Wr (sR (⟨.tuple #[.agg (varr 20 (stY mz)), Ki6 5], retV2 Try.results11 ⟨_, h32, run_loadV m492.cel (by kernel_rfl) (by kernel_rfl)⟩ (by exact rfl), ?_⟩))))
  have hg9 := get_n (l := l) (fun h => by have q9 := h.1; rw [c136] at q9; cases q9)
  rw [hg9.1, hg9.2]
  exact ⟨none, 0, none, 0, rfl, oNl _ _ _ _ _, oNl _ _ _ _ _, b82⟩
 rw [Bool.not_eq_true] at c136
 refine Rs KbF (Kxl m488.cel 1 ((show _ = Value.bool (((gsV l).2).2) from rfl).trans (congrArg Value.bool c136))) ?_
 refine KRq KbF (KRh h31 (KRq (Ki6 n) ?_))
 by_cases c140 : (n : Int) = 0
 ·refine Rp KbT (fun _ => KeqT c140) (KRq KbT (KRq KbT (Rk (by rfl) (Rk (by rfl) (Rk (by rfl) (Rk (by rfl) (Rk (by rfl) (Rk (by rfl) (KRq KbT (KRend (KWcT (KWsl (KLq (.agg (varr 20 (fun zq => if zq < 12 then .bool false else if zq < 18 then Ku6 0 else .slice none 0 0))) (KLsA m483 0 (ha := h32) (h1 := (fun jq _ => by show ((fun zq => if zq < 12 then .bool false else if zq < 18 then Ku6 0 else .slice none 0 0 : Nat → Value) jq).oneCell' = true; simp only []; repeat (first | rfl | split))) fun w79 m498 s74 z45 => ?_))))))))))))))
  have m499 : Blk w79 g1 20 (fun zq => if zq < 12 then .bool false else if zq < 18 then Ku6 0 else .slice none 0 0) 29 := ovr_all m498
  have m501 : Blk w79 g1 20 (stY mz) 29 := m499.congr (fun j hj => match j, hj with | 0, _ => rfl | 1, _ => rfl | 2, _ => rfl | 3, _ => rfl | 4, _ => rfl | 5, _ => rfl | 6, _ => rfl | 7, _ => rfl | 8, _ => rfl | 9, _ => rfl | 10, _ => rfl | 11, _ => rfl | 12, _ => rfl | 13, _ => rfl | 14, _ => rfl | 15, _ => rfl | 16, _ => rfl | 17, _ => rfl | 18, _ => rfl | 19, _ => rfl | j + 20, h => absurd h (by omega))
  have m503 := m485.stp s74 (by omega)
  have b83 := s74.below b81 b81.size (by omega)
  refine KLq (Ki6 5) (KLe (Wr (sR (⟨.tuple #[.agg (varr 20 (stY mz)), Ki6 5], retV2 Try.results11 ⟨_, h32, run_loadV m501.cel (by kernel_rfl) (by kernel_rfl)⟩ (by exact rfl), ?_⟩))))
  have hg9 := get_n (l := l) (fun h => h.2.1 (List.eq_nil_of_length_eq_zero (by omega)))
  rw [hg9.1, hg9.2]
  exact ⟨none, 0, none, 0, rfl, oNl _ _ _ _ _, oNl _ _ _ _ _, b83⟩
 refine Rp KbF (fun _ => KeqF c140) (KRq KbF (KRq KbF (KRh h31 (Rs (.agg (varr 20 (stY (stS (rawV l) ao co bo do9)))) (KxA m485.cel 0 (ha := h34)) ?_))))
 refine Rd (v := .string (Fx.strL l)) (by rfl) (by rfl) (mRf _) (fun v1 hv1 => Fx.x_bstr (l := l) rfl rfl Try.underlying30 Try.underlying5 Try.underlying9 hn ((hb.up b81 rfl).up hv1 rfl)) ?_
 refine KRk (KLc (r_put (rawV l) ao co bo do9 _ ⟨raw_r, Nat.le_trans raw_len.1 (by decide), Nat.le_trans raw_len.2 (by decide), m486.arr, m487.arr, m486.le, m487.le⟩) ?_)
 rintro e9 w80 ⟨pa4, pc4, he, hm4, hb4⟩
 refine ⟨_, he, ?_⟩
 clear he
 have s75 := Sb hb4
 have ⟨m508, m510, m511, m512, b84⟩ := KTk5 hb4 m483 m485 m486 m487 b81
 have m507 : Fx.Own w80 w.heap.size 5 1 (.slice pa4 ((putB (rawV l)).length) (pc4)) ((putB (rawV l)).length) (Fx.byY (putB (rawV l))) := hm4.mono b81.size
 refine Ln ⟨s75.old, ?_⟩
 refine Rs (.string (Fx.strL (putB (rawV l)))) (Fx.x_bstr (l := putB (rawV l)) rfl rfl Try.underlying30 Try.underlying5 Try.underlying9 rfl m507.arr) ?_
 refine Rp (.bool (!decide (putB (rawV l) = l))) (fun v1 => Fx.x_neqS2 rfl rfl rfl) (KRq (.bool (!decide (putB (rawV l) = l))) (KRend (Wc (b := !decide (putB (rawV l) = l)) rfl (fun c149 => ?_) (fun c149 => ?_))))
 ·have c149 := c149
  refine KWsl (KLq (.agg (varr 20 (fun zq => if zq < 12 then .bool false else if zq < 18 then Ku6 0 else .slice none 0 0))) (KLsA m508 0 (ha := h32) (h1 := (fun jq _ => by show ((fun zq => if zq < 12 then .bool false else if zq < 18 then Ku6 0 else .slice none 0 0 : Nat → Value) jq).oneCell' = true; simp only []; repeat (first | rfl | split))) fun w81 m514 s76 z46 => ?_))
  have m515 : Blk w81 g1 20 (fun zq => if zq < 12 then .bool false else if zq < 18 then Ku6 0 else .slice none 0 0) 29 := ovr_all m514
  have m517 : Blk w81 g1 20 (stY mz) 29 := m515.congr (fun j hj => match j, hj with | 0, _ => rfl | 1, _ => rfl | 2, _ => rfl | 3, _ => rfl | 4, _ => rfl | 5, _ => rfl | 6, _ => rfl | 7, _ => rfl | 8, _ => rfl | 9, _ => rfl | 10, _ => rfl | 11, _ => rfl | 12, _ => rfl | 13, _ => rfl | 14, _ => rfl | 15, _ => rfl | 16, _ => rfl | 17, _ => rfl | 18, _ => rfl | 19, _ => rfl | j + 20, h => absurd h (by omega))
  have m519 := m510.stp s76 (by omega)
  have b85 := s76.below b84 b84.size (by omega)
  refine KLq (Ki6 5) (KLe (Wr (sR (⟨.tuple #[.agg (varr 20 (stY mz)), Ki6 5], retV2 Try.results11 ⟨_, h32, run_loadV m517.cel (by kernel_rfl) (by kernel_rfl)⟩ (by exact rfl), ?_⟩))))
  have hg9 := get_n (l := l) (fun h => by rw [decide_eq_true h.2.2] at c149; cases c149)
  rw [hg9.1, hg9.2]
  exact ⟨none, 0, none, 0, rfl, oNl _ _ _ _ _, oNl _ _ _ _ _, b85⟩
 have c149 := c149
 refine Wk (sN (KWsl (Lv (.agg (varr 20 (stY (stS (rawV l) ao co bo do9)))) (KxA m510.cel 0 (ha := h34)) (KLsA m508 0 (ha := h32) (h1 := (fun j _ => stY_one _ j)) fun w82 m524 s77 z47 => ?_))))
 have m525 : Blk w82 g1 20 (stY (stS (rawV l) ao co bo do9)) 29 := ovr_all m524
 have hct63 := cOs s77 m508.ty
 have m529 := m510.stp s77 (by omega)
 have ⟨m530, m531⟩ := KCk2 hct63 m511 m512
 have b86 := s77.below b84 b84.size (by omega)
 refine KLq (Ki6 0) (KLe (Wr (⟨.tuple #[.agg (varr 20 (stY (stS (rawV l) ao co bo do9))), Ki6 0], retV2 Try.results11 ⟨_, h32, run_loadV m525.cel (by kernel_rfl) (by kernel_rfl)⟩ (by exact rfl), ?_⟩)))
 have hg9 := get_y (l := l) ⟨c136, (fun h => by rw [h] at hn; exact absurd hn (by rw [List.length_nil]; omega)), Classical.byContradiction fun q => by rw [decide_eq_false q] at c149; cases c149⟩
 rw [hg9.1, hg9.2]
 exact ⟨ao, co, bo, do9, rfl, m530, m531, b86⟩
section
set_option linter.unusedVariables false
namespace Rt
def JK (a b : SnM) (i j k : Nat) : StM := ⟨orF a.inn b.inn i, orF a.left b.left j, fun p => if p < k then mxI (a.known p) (b.known p) else 0, none, 0, 0, none, 0, 0⟩
section
variable {a b : SnM} {i : Nat}
theorem JK_0 (a b : SnM) : ∀ j, j < 20 → stY mz j = stY (JK a b 0 0 0) j := stY_cong (m := mz) (k := JK a b 0 0 0) (fun q _ => by show false = (if q < 0 then a.inn q || b.inn q else false); rw [if_neg (Nat.not_lt_zero q)]) (fun q _ => by show false = (if q < 0 then a.left q || b.left q else false); rw [if_neg (Nat.not_lt_zero q)]) (fun q _ => by show (0 : Int) = (if q < 0 then mxI (a.known q) (b.known q) else 0); rw [if_neg (Nat.not_lt_zero q)]) rfl rfl
theorem JK_in {v : Bool} (hi : i < 6) (hv : v = (a.inn i || b.inn i)) : ∀ j, j < 20 → updV (stY (JK a b i i i)) i (.bool v) j = stY (JK a b (i + 1) i i) j := fun j hj => by
  rw [stY_setIn _ hi j hj]
  exact stY_cong (m := { JK a b i i i with inn := fun q => if q = i then v else (JK a b i i i).inn q }) (k := JK a b (i + 1) i i) (fun q _ => orF_set hv) (fun _ _ => rfl) (fun _ _ => rfl) rfl rfl j hj
theorem JK_left {p : Nat} {v : Bool} (hi : i < 6) (hp : p = 6 + i) (hv : v = (a.left i || b.left i)) : ∀ j, j < 20 → updV (stY (JK a b (i + 1) i i)) p (.bool v) j = stY (JK a b (i + 1) (i + 1) i) j := fun j hj => by
  rw [stY_setLeft _ hi hp j hj]
  exact stY_cong (m := { JK a b (i + 1) i i with left := fun q => if q = i then v else (JK a b (i + 1) i i).left q }) (k := JK a b (i + 1) (i + 1) i) (fun _ _ => rfl) (fun q _ => orF_set hv) (fun _ _ => rfl) rfl rfl j hj
theorem JK_known {p : Nat} (hi : i < 6) (hp : p = 12 + i) : ∀ j, j < 20 → updV (stY (JK a b (i + 1) (i + 1) i)) p (Ku6 (mxI (a.known i) (b.known i))) j = stY (JK a b (i + 1) (i + 1) (i + 1)) j := fun j hj => by
  rw [stY_setKnown _ hi hp j hj]
  refine stY_cong (m := { JK a b (i + 1) (i + 1) i with known := fun q => if q = i then mxI (a.known i) (b.known i) else (JK a b (i + 1) (i + 1) i).known q }) (k := JK a b (i + 1) (i + 1) (i + 1)) (fun _ _ => rfl) (fun _ _ => rfl) (fun q _ => ?_) rfl rfl j hj
  show (if q = i then mxI (a.known i) (b.known i) else if q < i then mxI (a.known q) (b.known q) else 0) = if q < i + 1 then mxI (a.known q) (b.known q) else 0
  by_cases e : q = i
  · rw [if_pos e, if_pos (by omega), e]
  · rw [if_neg e]
    by_cases c : q < i
    · rw [if_pos c, if_pos (by omega)]
    · rw [if_neg c, if_neg (by omega)]
theorem JK_6 (a b : SnM) : ∀ j, j < 20 → stY (JK a b 6 6 6) j = stY (JM a b 6) j := stY_cong (m := JK a b 6 6 6) (k := JM a b 6) (fun _ _ => rfl) (fun _ _ => rfl) (fun q hq => if_pos hq) rfl rfl
end
end Rt
set_option maxRecDepth 20000 in
set_option maxHeartbeats 4000000 in
theorem r_join (a b : SnM) (ana : Option Addr) (anc : Nat) (aga : Option Addr) (agc : Nat) (bna : Option Addr) (bnc : Nat) (bga : Option Addr) (bgc : Nat) (w : World) (ha : StW w a ana anc aga agc) (hb : StW w b bna bnc bga bgc) :
    Calls Try.prog 9 #[.agg (varr 20 (stY (stS a ana anc aga agc))), .agg (varr 20 (stY (stS b bna bnc bga bgc)))] w fun e w' => ∃ na nc ga gc, e = .returned (.tuple #[.agg (varr 20 (stY (stS (joinS a b).1 na nc ga gc))), Ki6 (joinS a b).2]) ∧ Fx.Own w' w.heap.size 50 56 (.slice na (joinS a b).1.ns.length nc) (joinS a b).1.ns.length (ndsX (joinS a b).1.ns) ∧ Fx.Own w' w.heap.size 59 5 (.slice ga (joinS a b).1.gs.length gc) (joinS a b).1.gs.length (grsX (joinS a b).1.gs) ∧ Below w.heap.size w w' := by
 refine Kent Try.func9 91 ?_
 refine KWsl (KLb fun g1 w1 eg1 m1 s1 z1 => ?_)
 have b1 := KTk1 s1.old (Below.refl w.heap.size w)
 have lg1 := KGk0 eg1
 have tg1 := m1.lt
 refine KLb fun g2 w2 eg2 m2 s2 z2 => ?_
 have ⟨m3, b2⟩ := KTk2 s2.old m1 b1
 have lg2 := KGk eg2 b1.size
 have ng2m3 := KNk1 eg2 m1.lt
 have tg2 := m2.lt
 refine KLw 20 (fun i => (#[.bool false, .bool false, .bool false, .bool false, .bool false, .bool false, .bool false, .bool false, .bool false, .bool false, .bool false, .bool false, Ku6 0, Ku6 0, Ku6 0, Ku6 0, Ku6 0, Ku6 0, .slice none 0 0, .slice none 0 0] : Array Value).getD i undef) fun g3 w3 eg3 m4 s3 z3 => ?_
 have ⟨m5, m6, b3⟩ := KTk3 s3.old m3 m2 b2
 have lg3 := KGk eg3 b2.size
 have ⟨ng3m5, ng3m6⟩ := KNk2 eg3 m3.lt m2.lt
 have tg3 := m4.lt
 refine KLq (Ki6 0) (KLe (Ws (KWsl (Lv (.agg (varr 20 (stY (stS a ana anc aga agc)))) (KxA m5.cel 0) ?_))))
 by_cases c12 : (mayS a) = true
 ·refine KLc1 (r_may a ana anc aga agc _ ha.l1 ha.l2 (ha.up b3).n (ha.up b3).g) KbT (by rw [c12]) ?_
  intro w4 hb1
  have ⟨m7, m8, m9, b4⟩ := KTk4 hb1 m5 m6 m4 b3
  refine KLq KbF (KLq KbF (Lv (.agg (varr 20 (stY (stS b bna bnc bga bgc)))) (KxA m8.cel 0) ?_))
  by_cases c16 : (mayS b) = true
  ·refine KLc1 (r_may b bna bnc bga bgc _ hb.l1 hb.l2 (hb.up b4).n (hb.up b4).g) KbT (by rw [c16]) ?_
   intro w5 hb2
   have ⟨m10, m11, m12, b5⟩ := KTk4 hb2 m7 m8 m9 b4
   refine KLq KbF (KLq KbF (KLe (KWcF (Wk (sN (KWsl (Lnw (m := 20) (y := fun i => (#[.bool false, .bool false, .bool false, .bool false, .bool false, .bool false, .bool false, .bool false, .bool false, .bool false, .bool false, .bool false, Ku6 0, Ku6 0, Ku6 0, Ku6 0, Ku6 0, Ku6 0, .slice none 0 0, .slice none 0 0] : Array Value).getD i undef) (by rfl) rfl (by kernel_rfl) rfl fun g4 w6 eg4 m13 s6 z4 => ?_)))))))
   have ⟨m14, m15, m16, b6⟩ := KTk4 s6.old m10 m11 m12 b5
   have lg4 := KGk eg4 b5.size
   have ⟨ng4m14, ng4m15, ng4m16⟩ := KNk3 eg4 m10.lt m11.lt m12.lt
   have tg4 := m13.lt
   refine KLe (Ws (Ws ?_))
   have m17 : Blk w6 g4 20 (stY mz) 29 := m13.congr (fun j hj => match j, hj with | 0, _ => rfl | 1, _ => rfl | 2, _ => rfl | 3, _ => rfl | 4, _ => rfl | 5, _ => rfl | 6, _ => rfl | 7, _ => rfl | 8, _ => rfl | 9, _ => rfl | 10, _ => rfl | 11, _ => rfl | 12, _ => rfl | 13, _ => rfl | 14, _ => rfl | 15, _ => rfl | 16, _ => rfl | 17, _ => rfl | 18, _ => rfl | 19, _ => rfl | j + 20, h => absurd h (by omega))
   have m18 : Blk w6 g4 20 (stY (JK a b 0 0 0)) 29 := m17.congr (JK_0 a b)
   refine Wl (KLq (Ki6 0) (KLe (Wb (Wo (fun f w_ => ∃ i : Nat, i ≤ 6 ∧ f 2 = (pt g1) ∧ f 3 = (pt g2) ∧ f 4 = (pt g3) ∧ f 6 = (pt g4) ∧ f 7 = Ki6 ((i : Int)) ∧ Blk w_ g1 20 (stY (stS a ana anc aga agc)) 29 ∧ Blk w_ g2 20 (stY (stS b bna bnc bga bgc)) 29 ∧ Blk w_ g3 20 (fun i => (#[.bool false, .bool false, .bool false, .bool false, .bool false, .bool false, .bool false, .bool false, .bool false, .bool false, .bool false, .bool false, Ku6 0, Ku6 0, Ku6 0, Ku6 0, Ku6 0, Ku6 0, .slice none 0 0, .slice none 0 0] : Array Value).getD i undef) 29 ∧ Blk w_ g4 20 (stY (JK a b i i i)) 29 ∧ Below w.heap.size w w_) (fun f _ => (6 - (intOf (f 7)).toNat)) ⟨0, by omega, (by rfl), (by rfl), (by rfl), (by rfl), Fx.ic, m14, m15, m16, m18, b6⟩ ?_))))
   rintro f1 w7 ⟨i, hi, h1, h2, h3, h4, h5, m19, m20, m21, m22, b7⟩
   refine Ws (KWsl (KLh h5 ?_))
   by_cases c21 : (i : Int) < 6
   ·refine Lv KbT (KltT c21) (KLe (KWcT (Wk (sN (Ws (Wb (WsJ (fun f w_ => f 2 = (pt g1) ∧ f 3 = (pt g2) ∧ f 4 = (pt g3) ∧ f 6 = (pt g4) ∧ f 7 = Ki6 ((i : Int)) ∧ Blk w_ g1 20 (stY (stS a ana anc aga agc)) 29 ∧ Blk w_ g2 20 (stY (stS b bna bnc bga bgc)) 29 ∧ Blk w_ g3 20 (fun i => (#[.bool false, .bool false, .bool false, .bool false, .bool false, .bool false, .bool false, .bool false, .bool false, .bool false, .bool false, .bool false, Ku6 0, Ku6 0, Ku6 0, Ku6 0, Ku6 0, Ku6 0, .slice none 0 0, .slice none 0 0] : Array Value).getD i undef) 29 ∧ Blk w_ g4 20 (stY (JK a b (i + 1) i i)) 29 ∧ Below w.heap.size w w_) ?_ ?_)))))))
    ·refine Wl (KLh h5 (KLh h5 (Lv ((pt g1)) (Kxf h1 0) (Lv ((pf g1 i)) (Kxj 6 1) ?_))))
     by_cases c28 : (a.inn i) = true
     ·refine Lv KbT (Kxl m19.cel i ((stY_in _ (by omega)).trans (congrArg Value.bool c28))) (KLq KbT (KLu (KLu (KLu (KLu (KLq KbT (Lv ((pt g4)) (Kxf h4 0) (Lv ((pf g4 i)) (Kxj 6 1) (KLs m22 i KbT fun w8 m23 s7 z5 => ?_)))))))))
      have m24 : Blk w8 g4 20 (stY (JK a b (i + 1) i i)) 29 := m23.congr (JK_in (by omega) (by rw [c28]; rfl))
      have m25 := m19.stp s7 (by omega)
      have m26 := m20.stp s7 (by omega)
      have m27 := m21.stp s7 (by omega)
      have b8 := s7.below b7 b7.size (by omega)
      refine Ln ?_
      exact jnN ⟨h1, h2, h3, h4, (h5.trans Fx.ic), m25, m26, m27, m24, b8⟩
     rw [Bool.not_eq_true] at c28
     refine Lv KbF (Kxl m19.cel i ((stY_in _ (by omega)).trans (congrArg Value.bool c28))) (KLq KbF (KLh h5 (Lv ((pt g2)) (Kxf h2 0) (Lv ((pf g2 i)) (Kxj 6 1) ?_))))
     by_cases c33 : (b.inn i) = true
     ·refine Lv KbT (Kxl m20.cel i ((stY_in _ (by omega)).trans (congrArg Value.bool c33))) (KLq KbT (Lv ((pt g4)) (Kxf h4 0) (Lv ((pf g4 i)) (Kxj 6 1) (KLs m22 i KbT fun w9 m28 s8 z6 => ?_))))
      have m29 : Blk w9 g4 20 (stY (JK a b (i + 1) i i)) 29 := m28.congr (JK_in (by omega) (by rw [c28, c33]; rfl))
      have m30 := m19.stp s8 (by omega)
      have m31 := m20.stp s8 (by omega)
      have m32 := m21.stp s8 (by omega)
      have b9 := s8.below b7 b7.size (by omega)
      refine Ln ?_
      exact jnN ⟨h1, h2, h3, h4, (h5.trans Fx.ic), m30, m31, m32, m29, b9⟩
     rw [Bool.not_eq_true] at c33
     refine Lv KbF (Kxl m20.cel i ((stY_in _ (by omega)).trans (congrArg Value.bool c33))) (KLq KbF (Lv ((pt g4)) (Kxf h4 0) (Lv ((pf g4 i)) (Kxj 6 1) (KLs m22 i KbF fun w10 m33 s9 z7 => ?_))))
     have m34 : Blk w10 g4 20 (stY (JK a b (i + 1) i i)) 29 := m33.congr (JK_in (by omega) (by rw [c28, c33]; rfl))
     have m35 := m19.stp s9 (by omega)
     have m36 := m20.stp s9 (by omega)
     have m37 := m21.stp s9 (by omega)
     have b10 := s9.below b7 b7.size (by omega)
     refine Ln ?_
     exact jnN ⟨h1, h2, h3, h4, (h5.trans Fx.ic), m35, m36, m37, m34, b10⟩
    rintro f2 w11 ⟨h6, h7, h8, h9, h10, m38, m39, m40, m41, b11⟩
    refine WsJ (fun f w_ => f 2 = (pt g1) ∧ f 3 = (pt g2) ∧ f 4 = (pt g3) ∧ f 6 = (pt g4) ∧ f 7 = Ki6 ((i : Int)) ∧ Blk w_ g1 20 (stY (stS a ana anc aga agc)) 29 ∧ Blk w_ g2 20 (stY (stS b bna bnc bga bgc)) 29 ∧ Blk w_ g3 20 (fun i => (#[.bool false, .bool false, .bool false, .bool false, .bool false, .bool false, .bool false, .bool false, .bool false, .bool false, .bool false, .bool false, Ku6 0, Ku6 0, Ku6 0, Ku6 0, Ku6 0, Ku6 0, .slice none 0 0, .slice none 0 0] : Array Value).getD i undef) 29 ∧ Blk w_ g4 20 (stY (JK a b (i + 1) (i + 1) i)) 29 ∧ Below w.heap.size w w_) ?_ ?_
    ·refine Wl (KLh h10 (KLh h10 (Lv ((pf g1 6)) (Kxf h6 6) (Lv ((pf g1 (i + 6))) (Kxj 6 1) ?_))))
     by_cases c41 : (a.left i) = true
     ·refine Lv KbT (Kxl m38.cel (i + 6) ((stY_left _ (by omega) (by omega)).trans (congrArg Value.bool c41))) (KLq KbT (KLu (KLu (KLu (KLu (KLq KbT (Lv ((pf g4 6)) (Kxf h9 6) (Lv ((pf g4 (i + 6))) (Kxj 6 1) (KLs m41 (i + 6) KbT fun w12 m42 s10 z8 => ?_)))))))))
      have m43 : Blk w12 g4 20 (stY (JK a b (i + 1) (i + 1) i)) 29 := m42.congr (JK_left (by omega) (by omega) (by rw [c41]; rfl))
      have m44 := m38.stp s10 (by omega)
      have m45 := m39.stp s10 (by omega)
      have m46 := m40.stp s10 (by omega)
      have b12 := s10.below b11 b11.size (by omega)
      refine Ln ?_
      exact jnN ⟨h6, h7, h8, h9, (h10.trans Fx.ic), m44, m45, m46, m43, b12⟩
     rw [Bool.not_eq_true] at c41
     refine Lv KbF (Kxl m38.cel (i + 6) ((stY_left _ (by omega) (by omega)).trans (congrArg Value.bool c41))) (KLq KbF (KLh h10 (Lv ((pf g2 6)) (Kxf h7 6) (Lv ((pf g2 (i + 6))) (Kxj 6 1) ?_))))
     by_cases c46 : (b.left i) = true
     ·refine Lv KbT (Kxl m39.cel (i + 6) ((stY_left _ (by omega) (by omega)).trans (congrArg Value.bool c46))) (KLq KbT (Lv ((pf g4 6)) (Kxf h9 6) (Lv ((pf g4 (i + 6))) (Kxj 6 1) (KLs m41 (i + 6) KbT fun w13 m47 s11 z9 => ?_))))
      have m48 : Blk w13 g4 20 (stY (JK a b (i + 1) (i + 1) i)) 29 := m47.congr (JK_left (by omega) (by omega) (by rw [c41, c46]; rfl))
      have m49 := m38.stp s11 (by omega)
      have m50 := m39.stp s11 (by omega)
      have m51 := m40.stp s11 (by omega)
      have b13 := s11.below b11 b11.size (by omega)
      refine Ln ?_
      exact jnN ⟨h6, h7, h8, h9, (h10.trans Fx.ic), m49, m50, m51, m48, b13⟩
     rw [Bool.not_eq_true] at c46
     refine Lv KbF (Kxl m39.cel (i + 6) ((stY_left _ (by omega) (by omega)).trans (congrArg Value.bool c46))) (KLq KbF (Lv ((pf g4 6)) (Kxf h9 6) (Lv ((pf g4 (i + 6))) (Kxj 6 1) (KLs m41 (i + 6) KbF fun w14 m52 s12 z10 => ?_))))
     have m53 : Blk w14 g4 20 (stY (JK a b (i + 1) (i + 1) i)) 29 := m52.congr (JK_left (by omega) (by omega) (by rw [c41, c46]; rfl))
     have m54 := m38.stp s12 (by omega)
     have m55 := m39.stp s12 (by omega)
     have m56 := m40.stp s12 (by omega)
     have b14 := s12.below b11 b11.size (by omega)
     refine Ln ?_
     exact jnN ⟨h6, h7, h8, h9, (h10.trans Fx.ic), m54, m55, m56, m53, b14⟩
    rintro f3 w15 ⟨h11, h12, h13, h14, h15, m57, m58, m59, m60, b15⟩
    -- region 9 draws
    refine KWm [0, 1, 2, 3, 5, 6, 7, 10, 4, 8, 9, 11, 12] [0, 0, 0, 0, 4, 0, 0, 0, 4, 0, 0, 0, 3] [(12, 4, [4]), (12, 8, [8])] fun wt1 hbwt1 hzwt1 => ?_
    have ⟨m61, m62, m63, m64, b16⟩ := KTk5 hbwt1 m57 m58 m59 m60 b15
    refine KRh h15 (KRh h15 (Rp ((pf g1 12)) (fun _ => Kxf h11 12) (Rp ((pf g1 (i + 12))) (fun _ => Kxj 6 1) (KRh h15 (Rp ((pf g2 12)) (fun _ => Kxf h12 12) (Rp ((pf g2 (i + 12))) (fun _ => Kxj 6 1) (Rp ((pf g4 12)) (fun _ => Kxf h14 12) (Rs (Ku6 (a.known i)) (Kxl m61.cel (i + 12) (stY_known _ (by omega) (by omega))) ?_))))))))
    refine Rs (Ku6 (b.known i)) (Kxl m62.cel (i + 12) (stY_known _ (by omega) (by omega))) ?_
    refine Rp (Ku6 (mxI (a.known i) (b.known i))) (fun v1 => Fx.x_max rfl rfl rfl) (Rp ((pf g4 (i + 12))) (fun _ => Kxj 6 1) (KRe (KLs m64 (i + 12) (Ku6 (mxI (a.known i) (b.known i))) fun w16 m65 s14 z11 => ?_)))
    have m66 : Blk w16 g4 20 (stY (JK a b (i + 1) (i + 1) (i + 1))) 29 := m65.congr (JK_known (by omega) (by omega))
    have m67 := m61.stp s14 (by omega)
    have m68 := m62.stp s14 (by omega)
    have m69 := m63.stp s14 (by omega)
    have b17 := s14.below b16 b16.size (by omega)
    refine Ln (Rn (blkN (sN (Wl (KLh h15 (Lv (Ki6 ((i : Int) + 1)) KxP (KLq (Ki6 ((i : Int) + 1)) (Ln (lpN ⟨i + 1, by omega, h11, h12, h13, h14, Fx.ic, m67, m68, m69, m66, b17⟩ ?_)))))))))
    show (6 - (intOf ((Ki6 ((i : Int) + 1)))).toNat) < _
    simp only [h5, intOf]; omega
   refine Lv KbF (KltF c21) (KLe (KWcF (Wx (seqX (lpX (blkX (sN (Ws ?_))))))))
   have ei6 : i = 6 := by omega
   have m70 : Blk w7 g4 20 (stY (JM a b 6)) 29 := by have q9 := m22; rw [ei6] at q9; exact q9.congr (JK_6 a b)
   refine Wl (Lv (.agg (varr 20 (stY (stS a ana anc aga agc)))) (KxA m19.cel 0 (ha := h1)) (Lv (.agg (varr 20 (stY (stS b bna bnc bga bgc)))) (KxA m20.cel 0 (ha := h2)) (KLc (r_nodes a b ana anc aga agc bna bnc bga bgc _ (ha.up b7) (hb.up b7) (mayS_iff.1 c12).sn (mayS_iff.1 c16).sn) ?_)))
   intro e9 w17 hor; rcases hor with ⟨e9n, he, hb3⟩ | ⟨l9, alN, clN, e9n, he, hm1, hb3⟩
   ·refine ⟨_, he, ?_⟩
    clear he
    have ⟨m71, m72, m73, m74, b18⟩ := KTk5 hb3 m19 m20 m21 m70 b7
    refine KLq (.tuple #[.slice none 0 0, Ki6 9]) (KLq (.slice none 0 0) (KLq (Ki6 9) (KLq (.slice none 0 0) (KLq (Ki6 9) (KLe (Ws (KWsl (KLq (Ki6 9) (Lv KbT KneTo (KLe (KWcT (KWsl (KLq (.agg (varr 20 (fun i => (#[.bool false, .bool false, .bool false, .bool false, .bool false, .bool false, .bool false, .bool false, .bool false, .bool false, .bool false, .bool false, Ku6 0, Ku6 0, Ku6 0, Ku6 0, Ku6 0, Ku6 0, .slice none 0 0, .slice none 0 0] : Array Value).getD i undef))) (KLq (Ki6 9) (KLsA m73 0 (ha := h3) (h1 := (by exact fun j hj => match j, hj with | 0, _ => rfl | 1, _ => rfl | 2, _ => rfl | 3, _ => rfl | 4, _ => rfl | 5, _ => rfl | 6, _ => rfl | 7, _ => rfl | 8, _ => rfl | 9, _ => rfl | 10, _ => rfl | 11, _ => rfl | 12, _ => rfl | 13, _ => rfl | 14, _ => rfl | 15, _ => rfl | 16, _ => rfl | 17, _ => rfl | 18, _ => rfl | 19, _ => rfl | j + 20, h => absurd h (by omega))) fun w18 m75 s16 z12 => ?_)))))))))))))))
    have m76 : Blk w18 g3 20 (fun i => (#[.bool false, .bool false, .bool false, .bool false, .bool false, .bool false, .bool false, .bool false, .bool false, .bool false, .bool false, .bool false, Ku6 0, Ku6 0, Ku6 0, Ku6 0, Ku6 0, Ku6 0, .slice none 0 0, .slice none 0 0] : Array Value).getD i undef) 29 := ovr_all m75
    have m77 : Blk w18 g3 20 (stY mz) 29 := m76.congr (fun j hj => match j, hj with | 0, _ => rfl | 1, _ => rfl | 2, _ => rfl | 3, _ => rfl | 4, _ => rfl | 5, _ => rfl | 6, _ => rfl | 7, _ => rfl | 8, _ => rfl | 9, _ => rfl | 10, _ => rfl | 11, _ => rfl | 12, _ => rfl | 13, _ => rfl | 14, _ => rfl | 15, _ => rfl | 16, _ => rfl | 17, _ => rfl | 18, _ => rfl | 19, _ => rfl | j + 20, h => absurd h (by omega))
    have m78 := m71.stp s16 (by omega)
    have m79 := m72.stp s16 (by omega)
    have m80 := m74.stp s16 (by omega)
    have b19 := s16.below b18 b18.size (by omega)
    refine KLq (Ki6 9) (KLe (Wr (sR (⟨.tuple #[.agg (varr 20 (stY mz)), Ki6 9], retV2 Try.results9 ⟨_, h3, run_loadV m77.cel (by kernel_rfl) (by kernel_rfl)⟩ (by exact rfl), ?_⟩))))
    rw [jS_n c12 c16 e9n]
    exact ⟨none, 0, none, 0, rfl, oNl _ _ _ _ _, oNl _ _ _ _ _, b19⟩
   refine ⟨_, he, ?_⟩
   clear he
   have ⟨m81, m82, m83, m84, b20⟩ := KTk5 hb3 m19 m20 m21 m70 b7
   have m85 : Fx.Own w17 w.heap.size 50 56 (.slice alN (l9.length) (clN)) l9.length (ndsX l9) := hm1.mono b7.size
   refine KLq (.tuple #[.slice alN (l9.length) (clN), Ki6 0]) (KLq (.slice alN (l9.length) (clN)) (KLq (Ki6 0) (KLq (.slice alN (l9.length) (clN)) (KLq (Ki6 0) (KLe (Ws (KWsl (KLq (Ki6 0) (Lv KbF KneFo (KLe (KWcF (Wk (sN (KWsl (Lv (.agg (varr 20 (stY (stS a ana anc aga agc)))) (KxA m81.cel 0 (ha := h1)) (Lv (.agg (varr 20 (stY (stS b bna bnc bga bgc)))) (KxA m82.cel 0 (ha := h2)) (KLc (r_grants a b ana anc aga agc bna bnc bga bgc _ (ha.up b20) (hb.up b20) (mayS_iff.1 c12).sg (mayS_iff.1 c16).sg) ?_)))))))))))))))))
   intro e9 w20 hor; rcases hor with ⟨e9g, he, hb5⟩ | ⟨g9, alG, clG, e9g, he, hm3, hb5⟩
   ·refine ⟨_, he, ?_⟩
    clear he
    have ⟨m86, m87, m88, m89, b21⟩ := KTk5 hb5 m81 m82 m83 m84 b20
    refine KLq (.tuple #[.slice none 0 0, Ki6 14]) (KLq (.slice none 0 0) (KLq (Ki6 14) (KLq (.slice none 0 0) (KLq (Ki6 14) (KLe (Ws (KWsl (KLq (Ki6 14) (Lv KbT KneTo (KLe (KWcT (KWsl (KLq (.agg (varr 20 (fun i => (#[.bool false, .bool false, .bool false, .bool false, .bool false, .bool false, .bool false, .bool false, .bool false, .bool false, .bool false, .bool false, Ku6 0, Ku6 0, Ku6 0, Ku6 0, Ku6 0, Ku6 0, .slice none 0 0, .slice none 0 0] : Array Value).getD i undef))) (KLq (Ki6 14) (KLsA m88 0 (ha := h3) (h1 := (by exact fun j hj => match j, hj with | 0, _ => rfl | 1, _ => rfl | 2, _ => rfl | 3, _ => rfl | 4, _ => rfl | 5, _ => rfl | 6, _ => rfl | 7, _ => rfl | 8, _ => rfl | 9, _ => rfl | 10, _ => rfl | 11, _ => rfl | 12, _ => rfl | 13, _ => rfl | 14, _ => rfl | 15, _ => rfl | 16, _ => rfl | 17, _ => rfl | 18, _ => rfl | 19, _ => rfl | j + 20, h => absurd h (by omega))) fun w21 m91 s19 z13 => ?_)))))))))))))))
    have m92 : Blk w21 g3 20 (fun i => (#[.bool false, .bool false, .bool false, .bool false, .bool false, .bool false, .bool false, .bool false, .bool false, .bool false, .bool false, .bool false, Ku6 0, Ku6 0, Ku6 0, Ku6 0, Ku6 0, Ku6 0, .slice none 0 0, .slice none 0 0] : Array Value).getD i undef) 29 := ovr_all m91
    have m93 : Blk w21 g3 20 (stY mz) 29 := m92.congr (fun j hj => match j, hj with | 0, _ => rfl | 1, _ => rfl | 2, _ => rfl | 3, _ => rfl | 4, _ => rfl | 5, _ => rfl | 6, _ => rfl | 7, _ => rfl | 8, _ => rfl | 9, _ => rfl | 10, _ => rfl | 11, _ => rfl | 12, _ => rfl | 13, _ => rfl | 14, _ => rfl | 15, _ => rfl | 16, _ => rfl | 17, _ => rfl | 18, _ => rfl | 19, _ => rfl | j + 20, h => absurd h (by omega))
    have m94 := m86.stp s19 (by omega)
    have m95 := m87.stp s19 (by omega)
    have m96 := m89.stp s19 (by omega)
    have b22 := s19.below b21 b21.size (by omega)
    refine KLq (Ki6 14) (KLe (Wr (sR (⟨.tuple #[.agg (varr 20 (stY mz)), Ki6 14], retV2 Try.results9 ⟨_, h3, run_loadV m93.cel (by kernel_rfl) (by kernel_rfl)⟩ (by exact rfl), ?_⟩))))
    rw [jS_g c12 c16 e9n e9g]
    exact ⟨none, 0, none, 0, rfl, oNl _ _ _ _ _, oNl _ _ _ _ _, b22⟩
   refine ⟨_, he, ?_⟩
   clear he
   have ⟨m98, m99, m100, m101, m102, b23⟩ := KTk6 hb5 m81 m82 m83 m84 m85 b20
   have m103 : Fx.Own w20 w.heap.size 59 5 (.slice alG (g9.length) (clG)) g9.length (grsX g9) := hm3.mono b20.size
   refine KLq (.tuple #[.slice alG (g9.length) (clG), Ki6 0]) (KLq (.slice alG (g9.length) (clG)) (KLq (Ki6 0) (KLq (.slice alG (g9.length) (clG)) (KLq (Ki6 0) (KLe (Ws (KWsl (KLq (Ki6 0) (Lv KbF KneFo (KLe (KWcF (Wk (sN (KWsl (KLq (.slice alN (l9.length) (clN)) (Lv ((pf g4 18)) (Kxf h4 18) (KLs m101 18 (.slice alN (l9.length) (clN)) fun w23 m104 s21 z14 => ?_)))))))))))))))))
   have m105 : Blk w23 g4 20 (stY (JM2 a b alN l9.length clN)) 29 := m104.congr J_ns
   have m106 := m98.stp s21 (by omega)
   have m107 := m99.stp s21 (by omega)
   have m108 := m100.stp s21 (by omega)
   have hct2 := cOs s21 m101.ty
   have ⟨m109, m110⟩ := KCk2 hct2 m102 m103
   have b24 := s21.below b23 b23.size (by omega)
   refine KLe (KWsl (KLq (.slice alG (g9.length) (clG)) (Lv ((pf g4 19)) (Kxf h4 19) (KLs m105 19 (.slice alG (g9.length) (clG)) fun w24 m111 s22 z15 => ?_))))
   have m112 : Blk w24 g4 20 (stY (JM3 a b alN l9.length clN alG g9.length clG)) 29 := m111.congr J_gs
   have m113 := m106.stp s22 (by omega)
   have m114 := m107.stp s22 (by omega)
   have m115 := m108.stp s22 (by omega)
   have hct3 := cOs s22 m105.ty
   have ⟨m116, m117⟩ := KCk2 hct3 m109 m110
   have b25 := s22.below b24 b24.size (by omega)
   refine KLe (Ws (KWsl (Lv (.agg (varr 20 (stY (JM3 a b alN l9.length clN alG g9.length clG)))) (KxA m112.cel 0 (ha := h4)) ?_)))
   by_cases c87 : (mayS (joinR a b l9 g9)) = true
   ·refine KLc1 ((r_may (joinR a b l9 g9) alN clN alG clG _ (by have := mergeN_len e9n; have := (mayS_iff.1 c12).nn; have := (mayS_iff.1 c16).nn; show l9.length ≤ 1000000; omega) (by have := mergeG_len e9g; have := (mayS_iff.1 c12).gn; have := (mayS_iff.1 c16).gn; show g9.length ≤ 1000000; omega) m116.arr m117.arr)) KbT (by rw [c87]) ?_
    intro w25 hb7
    have ⟨m118, m119, m120, m121, m122, m123, b26⟩ := KTk7 hb7 m113 m114 m115 m116 m117 m112 b25
    refine KLq KbF (KLe (KWcF (Wk (sN (KWsl (Lv (.agg (varr 20 (stY (JM3 a b alN l9.length clN alG g9.length clG)))) (KxA m123.cel 0 (ha := h4)) (KLsA m120 0 (ha := h3) (h1 := (fun j _ => stY_one _ j)) fun w26 m124 s24 z16 => ?_)))))))
    have m125 : Blk w26 g3 20 (stY (JM3 a b alN l9.length clN alG g9.length clG)) 29 := ovr_all m124
    have m127 := m118.stp s24 (by omega)
    have m128 := m119.stp s24 (by omega)
    have hct4 := cOs s24 m120.ty
    have ⟨m129, m130⟩ := KCk2 hct4 m121 m122
    have m131 := m123.stp s24 (by omega)
    have b27 := s24.below b26 b26.size (by omega)
    refine KLq (Ki6 0) (KLe (Wr (⟨.tuple #[.agg (varr 20 (stY (JM3 a b alN l9.length clN alG g9.length clG))), Ki6 0], retV2 Try.results9 ⟨_, h3, run_loadV m125.cel (by kernel_rfl) (by kernel_rfl)⟩ (by exact rfl), ?_⟩)))
    rw [jS_y c12 c16 e9n e9g c87]
    exact ⟨alN, clN, alG, clG, by rw [Fx.varr_congr (J_end (a := a) (b := b) (l := l9) (g := g9))], m129, m130, b27⟩
   rw [Bool.not_eq_true] at c87
   refine KLc1 ((r_may (joinR a b l9 g9) alN clN alG clG _ (by have := mergeN_len e9n; have := (mayS_iff.1 c12).nn; have := (mayS_iff.1 c16).nn; show l9.length ≤ 1000000; omega) (by have := mergeG_len e9g; have := (mayS_iff.1 c12).gn; have := (mayS_iff.1 c16).gn; show g9.length ≤ 1000000; omega) m116.arr m117.arr)) KbF (by rw [c87]) ?_
   intro w27 hb8
   have ⟨m132, m133, m134, m137, b28⟩ := KTk5 hb8 m113 m114 m115 m112 b25
   refine KLq KbT (KLe (KWcT (KWsl (KLq (.agg (varr 20 (fun i => (#[.bool false, .bool false, .bool false, .bool false, .bool false, .bool false, .bool false, .bool false, .bool false, .bool false, .bool false, .bool false, Ku6 0, Ku6 0, Ku6 0, Ku6 0, Ku6 0, Ku6 0, .slice none 0 0, .slice none 0 0] : Array Value).getD i undef))) (KLsA m134 0 (ha := h3) (h1 := (by exact fun j hj => match j, hj with | 0, _ => rfl | 1, _ => rfl | 2, _ => rfl | 3, _ => rfl | 4, _ => rfl | 5, _ => rfl | 6, _ => rfl | 7, _ => rfl | 8, _ => rfl | 9, _ => rfl | 10, _ => rfl | 11, _ => rfl | 12, _ => rfl | 13, _ => rfl | 14, _ => rfl | 15, _ => rfl | 16, _ => rfl | 17, _ => rfl | 18, _ => rfl | 19, _ => rfl | j + 20, h => absurd h (by omega))) fun w28 m138 s26 z17 => ?_)))))
   have m139 : Blk w28 g3 20 (fun i => (#[.bool false, .bool false, .bool false, .bool false, .bool false, .bool false, .bool false, .bool false, .bool false, .bool false, .bool false, .bool false, Ku6 0, Ku6 0, Ku6 0, Ku6 0, Ku6 0, Ku6 0, .slice none 0 0, .slice none 0 0] : Array Value).getD i undef) 29 := ovr_all m138
   have m140 : Blk w28 g3 20 (stY mz) 29 := m139.congr (fun j hj => match j, hj with | 0, _ => rfl | 1, _ => rfl | 2, _ => rfl | 3, _ => rfl | 4, _ => rfl | 5, _ => rfl | 6, _ => rfl | 7, _ => rfl | 8, _ => rfl | 9, _ => rfl | 10, _ => rfl | 11, _ => rfl | 12, _ => rfl | 13, _ => rfl | 14, _ => rfl | 15, _ => rfl | 16, _ => rfl | 17, _ => rfl | 18, _ => rfl | 19, _ => rfl | j + 20, h => absurd h (by omega))
   have m141 := m132.stp s26 (by omega)
   have m142 := m133.stp s26 (by omega)
   have m145 := m137.stp s26 (by omega)
   have b29 := s26.below b28 b28.size (by omega)
   refine KLq (Ki6 6) (KLe (Wr (sR (⟨.tuple #[.agg (varr 20 (stY mz)), Ki6 6], retV2 Try.results9 ⟨_, h3, run_loadV m140.cel (by kernel_rfl) (by kernel_rfl)⟩ (by exact rfl), ?_⟩))))
   rw [jS_m c12 c16 e9n e9g c87]
   exact ⟨none, 0, none, 0, rfl, oNl _ _ _ _ _, oNl _ _ _ _ _, b29⟩
  rw [Bool.not_eq_true] at c16
  refine KLc1 (r_may b bna bnc bga bgc _ hb.l1 hb.l2 (hb.up b4).n (hb.up b4).g) KbF (by rw [c16]) ?_
  intro w29 hb9
  have ⟨m146, m147, m148, b30⟩ := KTk4 hb9 m7 m8 m9 b4
  refine KLq KbT (KLq KbT (KLe (KWcT (KWsl (KLq (.agg (varr 20 (fun i => (#[.bool false, .bool false, .bool false, .bool false, .bool false, .bool false, .bool false, .bool false, .bool false, .bool false, .bool false, .bool false, Ku6 0, Ku6 0, Ku6 0, Ku6 0, Ku6 0, Ku6 0, .slice none 0 0, .slice none 0 0] : Array Value).getD i undef))) (KLsA m148 0 (h1 := (by exact fun j hj => match j, hj with | 0, _ => rfl | 1, _ => rfl | 2, _ => rfl | 3, _ => rfl | 4, _ => rfl | 5, _ => rfl | 6, _ => rfl | 7, _ => rfl | 8, _ => rfl | 9, _ => rfl | 10, _ => rfl | 11, _ => rfl | 12, _ => rfl | 13, _ => rfl | 14, _ => rfl | 15, _ => rfl | 16, _ => rfl | 17, _ => rfl | 18, _ => rfl | 19, _ => rfl | j + 20, h => absurd h (by omega))) fun w30 m149 s28 z18 => ?_))))))
  have m150 : Blk w30 g3 20 (fun i => (#[.bool false, .bool false, .bool false, .bool false, .bool false, .bool false, .bool false, .bool false, .bool false, .bool false, .bool false, .bool false, Ku6 0, Ku6 0, Ku6 0, Ku6 0, Ku6 0, Ku6 0, .slice none 0 0, .slice none 0 0] : Array Value).getD i undef) 29 := ovr_all m149
  have m151 : Blk w30 g3 20 (stY mz) 29 := m150.congr (fun j hj => match j, hj with | 0, _ => rfl | 1, _ => rfl | 2, _ => rfl | 3, _ => rfl | 4, _ => rfl | 5, _ => rfl | 6, _ => rfl | 7, _ => rfl | 8, _ => rfl | 9, _ => rfl | 10, _ => rfl | 11, _ => rfl | 12, _ => rfl | 13, _ => rfl | 14, _ => rfl | 15, _ => rfl | 16, _ => rfl | 17, _ => rfl | 18, _ => rfl | 19, _ => rfl | j + 20, h => absurd h (by omega))
  have m152 := m146.stp s28 (by omega)
  have m153 := m147.stp s28 (by omega)
  have b31 := s28.below b30 b30.size (by omega)
  refine KLq (Ki6 1) (KLe (Wr (sR (⟨.tuple #[.agg (varr 20 (stY mz)), Ki6 1], retV2 Try.results9 ⟨_, rfl, run_loadV m151.cel (by kernel_rfl) (by kernel_rfl)⟩ (by exact rfl), ?_⟩))))
  rw [jS_arg (.inr c16)]
  exact ⟨none, 0, none, 0, rfl, oNl _ _ _ _ _, oNl _ _ _ _ _, b31⟩
 rw [Bool.not_eq_true] at c12
 refine KLc1 (r_may a ana anc aga agc _ ha.l1 ha.l2 (ha.up b3).n (ha.up b3).g) KbF (by rw [c12]) ?_
 intro w31 hb10
 have ⟨m154, m155, m156, b32⟩ := KTk4 hb10 m5 m6 m4 b3
 refine KLq KbT (KLq KbT (KLu (KLu (KLu (KLq KbT (KLe (KWcT (KWsl (KLq (.agg (varr 20 (fun i => (#[.bool false, .bool false, .bool false, .bool false, .bool false, .bool false, .bool false, .bool false, .bool false, .bool false, .bool false, .bool false, Ku6 0, Ku6 0, Ku6 0, Ku6 0, Ku6 0, Ku6 0, .slice none 0 0, .slice none 0 0] : Array Value).getD i undef))) (KLsA m156 0 (h1 := (by exact fun j hj => match j, hj with | 0, _ => rfl | 1, _ => rfl | 2, _ => rfl | 3, _ => rfl | 4, _ => rfl | 5, _ => rfl | 6, _ => rfl | 7, _ => rfl | 8, _ => rfl | 9, _ => rfl | 10, _ => rfl | 11, _ => rfl | 12, _ => rfl | 13, _ => rfl | 14, _ => rfl | 15, _ => rfl | 16, _ => rfl | 17, _ => rfl | 18, _ => rfl | 19, _ => rfl | j + 20, h => absurd h (by omega))) fun w32 m157 s30 z19 => ?_))))))))))
 have m158 : Blk w32 g3 20 (fun i => (#[.bool false, .bool false, .bool false, .bool false, .bool false, .bool false, .bool false, .bool false, .bool false, .bool false, .bool false, .bool false, Ku6 0, Ku6 0, Ku6 0, Ku6 0, Ku6 0, Ku6 0, .slice none 0 0, .slice none 0 0] : Array Value).getD i undef) 29 := ovr_all m157
 have m159 : Blk w32 g3 20 (stY mz) 29 := m158.congr (fun j hj => match j, hj with | 0, _ => rfl | 1, _ => rfl | 2, _ => rfl | 3, _ => rfl | 4, _ => rfl | 5, _ => rfl | 6, _ => rfl | 7, _ => rfl | 8, _ => rfl | 9, _ => rfl | 10, _ => rfl | 11, _ => rfl | 12, _ => rfl | 13, _ => rfl | 14, _ => rfl | 15, _ => rfl | 16, _ => rfl | 17, _ => rfl | 18, _ => rfl | 19, _ => rfl | j + 20, h => absurd h (by omega))
 have m160 := m154.stp s30 (by omega)
 have m161 := m155.stp s30 (by omega)
 have b33 := s30.below b32 b32.size (by omega)
 refine KLq (Ki6 1) (KLe (Wr (sR (⟨.tuple #[.agg (varr 20 (stY mz)), Ki6 1], retV2 Try.results9 ⟨_, rfl, run_loadV m159.cel (by kernel_rfl) (by kernel_rfl)⟩ (by exact rfl), ?_⟩))))
 rw [jS_arg (.inl c12)]
 exact ⟨none, 0, none, 0, rfl, oNl _ _ _ _ _, oNl _ _ _ _ _, b33⟩
theorem r_joinE (a b : SnM) (ana : Option Addr) (anc : Nat) (aga : Option Addr) (agc : Nat) (bna : Option Addr) (bnc : Nat) (bga : Option Addr) (bgc : Nat) (u : SnM) (ev : Int) (w : World) (ha : StW w a ana anc aga agc) (hb : StW w b bna bnc bga bgc) (hj : joinS a b = (u, ev)) :
    Calls Try.prog 9 #[.agg (varr 20 (stY (stS a ana anc aga agc))), .agg (varr 20 (stY (stS b bna bnc bga bgc)))] w fun e w' => ∃ na nc ga gc, e = .returned (.tuple #[.agg (varr 20 (stY (stS u na nc ga gc))), Ki6 ev]) ∧ Fx.Own w' w.heap.size 50 56 (.slice na u.ns.length nc) u.ns.length (ndsX u.ns) ∧ Fx.Own w' w.heap.size 59 5 (.slice ga u.gs.length gc) u.gs.length (grsX u.gs) ∧ Below w.heap.size w w' := by
  have h := r_join a b ana anc aga agc bna bnc bga bgc w ha hb
  rw [hj] at h; exact h
theorem r_less (a b : SnM) (ana : Option Addr) (anc : Nat) (aga : Option Addr) (agc : Nat) (bna : Option Addr) (bnc : Nat) (bga : Option Addr) (bgc : Nat) (w : World) (ha : StW w a ana anc aga agc) (hb : StW w b bna bnc bga bgc) :
    Calls Try.prog 18 #[.agg (varr 20 (stY (stS a ana anc aga agc))), .agg (varr 20 (stY (stS b bna bnc bga bgc)))] w fun e w' => e = .returned (.bool (lessS a b)) ∧ Below w.heap.size w w' := by
 obtain ⟨u, ev, hj⟩ : ∃ q r, joinS a b = (q, r) := ⟨_, _, rfl⟩
 refine Kent Try.func18 20 ?_
 refine KWsl (KLb fun g1 w1 eg1 m1 s1 z1 => ?_)
 have b1 := KTk1 s1.old (Below.refl w.heap.size w)
 have lg1 := KGk0 eg1
 have tg1 := m1.lt
 refine KLb fun g2 w2 eg2 m2 s2 z2 => ?_
 have ⟨m3, b2⟩ := KTk2 s2.old m1 b1
 have lg2 := KGk eg2 b1.size
 have ng2m3 := KNk1 eg2 m1.lt
 have tg2 := m2.lt
 refine KLq KbF (KLe (KWsl (Lv (.agg (varr 20 (stY (stS a ana anc aga agc)))) (KxA m3.cel 0) (Lv (.agg (varr 20 (stY (stS b bna bnc bga bgc)))) (KxA m2.cel 0) (KLc (r_joinE a b ana anc aga agc bna bnc bga bgc u ev _ (ha.up b2) (hb.up b2) hj) ?_)))))
 rintro e9 w3 ⟨una, unc, uga, ugc, he, hon1, hog1, hb1⟩
 refine ⟨_, he, ?_⟩
 clear he
 have ⟨m4, m5, b3⟩ := KTk3 hb1 m3 m2 b2
 have m6 : Fx.Own w3 w.heap.size 50 56 (.slice una (u.ns.length) (unc)) u.ns.length (ndsX u.ns) := hon1.mono b2.size
 have m7 : Fx.Own w3 w.heap.size 59 5 (.slice uga (u.gs.length) (ugc)) u.gs.length (grsX u.gs) := hog1.mono b2.size
 refine KLq (.tuple #[.agg (varr 20 (stY (stS u una unc uga ugc))), Ki6 ev]) (KLq (.agg (varr 20 (stY (stS u una unc uga ugc)))) (KLq (Ki6 ev) (KLw 20 (fun i => (#[.bool false, .bool false, .bool false, .bool false, .bool false, .bool false, .bool false, .bool false, .bool false, .bool false, .bool false, .bool false, Ku6 0, Ku6 0, Ku6 0, Ku6 0, Ku6 0, Ku6 0, .slice none 0 0, .slice none 0 0] : Array Value).getD i undef) fun g3 w4 eg3 m8 s4 z3 => ?_)))
 have ⟨m9, m10, m11, m12, b4⟩ := KTk5 s4.old m4 m5 m6 m7 b3
 have lg3 := KGk eg3 b3.size
 have ⟨ng3m9, ng3m10⟩ := KNk2 eg3 m4.lt m5.lt
 have tg3 := m8.lt
 refine KLsA m8 0 (h1 := (fun j _ => stY_one _ j)) fun w5 m13 s5 z4 => ?_
 have m14 : Blk w5 g3 20 (stY (stS u una unc uga ugc)) 29 := ovr_all m13
 have m15 := m9.stp s5 (by omega)
 have m16 := m10.stp s5 (by omega)
 have hct1 := cOs s5 m8.ty
 have ⟨m17, m18⟩ := KCk2 hct1 m11 m12
 have b5 := s5.below b4 b4.size (by omega)
 refine KLq (Ki6 ev) (KLe (KWsl (KLq (Ki6 ev) ?_)))
 by_cases c14 : ev = 0
 ·refine Lv KbT (KeqT c14) (KLq KbT (Lv (.agg (varr 20 (stY (stS u una unc uga ugc)))) (KxA m14.cel 0) (Lv (.agg (varr 20 (stY (stS b bna bnc bga bgc)))) (KxA m16.cel 0) ?_)))
  by_cases c18 : (sameS u b) = true
  ·refine KLc1 (s_same u b una unc uga ugc bna bnc bga bgc _ (joinE_w ha.r hb.r hj m17 m18) (hb.up b5)) KbT (by rw [c18]) ?_
   intro w6 hb2
   have b6 := KTk1 hb2 b5
   refine KLq KbT (KLq KbT (KLe (Wr (Kret KbT ?_))))
   exact ⟨KrB (Eq.symm (lessS_y hj c14 (sameS_iff.1 c18))), b6⟩
  rw [Bool.not_eq_true] at c18
  refine KLc1 (s_same u b una unc uga ugc bna bnc bga bgc _ (joinE_w ha.r hb.r hj m17 m18) (hb.up b5)) KbF (by rw [c18]) ?_
  intro w7 hb3
  have b7 := KTk1 hb3 b5
  refine KLq KbF (KLq KbF (KLe (Wr (Kret KbF ?_))))
  exact ⟨KrB (Eq.symm (lessS_n hj (fun h => by rw [sameS_y h.2] at c18; cases c18))), b7⟩
 refine Lv KbF (KeqF c14) (KLq KbF (KLu (KLu (KLu (KLq KbF (KLq KbF (KLe (Wr (Kret KbF ?_)))))))))
 exact ⟨KrB (Eq.symm (lessS_n hj (fun h => c14 h.1))), b5⟩
end
set_option linter.unusedVariables false
set_option maxRecDepth 20000
theorem r_getE (a : Option Addr) (n c : Nat) (l : List UInt8) (v : SnM) (ev : Int) (w : World) (hv : getV l = v) (he : getE l = ev) (hn : n = l.length) (hc : n ≤ c) (hl : n ≤ 100000000) (hb : Arr w a n 1 (Fx.byY l)) :
    Calls Try.prog 11 #[.slice a (n) (c)] w fun e w' => ∃ na nc ga gc, e = .returned (.tuple #[.agg (varr 20 (stY (stS v na nc ga gc))), Ki6 ev]) ∧ Fx.Own w' w.heap.size 50 56 (.slice na v.ns.length nc) v.ns.length (ndsX v.ns) ∧ Fx.Own w' w.heap.size 59 5 (.slice ga v.gs.length gc) v.gs.length (grsX v.gs) ∧ Below w.heap.size w w' := by
  have h := r_get a n c l w hn hc (by omega) hb
  rw [hv, he] at h; exact h
set_option maxRecDepth 20000 in
set_option maxHeartbeats 8000000 in
theorem s_plays (a : SnM) (ana : Option Addr) (anc : Nat) (aga : Option Addr) (agc : Nat) (b : SnM) (bna : Option Addr) (bnc : Nat) (bga : Option Addr) (bgc : Nat) (ra : Option Addr) (rn rc : Nat) (l : List UInt8) (w : World) (ha0 : a.ns.length ≤ 40 → a.gs.length ≤ 60 → StW w a ana anc aga agc) (hb0 : b.ns.length ≤ 40 → b.gs.length ≤ 60 → StW w b bna bnc bga bgc) (hrn : rn = l.length) (hrc : rn ≤ rc) (hl9 : Arr w ra rn 1 (Fx.byY l)) :
    Calls Try.prog 3 #[.agg (varr 20 (stY (stS a ana anc aga agc))), .agg (varr 20 (stY (stS b bna bnc bga bgc))), .slice ra (rn) (rc)] w fun e w' => e = .returned (.bool true) ∧ Below w.heap.size w w' := by
 obtain ⟨ab, e1, h1⟩ : ∃ q r, joinS a b = (q, r) := ⟨_, _, rfl⟩
 obtain ⟨eu, heu⟩ : ∃ q, q = getE l := ⟨_, rfl⟩
 refine Kent Try.func3 99 ?_
 refine KWsl (KLb fun g1 w1 eg1 m1 s1 z1 => ?_)
 have b1 := KTk1 s1.old (Below.refl w.heap.size w)
 have lg1 := KGk0 eg1
 have tg1 := m1.lt
 refine KLb fun g2 w2 eg2 m2 s2 z2 => ?_
 have ⟨m3, b2⟩ := KTk2 s2.old m1 b1
 have lg2 := KGk eg2 b1.size
 have ng2m3 := KNk1 eg2 m1.lt
 have tg2 := m2.lt
 refine KLq KbF (KLe (Ws (KWsl (Lv (.agg (varr 20 (stY (stS a ana anc aga agc)))) (KxA m3.cel 0) ?_))))
 by_cases c16 : (few a) = true
 ·refine KLc1 (s_few a ana anc aga agc _) KbT (by rw [c16]) ?_
  intro w3 hb1
  have ⟨m4, m5, b3⟩ := KTk3 hb1 m3 m2 b2
  refine KLq KbF (KLq KbF (Lv (.agg (varr 20 (stY (stS b bna bnc bga bgc)))) (KxA m5.cel 0) ?_))
  by_cases c20 : (few b) = true
  ·refine KLc1 (s_few b bna bnc bga bgc _) KbT (by rw [c20]) ?_
   intro w4 hb2
   have ⟨m6, m7, b4⟩ := KTk3 hb2 m4 m5 b3
   refine KLq KbF (KLq KbF (KLq KbF (KLq (.slice ra (rn) (rc)) (KLq (Ki6 rn) ?_))))
   by_cases c26 : 8192 < (rn : Int)
   ·refine Lv KbT (KgtT c26) (KLq KbT (KLe (KWcT (KWsl (KLc1 (s_works _) _ rfl ?_)))))
    intro w5 hb3
    have b5 := KTk1 hb3 b4
    refine KLq KbT (KLe (Wr (sR (Kret KbT ?_))))
    exact ⟨rfl, b5⟩
   refine Lv KbF (KgtF c26) (KLq KbF (KLe (KWcF (Wk (sN (Ws ?_))))))
   have hfa := few_p c16
   have ha := ha0 hfa.1 hfa.2
   have hfb := few_p c20
   have hb := hb0 hfb.1 hfb.2
   refine Wl (Lv (.agg (varr 20 (stY (stS a ana anc aga agc)))) (KxA m6.cel 0) (Lv (.agg (varr 20 (stY (stS b bna bnc bga bgc)))) (KxA m7.cel 0) (KLc (s_joinE a b ana anc aga agc bna bnc bga bgc ab e1 _ (ha.up b4) (hb.up b4) h1) ?_)))
   rintro e9 w6 ⟨p1na, p1nc, p1ga, p1gc, he, hon1, hog1, hb4⟩
   refine ⟨_, he, ?_⟩
   clear he
   have ⟨m10, m11, b6⟩ := KTk3 hb4 m6 m7 b4
   have m12 : Fx.Own w6 w.heap.size 50 56 (.slice p1na (ab.ns.length) (p1nc)) ab.ns.length (ndsX ab.ns) := hon1.mono b4.size
   have m13 : Fx.Own w6 w.heap.size 59 5 (.slice p1ga (ab.gs.length) (p1gc)) ab.gs.length (grsX ab.gs) := hog1.mono b4.size
   refine KLq (.tuple #[.agg (varr 20 (stY (stS ab p1na p1nc p1ga p1gc))), Ki6 e1]) (KLq (.agg (varr 20 (stY (stS ab p1na p1nc p1ga p1gc)))) (KLq (Ki6 e1) (KLw 20 (fun i => (#[.bool false, .bool false, .bool false, .bool false, .bool false, .bool false, .bool false, .bool false, .bool false, .bool false, .bool false, .bool false, Ku6 0, Ku6 0, Ku6 0, Ku6 0, Ku6 0, Ku6 0, .slice none 0 0, .slice none 0 0] : Array Value).getD i undef) fun g3 w7 eg3 m14 s7 z3 => ?_)))
   have ⟨m15, m16, m17, m18, b7⟩ := KTk5 s7.old m10 m11 m12 m13 b6
   have lg3 := KGk eg3 b6.size
   have ⟨ng3m15, ng3m16⟩ := KNk2 eg3 m10.lt m11.lt
   have tg3 := m14.lt
   refine KLsA m14 0 (h1 := (fun j _ => stY_one _ j)) fun w8 m19 s8 z4 => ?_
   have m20 : Blk w8 g3 20 (stY (stS ab p1na p1nc p1ga p1gc)) 29 := ovr_all m19
   have m21 := m15.stp s8 (by omega)
   have m22 := m16.stp s8 (by omega)
   have hct1 := cOs s8 m14.ty
   have ⟨m23, m24⟩ := KCk2 hct1 m17 m18
   have b8 := s8.below b7 b7.size (by omega)
   refine KLq (Ki6 e1) (KLe (KWsl (Lv (.agg (varr 20 (stY (stS a ana anc aga agc)))) (KxA m21.cel 0) (Lv (.agg (varr 20 (stY (stS b bna bnc bga bgc)))) (KxA m22.cel 0) (KLc (r_joinE a b ana anc aga agc bna bnc bga bgc ab e1 _ (ha.up b8) (hb.up b8) h1) ?_)))))
   rintro e9 w9 ⟨p2na, p2nc, p2ga, p2gc, he, hon2, hog2, hb5⟩
   refine ⟨_, he, ?_⟩
   clear he
   have ⟨m25, m26, m27, m28, m29, b9⟩ := KTk6 hb5 m21 m22 m23 m24 m20 b8
   have m30 : Fx.Own w9 w.heap.size 50 56 (.slice p2na (ab.ns.length) (p2nc)) ab.ns.length (ndsX ab.ns) := hon2.mono b8.size
   have m31 : Fx.Own w9 w.heap.size 59 5 (.slice p2ga (ab.gs.length) (p2gc)) ab.gs.length (grsX ab.gs) := hog2.mono b8.size
   refine KLq (.tuple #[.agg (varr 20 (stY (stS ab p2na p2nc p2ga p2gc))), Ki6 e1]) (KLq (.agg (varr 20 (stY (stS ab p2na p2nc p2ga p2gc)))) (KLq (Ki6 e1) (KLw 20 (fun i => (#[.bool false, .bool false, .bool false, .bool false, .bool false, .bool false, .bool false, .bool false, .bool false, .bool false, .bool false, .bool false, Ku6 0, Ku6 0, Ku6 0, Ku6 0, Ku6 0, Ku6 0, .slice none 0 0, .slice none 0 0] : Array Value).getD i undef) fun g4 w10 eg4 m32 s10 z5 => ?_)))
   have ⟨m33, m34, m35, m36, m37, m38, m39, b10⟩ := KTk8 s10.old m25 m26 m27 m28 m29 m30 m31 b9
   have lg4 := KGk eg4 b9.size
   have ⟨ng4m33, ng4m34, ng4m37⟩ := KNk3 eg4 m25.lt m26.lt m29.lt
   have tg4 := m32.lt
   refine KLsA m32 0 (h1 := (fun j _ => stY_one _ j)) fun w11 m40 s11 z6 => ?_
   have m41 : Blk w11 g4 20 (stY (stS ab p2na p2nc p2ga p2gc)) 29 := ovr_all m40
   have m42 := m33.stp s11 (by omega)
   have m43 := m34.stp s11 (by omega)
   have hct2 := cOs s11 m32.ty
   have ⟨m44, m45⟩ := KCk2 hct2 m35 m36
   have m46 := m37.stp s11 (by omega)
   have ⟨m47, m48⟩ := KCk2 hct2 m38 m39
   have b11 := s11.below b10 b10.size (by omega)
   refine KLq (Ki6 e1) (KLe (KWsl (Fx.L.bslice0 (s := 1) (by rfl) rfl Try.underlying30 (by kernel_rfl) rfl fun g5 w12 eg5 hO1 s12 => ?_)))
   have m49 : Fx.Own w12 w.heap.size 5 1 (Ksl g5 0 0) 0 (Fx.byY []) := hO1 _ _ (by rw [eg5]; exact b11.size)
   have ⟨m50, m51, m52, m53, m54, m55, m56, m57, b12⟩ := KTk9 s12.old m42 m43 m44 m45 m46 m47 m48 m41 b11
   refine KLq (.slice ra (rn) (rc)) (Fx.L.appAny (B := w.heap.size) (s := 1) (bytes := 1) (k := 0) (m := rn) (v := Ksl g5 0 0) (x := Fx.byY []) (by rfl) rfl rfl rfl Try.underlying30 (by kernel_rfl) (by kernel_rfl) rfl rfl m49 (hl9.up b12 rfl) (fun j _ => byY_one _ j) (by omega) (by omega) b12.size fun vv1 w13 ho1 hg1 hgv1 => ?_)
   rw [Nat.zero_add] at ho1
   obtain ⟨a1, cap1, rfl⟩ := ho1.val
   have hct3 := cOg hg1 m49
   have ⟨m59, m60, m61, m62, m63, m64, m65, m66⟩ := KCk8 hct3 m50 m51 m52 m53 m54 m55 m56 m57
   have m58 : Fx.Own w13 w.heap.size 5 1 (.slice a1 (rn) (cap1)) rn (Fx.byY l) := (ho1.congr (fun j hj => by rw [Nat.zero_mul]; rfl))
   have b13 : Below w.heap.size w w13 := bGr b12 hg1 b12.size (fun q hq => (m49.ge hq).1)
   refine KLc (s_getE a1 rn cap1 l (getV l) eu _ rfl heu.symm hrn m58.le (by omega) m58.arr) ?_
   rintro e9 w14 ⟨p3na, p3nc, p3ga, p3gc, he, hon3, hog3, hb6⟩
   refine ⟨_, he, ?_⟩
   clear he
   have ⟨m67, m68, m69, m70, m71, m72, m73, m74, b14⟩ := KTk9 hb6 m59 m60 m61 m62 m63 m64 m65 m66 b13
   have m75 : Fx.Own w14 w.heap.size 50 56 (.slice p3na ((getV l).ns.length) (p3nc)) ((getV l).ns.length) (ndsX (getV l).ns) := hon3.mono b13.size
   have m76 : Fx.Own w14 w.heap.size 59 5 (.slice p3ga ((getV l).gs.length) (p3gc)) ((getV l).gs.length) (grsX (getV l).gs) := hog3.mono b13.size
   refine KLq (.tuple #[.agg (varr 20 (stY (stS (getV l) p3na p3nc p3ga p3gc))), Ki6 eu]) (KLq (.agg (varr 20 (stY (stS (getV l) p3na p3nc p3ga p3gc)))) (KLq (Ki6 eu) (KLw 20 (fun i => (#[.bool false, .bool false, .bool false, .bool false, .bool false, .bool false, .bool false, .bool false, .bool false, .bool false, .bool false, .bool false, Ku6 0, Ku6 0, Ku6 0, Ku6 0, Ku6 0, Ku6 0, .slice none 0 0, .slice none 0 0] : Array Value).getD i undef) fun g6 w15 eg6 m77 s14 z7 => ?_)))
   have ⟨m78, m79, m80, m81, m82, m83, m84, m85, m86, m87, b15⟩ := KTk11 s14.old m67 m68 m69 m70 m71 m72 m73 m74 m75 m76 b14
   have lg6 := KGk eg6 b14.size
   have ⟨ng6m78, ng6m79, ng6m82, ng6m85⟩ := KNk4 eg6 m67.lt m68.lt m71.lt m74.lt
   have tg6 := m77.lt
   refine KLsA m77 0 (h1 := (fun j _ => stY_one _ j)) fun w16 m88 s15 z8 => ?_
   have m89 : Blk w16 g6 20 (stY (stS (getV l) p3na p3nc p3ga p3gc)) 29 := ovr_all m88
   have m90 := m78.stp s15 (by omega)
   have m91 := m79.stp s15 (by omega)
   have hct4 := cOs s15 m77.ty
   have ⟨m92, m93⟩ := KCk2 hct4 m80 m81
   have m94 := m82.stp s15 (by omega)
   have ⟨m95, m96⟩ := KCk2 hct4 m83 m84
   have m97 := m85.stp s15 (by omega)
   have ⟨m98, m99⟩ := KCk2 hct4 m86 m87
   have b16 := s15.below b15 b15.size (by omega)
   refine KLq (Ki6 eu) (KLe (KWsl (KLq (.slice ra (rn) (rc)) (KLc (r_getE ra rn rc l (getV l) eu _ rfl heu.symm hrn hrc (by omega) (hl9.up b16 rfl)) ?_))))
   rintro e9 w17 ⟨p4na, p4nc, p4ga, p4gc, he, hon4, hog4, hb7⟩
   refine ⟨_, he, ?_⟩
   clear he
   have ⟨m100, m101, m102, m103, m104, m105, m106, m107, m108, m109, m110, b17⟩ := KTk12 hb7 m90 m91 m92 m93 m94 m95 m96 m97 m98 m99 m89 b16
   have m111 : Fx.Own w17 w.heap.size 50 56 (.slice p4na ((getV l).ns.length) (p4nc)) ((getV l).ns.length) (ndsX (getV l).ns) := hon4.mono b16.size
   have m112 : Fx.Own w17 w.heap.size 59 5 (.slice p4ga ((getV l).gs.length) (p4gc)) ((getV l).gs.length) (grsX (getV l).gs) := hog4.mono b16.size
   refine KLq (.tuple #[.agg (varr 20 (stY (stS (getV l) p4na p4nc p4ga p4gc))), Ki6 eu]) (KLq (.agg (varr 20 (stY (stS (getV l) p4na p4nc p4ga p4gc)))) (KLq (Ki6 eu) (KLw 20 (fun i => (#[.bool false, .bool false, .bool false, .bool false, .bool false, .bool false, .bool false, .bool false, .bool false, .bool false, .bool false, .bool false, Ku6 0, Ku6 0, Ku6 0, Ku6 0, Ku6 0, Ku6 0, .slice none 0 0, .slice none 0 0] : Array Value).getD i undef) fun g7 w18 eg7 m113 s17 z9 => ?_)))
   have ⟨m114, m115, m116, m117, m118, m119, m120, m121, m122, m123, m124, m125, m126, b18⟩ := KTk14 s17.old m100 m101 m102 m103 m104 m105 m106 m107 m108 m109 m110 m111 m112 b17
   have lg7 := KGk eg7 b17.size
   have ⟨ng7m114, ng7m115, ng7m118, ng7m121, ng7m124⟩ := KNk5 eg7 m100.lt m101.lt m104.lt m107.lt m110.lt
   have tg7 := m113.lt
   refine KLsA m113 0 (h1 := (fun j _ => stY_one _ j)) fun w19 m127 s18 z10 => ?_
   have m128 : Blk w19 g7 20 (stY (stS (getV l) p4na p4nc p4ga p4gc)) 29 := ovr_all m127
   have m129 := m114.stp s18 (by omega)
   have m130 := m115.stp s18 (by omega)
   have hct5 := cOs s18 m113.ty
   have ⟨m131, m132⟩ := KCk2 hct5 m116 m117
   have m133 := m118.stp s18 (by omega)
   have ⟨m134, m135⟩ := KCk2 hct5 m119 m120
   have m136 := m121.stp s18 (by omega)
   have ⟨m137, m138⟩ := KCk2 hct5 m122 m123
   have m139 := m124.stp s18 (by omega)
   have ⟨m140, m141⟩ := KCk2 hct5 m125 m126
   have b19 := s18.below b18 b18.size (by omega)
   refine KLq (Ki6 eu) (KLe (Ws ?_))
   -- region 7 draws
   refine KWm [0, 2, 1, 3, 4, 5, 6, 9, 7, 8, 10, 11, 12, 13, 14, 15, 16, 17, 18, 19, 20, 21, 22, 23, 24, 25, 26, 28, 29, 27, 30, 31, 32, 33, 34, 35, 36, 37, 38, 39, 40, 41, 42, 43, 44, 45, 46] [4, 2, 1, 2, 0, 0, 4, 2, 1, 1, 2, 4, 0, 0, 0, 0, 0, 0, 0, 0, 4, 4, 2, 0, 0, 4, 4, 2, 1, 1, 2, 0, 0, 0, 0, 0, 0, 0, 0, 4, 4, 2, 0, 0, 2, 0, 0] [(1, 0, [0]), (3, 0, [1, 0]), (7, 0, [5, 4, 1, 0]), (10, 0, [5, 4, 1, 0]), (22, 0, [19, 14, 13, 5, 4, 1, 0]), (27, 0, [24, 23, 19, 14, 13, 5, 4, 1, 0]), (30, 0, [24, 23, 19, 14, 13, 5, 4, 1, 0]), (41, 0, [38, 33, 32, 24, 23, 19, 14, 13, 5, 4, 1, 0]), (44, 0, [43, 42, 38, 33, 32, 24, 23, 19, 14, 13, 5, 4, 1, 0]), (3, 1, [1]), (4, 1, [1]), (5, 1, [4, 1]), (6, 1, [5, 4, 1]), (9, 1, [5, 4, 1]), (7, 1, [5, 4, 1]), (8, 1, [5, 4, 1]), (10, 1, [5, 4, 1]), (11, 1, [5, 4, 1]), (12, 1, [5, 4, 1]), (13, 1, [5, 4, 1]), (14, 1, [13, 5, 4, 1]), (15, 1, [14, 13, 5, 4, 1]), (16, 1, [14, 13, 5, 4, 1]), (17, 1, [14, 13, 5, 4, 1]), (18, 1, [14, 13, 5, 4, 1]), (19, 1, [14, 13, 5, 4, 1]), (20, 1, [19, 14, 13, 5, 4, 1]), (21, 1, [19, 14, 13, 5, 4, 1]), (22, 1, [19, 14, 13, 5, 4, 1]), (23, 1, [19, 14, 13, 5, 4, 1]), (24, 1, [23, 19, 14, 13, 5, 4, 1]), (25, 1, [24, 23, 19, 14, 13, 5, 4, 1]), (26, 1, [24, 23, 19, 14, 13, 5, 4, 1]), (28, 1, [24, 23, 19, 14, 13, 5, 4, 1]), (29, 1, [24, 23, 19, 14, 13, 5, 4, 1]), (27, 1, [24, 23, 19, 14, 13, 5, 4, 1]), (30, 1, [24, 23, 19, 14, 13, 5, 4, 1]), (31, 1, [24, 23, 19, 14, 13, 5, 4, 1]), (32, 1, [24, 23, 19, 14, 13, 5, 4, 1]), (33, 1, [32, 24, 23, 19, 14, 13, 5, 4, 1]), (34, 1, [33, 32, 24, 23, 19, 14, 13, 5, 4, 1]), (35, 1, [33, 32, 24, 23, 19, 14, 13, 5, 4, 1]), (36, 1, [33, 32, 24, 23, 19, 14, 13, 5, 4, 1]), (37, 1, [33, 32, 24, 23, 19, 14, 13, 5, 4, 1]), (38, 1, [33, 32, 24, 23, 19, 14, 13, 5, 4, 1]), (39, 1, [38, 33, 32, 24, 23, 19, 14, 13, 5, 4, 1]), (40, 1, [38, 33, 32, 24, 23, 19, 14, 13, 5, 4, 1]), (41, 1, [38, 33, 32, 24, 23, 19, 14, 13, 5, 4, 1]), (42, 1, [38, 33, 32, 24, 23, 19, 14, 13, 5, 4, 1]), (43, 1, [42, 38, 33, 32, 24, 23, 19, 14, 13, 5, 4, 1]), (44, 1, [43, 42, 38, 33, 32, 24, 23, 19, 14, 13, 5, 4, 1]), (45, 1, [43, 42, 38, 33, 32, 24, 23, 19, 14, 13, 5, 4, 1]), (46, 1, [1]), (4, 3, [3]), (5, 3, [3]), (6, 3, [5, 3]), (9, 3, [5, 3]), (7, 3, [5, 3]), (8, 3, [5, 3]), (10, 3, [5, 3]), (11, 3, [5, 3]), (12, 3, [5, 3]), (13, 3, [5, 3]), (14, 3, [13, 5, 3]), (15, 3, [14, 13, 5, 3]), (16, 3, [14, 13, 5, 3]), (17, 3, [14, 13, 5, 3]), (18, 3, [14, 13, 5, 3]), (19, 3, [14, 13, 5, 3]), (20, 3, [19, 14, 13, 5, 3]), (21, 3, [19, 14, 13, 5, 3]), (22, 3, [19, 14, 13, 5, 3]), (23, 3, [19, 14, 13, 5, 3]), (24, 3, [23, 19, 14, 13, 5, 3]), (25, 3, [24, 23, 19, 14, 13, 5, 3]), (26, 3, [24, 23, 19, 14, 13, 5, 3]), (28, 3, [24, 23, 19, 14, 13, 5, 3]), (29, 3, [24, 23, 19, 14, 13, 5, 3]), (27, 3, [24, 23, 19, 14, 13, 5, 3]), (30, 3, [24, 23, 19, 14, 13, 5, 3]), (31, 3, [24, 23, 19, 14, 13, 5, 3]), (32, 3, [24, 23, 19, 14, 13, 5, 3]), (33, 3, [32, 24, 23, 19, 14, 13, 5, 3]), (34, 3, [33, 32, 24, 23, 19, 14, 13, 5, 3]), (35, 3, [33, 32, 24, 23, 19, 14, 13, 5, 3]), (36, 3, [33, 32, 24, 23, 19, 14, 13, 5, 3]), (37, 3, [33, 32, 24, 23, 19, 14, 13, 5, 3]), (38, 3, [33, 32, 24, 23, 19, 14, 13, 5, 3]), (39, 3, [38, 33, 32, 24, 23, 19, 14, 13, 5, 3]), (40, 3, [38, 33, 32, 24, 23, 19, 14, 13, 5, 3]), (41, 3, [38, 33, 32, 24, 23, 19, 14, 13, 5, 3]), (42, 3, [38, 33, 32, 24, 23, 19, 14, 13, 5, 3]), (43, 3, [42, 38, 33, 32, 24, 23, 19, 14, 13, 5, 3]), (44, 3, [43, 42, 38, 33, 32, 24, 23, 19, 14, 13, 5, 3]), (45, 3, [43, 42, 38, 33, 32, 24, 23, 19, 14, 13, 5, 3]), (46, 3, [3]), (7, 6, [6]), (10, 6, [7, 6]), (22, 6, [19, 14, 10, 7, 6]), (27, 6, [24, 23, 19, 14, 10, 7, 6]), (30, 6, [24, 23, 19, 14, 10, 7, 6]), (41, 6, [38, 33, 32, 24, 23, 19, 14, 10, 7, 6]), (44, 6, [43, 42, 38, 33, 32, 24, 23, 19, 14, 10, 7, 6]), (8, 7, [7]), (10, 7, [7]), (11, 7, [10, 7]), (12, 7, [8, 7]), (13, 7, [12, 8, 7]), (14, 7, [10, 7]), (15, 7, [14, 10, 7]), (16, 7, [14, 10, 7]), (17, 7, [14, 10, 7]), (18, 7, [14, 10, 7]), (19, 7, [14, 10, 7]), (20, 7, [19, 14, 10, 7]), (21, 7, [19, 14, 10, 7]), (22, 7, [19, 14, 10, 7]), (23, 7, [19, 14, 10, 7]), (24, 7, [23, 19, 14, 10, 7]), (25, 7, [24, 23, 19, 14, 10, 7]), (26, 7, [24, 23, 19, 14, 10, 7]), (28, 7, [24, 23, 19, 14, 10, 7]), (29, 7, [24, 23, 19, 14, 10, 7]), (27, 7, [24, 23, 19, 14, 10, 7]), (30, 7, [24, 23, 19, 14, 10, 7]), (31, 7, [24, 23, 19, 14, 10, 7]), (32, 7, [24, 23, 19, 14, 10, 7]), (33, 7, [32, 24, 23, 19, 14, 10, 7]), (34, 7, [33, 32, 24, 23, 19, 14, 10, 7]), (35, 7, [33, 32, 24, 23, 19, 14, 10, 7]), (36, 7, [33, 32, 24, 23, 19, 14, 10, 7]), (37, 7, [33, 32, 24, 23, 19, 14, 10, 7]), (38, 7, [33, 32, 24, 23, 19, 14, 10, 7]), (39, 7, [38, 33, 32, 24, 23, 19, 14, 10, 7]), (40, 7, [38, 33, 32, 24, 23, 19, 14, 10, 7]), (41, 7, [38, 33, 32, 24, 23, 19, 14, 10, 7]), (42, 7, [38, 33, 32, 24, 23, 19, 14, 10, 7]), (43, 7, [42, 38, 33, 32, 24, 23, 19, 14, 10, 7]), (44, 7, [43, 42, 38, 33, 32, 24, 23, 19, 14, 10, 7]), (45, 7, [43, 42, 38, 33, 32, 24, 23, 19, 14, 10, 7]), (46, 7, [7]), (11, 10, [10]), (12, 10, [11, 10]), (13, 10, [12, 11, 10]), (14, 10, [10]), (15, 10, [14, 10]), (16, 10, [14, 10]), (17, 10, [14, 10]), (18, 10, [14, 10]), (19, 10, [14, 10]), (20, 10, [19, 14, 10]), (21, 10, [19, 14, 10]), (22, 10, [19, 14, 10]), (23, 10, [19, 14, 10]), (24, 10, [23, 19, 14, 10]), (25, 10, [24, 23, 19, 14, 10]), (26, 10, [24, 23, 19, 14, 10]), (28, 10, [24, 23, 19, 14, 10]), (29, 10, [24, 23, 19, 14, 10]), (27, 10, [24, 23, 19, 14, 10]), (30, 10, [24, 23, 19, 14, 10]), (31, 10, [24, 23, 19, 14, 10]), (32, 10, [24, 23, 19, 14, 10]), (33, 10, [32, 24, 23, 19, 14, 10]), (34, 10, [33, 32, 24, 23, 19, 14, 10]), (35, 10, [33, 32, 24, 23, 19, 14, 10]), (36, 10, [33, 32, 24, 23, 19, 14, 10]), (37, 10, [33, 32, 24, 23, 19, 14, 10]), (38, 10, [33, 32, 24, 23, 19, 14, 10]), (39, 10, [38, 33, 32, 24, 23, 19, 14, 10]), (40, 10, [38, 33, 32, 24, 23, 19, 14, 10]), (41, 10, [38, 33, 32, 24, 23, 19, 14, 10]), (42, 10, [38, 33, 32, 24, 23, 19, 14, 10]), (43, 10, [42, 38, 33, 32, 24, 23, 19, 14, 10]), (44, 10, [43, 42, 38, 33, 32, 24, 23, 19, 14, 10]), (45, 10, [43, 42, 38, 33, 32, 24, 23, 19, 14, 10]), (46, 10, [10]), (22, 11, [19, 14, 13, 12, 11]), (27, 11, [24, 23, 19, 14, 13, 12, 11]), (30, 11, [24, 23, 19, 14, 13, 12, 11]), (41, 11, [38, 33, 32, 24, 23, 19, 14, 13, 12, 11]), (44, 11, [43, 42, 38, 33, 32, 24, 23, 19, 14, 13, 12, 11]), (22, 20, [20]), (27, 20, [24, 22, 20]), (30, 20, [24, 22, 20]), (41, 20, [38, 33, 32, 24, 22, 20]), (44, 20, [43, 42, 38, 33, 32, 24, 22, 20]), (22, 21, [21]), (27, 21, [24, 22, 21]), (30, 21, [24, 22, 21]), (41, 21, [38, 33, 32, 24, 22, 21]), (44, 21, [43, 42, 38, 33, 32, 24, 22, 21]), (23, 22, [22]), (24, 22, [22]), (25, 22, [24, 22]), (26, 22, [24, 22]), (28, 22, [24, 22]), (29, 22, [24, 22]), (27, 22, [24, 22]), (30, 22, [24, 22]), (31, 22, [24, 22]), (32, 22, [24, 22]), (33, 22, [32, 24, 22]), (34, 22, [33, 32, 24, 22]), (35, 22, [33, 32, 24, 22]), (36, 22, [33, 32, 24, 22]), (37, 22, [33, 32, 24, 22]), (38, 22, [33, 32, 24, 22]), (39, 22, [38, 33, 32, 24, 22]), (40, 22, [38, 33, 32, 24, 22]), (41, 22, [38, 33, 32, 24, 22]), (42, 22, [38, 33, 32, 24, 22]), (43, 22, [42, 38, 33, 32, 24, 22]), (44, 22, [43, 42, 38, 33, 32, 24, 22]), (45, 22, [43, 42, 38, 33, 32, 24, 22]), (46, 22, [22]), (27, 25, [25]), (30, 25, [27, 25]), (41, 25, [38, 33, 30, 27, 25]), (44, 25, [43, 42, 38, 33, 30, 27, 25]), (27, 26, [26]), (30, 26, [27, 26]), (41, 26, [38, 33, 30, 27, 26]), (44, 26, [43, 42, 38, 33, 30, 27, 26]), (30, 27, [27]), (31, 27, [27]), (32, 27, [31, 27]), (33, 27, [30, 27]), (34, 27, [33, 30, 27]), (35, 27, [33, 30, 27]), (36, 27, [33, 30, 27]), (37, 27, [33, 30, 27]), (38, 27, [33, 30, 27]), (39, 27, [38, 33, 30, 27]), (40, 27, [38, 33, 30, 27]), (41, 27, [38, 33, 30, 27]), (42, 27, [38, 33, 30, 27]), (43, 27, [42, 38, 33, 30, 27]), (44, 27, [43, 42, 38, 33, 30, 27]), (45, 27, [43, 42, 38, 33, 30, 27]), (46, 27, [27]), (31, 30, [30]), (32, 30, [31, 30]), (33, 30, [30]), (34, 30, [33, 30]), (35, 30, [33, 30]), (36, 30, [33, 30]), (37, 30, [33, 30]), (38, 30, [33, 30]), (39, 30, [38, 33, 30]), (40, 30, [38, 33, 30]), (41, 30, [38, 33, 30]), (42, 30, [38, 33, 30]), (43, 30, [42, 38, 33, 30]), (44, 30, [43, 42, 38, 33, 30]), (45, 30, [43, 42, 38, 33, 30]), (46, 30, [30]), (41, 39, [39]), (44, 39, [43, 41, 39]), (41, 40, [40]), (44, 40, [43, 41, 40]), (42, 41, [41]), (43, 41, [41]), (44, 41, [43, 41]), (45, 41, [43, 41]), (46, 41, [41]), (45, 44, [44]), (46, 44, [44])] fun wt1 hbwt1 hzwt1 => ?_
   have ⟨m142, m143, m144, m145, m146, m147, m148, m149, m150, m151, m152, m153, m154, m155, b20⟩ := KTk15 hbwt1 m129 m130 m131 m132 m133 m134 m135 m136 m137 m138 m139 m140 m141 m128 b19
   refine Rs (.agg (varr 20 (stY (stS a ana anc aga agc)))) (KxA m142.cel 0) ?_
   refine Rd (v := .agg (varr 20 (stY (stS a ana anc aga agc)))) (by rfl) (by rfl) (mRf _) (fun v1 hv1 => x_loadA (x := stY (stS a ana anc aga agc)) (y := stY (stS a ana anc aga agc)) rfl rfl (by kernel_rfl) (by kernel_rfl) (m142.cel.below hv1 (by have := m142.lt; omega)) (i := 0) (by omega) (by omega) (fun j _ => by rw [Nat.zero_add])) ?_
   refine KRk ?_
   by_cases c54 : (mayS a) = true
   ·refine KLc1 (s_may a ana anc aga agc _ ha.r.k ha.l1 ha.l2 (ha.up b20).n (ha.up b20).g) KbT (by rw [c54]) ?_
    intro w20 hb8
    have s20 := Sb hb8
    have ⟨m156, m157, m158, m159, m160, m161, m162, m163, m164, m165, m166, m167, m168, m169, b21⟩ := KTk15 hb8 m142 m143 m144 m145 m146 m147 m148 m149 m150 m151 m152 m153 m154 m155 b20
    refine Ln ⟨s20.old, ?_⟩
    refine KRk (KLc1 (r_may a ana anc aga agc _ ha.l1 ha.l2 (ha.up b21).n (ha.up b21).g) KbT (by rw [c54]) ?_)
    intro w21 hb9
    have s21 := Sb hb9
    have ⟨m170, m171, m172, m173, m174, m175, m176, m177, m178, m179, m180, m181, m182, m183, b22⟩ := KTk15 hb9 m156 m157 m158 m159 m160 m161 m162 m163 m164 m165 m166 m167 m168 m169 b21
    refine Ln ⟨s21.old, ?_⟩
    refine Rp KbT (fun v1 => Fx.x_eqlB rfl rfl rfl (by kernel_rfl) rfl) (KRq KbT (Rs (.agg (varr 20 (stY (stS a ana anc aga agc)))) (KxA m170.cel 0) ?_))
    refine Rd (v := .agg (varr 20 (stY (stS a ana anc aga agc)))) (by rfl) (by rfl) (mRf _) (fun v1 hv1 => x_loadA (x := stY (stS a ana anc aga agc)) (y := stY (stS a ana anc aga agc)) rfl rfl (by kernel_rfl) (by kernel_rfl) (m170.cel.below hv1 (by have := m170.lt; omega)) (i := 0) (by omega) (by omega) (fun j _ => by rw [Nat.zero_add])) ?_
    refine KRk (KLc (s_put a ana anc aga agc _ (ha.up b22)) ?_)
    rintro e9 w22 ⟨pa1, pc1, he, hm1, hb10⟩
    refine ⟨_, he, ?_⟩
    clear he
    have s22 := Sb hb10
    have ⟨m185, m186, m187, m188, m189, m190, m191, m192, m193, m194, m195, m196, m197, m198, b23⟩ := KTk15 hb10 m170 m171 m172 m173 m174 m175 m176 m177 m178 m179 m180 m181 m182 m183 b22
    have m184 : Fx.Own w22 w.heap.size 5 1 (.slice pa1 ((putB a).length) (pc1)) ((putB a).length) (Fx.byY (putB a)) := hm1.mono b22.size
    refine Ln ⟨s22.old, ?_⟩
    refine Rd (v := .string (Fx.strL (putB a))) (by rfl) (by rfl) (mRf _) (fun v1 hv1 => Fx.x_bstr (l := putB a) rfl rfl Try.underlying30 Try.underlying5 Try.underlying9 rfl (m184.up hv1).arr) ?_
    refine KRk (KLc (r_put a ana anc aga agc _ (ha.up b23)) ?_)
    rintro e9 w23 ⟨pa2, pc2, he, hm2, hb11⟩
    refine ⟨_, he, ?_⟩
    clear he
    have s23 := Sb hb11
    have ⟨m200, m201, m202, m203, m204, m205, m206, m207, m208, m209, m210, m211, m212, m213, b24⟩ := KTk15 hb11 m185 m186 m187 m188 m189 m190 m191 m192 m193 m194 m195 m196 m197 m198 b23
    have m199 : Fx.Own w23 w.heap.size 5 1 (.slice pa2 ((putB a).length) (pc2)) ((putB a).length) (Fx.byY (putB a)) := hm2.mono b23.size
    refine Ln ⟨s23.old, ?_⟩
    refine Rs (.string (Fx.strL (putB a))) (Fx.x_bstr (l := putB a) rfl rfl Try.underlying30 Try.underlying5 Try.underlying9 rfl m199.arr) ?_
    refine Rp KbT (fun v1 => Fx.runs_b (Fx.x_eqlS rfl rfl rfl) (decide_eq_true rfl)) (KRq KbT (KRq KbT (KRq (Ki6 e1) (KRq (Ki6 e1) (Rp KbT (fun _ => KeqT (rfl)) (KRq KbT (KRq KbT (Rs (.agg (varr 20 (stY (stS ab p1na p1nc p1ga p1gc)))) (KxA m204.cel 0) ?_))))))))
    refine Rs (.agg (varr 20 (stY (stS ab p2na p2nc p2ga p2gc)))) (KxA m207.cel 0) ?_
    refine KRk (KLc1 ((s_same ab ab p1na p1nc p1ga p1gc p2na p2nc p2ga p2gc _ (joinE_w ha.r hb.r h1 m202 m203) (joinE_w ha.r hb.r h1 m205 m206)).mono (fun e w2 h2 => (⟨by rw [h2.1, sameS_self _], h2.2⟩ : e = .returned (.bool true) ∧ Below _ _ w2))) _ rfl ?_)
    intro w24 hb12
    have s24 := Sb hb12
    have ⟨m215, m216, m223, m224, m225, m226, m227, m228, b25⟩ := KTk9 hb12 m200 m201 m208 m209 m210 m211 m212 m213 b24
    refine Ln ⟨s24.old, ?_⟩
    refine KRq KbT (KRq KbT (Rs (.agg (varr 20 (stY (stS a ana anc aga agc)))) (KxA m215.cel 0) ?_))
    refine Rs (.agg (varr 20 (stY (stS b bna bnc bga bgc)))) (KxA m216.cel 0) ?_
    refine Rd (v := .agg (varr 20 (stY (stS a ana anc aga agc)))) (by rfl) (by rfl) (mRf _) (fun v1 hv1 => x_loadA (x := stY (stS a ana anc aga agc)) (y := stY (stS a ana anc aga agc)) rfl rfl (by kernel_rfl) (by kernel_rfl) (m215.cel.below hv1 (by have := m215.lt; omega)) (i := 0) (by omega) (by omega) (fun j _ => by rw [Nat.zero_add])) ?_
    refine Rd (v := .agg (varr 20 (stY (stS b bna bnc bga bgc)))) (by rfl) (by rfl) (mRf _) (fun v1 hv1 => x_loadA (x := stY (stS b bna bnc bga bgc)) (y := stY (stS b bna bnc bga bgc)) rfl rfl (by kernel_rfl) (by kernel_rfl) (m216.cel.below hv1 (by have := m216.lt; omega)) (i := 0) (by omega) (by omega) (fun j _ => by rw [Nat.zero_add])) ?_
    refine KRk ?_
    by_cases c80 : (lessS a b) = true
    ·refine KLc1 (s_less a b ana anc aga agc bna bnc bga bgc _ (ha.up b25) (hb.up b25)) KbT (by rw [c80]) ?_
     intro w25 hb13
     have s25 := Sb hb13
     have ⟨m239, m240, m241, m242, m243, m244, b26⟩ := KTk7 hb13 m223 m224 m225 m226 m227 m228 b25
     refine Ln ⟨s25.old, ?_⟩
     refine KRk (KLc1 (r_less a b ana anc aga agc bna bnc bga bgc _ (ha.up b26) (hb.up b26)) KbT (by rw [c80]) ?_)
     intro w26 hb14
     have s26 := Sb hb14
     have ⟨m255, m256, m257, m258, m259, m260, b27⟩ := KTk7 hb14 m239 m240 m241 m242 m243 m244 b26
     refine Ln ⟨s26.old, ?_⟩
     refine Rp KbT (fun v1 => Fx.x_eqlB rfl rfl rfl (by kernel_rfl) rfl) (KRq KbT (KRq KbT (KRq (Ki6 eu) (KRq (Ki6 eu) (Rp KbT (fun _ => KeqT (rfl)) (KRq KbT (KRq KbT (Rs (.agg (varr 20 (stY (stS (getV l) p3na p3nc p3ga p3gc)))) (KxA m257.cel 0) ?_))))))))
     refine Rs (.agg (varr 20 (stY (stS (getV l) p4na p4nc p4ga p4gc)))) (KxA m260.cel 0) ?_
     refine KRk (KLc1 ((s_same (getV l) (getV l) p3na p3nc p3ga p3gc p4na p4nc p4ga p4gc _ (get_w (l := l) rfl m255 m256) (get_w (l := l) rfl m258 m259)).mono (fun e w2 h2 => (⟨by rw [h2.1, sameS_self _], h2.2⟩ : e = .returned (.bool true) ∧ Below _ _ w2))) _ rfl ?_)
     intro w27 hb15
     have s27 := Sb hb15
     have b28 := KTk1 hb15 b27
     refine Ln ⟨s27.old, ?_⟩
     refine KRq KbT (KRq KbT (KRk (KLc1 (s_works _) _ rfl ?_)))
     intro w28 hb16
     have s28 := Sb hb16
     have b29 := KTk1 hb16 b28
     refine Ln ⟨s28.old, ?_⟩
     refine KRq KbT (KRq KbT (KRend (Wr (Kret KbT ?_))))
     exact ⟨rfl, b29⟩
    rw [Bool.not_eq_true] at c80
    refine KLc1 (s_less a b ana anc aga agc bna bnc bga bgc _ (ha.up b25) (hb.up b25)) KbF (by rw [c80]) ?_
    intro w29 hb17
    have s29 := Sb hb17
    have ⟨m303, m304, m305, m306, m307, m308, b30⟩ := KTk7 hb17 m223 m224 m225 m226 m227 m228 b25
    refine Ln ⟨s29.old, ?_⟩
    refine KRk (KLc1 (r_less a b ana anc aga agc bna bnc bga bgc _ (ha.up b30) (hb.up b30)) KbF (by rw [c80]) ?_)
    intro w30 hb18
    have s30 := Sb hb18
    have ⟨m319, m320, m321, m322, m323, m324, b31⟩ := KTk7 hb18 m303 m304 m305 m306 m307 m308 b30
    refine Ln ⟨s30.old, ?_⟩
    refine Rp KbT (fun v1 => Fx.x_eqlB rfl rfl rfl (by kernel_rfl) rfl) (KRq KbT (KRq KbT (KRq (Ki6 eu) (KRq (Ki6 eu) (Rp KbT (fun _ => KeqT (rfl)) (KRq KbT (KRq KbT (Rs (.agg (varr 20 (stY (stS (getV l) p3na p3nc p3ga p3gc)))) (KxA m321.cel 0) ?_))))))))
    refine Rs (.agg (varr 20 (stY (stS (getV l) p4na p4nc p4ga p4gc)))) (KxA m324.cel 0) ?_
    refine KRk (KLc1 ((s_same (getV l) (getV l) p3na p3nc p3ga p3gc p4na p4nc p4ga p4gc _ (get_w (l := l) rfl m319 m320) (get_w (l := l) rfl m322 m323)).mono (fun e w2 h2 => (⟨by rw [h2.1, sameS_self _], h2.2⟩ : e = .returned (.bool true) ∧ Below _ _ w2))) _ rfl ?_)
    intro w31 hb19
    have s31 := Sb hb19
    have b32 := KTk1 hb19 b31
    refine Ln ⟨s31.old, ?_⟩
    refine KRq KbT (KRq KbT (KRk (KLc1 (s_works _) _ rfl ?_)))
    intro w32 hb20
    have s32 := Sb hb20
    have b33 := KTk1 hb20 b32
    refine Ln ⟨s32.old, ?_⟩
    refine KRq KbT (KRq KbT (KRend (Wr (Kret KbT ?_))))
    exact ⟨rfl, b33⟩
   rw [Bool.not_eq_true] at c54
   refine KLc1 (s_may a ana anc aga agc _ ha.r.k ha.l1 ha.l2 (ha.up b20).n (ha.up b20).g) KbF (by rw [c54]) ?_
   intro w33 hb21
   have s33 := Sb hb21
   have ⟨m359, m360, m361, m362, m363, m364, m365, m366, m367, m368, m369, m370, m371, m372, b34⟩ := KTk15 hb21 m142 m143 m144 m145 m146 m147 m148 m149 m150 m151 m152 m153 m154 m155 b20
   refine Ln ⟨s33.old, ?_⟩
   refine KRk (KLc1 (r_may a ana anc aga agc _ ha.l1 ha.l2 (ha.up b34).n (ha.up b34).g) KbF (by rw [c54]) ?_)
   intro w34 hb22
   have s34 := Sb hb22
   have ⟨m373, m374, m375, m376, m377, m378, m379, m380, m381, m382, m383, m384, m385, m386, b35⟩ := KTk15 hb22 m359 m360 m361 m362 m363 m364 m365 m366 m367 m368 m369 m370 m371 m372 b34
   refine Ln ⟨s34.old, ?_⟩
   refine Rp KbT (fun v1 => Fx.x_eqlB rfl rfl rfl (by kernel_rfl) rfl) (KRq KbT (Rs (.agg (varr 20 (stY (stS a ana anc aga agc)))) (KxA m373.cel 0) ?_))
   refine Rd (v := .agg (varr 20 (stY (stS a ana anc aga agc)))) (by rfl) (by rfl) (mRf _) (fun v1 hv1 => x_loadA (x := stY (stS a ana anc aga agc)) (y := stY (stS a ana anc aga agc)) rfl rfl (by kernel_rfl) (by kernel_rfl) (m373.cel.below hv1 (by have := m373.lt; omega)) (i := 0) (by omega) (by omega) (fun j _ => by rw [Nat.zero_add])) ?_
   refine KRk (KLc (s_put a ana anc aga agc _ (ha.up b35)) ?_)
   rintro e9 w35 ⟨pa3, pc3, he, hm3, hb23⟩
   refine ⟨_, he, ?_⟩
   clear he
   have s35 := Sb hb23
   have ⟨m388, m389, m390, m391, m392, m393, m394, m395, m396, m397, m398, m399, m400, m401, b36⟩ := KTk15 hb23 m373 m374 m375 m376 m377 m378 m379 m380 m381 m382 m383 m384 m385 m386 b35
   have m387 : Fx.Own w35 w.heap.size 5 1 (.slice pa3 ((putB a).length) (pc3)) ((putB a).length) (Fx.byY (putB a)) := hm3.mono b35.size
   refine Ln ⟨s35.old, ?_⟩
   refine Rd (v := .string (Fx.strL (putB a))) (by rfl) (by rfl) (mRf _) (fun v1 hv1 => Fx.x_bstr (l := putB a) rfl rfl Try.underlying30 Try.underlying5 Try.underlying9 rfl (m387.up hv1).arr) ?_
   refine KRk (KLc (r_put a ana anc aga agc _ (ha.up b36)) ?_)
   rintro e9 w36 ⟨pa4, pc4, he, hm4, hb24⟩
   refine ⟨_, he, ?_⟩
   clear he
   have s36 := Sb hb24
   have ⟨m403, m404, m405, m406, m407, m408, m409, m410, m411, m412, m413, m414, m415, m416, b37⟩ := KTk15 hb24 m388 m389 m390 m391 m392 m393 m394 m395 m396 m397 m398 m399 m400 m401 b36
   have m402 : Fx.Own w36 w.heap.size 5 1 (.slice pa4 ((putB a).length) (pc4)) ((putB a).length) (Fx.byY (putB a)) := hm4.mono b36.size
   refine Ln ⟨s36.old, ?_⟩
   refine Rs (.string (Fx.strL (putB a))) (Fx.x_bstr (l := putB a) rfl rfl Try.underlying30 Try.underlying5 Try.underlying9 rfl m402.arr) ?_
   refine Rp KbT (fun v1 => Fx.runs_b (Fx.x_eqlS rfl rfl rfl) (decide_eq_true rfl)) (KRq KbT (KRq KbT (KRq (Ki6 e1) (KRq (Ki6 e1) (Rp KbT (fun _ => KeqT (rfl)) (KRq KbT (KRq KbT (Rs (.agg (varr 20 (stY (stS ab p1na p1nc p1ga p1gc)))) (KxA m407.cel 0) ?_))))))))
   refine Rs (.agg (varr 20 (stY (stS ab p2na p2nc p2ga p2gc)))) (KxA m410.cel 0) ?_
   refine KRk (KLc1 ((s_same ab ab p1na p1nc p1ga p1gc p2na p2nc p2ga p2gc _ (joinE_w ha.r hb.r h1 m405 m406) (joinE_w ha.r hb.r h1 m408 m409)).mono (fun e w2 h2 => (⟨by rw [h2.1, sameS_self _], h2.2⟩ : e = .returned (.bool true) ∧ Below _ _ w2))) _ rfl ?_)
   intro w37 hb25
   have s37 := Sb hb25
   have ⟨m418, m419, m426, m427, m428, m429, m430, m431, b38⟩ := KTk9 hb25 m403 m404 m411 m412 m413 m414 m415 m416 b37
   refine Ln ⟨s37.old, ?_⟩
   refine KRq KbT (KRq KbT (Rs (.agg (varr 20 (stY (stS a ana anc aga agc)))) (KxA m418.cel 0) ?_))
   refine Rs (.agg (varr 20 (stY (stS b bna bnc bga bgc)))) (KxA m419.cel 0) ?_
   refine Rd (v := .agg (varr 20 (stY (stS a ana anc aga agc)))) (by rfl) (by rfl) (mRf _) (fun v1 hv1 => x_loadA (x := stY (stS a ana anc aga agc)) (y := stY (stS a ana anc aga agc)) rfl rfl (by kernel_rfl) (by kernel_rfl) (m418.cel.below hv1 (by have := m418.lt; omega)) (i := 0) (by omega) (by omega) (fun j _ => by rw [Nat.zero_add])) ?_
   refine Rd (v := .agg (varr 20 (stY (stS b bna bnc bga bgc)))) (by rfl) (by rfl) (mRf _) (fun v1 hv1 => x_loadA (x := stY (stS b bna bnc bga bgc)) (y := stY (stS b bna bnc bga bgc)) rfl rfl (by kernel_rfl) (by kernel_rfl) (m419.cel.below hv1 (by have := m419.lt; omega)) (i := 0) (by omega) (by omega) (fun j _ => by rw [Nat.zero_add])) ?_
   refine KRk ?_
   by_cases c80 : (lessS a b) = true
   ·refine KLc1 (s_less a b ana anc aga agc bna bnc bga bgc _ (ha.up b38) (hb.up b38)) KbT (by rw [c80]) ?_
    intro w38 hb26
    have s38 := Sb hb26
    have ⟨m442, m443, m444, m445, m446, m447, b39⟩ := KTk7 hb26 m426 m427 m428 m429 m430 m431 b38
    refine Ln ⟨s38.old, ?_⟩
    refine KRk (KLc1 (r_less a b ana anc aga agc bna bnc bga bgc _ (ha.up b39) (hb.up b39)) KbT (by rw [c80]) ?_)
    intro w39 hb27
    have s39 := Sb hb27
    have ⟨m458, m459, m460, m461, m462, m463, b40⟩ := KTk7 hb27 m442 m443 m444 m445 m446 m447 b39
    refine Ln ⟨s39.old, ?_⟩
    refine Rp KbT (fun v1 => Fx.x_eqlB rfl rfl rfl (by kernel_rfl) rfl) (KRq KbT (KRq KbT (KRq (Ki6 eu) (KRq (Ki6 eu) (Rp KbT (fun _ => KeqT (rfl)) (KRq KbT (KRq KbT (Rs (.agg (varr 20 (stY (stS (getV l) p3na p3nc p3ga p3gc)))) (KxA m460.cel 0) ?_))))))))
    refine Rs (.agg (varr 20 (stY (stS (getV l) p4na p4nc p4ga p4gc)))) (KxA m463.cel 0) ?_
    refine KRk (KLc1 ((s_same (getV l) (getV l) p3na p3nc p3ga p3gc p4na p4nc p4ga p4gc _ (get_w (l := l) rfl m458 m459) (get_w (l := l) rfl m461 m462)).mono (fun e w2 h2 => (⟨by rw [h2.1, sameS_self _], h2.2⟩ : e = .returned (.bool true) ∧ Below _ _ w2))) _ rfl ?_)
    intro w40 hb28
    have s40 := Sb hb28
    have b41 := KTk1 hb28 b40
    refine Ln ⟨s40.old, ?_⟩
    refine KRq KbT (KRq KbT (KRk (KLc1 (s_works _) _ rfl ?_)))
    intro w41 hb29
    have s41 := Sb hb29
    have b42 := KTk1 hb29 b41
    refine Ln ⟨s41.old, ?_⟩
    refine KRq KbT (KRq KbT (KRend (Wr (Kret KbT ?_))))
    exact ⟨rfl, b42⟩
   rw [Bool.not_eq_true] at c80
   refine KLc1 (s_less a b ana anc aga agc bna bnc bga bgc _ (ha.up b38) (hb.up b38)) KbF (by rw [c80]) ?_
   intro w42 hb30
   have s42 := Sb hb30
   have ⟨m506, m507, m508, m509, m510, m511, b43⟩ := KTk7 hb30 m426 m427 m428 m429 m430 m431 b38
   refine Ln ⟨s42.old, ?_⟩
   refine KRk (KLc1 (r_less a b ana anc aga agc bna bnc bga bgc _ (ha.up b43) (hb.up b43)) KbF (by rw [c80]) ?_)
   intro w43 hb31
   have s43 := Sb hb31
   have ⟨m522, m523, m524, m525, m526, m527, b44⟩ := KTk7 hb31 m506 m507 m508 m509 m510 m511 b43
   refine Ln ⟨s43.old, ?_⟩
   refine Rp KbT (fun v1 => Fx.x_eqlB rfl rfl rfl (by kernel_rfl) rfl) (KRq KbT (KRq KbT (KRq (Ki6 eu) (KRq (Ki6 eu) (Rp KbT (fun _ => KeqT (rfl)) (KRq KbT (KRq KbT (Rs (.agg (varr 20 (stY (stS (getV l) p3na p3nc p3ga p3gc)))) (KxA m524.cel 0) ?_))))))))
   refine Rs (.agg (varr 20 (stY (stS (getV l) p4na p4nc p4ga p4gc)))) (KxA m527.cel 0) ?_
   refine KRk (KLc1 ((s_same (getV l) (getV l) p3na p3nc p3ga p3gc p4na p4nc p4ga p4gc _ (get_w (l := l) rfl m522 m523) (get_w (l := l) rfl m525 m526)).mono (fun e w2 h2 => (⟨by rw [h2.1, sameS_self _], h2.2⟩ : e = .returned (.bool true) ∧ Below _ _ w2))) _ rfl ?_)
   intro w44 hb32
   have s44 := Sb hb32
   have b45 := KTk1 hb32 b44
   refine Ln ⟨s44.old, ?_⟩
   refine KRq KbT (KRq KbT (KRk (KLc1 (s_works _) _ rfl ?_)))
   intro w45 hb33
   have s45 := Sb hb33
   have b46 := KTk1 hb33 b45
   refine Ln ⟨s45.old, ?_⟩
   refine KRq KbT (KRq KbT (KRend (Wr (Kret KbT ?_))))
   exact ⟨rfl, b46⟩
  rw [Bool.not_eq_true] at c20
  refine KLc1 (s_few b bna bnc bga bgc _) KbF (by rw [c20]) ?_
  intro w46 hb34
  have b47 := KTk1 hb34 b3
  refine KLq KbT (KLq KbT (KLq KbT (KLu (KLu (KLu (KLq KbT (KLe (KWcT (KWsl (KLc1 (s_works _) _ rfl ?_))))))))))
  intro w47 hb35
  have b48 := KTk1 hb35 b47
  refine KLq KbT (KLe (Wr (sR (Kret KbT ?_))))
  exact ⟨rfl, b48⟩
 rw [Bool.not_eq_true] at c16
 refine KLc1 (s_few a ana anc aga agc _) KbF (by rw [c16]) ?_
 intro w48 hb36
 have b49 := KTk1 hb36 b2
 refine KLq KbT (KLq KbT (KLu (KLu (KLu (KLq KbT (KLq KbT (KLu (KLu (KLu (KLq KbT (KLe (KWcT (KWsl (KLc1 (s_works _) _ rfl ?_))))))))))))))
 intro w49 hb37
 have b50 := KTk1 hb37 b49
 refine KLq KbT (KLe (Wr (sR (Kret KbT ?_))))
 exact ⟨rfl, b50⟩
end Go.Proofs.Ytkajcjefckjijaa
